/-
  The C machine, twelfth part: new objects; rows that grow; cells that are written.
-/
import Derived.Test.YtjmmeeokpncdbaaCvK
import Derived.Laws.MakeOwn
import Derived.Laws.CopyRow
set_option linter.unusedSimpArgs false
set_option linter.unusedVariables false
namespace Go.Cm

/-- what no step touches -/
structure Kept (w w' : World) : Prop where
  os : w'.os = w.os
  out : w'.output = w.output
  fz : ∀ a, w'.frozen? a = w.frozen? a
theorem Kept.refl (w : World) : Kept w w := ⟨rfl, rfl, fun _ => rfl⟩
theorem Kept.trans {w w' w'' : World} (h : Kept w w') (h' : Kept w' w'') : Kept w w'' := ⟨h'.os.trans h.os, h'.out.trans h.out, fun a => (h'.fz a).trans (h.fz a)⟩
theorem Kept.same {w w' : World} (h : w'.heap = w.heap) (ho : w'.os = w.os) (hp : w'.output = w.output) : Kept w w' := ⟨ho, hp, fun a => by simp [World.frozen?, h]⟩
/-- a new block -/
def Pushed (w w' : World) (o : Obj) : Prop := w'.heap = w.heap.push o ∧ w'.os = w.os ∧ w'.output = w.output
theorem Pushed.kept {w w' : World} {o : Obj} (h : Pushed w w' o) (ho : (∃ es t, o = .cells es t (0, 0)) ∨ ∃ xs c, o = .map xs c) : Kept w w' := by
  refine ⟨h.2.1, h.2.2, fun a => ?_⟩
  by_cases he : a.block = w.heap.size
  · have e1 : w'.heap[a.block]? = some o := by rw [h.1, he]; simp
    have e2 : w.heap[a.block]? = none := by rw [he]; simp
    simp only [World.frozen?, e1, e2]
    rcases ho with ⟨es, t, rfl⟩ | ⟨xs, c, rfl⟩ <;> simp
  · have e1 : w'.heap[a.block]? = w.heap[a.block]? := by rw [h.1, Array.getElem?_push, if_neg he]
    simp only [World.frozen?, e1]

/-- a step: what became of Go's memory, and of what the machine says of it -/
structure Trans (K : KM) (m : Mem) (Q : PM) (w : World) (K' : KM) (m' : Mem) (Q' : PM) (w' : World) : Prop where
  mr : MR K' m'.get Q' w'
  kk : ∀ b o v, K b o = some v → K' b o = some v
  grow : Grow true m.get Q m'.get Q'
  size : w.heap.size ≤ w'.heap.size
  frame : ∀ b, b < w.heap.size → (∀ k q, Q k = some q → q.blk ≠ b) → w'.heap[b]? = w.heap[b]?
  kn : ∀ b o v, K' b o = some v → K b o = some v ∨ (∃ k q, Q k = some q ∧ q.blk = b) ∨ w.heap.size ≤ b
  pn : ∀ k q, Q' k = some q → (∃ q0, Q k = some q0 ∧ q0.blk = q.blk) ∨ (w.heap.size ≤ q.blk ∧ ∀ h, m.get k = some h → ∃ h', m'.get k = some h' ∧ h.gn < h'.gn)
  io : Kept w w'

section
variable {K K' K'' : KM} {Q Q' Q'' : PM} {P : Program} {w w' w'' : World} {m m' m'' : Mem}

theorem Grow.trans {loc : Bool} {M M' M'' : MM} (h : Grow loc M Q M' Q') (h' : Grow loc M' Q' M'' Q'') : Grow loc M Q M'' Q'' := by
  intro k x hk hx
  obtain ⟨x', hx', hle, hp⟩ := h k x hk hx
  obtain ⟨x'', hx'', hle', hp'⟩ := h' k x' hk hx'
  refine ⟨x'', hx'', by omega, fun he => ?_⟩
  obtain ⟨a1, a2⟩ := hp (by omega)
  obtain ⟨b1, b2⟩ := hp' (by omega)
  refine ⟨fun q hq => b1 q (a1 q hq), fun g sz cs vl hh => ?_⟩
  obtain ⟨cs', vl', h1, h2⟩ := a2 _ _ _ _ hh
  obtain ⟨cs'', vl'', h3, h4⟩ := b2 _ _ _ _ h1
  exact ⟨cs'', vl'', h3, by omega⟩

theorem Trans.refl (h : MR K m.get Q w) : Trans K m Q w K m Q w :=
  ⟨h, fun _ _ _ h => h, Grow.refl _ _ _, Nat.le_refl _, fun _ _ _ => rfl, fun _ _ _ h => .inl h, fun k q h => .inl ⟨q, h, rfl⟩, Kept.refl w⟩
theorem Look.toTrans (h : Look K m K' m' Q w) : Trans K m Q w K' m' Q w :=
  ⟨h.mr, h.kk, h.grow, Nat.le_refl _, fun _ _ _ => rfl, fun b o v hv => (h.kn b o v hv).imp id .inl, fun k q h => .inl ⟨q, h, rfl⟩, Kept.refl w⟩
theorem Trans.trans (h : Trans K m Q w K' m' Q' w') (h' : Trans K' m' Q' w' K'' m'' Q'' w'') : Trans K m Q w K'' m'' Q'' w'' := by
  refine ⟨h'.mr, fun b o v hv => h'.kk _ _ _ (h.kk _ _ _ hv), h.grow.trans h'.grow, Nat.le_trans h.size h'.size, fun b hb hne => ?_, fun b o v hv => ?_, fun k q hq => ?_, h.io.trans h'.io⟩
  · rw [h'.frame b (Nat.lt_of_lt_of_le hb h.size) fun k q hq he => ?_, h.frame b hb hne]
    rcases h.pn k q hq with ⟨q0, h0, he0⟩ | ⟨hge, _⟩
    · exact hne k q0 h0 (by omega)
    · omega
  · rcases h'.kn b o v hv with h1 | ⟨k, q, hq, he⟩ | h1
    · exact h.kn b o v h1
    · rcases h.pn k q hq with ⟨q0, h0, he0⟩ | ⟨hge, _⟩
      · exact .inr (.inl ⟨k, q0, h0, by omega⟩)
      · exact .inr (.inr (by omega))
    · exact .inr (.inr (Nat.le_trans h.size h1))
  · have hk : keyOK true k := by cases k <;> simp [keyOK]
    rcases h'.pn k q hq with ⟨q0, h0, he⟩ | ⟨hge, hgn⟩
    · rcases h.pn k q0 h0 with ⟨q1, h1, he1⟩ | ⟨hge, hgn⟩
      · exact .inl ⟨q1, h1, by omega⟩
      · refine .inr ⟨by omega, fun x hx => ?_⟩
        obtain ⟨x', hx', hlt⟩ := hgn x hx
        obtain ⟨x'', hx'', hle, _⟩ := h'.grow k x' hk hx'
        exact ⟨x'', hx'', by omega⟩
    · refine .inr ⟨Nat.le_trans h.size hge, fun x hx => ?_⟩
      obtain ⟨x', hx', hle, _⟩ := h.grow k x hk hx
      obtain ⟨x'', hx'', hlt⟩ := hgn x' hx'
      exact ⟨x'', hx'', by omega⟩
theorem Trans.same (h : Trans K m Q w K' m' Q' w') (hw : w''.heap = w'.heap) (ho : w''.os = w'.os) (hp : w''.output = w'.output) : Trans K m Q w K' m' Q' w'' :=
  ⟨h.mr.same hw, h.kk, h.grow, by rw [hw]; exact h.size, fun b hb hne => by rw [hw]; exact h.frame b hb hne, h.kn, h.pn, h.io.trans (Kept.same hw ho hp)⟩
theorem Trans.V (h : Trans K m Q w K' m' Q' w') {loc : Bool} {c : CV} {v : Value} (hv : V K m.get Q loc c v) : V K' m'.get Q' loc c v :=
  V_mono h.kk h.grow.sub (fun h => h) (by cases loc; exact h.grow.sub; exact h.grow) c v hv
theorem Trans.Vs (h : Trans K m Q w K' m' Q' w') {loc : Bool} {c : List CV} {v : List Value} (hv : Vs K m.get Q loc c v) : Vs K' m'.get Q' loc c v :=
  Vs_mono h.kk h.grow.sub (fun h => h) (by cases loc; exact h.grow.sub; exact h.grow) c v hv

theorem Trans.pn' (hT : Trans K m Q w K' m' Q' w') {M3 : MM} {Q3 : PM} (hG : Grow true m'.get Q' M3 Q3) {k : Key} {q : Pl} (hq : Q' k = some q) :
    (∃ q0, Q k = some q0 ∧ q0.blk = q.blk) ∨ (w.heap.size ≤ q.blk ∧ ∀ h, m.get k = some h → ∃ h', M3 k = some h' ∧ h.gn < h'.gn) := by
  have hk : keyOK true k := by cases k <;> simp [keyOK]
  rcases hT.pn k q hq with h | ⟨h1, h2⟩
  · exact .inl h
  · refine .inr ⟨h1, fun x hx => ?_⟩
    obtain ⟨x', hx', hlt⟩ := h2 x hx
    obtain ⟨x'', hx'', hle, _⟩ := hG k x' hk hx'
    exact ⟨x'', hx'', by omega⟩
theorem Trans.gen (hT : Trans K m Q w K' m' Q' w') {k : Key} {h : HO} (hh : m.get k = some h) {n : Nat} (hn : ∀ y, m'.get k = some y → y.gn < n) : h.gn < n := by
  have hk : keyOK true k := by cases k <;> simp [keyOK]
  obtain ⟨x', hx', hle, _⟩ := hT.grow k h hk hh
  have := hn _ hx'
  omega

/-- a new key -/
theorem add_spec (m : Mem) (glob : Bool) (j : Nat) (mk : Nat → HO) (hg : ∀ g, (mk g).gn = g) :
    (m.add glob j mk).2.2.get = upd m.get (m.add glob j mk).1 (mk (m.add glob j mk).2.1) ∧ ∀ y, m.get (m.add glob j mk).1 = some y → y.gn < (m.add glob j mk).2.1 := by
  unfold Mem.add
  cases glob
  · simp only [Bool.false_eq_true, if_false]
    refine ⟨?_, fun y hy => ?_⟩
    · funext k
      cases k with
      | l i => simp [Mem.get, upd, lget_lset]
      | g n => simp [Mem.get, upd]
    · simp only [Mem.get] at hy
      simp [hy]
  · simp only [if_true]
    refine ⟨?_, fun y hy => ?_⟩
    · funext k
      cases k with
      | l i => simp [Mem.get, upd]
      | g n =>
        simp only [Mem.get, upd, List.getElem?_append]
        by_cases hn : n < m.H.length
        · have : m.H.length ≠ n := by omega
          simp [hn, this]
        · by_cases he : m.H.length = n
          · subst he; simp
          · have : n - m.H.length ≠ 0 := by omega
            simp only [hn, if_false, he, Key.g.injEq]
            rw [List.getElem?_eq_none (by simp; omega), List.getElem?_eq_none (by omega)]
    · simp [Mem.get] at hy

/-- a new object in a new block -/
theorem new_cells (hR : MR K m.get Q w) (glob : Bool) (j : Nat) (mk : Nat → HO) (hg : ∀ g, (mk g).gn = g) (hm : ∀ g, (mk g).isMap = false) (hv0 : ∀ g, (mk g).vl = 0)
    {cs : List CV} (hcs : ∀ g, (mk g).cells = cs) {es : Array Value} {t : TypeId} (hall : cs.all leafV = true) (loc : Bool) (hloc : ∀ g, loc = true → flag (m.add glob j mk).1 (mk g) = true)
    {vs : List Value} (hV : Vs K m.get Q loc cs vs) (hpre : ∀ (i : Nat) (v : Value), vs[i]? = some v → es[i]? = some v) (hw : Pushed w w' (.cells es t (0, 0))) :
    ∃ Q', Trans K m Q w K (m.add glob j mk).2.2 Q' w' ∧ Q' (m.add glob j mk).1 = some ⟨w.heap.size, 0, es.size⟩ := by
  obtain ⟨hget, hgen⟩ := add_spec m glob j mk hg
  generalize hk : (m.add glob j mk).1 = key at *
  generalize hgn : (m.add glob j mk).2.1 = gn at *
  generalize hm2 : (m.add glob j mk).2.2 = m2 at *
  have hlen := Vs_length hV
  have hsz : w'.heap.size = w.heap.size + 1 := by rw [hw.1]; simp
  have hGrow : Grow true m.get Q (upd m.get key (mk gn)) (updP Q key (some ⟨w.heap.size, 0, es.size⟩)) :=
    Grow.upd fun y hy => by rw [hg]; exact ⟨Nat.le_of_lt (hgen y hy), fun he => absurd he (Nat.ne_of_lt (hgen y hy))⟩
  have hold : ∀ b, b < w.heap.size → w'.heap[b]? = w.heap[b]? := fun b hb => by rw [hw.1, Array.getElem?_push]; rw [if_neg (by omega)]
  have hmove : MR K (upd m.get key (mk gn)) (updP Q key (some ⟨w.heap.size, 0, es.size⟩)) w' := by
    refine hR.move (fun y hy => by rw [hg]; exact hgen y hy) hold (by omega) (fun p hp => by simp only [Option.some.injEq] at hp; subst hp; exact ⟨Nat.le_refl _, by show w.heap.size < w'.heap.size; omega⟩) ?_
    intro q hq
    simp only [updP, if_true, Option.some.injEq] at hq
    subst hq
    have hres : CellsOK K (upd m.get key (mk gn)) (updP Q key (some ⟨w.heap.size, 0, es.size⟩)) w' (flag key (mk gn)) (mk gn).cells (mk gn).vl ⟨w.heap.size, 0, es.size⟩ := by
      refine ⟨⟨es, t, by rw [hw.1]; simp, rfl, fun i c hc => ?_⟩, ?_, fun o _ => ?_⟩
      · rw [hcs] at hc
        obtain ⟨v, h1, h2⟩ := Vs_get hV hc
        refine ⟨List.all_eq_true.1 hall c (List.mem_of_getElem? hc), v, by simpa using hpre i v h1, ?_⟩
        refine V_mono (fun _ _ _ h => h) hGrow.sub (fun h => hloc gn h) ?_ c v h2
        cases loc
        · exact hGrow.sub
        · exact hGrow
      · rw [hcs]
        simp only [Nat.zero_add]
        cases hvs : vs.length with
        | zero => omega
        | succ n =>
          have : vs[n]? = some vs[n] := by simp [hvs]
          have := hpre n _ this
          have := (Array.getElem?_eq_some_iff.1 this).1
          omega
      · cases hk' : K w.heap.size o with
        | none => rfl
        | some v =>
          have := World.block_lt_of_cell? _ _ (hR.stab _ _ _ hk')
          simp at this
    have := hm gn
    cases hh : mk gn <;> rw [hh] at hres this <;> first | exact hres | simp [HO.isMap] at this
  refine ⟨updP Q key (some ⟨w.heap.size, 0, es.size⟩), ⟨?_, fun _ _ _ h => h, ?_, by omega, fun b hb _ => hold b hb, fun _ _ _ h => .inl h, fun k q hq => ?_, hw.kept (.inl ⟨_, _, rfl⟩)⟩, by simp [updP]⟩
  · rw [hget]; exact hmove
  · rw [hget]; exact hGrow
  · simp only [updP] at hq
    split at hq
    · rename_i he; subst he
      simp only [Option.some.injEq] at hq; subst hq; exact .inr ⟨Nat.le_refl _, fun h hh => ⟨mk gn, by rw [hget]; simp [upd], by rw [hg]; exact hgen h hh⟩⟩
    · exact .inl ⟨q, hq, rfl⟩

theorem new_ptr (hT : Trans K m Q w K (m'') Q' w') {key : Key} {h : HO} (hget : m''.get key = some h) {n : Nat} (hq : Q' key = some ⟨w.heap.size, 0, n⟩) :
    Vt K m'' Q' (.ptr key h.gn 0) (.pointer (some ⟨w.heap.size, 0, none⟩)) := by
  simp only [Vt, V]
  exact ⟨by cases key <;> simp [keyOK], h, _, hget, Nat.le_refl _, rfl, fun _ => ⟨_, hq, rfl⟩⟩
theorem new_ref {key : Key} {g sz vl : Nat} {cs : List CV} (hget : m''.get key = some (.arr g sz cs vl)) {q : Pl} (hq : Q' key = some q) {len cap : Nat} (hl : len ≤ cap) (hc : q.base + cap * sz ≤ q.bsz) (hn : len * sz ≤ cs.length) :
    Vt K m'' Q' (.ref key g 0 len) (.slice (some ⟨q.blk, q.base, none⟩) len cap) := by
  simp only [Vt, V]
  exact ⟨by cases key <;> simp [keyOK], _, _, cap, hget, Nat.le_refl _, rfl, hl, .inr rfl, fun _ => ⟨sz, cs, vl, rfl, .inr ⟨q, hq, by simp, by omega, by omega⟩⟩⟩

/-- what a slice holds, in Go -/
theorem content_run (hR : MR K m.get Q w) {sz n : Nat} {x : CV} {ys : List CV} {v : Value} (hv : Vt K m Q x v) (h : content m sz x = some ys) (hn : clen x = some n) :
    ∃ news a cap, v = .slice a n cap ∧ Vs K m.get Q false ys news ∧ ys.all leafV = true ∧ news.length = n * sz ∧
      ∀ w', w'.heap = w.heap → ∀ k, k ≤ n → (Builtin.firstCells sz k v).run P w' = .ok (news.take (k * sz)).toArray w' := by
  have fromCells : ∀ (b o cap : Nat) (news : List Value), news.length = n * sz → (∀ (i : Nat) (u : Value), news[i]? = some u → w.cell? ⟨b, o + i, none⟩ = some u) →
      ∀ w', w'.heap = w.heap → ∀ k, k ≤ n → (Builtin.firstCells sz k (.slice (some ⟨b, o, none⟩) n cap)).run P w' = .ok (news.take (k * sz)).toArray w' := by
    intro b o cap news hl hc w' hw k hk
    have hle : k * sz ≤ n * sz := Nat.mul_le_mul_right _ hk
    refine run_firstCells_some w' sz k ⟨b, o, none⟩ n cap (news.take (k * sz)) (by simp; omega) fun j u hu => ?_
    rw [List.getElem?_take] at hu
    split at hu
    · rw [addr_add, cell?_of_heap (w := w) (by rw [hw])]; exact hc j u hu
    · simp at hu
  have none0 : ∀ (cap : Nat) w', w'.heap = w.heap → ∀ a : Option Addr, ∀ k, k ≤ 0 → (Builtin.firstCells sz k (.slice a 0 cap)).run P w' = .ok ((([] : List Value).take (k * sz)).toArray) w' := by
    intro cap w' _ a k hk
    have : k = 0 := by omega
    subst this
    cases a <;> simp [Builtin.firstCells, loadCells, loadCellsFrom]
  unfold content at h
  split at h
  · simp only [Option.some.injEq] at h; subst h
    simp only [clen, Option.some.injEq] at hn; subst hn
    simp only [Vt, V] at hv; subst hv
    exact ⟨[], none, 0, rfl, by simp [Vs], by simp, by simp, fun w' hw k hk => none0 0 w' hw none k hk⟩
  · rename_i n' cs
    split at h
    · rename_i hlen
      simp only [Option.some.injEq] at h; subst h
      simp only [clen, Option.some.injEq] at hn; subst hn
      simp only [Vt, V] at hv
      obtain ⟨hall, a, cap, rfl, hcap, hc⟩ := hv
      rcases hc with rfl | ⟨b, o, rfl, hk⟩
      · by_cases hz : n' = 0
        · subst hz
          exact ⟨[], a, cap, rfl, by simp [Vs], by simp, by simp, fun w' hw k hk => none0 cap w' hw a k hk⟩
        · have hsz : sz = 0 := by
            simp only [List.length_nil] at hlen
            rcases Nat.mul_eq_zero.1 hlen.symm with h | h
            · exact absurd h hz
            · exact h
          subst hsz
          refine ⟨[], a, cap, rfl, by simp [Vs], by simp, by simp, fun w' _ k _ => ?_⟩
          cases a <;> simp [Builtin.firstCells, loadCells, loadCellsFrom]
      · obtain ⟨vs, h1, h2, h3⟩ : ∃ vs : List Value, vs.length = cs.length ∧ Vs K m.get Q false cs vs ∧ ∀ (i : Nat) (u : Value), vs[i]? = some u → w.cell? ⟨b, o + i, none⟩ = some u := by
          clear hall hlen
          induction cs generalizing o with
          | nil => exact ⟨[], rfl, by simp [Vs], by simp⟩
          | cons c cs ih =>
            simp only [Vk] at hk
            obtain ⟨⟨u, hu, hVu⟩, hr⟩ := hk
            obtain ⟨vs, h1, h2, h3⟩ := ih (o + 1) hr
            refine ⟨u :: vs, by simp [h1], by simp only [Vs]; exact ⟨u, vs, rfl, hVu, h2⟩, fun i x hx => ?_⟩
            cases i with
            | zero => simp at hx; subst hx; simpa using hR.stab _ _ _ hu
            | succ i => simp at hx; rw [show o + (i + 1) = o + 1 + i from by omega]; exact h3 i x hx
        exact ⟨vs, _, cap, rfl, h2, hall, by omega, fromCells b o cap vs (by omega) h3⟩
    · simp at h
  · rename_i k gn off len
    split at h
    · rename_i g s cs vl hget
      split at h
      · rename_i hg
        obtain ⟨rfl, rfl⟩ := hg
        simp only [Option.some.injEq] at h; subst h
        simp only [clen, Option.some.injEq] at hn; subst hn
        simp only [Vt, V] at hv
        obtain ⟨hk, y, a, cap, hy, _, rfl, hcap, _, hra⟩ := hv
        rw [hget] at hy; simp only [Option.some.injEq] at hy; subst hy
        obtain ⟨sz', cs', vl', he, hra⟩ := hra rfl
        simp only [HO.arr.injEq] at he
        obtain ⟨_, rfl, rfl, rfl⟩ := he
        rcases hra with hz | ⟨q, hq, rfl, hb1, hb2⟩
        · have : len = 0 := by omega
          subst this
          refine ⟨[], a, cap, rfl, by simp [Vs], by simp, by simp, fun w' hw k hk => none0 cap w' hw a k hk⟩
        · obtain ⟨⟨es, t, h1, h2, h3⟩, h4, _⟩ := hR.objs _ _ hget q hq
          simp only [HO.cells] at h3 h4
          have hflag : flag k (.arr g s cs vl) = false := by cases k <;> rfl
          rw [hflag] at h3
          have hsub : ∀ (i : Nat) (c : CV), ((cs.drop off).take (len * s))[i]? = some c → i < len * s ∧ cs[off + i]? = some c := by
            intro i c hc
            rw [List.getElem?_take] at hc
            split at hc
            · rw [List.getElem?_drop] at hc; exact ⟨by assumption, hc⟩
            · simp at hc
          refine ⟨(List.range (len * s)).map fun i => (es[q.base + (off + i)]?).getD default, _, cap, rfl, ?_, ?_, by simp, ?_⟩
          · refine Vs_of (by simp; omega) fun i c hc => ?_
            obtain ⟨hi, hci⟩ := hsub i c hc
            obtain ⟨_, u, hu, hVu⟩ := h3 _ _ hci
            exact ⟨u, by simp [hi, hu], hVu⟩
          · refine List.all_eq_true.2 fun c hc => ?_
            obtain ⟨i, hi⟩ := List.getElem?_of_mem hc
            exact (h3 _ _ (hsub i c hi).2).1
          · refine fromCells _ _ cap _ (by simp) fun i u hu => ?_
            simp only [List.getElem?_map, Option.map_eq_some_iff] at hu
            obtain ⟨i', hi', rfl⟩ := hu
            obtain ⟨hlt, he⟩ := List.getElem?_eq_some_iff.1 hi'
            simp only [List.getElem_range] at he
            subst he
            simp only [List.length_range] at hlt
            rw [row_cell h1, show q.base + off + i = q.base + (off + i) from by omega]
            have hb : q.base + (off + i) < es.size := by omega
            simp [hb]
      · simp at h
    · simp at h
  · simp at h
end
end Go.Cm
