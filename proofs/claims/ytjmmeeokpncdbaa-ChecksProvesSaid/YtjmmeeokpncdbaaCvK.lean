/-
  The C machine, eleventh part: values that leave their function's own memory.
-/
import Derived.Test.YtjmmeeokpncdbaaCvJ
set_option linter.unusedSimpArgs false
set_option linter.unusedVariables false
namespace Go.Cm

section
variable {K : KM} {Q : PM} {P : Program} {w : World}

theorem seen_gn (h : HO) (n : Nat) : (h.seen n).gn = h.gn := by cases h <;> rfl
theorem seen_cells (h : HO) (n : Nat) : (h.seen n).cells = h.cells := by cases h <;> rfl
theorem seen_isMap (h : HO) (n : Nat) : (h.seen n).isMap = h.isMap := by cases h <;> rfl
theorem seen_vl (h : HO) (n : Nat) : h.vl ≤ (h.seen n).vl := by cases h <;> simp [HO.seen, HO.vl] <;> omega
theorem seen_ge (h : HO) (n : Nat) (hm : h.isMap = false) : n ≤ (h.seen n).vl := by cases h <;> simp_all [HO.seen, HO.vl, HO.isMap] <;> omega
theorem seen_seen (h : HO) (a b : Nat) : (h.seen a).seen b = h.seen (max a b) := by cases h <;> simp [HO.seen, Nat.max_assoc]
theorem seen_zero (h : HO) : h.seen 0 = h := by cases h <;> simp [HO.seen]

/-- nothing but looks: the same objects, more of them seen -/
structure Look (K : KM) (m : Mem) (K' : KM) (m' : Mem) (Q : PM) (w : World) : Prop where
  mr : MR K' m'.get Q w
  kk : ∀ b o v, K b o = some v → K' b o = some v
  kn : ∀ b o v, K' b o = some v → K b o = some v ∨ ∃ k q, Q k = some q ∧ q.blk = b
  keep : ∀ k h, m.get k = some h → ∃ n, m'.get k = some (h.seen n)
  back : ∀ k, m.get k = none → m'.get k = none
  hh : m'.H = m.H

theorem Pres_seen (h : HO) (n : Nat) (p : Option Pl) : Pres h (h.seen n) p p :=
  ⟨fun _ h => h, fun g sz cs vl he => by subst he; exact ⟨cs, _, rfl, Nat.le_refl _⟩⟩

theorem Look.grow {K' : KM} {m m' : Mem} (h : Look K m K' m' Q w) : Grow true m.get Q m'.get Q := by
  intro k x _ hx
  obtain ⟨n, hn⟩ := h.keep k x hx
  exact ⟨_, hn, by rw [seen_gn]; exact Nat.le_refl _, fun _ => Pres_seen x n _⟩
theorem Look.refl {m : Mem} (h : MR K m.get Q w) : Look K m K m Q w :=
  ⟨h, fun _ _ _ h => h, fun _ _ _ h => .inl h, fun k x hx => ⟨0, by rw [seen_zero]; exact hx⟩, fun _ h => h, rfl⟩
theorem Look.trans {K' K'' : KM} {m m' m'' : Mem} (h : Look K m K' m' Q w) (h' : Look K' m' K'' m'' Q w) : Look K m K'' m'' Q w :=
  ⟨h'.mr, fun b o v hv => h'.kk _ _ _ (h.kk _ _ _ hv), fun b o v hv => (h'.kn b o v hv).elim (h.kn b o v) .inr,
   fun k x hx => by
    obtain ⟨n, hn⟩ := h.keep k x hx
    obtain ⟨n', hn'⟩ := h'.keep k _ hn
    exact ⟨max n n', by rw [hn', seen_seen]⟩, fun k hk => h'.back k (h.back k hk), h'.hh.trans h.hh⟩
theorem Look.V {K' : KM} {m m' : Mem} (h : Look K m K' m' Q w) {loc : Bool} {c : CV} {v : Value} (hv : V K m.get Q loc c v) : V K' m'.get Q loc c v :=
  V_mono h.kk h.grow.sub (fun h => h) (by cases loc; exact h.grow.sub; exact h.grow) c v hv
theorem Look.Vs {K' : KM} {m m' : Mem} (h : Look K m K' m' Q w) {loc : Bool} {c : List CV} {v : List Value} (hv : Vs K m.get Q loc c v) : Vs K' m'.get Q loc c v :=
  Vs_mono h.kk h.grow.sub (fun h => h) (by cases loc; exact h.grow.sub; exact h.grow) c v hv

def Kext (K : KM) (w : World) (b lo hi : Nat) : KM := fun b' o => if b' = b ∧ lo ≤ o ∧ o < hi then w.cell? ⟨b', o, none⟩ else K b' o

theorem get_set_fun (m : Mem) (k : Key) (h x : HO) (hk : m.get k = some x) : (m.set k h).get = upd m.get k h := by
  funext k'; rw [get_set m k k' h x hk]; rfl

/-- one object is looked at -/
theorem look_one {m : Mem} (h : MR K m.get Q w) {j : Nat} {x : HO} (hx : m.get (.l j) = some x) (hm : x.isMap = false) (n lo hi : Nat) (q : Option Pl)
    (hq : ∀ p, q = some p → Q (.l j) = some p ∧ p.base ≤ lo ∧ hi ≤ p.base + n) (hnone : q = none → hi ≤ lo) :
    Look K m (Kext K w ((q.map Pl.blk).getD 0) lo hi) (m.set (.l j) (x.seen n)) Q w := by
  have hkk : ∀ b o v, K b o = some v → Kext K w ((q.map Pl.blk).getD 0) lo hi b o = some v := by
    intro b o v hv
    unfold Kext
    split
    · exact h.stab b o v hv
    · exact hv
  refine ⟨?_, hkk, fun b o v hv => ?_, fun k y hy => ?_, fun k hk => ?_, rfl⟩
  · rw [get_set_fun m (.l j) (x.seen n) x hx]
    refine h.look hx (seen_gn x n) (seen_cells x n) hm (.inr ⟨n, rfl⟩) (seen_vl x n) hkk fun b o v hv => ?_
    unfold Kext at hv
    split at hv
    · rename_i hc
      obtain ⟨hb, h1, h2⟩ := hc
      cases q with
      | none => have := hnone rfl; omega
      | some p =>
        obtain ⟨hp1, hp2, hp3⟩ := hq p rfl
        simp only [Option.map_some, Option.getD_some] at hb
        subst hb
        have := seen_ge x n hm
        exact .inr ⟨p, hp1, rfl, by omega, by omega, hv⟩
    · exact .inl hv
  · unfold Kext at hv
    split at hv
    · rename_i hc
      obtain ⟨hb, h1, h2⟩ := hc
      cases q with
      | none => have := hnone rfl; omega
      | some p => exact .inr ⟨_, p, (hq p rfl).1, by simp at hb; exact hb.symm⟩
    · exact .inl hv
  · rw [get_set m (.l j) k (x.seen n) x hx]
    by_cases he : (.l j) = k
    · subst he; rw [hx] at hy; simp only [Option.some.injEq] at hy; subst hy
      exact ⟨n, by simp⟩
    · exact ⟨0, by rw [if_neg he, seen_zero]; exact hy⟩
  · rw [get_set m (.l j) k (x.seen n) x hx]
    by_cases he : (.l j) = k
    · subst he; rw [hx] at hk; cases hk
    · rw [if_neg he]; exact hk

def EscOK (K : KM) (Q : PM) (w : World) (f : CV → Mem → Option (CV × Mem)) : Prop :=
  ∀ (K : KM) (v c : CV) (m m' : Mem) (x : Value), MR K m.get Q w → V K m.get Q true v x → f v m = some (c, m') →
    ∃ K', Look K m K' m' Q w ∧ V K' m'.get Q false c x ∧ (leafV v = true → leafV c = true)

theorem mapMem_run {f : CV → Mem → Option (CV × Mem)} (hf : EscOK K Q w f) : ∀ (l cs : List CV) (K : KM) (m m' : Mem) (xs : List Value), MR K m.get Q w → Vs K m.get Q true l xs → mapMem f l m = some (cs, m') →
    ∃ K', Look K m K' m' Q w ∧ Vs K' m'.get Q false cs xs ∧ (l.all leafV = true → cs.all leafV = true) ∧ cs.length = l.length := by
  intro l
  induction l with
  | nil =>
    intro cs K m m' xs hR hV h
    simp only [mapMem, Option.some.injEq, Prod.mk.injEq] at h
    obtain ⟨rfl, rfl⟩ := h
    exact ⟨K, Look.refl hR, by simpa [Vs] using hV, fun h => h, rfl⟩
  | cons v l ih =>
    intro cs K m m' xs hR hV h
    simp only [Vs] at hV
    obtain ⟨x, r, rfl, hx, hr⟩ := hV
    simp only [mapMem] at h
    cases h1 : f v m with
    | none => simp [h1] at h
    | some a =>
      obtain ⟨c, m1⟩ := a
      simp only [h1, Option.bind_some] at h
      cases h2 : mapMem f l m1 with
      | none => simp [h2] at h
      | some b =>
        obtain ⟨cs', m2⟩ := b
        simp only [h2, Option.map_some, Option.some.injEq, Prod.mk.injEq] at h
        obtain ⟨rfl, rfl⟩ := h
        obtain ⟨K1, hl1, hc, hleaf⟩ := hf K v c m m1 x hR hx h1
        obtain ⟨K2, hl2, hcs, hall, hlen⟩ := ih cs' K1 m1 m2 r hl1.mr (hl1.Vs hr) h2
        refine ⟨K2, hl1.trans hl2, ?_, fun ha => ?_, by simp [hlen]⟩
        · simp only [Vs]; exact ⟨x, r, rfl, hl2.V hc, hcs⟩
        · simp only [List.all_cons, Bool.and_eq_true] at ha ⊢
          exact ⟨hleaf ha.1, hall ha.2⟩

theorem Vk_ext {m : Mem} {b lo : Nat} {cs : List CV} {vs : List Value} {K' : KM} (hV : Vs K' m.get Q false cs vs) (hlen : ∀ (i : Nat) (v : Value), vs[i]? = some v → K' b (lo + i) = some v) : Vk K' m.get Q b lo cs :=
  Vk_of fun i c hc => by
    obtain ⟨v, h1, h2⟩ := Vs_get hV hc
    exact ⟨v, hlen i v h1, h2⟩

theorem esc_run : ∀ (n : Nat), EscOK K Q w (esc n) := by
  intro n
  induction n with
  | zero => intro K v c m m' x _ _ h; simp [esc] at h
  | succ n ih =>
    intro K v c m m' x hR hV h
    have same : ∀ {c0 : CV}, V K m.get Q false v x → some (v, m) = some (c0, m') → ∃ K', Look K m K' m' Q w ∧ V K' m'.get Q false c0 x ∧ (leafV v = true → leafV c0 = true) := by
      intro c0 hv he
      simp only [Option.some.injEq, Prod.mk.injEq] at he
      obtain ⟨rfl, rfl⟩ := he
      exact ⟨K, Look.refl hR, hv, fun h => h⟩
    cases v
    case dead => simp [esc] at h
    case bool b => exact same (by simpa [V] using hV) (by simpa [esc] using h)
    case int k i => exact same (by simpa [V] using hV) (by simpa [esc] using h)
    case str s => exact same (by simpa [V] using hV) (by simpa [esc] using h)
    case nil => exact same (by simpa [V] using hV) (by simpa [esc] using h)
    case imm k cs => exact same (by simpa [V] using hV) (by simpa [esc] using h)
    case own => simp [esc] at h
    case pnil => exact same (by simpa [V] using hV) (by simpa [esc] using h)
    case rptr cs => exact same (by simpa [V] using hV) (by simpa [esc] using h)
    case mnil => exact same (by simpa [V] using hV) (by simpa [esc] using h)
    case nilf => exact same (by simpa [V] using hV) (by simpa [esc] using h)
    case inil => exact same (by simpa [V] using hV) (by simpa [esc] using h)
    case map k g =>
      cases k with
      | l j => simp [esc] at h
      | g j => exact same (by simpa [V, keyOK] using hV) (by simpa [esc] using h)
    case agg cs =>
      simp only [esc, Option.map_eq_some_iff, Prod.mk.injEq] at h
      obtain ⟨⟨l, m1⟩, h1, rfl, rfl⟩ := h
      simp only [V] at hV
      obtain ⟨hall, vs, rfl, hs⟩ := hV
      obtain ⟨K', hl, hs', hall', _⟩ := mapMem_run ih _ _ K _ _ _ hR hs h1
      exact ⟨K', hl, by simp only [V]; exact ⟨hall' hall, vs, rfl, hs'⟩, by simp [leafV]⟩
    case tuple cs =>
      simp only [esc, Option.map_eq_some_iff, Prod.mk.injEq] at h
      obtain ⟨⟨l, m1⟩, h1, rfl, rfl⟩ := h
      simp only [V] at hV
      obtain ⟨vs, rfl, hs⟩ := hV
      obtain ⟨K', hl, hs', _, _⟩ := mapMem_run ih _ _ K _ _ _ hR hs h1
      exact ⟨K', hl, by simp only [V]; exact ⟨vs, rfl, hs'⟩, by simp [leafV]⟩
    case iface t y =>
      simp only [esc, Option.map_eq_some_iff, Prod.mk.injEq] at h
      obtain ⟨⟨l, m1⟩, h1, rfl, rfl⟩ := h
      simp only [V] at hV
      obtain ⟨u, rfl, hu⟩ := hV
      obtain ⟨K', hl, hs', _⟩ := ih K _ _ _ _ _ hR hu h1
      exact ⟨K', hl, by simp only [V]; exact ⟨u, rfl, hs'⟩, by simp [leafV]⟩
    case func f a b =>
      simp only [esc] at h
      cases h1 : mapMem (esc n) a m with
      | none => simp [h1] at h
      | some x1 =>
        obtain ⟨l1, m1⟩ := x1
        simp only [h1, Option.bind_some, Option.map_eq_some_iff, Prod.mk.injEq] at h
        obtain ⟨⟨l2, m2⟩, h2, rfl, rfl⟩ := h
        simp only [V] at hV
        obtain ⟨xa, xb, rfl, ha, hb⟩ := hV
        obtain ⟨K1, hl1, hs1, _, _⟩ := mapMem_run ih _ _ K _ _ _ hR ha h1
        obtain ⟨K2, hl2, hs2, _, _⟩ := mapMem_run ih _ _ K1 _ _ _ hl1.mr (hl1.Vs hb) h2
        exact ⟨K2, hl1.trans hl2, by simp only [V]; exact ⟨xa, xb, rfl, hl2.Vs hs1, hs2⟩, by simp [leafV]⟩
    case ref k gn off len =>
      cases k with
      | g j => exact same (by simpa [V, keyOK] using hV) (by simpa [esc] using h)
      | l j =>
        simp only [esc] at h
        split at h
        · rename_i g sz cs vl hget
          split at h
          · rename_i hg
            subst hg
            simp only [Option.some.injEq, Prod.mk.injEq] at h
            obtain ⟨rfl, rfl⟩ := h
            have hget' : m.get (.l j) = some (.arr g sz cs vl) := hget
            simp only [V] at hV
            obtain ⟨_, y, a, cap, hy, _, rfl, hcap, hsome, hra⟩ := hV
            rw [hget'] at hy; simp only [Option.some.injEq] at hy; subst hy
            obtain ⟨sz', cs', vl', he, hra⟩ := hra rfl
            simp only [HO.arr.injEq] at he
            obtain ⟨_, rfl, rfl, rfl⟩ := he
            rcases hra with hz | ⟨q, hq, rfl, hb1, hb2⟩
            · have hl0 : len = 0 := by omega
              subst hl0
              refine ⟨_, look_one hR hget' rfl (off + 0 * sz) 0 0 none (by simp) (fun _ => Nat.le_refl _), ?_, fun _ => rfl⟩
              simp only [V]
              exact ⟨by simp, a, cap, rfl, by omega, .inl (by simp)⟩
            · have hlk := look_one hR hget' rfl (off + len * sz) (q.base + off) (q.base + off + len * sz) (some q) (fun p hp => by
                simp only [Option.some.injEq] at hp; subst hp; exact ⟨hq, by omega, by omega⟩) (by simp)
              refine ⟨_, hlk, ?_, fun _ => rfl⟩
              obtain ⟨⟨es, t, h1, h2, h3⟩, h4, _⟩ := hR.objs _ _ hget' q hq
              simp only [HO.cells] at h3 h4
              simp only [V]
              refine ⟨List.all_eq_true.2 fun y hy => ?_, _, cap, rfl, hcap, .inr ⟨q.blk, q.base + off, rfl, ?_⟩⟩
              · obtain ⟨i, hi⟩ := List.getElem?_of_mem (List.mem_of_mem_drop (List.mem_of_mem_take hy))
                exact (h3 i y hi).1
              · refine Vk_of fun i y hy => ?_
                rw [List.getElem?_take] at hy
                split at hy
                · rename_i hi
                  rw [List.getElem?_drop] at hy
                  obtain ⟨_, u, hu, hVu⟩ := h3 _ _ hy
                  refine ⟨u, ?_, hlk.V hVu⟩
                  simp only [Kext, Option.map_some, Option.getD_some]
                  rw [if_pos ⟨trivial, by omega, by omega⟩, row_cell h1, show q.base + off + i = q.base + (off + i) from by omega]
                  exact hu
                · simp at hy
          · simp at h
        · simp at h
    case ptr k gn off =>
      cases k with
      | g j => exact same (by simpa [V, keyOK] using hV) (by simpa [esc] using h)
      | l j =>
        simp only [esc] at h
        split at h
        · rename_i y hget
          have hget' : m.get (.l j) = some y := hget
          split at h
          · rename_i hg
            obtain ⟨hg, hmap, ho⟩ := hg
            cases h1 : mapMem (esc n) (y.cells.drop off) m with
            | none => simp [h1] at h
            | some x1 =>
              obtain ⟨l1, m1⟩ := x1
              simp only [h1, Option.bind_some] at h
              split at h
              · rename_i y' hget1
                have hget1' : m1.get (.l j) = some y' := hget1
                simp only [Option.some.injEq, Prod.mk.injEq] at h
                obtain ⟨rfl, rfl⟩ := h
                simp only [V] at hV
                obtain ⟨_, z, a, hz, _, rfl, hpl⟩ := hV
                rw [hget'] at hz; simp only [Option.some.injEq] at hz; subst hz
                obtain ⟨q, hq, rfl⟩ := hpl hg.symm
                have hok := hR.objs _ _ hget' q hq
                have hcell : CellsOK K m.get Q w (flag (.l j) y) y.cells y.vl q := by cases y <;> simp_all [HO.isMap]
                obtain ⟨⟨es, t, e1, e2, e3⟩, e4, _⟩ := hcell
                -- the values at these cells
                have hvs : ∃ vs : List Value, Vs K m.get Q true (y.cells.drop off) vs ∧ (y.cells.drop off).all leafV = true ∧ ∀ (i : Nat) (u : Value), vs[i]? = some u → w.cell? ⟨q.blk, q.base + off + i, none⟩ = some u := by
                  have := cellsAt_run (p := .ptr (.l j) gn off) (n := (y.cells.drop off).length) (v := .pointer (some ⟨q.blk, q.base + off, none⟩)) (cs := y.cells.drop off) hR
                    (by simp only [V]; exact ⟨rfl, y, _, hget', by omega, rfl, fun _ => ⟨q, hq, rfl⟩⟩)
                    (by
                      simp only [cellsAt, hget', hg, hmap]
                      rw [if_pos ⟨trivial, trivial, by simp; omega⟩, List.take_of_length_le (by simp)])
                  obtain ⟨b, o, vs, hb, hl, hall, hVs, hc⟩ := this
                  simp only [Value.pointer.injEq, Option.some.injEq, Addr.mk.injEq] at hb
                  obtain ⟨rfl, rfl, _⟩ := hb
                  exact ⟨vs, hVs, hall, hc⟩
                obtain ⟨vs, hVs, hall, hcell⟩ := hvs
                obtain ⟨K1, hl1, hs1, hall1, hlen1⟩ := mapMem_run ih _ _ K _ _ _ hR hVs h1
                obtain ⟨nn, hnn⟩ := hl1.keep _ _ hget'
                rw [hget1'] at hnn; simp only [Option.some.injEq] at hnn; subst hnn
                have hlk := look_one hl1.mr hget1' (by rw [seen_isMap]; exact hmap) y.cells.length (q.base + off) (q.base + y.cells.length) (some q) (fun p hp => by
                  simp only [Option.some.injEq] at hp; subst hp; exact ⟨hq, by omega, by omega⟩) (by simp)
                refine ⟨_, hl1.trans hlk, ?_, fun _ => rfl⟩
                simp only [V]
                refine ⟨hall1 hall, q.blk, q.base + off, rfl, Vk_ext (hlk.Vs hs1) fun i u hu => ?_⟩
                have hi : i < vs.length := (List.getElem?_eq_some_iff.1 hu).1
                have hlen := Vs_length hVs
                simp only [List.length_drop] at hlen
                simp only [Kext, Option.map_some, Option.getD_some]
                rw [if_pos ⟨trivial, by omega, by omega⟩]
                exact hcell i u hu
              · simp at h
          · simp at h
        · simp at h
end
end Go.Cm
