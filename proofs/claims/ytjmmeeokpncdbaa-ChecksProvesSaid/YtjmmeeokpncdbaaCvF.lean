/-
  The C machine, sixth part: operations that only answer a value do in Go what they do on the machine.
-/
import Derived.Test.YtjmmeeokpncdbaaCvE
import Derived.Laws.Entries
import Derived.Laws.Slices
set_option linter.unusedSimpArgs false
set_option linter.unusedVariables false
namespace Go.Cm

section
variable {P : Program} {w : World}

theorem run_tsize {t : TypeId} {n : Nat} (h : tsize P t = some n) : (sizeOf t).run P w = .ok n w := by
  unfold tsize at h
  cases hi : P.info? t with
  | none => simp [hi] at h
  | some i => simp [hi] at h; simp [sizeOf, typeInfo, hi, h]
theorem run_tunder {t : TypeId} {d : TypeDesc} (h : P.underlying t = some d) : (underlying t).run P w = .ok d w := by
  simp [underlying, h]
theorem run_tagg {t : TypeId} {b : Bool} (h : tagg P t = some b) : (isAgg t).run P w = .ok b w := by
  unfold tagg at h
  cases hi : P.underlying t with
  | none => simp [hi] at h
  | some d => cases d <;> simp [hi] at h <;> simp [isAgg, underlying, hi, h]
theorem run_telem {t e : TypeId} (h : telem P t = some e) : P.underlying t = some (.slice e) := by
  unfold telem at h; split at h <;> simp_all
theorem run_tarr {t e : TypeId} {n : Nat} (h : tarr P t = some (n, e)) : P.underlying t = some (.array n e) := by
  unfold tarr at h; split at h <;> simp_all
theorem run_tmap {t k e : TypeId} (h : tmap P t = some (k, e)) : P.underlying t = some (.map k e) := by
  unfold tmap at h; split at h <;> simp_all
theorem run_tfield {t : TypeId} {f off : Nat} {ft : TypeId} (h : tfield P t f = some (off, ft)) :
    ∃ fs x, P.underlying t = some (.struct fs) ∧ fs[f]? = some x ∧ x.offset = off ∧ x.type = ft := by
  unfold tfield at h
  split at h
  · rename_i fs hu
    cases hx : fs[f]? with
    | none => simp [hx] at h
    | some x => simp [hx] at h; exact ⟨fs, x, hu, hx, h.1, h.2⟩
  · simp at h
end

section
variable {K : KM} {M : MM} {Q : PM}
theorem V_leaf {loc : Bool} (v : Value) : V K M Q loc (ofLeaf v) v := by
  unfold ofLeaf
  split <;> simp [V]
theorem Vs_leaf {loc : Bool} : ∀ (vs : List Value), Vs K M Q loc (vs.map ofLeaf) vs
  | [] => by simp [Vs]
  | v :: vs => by simp only [List.map_cons, Vs]; exact ⟨v, vs, rfl, V_leaf v, Vs_leaf vs⟩
theorem V_ofV {loc : Bool} (v : Value) (h : ∀ cs, ofV v = .agg cs → cs.all leafV = true) : V K M Q loc (ofV v) v := by
  cases v with
  | agg cs => simp only [ofV, V]; exact ⟨h _ rfl, cs, rfl, Vs_leaf _⟩
  | _ => simp only [ofV]; exact V_leaf _

/-- a value's cells are a value's cells -/
theorem ccells_V {loc : Bool} {c : CV} {cs : List CV} {v : Value} (hc : ccells c = some cs) (h : V K M Q loc c v) :
    cs.all leafV = true ∧ Vs K M Q loc cs v.cells.toList := by
  cases c <;> simp only [ccells, Option.some.injEq, reduceCtorEq] at hc
  case agg l =>
    subst hc
    simp only [V] at h
    obtain ⟨h0, vs, rfl, hs⟩ := h
    exact ⟨h0, hs⟩
  all_goals
    subst hc
    refine ⟨by simp [leafV], ?_⟩
    have hv : v.cells = #[v] := by
      simp only [V] at h
      first
        | (subst h; rfl)
        | (obtain ⟨_, _, _, h, _⟩ := h; subst h; rfl)
        | (obtain ⟨_, _, _, _, _, _, h, _⟩ := h; subst h; rfl)
        | (obtain ⟨_, _, _, _, _, h, _⟩ := h; subst h; rfl)
        | (obtain ⟨_, _, h, _⟩ := h; subst h; rfl)
        | (obtain ⟨_, h, _⟩ := h; subst h; rfl)
    rw [hv]
    simp only [Vs]
    exact ⟨v, [], rfl, h, rfl⟩
theorem leaf_one {loc : Bool} {c : CV} {v : Value} (hl : leafV c = true) (h : V K M Q loc c v) : v.oneCell' = true := by
  cases c <;> simp only [leafV, reduceCtorEq, Bool.false_eq_true] at hl
  all_goals
    simp only [V] at h
    first
      | (subst h; rfl)
      | (obtain ⟨_, _, _, h, _⟩ := h; subst h; rfl)
      | (obtain ⟨_, _, _, _, _, _, h, _⟩ := h; subst h; rfl)
      | (obtain ⟨_, _, _, _, _, h, _⟩ := h; subst h; rfl)
      | (obtain ⟨_, _, h, _⟩ := h; subst h; rfl)
      | (obtain ⟨_, h, _⟩ := h; subst h; rfl)

theorem run_tzero {P : Program} {w : World} {t : TypeId} {z : CV} {loc : Bool} (h : tzero P t = some z) :
    ∃ v, (zeroValue t).run P w = .ok v w ∧ V K M Q loc z v ∧ ∃ i, P.info? t = some i ∧ i.zero = some v := by
  unfold tzero at h
  cases hi : P.info? t with
  | none => simp [hi] at h
  | some i =>
    cases hz : i.zero with
    | none => simp [hi, hz] at h
    | some v =>
      simp only [hi, hz, Option.bind_some] at h
      refine ⟨v, by simp [zeroValue, typeInfo, hi, hz], ?_, i, rfl, hz⟩
      split at h
      · rename_i cs hcs
        split at h
        · rename_i hall
          simp only [Option.some.injEq] at h
          subst h
          exact V_ofV v fun l hl => by rw [hl] at hcs; simp only [ccells, Option.some.injEq] at hcs; subst hcs; exact hall
        · simp at h
      · simp at h
theorem run_tzcells {P : Program} {w : World} {t : TypeId} {z : List CV} {loc : Bool} (h : tzcells P t = some z) :
    ∃ v, (zeroValue t).run P w = .ok v w ∧ z.all leafV = true ∧ Vs K M Q loc z v.cells.toList ∧ ∃ i, P.info? t = some i ∧ i.zero = some v := by
  unfold tzcells at h
  cases hz : tzero P t with
  | none => simp [hz] at h
  | some c =>
    simp only [hz, Option.bind_some] at h
    obtain ⟨v, h1, h2, h3⟩ := run_tzero (K := K) (M := M) (Q := Q) (w := w) (loc := loc) hz
    obtain ⟨a, b⟩ := ccells_V h h2
    exact ⟨v, h1, a, b, h3⟩

/-! cells in memory -/
theorem Addr.add_none (b o n : Nat) : (⟨b, o, Option.none⟩ : Addr).add n = ⟨b, o + n, Option.none⟩ := by
  unfold Addr.add; split
  · subst_vars; rfl
  · rfl

theorem row_cell {w : World} {b : Nat} {es : Array Value} {t : TypeId} {fr : Nat × Nat} (h : w.heap[b]? = some (.cells es t fr)) (o : Nat) : w.cell? ⟨b, o, Option.none⟩ = es[o]? := by
  simp [World.cell?, h]

/-- what stands at a pointer -/
theorem cellsAt_run {w : World} {m : Mem} {p : CV} {n : Nat} {cs : List CV} {v : Value} (hR : MR K m.get Q w) (hp : V K m.get Q true p v) (h : cellsAt m p n = some cs) :
    ∃ b o vs, v = .pointer (some ⟨b, o, Option.none⟩) ∧ vs.length = n ∧ cs.all leafV = true ∧ Vs K m.get Q true cs vs ∧ ∀ j u, vs[j]? = some u → w.cell? ⟨b, o + j, Option.none⟩ = some u := by
  have ofCells : ∀ (b o : Nat) (l : List CV), l.all leafV = true → (∀ (i : Nat) (c : CV), l[i]? = some c → ∃ u, w.cell? ⟨b, o + i, Option.none⟩ = some u ∧ V K m.get Q true c u) →
      ∃ vs : List Value, vs.length = l.length ∧ Vs K m.get Q true l vs ∧ ∀ j u, vs[j]? = some u → w.cell? ⟨b, o + j, Option.none⟩ = some u := by
    intro b o l
    induction l generalizing o with
    | nil => intro _ _; exact ⟨[], rfl, by simp [Vs], by simp⟩
    | cons c l ih =>
      intro hall hc
      simp only [List.all_cons, Bool.and_eq_true] at hall
      obtain ⟨u, hu, hV⟩ := hc 0 c (by simp)
      obtain ⟨vs, h1, h2, h3⟩ := ih (o + 1) hall.2 fun i c' hc' => by
        obtain ⟨u', a, b'⟩ := hc (i + 1) c' (by simpa using hc')
        exact ⟨u', by rw [show o + 1 + i = o + (i + 1) from by omega]; exact a, b'⟩
      refine ⟨u :: vs, by simp [h1], by simp only [Vs]; exact ⟨u, vs, rfl, hV, h2⟩, fun j x hx => ?_⟩
      cases j with
      | zero => simp at hx; subst hx; simpa using hu
      | succ j => simp at hx; rw [show o + (j + 1) = o + 1 + j from by omega]; exact h3 j x hx
  unfold cellsAt at h
  split at h
  · rename_i l
    simp only [V] at hp
    obtain ⟨hall, b, o, rfl, hk⟩ := hp
    split at h
    · rename_i hle
      simp only [Option.some.injEq] at h
      subst h
      have hall' : (l.take n).all leafV = true := List.all_eq_true.2 fun x hx => List.all_eq_true.1 hall x (List.mem_of_mem_take hx)
      obtain ⟨vs, h1, h2, h3⟩ := ofCells b o (l.take n) hall' fun i c hc => by
        obtain ⟨u, hu, hV⟩ := Vk_get (Vk_take hk n) hc
        exact ⟨u, hR.stab _ _ _ hu, V_loc hV⟩
      exact ⟨b, o, vs, rfl, by simp [h1]; omega, hall', h2, h3⟩
    · simp at h
  · rename_i k gn off
    simp only [V] at hp
    obtain ⟨_, x, a, hx, hg, rfl, hr⟩ := hp
    rw [hx] at h
    simp only [] at h
    split at h
    · rename_i hcond
      obtain ⟨hgn, hmap, hlen⟩ := hcond
      simp only [Option.some.injEq] at h
      subst h
      obtain ⟨q, hq, rfl⟩ := hr hgn.symm
      have hok := hR.objs k x hx q hq
      have hcell : CellsOK K m.get Q w (flag k x) x.cells x.vl q := by cases x <;> simp_all [HO.isMap]
      obtain ⟨⟨es, t, h1, h2, h3⟩, _, _⟩ := hcell
      have hall' : ((x.cells.drop off).take n).all leafV = true := List.all_eq_true.2 fun c hc => by
        obtain ⟨i, hi⟩ := List.getElem?_of_mem (List.mem_of_mem_drop (List.mem_of_mem_take hc))
        exact (h3 i c hi).1
      obtain ⟨vs, g1, g2, g3⟩ := ofCells q.blk (q.base + off) _ hall' fun i c hc => by
        rw [List.getElem?_take] at hc
        split at hc
        · rw [List.getElem?_drop] at hc
          obtain ⟨_, u, hu, hV⟩ := h3 _ _ hc
          refine ⟨u, by rw [row_cell h1]; rw [show q.base + off + i = q.base + (off + i) from by omega]; exact hu, ?_⟩
          cases hf : flag k x
          · rw [hf] at hV; exact V_loc hV
          · rw [hf] at hV; exact hV
        · simp at hc
      exact ⟨q.blk, q.base + off, vs, rfl, by simp [g1]; omega, hall', g2, g3⟩
    · simp at h
  · simp at h

theorem cload_run {P : Program} {w : World} {m : Mem} {t : TypeId} {p c : CV} {v : Value} (hR : MR K m.get Q w) (hp : V K m.get Q true p v) (h : cload P m t p = some c) :
    ∃ u, (Instr.loadAt t v).run P w = .ok u w ∧ V K m.get Q true c u := by
  unfold cload at h
  split at h
  · rename_i ht
    cases hs : tsize P t with
    | none => simp [hs] at h
    | some sz =>
      simp only [hs, Option.bind_some, Option.map_eq_some_iff] at h
      obtain ⟨cs, hcs, rfl⟩ := h
      obtain ⟨b, o, vs, rfl, hl, hall, hV, hc⟩ := cellsAt_run hR hp hcs
      have := run_loadCells_list (P := P) (w := w) ⟨b, o, Option.none⟩ vs fun j u hu => by rw [Addr.add_none]; exact hc j u hu
      refine ⟨.agg vs.toArray, ?_, ?_⟩
      · simp [Instr.loadAt, Instr.sureAddr, loadVar, run_tagg ht, run_tsize hs, ← hl, this]
      · simp only [V]; exact ⟨hall, vs.toArray, rfl, by simpa using hV⟩
  · rename_i ht
    cases hcs : cellsAt m p 1 with
    | none => simp [hcs] at h
    | some cs =>
      simp only [hcs, Option.bind_some] at h
      obtain ⟨b, o, vs, rfl, hl, hall, hV, hc⟩ := cellsAt_run hR hp hcs
      match vs, hl with
      | [u], _ =>
        match cs, h, hV with
        | x :: r, h, hV =>
          simp only [List.head?_cons, Option.some.injEq] at h
          subst h
          simp only [Vs] at hV
          obtain ⟨u', r', he, hx, _⟩ := hV
          simp only [List.cons.injEq] at he
          obtain ⟨rfl, _⟩ := he
          refine ⟨u, ?_, hx⟩
          have := hc 0 u (by simp)
          simp only [Nat.add_zero] at this
          simp [Instr.loadAt, Instr.sureAddr, loadVar, run_tagg ht, this]
  · simp at h

/-- a part of a struct's cells -/
theorem partC_run {P : Program} {w : World} {t : TypeId} {cs : List CV} {off : Nat} {c : CV} {vs : Array Value} {loc : Bool} (hall : cs.all leafV = true) (hV : Vs K M Q loc cs vs.toList) (h : partC P t cs off = some c) :
    ∃ u, (part t vs off).run P w = .ok u w ∧ V K M Q loc c u := by
  have hlen := Vs_length hV
  simp only [Array.length_toList] at hlen
  unfold partC at h
  split at h
  · rename_i ht
    simp only [Option.map_eq_some_iff] at h
    obtain ⟨sz, hs, rfl⟩ := h
    refine ⟨.agg (vs.extract off (off + sz)), by simp [part, run_tagg ht, run_tsize hs], ?_⟩
    simp only [V]
    refine ⟨List.all_eq_true.2 fun x hx => List.all_eq_true.1 hall x (List.mem_of_mem_drop (List.mem_of_mem_take hx)), _, rfl, ?_⟩
    refine Vs_of (by simp [hlen] <;> omega) fun i x hx => ?_
    rw [List.getElem?_take] at hx
    split at hx
    · rename_i hi
      rw [List.getElem?_drop] at hx
      obtain ⟨v, h1, h2⟩ := Vs_get hV hx
      refine ⟨v, ?_, h2⟩
      have hlt : off + i < vs.size := by
        have := (List.getElem?_eq_some_iff.1 hx).1; omega
      simp only [Array.getElem?_toList] at h1 ⊢
      rw [Array.getElem?_extract]
      rw [if_pos (by omega)]; exact h1
    · simp at hx
  · rename_i ht
    obtain ⟨v, h1, h2⟩ := Vs_get hV h
    refine ⟨v, ?_, h2⟩
    simp only [Array.getElem?_toList] at h1
    simp [part, run_tagg ht, h1]
  · simp at h
end
end Go.Cm
