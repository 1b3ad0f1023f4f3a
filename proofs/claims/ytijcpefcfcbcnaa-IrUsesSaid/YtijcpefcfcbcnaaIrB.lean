/-
  Code: one value more changes nothing; an end that uses it may not be.
-/
import Derived.Test.YtijcpefcfcbcnaaIrA
set_option linter.unusedSimpArgs false
set_option linter.unusedVariables false
namespace Go.Ir
open Go.Gr
theorem mk1_app {l l' : List (Option (Int × Int))} {id : Int} {p : Int × Int} (h : mk1 l id p = some l') : mk1 (l ++ [none]) id p = some (l' ++ [none]) ∧ l'.length = l.length := by
  unfold mk1 at h ⊢
  split at h
  · rename_i hc
    have hlt := (List.getElem?_eq_some_iff.1 hc.2).1
    simp only [Option.some.injEq] at h
    rw [if_pos ⟨hc.1, by rw [List.getElem?_append_left hlt]; exact hc.2⟩, ← h]
    exact ⟨by rw [List.set_append_left _ _ hlt], by simp⟩
  · cases h
theorem mkPhis_app {i : Int} : ∀ {ps : List Ph} {l l' : List (Option (Int × Int))}, mkPhis i ps l = some l' → mkPhis i ps (l ++ [none]) = some (l' ++ [none]) ∧ l'.length = l.length
  | [], l, l', h => by simp only [mkPhis, Option.some.injEq] at h ⊢; subst h; exact ⟨rfl, rfl⟩
  | x :: r, l, l', h => by
    simp only [mkPhis, Option.bind_eq_some_iff] at h ⊢
    obtain ⟨l1, h1, h2⟩ := h
    obtain ⟨a1, a2⟩ := mk1_app h1
    obtain ⟨b1, b2⟩ := mkPhis_app h2
    exact ⟨⟨_, a1, b1⟩, by omega⟩
theorem mkNodes_app {i : Int} : ∀ {ns : List Nd} {k : Nat} {l l' : List (Option (Int × Int))}, mkNodes i k ns l = some l' → mkNodes i k ns (l ++ [none]) = some (l' ++ [none]) ∧ l'.length = l.length
  | [], k, l, l', h => by simp only [mkNodes, Option.some.injEq] at h ⊢; subst h; exact ⟨rfl, rfl⟩
  | n :: r, k, l, l', h => by
    simp only [mkNodes] at h ⊢
    split at h
    · rename_i hn
      rw [if_pos hn]
      split at h
      · rename_i h6
        rw [if_pos h6]; exact mkNodes_app h
      · rename_i h6
        rw [if_neg h6]
        simp only [Option.bind_eq_some_iff] at h ⊢
        obtain ⟨l1, h1, h2⟩ := h
        obtain ⟨a1, a2⟩ := mk1_app h1
        obtain ⟨b1, b2⟩ := mkNodes_app h2
        exact ⟨⟨_, a1, b1⟩, by omega⟩
    · cases h
theorem mkParts_app : ∀ {ps : List Pt} {i : Nat} {l l' : List (Option (Int × Int))}, mkParts i ps l = some l' → mkParts i ps (l ++ [none]) = some (l' ++ [none]) ∧ l'.length = l.length
  | [], i, l, l', h => by simp only [mkParts, Option.some.injEq] at h ⊢; subst h; exact ⟨rfl, rfl⟩
  | p :: r, i, l, l', h => by
    simp only [mkParts, Option.bind_eq_some_iff] at h ⊢
    obtain ⟨l2, ⟨l1, h1, h2⟩, h3⟩ := h
    obtain ⟨a1, a2⟩ := mkPhis_app h1
    obtain ⟨b1, b2⟩ := mkNodes_app h2
    obtain ⟨c1, c2⟩ := mkParts_app h3
    exact ⟨⟨_, ⟨_, a1, b1⟩, c1⟩, by omega⟩
/-- parts that differ in nothing but their ends make the same -/
theorem mkParts_same : ∀ {ps qs : List Pt} {i : Nat} {l : List (Option (Int × Int))}, ps.map (fun p => (p.phis, p.nodes)) = qs.map (fun p => (p.phis, p.nodes)) → mkParts i ps l = mkParts i qs l
  | [], [], _, _, _ => rfl
  | [], _ :: _, _, _, h => by simp at h
  | _ :: _, [], _, _, h => by simp at h
  | p :: ps, q :: qs, i, l, h => by
    simp only [List.map_cons, List.cons.injEq, Prod.mk.injEq] at h
    obtain ⟨⟨h1, h2⟩, h3⟩ := h
    have := fun l => mkParts_same (i := i + 1) (l := l) h3
    simp only [mkParts, h1, h2]
    congr 1
    funext l
    exact this l
theorem aheadB_app {g : List (List Int)} {l : List (Option (Int × Int))} {part at_ id : Int} : aheadB g (l ++ [none]) part at_ id = aheadB g l part at_ id := by
  unfold aheadB
  split
  · rcases Nat.lt_trichotomy id.toNat l.length with h | h | h
    · rw [List.getElem?_append_left h]
    · rw [h, List.getElem?_append_right (Nat.le_refl _), List.getElem?_eq_none (Nat.le_refl _)]; simp
    · rw [List.getElem?_append_right (by omega), List.getElem?_eq_none (l := l) (by omega), List.getElem?_eq_none (l := [none]) (by simp only [List.length_singleton]; omega)]
  · rfl
theorem partOk_app {g : List (List Int)} {l : List (Option (Int × Int))} {i : Int} {p : Pt} : partOk g (l ++ [none]) i p = partOk g l i p := by
  have h : ∀ a b, aheadB g (l ++ [none]) a b = aheadB g l a b := fun a b => funext fun id => aheadB_app
  unfold partOk
  simp only [h]
/-- an end, one thing of it changed -/
def Pt.useA (p : Pt) (v : Int) : Pt := { p with fin := { p.fin with a := v } }
theorem set_map {α β : Type} (l : List α) (i : Nat) (a : α) (f : α → β) (h : ∀ b, l[i]? = some b → f a = f b) : (l.set i a).map f = l.map f := by
  apply List.ext_getElem?
  intro j
  rw [List.getElem?_map, List.getElem?_map, List.getElem?_set]
  split
  · rename_i hj
    subst hj
    split
    · rename_i hl
      rw [List.getElem?_eq_getElem hl]
      simp only [Option.map_some, Option.some.injEq]
      exact h _ (List.getElem?_eq_getElem hl)
    · rename_i hl
      rw [List.getElem?_eq_none (by omega)]
  · rfl
theorem codeOk_more {f : Cd} (h : codeOk f = true) (hv : f.values < 65536) : codeOk ⟨f.parts, f.values + 1⟩ = true := by
  simp only [codeOk, Bool.and_eq_true, decide_eq_true_eq] at h ⊢
  obtain ⟨⟨⟨⟨⟨h1, h2⟩, h3⟩, h4⟩, h5⟩, h6⟩ := h
  refine ⟨⟨⟨⟨⟨h1, h2⟩, by omega⟩, by omega⟩, h5⟩, ?_⟩
  split at h6
  · rename_i l hl
    have hr : List.replicate (f.values + 1).toNat (none : Option (Int × Int)) = List.replicate f.values.toNat none ++ [none] := by
      rw [show (f.values + 1).toNat = f.values.toNat + 1 by omega, List.replicate_succ']
    have : places ⟨f.parts, f.values + 1⟩ = some (l ++ [none]) := by
      unfold places at hl ⊢
      simp only [hr]
      exact (mkParts_app hl).1
    rw [this]
    unfold usedOk at h6 ⊢
    rw [List.all_eq_true] at h6 ⊢
    intro i hi
    have := h6 i hi
    simp only at this ⊢
    split
    · rename_i p hp
      rw [hp] at this
      simp only at this
      rw [partOk_app]; exact this
    · rfl
  · cases h6
theorem codeOk_uses {f : Cd} {i : Nat} {p : Pt} (h : codeOk f = true) (hv : f.values < 65536) (hp : f.parts[i]? = some p) :
    codeOk ⟨f.parts.set i (p.useA f.values), f.values + 1⟩ = !(decide (p.fin.op = 3) || decide (p.fin.op = 2)) := by
  have hm := codeOk_more h hv
  obtain ⟨g, hg⟩ : ∃ g : Cd, g = ⟨f.parts.set i (p.useA f.values), f.values + 1⟩ := ⟨_, rfl⟩
  rw [← hg]
  have hlt := (List.getElem?_eq_some_iff.1 hp).1
  have hsame : ∀ {β : Type} (fn : Pt → β), fn (p.useA f.values) = fn p → g.parts.map fn = f.parts.map fn := fun fn he => by
    rw [hg]; exact set_map _ _ _ _ fun b hb => by rw [hp] at hb; injection hb with hb; rw [← hb, he]
  have hlen : g.parts.length = f.parts.length := by rw [hg]; simp
  have hs : succs g = succs f := hsame _ rfl
  have hw : waysOk g = waysOk f := by
    unfold waysOk
    have h1 : g.parts.map (·.pred) = f.parts.map (·.pred) := hsame _ rfl
    have h2 : (g.parts.all fun q => endOk g.parts.length q.fin) = f.parts.all fun q => endOk f.parts.length q.fin := by
      have := congrArg (fun l => l.all id) (hsame (fun q => endOk f.parts.length q.fin) rfl)
      simpa [List.all_map, hlen] using this
    rw [h1, h2, hs, hlen]
  simp only [codeOk, Bool.and_eq_true, decide_eq_true_eq] at h
  obtain ⟨⟨⟨⟨⟨h1, h2⟩, h3⟩, h4⟩, h5⟩, h6⟩ := h
  have hval : g.values = f.values + 1 := by rw [hg]
  split at h6
  case h_2 => cases h6
  rename_i l hl
  have hr : List.replicate (f.values + 1).toNat (none : Option (Int × Int)) = List.replicate f.values.toNat none ++ [none] := by
    rw [show (f.values + 1).toNat = f.values.toNat + 1 by omega, List.replicate_succ']
  have hpl : places g = some (l ++ [none]) := by
    unfold places at hl ⊢
    rw [hval, hr, mkParts_same (qs := f.parts) (hsame (fun q => (q.phis, q.nodes)) rfl)]
    exact (mkParts_app hl).1
  have hll : l.length = f.values.toNat := by
    unfold places at hl
    rw [(mkParts_app hl).2, List.length_replicate]
  have hck : codeOk g = usedOk g (l ++ [none]) := by
    unfold codeOk
    rw [hlen, hval, hw, h5, hpl, decide_eq_true h1, decide_eq_true h2, decide_eq_true (by omega : 0 ≤ f.values + 1), decide_eq_true (by omega : f.values + 1 ≤ 65536)]
    rfl
  rw [hck]
  have hgi : ∀ j, g.parts[j]? = if i = j then some (p.useA f.values) else f.parts[j]? := fun j => by
    rw [hg, List.getElem?_set]
    split
    · simp [hlt]
    · rfl
  by_cases hop : p.fin.op = 3 ∨ p.fin.op = 2
  · have hf : (decide (p.fin.op = 3) || decide (p.fin.op = 2)) = true := by simpa using hop
    rw [hf]
    have hpo : partOk (succs g) (l ++ [none]) i (p.useA f.values) = false := by
      unfold partOk
      have : (ends (p.useA f.values).fin).all (aheadB (succs g) (l ++ [none]) i farEnd) = false := by
        rw [List.all_eq_false]
        refine ⟨f.values, ?_, ?_⟩
        · unfold ends Pt.useA
          rcases hop with h | h <;> simp [h]
        · rw [aheadB_app]
          unfold aheadB
          rw [if_pos h3, List.getElem?_eq_none (by omega)]
          simp
      rw [this]; simp
    unfold usedOk
    rw [Bool.not_true, List.all_eq_false]
    exact ⟨i, List.mem_range.2 (by rw [hlen]; exact hlt), by rw [hgi, if_pos rfl]; simp [hpo]⟩
  · have hf : (decide (p.fin.op = 3) || decide (p.fin.op = 2)) = false := by simpa using hop
    rw [hf, Bool.not_false]
    unfold usedOk at h6 ⊢
    rw [List.all_eq_true] at h6 ⊢
    intro j hj
    rw [hlen] at hj
    have h7 := h6 j hj
    rw [hgi]
    by_cases hij : i = j
    · subst hij
      rw [if_pos rfl]
      rw [hp] at h7
      simp only at h7 ⊢
      rw [partOk_app, hs]
      have : partOk (succs f) l i (p.useA f.values) = partOk (succs f) l i p := by
        unfold partOk
        have he : ends (p.useA f.values).fin = ends p.fin := by
          unfold ends Pt.useA
          have n1 : ¬ p.fin.op = 3 := fun h => hop (.inl h)
          have n2 : ¬ p.fin.op = 2 := fun h => hop (.inr h)
          simp [n1, n2]
        rw [he]; rfl
      rw [this]; exact h7
    · rw [if_neg hij]
      split
      · rename_i q hq
        rw [hq] at h7
        simp only at h7
        rw [partOk_app, hs]; exact h7
      · rfl
end Go.Ir
