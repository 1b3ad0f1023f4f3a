/-
  Graphs that come in, little of them.
-/
import Derived.Test.YthjkmonenenlmaaDoK
import Derived.Test.YthjkmonenenlmaaDoW
set_option linter.unusedSimpArgs false
set_option linter.unusedVariables false
namespace Go.Cm
open Go.Proofs
theorem bulkL_ints : ∀ {ds : List D}, ds.length ≤ D.bulkL ds
  | [] => Nat.le_refl _
  | d :: ds => by
    have := bulkL_ints (ds := ds)
    have h1 : 1 ≤ D.bulk d := by cases d <;> simp [D.bulk]
    simp only [D.bulkL, List.length_cons]; omega
set_option maxRecDepth 100000 in
theorem rowB_of {n : Nat} {d : D} (h : D.ok Try.prog (n + 2) 27 d) : ∃ r : List Int, d.cells = [sl intC r] ∧ r.length ≤ D.bulk d := by
  obtain ⟨ds, rfl, h1, h2⟩ := ok_slice Try.underlying27 h
  obtain ⟨l, h3, h4, _⟩ := list_of (e := intC) (W := fun _ => True) fun x hx => by
    obtain ⟨m, rfl, _⟩ := ok_i64 Try.underlying3 (h2 x hx)
    exact ⟨m, rfl, trivial⟩
  have : sl intC l = .imm ds.length (D.cellsL ds) := by simp only [sl, h3, h4]
  refine ⟨l, by simp only [D.cells, this], ?_⟩
  have := bulkL_ints (ds := ds)
  simp only [D.bulk]
  omega
theorem rowsB_of {P : Program} : ∀ {ds : List D}, (∀ x ∈ ds, ∃ r : List Int, x.cells = [sl intC r] ∧ r.length ≤ D.bulk x) → ∃ l : List (List Int), D.cellsL ds = l.flatMap (fun r => [sl intC r]) ∧ l.length = ds.length ∧ (l.map List.length).sum ≤ D.bulkL ds
  | [], _ => ⟨[], rfl, rfl, Nat.le_refl _⟩
  | d :: ds, h => by
    obtain ⟨a, h1, h2⟩ := h d List.mem_cons_self
    obtain ⟨l, h3, h4, h5⟩ := rowsB_of (P := P) (ds := ds) fun x hx => h x (List.mem_cons_of_mem _ hx)
    refine ⟨a :: l, ?_, by simp [h4], ?_⟩
    · simp only [D.cellsL, h1, h3, List.flatMap_cons]
    · simp only [List.map_cons, List.sum_cons, D.bulkL]; omega
theorem um_sum : ∀ (g : List (List Int)), um g [] = (g.map List.length).sum := by
  intro g
  unfold um
  congr 1
  refine List.ext_getElem? fun j => ?_
  by_cases hj : j < g.length
  · simp [hj]
  · rw [List.getElem?_eq_none (by simp; omega), List.getElem?_eq_none (by simp; omega)]
theorem mem_len_sum {r : List Int} : ∀ {g : List (List Int)}, r ∈ g → r.length ≤ (g.map List.length).sum
  | a :: g, h => by
    simp only [List.map_cons, List.sum_cons]
    rcases List.mem_cons.1 h with rfl | h
    · omega
    · have := mem_len_sum h; omega
set_option maxRecDepth 100000 in
theorem graphB_of {n : Nat} {d : D} (h : D.ok Try.prog (n + 3) 22 d) : ∃ g : List (List Int), d.cv = rowsC g ∧ um g [] ≤ D.bulk d ∧ ∀ r ∈ g, r.length ≤ D.bulk d := by
  obtain ⟨ds, rfl, h1, h2⟩ := ok_slice Try.underlying22 h
  obtain ⟨l, h3, h4, h5⟩ := rowsB_of (P := Try.prog) fun x hx => rowB_of (h2 x hx)
  have : rowsC l = .imm ds.length (D.cellsL ds) := by simp only [rowsC, sl, h3, h4]
  refine ⟨l, by simp only [D.cv, this], by rw [um_sum]; simp only [D.bulk]; omega, fun r hr => ?_⟩
  have := mem_len_sum hr
  simp only [D.bulk]
  omega
end Go.Cm
