/-
  Graphs that come in: rows of numbers, each of at most 2^44 of them.
-/
import Derived.Test.YthjkmonenenlmaaCxH
import Derived.Test.YthjkmonenenlmaaDoA
set_option linter.unusedSimpArgs false
set_option linter.unusedVariables false
namespace Go.Cm
open Go.Proofs
theorem bytes_int : Try.prog.bytesOf 3 = 8 := by kernel_rfl
theorem fit_slice {P : Program} {n : Nat} {t e : TypeId} {ds : List D} (hu : P.underlying t = some (.slice e)) (h : D.fit P (n + 1) t (.sl ds)) : ds.length * P.bytesOf e ≤ reachBytes ∧ ∀ x ∈ ds, D.fit P n e x := by
  simp only [D.fit, hu] at h
  exact h ds rfl
set_option maxRecDepth 100000 in
theorem rowI_of {n : Nat} {d : D} (h : D.ok Try.prog (n + 2) 27 d) (hf : D.fit Try.prog (n + 2) 27 d) : ∃ r : List Int, d.cells = [sl intC r] ∧ r.length ≤ 17592186044416 := by
  obtain ⟨ds, rfl, h1, h2⟩ := ok_slice Try.underlying27 h
  have hb := (fit_slice Try.underlying27 hf).1
  rw [bytes_int] at hb
  obtain ⟨l, h3, h4, _⟩ := list_of (e := intC) (W := fun _ => True) fun x hx => by
    obtain ⟨m, rfl, _⟩ := ok_i64 Try.underlying3 (h2 x hx)
    exact ⟨m, rfl, trivial⟩
  have : sl intC l = .imm ds.length (D.cellsL ds) := by simp only [sl, h3, h4]
  refine ⟨l, by simp only [D.cells, this], ?_⟩
  have : reachBytes = 140737488351232 := rfl
  omega
set_option maxRecDepth 100000 in
theorem graph_of {n : Nat} {d : D} (h : D.ok Try.prog (n + 3) 22 d) (hf : D.fit Try.prog (n + 3) 22 d) : ∃ g : List (List Int), d.cv = rowsC g ∧ ∀ r ∈ g, r.length ≤ 17592186044416 := by
  obtain ⟨ds, rfl, h1, h2⟩ := ok_slice Try.underlying22 h
  have hb := (fit_slice Try.underlying22 hf).2
  obtain ⟨l, h3, h4, h5⟩ := list_of (e := fun r => [sl intC r]) (W := fun r : List Int => r.length ≤ 17592186044416) fun x hx => rowI_of (h2 x hx) (hb x hx)
  have : rowsC l = .imm ds.length (D.cellsL ds) := by simp only [rowsC, sl, h3, h4]
  exact ⟨l, by simp only [D.cv, this], h5⟩
/-- where there are more nodes, nothing is looked at -/
theorem Sm.of {g : List (List Int)} (h : (g.length : Int) ≤ 60) (hr : ∀ r ∈ g, r.length ≤ 17592186044416) : Sm g := ⟨by omega, hr⟩
end Go.Cm
