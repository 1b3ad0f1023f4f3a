/-
  Drawn regions: what stays as it is, one by one.
-/
import Derived.Test.YtijcpefcfcbcnaaCxH
set_option linter.unusedSimpArgs false
set_option linter.unusedVariables false
namespace Go.Cm
def sameL : List (Bool × Nat) → Mem → Mem → Prop
  | [], _, _ => True
  | x :: r, m, m' => (x.1 = false → lget m.L (16 * x.2) = lget m'.L (16 * x.2)) ∧ sameL r m m'
theorem sameL_nil {m m' : Mem} : sameL [] m m' = True := rfl
theorem sameL_t {d : Nat} {r : List (Bool × Nat)} {m m' : Mem} : sameL ((true, d) :: r) m m' = sameL r m m' := by simp [sameL]
theorem sameL_f {d : Nat} {r : List (Bool × Nat)} {m m' : Mem} : sameL ((false, d) :: r) m m' = (lget m.L (16 * d) = lget m'.L (16 * d) ∧ sameL r m m') := by simp [sameL]
theorem sameL_all {off : List (Bool × Nat)} {m m' : Mem} : sameL off m m' = ∀ z ∈ off, z.1 = false → lget m.L (16 * z.2) = lget m'.L (16 * z.2) := by
  induction off with
  | nil => simp [sameL]
  | cons x r ih => simp only [sameL, ih, List.forall_mem_cons]
theorem Obt_offSL {off : List (Bool × Nat)} {m : Mem} {x : Option (CV × Mem)} {K : CV × Mem → Prop} : Obt (offS off m x) K = Obt x fun y => sameL off m y.2 ∧ K y := by
  simp only [Obt_offS, sameL_all]
end Go.Cm
