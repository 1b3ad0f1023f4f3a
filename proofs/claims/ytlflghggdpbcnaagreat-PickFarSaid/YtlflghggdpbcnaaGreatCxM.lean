import Derived.Test.YtlflghggdpbcnaaGreatCxH
set_option linter.unusedSimpArgs false
set_option linter.unusedVariables false
namespace Go.Cm
def sameL : List (Bool × Nat) → Mem → Mem → Prop
  | [], _, _ => True
  | x :: r, m, m' => (x.1 = false → sameAt x.2 m m') ∧ sameL r m m'
theorem sameL_nil {m m' : Mem} : sameL [] m m' = True := rfl
theorem sameL_t {d : Nat} {r : List (Bool × Nat)} {m m' : Mem} : sameL ((true, d) :: r) m m' = sameL r m m' := by simp [sameL]
theorem sameL_f {d : Nat} {r : List (Bool × Nat)} {m m' : Mem} : sameL ((false, d) :: r) m m' = ((if d = 4294967295 then m.H = m'.H else lget m.L (16 * d) = lget m'.L (16 * d)) ∧ sameL r m m') := propext ⟨fun h => ⟨h.1 rfl, h.2⟩, fun h => ⟨fun _ => h.1, h.2⟩⟩
theorem sameL_all {off : List (Bool × Nat)} {m m' : Mem} : sameL off m m' = ∀ z ∈ off, z.1 = false → sameAt z.2 m m' := by
  induction off with
  | nil => simp [sameL]
  | cons x r ih => simp only [sameL, ih, List.forall_mem_cons]
theorem Obt_offSL {off : List (Bool × Nat)} {m : Mem} {x : Option (CV × Mem)} {K : CV × Mem → Prop} : Obt (offS off m x) K = Obt x fun y => sameL off m y.2 ∧ K y := by
  simp only [Obt_offS, sameL_all]
theorem offP_nil {α : Type} {p : CV} {x : Option α} : offP [] p x = x := rfl
theorem offP_f {α : Type} {d : Nat} {r : List (Bool × Nat)} {p : CV} {x : Option α} : offP ((false, d) :: r) p x = offP r p x := by
  have : atIn ((false, d) :: r) p = true ↔ atIn r p = true := by
    unfold atIn
    split <;> simp
  simp only [offP, List.any_cons, Bool.false_or]
  split
  · by_cases h : atIn r p = true
    · rw [if_pos h, if_pos (this.2 h)]
    · rw [if_neg h, if_neg (fun e => h (this.1 e))]
  · rfl
theorem offP_t {α : Type} {d j g o : Nat} {x : Option α} : offP [(true, d)] (.ptr (.l j) g o) x = if j = 16 * d then x else none := by
  simp [offP, atIn]
end Go.Cm
