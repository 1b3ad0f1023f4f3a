/-
  Code as values: heads of layer 16.
-/
import Derived.Test.YtijcpefcfcbcnaaIzA
set_option linter.unusedSimpArgs false
set_option linter.unusedVariables false
namespace Go.Cm
open Go.Proofs
def isTrue16 : Option (CV × List HO) → Bool
  | some (.bool true, _) => true
  | _ => false
theorem isT16_of {x : Option (CV × List HO)} (h : isTrue16 x = true) : ∃ H, x = some (.bool true, H) := by
  unfold isTrue16 at h
  split at h
  · exact ⟨_, rfl⟩
  · cases h
theorem Fw_E16 {P : Program} {A : Ann} {E : Oracle} {f : FuncId} {args : List CV} {H : List HO} {r : CV × List HO} (h : E f (cin (A.pure f) args) H = some r) : Fw P A E f args H = some r :=
  Fw_iff.2 ⟨1, by simp only [tcall, h]⟩
theorem hx16_true : isTrue16 hx16 = true := by kernel_rfl
theorem only16 : EE 37 [] [] = only0 hx16 [] [] := by simp only [EE, tab, Nat.reduceEqDiff, if_true, if_false]
theorem only0_nil16 (h : Option (CV × List HO)) : only0 h [] [] = h := rfl
theorem x37 : ∃ H', FF 37 [] [] = some (.bool true, H') := by
  obtain ⟨H', h⟩ := isT16_of hx16_true
  exact ⟨H', Fw_E16 ((only16.trans (only0_nil16 _)).trans h)⟩
theorem k37 {fid : FuncId} {d : Tmp} {m : Mem} : callC An FF fid (some d) 37 [] m = some (.bool true, m) := by
  obtain ⟨H', h⟩ := x37
  rw [callC_K h rfl rfl rfl rfl rfl, adopt_bool]
end Go.Cm
