import Derived.Test.YtijcpefcfcbcnaaIzA
set_option linter.unusedSimpArgs false
set_option linter.unusedVariables false
namespace Go.Cm
open Go.Proofs
def isTrue19 : Option (CV × List HO) → Bool
  | some (.bool true, _) => true
  | _ => false
theorem isT19_of {x : Option (CV × List HO)} (h : isTrue19 x = true) : ∃ H, x = some (.bool true, H) := by
  unfold isTrue19 at h
  split at h
  · exact ⟨_, rfl⟩
  · cases h
theorem Fw_E19 {P : Program} {A : Ann} {E : Oracle} {f : FuncId} {args : List CV} {H : List HO} {r : CV × List HO} (h : E f (cin (A.pure f) args) H = some r) : Fw P A E f args H = some r :=
  Fw_iff.2 ⟨1, by simp only [tcall, h]⟩
theorem hx19_true : isTrue19 hx19 = true := by kernel_rfl
theorem only19 : EE 21 [] [] = only0 hx19 [] [] := by simp only [EE, tab, Nat.reduceEqDiff, if_true, if_false]
theorem only0_nil19 (h : Option (CV × List HO)) : only0 h [] [] = h := rfl
theorem x21 : ∃ H', FF 21 [] [] = some (.bool true, H') := by
  obtain ⟨H', h⟩ := isT19_of hx19_true
  exact ⟨H', Fw_E19 ((only19.trans (only0_nil19 _)).trans h)⟩
theorem k21 {fid : FuncId} {d : Tmp} {m : Mem} : callC An FF fid (some d) 21 [] m = some (.bool true, m) := by
  obtain ⟨H', h⟩ := x21
  rw [callC_K h rfl rfl rfl rfl rfl, adopt_bool]
end Go.Cm
