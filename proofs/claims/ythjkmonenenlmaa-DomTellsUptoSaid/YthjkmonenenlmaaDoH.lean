/-
  Graphs: heads.
-/
import Derived.Test.YthjkmonenenlmaaDoA
set_option linter.unusedSimpArgs false
set_option linter.unusedVariables false
namespace Go.Cm
open Go.Proofs
def isTrue : Option (CV × List HO) → Bool
  | some (.bool true, _) => true
  | _ => false
theorem hx_true : isTrue hx = true := by kernel_rfl
theorem x9 : ∃ H', FF 9 [] [] = some (.bool true, H') := by
  have h : ∃ H', hx = some (.bool true, H') := by
    have := hx_true
    unfold isTrue at this
    split at this
    · rename_i H h; exact ⟨H, h⟩
    · cases this
  obtain ⟨H', h⟩ := h
  refine ⟨H', Fw_iff.2 ⟨1, ?_⟩⟩
  have : EE 9 [] [] = hx := by simp only [EE, tab, if_true]
  simp only [tcall, this, h]
theorem k9 {fid : FuncId} {d : Tmp} {m : Mem} : callC An FF fid (some d) 9 [] m = some (.bool true, m) := by
  obtain ⟨H', h⟩ := x9
  rw [callC_P h rfl rfl rfl rfl, adopt_bool]
end Go.Cm
