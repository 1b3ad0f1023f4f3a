/-
  For every code and number the law says true: code in which a used value is made nowhere may not be, and its arguments read as they did.
-/
import Derived.Test.YtijcpefcfcbcnaaRows
import Derived.WalkKit
import Derived.ProofKit
import Derived.OpenShut
import Derived.SizedLaws
import Derived.Test.YtijcpefcfcbcnaaIuA
set_option linter.unusedSimpArgs false
set_option linter.unusedVariables false
namespace Go.Proofs.Ytijcpefcfcbcnaa.irUses
open Go.ChangeShapes Go.WideShapes Go.ChangeAt Go.RowKit Go.Cm
theorem own : ownKnob Try.prog.godebug = none := by kernel_rfl
theorem laid : laidOutB Try.prog = true := by kernel_rfl
set_option maxRecDepth 100000 in
theorem lifted (os : Os) (started : os.Started) (H : Type) (enc : TypeId × Value → H) :
    ReturnsInHanded {} Try.checked os 9 .any (Rows.irUsesSpec.pre6 enc Try.prog Try.f9 Rows.irUsesRow.domain false) (Rows.irUsesSpec.post enc Try.prog Try.f9 false true false false) := by
  refine returnsInHanded_of_change_sized (C := Try.checked) own started (by kernel_rfl) Try.func9
    (ChangeSpec.witness6 (enc := enc) (C := Try.checked) false ⟨#[], #[.agg #[.slice none 0 0, .int .i64 0], .int .i64 0], []⟩ 8 (by kernel_rfl) (by kernel_rfl) (by kernel_rfl) (by kernel_rfl)) ?_
  intro W base args ds gs before hval hW hcnd hwt _
  refine contract_sized (n := 8) laid (by kernel_rfl) rfl (tb := 4) (by kernel_rfl) Try.underlying4 ?_ ?_ hval hwt hW
  · intro ds hl
    have hl' : ds.length = 2 := hl
    match ds, hl' with
    | [d0, d1], _ => rfl
  · intro xs h hf
    have h : oks (D.ok Try.prog 8) Try.f9.params.toList xs := h
    have hf : oks (D.fit Try.prog 8) Try.f9.params.toList xs := hf
    rw [Try.params9] at h hf
    obtain ⟨e1, r1, rfl, k1, h⟩ := oks_cons h
    obtain ⟨e2, r2, rfl, k2, h⟩ := oks_cons h
    obtain rfl := oks_nil h
    obtain ⟨f, q1, w1⟩ := code_of (n := 1) k1 hf.1
    obtain ⟨x2, rfl, _⟩ := ok_i64 Try.underlying3 k2
    obtain ⟨_, ⟨H', rfl⟩, this⟩ := Go.Cm.x9 f w1.fit x2
    refine ⟨H', ?_⟩
    have := Fw_sim EE_sim plainN mixed _ _ _ _ _ this
    rw [← q1] at this
    exact this
theorem over : Rows.irUsesRow.holds Try.pinned (OpenSpec.ofChange Rows.irUsesSpec) :=
  OpenClaim.holds_of_wide 9 Try.f9 rfl rfl rfl rfl rfl rfl rfl ⟨rfl, rfl, rfl, rfl, rfl⟩ rfl rfl rfl rfl rfl (by kernel_rfl) Try.func9 (by kernel_rfl)
    (of_decide_eq_true (by kernel_rfl)) (by unfold Func.isWrapper; first | (rw [if_pos (by decide +kernel)]; kernel_rfl) | (rw [if_neg (by decide +kernel)]; exact ⟨rfl, rfl⟩))
    (fun os started H enc _ => lifted os started H enc)
theorem proved : Rows.IrUsesSaid := over
end Go.Proofs.Ytijcpefcfcbcnaa.irUses
