/-
  For every program the law says true: blocks' ways are those of their last instructions, and a block's successors know it.
-/
import Derived.Test.YtjhndbgokapikaaRows
import Derived.WalkKit
import Derived.ProofKit
import Derived.OpenShut
import Derived.SizedLaws
import Derived.Test.YtjhndbgokapikaaFoN
set_option linter.unusedSimpArgs false
set_option linter.unusedVariables false
namespace Go.Proofs.Ytjhndbgokapikaa.flowEdges
open Go.ChangeShapes Go.WideShapes Go.ChangeAt Go.RowKit Go.Cm
theorem own : ownKnob Try.prog.godebug = none := by kernel_rfl
theorem laid : laidOutB Try.prog = true := by kernel_rfl
set_option maxRecDepth 100000 in
theorem lifted (os : Os) (started : os.Started) (H : Type) (enc : TypeId × Value → H) :
    ReturnsInHanded {} Try.checked os 5 .any (Rows.flowEdgesSpec.pre6 enc Try.prog Try.f5 Rows.flowEdgesRow.domain false) (Rows.flowEdgesSpec.post enc Try.prog Try.f5 false true false false) := by
  refine returnsInHanded_of_change_sized (C := Try.checked) own started (by kernel_rfl) Try.func5
    (ChangeSpec.witness6 (enc := enc) (C := Try.checked) false ⟨#[], #[.slice none 0 0], []⟩ 8 (by kernel_rfl) (by kernel_rfl) (by kernel_rfl) (by kernel_rfl)) ?_
  intro W base args ds gs before hval hW hcnd hwt _
  refine contract_sized (n := 8) laid (by kernel_rfl) rfl (tb := 4) (by kernel_rfl) Try.underlying4 ?_ ?_ hval hwt hW
  · intro ds hl
    have hl' : ds.length = 1 := hl
    match ds, hl' with
    | [d0], _ => rfl
  · intro xs h hf
    have h : oks (D.ok Try.prog 8) Try.f5.params.toList xs := h
    have hf : oks (D.fit Try.prog 8) Try.f5.params.toList xs := hf
    rw [Try.params5] at h hf
    obtain ⟨e1, r1, rfl, k1, h⟩ := oks_cons h
    obtain rfl := oks_nil h
    obtain ⟨p, q1, w1, w2⟩ := prog_of (n := 5) k1
    obtain ⟨_, ⟨H', rfl⟩, this⟩ := Go.Cm.x5 p w1
    refine ⟨H', ?_⟩
    have := Fw_sim EE_sim plainN mixed _ _ _ _ _ this
    rw [← q1] at this
    exact this
theorem over : Rows.flowEdgesRow.holds Try.pinned (OpenSpec.ofChange Rows.flowEdgesSpec) :=
  OpenClaim.holds_of_wide 5 Try.f5 rfl rfl rfl rfl rfl rfl rfl ⟨rfl, rfl, rfl, rfl, rfl⟩ rfl rfl rfl rfl rfl (by kernel_rfl) Try.func5 (by kernel_rfl)
    (of_decide_eq_true (by kernel_rfl)) (by unfold Func.isWrapper; first | (rw [if_pos (by decide +kernel)]; kernel_rfl) | (rw [if_neg (by decide +kernel)]; exact ⟨rfl, rfl⟩))
    (fun os started H enc _ => lifted os started H enc)
theorem proved : Rows.FlowEdgesSaid := over
end Go.Proofs.Ytjhndbgokapikaa.flowEdges
