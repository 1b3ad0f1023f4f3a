/-
  For every number the law says true: what Wide makes is the number, on the document's target.
-/
import Derived.Test.YtlflghggdpbcnaaGreatRows
import Derived.WalkKit
import Derived.ProofKit
import Derived.OpenShut
import Derived.SizedLaws
import Derived.Test.YtlflghggdpbcnaaGreatGwI
set_option linter.unusedSimpArgs false
set_option linter.unusedVariables false
namespace Go.Proofs.YtlflghggdpbcnaaGreat.pickMakes
open Go.ChangeShapes Go.WideShapes Go.ChangeAt Go.RowKit Go.Cm
theorem own : ownKnob Tryz.prog.godebug = none := by kernel_rfl
theorem laid : laidOutB Tryz.prog = true := by kernel_rfl
set_option maxRecDepth 100000 in
theorem lifted (os : Os) (started : os.Started) (H : Type) (enc : TypeId × Value → H) :
    ReturnsInHanded {} Tryz.checked os 6 .any (Rows.pickMakesSpec.pre6 enc Tryz.prog Tryz.f6 Rows.pickMakesRow.domain false) (Rows.pickMakesSpec.post enc Tryz.prog Tryz.f6 false true false false) := by
  refine returnsInHanded_of_change_sized (C := Tryz.checked) own started (by kernel_rfl) Tryz.func6
    (ChangeSpec.witness6 (enc := enc) (C := Tryz.checked) false ⟨#[], #[.int .u64 0], []⟩ 8 (by kernel_rfl) (by kernel_rfl) (by kernel_rfl) (by kernel_rfl)) ?_
  intro W base args ds gs before hval hW hcnd hwt _
  refine contract_sized (n := 4) laid (by kernel_rfl) rfl (tb := 4) (by kernel_rfl) Tryz.underlying4 ?_ ?_ hval hwt hW
  · intro ds hl
    have hl' : ds.length = 1 := hl
    match ds, hl' with
    | [d0], _ => rfl
  · intro xs h hf
    have h : oks (D.ok Tryz.prog 4) Tryz.f6.params.toList xs := h
    have hf : oks (D.fit Tryz.prog 4) Tryz.f6.params.toList xs := hf
    rw [Tryz.params6] at h hf
    obtain ⟨e1, r1, rfl, k1, h⟩ := oks_cons h
    obtain rfl := oks_nil h
    obtain ⟨x, rfl, hx⟩ := ok_u64 Tryz.underlying32 k1
    obtain ⟨y, rfl, hy⟩ := u64_of hx
    obtain ⟨_, ⟨H', rfl⟩, this⟩ := Go.Cm.x6 y hy
    refine ⟨H', ?_⟩
    have := Fw_sim EE_sim plainN mixed _ _ _ _ _ this
    exact this
theorem over : Rows.pickMakesRow.holds Tryz.pinned (OpenSpec.ofChange Rows.pickMakesSpec) :=
  OpenClaim.holds_of_wide 6 Tryz.f6 rfl rfl rfl rfl rfl rfl rfl ⟨rfl, rfl, rfl, rfl, rfl⟩ rfl rfl rfl rfl rfl (by kernel_rfl) Tryz.func6 (by kernel_rfl)
    (of_decide_eq_true (by kernel_rfl)) (by unfold Func.isWrapper; first | (rw [if_pos (by decide +kernel)]; kernel_rfl) | (rw [if_neg (by decide +kernel)]; exact ⟨rfl, rfl⟩))
    (fun os started H enc _ => lifted os started H enc)
theorem proved : Rows.PickMakesSaid := over
end Go.Proofs.YtlflghggdpbcnaaGreat.pickMakes
