/-
  For every drafts, marks, place and gap the law says true: the same where a gap of jumps stands between.
-/
import Derived.Test.YtlflghggdpbcnaaGreatRows
import Derived.WalkKit
import Derived.ProofKit
import Derived.OpenShut
import Derived.SizedLaws
import Derived.Test.YtlflghggdpbcnaaGreatGzM
import Derived.Test.YtlflghggdpbcnaaGreatGwX
set_option linter.unusedSimpArgs false
set_option linter.unusedVariables false
namespace Go.Proofs.YtlflghggdpbcnaaGreat.pickFar
open Go.ChangeShapes Go.WideShapes Go.ChangeAt Go.RowKit Go.Cm
theorem own : ownKnob Tryz.prog.godebug = none := by kernel_rfl
theorem laid : laidOutB Tryz.prog = true := by kernel_rfl
set_option maxRecDepth 100000 in
theorem lifted (os : Os) (started : os.Started) (H : Type) (enc : TypeId × Value → H) :
    ReturnsInHanded {} Tryz.checked os 10 .any (Rows.pickFarSpec.pre6 enc Tryz.prog Tryz.f10 Rows.pickFarRow.domain false) (Rows.pickFarSpec.post enc Tryz.prog Tryz.f10 false true false false) := by
  refine returnsInHanded_of_change_sized (C := Tryz.checked) own started (by kernel_rfl) Tryz.func10
    (ChangeSpec.witness6 (enc := enc) (C := Tryz.checked) false ⟨#[], #[.slice none 0 0, .slice none 0 0, .int .i64 0, .int .i64 0], []⟩ 8 (by kernel_rfl) (by kernel_rfl) (by kernel_rfl) (by kernel_rfl)) ?_
  intro W base args ds gs before hval hW hcnd hwt _
  refine contract_sized (n := 8) laid (by kernel_rfl) rfl (tb := 4) (by kernel_rfl) Tryz.underlying4 ?_ ?_ hval hwt hW
  · intro ds hl
    have hl' : ds.length = 4 := hl
    match ds, hl' with
    | [d0, d1, d2, d3], _ => rfl
  · intro xs h hf
    have h : oks (D.ok Tryz.prog 8) Tryz.f10.params.toList xs := h
    have hf : oks (D.fit Tryz.prog 8) Tryz.f10.params.toList xs := hf
    rw [Tryz.params10] at h hf
    obtain ⟨e1, r1, rfl, k1, h⟩ := oks_cons h
    obtain ⟨e2, r2, rfl, k2, h⟩ := oks_cons h
    obtain ⟨e3, r3, rfl, k3, h⟩ := oks_cons h
    obtain ⟨e4, r4, rfl, k4, h⟩ := oks_cons h
    obtain rfl := oks_nil h
    obtain ⟨l, q1, w1⟩ := drafts_of (n := 4) k1
    obtain ⟨ms, q2, w2⟩ := ints_of (n := 6) k2
    obtain ⟨a, rfl, _⟩ := ok_i64 Tryz.underlying3 k3
    obtain ⟨g, rfl, _⟩ := ok_i64 Tryz.underlying3 k4
    obtain ⟨_, ⟨H', rfl⟩, this⟩ := Go.Cm.x10 l ms a g w1 w2
    refine ⟨H', ?_⟩
    have := Fw_sim EE_sim plainN mixed _ _ _ _ _ this
    rw [← q1, ← q2] at this
    exact this
theorem over : Rows.pickFarRow.holds Tryz.pinned (OpenSpec.ofChange Rows.pickFarSpec) :=
  OpenClaim.holds_of_wide 10 Tryz.f10 rfl rfl rfl rfl rfl rfl rfl ⟨rfl, rfl, rfl, rfl, rfl⟩ rfl rfl rfl rfl rfl (by kernel_rfl) Tryz.func10 (by kernel_rfl)
    (of_decide_eq_true (by kernel_rfl)) (by unfold Func.isWrapper; first | (rw [if_pos (by decide +kernel)]; kernel_rfl) | (rw [if_neg (by decide +kernel)]; exact ⟨rfl, rfl⟩))
    (fun os started H enc _ => lifted os started H enc)
theorem proved : Rows.PickFarSaid := over
end Go.Proofs.YtlflghggdpbcnaaGreat.pickFar
