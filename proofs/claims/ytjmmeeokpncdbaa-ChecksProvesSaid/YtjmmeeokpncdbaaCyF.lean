/-
  What a fact proves may be accessed at each of its offsets: for every layout, fact, size and offset the law returns true, and its arguments read as they did.
-/
import Derived.Test.YtjmmeeokpncdbaaRows
import Derived.WalkKit
import Derived.ProofKit
import Derived.OpenShut
import Derived.Test.YtjmmeeokpncdbaaCyD
import Derived.Test.YtjmmeeokpncdbaaCyE
set_option linter.unusedSimpArgs false
set_option linter.unusedVariables false
namespace Go.Proofs.Ytjmmeeokpncdbaa.checksProves
open Go.ChangeShapes Go.WideShapes Go.ChangeAt Go.RowKit Go.Cm
theorem own : ownKnob Try.prog.godebug = none := by kernel_rfl
theorem laid : laidOutB Try.prog = true := by kernel_rfl
set_option maxRecDepth 100000 in
theorem lifted (os : Os) (started : os.Started) (H : Type) (enc : TypeId × Value → H) :
    ReturnsInHanded {} Try.checked os 5 .any (Rows.checksProvesSpec.pre6 enc Try.prog Try.f5 Rows.checksProvesRow.domain false) (Rows.checksProvesSpec.post enc Try.prog Try.f5 false true false false) := by
  refine returnsInHanded_of_change (C := Try.checked) own started (by kernel_rfl) Try.func5
    (ChangeSpec.witness6 (enc := enc) (C := Try.checked) false ⟨#[], #[.agg #[.int .i64 0, .bool false, .slice none 0 0], .agg #[.bool false, .int .i64 0, .int .i64 0, .int .i64 0], .int .i64 0, .bool false, .int .i64 0], []⟩ 8 (by kernel_rfl) (by kernel_rfl) (by kernel_rfl) (by kernel_rfl)) ?_
  intro W base args ds gs before hval hW hcnd _
  refine contract_true (n := 6) laid (by kernel_rfl) rfl (tb := 4) (by kernel_rfl) Try.underlying4 ?_ ?_ hval hW
  · intro ds hl
    have hl' : ds.length = 5 := hl
    match ds, hl' with
    | [d0, d1, d2, d3, d4], _ => rfl
  · intro xs h
    have h : oks (D.ok Try.prog 6) Try.f5.params.toList xs := h
    rw [Try.params5] at h
    obtain ⟨e1, r1, rfl, k1, h⟩ := oks_cons h
    obtain ⟨e2, r2, rfl, k2, h⟩ := oks_cons h
    obtain ⟨e3, r3, rfl, k3, h⟩ := oks_cons h
    obtain ⟨e4, r4, rfl, k4, h⟩ := oks_cons h
    obtain ⟨e5, r5, rfl, k5, h⟩ := oks_cons h
    obtain rfl := oks_nil h
    obtain ⟨l, ⟨_, q1⟩, w1⟩ := lay_of (n := 2) k1
    obtain ⟨f, ⟨_, q2⟩, w2⟩ := fact_of (n := 4) k2
    obtain ⟨x3, rfl, w3⟩ := ok_i64 Try.underlying3 k3
    obtain ⟨x4, rfl⟩ := ok_bool Try.underlying4 k4
    obtain ⟨x5, rfl, w5⟩ := ok_i64 Try.underlying2 k5
    refine ⟨[], ?_⟩
    have := Fw_sim EE_sim plainN mixed _ _ _ _ _ (Go.Cm.x5 l f w2 x3 x4 x5 w3)
    rw [← q1, ← q2] at this
    exact this
theorem over : Rows.checksProvesRow.holds Try.pinned (OpenSpec.ofChange Rows.checksProvesSpec) :=
  OpenClaim.holds_of_wide 5 Try.f5 rfl rfl rfl rfl rfl rfl rfl ⟨rfl, rfl, rfl, rfl, rfl⟩ rfl rfl rfl rfl rfl (by kernel_rfl) Try.func5 (by kernel_rfl)
    (of_decide_eq_true (by kernel_rfl)) (by unfold Func.isWrapper; first | (rw [if_pos (by decide +kernel)]; kernel_rfl) | (rw [if_neg (by decide +kernel)]; exact ⟨rfl, rfl⟩))
    (fun os started H enc _ => lifted os started H enc)
theorem proved : Rows.ChecksProvesSaid := over
end Go.Proofs.Ytjmmeeokpncdbaa.checksProves
