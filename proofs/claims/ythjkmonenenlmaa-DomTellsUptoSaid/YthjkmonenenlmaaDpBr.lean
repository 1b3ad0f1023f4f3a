/-
  For every graph of which little comes in, and two numbers, the law says true: who dominates whom, and its arguments read as they did.
-/
import Derived.Test.YthjkmonenenlmaaRows
import Derived.WalkKit
import Derived.ProofKit
import Derived.OpenShut
import Derived.JoinedCond
import Derived.Test.YthjkmonenenlmaaDpA
import Derived.Test.YthjkmonenenlmaaDoT
set_option linter.unusedSimpArgs false
set_option linter.unusedVariables false
namespace Go.Proofs.Ythjkmonenenlmaa.domTells
open Go.ChangeShapes Go.WideShapes Go.ChangeAt Go.RowKit Go.Cm
theorem own : ownKnob Try.prog.godebug = none := by kernel_rfl
theorem laid : laidOutB Try.prog = true := by kernel_rfl
theorem bulkAll {H : Type} (l : List (DataW H)) : Rows.uptoBulkAll l = (l.map Rows.uptoBulk).sum := by
  induction l with
  | nil => rfl
  | cons d l ih => simp only [Rows.uptoBulkAll, ih, List.map_cons, List.sum_cons]
theorem bulkOK {H : Type} : BulkOK (H := H) Rows.uptoBulk where
  lit l := by cases l <;> simp [Rows.uptoBulk]
  str b := by simp [Rows.uptoBulk]
  nil := by simp [Rows.uptoBulk]
  slice es sp := by simp only [Rows.uptoBulk, bulkAll]; omega
  agg ps := by simp only [Rows.uptoBulk, bulkAll]; omega
set_option maxRecDepth 100000 in
theorem lifted (os : Os) (started : os.Started) (H : Type) (enc : TypeId × Value → H) (F : Stop.Interp) :
    ReturnsInHanded {} Try.checked os 4 .any ((Rows.OpenSpec.upto Rows.domTellsSpec).pre6 enc Try.prog Try.f4 Rows.domTellsUptoRow.domain false) (((Rows.OpenSpec.upto Rows.domTellsSpec).at F).post enc Try.prog Try.f4 false true false false) := by
  refine returnsInHanded_of_cond (C := Try.checked) (s := Rows.OpenSpec.upto Rows.domTellsSpec) (k := Rows.uptoSmall) rfl own started (by kernel_rfl) Try.func4
    (OpenSpec.witness (enc := enc) (C := Try.checked) (s := Rows.OpenSpec.upto Rows.domTellsSpec) (k := Rows.uptoSmall) rfl false ⟨#[], #[.slice none 0 0, .int .i64 0, .int .i64 0], []⟩ 8 (by kernel_rfl) (by kernel_rfl) (by kernel_rfl)
      (x := ([.nil, .lit (.int .i64 0), .lit (.int .i64 0)], [], [])) (by kernel_rfl) rfl (by kernel_rfl)) ?_
  intro W base args ds gs before hval hW _ hk _
  have hB : ((ds ++ gs).map Rows.uptoBulk).sum ≤ 1048576 := by
    rw [← bulkAll]
    exact of_decide_eq_true hk
  refine contract_bulk (n := 5) (s := Rows.domTellsSpec) laid (by kernel_rfl) rfl (tb := 4) (by kernel_rfl) Try.underlying4 ?_ ?_ hval _ bulkOK hB hW
  · intro ds hl
    have hl' : ds.length = 3 := hl
    match ds, hl' with
    | [d0, d1, d2], _ => rfl
  · intro xs h hb
    have h : oks (D.ok Try.prog 5) Try.f4.params.toList xs := h
    rw [Try.params4] at h
    obtain ⟨e1, r1, rfl, k1, h⟩ := oks_cons h
    obtain ⟨e2, r2, rfl, k2, h⟩ := oks_cons h
    obtain ⟨e3, r3, rfl, k3, h⟩ := oks_cons h
    obtain rfl := oks_nil h
    simp only [D.bulkL] at hb
    obtain ⟨g, q1, w1, w2⟩ := graphB_of (n := 2) k1
    obtain ⟨x2, rfl, _⟩ := ok_i64 Try.underlying3 k2
    obtain ⟨x3, rfl, _⟩ := ok_i64 Try.underlying3 k3
    obtain ⟨_, ⟨H', rfl⟩, this⟩ := Go.Cm.x4 g (fun r hr => by have := w2 r hr; omega) (by omega) x2 x3
    refine ⟨H', ?_⟩
    have := Fw_sim EE_sim plainN mixed _ _ _ _ _ this
    rw [← q1] at this
    exact this
theorem over : Rows.domTellsUptoRow.holds Try.pinned (Rows.OpenSpec.upto Rows.domTellsSpec) :=
  OpenClaim.holds_of_cond 4 Try.f4 rfl rfl rfl rfl rfl rfl rfl ⟨rfl, rfl, rfl, rfl, rfl⟩ rfl rfl rfl rfl rfl (by kernel_rfl) Try.func4 (by kernel_rfl)
    (of_decide_eq_true (by kernel_rfl)) (by unfold Func.isWrapper; first | (rw [if_pos (by decide +kernel)]; kernel_rfl) | (rw [if_neg (by decide +kernel)]; exact ⟨rfl, rfl⟩))
    (fun os started H enc _ F => lifted os started H enc F)
theorem proved : Rows.DomTellsUptoSaid := over
end Go.Proofs.Ythjkmonenenlmaa.domTells
