import Derived.Test.YtjhndbgokapikaaFoK
import Derived.Test.YtjhndbgokapikaaFyC
import Derived.Test.YtjhndbgokapikaaCxH
set_option linter.unusedSimpArgs false
set_option linter.unusedVariables false
namespace Go.Cm
open Go.Proofs Go.Fl
def jRB (op : Int) : Bool := !(decide (op < 0) || (decide (255 < op) || ((decide (bitop .and .i64 op 7 ≠ 5) && decide (bitop .and .i64 op 7 ≠ 6)) || (decide (bitop .andNot .i64 op 15 = 0) || (decide (bitop .andNot .i64 op 15 = 128) || (decide (bitop .andNot .i64 op 15 = 144) || decide (208 < bitop .andNot .i64 op 15)))))))
theorem jR_nat : ∀ n : Nat, n < 256 → jRB n = jB n := by decide +kernel
theorem jRB_eq (op : Int) : jRB op = jB op := by
  by_cases h : op < 0 ∨ 255 < op
  · have h1 : jRB op = false := by
      unfold jRB
      rcases h with h | h
      · rw [decide_eq_true h]; rfl
      · rw [decide_eq_true h, Bool.true_or, Bool.or_true]; rfl
    have h2 : cls op = -1 := by rw [cls, if_pos h]
    rw [h1, jB, h2]; rfl
  · have h3 := jR_nat op.toNat (by omega)
    rw [show ((op.toNat : Nat) : Int) = op by omega] at h3
    exact h3
set_option maxHeartbeats 4000000 in
theorem x33 (op : Int) : ∃ r, (∃ a b, r = (CV.tuple [.int .i64 a, .bool b, .bool (jB op)], [])) ∧ FF 33 [.int .i64 op] [] = some r := by
  rw [← jRB_eq]
  obtain ⟨c, hc⟩ : ∃ c, c = bitop .and .i64 op 7 := ⟨_, rfl⟩
  obtain ⟨o, ho⟩ : ∃ o, o = bitop .andNot .i64 op 15 := ⟨_, rfl⟩
  have hj : jRB op = !(decide (op < 0) || (decide (255 < op) || ((decide (c ≠ 5) && decide (c ≠ 6)) || (decide (o = 0) || (decide (o = 128) || (decide (o = 144) || decide (208 < o))))))) := by rw [hc, ho]; rfl
  have hf : (op < 0 ∨ 255 < op ∨ (c ≠ 5 ∧ c ≠ 6) ∨ o = 0 ∨ o = 128 ∨ o = 144 ∨ 208 < o) → jRB op = false := fun h => by
    rw [hj]; simp; omega
  have ht : ¬ (op < 0 ∨ 255 < op ∨ (c ≠ 5 ∧ c ≠ 6) ∨ o = 0 ∨ o = 128 ∨ o = 144 ∨ 208 < o) → jRB op = true := fun h => by
    rw [hj]; simp; omega
  clear hj
  by_cases h1 : op < 0
  · rw [hf (by omega)]
    refine Fw_funE rfl Try.func33 s33 (Nat.le_of_ble_eq_true rfl) (fun Q hqr hqn => ?_)
    rw [cin_t (show An.pure 33 = true from rfl) (by simp only [cans, can_int, can_bool, can_agg, can_str])]
    simp only [tinit, Nat.reduceAdd, c33]
    repeat' (first
    | with_reducible (first | refine Tx_assoc ?_ | refine Tx_yesK rfl ?_ | refine Tx_retK ?_)
    | (with_reducible (first | (refine Tx_regK (fun K hK => ?_); (first | refine t33r0 ?_ | refine t33r1 ?_ | refine t33r2 ?_ | refine t33r3 ?_ | refine t33r4 ?_)) | refine hqr _ ?_); (try simp only [true_implies, false_implies, not_true_eq_false, tget_cons, if_true, if_false, Nat.reduceEqDiff, Obt_some, Kn_normal, Obt_lss, Obt_gtr, Obt_eql, Obt_neq, gdO_tt, gdO_tf, gdO_ff, gdO_ft, gdO_skip, Option.map_some, pickX_t, pickX_f, Obt_map, Obt_and, Obt_andNot, and_true, if_false, if_true, r33, tend, tresAll, tresC, Option.bind_some, mapMem, retv_int, retv_bool, tup_two, Prod.mk.injEq, ← hc, ← ho, h1, gt_iff_lt, ne_eq]))
    | (revert hK; intro hK; (with_reducible refine hK _ ?_; clear hK K)))
    all_goals first | exact ⟨_, _, rfl, rfl⟩ | exact ⟨_, _, rfl⟩
  by_cases h2 : 255 < op
  · rw [hf (by omega)]
    refine Fw_funE rfl Try.func33 s33 (Nat.le_of_ble_eq_true rfl) (fun Q hqr hqn => ?_)
    rw [cin_t (show An.pure 33 = true from rfl) (by simp only [cans, can_int, can_bool, can_agg, can_str])]
    simp only [tinit, Nat.reduceAdd, c33]
    repeat' (first
    | with_reducible (first | refine Tx_assoc ?_ | refine Tx_yesK rfl ?_ | refine Tx_retK ?_)
    | (with_reducible (first | (refine Tx_regK (fun K hK => ?_); (first | refine t33r0 ?_ | refine t33r1 ?_ | refine t33r2 ?_ | refine t33r3 ?_ | refine t33r4 ?_)) | refine hqr _ ?_); (try simp only [true_implies, false_implies, not_true_eq_false, not_false_eq_true, tget_cons, if_true, if_false, Nat.reduceEqDiff, Obt_some, Kn_normal, Obt_lss, Obt_gtr, Obt_eql, Obt_neq, gdO_tt, gdO_tf, gdO_ff, gdO_ft, gdO_skip, Option.map_some, pickX_t, pickX_f, Obt_map, Obt_and, Obt_andNot, and_true, true_and, if_false, if_true, r33, tend, tresAll, tresC, Option.bind_some, mapMem, retv_int, retv_bool, tup_two, Prod.mk.injEq, ← hc, ← ho, h1, h2, gt_iff_lt, ne_eq]))
    | (revert hK; intro hK; (with_reducible refine hK _ ?_; clear hK K)))
    all_goals first | exact ⟨_, _, rfl, rfl⟩ | exact ⟨_, _, rfl⟩
  by_cases h5 : c = 5 ∨ c = 6
  · have hcc : (c = 5) ∨ (¬ c = 5 ∧ c = 6) := by omega
    by_cases o1 : o = 0
    · rw [hf (by omega)]
      rcases hcc with h | ⟨h, h'⟩
      · refine Fw_funE rfl Try.func33 s33 (Nat.le_of_ble_eq_true rfl) (fun Q hqr hqn => ?_)
        rw [cin_t (show An.pure 33 = true from rfl) (by simp only [cans, can_int, can_bool, can_agg, can_str])]
        simp only [tinit, Nat.reduceAdd, c33]
        repeat' (first
        | with_reducible (first | refine Tx_assoc ?_ | refine Tx_yesK rfl ?_ | refine Tx_retK ?_)
        | (with_reducible (first | (refine Tx_regK (fun K hK => ?_); (first | refine t33r0 ?_ | refine t33r1 ?_ | refine t33r2 ?_ | refine t33r3 ?_ | refine t33r4 ?_)) | refine hqr _ ?_); (try simp only [true_implies, false_implies, not_true_eq_false, not_false_eq_true, tget_cons, if_true, if_false, Nat.reduceEqDiff, Obt_some, Kn_normal, Obt_lss, Obt_gtr, Obt_eql, Obt_neq, gdO_tt, gdO_tf, gdO_ff, gdO_ft, gdO_skip, Option.map_some, pickX_t, pickX_f, Obt_map, Obt_and, Obt_andNot, and_true, true_and, if_false, if_true, r33, tend, tresAll, tresC, Option.bind_some, mapMem, retv_int, retv_bool, tup_two, Prod.mk.injEq, ← hc, ← ho, h1, h2, h, o1, gt_iff_lt, ne_eq]))
        | (revert hK; intro hK; (with_reducible refine hK _ ?_; clear hK K)))
        all_goals first | exact ⟨_, _, rfl, rfl⟩ | exact ⟨_, _, rfl⟩
      · refine Fw_funE rfl Try.func33 s33 (Nat.le_of_ble_eq_true rfl) (fun Q hqr hqn => ?_)
        rw [cin_t (show An.pure 33 = true from rfl) (by simp only [cans, can_int, can_bool, can_agg, can_str])]
        simp only [tinit, Nat.reduceAdd, c33]
        repeat' (first
        | with_reducible (first | refine Tx_assoc ?_ | refine Tx_yesK rfl ?_ | refine Tx_retK ?_)
        | (with_reducible (first | (refine Tx_regK (fun K hK => ?_); (first | refine t33r0 ?_ | refine t33r1 ?_ | refine t33r2 ?_ | refine t33r3 ?_ | refine t33r4 ?_)) | refine hqr _ ?_); (try simp only [true_implies, false_implies, not_true_eq_false, not_false_eq_true, tget_cons, if_true, if_false, Nat.reduceEqDiff, Obt_some, Kn_normal, Obt_lss, Obt_gtr, Obt_eql, Obt_neq, gdO_tt, gdO_tf, gdO_ff, gdO_ft, gdO_skip, Option.map_some, pickX_t, pickX_f, Obt_map, Obt_and, Obt_andNot, and_true, true_and, if_false, if_true, r33, tend, tresAll, tresC, Option.bind_some, mapMem, retv_int, retv_bool, tup_two, Prod.mk.injEq, ← hc, ← ho, h1, h2, h, h', o1, gt_iff_lt, ne_eq]))
        | (revert hK; intro hK; (first | refine And.intro ?_ ?_ | intro _ | omega | (with_reducible refine hK _ ?_; clear hK K))))
        all_goals first | exact ⟨_, _, rfl, rfl⟩ | exact ⟨_, _, rfl⟩
    by_cases o2 : o = 128
    · rw [hf (by omega)]
      rcases hcc with h | ⟨h, h'⟩
      · refine Fw_funE rfl Try.func33 s33 (Nat.le_of_ble_eq_true rfl) (fun Q hqr hqn => ?_)
        rw [cin_t (show An.pure 33 = true from rfl) (by simp only [cans, can_int, can_bool, can_agg, can_str])]
        simp only [tinit, Nat.reduceAdd, c33]
        repeat' (first
        | with_reducible (first | refine Tx_assoc ?_ | refine Tx_yesK rfl ?_ | refine Tx_retK ?_)
        | (with_reducible (first | (refine Tx_regK (fun K hK => ?_); (first | refine t33r0 ?_ | refine t33r1 ?_ | refine t33r2 ?_ | refine t33r3 ?_ | refine t33r4 ?_)) | refine hqr _ ?_); (try simp only [true_implies, false_implies, not_true_eq_false, not_false_eq_true, tget_cons, if_true, if_false, Nat.reduceEqDiff, Obt_some, Kn_normal, Obt_lss, Obt_gtr, Obt_eql, Obt_neq, gdO_tt, gdO_tf, gdO_ff, gdO_ft, gdO_skip, Option.map_some, pickX_t, pickX_f, Obt_map, Obt_and, Obt_andNot, and_true, true_and, if_false, if_true, r33, tend, tresAll, tresC, Option.bind_some, mapMem, retv_int, retv_bool, tup_two, Prod.mk.injEq, ← hc, ← ho, h1, h2, h, o1, o2, gt_iff_lt, ne_eq]))
        | (revert hK; intro hK; (first | refine And.intro ?_ ?_ | intro _ | omega | (with_reducible refine hK _ ?_; clear hK K))))
        all_goals first | exact ⟨_, _, rfl, rfl⟩ | exact ⟨_, _, rfl⟩
      · refine Fw_funE rfl Try.func33 s33 (Nat.le_of_ble_eq_true rfl) (fun Q hqr hqn => ?_)
        rw [cin_t (show An.pure 33 = true from rfl) (by simp only [cans, can_int, can_bool, can_agg, can_str])]
        simp only [tinit, Nat.reduceAdd, c33]
        repeat' (first
        | with_reducible (first | refine Tx_assoc ?_ | refine Tx_yesK rfl ?_ | refine Tx_retK ?_)
        | (with_reducible (first | (refine Tx_regK (fun K hK => ?_); (first | refine t33r0 ?_ | refine t33r1 ?_ | refine t33r2 ?_ | refine t33r3 ?_ | refine t33r4 ?_)) | refine hqr _ ?_); (try simp only [true_implies, false_implies, not_true_eq_false, not_false_eq_true, tget_cons, if_true, if_false, Nat.reduceEqDiff, Obt_some, Kn_normal, Obt_lss, Obt_gtr, Obt_eql, Obt_neq, gdO_tt, gdO_tf, gdO_ff, gdO_ft, gdO_skip, Option.map_some, pickX_t, pickX_f, Obt_map, Obt_and, Obt_andNot, and_true, true_and, if_false, if_true, r33, tend, tresAll, tresC, Option.bind_some, mapMem, retv_int, retv_bool, tup_two, Prod.mk.injEq, ← hc, ← ho, h1, h2, h, h', o1, o2, gt_iff_lt, ne_eq]))
        | (revert hK; intro hK; (first | refine And.intro ?_ ?_ | intro _ | omega | (with_reducible refine hK _ ?_; clear hK K))))
        all_goals first | exact ⟨_, _, rfl, rfl⟩ | exact ⟨_, _, rfl⟩
    by_cases o3 : o = 144
    · rw [hf (by omega)]
      rcases hcc with h | ⟨h, h'⟩
      · refine Fw_funE rfl Try.func33 s33 (Nat.le_of_ble_eq_true rfl) (fun Q hqr hqn => ?_)
        rw [cin_t (show An.pure 33 = true from rfl) (by simp only [cans, can_int, can_bool, can_agg, can_str])]
        simp only [tinit, Nat.reduceAdd, c33]
        repeat' (first
        | with_reducible (first | refine Tx_assoc ?_ | refine Tx_yesK rfl ?_ | refine Tx_retK ?_)
        | (with_reducible (first | (refine Tx_regK (fun K hK => ?_); (first | refine t33r0 ?_ | refine t33r1 ?_ | refine t33r2 ?_ | refine t33r3 ?_ | refine t33r4 ?_)) | refine hqr _ ?_); (try simp only [true_implies, false_implies, not_true_eq_false, not_false_eq_true, tget_cons, if_true, if_false, Nat.reduceEqDiff, Obt_some, Kn_normal, Obt_lss, Obt_gtr, Obt_eql, Obt_neq, gdO_tt, gdO_tf, gdO_ff, gdO_ft, gdO_skip, Option.map_some, pickX_t, pickX_f, Obt_map, Obt_and, Obt_andNot, and_true, true_and, if_false, if_true, r33, tend, tresAll, tresC, Option.bind_some, mapMem, retv_int, retv_bool, tup_two, Prod.mk.injEq, ← hc, ← ho, h1, h2, h, o1, o2, o3, gt_iff_lt, ne_eq]))
        | (revert hK; intro hK; (first | refine And.intro ?_ ?_ | intro _ | omega | (with_reducible refine hK _ ?_; clear hK K))))
        all_goals first | exact ⟨_, _, rfl, rfl⟩ | exact ⟨_, _, rfl⟩
      · refine Fw_funE rfl Try.func33 s33 (Nat.le_of_ble_eq_true rfl) (fun Q hqr hqn => ?_)
        rw [cin_t (show An.pure 33 = true from rfl) (by simp only [cans, can_int, can_bool, can_agg, can_str])]
        simp only [tinit, Nat.reduceAdd, c33]
        repeat' (first
        | with_reducible (first | refine Tx_assoc ?_ | refine Tx_yesK rfl ?_ | refine Tx_retK ?_)
        | (with_reducible (first | (refine Tx_regK (fun K hK => ?_); (first | refine t33r0 ?_ | refine t33r1 ?_ | refine t33r2 ?_ | refine t33r3 ?_ | refine t33r4 ?_)) | refine hqr _ ?_); (try simp only [true_implies, false_implies, not_true_eq_false, not_false_eq_true, tget_cons, if_true, if_false, Nat.reduceEqDiff, Obt_some, Kn_normal, Obt_lss, Obt_gtr, Obt_eql, Obt_neq, gdO_tt, gdO_tf, gdO_ff, gdO_ft, gdO_skip, Option.map_some, pickX_t, pickX_f, Obt_map, Obt_and, Obt_andNot, and_true, true_and, if_false, if_true, r33, tend, tresAll, tresC, Option.bind_some, mapMem, retv_int, retv_bool, tup_two, Prod.mk.injEq, ← hc, ← ho, h1, h2, h, h', o1, o2, o3, gt_iff_lt, ne_eq]))
        | (revert hK; intro hK; (first | refine And.intro ?_ ?_ | intro _ | omega | (with_reducible refine hK _ ?_; clear hK K))))
        all_goals first | exact ⟨_, _, rfl, rfl⟩ | exact ⟨_, _, rfl⟩
    by_cases o4 : 208 < o
    · rw [hf (by omega)]
      rcases hcc with h | ⟨h, h'⟩
      · refine Fw_funE rfl Try.func33 s33 (Nat.le_of_ble_eq_true rfl) (fun Q hqr hqn => ?_)
        rw [cin_t (show An.pure 33 = true from rfl) (by simp only [cans, can_int, can_bool, can_agg, can_str])]
        simp only [tinit, Nat.reduceAdd, c33]
        repeat' (first
        | with_reducible (first | refine Tx_assoc ?_ | refine Tx_yesK rfl ?_ | refine Tx_retK ?_)
        | (with_reducible (first | (refine Tx_regK (fun K hK => ?_); (first | refine t33r0 ?_ | refine t33r1 ?_ | refine t33r2 ?_ | refine t33r3 ?_ | refine t33r4 ?_)) | refine hqr _ ?_); (try simp only [true_implies, false_implies, not_true_eq_false, not_false_eq_true, tget_cons, if_true, if_false, Nat.reduceEqDiff, Obt_some, Kn_normal, Obt_lss, Obt_gtr, Obt_eql, Obt_neq, gdO_tt, gdO_tf, gdO_ff, gdO_ft, gdO_skip, Option.map_some, pickX_t, pickX_f, Obt_map, Obt_and, Obt_andNot, and_true, true_and, if_false, if_true, r33, tend, tresAll, tresC, Option.bind_some, mapMem, retv_int, retv_bool, tup_two, Prod.mk.injEq, ← hc, ← ho, h1, h2, h, o1, o2, o3, o4, gt_iff_lt, ne_eq]))
        | (revert hK; intro hK; (with_reducible refine hK _ ?_; clear hK K)))
        all_goals first | exact ⟨_, _, rfl, rfl⟩ | exact ⟨_, _, rfl⟩
      · refine Fw_funE rfl Try.func33 s33 (Nat.le_of_ble_eq_true rfl) (fun Q hqr hqn => ?_)
        rw [cin_t (show An.pure 33 = true from rfl) (by simp only [cans, can_int, can_bool, can_agg, can_str])]
        simp only [tinit, Nat.reduceAdd, c33]
        repeat' (first
        | with_reducible (first | refine Tx_assoc ?_ | refine Tx_yesK rfl ?_ | refine Tx_retK ?_)
        | (with_reducible (first | (refine Tx_regK (fun K hK => ?_); (first | refine t33r0 ?_ | refine t33r1 ?_ | refine t33r2 ?_ | refine t33r3 ?_ | refine t33r4 ?_)) | refine hqr _ ?_); (try simp only [true_implies, false_implies, not_true_eq_false, not_false_eq_true, tget_cons, if_true, if_false, Nat.reduceEqDiff, Obt_some, Kn_normal, Obt_lss, Obt_gtr, Obt_eql, Obt_neq, gdO_tt, gdO_tf, gdO_ff, gdO_ft, gdO_skip, Option.map_some, pickX_t, pickX_f, Obt_map, Obt_and, Obt_andNot, and_true, true_and, if_false, if_true, r33, tend, tresAll, tresC, Option.bind_some, mapMem, retv_int, retv_bool, tup_two, Prod.mk.injEq, ← hc, ← ho, h1, h2, h, h', o1, o2, o3, o4, gt_iff_lt, ne_eq]))
        | (revert hK; intro hK; (first | refine And.intro ?_ ?_ | intro _ | omega | (with_reducible refine hK _ ?_; clear hK K))))
        all_goals first | exact ⟨_, _, rfl, rfl⟩ | exact ⟨_, _, rfl⟩
    rw [ht (by omega)]
    rcases hcc with h | ⟨h, h'⟩
    · refine Fw_funE rfl Try.func33 s33 (Nat.le_of_ble_eq_true rfl) (fun Q hqr hqn => ?_)
      rw [cin_t (show An.pure 33 = true from rfl) (by simp only [cans, can_int, can_bool, can_agg, can_str])]
      simp only [tinit, Nat.reduceAdd, c33]
      repeat' (first
      | with_reducible (first | refine Tx_assoc ?_ | refine Tx_nopK ?_ | refine Tx_noK rfl ?_ | refine Tx_ret ?_)
      | (with_reducible (first | (refine Tx_regK (fun K hK => ?_); (first | refine t33r0 ?_ | refine t33r1 ?_ | refine t33r2 ?_ | refine t33r3 ?_ | refine t33r5 ?_)) | refine hqr _ ?_); (try simp only [true_implies, false_implies, not_true_eq_false, not_false_eq_true, tget_cons, if_true, if_false, Nat.reduceEqDiff, Obt_some, Kn_normal, Obt_lss, Obt_gtr, Obt_eql, Obt_neq, gdO_tt, gdO_tf, gdO_ff, gdO_ft, gdO_skip, Option.map_some, pickX_t, pickX_f, Obt_map, Obt_and, Obt_andNot, and_true, true_and, if_false, if_true, r33, tend, tresAll, tresC, Option.bind_some, mapMem, retv_int, retv_bool, tup_two, Prod.mk.injEq, ← hc, ← ho, h1, h2, h, o1, o2, o3, o4, gt_iff_lt, ne_eq]))
      | (revert hK; intro hK; (with_reducible refine hK _ ?_; clear hK K)))
      all_goals first | exact ⟨_, _, rfl, rfl⟩ | exact ⟨_, _, rfl⟩
    · refine Fw_funE rfl Try.func33 s33 (Nat.le_of_ble_eq_true rfl) (fun Q hqr hqn => ?_)
      rw [cin_t (show An.pure 33 = true from rfl) (by simp only [cans, can_int, can_bool, can_agg, can_str])]
      simp only [tinit, Nat.reduceAdd, c33]
      repeat' (first
      | with_reducible (first | refine Tx_assoc ?_ | refine Tx_nopK ?_ | refine Tx_noK rfl ?_ | refine Tx_ret ?_)
      | (with_reducible (first | (refine Tx_regK (fun K hK => ?_); (first | refine t33r0 ?_ | refine t33r1 ?_ | refine t33r2 ?_ | refine t33r3 ?_ | refine t33r5 ?_)) | refine hqr _ ?_); (try simp only [true_implies, false_implies, not_true_eq_false, not_false_eq_true, tget_cons, if_true, if_false, Nat.reduceEqDiff, Obt_some, Kn_normal, Obt_lss, Obt_gtr, Obt_eql, Obt_neq, gdO_tt, gdO_tf, gdO_ff, gdO_ft, gdO_skip, Option.map_some, pickX_t, pickX_f, Obt_map, Obt_and, Obt_andNot, and_true, true_and, if_false, if_true, r33, tend, tresAll, tresC, Option.bind_some, mapMem, retv_int, retv_bool, tup_two, Prod.mk.injEq, ← hc, ← ho, h1, h2, h, h', o1, o2, o3, o4, gt_iff_lt, ne_eq]))
      | (revert hK; intro hK; (first | refine And.intro ?_ ?_ | intro _ | omega | (with_reducible refine hK _ ?_; clear hK K))))
      all_goals first | exact ⟨_, _, rfl, rfl⟩ | exact ⟨_, _, rfl⟩
  · rw [hf (by omega)]
    have h5' : ¬ c = 5 := fun h => h5 (.inl h)
    have h6' : ¬ c = 6 := fun h => h5 (.inr h)
    refine Fw_funE rfl Try.func33 s33 (Nat.le_of_ble_eq_true rfl) (fun Q hqr hqn => ?_)
    rw [cin_t (show An.pure 33 = true from rfl) (by simp only [cans, can_int, can_bool, can_agg, can_str])]
    simp only [tinit, Nat.reduceAdd, c33]
    repeat' (first
    | with_reducible (first | refine Tx_assoc ?_ | refine Tx_yesK rfl ?_ | refine Tx_retK ?_)
    | (with_reducible (first | (refine Tx_regK (fun K hK => ?_); (first | refine t33r0 ?_ | refine t33r1 ?_ | refine t33r2 ?_ | refine t33r3 ?_ | refine t33r4 ?_)) | refine hqr _ ?_); (try simp only [true_implies, false_implies, not_false_eq_true, tget_cons, if_true, if_false, Nat.reduceEqDiff, Obt_some, Kn_normal, Obt_lss, Obt_gtr, Obt_eql, Obt_neq, gdO_tt, gdO_tf, gdO_ff, gdO_ft, gdO_skip, Option.map_some, pickX_t, pickX_f, Obt_map, Obt_and, Obt_andNot, and_true, true_and, if_false, if_true, r33, tend, tresAll, tresC, Option.bind_some, mapMem, retv_int, retv_bool, tup_two, Prod.mk.injEq, ← hc, ← ho, h1, h2, h5', h6', gt_iff_lt, ne_eq]))
    | (revert hK; intro hK; (with_reducible refine hK _ ?_; clear hK K)))
    all_goals first | exact ⟨_, _, rfl, rfl⟩ | exact ⟨_, _, rfl⟩
set_option maxHeartbeats 2000000 in
theorem x32 (p : List In) (i : Int) (hp : p.length ≤ 9223372036854775807) : FF 32 [sl inC p, .int .i64 i] [] = some (.bool (holeI p i), []) := by
  by_cases h1 : i < 1
  · have he : holeI p i = false := by unfold holeI; rw [decide_eq_false (by omega)]; rfl
    refine Fw_funK rfl Try.func32 s32 (Nat.le_of_ble_eq_true rfl) (fun Q hqr hqn => ?_)
    rw [cin_t (show An.pure 32 = true from rfl) (by simp only [cans, can_int, can_bool, can_agg, can_str, inE.can_sl])]
    simp only [tinit, Nat.reduceAdd, c32]
    repeat' (first
    | with_reducible (first | refine Tx_assoc ?_ | refine Tx_yesK rfl ?_ | refine Tx_retK ?_)
    | (with_reducible (first | (refine Tx_regK (fun K hK => ?_); (first | refine t32r0 ?_ | refine t32r1 ?_ | refine t32r2 ?_)) | refine hqr _ ?_); (try simp only [true_implies, false_implies, not_true_eq_false, tget_cons, if_true, if_false, Nat.reduceEqDiff, Obt_some, Kn_normal, Obt_lss, Obt_geq, gdO_tf, gdO_ff, Option.map_some, pickX_t, pickX_f, lenS, Obt_map, Obt_sub, and_true, if_false, if_true, r32, tend, tresAll, tresC, Option.bind_some, mapMem, retv_bool, tup_one, clen_sl, h1, he]))
    | (revert hK; intro hK; (with_reducible refine hK _ ?_; clear hK K)))
  by_cases h2 : (p.length : Int) ≤ i
  · have he : holeI p i = false := by unfold holeI; rw [decide_eq_false (by omega)]; rfl
    refine Fw_funK rfl Try.func32 s32 (Nat.le_of_ble_eq_true rfl) (fun Q hqr hqn => ?_)
    rw [cin_t (show An.pure 32 = true from rfl) (by simp only [cans, can_int, can_bool, can_agg, can_str, inE.can_sl])]
    simp only [tinit, Nat.reduceAdd, c32]
    repeat' (first
    | with_reducible (first | refine Tx_assoc ?_ | refine Tx_yesK rfl ?_ | refine Tx_retK ?_)
    | (with_reducible (first | (refine Tx_regK (fun K hK => ?_); (first | refine t32r0 ?_ | refine t32r1 ?_ | refine t32r2 ?_)) | refine hqr _ ?_); (try simp only [true_implies, false_implies, not_true_eq_false, not_false_eq_true, tget_cons, if_true, if_false, Nat.reduceEqDiff, Obt_some, Kn_normal, Obt_lss, Obt_geq, gdO_tf, gdO_ff, Option.map_some, pickX_t, pickX_f, lenS, Obt_map, Obt_sub, and_true, true_and, if_false, if_true, r32, tend, tresAll, tresC, Option.bind_some, mapMem, retv_bool, tup_one, clen_sl, h1, h2, he, ge_iff_le]))
    | (revert hK; intro hK; (with_reducible refine hK _ ?_; clear hK K)))
  obtain ⟨k, rfl⟩ : ∃ k : Nat, i = k := ⟨i.toNat, by omega⟩
  have hr : holeI p k = decide (wides p k % 2 = 1) := by
    unfold holeI; rw [decide_eq_true ⟨by omega, by omega⟩, Bool.true_and]; rfl
  have w1 : IntKind.i64.wrap ((k : Int) - 1) = k - 1 := wI (by omega) (by omega)
  obtain ⟨x0, hx0⟩ : ∃ x, p[k - 1]? = some x := ⟨_, List.getElem?_eq_getElem (by omega)⟩
  have hix0 := idxS_sl (k := .i64) (i := (k : Int) - 1) inE.len (by omega : 0 < 6) (by omega) (by rw [show ((k : Int) - 1).toNat = k - 1 by omega]; exact hx0)
  rw [hr]
  by_cases h24 : x0.op = 24
  · refine Fw_funK rfl Try.func32 s32 (Nat.le_of_ble_eq_true rfl) (fun Q hqr hqn => ?_)
    rw [cin_t (show An.pure 32 = true from rfl) (by simp only [cans, can_int, can_bool, can_agg, can_str, inE.can_sl])]
    simp only [tinit, Nat.reduceAdd, c32]
    repeat' (first
    | with_reducible (first | refine Tx_assoc ?_ | refine Tx_nopK ?_ | refine Tx_noK rfl ?_ | refine Tx_blockK (id := 0) (fun Q0 hn0 hx0 hr0 ho0 => ?_))
    | (with_reducible (refine Tx_regK (fun K hK => ?_); (first | refine t32r0 ?_ | refine t32r1 ?_ | refine t32r3 ?_ | refine t32r4 ?_)); (try simp only [true_implies, false_implies, not_true_eq_false, not_false_eq_true, tget_cons, if_true, if_false, Nat.reduceEqDiff, Obt_some, Kn_normal, fldA_rptr, List.drop_zero, ld1_r, Obt_lss, Obt_geq, Obt_neq, gdO_tf, gdO_ff, pickX_t, pickX_f, lenS, Obt_map, Obt_sub, List.nil_append, List.cons_append, and_true, true_and, if_false, if_true, clen_sl, h1, h2, ge_iff_le, w1, hix0, inC, h24, ne_eq, eq_self]))
    | (revert hK; intro hK; (with_reducible refine hK _ ?_; clear hK K)))
    refine Tx_loopK (fun m s => ∃ (n : Nat) (L : List (Nat × HO)), n ≤ k ∧ m = k - n ∧ wides p k = n + wides p (k - n) ∧ s = ⟨[(0, sl inC p), (5, .int .i64 n), (6, .int .i64 ((k : Int) - 1 - n))], ⟨L, []⟩⟩) _ ⟨0, _, Nat.zero_le _, rfl, by simp, by simp; rfl⟩ ?_
    rintro m s ⟨n, L, hn, rfl, hw, rfl⟩ QL0 hnL0 hxL0 hrL0
    simp only [c32l0]
    have hend : wides p (k - n) = 0 → decide ((n : Int).tmod 2 = 1) = decide (wides p k % 2 = 1) := fun h => by
      rw [hw, h, Nat.add_zero, Int.tmod_eq_emod_of_nonneg (by omega)]
      exact decide_eq_decide.2 (by omega)
    have h20 : ¬ ((2 : Int) = 0) := by decide
    by_cases hlt : n < k
    · have hge : (0 : Int) ≤ (k : Int) - 1 - n := by omega
      have hkn : k - n = (k - n - 1) + 1 := by omega
      obtain ⟨x, hx⟩ : ∃ x, p[k - n - 1]? = some x := ⟨_, List.getElem?_eq_getElem (by omega)⟩
      have w2 : IntKind.i64.wrap ((k : Int) - 1 - n - 1) = (k : Int) - 1 - ((n + 1 : Nat) : Int) := by rw [wI (by omega) (by omega)]; omega
      have w3 : IntKind.i64.wrap ((n : Int) + 1) = ((n + 1 : Nat) : Int) := by rw [wI (by omega) (by omega)]; omega
      have hix := idxS_sl (k := .i64) (i := (k : Int) - 1 - n) inE.len (by omega : 0 < 6) (by omega) (by rw [show ((k : Int) - 1 - n).toNat = k - n - 1 by omega]; exact hx)
      by_cases h24' : x.op = 24
      · have hws : wides p (k - n) = wides p (k - (n + 1)) + 1 := by
          rw [hkn, wides_step hx h24']
          rfl
        repeat' (first
        | with_reducible (first | refine Tx_assoc ?_ | refine Tx_nopK ?_ | refine Tx_yesK rfl ?_ | refine Tx_blockK (id := 1) (fun Q1 hn1 hx1 hr1 ho1 => ?_) | refine hn1 _ ?_)
        | (with_reducible ((first | refine Tx_regK (fun K hK => ?_) | refine Tx_regE (fun K hK => ?_)); (first | refine t32r5 ?_ | refine t32r7 ?_ | refine t32r6 ?_)); (try simp only [true_implies, false_implies, not_true_eq_false, tget_cons, if_true, if_false, Nat.reduceEqDiff, Obt_some, Kn_normal, fldA_rptr, List.drop_zero, ld1_r, Obt_geq, Obt_eql, gdO_tt, gdO_ft, pickX_t, pickX_f, Obt_map, Obt_add, Obt_sub, List.nil_append, List.cons_append, and_true, if_false, if_true, hge, ge_iff_le, w2, w3, hix, inC, h24']))
        | (revert hK; intro hK; (with_reducible refine hK _ ?_; clear hK K)))
        exact hnL0 (k - (n + 1)) _ (by omega) ⟨n + 1, L, by omega, rfl, by omega, rfl⟩
      · have hws : wides p (k - n) = 0 := by rw [hkn, wides_succ hx, if_neg h24']
        have he := hend hws
        repeat' (first
        | with_reducible (first | refine Tx_assoc ?_ | refine Tx_noK rfl ?_ | refine Tx_exitK ?_ | refine Tx_ret ?_ | refine hx0 _ ?_ | refine hxL0 _ _ ?_)
        | (with_reducible (first | (refine Tx_regK (fun K hK => ?_); (first | refine t32r5 ?_ | refine t32r8 ?_)) | refine hqr _ ?_); (try simp only [true_implies, false_implies, not_true_eq_false, not_false_eq_true, tget_cons, if_true, if_false, Nat.reduceEqDiff, Obt_some, Kn_normal, fldA_rptr, List.drop_zero, ld1_r, Obt_geq, Obt_eql, gdO_tt, gdO_ft, Option.map_some, pickX_t, pickX_f, Obt_map, Obt_rem, List.nil_append, List.cons_append, and_true, true_and, if_false, if_true, r32, tend, tresAll, tresC, Option.bind_some, mapMem, retv_bool, tup_one, Prod.mk.injEq, CV.bool.injEq, hge, ge_iff_le, hix, inC, h24', h20]))
        | (revert hK; intro hK; (first | refine And.intro ?_ ?_ | intro _ | (with_reducible refine hK _ ?_; clear hK K))))
        all_goals (rw [← he]; first | exact (decide_eq_true (by assumption)).symm | exact (decide_eq_false (by assumption)).symm)
    · have hnk : n = k := by omega
      have hge : ¬ ((0 : Int) ≤ (k : Int) - 1 - n) := by omega
      have hws : wides p (k - n) = 0 := by rw [hnk, Nat.sub_self]; rfl
      have he := hend hws
      repeat' (first
      | with_reducible (first | refine Tx_assoc ?_ | refine Tx_noK rfl ?_ | refine Tx_exitK ?_ | refine Tx_ret ?_ | refine hx0 _ ?_ | refine hxL0 _ _ ?_)
      | (with_reducible (first | (refine Tx_regK (fun K hK => ?_); (first | refine t32r5 ?_ | refine t32r8 ?_)) | refine hqr _ ?_); (try simp only [true_implies, false_implies, not_false_eq_true, tget_cons, if_true, if_false, Nat.reduceEqDiff, Obt_some, Kn_normal, Obt_geq, Obt_eql, gdO_tt, gdO_ft, Option.map_some, pickX_t, pickX_f, Obt_map, Obt_rem, and_true, true_and, if_false, if_true, r32, tend, tresAll, tresC, Option.bind_some, mapMem, retv_bool, tup_one, Prod.mk.injEq, CV.bool.injEq, hge, ge_iff_le, h20]))
      | (revert hK; intro hK; (first | refine And.intro ?_ ?_ | intro _ | (with_reducible refine hK _ ?_; clear hK K))))
      all_goals (rw [← he]; first | exact (decide_eq_true (by assumption)).symm | exact (decide_eq_false (by assumption)).symm)
  · have hws : wides p k = 0 := by rw [show k = (k - 1) + 1 by omega, wides_succ hx0, if_neg h24]
    rw [hws]
    refine Fw_funK rfl Try.func32 s32 (Nat.le_of_ble_eq_true rfl) (fun Q hqr hqn => ?_)
    rw [cin_t (show An.pure 32 = true from rfl) (by simp only [cans, can_int, can_bool, can_agg, can_str, inE.can_sl])]
    simp only [tinit, Nat.reduceAdd, c32]
    repeat' (first
    | with_reducible (first | refine Tx_assoc ?_ | refine Tx_yesK rfl ?_ | refine Tx_retK ?_)
    | (with_reducible (first | (refine Tx_regK (fun K hK => ?_); (first | refine t32r0 ?_ | refine t32r1 ?_ | refine t32r2 ?_)) | refine hqr _ ?_); (try simp only [true_implies, false_implies, not_false_eq_true, tget_cons, if_true, if_false, Nat.reduceEqDiff, Obt_some, Kn_normal, fldA_rptr, List.drop_zero, ld1_r, Obt_lss, Obt_geq, Obt_neq, gdO_tf, gdO_ff, Option.map_some, pickX_t, pickX_f, lenS, Obt_map, Obt_sub, List.nil_append, List.cons_append, and_true, true_and, if_false, if_true, r32, tend, tresAll, tresC, Option.bind_some, mapMem, retv_bool, tup_one, Prod.mk.injEq, CV.bool.injEq, clen_sl, h1, h2, ge_iff_le, w1, hix0, inC, h24, ne_eq]))
    | (revert hK; intro hK; (with_reducible refine hK _ ?_; clear hK K)))
    all_goals rfl
theorem k32 {p : List In} {i : Int} (hp : p.length ≤ 9223372036854775807) {fid : FuncId} {d : Tmp} {m : Mem} : callC An FF fid (some d) 32 [sl inC p, .int .i64 i] m = some (.bool (holeI p i), m) :=
  callC_V (x32 p i hp) (fun _ _ _ => rfl) rfl (by simp only [cans, can_int, inE.can_sl]) rfl (by simp only [noGs, noG_int, inE.noG_sl, Bool.and_self]) rfl
set_option maxHeartbeats 2000000 in
theorem x16 (p : List In) (i : Int) (hp : p.length ≤ 4611686018427387904) : FF 16 [sl inC p, .int .i64 i] [] = some (ownC intC 1 (sucI p i), []) := by
  have kH : ∀ t m, callC An FF 16 (some t) 32 [sl inC p, .int .i64 i] m = some (.bool (holeI p i), m) := fun t m => k32 (by omega)
  by_cases h1 : i < 0
  · have he : sucI p i = [] := by show succL jB wrI p i = _; unfold succL; rw [if_pos (.inl h1)]
    rw [he]
    refine Fw_funK rfl Try.func16 s16 (Nat.le_of_ble_eq_true rfl) (fun Q hqr hqn => ?_)
    rw [cin_t (show An.pure 16 = true from rfl) (by simp only [cans, can_int, can_bool, can_agg, can_str, inE.can_sl])]
    simp only [tinit, Nat.reduceAdd, c16]
    repeat' (first
    | with_reducible (first | refine Tx_assoc ?_ | refine Tx_yesK rfl ?_ | refine Tx_retK ?_)
    | (with_reducible (first | (refine Tx_regK (fun K hK => ?_); (first | refine t16r0 ?_ | refine t16r1 ?_ | refine t16r2 ?_)) | refine hqr _ ?_); (try simp only [true_implies, false_implies, not_true_eq_false, tget_cons, if_true, if_false, Nat.reduceEqDiff, Obt_some, Kn_normal, Obt_lss, Obt_geq, gdO_tf, gdO_ff, Option.map_some, pickX_t, pickX_f, lenS, Obt_map, and_true, if_false, if_true, r16, tend, tresAll, tresC, Option.bind_some, mapMem, retv_nil, tup_one, Prod.mk.injEq, clen_sl, h1]))
    | (revert hK; intro hK; (with_reducible refine hK _ ?_; clear hK K)))
    all_goals rfl
  by_cases h2 : (p.length : Int) ≤ i
  · have he : sucI p i = [] := by show succL jB wrI p i = _; unfold succL; rw [if_pos (.inr (.inl h2))]
    rw [he]
    refine Fw_funK rfl Try.func16 s16 (Nat.le_of_ble_eq_true rfl) (fun Q hqr hqn => ?_)
    rw [cin_t (show An.pure 16 = true from rfl) (by simp only [cans, can_int, can_bool, can_agg, can_str, inE.can_sl])]
    simp only [tinit, Nat.reduceAdd, c16]
    repeat' (first
    | with_reducible (first | refine Tx_assoc ?_ | refine Tx_yesK rfl ?_ | refine Tx_retK ?_)
    | (with_reducible (first | (refine Tx_regK (fun K hK => ?_); (first | refine t16r0 ?_ | refine t16r1 ?_ | refine t16r2 ?_)) | refine hqr _ ?_); (try simp only [true_implies, false_implies, not_true_eq_false, not_false_eq_true, tget_cons, if_true, if_false, Nat.reduceEqDiff, Obt_some, Kn_normal, Obt_lss, Obt_geq, gdO_tf, gdO_ff, Option.map_some, pickX_t, pickX_f, lenS, Obt_map, and_true, true_and, if_false, if_true, r16, tend, tresAll, tresC, Option.bind_some, mapMem, retv_nil, tup_one, Prod.mk.injEq, clen_sl, h1, h2, ge_iff_le]))
    | (revert hK; intro hK; (with_reducible refine hK _ ?_; clear hK K)))
    all_goals rfl
  cases hh : holeI p i with
  | true =>
    rw [hh] at kH
    have he : sucI p i = [] := by show succL jB wrI p i = _; unfold succL; rw [if_pos (.inr (.inr hh))]
    rw [he]
    refine Fw_funK rfl Try.func16 s16 (Nat.le_of_ble_eq_true rfl) (fun Q hqr hqn => ?_)
    rw [cin_t (show An.pure 16 = true from rfl) (by simp only [cans, can_int, can_bool, can_agg, can_str, inE.can_sl])]
    simp only [tinit, Nat.reduceAdd, c16]
    repeat' (first
    | with_reducible (first | refine Tx_assoc ?_ | refine Tx_yesK rfl ?_ | refine Tx_retK ?_)
    | (with_reducible (first | (refine Tx_regK (fun K hK => ?_); (first | refine t16r0 ?_ | refine t16r1 ?_ | refine t16r2 ?_)) | refine hqr _ ?_); (try simp only [true_implies, false_implies, not_false_eq_true, tget_cons, if_true, if_false, Nat.reduceEqDiff, Obt_some, Kn_normal, Obt_lss, Obt_geq, gdO_tf, gdO_ff, Option.map_some, pickX_t, pickX_f, lenS, Obt_map, and_true, true_and, if_false, if_true, r16, tend, tresAll, tresC, Option.bind_some, mapMem, retv_nil, tup_one, Prod.mk.injEq, clen_sl, h1, h2, ge_iff_le, kH]))
    | (revert hK; intro hK; (with_reducible refine hK _ ?_; clear hK K)))
    all_goals rfl
  | false =>
    rw [hh] at kH
    obtain ⟨x, hx⟩ : ∃ x, p[i.toNat]? = some x := ⟨_, List.getElem?_eq_getElem (by omega)⟩
    have he : sucI p i = if x.op = 149 then [] else if x.op = 5 then [IntKind.i64.wrap (i + 1 + x.off)] else if jB x.op = true then [i + 1, IntKind.i64.wrap (i + 1 + x.off)] else if x.op = 24 then [i + 2] else [i + 1] := by
      show succL jB wrI p i = _
      unfold succL
      rw [if_neg (by rw [hh]; rintro (h | h | h); exact h1 h; exact h2 h; cases h)]
      simp only [hx]
    have hix := idxS_sl (k := .i64) (i := i) inE.len (by omega : 0 < 6) (by omega) hx
    have w1 : IntKind.i64.wrap (i + 1) = i + 1 := wI (by omega) (by omega)
    have w2 : IntKind.i64.wrap (i + 2) = i + 2 := wI (by omega) (by omega)
    obtain ⟨_, ⟨ja, jb, rfl⟩, h⟩ := x33 x.op
    obtain ⟨J, hJ⟩ : ∃ J, J = jB x.op := ⟨_, rfl⟩
    have kJ : ∀ t m, callC An FF 16 (some t) 33 [.int .i64 x.op] m = some (.tuple [.int .i64 ja, .bool jb, .bool J], m) := fun t m => by rw [hJ]; exact callC_V h (fun _ _ _ => rfl) rfl rfl rfl rfl rfl
    rw [← hJ] at he
    have o1 : ∀ a : Int, ownC intC 1 [a] = .own 1 1 [.int .i64 a] 0 := fun a => rfl
    have o2 : ∀ a b : Int, ownC intC 1 [a, b] = .own 2 1 [.int .i64 a, .int .i64 b] 0 := fun a b => rfl
    by_cases e1 : x.op = 149
    · rw [he, if_pos e1]
      refine Fw_funK rfl Try.func16 s16 (Nat.le_of_ble_eq_true rfl) (fun Q hqr hqn => ?_)
      rw [cin_t (show An.pure 16 = true from rfl) (by simp only [cans, can_int, can_bool, can_agg, can_str, inE.can_sl])]
      simp only [tinit, Nat.reduceAdd, c16]
      repeat' (first
      | with_reducible (first | refine Tx_assoc ?_ | refine Tx_nopK ?_ | refine Tx_noK rfl ?_ | refine Tx_yes rfl ?_ | refine Tx_ret ?_ | refine Tx_blockK (id := 0) (fun Q0 hn0 hx0 hr0 ho0 => ?_) | refine hr0 _ ?_)
      | (with_reducible (first | (refine Tx_regK (fun K hK => ?_); (first | refine t16r0 ?_ | refine t16r1 ?_ | refine t16r3 ?_ | refine t16r4 ?_ | refine t16r5 ?_ | refine t16r6 ?_)) | refine hqr _ ?_); (try simp only [true_implies, false_implies, not_true_eq_false, not_false_eq_true, tget_cons, if_true, if_false, Nat.reduceEqDiff, ccells, Obt_some, Kn_normal, newL_eq, newP_eq, lget_setL, setL_setL, setL_H, Nat.reduceAdd, Nat.zero_add, fldA_ptr, ld1_l, rd1_var, List.getElem?_cons_zero, List.getElem?_cons_succ, Obt_lss, Obt_geq, Obt_eql, gdO_tf, gdO_ff, Option.map_some, pickX_t, pickX_f, lenS, Obt_map, Obt_ext, stX_l, stV_var, splice, List.take_zero, List.drop_succ_cons, List.drop_nil, List.nil_append, List.cons_append, List.append_nil, List.length_cons, List.length_nil, and_self, and_true, true_and, Nat.le_refl, if_false, if_true, r16, tend, tresAll, tresC, Option.bind_some, mapMem, retv_nil, tup_one, Prod.mk.injEq, clen_sl, h1, h2, ge_iff_le, kH, hix, inC, ldA_r6, kJ, eq_true e1]))
      | (revert hK; intro hK; (with_reducible refine hK _ ?_; clear hK K)))
      all_goals first | rfl | simp_all
    by_cases e2 : x.op = 5
    · rw [he, if_neg e1, if_pos e2, o1]
      refine Fw_funK rfl Try.func16 s16 (Nat.le_of_ble_eq_true rfl) (fun Q hqr hqn => ?_)
      rw [cin_t (show An.pure 16 = true from rfl) (by simp only [cans, can_int, can_bool, can_agg, can_str, inE.can_sl])]
      simp only [tinit, Nat.reduceAdd, c16]
      repeat' (first
      | with_reducible (first | refine Tx_assoc ?_ | refine Tx_nopK ?_ | refine Tx_noK rfl ?_ | refine Tx_yes rfl ?_ | refine Tx_no rfl ?_ | refine Tx_ret ?_ | refine Tx_blockK (id := 0) (fun Q0 hn0 hx0 hr0 ho0 => ?_) | refine hr0 _ ?_)
      | (with_reducible (first | (refine Tx_regK (fun K hK => ?_); (first | refine t16r0 ?_ | refine t16r1 ?_ | refine t16r3 ?_ | refine t16r4 ?_ | refine t16r5 ?_ | refine t16r7 ?_ | refine t16r8 ?_)) | refine hqr _ ?_); (try simp only [true_implies, false_implies, not_true_eq_false, not_false_eq_true, tget_cons, if_true, if_false, Nat.reduceEqDiff, ccells, Obt_some, Kn_normal, newL_eq, newP_eq, nmA_f, nmR_f, gn_var, gnext_setL, lget_setL, setL_setL, setL_H, Nat.reduceMul, Nat.reduceAdd, Nat.zero_add, fldA_ptr, List.drop_zero, ld1_l, rd1_var, List.getElem?_cons_zero, List.getElem?_cons_succ, Obt_lss, Obt_geq, Obt_eql, gdO_tf, gdO_ff, Option.map_some, pickX_t, pickX_f, lenS, Obt_map, Obt_add, Obt_ext, Obt_bind, fillX, bslX, escP_list, stX_l, stV_var, splice, List.take_zero, List.take_succ_cons, List.drop_succ_cons, List.drop_nil, List.nil_append, List.cons_append, List.append_nil, List.length_cons, List.length_nil, and_self, and_true, true_and, Nat.le_refl, escP, List.all_cons, List.all_nil, Bool.and_self, if_false, if_true, r16, tend, tresAll, tresC, Option.bind_some, mapMem, retv_l, retR_arr, Nat.sub_self, tup_one, clen_sl, h1, h2, ge_iff_le, kH, hix, inC, ldA_r6, kJ, e1, eq_true e2, w1]))
      | (revert hK; intro hK; (with_reducible refine hK _ ?_; clear hK K)))
      all_goals first | rfl | simp_all
    cases J with
    | true =>
      rw [he, if_neg e1, if_neg e2, if_pos rfl, o2]
      refine Fw_funK rfl Try.func16 s16 (Nat.le_of_ble_eq_true rfl) (fun Q hqr hqn => ?_)
      rw [cin_t (show An.pure 16 = true from rfl) (by simp only [cans, can_int, can_bool, can_agg, can_str, inE.can_sl])]
      simp only [tinit, Nat.reduceAdd, c16]
      repeat' (first
      | with_reducible (first | refine Tx_assoc ?_ | refine Tx_nopK ?_ | refine Tx_noK rfl ?_ | refine Tx_yes rfl ?_ | refine Tx_no rfl ?_ | refine Tx_ret ?_ | refine Tx_blockK (id := 0) (fun Q0 hn0 hx0 hr0 ho0 => ?_) | refine hr0 _ ?_)
      | (with_reducible (first | (refine Tx_regK (fun K hK => ?_); (first | refine t16r0 ?_ | refine t16r1 ?_ | refine t16r3 ?_ | refine t16r4 ?_ | refine t16r5 ?_ | refine t16r7 ?_ | refine t16r9 ?_ | refine t16r10 ?_)) | refine hqr _ ?_); (try simp only [true_implies, false_implies, not_false_eq_true, tget_cons, if_true, if_false, Nat.reduceEqDiff, ccells, Obt_some, Kn_normal, newL_eq, newP_eq, nmA_f, nmR_f, gn_var, gnext_setL, lget_setL, setL_setL, setL_H, Nat.reduceMul, Nat.reduceAdd, Nat.zero_add, fldA_ptr, List.drop_zero, ld1_l, rd1_var, List.getElem?_cons_zero, List.getElem?_cons_succ, Obt_lss, Obt_geq, Obt_eql, gdO_tf, gdO_ff, Option.map_some, pickX_t, pickX_f, lenS, Obt_map, Obt_add, Obt_ext, Obt_bind, fillX, bslX, escP_list, stX_l, stV_var, splice, List.take_zero, List.take_succ_cons, List.drop_succ_cons, List.drop_nil, List.nil_append, List.cons_append, List.append_nil, List.length_cons, List.length_nil, Nat.reduceLeDiff, and_self, and_true, true_and, Nat.le_refl, escP, List.all_cons, List.all_nil, Bool.and_self, if_false, if_true, r16, tend, tresAll, tresC, Option.bind_some, mapMem, retv_l, retR_arr, Nat.sub_self, tup_one, clen_sl, h1, h2, ge_iff_le, kH, hix, inC, ldA_r6, kJ, e1, e2, w1]))
      | (revert hK; intro hK; (with_reducible refine hK _ ?_; clear hK K)))
      all_goals first | rfl | simp_all
    | false =>
      rw [he, if_neg e1, if_neg e2, if_neg (by decide)]
      by_cases e3 : x.op = 24
      · rw [if_pos e3, o1]
        refine Fw_funK rfl Try.func16 s16 (Nat.le_of_ble_eq_true rfl) (fun Q hqr hqn => ?_)
        rw [cin_t (show An.pure 16 = true from rfl) (by simp only [cans, can_int, can_bool, can_agg, can_str, inE.can_sl])]
        simp only [tinit, Nat.reduceAdd, c16]
        repeat' (first
        | with_reducible (first | refine Tx_assoc ?_ | refine Tx_nopK ?_ | refine Tx_noK rfl ?_ | refine Tx_yes rfl ?_ | refine Tx_no rfl ?_ | refine Tx_ret ?_ | refine Tx_blockK (id := 0) (fun Q0 hn0 hx0 hr0 ho0 => ?_) | refine hr0 _ ?_)
        | (with_reducible (first | (refine Tx_regK (fun K hK => ?_); (first | refine t16r0 ?_ | refine t16r1 ?_ | refine t16r3 ?_ | refine t16r4 ?_ | refine t16r5 ?_ | refine t16r7 ?_ | refine t16r9 ?_ | refine t16r11 ?_ | refine t16r12 ?_)) | refine hqr _ ?_); (try simp only [true_implies, false_implies, not_true_eq_false, not_false_eq_true, tget_cons, if_true, if_false, Nat.reduceEqDiff, ccells, Obt_some, Kn_normal, newL_eq, newP_eq, nmA_f, nmR_f, gn_var, gnext_setL, lget_setL, setL_setL, setL_H, Nat.reduceMul, Nat.reduceAdd, Nat.zero_add, fldA_ptr, List.drop_zero, ld1_l, rd1_var, List.getElem?_cons_zero, List.getElem?_cons_succ, Obt_lss, Obt_geq, Obt_eql, gdO_tf, gdO_ff, Option.map_some, pickX_t, pickX_f, lenS, Obt_map, Obt_add, Obt_ext, Obt_bind, fillX, bslX, escP_list, stX_l, stV_var, splice, List.take_zero, List.take_succ_cons, List.drop_succ_cons, List.drop_nil, List.nil_append, List.cons_append, List.append_nil, List.length_cons, List.length_nil, and_self, and_true, true_and, Nat.le_refl, escP, List.all_cons, List.all_nil, Bool.and_self, if_false, if_true, r16, tend, tresAll, tresC, Option.bind_some, mapMem, retv_l, retR_arr, Nat.sub_self, tup_one, clen_sl, h1, h2, ge_iff_le, kH, hix, inC, ldA_r6, kJ, e1, e2, eq_true e3, w2]))
        | (revert hK; intro hK; (with_reducible refine hK _ ?_; clear hK K)))
        all_goals first | rfl | simp_all
      · rw [if_neg e3, o1]
        refine Fw_funK rfl Try.func16 s16 (Nat.le_of_ble_eq_true rfl) (fun Q hqr hqn => ?_)
        rw [cin_t (show An.pure 16 = true from rfl) (by simp only [cans, can_int, can_bool, can_agg, can_str, inE.can_sl])]
        simp only [tinit, Nat.reduceAdd, c16]
        repeat' (first
        | with_reducible (first | refine Tx_assoc ?_ | refine Tx_nopK ?_ | refine Tx_noK rfl ?_ | refine Tx_no rfl ?_ | refine Tx_ret ?_ | refine Tx_nop ?_ | refine Tx_blockK (id := 0) (fun Q0 hn0 hx0 hr0 ho0 => ?_) | refine hn0 _ ?_)
        | (with_reducible (first | (refine Tx_regK (fun K hK => ?_); (first | refine t16r0 ?_ | refine t16r1 ?_ | refine t16r3 ?_ | refine t16r4 ?_ | refine t16r5 ?_ | refine t16r7 ?_ | refine t16r9 ?_ | refine t16r11 ?_ | refine t16r13 ?_)) | refine hqr _ ?_); (try simp only [true_implies, false_implies, not_false_eq_true, tget_cons, if_true, if_false, Nat.reduceEqDiff, ccells, Obt_some, Kn_normal, newL_eq, newP_eq, nmA_f, nmR_f, gn_var, gnext_setL, lget_setL, setL_setL, setL_H, Nat.reduceMul, Nat.reduceAdd, Nat.zero_add, fldA_ptr, List.drop_zero, ld1_l, rd1_var, List.getElem?_cons_zero, List.getElem?_cons_succ, Obt_lss, Obt_geq, Obt_eql, gdO_tf, gdO_ff, Option.map_some, pickX_t, pickX_f, lenS, Obt_map, Obt_add, Obt_ext, Obt_bind, fillX, bslX, escP_list, stX_l, stV_var, splice, List.take_zero, List.take_succ_cons, List.drop_succ_cons, List.drop_nil, List.nil_append, List.cons_append, List.append_nil, List.length_cons, List.length_nil, and_self, and_true, true_and, Nat.le_refl, escP, List.all_cons, List.all_nil, Bool.and_self, if_false, if_true, r16, tend, tresAll, tresC, Option.bind_some, mapMem, retv_l, retR_arr, Nat.sub_self, tup_one, clen_sl, h1, h2, ge_iff_le, kH, hix, inC, ldA_r6, kJ, e1, e2, e3, w1]))
        | (revert hK; intro hK; (with_reducible refine hK _ ?_; clear hK K)))
        all_goals first | rfl | simp_all
theorem k16 {p : List In} {i : Int} (hp : p.length ≤ 4611686018427387904) {fid : FuncId} {t : Tmp} {m : Mem} {K : CV × Mem → Prop} (hgl : (An.glob fid).contains t = false)
    (hK : ∀ v m', OwnE intC 1 m' (16 * t) v (sucI p i) → m'.H = m.H → (∀ i, i ≠ 16 * t → lget m'.L i = lget m.L i) → K (v, m')) : Obt (callC An FF fid (some t) 16 [sl inC p, .int .i64 i] m) K :=
  callC_O (x16 p i hp) rfl (by simp only [cans, can_int, inE.can_sl]) rfl (by simp only [noGs, noG_int, inE.noG_sl, Bool.and_self]) intE.noG hgl hK
def cntI (l : List Int) (x : Int) : Int := (l.count x : Nat)
theorem x17 (H : List HO) (v : CV) (l : List Int) (x : Int) (hv : RdI H v l) (hl : l.length ≤ 4294967296) : FF 17 [v, .int .i64 x] H = some (.int .i64 (cntI l x), H) := by
  refine Fw_funK rfl Try.func17 s17 (Nat.le_of_ble_eq_true rfl) (fun Q hqr hqn => ?_)
  rw [show ∀ a, cin (An.pure 17) a = a from fun _ => rfl]
  simp only [tinit, Nat.reduceAdd, c17]
  repeat' (first
  | with_reducible (first | refine Tx_assoc ?_ | refine Tx_blockK (id := 0) (fun Q0 hn0 hx0 hr0 ho0 => ?_))
  | (with_reducible (refine Tx_regK (fun K hK => ?_); (first | refine t17r0 ?_ | refine t17r1 ?_ | refine t17r2 ?_)); (try simp only [tget_cons, if_true, if_false, Nat.reduceEqDiff, Kn_normal, if_false, if_true, hv.len]))
  | (revert hK; intro hK; (with_reducible refine hK _ ?_; clear hK K)))
  refine Tx_loopK (fun k s => ∃ (d t : List Int), l = d ++ t ∧ k = t.length ∧ s = ⟨[(0, v), (1, .int .i64 x), (5, .int .i64 (d.count x : Nat)), (6, .int .i64 d.length)], ⟨[], H⟩⟩) _ ⟨[], l, rfl, rfl, rfl⟩ ?_
  rintro k s ⟨d, t, h3, rfl, rfl⟩ QL0 hnL0 hxL0 hrL0
  have hlen := congrArg List.length h3
  simp only [List.length_append] at hlen
  simp only [c17l0]
  cases t with
  | nil =>
    simp only [List.length_nil] at hlen
    rw [List.append_nil] at h3
    have hge : ¬ ((d.length : Int) < l.length) := by omega
    have he : ((d.count x : Nat) : Int) = cntI l x := by rw [h3]; rfl
    repeat' (first
    | with_reducible (first | refine Tx_assoc ?_ | refine Tx_noK rfl ?_ | refine Tx_exitK ?_ | refine Tx_ret ?_ | refine hx0 _ ?_ | refine hxL0 _ _ ?_)
    | (with_reducible (first | (refine Tx_regK (fun K hK => ?_); (first | refine t17r3 ?_ | refine t17r7 ?_)) | refine hqr _ ?_); (try simp only [true_implies, false_implies, not_false_eq_true, tget_cons, if_true, if_false, Nat.reduceEqDiff, Obt_some, Kn_normal, Obt_lss, Option.map_some, lenS, true_and, if_false, if_true, r17, tend, tresAll, tresC, Option.bind_some, mapMem, retv_int, tup_one, hv.len, hge, he]))
    | (revert hK; intro hK; (with_reducible refine hK _ ?_; clear hK K)))
  | cons a t =>
    simp only [List.length_cons] at hlen
    have hlt : (d.length : Int) < l.length := by omega
    have hal : l[d.length]? = some a := by rw [h3]; simp
    obtain ⟨p, hp1, hp2⟩ := hv.at hal (k := .i64)
    have hw : IntKind.i64.wrap ((d.length : Int) + 1) = d.length + 1 := wI (by omega) (by omega)
    have hcl := List.count_le_length (a := x) (l := d)
    have hw2 : IntKind.i64.wrap (((d.count x : Nat) : Int) + 1) = (d.count x : Nat) + 1 := wI (by omega) (by omega)
    have e : ((d.length : Int) + 1) = ((d ++ [a]).length : Int) := by simp
    by_cases hax : a = x
    · repeat' (first
      | with_reducible (first | refine Tx_assoc ?_ | refine Tx_nopK ?_ | refine Tx_yesK rfl ?_ | refine Tx_yes rfl ?_ | refine Tx_blockK (id := 1) (fun Q1 hn1 hx1 hr1 ho1 => ?_) | refine hn1 _ ?_)
      | (with_reducible ((first | refine Tx_regK (fun K hK => ?_) | refine Tx_regE (fun K hK => ?_)); (first | refine t17r3 ?_ | refine t17r5 ?_ | refine t17r6 ?_ | refine t17r4 ?_)); (try simp only [true_implies, false_implies, not_true_eq_false, tget_cons, if_true, if_false, Nat.reduceEqDiff, Obt_some, Kn_normal, Obt_lss, Obt_eql, Option.map_some, lenS, Obt_add, and_true, if_false, if_true, hv.len, hlt, hp1, hp2, hax, eq_self, hw, hw2]))
      | (revert hK; intro hK; (with_reducible refine hK _ ?_; clear hK K)))
      rw [e]
      exact hnL0 t.length _ (by simp) ⟨d ++ [a], t, by simp [h3], rfl, by simp [List.count_append, hax]⟩
    · repeat' (first
      | with_reducible (first | refine Tx_assoc ?_ | refine Tx_nopK ?_ | refine Tx_yesK rfl ?_ | refine Tx_no rfl ?_ | refine Tx_nop ?_ | refine Tx_blockK (id := 1) (fun Q1 hn1 hx1 hr1 ho1 => ?_) | refine hn1 _ ?_)
      | (with_reducible ((first | refine Tx_regK (fun K hK => ?_) | refine Tx_regE (fun K hK => ?_)); (first | refine t17r3 ?_ | refine t17r5 ?_ | refine t17r4 ?_)); (try simp only [true_implies, false_implies, not_true_eq_false, not_false_eq_true, tget_cons, if_true, if_false, Nat.reduceEqDiff, Obt_some, Kn_normal, Obt_lss, Obt_eql, Option.map_some, lenS, Obt_add, and_true, true_and, if_false, if_true, hv.len, hlt, hp1, hp2, hax, hw]))
      | (revert hK; intro hK; (with_reducible refine hK _ ?_; clear hK K)))
      rw [e]
      exact hnL0 t.length _ (by simp) ⟨d ++ [a], t, by simp [h3], rfl, by simp [List.count_append, List.count_singleton, hax]⟩
theorem k17 {H : List HO} {v : CV} {l : List Int} (hv : RdI H v l) (hl : l.length ≤ 4294967296) {x : Int} {fid : FuncId} {t : Tmp} {L : List (Nat × HO)} : callC An FF fid (some t) 17 [v, .int .i64 x] ⟨L, H⟩ = some (.int .i64 (cntI l x), ⟨L, H⟩) := by
  rw [callC_I (A := An) (F := FF) (fid := fid) (d := t) (m := ⟨L, H⟩) rfl (by simp only [List.all_cons, hv.esc]; rfl) (x17 H v l x hv hl), adopt_int]
end Go.Cm

namespace Go.Cm
open Go.Proofs Go.Fl
theorem cnt_one {l : List Int} {x : Int} (hn : l.Nodup) (h : x ∈ l) : cntI l x = 1 := by
  rw [cntI, hn.count, if_pos h]; rfl
theorem dd_len2 {p : List In} {a : Nat} : (sucL (gP p) a).length ≤ 2 := by
  have h := dd_len (r := toL (gP p) a) (S := [])
  have h2 : (toL (gP p) a).length = ((gP p).succ (last (gP p) a)).length := List.length_map ..
  have h3 : ((gP p).succ (last (gP p) a)).length ≤ 2 := by
    show ((succL jB wrI p (last (gP p) a)).map Int.toNat).length ≤ 2
    rw [List.length_map]; exact suc_le2 (p := p) (i := last (gP p) a)
  exact Nat.le_trans h (by rw [List.length_nil]; omega)
set_option maxHeartbeats 8000000 in
theorem x5 (p : List In) (hp : p.length ≤ 9223372036854775807) : ∃ r, (∃ H', r = (CV.bool true, H')) ∧ FF 5 [sl inC p] [] = some r := by
  by_cases h0 : chkP p = 0
  · have hg : Ok (gP p) := gr_ok h0
    obtain ⟨hn1, hn2, _⟩ := chkE_ok h0
    obtain ⟨hrl, hll⟩ := reachL_len h0
    obtain ⟨v, H, l, hF, _, k7⟩ := k7 hp h0 []
    refine Fw_funE rfl Try.func5 s5 (Nat.le_of_ble_eq_true rfl) (fun Q hqr hqn => ?_)
    rw [cin_t (show An.pure 5 = true from rfl) (by simp only [cans, can_int, can_bool, can_agg, can_str, inE.can_sl])]
    simp only [tinit, Nat.reduceAdd, c5]
    repeat' (first
    | with_reducible (first | refine Tx_assoc ?_ | refine Tx_nopK ?_ | refine Tx_noK rfl ?_ | refine Tx_blockK (id := 0) (fun Q0 hn0 hx0 hr0 ho0 => ?_))
    | (with_reducible (refine Tx_regK (fun K hK => ?_); (first | refine t5r0 ?_ | refine t5r1 ?_ | refine t5r2 ?_ | refine t5r4 ?_)); (try simp only [true_implies, false_implies, not_true_eq_false, tget_cons, if_true, if_false, Nat.reduceEqDiff, Obt_some, Kn_normal, List.getElem?_cons_zero, List.getElem?_cons_succ, Obt_neq, Obt_ext, and_true, if_false, if_true, k7, ne_eq, eq_self]))
    | (revert hK; intro hK; (with_reducible refine hK _ ?_; clear hK K)))
    refine Tx_loopK (fun m s => ∃ (k : Nat) (L : List (Nat × HO)) (H : List HO), FB p H v l ∧ k ≤ (leadL (gP p)).length ∧ m = (leadL (gP p)).length - k ∧ s = ⟨[(0, sl inC p), (3, v), (5, .int .i64 k)], ⟨L, H⟩⟩) _ ⟨0, _, H, hF, Nat.zero_le _, rfl, rfl⟩ ?_
    clear hF
    rintro m s ⟨k, L, H, hF, hk, rfl, rfl⟩ QL2 hnL2 hxL2 hrL2
    simp only [c5l2]
    by_cases hkN : k < (leadL (gP p)).length
    · have hlt' : (k : Int) < (leadL (gP p)).length := by omega
      have hw' : IntKind.i64.wrap ((k : Int) + 1) = k + 1 := wI (by omega) (by omega)
      have ek : ((k : Int) + 1) = ((k + 1 : Nat) : Int) := by omega
      obtain ⟨a, ha⟩ : ∃ a, (leadL (gP p))[k]? = some a := ⟨_, List.getElem?_eq_getElem hkN⟩
      have haL : Lead (gP p) a := (mem_leadL hg).1 (List.mem_of_getElem? ha)
      have hal := haL.r.live hg
      have hlal := (row_last hg hal).live hg hal
      have hlp : last (gP p) a < p.length := hg.lt _ hlal
      have hnx : ∀ L' H', FB p H' v l → QL2 .normal ⟨[(0, sl inC p), (3, v), (5, .int .i64 ((k : Int) + 1))], ⟨L', H'⟩⟩ := fun L' H' hF' => by
        rw [ek]
        exact hnL2 ((leadL (gP p)).length - (k + 1)) _ (by omega) ⟨k + 1, L', H', hF', by omega, rfl, rfl⟩
      obtain ⟨n, gn, sv, pv, hix, l0, l1, l2, l3, l4, hsv, hpv⟩ := hF.at ha
      repeat' (first
      | with_reducible (first | refine Tx_assoc ?_ | refine Tx_nopK ?_ | refine Tx_yesK rfl ?_ | refine Tx_blockK (id := 1) (fun Q1 hn1 hx1 hr1 ho1 => ?_))
      | (with_reducible (refine Tx_regK (fun K hK => ?_); (first | refine t5r5 ?_ | refine t5r7 ?_)); (try simp only [true_implies, false_implies, not_true_eq_false, tget_cons, if_true, if_false, Nat.reduceEqDiff, Obt_some, Kn_normal, fldA_ptr, Obt_lss, Option.map_some, lenS, and_true, if_false, if_true, hF.clen, hlt', hix, l2]))
      | (revert hK; intro hK; (with_reducible refine hK _ ?_; clear hK K)))
      refine k16 (by omega) rfl fun vs m' hO hH' hf => ?_
      rw [sucI_succ h0 hlal] at hO
      refine hK _ ?_
      clear hK K
      obtain ⟨L', H'⟩ := m'
      simp only at hH'
      subst hH'
      repeat' (first
      | with_reducible (first | refine Tx_assoc ?_ | refine Tx_blockK (id := 2) (fun Q2 hn2 hx2 hr2 ho2 => ?_))
      | (with_reducible (refine Tx_regK (fun K hK => ?_); refine t5r8 ?_); (try simp only [tget_cons, if_true, if_false, Nat.reduceEqDiff, Kn_normal, if_false, if_true]))
      | (revert hK; intro hK; (with_reducible refine hK _ ?_; clear hK K)))
      refine Tx_loopK (fun m s => ∃ (d t : List Nat) (L : List (Nat × HO)) (H : List HO), (gP p).succ (last (gP p) a) = d ++ t ∧ m = t.length ∧ FB p H v l ∧ OwnE intC 1 ⟨L, []⟩ 496 vs (nI ((gP p).succ (last (gP p) a))) ∧
          s = ⟨[(0, sl inC p), (3, v), (5, .int .i64 k), (6, vs), (7, .int .i64 d.length)], ⟨L, H⟩⟩) _ ⟨[], _, L', _, rfl, rfl, hF, hO.keep rfl, rfl⟩ ?_
      clear hO hF hf hix l0 l1 l2 l3 l4 hsv hpv
      rintro m s ⟨d, t, L2, H2, h3, rfl, hF, hO, rfl⟩ QL0 hnL0 hxL0 hrL0
      have hlen := congrArg List.length h3
      simp only [List.length_append] at hlen
      have hs2 : ((gP p).succ (last (gP p) a)).length ≤ 2 := by
        have := suc_le2 (p := p) (i := last (gP p) a)
        rw [sucI_succ h0 hlal, nI_len] at this
        exact this
      simp only [c5l0]
      cases t with
      | cons y t =>
        simp only [List.length_cons] at hlen
        have hlt : (d.length : Int) < ((gP p).succ (last (gP p) a)).length := by omega
        have hw : IntKind.i64.wrap ((d.length : Int) + 1) = d.length + 1 := wI (by omega) (by omega)
        have hget : (nI ((gP p).succ (last (gP p) a)))[d.length]? = some (y : Int) := by rw [nI_get, h3]; simp
        obtain ⟨q, hq1, hq2⟩ := hO.at hget (k := .i64)
        have hld : ∀ H, ld1 ⟨L2, H⟩ q = some (.int .i64 y) := fun H => hq2 ⟨L2, H⟩ rfl
        have hys : y ∈ (gP p).succ (last (gP p) a) := by rw [h3]; simp
        have hyL : Lead (gP p) y := leads_on hg haL hys
        obtain ⟨kt, hkt, hky⟩ := fk_lead hg hyL
        have kF : ∀ t, callC An FF 5 (some t) 13 [v, .int .i64 y] ⟨L2, H2⟩ = some (.int .i64 kt, ⟨L2, H2 ++ [.var 1 [.int .i64 y] 0]⟩) := fun t => by
          have := k13 (fid := 5) (t := t) (L := L2) (x := (y : Int)) hF.blks hF.esc (by rw [hF.len]; omega)
          rw [findI_fk hF.hd, hkt] at this
          exact this
        have hF2 := hF.app (E := [HO.var 1 [.int .i64 y] 0])
        obtain ⟨n, gn, sv, pv, hix, l0, l1, l2, l3, l4, hsv, hpv⟩ := hF2.at ha
        obtain ⟨n', gn', sv', pv', hix', l0', l1', l2', l3', l4', hsv', hpv'⟩ := hF2.at hky
        have hin : (kt : Int) ∈ sucL (gP p) a := dd_mem.2 (.inr (by rw [toL, List.mem_map]; exact ⟨y, hys, hkt⟩))
        have c1 := cnt_one (dd_nodup List.nodup_nil) hin
        have hpm : (k : Int) ∈ preL (gP p) kt 0 (leadL (gP p)) := preL_mem.2 ⟨k, a, ha, by simp, hin⟩
        have c2 := cnt_one preL_nodup hpm
        have hdl := dd_len2 (p := p) (a := a)
        have hpl := preL_len (g := gP p) (t := (kt : Int)) (l := leadL (gP p)) (k := 0)
        have kc1 : ∀ t L, callC An FF 5 (some t) 17 [sv, .int .i64 kt] ⟨L, H2 ++ [.var 1 [.int .i64 y] 0]⟩ = some (.int .i64 1, ⟨L, H2 ++ [.var 1 [.int .i64 y] 0]⟩) := fun t L => by
          rw [k17 hsv (by omega), show cntI (sucL (gP p) a) kt = 1 from c1]
        have kc2 : ∀ t L, callC An FF 5 (some t) 17 [pv', .int .i64 k] ⟨L, H2 ++ [.var 1 [.int .i64 y] 0]⟩ = some (.int .i64 1, ⟨L, H2 ++ [.var 1 [.int .i64 y] 0]⟩) := fun t L => by
          rw [k17 hpv' (by omega), c2]
        have hk0 : ¬ ((kt : Int) < 0) := by omega
        repeat' (first
        | with_reducible (first | refine Tx_assoc ?_ | refine Tx_nopK ?_ | refine Tx_yesK rfl ?_ | refine Tx_no rfl ?_ | refine Tx_nop ?_ | refine Tx_blockK (id := 3) (fun Q3 hn3 hx3 hr3 ho3 => ?_) | refine hn3 _ ?_)
        | (with_reducible ((first | refine Tx_regK (fun K hK => ?_) | refine Tx_regE (fun K hK => ?_)); (first | refine t5r9 ?_ | refine t5r11 ?_ | refine t5r12 ?_ | refine t5r10 ?_)); (try simp only [true_implies, false_implies, not_true_eq_false, not_false_eq_true, tget_cons, if_true, if_false, Nat.reduceEqDiff, Obt_some, Kn_normal, fldA_ptr, Obt_lss, Obt_neq, gdO_tf, gdO_ff, Option.map_some, pickX_t, pickX_f, lenS, Obt_map, Obt_add, and_true, true_and, if_false, if_true, hO.len, nI_len, hlt, hq1, hld, kF, hk0, hix, hix', l0', l3, l4', Nat.add_zero, ne_eq, eq_self, kc1, kc2, hw]))
        | (revert hK; intro hK; (with_reducible refine hK _ ?_; clear hK K)))
        exact hnL0 t.length _ (by simp) ⟨d ++ [y], t, L2, _, by simp [h3], rfl, hF2, hO, by simp⟩
      | nil =>
        simp only [List.length_nil] at hlen
        have hge : ¬ ((d.length : Int) < ((gP p).succ (last (gP p) a)).length) := by omega
        repeat' (first
        | with_reducible (first | refine Tx_assoc ?_ | refine Tx_noK rfl ?_ | refine Tx_exitK ?_ | refine hx2 _ ?_ | refine Tx_blockE (id := 4) (fun Q4 hn4 hx4 hr4 ho4 => ?_) | refine hxL0 _ _ ?_)
        | (with_reducible (refine Tx_regK (fun K hK => ?_); (first | refine t5r9 ?_ | refine t5r14 ?_)); (try simp only [true_implies, false_implies, not_false_eq_true, tget_cons, if_true, if_false, Nat.reduceEqDiff, Obt_some, Kn_normal, Obt_lss, Option.map_some, lenS, true_and, if_false, if_true, hO.len, nI_len, hge]))
        | (revert hK; intro hK; (with_reducible refine hK _ ?_; clear hK K)))
        obtain ⟨n, gn, sv, pv, hix, l0, l1, l2, l3, l4, hsv, hpv⟩ := hF.at ha
        obtain ⟨P, hP⟩ : ∃ P, P = preL (gP p) k 0 (leadL (gP p)) := ⟨_, rfl⟩
        have hPl : P.length ≤ 4096 := by
          have := preL_len (g := gP p) (t := (k : Int)) (l := leadL (gP p)) (k := 0)
          rw [hP]; omega
        have hPs : P.Pairwise (· < ·) := by rw [hP]; exact (preL_lt (g := gP p) (t := (k : Int)) (l := leadL (gP p)) (k := 0)).1
        rw [← hP] at hpv
        refine Tx_loopK (fun m s => ∃ (d t : List Int), P = d ++ t ∧ m = t.length ∧ s = ⟨[(0, sl inC p), (3, v), (5, .int .i64 k), (9, .int .i64 d.length)], ⟨L2, H2⟩⟩) _ ⟨[], P, rfl, rfl, rfl⟩ ?_
        rintro m s ⟨d', t', h4, rfl, rfl⟩ QL1 hnL1 hxL1 hrL1
        have hlen' := congrArg List.length h4
        simp only [List.length_append] at hlen'
        simp only [c5l1]
        cases t' with
        | nil =>
          simp only [List.length_nil] at hlen'
          have hge' : ¬ ((d'.length : Int) < P.length) := by omega
          repeat' (first
          | with_reducible (first | refine Tx_assoc ?_ | refine Tx_noK rfl ?_ | refine Tx_exitK ?_ | refine hn1 _ ?_ | refine hx4 _ ?_ | refine hxL1 _ _ ?_)
          | (with_reducible ((first | refine Tx_regK (fun K hK => ?_) | refine Tx_regE (fun K hK => ?_)); (first | refine t5r15 ?_ | refine t5r6 ?_)); (try simp only [true_implies, false_implies, not_false_eq_true, tget_cons, if_true, if_false, Nat.reduceEqDiff, Obt_some, Kn_normal, fldA_ptr, Obt_lss, lenS, Obt_map, Obt_add, true_and, if_false, if_true, hix, l4, hpv.len, hge', hw']))
          | (revert hK; intro hK; (with_reducible refine hK _ ?_; clear hK K)))
          exact hnx _ _ hF
        | cons y t' =>
          simp only [List.length_cons] at hlen'
          have hlt : (d'.length : Int) < P.length := by omega
          have hw : IntKind.i64.wrap ((d'.length : Int) + 1) = d'.length + 1 := wI (by omega) (by omega)
          have hget : P[d'.length]? = some y := by rw [h4]; simp
          obtain ⟨q, hq1, hq2⟩ := hpv.at hget (k := .i64)
          have hyP : y ∈ preL (gP p) k 0 (leadL (gP p)) := by rw [← hP, h4]; simp
          obtain ⟨j, b, hj, hyj, hkb⟩ := preL_mem.1 hyP
          rw [Nat.zero_add] at hyj
          subst hyj
          have hjN := (List.getElem?_eq_some_iff.1 hj).1
          obtain ⟨n', gn', sv', pv', hix', l0', l1', l2', l3', l4', hsv', hpv'⟩ := hF.at hj
          have c1 := cnt_one (dd_nodup List.nodup_nil) hkb
          have hdl := dd_len2 (p := p) (a := b)
          have kc1 : ∀ t L, callC An FF 5 (some t) 17 [sv', .int .i64 k] ⟨L, H2⟩ = some (.int .i64 1, ⟨L, H2⟩) := fun t L => by
            rw [k17 hsv' (by omega), show cntI (sucL (gP p) b) k = 1 from c1]
          have hj0 : ¬ ((j : Int) < 0) := by omega
          have hj1 : ¬ (((leadL (gP p)).length : Int) ≤ j) := by omega
          have e : ((d'.length : Int) + 1) = ((d' ++ [(j : Int)]).length : Int) := by simp
          have hn1' : QL1 .normal ⟨[(0, sl inC p), (3, v), (5, .int .i64 k), (9, .int .i64 ((d'.length : Int) + 1))], ⟨L2, H2⟩⟩ := by
            rw [e]
            exact hnL1 t'.length _ (by simp) ⟨d' ++ [(j : Int)], t', by simp [h4], rfl, rfl⟩
          by_cases hz : d'.length = 0
          · have hz' : ¬ (0 : Int) < (d'.length : Int) := by omega
            repeat' (first
            | with_reducible (first | refine Tx_assoc ?_ | refine Tx_nopK ?_ | refine Tx_yesK rfl ?_ | refine Tx_no rfl ?_ | refine Tx_nop ?_ | refine Tx_blockK (id := 5) (fun Q5 hn5 hx5 hr5 ho5 => ?_) | refine hn5 _ ?_)
            | (with_reducible ((first | refine Tx_regK (fun K hK => ?_) | refine Tx_regE (fun K hK => ?_)); (first | refine t5r15 ?_ | refine t5r17 ?_ | refine t5r18 ?_ | refine t5r16 ?_)); (try simp only [true_implies, false_implies, not_true_eq_false, not_false_eq_true, tget_cons, if_true, if_false, Nat.reduceEqDiff, Obt_some, Kn_normal, fldA_ptr, Obt_lss, Obt_gtr, Obt_geq, Obt_neq, gdO_tt, gdO_tf, gdO_ff, gdO_ft, gdO_skip, pickX_t, pickX_f, lenS, Obt_map, Obt_add, Obt_sub, and_true, true_and, if_false, if_true, hix, l4, hpv.len, hlt, hq1, hq2, hj0, hF.clen, ge_iff_le, hj1, hix', l3', kc1, ne_eq, eq_self, gt_iff_lt, hz', hw]))
            | (revert hK; intro hK; (with_reducible refine hK _ ?_; clear hK K)))
            all_goals exact hn1'
          · have hz' : (0 : Int) < (d'.length : Int) := by omega
            obtain ⟨z, hz2⟩ : ∃ z, P[d'.length - 1]? = some z := ⟨_, List.getElem?_eq_getElem (by omega)⟩
            obtain ⟨q', hq1', hq2'⟩ := hpv.at hz2 (k := .i64)
            rw [show ((d'.length - 1 : Nat) : Int) = (d'.length : Int) - 1 by omega] at hq1'
            have hwm : IntKind.i64.wrap ((d'.length : Int) - 1) = d'.length - 1 := wI (by omega) (by omega)
            have hlz : z < (j : Int) := by
              obtain ⟨u1, u2⟩ := List.getElem?_eq_some_iff.1 hz2
              obtain ⟨u3, u4⟩ := List.getElem?_eq_some_iff.1 hget
              rw [← u2, ← u4]
              exact List.pairwise_iff_getElem.1 hPs _ _ u1 u3 (by omega)
            have hle : ¬ ((j : Int) ≤ z) := by omega
            repeat' (first
            | with_reducible (first | refine Tx_assoc ?_ | refine Tx_nopK ?_ | refine Tx_yesK rfl ?_ | refine Tx_no rfl ?_ | refine Tx_nop ?_ | refine Tx_blockK (id := 5) (fun Q5 hn5 hx5 hr5 ho5 => ?_) | refine hn5 _ ?_)
            | (with_reducible ((first | refine Tx_regK (fun K hK => ?_) | refine Tx_regE (fun K hK => ?_)); (first | refine t5r15 ?_ | refine t5r17 ?_ | refine t5r18 ?_ | refine t5r16 ?_)); (try simp only [true_implies, false_implies, not_true_eq_false, not_false_eq_true, tget_cons, if_true, if_false, Nat.reduceEqDiff, Obt_some, Kn_normal, fldA_ptr, Obt_lss, Obt_leq, Obt_gtr, Obt_geq, Obt_neq, gdO_tt, gdO_tf, gdO_ff, gdO_ft, gdO_skip, pickX_t, pickX_f, lenS, Obt_map, Obt_add, Obt_sub, and_true, true_and, if_false, if_true, hix, l4, hpv.len, hlt, hq1, hq2, hj0, hF.clen, ge_iff_le, hj1, hix', l3', kc1, ne_eq, eq_self, gt_iff_lt, hz', hwm, hq1', hq2', hle, hw]))
            | (revert hK; intro hK; (with_reducible refine hK _ ?_; clear hK K)))
            all_goals exact hn1'
    · have hge' : ¬ ((k : Int) < (leadL (gP p)).length) := by omega
      repeat' (first
      | with_reducible (first | refine Tx_assoc ?_ | refine Tx_noK rfl ?_ | refine Tx_exitK ?_ | refine Tx_ret ?_ | refine hx0 _ ?_ | refine hxL2 _ _ ?_)
      | (with_reducible (first | (refine Tx_regK (fun K hK => ?_); (first | refine t5r5 ?_ | refine t5r20 ?_)) | refine hqr _ ?_); (try simp only [true_implies, false_implies, not_false_eq_true, tget_cons, if_true, if_false, Nat.reduceEqDiff, Obt_some, Kn_normal, Obt_lss, Option.map_some, lenS, true_and, if_false, if_true, r5, tend, tresAll, tresC, Option.bind_some, mapMem, retv_bool, tup_one, Prod.mk.injEq, hF.clen, hge', k15]))
      | (revert hK; intro hK; (with_reducible refine hK _ ?_; clear hK K)))
      all_goals exact ⟨_, rfl⟩
  · have k7 := fun t m => k7_bad hp h0 (fid := 5) (t := t) (m := m)
    refine Fw_funE rfl Try.func5 s5 (Nat.le_of_ble_eq_true rfl) (fun Q hqr hqn => ?_)
    rw [cin_t (show An.pure 5 = true from rfl) (by simp only [cans, can_int, can_bool, can_agg, can_str, inE.can_sl])]
    simp only [tinit, Nat.reduceAdd, c5]
    repeat' (first
    | with_reducible (first | refine Tx_assoc ?_ | refine Tx_yesK rfl ?_ | refine Tx_retK ?_)
    | (with_reducible (first | (refine Tx_regK (fun K hK => ?_); (first | refine t5r0 ?_ | refine t5r1 ?_ | refine t5r2 ?_ | refine t5r3 ?_)) | refine hqr _ ?_); (try simp only [true_implies, false_implies, not_false_eq_true, tget_cons, if_true, if_false, Nat.reduceEqDiff, Obt_some, Kn_normal, List.getElem?_cons_zero, List.getElem?_cons_succ, Obt_neq, Option.map_some, Obt_ext, true_and, if_false, if_true, r5, tend, tresAll, tresC, Option.bind_some, mapMem, retv_bool, tup_one, Prod.mk.injEq, k7, h0, ne_eq, k15]))
    | (revert hK; intro hK; (with_reducible refine hK _ ?_; clear hK K)))
    all_goals exact ⟨_, rfl⟩
end Go.Cm

namespace Go.Cm
open Go.Proofs Go.Fl
set_option maxRecDepth 100000 in
theorem ins_of {n : Nat} {d : D} (h : D.ok Try.prog (n + 2) 47 d) : ∃ x : In, d.cells = inC x ∧ Inw x := by
  obtain ⟨ds, rfl, h1⟩ := ok_struct (ts := [3, 3, 3, 3, 3, 45]) Try.underlying47 (by kernel_rfl) h
  obtain ⟨d1, r1, rfl, k1, h1⟩ := oks_cons h1
  obtain ⟨d2, r2, rfl, k2, h1⟩ := oks_cons h1
  obtain ⟨d3, r3, rfl, k3, h1⟩ := oks_cons h1
  obtain ⟨d4, r4, rfl, k4, h1⟩ := oks_cons h1
  obtain ⟨d5, r5, rfl, k5, h1⟩ := oks_cons h1
  obtain ⟨d6, r6, rfl, k6, h1⟩ := oks_cons h1
  obtain rfl := oks_nil h1
  obtain ⟨x1, rfl, _⟩ := ok_i64 Try.underlying3 k1
  obtain ⟨x2, rfl, _⟩ := ok_i64 Try.underlying3 k2
  obtain ⟨x3, rfl, _⟩ := ok_i64 Try.underlying3 k3
  obtain ⟨x4, rfl, _⟩ := ok_i64 Try.underlying3 k4
  obtain ⟨x5, rfl, _⟩ := ok_i64 Try.underlying3 k5
  obtain ⟨x6, rfl, w⟩ := ok_u64 Try.underlying45 k6
  have w1 := w.1
  have w2 := w.2
  exact ⟨⟨x1, x2, x3, x4, x5, x6⟩, rfl, w1, by show x6 < 18446744073709551616; omega⟩
set_option maxRecDepth 100000 in
theorem prog_of {n : Nat} {d : D} (h : D.ok Try.prog (n + 3) 22 d) : ∃ p : List In, d.cv = sl inC p ∧ p.length ≤ 9223372036854775807 ∧ ∀ x ∈ p, Inw x := by
  obtain ⟨l, _, e2, w2⟩ := slice_of (e := inC) (W := Inw) Try.underlying22 (fun x hx => ins_of (n := n) hx) h
  exact ⟨l, e2, w2.1, w2.2⟩
end Go.Cm
