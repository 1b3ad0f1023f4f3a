import Derived.Test.YtjhndbgokapikaaFoK
import Derived.Test.YtjhndbgokapikaaFyC
import Derived.Test.YtjhndbgokapikaaCxH
set_option linter.unusedSimpArgs false
set_option linter.unusedVariables false
namespace Go.Cm
open Go.Proofs Go.Fl
def jRB (op : Int) : Bool := !(decide (op < 0) || (decide (255 < op) || ((decide (bitop .and .i64 op 7 ≠ 5) && decide (bitop .and .i64 op 7 ≠ 6)) || (decide (bitop .andNot .i64 op 15 = 0) || (decide (bitop .andNot .i64 op 15 = 128) || (decide (bitop .andNot .i64 op 15 = 144) || decide (208 < bitop .andNot .i64 op 15)))))))
theorem jR_nat : ∀ n : Nat, n < 256 → jRB n = jB n := by decide +kernel
theorem jRB_eq (op : Int) : jRB op = jB op := by
  by_cases h : op < 0 ∨ 255 < op
  · have h1 : jRB op = false := by
      unfold jRB
      rcases h with h | h
      · rw [decide_eq_true h]; rfl
      · rw [decide_eq_true h, Bool.true_or, Bool.or_true]; rfl
    have h2 : cls op = -1 := by rw [cls, if_pos h]
    rw [h1, jB, h2]; rfl
  · have h3 := jR_nat op.toNat (by omega)
    rw [show ((op.toNat : Nat) : Int) = op by omega] at h3
    exact h3
set_option maxHeartbeats 4000000 in
theorem x33 (op : Int) : ∃ r, (∃ a b, r = (CV.tuple [.int .i64 a, .bool b, .bool (jB op)], [])) ∧ FF 33 [.int .i64 op] [] = some r := by
  rw [← jRB_eq]
  obtain ⟨c, hc⟩ : ∃ c, c = bitop .and .i64 op 7 := ⟨_, rfl⟩
  obtain ⟨o, ho⟩ : ∃ o, o = bitop .andNot .i64 op 15 := ⟨_, rfl⟩
  have hj : jRB op = !(decide (op < 0) || (decide (255 < op) || ((decide (c ≠ 5) && decide (c ≠ 6)) || (decide (o = 0) || (decide (o = 128) || (decide (o = 144) || decide (208 < o))))))) := by rw [hc, ho]; rfl
  have hf : (op < 0 ∨ 255 < op ∨ (c ≠ 5 ∧ c ≠ 6) ∨ o = 0 ∨ o = 128 ∨ o = 144 ∨ 208 < o) → jRB op = false := fun h => by
    rw [hj]; simp; omega
  have ht : ¬ (op < 0 ∨ 255 < op ∨ (c ≠ 5 ∧ c ≠ 6) ∨ o = 0 ∨ o = 128 ∨ o = 144 ∨ 208 < o) → jRB op = true := fun h => by
    rw [hj]; simp; omega
  clear hj
  by_cases h1 : op < 0
  · rw [hf (by omega)]
    refine Fw_funE rfl Try.func33 s33 (Nat.le_of_ble_eq_true rfl) (fun Q hqr hqn => ?_)
    rw [cin_t (show An.pure 33 = true from rfl) (by simp only [cans, can_int, can_bool, can_agg, can_str])]
    simp only [tinit, Nat.reduceAdd, c33]
    repeat' (first
    | with_reducible (first | refine Tx_assoc ?_ | refine Tx_yesK rfl ?_ | refine Tx_retK ?_)
    | (with_reducible (first | (refine Tx_regK (fun K hK => ?_); (first | refine t33r0 ?_ | refine t33r1 ?_ | refine t33r2 ?_ | refine t33r3 ?_ | refine t33r4 ?_)) | refine hqr _ ?_); (try simp only [true_implies, false_implies, not_true_eq_false, tget_cons, if_true, if_false, Nat.reduceEqDiff, Obt_some, Kn_normal, Obt_lss, Obt_gtr, Obt_eql, Obt_neq, gdO_tt, gdO_tf, gdO_ff, gdO_ft, gdO_skip, Option.map_some, pickX_t, pickX_f, Obt_map, Obt_and, Obt_andNot, and_true, if_false, if_true, r33, tend, tresAll, tresC, Option.bind_some, mapMem, retv_int, retv_bool, tup_two, Prod.mk.injEq, ← hc, ← ho, h1, gt_iff_lt, ne_eq]))
    | (revert hK; intro hK; (with_reducible refine hK _ ?_; clear hK K)))
    all_goals first | exact ⟨_, _, rfl, rfl⟩ | exact ⟨_, _, rfl⟩
  by_cases h2 : 255 < op
  · rw [hf (by omega)]
    refine Fw_funE rfl Try.func33 s33 (Nat.le_of_ble_eq_true rfl) (fun Q hqr hqn => ?_)
    rw [cin_t (show An.pure 33 = true from rfl) (by simp only [cans, can_int, can_bool, can_agg, can_str])]
    simp only [tinit, Nat.reduceAdd, c33]
    repeat' (first
    | with_reducible (first | refine Tx_assoc ?_ | refine Tx_yesK rfl ?_ | refine Tx_retK ?_)
    | (with_reducible (first | (refine Tx_regK (fun K hK => ?_); (first | refine t33r0 ?_ | refine t33r1 ?_ | refine t33r2 ?_ | refine t33r3 ?_ | refine t33r4 ?_)) | refine hqr _ ?_); (try simp only [true_implies, false_implies, not_true_eq_false, not_false_eq_true, tget_cons, if_true, if_false, Nat.reduceEqDiff, Obt_some, Kn_normal, Obt_lss, Obt_gtr, Obt_eql, Obt_neq, gdO_tt, gdO_tf, gdO_ff, gdO_ft, gdO_skip, Option.map_some, pickX_t, pickX_f, Obt_map, Obt_and, Obt_andNot, and_true, true_and, if_false, if_true, r33, tend, tresAll, tresC, Option.bind_some, mapMem, retv_int, retv_bool, tup_two, Prod.mk.injEq, ← hc, ← ho, h1, h2, gt_iff_lt, ne_eq]))
    | (revert hK; intro hK; (with_reducible refine hK _ ?_; clear hK K)))
    all_goals first | exact ⟨_, _, rfl, rfl⟩ | exact ⟨_, _, rfl⟩
  by_cases h5 : c = 5 ∨ c = 6
  · have hcc : (c = 5) ∨ (¬ c = 5 ∧ c = 6) := by omega
    by_cases o1 : o = 0
    · rw [hf (by omega)]
      rcases hcc with h | ⟨h, h'⟩
      · refine Fw_funE rfl Try.func33 s33 (Nat.le_of_ble_eq_true rfl) (fun Q hqr hqn => ?_)
        rw [cin_t (show An.pure 33 = true from rfl) (by simp only [cans, can_int, can_bool, can_agg, can_str])]
        simp only [tinit, Nat.reduceAdd, c33]
        repeat' (first
        | with_reducible (first | refine Tx_assoc ?_ | refine Tx_yesK rfl ?_ | refine Tx_retK ?_)
        | (with_reducible (first | (refine Tx_regK (fun K hK => ?_); (first | refine t33r0 ?_ | refine t33r1 ?_ | refine t33r2 ?_ | refine t33r3 ?_ | refine t33r4 ?_)) | refine hqr _ ?_); (try simp only [true_implies, false_implies, not_true_eq_false, not_false_eq_true, tget_cons, if_true, if_false, Nat.reduceEqDiff, Obt_some, Kn_normal, Obt_lss, Obt_gtr, Obt_eql, Obt_neq, gdO_tt, gdO_tf, gdO_ff, gdO_ft, gdO_skip, Option.map_some, pickX_t, pickX_f, Obt_map, Obt_and, Obt_andNot, and_true, true_and, if_false, if_true, r33, tend, tresAll, tresC, Option.bind_some, mapMem, retv_int, retv_bool, tup_two, Prod.mk.injEq, ← hc, ← ho, h1, h2, h, o1, gt_iff_lt, ne_eq]))
        | (revert hK; intro hK; (with_reducible refine hK _ ?_; clear hK K)))
        all_goals first | exact ⟨_, _, rfl, rfl⟩ | exact ⟨_, _, rfl⟩
      · refine Fw_funE rfl Try.func33 s33 (Nat.le_of_ble_eq_true rfl) (fun Q hqr hqn => ?_)
        rw [cin_t (show An.pure 33 = true from rfl) (by simp only [cans, can_int, can_bool, can_agg, can_str])]
        simp only [tinit, Nat.reduceAdd, c33]
        repeat' (first
        | with_reducible (first | refine Tx_assoc ?_ | refine Tx_yesK rfl ?_ | refine Tx_retK ?_)
        | (with_reducible (first | (refine Tx_regK (fun K hK => ?_); (first | refine t33r0 ?_ | refine t33r1 ?_ | refine t33r2 ?_ | refine t33r3 ?_ | refine t33r4 ?_)) | refine hqr _ ?_); (try simp only [true_implies, false_implies, not_true_eq_false, not_false_eq_true, tget_cons, if_true, if_false, Nat.reduceEqDiff, Obt_some, Kn_normal, Obt_lss, Obt_gtr, Obt_eql, Obt_neq, gdO_tt, gdO_tf, gdO_ff, gdO_ft, gdO_skip, Option.map_some, pickX_t, pickX_f, Obt_map, Obt_and, Obt_andNot, and_true, true_and, if_false, if_true, r33, tend, tresAll, tresC, Option.bind_some, mapMem, retv_int, retv_bool, tup_two, Prod.mk.injEq, ← hc, ← ho, h1, h2, h, h', o1, gt_iff_lt, ne_eq]))
        | (revert hK; intro hK; (first | refine And.intro ?_ ?_ | intro _ | omega | (with_reducible refine hK _ ?_; clear hK K))))
        all_goals first | exact ⟨_, _, rfl, rfl⟩ | exact ⟨_, _, rfl⟩
    by_cases o2 : o = 128
    · rw [hf (by omega)]
      rcases hcc with h | ⟨h, h'⟩
      · refine Fw_funE rfl Try.func33 s33 (Nat.le_of_ble_eq_true rfl) (fun Q hqr hqn => ?_)
        rw [cin_t (show An.pure 33 = true from rfl) (by simp only [cans, can_int, can_bool, can_agg, can_str])]
        simp only [tinit, Nat.reduceAdd, c33]
        repeat' (first
        | with_reducible (first | refine Tx_assoc ?_ | refine Tx_yesK rfl ?_ | refine Tx_retK ?_)
        | (with_reducible (first | (refine Tx_regK (fun K hK => ?_); (first | refine t33r0 ?_ | refine t33r1 ?_ | refine t33r2 ?_ | refine t33r3 ?_ | refine t33r4 ?_)) | refine hqr _ ?_); (try simp only [true_implies, false_implies, not_true_eq_false, not_false_eq_true, tget_cons, if_true, if_false, Nat.reduceEqDiff, Obt_some, Kn_normal, Obt_lss, Obt_gtr, Obt_eql, Obt_neq, gdO_tt, gdO_tf, gdO_ff, gdO_ft, gdO_skip, Option.map_some, pickX_t, pickX_f, Obt_map, Obt_and, Obt_andNot, and_true, true_and, if_false, if_true, r33, tend, tresAll, tresC, Option.bind_some, mapMem, retv_int, retv_bool, tup_two, Prod.mk.injEq, ← hc, ← ho, h1, h2, h, o1, o2, gt_iff_lt, ne_eq]))
        | (revert hK; intro hK; (first | refine And.intro ?_ ?_ | intro _ | omega | (with_reducible refine hK _ ?_; clear hK K))))
        all_goals first | exact ⟨_, _, rfl, rfl⟩ | exact ⟨_, _, rfl⟩
      · refine Fw_funE rfl Try.func33 s33 (Nat.le_of_ble_eq_true rfl) (fun Q hqr hqn => ?_)
        rw [cin_t (show An.pure 33 = true from rfl) (by simp only [cans, can_int, can_bool, can_agg, can_str])]
        simp only [tinit, Nat.reduceAdd, c33]
        repeat' (first
        | with_reducible (first | refine Tx_assoc ?_ | refine Tx_yesK rfl ?_ | refine Tx_retK ?_)
        | (with_reducible (first | (refine Tx_regK (fun K hK => ?_); (first | refine t33r0 ?_ | refine t33r1 ?_ | refine t33r2 ?_ | refine t33r3 ?_ | refine t33r4 ?_)) | refine hqr _ ?_); (try simp only [true_implies, false_implies, not_true_eq_false, not_false_eq_true, tget_cons, if_true, if_false, Nat.reduceEqDiff, Obt_some, Kn_normal, Obt_lss, Obt_gtr, Obt_eql, Obt_neq, gdO_tt, gdO_tf, gdO_ff, gdO_ft, gdO_skip, Option.map_some, pickX_t, pickX_f, Obt_map, Obt_and, Obt_andNot, and_true, true_and, if_false, if_true, r33, tend, tresAll, tresC, Option.bind_some, mapMem, retv_int, retv_bool, tup_two, Prod.mk.injEq, ← hc, ← ho, h1, h2, h, h', o1, o2, gt_iff_lt, ne_eq]))
        | (revert hK; intro hK; (first | refine And.intro ?_ ?_ | intro _ | omega | (with_reducible refine hK _ ?_; clear hK K))))
        all_goals first | exact ⟨_, _, rfl, rfl⟩ | exact ⟨_, _, rfl⟩
    by_cases o3 : o = 144
    · rw [hf (by omega)]
      rcases hcc with h | ⟨h, h'⟩
      · refine Fw_funE rfl Try.func33 s33 (Nat.le_of_ble_eq_true rfl) (fun Q hqr hqn => ?_)
        rw [cin_t (show An.pure 33 = true from rfl) (by simp only [cans, can_int, can_bool, can_agg, can_str])]
        simp only [tinit, Nat.reduceAdd, c33]
        repeat' (first
        | with_reducible (first | refine Tx_assoc ?_ | refine Tx_yesK rfl ?_ | refine Tx_retK ?_)
        | (with_reducible (first | (refine Tx_regK (fun K hK => ?_); (first | refine t33r0 ?_ | refine t33r1 ?_ | refine t33r2 ?_ | refine t33r3 ?_ | refine t33r4 ?_)) | refine hqr _ ?_); (try simp only [true_implies, false_implies, not_true_eq_false, not_false_eq_true, tget_cons, if_true, if_false, Nat.reduceEqDiff, Obt_some, Kn_normal, Obt_lss, Obt_gtr, Obt_eql, Obt_neq, gdO_tt, gdO_tf, gdO_ff, gdO_ft, gdO_skip, Option.map_some, pickX_t, pickX_f, Obt_map, Obt_and, Obt_andNot, and_true, true_and, if_false, if_true, r33, tend, tresAll, tresC, Option.bind_some, mapMem, retv_int, retv_bool, tup_two, Prod.mk.injEq, ← hc, ← ho, h1, h2, h, o1, o2, o3, gt_iff_lt, ne_eq]))
        | (revert hK; intro hK; (first | refine And.intro ?_ ?_ | intro _ | omega | (with_reducible refine hK _ ?_; clear hK K))))
        all_goals first | exact ⟨_, _, rfl, rfl⟩ | exact ⟨_, _, rfl⟩
      · refine Fw_funE rfl Try.func33 s33 (Nat.le_of_ble_eq_true rfl) (fun Q hqr hqn => ?_)
        rw [cin_t (show An.pure 33 = true from rfl) (by simp only [cans, can_int, can_bool, can_agg, can_str])]
        simp only [tinit, Nat.reduceAdd, c33]
        repeat' (first
        | with_reducible (first | refine Tx_assoc ?_ | refine Tx_yesK rfl ?_ | refine Tx_retK ?_)
        | (with_reducible (first | (refine Tx_regK (fun K hK => ?_); (first | refine t33r0 ?_ | refine t33r1 ?_ | refine t33r2 ?_ | refine t33r3 ?_ | refine t33r4 ?_)) | refine hqr _ ?_); (try simp only [true_implies, false_implies, not_true_eq_false, not_false_eq_true, tget_cons, if_true, if_false, Nat.reduceEqDiff, Obt_some, Kn_normal, Obt_lss, Obt_gtr, Obt_eql, Obt_neq, gdO_tt, gdO_tf, gdO_ff, gdO_ft, gdO_skip, Option.map_some, pickX_t, pickX_f, Obt_map, Obt_and, Obt_andNot, and_true, true_and, if_false, if_true, r33, tend, tresAll, tresC, Option.bind_some, mapMem, retv_int, retv_bool, tup_two, Prod.mk.injEq, ← hc, ← ho, h1, h2, h, h', o1, o2, o3, gt_iff_lt, ne_eq]))
        | (revert hK; intro hK; (first | refine And.intro ?_ ?_ | intro _ | omega | (with_reducible refine hK _ ?_; clear hK K))))
        all_goals first | exact ⟨_, _, rfl, rfl⟩ | exact ⟨_, _, rfl⟩
    by_cases o4 : 208 < o
    · rw [hf (by omega)]
      rcases hcc with h | ⟨h, h'⟩
      · refine Fw_funE rfl Try.func33 s33 (Nat.le_of_ble_eq_true rfl) (fun Q hqr hqn => ?_)
        rw [cin_t (show An.pure 33 = true from rfl) (by simp only [cans, can_int, can_bool, can_agg, can_str])]
        simp only [tinit, Nat.reduceAdd, c33]
        repeat' (first
        | with_reducible (first | refine Tx_assoc ?_ | refine Tx_yesK rfl ?_ | refine Tx_retK ?_)
        | (with_reducible (first | (refine Tx_regK (fun K hK => ?_); (first | refine t33r0 ?_ | refine t33r1 ?_ | refine t33r2 ?_ | refine t33r3 ?_ | refine t33r4 ?_)) | refine hqr _ ?_); (try simp only [true_implies, false_implies, not_true_eq_false, not_false_eq_true, tget_cons, if_true, if_false, Nat.reduceEqDiff, Obt_some, Kn_normal, Obt_lss, Obt_gtr, Obt_eql, Obt_neq, gdO_tt, gdO_tf, gdO_ff, gdO_ft, gdO_skip, Option.map_some, pickX_t, pickX_f, Obt_map, Obt_and, Obt_andNot, and_true, true_and, if_false, if_true, r33, tend, tresAll, tresC, Option.bind_some, mapMem, retv_int, retv_bool, tup_two, Prod.mk.injEq, ← hc, ← ho, h1, h2, h, o1, o2, o3, o4, gt_iff_lt, ne_eq]))
        | (revert hK; intro hK; (with_reducible refine hK _ ?_; clear hK K)))
        all_goals first | exact ⟨_, _, rfl, rfl⟩ | exact ⟨_, _, rfl⟩
      · refine Fw_funE rfl Try.func33 s33 (Nat.le_of_ble_eq_true rfl) (fun Q hqr hqn => ?_)
        rw [cin_t (show An.pure 33 = true from rfl) (by simp only [cans, can_int, can_bool, can_agg, can_str])]
        simp only [tinit, Nat.reduceAdd, c33]
        repeat' (first
        | with_reducible (first | refine Tx_assoc ?_ | refine Tx_yesK rfl ?_ | refine Tx_retK ?_)
        | (with_reducible (first | (refine Tx_regK (fun K hK => ?_); (first | refine t33r0 ?_ | refine t33r1 ?_ | refine t33r2 ?_ | refine t33r3 ?_ | refine t33r4 ?_)) | refine hqr _ ?_); (try simp only [true_implies, false_implies, not_true_eq_false, not_false_eq_true, tget_cons, if_true, if_false, Nat.reduceEqDiff, Obt_some, Kn_normal, Obt_lss, Obt_gtr, Obt_eql, Obt_neq, gdO_tt, gdO_tf, gdO_ff, gdO_ft, gdO_skip, Option.map_some, pickX_t, pickX_f, Obt_map, Obt_and, Obt_andNot, and_true, true_and, if_false, if_true, r33, tend, tresAll, tresC, Option.bind_some, mapMem, retv_int, retv_bool, tup_two, Prod.mk.injEq, ← hc, ← ho, h1, h2, h, h', o1, o2, o3, o4, gt_iff_lt, ne_eq]))
        | (revert hK; intro hK; (first | refine And.intro ?_ ?_ | intro _ | omega | (with_reducible refine hK _ ?_; clear hK K))))
        all_goals first | exact ⟨_, _, rfl, rfl⟩ | exact ⟨_, _, rfl⟩
    rw [ht (by omega)]
    rcases hcc with h | ⟨h, h'⟩
    · refine Fw_funE rfl Try.func33 s33 (Nat.le_of_ble_eq_true rfl) (fun Q hqr hqn => ?_)
      rw [cin_t (show An.pure 33 = true from rfl) (by simp only [cans, can_int, can_bool, can_agg, can_str])]
      simp only [tinit, Nat.reduceAdd, c33]
      repeat' (first
      | with_reducible (first | refine Tx_assoc ?_ | refine Tx_nopK ?_ | refine Tx_noK rfl ?_ | refine Tx_ret ?_)
      | (with_reducible (first | (refine Tx_regK (fun K hK => ?_); (first | refine t33r0 ?_ | refine t33r1 ?_ | refine t33r2 ?_ | refine t33r3 ?_ | refine t33r5 ?_)) | refine hqr _ ?_); (try simp only [true_implies, false_implies, not_true_eq_false, not_false_eq_true, tget_cons, if_true, if_false, Nat.reduceEqDiff, Obt_some, Kn_normal, Obt_lss, Obt_gtr, Obt_eql, Obt_neq, gdO_tt, gdO_tf, gdO_ff, gdO_ft, gdO_skip, Option.map_some, pickX_t, pickX_f, Obt_map, Obt_and, Obt_andNot, and_true, true_and, if_false, if_true, r33, tend, tresAll, tresC, Option.bind_some, mapMem, retv_int, retv_bool, tup_two, Prod.mk.injEq, ← hc, ← ho, h1, h2, h, o1, o2, o3, o4, gt_iff_lt, ne_eq]))
      | (revert hK; intro hK; (with_reducible refine hK _ ?_; clear hK K)))
      all_goals first | exact ⟨_, _, rfl, rfl⟩ | exact ⟨_, _, rfl⟩
    · refine Fw_funE rfl Try.func33 s33 (Nat.le_of_ble_eq_true rfl) (fun Q hqr hqn => ?_)
      rw [cin_t (show An.pure 33 = true from rfl) (by simp only [cans, can_int, can_bool, can_agg, can_str])]
      simp only [tinit, Nat.reduceAdd, c33]
      repeat' (first
      | with_reducible (first | refine Tx_assoc ?_ | refine Tx_nopK ?_ | refine Tx_noK rfl ?_ | refine Tx_ret ?_)
      | (with_reducible (first | (refine Tx_regK (fun K hK => ?_); (first | refine t33r0 ?_ | refine t33r1 ?_ | refine t33r2 ?_ | refine t33r3 ?_ | refine t33r5 ?_)) | refine hqr _ ?_); (try simp only [true_implies, false_implies, not_true_eq_false, not_false_eq_true, tget_cons, if_true, if_false, Nat.reduceEqDiff, Obt_some, Kn_normal, Obt_lss, Obt_gtr, Obt_eql, Obt_neq, gdO_tt, gdO_tf, gdO_ff, gdO_ft, gdO_skip, Option.map_some, pickX_t, pickX_f, Obt_map, Obt_and, Obt_andNot, and_true, true_and, if_false, if_true, r33, tend, tresAll, tresC, Option.bind_some, mapMem, retv_int, retv_bool, tup_two, Prod.mk.injEq, ← hc, ← ho, h1, h2, h, h', o1, o2, o3, o4, gt_iff_lt, ne_eq]))
      | (revert hK; intro hK; (first | refine And.intro ?_ ?_ | intro _ | omega | (with_reducible refine hK _ ?_; clear hK K))))
      all_goals first | exact ⟨_, _, rfl, rfl⟩ | exact ⟨_, _, rfl⟩
  · rw [hf (by omega)]
    have h5' : ¬ c = 5 := fun h => h5 (.inl h)
    have h6' : ¬ c = 6 := fun h => h5 (.inr h)
    refine Fw_funE rfl Try.func33 s33 (Nat.le_of_ble_eq_true rfl) (fun Q hqr hqn => ?_)
    rw [cin_t (show An.pure 33 = true from rfl) (by simp only [cans, can_int, can_bool, can_agg, can_str])]
    simp only [tinit, Nat.reduceAdd, c33]
    repeat' (first
    | with_reducible (first | refine Tx_assoc ?_ | refine Tx_yesK rfl ?_ | refine Tx_retK ?_)
    | (with_reducible (first | (refine Tx_regK (fun K hK => ?_); (first | refine t33r0 ?_ | refine t33r1 ?_ | refine t33r2 ?_ | refine t33r3 ?_ | refine t33r4 ?_)) | refine hqr _ ?_); (try simp only [true_implies, false_implies, not_false_eq_true, tget_cons, if_true, if_false, Nat.reduceEqDiff, Obt_some, Kn_normal, Obt_lss, Obt_gtr, Obt_eql, Obt_neq, gdO_tt, gdO_tf, gdO_ff, gdO_ft, gdO_skip, Option.map_some, pickX_t, pickX_f, Obt_map, Obt_and, Obt_andNot, and_true, true_and, if_false, if_true, r33, tend, tresAll, tresC, Option.bind_some, mapMem, retv_int, retv_bool, tup_two, Prod.mk.injEq, ← hc, ← ho, h1, h2, h5', h6', gt_iff_lt, ne_eq]))
    | (revert hK; intro hK; (with_reducible refine hK _ ?_; clear hK K)))
    all_goals first | exact ⟨_, _, rfl, rfl⟩ | exact ⟨_, _, rfl⟩
set_option maxHeartbeats 2000000 in
theorem x32 (p : List In) (i : Int) (hp : p.length ≤ 9223372036854775807) : FF 32 [sl inC p, .int .i64 i] [] = some (.bool (holeI p i), []) := by
  by_cases h1 : i < 1
  · have he : holeI p i = false := by unfold holeI; rw [decide_eq_false (by omega)]; rfl
    refine Fw_funK rfl Try.func32 s32 (Nat.le_of_ble_eq_true rfl) (fun Q hqr hqn => ?_)
    rw [cin_t (show An.pure 32 = true from rfl) (by simp only [cans, can_int, can_bool, can_agg, can_str, inE.can_sl])]
    simp only [tinit, Nat.reduceAdd, c32]
    repeat' (first
    | with_reducible (first | refine Tx_assoc ?_ | refine Tx_yesK rfl ?_ | refine Tx_retK ?_)
    | (with_reducible (first | (refine Tx_regK (fun K hK => ?_); (first | refine t32r0 ?_ | refine t32r1 ?_ | refine t32r2 ?_)) | refine hqr _ ?_); (try simp only [true_implies, false_implies, not_true_eq_false, tget_cons, if_true, if_false, Nat.reduceEqDiff, Obt_some, Kn_normal, Obt_lss, Obt_geq, gdO_tf, gdO_ff, Option.map_some, pickX_t, pickX_f, lenS, Obt_map, Obt_sub, and_true, if_false, if_true, r32, tend, tresAll, tresC, Option.bind_some, mapMem, retv_bool, tup_one, clen_sl, h1, he]))
    | (revert hK; intro hK; (with_reducible refine hK _ ?_; clear hK K)))
  by_cases h2 : (p.length : Int) ≤ i
  · have he : holeI p i = false := by unfold holeI; rw [decide_eq_false (by omega)]; rfl
    refine Fw_funK rfl Try.func32 s32 (Nat.le_of_ble_eq_true rfl) (fun Q hqr hqn => ?_)
    rw [cin_t (show An.pure 32 = true from rfl) (by simp only [cans, can_int, can_bool, can_agg, can_str, inE.can_sl])]
    simp only [tinit, Nat.reduceAdd, c32]
    repeat' (first
    | with_reducible (first | refine Tx_assoc ?_ | refine Tx_yesK rfl ?_ | refine Tx_retK ?_)
    | (with_reducible (first | (refine Tx_regK (fun K hK => ?_); (first | refine t32r0 ?_ | refine t32r1 ?_ | refine t32r2 ?_)) | refine hqr _ ?_); (try simp only [true_implies, false_implies, not_true_eq_false, not_false_eq_true, tget_cons, if_true, if_false, Nat.reduceEqDiff, Obt_some, Kn_normal, Obt_lss, Obt_geq, gdO_tf, gdO_ff, Option.map_some, pickX_t, pickX_f, lenS, Obt_map, Obt_sub, and_true, true_and, if_false, if_true, r32, tend, tresAll, tresC, Option.bind_some, mapMem, retv_bool, tup_one, clen_sl, h1, h2, he, ge_iff_le]))
    | (revert hK; intro hK; (with_reducible refine hK _ ?_; clear hK K)))
  obtain ⟨k, rfl⟩ : ∃ k : Nat, i = k := ⟨i.toNat, by omega⟩
  have hr : holeI p k = decide (wides p k % 2 = 1) := by
    unfold holeI; rw [decide_eq_true ⟨by omega, by omega⟩, Bool.true_and]; rfl
  have w1 : IntKind.i64.wrap ((k : Int) - 1) = k - 1 := wI (by omega) (by omega)
  obtain ⟨x0, hx0⟩ : ∃ x, p[k - 1]? = some x := ⟨_, List.getElem?_eq_getElem (by omega)⟩
  have hix0 := idxS_sl (k := .i64) (i := (k : Int) - 1) inE.len (by omega : 0 < 6) (by omega) (by rw [show ((k : Int) - 1).toNat = k - 1 by omega]; exact hx0)
  rw [hr]
  by_cases h24 : x0.op = 24
  · refine Fw_funK rfl Try.func32 s32 (Nat.le_of_ble_eq_true rfl) (fun Q hqr hqn => ?_)
    rw [cin_t (show An.pure 32 = true from rfl) (by simp only [cans, can_int, can_bool, can_agg, can_str, inE.can_sl])]
    simp only [tinit, Nat.reduceAdd, c32]
    repeat' (first
    | with_reducible (first | refine Tx_assoc ?_ | refine Tx_nopK ?_ | refine Tx_noK rfl ?_ | refine Tx_blockK (id := 0) (fun Q0 hn0 hx0 hr0 ho0 => ?_))
    | (with_reducible (refine Tx_regK (fun K hK => ?_); (first | refine t32r0 ?_ | refine t32r1 ?_ | refine t32r3 ?_ | refine t32r4 ?_)); (try simp only [true_implies, false_implies, not_true_eq_false, not_false_eq_true, tget_cons, if_true, if_false, Nat.reduceEqDiff, Obt_some, Kn_normal, fldA_rptr, List.drop_zero, ld1_r, Obt_lss, Obt_geq, Obt_neq, gdO_tf, gdO_ff, pickX_t, pickX_f, lenS, Obt_map, Obt_sub, List.nil_append, List.cons_append, and_true, true_and, if_false, if_true, clen_sl, h1, h2, ge_iff_le, w1, hix0, inC, h24, ne_eq, eq_self]))
    | (revert hK; intro hK; (with_reducible refine hK _ ?_; clear hK K)))
    refine Tx_loopK (fun m s => ∃ (n : Nat) (L : List (Nat × HO)), n ≤ k ∧ m = k - n ∧ wides p k = n + wides p (k - n) ∧ s = ⟨[(0, sl inC p), (5, .int .i64 n), (6, .int .i64 ((k : Int) - 1 - n))], ⟨L, []⟩⟩) _ ⟨0, _, Nat.zero_le _, rfl, by simp, by simp; rfl⟩ ?_
    rintro m s ⟨n, L, hn, rfl, hw, rfl⟩ QL0 hnL0 hxL0 hrL0
    simp only [c32l0]
    have hend : wides p (k - n) = 0 → decide ((n : Int).tmod 2 = 1) = decide (wides p k % 2 = 1) := fun h => by
      rw [hw, h, Nat.add_zero, Int.tmod_eq_emod_of_nonneg (by omega)]
      exact decide_eq_decide.2 (by omega)
    have h20 : ¬ ((2 : Int) = 0) := by decide
    by_cases hlt : n < k
    · have hge : (0 : Int) ≤ (k : Int) - 1 - n := by omega
      have hkn : k - n = (k - n - 1) + 1 := by omega
      obtain ⟨x, hx⟩ : ∃ x, p[k - n - 1]? = some x := ⟨_, List.getElem?_eq_getElem (by omega)⟩
      have w2 : IntKind.i64.wrap ((k : Int) - 1 - n - 1) = (k : Int) - 1 - ((n + 1 : Nat) : Int) := by rw [wI (by omega) (by omega)]; omega
      have w3 : IntKind.i64.wrap ((n : Int) + 1) = ((n + 1 : Nat) : Int) := by rw [wI (by omega) (by omega)]; omega
      have hix := idxS_sl (k := .i64) (i := (k : Int) - 1 - n) inE.len (by omega : 0 < 6) (by omega) (by rw [show ((k : Int) - 1 - n).toNat = k - n - 1 by omega]; exact hx)
      by_cases h24' : x.op = 24
      · have hws : wides p (k - n) = wides p (k - (n + 1)) + 1 := by
          rw [hkn, wides_step hx h24']
          rfl
        repeat' (first
        | with_reducible (first | refine Tx_assoc ?_ | refine Tx_nopK ?_ | refine Tx_yesK rfl ?_ | refine Tx_blockK (id := 1) (fun Q1 hn1 hx1 hr1 ho1 => ?_) | refine hn1 _ ?_)
        | (with_reducible ((first | refine Tx_regK (fun K hK => ?_) | refine Tx_regE (fun K hK => ?_)); (first | refine t32r5 ?_ | refine t32r7 ?_ | refine t32r6 ?_)); (try simp only [true_implies, false_implies, not_true_eq_false, tget_cons, if_true, if_false, Nat.reduceEqDiff, Obt_some, Kn_normal, fldA_rptr, List.drop_zero, ld1_r, Obt_geq, Obt_eql, gdO_tt, gdO_ft, pickX_t, pickX_f, Obt_map, Obt_add, Obt_sub, List.nil_append, List.cons_append, and_true, if_false, if_true, hge, ge_iff_le, w2, w3, hix, inC, h24']))
        | (revert hK; intro hK; (with_reducible refine hK _ ?_; clear hK K)))
        exact hnL0 (k - (n + 1)) _ (by omega) ⟨n + 1, L, by omega, rfl, by omega, rfl⟩
      · have hws : wides p (k - n) = 0 := by rw [hkn, wides_succ hx, if_neg h24']
        have he := hend hws
        repeat' (first
        | with_reducible (first | refine Tx_assoc ?_ | refine Tx_noK rfl ?_ | refine Tx_exitK ?_ | refine Tx_ret ?_ | refine hx0 _ ?_ | refine hxL0 _ _ ?_)
        | (with_reducible (first | (refine Tx_regK (fun K hK => ?_); (first | refine t32r5 ?_ | refine t32r8 ?_)) | refine hqr _ ?_); (try simp only [true_implies, false_implies, not_true_eq_false, not_false_eq_true, tget_cons, if_true, if_false, Nat.reduceEqDiff, Obt_some, Kn_normal, fldA_rptr, List.drop_zero, ld1_r, Obt_geq, Obt_eql, gdO_tt, gdO_ft, Option.map_some, pickX_t, pickX_f, Obt_map, Obt_rem, List.nil_append, List.cons_append, and_true, true_and, if_false, if_true, r32, tend, tresAll, tresC, Option.bind_some, mapMem, retv_bool, tup_one, Prod.mk.injEq, CV.bool.injEq, hge, ge_iff_le, hix, inC, h24', h20]))
        | (revert hK; intro hK; (first | refine And.intro ?_ ?_ | intro _ | (with_reducible refine hK _ ?_; clear hK K))))
        all_goals (rw [← he]; first | exact (decide_eq_true (by assumption)).symm | exact (decide_eq_false (by assumption)).symm)
    · have hnk : n = k := by omega
      have hge : ¬ ((0 : Int) ≤ (k : Int) - 1 - n) := by omega
      have hws : wides p (k - n) = 0 := by rw [hnk, Nat.sub_self]; rfl
      have he := hend hws
      repeat' (first
      | with_reducible (first | refine Tx_assoc ?_ | refine Tx_noK rfl ?_ | refine Tx_exitK ?_ | refine Tx_ret ?_ | refine hx0 _ ?_ | refine hxL0 _ _ ?_)
      | (with_reducible (first | (refine Tx_regK (fun K hK => ?_); (first | refine t32r5 ?_ | refine t32r8 ?_)) | refine hqr _ ?_); (try simp only [true_implies, false_implies, not_false_eq_true, tget_cons, if_true, if_false, Nat.reduceEqDiff, Obt_some, Kn_normal, Obt_geq, Obt_eql, gdO_tt, gdO_ft, Option.map_some, pickX_t, pickX_f, Obt_map, Obt_rem, and_true, true_and, if_false, if_true, r32, tend, tresAll, tresC, Option.bind_some, mapMem, retv_bool, tup_one, Prod.mk.injEq, CV.bool.injEq, hge, ge_iff_le, h20]))
      | (revert hK; intro hK; (first | refine And.intro ?_ ?_ | intro _ | (with_reducible refine hK _ ?_; clear hK K))))
      all_goals (rw [← he]; first | exact (decide_eq_true (by assumption)).symm | exact (decide_eq_false (by assumption)).symm)
  · have hws : wides p k = 0 := by rw [show k = (k - 1) + 1 by omega, wides_succ hx0, if_neg h24]
    rw [hws]
    refine Fw_funK rfl Try.func32 s32 (Nat.le_of_ble_eq_true rfl) (fun Q hqr hqn => ?_)
    rw [cin_t (show An.pure 32 = true from rfl) (by simp only [cans, can_int, can_bool, can_agg, can_str, inE.can_sl])]
    simp only [tinit, Nat.reduceAdd, c32]
    repeat' (first
    | with_reducible (first | refine Tx_assoc ?_ | refine Tx_yesK rfl ?_ | refine Tx_retK ?_)
    | (with_reducible (first | (refine Tx_regK (fun K hK => ?_); (first | refine t32r0 ?_ | refine t32r1 ?_ | refine t32r2 ?_)) | refine hqr _ ?_); (try simp only [true_implies, false_implies, not_false_eq_true, tget_cons, if_true, if_false, Nat.reduceEqDiff, Obt_some, Kn_normal, fldA_rptr, List.drop_zero, ld1_r, Obt_lss, Obt_geq, Obt_neq, gdO_tf, gdO_ff, Option.map_some, pickX_t, pickX_f, lenS, Obt_map, Obt_sub, List.nil_append, List.cons_append, and_true, true_and, if_false, if_true, r32, tend, tresAll, tresC, Option.bind_some, mapMem, retv_bool, tup_one, Prod.mk.injEq, CV.bool.injEq, clen_sl, h1, h2, ge_iff_le, w1, hix0, inC, h24, ne_eq]))
    | (revert hK; intro hK; (with_reducible refine hK _ ?_; clear hK K)))
    all_goals rfl
theorem k32 {p : List In} {i : Int} (hp : p.length ≤ 9223372036854775807) {fid : FuncId} {d : Tmp} {m : Mem} : callC An FF fid (some d) 32 [sl inC p, .int .i64 i] m = some (.bool (holeI p i), m) :=
  callC_V (x32 p i hp) (fun _ _ _ => rfl) rfl (by simp only [cans, can_int, inE.can_sl]) rfl (by simp only [noGs, noG_int, inE.noG_sl, Bool.and_self]) rfl
set_option maxHeartbeats 2000000 in
theorem x16 (p : List In) (i : Int) (hp : p.length ≤ 4611686018427387904) : FF 16 [sl inC p, .int .i64 i] [] = some (ownC intC 1 (sucI p i), []) := by
  have kH : ∀ t m, callC An FF 16 (some t) 32 [sl inC p, .int .i64 i] m = some (.bool (holeI p i), m) := fun t m => k32 (by omega)
  by_cases h1 : i < 0
  · have he : sucI p i = [] := by show succL jB wrI p i = _; unfold succL; rw [if_pos (.inl h1)]
    rw [he]
    refine Fw_funK rfl Try.func16 s16 (Nat.le_of_ble_eq_true rfl) (fun Q hqr hqn => ?_)
    rw [cin_t (show An.pure 16 = true from rfl) (by simp only [cans, can_int, can_bool, can_agg, can_str, inE.can_sl])]
    simp only [tinit, Nat.reduceAdd, c16]
    repeat' (first
    | with_reducible (first | refine Tx_assoc ?_ | refine Tx_yesK rfl ?_ | refine Tx_retK ?_)
    | (with_reducible (first | (refine Tx_regK (fun K hK => ?_); (first | refine t16r0 ?_ | refine t16r1 ?_ | refine t16r2 ?_)) | refine hqr _ ?_); (try simp only [true_implies, false_implies, not_true_eq_false, tget_cons, if_true, if_false, Nat.reduceEqDiff, Obt_some, Kn_normal, Obt_lss, Obt_geq, gdO_tf, gdO_ff, Option.map_some, pickX_t, pickX_f, lenS, Obt_map, and_true, if_false, if_true, r16, tend, tresAll, tresC, Option.bind_some, mapMem, retv_nil, tup_one, Prod.mk.injEq, clen_sl, h1]))
    | (revert hK; intro hK; (with_reducible refine hK _ ?_; clear hK K)))
    all_goals rfl
  by_cases h2 : (p.length : Int) ≤ i
  · have he : sucI p i = [] := by show succL jB wrI p i = _; unfold succL; rw [if_pos (.inr (.inl h2))]
    rw [he]
    refine Fw_funK rfl Try.func16 s16 (Nat.le_of_ble_eq_true rfl) (fun Q hqr hqn => ?_)
    rw [cin_t (show An.pure 16 = true from rfl) (by simp only [cans, can_int, can_bool, can_agg, can_str, inE.can_sl])]
    simp only [tinit, Nat.reduceAdd, c16]
    repeat' (first
    | with_reducible (first | refine Tx_assoc ?_ | refine Tx_yesK rfl ?_ | refine Tx_retK ?_)
    | (with_reducible (first | (refine Tx_regK (fun K hK => ?_); (first | refine t16r0 ?_ | refine t16r1 ?_ | refine t16r2 ?_)) | refine hqr _ ?_); (try simp only [true_implies, false_implies, not_true_eq_false, not_false_eq_true, tget_cons, if_true, if_false, Nat.reduceEqDiff, Obt_some, Kn_normal, Obt_lss, Obt_geq, gdO_tf, gdO_ff, Option.map_some, pickX_t, pickX_f, lenS, Obt_map, and_true, true_and, if_false, if_true, r16, tend, tresAll, tresC, Option.bind_some, mapMem, retv_nil, tup_one, Prod.mk.injEq, clen_sl, h1, h2, ge_iff_le]))
    | (revert hK; intro hK; (with_reducible refine hK _ ?_; clear hK K)))
    all_goals rfl
  cases hh : holeI p i with
  | true =>
    rw [hh] at kH
    have he : sucI p i = [] := by show succL jB wrI p i = _; unfold succL; rw [if_pos (.inr (.inr hh))]
    rw [he]
    refine Fw_funK rfl Try.func16 s16 (Nat.le_of_ble_eq_true rfl) (fun Q hqr hqn => ?_)
    rw [cin_t (show An.pure 16 = true from rfl) (by simp only [cans, can_int, can_bool, can_agg, can_str, inE.can_sl])]
    simp only [tinit, Nat.reduceAdd, c16]
    repeat' (first
    | with_reducible (first | refine Tx_assoc ?_ | refine Tx_yesK rfl ?_ | refine Tx_retK ?_)
    | (with_reducible (first | (refine Tx_regK (fun K hK => ?_); (first | refine t16r0 ?_ | refine t16r1 ?_ | refine t16r2 ?_)) | refine hqr _ ?_); (try simp only [true_implies, false_implies, not_false_eq_true, tget_cons, if_true, if_false, Nat.reduceEqDiff, Obt_some, Kn_normal, Obt_lss, Obt_geq, gdO_tf, gdO_ff, Option.map_some, pickX_t, pickX_f, lenS, Obt_map, and_true, true_and, if_false, if_true, r16, tend, tresAll, tresC, Option.bind_some, mapMem, retv_nil, tup_one, Prod.mk.injEq, clen_sl, h1, h2, ge_iff_le, kH]))
    | (revert hK; intro hK; (with_reducible refine hK _ ?_; clear hK K)))
    all_goals rfl
  | false =>
    rw [hh] at kH
    obtain ⟨x, hx⟩ : ∃ x, p[i.toNat]? = some x := ⟨_, List.getElem?_eq_getElem (by omega)⟩
    have he : sucI p i = if x.op = 149 then [] else if x.op = 5 then [IntKind.i64.wrap (i + 1 + x.off)] else if jB x.op = true then [i + 1, IntKind.i64.wrap (i + 1 + x.off)] else if x.op = 24 then [i + 2] else [i + 1] := by
      show succL jB wrI p i = _
      unfold succL
      rw [if_neg (by rw [hh]; rintro (h | h | h); exact h1 h; exact h2 h; cases h)]
      simp only [hx]
    have hix := idxS_sl (k := .i64) (i := i) inE.len (by omega : 0 < 6) (by omega) hx
    have w1 : IntKind.i64.wrap (i + 1) = i + 1 := wI (by omega) (by omega)
    have w2 : IntKind.i64.wrap (i + 2) = i + 2 := wI (by omega) (by omega)
    obtain ⟨_, ⟨ja, jb, rfl⟩, h⟩ := x33 x.op
    obtain ⟨J, hJ⟩ : ∃ J, J = jB x.op := ⟨_, rfl⟩
    have kJ : ∀ t m, callC An FF 16 (some t) 33 [.int .i64 x.op] m = some (.tuple [.int .i64 ja, .bool jb, .bool J], m) := fun t m => by rw [hJ]; exact callC_V h (fun _ _ _ => rfl) rfl rfl rfl rfl rfl
    rw [← hJ] at he
    have o1 : ∀ a : Int, ownC intC 1 [a] = .own 1 1 [.int .i64 a] 0 := fun a => rfl
    have o2 : ∀ a b : Int, ownC intC 1 [a, b] = .own 2 1 [.int .i64 a, .int .i64 b] 0 := fun a b => rfl
    by_cases e1 : x.op = 149
    · rw [he, if_pos e1]
      refine Fw_funK rfl Try.func16 s16 (Nat.le_of_ble_eq_true rfl) (fun Q hqr hqn => ?_)
      rw [cin_t (show An.pure 16 = true from rfl) (by simp only [cans, can_int, can_bool, can_agg, can_str, inE.can_sl])]
      simp only [tinit, Nat.reduceAdd, c16]
      repeat' (first
      | with_reducible (first | refine Tx_assoc ?_ | refine Tx_nopK ?_ | refine Tx_noK rfl ?_ | refine Tx_yes rfl ?_ | refine Tx_ret ?_ | refine Tx_blockK (id := 0) (fun Q0 hn0 hx0 hr0 ho0 => ?_) | refine hr0 _ ?_)
      | (with_reducible (first | (refine Tx_regK (fun K hK => ?_); (first | refine t16r0 ?_ | refine t16r1 ?_ | refine t16r3 ?_ | refine t16r4 ?_ | refine t16r5 ?_ | refine t16r6 ?_)) | refine hqr _ ?_); (try simp only [true_implies, false_implies, not_true_eq_false, not_false_eq_true, tget_cons, if_true, if_false, Nat.reduceEqDiff, ccells, Obt_some, Kn_normal, newL_eq, newP_eq, lget_setL, setL_setL, setL_H, Nat.reduceAdd, Nat.zero_add, fldA_ptr, ld1_l, rd1_var, List.getElem?_cons_zero, List.getElem?_cons_succ, Obt_lss, Obt_geq, Obt_eql, gdO_tf, gdO_ff, Option.map_some, pickX_t, pickX_f, lenS, Obt_map, Obt_ext, stX_l, stV_var, splice, List.take_zero, List.drop_succ_cons, List.drop_nil, List.nil_append, List.cons_append, List.append_nil, List.length_cons, List.length_nil, and_self, and_true, true_and, Nat.le_refl, if_false, if_true, r16, tend, tresAll, tresC, Option.bind_some, mapMem, retv_nil, tup_one, Prod.mk.injEq, clen_sl, h1, h2, ge_iff_le, kH, hix, inC, ldA_r6, kJ, eq_true e1]))
      | (revert hK; intro hK; (with_reducible refine hK _ ?_; clear hK K)))
      all_goals first | rfl | simp_all
    by_cases e2 : x.op = 5
    · rw [he, if_neg e1, if_pos e2, o1]
      refine Fw_funK rfl Try.func16 s16 (Nat.le_of_ble_eq_true rfl) (fun Q hqr hqn => ?_)
      rw [cin_t (show An.pure 16 = true from rfl) (by simp only [cans, can_int, can_bool, can_agg, can_str, inE.can_sl])]
      simp only [tinit, Nat.reduceAdd, c16]
      repeat' (first
      | with_reducible (first | refine Tx_assoc ?_ | refine Tx_nopK ?_ | refine Tx_noK rfl ?_ | refine Tx_yes rfl ?_ | refine Tx_no rfl ?_ | refine Tx_ret ?_ | refine Tx_blockK (id := 0) (fun Q0 hn0 hx0 hr0 ho0 => ?_) | refine hr0 _ ?_)
      | (with_reducible (first | (refine Tx_regK (fun K hK => ?_); (first | refine t16r0 ?_ | refine t16r1 ?_ | refine t16r3 ?_ | refine t16r4 ?_ | refine t16r5 ?_ | refine t16r7 ?_ | refine t16r8 ?_)) | refine hqr _ ?_); (try simp only [true_implies, false_implies, not_true_eq_false, not_false_eq_true, tget_cons, if_true, if_false, Nat.reduceEqDiff, ccells, Obt_some, Kn_normal, newL_eq, newP_eq, nmA_f, nmR_f, gn_var, gnext_setL, lget_setL, setL_setL, setL_H, Nat.reduceMul, Nat.reduceAdd, Nat.zero_add, fldA_ptr, List.drop_zero, ld1_l, rd1_var, List.getElem?_cons_zero, List.getElem?_cons_succ, Obt_lss, Obt_geq, Obt_eql, gdO_tf, gdO_ff, Option.map_some, pickX_t, pickX_f, lenS, Obt_map, Obt_add, Obt_ext, Obt_bind, fillX, bslX, escP_list, stX_l, stV_var, splice, List.take_zero, List.take_succ_cons, List.drop_succ_cons, List.drop_nil, List.nil_append, List.cons_append, List.append_nil, List.length_cons, List.length_nil, and_self, and_true, true_and, Nat.le_refl, escP, List.all_cons, List.all_nil, Bool.and_self, if_false, if_true, r16, tend, tresAll, tresC, Option.bind_some, mapMem, retv_l, retR_arr, Nat.sub_self, tup_one, clen_sl, h1, h2, ge_iff_le, kH, hix, inC, ldA_r6, kJ, e1, eq_true e2, w1]))
      | (revert hK; intro hK; (with_reducible refine hK _ ?_; clear hK K)))
      all_goals first | rfl | simp_all
    cases J with
    | true =>
      rw [he, if_neg e1, if_neg e2, if_pos rfl, o2]
      refine Fw_funK rfl Try.func16 s16 (Nat.le_of_ble_eq_true rfl) (fun Q hqr hqn => ?_)
      rw [cin_t (show An.pure 16 = true from rfl) (by simp only [cans, can_int, can_bool, can_agg, can_str, inE.can_sl])]
      simp only [tinit, Nat.reduceAdd, c16]
      repeat' (first
      | with_reducible (first | refine Tx_assoc ?_ | refine Tx_nopK ?_ | refine Tx_noK rfl ?_ | refine Tx_yes rfl ?_ | refine Tx_no rfl ?_ | refine Tx_ret ?_ | refine Tx_blockK (id := 0) (fun Q0 hn0 hx0 hr0 ho0 => ?_) | refine hr0 _ ?_)
      | (with_reducible (first | (refine Tx_regK (fun K hK => ?_); (first | refine t16r0 ?_ | refine t16r1 ?_ | refine t16r3 ?_ | refine t16r4 ?_ | refine t16r5 ?_ | refine t16r7 ?_ | refine t16r9 ?_ | refine t16r10 ?_)) | refine hqr _ ?_); (try simp only [true_implies, false_implies, not_false_eq_true, tget_cons, if_true, if_false, Nat.reduceEqDiff, ccells, Obt_some, Kn_normal, newL_eq, newP_eq, nmA_f, nmR_f, gn_var, gnext_setL, lget_setL, setL_setL, setL_H, Nat.reduceMul, Nat.reduceAdd, Nat.zero_add, fldA_ptr, List.drop_zero, ld1_l, rd1_var, List.getElem?_cons_zero, List.getElem?_cons_succ, Obt_lss, Obt_geq, Obt_eql, gdO_tf, gdO_ff, Option.map_some, pickX_t, pickX_f, lenS, Obt_map, Obt_add, Obt_ext, Obt_bind, fillX, bslX, escP_list, stX_l, stV_var, splice, List.take_zero, List.take_succ_cons, List.drop_succ_cons, List.drop_nil, List.nil_append, List.cons_append, List.append_nil, List.length_cons, List.length_nil, Nat.reduceLeDiff, and_self, and_true, true_and, Nat.le_refl, escP, List.all_cons, List.all_nil, Bool.and_self, if_false, if_true, r16, tend, tresAll, tresC, Option.bind_some, mapMem, retv_l, retR_arr, Nat.sub_self, tup_one, clen_sl, h1, h2, ge_iff_le, kH, hix, inC, ldA_r6, kJ, e1, e2, w1]))
      | (revert hK; intro hK; (with_reducible refine hK _ ?_; clear hK K)))
      all_goals first | rfl | simp_all
    | false =>
      rw [he, if_neg e1, if_neg e2, if_neg (by decide)]
      by_cases e3 : x.op = 24
      · rw [if_pos e3, o1]
        refine Fw_funK rfl Try.func16 s16 (Nat.le_of_ble_eq_true rfl) (fun Q hqr hqn => ?_)
        rw [cin_t (show An.pure 16 = true from rfl) (by simp only [cans, can_int, can_bool, can_agg, can_str, inE.can_sl])]
        simp only [tinit, Nat.reduceAdd, c16]
        repeat' (first
        | with_reducible (first | refine Tx_assoc ?_ | refine Tx_nopK ?_ | refine Tx_noK rfl ?_ | refine Tx_yes rfl ?_ | refine Tx_no rfl ?_ | refine Tx_ret ?_ | refine Tx_blockK (id := 0) (fun Q0 hn0 hx0 hr0 ho0 => ?_) | refine hr0 _ ?_)
        | (with_reducible (first | (refine Tx_regK (fun K hK => ?_); (first | refine t16r0 ?_ | refine t16r1 ?_ | refine t16r3 ?_ | refine t16r4 ?_ | refine t16r5 ?_ | refine t16r7 ?_ | refine t16r9 ?_ | refine t16r11 ?_ | refine t16r12 ?_)) | refine hqr _ ?_); (try simp only [true_implies, false_implies, not_true_eq_false, not_false_eq_true, tget_cons, if_true, if_false, Nat.reduceEqDiff, ccells, Obt_some, Kn_normal, newL_eq, newP_eq, nmA_f, nmR_f, gn_var, gnext_setL, lget_setL, setL_setL, setL_H, Nat.reduceMul, Nat.reduceAdd, Nat.zero_add, fldA_ptr, List.drop_zero, ld1_l, rd1_var, List.getElem?_cons_zero, List.getElem?_cons_succ, Obt_lss, Obt_geq, Obt_eql, gdO_tf, gdO_ff, Option.map_some, pickX_t, pickX_f, lenS, Obt_map, Obt_add, Obt_ext, Obt_bind, fillX, bslX, escP_list, stX_l, stV_var, splice, List.take_zero, List.take_succ_cons, List.drop_succ_cons, List.drop_nil, List.nil_append, List.cons_append, List.append_nil, List.length_cons, List.length_nil, and_self, and_true, true_and, Nat.le_refl, escP, List.all_cons, List.all_nil, Bool.and_self, if_false, if_true, r16, tend, tresAll, tresC, Option.bind_some, mapMem, retv_l, retR_arr, Nat.sub_self, tup_one, clen_sl, h1, h2, ge_iff_le, kH, hix, inC, ldA_r6, kJ, e1, e2, eq_true e3, w2]))
        | (revert hK; intro hK; (with_reducible refine hK _ ?_; clear hK K)))
        all_goals first | rfl | simp_all
      · rw [if_neg e3, o1]
        refine Fw_funK rfl Try.func16 s16 (Nat.le_of_ble_eq_true rfl) (fun Q hqr hqn => ?_)
        rw [cin_t (show An.pure 16 = true from rfl) (by simp only [cans, can_int, can_bool, can_agg, can_str, inE.can_sl])]
        simp only [tinit, Nat.reduceAdd, c16]
        repeat' (first
        | with_reducible (first | refine Tx_assoc ?_ | refine Tx_nopK ?_ | refine Tx_noK rfl ?_ | refine Tx_no rfl ?_ | refine Tx_ret ?_ | refine Tx_nop ?_ | refine Tx_blockK (id := 0) (fun Q0 hn0 hx0 hr0 ho0 => ?_) | refine hn0 _ ?_)
        | (with_reducible (first | (refine Tx_regK (fun K hK => ?_); (first | refine t16r0 ?_ | refine t16r1 ?_ | refine t16r3 ?_ | refine t16r4 ?_ | refine t16r5 ?_ | refine t16r7 ?_ | refine t16r9 ?_ | refine t16r11 ?_ | refine t16r13 ?_)) | refine hqr _ ?_); (try simp only [true_implies, false_implies, not_false_eq_true, tget_cons, if_true, if_false, Nat.reduceEqDiff, ccells, Obt_some, Kn_normal, newL_eq, newP_eq, nmA_f, nmR_f, gn_var, gnext_setL, lget_setL, setL_setL, setL_H, Nat.reduceMul, Nat.reduceAdd, Nat.zero_add, fldA_ptr, List.drop_zero, ld1_l, rd1_var, List.getElem?_cons_zero, List.getElem?_cons_succ, Obt_lss, Obt_geq, Obt_eql, gdO_tf, gdO_ff, Option.map_some, pickX_t, pickX_f, lenS, Obt_map, Obt_add, Obt_ext, Obt_bind, fillX, bslX, escP_list, stX_l, stV_var, splice, List.take_zero, List.take_succ_cons, List.drop_succ_cons, List.drop_nil, List.nil_append, List.cons_append, List.append_nil, List.length_cons, List.length_nil, and_self, and_true, true_and, Nat.le_refl, escP, List.all_cons, List.all_nil, Bool.and_self, if_false, if_true, r16, tend, tresAll, tresC, Option.bind_some, mapMem, retv_l, retR_arr, Nat.sub_self, tup_one, clen_sl, h1, h2, ge_iff_le, kH, hix, inC, ldA_r6, kJ, e1, e2, e3, w1]))
        | (revert hK; intro hK; (with_reducible refine hK _ ?_; clear hK K)))
        all_goals first | rfl | simp_all
theorem k16 {p : List In} {i : Int} (hp : p.length ≤ 4611686018427387904) {fid : FuncId} {t : Tmp} {m : Mem} {K : CV × Mem → Prop} (hgl : (An.glob fid).contains t = false)
    (hK : ∀ v m', OwnE intC 1 m' (16 * t) v (sucI p i) → m'.H = m.H → (∀ i, i ≠ 16 * t → lget m'.L i = lget m.L i) → K (v, m')) : Obt (callC An FF fid (some t) 16 [sl inC p, .int .i64 i] m) K :=
  callC_O (x16 p i hp) rfl (by simp only [cans, can_int, inE.can_sl]) rfl (by simp only [noGs, noG_int, inE.noG_sl, Bool.and_self]) intE.noG hgl hK
end Go.Cm

namespace Go.Cm
open Go.Proofs Go.Fl
set_option maxHeartbeats 8000000 in
theorem x6 (p : List In) (hp : p.length ≤ 9223372036854775807) : ∃ r, (∃ H', r = (CV.bool true, H')) ∧ FF 6 [sl inC p] [] = some r := by
  by_cases h0 : chkP p = 0
  · have hg : Ok (gP p) := gr_ok h0
    obtain ⟨hn1, hn2, _⟩ := chkE_ok h0
    obtain ⟨hrl, hll⟩ := reachL_len h0
    obtain ⟨v, H, l, hF, _, k7⟩ := k7 hp h0 []
    refine Fw_funE rfl Try.func6 s6 (Nat.le_of_ble_eq_true rfl) (fun Q hqr hqn => ?_)
    rw [cin_t (show An.pure 6 = true from rfl) (by simp only [cans, can_int, can_bool, can_agg, can_str, inE.can_sl])]
    simp only [tinit, Nat.reduceAdd, c6]
    repeat' (first
    | with_reducible (first | refine Tx_assoc ?_ | refine Tx_nopK ?_ | refine Tx_noK rfl ?_ | refine Tx_blockK (id := 0) (fun Q0 hn0 hx0 hr0 ho0 => ?_))
    | (with_reducible (refine Tx_regK (fun K hK => ?_); (first | refine t6r0 ?_ | refine t6r1 ?_ | refine t6r2 ?_ | refine t6r4 ?_)); (try simp only [true_implies, false_implies, not_true_eq_false, tget_cons, if_true, if_false, Nat.reduceEqDiff, Obt_some, Kn_normal, List.getElem?_cons_zero, List.getElem?_cons_succ, Obt_neq, Obt_ext, and_true, if_false, if_true, k7, ne_eq, eq_self]))
    | (revert hK; intro hK; (with_reducible refine hK _ ?_; clear hK K)))
    refine Tx_loopK (fun m s => ∃ (k : Nat) (L : List (Nat × HO)), k ≤ (leadL (gP p)).length ∧ m = (leadL (gP p)).length - k ∧ s = ⟨[(0, sl inC p), (3, v), (5, .int .i64 k)], ⟨L, H⟩⟩) _ ⟨0, _, Nat.zero_le _, rfl, rfl⟩ ?_
    rintro m s ⟨k, L, hk, rfl, rfl⟩ QL1 hnL1 hxL1 hrL1
    simp only [c6l1]
    by_cases hkN : k < (leadL (gP p)).length
    · have hlt' : (k : Int) < (leadL (gP p)).length := by omega
      have hw' : IntKind.i64.wrap ((k : Int) + 1) = k + 1 := wI (by omega) (by omega)
      have ek : ((k : Int) + 1) = ((k + 1 : Nat) : Int) := by omega
      obtain ⟨a, ha⟩ : ∃ a, (leadL (gP p))[k]? = some a := ⟨_, List.getElem?_eq_getElem hkN⟩
      obtain ⟨n, gn, sv, pv, hix, l0, l1, l2, _, _, _, _⟩ := hF.at ha
      have haL : Lead (gP p) a := (mem_leadL hg).1 (List.mem_of_getElem? ha)
      have hal := haL.r.live hg
      have hlp : last (gP p) a < p.length := hg.lt _ ((row_last hg hal).live hg hal)
      have hnx : ∀ L', QL1 .normal ⟨[(0, sl inC p), (3, v), (5, .int .i64 ((k : Int) + 1))], ⟨L', H⟩⟩ := fun L' => by
        rw [ek]
        exact hnL1 ((leadL (gP p)).length - (k + 1)) _ (by omega) ⟨k + 1, L', by omega, rfl, rfl⟩
      repeat' (first
      | with_reducible (first | refine Tx_assoc ?_ | refine Tx_nopK ?_ | refine Tx_yesK rfl ?_ | refine Tx_blockK (id := 1) (fun Q1 hn1 hx1 hr1 ho1 => ?_) | refine Tx_blockK (id := 2) (fun Q2 hn2 hx2 hr2 ho2 => ?_))
      | (with_reducible (refine Tx_regK (fun K hK => ?_); (first | refine t6r5 ?_ | refine t6r7 ?_ | refine t6r8 ?_)); (try simp only [true_implies, false_implies, not_true_eq_false, tget_cons, if_true, if_false, Nat.reduceEqDiff, Obt_some, Kn_normal, fldA_ptr, Obt_lss, Option.map_some, lenS, and_true, if_false, if_true, hF.clen, hlt', hix, l0, Nat.add_zero]))
      | (revert hK; intro hK; (with_reducible refine hK _ ?_; clear hK K)))
      refine Tx_loopK (fun m s => ∃ (x n : Nat) (L : List (Nat × HO)), Fl.Row (gP p) a x ∧ n ≤ x ∧ m = last (gP p) a - x ∧ s = ⟨[(0, sl inC p), (3, v), (5, .int .i64 k), (6, .int .i64 x), (7, .int .i64 n)], ⟨L, H⟩⟩) _ ⟨a, 0, L, .base, Nat.zero_le _, rfl, rfl⟩ ?_
      rintro m s ⟨x, nn, L, hr, hn, rfl, rfl⟩ QL0 hnL0 hxL0 hrL0
      simp only [c6l0]
      have hxl := hr.live hg hal
      have hxn : x < p.length := hg.lt _ hxl
      by_cases hx : (x : Int) = last (gP p) a
      · have hgt := to_gt hg hal
        have hle := to_le hg hal
        have c1 : ¬ ((toF (gP p) a : Nat) : Int) ≤ (last (gP p) a : Nat) := by omega
        have hw2 : IntKind.i64.wrap (((last (gP p) a : Nat) : Int) + 2) = (last (gP p) a : Nat) + 2 := wI (by omega) (by omega)
        have c2 : ¬ (((last (gP p) a : Nat) : Int) + 2 < (toF (gP p) a : Nat)) := by omega
        repeat' (first
        | with_reducible (first | refine Tx_assoc ?_ | refine Tx_noK rfl ?_ | refine Tx_no rfl ?_ | refine Tx_exitK ?_ | refine Tx_nop ?_ | refine hn1 _ ?_ | refine hx2 _ ?_ | refine hxL0 _ _ ?_)
        | (with_reducible ((first | refine Tx_regK (fun K hK => ?_) | refine Tx_regE (fun K hK => ?_)); (first | refine t6r9 ?_ | refine t6r15 ?_ | refine t6r6 ?_)); (try simp only [true_implies, false_implies, not_true_eq_false, not_false_eq_true, tget_cons, if_true, if_false, Nat.reduceEqDiff, Obt_some, Kn_normal, fldA_ptr, Obt_leq, Obt_gtr, Obt_neq, gdO_tf, gdO_ff, pickX_t, pickX_f, Obt_map, Obt_add, and_true, true_and, if_false, if_true, hix, l1, l2, hx, ne_eq, eq_self, c1, hw2, gt_iff_lt, c2, hw']))
        | (revert hK; intro hK; (with_reducible refine hK _ ?_; clear hK K)))
        all_goals exact hnx _
      · have hns : ¬ Stop (gP p) x := fun h => hx (by
          have h1 := last_stop hg hxl h
          have h2 := hr.ends hg hal
          omega)
        obtain ⟨_, hsu, _⟩ := not_stop hg hxl hns
        have hst := hr.step hns
        have hle := hst.le_last hg hal
        have hwp := wd_pos hg hxl
        repeat' (first
        | with_reducible (first | refine Tx_assoc ?_ | refine Tx_nopK ?_ | refine Tx_yesK rfl ?_ | refine Tx_blockK (id := 3) (fun Q3 hn3 hx3 hr3 ho3 => ?_))
        | (with_reducible (refine Tx_regK (fun K hK => ?_); (first | refine t6r9 ?_ | refine t6r11 ?_)); (try simp only [true_implies, false_implies, not_false_eq_true, tget_cons, if_true, if_false, Nat.reduceEqDiff, Obt_some, Kn_normal, fldA_ptr, Obt_neq, true_and, if_false, if_true, hix, l2, hx, ne_eq]))
        | (revert hK; intro hK; (with_reducible refine hK _ ?_; clear hK K)))
        refine k16 (by omega) rfl fun vs m' hO hH' hf => ?_
        rw [sucI_succ h0 hxl, hsu] at hO
        refine hK _ ?_
        clear hK K
        obtain ⟨L', H'⟩ := m'
        simp only at hH'
        have hlen := hO.len
        have h11 : ((nI [x + (gP p).wd x]).length : Int) = 1 := rfl
        obtain ⟨q, hq1, hq2⟩ := hO.at (i := 0) (a := ((x + (gP p).wd x : Nat) : Int)) rfl (k := .i64)
        have hq1' : idxS 1 vs (.int .i64 0) = some q := hq1
        have hld : ld1 ⟨L', H'⟩ q = some (.int .i64 ((x + (gP p).wd x : Nat) : Int)) := hq2 _ rfl
        subst hH'
        obtain ⟨y, hy⟩ : ∃ y, y = x + (gP p).wd x := ⟨_, rfl⟩
        rw [← hy] at hld hle hst
        have c1 : ¬ ((y : Int) ≤ x) := by omega
        have c2 : ¬ (((last (gP p) a : Nat) : Int) < y) := by omega
        have c3 : ¬ ((p.length : Int) < nn) := by omega
        have hwn : IntKind.i64.wrap ((nn : Int) + 1) = ((nn + 1 : Nat) : Int) := by rw [wI (by omega) (by omega)]; omega
        repeat' (first
        | with_reducible (first | refine Tx_assoc ?_ | refine Tx_nopK ?_ | refine Tx_noK rfl ?_ | refine hn3 _ ?_)
        | (with_reducible ((first | refine Tx_regK (fun K hK => ?_) | refine Tx_regE (fun K hK => ?_)); (first | refine t6r12 ?_ | refine t6r14 ?_ | refine t6r10 ?_)); (try simp only [true_implies, false_implies, not_true_eq_false, not_false_eq_true, tget_cons, if_true, if_false, Nat.reduceEqDiff, Obt_some, Kn_normal, fldA_ptr, Obt_leq, Obt_gtr, Obt_neq, gdO_tf, gdO_ff, Option.map_some, pickX_t, pickX_f, lenS, Obt_map, Obt_add, and_true, true_and, if_false, if_true, hlen, h11, ne_eq, eq_self, hq1', hld, c1, hix, l2, gt_iff_lt, c2, clen_sl, c3, hwn]))
        | (revert hK; intro hK; (with_reducible refine hK _ ?_; clear hK K)))
        exact hnL0 (last (gP p) a - y) _ (by omega) ⟨y, nn + 1, _, hst, by omega, rfl, rfl⟩
    · have hge' : ¬ ((k : Int) < (leadL (gP p)).length) := by omega
      repeat' (first
      | with_reducible (first | refine Tx_assoc ?_ | refine Tx_noK rfl ?_ | refine Tx_exitK ?_ | refine Tx_ret ?_ | refine hx0 _ ?_ | refine hxL1 _ _ ?_)
      | (with_reducible (first | (refine Tx_regK (fun K hK => ?_); (first | refine t6r5 ?_ | refine t6r17 ?_)) | refine hqr _ ?_); (try simp only [true_implies, false_implies, not_false_eq_true, tget_cons, if_true, if_false, Nat.reduceEqDiff, Obt_some, Kn_normal, Obt_lss, Option.map_some, lenS, true_and, if_false, if_true, r6, tend, tresAll, tresC, Option.bind_some, mapMem, retv_bool, tup_one, Prod.mk.injEq, hF.clen, hge', k15]))
      | (revert hK; intro hK; (with_reducible refine hK _ ?_; clear hK K)))
      all_goals exact ⟨_, rfl⟩
  · have k7 := fun t m => k7_bad hp h0 (fid := 6) (t := t) (m := m)
    refine Fw_funE rfl Try.func6 s6 (Nat.le_of_ble_eq_true rfl) (fun Q hqr hqn => ?_)
    rw [cin_t (show An.pure 6 = true from rfl) (by simp only [cans, can_int, can_bool, can_agg, can_str, inE.can_sl])]
    simp only [tinit, Nat.reduceAdd, c6]
    repeat' (first
    | with_reducible (first | refine Tx_assoc ?_ | refine Tx_yesK rfl ?_ | refine Tx_retK ?_)
    | (with_reducible (first | (refine Tx_regK (fun K hK => ?_); (first | refine t6r0 ?_ | refine t6r1 ?_ | refine t6r2 ?_ | refine t6r3 ?_)) | refine hqr _ ?_); (try simp only [true_implies, false_implies, not_false_eq_true, tget_cons, if_true, if_false, Nat.reduceEqDiff, Obt_some, Kn_normal, List.getElem?_cons_zero, List.getElem?_cons_succ, Obt_neq, Option.map_some, Obt_ext, true_and, if_false, if_true, r6, tend, tresAll, tresC, Option.bind_some, mapMem, retv_bool, tup_one, Prod.mk.injEq, k7, h0, ne_eq, k15]))
    | (revert hK; intro hK; (with_reducible refine hK _ ?_; clear hK K)))
    all_goals exact ⟨_, rfl⟩
end Go.Cm

namespace Go.Cm
open Go.Proofs Go.Fl
set_option maxRecDepth 100000 in
theorem ins_of {n : Nat} {d : D} (h : D.ok Try.prog (n + 2) 47 d) : ∃ x : In, d.cells = inC x ∧ Inw x := by
  obtain ⟨ds, rfl, h1⟩ := ok_struct (ts := [3, 3, 3, 3, 3, 45]) Try.underlying47 (by kernel_rfl) h
  obtain ⟨d1, r1, rfl, k1, h1⟩ := oks_cons h1
  obtain ⟨d2, r2, rfl, k2, h1⟩ := oks_cons h1
  obtain ⟨d3, r3, rfl, k3, h1⟩ := oks_cons h1
  obtain ⟨d4, r4, rfl, k4, h1⟩ := oks_cons h1
  obtain ⟨d5, r5, rfl, k5, h1⟩ := oks_cons h1
  obtain ⟨d6, r6, rfl, k6, h1⟩ := oks_cons h1
  obtain rfl := oks_nil h1
  obtain ⟨x1, rfl, _⟩ := ok_i64 Try.underlying3 k1
  obtain ⟨x2, rfl, _⟩ := ok_i64 Try.underlying3 k2
  obtain ⟨x3, rfl, _⟩ := ok_i64 Try.underlying3 k3
  obtain ⟨x4, rfl, _⟩ := ok_i64 Try.underlying3 k4
  obtain ⟨x5, rfl, _⟩ := ok_i64 Try.underlying3 k5
  obtain ⟨x6, rfl, w⟩ := ok_u64 Try.underlying45 k6
  have w1 := w.1
  have w2 := w.2
  exact ⟨⟨x1, x2, x3, x4, x5, x6⟩, rfl, w1, by show x6 < 18446744073709551616; omega⟩
set_option maxRecDepth 100000 in
theorem prog_of {n : Nat} {d : D} (h : D.ok Try.prog (n + 3) 22 d) : ∃ p : List In, d.cv = sl inC p ∧ p.length ≤ 9223372036854775807 ∧ ∀ x ∈ p, Inw x := by
  obtain ⟨l, _, e2, w2⟩ := slice_of (e := inC) (W := Inw) Try.underlying22 (fun x hx => ins_of (n := n) hx) h
  exact ⟨l, e2, w2.1, w2.2⟩
end Go.Cm
