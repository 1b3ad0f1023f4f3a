import Derived.Test.YtijcpefcfcbcnaaIzD
import Derived.Test.YtijcpefcfcbcnaaIyE
set_option linter.unusedSimpArgs false
set_option linter.unusedVariables false
namespace Go.Cm
open Go.Proofs Go.Ir
theorem x29 (e : Tm) : FF 29 [.agg (tmC e)] [] = some (ownC intC 1 (ends e), []) := by
  refine Fw_funK rfl Try.func29 s29 (Nat.le_of_ble_eq_true rfl) (fun Q hqr hqn => ?_)
  rw [cin_t (show An.pure 29 = true from rfl) (by simp only [cans, can_int, can_bool, can_agg, can_str, tmE.can])]
  simp only [tinit, Nat.reduceAdd, c29]
  repeat' (first
  | with_reducible (first | refine Tx_assoc ?_ | refine Tx_yes rfl ?_ | refine Tx_no rfl ?_ | refine Tx_ret ?_ | refine Tx_nop ?_ | refine Tx_blockK (id := 0) (fun Q0 hn0 hx0 hr0 ho0 => ?_) | refine hn0 _ ?_ | refine hr0 _ ?_)
  | (with_reducible (first | (refine Tx_regK (fun K hK => ?_); (first | refine t29r0 ?_ | refine t29r1 ?_ | refine t29r2 ?_ | refine t29r3 ?_ | refine t29r4 ?_ | refine t29r5 ?_ | refine t29r6 ?_)) | refine hqr _ ?_); (try simp only [SS, Nat.reduceEqDiff, ccells, nmA_f, nmR_f, gn_var, gnext_setL, setL_setL, Nat.reduceMul, Nat.reduceAdd, Obt_bind, fillX, bslX, escP_list, splice, Nat.reduceLeDiff, escP, List.all_cons, List.all_nil, Bool.and_self, r29, tend, tresAll, tresC, mapMem, retv_l, retR_arr, Nat.sub_self, retv_nil, tmC]))
  | (revert hK; intro hK; (first | refine And.intro ?_ ?_ | intro _ | (with_reducible refine hK _ ?_; clear hK K))))
  all_goals simp_all [ends, ownC, intC]
def usesR (n : Nd) : CV := if n.op = 7 then ownN intC 1 n.args else ownC intC 1 (uses n)
theorem x30 (n : Nd) (hl : n.args.length ≤ 17592186044416) : FF 30 [.agg (ndC n)] [] = some (usesR n, []) := by
  by_cases h4 : n.op = 4
  · refine Fw_funK rfl Try.func30 s30 (Nat.le_of_ble_eq_true rfl) (fun Q hqr hqn => ?_)
    rw [cin_t (show An.pure 30 = true from rfl) (by simp only [cans, can_int, can_bool, can_agg, can_str, ndE.can])]
    simp only [tinit, Nat.reduceAdd, c30]
    repeat' (first
    | with_reducible (first | refine Tx_assoc ?_ | refine Tx_nopK ?_ | refine Tx_yesK rfl ?_ | refine Tx_yes rfl ?_ | refine Tx_ret ?_ | refine Tx_blockK (id := 0) (fun Q0 hn0 hx0 hr0 ho0 => ?_) | refine hr0 _ ?_)
    | (with_reducible (first | (refine Tx_regK (fun K hK => ?_); (first | refine t30r0 ?_ | refine t30r1 ?_ | refine t30r2 ?_ | refine t30r4 ?_)) | refine hqr _ ?_); (try simp only [SS, Nat.reduceEqDiff, ccells, nmA_f, nmR_f, gn_var, gnext_setL, setL_setL, Nat.reduceMul, Nat.reduceAdd, Obt_bind, fillX, bslX, escP_list, splice, Nat.reduceLeDiff, escP, List.all_cons, List.all_nil, Bool.and_self, r30, tend, tresAll, tresC, mapMem, retv_l, retR_arr, Nat.sub_self, ndC, h4]))
    | (revert hK; intro hK; (with_reducible refine hK _ ?_; clear hK K)))
    all_goals simp [usesR, uses, h4, ownC, intC]
  by_cases h6 : n.op = 6
  · refine Fw_funK rfl Try.func30 s30 (Nat.le_of_ble_eq_true rfl) (fun Q hqr hqn => ?_)
    rw [cin_t (show An.pure 30 = true from rfl) (by simp only [cans, can_int, can_bool, can_agg, can_str, ndE.can])]
    simp only [tinit, Nat.reduceAdd, c30]
    repeat' (first
    | with_reducible (first | refine Tx_assoc ?_ | refine Tx_noK rfl ?_ | refine Tx_yes rfl ?_ | refine Tx_ret ?_ | refine Tx_blockK (id := 0) (fun Q0 hn0 hx0 hr0 ho0 => ?_) | refine hr0 _ ?_)
    | (with_reducible (first | (refine Tx_regK (fun K hK => ?_); (first | refine t30r0 ?_ | refine t30r1 ?_ | refine t30r2 ?_ | refine t30r3 ?_ | refine t30r4 ?_)) | refine hqr _ ?_); (try simp only [SS, Nat.reduceEqDiff, ccells, nmA_f, nmR_f, gn_var, gnext_setL, setL_setL, Nat.reduceMul, Nat.reduceAdd, Obt_bind, fillX, bslX, escP_list, splice, Nat.reduceLeDiff, escP, List.all_cons, List.all_nil, Bool.and_self, r30, tend, tresAll, tresC, mapMem, retv_l, retR_arr, Nat.sub_self, ndC, h6]))
    | (revert hK; intro hK; (first | refine And.intro ?_ ?_ | intro _ | omega | (with_reducible refine hK _ ?_; clear hK K))))
    all_goals simp [usesR, uses, h6, ownC, intC]
  by_cases h5 : n.op = 5
  · refine Fw_funK rfl Try.func30 s30 (Nat.le_of_ble_eq_true rfl) (fun Q hqr hqn => ?_)
    rw [cin_t (show An.pure 30 = true from rfl) (by simp only [cans, can_int, can_bool, can_agg, can_str, ndE.can])]
    simp only [tinit, Nat.reduceAdd, c30]
    repeat' (first
    | with_reducible (first | refine Tx_assoc ?_ | refine Tx_noK rfl ?_ | refine Tx_yes rfl ?_ | refine Tx_no rfl ?_ | refine Tx_ret ?_ | refine Tx_blockK (id := 0) (fun Q0 hn0 hx0 hr0 ho0 => ?_) | refine hr0 _ ?_)
    | (with_reducible (first | (refine Tx_regK (fun K hK => ?_); (first | refine t30r0 ?_ | refine t30r1 ?_ | refine t30r2 ?_ | refine t30r3 ?_ | refine t30r5 ?_ | refine t30r6 ?_)) | refine hqr _ ?_); (try simp only [SS, Nat.reduceEqDiff, ccells, nmA_f, nmR_f, gn_var, gnext_setL, setL_setL, Nat.reduceMul, Obt_bind, fillX, bslX, escP_list, splice, escP, List.all_cons, List.all_nil, Bool.and_self, r30, tend, tresAll, tresC, mapMem, retv_l, retR_arr, Nat.sub_self, ndC, h5]))
    | (revert hK; intro hK; (first | refine And.intro ?_ ?_ | intro _ | omega | (with_reducible refine hK _ ?_; clear hK K))))
    all_goals simp [usesR, uses, h5, ownC, intC]
  by_cases h7 : n.op = 7
  · have hu : usesR n = ownN intC 1 n.args := by rw [usesR, if_pos h7]
    rw [hu]
    have hs' : smallB 8 n.args.length = true := smallB_big (by omega) hl
    have hct : ∀ m, content m 1 (sl intC n.args) = some (n.args.flatMap intC) := fun m => by
      have hcl : (n.args.flatMap intC).length = n.args.length * 1 := by rw [len_int]; omega
      simp only [sl, content, hcl, if_true]
    refine Fw_funK rfl Try.func30 s30 (Nat.le_of_ble_eq_true rfl) (fun Q hqr hqn => ?_)
    rw [cin_t (show An.pure 30 = true from rfl) (by simp only [cans, can_int, can_bool, can_agg, can_str, ndE.can])]
    simp only [tinit, Nat.reduceAdd, c30]
    repeat' (first
    | with_reducible (first | refine Tx_assoc ?_ | refine Tx_noK rfl ?_ | refine Tx_yes rfl ?_ | refine Tx_no rfl ?_ | refine Tx_ret ?_ | refine Tx_blockK (id := 0) (fun Q0 hn0 hx0 hr0 ho0 => ?_) | refine hr0 _ ?_)
    | (with_reducible (first | (refine Tx_regK (fun K hK => ?_); (first | refine t30r0 ?_ | refine t30r1 ?_ | refine t30r2 ?_ | refine t30r3 ?_ | refine t30r5 ?_ | refine t30r7 ?_ | refine t30r8 ?_)) | refine hqr _ ?_); (try simp only [SS, Nat.reduceEqDiff, ccells, nmA_f, nmR_f, gn_var, gnext_setL, setL_setL, Nat.reduceMul, appX_l, appR_arr, fillX, bslX, r30, tend, tresAll, tresC, mapMem, retv_l, retR_arr, Nat.sub_self, ndC, h7, escList_nil, hct, clen_sl, hs']))
    | (revert hK; intro hK; (first | refine And.intro ?_ ?_ | intro _ | omega | (with_reducible refine hK _ ?_; clear hK K))))
    all_goals (rw [List.take_of_length_le (by rw [len_int]; omega)]; rfl)
  · refine Fw_funK rfl Try.func30 s30 (Nat.le_of_ble_eq_true rfl) (fun Q hqr hqn => ?_)
    rw [cin_t (show An.pure 30 = true from rfl) (by simp only [cans, can_int, can_bool, can_agg, can_str, ndE.can])]
    simp only [tinit, Nat.reduceAdd, c30]
    repeat' (first
    | with_reducible (first | refine Tx_assoc ?_ | refine Tx_noK rfl ?_ | refine Tx_no rfl ?_ | refine Tx_ret ?_ | refine Tx_nop ?_ | refine Tx_blockK (id := 0) (fun Q0 hn0 hx0 hr0 ho0 => ?_) | refine hn0 _ ?_)
    | (with_reducible (first | (refine Tx_regK (fun K hK => ?_); (first | refine t30r0 ?_ | refine t30r1 ?_ | refine t30r2 ?_ | refine t30r3 ?_ | refine t30r5 ?_ | refine t30r7 ?_ | refine t30r9 ?_)) | refine hqr _ ?_); (try simp only [SS, Nat.reduceEqDiff, ccells, r30, tend, tresAll, tresC, mapMem, retv_nil, ndC, h4, h5, h6, h7]))
    | (revert hK; intro hK; (with_reducible refine hK _ ?_; clear hK K)))
    all_goals simp [usesR, uses, h4, h5, h6, h7, ownC]
end Go.Cm
