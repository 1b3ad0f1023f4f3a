/-
  Graphs: is there little of it?
-/
import Derived.Test.YthjkmonenenlmaaDoA
set_option linter.unusedSimpArgs false
set_option linter.unusedVariables false
namespace Go.Cm
open Go.Proofs Go.Gr
theorem x8 (g : List (List Int)) (gv : CV) (hgv : IsRows gv g) : FF 8 [gv] [] = some (.bool (decide ((g.length : Int) ≤ 60)), []) := by
  refine Fw_funK rfl Try.func8 s8 (Nat.le_of_ble_eq_true rfl) (fun Q hqr hqn => ?_)
  simp only [tinit, Nat.reduceAdd, c8]
  repeat' (first
  | with_reducible refine Tx_ret ?_
  | ((first | (with_reducible refine Tx_regK (fun K hK => ?_); (first | with_reducible refine t8r0 ?_ | with_reducible refine t8r1 ?_)) | with_reducible refine hqr _ ?_); (try simp only [true_implies, false_implies, not_true_eq_false, not_false_eq_true, tget_cons, if_true, if_false, Nat.reduceEqDiff, ccells, Obt_some, Kn_normal, newL_eq, newP_eq, newA_eq, newM_eq, newR_eq, newK_eq, nmA_f, nmR_f, gn_var, gn_arr, gn_map, gnext_setL, lget_setL, lget_lset, gnext_lset, setL_setL, setL_H, Nat.reduceMul, Nat.reduceAdd, Nat.zero_add, fldA_ptr, fldA_rptr, List.drop_zero, ld1_l, ld1_r, ldA_l, rd1_var, rd1_arr, List.getElem?_cons_zero, List.getElem?_cons_succ, Obt_lss, Obt_leq, Obt_gtr, Obt_geq, Obt_eql, Obt_neq, Obt_not, gdO_tt, gdO_tf, gdO_ff, gdO_ft, gdO_skip, Option.map_some, pickX_t, pickX_f, Obt_pickS, Obt_gdT, Obt_gdF, Bool.not_true, Bool.not_false, lenS, Obt_map, Obt_add, Obt_sub, Obt_mul, Obt_quo, Obt_rem, Obt_and, Obt_or, Obt_xor, Obt_andNot, Obt_shl, Obt_shr, Obt_neg, Obt_cpl, Obt_conv, Obt_ext, Obt_bind, Obt_ite', appX_l, appX_n, appR_arr, appN_some, content_l, conR_arr, content_nil, clen_n, clen_r, idxS_ref, fillX, bslX, escP_list, List.all_append, stX_l, stV_var, stV_arr, splice, List.take_zero, List.take_succ_cons, List.drop_succ_cons, List.drop_nil, List.nil_append, List.cons_append, List.append_nil, List.length_cons, List.length_nil, Nat.reduceLeDiff, and_self, and_true, true_and, Nat.le_refl, Nat.zero_le, rdA_var, rdA_arr, escP, List.all_cons, List.all_nil, Bool.and_self, Bool.true_and, Bool.and_true, r8, tend, tresAll, tresC, Option.bind_some, mapMem, retv_agc, esc_i, esc_b, esc_n, esc_m, esc_s, retv_l, retR_arr, retv_gref, retv_gmap, retv_gptr, Nat.zero_sub, Nat.sub_self, retv_int, retv_bool, retv_nil, retv_imm, retv_inil, retv_pnil, tup_nil, tup_one, tup_two, Prod.mk.injEq, CV.int.injEq, CV.bool.injEq, hgv.len]))
  | (revert hK; intro hK; (first | refine And.intro ?_ ?_ | intro _ | (with_reducible refine hK _ ?_; clear hK K))))
  all_goals simp [*]
theorem sm8 (g : List (List Int)) (gv : CV) (hgv : IsRows gv g) {fid : FuncId} {d : Tmp} {m : Mem} : callC An FF fid (some d) 8 [gv] m = some (.bool (decide ((g.length : Int) ≤ 60)), m) := by
  rw [callC_P (x8 g gv hgv) rfl (by simp only [List.all_cons, List.all_nil, escP_escQ hgv.esc, Bool.and_self]) (by simp only [noGs, hgv.noG, Bool.and_self]) rfl, adopt_bool]
theorem k8 (g : List (List Int)) (gv : CV) (hgv : IsRows gv g) (b : Bool) (hb : decide ((g.length : Int) ≤ 60) = b) {fid : FuncId} {d : Tmp} {m : Mem} : callC An FF fid (some d) 8 [gv] m = some (.bool b, m) := by
  rw [sm8 g gv hgv, hb]
end Go.Cm
