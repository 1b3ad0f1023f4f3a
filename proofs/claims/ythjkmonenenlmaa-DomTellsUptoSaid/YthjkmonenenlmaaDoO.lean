/-
  Graphs: the document's answers out of its table.
-/
import Derived.Test.YthjkmonenenlmaaDoN
set_option linter.unusedSimpArgs false
set_option linter.unusedVariables false
namespace Go.Cm
open Go.Proofs Go.Gr
/-- a call of Table -/
theorem k24 (g : List (List Int)) (hg : Sm g) (ht : um g [] ≤ 17179869184) (gv : CV) (hgv : IsRows gv g) {fid : FuncId} {d : Tmp} {m : Mem} {K : CV × Mem → Prop} (hgl : (An.glob fid).contains d = false)
    (hK : ∀ v m', OwnE rowBC 1 m' (16 * d) v (tabL g) → m'.H = m.H → (∀ i, i ≠ 16 * d → lget m'.L i = lget m.L i) → K (v, m')) : Obt (callC An FF fid (some d) 24 [gv] m) K := by
  obtain ⟨_, ⟨H', rfl⟩, h⟩ := x24 g hg ht gv hgv
  rw [callC_P h rfl (by simp only [List.all_cons, List.all_nil, escP_escQ hgv.esc, Bool.and_self]) (by simp only [noGs, hgv.noG, Bool.and_self]) (noG_ownC rowBC_N _), Obt_some]
  obtain ⟨v, m', h1, h2, h3, h4⟩ := adopt_ownC (e := rowBC) (sz := 1) (m := m) (l := tabL g) (d := d) hgl
  rw [h1]
  exact hK v m' h2 h3 h4
/-- who dominates whom, in the table -/
theorem tab_at {g : List (List Int)} {m : Mem} {j : Nat} {v : CV} (h : OwnE rowBC 1 m j v (tabL g)) {a b : Int} (ha : 0 ≤ a ∧ a < g.length) (hb : 0 ≤ b ∧ b < g.length) :
    ∃ p q, idxS 1 v (.int .i64 a) = some p ∧ ld1 m p = some (sl boolC (tabRow g a)) ∧ idxS 1 (sl boolC (tabRow g a)) (.int .i64 b) = some q ∧ ∀ m', ld1 m' q = some (.bool (domB g a b)) := by
  have han : ((a.toNat : Nat) : Int) = a := by omega
  have hbn : ((b.toNat : Nat) : Int) = b := by omega
  have h1 : (tabL g)[a.toNat]? = some (tabRow g a) := by rw [tabL, List.getElem?_map, List.getElem?_range (by omega)]; simp only [Option.map_some, han]
  obtain ⟨gn, rfl, h2, h3⟩ := h.get h1
  have hl : (tabL g).length = g.length := by simp [tabL]
  have h4 : (tabRow g a)[b.toNat]? = some (domB g a b) := by rw [tabRow, List.getElem?_map, List.getElem?_range (by omega)]; simp only [Option.map_some, hbn]
  refine ⟨.ptr (.l j) gn a.toNat, _, by rw [idxS_ref, if_pos ⟨ha.1, by omega⟩]; simp, ?_, idxS_sl boolC_len (by omega) hb.1 h4, fun m' => by rw [boolC, List.cons_append, ld1_r]⟩
  have h5 := flat_get (e := rowBC) (sz := 1) (off := 0) rowBC_len h1 (by omega)
  rw [ld1_l, h2, rd1_arr]
  simpa [rowBC] using h5
theorem x14 (g : List (List Int)) (hg : Sm g) (ht : um g [] ≤ 17179869184) (gv : CV) (hgv : IsRows gv g) (a b : Int) : ∃ r, (∃ H', r = (CV.bool (domB g a b), H')) ∧ FF 14 [gv, .int .i64 a, .int .i64 b] [] = some r := by
  by_cases hr : (0 ≤ a ∧ a < g.length) ∧ (0 ≤ b ∧ b < g.length)
  · obtain ⟨ha, hb⟩ := hr
    have n1 : ¬ a < 0 := by omega
    have n2 : ¬ (g.length : Int) ≤ a := by omega
    have n3 : ¬ b < 0 := by omega
    have n4 : ¬ (g.length : Int) ≤ b := by omega
    refine Fw_funE rfl Try.func14 s14 (Nat.le_of_ble_eq_true rfl) (fun Q hqr hqn => ?_)
    simp only [tinit, Nat.reduceAdd, c14]
    repeat' (first
    | with_reducible refine Tx_assoc ?_
    | with_reducible refine Tx_nopK ?_
    | with_reducible refine Tx_noK rfl ?_
    | ((with_reducible refine Tx_regK (fun K hK => ?_); (first | with_reducible refine t14r0 ?_ | with_reducible refine t14r1 ?_ | with_reducible refine t14r3 ?_)); (try simp only [true_implies, false_implies, not_true_eq_false, not_false_eq_true, tget_cons, if_true, if_false, Nat.reduceEqDiff, ccells, Obt_some, Kn_normal, newL_eq, newP_eq, newA_eq, newM_eq, newR_eq, newK_eq, nmA_f, nmR_f, gn_var, gn_arr, gn_map, gnext_setL, lget_setL, lget_lset, gnext_lset, setL_setL, setL_H, Nat.reduceMul, Nat.reduceAdd, Nat.zero_add, fldA_ptr, fldA_rptr, List.drop_zero, ld1_l, ld1_r, ldA_l, rd1_var, rd1_arr, List.getElem?_cons_zero, List.getElem?_cons_succ, Obt_lss, Obt_leq, Obt_gtr, Obt_geq, Obt_eql, Obt_neq, Obt_not, gdO_tt, gdO_tf, gdO_ff, gdO_ft, gdO_skip, Option.map_some, pickX_t, pickX_f, Obt_pickS, Obt_gdT, Obt_gdF, Bool.not_true, Bool.not_false, lenS, Obt_map, Obt_add, Obt_sub, Obt_mul, Obt_quo, Obt_rem, Obt_and, Obt_or, Obt_xor, Obt_andNot, Obt_shl, Obt_shr, Obt_neg, Obt_cpl, Obt_conv, Obt_ext, Obt_bind, Obt_ite', appX_l, appX_n, appR_arr, appN_some, content_l, conR_arr, content_nil, clen_n, clen_r, idxS_ref, fillX, bslX, escP_list, List.all_append, stX_l, stV_var, stV_arr, splice, List.take_zero, List.take_succ_cons, List.drop_succ_cons, List.drop_nil, List.nil_append, List.cons_append, List.append_nil, List.length_cons, List.length_nil, Nat.reduceLeDiff, and_self, and_true, true_and, Nat.le_refl, Nat.zero_le, rdA_var, rdA_arr, escP, List.all_cons, List.all_nil, Bool.and_self, Bool.true_and, Bool.and_true, r14, tend, tresAll, tresC, Option.bind_some, mapMem, retv_agc, esc_i, esc_b, esc_n, esc_m, esc_s, retv_l, retR_arr, retv_gref, retv_gmap, retv_gptr, Nat.zero_sub, Nat.sub_self, retv_int, retv_bool, retv_nil, retv_imm, retv_inil, retv_pnil, tup_nil, tup_one, tup_two, Prod.mk.injEq, CV.int.injEq, CV.bool.injEq, n1, n2, n3, n4, hgv.len]))
    | (revert hK; intro hK; (with_reducible refine hK _ ?_; clear hK K)))
    refine k24 g hg ht gv hgv rfl fun v m' hO hH' hf => ?_
    obtain ⟨p, q, t1, t2, t3, t4⟩ := tab_at hO ha hb
    simp only [t1, t2, t3, t4, Obt_some]
    refine hK _ ?_
    clear hK K
    repeat' (first
    | with_reducible refine Tx_ret ?_
    | (with_reducible refine hqr _ ?_; (try simp only [true_implies, false_implies, not_true_eq_false, not_false_eq_true, tget_cons, if_true, if_false, Nat.reduceEqDiff, ccells, Obt_some, Kn_normal, newL_eq, newP_eq, newA_eq, newM_eq, newR_eq, newK_eq, nmA_f, nmR_f, gn_var, gn_arr, gn_map, gnext_setL, lget_setL, lget_lset, gnext_lset, setL_setL, setL_H, Nat.reduceMul, Nat.reduceAdd, Nat.zero_add, fldA_ptr, fldA_rptr, List.drop_zero, ld1_l, ld1_r, ldA_l, rd1_var, rd1_arr, List.getElem?_cons_zero, List.getElem?_cons_succ, Obt_lss, Obt_leq, Obt_gtr, Obt_geq, Obt_eql, Obt_neq, Obt_not, gdO_tt, gdO_tf, gdO_ff, gdO_ft, gdO_skip, Option.map_some, pickX_t, pickX_f, Obt_pickS, Obt_gdT, Obt_gdF, Bool.not_true, Bool.not_false, lenS, Obt_map, Obt_add, Obt_sub, Obt_mul, Obt_quo, Obt_rem, Obt_and, Obt_or, Obt_xor, Obt_andNot, Obt_shl, Obt_shr, Obt_neg, Obt_cpl, Obt_conv, Obt_ext, Obt_bind, Obt_ite', appX_l, appX_n, appR_arr, appN_some, content_l, conR_arr, content_nil, clen_n, clen_r, idxS_ref, fillX, bslX, escP_list, List.all_append, stX_l, stV_var, stV_arr, splice, List.take_zero, List.take_succ_cons, List.drop_succ_cons, List.drop_nil, List.nil_append, List.cons_append, List.append_nil, List.length_cons, List.length_nil, Nat.reduceLeDiff, and_self, and_true, true_and, Nat.le_refl, Nat.zero_le, rdA_var, rdA_arr, escP, List.all_cons, List.all_nil, Bool.and_self, Bool.true_and, Bool.and_true, r14, tend, tresAll, tresC, Option.bind_some, mapMem, retv_agc, esc_i, esc_b, esc_n, esc_m, esc_s, retv_l, retR_arr, retv_gref, retv_gmap, retv_gptr, Nat.zero_sub, Nat.sub_self, retv_int, retv_bool, retv_nil, retv_imm, retv_inil, retv_pnil, tup_nil, tup_one, tup_two, Prod.mk.injEq, CV.int.injEq, CV.bool.injEq])))
    all_goals first | exact ⟨_, rfl, rfl⟩ | exact ⟨_, rfl⟩
  · have hd : domB g a b = false := domB_false fun h => hr ⟨h.1.range, h.2.1.range⟩
    simp only [hd]
    refine Fw_funE rfl Try.func14 s14 (Nat.le_of_ble_eq_true rfl) (fun Q hqr hqn => ?_)
    simp only [tinit, Nat.reduceAdd, c14]
    repeat' (first
    | with_reducible refine Tx_assoc ?_
    | with_reducible refine Tx_yesK rfl ?_
    | with_reducible refine Tx_retK ?_
    | ((first | (with_reducible refine Tx_regK (fun K hK => ?_); (first | with_reducible refine t14r0 ?_ | with_reducible refine t14r1 ?_ | with_reducible refine t14r2 ?_)) | with_reducible refine hqr _ ?_); (try simp only [true_implies, false_implies, not_true_eq_false, not_false_eq_true, tget_cons, if_true, if_false, Nat.reduceEqDiff, ccells, Obt_some, Kn_normal, newL_eq, newP_eq, newA_eq, newM_eq, newR_eq, newK_eq, nmA_f, nmR_f, gn_var, gn_arr, gn_map, gnext_setL, lget_setL, lget_lset, gnext_lset, setL_setL, setL_H, Nat.reduceMul, Nat.reduceAdd, Nat.zero_add, fldA_ptr, fldA_rptr, List.drop_zero, ld1_l, ld1_r, ldA_l, rd1_var, rd1_arr, List.getElem?_cons_zero, List.getElem?_cons_succ, Obt_lss, Obt_leq, Obt_gtr, Obt_geq, Obt_eql, Obt_neq, Obt_not, gdO_tt, gdO_tf, gdO_ff, gdO_ft, gdO_skip, Option.map_some, pickX_t, pickX_f, Obt_pickS, Obt_gdT, Obt_gdF, Bool.not_true, Bool.not_false, lenS, Obt_map, Obt_add, Obt_sub, Obt_mul, Obt_quo, Obt_rem, Obt_and, Obt_or, Obt_xor, Obt_andNot, Obt_shl, Obt_shr, Obt_neg, Obt_cpl, Obt_conv, Obt_ext, Obt_bind, Obt_ite', appX_l, appX_n, appR_arr, appN_some, content_l, conR_arr, content_nil, clen_n, clen_r, idxS_ref, fillX, bslX, escP_list, List.all_append, stX_l, stV_var, stV_arr, splice, List.take_zero, List.take_succ_cons, List.drop_succ_cons, List.drop_nil, List.nil_append, List.cons_append, List.append_nil, List.length_cons, List.length_nil, Nat.reduceLeDiff, and_self, and_true, true_and, Nat.le_refl, Nat.zero_le, rdA_var, rdA_arr, escP, List.all_cons, List.all_nil, Bool.and_self, Bool.true_and, Bool.and_true, r14, tend, tresAll, tresC, Option.bind_some, mapMem, retv_agc, esc_i, esc_b, esc_n, esc_m, esc_s, retv_l, retR_arr, retv_gref, retv_gmap, retv_gptr, Nat.zero_sub, Nat.sub_self, retv_int, retv_bool, retv_nil, retv_imm, retv_inil, retv_pnil, tup_nil, tup_one, tup_two, Prod.mk.injEq, CV.int.injEq, CV.bool.injEq, hgv.len]))
    | (revert hK; intro hK; (first | refine And.intro ?_ ?_ | intro _ | omega | (with_reducible refine hK _ ?_; clear hK K))))
    all_goals first | exact ⟨_, rfl, rfl⟩ | exact ⟨_, rfl⟩ | skip
end Go.Cm
