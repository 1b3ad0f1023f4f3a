/-
  Graphs: the document's nearest dominators.
-/
import Derived.Test.YthjkmonenenlmaaDoO
import Derived.Test.YthjkmonenenlmaaGrC
set_option linter.unusedSimpArgs false
set_option linter.unusedVariables false
namespace Go.Cm
open Go.Proofs Go.Gr
noncomputable def idL (g : List (List Int)) : List Int := (List.range g.length).map fun (b : Nat) => idS g (b : Int) g.length
theorem idL_len (g : List (List Int)) : (idL g).length = g.length := by simp [idL]
theorem idS_next {g : List (List Int)} {b : Int} {a : Nat} : idS g b (a + 1) = if ¬ (a : Int) = b ∧ domB g a b = true ∧ (idS g b a < 0 ∨ domB g (idS g b a) a = true) then (a : Int) else idS g b a := by
  rw [idS]
  by_cases h : (a : Int) ≠ b ∧ Dom g a b ∧ (idS g b a < 0 ∨ Dom g (idS g b a) a)
  · rw [if_pos h, if_pos (by simpa only [domB_iff] using h)]
  · rw [if_neg h, if_neg (by simpa only [domB_iff] using h)]
theorem idS_range {g : List (List Int)} {b : Int} : ∀ {a : Nat}, -1 ≤ idS g b a ∧ idS g b a < max a 1
  | 0 => by simp [idS]
  | a + 1 => by
    have := idS_range (g := g) (b := b) (a := a)
    rw [idS]; split <;> omega
theorem x17 (g : List (List Int)) (hg : Sm g) (ht : um g [] ≤ 17179869184) (gv : CV) (hgv : IsRows gv g) : ∃ r, (∃ H', r = (ownC intC 1 (idL g), H')) ∧ FF 17 [gv] [] = some r := by
  have hgl := hg.1
  refine Fw_funE rfl Try.func17 s17 (Nat.le_of_ble_eq_true rfl) (fun Q hqr hqn => ?_)
  simp only [tinit, Nat.reduceAdd, c17]
  repeat' (first
  | ((with_reducible refine Tx_regK (fun K hK => ?_); (first | with_reducible refine t17r0 ?_ | with_reducible refine t17r1 ?_)); (try simp only [true_implies, false_implies, not_true_eq_false, not_false_eq_true, tget_cons, if_true, if_false, Nat.reduceEqDiff, ccells, Obt_some, Kn_normal, newL_eq, newP_eq, newA_eq, newM_eq, newR_eq, newK_eq, nmA_f, nmR_f, gn_var, gn_arr, gn_map, gnext_setL, lget_setL, lget_lset, gnext_lset, setL_setL, setL_H, Nat.reduceMul, Nat.reduceAdd, Nat.zero_add, fldA_ptr, fldA_rptr, List.drop_zero, ld1_l, ld1_r, ldA_l, rd1_var, rd1_arr, List.getElem?_cons_zero, List.getElem?_cons_succ, Obt_lss, Obt_leq, Obt_gtr, Obt_geq, Obt_eql, Obt_neq, Obt_not, gdO_tt, gdO_tf, gdO_ff, gdO_ft, gdO_skip, Option.map_some, pickX_t, pickX_f, Obt_pickS, Obt_gdT, Obt_gdF, Bool.not_true, Bool.not_false, lenS, Obt_map, Obt_add, Obt_sub, Obt_mul, Obt_quo, Obt_rem, Obt_and, Obt_or, Obt_xor, Obt_andNot, Obt_shl, Obt_shr, Obt_neg, Obt_cpl, Obt_conv, Obt_ext, Obt_bind, Obt_ite', appX_l, appX_n, appR_arr, appN_some, content_l, conR_arr, content_nil, clen_n, clen_r, idxS_ref, fillX, bslX, escP_list, List.all_append, stX_l, stV_var, stV_arr, splice, List.take_zero, List.take_succ_cons, List.drop_succ_cons, List.drop_nil, List.nil_append, List.cons_append, List.append_nil, List.length_cons, List.length_nil, Nat.reduceLeDiff, and_self, and_true, true_and, Nat.le_refl, Nat.zero_le, rdA_var, rdA_arr, escP, List.all_cons, List.all_nil, Bool.and_self, Bool.true_and, Bool.and_true, r17, tend, tresAll, tresC, Option.bind_some, mapMem, retv_agc, esc_i, esc_b, esc_n, esc_m, esc_s, retv_l, retR_arr, retv_gref, retv_gmap, retv_gptr, Nat.zero_sub, Nat.sub_self, retv_int, retv_bool, retv_nil, retv_imm, retv_inil, retv_pnil, tup_nil, tup_one, tup_two, Prod.mk.injEq, CV.int.injEq, CV.bool.injEq]))
  | (revert hK; intro hK; (with_reducible refine hK _ ?_; clear hK K)))
  refine k24 g hg ht gv hgv rfl fun v3 m' hO hH' hf => ?_
  refine hK _ ?_
  clear hK K
  obtain ⟨L0, H0⟩ := m'
  simp only at hH'
  subst hH'
  repeat' (first
  | with_reducible refine Tx_assoc ?_
  | with_reducible refine Tx_blockK (id := 0) (fun Q0 hn0 hx0 hr0 ho0 => ?_)
  | ((with_reducible refine Tx_regK (fun K hK => ?_); (first | with_reducible refine t17r2 ?_ | with_reducible refine t17r3 ?_)); (try simp only [true_implies, false_implies, not_true_eq_false, not_false_eq_true, tget_cons, if_true, if_false, Nat.reduceEqDiff, ccells, Obt_some, Kn_normal, newL_eq, newP_eq, newA_eq, newM_eq, newR_eq, newK_eq, nmA_f, nmR_f, gn_var, gn_arr, gn_map, gnext_setL, lget_setL, lget_lset, gnext_lset, setL_setL, setL_H, Nat.reduceMul, Nat.reduceAdd, Nat.zero_add, fldA_ptr, fldA_rptr, List.drop_zero, ld1_l, ld1_r, ldA_l, rd1_var, rd1_arr, List.getElem?_cons_zero, List.getElem?_cons_succ, Obt_lss, Obt_leq, Obt_gtr, Obt_geq, Obt_eql, Obt_neq, Obt_not, gdO_tt, gdO_tf, gdO_ff, gdO_ft, gdO_skip, Option.map_some, pickX_t, pickX_f, Obt_pickS, Obt_gdT, Obt_gdF, Bool.not_true, Bool.not_false, lenS, Obt_map, Obt_add, Obt_sub, Obt_mul, Obt_quo, Obt_rem, Obt_and, Obt_or, Obt_xor, Obt_andNot, Obt_shl, Obt_shr, Obt_neg, Obt_cpl, Obt_conv, Obt_ext, Obt_bind, Obt_ite', appX_l, appX_n, appR_arr, appN_some, content_l, conR_arr, content_nil, clen_n, clen_r, idxS_ref, fillX, bslX, escP_list, List.all_append, stX_l, stV_var, stV_arr, splice, List.take_zero, List.take_succ_cons, List.drop_succ_cons, List.drop_nil, List.nil_append, List.cons_append, List.append_nil, List.length_cons, List.length_nil, Nat.reduceLeDiff, and_self, and_true, true_and, Nat.le_refl, Nat.zero_le, rdA_var, rdA_arr, escP, List.all_cons, List.all_nil, Bool.and_self, Bool.true_and, Bool.and_true, r17, tend, tresAll, tresC, Option.bind_some, mapMem, retv_agc, esc_i, esc_b, esc_n, esc_m, esc_s, retv_l, retR_arr, retv_gref, retv_gmap, retv_gptr, Nat.zero_sub, Nat.sub_self, retv_int, retv_bool, retv_nil, retv_imm, retv_inil, retv_pnil, tup_nil, tup_one, tup_two, Prod.mk.injEq, CV.int.injEq, CV.bool.injEq, hgv.len]))
  | (revert hK; intro hK; (with_reducible refine hK _ ?_; clear hK K)))
  refine Tx_loopK (fun k s => ∃ (b : Nat) (v : CV) (L : List (Nat × HO)), b ≤ g.length ∧ k = g.length - b ∧ s = ⟨[(0, gv), (3, v3), (4, v), (5, .int .i64 b)], ⟨L, []⟩⟩ ∧
    OwnE rowBC 1 ⟨L, []⟩ (16 * 9) v3 (tabL g) ∧ OwnE intC 1 ⟨L, []⟩ 816 v ((idL g).take b)) _ ⟨0, .nil, _, Nat.zero_le _, rfl, rfl, hO, .nil⟩ ?_
  rintro k s ⟨b, v, L, hb, rfl, rfl, hO1, hO2⟩ QL1 hnL1 hxL1 hrL1
  simp only [c17l1]
  by_cases hbg : b = g.length
  · subst hbg
    repeat' (first
    | with_reducible refine Tx_assoc ?_
    | with_reducible refine Tx_noK rfl ?_
    | with_reducible refine Tx_exitK ?_
    | with_reducible refine Tx_ret ?_
    | with_reducible refine hx0 _ ?_
    | with_reducible refine hxL1 _ _ ?_
    | ((first | (with_reducible refine Tx_regK (fun K hK => ?_); (first | with_reducible refine t17r4 ?_ | with_reducible refine t17r13 ?_)) | with_reducible refine hqr _ ?_); (try simp only [true_implies, false_implies, not_true_eq_false, not_false_eq_true, tget_cons, if_true, if_false, Nat.reduceEqDiff, ccells, Obt_some, Kn_normal, newL_eq, newP_eq, newA_eq, newM_eq, newR_eq, newK_eq, nmA_f, nmR_f, gn_var, gn_arr, gn_map, gnext_setL, lget_setL, lget_lset, gnext_lset, setL_setL, setL_H, Nat.reduceMul, Nat.reduceAdd, Nat.zero_add, fldA_ptr, fldA_rptr, List.drop_zero, ld1_l, ld1_r, ldA_l, rd1_var, rd1_arr, List.getElem?_cons_zero, List.getElem?_cons_succ, Obt_lss, Obt_leq, Obt_gtr, Obt_geq, Obt_eql, Obt_neq, Obt_not, gdO_tt, gdO_tf, gdO_ff, gdO_ft, gdO_skip, Option.map_some, pickX_t, pickX_f, Obt_pickS, Obt_gdT, Obt_gdF, Bool.not_true, Bool.not_false, lenS, Obt_map, Obt_add, Obt_sub, Obt_mul, Obt_quo, Obt_rem, Obt_and, Obt_or, Obt_xor, Obt_andNot, Obt_shl, Obt_shr, Obt_neg, Obt_cpl, Obt_conv, Obt_ext, Obt_bind, Obt_ite', appX_l, appX_n, appR_arr, appN_some, content_l, conR_arr, content_nil, clen_n, clen_r, idxS_ref, fillX, bslX, escP_list, List.all_append, stX_l, stV_var, stV_arr, splice, List.take_zero, List.take_succ_cons, List.drop_succ_cons, List.drop_nil, List.nil_append, List.cons_append, List.append_nil, List.length_cons, List.length_nil, Nat.reduceLeDiff, and_self, and_true, true_and, Nat.le_refl, Nat.zero_le, rdA_var, rdA_arr, escP, List.all_cons, List.all_nil, Bool.and_self, Bool.true_and, Bool.and_true, r17, tend, tresAll, tresC, Option.bind_some, mapMem, retv_agc, esc_i, esc_b, esc_n, esc_m, esc_s, retv_l, retR_arr, retv_gref, retv_gmap, retv_gptr, Nat.zero_sub, Nat.sub_self, retv_int, retv_bool, retv_nil, retv_imm, retv_inil, retv_pnil, tup_nil, tup_one, tup_two, Prod.mk.injEq, CV.int.injEq, CV.bool.injEq, hgv.len]))
    | (revert hK; intro hK; (first | refine And.intro ?_ ?_ | intro _ | omega | (with_reducible refine hK _ ?_; clear hK K))))
    have htl : (idL g).take g.length = idL g := List.take_of_length_le (by simp [idL])
    rw [htl] at hO2
    refine hO2.ret intC_len fun m' hm' => ?_
    simp only [tup_one, Option.map_some, Obt_some]
    first | exact ⟨_, rfl, rfl⟩ | exact ⟨_, trivial, rfl⟩
  · have hblt : (b : Int) < g.length := by omega
    repeat' (first
    | with_reducible refine Tx_assoc ?_
    | with_reducible refine Tx_nopK ?_
    | with_reducible refine Tx_yesK rfl ?_
    | with_reducible refine Tx_blockK (id := 1) (fun Q1 hn1 hx1 hr1 ho1 => ?_)
    | with_reducible refine Tx_blockK (id := 2) (fun Q2 hn2 hx2 hr2 ho2 => ?_)
    | ((with_reducible refine Tx_regK (fun K hK => ?_); (first | with_reducible refine t17r4 ?_ | with_reducible refine t17r6 ?_ | with_reducible refine t17r7 ?_)); (try simp only [true_implies, false_implies, not_true_eq_false, not_false_eq_true, tget_cons, if_true, if_false, Nat.reduceEqDiff, ccells, Obt_some, Kn_normal, newL_eq, newP_eq, newA_eq, newM_eq, newR_eq, newK_eq, nmA_f, nmR_f, gn_var, gn_arr, gn_map, gnext_setL, lget_setL, lget_lset, gnext_lset, setL_setL, setL_H, Nat.reduceMul, Nat.reduceAdd, Nat.zero_add, fldA_ptr, fldA_rptr, List.drop_zero, ld1_l, ld1_r, ldA_l, rd1_var, rd1_arr, List.getElem?_cons_zero, List.getElem?_cons_succ, Obt_lss, Obt_leq, Obt_gtr, Obt_geq, Obt_eql, Obt_neq, Obt_not, gdO_tt, gdO_tf, gdO_ff, gdO_ft, gdO_skip, Option.map_some, pickX_t, pickX_f, Obt_pickS, Obt_gdT, Obt_gdF, Bool.not_true, Bool.not_false, lenS, Obt_map, Obt_add, Obt_sub, Obt_mul, Obt_quo, Obt_rem, Obt_and, Obt_or, Obt_xor, Obt_andNot, Obt_shl, Obt_shr, Obt_neg, Obt_cpl, Obt_conv, Obt_ext, Obt_bind, Obt_ite', appX_l, appX_n, appR_arr, appN_some, content_l, conR_arr, content_nil, clen_n, clen_r, idxS_ref, fillX, bslX, escP_list, List.all_append, stX_l, stV_var, stV_arr, splice, List.take_zero, List.take_succ_cons, List.drop_succ_cons, List.drop_nil, List.nil_append, List.cons_append, List.append_nil, List.length_cons, List.length_nil, Nat.reduceLeDiff, and_self, and_true, true_and, Nat.le_refl, Nat.zero_le, rdA_var, rdA_arr, escP, List.all_cons, List.all_nil, Bool.and_self, Bool.true_and, Bool.and_true, r17, tend, tresAll, tresC, Option.bind_some, mapMem, retv_agc, esc_i, esc_b, esc_n, esc_m, esc_s, retv_l, retR_arr, retv_gref, retv_gmap, retv_gptr, Nat.zero_sub, Nat.sub_self, retv_int, retv_bool, retv_nil, retv_imm, retv_inil, retv_pnil, tup_nil, tup_one, tup_two, Prod.mk.injEq, CV.int.injEq, CV.bool.injEq, hgv.len, hblt]))
    | (revert hK; intro hK; (with_reducible refine hK _ ?_; clear hK K)))
    refine Tx_loopK (fun k s => ∃ (a : Nat), a ≤ g.length ∧ k = g.length - a ∧ s = ⟨[(0, gv), (3, v3), (4, v), (5, .int .i64 b), (6, .int .i64 (idS g b a)), (7, .int .i64 a)], ⟨L, []⟩⟩) _ ⟨0, Nat.zero_le _, rfl, rfl⟩ ?_
    rintro k s ⟨a, ha, rfl, rfl⟩ QL0 hnL0 hxL0 hrL0
    simp only [c17l0]
    have hwb : IntKind.i64.wrap ((b : Int) + 1) = ((b + 1 : Nat) : Int) := by rw [wI (by omega) (by omega)]; rfl
    by_cases hag : a = g.length
    · subst hag
      repeat' (first
      | with_reducible refine Tx_assoc ?_
      | with_reducible refine Tx_noK rfl ?_
      | with_reducible refine Tx_exitK ?_
      | with_reducible refine hx2 _ ?_
      | with_reducible refine hxL0 _ _ ?_
      | (((first | with_reducible refine Tx_regK (fun K hK => ?_) | with_reducible refine Tx_regE (fun K hK => ?_)); (first | with_reducible refine t17r8 ?_ | with_reducible refine t17r12 ?_)); (try simp only [true_implies, false_implies, not_true_eq_false, not_false_eq_true, tget_cons, if_true, if_false, Nat.reduceEqDiff, ccells, Obt_some, Kn_normal, newL_eq, newP_eq, newA_eq, newM_eq, newR_eq, newK_eq, nmA_f, nmR_f, gn_var, gn_arr, gn_map, gnext_setL, lget_setL, lget_lset, gnext_lset, setL_setL, setL_H, Nat.reduceMul, Nat.reduceAdd, Nat.zero_add, fldA_ptr, fldA_rptr, List.drop_zero, ld1_l, ld1_r, ldA_l, rd1_var, rd1_arr, List.getElem?_cons_zero, List.getElem?_cons_succ, Obt_lss, Obt_leq, Obt_gtr, Obt_geq, Obt_eql, Obt_neq, Obt_not, gdO_tt, gdO_tf, gdO_ff, gdO_ft, gdO_skip, Option.map_some, pickX_t, pickX_f, Obt_pickS, Obt_gdT, Obt_gdF, Bool.not_true, Bool.not_false, lenS, Obt_map, Obt_add, Obt_sub, Obt_mul, Obt_quo, Obt_rem, Obt_and, Obt_or, Obt_xor, Obt_andNot, Obt_shl, Obt_shr, Obt_neg, Obt_cpl, Obt_conv, Obt_ext, Obt_bind, Obt_ite', appX_l, appX_n, appR_arr, appN_some, content_l, conR_arr, content_nil, clen_n, clen_r, idxS_ref, fillX, bslX, escP_list, List.all_append, stX_l, stV_var, stV_arr, splice, List.take_zero, List.take_succ_cons, List.drop_succ_cons, List.drop_nil, List.nil_append, List.cons_append, List.append_nil, List.length_cons, List.length_nil, Nat.reduceLeDiff, and_self, and_true, true_and, Nat.le_refl, Nat.zero_le, rdA_var, rdA_arr, escP, List.all_cons, List.all_nil, Bool.and_self, Bool.true_and, Bool.and_true, r17, tend, tresAll, tresC, Option.bind_some, mapMem, retv_agc, esc_i, esc_b, esc_n, esc_m, esc_s, retv_l, retR_arr, retv_gref, retv_gmap, retv_gptr, Nat.zero_sub, Nat.sub_self, retv_int, retv_bool, retv_nil, retv_imm, retv_inil, retv_pnil, tup_nil, tup_one, tup_two, Prod.mk.injEq, CV.int.injEq, CV.bool.injEq, hgv.len]))
      | (revert hK; intro hK; (first | refine And.intro ?_ ?_ | intro _ | omega | (with_reducible refine hK _ ?_; clear hK K))))
      refine (hO2.keepS (i := 800) (by decide)).app8 (ys := [idS g b g.length]) intC_len (by simp only [content_l, lget_setL, if_true, conR_arr]; rfl) rfl (by decide) (by simp only [List.length_cons, List.length_nil, List.length_take]; omega) fun v' m' hO' hH' hf => ?_
      refine hK _ ?_
      clear hK K
      obtain ⟨L3, H3⟩ := m'
      simp only at hH'
      subst hH'
      repeat' (first
      | with_reducible refine hn1 _ ?_
      | ((with_reducible refine Tx_regE (fun K hK => ?_); with_reducible refine t17r5 ?_); (try simp only [true_implies, false_implies, not_true_eq_false, not_false_eq_true, tget_cons, if_true, if_false, Nat.reduceEqDiff, ccells, Obt_some, Kn_normal, newL_eq, newP_eq, newA_eq, newM_eq, newR_eq, newK_eq, nmA_f, nmR_f, gn_var, gn_arr, gn_map, gnext_setL, lget_setL, lget_lset, gnext_lset, setL_setL, setL_H, Nat.reduceMul, Nat.reduceAdd, Nat.zero_add, fldA_ptr, fldA_rptr, List.drop_zero, ld1_l, ld1_r, ldA_l, rd1_var, rd1_arr, List.getElem?_cons_zero, List.getElem?_cons_succ, Obt_lss, Obt_leq, Obt_gtr, Obt_geq, Obt_eql, Obt_neq, Obt_not, gdO_tt, gdO_tf, gdO_ff, gdO_ft, gdO_skip, Option.map_some, pickX_t, pickX_f, Obt_pickS, Obt_gdT, Obt_gdF, Bool.not_true, Bool.not_false, lenS, Obt_map, Obt_add, Obt_sub, Obt_mul, Obt_quo, Obt_rem, Obt_and, Obt_or, Obt_xor, Obt_andNot, Obt_shl, Obt_shr, Obt_neg, Obt_cpl, Obt_conv, Obt_ext, Obt_bind, Obt_ite', appX_l, appX_n, appR_arr, appN_some, content_l, conR_arr, content_nil, clen_n, clen_r, idxS_ref, fillX, bslX, escP_list, List.all_append, stX_l, stV_var, stV_arr, splice, List.take_zero, List.take_succ_cons, List.drop_succ_cons, List.drop_nil, List.nil_append, List.cons_append, List.append_nil, List.length_cons, List.length_nil, Nat.reduceLeDiff, and_self, and_true, true_and, Nat.le_refl, Nat.zero_le, rdA_var, rdA_arr, escP, List.all_cons, List.all_nil, Bool.and_self, Bool.true_and, Bool.and_true, r17, tend, tresAll, tresC, Option.bind_some, mapMem, retv_agc, esc_i, esc_b, esc_n, esc_m, esc_s, retv_l, retR_arr, retv_gref, retv_gmap, retv_gptr, Nat.zero_sub, Nat.sub_self, retv_int, retv_bool, retv_nil, retv_imm, retv_inil, retv_pnil, tup_nil, tup_one, tup_two, Prod.mk.injEq, CV.int.injEq, CV.bool.injEq, hwb]))
      | (revert hK; intro hK; (with_reducible refine hK _ ?_; clear hK K)))
      refine hnL1 (g.length - (b + 1)) _ (by omega) ⟨b + 1, v', L3, by omega, rfl, rfl, ?_, ?_⟩
      · exact hO1.keep (by rw [hf 144 (by decide)]; simp [setL, lget_lset])
      · have hti : (idL g)[b]? = some (idS g b g.length) := by rw [idL, List.getElem?_map, List.getElem?_range (by omega)]; rfl
        rw [List.take_add_one, hti]
        exact hO'
    · have halt : (a : Int) < g.length := by omega
      have hwa : IntKind.i64.wrap ((a : Int) + 1) = ((a + 1 : Nat) : Int) := by rw [wI (by omega) (by omega)]; rfl
      obtain ⟨p, q, t1, t2, t3, t4⟩ := tab_at hO1 (a := (a : Int)) (b := (b : Int)) ⟨by omega, by omega⟩ ⟨by omega, by omega⟩
      have hx : ∀ x, x = idS g b (a + 1) → QL0 .normal ⟨[(0, gv), (3, v3), (4, v), (5, .int .i64 b), (6, .int .i64 x), (7, .int .i64 ((a + 1 : Nat) : Int))], ⟨L, []⟩⟩ := fun x hx => by
        subst hx
        exact hnL0 (g.length - (a + 1)) _ (by omega) ⟨a + 1, by omega, rfl, rfl⟩
      rw [idS_next] at hx
      have hir := idS_range (g := g) (b := b) (a := a)
      generalize idS g b a = w at hx hir ⊢
      by_cases hab : (a : Int) = b
      · have hab2 : a = b := by omega
        subst hab2
        repeat' (first
        | with_reducible refine Tx_assoc ?_
        | with_reducible refine Tx_nopK ?_
        | with_reducible refine Tx_yesK rfl ?_
        | with_reducible refine Tx_no rfl ?_
        | with_reducible refine Tx_nop ?_
        | with_reducible refine Tx_blockK (id := 3) (fun Q3 hn3 hx3 hr3 ho3 => ?_)
        | with_reducible refine hn3 _ ?_
        | (((first | with_reducible refine Tx_regK (fun K hK => ?_) | with_reducible refine Tx_regE (fun K hK => ?_)); (first | with_reducible refine t17r8 ?_ | with_reducible refine t17r10 ?_ | with_reducible refine t17r9 ?_)); (try simp only [true_implies, false_implies, not_true_eq_false, not_false_eq_true, tget_cons, if_true, if_false, Nat.reduceEqDiff, ccells, Obt_some, Kn_normal, newL_eq, newP_eq, newA_eq, newM_eq, newR_eq, newK_eq, nmA_f, nmR_f, gn_var, gn_arr, gn_map, gnext_setL, lget_setL, lget_lset, gnext_lset, setL_setL, setL_H, Nat.reduceMul, Nat.reduceAdd, Nat.zero_add, fldA_ptr, fldA_rptr, List.drop_zero, ld1_l, ld1_r, ldA_l, rd1_var, rd1_arr, List.getElem?_cons_zero, List.getElem?_cons_succ, Obt_lss, Obt_leq, Obt_gtr, Obt_geq, Obt_eql, Obt_neq, Obt_not, gdO_tt, gdO_tf, gdO_ff, gdO_ft, gdO_skip, Option.map_some, pickX_t, pickX_f, Obt_pickS, Obt_gdT, Obt_gdF, Bool.not_true, Bool.not_false, lenS, Obt_map, Obt_add, Obt_sub, Obt_mul, Obt_quo, Obt_rem, Obt_and, Obt_or, Obt_xor, Obt_andNot, Obt_shl, Obt_shr, Obt_neg, Obt_cpl, Obt_conv, Obt_ext, Obt_bind, Obt_ite', appX_l, appX_n, appR_arr, appN_some, content_l, conR_arr, content_nil, clen_n, clen_r, idxS_ref, fillX, bslX, escP_list, List.all_append, stX_l, stV_var, stV_arr, splice, List.take_zero, List.take_succ_cons, List.drop_succ_cons, List.drop_nil, List.nil_append, List.cons_append, List.append_nil, List.length_cons, List.length_nil, Nat.reduceLeDiff, and_self, and_true, true_and, Nat.le_refl, Nat.zero_le, rdA_var, rdA_arr, escP, List.all_cons, List.all_nil, Bool.and_self, Bool.true_and, Bool.and_true, r17, tend, tresAll, tresC, Option.bind_some, mapMem, retv_agc, esc_i, esc_b, esc_n, esc_m, esc_s, retv_l, retR_arr, retv_gref, retv_gmap, retv_gptr, Nat.zero_sub, Nat.sub_self, retv_int, retv_bool, retv_nil, retv_imm, retv_inil, retv_pnil, tup_nil, tup_one, tup_two, Prod.mk.injEq, CV.int.injEq, CV.bool.injEq, hgv.len, halt, hwa]))
        | (revert hK; intro hK; (with_reducible refine hK _ ?_; clear hK K)))
        refine hx _ ?_
        simp
      · generalize hd1 : domB g a b = d1 at hx t4
        cases d1
        · repeat' (first
          | with_reducible refine Tx_assoc ?_
          | with_reducible refine Tx_nopK ?_
          | with_reducible refine Tx_yesK rfl ?_
          | with_reducible refine Tx_no rfl ?_
          | with_reducible refine Tx_nop ?_
          | with_reducible refine Tx_blockK (id := 3) (fun Q3 hn3 hx3 hr3 ho3 => ?_)
          | with_reducible refine hn3 _ ?_
          | (((first | with_reducible refine Tx_regK (fun K hK => ?_) | with_reducible refine Tx_regE (fun K hK => ?_)); (first | with_reducible refine t17r8 ?_ | with_reducible refine t17r10 ?_ | with_reducible refine t17r9 ?_)); (try simp only [true_implies, false_implies, not_true_eq_false, not_false_eq_true, tget_cons, if_true, if_false, Nat.reduceEqDiff, ccells, Obt_some, Kn_normal, newL_eq, newP_eq, newA_eq, newM_eq, newR_eq, newK_eq, nmA_f, nmR_f, gn_var, gn_arr, gn_map, gnext_setL, lget_setL, lget_lset, gnext_lset, setL_setL, setL_H, Nat.reduceMul, Nat.reduceAdd, Nat.zero_add, fldA_ptr, fldA_rptr, List.drop_zero, ld1_l, ld1_r, ldA_l, rd1_var, rd1_arr, List.getElem?_cons_zero, List.getElem?_cons_succ, Obt_lss, Obt_leq, Obt_gtr, Obt_geq, Obt_eql, Obt_neq, Obt_not, gdO_tt, gdO_tf, gdO_ff, gdO_ft, gdO_skip, Option.map_some, pickX_t, pickX_f, Obt_pickS, Obt_gdT, Obt_gdF, Bool.not_true, Bool.not_false, lenS, Obt_map, Obt_add, Obt_sub, Obt_mul, Obt_quo, Obt_rem, Obt_and, Obt_or, Obt_xor, Obt_andNot, Obt_shl, Obt_shr, Obt_neg, Obt_cpl, Obt_conv, Obt_ext, Obt_bind, Obt_ite', appX_l, appX_n, appR_arr, appN_some, content_l, conR_arr, content_nil, clen_n, clen_r, idxS_ref, fillX, bslX, escP_list, List.all_append, stX_l, stV_var, stV_arr, splice, List.take_zero, List.take_succ_cons, List.drop_succ_cons, List.drop_nil, List.nil_append, List.cons_append, List.append_nil, List.length_cons, List.length_nil, Nat.reduceLeDiff, and_self, and_true, true_and, Nat.le_refl, Nat.zero_le, rdA_var, rdA_arr, escP, List.all_cons, List.all_nil, Bool.and_self, Bool.true_and, Bool.and_true, r17, tend, tresAll, tresC, Option.bind_some, mapMem, retv_agc, esc_i, esc_b, esc_n, esc_m, esc_s, retv_l, retR_arr, retv_gref, retv_gmap, retv_gptr, Nat.zero_sub, Nat.sub_self, retv_int, retv_bool, retv_nil, retv_imm, retv_inil, retv_pnil, tup_nil, tup_one, tup_two, Prod.mk.injEq, CV.int.injEq, CV.bool.injEq, hgv.len, halt, hab, hwa, t1, t2, t3, t4]))
          | (revert hK; intro hK; (with_reducible refine hK _ ?_; clear hK K)))
          exact hx _ (by simp)
        · by_cases hw : w < 0
          · repeat' (first
            | with_reducible refine Tx_assoc ?_
            | with_reducible refine Tx_nopK ?_
            | with_reducible refine Tx_yesK rfl ?_
            | with_reducible refine Tx_yes rfl ?_
            | with_reducible refine Tx_blockK (id := 3) (fun Q3 hn3 hx3 hr3 ho3 => ?_)
            | with_reducible refine hn3 _ ?_
            | (((first | with_reducible refine Tx_regK (fun K hK => ?_) | with_reducible refine Tx_regE (fun K hK => ?_)); (first | with_reducible refine t17r8 ?_ | with_reducible refine t17r10 ?_ | with_reducible refine t17r11 ?_ | with_reducible refine t17r9 ?_)); (try simp only [true_implies, false_implies, not_true_eq_false, not_false_eq_true, tget_cons, if_true, if_false, Nat.reduceEqDiff, ccells, Obt_some, Kn_normal, newL_eq, newP_eq, newA_eq, newM_eq, newR_eq, newK_eq, nmA_f, nmR_f, gn_var, gn_arr, gn_map, gnext_setL, lget_setL, lget_lset, gnext_lset, setL_setL, setL_H, Nat.reduceMul, Nat.reduceAdd, Nat.zero_add, fldA_ptr, fldA_rptr, List.drop_zero, ld1_l, ld1_r, ldA_l, rd1_var, rd1_arr, List.getElem?_cons_zero, List.getElem?_cons_succ, Obt_lss, Obt_leq, Obt_gtr, Obt_geq, Obt_eql, Obt_neq, Obt_not, gdO_tt, gdO_tf, gdO_ff, gdO_ft, gdO_skip, Option.map_some, pickX_t, pickX_f, Obt_pickS, Obt_gdT, Obt_gdF, Bool.not_true, Bool.not_false, lenS, Obt_map, Obt_add, Obt_sub, Obt_mul, Obt_quo, Obt_rem, Obt_and, Obt_or, Obt_xor, Obt_andNot, Obt_shl, Obt_shr, Obt_neg, Obt_cpl, Obt_conv, Obt_ext, Obt_bind, Obt_ite', appX_l, appX_n, appR_arr, appN_some, content_l, conR_arr, content_nil, clen_n, clen_r, idxS_ref, fillX, bslX, escP_list, List.all_append, stX_l, stV_var, stV_arr, splice, List.take_zero, List.take_succ_cons, List.drop_succ_cons, List.drop_nil, List.nil_append, List.cons_append, List.append_nil, List.length_cons, List.length_nil, Nat.reduceLeDiff, and_self, and_true, true_and, Nat.le_refl, Nat.zero_le, rdA_var, rdA_arr, escP, List.all_cons, List.all_nil, Bool.and_self, Bool.true_and, Bool.and_true, r17, tend, tresAll, tresC, Option.bind_some, mapMem, retv_agc, esc_i, esc_b, esc_n, esc_m, esc_s, retv_l, retR_arr, retv_gref, retv_gmap, retv_gptr, Nat.zero_sub, Nat.sub_self, retv_int, retv_bool, retv_nil, retv_imm, retv_inil, retv_pnil, tup_nil, tup_one, tup_two, Prod.mk.injEq, CV.int.injEq, CV.bool.injEq, hgv.len, halt, hab, hwa, t1, t2, t3, t4, hw]))
            | (revert hK; intro hK; (with_reducible refine hK _ ?_; clear hK K)))
            exact hx _ (by simp [hw, hab])
          · obtain ⟨p', q', t1', t2', t3', t4'⟩ := tab_at hO1 (a := w) (b := (a : Int)) ⟨by omega, by omega⟩ ⟨by omega, by omega⟩
            generalize hd2 : domB g w a = d2 at hx t4'
            cases d2
            · repeat' (first
              | with_reducible refine Tx_assoc ?_
              | with_reducible refine Tx_nopK ?_
              | with_reducible refine Tx_yesK rfl ?_
              | with_reducible refine Tx_no rfl ?_
              | with_reducible refine Tx_nop ?_
              | with_reducible refine Tx_blockK (id := 3) (fun Q3 hn3 hx3 hr3 ho3 => ?_)
              | with_reducible refine hn3 _ ?_
              | (((first | with_reducible refine Tx_regK (fun K hK => ?_) | with_reducible refine Tx_regE (fun K hK => ?_)); (first | with_reducible refine t17r8 ?_ | with_reducible refine t17r10 ?_ | with_reducible refine t17r9 ?_)); (try simp only [true_implies, false_implies, not_true_eq_false, not_false_eq_true, tget_cons, if_true, if_false, Nat.reduceEqDiff, ccells, Obt_some, Kn_normal, newL_eq, newP_eq, newA_eq, newM_eq, newR_eq, newK_eq, nmA_f, nmR_f, gn_var, gn_arr, gn_map, gnext_setL, lget_setL, lget_lset, gnext_lset, setL_setL, setL_H, Nat.reduceMul, Nat.reduceAdd, Nat.zero_add, fldA_ptr, fldA_rptr, List.drop_zero, ld1_l, ld1_r, ldA_l, rd1_var, rd1_arr, List.getElem?_cons_zero, List.getElem?_cons_succ, Obt_lss, Obt_leq, Obt_gtr, Obt_geq, Obt_eql, Obt_neq, Obt_not, gdO_tt, gdO_tf, gdO_ff, gdO_ft, gdO_skip, Option.map_some, pickX_t, pickX_f, Obt_pickS, Obt_gdT, Obt_gdF, Bool.not_true, Bool.not_false, lenS, Obt_map, Obt_add, Obt_sub, Obt_mul, Obt_quo, Obt_rem, Obt_and, Obt_or, Obt_xor, Obt_andNot, Obt_shl, Obt_shr, Obt_neg, Obt_cpl, Obt_conv, Obt_ext, Obt_bind, Obt_ite', appX_l, appX_n, appR_arr, appN_some, content_l, conR_arr, content_nil, clen_n, clen_r, idxS_ref, fillX, bslX, escP_list, List.all_append, stX_l, stV_var, stV_arr, splice, List.take_zero, List.take_succ_cons, List.drop_succ_cons, List.drop_nil, List.nil_append, List.cons_append, List.append_nil, List.length_cons, List.length_nil, Nat.reduceLeDiff, and_self, and_true, true_and, Nat.le_refl, Nat.zero_le, rdA_var, rdA_arr, escP, List.all_cons, List.all_nil, Bool.and_self, Bool.true_and, Bool.and_true, r17, tend, tresAll, tresC, Option.bind_some, mapMem, retv_agc, esc_i, esc_b, esc_n, esc_m, esc_s, retv_l, retR_arr, retv_gref, retv_gmap, retv_gptr, Nat.zero_sub, Nat.sub_self, retv_int, retv_bool, retv_nil, retv_imm, retv_inil, retv_pnil, tup_nil, tup_one, tup_two, Prod.mk.injEq, CV.int.injEq, CV.bool.injEq, hgv.len, halt, hab, hwa, t1, t2, t3, t4, hw, t1', t2', t3', t4']))
              | (revert hK; intro hK; (with_reducible refine hK _ ?_; clear hK K)))
              exact hx _ (by simp [hw])
            · repeat' (first
              | with_reducible refine Tx_assoc ?_
              | with_reducible refine Tx_nopK ?_
              | with_reducible refine Tx_yesK rfl ?_
              | with_reducible refine Tx_yes rfl ?_
              | with_reducible refine Tx_blockK (id := 3) (fun Q3 hn3 hx3 hr3 ho3 => ?_)
              | with_reducible refine hn3 _ ?_
              | (((first | with_reducible refine Tx_regK (fun K hK => ?_) | with_reducible refine Tx_regE (fun K hK => ?_)); (first | with_reducible refine t17r8 ?_ | with_reducible refine t17r10 ?_ | with_reducible refine t17r11 ?_ | with_reducible refine t17r9 ?_)); (try simp only [true_implies, false_implies, not_true_eq_false, not_false_eq_true, tget_cons, if_true, if_false, Nat.reduceEqDiff, ccells, Obt_some, Kn_normal, newL_eq, newP_eq, newA_eq, newM_eq, newR_eq, newK_eq, nmA_f, nmR_f, gn_var, gn_arr, gn_map, gnext_setL, lget_setL, lget_lset, gnext_lset, setL_setL, setL_H, Nat.reduceMul, Nat.reduceAdd, Nat.zero_add, fldA_ptr, fldA_rptr, List.drop_zero, ld1_l, ld1_r, ldA_l, rd1_var, rd1_arr, List.getElem?_cons_zero, List.getElem?_cons_succ, Obt_lss, Obt_leq, Obt_gtr, Obt_geq, Obt_eql, Obt_neq, Obt_not, gdO_tt, gdO_tf, gdO_ff, gdO_ft, gdO_skip, Option.map_some, pickX_t, pickX_f, Obt_pickS, Obt_gdT, Obt_gdF, Bool.not_true, Bool.not_false, lenS, Obt_map, Obt_add, Obt_sub, Obt_mul, Obt_quo, Obt_rem, Obt_and, Obt_or, Obt_xor, Obt_andNot, Obt_shl, Obt_shr, Obt_neg, Obt_cpl, Obt_conv, Obt_ext, Obt_bind, Obt_ite', appX_l, appX_n, appR_arr, appN_some, content_l, conR_arr, content_nil, clen_n, clen_r, idxS_ref, fillX, bslX, escP_list, List.all_append, stX_l, stV_var, stV_arr, splice, List.take_zero, List.take_succ_cons, List.drop_succ_cons, List.drop_nil, List.nil_append, List.cons_append, List.append_nil, List.length_cons, List.length_nil, Nat.reduceLeDiff, and_self, and_true, true_and, Nat.le_refl, Nat.zero_le, rdA_var, rdA_arr, escP, List.all_cons, List.all_nil, Bool.and_self, Bool.true_and, Bool.and_true, r17, tend, tresAll, tresC, Option.bind_some, mapMem, retv_agc, esc_i, esc_b, esc_n, esc_m, esc_s, retv_l, retR_arr, retv_gref, retv_gmap, retv_gptr, Nat.zero_sub, Nat.sub_self, retv_int, retv_bool, retv_nil, retv_imm, retv_inil, retv_pnil, tup_nil, tup_one, tup_two, Prod.mk.injEq, CV.int.injEq, CV.bool.injEq, hgv.len, halt, hab, hwa, t1, t2, t3, t4, hw, t1', t2', t3', t4']))
              | (revert hK; intro hK; (with_reducible refine hK _ ?_; clear hK K)))
              exact hx _ (by simp [hab])
end Go.Cm
