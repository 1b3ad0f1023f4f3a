/-
  Graphs: the nodes in their order; what one may come to.
-/
import Derived.Test.YthjkmonenenlmaaDoB
set_option linter.unusedSimpArgs false
set_option linter.unusedVariables false
namespace Go.Cm
open Go.Proofs Go.Gr
theorem x30 (H : List HO) (n gn : Nat) (l : List Int) (hH : H[n]? = some (.arr gn 1 (l.flatMap intC) 0)) (hl : l.length ≤ 4294967296) :
    FF 30 [.ref (.g n) gn 0 l.length] H = some (.tuple [], H.set n (.arr gn 1 (l.reverse.flatMap intC) 0)) := by
  have hn := (List.getElem?_eq_some_iff.1 hH).1
  have hw0 : IntKind.i64.wrap ((l.length : Int) - 1) = l.length - 1 := wI (by omega) (by omega)
  refine Fw_funK rfl Try.func30 s30 (Nat.le_of_ble_eq_true rfl) (fun Q hqr hqn => ?_)
  simp only [tinit, Nat.reduceAdd, c30]
  repeat' (first
  | with_reducible refine Tx_blockE (id := 0) (fun Q0 hn0 hx0 hr0 ho0 => ?_)
  | ((with_reducible refine Tx_regK (fun K hK => ?_); with_reducible refine t30r0 ?_); (try simp only [true_implies, false_implies, not_true_eq_false, not_false_eq_true, tget_cons, if_true, if_false, Nat.reduceEqDiff, ccells, Obt_some, Kn_normal, newL_eq, newP_eq, newA_eq, newM_eq, newR_eq, newK_eq, nmA_f, nmR_f, gn_var, gn_arr, gn_map, gnext_setL, lget_setL, lget_lset, gnext_lset, setL_setL, setL_H, Nat.reduceMul, Nat.reduceAdd, Nat.zero_add, fldA_ptr, fldA_rptr, List.drop_zero, ld1_l, ld1_r, ldA_l, rd1_var, rd1_arr, List.getElem?_cons_zero, List.getElem?_cons_succ, Obt_lss, Obt_leq, Obt_gtr, Obt_geq, Obt_eql, Obt_neq, Obt_not, gdO_tt, gdO_tf, gdO_ff, gdO_ft, gdO_skip, Option.map_some, pickX_t, pickX_f, Obt_pickS, Obt_gdT, Obt_gdF, Bool.not_true, Bool.not_false, lenS, Obt_map, Obt_add, Obt_sub, Obt_mul, Obt_quo, Obt_rem, Obt_and, Obt_or, Obt_xor, Obt_andNot, Obt_shl, Obt_shr, Obt_neg, Obt_cpl, Obt_conv, Obt_ext, Obt_bind, Obt_ite', appX_l, appX_n, appR_arr, appN_some, content_l, conR_arr, content_nil, clen_n, clen_r, idxS_ref, fillX, bslX, escP_list, List.all_append, stX_l, stV_var, stV_arr, splice, List.take_zero, List.take_succ_cons, List.drop_succ_cons, List.drop_nil, List.nil_append, List.cons_append, List.append_nil, List.length_cons, List.length_nil, Nat.reduceLeDiff, and_self, and_true, true_and, Nat.le_refl, Nat.zero_le, rdA_var, rdA_arr, escP, List.all_cons, List.all_nil, Bool.and_self, Bool.true_and, Bool.and_true, r30, tend, tresAll, tresC, Option.bind_some, mapMem, retv_agc, esc_i, esc_b, esc_n, esc_m, esc_s, retv_l, retR_arr, retv_gref, retv_gmap, retv_gptr, Nat.zero_sub, Nat.sub_self, retv_int, retv_bool, retv_nil, retv_imm, retv_inil, retv_pnil, tup_nil, tup_one, tup_two, Prod.mk.injEq, CV.int.injEq, CV.bool.injEq, hw0]))
  | (revert hK; intro hK; (with_reducible refine hK _ ?_; clear hK K)))
  refine Tx_loopK (fun k s => ∃ (i : Nat) (c : List Int), 2 * i ≤ l.length ∧ k = l.length - i ∧ c.length = l.length ∧ (∀ j, c[j]? = if j < l.length ∧ (j < i ∨ l.length ≤ j + i) then l[l.length - 1 - j]? else l[j]?) ∧
    s = ⟨[(0, .ref (.g n) gn 0 l.length), (2, .int .i64 i), (3, .int .i64 ((l.length : Int) - 1 - i))], ⟨[], H.set n (.arr gn 1 (c.flatMap intC) 0)⟩⟩) _ ⟨0, l, by omega, rfl, rfl, fun j => ?_, ?_⟩ ?_
  · split
    · rename_i h; omega
    · rfl
  · have : H.set n (.arr gn 1 (l.flatMap intC) 0) = H := by
      obtain ⟨h1, h2⟩ := List.getElem?_eq_some_iff.1 hH
      rw [← h2]; exact List.set_getElem_self h1
    rw [this]; simp
  rintro k s ⟨i, c, hi, rfl, hc, hcj, rfl⟩ QL0 hnL0 hxL0 hrL0
  by_cases hij : (i : Int) < (l.length : Int) - 1 - i
  · obtain ⟨ci, hci⟩ : ∃ x, c[i]? = some x := ⟨_, List.getElem?_eq_getElem (by omega)⟩
    obtain ⟨cj, hcj2⟩ : ∃ x, c[l.length - 1 - i]? = some x := ⟨_, List.getElem?_eq_getElem (by omega)⟩
    have e0 : ((l.length : Int) - 1 - i).toNat = l.length - 1 - i := by omega
    have a1 : idxS 1 (.ref (.g n) gn 0 l.length) (.int .i64 ((l.length : Int) - 1 - i)) = some (.ptr (.g n) gn (l.length - 1 - i)) := by
      rw [idxS_ref, if_pos ⟨by omega, by omega⟩, e0]; simp
    have a2 : idxS 1 (.ref (.g n) gn 0 l.length) (.int .i64 i) = some (.ptr (.g n) gn i) := by
      rw [idxS_ref, if_pos ⟨by omega, by omega⟩]; simp
    have hset : ∀ o : HO, (H.set n o)[n]? = some o := fun o => List.getElem?_set_self hn
    have hw1 : IntKind.i64.wrap ((i : Int) + 1) = i + 1 := wI (by omega) (by omega)
    have hw2 : IntKind.i64.wrap ((l.length : Int) - 1 - i - 1) = (l.length : Int) - 1 - i - 1 := wI (by omega) (by omega)
    have s1 : stX 1 ⟨[], H.set n (.arr gn 1 (c.flatMap intC) 0)⟩ (.ptr (.g n) gn i) (.int .i64 cj) = some ⟨[], H.set n (.arr gn 1 ((c.set i cj).flatMap intC) 0)⟩ := by
      rw [stX_one (hset _) (by rw [len_int]; omega) rfl rfl, set_int, List.set_set]
    have s2 : stX 1 ⟨[], H.set n (.arr gn 1 ((c.set i cj).flatMap intC) 0)⟩ (.ptr (.g n) gn (l.length - 1 - i)) (.int .i64 ci) = some ⟨[], H.set n (.arr gn 1 (((c.set i cj).set (l.length - 1 - i) ci).flatMap intC) 0)⟩ := by
      rw [stX_one (hset _) (by rw [len_int, List.length_set]; omega) rfl rfl, set_int, List.set_set]
    simp only [c30l0]
    repeat' (first
    | with_reducible refine Tx_assoc ?_
    | with_reducible refine Tx_nopK ?_
    | with_reducible refine Tx_yesK rfl ?_
    | with_reducible refine Tx_blockK (id := 1) (fun Q1 hn1 hx1 hr1 ho1 => ?_)
    | with_reducible refine hn1 _ ?_
    | (((first | with_reducible refine Tx_regK (fun K hK => ?_) | with_reducible refine Tx_regE (fun K hK => ?_)); (first | with_reducible refine t30r1 ?_ | with_reducible refine t30r3 ?_ | with_reducible refine t30r2 ?_)); (try simp only [true_implies, false_implies, not_true_eq_false, not_false_eq_true, tget_cons, if_true, if_false, Nat.reduceEqDiff, ccells, Obt_some, Kn_normal, newL_eq, newP_eq, newA_eq, newM_eq, newR_eq, newK_eq, nmA_f, nmR_f, gn_var, gn_arr, gn_map, gnext_setL, lget_setL, lget_lset, gnext_lset, setL_setL, setL_H, Nat.reduceMul, Nat.reduceAdd, Nat.zero_add, fldA_ptr, fldA_rptr, List.drop_zero, ld1_l, ld1_r, ldA_l, rd1_var, rd1_arr, List.getElem?_cons_zero, List.getElem?_cons_succ, Obt_lss, Obt_leq, Obt_gtr, Obt_geq, Obt_eql, Obt_neq, Obt_not, gdO_tt, gdO_tf, gdO_ff, gdO_ft, gdO_skip, Option.map_some, pickX_t, pickX_f, Obt_pickS, Obt_gdT, Obt_gdF, Bool.not_true, Bool.not_false, lenS, Obt_map, Obt_add, Obt_sub, Obt_mul, Obt_quo, Obt_rem, Obt_and, Obt_or, Obt_xor, Obt_andNot, Obt_shl, Obt_shr, Obt_neg, Obt_cpl, Obt_conv, Obt_ext, Obt_bind, Obt_ite', appX_l, appX_n, appR_arr, appN_some, content_l, conR_arr, content_nil, clen_n, clen_r, idxS_ref, fillX, bslX, escP_list, List.all_append, stX_l, stV_var, stV_arr, splice, List.take_zero, List.take_succ_cons, List.drop_succ_cons, List.drop_nil, List.nil_append, List.cons_append, List.append_nil, List.length_cons, List.length_nil, Nat.reduceLeDiff, and_self, and_true, true_and, Nat.le_refl, Nat.zero_le, rdA_var, rdA_arr, escP, List.all_cons, List.all_nil, Bool.and_self, Bool.true_and, Bool.and_true, r30, tend, tresAll, tresC, Option.bind_some, mapMem, retv_agc, esc_i, esc_b, esc_n, esc_m, esc_s, retv_l, retR_arr, retv_gref, retv_gmap, retv_gptr, Nat.zero_sub, Nat.sub_self, retv_int, retv_bool, retv_nil, retv_imm, retv_inil, retv_pnil, tup_nil, tup_one, tup_two, Prod.mk.injEq, CV.int.injEq, CV.bool.injEq, a1, a2, ld1_g, hset, flat_int, hci, hcj2, s1, s2, hw1, hw2]))
    | (revert hK; intro hK; (first | refine And.intro ?_ ?_ | intro _ | omega | (with_reducible refine hK _ ?_; clear hK K))))
    refine hnL0 (l.length - (i + 1)) _ (by omega) ⟨i + 1, (c.set i cj).set (l.length - 1 - i) ci, by omega, rfl, by simp [hc], fun j => ?_, ?_⟩
    · rw [List.getElem?_set, List.getElem?_set]
      have hi1 := hcj i
      have hj1 := hcj (l.length - 1 - i)
      rw [if_neg (by omega)] at hi1 hj1
      rw [hci] at hi1
      rw [hcj2] at hj1
      by_cases h1 : l.length - 1 - i = j
      · subst h1
        rw [if_pos rfl, if_pos (by simp only [List.length_set]; omega), if_pos (by omega)]
        rw [show l.length - 1 - (l.length - 1 - i) = i by omega, hi1]
      · rw [if_neg h1]
        by_cases h2 : i = j
        · subst h2
          rw [if_pos rfl, if_pos (by omega), if_pos (by omega), hj1]
        · rw [if_neg h2, hcj j]
          by_cases h3 : j < l.length ∧ (j < i ∨ l.length ≤ j + i)
          · rw [if_pos h3, if_pos (by omega)]
          · rw [if_neg h3, if_neg (by omega)]
    · have : ((i + 1 : Nat) : Int) = (i : Int) + 1 := by omega
      rw [this, show (l.length : Int) - 1 - (i + 1) = l.length - 1 - i - 1 by omega]
  · simp only [c30l0]
    repeat' (first
    | with_reducible refine Tx_assoc ?_
    | with_reducible refine Tx_noK rfl ?_
    | with_reducible refine Tx_exitK ?_
    | with_reducible refine hx0 _ ?_
    | with_reducible refine hxL0 _ _ ?_
    | ((first | (with_reducible refine Tx_regK (fun K hK => ?_); with_reducible refine t30r1 ?_) | with_reducible refine hqn _ ?_); (try simp only [true_implies, false_implies, not_true_eq_false, not_false_eq_true, tget_cons, if_true, if_false, Nat.reduceEqDiff, ccells, Obt_some, Kn_normal, newL_eq, newP_eq, newA_eq, newM_eq, newR_eq, newK_eq, nmA_f, nmR_f, gn_var, gn_arr, gn_map, gnext_setL, lget_setL, lget_lset, gnext_lset, setL_setL, setL_H, Nat.reduceMul, Nat.reduceAdd, Nat.zero_add, fldA_ptr, fldA_rptr, List.drop_zero, ld1_l, ld1_r, ldA_l, rd1_var, rd1_arr, List.getElem?_cons_zero, List.getElem?_cons_succ, Obt_lss, Obt_leq, Obt_gtr, Obt_geq, Obt_eql, Obt_neq, Obt_not, gdO_tt, gdO_tf, gdO_ff, gdO_ft, gdO_skip, Option.map_some, pickX_t, pickX_f, Obt_pickS, Obt_gdT, Obt_gdF, Bool.not_true, Bool.not_false, lenS, Obt_map, Obt_add, Obt_sub, Obt_mul, Obt_quo, Obt_rem, Obt_and, Obt_or, Obt_xor, Obt_andNot, Obt_shl, Obt_shr, Obt_neg, Obt_cpl, Obt_conv, Obt_ext, Obt_bind, Obt_ite', appX_l, appX_n, appR_arr, appN_some, content_l, conR_arr, content_nil, clen_n, clen_r, idxS_ref, fillX, bslX, escP_list, List.all_append, stX_l, stV_var, stV_arr, splice, List.take_zero, List.take_succ_cons, List.drop_succ_cons, List.drop_nil, List.nil_append, List.cons_append, List.append_nil, List.length_cons, List.length_nil, Nat.reduceLeDiff, and_self, and_true, true_and, Nat.le_refl, Nat.zero_le, rdA_var, rdA_arr, escP, List.all_cons, List.all_nil, Bool.and_self, Bool.true_and, Bool.and_true, r30, tend, tresAll, tresC, Option.bind_some, mapMem, retv_agc, esc_i, esc_b, esc_n, esc_m, esc_s, retv_l, retR_arr, retv_gref, retv_gmap, retv_gptr, Nat.zero_sub, Nat.sub_self, retv_int, retv_bool, retv_nil, retv_imm, retv_inil, retv_pnil, tup_nil, tup_one, tup_two, Prod.mk.injEq, CV.int.injEq, CV.bool.injEq]))
    | (revert hK; intro hK; (first | refine And.intro ?_ ?_ | intro _ | omega | (with_reducible refine hK _ ?_; clear hK K))))
    have : c = l.reverse := by
      refine List.ext_getElem? fun j => ?_
      rw [hcj j]
      by_cases hj : j < l.length
      · rw [List.getElem?_reverse hj]
        by_cases h3 : j < i ∨ l.length ≤ j + i
        · rw [if_pos ⟨hj, h3⟩]
        · rw [if_neg (fun h => h3 h.2), show l.length - 1 - j = j by omega]
      · rw [if_neg (fun h => hj h.1), List.getElem?_eq_none (by omega), List.getElem?_eq_none (by simp; omega)]
    rw [this]
theorem x19 (g : List (List Int)) (hg : Sm g) (gv : CV) (hgv : IsRows gv g) (H0 : List HO) : ∃ v T, FF 19 [gv] H0 = some (v, H0 ++ T) ∧ RefG (H0 ++ T) v (ord g) := by
  by_cases h0 : g = []
  · subst h0
    refine ⟨.nil, [.var 1 [gv] 0], ?_, .inl ⟨rfl, rfl⟩⟩
    refine Fw_funK rfl Try.func19 s19 (Nat.le_of_ble_eq_true rfl) (fun Q hqr hqn => ?_)
    simp only [tinit, Nat.reduceAdd, c19]
    repeat' (first
    | with_reducible refine Tx_assoc ?_
    | with_reducible refine Tx_yesK rfl ?_
    | with_reducible refine Tx_retK ?_
    | ((first | (with_reducible refine Tx_regK (fun K hK => ?_); (first | with_reducible refine t19r0 ?_ | with_reducible refine t19r1 ?_ | with_reducible refine t19r2 ?_)) | with_reducible refine hqr _ ?_); (try simp only [true_implies, false_implies, not_true_eq_false, not_false_eq_true, tget_cons, if_true, if_false, Nat.reduceEqDiff, ccells, Obt_some, Kn_normal, newL_eq, newP_eq, newA_eq, newM_eq, newR_eq, newK_eq, nmA_f, nmR_f, gn_var, gn_arr, gn_map, gnext_setL, lget_setL, lget_lset, gnext_lset, setL_setL, setL_H, Nat.reduceMul, Nat.reduceAdd, Nat.zero_add, fldA_ptr, fldA_rptr, List.drop_zero, ld1_l, ld1_r, ldA_l, rd1_var, rd1_arr, List.getElem?_cons_zero, List.getElem?_cons_succ, Obt_lss, Obt_leq, Obt_gtr, Obt_geq, Obt_eql, Obt_neq, Obt_not, gdO_tt, gdO_tf, gdO_ff, gdO_ft, gdO_skip, Option.map_some, pickX_t, pickX_f, Obt_pickS, Obt_gdT, Obt_gdF, Bool.not_true, Bool.not_false, lenS, Obt_map, Obt_add, Obt_sub, Obt_mul, Obt_quo, Obt_rem, Obt_and, Obt_or, Obt_xor, Obt_andNot, Obt_shl, Obt_shr, Obt_neg, Obt_cpl, Obt_conv, Obt_ext, Obt_bind, Obt_ite', appX_l, appX_n, appR_arr, appN_some, content_l, conR_arr, content_nil, clen_n, clen_r, idxS_ref, fillX, bslX, escP_list, List.all_append, stX_l, stV_var, stV_arr, splice, List.take_zero, List.take_succ_cons, List.drop_succ_cons, List.drop_nil, List.nil_append, List.cons_append, List.append_nil, List.length_cons, List.length_nil, Nat.reduceLeDiff, and_self, and_true, true_and, Nat.le_refl, Nat.zero_le, rdA_var, rdA_arr, escP, List.all_cons, List.all_nil, Bool.and_self, Bool.true_and, Bool.and_true, r19, tend, tresAll, tresC, Option.bind_some, mapMem, retv_agc, esc_i, esc_b, esc_n, esc_m, esc_s, retv_l, retR_arr, retv_gref, retv_gmap, retv_gptr, Nat.zero_sub, Nat.sub_self, retv_int, retv_bool, retv_nil, retv_imm, retv_inil, retv_pnil, tup_nil, tup_one, tup_two, Prod.mk.injEq, CV.int.injEq, CV.bool.injEq, ld1_g, ldA_g, getH, getH0, setH, setH0, gnewL_eq, gnewP_eq, gnewA_eq, gnewR_eq, gnewM_eq, gnewK_eq, nmA_t, nmR_t, setG, stX_g, stW_var, List.append_assoc, List.length_append, List.set_cons_succ, List.set_cons_zero, escQ_list, escQ, mmX, invokeC_func, boxG_1 (x := gv) hgv.cells hgv.esc, hgv.len]))
    | (revert hK; intro hK; (first | refine And.intro ?_ ?_ | intro _ | omega | (with_reducible refine hK _ ?_; clear hK K))))
  · obtain ⟨M, N, hv, ho⟩ := ord_ok g h0
    have hlen : 0 < g.length := List.length_pos_iff.2 h0
    have hvis : (visit g (g.length + 1) 0 ([], [])).2 = N := by rw [hv.left]; simp
    have hN : N = (ord g).reverse := by rw [ho, List.reverse_reverse]
    have hNl : N.length ≤ 1048576 := by rw [hN, List.length_reverse]; have := ord_len g; have := hg.1; omega
    have hN0 : N ≠ [] := by
      obtain ⟨r, hr⟩ := ord_head h0
      rw [hN, hr]; simp
    have hwalk := x28 g hg gv hgv H0 (g.length + 1) 0 [] [] (Int.le_refl _) (by omega) (by have := unmet_all g; omega) (by rw [hvis]; exact hNl)
    have hc : callC An FF 19 (some 12) 28 (argsO H0.length 0) ⟨[], H0 ++ envO gv H0.length [] []⟩ = some (.tuple [], ⟨[], H0 ++ envO gv H0.length (visit g (g.length + 1) 0 ([], [])).1 N⟩) := by
      rw [callC_I rfl (argsO_Q _ _) hwalk, adopt_tuple rfl, hvis]
    generalize (visit g (g.length + 1) 0 ([], [])).1 = met at hc
    have e5 : (envO gv H0.length met N)[5]? = some (.arr N.length 1 (N.flatMap intC) 0) := by
      simp only [envO, leftH, hN0, if_false, List.getElem?_cons_succ, List.getElem?_cons_zero]
    have hrev := x30 (H0 ++ envO gv H0.length met N) (H0.length + 5) N.length N (by rw [getH, e5]) (by omega)
    have hc2 : callC An FF 19 (some 14) 30 [.ref (.g (H0.length + 5)) N.length 0 N.length] ⟨[], H0 ++ envO gv H0.length met N⟩ = some (.tuple [], ⟨[], (H0 ++ envO gv H0.length met N).set (H0.length + 5) (.arr N.length 1 (N.reverse.flatMap intC) 0)⟩) := by
      rw [callC_I rfl rfl hrev, adopt_tuple rfl]
    have e3 : (envO gv H0.length met N)[3]? = some (.var 1 [.ref (.g (H0.length + 5)) N.length 0 N.length] 0) := by
      simp only [envO, leftV, hN0, if_false, List.getElem?_cons_succ, List.getElem?_cons_zero]
    have e3' : ∀ o, ((envO gv H0.length met N).set 5 o)[3]? = some (.var 1 [.ref (.g (H0.length + 5)) N.length 0 N.length] 0) := fun o => by
      simp only [envO, leftV, hN0, if_false, List.set_cons_succ, List.getElem?_cons_succ, List.getElem?_cons_zero]
    refine ⟨.ref (.g (H0.length + 5)) N.length 0 N.length, (envO gv H0.length met N).set 5 (.arr N.length 1 (N.reverse.flatMap intC) 0), ?_, .inr ⟨H0.length + 5, N.length, 0, ?_, ?_⟩⟩
    · refine Fw_funK rfl Try.func19 s19 (Nat.le_of_ble_eq_true rfl) (fun Q hqr hqn => ?_)
      simp only [tinit, Nat.reduceAdd, c19]
      repeat' (first
      | with_reducible refine Tx_assoc ?_
      | with_reducible refine Tx_nopK ?_
      | with_reducible refine Tx_noK rfl ?_
      | ((with_reducible refine Tx_regK (fun K hK => ?_); (first | with_reducible refine t19r0 ?_ | with_reducible refine t19r1 ?_ | with_reducible refine t19r3 ?_ | with_reducible refine t19r4 ?_ | with_reducible refine t19r5 ?_ | with_reducible refine t19r6 ?_ | with_reducible refine t19r7 ?_)); (try simp only [true_implies, false_implies, not_true_eq_false, not_false_eq_true, tget_cons, if_true, if_false, Nat.reduceEqDiff, ccells, Obt_some, Kn_normal, newL_eq, newP_eq, newA_eq, newM_eq, newR_eq, newK_eq, nmA_f, nmR_f, gn_var, gn_arr, gn_map, gnext_setL, lget_setL, lget_lset, gnext_lset, setL_setL, setL_H, Nat.reduceMul, Nat.reduceAdd, Nat.zero_add, fldA_ptr, fldA_rptr, List.drop_zero, ld1_l, ld1_r, ldA_l, rd1_var, rd1_arr, List.getElem?_cons_zero, List.getElem?_cons_succ, Obt_lss, Obt_leq, Obt_gtr, Obt_geq, Obt_eql, Obt_neq, Obt_not, gdO_tt, gdO_tf, gdO_ff, gdO_ft, gdO_skip, Option.map_some, pickX_t, pickX_f, Obt_pickS, Obt_gdT, Obt_gdF, Bool.not_true, Bool.not_false, lenS, Obt_map, Obt_add, Obt_sub, Obt_mul, Obt_quo, Obt_rem, Obt_and, Obt_or, Obt_xor, Obt_andNot, Obt_shl, Obt_shr, Obt_neg, Obt_cpl, Obt_conv, Obt_ext, Obt_bind, Obt_ite', appX_l, appX_n, appR_arr, appN_some, content_l, conR_arr, content_nil, clen_n, clen_r, idxS_ref, fillX, bslX, escP_list, List.all_append, stX_l, stV_var, stV_arr, splice, List.take_zero, List.take_succ_cons, List.drop_succ_cons, List.drop_nil, List.nil_append, List.cons_append, List.append_nil, List.length_cons, List.length_nil, Nat.reduceLeDiff, and_self, and_true, true_and, Nat.le_refl, Nat.zero_le, rdA_var, rdA_arr, escP, List.all_cons, List.all_nil, Bool.and_self, Bool.true_and, Bool.and_true, r19, tend, tresAll, tresC, Option.bind_some, mapMem, retv_agc, esc_i, esc_b, esc_n, esc_m, esc_s, retv_l, retR_arr, retv_gref, retv_gmap, retv_gptr, Nat.zero_sub, Nat.sub_self, retv_int, retv_bool, retv_nil, retv_imm, retv_inil, retv_pnil, tup_nil, tup_one, tup_two, Prod.mk.injEq, CV.int.injEq, CV.bool.injEq, ld1_g, ldA_g, getH, getH0, setH, setH0, gnewL_eq, gnewP_eq, gnewA_eq, gnewR_eq, gnewM_eq, gnewK_eq, nmA_t, nmR_t, setG, stX_g, stW_var, List.append_assoc, List.length_append, List.set_cons_succ, List.set_cons_zero, escQ_list, escQ, mmX, invokeC_func, boxG_1 (x := gv) hgv.cells hgv.esc, hgv.len]))
      | (revert hK; intro hK; (first | refine And.intro ?_ ?_ | intro _ | omega | (with_reducible refine hK _ ?_; clear hK K))))
      refine Obt_of hc ?_
      refine hK _ ?_
      clear hK K
      repeat' (first
      | with_reducible refine Tx_ret ?_
      | ((first | (with_reducible refine Tx_regK (fun K hK => ?_); (first | with_reducible refine t19r8 ?_ | with_reducible refine t19r9 ?_)) | with_reducible refine hqr _ ?_); (try simp only [true_implies, false_implies, not_true_eq_false, not_false_eq_true, tget_cons, if_true, if_false, Nat.reduceEqDiff, ccells, Obt_some, Kn_normal, newL_eq, newP_eq, newA_eq, newM_eq, newR_eq, newK_eq, nmA_f, nmR_f, gn_var, gn_arr, gn_map, gnext_setL, lget_setL, lget_lset, gnext_lset, setL_setL, setL_H, Nat.reduceMul, Nat.reduceAdd, Nat.zero_add, fldA_ptr, fldA_rptr, List.drop_zero, ld1_l, ld1_r, ldA_l, rd1_var, rd1_arr, List.getElem?_cons_zero, List.getElem?_cons_succ, Obt_lss, Obt_leq, Obt_gtr, Obt_geq, Obt_eql, Obt_neq, Obt_not, gdO_tt, gdO_tf, gdO_ff, gdO_ft, gdO_skip, Option.map_some, pickX_t, pickX_f, Obt_pickS, Obt_gdT, Obt_gdF, Bool.not_true, Bool.not_false, lenS, Obt_map, Obt_add, Obt_sub, Obt_mul, Obt_quo, Obt_rem, Obt_and, Obt_or, Obt_xor, Obt_andNot, Obt_shl, Obt_shr, Obt_neg, Obt_cpl, Obt_conv, Obt_ext, Obt_bind, Obt_ite', appX_l, appX_n, appR_arr, appN_some, content_l, conR_arr, content_nil, clen_n, clen_r, idxS_ref, fillX, bslX, escP_list, List.all_append, stX_l, stV_var, stV_arr, splice, List.take_zero, List.take_succ_cons, List.drop_succ_cons, List.drop_nil, List.nil_append, List.cons_append, List.append_nil, List.length_cons, List.length_nil, Nat.reduceLeDiff, and_self, and_true, true_and, Nat.le_refl, Nat.zero_le, rdA_var, rdA_arr, escP, List.all_cons, List.all_nil, Bool.and_self, Bool.true_and, Bool.and_true, r19, tend, tresAll, tresC, Option.bind_some, mapMem, retv_agc, esc_i, esc_b, esc_n, esc_m, esc_s, retv_l, retR_arr, retv_gref, retv_gmap, retv_gptr, Nat.zero_sub, Nat.sub_self, retv_int, retv_bool, retv_nil, retv_imm, retv_inil, retv_pnil, tup_nil, tup_one, tup_two, Prod.mk.injEq, CV.int.injEq, CV.bool.injEq, ld1_g, getH, e3, e3', hc2, setH]))
      | (revert hK; intro hK; (with_reducible refine hK _ ?_; clear hK K)))
    · simp only [ho, List.length_reverse]
    · rw [getH, ← ho, List.getElem?_set_self]
      exact (List.getElem?_eq_some_iff.1 e5).1
/-- a call of it -/
theorem k19 (g : List (List Int)) (hg : Sm g) (gv : CV) (hgv : IsRows gv g) {fid : FuncId} {d : Tmp} {m : Mem} {K : CV × Mem → Prop} (hK : ∀ v T, RefG (m.H ++ T) v (ord g) → K (v, ⟨m.L, m.H ++ T⟩)) : Obt (callC An FF fid (some d) 19 [gv] m) K := by
  obtain ⟨v, T, h1, h2⟩ := x19 g hg gv hgv m.H
  refine Obt_of (callC_I rfl (by simp only [List.all_cons, List.all_nil, escP_escQ hgv.esc, Bool.and_self]) h1) ?_
  rcases h2 with ⟨h3, rfl⟩ | ⟨n, gn, vl, rfl, h3⟩
  · exact hK _ _ (.inl ⟨h3, rfl⟩)
  · exact hK _ _ (.inr ⟨n, gn, vl, rfl, h3⟩)
/-- what one may come to -/
def reachL (g : List (List Int)) : List Bool := (List.range g.length).map fun (i : Nat) => decide ((i : Int) ∈ ord g)
theorem x10 (g : List (List Int)) (hg : Sm g) (gv : CV) (hgv : IsRows gv g) : ∃ H', FF 10 [gv] [] = some (ownN boolC 1 (reachL g), H') := by
  obtain ⟨v, T, h1, h2⟩ := x19 g hg gv hgv []
  simp only [List.nil_append] at h1 h2
  refine ⟨T, ?_⟩
  have hol := ord_len g
  have hgl := hg.1
  have hmk := fun m => mkX_l (j := 128) (sz := 1) (b := 1) (z := [.bool false]) (k := .i64) (n := g.length) (m := m) rfl (by omega) (by omega)
  have hc : ∀ L, callC An FF 10 (some 10) 19 [gv] ⟨L, []⟩ = some (v, ⟨L, T⟩) := by
    intro L
    rw [callC_I rfl (by simp only [List.all_cons, List.all_nil, escP_escQ hgv.esc, Bool.and_self]) h1]
    rcases h2 with ⟨_, rfl⟩ | ⟨n, gn, vl, rfl, _⟩ <;> rfl
  have hsetL : ∀ j o, setL ⟨[], []⟩ j o = ⟨lset [] j o, []⟩ := fun _ _ => rfl
  refine Fw_funK rfl Try.func10 s10 (Nat.le_of_ble_eq_true rfl) (fun Q hqr hqn => ?_)
  simp only [tinit, Nat.reduceAdd, c10]
  repeat' (first
  | with_reducible refine Tx_assoc ?_
  | with_reducible refine Tx_blockK (id := 0) (fun Q0 hn0 hx0 hr0 ho0 => ?_)
  | ((with_reducible refine Tx_regK (fun K hK => ?_); (first | with_reducible refine t10r0 ?_ | with_reducible refine t10r1 ?_ | with_reducible refine t10r2 ?_)); (try simp only [true_implies, false_implies, not_true_eq_false, not_false_eq_true, tget_cons, if_true, if_false, Nat.reduceEqDiff, ccells, Obt_some, Kn_normal, newL_eq, newP_eq, newA_eq, newM_eq, newR_eq, newK_eq, nmA_f, nmR_f, gn_var, gn_arr, gn_map, gnext_setL, lget_setL, lget_lset, gnext_lset, setL_setL, setL_H, Nat.reduceMul, Nat.reduceAdd, Nat.zero_add, fldA_ptr, fldA_rptr, List.drop_zero, ld1_l, ld1_r, ldA_l, rd1_var, rd1_arr, List.getElem?_cons_zero, List.getElem?_cons_succ, Obt_lss, Obt_leq, Obt_gtr, Obt_geq, Obt_eql, Obt_neq, Obt_not, gdO_tt, gdO_tf, gdO_ff, gdO_ft, gdO_skip, Option.map_some, pickX_t, pickX_f, Obt_pickS, Obt_gdT, Obt_gdF, Bool.not_true, Bool.not_false, lenS, Obt_map, Obt_add, Obt_sub, Obt_mul, Obt_quo, Obt_rem, Obt_and, Obt_or, Obt_xor, Obt_andNot, Obt_shl, Obt_shr, Obt_neg, Obt_cpl, Obt_conv, Obt_ext, Obt_bind, Obt_ite', appX_l, appX_n, appR_arr, appN_some, content_l, conR_arr, content_nil, clen_n, clen_r, idxS_ref, fillX, bslX, escP_list, List.all_append, stX_l, stV_var, stV_arr, splice, List.take_zero, List.take_succ_cons, List.drop_succ_cons, List.drop_nil, List.nil_append, List.cons_append, List.append_nil, List.length_cons, List.length_nil, Nat.reduceLeDiff, and_self, and_true, true_and, Nat.le_refl, Nat.zero_le, rdA_var, rdA_arr, escP, List.all_cons, List.all_nil, Bool.and_self, Bool.true_and, Bool.and_true, r10, tend, tresAll, tresC, Option.bind_some, mapMem, retv_agc, esc_i, esc_b, esc_n, esc_m, esc_s, retv_l, retR_arr, retv_gref, retv_gmap, retv_gptr, Nat.zero_sub, Nat.sub_self, retv_int, retv_bool, retv_nil, retv_imm, retv_inil, retv_pnil, tup_nil, tup_one, tup_two, Prod.mk.injEq, CV.int.injEq, CV.bool.injEq, hgv.len, hmk, hsetL, hc, h2.len, reps_bool]))
  | (revert hK; intro hK; (with_reducible refine hK _ ?_; clear hK K)))
  refine Tx_loopK (fun k s => ∃ (d t : List Int) (c : List Bool) (gn : Nat) (ML : List (Nat × HO)), ord g = d ++ t ∧ k = t.length ∧ c.length = g.length ∧ (∀ j : Nat, j < g.length → c[j]? = some (decide ((j : Int) ∈ d))) ∧
    s = ⟨[(3, .ref (.l 128) gn 0 g.length), (10, v), (11, .int .i64 (ord g).length), (12, .int .i64 d.length)], ⟨ML, T⟩⟩ ∧ lget ML 128 = some (.arr gn 1 (c.flatMap boolC) 0)) _ ⟨[], ord g, List.replicate g.length false, _, _, rfl, rfl, by simp, fun j hj => by simp [hj], rfl, rfl⟩ ?_
  rintro k s ⟨d, t, c, gn, ML, h3, rfl, hc1, hc2, rfl, hML⟩ QL0 hnL0 hxL0 hrL0
  have hlen := congrArg List.length h3
  simp only [List.length_append] at hlen
  cases t with
  | nil =>
    simp only [List.length_nil] at hlen
    simp only [c10l0]
    repeat' (first
    | with_reducible refine Tx_noK rfl ?_
    | with_reducible refine Tx_exitK ?_
    | with_reducible refine Tx_ret ?_
    | with_reducible refine hx0 _ ?_
    | with_reducible refine hxL0 _ _ ?_
    | ((first | (with_reducible refine Tx_regK (fun K hK => ?_); (first | with_reducible refine t10r3 ?_ | with_reducible refine t10r7 ?_)) | with_reducible refine hqr _ ?_); (try simp only [true_implies, false_implies, not_true_eq_false, not_false_eq_true, tget_cons, if_true, if_false, Nat.reduceEqDiff, ccells, Obt_some, Kn_normal, newL_eq, newP_eq, newA_eq, newM_eq, newR_eq, newK_eq, nmA_f, nmR_f, gn_var, gn_arr, gn_map, gnext_setL, lget_setL, lget_lset, gnext_lset, setL_setL, setL_H, Nat.reduceMul, Nat.reduceAdd, Nat.zero_add, fldA_ptr, fldA_rptr, List.drop_zero, ld1_l, ld1_r, ldA_l, rd1_var, rd1_arr, List.getElem?_cons_zero, List.getElem?_cons_succ, Obt_lss, Obt_leq, Obt_gtr, Obt_geq, Obt_eql, Obt_neq, Obt_not, gdO_tt, gdO_tf, gdO_ff, gdO_ft, gdO_skip, Option.map_some, pickX_t, pickX_f, Obt_pickS, Obt_gdT, Obt_gdF, Bool.not_true, Bool.not_false, lenS, Obt_map, Obt_add, Obt_sub, Obt_mul, Obt_quo, Obt_rem, Obt_and, Obt_or, Obt_xor, Obt_andNot, Obt_shl, Obt_shr, Obt_neg, Obt_cpl, Obt_conv, Obt_ext, Obt_bind, Obt_ite', appX_l, appX_n, appR_arr, appN_some, content_l, conR_arr, content_nil, clen_n, clen_r, idxS_ref, fillX, bslX, escP_list, List.all_append, stX_l, stV_var, stV_arr, splice, List.take_zero, List.take_succ_cons, List.drop_succ_cons, List.drop_nil, List.nil_append, List.cons_append, List.append_nil, List.length_cons, List.length_nil, Nat.reduceLeDiff, and_self, and_true, true_and, Nat.le_refl, Nat.zero_le, rdA_var, rdA_arr, escP, List.all_cons, List.all_nil, Bool.and_self, Bool.true_and, Bool.and_true, r10, tend, tresAll, tresC, Option.bind_some, mapMem, retv_agc, esc_i, esc_b, esc_n, esc_m, esc_s, retv_l, retR_arr, retv_gref, retv_gmap, retv_gptr, Nat.zero_sub, Nat.sub_self, retv_int, retv_bool, retv_nil, retv_imm, retv_inil, retv_pnil, tup_nil, tup_one, tup_two, Prod.mk.injEq, CV.int.injEq, CV.bool.injEq, hML]))
    | (revert hK; intro hK; (first | refine And.intro ?_ ?_ | intro _ | omega | (with_reducible refine hK _ ?_; clear hK K))))
    rw [List.append_nil] at h3
    have hcr : c = reachL g := by
      refine List.ext_getElem? fun j => ?_
      by_cases hj : j < g.length
      · rw [hc2 j hj, reachL, List.getElem?_map, List.getElem?_range hj, h3]; rfl
      · rw [List.getElem?_eq_none (by omega), List.getElem?_eq_none (by simp [reachL]; omega)]
    have hrl : (reachL g).length = g.length := by simp [reachL]
    rw [hcr]
    rw [ownN, hrl, List.take_of_length_le (by rw [flat_len boolC_len, hrl]; omega)]
  | cons a t =>
    simp only [List.length_cons] at hlen
    have hal : (ord g)[d.length]? = some a := by rw [h3]; simp
    have har := ((mem_ord g a).1 (List.mem_of_getElem? hal)).range
    obtain ⟨p, hp1, hp2⟩ := h2.at hal (k := .i64)
    have hw : IntKind.i64.wrap ((d.length : Int) + 1) = d.length + 1 := wI (by omega) (by omega)
    have hi : idxS 1 (.ref (.l 128) gn 0 g.length) (.int .i64 a) = some (.ptr (.l 128) gn a.toNat) := by
      rw [idxS_ref, if_pos ⟨har.1, by omega⟩]; simp
    have hs : stX 1 ⟨ML, T⟩ (.ptr (.l 128) gn a.toNat) (.bool true) = some ⟨lset ML 128 (.arr gn 1 ((c.set a.toNat true).flatMap boolC) 0), T⟩ := by
      rw [stX_one_l (by exact hML) (by rw [len_bool]; omega) rfl rfl, set_bool]; rfl
    simp only [c10l0]
    repeat' (first
    | with_reducible refine Tx_nopK ?_
    | with_reducible refine Tx_yesK rfl ?_
    | with_reducible refine Tx_blockK (id := 1) (fun Q1 hn1 hx1 hr1 ho1 => ?_)
    | with_reducible refine hn1 _ ?_
    | (((first | with_reducible refine Tx_regK (fun K hK => ?_) | with_reducible refine Tx_regE (fun K hK => ?_)); (first | with_reducible refine t10r3 ?_ | with_reducible refine t10r4 ?_ | with_reducible refine t10r5 ?_ | with_reducible refine t10r6 ?_)); (try simp only [true_implies, false_implies, not_true_eq_false, not_false_eq_true, tget_cons, if_true, if_false, Nat.reduceEqDiff, ccells, Obt_some, Kn_normal, newL_eq, newP_eq, newA_eq, newM_eq, newR_eq, newK_eq, nmA_f, nmR_f, gn_var, gn_arr, gn_map, gnext_setL, lget_setL, lget_lset, gnext_lset, setL_setL, setL_H, Nat.reduceMul, Nat.reduceAdd, Nat.zero_add, fldA_ptr, fldA_rptr, List.drop_zero, ld1_l, ld1_r, ldA_l, rd1_var, rd1_arr, List.getElem?_cons_zero, List.getElem?_cons_succ, Obt_lss, Obt_leq, Obt_gtr, Obt_geq, Obt_eql, Obt_neq, Obt_not, gdO_tt, gdO_tf, gdO_ff, gdO_ft, gdO_skip, Option.map_some, pickX_t, pickX_f, Obt_pickS, Obt_gdT, Obt_gdF, Bool.not_true, Bool.not_false, lenS, Obt_map, Obt_add, Obt_sub, Obt_mul, Obt_quo, Obt_rem, Obt_and, Obt_or, Obt_xor, Obt_andNot, Obt_shl, Obt_shr, Obt_neg, Obt_cpl, Obt_conv, Obt_ext, Obt_bind, Obt_ite', appX_l, appX_n, appR_arr, appN_some, content_l, conR_arr, content_nil, clen_n, clen_r, idxS_ref, fillX, bslX, escP_list, List.all_append, stX_l, stV_var, stV_arr, splice, List.take_zero, List.take_succ_cons, List.drop_succ_cons, List.drop_nil, List.nil_append, List.cons_append, List.append_nil, List.length_cons, List.length_nil, Nat.reduceLeDiff, and_self, and_true, true_and, Nat.le_refl, Nat.zero_le, rdA_var, rdA_arr, escP, List.all_cons, List.all_nil, Bool.and_self, Bool.true_and, Bool.and_true, r10, tend, tresAll, tresC, Option.bind_some, mapMem, retv_agc, esc_i, esc_b, esc_n, esc_m, esc_s, retv_l, retR_arr, retv_gref, retv_gmap, retv_gptr, Nat.zero_sub, Nat.sub_self, retv_int, retv_bool, retv_nil, retv_imm, retv_inil, retv_pnil, tup_nil, tup_one, tup_two, Prod.mk.injEq, CV.int.injEq, CV.bool.injEq, hp1, hp2, hi, hs, hw]))
    | (revert hK; intro hK; (first | refine And.intro ?_ ?_ | intro _ | omega | (with_reducible refine hK _ ?_; clear hK K))))
    refine hnL0 t.length _ (by simp) ⟨d ++ [a], t, c.set a.toNat true, gn, lset ML 128 (.arr gn 1 ((c.set a.toNat true).flatMap boolC) 0), by simp [h3], rfl, by simp [hc1], fun j hj => ?_, by simp, by rw [lget_lset, if_pos rfl]⟩
    rw [List.getElem?_set]
    by_cases hja : a.toNat = j
    · rw [if_pos hja, if_pos (by omega)]
      have : (j : Int) = a := by omega
      simp [this]
    · rw [if_neg hja, hc2 j hj]
      have : ¬ (j : Int) = a := by omega
      simp [this]
end Go.Cm
