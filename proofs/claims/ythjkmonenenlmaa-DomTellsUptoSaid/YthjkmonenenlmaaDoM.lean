/-
  Graphs: in which order nodes stand, by the document.
-/
import Derived.Test.YthjkmonenenlmaaDoV
import Derived.Test.YthjkmonenenlmaaDoW
import Derived.Test.YthjkmonenenlmaaDoG
import Derived.Test.YthjkmonenenlmaaDoH
import Derived.Test.YthjkmonenenlmaaDoK
import Derived.Test.YthjkmonenenlmaaDoS
set_option linter.unusedSimpArgs false
set_option linter.unusedVariables false
namespace Go.Cm
open Go.Proofs Go.Gr
theorem seenL_none {g : List (List Int)} : seenL g [] = List.replicate g.length false := by
  refine List.ext_getElem? fun j => ?_
  by_cases hj : j < g.length
  · simp [seenL, hj]
  · rw [List.getElem?_eq_none (by rw [seenL_len]; omega), List.getElem?_eq_none (by simp; omega)]
theorem visI_ord (g : List (List Int)) : (visI g (g.length + 1) ([], []) 0).2 = (ord g).reverse := by
  by_cases h0 : g = []
  · subst h0; simp [visI, ord]
  · have hlen : 0 < g.length := List.length_pos_iff.2 h0
    rw [visI, if_pos ⟨Int.le_refl _, by omega⟩]
    simp [ord, h0]
theorem x20 (g : List (List Int)) (hg : Sm g) (gv : CV) (hgv : IsRows gv g) : ∃ r, (∃ H', r = (ownC intC 1 (ord g), H')) ∧ FF 20 [gv] [] = some r := by
  obtain ⟨gcs, rfl, _⟩ := hgv.ex
  have hgl := hg.1
  have hol := ord_len g
  have hmk := fun m => mkX_g (j := 144) (sz := 1) (b := 1) (z := [.bool false]) (k := .i64) (n := g.length) (m := m) rfl (by omega) (by omega)
  obtain ⟨N, hN⟩ : ∃ N, N = (ord g).reverse := ⟨_, rfl⟩
  have hNl : N.length = (ord g).length := by rw [hN, List.length_reverse]
  have hbox : boxG (.agg [.imm g.length gcs, .ref (.g 0) 1 0 g.length, .nil]) ⟨[], [.arr 1 1 ((List.replicate g.length false).flatMap boolC) 0]⟩ = some (.ptr (.g 1) 1 0, ⟨[], wE (.imm g.length gcs) g [] []⟩) := by
    have : escList ⟨[], [.arr 1 1 ((List.replicate g.length false).flatMap boolC) 0]⟩ [.imm g.length gcs, .ref (.g 0) 1 0 g.length, .nil] = some ([.imm g.length gcs, .ref (.g 0) 1 0 g.length, .nil], ⟨[], [.arr 1 1 ((List.replicate g.length false).flatMap boolC) 0]⟩) := escP_list (by simp only [List.all_cons, List.all_nil, hgv.esc]; rfl)
    simp only [boxG, ccells, this, Option.map_some, wE, seenL_none]
    rfl
  obtain ⟨M, hM⟩ : ∃ M, M = (visI g (g.length + 1) ([], []) 0).1 := ⟨_, rfl⟩
  have hvis := x31 g hg _ hgv (g.length + 1) 0 [] [] (by have := unmet_all g; omega) (by rw [visI_ord, ← hN, hNl]; omega)
  rw [visI_ord, ← hN, ← hM] at hvis
  have hc : callC An FF 20 (some 13) 31 [.ptr (.g 1) 1 0, .int .i64 0] ⟨[], wE (.imm g.length gcs) g [] []⟩ = some (.tuple [], ⟨[], wE (.imm g.length gcs) g M N⟩) := by
    rw [callC_I rfl rfl hvis, adopt_tuple rfl]
  have hnl : nilX (.ptr (.g 1) 1 0) = some (.ptr (.g 1) 1 0) := rfl
  have hf2 : fldA 2 (.ptr (.g 1) 1 0) = some (.ptr (.g 1) 1 2) := rfl
  have hd2 : ∀ L m l, ld1 ⟨L, wE (.imm g.length gcs) g m l⟩ (.ptr (.g 1) 1 2) = some (leftW l) := fun _ _ _ => rfl
  have hlw : clen (leftW N) = some N.length := by
    unfold leftW
    split
    · rename_i h; rw [h]; rfl
    · rfl
  have hwl : IntKind.i64.wrap ((N.length : Int) - 1) = (N.length : Int) - 1 := wI (by omega) (by omega)
  have hfill : fillX [.nil, .nil, .nil] [(0, 1, .imm g.length gcs), (1, 1, .ref (.g 0) 1 0 g.length)] = some [.imm g.length gcs, .ref (.g 0) 1 0 g.length, .nil] := by
    simp only [fillX, hgv.cells]; rfl
  refine Fw_funE rfl Try.func20 s20 (Nat.le_of_ble_eq_true rfl) (fun Q hqr hqn => ?_)
  simp only [tinit, Nat.reduceAdd, c20]
  repeat' (first
  | with_reducible refine Tx_assoc ?_
  | with_reducible refine Tx_blockK (id := 0) (fun Q0 hn0 hx0 hr0 ho0 => ?_)
  | ((with_reducible refine Tx_regK (fun K hK => ?_); (first | with_reducible refine t20r0 ?_ | with_reducible refine t20r1 ?_ | with_reducible refine t20r2 ?_ | with_reducible refine t20r3 ?_ | with_reducible refine t20r4 ?_)); (try simp only [true_implies, false_implies, not_true_eq_false, not_false_eq_true, tget_cons, if_true, if_false, Nat.reduceEqDiff, ccells, Obt_some, Kn_normal, newL_eq, newP_eq, newA_eq, newM_eq, newR_eq, newK_eq, nmA_f, nmR_f, gn_var, gn_arr, gn_map, gnext_setL, lget_setL, lget_lset, gnext_lset, setL_setL, setL_H, Nat.reduceMul, Nat.reduceAdd, Nat.zero_add, fldA_ptr, fldA_rptr, List.drop_zero, ld1_l, ld1_r, ldA_l, rd1_var, rd1_arr, List.getElem?_cons_zero, List.getElem?_cons_succ, Obt_lss, Obt_leq, Obt_gtr, Obt_geq, Obt_eql, Obt_neq, Obt_not, gdO_tt, gdO_tf, gdO_ff, gdO_ft, gdO_skip, Option.map_some, pickX_t, pickX_f, Obt_pickS, Obt_gdT, Obt_gdF, Bool.not_true, Bool.not_false, lenS, Obt_map, Obt_add, Obt_sub, Obt_mul, Obt_quo, Obt_rem, Obt_and, Obt_or, Obt_xor, Obt_andNot, Obt_shl, Obt_shr, Obt_neg, Obt_cpl, Obt_conv, Obt_ext, Obt_bind, Obt_ite', appX_l, appX_n, appR_arr, appN_some, content_l, conR_arr, content_nil, clen_n, clen_r, idxS_ref, fillX, bslX, escP_list, List.all_append, stX_l, stV_var, stV_arr, splice, List.take_zero, List.take_succ_cons, List.drop_succ_cons, List.drop_nil, List.nil_append, List.cons_append, List.append_nil, List.length_cons, List.length_nil, Nat.reduceLeDiff, and_self, and_true, true_and, Nat.le_refl, Nat.zero_le, rdA_var, rdA_arr, escP, List.all_cons, List.all_nil, Bool.and_self, Bool.true_and, Bool.and_true, r20, tend, tresAll, tresC, Option.bind_some, mapMem, retv_agc, esc_i, esc_b, esc_n, esc_m, esc_s, retv_l, retR_arr, retv_gref, retv_gmap, retv_gptr, Nat.zero_sub, Nat.sub_self, retv_int, retv_bool, retv_nil, retv_imm, retv_inil, retv_pnil, tup_nil, tup_one, tup_two, Prod.mk.injEq, CV.int.injEq, CV.bool.injEq, hgv.len, hmk, reps_bool, hfill, hbox, hc, hnl, hf2, hd2, hlw, hwl]))
  | (revert hK; intro hK; (with_reducible refine hK _ ?_; clear hK K)))
  refine Tx_loopK (fun k s => ∃ (d t : List Int) (v : CV) (L : List (Nat × HO)), N = d ++ t ∧ k = d.length ∧ s = ⟨[(3, .ptr (.g 1) 1 0), (4, v), (5, .int .i64 ((d.length : Int) - 1))], ⟨L, wE (.imm g.length gcs) g M N⟩⟩ ∧
    OwnE intC 1 ⟨L, wE (.imm g.length gcs) g M N⟩ 528 v t.reverse) _ ⟨N, [], .nil, _, by simp, rfl, rfl, .nil⟩ ?_
  rintro k s ⟨d, t, v, L, h3, rfl, rfl, hO⟩ QL0 hnL0 hxL0 hrL0
  simp only [c20l0]
  have hlen := congrArg List.length h3
  simp only [List.length_append] at hlen
  rcases List.eq_nil_or_concat d with hd | ⟨d, x, hd⟩
  · subst hd
    have ho : t.reverse = ord g := by
      rw [List.nil_append] at h3
      rw [← h3, hN, List.reverse_reverse]
    rw [ho] at hO
    repeat' (first
    | with_reducible refine Tx_assoc ?_
    | with_reducible refine Tx_noK rfl ?_
    | with_reducible refine Tx_exitK ?_
    | with_reducible refine Tx_ret ?_
    | with_reducible refine hx0 _ ?_
    | with_reducible refine hxL0 _ _ ?_
    | ((first | (with_reducible refine Tx_regK (fun K hK => ?_); (first | with_reducible refine t20r5 ?_ | with_reducible refine t20r8 ?_)) | with_reducible refine hqr _ ?_); (try simp only [true_implies, false_implies, not_true_eq_false, not_false_eq_true, tget_cons, if_true, if_false, Nat.reduceEqDiff, ccells, Obt_some, Kn_normal, newL_eq, newP_eq, newA_eq, newM_eq, newR_eq, newK_eq, nmA_f, nmR_f, gn_var, gn_arr, gn_map, gnext_setL, lget_setL, lget_lset, gnext_lset, setL_setL, setL_H, Nat.reduceMul, Nat.reduceAdd, Nat.zero_add, fldA_ptr, fldA_rptr, List.drop_zero, ld1_l, ld1_r, ldA_l, rd1_var, rd1_arr, List.getElem?_cons_zero, List.getElem?_cons_succ, Obt_lss, Obt_leq, Obt_gtr, Obt_geq, Obt_eql, Obt_neq, Obt_not, gdO_tt, gdO_tf, gdO_ff, gdO_ft, gdO_skip, Option.map_some, pickX_t, pickX_f, Obt_pickS, Obt_gdT, Obt_gdF, Bool.not_true, Bool.not_false, lenS, Obt_map, Obt_add, Obt_sub, Obt_mul, Obt_quo, Obt_rem, Obt_and, Obt_or, Obt_xor, Obt_andNot, Obt_shl, Obt_shr, Obt_neg, Obt_cpl, Obt_conv, Obt_ext, Obt_bind, Obt_ite', appX_l, appX_n, appR_arr, appN_some, content_l, conR_arr, content_nil, clen_n, clen_r, idxS_ref, fillX, bslX, escP_list, List.all_append, stX_l, stV_var, stV_arr, splice, List.take_zero, List.take_succ_cons, List.drop_succ_cons, List.drop_nil, List.nil_append, List.cons_append, List.append_nil, List.length_cons, List.length_nil, Nat.reduceLeDiff, and_self, and_true, true_and, Nat.le_refl, Nat.zero_le, rdA_var, rdA_arr, escP, List.all_cons, List.all_nil, Bool.and_self, Bool.true_and, Bool.and_true, r20, tend, tresAll, tresC, Option.bind_some, mapMem, retv_agc, esc_i, esc_b, esc_n, esc_m, esc_s, retv_l, retR_arr, retv_gref, retv_gmap, retv_gptr, Nat.zero_sub, Nat.sub_self, retv_int, retv_bool, retv_nil, retv_imm, retv_inil, retv_pnil, tup_nil, tup_one, tup_two, Prod.mk.injEq, CV.int.injEq, CV.bool.injEq, List.length_nil]))
    | (revert hK; intro hK; (first | refine And.intro ?_ ?_ | intro _ | omega | (with_reducible refine hK _ ?_; clear hK K))))
    refine hO.ret intC_len fun m' hm' => ?_
    simp only [tup_one, Option.map_some, Obt_some]
    first | exact ⟨_, trivial, rfl⟩ | simp
  · rw [List.concat_eq_append] at hd
    subst hd
    simp only [List.length_append, List.length_singleton] at hlen
    have hn : (((d ++ [x]).length : Nat) : Int) - 1 = d.length := by simp
    have hnn : (0 : Int) ≤ d.length := by omega
    have hw : IntKind.i64.wrap ((d.length : Int) - 1) = (d.length : Int) - 1 := wI (by omega) (by omega)
    have hN0 : N ≠ [] := by rw [h3]; simp
    have hlv : leftW N = .ref (.g 2) N.length 0 N.length := by simp only [leftW, hN0, if_false]
    have hi : idxS 1 (leftW N) (.int .i64 d.length) = some (.ptr (.g 2) N.length d.length) := by
      rw [hlv, idxS_ref, if_pos ⟨by omega, by omega⟩]; simp
    have hld : ∀ L, ld1 ⟨L, wE (.imm g.length gcs) g M N⟩ (.ptr (.g 2) N.length d.length) = some (.int .i64 x) := fun L => by
      have e5 : (wE (.imm g.length gcs) g M N)[2]? = some (.arr N.length 1 (N.flatMap intC) 0) := by
        simp only [wE, leftH, hN0, if_false, List.getElem?_cons_succ, List.getElem?_cons_zero]
      have : N[d.length]? = some x := by rw [h3]; simp
      rw [ld1_g]; simp only [e5, rd1_arr, flat_int, this]; rfl
    rw [hn]
    repeat' (first
    | with_reducible refine Tx_assoc ?_
    | with_reducible refine Tx_nopK ?_
    | with_reducible refine Tx_yesK rfl ?_
    | with_reducible refine Tx_blockK (id := 1) (fun Q1 hn1 hx1 hr1 ho1 => ?_)
    | (((first | with_reducible refine Tx_regK (fun K hK => ?_) | with_reducible refine Tx_regE (fun K hK => ?_)); (first | with_reducible refine t20r5 ?_ | with_reducible refine t20r7 ?_)); (try simp only [true_implies, false_implies, not_true_eq_false, not_false_eq_true, tget_cons, if_true, if_false, Nat.reduceEqDiff, ccells, Obt_some, Kn_normal, newL_eq, newP_eq, newA_eq, newM_eq, newR_eq, newK_eq, nmA_f, nmR_f, gn_var, gn_arr, gn_map, gnext_setL, lget_setL, lget_lset, gnext_lset, setL_setL, setL_H, Nat.reduceMul, Nat.reduceAdd, Nat.zero_add, fldA_ptr, fldA_rptr, List.drop_zero, ld1_l, ld1_r, ldA_l, rd1_var, rd1_arr, List.getElem?_cons_zero, List.getElem?_cons_succ, Obt_lss, Obt_leq, Obt_gtr, Obt_geq, Obt_eql, Obt_neq, Obt_not, gdO_tt, gdO_tf, gdO_ff, gdO_ft, gdO_skip, Option.map_some, pickX_t, pickX_f, Obt_pickS, Obt_gdT, Obt_gdF, Bool.not_true, Bool.not_false, lenS, Obt_map, Obt_add, Obt_sub, Obt_mul, Obt_quo, Obt_rem, Obt_and, Obt_or, Obt_xor, Obt_andNot, Obt_shl, Obt_shr, Obt_neg, Obt_cpl, Obt_conv, Obt_ext, Obt_bind, Obt_ite', appX_l, appX_n, appR_arr, appN_some, content_l, conR_arr, content_nil, clen_n, clen_r, idxS_ref, fillX, bslX, escP_list, List.all_append, stX_l, stV_var, stV_arr, splice, List.take_zero, List.take_succ_cons, List.drop_succ_cons, List.drop_nil, List.nil_append, List.cons_append, List.append_nil, List.length_cons, List.length_nil, Nat.reduceLeDiff, and_self, and_true, true_and, Nat.le_refl, Nat.zero_le, rdA_var, rdA_arr, escP, List.all_cons, List.all_nil, Bool.and_self, Bool.true_and, Bool.and_true, r20, tend, tresAll, tresC, Option.bind_some, mapMem, retv_agc, esc_i, esc_b, esc_n, esc_m, esc_s, retv_l, retR_arr, retv_gref, retv_gmap, retv_gptr, Nat.zero_sub, Nat.sub_self, retv_int, retv_bool, retv_nil, retv_imm, retv_inil, retv_pnil, tup_nil, tup_one, tup_two, Prod.mk.injEq, CV.int.injEq, CV.bool.injEq, hnn, hnl, hf2, hd2, hi, hld]))
    | (revert hK; intro hK; (with_reducible refine hK _ ?_; clear hK K)))
    refine (hO.keepS (i := 512) (by decide)).app (ys := [x]) intC_len (by simp only [content_l, lget_setL, if_true, conR_arr]; rfl) rfl (by decide) (by simp only [List.length_cons, List.length_nil, List.length_reverse]; omega) fun v' m' hO' hH' hf => ?_
    refine hK _ ?_
    clear hK K
    obtain ⟨L2, H2⟩ := m'
    simp only at hH'
    subst hH'
    repeat' (first
    | with_reducible refine hn1 _ ?_
    | ((with_reducible refine Tx_regE (fun K hK => ?_); with_reducible refine t20r6 ?_); (try simp only [true_implies, false_implies, not_true_eq_false, not_false_eq_true, tget_cons, if_true, if_false, Nat.reduceEqDiff, ccells, Obt_some, Kn_normal, newL_eq, newP_eq, newA_eq, newM_eq, newR_eq, newK_eq, nmA_f, nmR_f, gn_var, gn_arr, gn_map, gnext_setL, lget_setL, lget_lset, gnext_lset, setL_setL, setL_H, Nat.reduceMul, Nat.reduceAdd, Nat.zero_add, fldA_ptr, fldA_rptr, List.drop_zero, ld1_l, ld1_r, ldA_l, rd1_var, rd1_arr, List.getElem?_cons_zero, List.getElem?_cons_succ, Obt_lss, Obt_leq, Obt_gtr, Obt_geq, Obt_eql, Obt_neq, Obt_not, gdO_tt, gdO_tf, gdO_ff, gdO_ft, gdO_skip, Option.map_some, pickX_t, pickX_f, Obt_pickS, Obt_gdT, Obt_gdF, Bool.not_true, Bool.not_false, lenS, Obt_map, Obt_add, Obt_sub, Obt_mul, Obt_quo, Obt_rem, Obt_and, Obt_or, Obt_xor, Obt_andNot, Obt_shl, Obt_shr, Obt_neg, Obt_cpl, Obt_conv, Obt_ext, Obt_bind, Obt_ite', appX_l, appX_n, appR_arr, appN_some, content_l, conR_arr, content_nil, clen_n, clen_r, idxS_ref, fillX, bslX, escP_list, List.all_append, stX_l, stV_var, stV_arr, splice, List.take_zero, List.take_succ_cons, List.drop_succ_cons, List.drop_nil, List.nil_append, List.cons_append, List.append_nil, List.length_cons, List.length_nil, Nat.reduceLeDiff, and_self, and_true, true_and, Nat.le_refl, Nat.zero_le, rdA_var, rdA_arr, escP, List.all_cons, List.all_nil, Bool.and_self, Bool.true_and, Bool.and_true, r20, tend, tresAll, tresC, Option.bind_some, mapMem, retv_agc, esc_i, esc_b, esc_n, esc_m, esc_s, retv_l, retR_arr, retv_gref, retv_gmap, retv_gptr, Nat.zero_sub, Nat.sub_self, retv_int, retv_bool, retv_nil, retv_imm, retv_inil, retv_pnil, tup_nil, tup_one, tup_two, Prod.mk.injEq, CV.int.injEq, CV.bool.injEq, hw]))
    | (revert hK; intro hK; (with_reducible refine hK _ ?_; clear hK K)))
    refine hnL0 d.length _ (by simp) ⟨d, x :: t, v', L2, by simp [h3], rfl, rfl, ?_⟩
    simp only [List.reverse_cons]
    exact hO'
/-- two rows, the same? -/
theorem x15 (H : List HO) (va vb : CV) (a b : List Int) (ha : RdI H va a) (hb : RdI H vb b) (hal : a.length ≤ 4294967296) : FF 15 [va, vb] H = some (.bool (decide (a = b)), H) := by
  refine Fw_funK rfl Try.func15 s15 (Nat.le_of_ble_eq_true rfl) (fun Q hqr hqn => ?_)
  simp only [tinit, Nat.reduceAdd, c15]
  by_cases hl : a.length = b.length
  · have hlb : clen vb = some a.length := by rw [hb.len, hl]
    repeat' (first
    | with_reducible refine Tx_assoc ?_
    | with_reducible refine Tx_nopK ?_
    | with_reducible refine Tx_noK rfl ?_
    | with_reducible refine Tx_blockK (id := 0) (fun Q0 hn0 hx0 hr0 ho0 => ?_)
    | ((with_reducible refine Tx_regK (fun K hK => ?_); (first | with_reducible refine t15r0 ?_ | with_reducible refine t15r1 ?_ | with_reducible refine t15r3 ?_)); (try simp only [true_implies, false_implies, not_true_eq_false, not_false_eq_true, tget_cons, if_true, if_false, Nat.reduceEqDiff, ccells, Obt_some, Kn_normal, newL_eq, newP_eq, newA_eq, newM_eq, newR_eq, newK_eq, nmA_f, nmR_f, gn_var, gn_arr, gn_map, gnext_setL, lget_setL, lget_lset, gnext_lset, setL_setL, setL_H, Nat.reduceMul, Nat.reduceAdd, Nat.zero_add, fldA_ptr, fldA_rptr, List.drop_zero, ld1_l, ld1_r, ldA_l, rd1_var, rd1_arr, List.getElem?_cons_zero, List.getElem?_cons_succ, Obt_lss, Obt_leq, Obt_gtr, Obt_geq, Obt_eql, Obt_neq, Obt_not, gdO_tt, gdO_tf, gdO_ff, gdO_ft, gdO_skip, Option.map_some, pickX_t, pickX_f, Obt_pickS, Obt_gdT, Obt_gdF, Bool.not_true, Bool.not_false, lenS, Obt_map, Obt_add, Obt_sub, Obt_mul, Obt_quo, Obt_rem, Obt_and, Obt_or, Obt_xor, Obt_andNot, Obt_shl, Obt_shr, Obt_neg, Obt_cpl, Obt_conv, Obt_ext, Obt_bind, Obt_ite', appX_l, appX_n, appR_arr, appN_some, content_l, conR_arr, content_nil, clen_n, clen_r, idxS_ref, fillX, bslX, escP_list, List.all_append, stX_l, stV_var, stV_arr, splice, List.take_zero, List.take_succ_cons, List.drop_succ_cons, List.drop_nil, List.nil_append, List.cons_append, List.append_nil, List.length_cons, List.length_nil, Nat.reduceLeDiff, and_self, and_true, true_and, Nat.le_refl, Nat.zero_le, rdA_var, rdA_arr, escP, List.all_cons, List.all_nil, Bool.and_self, Bool.true_and, Bool.and_true, r15, tend, tresAll, tresC, Option.bind_some, mapMem, retv_agc, esc_i, esc_b, esc_n, esc_m, esc_s, retv_l, retR_arr, retv_gref, retv_gmap, retv_gptr, Nat.zero_sub, Nat.sub_self, retv_int, retv_bool, retv_nil, retv_imm, retv_inil, retv_pnil, tup_nil, tup_one, tup_two, Prod.mk.injEq, CV.int.injEq, CV.bool.injEq, ha.len, hlb]))
    | (revert hK; intro hK; (with_reducible refine hK _ ?_; clear hK K)))
    refine Tx_loopK (fun k s => ∃ (i : Nat) (L : List (Nat × HO)), i ≤ a.length ∧ a.take i = b.take i ∧ k = a.length - i ∧ s = ⟨[(0, va), (1, vb), (5, .int .i64 i)], ⟨L, H⟩⟩) _ ⟨0, _, Nat.zero_le _, rfl, rfl, rfl⟩ ?_
    rintro k s ⟨i, L, hi, hp, rfl, rfl⟩ QL0 hnL0 hxL0 hrL0
    simp only [c15l0]
    by_cases hig : i = a.length
    · subst hig
      have he : a = b := by rw [List.take_of_length_le (Nat.le_refl _), List.take_of_length_le (by omega)] at hp; exact hp
      repeat' (first
      | with_reducible refine Tx_assoc ?_
      | with_reducible refine Tx_noK rfl ?_
      | with_reducible refine Tx_exitK ?_
      | with_reducible refine Tx_ret ?_
      | with_reducible refine hx0 _ ?_
      | with_reducible refine hxL0 _ _ ?_
      | ((first | (with_reducible refine Tx_regK (fun K hK => ?_); (first | with_reducible refine t15r4 ?_ | with_reducible refine t15r8 ?_)) | with_reducible refine hqr _ ?_); (try simp only [true_implies, false_implies, not_true_eq_false, not_false_eq_true, tget_cons, if_true, if_false, Nat.reduceEqDiff, ccells, Obt_some, Kn_normal, newL_eq, newP_eq, newA_eq, newM_eq, newR_eq, newK_eq, nmA_f, nmR_f, gn_var, gn_arr, gn_map, gnext_setL, lget_setL, lget_lset, gnext_lset, setL_setL, setL_H, Nat.reduceMul, Nat.reduceAdd, Nat.zero_add, fldA_ptr, fldA_rptr, List.drop_zero, ld1_l, ld1_r, ldA_l, rd1_var, rd1_arr, List.getElem?_cons_zero, List.getElem?_cons_succ, Obt_lss, Obt_leq, Obt_gtr, Obt_geq, Obt_eql, Obt_neq, Obt_not, gdO_tt, gdO_tf, gdO_ff, gdO_ft, gdO_skip, Option.map_some, pickX_t, pickX_f, Obt_pickS, Obt_gdT, Obt_gdF, Bool.not_true, Bool.not_false, lenS, Obt_map, Obt_add, Obt_sub, Obt_mul, Obt_quo, Obt_rem, Obt_and, Obt_or, Obt_xor, Obt_andNot, Obt_shl, Obt_shr, Obt_neg, Obt_cpl, Obt_conv, Obt_ext, Obt_bind, Obt_ite', appX_l, appX_n, appR_arr, appN_some, content_l, conR_arr, content_nil, clen_n, clen_r, idxS_ref, fillX, bslX, escP_list, List.all_append, stX_l, stV_var, stV_arr, splice, List.take_zero, List.take_succ_cons, List.drop_succ_cons, List.drop_nil, List.nil_append, List.cons_append, List.append_nil, List.length_cons, List.length_nil, Nat.reduceLeDiff, and_self, and_true, true_and, Nat.le_refl, Nat.zero_le, rdA_var, rdA_arr, escP, List.all_cons, List.all_nil, Bool.and_self, Bool.true_and, Bool.and_true, r15, tend, tresAll, tresC, Option.bind_some, mapMem, retv_agc, esc_i, esc_b, esc_n, esc_m, esc_s, retv_l, retR_arr, retv_gref, retv_gmap, retv_gptr, Nat.zero_sub, Nat.sub_self, retv_int, retv_bool, retv_nil, retv_imm, retv_inil, retv_pnil, tup_nil, tup_one, tup_two, Prod.mk.injEq, CV.int.injEq, CV.bool.injEq, ha.len]))
      | (revert hK; intro hK; (first | refine And.intro ?_ ?_ | intro _ | omega | (with_reducible refine hK _ ?_; clear hK K))))
      simp [he]
    · have hia : (i : Int) < a.length := by omega
      have ga : a[i]? = some a[i] := List.getElem?_eq_getElem (by omega)
      have gb : b[i]? = some b[i] := List.getElem?_eq_getElem (by omega)
      obtain ⟨p, hp1, hp2⟩ := ha.at ga (k := .i64)
      obtain ⟨q, hq1, hq2⟩ := hb.at gb (k := .i64)
      have hw : IntKind.i64.wrap ((i : Int) + 1) = ((i + 1 : Nat) : Int) := by rw [wI (by omega) (by omega)]; rfl
      by_cases he : a[i] = b[i]
      · repeat' (first
        | with_reducible refine Tx_assoc ?_
        | with_reducible refine Tx_nopK ?_
        | with_reducible refine Tx_yesK rfl ?_
        | with_reducible refine Tx_no rfl ?_
        | with_reducible refine Tx_nop ?_
        | with_reducible refine Tx_blockK (id := 1) (fun Q1 hn1 hx1 hr1 ho1 => ?_)
        | with_reducible refine hn1 _ ?_
        | (((first | with_reducible refine Tx_regK (fun K hK => ?_) | with_reducible refine Tx_regE (fun K hK => ?_)); (first | with_reducible refine t15r4 ?_ | with_reducible refine t15r6 ?_ | with_reducible refine t15r5 ?_)); (try simp only [true_implies, false_implies, not_true_eq_false, not_false_eq_true, tget_cons, if_true, if_false, Nat.reduceEqDiff, ccells, Obt_some, Kn_normal, newL_eq, newP_eq, newA_eq, newM_eq, newR_eq, newK_eq, nmA_f, nmR_f, gn_var, gn_arr, gn_map, gnext_setL, lget_setL, lget_lset, gnext_lset, setL_setL, setL_H, Nat.reduceMul, Nat.reduceAdd, Nat.zero_add, fldA_ptr, fldA_rptr, List.drop_zero, ld1_l, ld1_r, ldA_l, rd1_var, rd1_arr, List.getElem?_cons_zero, List.getElem?_cons_succ, Obt_lss, Obt_leq, Obt_gtr, Obt_geq, Obt_eql, Obt_neq, Obt_not, gdO_tt, gdO_tf, gdO_ff, gdO_ft, gdO_skip, Option.map_some, pickX_t, pickX_f, Obt_pickS, Obt_gdT, Obt_gdF, Bool.not_true, Bool.not_false, lenS, Obt_map, Obt_add, Obt_sub, Obt_mul, Obt_quo, Obt_rem, Obt_and, Obt_or, Obt_xor, Obt_andNot, Obt_shl, Obt_shr, Obt_neg, Obt_cpl, Obt_conv, Obt_ext, Obt_bind, Obt_ite', appX_l, appX_n, appR_arr, appN_some, content_l, conR_arr, content_nil, clen_n, clen_r, idxS_ref, fillX, bslX, escP_list, List.all_append, stX_l, stV_var, stV_arr, splice, List.take_zero, List.take_succ_cons, List.drop_succ_cons, List.drop_nil, List.nil_append, List.cons_append, List.append_nil, List.length_cons, List.length_nil, Nat.reduceLeDiff, and_self, and_true, true_and, Nat.le_refl, Nat.zero_le, rdA_var, rdA_arr, escP, List.all_cons, List.all_nil, Bool.and_self, Bool.true_and, Bool.and_true, r15, tend, tresAll, tresC, Option.bind_some, mapMem, retv_agc, esc_i, esc_b, esc_n, esc_m, esc_s, retv_l, retR_arr, retv_gref, retv_gmap, retv_gptr, Nat.zero_sub, Nat.sub_self, retv_int, retv_bool, retv_nil, retv_imm, retv_inil, retv_pnil, tup_nil, tup_one, tup_two, Prod.mk.injEq, CV.int.injEq, CV.bool.injEq, ha.len, hia, hp1, hp2, hq1, hq2, he, hw]))
        | (revert hK; intro hK; (with_reducible refine hK _ ?_; clear hK K)))
        refine hnL0 (a.length - (i + 1)) _ (by omega) ⟨i + 1, L, by omega, ?_, rfl, rfl⟩
        rw [List.take_add_one, List.take_add_one, hp, ga, gb, he]
      · have hne : a ≠ b := fun h => he (by subst h; rfl)
        repeat' (first
        | with_reducible refine Tx_assoc ?_
        | with_reducible refine Tx_nopK ?_
        | with_reducible refine Tx_yesK rfl ?_
        | with_reducible refine Tx_yes rfl ?_
        | with_reducible refine Tx_ret ?_
        | with_reducible refine hr0 _ ?_
        | with_reducible refine Tx_blockK (id := 1) (fun Q1 hn1 hx1 hr1 ho1 => ?_)
        | with_reducible refine hr1 _ ?_
        | with_reducible refine hrL0 _ ?_
        | ((first | (with_reducible refine Tx_regK (fun K hK => ?_); (first | with_reducible refine t15r4 ?_ | with_reducible refine t15r6 ?_ | with_reducible refine t15r7 ?_)) | with_reducible refine hqr _ ?_); (try simp only [true_implies, false_implies, not_true_eq_false, not_false_eq_true, tget_cons, if_true, if_false, Nat.reduceEqDiff, ccells, Obt_some, Kn_normal, newL_eq, newP_eq, newA_eq, newM_eq, newR_eq, newK_eq, nmA_f, nmR_f, gn_var, gn_arr, gn_map, gnext_setL, lget_setL, lget_lset, gnext_lset, setL_setL, setL_H, Nat.reduceMul, Nat.reduceAdd, Nat.zero_add, fldA_ptr, fldA_rptr, List.drop_zero, ld1_l, ld1_r, ldA_l, rd1_var, rd1_arr, List.getElem?_cons_zero, List.getElem?_cons_succ, Obt_lss, Obt_leq, Obt_gtr, Obt_geq, Obt_eql, Obt_neq, Obt_not, gdO_tt, gdO_tf, gdO_ff, gdO_ft, gdO_skip, Option.map_some, pickX_t, pickX_f, Obt_pickS, Obt_gdT, Obt_gdF, Bool.not_true, Bool.not_false, lenS, Obt_map, Obt_add, Obt_sub, Obt_mul, Obt_quo, Obt_rem, Obt_and, Obt_or, Obt_xor, Obt_andNot, Obt_shl, Obt_shr, Obt_neg, Obt_cpl, Obt_conv, Obt_ext, Obt_bind, Obt_ite', appX_l, appX_n, appR_arr, appN_some, content_l, conR_arr, content_nil, clen_n, clen_r, idxS_ref, fillX, bslX, escP_list, List.all_append, stX_l, stV_var, stV_arr, splice, List.take_zero, List.take_succ_cons, List.drop_succ_cons, List.drop_nil, List.nil_append, List.cons_append, List.append_nil, List.length_cons, List.length_nil, Nat.reduceLeDiff, and_self, and_true, true_and, Nat.le_refl, Nat.zero_le, rdA_var, rdA_arr, escP, List.all_cons, List.all_nil, Bool.and_self, Bool.true_and, Bool.and_true, r15, tend, tresAll, tresC, Option.bind_some, mapMem, retv_agc, esc_i, esc_b, esc_n, esc_m, esc_s, retv_l, retR_arr, retv_gref, retv_gmap, retv_gptr, Nat.zero_sub, Nat.sub_self, retv_int, retv_bool, retv_nil, retv_imm, retv_inil, retv_pnil, tup_nil, tup_one, tup_two, Prod.mk.injEq, CV.int.injEq, CV.bool.injEq, ha.len, hia, hp1, hp2, hq1, hq2, he, hw]))
        | (revert hK; intro hK; (with_reducible refine hK _ ?_; clear hK K)))
        simp [hne]
  · have hne : a ≠ b := fun h => hl (by rw [h])
    have hl2 : ¬ ((a.length : Int) = b.length) := by omega
    repeat' (first
    | with_reducible refine Tx_assoc ?_
    | with_reducible refine Tx_yesK rfl ?_
    | with_reducible refine Tx_retK ?_
    | ((first | (with_reducible refine Tx_regK (fun K hK => ?_); (first | with_reducible refine t15r0 ?_ | with_reducible refine t15r1 ?_ | with_reducible refine t15r2 ?_)) | with_reducible refine hqr _ ?_); (try simp only [true_implies, false_implies, not_true_eq_false, not_false_eq_true, tget_cons, if_true, if_false, Nat.reduceEqDiff, ccells, Obt_some, Kn_normal, newL_eq, newP_eq, newA_eq, newM_eq, newR_eq, newK_eq, nmA_f, nmR_f, gn_var, gn_arr, gn_map, gnext_setL, lget_setL, lget_lset, gnext_lset, setL_setL, setL_H, Nat.reduceMul, Nat.reduceAdd, Nat.zero_add, fldA_ptr, fldA_rptr, List.drop_zero, ld1_l, ld1_r, ldA_l, rd1_var, rd1_arr, List.getElem?_cons_zero, List.getElem?_cons_succ, Obt_lss, Obt_leq, Obt_gtr, Obt_geq, Obt_eql, Obt_neq, Obt_not, gdO_tt, gdO_tf, gdO_ff, gdO_ft, gdO_skip, Option.map_some, pickX_t, pickX_f, Obt_pickS, Obt_gdT, Obt_gdF, Bool.not_true, Bool.not_false, lenS, Obt_map, Obt_add, Obt_sub, Obt_mul, Obt_quo, Obt_rem, Obt_and, Obt_or, Obt_xor, Obt_andNot, Obt_shl, Obt_shr, Obt_neg, Obt_cpl, Obt_conv, Obt_ext, Obt_bind, Obt_ite', appX_l, appX_n, appR_arr, appN_some, content_l, conR_arr, content_nil, clen_n, clen_r, idxS_ref, fillX, bslX, escP_list, List.all_append, stX_l, stV_var, stV_arr, splice, List.take_zero, List.take_succ_cons, List.drop_succ_cons, List.drop_nil, List.nil_append, List.cons_append, List.append_nil, List.length_cons, List.length_nil, Nat.reduceLeDiff, and_self, and_true, true_and, Nat.le_refl, Nat.zero_le, rdA_var, rdA_arr, escP, List.all_cons, List.all_nil, Bool.and_self, Bool.true_and, Bool.and_true, r15, tend, tresAll, tresC, Option.bind_some, mapMem, retv_agc, esc_i, esc_b, esc_n, esc_m, esc_s, retv_l, retR_arr, retv_gref, retv_gmap, retv_gptr, Nat.zero_sub, Nat.sub_self, retv_int, retv_bool, retv_nil, retv_imm, retv_inil, retv_pnil, tup_nil, tup_one, tup_two, Prod.mk.injEq, CV.int.injEq, CV.bool.injEq, ha.len, hb.len, hl2]))
    | (revert hK; intro hK; (with_reducible refine hK _ ?_; clear hK K)))
    simp [hne]
theorem reach_av {g : List (List Int)} : avL g (-1) = reachL g := by
  have key : ∀ x, Av g (-1) x ↔ x ∈ ord g := by
    intro x
    rw [mem_ord]
    refine ⟨fun h => h.rch, fun h => ?_⟩
    induction h with
    | zero h => exact .zero h (by omega)
    | step hx h ih => exact .step ih h (by have := ins_range h; omega)
  unfold avL reachL
  refine List.map_congr_left fun i _ => ?_
  simp only [key]
theorem x18 (g : List (List Int)) (hg : Sm g) (ht : um g [] ≤ 17179869184) (gv : CV) (hgv : IsRows gv g) : ∃ r, (∃ H', r = (ownN boolC 1 (reachL g), H')) ∧ FF 18 [gv] [] = some r := by
  obtain ⟨_, ⟨H', rfl⟩, h⟩ := x27 g hg ht gv hgv (-1)
  rw [reach_av] at h
  have hl : (reachL g).length = g.length := by simp [reachL]
  have hk : ∀ m, callC An FF 18 (some 4) 27 [gv, .int .i64 (-1)] m = some (.ref (.l (16 * 4)) (gnext m.L (16 * 4)) 0 g.length, setL m (16 * 4) (.arr (gnext m.L (16 * 4)) 1 ((reachL g).flatMap boolC) 0)) := fun m => by
    rw [callC_P h rfl (by simp only [List.all_cons, List.all_nil, escP_escQ hgv.esc, escQ_int, Bool.and_self]) (by simp only [noGs, hgv.noG, noG_int, Bool.and_self]) (noG_ownN boolC_N _), adopt_ownN (show (An.glob 18).contains 4 = false from rfl), hl]
  refine Fw_funE rfl Try.func18 s18 (Nat.le_of_ble_eq_true rfl) (fun Q hqr hqn => ?_)
  simp only [tinit, Nat.reduceAdd, c18]
  repeat' (first
  | with_reducible refine Tx_ret ?_
  | ((first | (with_reducible refine Tx_regK (fun K hK => ?_); (first | with_reducible refine t18r0 ?_ | with_reducible refine t18r1 ?_)) | with_reducible refine hqr _ ?_); (try simp only [true_implies, false_implies, not_true_eq_false, not_false_eq_true, tget_cons, if_true, if_false, Nat.reduceEqDiff, ccells, Obt_some, Kn_normal, newL_eq, newP_eq, newA_eq, newM_eq, newR_eq, newK_eq, nmA_f, nmR_f, gn_var, gn_arr, gn_map, gnext_setL, lget_setL, lget_lset, gnext_lset, setL_setL, setL_H, Nat.reduceMul, Nat.reduceAdd, Nat.zero_add, fldA_ptr, fldA_rptr, List.drop_zero, ld1_l, ld1_r, ldA_l, rd1_var, rd1_arr, List.getElem?_cons_zero, List.getElem?_cons_succ, Obt_lss, Obt_leq, Obt_gtr, Obt_geq, Obt_eql, Obt_neq, Obt_not, gdO_tt, gdO_tf, gdO_ff, gdO_ft, gdO_skip, Option.map_some, pickX_t, pickX_f, Obt_pickS, Obt_gdT, Obt_gdF, Bool.not_true, Bool.not_false, lenS, Obt_map, Obt_add, Obt_sub, Obt_mul, Obt_quo, Obt_rem, Obt_and, Obt_or, Obt_xor, Obt_andNot, Obt_shl, Obt_shr, Obt_neg, Obt_cpl, Obt_conv, Obt_ext, Obt_bind, Obt_ite', appX_l, appX_n, appR_arr, appN_some, content_l, conR_arr, content_nil, clen_n, clen_r, idxS_ref, fillX, bslX, escP_list, List.all_append, stX_l, stV_var, stV_arr, splice, List.take_zero, List.take_succ_cons, List.drop_succ_cons, List.drop_nil, List.nil_append, List.cons_append, List.append_nil, List.length_cons, List.length_nil, Nat.reduceLeDiff, and_self, and_true, true_and, Nat.le_refl, Nat.zero_le, rdA_var, rdA_arr, escP, List.all_cons, List.all_nil, Bool.and_self, Bool.true_and, Bool.and_true, r18, tend, tresAll, tresC, Option.bind_some, mapMem, retv_agc, esc_i, esc_b, esc_n, esc_m, esc_s, retv_l, retR_arr, retv_gref, retv_gmap, retv_gptr, Nat.zero_sub, Nat.sub_self, retv_int, retv_bool, retv_nil, retv_imm, retv_inil, retv_pnil, tup_nil, tup_one, tup_two, Prod.mk.injEq, CV.int.injEq, CV.bool.injEq, hk]))
  | (revert hK; intro hK; (with_reducible refine hK _ ?_; clear hK K)))
  exact ⟨_, by rw [ownN, hl, List.take_of_length_le (by rw [flat_len boolC_len, hl]; omega)], rfl⟩
/-- an own row, put where everybody sees it -/
theorem adopt_ownG {l : List Int} {d : Nat} {gl : Bool} {H : List HO} (hg : gl = true) : ∃ v E, (∀ L, adopt gl d (ownC intC 1 l) ⟨L, H⟩ = (v, ⟨L, H ++ E⟩)) ∧ RefG (H ++ E) v l := by
  subst hg
  by_cases h : l = []
  · refine ⟨.nil, [], fun L => ?_, .inl ⟨h, rfl⟩⟩
    simp only [ownC, h, if_true, List.append_nil]; rfl
  · refine ⟨.ref (.g H.length) 1 0 l.length, [.arr 1 1 (l.flatMap intC) 0], fun L => ?_, .inr ⟨_, _, 0, rfl, by simp⟩⟩
    simp only [ownC, h, if_false]; rfl
theorem x5 (g : List (List Int)) (hr0 : ∀ r ∈ g, r.length ≤ 17592186044416) (ht : um g [] ≤ 17179869184) : ∃ r, (∃ H', r = (CV.bool true, H')) ∧ FF 5 [rowsC g] [] = some r := by
  have hgv := IsRows.of g
  by_cases hs : (g.length : Int) ≤ 60
  · have hg : Sm g := Sm.of hs hr0
    have hgl := hg.1
    have hol := ord_len g
    have hl : (reachL g).length = g.length := by simp [reachL]
    have hk1 := fun m => k10 g hg _ hgv (fid := 5) (d := 11) (m := m) rfl
    have hk2 : ∀ m, callC An FF 5 (some 13) 18 [rowsC g] m = some (.ref (.l (16 * 13)) (gnext m.L (16 * 13)) 0 g.length, setL m (16 * 13) (.arr (gnext m.L (16 * 13)) 1 ((reachL g).flatMap boolC) 0)) := fun m => by
      obtain ⟨_, ⟨H', rfl⟩, h⟩ := x18 g hg ht _ hgv
      rw [callC_P h rfl (by simp only [List.all_cons, List.all_nil, escP_escQ hgv.esc, Bool.and_self]) (by simp only [noGs, hgv.noG, Bool.and_self]) (noG_ownN boolC_N _), adopt_ownN (show (An.glob 5).contains 13 = false from rfl), hl]
    obtain ⟨v, T, ho1, ho2⟩ := x19 g hg _ hgv []
    simp only [List.nil_append] at ho1 ho2
    have hc1 : ∀ L, callC An FF 5 (some 35) 19 [rowsC g] ⟨L, []⟩ = some (v, ⟨L, T⟩) := by
      intro L
      rw [callC_I rfl (by simp only [List.all_cons, List.all_nil, escP_escQ hgv.esc, Bool.and_self]) ho1]
      rcases ho2 with ⟨_, rfl⟩ | ⟨n, gn, vl, rfl, _⟩ <;> rfl
    obtain ⟨_, ⟨H2, rfl⟩, ho3⟩ := x20 g hg _ hgv
    obtain ⟨v2, E2, ha1, ha2⟩ := adopt_ownG (l := ord g) (d := 37) (H := T) (show (An.glob 5).contains 37 = true from rfl)
    have hc2 : ∀ L, callC An FF 5 (some 37) 20 [rowsC g] ⟨L, T⟩ = some (v2, ⟨L, T ++ E2⟩) := by
      intro L
      rw [callC_P ho3 rfl (by simp only [List.all_cons, List.all_nil, escP_escQ hgv.esc, Bool.and_self]) (by simp only [noGs, hgv.noG, Bool.and_self]) (noG_ownC intC_N _), ha1]
    have hints := x15 (T ++ E2) v v2 (ord g) (ord g) (.inr ho2.app) (.inr ha2) (by omega)
    simp only [decide_true] at hints
    have hc3 : ∀ L, callC An FF 5 (some 38) 15 [v, v2] ⟨L, T ++ E2⟩ = some (.bool true, ⟨L, T ++ E2⟩) := by
      intro L
      rw [callC_I rfl (by simp only [List.all_cons, List.all_nil, (RdI.esc (H := T) (.inr ho2)), (RdI.esc (.inr ha2)), Bool.and_self]) hints]; rfl
    have hsetL : ∀ L j o, setL ⟨L, []⟩ j o = ⟨lset L j o, []⟩ := fun _ _ _ => rfl
    refine Fw_funE rfl Try.func5 s5 (Nat.le_of_ble_eq_true rfl) (fun Q hqr hqn => ?_)
    simp only [tinit, Nat.reduceAdd, c5]
    repeat' (first
    | with_reducible refine Tx_assoc ?_
    | with_reducible refine Tx_nopK ?_
    | with_reducible refine Tx_noK rfl ?_
    | with_reducible refine Tx_blockK (id := 0) (fun Q0 hn0 hx0 hr0 ho0 => ?_)
    | ((with_reducible refine Tx_regK (fun K hK => ?_); (first | with_reducible refine t5r0 ?_ | with_reducible refine t5r1 ?_ | with_reducible refine t5r3 ?_ | with_reducible refine t5r4 ?_ | with_reducible refine t5r6 ?_)); (try simp only [true_implies, false_implies, not_true_eq_false, not_false_eq_true, tget_cons, if_true, if_false, Nat.reduceEqDiff, ccells, Obt_some, Kn_normal, newL_eq, newP_eq, newA_eq, newM_eq, newR_eq, newK_eq, nmA_f, nmR_f, gn_var, gn_arr, gn_map, gnext_setL, lget_setL, lget_lset, gnext_lset, setL_setL, setL_H, Nat.reduceMul, Nat.reduceAdd, Nat.zero_add, fldA_ptr, fldA_rptr, List.drop_zero, ld1_l, ld1_r, ldA_l, rd1_var, rd1_arr, List.getElem?_cons_zero, List.getElem?_cons_succ, Obt_lss, Obt_leq, Obt_gtr, Obt_geq, Obt_eql, Obt_neq, Obt_not, gdO_tt, gdO_tf, gdO_ff, gdO_ft, gdO_skip, Option.map_some, pickX_t, pickX_f, Obt_pickS, Obt_gdT, Obt_gdF, Bool.not_true, Bool.not_false, lenS, Obt_map, Obt_add, Obt_sub, Obt_mul, Obt_quo, Obt_rem, Obt_and, Obt_or, Obt_xor, Obt_andNot, Obt_shl, Obt_shr, Obt_neg, Obt_cpl, Obt_conv, Obt_ext, Obt_bind, Obt_ite', appX_l, appX_n, appR_arr, appN_some, content_l, conR_arr, content_nil, clen_n, clen_r, idxS_ref, fillX, bslX, escP_list, List.all_append, stX_l, stV_var, stV_arr, splice, List.take_zero, List.take_succ_cons, List.drop_succ_cons, List.drop_nil, List.nil_append, List.cons_append, List.append_nil, List.length_cons, List.length_nil, Nat.reduceLeDiff, and_self, and_true, true_and, Nat.le_refl, Nat.zero_le, rdA_var, rdA_arr, escP, List.all_cons, List.all_nil, Bool.and_self, Bool.true_and, Bool.and_true, r5, tend, tresAll, tresC, Option.bind_some, mapMem, retv_agc, esc_i, esc_b, esc_n, esc_m, esc_s, retv_l, retR_arr, retv_gref, retv_gmap, retv_gptr, Nat.zero_sub, Nat.sub_self, retv_int, retv_bool, retv_nil, retv_imm, retv_inil, retv_pnil, tup_nil, tup_one, tup_two, Prod.mk.injEq, CV.int.injEq, CV.bool.injEq, clen_rowsC, k8 g _ hgv true (decide_eq_true hs), hk1, hk2, hsetL]))
    | (revert hK; intro hK; (with_reducible refine hK _ ?_; clear hK K)))
    generalize gnext [] 176 = g1
    generalize gnext [] 208 = g2
    refine Tx_loopK (fun k s => ∃ (i : Nat) (L : List (Nat × HO)), i ≤ g.length ∧ k = g.length - i ∧
      s = ⟨[(0, rowsC g), (3, .ref (.l 176) g1 0 g.length), (4, .ref (.l 208) g2 0 g.length), (5, .int .i64 i)], ⟨L, []⟩⟩ ∧
      lget L 176 = some (.arr g1 1 ((reachL g).flatMap boolC) 0) ∧ lget L 208 = some (.arr g2 1 ((reachL g).flatMap boolC) 0)) _ ⟨0, _, Nat.zero_le _, rfl, rfl, by simp [lget_lset], by simp [lget_lset]⟩ ?_
    rintro k s ⟨i, L, hi, rfl, rfl, hL1, hL2⟩ QL0 hnL0 hxL0 hrL0
    simp only [c5l0]
    by_cases hig : i = g.length
    · subst hig
      repeat' (first
      | with_reducible refine Tx_assoc ?_
      | with_reducible refine Tx_noK rfl ?_
      | with_reducible refine Tx_exitK ?_
      | with_reducible refine Tx_ret ?_
      | with_reducible refine hx0 _ ?_
      | with_reducible refine hxL0 _ _ ?_
      | ((first | (with_reducible refine Tx_regK (fun K hK => ?_); (first | with_reducible refine t5r7 ?_ | with_reducible refine t5r11 ?_)) | with_reducible refine hqr _ ?_); (try simp only [true_implies, false_implies, not_true_eq_false, not_false_eq_true, tget_cons, if_true, if_false, Nat.reduceEqDiff, ccells, Obt_some, Kn_normal, newL_eq, newP_eq, newA_eq, newM_eq, newR_eq, newK_eq, nmA_f, nmR_f, gn_var, gn_arr, gn_map, gnext_setL, lget_setL, lget_lset, gnext_lset, setL_setL, setL_H, Nat.reduceMul, Nat.reduceAdd, Nat.zero_add, fldA_ptr, fldA_rptr, List.drop_zero, ld1_l, ld1_r, ldA_l, rd1_var, rd1_arr, List.getElem?_cons_zero, List.getElem?_cons_succ, Obt_lss, Obt_leq, Obt_gtr, Obt_geq, Obt_eql, Obt_neq, Obt_not, gdO_tt, gdO_tf, gdO_ff, gdO_ft, gdO_skip, Option.map_some, pickX_t, pickX_f, Obt_pickS, Obt_gdT, Obt_gdF, Bool.not_true, Bool.not_false, lenS, Obt_map, Obt_add, Obt_sub, Obt_mul, Obt_quo, Obt_rem, Obt_and, Obt_or, Obt_xor, Obt_andNot, Obt_shl, Obt_shr, Obt_neg, Obt_cpl, Obt_conv, Obt_ext, Obt_bind, Obt_ite', appX_l, appX_n, appR_arr, appN_some, content_l, conR_arr, content_nil, clen_n, clen_r, idxS_ref, fillX, bslX, escP_list, List.all_append, stX_l, stV_var, stV_arr, splice, List.take_zero, List.take_succ_cons, List.drop_succ_cons, List.drop_nil, List.nil_append, List.cons_append, List.append_nil, List.length_cons, List.length_nil, Nat.reduceLeDiff, and_self, and_true, true_and, Nat.le_refl, Nat.zero_le, rdA_var, rdA_arr, escP, List.all_cons, List.all_nil, Bool.and_self, Bool.true_and, Bool.and_true, r5, tend, tresAll, tresC, Option.bind_some, mapMem, retv_agc, esc_i, esc_b, esc_n, esc_m, esc_s, retv_l, retR_arr, retv_gref, retv_gmap, retv_gptr, Nat.zero_sub, Nat.sub_self, retv_int, retv_bool, retv_nil, retv_imm, retv_inil, retv_pnil, tup_nil, tup_one, tup_two, Prod.mk.injEq, CV.int.injEq, CV.bool.injEq, hc1, hc2, hc3, k9]))
      | (revert hK; intro hK; (first | refine And.intro ?_ ?_ | intro _ | omega | (with_reducible refine hK _ ?_; clear hK K))))
      all_goals exact ⟨_, rfl⟩
    · have hilt : (i : Int) < g.length := by omega
      have hw : IntKind.i64.wrap ((i : Int) + 1) = ((i + 1 : Nat) : Int) := by rw [wI (by omega) (by omega)]; rfl
      have hix : ∀ j gn, idxS 1 (.ref (.l j) gn 0 g.length) (.int .i64 i) = some (.ptr (.l j) gn i) := fun j gn => by
        rw [idxS_ref, if_pos ⟨by omega, by omega⟩]; simp
      have hrb := reachL_get (g := g) (x := (i : Int)) (by omega) hilt
      rw [Int.toNat_natCast] at hrb
      generalize decide ((i : Int) ∈ ord g) = bb at hrb
      have hb1 : ld1 ⟨L, []⟩ (.ptr (.l 176) g1 i) = some (.bool bb) := by rw [ld1_l]; simp only [hL1, rd1_arr, flat_bool, hrb]; rfl
      have hb2 : ld1 ⟨L, []⟩ (.ptr (.l 208) g2 i) = some (.bool bb) := by rw [ld1_l]; simp only [hL2, rd1_arr, flat_bool, hrb]; rfl
      repeat' (first
      | with_reducible refine Tx_assoc ?_
      | with_reducible refine Tx_nopK ?_
      | with_reducible refine Tx_yesK rfl ?_
      | with_reducible refine Tx_no rfl ?_
      | with_reducible refine Tx_nop ?_
      | with_reducible refine Tx_blockK (id := 1) (fun Q1 hn1 hx1 hr1 ho1 => ?_)
      | with_reducible refine hn1 _ ?_
      | (((first | with_reducible refine Tx_regK (fun K hK => ?_) | with_reducible refine Tx_regE (fun K hK => ?_)); (first | with_reducible refine t5r7 ?_ | with_reducible refine t5r9 ?_ | with_reducible refine t5r8 ?_)); (try simp only [true_implies, false_implies, not_true_eq_false, not_false_eq_true, tget_cons, if_true, if_false, Nat.reduceEqDiff, ccells, Obt_some, Kn_normal, newL_eq, newP_eq, newA_eq, newM_eq, newR_eq, newK_eq, nmA_f, nmR_f, gn_var, gn_arr, gn_map, gnext_setL, lget_setL, lget_lset, gnext_lset, setL_setL, setL_H, Nat.reduceMul, Nat.reduceAdd, Nat.zero_add, fldA_ptr, fldA_rptr, List.drop_zero, ld1_l, ld1_r, ldA_l, rd1_var, rd1_arr, List.getElem?_cons_zero, List.getElem?_cons_succ, Obt_lss, Obt_leq, Obt_gtr, Obt_geq, Obt_eql, Obt_neq, Obt_not, gdO_tt, gdO_tf, gdO_ff, gdO_ft, gdO_skip, Option.map_some, pickX_t, pickX_f, Obt_pickS, Obt_gdT, Obt_gdF, Bool.not_true, Bool.not_false, lenS, Obt_map, Obt_add, Obt_sub, Obt_mul, Obt_quo, Obt_rem, Obt_and, Obt_or, Obt_xor, Obt_andNot, Obt_shl, Obt_shr, Obt_neg, Obt_cpl, Obt_conv, Obt_ext, Obt_bind, Obt_ite', appX_l, appX_n, appR_arr, appN_some, content_l, conR_arr, content_nil, clen_n, clen_r, idxS_ref, fillX, bslX, escP_list, List.all_append, stX_l, stV_var, stV_arr, splice, List.take_zero, List.take_succ_cons, List.drop_succ_cons, List.drop_nil, List.nil_append, List.cons_append, List.append_nil, List.length_cons, List.length_nil, Nat.reduceLeDiff, and_self, and_true, true_and, Nat.le_refl, Nat.zero_le, rdA_var, rdA_arr, escP, List.all_cons, List.all_nil, Bool.and_self, Bool.true_and, Bool.and_true, r5, tend, tresAll, tresC, Option.bind_some, mapMem, retv_agc, esc_i, esc_b, esc_n, esc_m, esc_s, retv_l, retR_arr, retv_gref, retv_gmap, retv_gptr, Nat.zero_sub, Nat.sub_self, retv_int, retv_bool, retv_nil, retv_imm, retv_inil, retv_pnil, tup_nil, tup_one, tup_two, Prod.mk.injEq, CV.int.injEq, CV.bool.injEq, hilt, hix, hb1, hb2, Obt_neB Try.underlying4, beq_self_eq_true, Bool.not_true, hw]))
      | (revert hK; intro hK; (with_reducible refine hK _ ?_; clear hK K)))
      all_goals exact hnL0 (g.length - (i + 1)) _ (by omega) ⟨i + 1, L, by omega, rfl, rfl, hL1, hL2⟩
  · refine Fw_funE rfl Try.func5 s5 (Nat.le_of_ble_eq_true rfl) (fun Q hqr hqn => ?_)
    simp only [tinit, Nat.reduceAdd, c5]
    repeat' (first
    | with_reducible refine Tx_assoc ?_
    | with_reducible refine Tx_yesK rfl ?_
    | with_reducible refine Tx_retK ?_
    | ((first | (with_reducible refine Tx_regK (fun K hK => ?_); (first | with_reducible refine t5r0 ?_ | with_reducible refine t5r1 ?_ | with_reducible refine t5r2 ?_)) | with_reducible refine hqr _ ?_); (try simp only [true_implies, false_implies, not_true_eq_false, not_false_eq_true, tget_cons, if_true, if_false, Nat.reduceEqDiff, ccells, Obt_some, Kn_normal, newL_eq, newP_eq, newA_eq, newM_eq, newR_eq, newK_eq, nmA_f, nmR_f, gn_var, gn_arr, gn_map, gnext_setL, lget_setL, lget_lset, gnext_lset, setL_setL, setL_H, Nat.reduceMul, Nat.reduceAdd, Nat.zero_add, fldA_ptr, fldA_rptr, List.drop_zero, ld1_l, ld1_r, ldA_l, rd1_var, rd1_arr, List.getElem?_cons_zero, List.getElem?_cons_succ, Obt_lss, Obt_leq, Obt_gtr, Obt_geq, Obt_eql, Obt_neq, Obt_not, gdO_tt, gdO_tf, gdO_ff, gdO_ft, gdO_skip, Option.map_some, pickX_t, pickX_f, Obt_pickS, Obt_gdT, Obt_gdF, Bool.not_true, Bool.not_false, lenS, Obt_map, Obt_add, Obt_sub, Obt_mul, Obt_quo, Obt_rem, Obt_and, Obt_or, Obt_xor, Obt_andNot, Obt_shl, Obt_shr, Obt_neg, Obt_cpl, Obt_conv, Obt_ext, Obt_bind, Obt_ite', appX_l, appX_n, appR_arr, appN_some, content_l, conR_arr, content_nil, clen_n, clen_r, idxS_ref, fillX, bslX, escP_list, List.all_append, stX_l, stV_var, stV_arr, splice, List.take_zero, List.take_succ_cons, List.drop_succ_cons, List.drop_nil, List.nil_append, List.cons_append, List.append_nil, List.length_cons, List.length_nil, Nat.reduceLeDiff, and_self, and_true, true_and, Nat.le_refl, Nat.zero_le, rdA_var, rdA_arr, escP, List.all_cons, List.all_nil, Bool.and_self, Bool.true_and, Bool.and_true, r5, tend, tresAll, tresC, Option.bind_some, mapMem, retv_agc, esc_i, esc_b, esc_n, esc_m, esc_s, retv_l, retR_arr, retv_gref, retv_gmap, retv_gptr, Nat.zero_sub, Nat.sub_self, retv_int, retv_bool, retv_nil, retv_imm, retv_inil, retv_pnil, tup_nil, tup_one, tup_two, Prod.mk.injEq, CV.int.injEq, CV.bool.injEq, clen_rowsC, k8 g _ hgv false (decide_eq_false hs), k9]))
    | (revert hK; intro hK; (with_reducible refine hK _ ?_; clear hK K)))
    all_goals exact ⟨_, rfl⟩
end Go.Cm
