/-
  Graphs: who leads to each node.
-/
import Derived.Test.YthjkmonenenlmaaDoC
set_option linter.unusedSimpArgs false
set_option linter.unusedVariables false
namespace Go.Cm
open Go.Proofs Go.Gr
def idxI (l : List Int) (x : Int) : Int := if x ∈ l then l.idxOf x else -1
theorem x32 (H : List HO) (v : CV) (l : List Int) (x : Int) (hv : RdI H v l) (hl : l.length ≤ 4294967296) : FF 32 [v, .int .i64 x] H = some (.int .i64 (idxI l x), H) := by
  refine Fw_funK rfl Try.func32 s32 (Nat.le_of_ble_eq_true rfl) (fun Q hqr hqn => ?_)
  simp only [tinit, Nat.reduceAdd, c32]
  repeat' (first
  | with_reducible refine Tx_assoc ?_
  | with_reducible refine Tx_blockK (id := 0) (fun Q0 hn0 hx0 hr0 ho0 => ?_)
  | ((with_reducible refine Tx_regK (fun K hK => ?_); (first | with_reducible refine t32r0 ?_ | with_reducible refine t32r1 ?_)); (try simp only [true_implies, false_implies, not_true_eq_false, not_false_eq_true, tget_cons, if_true, if_false, Nat.reduceEqDiff, ccells, Obt_some, Kn_normal, newL_eq, newP_eq, newA_eq, newM_eq, newR_eq, newK_eq, nmA_f, nmR_f, gn_var, gn_arr, gn_map, gnext_setL, lget_setL, lget_lset, gnext_lset, setL_setL, setL_H, Nat.reduceMul, Nat.reduceAdd, Nat.zero_add, fldA_ptr, fldA_rptr, List.drop_zero, ld1_l, ld1_r, ldA_l, rd1_var, rd1_arr, List.getElem?_cons_zero, List.getElem?_cons_succ, Obt_lss, Obt_leq, Obt_gtr, Obt_geq, Obt_eql, Obt_neq, Obt_not, gdO_tt, gdO_tf, gdO_ff, gdO_ft, gdO_skip, Option.map_some, pickX_t, pickX_f, Obt_pickS, Obt_gdT, Obt_gdF, Bool.not_true, Bool.not_false, lenS, Obt_map, Obt_add, Obt_sub, Obt_mul, Obt_quo, Obt_rem, Obt_and, Obt_or, Obt_xor, Obt_andNot, Obt_shl, Obt_shr, Obt_neg, Obt_cpl, Obt_conv, Obt_ext, Obt_bind, Obt_ite', appX_l, appX_n, appR_arr, appN_some, content_l, conR_arr, content_nil, clen_n, clen_r, idxS_ref, fillX, bslX, escP_list, List.all_append, stX_l, stV_var, stV_arr, splice, List.take_zero, List.take_succ_cons, List.drop_succ_cons, List.drop_nil, List.nil_append, List.cons_append, List.append_nil, List.length_cons, List.length_nil, Nat.reduceLeDiff, and_self, and_true, true_and, Nat.le_refl, Nat.zero_le, rdA_var, rdA_arr, escP, List.all_cons, List.all_nil, Bool.and_self, Bool.true_and, Bool.and_true, r32, tend, tresAll, tresC, Option.bind_some, mapMem, retv_agc, esc_i, esc_b, esc_n, esc_m, esc_s, retv_l, retR_arr, retv_gref, retv_gmap, retv_gptr, Nat.zero_sub, Nat.sub_self, retv_int, retv_bool, retv_nil, retv_imm, retv_inil, retv_pnil, tup_nil, tup_one, tup_two, Prod.mk.injEq, CV.int.injEq, CV.bool.injEq, hv.len]))
  | (revert hK; intro hK; (with_reducible refine hK _ ?_; clear hK K)))
  refine Tx_loopK (fun k s => ∃ (d t : List Int), l = d ++ t ∧ k = t.length ∧ x ∉ d ∧ s = ⟨[(0, v), (1, .int .i64 x), (7, .int .i64 l.length), (8, .int .i64 d.length)], ⟨[], H⟩⟩) _ ⟨[], l, rfl, rfl, by simp, rfl⟩ ?_
  rintro k s ⟨d, t, h3, rfl, hd, rfl⟩ QL0 hnL0 hxL0 hrL0
  have hlen := congrArg List.length h3
  simp only [List.length_append] at hlen
  cases t with
  | nil =>
    simp only [List.length_nil] at hlen
    simp only [c32l0]
    repeat' (first
    | with_reducible refine Tx_noK rfl ?_
    | with_reducible refine Tx_exitK ?_
    | with_reducible refine Tx_ret ?_
    | with_reducible refine hx0 _ ?_
    | with_reducible refine hxL0 _ _ ?_
    | ((first | (with_reducible refine Tx_regK (fun K hK => ?_); (first | with_reducible refine t32r2 ?_ | with_reducible refine t32r7 ?_)) | with_reducible refine hqr _ ?_); (try simp only [true_implies, false_implies, not_true_eq_false, not_false_eq_true, tget_cons, if_true, if_false, Nat.reduceEqDiff, ccells, Obt_some, Kn_normal, newL_eq, newP_eq, newA_eq, newM_eq, newR_eq, newK_eq, nmA_f, nmR_f, gn_var, gn_arr, gn_map, gnext_setL, lget_setL, lget_lset, gnext_lset, setL_setL, setL_H, Nat.reduceMul, Nat.reduceAdd, Nat.zero_add, fldA_ptr, fldA_rptr, List.drop_zero, ld1_l, ld1_r, ldA_l, rd1_var, rd1_arr, List.getElem?_cons_zero, List.getElem?_cons_succ, Obt_lss, Obt_leq, Obt_gtr, Obt_geq, Obt_eql, Obt_neq, Obt_not, gdO_tt, gdO_tf, gdO_ff, gdO_ft, gdO_skip, Option.map_some, pickX_t, pickX_f, Obt_pickS, Obt_gdT, Obt_gdF, Bool.not_true, Bool.not_false, lenS, Obt_map, Obt_add, Obt_sub, Obt_mul, Obt_quo, Obt_rem, Obt_and, Obt_or, Obt_xor, Obt_andNot, Obt_shl, Obt_shr, Obt_neg, Obt_cpl, Obt_conv, Obt_ext, Obt_bind, Obt_ite', appX_l, appX_n, appR_arr, appN_some, content_l, conR_arr, content_nil, clen_n, clen_r, idxS_ref, fillX, bslX, escP_list, List.all_append, stX_l, stV_var, stV_arr, splice, List.take_zero, List.take_succ_cons, List.drop_succ_cons, List.drop_nil, List.nil_append, List.cons_append, List.append_nil, List.length_cons, List.length_nil, Nat.reduceLeDiff, and_self, and_true, true_and, Nat.le_refl, Nat.zero_le, rdA_var, rdA_arr, escP, List.all_cons, List.all_nil, Bool.and_self, Bool.true_and, Bool.and_true, r32, tend, tresAll, tresC, Option.bind_some, mapMem, retv_agc, esc_i, esc_b, esc_n, esc_m, esc_s, retv_l, retR_arr, retv_gref, retv_gmap, retv_gptr, Nat.zero_sub, Nat.sub_self, retv_int, retv_bool, retv_nil, retv_imm, retv_inil, retv_pnil, tup_nil, tup_one, tup_two, Prod.mk.injEq, CV.int.injEq, CV.bool.injEq]))
    | (revert hK; intro hK; (first | refine And.intro ?_ ?_ | intro _ | omega | (with_reducible refine hK _ ?_; clear hK K))))
    rw [List.append_nil] at h3
    rw [idxI, if_neg (by rw [h3]; exact hd)]
  | cons a t =>
    simp only [List.length_cons] at hlen
    have hal : l[d.length]? = some a := by rw [h3]; simp
    obtain ⟨p, hp1, hp2⟩ := hv.at hal (k := .i64)
    have hw : IntKind.i64.wrap ((d.length : Int) + 1) = d.length + 1 := wI (by omega) (by omega)
    simp only [c32l0]
    repeat' (first
    | with_reducible refine Tx_nopK ?_
    | with_reducible refine Tx_yesK rfl ?_
    | with_reducible refine Tx_yes rfl ?_
    | with_reducible refine Tx_no rfl ?_
    | with_reducible refine Tx_ret ?_
    | with_reducible refine Tx_nop ?_
    | with_reducible refine hr0 _ ?_
    | with_reducible refine Tx_blockK (id := 1) (fun Q1 hn1 hx1 hr1 ho1 => ?_)
    | with_reducible refine hn1 _ ?_
    | with_reducible refine hr1 _ ?_
    | with_reducible refine hrL0 _ ?_
    | ((first | ((first | with_reducible refine Tx_regK (fun K hK => ?_) | with_reducible refine Tx_regE (fun K hK => ?_)); (first | with_reducible refine t32r2 ?_ | with_reducible refine t32r3 ?_ | with_reducible refine t32r4 ?_ | with_reducible refine t32r5 ?_ | with_reducible refine t32r6 ?_)) | with_reducible refine hqr _ ?_); (try simp only [true_implies, false_implies, not_true_eq_false, not_false_eq_true, tget_cons, if_true, if_false, Nat.reduceEqDiff, ccells, Obt_some, Kn_normal, newL_eq, newP_eq, newA_eq, newM_eq, newR_eq, newK_eq, nmA_f, nmR_f, gn_var, gn_arr, gn_map, gnext_setL, lget_setL, lget_lset, gnext_lset, setL_setL, setL_H, Nat.reduceMul, Nat.reduceAdd, Nat.zero_add, fldA_ptr, fldA_rptr, List.drop_zero, ld1_l, ld1_r, ldA_l, rd1_var, rd1_arr, List.getElem?_cons_zero, List.getElem?_cons_succ, Obt_lss, Obt_leq, Obt_gtr, Obt_geq, Obt_eql, Obt_neq, Obt_not, gdO_tt, gdO_tf, gdO_ff, gdO_ft, gdO_skip, Option.map_some, pickX_t, pickX_f, Obt_pickS, Obt_gdT, Obt_gdF, Bool.not_true, Bool.not_false, lenS, Obt_map, Obt_add, Obt_sub, Obt_mul, Obt_quo, Obt_rem, Obt_and, Obt_or, Obt_xor, Obt_andNot, Obt_shl, Obt_shr, Obt_neg, Obt_cpl, Obt_conv, Obt_ext, Obt_bind, Obt_ite', appX_l, appX_n, appR_arr, appN_some, content_l, conR_arr, content_nil, clen_n, clen_r, idxS_ref, fillX, bslX, escP_list, List.all_append, stX_l, stV_var, stV_arr, splice, List.take_zero, List.take_succ_cons, List.drop_succ_cons, List.drop_nil, List.nil_append, List.cons_append, List.append_nil, List.length_cons, List.length_nil, Nat.reduceLeDiff, and_self, and_true, true_and, Nat.le_refl, Nat.zero_le, rdA_var, rdA_arr, escP, List.all_cons, List.all_nil, Bool.and_self, Bool.true_and, Bool.and_true, r32, tend, tresAll, tresC, Option.bind_some, mapMem, retv_agc, esc_i, esc_b, esc_n, esc_m, esc_s, retv_l, retR_arr, retv_gref, retv_gmap, retv_gptr, Nat.zero_sub, Nat.sub_self, retv_int, retv_bool, retv_nil, retv_imm, retv_inil, retv_pnil, tup_nil, tup_one, tup_two, Prod.mk.injEq, CV.int.injEq, CV.bool.injEq, hp1, hp2, hw]))
    | (revert hK; intro hK; (first | refine And.intro ?_ ?_ | intro _ | omega | (with_reducible refine hK _ ?_; clear hK K))))
    · rename_i he
      rw [idxI, if_pos (by rw [h3, he]; simp), h3, he, List.idxOf_append, if_neg (by rw [← he]; exact hd), List.idxOf_cons_self]
      simp
    · rename_i he
      exact hnL0 t.length _ (by simp) ⟨d ++ [a], t, by simp [h3], rfl, by simp [hd, he], by simp⟩
theorem x22 (H : List HO) (v : CV) (l : List Int) (x : Int) (hv : RdI H v l) (hl : l.length ≤ 4294967296) : FF 22 [v, .int .i64 x] H = some (.bool (decide (x ∈ l)), H) := by
  have hc : callC An FF 22 (some 7) 32 [v, .int .i64 x] ⟨[], H⟩ = some (.int .i64 (idxI l x), ⟨[], H⟩) := by
    rw [callC_I rfl (by simp only [List.all_cons, hv.esc]; rfl) (x32 H v l x hv hl), adopt_int]
  by_cases hx : x ∈ l
  · have h1 : 0 ≤ idxI l x := by rw [idxI, if_pos hx]; omega
    refine Fw_funK rfl Try.func22 s22 (Nat.le_of_ble_eq_true rfl) (fun Q hqr hqn => ?_)
    simp only [tinit, Nat.reduceAdd, c22]
    repeat' (first
    | with_reducible refine Tx_ret ?_
    | ((first | (with_reducible refine Tx_regK (fun K hK => ?_); (first | with_reducible refine t22r0 ?_ | with_reducible refine t22r1 ?_)) | with_reducible refine hqr _ ?_); (try simp only [true_implies, false_implies, not_true_eq_false, not_false_eq_true, tget_cons, if_true, if_false, Nat.reduceEqDiff, ccells, Obt_some, Kn_normal, newL_eq, newP_eq, newA_eq, newM_eq, newR_eq, newK_eq, nmA_f, nmR_f, gn_var, gn_arr, gn_map, gnext_setL, lget_setL, lget_lset, gnext_lset, setL_setL, setL_H, Nat.reduceMul, Nat.reduceAdd, Nat.zero_add, fldA_ptr, fldA_rptr, List.drop_zero, ld1_l, ld1_r, ldA_l, rd1_var, rd1_arr, List.getElem?_cons_zero, List.getElem?_cons_succ, Obt_lss, Obt_leq, Obt_gtr, Obt_geq, Obt_eql, Obt_neq, Obt_not, gdO_tt, gdO_tf, gdO_ff, gdO_ft, gdO_skip, Option.map_some, pickX_t, pickX_f, Obt_pickS, Obt_gdT, Obt_gdF, Bool.not_true, Bool.not_false, lenS, Obt_map, Obt_add, Obt_sub, Obt_mul, Obt_quo, Obt_rem, Obt_and, Obt_or, Obt_xor, Obt_andNot, Obt_shl, Obt_shr, Obt_neg, Obt_cpl, Obt_conv, Obt_ext, Obt_bind, Obt_ite', appX_l, appX_n, appR_arr, appN_some, content_l, conR_arr, content_nil, clen_n, clen_r, idxS_ref, fillX, bslX, escP_list, List.all_append, stX_l, stV_var, stV_arr, splice, List.take_zero, List.take_succ_cons, List.drop_succ_cons, List.drop_nil, List.nil_append, List.cons_append, List.append_nil, List.length_cons, List.length_nil, Nat.reduceLeDiff, and_self, and_true, true_and, Nat.le_refl, Nat.zero_le, rdA_var, rdA_arr, escP, List.all_cons, List.all_nil, Bool.and_self, Bool.true_and, Bool.and_true, r22, tend, tresAll, tresC, Option.bind_some, mapMem, retv_agc, esc_i, esc_b, esc_n, esc_m, esc_s, retv_l, retR_arr, retv_gref, retv_gmap, retv_gptr, Nat.zero_sub, Nat.sub_self, retv_int, retv_bool, retv_nil, retv_imm, retv_inil, retv_pnil, tup_nil, tup_one, tup_two, Prod.mk.injEq, CV.int.injEq, CV.bool.injEq, hc]))
    | (revert hK; intro hK; (first | refine And.intro ?_ ?_ | intro _ | omega | (with_reducible refine hK _ ?_; clear hK K))))
    simp [hx]
  · have h1 : ¬ 0 ≤ idxI l x := by rw [idxI, if_neg hx]; omega
    refine Fw_funK rfl Try.func22 s22 (Nat.le_of_ble_eq_true rfl) (fun Q hqr hqn => ?_)
    simp only [tinit, Nat.reduceAdd, c22]
    repeat' (first
    | with_reducible refine Tx_ret ?_
    | ((first | (with_reducible refine Tx_regK (fun K hK => ?_); (first | with_reducible refine t22r0 ?_ | with_reducible refine t22r1 ?_)) | with_reducible refine hqr _ ?_); (try simp only [true_implies, false_implies, not_true_eq_false, not_false_eq_true, tget_cons, if_true, if_false, Nat.reduceEqDiff, ccells, Obt_some, Kn_normal, newL_eq, newP_eq, newA_eq, newM_eq, newR_eq, newK_eq, nmA_f, nmR_f, gn_var, gn_arr, gn_map, gnext_setL, lget_setL, lget_lset, gnext_lset, setL_setL, setL_H, Nat.reduceMul, Nat.reduceAdd, Nat.zero_add, fldA_ptr, fldA_rptr, List.drop_zero, ld1_l, ld1_r, ldA_l, rd1_var, rd1_arr, List.getElem?_cons_zero, List.getElem?_cons_succ, Obt_lss, Obt_leq, Obt_gtr, Obt_geq, Obt_eql, Obt_neq, Obt_not, gdO_tt, gdO_tf, gdO_ff, gdO_ft, gdO_skip, Option.map_some, pickX_t, pickX_f, Obt_pickS, Obt_gdT, Obt_gdF, Bool.not_true, Bool.not_false, lenS, Obt_map, Obt_add, Obt_sub, Obt_mul, Obt_quo, Obt_rem, Obt_and, Obt_or, Obt_xor, Obt_andNot, Obt_shl, Obt_shr, Obt_neg, Obt_cpl, Obt_conv, Obt_ext, Obt_bind, Obt_ite', appX_l, appX_n, appR_arr, appN_some, content_l, conR_arr, content_nil, clen_n, clen_r, idxS_ref, fillX, bslX, escP_list, List.all_append, stX_l, stV_var, stV_arr, splice, List.take_zero, List.take_succ_cons, List.drop_succ_cons, List.drop_nil, List.nil_append, List.cons_append, List.append_nil, List.length_cons, List.length_nil, Nat.reduceLeDiff, and_self, and_true, true_and, Nat.le_refl, Nat.zero_le, rdA_var, rdA_arr, escP, List.all_cons, List.all_nil, Bool.and_self, Bool.true_and, Bool.and_true, r22, tend, tresAll, tresC, Option.bind_some, mapMem, retv_agc, esc_i, esc_b, esc_n, esc_m, esc_s, retv_l, retR_arr, retv_gref, retv_gmap, retv_gptr, Nat.zero_sub, Nat.sub_self, retv_int, retv_bool, retv_nil, retv_imm, retv_inil, retv_pnil, tup_nil, tup_one, tup_two, Prod.mk.injEq, CV.int.injEq, CV.bool.injEq, hc]))
    | (revert hK; intro hK; (first | refine And.intro ?_ ?_ | intro _ | omega | (with_reducible refine hK _ ?_; clear hK K))))
    simp [hx]
/-- rows behind a map's keys, each alone in an object -/
structure PInv (b : Nat) (H0 H : List HO) (l : List (Int × CV)) (f : Int → List Int) : Prop where
  len : b < H.length
  map : H[b]? = some (.map 1 (esI .i64 l))
  row : ∀ y, (al l y = none ∧ f y = []) ∨ ∃ n gn, al l y = some (.ref (.g n) gn 0 (f y).length) ∧ b < n ∧ H[n]? = some (.arr gn 1 ((f y).flatMap intC) 0)
  apart : ∀ y z n gn gn' k k', al l y = some (.ref (.g n) gn 0 k) → al l z = some (.ref (.g n) gn' 0 k') → y = z
  old : ∀ i, i < b → H[i]? = H0[i]?
theorem PInv.ref {b : Nat} {H0 H : List HO} {l : List (Int × CV)} {f : Int → List Int} (h : PInv b H0 H l f) (y : Int) : RefG H ((al l y).getD .nil) (f y) := by
  rcases h.row y with ⟨h1, h2⟩ | ⟨n, gn, h1, _, h2⟩
  · rw [h1, h2]; exact .inl ⟨rfl, rfl⟩
  · rw [h1]; exact .inr ⟨n, gn, 0, rfl, h2⟩
theorem PInv.step {b : Nat} {H0 H : List HO} {l : List (Int × CV)} {f : Int → List Int} (h : PInv b H0 H l f) (y a : Int) {gt j jt : Nat} {L : List (Nat × HO)} (ht : lget L jt = some (.arr gt 1 [.int .i64 a] 0)) (hl : (f y).length + 1 ≤ 4294967296) :
    ∃ v H2 H3 l', appX true j 1 8 ((al l y).getD .nil) (.ref (.l jt) gt 0 1) ⟨L, H⟩ = some (v, ⟨L, H2⟩) ∧ mupX Try.prog 3 (.map (.g b) 1) (.int .i64 y) v ⟨L, H2⟩ = some ⟨L, H3⟩ ∧ PInv b H0 H3 l' (fun z => if z = y then f y ++ [a] else f z) := by
  have hc : content ⟨L, H⟩ 1 (.ref (.l jt) gt 0 1) = some [.int .i64 a] := by rw [content_l, ht, conR_arr]; rfl
  have hbl := h.len
  rcases h.row y with ⟨h1, h2⟩ | ⟨n, gn, h1, hbn, h2⟩
  · -- a new row
    have hmap : (H ++ [HO.arr 1 1 [.int .i64 a] 0])[b]? = some (.map 1 (esI .i64 l)) := by rw [List.getElem?_append_left h.len]; exact h.map
    refine ⟨.ref (.g H.length) 1 0 1, H ++ [HO.arr 1 1 [.int .i64 a] 0], (H ++ [HO.arr 1 1 [.int .i64 a] 0]).set b (.map 1 (esI .i64 (aset l y (.ref (.g H.length) 1 0 1)))), aset l y (.ref (.g H.length) 1 0 1), ?_, ?_, ?_⟩
    · rw [h1, Option.getD_none, appX_n, hc, clen_r, appN_some (by decide), if_pos (smallB_ok (by decide) (by decide))]
      rfl
    · exact mupX_int (P := Try.prog) (t := 3) (k := .i64) (key := .g b) (g := 1) (a := y) (v := .ref (.g H.length) 1 0 1) (m := ⟨L, H ++ [HO.arr 1 1 [.int .i64 a] 0]⟩) (l := l) Try.underlying3 rfl hmap
    · have hfresh : ∀ z n gn k, al l z = some (.ref (.g n) gn 0 k) → n < H.length := by
        intro z n gn k hz
        rcases h.row z with ⟨h3, _⟩ | ⟨n', gn', h3, _, h4⟩
        · rw [h3] at hz; cases hz
        · rw [h3] at hz
          simp only [Option.some.injEq, CV.ref.injEq, Key.g.injEq] at hz
          rw [← hz.1]; exact (List.getElem?_eq_some_iff.1 h4).1
      refine ⟨by simp; omega, by rw [List.getElem?_set_self (by simp; omega)], fun z => ?_, fun z w n gn gn' k k' hz hw => ?_, fun i hi => ?_⟩
      · rw [al_aset]
        by_cases hz : y = z
        · subst hz
          right
          refine ⟨H.length, 1, ?_, hbl, ?_⟩
          · simp [h2]
          · rw [List.getElem?_set_ne (by omega), List.getElem?_append_right (by omega)]
            simp [h2, intC]
        · rw [if_neg hz, if_neg (Ne.symm hz)]
          rcases h.row z with h3 | ⟨n', gn', h3, h4, h5⟩
          · exact .inl h3
          · right
            have := (List.getElem?_eq_some_iff.1 h5).1
            exact ⟨n', gn', h3, h4, by rw [List.getElem?_set_ne (by omega), List.getElem?_append_left this, h5]⟩
      · rw [al_aset] at hz hw
        split at hz <;> split at hw
        · rename_i e1 e2; rw [← e1, ← e2]
        · simp only [Option.some.injEq, CV.ref.injEq, Key.g.injEq] at hz
          have := hfresh w n gn' k' hw
          omega
        · simp only [Option.some.injEq, CV.ref.injEq, Key.g.injEq] at hw
          have := hfresh z n gn k hz
          omega
        · exact h.apart z w n gn gn' k k' hz hw
      · rw [List.getElem?_set_ne (by omega), List.getElem?_append_left (by omega)]; exact h.old i hi
  · -- a row that is made longer
    have hnl := (List.getElem?_eq_some_iff.1 h2).1
    have hmap : (H.set n (.arr (gn + 1) 1 ((f y ++ [a]).flatMap intC) 0))[b]? = some (.map 1 (esI .i64 l)) := by rw [List.getElem?_set_ne (by omega)]; exact h.map
    refine ⟨.ref (.g n) (gn + 1) 0 ((f y).length + 1), H.set n (.arr (gn + 1) 1 ((f y ++ [a]).flatMap intC) 0), (H.set n (.arr (gn + 1) 1 ((f y ++ [a]).flatMap intC) 0)).set b (.map 1 (esI .i64 (aset l y (.ref (.g n) (gn + 1) 0 ((f y).length + 1))))), aset l y (.ref (.g n) (gn + 1) 0 ((f y).length + 1)), ?_, ?_, ?_⟩
    · have htk : ((f y).flatMap intC).take ((f y).length * 1) = (f y).flatMap intC := List.take_of_length_le (by rw [len_int]; omega)
      rw [h1, Option.getD_some, appX_g, hc, clen_r]
      simp only [h2]
      rw [if_pos ⟨trivial, trivial, by omega, smallB_ok (by decide) hl⟩]
      simp only [setG, List.drop_zero, htk, Nat.zero_sub, List.flatMap_append, List.flatMap_cons, List.flatMap_nil, List.append_nil, intC]
    · exact mupX_int (P := Try.prog) (t := 3) (k := .i64) (key := .g b) (g := 1) (a := y) (v := .ref (.g n) (gn + 1) 0 ((f y).length + 1)) (m := ⟨L, H.set n (.arr (gn + 1) 1 ((f y ++ [a]).flatMap intC) 0)⟩) (l := l) Try.underlying3 rfl hmap
    · refine ⟨by simp; omega, by rw [List.getElem?_set_self (by simp; omega)], fun z => ?_, fun z w n' g1 g2 k k' hz hw => ?_, fun i hi => ?_⟩
      · rw [al_aset]
        by_cases hz : y = z
        · subst hz
          right
          refine ⟨n, gn + 1, ?_, hbn, ?_⟩
          · simp
          · rw [List.getElem?_set_ne (by omega), List.getElem?_set_self hnl]
            simp
        · rw [if_neg hz, if_neg (Ne.symm hz)]
          rcases h.row z with h3 | ⟨n', gn', h3, h4, h5⟩
          · exact .inl h3
          · right
            have hne : n ≠ n' := fun e => hz (h.apart y z n gn gn' _ _ h1 (by rw [e]; exact h3))
            exact ⟨n', gn', h3, h4, by rw [List.getElem?_set_ne (by omega), List.getElem?_set_ne hne, h5]⟩
      · rw [al_aset] at hz hw
        split at hz <;> split at hw
        · rename_i e1 e2; rw [← e1, ← e2]
        · rename_i e1 e2
          simp only [Option.some.injEq, CV.ref.injEq, Key.g.injEq] at hz
          rw [← hz.1] at hw
          exact e1 ▸ h.apart y w n gn g2 _ _ h1 hw
        · rename_i e1 e2
          simp only [Option.some.injEq, CV.ref.injEq, Key.g.injEq] at hw
          rw [← hw.1] at hz
          exact e2 ▸ (h.apart y z n gn g1 _ _ h1 hz).symm
        · exact h.apart z w n' g1 g2 k k' hz hw
      · rw [List.getElem?_set_ne (by omega), List.getElem?_set_ne (by omega)]; exact h.old i hi
theorem filter_snoc {d : List Int} {p : Int → Bool} {a : Int} : (d ++ [a]).filter p = d.filter p ++ (if p a then [a] else []) := by
  rw [List.filter_append]
  by_cases h : p a = true
  · rw [List.filter_cons_of_pos h, if_pos h]; rfl
  · rw [List.filter_cons_of_neg h, if_neg h]; rfl
theorem x21 (g : List (List Int)) (hg : Sm g) (gv : CV) (hgv : IsRows gv g) (H : List HO) (vo : CV) (o : List Int) (hv : RdI H vo o) (hr : ∀ x ∈ o, 0 ≤ x ∧ x < g.length) (hol : o.length ≤ 1048576) (hnd : o.Nodup) :
    ∃ H' l, FF 21 [gv, vo] H = some (.map (.g H.length) 1, H') ∧ PInv H.length H H' l (fun y => o.filter fun x => decide (y ∈ ins g x)) := by
  have hres : ∃ r, (∃ H' l, r = (CV.map (.g H.length) 1, H') ∧ PInv H.length H H' l (fun y => o.filter fun x => decide (y ∈ ins g x))) ∧ FF 21 [gv, vo] H = some r := by
    refine Fw_funE rfl Try.func21 s21 (Nat.le_of_ble_eq_true rfl) (fun Q hqr hqn => ?_)
    simp only [tinit, Nat.reduceAdd, c21]
    repeat' (first
    | with_reducible refine Tx_assoc ?_
    | with_reducible refine Tx_blockK (id := 0) (fun Q0 hn0 hx0 hr0 ho0 => ?_)
    | ((with_reducible refine Tx_regK (fun K hK => ?_); (first | with_reducible refine t21r0 ?_ | with_reducible refine t21r1 ?_ | with_reducible refine t21r2 ?_)); (try simp only [true_implies, false_implies, not_true_eq_false, not_false_eq_true, tget_cons, if_true, if_false, Nat.reduceEqDiff, ccells, Obt_some, Kn_normal, newL_eq, newP_eq, newA_eq, newM_eq, newR_eq, newK_eq, nmA_f, nmR_f, gn_var, gn_arr, gn_map, gnext_setL, lget_setL, lget_lset, gnext_lset, setL_setL, setL_H, Nat.reduceMul, Nat.reduceAdd, Nat.zero_add, fldA_ptr, fldA_rptr, List.drop_zero, ld1_l, ld1_r, ldA_l, rd1_var, rd1_arr, List.getElem?_cons_zero, List.getElem?_cons_succ, Obt_lss, Obt_leq, Obt_gtr, Obt_geq, Obt_eql, Obt_neq, Obt_not, gdO_tt, gdO_tf, gdO_ff, gdO_ft, gdO_skip, Option.map_some, pickX_t, pickX_f, Obt_pickS, Obt_gdT, Obt_gdF, Bool.not_true, Bool.not_false, lenS, Obt_map, Obt_add, Obt_sub, Obt_mul, Obt_quo, Obt_rem, Obt_and, Obt_or, Obt_xor, Obt_andNot, Obt_shl, Obt_shr, Obt_neg, Obt_cpl, Obt_conv, Obt_ext, Obt_bind, Obt_ite', appX_l, appX_n, appR_arr, appN_some, content_l, conR_arr, content_nil, clen_n, clen_r, idxS_ref, fillX, bslX, escP_list, List.all_append, stX_l, stV_var, stV_arr, splice, List.take_zero, List.take_succ_cons, List.drop_succ_cons, List.drop_nil, List.nil_append, List.cons_append, List.append_nil, List.length_cons, List.length_nil, Nat.reduceLeDiff, and_self, and_true, true_and, Nat.le_refl, Nat.zero_le, rdA_var, rdA_arr, escP, List.all_cons, List.all_nil, Bool.and_self, Bool.true_and, Bool.and_true, r21, tend, tresAll, tresC, Option.bind_some, mapMem, retv_agc, esc_i, esc_b, esc_n, esc_m, esc_s, retv_l, retR_arr, retv_gref, retv_gmap, retv_gptr, Nat.zero_sub, Nat.sub_self, retv_int, retv_bool, retv_nil, retv_imm, retv_inil, retv_pnil, tup_nil, tup_one, tup_two, Prod.mk.injEq, CV.int.injEq, CV.bool.injEq, ld1_g, ldA_g, getH, getH0, setH, setH0, gnewL_eq, gnewP_eq, gnewA_eq, gnewR_eq, gnewM_eq, gnewK_eq, nmA_t, nmR_t, setG, stX_g, stW_var, List.append_assoc, List.length_append, List.set_cons_succ, List.set_cons_zero, escQ_list, escQ, mmX, invokeC_func, hv.len]))
    | (revert hK; intro hK; (with_reducible refine hK _ ?_; clear hK K)))
    refine Tx_loopK (fun k s => ∃ (d t : List Int) (L : List (Nat × HO)) (H' : List HO) (l : List (Int × CV)), o = d ++ t ∧ k = t.length ∧ PInv H.length H H' l (fun y => d.filter fun x => decide (y ∈ ins g x)) ∧
      s = ⟨[(0, gv), (5, .map (.g H.length) 1), (11, vo), (12, .int .i64 o.length), (13, .int .i64 d.length)], ⟨L, H'⟩⟩) _ ⟨[], o, [], _, [], rfl, rfl, ?_, rfl⟩ ?_
    · exact ⟨by simp, by simp [esI], fun y => .inl ⟨rfl, rfl⟩, (fun y z n gn gn' k k' h => by cases h), fun i hi => List.getElem?_append_left hi⟩
    rintro k s ⟨d, t, L, H', l, h3, rfl, hP, rfl⟩ QL1 hnL1 hxL1 hrL1
    have hlen := congrArg List.length h3
    simp only [List.length_append] at hlen
    cases t with
    | nil =>
      simp only [List.length_nil] at hlen
      simp only [c21l1]
      repeat' (first
      | with_reducible refine Tx_noK rfl ?_
      | with_reducible refine Tx_exitK ?_
      | with_reducible refine Tx_ret ?_
      | with_reducible refine hx0 _ ?_
      | with_reducible refine hxL1 _ _ ?_
      | ((first | (with_reducible refine Tx_regK (fun K hK => ?_); (first | with_reducible refine t21r3 ?_ | with_reducible refine t21r12 ?_)) | with_reducible refine hqr _ ?_); (try simp only [true_implies, false_implies, not_true_eq_false, not_false_eq_true, tget_cons, if_true, if_false, Nat.reduceEqDiff, ccells, Obt_some, Kn_normal, newL_eq, newP_eq, newA_eq, newM_eq, newR_eq, newK_eq, nmA_f, nmR_f, gn_var, gn_arr, gn_map, gnext_setL, lget_setL, lget_lset, gnext_lset, setL_setL, setL_H, Nat.reduceMul, Nat.reduceAdd, Nat.zero_add, fldA_ptr, fldA_rptr, List.drop_zero, ld1_l, ld1_r, ldA_l, rd1_var, rd1_arr, List.getElem?_cons_zero, List.getElem?_cons_succ, Obt_lss, Obt_leq, Obt_gtr, Obt_geq, Obt_eql, Obt_neq, Obt_not, gdO_tt, gdO_tf, gdO_ff, gdO_ft, gdO_skip, Option.map_some, pickX_t, pickX_f, Obt_pickS, Obt_gdT, Obt_gdF, Bool.not_true, Bool.not_false, lenS, Obt_map, Obt_add, Obt_sub, Obt_mul, Obt_quo, Obt_rem, Obt_and, Obt_or, Obt_xor, Obt_andNot, Obt_shl, Obt_shr, Obt_neg, Obt_cpl, Obt_conv, Obt_ext, Obt_bind, Obt_ite', appX_l, appX_n, appR_arr, appN_some, content_l, conR_arr, content_nil, clen_n, clen_r, idxS_ref, fillX, bslX, escP_list, List.all_append, stX_l, stV_var, stV_arr, splice, List.take_zero, List.take_succ_cons, List.drop_succ_cons, List.drop_nil, List.nil_append, List.cons_append, List.append_nil, List.length_cons, List.length_nil, Nat.reduceLeDiff, and_self, and_true, true_and, Nat.le_refl, Nat.zero_le, rdA_var, rdA_arr, escP, List.all_cons, List.all_nil, Bool.and_self, Bool.true_and, Bool.and_true, r21, tend, tresAll, tresC, Option.bind_some, mapMem, retv_agc, esc_i, esc_b, esc_n, esc_m, esc_s, retv_l, retR_arr, retv_gref, retv_gmap, retv_gptr, Nat.zero_sub, Nat.sub_self, retv_int, retv_bool, retv_nil, retv_imm, retv_inil, retv_pnil, tup_nil, tup_one, tup_two, Prod.mk.injEq, CV.int.injEq, CV.bool.injEq]))
      | (revert hK; intro hK; (first | refine And.intro ?_ ?_ | intro _ | omega | (with_reducible refine hK _ ?_; clear hK K))))
      rw [List.append_nil] at h3
      exact ⟨H', l, rfl, by rw [h3]; exact hP⟩
    | cons a t =>
      simp only [List.length_cons] at hlen
      have hal : o[d.length]? = some a := by rw [h3]; simp
      have har := hr a (List.mem_of_getElem? hal)
      have had : a ∉ d := by
        intro h
        rw [h3, List.nodup_append] at hnd
        exact hnd.2.2 a h a List.mem_cons_self rfl
      have hvH : RdI H' vo o := by
        rcases hv with h | h | ⟨n, gn, vl, h1, h2⟩
        · exact .inl h
        · exact .inr (.inl h)
        · exact .inr (.inr ⟨n, gn, vl, h1, by rw [hP.old n (List.getElem?_eq_some_iff.1 h2).1, h2]⟩)
      obtain ⟨p, hp1, hp2⟩ := hvH.at hal (k := .i64)
      have hw : IntKind.i64.wrap ((d.length : Int) + 1) = d.length + 1 := wI (by omega) (by omega)
      simp only [c21l1]
      repeat' (first
      | with_reducible refine Tx_nopK ?_
      | with_reducible refine Tx_yesK rfl ?_
      | with_reducible refine Tx_blockK (id := 1) (fun Q1 hn1 hx1 hr1 ho1 => ?_)
      | ((with_reducible refine Tx_regK (fun K hK => ?_); (first | with_reducible refine t21r3 ?_ | with_reducible refine t21r4 ?_ | with_reducible refine t21r5 ?_)); (try simp only [true_implies, false_implies, not_true_eq_false, not_false_eq_true, tget_cons, if_true, if_false, Nat.reduceEqDiff, ccells, Obt_some, Kn_normal, newL_eq, newP_eq, newA_eq, newM_eq, newR_eq, newK_eq, nmA_f, nmR_f, gn_var, gn_arr, gn_map, gnext_setL, lget_setL, lget_lset, gnext_lset, setL_setL, setL_H, Nat.reduceMul, Nat.reduceAdd, Nat.zero_add, fldA_ptr, fldA_rptr, List.drop_zero, ld1_l, ld1_r, ldA_l, rd1_var, rd1_arr, List.getElem?_cons_zero, List.getElem?_cons_succ, Obt_lss, Obt_leq, Obt_gtr, Obt_geq, Obt_eql, Obt_neq, Obt_not, gdO_tt, gdO_tf, gdO_ff, gdO_ft, gdO_skip, Option.map_some, pickX_t, pickX_f, Obt_pickS, Obt_gdT, Obt_gdF, Bool.not_true, Bool.not_false, lenS, Obt_map, Obt_add, Obt_sub, Obt_mul, Obt_quo, Obt_rem, Obt_and, Obt_or, Obt_xor, Obt_andNot, Obt_shl, Obt_shr, Obt_neg, Obt_cpl, Obt_conv, Obt_ext, Obt_bind, Obt_ite', appX_l, appX_n, appR_arr, appN_some, content_l, conR_arr, content_nil, clen_n, clen_r, idxS_ref, fillX, bslX, escP_list, List.all_append, stX_l, stV_var, stV_arr, splice, List.take_zero, List.take_succ_cons, List.drop_succ_cons, List.drop_nil, List.nil_append, List.cons_append, List.append_nil, List.length_cons, List.length_nil, Nat.reduceLeDiff, and_self, and_true, true_and, Nat.le_refl, Nat.zero_le, rdA_var, rdA_arr, escP, List.all_cons, List.all_nil, Bool.and_self, Bool.true_and, Bool.and_true, r21, tend, tresAll, tresC, Option.bind_some, mapMem, retv_agc, esc_i, esc_b, esc_n, esc_m, esc_s, retv_l, retR_arr, retv_gref, retv_gmap, retv_gptr, Nat.zero_sub, Nat.sub_self, retv_int, retv_bool, retv_nil, retv_imm, retv_inil, retv_pnil, tup_nil, tup_one, tup_two, Prod.mk.injEq, CV.int.injEq, CV.bool.injEq, hp1, hp2]))
      | (revert hK; intro hK; (first | refine And.intro ?_ ?_ | intro _ | omega | (with_reducible refine hK _ ?_; clear hK K))))
      refine k29 g hg gv hgv a har.1 har.2 rfl fun vi m' hO hH' hf => ?_
      simp only [hO.len, Obt_some]
      refine hK _ ?_
      clear hK K
      obtain ⟨L2, H2⟩ := m'
      (try simp only at hH')
      have hH2 := hH'.symm
      subst hH2
      repeat' (first
      | with_reducible refine Tx_blockE (id := 2) (fun Q2 hn2 hx2 hr2 ho2 => ?_))
      have hil : (ins g a).length ≤ 17592186044416 := by
        unfold ins
        refine Nat.le_trans (List.length_filter_le _ _) ?_
        rw [List.getD_eq_getElem?_getD, List.getElem?_eq_getElem (show a.toNat < g.length by omega), Option.getD_some]
        exact hg.2 _ (List.getElem_mem _)
      refine Tx_loopK (fun k s => ∃ (d' t' : List Int) (L : List (Nat × HO)) (H' : List HO) (l : List (Int × CV)), ins g a = d' ++ t' ∧ k = t'.length ∧ PInv H.length H H' l (fun y => (d.filter fun x => decide (y ∈ ins g x)) ++ if y ∈ d' then [a] else []) ∧ OwnE intC 1 ⟨L, H'⟩ 304 vi (ins g a) ∧
        s = ⟨[(0, gv), (5, .map (.g H.length) 1), (7, .int .i64 a), (11, vo), (12, .int .i64 o.length), (13, .int .i64 d.length), (19, vi), (20, .int .i64 (ins g a).length), (21, .int .i64 d'.length)], ⟨L, H'⟩⟩) _ ⟨[], ins g a, L2, H', l, rfl, rfl, ?_, hO, rfl⟩ ?_
      · simpa using hP
      rintro k s ⟨d', t', L3, H3, l3, h4, rfl, hP3, hO3, rfl⟩ QL0 hnL0 hxL0 hrL0
      have hlen' := congrArg List.length h4
      simp only [List.length_append] at hlen'
      cases t' with
      | nil =>
        simp only [List.length_nil] at hlen'
        simp only [c21l0]
        repeat' (first
        | with_reducible refine Tx_noK rfl ?_
        | with_reducible refine Tx_exitK ?_
        | with_reducible refine hn1 _ ?_
        | with_reducible refine hx2 _ ?_
        | with_reducible refine hxL0 _ _ ?_
        | (((first | with_reducible refine Tx_regK (fun K hK => ?_) | with_reducible refine Tx_regE (fun K hK => ?_)); (first | with_reducible refine t21r6 ?_ | with_reducible refine t21r11 ?_)); (try simp only [true_implies, false_implies, not_true_eq_false, not_false_eq_true, tget_cons, if_true, if_false, Nat.reduceEqDiff, ccells, Obt_some, Kn_normal, newL_eq, newP_eq, newA_eq, newM_eq, newR_eq, newK_eq, nmA_f, nmR_f, gn_var, gn_arr, gn_map, gnext_setL, lget_setL, lget_lset, gnext_lset, setL_setL, setL_H, Nat.reduceMul, Nat.reduceAdd, Nat.zero_add, fldA_ptr, fldA_rptr, List.drop_zero, ld1_l, ld1_r, ldA_l, rd1_var, rd1_arr, List.getElem?_cons_zero, List.getElem?_cons_succ, Obt_lss, Obt_leq, Obt_gtr, Obt_geq, Obt_eql, Obt_neq, Obt_not, gdO_tt, gdO_tf, gdO_ff, gdO_ft, gdO_skip, Option.map_some, pickX_t, pickX_f, Obt_pickS, Obt_gdT, Obt_gdF, Bool.not_true, Bool.not_false, lenS, Obt_map, Obt_add, Obt_sub, Obt_mul, Obt_quo, Obt_rem, Obt_and, Obt_or, Obt_xor, Obt_andNot, Obt_shl, Obt_shr, Obt_neg, Obt_cpl, Obt_conv, Obt_ext, Obt_bind, Obt_ite', appX_l, appX_n, appR_arr, appN_some, content_l, conR_arr, content_nil, clen_n, clen_r, idxS_ref, fillX, bslX, escP_list, List.all_append, stX_l, stV_var, stV_arr, splice, List.take_zero, List.take_succ_cons, List.drop_succ_cons, List.drop_nil, List.nil_append, List.cons_append, List.append_nil, List.length_cons, List.length_nil, Nat.reduceLeDiff, and_self, and_true, true_and, Nat.le_refl, Nat.zero_le, rdA_var, rdA_arr, escP, List.all_cons, List.all_nil, Bool.and_self, Bool.true_and, Bool.and_true, r21, tend, tresAll, tresC, Option.bind_some, mapMem, retv_agc, esc_i, esc_b, esc_n, esc_m, esc_s, retv_l, retR_arr, retv_gref, retv_gmap, retv_gptr, Nat.zero_sub, Nat.sub_self, retv_int, retv_bool, retv_nil, retv_imm, retv_inil, retv_pnil, tup_nil, tup_one, tup_two, Prod.mk.injEq, CV.int.injEq, CV.bool.injEq, hw]))
        | (revert hK; intro hK; (first | refine And.intro ?_ ?_ | intro _ | omega | (with_reducible refine hK _ ?_; clear hK K))))
        rw [List.append_nil] at h4
        refine hnL1 t.length _ (by simp) ⟨d ++ [a], t, L3, H3, l3, by simp [h3], rfl, ?_, by simp⟩
        have : (fun y => (d ++ [a]).filter fun x => decide (y ∈ ins g x)) = fun y => (d.filter fun x => decide (y ∈ ins g x)) ++ if y ∈ d' then [a] else [] := by
          funext y; rw [filter_snoc, ← h4]; simp
        rw [this]; exact hP3
      | cons b t' =>
        simp only [List.length_cons] at hlen'
        have hbl : (ins g a)[d'.length]? = some b := by rw [h4]; simp
        obtain ⟨q, hq1, hq2⟩ := hO3.at hbl (k := .i64)
        have hw' : IntKind.i64.wrap ((d'.length : Int) + 1) = d'.length + 1 := wI (by omega) (by omega)
        have hlk := lookX_int (t := 3) (a := b) (z := .nil) (ok := false) Try.underlying3 (mapOf_g (m := ⟨L3, H3⟩) hP3.map)
        simp only [Bool.false_eq_true, if_false] at hlk
        have hfl := List.length_filter_le (fun x => decide (b ∈ ins g x)) d
        have hcl : ((d.filter fun x => decide (b ∈ ins g x)) ++ if b ∈ d' then [a] else []).length ≤ 1048577 := by
          rw [List.length_append]; split <;> simp <;> omega
        have hct : callC An FF 21 (some 29) 22 [(al l3 b).getD .nil, .int .i64 a] ⟨L3, H3⟩ = some (.bool (decide (b ∈ d')), ⟨L3, H3⟩) := by
          have hR := RdI.esc (.inr (hP3.ref b))
          rw [callC_I rfl (by simp only [List.all_cons, hR]; rfl) (x22 H3 _ _ a (.inr (hP3.ref b)) (by omega)), adopt_bool]
          congr 3
          have : a ∉ d.filter fun x => decide (b ∈ ins g x) := fun h => had (List.mem_filter.1 h).1
          by_cases hb : b ∈ d' <;> simp [hb, had]
        simp only [c21l0]
        by_cases hb : b ∈ d'
        · repeat' (first
          | with_reducible refine Tx_nopK ?_
          | with_reducible refine Tx_yesK rfl ?_
          | with_reducible refine Tx_no rfl ?_
          | with_reducible refine Tx_nop ?_
          | with_reducible refine Tx_blockK (id := 3) (fun Q3 hn3 hx3 hr3 ho3 => ?_)
          | with_reducible refine hn3 _ ?_
          | (((first | with_reducible refine Tx_regK (fun K hK => ?_) | with_reducible refine Tx_regE (fun K hK => ?_)); (first | with_reducible refine t21r6 ?_ | with_reducible refine t21r7 ?_ | with_reducible refine t21r8 ?_ | with_reducible refine t21r10 ?_)); (try simp only [true_implies, false_implies, not_true_eq_false, not_false_eq_true, tget_cons, if_true, if_false, Nat.reduceEqDiff, ccells, Obt_some, Kn_normal, newL_eq, newP_eq, newA_eq, newM_eq, newR_eq, newK_eq, nmA_f, nmR_f, gn_var, gn_arr, gn_map, gnext_setL, lget_setL, lget_lset, gnext_lset, setL_setL, setL_H, Nat.reduceMul, Nat.reduceAdd, Nat.zero_add, fldA_ptr, fldA_rptr, List.drop_zero, ld1_l, ld1_r, ldA_l, rd1_var, rd1_arr, List.getElem?_cons_zero, List.getElem?_cons_succ, Obt_lss, Obt_leq, Obt_gtr, Obt_geq, Obt_eql, Obt_neq, Obt_not, gdO_tt, gdO_tf, gdO_ff, gdO_ft, gdO_skip, Option.map_some, pickX_t, pickX_f, Obt_pickS, Obt_gdT, Obt_gdF, Bool.not_true, Bool.not_false, lenS, Obt_map, Obt_add, Obt_sub, Obt_mul, Obt_quo, Obt_rem, Obt_and, Obt_or, Obt_xor, Obt_andNot, Obt_shl, Obt_shr, Obt_neg, Obt_cpl, Obt_conv, Obt_ext, Obt_bind, Obt_ite', appX_l, appX_n, appR_arr, appN_some, content_l, conR_arr, content_nil, clen_n, clen_r, idxS_ref, fillX, bslX, escP_list, List.all_append, stX_l, stV_var, stV_arr, splice, List.take_zero, List.take_succ_cons, List.drop_succ_cons, List.drop_nil, List.nil_append, List.cons_append, List.append_nil, List.length_cons, List.length_nil, Nat.reduceLeDiff, and_self, and_true, true_and, Nat.le_refl, Nat.zero_le, rdA_var, rdA_arr, escP, List.all_cons, List.all_nil, Bool.and_self, Bool.true_and, Bool.and_true, r21, tend, tresAll, tresC, Option.bind_some, mapMem, retv_agc, esc_i, esc_b, esc_n, esc_m, esc_s, retv_l, retR_arr, retv_gref, retv_gmap, retv_gptr, Nat.zero_sub, Nat.sub_self, retv_int, retv_bool, retv_nil, retv_imm, retv_inil, retv_pnil, tup_nil, tup_one, tup_two, Prod.mk.injEq, CV.int.injEq, CV.bool.injEq, hq1, hq2, hlk, hct, hb, decide_true, hw']))
          | (revert hK; intro hK; (first | refine And.intro ?_ ?_ | intro _ | omega | (with_reducible refine hK _ ?_; clear hK K))))
          refine hnL0 t'.length _ (by simp) ⟨d' ++ [b], t', L3, H3, l3, by simp [h4], rfl, ?_, hO3, by simp⟩
          have : (fun y => (d.filter fun x => decide (y ∈ ins g x)) ++ if y ∈ d' ++ [b] then [a] else []) = fun y => (d.filter fun x => decide (y ∈ ins g x)) ++ if y ∈ d' then [a] else [] := by
            funext y
            have : (y ∈ d' ++ [b]) ↔ y ∈ d' := by
              rw [List.mem_append, List.mem_singleton]
              exact ⟨fun h => h.elim (fun h => h) (fun h => by rw [h]; exact hb), .inl⟩
            simp only [this]
          rw [this]; exact hP3
        · repeat' (first
          | with_reducible refine Tx_nopK ?_
          | with_reducible refine Tx_yesK rfl ?_
          | with_reducible refine Tx_yes rfl ?_
          | with_reducible refine Tx_blockK (id := 3) (fun Q3 hn3 hx3 hr3 ho3 => ?_)
          | (((first | with_reducible refine Tx_regK (fun K hK => ?_) | with_reducible refine Tx_regE (fun K hK => ?_)); (first | with_reducible refine t21r6 ?_ | with_reducible refine t21r7 ?_ | with_reducible refine t21r8 ?_ | with_reducible refine t21r9 ?_)); (try simp only [true_implies, false_implies, not_true_eq_false, not_false_eq_true, tget_cons, if_true, if_false, Nat.reduceEqDiff, ccells, Obt_some, Kn_normal, newL_eq, newP_eq, newA_eq, newM_eq, newR_eq, newK_eq, nmA_f, nmR_f, gn_var, gn_arr, gn_map, gnext_setL, lget_setL, lget_lset, gnext_lset, setL_setL, setL_H, Nat.reduceMul, Nat.reduceAdd, Nat.zero_add, fldA_ptr, fldA_rptr, List.drop_zero, ld1_l, ld1_r, ldA_l, rd1_var, rd1_arr, List.getElem?_cons_zero, List.getElem?_cons_succ, Obt_lss, Obt_leq, Obt_gtr, Obt_geq, Obt_eql, Obt_neq, Obt_not, gdO_tt, gdO_tf, gdO_ff, gdO_ft, gdO_skip, Option.map_some, pickX_t, pickX_f, Obt_pickS, Obt_gdT, Obt_gdF, Bool.not_true, Bool.not_false, lenS, Obt_map, Obt_add, Obt_sub, Obt_mul, Obt_quo, Obt_rem, Obt_and, Obt_or, Obt_xor, Obt_andNot, Obt_shl, Obt_shr, Obt_neg, Obt_cpl, Obt_conv, Obt_ext, Obt_bind, Obt_ite', appX_l, appX_n, appR_arr, appN_some, content_l, conR_arr, content_nil, clen_n, clen_r, idxS_ref, fillX, bslX, escP_list, List.all_append, stX_l, stV_var, stV_arr, splice, List.take_zero, List.take_succ_cons, List.drop_succ_cons, List.drop_nil, List.nil_append, List.cons_append, List.append_nil, List.length_cons, List.length_nil, Nat.reduceLeDiff, and_self, and_true, true_and, Nat.le_refl, Nat.zero_le, rdA_var, rdA_arr, escP, List.all_cons, List.all_nil, Bool.and_self, Bool.true_and, Bool.and_true, r21, tend, tresAll, tresC, Option.bind_some, mapMem, retv_agc, esc_i, esc_b, esc_n, esc_m, esc_s, retv_l, retR_arr, retv_gref, retv_gmap, retv_gptr, Nat.zero_sub, Nat.sub_self, retv_int, retv_bool, retv_nil, retv_imm, retv_inil, retv_pnil, tup_nil, tup_one, tup_two, Prod.mk.injEq, CV.int.injEq, CV.bool.injEq, hq1, hq2, hlk, hct, hb, decide_false, hw']))
          | (revert hK; intro hK; (first | refine And.intro ?_ ?_ | intro _ | omega | (with_reducible refine hK _ ?_; clear hK K))))
          obtain ⟨v, H4, H5, l5, a1, a2, a3⟩ := hP3.step b a (j := 608) (jt := 592) (gt := gnext L3 592) (L := (setL ⟨L3, H3⟩ 592 (.arr (gnext L3 592) 1 [.int .i64 a] 0)).L) (by rw [lget_setL, if_pos rfl]) (by omega)
          refine Obt_of a1 ?_
          refine Obt_of a2 ?_
          refine hK _ ?_
          clear hK K
          repeat' (first
          | with_reducible refine hn3 _ ?_
          | ((with_reducible refine Tx_regE (fun K hK => ?_); with_reducible refine t21r10 ?_); (try simp only [true_implies, false_implies, not_true_eq_false, not_false_eq_true, tget_cons, if_true, if_false, Nat.reduceEqDiff, ccells, Obt_some, Kn_normal, newL_eq, newP_eq, newA_eq, newM_eq, newR_eq, newK_eq, nmA_f, nmR_f, gn_var, gn_arr, gn_map, gnext_setL, lget_setL, lget_lset, gnext_lset, setL_setL, setL_H, Nat.reduceMul, Nat.reduceAdd, Nat.zero_add, fldA_ptr, fldA_rptr, List.drop_zero, ld1_l, ld1_r, ldA_l, rd1_var, rd1_arr, List.getElem?_cons_zero, List.getElem?_cons_succ, Obt_lss, Obt_leq, Obt_gtr, Obt_geq, Obt_eql, Obt_neq, Obt_not, gdO_tt, gdO_tf, gdO_ff, gdO_ft, gdO_skip, Option.map_some, pickX_t, pickX_f, Obt_pickS, Obt_gdT, Obt_gdF, Bool.not_true, Bool.not_false, lenS, Obt_map, Obt_add, Obt_sub, Obt_mul, Obt_quo, Obt_rem, Obt_and, Obt_or, Obt_xor, Obt_andNot, Obt_shl, Obt_shr, Obt_neg, Obt_cpl, Obt_conv, Obt_ext, Obt_bind, Obt_ite', appX_l, appX_n, appR_arr, appN_some, content_l, conR_arr, content_nil, clen_n, clen_r, idxS_ref, fillX, bslX, escP_list, List.all_append, stX_l, stV_var, stV_arr, splice, List.take_zero, List.take_succ_cons, List.drop_succ_cons, List.drop_nil, List.nil_append, List.cons_append, List.append_nil, List.length_cons, List.length_nil, Nat.reduceLeDiff, and_self, and_true, true_and, Nat.le_refl, Nat.zero_le, rdA_var, rdA_arr, escP, List.all_cons, List.all_nil, Bool.and_self, Bool.true_and, Bool.and_true, r21, tend, tresAll, tresC, Option.bind_some, mapMem, retv_agc, esc_i, esc_b, esc_n, esc_m, esc_s, retv_l, retR_arr, retv_gref, retv_gmap, retv_gptr, Nat.zero_sub, Nat.sub_self, retv_int, retv_bool, retv_nil, retv_imm, retv_inil, retv_pnil, tup_nil, tup_one, tup_two, Prod.mk.injEq, CV.int.injEq, CV.bool.injEq, hw']))
          | (revert hK; intro hK; (with_reducible refine hK _ ?_; clear hK K)))
          refine hnL0 t'.length _ (by simp) ⟨d' ++ [b], t', (setL ⟨L3, H3⟩ 592 (.arr (gnext L3 592) 1 [.int .i64 a] 0)).L, H5, l5, by simp [h4], rfl, ?_, hO3.keep (by rw [lget_setL, if_neg (by decide)]), by simp⟩
          have : (fun y => (d.filter fun x => decide (y ∈ ins g x)) ++ if y ∈ d' ++ [b] then [a] else []) = fun z => if z = b then ((d.filter fun x => decide (b ∈ ins g x)) ++ if b ∈ d' then [a] else []) ++ [a] else (d.filter fun x => decide (z ∈ ins g x)) ++ if z ∈ d' then [a] else [] := by
            funext y
            by_cases hy : y = b
            · subst hy; simp [hb]
            · simp [hy]
          rw [this]; exact a3
  obtain ⟨_, ⟨H', l, rfl, h1⟩, h2⟩ := hres
  exact ⟨H', l, h2, h1⟩
end Go.Cm
