/-
  Graphs: who dominates stands first in the order.
-/
import Derived.Test.YthjkmonenenlmaaDoI
set_option linter.unusedSimpArgs false
set_option linter.unusedVariables false
namespace Go.Cm
open Go.Proofs Go.Gr
/-- where a node stands, from 1 on; 0 if nowhere -/
def placeL (g : List (List Int)) (d : List Int) (at_ : List Int) : Prop := at_.length = g.length ∧ ∀ j : Nat, j < g.length → at_[j]? = some (if (j : Int) ∈ d then (pl g j : Int) + 1 else 0)
theorem x7 (g : List (List Int)) (hr0 : ∀ r ∈ g, r.length ≤ 17592186044416) : ∃ r, (∃ H', r = (CV.bool true, H')) ∧ FF 7 [rowsC g] [] = some r := by
  have hgv := IsRows.of g
  by_cases hs : (g.length : Int) ≤ 60
  · by_cases hgn : g = []
    · subst hgn
      refine Fw_funE rfl Try.func7 s7 (Nat.le_of_ble_eq_true rfl) (fun Q hqr hqn => ?_)
      simp only [tinit, Nat.reduceAdd, c7]
      repeat' (first
        | with_reducible refine Tx_assoc ?_
        | with_reducible refine Tx_nopK ?_
        | with_reducible refine Tx_yesK rfl ?_
        | with_reducible refine Tx_noK rfl ?_
        | with_reducible refine Tx_ifK rfl (fun _ => ?_) (fun _ => ?_)
        | with_reducible refine Tx_yes rfl ?_
        | with_reducible refine Tx_no rfl ?_
        | with_reducible refine Tx_if rfl (fun _ => ?_) (fun _ => ?_)
        | with_reducible refine Tx_retK ?_
        | with_reducible refine Tx_exitK ?_
        | with_reducible refine Tx_ret ?_
        | with_reducible refine Tx_exit ?_
        | with_reducible refine Tx_nop ?_
        | with_reducible refine Tx_blockK (id := 0) (fun Q0 hn0 hx0 hr0 ho0 => ?_)
        | with_reducible refine Tx_blockE (id := 0) (fun Q0 hn0 hx0 hr0 ho0 => ?_)
        | with_reducible refine hn0 _ ?_
        | with_reducible refine hx0 _ ?_
        | with_reducible refine hr0 _ ?_
        | with_reducible refine ho0 _ _ (by decide) ?_
        | with_reducible refine Tx_blockK (id := 1) (fun Q1 hn1 hx1 hr1 ho1 => ?_)
        | with_reducible refine Tx_blockE (id := 1) (fun Q1 hn1 hx1 hr1 ho1 => ?_)
        | with_reducible refine hn1 _ ?_
        | with_reducible refine hx1 _ ?_
        | with_reducible refine hr1 _ ?_
        | with_reducible refine ho1 _ _ (by decide) ?_
        | with_reducible refine Tx_blockK (id := 2) (fun Q2 hn2 hx2 hr2 ho2 => ?_)
        | with_reducible refine Tx_blockE (id := 2) (fun Q2 hn2 hx2 hr2 ho2 => ?_)
        | with_reducible refine hn2 _ ?_
        | with_reducible refine hx2 _ ?_
        | with_reducible refine hr2 _ ?_
        | with_reducible refine ho2 _ _ (by decide) ?_
        | with_reducible refine Tx_blockK (id := 3) (fun Q3 hn3 hx3 hr3 ho3 => ?_)
        | with_reducible refine Tx_blockE (id := 3) (fun Q3 hn3 hx3 hr3 ho3 => ?_)
        | with_reducible refine hn3 _ ?_
        | with_reducible refine hx3 _ ?_
        | with_reducible refine hr3 _ ?_
        | with_reducible refine ho3 _ _ (by decide) ?_
        | with_reducible refine hxL0 _ _ ?_
        | with_reducible refine hrL0 _ ?_
        | with_reducible refine hxL1 _ _ ?_
        | with_reducible refine hrL1 _ ?_
        | ((first | ((first | with_reducible refine Tx_regK (fun K hK => ?_) | with_reducible refine Tx_regE (fun K hK => ?_)); (first | with_reducible refine t7r0 ?_ | with_reducible refine t7r1 ?_ | with_reducible refine t7r2 ?_ | with_reducible refine t7r3 ?_ | with_reducible refine t7r4 ?_ | with_reducible refine t7r5 ?_ | with_reducible refine t7r6 ?_ | with_reducible refine t7r7 ?_ | with_reducible refine t7r8 ?_ | with_reducible refine t7r9 ?_ | with_reducible refine t7r10 ?_ | with_reducible refine t7r12 ?_ | with_reducible refine t7r13 ?_ | with_reducible refine t7r14 ?_ | with_reducible refine t7r11 ?_ | with_reducible refine t7r15 ?_ | with_reducible refine t7r16 ?_ | with_reducible refine t7r18 ?_ | with_reducible refine t7r19 ?_ | with_reducible refine t7r17 ?_ | with_reducible refine t7r20 ?_)) | with_reducible refine hqr _ ?_ | with_reducible refine hqn _ ?_); (try simp only [true_implies, false_implies, not_true_eq_false, not_false_eq_true, tget_cons, if_true, if_false, Nat.reduceEqDiff, ccells, Obt_some, Kn_normal, newL_eq, newP_eq, newA_eq, newM_eq, newR_eq, newK_eq, nmA_f, nmR_f, gn_var, gn_arr, gn_map, gnext_setL, lget_setL, lget_lset, gnext_lset, setL_setL, setL_H, Nat.reduceMul, Nat.reduceAdd, Nat.zero_add, fldA_ptr, fldA_rptr, List.drop_zero, ld1_l, ld1_r, ldA_l, rd1_var, rd1_arr, List.getElem?_cons_zero, List.getElem?_cons_succ, Obt_lss, Obt_leq, Obt_gtr, Obt_geq, Obt_eql, Obt_neq, Obt_not, gdO_tt, gdO_tf, gdO_ff, gdO_ft, gdO_skip, Option.map_some, pickX_t, pickX_f, Obt_pickS, Obt_gdT, Obt_gdF, Bool.not_true, Bool.not_false, lenS, Obt_map, Obt_add, Obt_sub, Obt_mul, Obt_quo, Obt_rem, Obt_and, Obt_or, Obt_xor, Obt_andNot, Obt_shl, Obt_shr, Obt_neg, Obt_cpl, Obt_conv, Obt_ext, Obt_bind, Obt_ite', appX_l, appX_n, appR_arr, appN_some, content_l, conR_arr, content_nil, clen_n, clen_r, idxS_ref, fillX, bslX, escP_list, List.all_append, stX_l, stV_var, stV_arr, splice, List.take_zero, List.take_succ_cons, List.drop_succ_cons, List.drop_nil, List.nil_append, List.cons_append, List.append_nil, List.length_cons, List.length_nil, Nat.reduceLeDiff, and_self, and_true, true_and, Nat.le_refl, Nat.zero_le, rdA_var, rdA_arr, escP, List.all_cons, List.all_nil, Bool.and_self, Bool.true_and, Bool.and_true, r7, tend, tresAll, tresC, Option.bind_some, mapMem, retv_agc, esc_i, esc_b, esc_n, esc_m, esc_s, retv_l, retR_arr, retv_gref, retv_gmap, retv_gptr, Nat.zero_sub, Nat.sub_self, retv_int, retv_bool, retv_nil, retv_imm, retv_inil, retv_pnil, tup_nil, tup_one, tup_two, Prod.mk.injEq, CV.int.injEq, CV.bool.injEq, clen_rowsC, k8 ([] : List (List Int)) _ hgv true (by decide), List.length_nil, Int.natCast_zero, k9]))
        | (revert hK; intro hK; (first | refine And.intro ?_ ?_ | (refine fun (h : (_ : Bool) = _) => ?_; subst h) | intro _ | omega | (with_reducible refine hK _ ?_; clear hK K))))
      all_goals exact ⟨_, rfl⟩
    · have hg : Sm g := Sm.of hs hr0
      have hlen0 : 0 < g.length := List.length_pos_iff.2 hgn
      have hne0 : ¬ (g.length : Int) = 0 := by omega
      have hol := ord_len g
      obtain ⟨rest, hhead⟩ := ord_head hgn
      have hol0 : ¬ ((ord g).length : Int) = 0 := by rw [hhead]; simp; omega
      obtain ⟨v, T, ho1, ho2⟩ := x19 g hg _ hgv []
      simp only [List.nil_append] at ho1 ho2
      obtain ⟨_, ⟨v2, H', up, rfl, ⟨nu, _, rfl, hup⟩, hul, hok, hoff, hold⟩, hid⟩ := x16 g hg _ hgv T
      have hvH : RefG H' v (ord g) := ho2.mono hold
      obtain ⟨hI, hF⟩ := hok hgn
      have hc1 : ∀ L, callC An FF 7 (some 19) 19 [rowsC g] ⟨L, []⟩ = some (v, ⟨L, T⟩) := by
        intro L
        rw [callC_I rfl (by simp only [List.all_cons, List.all_nil, escP_escQ hgv.esc, Bool.and_self]) ho1]
        rcases ho2 with ⟨_, rfl⟩ | ⟨n, gn, vl, rfl, _⟩ <;> rfl
      have hc2 : ∀ L, callC An FF 7 (some 21) 16 [rowsC g] ⟨L, T⟩ = some (.ref (.g nu) 1 0 g.length, ⟨L, H'⟩) := fun L => by
        rw [callC_I rfl (by simp only [List.all_cons, List.all_nil, escP_escQ hgv.esc, Bool.and_self]) hid]; rfl
      have hkr := fun L => k10 g hg _ hgv (fid := 7) (d := 23) (m := ⟨L, H'⟩) rfl
      have hsetL : ∀ L j o, setL ⟨L, H'⟩ j o = ⟨lset L j o, H'⟩ := fun _ _ _ => rfl
      have hmk := fun m => mkX_l (j := 784) (sz := 1) (b := 8) (z := [.int .i64 0]) (k := .i64) (n := g.length) (m := m) rfl (by omega) (by omega)
      obtain ⟨p0, hp01, hp02⟩ := hvH.at (i := 0) (a := 0) (by rw [hhead]; rfl) (k := .i64)
      have hp01 : idxS 1 v (.int .i64 0) = some p0 := hp01
      have hrl : (reachL g).length = g.length := by simp [reachL]
      refine Fw_funE rfl Try.func7 s7 (Nat.le_of_ble_eq_true rfl) (fun Q hqr hqn => ?_)
      simp only [tinit, Nat.reduceAdd, c7]
      repeat' (first
        | with_reducible refine Tx_assoc ?_
        | with_reducible refine Tx_nopK ?_
        | with_reducible refine Tx_yesK rfl ?_
        | with_reducible refine Tx_noK rfl ?_
        | with_reducible refine Tx_ifK rfl (fun _ => ?_) (fun _ => ?_)
        | with_reducible refine Tx_yes rfl ?_
        | with_reducible refine Tx_no rfl ?_
        | with_reducible refine Tx_if rfl (fun _ => ?_) (fun _ => ?_)
        | with_reducible refine Tx_retK ?_
        | with_reducible refine Tx_exitK ?_
        | with_reducible refine Tx_ret ?_
        | with_reducible refine Tx_exit ?_
        | with_reducible refine Tx_nop ?_
        | with_reducible refine Tx_blockK (id := 0) (fun Q0 hn0 hx0 hr0 ho0 => ?_)
        | with_reducible refine Tx_blockE (id := 0) (fun Q0 hn0 hx0 hr0 ho0 => ?_)
        | with_reducible refine hn0 _ ?_
        | with_reducible refine hx0 _ ?_
        | with_reducible refine hr0 _ ?_
        | with_reducible refine ho0 _ _ (by decide) ?_
        | with_reducible refine Tx_blockK (id := 1) (fun Q1 hn1 hx1 hr1 ho1 => ?_)
        | with_reducible refine Tx_blockE (id := 1) (fun Q1 hn1 hx1 hr1 ho1 => ?_)
        | with_reducible refine hn1 _ ?_
        | with_reducible refine hx1 _ ?_
        | with_reducible refine hr1 _ ?_
        | with_reducible refine ho1 _ _ (by decide) ?_
        | with_reducible refine Tx_blockK (id := 2) (fun Q2 hn2 hx2 hr2 ho2 => ?_)
        | with_reducible refine Tx_blockE (id := 2) (fun Q2 hn2 hx2 hr2 ho2 => ?_)
        | with_reducible refine hn2 _ ?_
        | with_reducible refine hx2 _ ?_
        | with_reducible refine hr2 _ ?_
        | with_reducible refine ho2 _ _ (by decide) ?_
        | with_reducible refine Tx_blockK (id := 3) (fun Q3 hn3 hx3 hr3 ho3 => ?_)
        | with_reducible refine Tx_blockE (id := 3) (fun Q3 hn3 hx3 hr3 ho3 => ?_)
        | with_reducible refine hn3 _ ?_
        | with_reducible refine hx3 _ ?_
        | with_reducible refine hr3 _ ?_
        | with_reducible refine ho3 _ _ (by decide) ?_
        | with_reducible refine hxL0 _ _ ?_
        | with_reducible refine hrL0 _ ?_
        | with_reducible refine hxL1 _ _ ?_
        | with_reducible refine hrL1 _ ?_
        | ((first | ((first | with_reducible refine Tx_regK (fun K hK => ?_) | with_reducible refine Tx_regE (fun K hK => ?_)); (first | with_reducible refine t7r0 ?_ | with_reducible refine t7r1 ?_ | with_reducible refine t7r2 ?_ | with_reducible refine t7r3 ?_ | with_reducible refine t7r4 ?_ | with_reducible refine t7r5 ?_ | with_reducible refine t7r6 ?_ | with_reducible refine t7r7 ?_ | with_reducible refine t7r8 ?_ | with_reducible refine t7r9 ?_ | with_reducible refine t7r10 ?_ | with_reducible refine t7r12 ?_ | with_reducible refine t7r13 ?_ | with_reducible refine t7r14 ?_ | with_reducible refine t7r11 ?_ | with_reducible refine t7r15 ?_ | with_reducible refine t7r16 ?_ | with_reducible refine t7r18 ?_ | with_reducible refine t7r19 ?_ | with_reducible refine t7r17 ?_ | with_reducible refine t7r20 ?_)) | with_reducible refine hqr _ ?_ | with_reducible refine hqn _ ?_); (try simp only [true_implies, false_implies, not_true_eq_false, not_false_eq_true, tget_cons, if_true, if_false, Nat.reduceEqDiff, ccells, Obt_some, Kn_normal, newL_eq, newP_eq, newA_eq, newM_eq, newR_eq, newK_eq, nmA_f, nmR_f, gn_var, gn_arr, gn_map, gnext_setL, lget_setL, lget_lset, gnext_lset, setL_setL, setL_H, Nat.reduceMul, Nat.reduceAdd, Nat.zero_add, fldA_ptr, fldA_rptr, List.drop_zero, ld1_l, ld1_r, ldA_l, rd1_var, rd1_arr, List.getElem?_cons_zero, List.getElem?_cons_succ, Obt_lss, Obt_leq, Obt_gtr, Obt_geq, Obt_eql, Obt_neq, Obt_not, gdO_tt, gdO_tf, gdO_ff, gdO_ft, gdO_skip, Option.map_some, pickX_t, pickX_f, Obt_pickS, Obt_gdT, Obt_gdF, Bool.not_true, Bool.not_false, lenS, Obt_map, Obt_add, Obt_sub, Obt_mul, Obt_quo, Obt_rem, Obt_and, Obt_or, Obt_xor, Obt_andNot, Obt_shl, Obt_shr, Obt_neg, Obt_cpl, Obt_conv, Obt_ext, Obt_bind, Obt_ite', appX_l, appX_n, appR_arr, appN_some, content_l, conR_arr, content_nil, clen_n, clen_r, idxS_ref, fillX, bslX, escP_list, List.all_append, stX_l, stV_var, stV_arr, splice, List.take_zero, List.take_succ_cons, List.drop_succ_cons, List.drop_nil, List.nil_append, List.cons_append, List.append_nil, List.length_cons, List.length_nil, Nat.reduceLeDiff, and_self, and_true, true_and, Nat.le_refl, Nat.zero_le, rdA_var, rdA_arr, escP, List.all_cons, List.all_nil, Bool.and_self, Bool.true_and, Bool.and_true, r7, tend, tresAll, tresC, Option.bind_some, mapMem, retv_agc, esc_i, esc_b, esc_n, esc_m, esc_s, retv_l, retR_arr, retv_gref, retv_gmap, retv_gptr, Nat.zero_sub, Nat.sub_self, retv_int, retv_bool, retv_nil, retv_imm, retv_inil, retv_pnil, tup_nil, tup_one, tup_two, Prod.mk.injEq, CV.int.injEq, CV.bool.injEq, clen_rowsC, k8 g _ hgv true (decide_eq_true hs), hne0, hol0, hc1, hc2, hkr, hsetL, hvH.len, hp01, hp02, hmk, reps_int]))
        | (revert hK; intro hK; (first | refine And.intro ?_ ?_ | (refine fun (h : (_ : Bool) = _) => ?_; subst h) | intro _ | omega | (with_reducible refine hK _ ?_; clear hK K))))
      generalize hr368 : gnext [] 368 = g368
      refine Tx_loopK (fun k s => ∃ (d t atl : List Int) (gn : Nat) (L : List (Nat × HO)), ord g = d ++ t ∧ k = t.length ∧ placeL g d atl ∧
        s = ⟨[(0, rowsC g), (3, v), (4, .ref (.g nu) 1 0 g.length), (5, .ref (.l 368) g368 0 g.length), (6, .ref (.l 784) gn 0 g.length), (7, .int .i64 d.length)], ⟨L, H'⟩⟩ ∧ lget L 784 = some (.arr gn 1 (atl.flatMap intC) 0) ∧ lget L 368 = some (.arr g368 1 ((reachL g).flatMap boolC) 0)) _
        ⟨[], ord g, List.replicate g.length 0, _, _, rfl, rfl, ⟨by simp, fun j hj => by simp [hj]⟩, rfl, by simp [lget_lset], by simp [lget_lset]⟩ ?_
      rintro k s ⟨d, t, atl, gn, L, h3, rfl, ⟨hp1, hp2⟩, rfl, hL1, hL2⟩ QL0 hnL0 hxL0 hrL0
      have hlen := congrArg List.length h3
      simp only [List.length_append] at hlen
      cases t with
      | nil =>
        simp only [List.length_nil] at hlen
        rw [List.append_nil] at h3
        simp only [c7l0]
        repeat' (first
          | with_reducible refine Tx_assoc ?_
          | with_reducible refine Tx_nopK ?_
          | with_reducible refine Tx_yesK rfl ?_
          | with_reducible refine Tx_noK rfl ?_
          | with_reducible refine Tx_ifK rfl (fun _ => ?_) (fun _ => ?_)
          | with_reducible refine Tx_yes rfl ?_
          | with_reducible refine Tx_no rfl ?_
          | with_reducible refine Tx_if rfl (fun _ => ?_) (fun _ => ?_)
          | with_reducible refine Tx_retK ?_
          | with_reducible refine Tx_exitK ?_
          | with_reducible refine Tx_ret ?_
          | with_reducible refine Tx_exit ?_
          | with_reducible refine Tx_nop ?_
          | with_reducible refine Tx_blockK (id := 0) (fun Q0 hn0 hx0 hr0 ho0 => ?_)
          | with_reducible refine Tx_blockE (id := 0) (fun Q0 hn0 hx0 hr0 ho0 => ?_)
          | with_reducible refine hn0 _ ?_
          | with_reducible refine hx0 _ ?_
          | with_reducible refine hr0 _ ?_
          | with_reducible refine ho0 _ _ (by decide) ?_
          | with_reducible refine Tx_blockK (id := 1) (fun Q1 hn1 hx1 hr1 ho1 => ?_)
          | with_reducible refine Tx_blockE (id := 1) (fun Q1 hn1 hx1 hr1 ho1 => ?_)
          | with_reducible refine hn1 _ ?_
          | with_reducible refine hx1 _ ?_
          | with_reducible refine hr1 _ ?_
          | with_reducible refine ho1 _ _ (by decide) ?_
          | with_reducible refine Tx_blockK (id := 2) (fun Q2 hn2 hx2 hr2 ho2 => ?_)
          | with_reducible refine Tx_blockE (id := 2) (fun Q2 hn2 hx2 hr2 ho2 => ?_)
          | with_reducible refine hn2 _ ?_
          | with_reducible refine hx2 _ ?_
          | with_reducible refine hr2 _ ?_
          | with_reducible refine ho2 _ _ (by decide) ?_
          | with_reducible refine Tx_blockK (id := 3) (fun Q3 hn3 hx3 hr3 ho3 => ?_)
          | with_reducible refine Tx_blockE (id := 3) (fun Q3 hn3 hx3 hr3 ho3 => ?_)
          | with_reducible refine hn3 _ ?_
          | with_reducible refine hx3 _ ?_
          | with_reducible refine hr3 _ ?_
          | with_reducible refine ho3 _ _ (by decide) ?_
          | with_reducible refine hxL0 _ _ ?_
          | with_reducible refine hrL0 _ ?_
          | with_reducible refine hxL1 _ _ ?_
          | with_reducible refine hrL1 _ ?_
          | ((first | ((first | with_reducible refine Tx_regK (fun K hK => ?_) | with_reducible refine Tx_regE (fun K hK => ?_)); (first | with_reducible refine t7r0 ?_ | with_reducible refine t7r1 ?_ | with_reducible refine t7r2 ?_ | with_reducible refine t7r3 ?_ | with_reducible refine t7r4 ?_ | with_reducible refine t7r5 ?_ | with_reducible refine t7r6 ?_ | with_reducible refine t7r7 ?_ | with_reducible refine t7r8 ?_ | with_reducible refine t7r9 ?_ | with_reducible refine t7r10 ?_ | with_reducible refine t7r12 ?_ | with_reducible refine t7r13 ?_ | with_reducible refine t7r14 ?_ | with_reducible refine t7r11 ?_ | with_reducible refine t7r15 ?_ | with_reducible refine t7r16 ?_ | with_reducible refine t7r18 ?_ | with_reducible refine t7r19 ?_ | with_reducible refine t7r17 ?_ | with_reducible refine t7r20 ?_)) | with_reducible refine hqr _ ?_ | with_reducible refine hqn _ ?_); (try simp only [true_implies, false_implies, not_true_eq_false, not_false_eq_true, tget_cons, if_true, if_false, Nat.reduceEqDiff, ccells, Obt_some, Kn_normal, newL_eq, newP_eq, newA_eq, newM_eq, newR_eq, newK_eq, nmA_f, nmR_f, gn_var, gn_arr, gn_map, gnext_setL, lget_setL, lget_lset, gnext_lset, setL_setL, setL_H, Nat.reduceMul, Nat.reduceAdd, Nat.zero_add, fldA_ptr, fldA_rptr, List.drop_zero, ld1_l, ld1_r, ldA_l, rd1_var, rd1_arr, List.getElem?_cons_zero, List.getElem?_cons_succ, Obt_lss, Obt_leq, Obt_gtr, Obt_geq, Obt_eql, Obt_neq, Obt_not, gdO_tt, gdO_tf, gdO_ff, gdO_ft, gdO_skip, Option.map_some, pickX_t, pickX_f, Obt_pickS, Obt_gdT, Obt_gdF, Bool.not_true, Bool.not_false, lenS, Obt_map, Obt_add, Obt_sub, Obt_mul, Obt_quo, Obt_rem, Obt_and, Obt_or, Obt_xor, Obt_andNot, Obt_shl, Obt_shr, Obt_neg, Obt_cpl, Obt_conv, Obt_ext, Obt_bind, Obt_ite', appX_l, appX_n, appR_arr, appN_some, content_l, conR_arr, content_nil, clen_n, clen_r, idxS_ref, fillX, bslX, escP_list, List.all_append, stX_l, stV_var, stV_arr, splice, List.take_zero, List.take_succ_cons, List.drop_succ_cons, List.drop_nil, List.nil_append, List.cons_append, List.append_nil, List.length_cons, List.length_nil, Nat.reduceLeDiff, and_self, and_true, true_and, Nat.le_refl, Nat.zero_le, rdA_var, rdA_arr, escP, List.all_cons, List.all_nil, Bool.and_self, Bool.true_and, Bool.and_true, r7, tend, tresAll, tresC, Option.bind_some, mapMem, retv_agc, esc_i, esc_b, esc_n, esc_m, esc_s, retv_l, retR_arr, retv_gref, retv_gmap, retv_gptr, Nat.zero_sub, Nat.sub_self, retv_int, retv_bool, retv_nil, retv_imm, retv_inil, retv_pnil, tup_nil, tup_one, tup_two, Prod.mk.injEq, CV.int.injEq, CV.bool.injEq, hvH.len]))
          | (revert hK; intro hK; (first | refine And.intro ?_ ?_ | (refine fun (h : (_ : Bool) = _) => ?_; subst h) | intro _ | omega | (with_reducible refine hK _ ?_; clear hK K))))
        refine Tx_loopK (fun k s => ∃ (i : Nat), i ≤ g.length ∧ k = g.length - i ∧
          s = ⟨[(0, rowsC g), (4, .ref (.g nu) 1 0 g.length), (5, .ref (.l 368) g368 0 g.length), (6, .ref (.l 784) gn 0 g.length), (8, .int .i64 i)], ⟨L, H'⟩⟩) _
          ⟨0, Nat.zero_le _, rfl, rfl⟩ ?_
        rintro k s ⟨i, hi, rfl, rfl⟩ QL1 hnL1 hxL1 hrL1
        simp only [c7l1]
        by_cases hig : i = g.length
        · subst hig
          repeat' (first
            | with_reducible refine Tx_assoc ?_
            | with_reducible refine Tx_nopK ?_
            | with_reducible refine Tx_yesK rfl ?_
            | with_reducible refine Tx_noK rfl ?_
            | with_reducible refine Tx_ifK rfl (fun _ => ?_) (fun _ => ?_)
            | with_reducible refine Tx_yes rfl ?_
            | with_reducible refine Tx_no rfl ?_
            | with_reducible refine Tx_if rfl (fun _ => ?_) (fun _ => ?_)
            | with_reducible refine Tx_retK ?_
            | with_reducible refine Tx_exitK ?_
            | with_reducible refine Tx_ret ?_
            | with_reducible refine Tx_exit ?_
            | with_reducible refine Tx_nop ?_
            | with_reducible refine Tx_blockK (id := 0) (fun Q0 hn0 hx0 hr0 ho0 => ?_)
            | with_reducible refine Tx_blockE (id := 0) (fun Q0 hn0 hx0 hr0 ho0 => ?_)
            | with_reducible refine hn0 _ ?_
            | with_reducible refine hx0 _ ?_
            | with_reducible refine hr0 _ ?_
            | with_reducible refine ho0 _ _ (by decide) ?_
            | with_reducible refine Tx_blockK (id := 1) (fun Q1 hn1 hx1 hr1 ho1 => ?_)
            | with_reducible refine Tx_blockE (id := 1) (fun Q1 hn1 hx1 hr1 ho1 => ?_)
            | with_reducible refine hn1 _ ?_
            | with_reducible refine hx1 _ ?_
            | with_reducible refine hr1 _ ?_
            | with_reducible refine ho1 _ _ (by decide) ?_
            | with_reducible refine Tx_blockK (id := 2) (fun Q2 hn2 hx2 hr2 ho2 => ?_)
            | with_reducible refine Tx_blockE (id := 2) (fun Q2 hn2 hx2 hr2 ho2 => ?_)
            | with_reducible refine hn2 _ ?_
            | with_reducible refine hx2 _ ?_
            | with_reducible refine hr2 _ ?_
            | with_reducible refine ho2 _ _ (by decide) ?_
            | with_reducible refine Tx_blockK (id := 3) (fun Q3 hn3 hx3 hr3 ho3 => ?_)
            | with_reducible refine Tx_blockE (id := 3) (fun Q3 hn3 hx3 hr3 ho3 => ?_)
            | with_reducible refine hn3 _ ?_
            | with_reducible refine hx3 _ ?_
            | with_reducible refine hr3 _ ?_
            | with_reducible refine ho3 _ _ (by decide) ?_
            | with_reducible refine hxL0 _ _ ?_
            | with_reducible refine hrL0 _ ?_
            | with_reducible refine hxL1 _ _ ?_
            | with_reducible refine hrL1 _ ?_
            | ((first | ((first | with_reducible refine Tx_regK (fun K hK => ?_) | with_reducible refine Tx_regE (fun K hK => ?_)); (first | with_reducible refine t7r0 ?_ | with_reducible refine t7r1 ?_ | with_reducible refine t7r2 ?_ | with_reducible refine t7r3 ?_ | with_reducible refine t7r4 ?_ | with_reducible refine t7r5 ?_ | with_reducible refine t7r6 ?_ | with_reducible refine t7r7 ?_ | with_reducible refine t7r8 ?_ | with_reducible refine t7r9 ?_ | with_reducible refine t7r10 ?_ | with_reducible refine t7r12 ?_ | with_reducible refine t7r13 ?_ | with_reducible refine t7r14 ?_ | with_reducible refine t7r11 ?_ | with_reducible refine t7r15 ?_ | with_reducible refine t7r16 ?_ | with_reducible refine t7r18 ?_ | with_reducible refine t7r19 ?_ | with_reducible refine t7r17 ?_ | with_reducible refine t7r20 ?_)) | with_reducible refine hqr _ ?_ | with_reducible refine hqn _ ?_); (try simp only [true_implies, false_implies, not_true_eq_false, not_false_eq_true, tget_cons, if_true, if_false, Nat.reduceEqDiff, ccells, Obt_some, Kn_normal, newL_eq, newP_eq, newA_eq, newM_eq, newR_eq, newK_eq, nmA_f, nmR_f, gn_var, gn_arr, gn_map, gnext_setL, lget_setL, lget_lset, gnext_lset, setL_setL, setL_H, Nat.reduceMul, Nat.reduceAdd, Nat.zero_add, fldA_ptr, fldA_rptr, List.drop_zero, ld1_l, ld1_r, ldA_l, rd1_var, rd1_arr, List.getElem?_cons_zero, List.getElem?_cons_succ, Obt_lss, Obt_leq, Obt_gtr, Obt_geq, Obt_eql, Obt_neq, Obt_not, gdO_tt, gdO_tf, gdO_ff, gdO_ft, gdO_skip, Option.map_some, pickX_t, pickX_f, Obt_pickS, Obt_gdT, Obt_gdF, Bool.not_true, Bool.not_false, lenS, Obt_map, Obt_add, Obt_sub, Obt_mul, Obt_quo, Obt_rem, Obt_and, Obt_or, Obt_xor, Obt_andNot, Obt_shl, Obt_shr, Obt_neg, Obt_cpl, Obt_conv, Obt_ext, Obt_bind, Obt_ite', appX_l, appX_n, appR_arr, appN_some, content_l, conR_arr, content_nil, clen_n, clen_r, idxS_ref, fillX, bslX, escP_list, List.all_append, stX_l, stV_var, stV_arr, splice, List.take_zero, List.take_succ_cons, List.drop_succ_cons, List.drop_nil, List.nil_append, List.cons_append, List.append_nil, List.length_cons, List.length_nil, Nat.reduceLeDiff, and_self, and_true, true_and, Nat.le_refl, Nat.zero_le, rdA_var, rdA_arr, escP, List.all_cons, List.all_nil, Bool.and_self, Bool.true_and, Bool.and_true, r7, tend, tresAll, tresC, Option.bind_some, mapMem, retv_agc, esc_i, esc_b, esc_n, esc_m, esc_s, retv_l, retR_arr, retv_gref, retv_gmap, retv_gptr, Nat.zero_sub, Nat.sub_self, retv_int, retv_bool, retv_nil, retv_imm, retv_inil, retv_pnil, tup_nil, tup_one, tup_two, Prod.mk.injEq, CV.int.injEq, CV.bool.injEq, clen_rowsC, k9]))
            | (revert hK; intro hK; (first | refine And.intro ?_ ?_ | (refine fun (h : (_ : Bool) = _) => ?_; subst h) | intro _ | omega | (with_reducible refine hK _ ?_; clear hK K))))
          all_goals exact ⟨_, rfl⟩
        · have hilt : i < g.length := by omega
          have hilt2 : (i : Int) < g.length := by omega
          have hw : IntKind.i64.wrap ((i : Int) + 1) = ((i + 1 : Nat) : Int) := by rw [wI (by omega) (by omega)]; rfl
          have hix : ∀ j gn (x : Int), 0 ≤ x → x < g.length → idxS 1 (.ref j gn 0 g.length) (.int .i64 x) = some (.ptr j gn x.toNat) := fun j gn x h0 h1 => by
            rw [idxS_ref, if_pos ⟨h0, by omega⟩]; simp
          have hi1 := fun j gn => hix j gn i (by omega) hilt2
          simp only [Int.toNat_natCast] at hi1
          have hgr : ld1 ⟨L, H'⟩ (.ptr (.l 368) g368 i) = some (.bool (decide ((i : Int) ∈ ord g))) := by
            have := reachL_get (g := g) (x := (i : Int)) (by omega) hilt2
            rw [Int.toNat_natCast] at this
            rw [ld1_l]; simp only [hL2, rd1_arr, flat_bool, this]; rfl
          have hga : ∀ x : Nat, x < g.length → ld1 ⟨L, H'⟩ (.ptr (.l 784) gn x) = some (.int .i64 (if (x : Int) ∈ ord g then (pl g x : Int) + 1 else 0)) := fun x hx => by
            rw [ld1_l]; simp only [hL1, rd1_arr, flat_int, hp2 x hx, h3]; rfl
          have hgi := hga i hilt
          have hgu : ld1 ⟨L, H'⟩ (.ptr (.g nu) 1 i) = some (.int .i64 (uf up i)) := by
            have := uf_get (up := up) (x := (i : Int)) (by omega) (by rw [hul]; exact hilt2)
            rw [Int.toNat_natCast] at this
            rw [ld1_g]; simp only [hup, rd1_arr, flat_int, this]; rfl
          by_cases hio : (i : Int) ∈ ord g
          · simp only [hio, decide_true, if_true] at hgr hgi
            by_cases hu : uf up i = -1
            · rw [hu] at hgu
              have q1 : (0 : Int) < (pl g i : Int) + 1 := by omega
              repeat' (first
                | with_reducible refine Tx_assoc ?_
                | with_reducible refine Tx_nopK ?_
                | with_reducible refine Tx_yesK rfl ?_
                | with_reducible refine Tx_noK rfl ?_
                | with_reducible refine Tx_ifK rfl (fun _ => ?_) (fun _ => ?_)
                | with_reducible refine Tx_yes rfl ?_
                | with_reducible refine Tx_no rfl ?_
                | with_reducible refine Tx_if rfl (fun _ => ?_) (fun _ => ?_)
                | with_reducible refine Tx_retK ?_
                | with_reducible refine Tx_exitK ?_
                | with_reducible refine Tx_ret ?_
                | with_reducible refine Tx_exit ?_
                | with_reducible refine Tx_nop ?_
                | with_reducible refine Tx_blockK (id := 0) (fun Q0 hn0 hx0 hr0 ho0 => ?_)
                | with_reducible refine Tx_blockE (id := 0) (fun Q0 hn0 hx0 hr0 ho0 => ?_)
                | with_reducible refine hn0 _ ?_
                | with_reducible refine hx0 _ ?_
                | with_reducible refine hr0 _ ?_
                | with_reducible refine ho0 _ _ (by decide) ?_
                | with_reducible refine Tx_blockK (id := 1) (fun Q1 hn1 hx1 hr1 ho1 => ?_)
                | with_reducible refine Tx_blockE (id := 1) (fun Q1 hn1 hx1 hr1 ho1 => ?_)
                | with_reducible refine hn1 _ ?_
                | with_reducible refine hx1 _ ?_
                | with_reducible refine hr1 _ ?_
                | with_reducible refine ho1 _ _ (by decide) ?_
                | with_reducible refine Tx_blockK (id := 2) (fun Q2 hn2 hx2 hr2 ho2 => ?_)
                | with_reducible refine Tx_blockE (id := 2) (fun Q2 hn2 hx2 hr2 ho2 => ?_)
                | with_reducible refine hn2 _ ?_
                | with_reducible refine hx2 _ ?_
                | with_reducible refine hr2 _ ?_
                | with_reducible refine ho2 _ _ (by decide) ?_
                | with_reducible refine Tx_blockK (id := 3) (fun Q3 hn3 hx3 hr3 ho3 => ?_)
                | with_reducible refine Tx_blockE (id := 3) (fun Q3 hn3 hx3 hr3 ho3 => ?_)
                | with_reducible refine hn3 _ ?_
                | with_reducible refine hx3 _ ?_
                | with_reducible refine hr3 _ ?_
                | with_reducible refine ho3 _ _ (by decide) ?_
                | with_reducible refine hxL0 _ _ ?_
                | with_reducible refine hrL0 _ ?_
                | with_reducible refine hxL1 _ _ ?_
                | with_reducible refine hrL1 _ ?_
                | ((first | ((first | with_reducible refine Tx_regK (fun K hK => ?_) | with_reducible refine Tx_regE (fun K hK => ?_)); (first | with_reducible refine t7r0 ?_ | with_reducible refine t7r1 ?_ | with_reducible refine t7r2 ?_ | with_reducible refine t7r3 ?_ | with_reducible refine t7r4 ?_ | with_reducible refine t7r5 ?_ | with_reducible refine t7r6 ?_ | with_reducible refine t7r7 ?_ | with_reducible refine t7r8 ?_ | with_reducible refine t7r9 ?_ | with_reducible refine t7r10 ?_ | with_reducible refine t7r12 ?_ | with_reducible refine t7r13 ?_ | with_reducible refine t7r14 ?_ | with_reducible refine t7r11 ?_ | with_reducible refine t7r15 ?_ | with_reducible refine t7r16 ?_ | with_reducible refine t7r18 ?_ | with_reducible refine t7r19 ?_ | with_reducible refine t7r17 ?_ | with_reducible refine t7r20 ?_)) | with_reducible refine hqr _ ?_ | with_reducible refine hqn _ ?_); (try simp only [true_implies, false_implies, not_true_eq_false, not_false_eq_true, tget_cons, if_true, if_false, Nat.reduceEqDiff, ccells, Obt_some, Kn_normal, newL_eq, newP_eq, newA_eq, newM_eq, newR_eq, newK_eq, nmA_f, nmR_f, gn_var, gn_arr, gn_map, gnext_setL, lget_setL, lget_lset, gnext_lset, setL_setL, setL_H, Nat.reduceMul, Nat.reduceAdd, Nat.zero_add, fldA_ptr, fldA_rptr, List.drop_zero, ld1_l, ld1_r, ldA_l, rd1_var, rd1_arr, List.getElem?_cons_zero, List.getElem?_cons_succ, Obt_lss, Obt_leq, Obt_gtr, Obt_geq, Obt_eql, Obt_neq, Obt_not, gdO_tt, gdO_tf, gdO_ff, gdO_ft, gdO_skip, Option.map_some, pickX_t, pickX_f, Obt_pickS, Obt_gdT, Obt_gdF, Bool.not_true, Bool.not_false, lenS, Obt_map, Obt_add, Obt_sub, Obt_mul, Obt_quo, Obt_rem, Obt_and, Obt_or, Obt_xor, Obt_andNot, Obt_shl, Obt_shr, Obt_neg, Obt_cpl, Obt_conv, Obt_ext, Obt_bind, Obt_ite', appX_l, appX_n, appR_arr, appN_some, content_l, conR_arr, content_nil, clen_n, clen_r, idxS_ref, fillX, bslX, escP_list, List.all_append, stX_l, stV_var, stV_arr, splice, List.take_zero, List.take_succ_cons, List.drop_succ_cons, List.drop_nil, List.nil_append, List.cons_append, List.append_nil, List.length_cons, List.length_nil, Nat.reduceLeDiff, and_self, and_true, true_and, Nat.le_refl, Nat.zero_le, rdA_var, rdA_arr, escP, List.all_cons, List.all_nil, Bool.and_self, Bool.true_and, Bool.and_true, r7, tend, tresAll, tresC, Option.bind_some, mapMem, retv_agc, esc_i, esc_b, esc_n, esc_m, esc_s, retv_l, retR_arr, retv_gref, retv_gmap, retv_gptr, Nat.zero_sub, Nat.sub_self, retv_int, retv_bool, retv_nil, retv_imm, retv_inil, retv_pnil, tup_nil, tup_one, tup_two, Prod.mk.injEq, CV.int.injEq, CV.bool.injEq, clen_rowsC, hilt2, hi1, hgr, hgi, hgu, hw, q1, chk, noRef, isRef, Obt_neB Try.underlying4, beq_self_eq_true]))
                | (revert hK; intro hK; (first | refine And.intro ?_ ?_ | (refine fun (h : (_ : Bool) = _) => ?_; subst h) | intro _ | omega | (with_reducible refine hK _ ?_; clear hK K))))
              exact hnL1 (g.length - (i + 1)) _ (by omega) ⟨i + 1, by omega, rfl, rfl⟩
            · obtain ⟨_, huo, hlt⟩ := hI.toVal.up i hu
              have hur := ((mem_ord g _).1 huo).range
              have hun : (((uf up i).toNat : Nat) : Int) = uf up i := by omega
              have hiu := hix (.l 784) gn _ hur.1 hur.2
              have hgv2 := hga (uf up i).toNat (by omega)
              rw [hun, if_pos huo] at hgv2
              have q1 : (0 : Int) < (pl g i : Int) + 1 := by omega
              have q2 : ¬ (pl g i : Int) + 1 ≤ (pl g (uf up i) : Int) + 1 := by omega
              have q3 := hur.1
              have hgi2 := hgi
              have hgv3 := hgv2
              simp only [ld1_l] at hgi2 hgv3
              repeat' (first
                | with_reducible refine Tx_assoc ?_
                | with_reducible refine Tx_nopK ?_
                | with_reducible refine Tx_yesK rfl ?_
                | with_reducible refine Tx_noK rfl ?_
                | with_reducible refine Tx_ifK rfl (fun _ => ?_) (fun _ => ?_)
                | with_reducible refine Tx_yes rfl ?_
                | with_reducible refine Tx_no rfl ?_
                | with_reducible refine Tx_if rfl (fun _ => ?_) (fun _ => ?_)
                | with_reducible refine Tx_retK ?_
                | with_reducible refine Tx_exitK ?_
                | with_reducible refine Tx_ret ?_
                | with_reducible refine Tx_exit ?_
                | with_reducible refine Tx_nop ?_
                | with_reducible refine Tx_blockK (id := 0) (fun Q0 hn0 hx0 hr0 ho0 => ?_)
                | with_reducible refine Tx_blockE (id := 0) (fun Q0 hn0 hx0 hr0 ho0 => ?_)
                | with_reducible refine hn0 _ ?_
                | with_reducible refine hx0 _ ?_
                | with_reducible refine hr0 _ ?_
                | with_reducible refine ho0 _ _ (by decide) ?_
                | with_reducible refine Tx_blockK (id := 1) (fun Q1 hn1 hx1 hr1 ho1 => ?_)
                | with_reducible refine Tx_blockE (id := 1) (fun Q1 hn1 hx1 hr1 ho1 => ?_)
                | with_reducible refine hn1 _ ?_
                | with_reducible refine hx1 _ ?_
                | with_reducible refine hr1 _ ?_
                | with_reducible refine ho1 _ _ (by decide) ?_
                | with_reducible refine Tx_blockK (id := 2) (fun Q2 hn2 hx2 hr2 ho2 => ?_)
                | with_reducible refine Tx_blockE (id := 2) (fun Q2 hn2 hx2 hr2 ho2 => ?_)
                | with_reducible refine hn2 _ ?_
                | with_reducible refine hx2 _ ?_
                | with_reducible refine hr2 _ ?_
                | with_reducible refine ho2 _ _ (by decide) ?_
                | with_reducible refine Tx_blockK (id := 3) (fun Q3 hn3 hx3 hr3 ho3 => ?_)
                | with_reducible refine Tx_blockE (id := 3) (fun Q3 hn3 hx3 hr3 ho3 => ?_)
                | with_reducible refine hn3 _ ?_
                | with_reducible refine hx3 _ ?_
                | with_reducible refine hr3 _ ?_
                | with_reducible refine ho3 _ _ (by decide) ?_
                | with_reducible refine hxL0 _ _ ?_
                | with_reducible refine hrL0 _ ?_
                | with_reducible refine hxL1 _ _ ?_
                | with_reducible refine hrL1 _ ?_
                | ((first | ((first | with_reducible refine Tx_regK (fun K hK => ?_) | with_reducible refine Tx_regE (fun K hK => ?_)); (first | with_reducible refine t7r0 ?_ | with_reducible refine t7r1 ?_ | with_reducible refine t7r2 ?_ | with_reducible refine t7r3 ?_ | with_reducible refine t7r4 ?_ | with_reducible refine t7r5 ?_ | with_reducible refine t7r6 ?_ | with_reducible refine t7r7 ?_ | with_reducible refine t7r8 ?_ | with_reducible refine t7r9 ?_ | with_reducible refine t7r10 ?_ | with_reducible refine t7r12 ?_ | with_reducible refine t7r13 ?_ | with_reducible refine t7r14 ?_ | with_reducible refine t7r11 ?_ | with_reducible refine t7r15 ?_ | with_reducible refine t7r16 ?_ | with_reducible refine t7r18 ?_ | with_reducible refine t7r19 ?_ | with_reducible refine t7r17 ?_ | with_reducible refine t7r20 ?_)) | with_reducible refine hqr _ ?_ | with_reducible refine hqn _ ?_); (try simp only [true_implies, false_implies, not_true_eq_false, not_false_eq_true, tget_cons, if_true, if_false, Nat.reduceEqDiff, ccells, Obt_some, Kn_normal, newL_eq, newP_eq, newA_eq, newM_eq, newR_eq, newK_eq, nmA_f, nmR_f, gn_var, gn_arr, gn_map, gnext_setL, lget_setL, lget_lset, gnext_lset, setL_setL, setL_H, Nat.reduceMul, Nat.reduceAdd, Nat.zero_add, fldA_ptr, fldA_rptr, List.drop_zero, ld1_l, ld1_r, ldA_l, rd1_var, rd1_arr, List.getElem?_cons_zero, List.getElem?_cons_succ, Obt_lss, Obt_leq, Obt_gtr, Obt_geq, Obt_eql, Obt_neq, Obt_not, gdO_tt, gdO_tf, gdO_ff, gdO_ft, gdO_skip, Option.map_some, pickX_t, pickX_f, Obt_pickS, Obt_gdT, Obt_gdF, Bool.not_true, Bool.not_false, lenS, Obt_map, Obt_add, Obt_sub, Obt_mul, Obt_quo, Obt_rem, Obt_and, Obt_or, Obt_xor, Obt_andNot, Obt_shl, Obt_shr, Obt_neg, Obt_cpl, Obt_conv, Obt_ext, Obt_bind, Obt_ite', appX_l, appX_n, appR_arr, appN_some, content_l, conR_arr, content_nil, clen_n, clen_r, idxS_ref, fillX, bslX, escP_list, List.all_append, stX_l, stV_var, stV_arr, splice, List.take_zero, List.take_succ_cons, List.drop_succ_cons, List.drop_nil, List.nil_append, List.cons_append, List.append_nil, List.length_cons, List.length_nil, Nat.reduceLeDiff, and_self, and_true, true_and, Nat.le_refl, Nat.zero_le, rdA_var, rdA_arr, escP, List.all_cons, List.all_nil, Bool.and_self, Bool.true_and, Bool.and_true, r7, tend, tresAll, tresC, Option.bind_some, mapMem, retv_agc, esc_i, esc_b, esc_n, esc_m, esc_s, retv_l, retR_arr, retv_gref, retv_gmap, retv_gptr, Nat.zero_sub, Nat.sub_self, retv_int, retv_bool, retv_nil, retv_imm, retv_inil, retv_pnil, tup_nil, tup_one, tup_two, Prod.mk.injEq, CV.int.injEq, CV.bool.injEq, clen_rowsC, hgi2, hgv3, hilt2, hi1, hgr, hgi, hgu, hw, q1, q2, q3, hiu, hgv2, chk, noRef, isRef, Obt_neB Try.underlying4, beq_self_eq_true]))
                | (revert hK; intro hK; (first | refine And.intro ?_ ?_ | (refine fun (h : (_ : Bool) = _) => ?_; subst h) | intro _ | omega | (with_reducible refine hK _ ?_; clear hK K))))
              exact hnL1 (g.length - (i + 1)) _ (by omega) ⟨i + 1, by omega, rfl, rfl⟩
          · have hu := hoff i (by omega) hio
            rw [hu] at hgu
            simp only [hio, decide_false, if_false] at hgr hgi
            repeat' (first
              | with_reducible refine Tx_assoc ?_
              | with_reducible refine Tx_nopK ?_
              | with_reducible refine Tx_yesK rfl ?_
              | with_reducible refine Tx_noK rfl ?_
              | with_reducible refine Tx_ifK rfl (fun _ => ?_) (fun _ => ?_)
              | with_reducible refine Tx_yes rfl ?_
              | with_reducible refine Tx_no rfl ?_
              | with_reducible refine Tx_if rfl (fun _ => ?_) (fun _ => ?_)
              | with_reducible refine Tx_retK ?_
              | with_reducible refine Tx_exitK ?_
              | with_reducible refine Tx_ret ?_
              | with_reducible refine Tx_exit ?_
              | with_reducible refine Tx_nop ?_
              | with_reducible refine Tx_blockK (id := 0) (fun Q0 hn0 hx0 hr0 ho0 => ?_)
              | with_reducible refine Tx_blockE (id := 0) (fun Q0 hn0 hx0 hr0 ho0 => ?_)
              | with_reducible refine hn0 _ ?_
              | with_reducible refine hx0 _ ?_
              | with_reducible refine hr0 _ ?_
              | with_reducible refine ho0 _ _ (by decide) ?_
              | with_reducible refine Tx_blockK (id := 1) (fun Q1 hn1 hx1 hr1 ho1 => ?_)
              | with_reducible refine Tx_blockE (id := 1) (fun Q1 hn1 hx1 hr1 ho1 => ?_)
              | with_reducible refine hn1 _ ?_
              | with_reducible refine hx1 _ ?_
              | with_reducible refine hr1 _ ?_
              | with_reducible refine ho1 _ _ (by decide) ?_
              | with_reducible refine Tx_blockK (id := 2) (fun Q2 hn2 hx2 hr2 ho2 => ?_)
              | with_reducible refine Tx_blockE (id := 2) (fun Q2 hn2 hx2 hr2 ho2 => ?_)
              | with_reducible refine hn2 _ ?_
              | with_reducible refine hx2 _ ?_
              | with_reducible refine hr2 _ ?_
              | with_reducible refine ho2 _ _ (by decide) ?_
              | with_reducible refine Tx_blockK (id := 3) (fun Q3 hn3 hx3 hr3 ho3 => ?_)
              | with_reducible refine Tx_blockE (id := 3) (fun Q3 hn3 hx3 hr3 ho3 => ?_)
              | with_reducible refine hn3 _ ?_
              | with_reducible refine hx3 _ ?_
              | with_reducible refine hr3 _ ?_
              | with_reducible refine ho3 _ _ (by decide) ?_
              | with_reducible refine hxL0 _ _ ?_
              | with_reducible refine hrL0 _ ?_
              | with_reducible refine hxL1 _ _ ?_
              | with_reducible refine hrL1 _ ?_
              | ((first | ((first | with_reducible refine Tx_regK (fun K hK => ?_) | with_reducible refine Tx_regE (fun K hK => ?_)); (first | with_reducible refine t7r0 ?_ | with_reducible refine t7r1 ?_ | with_reducible refine t7r2 ?_ | with_reducible refine t7r3 ?_ | with_reducible refine t7r4 ?_ | with_reducible refine t7r5 ?_ | with_reducible refine t7r6 ?_ | with_reducible refine t7r7 ?_ | with_reducible refine t7r8 ?_ | with_reducible refine t7r9 ?_ | with_reducible refine t7r10 ?_ | with_reducible refine t7r12 ?_ | with_reducible refine t7r13 ?_ | with_reducible refine t7r14 ?_ | with_reducible refine t7r11 ?_ | with_reducible refine t7r15 ?_ | with_reducible refine t7r16 ?_ | with_reducible refine t7r18 ?_ | with_reducible refine t7r19 ?_ | with_reducible refine t7r17 ?_ | with_reducible refine t7r20 ?_)) | with_reducible refine hqr _ ?_ | with_reducible refine hqn _ ?_); (try simp only [true_implies, false_implies, not_true_eq_false, not_false_eq_true, tget_cons, if_true, if_false, Nat.reduceEqDiff, ccells, Obt_some, Kn_normal, newL_eq, newP_eq, newA_eq, newM_eq, newR_eq, newK_eq, nmA_f, nmR_f, gn_var, gn_arr, gn_map, gnext_setL, lget_setL, lget_lset, gnext_lset, setL_setL, setL_H, Nat.reduceMul, Nat.reduceAdd, Nat.zero_add, fldA_ptr, fldA_rptr, List.drop_zero, ld1_l, ld1_r, ldA_l, rd1_var, rd1_arr, List.getElem?_cons_zero, List.getElem?_cons_succ, Obt_lss, Obt_leq, Obt_gtr, Obt_geq, Obt_eql, Obt_neq, Obt_not, gdO_tt, gdO_tf, gdO_ff, gdO_ft, gdO_skip, Option.map_some, pickX_t, pickX_f, Obt_pickS, Obt_gdT, Obt_gdF, Bool.not_true, Bool.not_false, lenS, Obt_map, Obt_add, Obt_sub, Obt_mul, Obt_quo, Obt_rem, Obt_and, Obt_or, Obt_xor, Obt_andNot, Obt_shl, Obt_shr, Obt_neg, Obt_cpl, Obt_conv, Obt_ext, Obt_bind, Obt_ite', appX_l, appX_n, appR_arr, appN_some, content_l, conR_arr, content_nil, clen_n, clen_r, idxS_ref, fillX, bslX, escP_list, List.all_append, stX_l, stV_var, stV_arr, splice, List.take_zero, List.take_succ_cons, List.drop_succ_cons, List.drop_nil, List.nil_append, List.cons_append, List.append_nil, List.length_cons, List.length_nil, Nat.reduceLeDiff, and_self, and_true, true_and, Nat.le_refl, Nat.zero_le, rdA_var, rdA_arr, escP, List.all_cons, List.all_nil, Bool.and_self, Bool.true_and, Bool.and_true, r7, tend, tresAll, tresC, Option.bind_some, mapMem, retv_agc, esc_i, esc_b, esc_n, esc_m, esc_s, retv_l, retR_arr, retv_gref, retv_gmap, retv_gptr, Nat.zero_sub, Nat.sub_self, retv_int, retv_bool, retv_nil, retv_imm, retv_inil, retv_pnil, tup_nil, tup_one, tup_two, Prod.mk.injEq, CV.int.injEq, CV.bool.injEq, clen_rowsC, hilt2, hi1, hgr, hgi, hgu, hw, chk, noRef, isRef, Obt_neB Try.underlying4, beq_self_eq_true]))
              | (revert hK; intro hK; (first | refine And.intro ?_ ?_ | (refine fun (h : (_ : Bool) = _) => ?_; subst h) | intro _ | omega | (with_reducible refine hK _ ?_; clear hK K))))
            exact hnL1 (g.length - (i + 1)) _ (by omega) ⟨i + 1, by omega, rfl, rfl⟩
      | cons a t =>
        simp only [List.length_cons] at hlen
        have hal : (ord g)[d.length]? = some a := by rw [h3]; simp
        have hao := List.mem_of_getElem? hal
        have har := ((mem_ord g a).1 hao).range
        have hpa := (pl_of_get hal).1
        have had : a ∉ d := by
          intro h
          have hnd := ord_nodup g
          rw [h3, List.nodup_append] at hnd
          exact hnd.2.2 a h a List.mem_cons_self rfl
        have han : ((a.toNat : Nat) : Int) = a := by omega
        obtain ⟨p, hpi1, hpi2⟩ := hvH.at hal (k := .i64)
        have hw : IntKind.i64.wrap ((d.length : Int) + 1) = d.length + 1 := wI (by omega) (by omega)
        have hi : idxS 1 (.ref (.l 784) gn 0 g.length) (.int .i64 a) = some (.ptr (.l 784) gn a.toNat) := by
          rw [idxS_ref, if_pos ⟨har.1, by omega⟩]; simp
        have hld : ld1 ⟨L, H'⟩ (.ptr (.l 784) gn a.toNat) = some (.int .i64 0) := by
          rw [ld1_l]; simp only [hL1, rd1_arr, flat_int, hp2 a.toNat (by omega), han, had, if_false]; rfl
        have n1 : ¬ a < 0 := by omega
        have n2 : ¬ (g.length : Int) ≤ a := by omega
        have hst : stX 1 ⟨L, H'⟩ (.ptr (.l 784) gn a.toNat) (.int .i64 (d.length + 1)) = some ⟨lset L 784 (.arr gn 1 ((atl.set a.toNat (d.length + 1)).flatMap intC) 0), H'⟩ := by
          rw [stX_one_l hL1 (by rw [len_int]; omega) rfl rfl, set_int]; rfl
        simp only [c7l0]
        repeat' (first
          | with_reducible refine Tx_assoc ?_
          | with_reducible refine Tx_nopK ?_
          | with_reducible refine Tx_yesK rfl ?_
          | with_reducible refine Tx_noK rfl ?_
          | with_reducible refine Tx_ifK rfl (fun _ => ?_) (fun _ => ?_)
          | with_reducible refine Tx_yes rfl ?_
          | with_reducible refine Tx_no rfl ?_
          | with_reducible refine Tx_if rfl (fun _ => ?_) (fun _ => ?_)
          | with_reducible refine Tx_retK ?_
          | with_reducible refine Tx_exitK ?_
          | with_reducible refine Tx_ret ?_
          | with_reducible refine Tx_exit ?_
          | with_reducible refine Tx_nop ?_
          | with_reducible refine Tx_blockK (id := 0) (fun Q0 hn0 hx0 hr0 ho0 => ?_)
          | with_reducible refine Tx_blockE (id := 0) (fun Q0 hn0 hx0 hr0 ho0 => ?_)
          | with_reducible refine hn0 _ ?_
          | with_reducible refine hx0 _ ?_
          | with_reducible refine hr0 _ ?_
          | with_reducible refine ho0 _ _ (by decide) ?_
          | with_reducible refine Tx_blockK (id := 1) (fun Q1 hn1 hx1 hr1 ho1 => ?_)
          | with_reducible refine Tx_blockE (id := 1) (fun Q1 hn1 hx1 hr1 ho1 => ?_)
          | with_reducible refine hn1 _ ?_
          | with_reducible refine hx1 _ ?_
          | with_reducible refine hr1 _ ?_
          | with_reducible refine ho1 _ _ (by decide) ?_
          | with_reducible refine Tx_blockK (id := 2) (fun Q2 hn2 hx2 hr2 ho2 => ?_)
          | with_reducible refine Tx_blockE (id := 2) (fun Q2 hn2 hx2 hr2 ho2 => ?_)
          | with_reducible refine hn2 _ ?_
          | with_reducible refine hx2 _ ?_
          | with_reducible refine hr2 _ ?_
          | with_reducible refine ho2 _ _ (by decide) ?_
          | with_reducible refine Tx_blockK (id := 3) (fun Q3 hn3 hx3 hr3 ho3 => ?_)
          | with_reducible refine Tx_blockE (id := 3) (fun Q3 hn3 hx3 hr3 ho3 => ?_)
          | with_reducible refine hn3 _ ?_
          | with_reducible refine hx3 _ ?_
          | with_reducible refine hr3 _ ?_
          | with_reducible refine ho3 _ _ (by decide) ?_
          | with_reducible refine hxL0 _ _ ?_
          | with_reducible refine hrL0 _ ?_
          | with_reducible refine hxL1 _ _ ?_
          | with_reducible refine hrL1 _ ?_
          | ((first | ((first | with_reducible refine Tx_regK (fun K hK => ?_) | with_reducible refine Tx_regE (fun K hK => ?_)); (first | with_reducible refine t7r0 ?_ | with_reducible refine t7r1 ?_ | with_reducible refine t7r2 ?_ | with_reducible refine t7r3 ?_ | with_reducible refine t7r4 ?_ | with_reducible refine t7r5 ?_ | with_reducible refine t7r6 ?_ | with_reducible refine t7r7 ?_ | with_reducible refine t7r8 ?_ | with_reducible refine t7r9 ?_ | with_reducible refine t7r10 ?_ | with_reducible refine t7r12 ?_ | with_reducible refine t7r13 ?_ | with_reducible refine t7r14 ?_ | with_reducible refine t7r11 ?_ | with_reducible refine t7r15 ?_ | with_reducible refine t7r16 ?_ | with_reducible refine t7r18 ?_ | with_reducible refine t7r19 ?_ | with_reducible refine t7r17 ?_ | with_reducible refine t7r20 ?_)) | with_reducible refine hqr _ ?_ | with_reducible refine hqn _ ?_); (try simp only [true_implies, false_implies, not_true_eq_false, not_false_eq_true, tget_cons, if_true, if_false, Nat.reduceEqDiff, ccells, Obt_some, Kn_normal, newL_eq, newP_eq, newA_eq, newM_eq, newR_eq, newK_eq, nmA_f, nmR_f, gn_var, gn_arr, gn_map, gnext_setL, lget_setL, lget_lset, gnext_lset, setL_setL, setL_H, Nat.reduceMul, Nat.reduceAdd, Nat.zero_add, fldA_ptr, fldA_rptr, List.drop_zero, ld1_l, ld1_r, ldA_l, rd1_var, rd1_arr, List.getElem?_cons_zero, List.getElem?_cons_succ, Obt_lss, Obt_leq, Obt_gtr, Obt_geq, Obt_eql, Obt_neq, Obt_not, gdO_tt, gdO_tf, gdO_ff, gdO_ft, gdO_skip, Option.map_some, pickX_t, pickX_f, Obt_pickS, Obt_gdT, Obt_gdF, Bool.not_true, Bool.not_false, lenS, Obt_map, Obt_add, Obt_sub, Obt_mul, Obt_quo, Obt_rem, Obt_and, Obt_or, Obt_xor, Obt_andNot, Obt_shl, Obt_shr, Obt_neg, Obt_cpl, Obt_conv, Obt_ext, Obt_bind, Obt_ite', appX_l, appX_n, appR_arr, appN_some, content_l, conR_arr, content_nil, clen_n, clen_r, idxS_ref, fillX, bslX, escP_list, List.all_append, stX_l, stV_var, stV_arr, splice, List.take_zero, List.take_succ_cons, List.drop_succ_cons, List.drop_nil, List.nil_append, List.cons_append, List.append_nil, List.length_cons, List.length_nil, Nat.reduceLeDiff, and_self, and_true, true_and, Nat.le_refl, Nat.zero_le, rdA_var, rdA_arr, escP, List.all_cons, List.all_nil, Bool.and_self, Bool.true_and, Bool.and_true, r7, tend, tresAll, tresC, Option.bind_some, mapMem, retv_agc, esc_i, esc_b, esc_n, esc_m, esc_s, retv_l, retR_arr, retv_gref, retv_gmap, retv_gptr, Nat.zero_sub, Nat.sub_self, retv_int, retv_bool, retv_nil, retv_imm, retv_inil, retv_pnil, tup_nil, tup_one, tup_two, Prod.mk.injEq, CV.int.injEq, CV.bool.injEq, clen_rowsC, hvH.len, hpi1, hpi2, hi, hld, n1, n2, hw, hst]))
          | (revert hK; intro hK; (first | refine And.intro ?_ ?_ | (refine fun (h : (_ : Bool) = _) => ?_; subst h) | intro _ | omega | (with_reducible refine hK _ ?_; clear hK K))))
        refine hnL0 t.length _ (by simp) ⟨d ++ [a], t, atl.set a.toNat (d.length + 1), gn, lset L 784 (.arr gn 1 ((atl.set a.toNat (d.length + 1)).flatMap intC) 0), by simp [h3], rfl, ⟨by rw [List.length_set, hp1], fun j hj => ?_⟩, by simp, by simp [lget_lset], by simp [lget_lset, hL2]⟩
        by_cases hja : a.toNat = j
        · subst hja
          rw [List.getElem?_set_self (by omega), han]
          simp [hpa]
        · rw [List.getElem?_set_ne hja, hp2 j hj]
          have : ((j : Int) ∈ d ++ [a]) ↔ (j : Int) ∈ d := by
            simp only [List.mem_append, List.mem_singleton]
            exact ⟨fun h => h.elim id fun h => by omega, .inl⟩
          simp only [this]
  · refine Fw_funE rfl Try.func7 s7 (Nat.le_of_ble_eq_true rfl) (fun Q hqr hqn => ?_)
    simp only [tinit, Nat.reduceAdd, c7]
    repeat' (first
      | with_reducible refine Tx_assoc ?_
      | with_reducible refine Tx_nopK ?_
      | with_reducible refine Tx_yesK rfl ?_
      | with_reducible refine Tx_noK rfl ?_
      | with_reducible refine Tx_ifK rfl (fun _ => ?_) (fun _ => ?_)
      | with_reducible refine Tx_yes rfl ?_
      | with_reducible refine Tx_no rfl ?_
      | with_reducible refine Tx_if rfl (fun _ => ?_) (fun _ => ?_)
      | with_reducible refine Tx_retK ?_
      | with_reducible refine Tx_exitK ?_
      | with_reducible refine Tx_ret ?_
      | with_reducible refine Tx_exit ?_
      | with_reducible refine Tx_nop ?_
      | with_reducible refine Tx_blockK (id := 0) (fun Q0 hn0 hx0 hr0 ho0 => ?_)
      | with_reducible refine Tx_blockE (id := 0) (fun Q0 hn0 hx0 hr0 ho0 => ?_)
      | with_reducible refine hn0 _ ?_
      | with_reducible refine hx0 _ ?_
      | with_reducible refine hr0 _ ?_
      | with_reducible refine ho0 _ _ (by decide) ?_
      | with_reducible refine Tx_blockK (id := 1) (fun Q1 hn1 hx1 hr1 ho1 => ?_)
      | with_reducible refine Tx_blockE (id := 1) (fun Q1 hn1 hx1 hr1 ho1 => ?_)
      | with_reducible refine hn1 _ ?_
      | with_reducible refine hx1 _ ?_
      | with_reducible refine hr1 _ ?_
      | with_reducible refine ho1 _ _ (by decide) ?_
      | with_reducible refine Tx_blockK (id := 2) (fun Q2 hn2 hx2 hr2 ho2 => ?_)
      | with_reducible refine Tx_blockE (id := 2) (fun Q2 hn2 hx2 hr2 ho2 => ?_)
      | with_reducible refine hn2 _ ?_
      | with_reducible refine hx2 _ ?_
      | with_reducible refine hr2 _ ?_
      | with_reducible refine ho2 _ _ (by decide) ?_
      | with_reducible refine Tx_blockK (id := 3) (fun Q3 hn3 hx3 hr3 ho3 => ?_)
      | with_reducible refine Tx_blockE (id := 3) (fun Q3 hn3 hx3 hr3 ho3 => ?_)
      | with_reducible refine hn3 _ ?_
      | with_reducible refine hx3 _ ?_
      | with_reducible refine hr3 _ ?_
      | with_reducible refine ho3 _ _ (by decide) ?_
      | with_reducible refine hxL0 _ _ ?_
      | with_reducible refine hrL0 _ ?_
      | with_reducible refine hxL1 _ _ ?_
      | with_reducible refine hrL1 _ ?_
      | ((first | ((first | with_reducible refine Tx_regK (fun K hK => ?_) | with_reducible refine Tx_regE (fun K hK => ?_)); (first | with_reducible refine t7r0 ?_ | with_reducible refine t7r1 ?_ | with_reducible refine t7r2 ?_ | with_reducible refine t7r3 ?_ | with_reducible refine t7r4 ?_ | with_reducible refine t7r5 ?_ | with_reducible refine t7r6 ?_ | with_reducible refine t7r7 ?_ | with_reducible refine t7r8 ?_ | with_reducible refine t7r9 ?_ | with_reducible refine t7r10 ?_ | with_reducible refine t7r12 ?_ | with_reducible refine t7r13 ?_ | with_reducible refine t7r14 ?_ | with_reducible refine t7r11 ?_ | with_reducible refine t7r15 ?_ | with_reducible refine t7r16 ?_ | with_reducible refine t7r18 ?_ | with_reducible refine t7r19 ?_ | with_reducible refine t7r17 ?_ | with_reducible refine t7r20 ?_)) | with_reducible refine hqr _ ?_ | with_reducible refine hqn _ ?_); (try simp only [true_implies, false_implies, not_true_eq_false, not_false_eq_true, tget_cons, if_true, if_false, Nat.reduceEqDiff, ccells, Obt_some, Kn_normal, newL_eq, newP_eq, newA_eq, newM_eq, newR_eq, newK_eq, nmA_f, nmR_f, gn_var, gn_arr, gn_map, gnext_setL, lget_setL, lget_lset, gnext_lset, setL_setL, setL_H, Nat.reduceMul, Nat.reduceAdd, Nat.zero_add, fldA_ptr, fldA_rptr, List.drop_zero, ld1_l, ld1_r, ldA_l, rd1_var, rd1_arr, List.getElem?_cons_zero, List.getElem?_cons_succ, Obt_lss, Obt_leq, Obt_gtr, Obt_geq, Obt_eql, Obt_neq, Obt_not, gdO_tt, gdO_tf, gdO_ff, gdO_ft, gdO_skip, Option.map_some, pickX_t, pickX_f, Obt_pickS, Obt_gdT, Obt_gdF, Bool.not_true, Bool.not_false, lenS, Obt_map, Obt_add, Obt_sub, Obt_mul, Obt_quo, Obt_rem, Obt_and, Obt_or, Obt_xor, Obt_andNot, Obt_shl, Obt_shr, Obt_neg, Obt_cpl, Obt_conv, Obt_ext, Obt_bind, Obt_ite', appX_l, appX_n, appR_arr, appN_some, content_l, conR_arr, content_nil, clen_n, clen_r, idxS_ref, fillX, bslX, escP_list, List.all_append, stX_l, stV_var, stV_arr, splice, List.take_zero, List.take_succ_cons, List.drop_succ_cons, List.drop_nil, List.nil_append, List.cons_append, List.append_nil, List.length_cons, List.length_nil, Nat.reduceLeDiff, and_self, and_true, true_and, Nat.le_refl, Nat.zero_le, rdA_var, rdA_arr, escP, List.all_cons, List.all_nil, Bool.and_self, Bool.true_and, Bool.and_true, r7, tend, tresAll, tresC, Option.bind_some, mapMem, retv_agc, esc_i, esc_b, esc_n, esc_m, esc_s, retv_l, retR_arr, retv_gref, retv_gmap, retv_gptr, Nat.zero_sub, Nat.sub_self, retv_int, retv_bool, retv_nil, retv_imm, retv_inil, retv_pnil, tup_nil, tup_one, tup_two, Prod.mk.injEq, CV.int.injEq, CV.bool.injEq, clen_rowsC, k8 g _ hgv false (decide_eq_false hs), k9]))
      | (revert hK; intro hK; (first | refine And.intro ?_ ?_ | (refine fun (h : (_ : Bool) = _) => ?_; subst h) | intro _ | omega | (with_reducible refine hK _ ?_; clear hK K))))
    all_goals exact ⟨_, rfl⟩
end Go.Cm
