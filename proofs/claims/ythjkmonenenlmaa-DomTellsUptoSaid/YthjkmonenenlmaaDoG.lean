/-
  Graphs: who dominates whom.
-/
import Derived.Test.YthjkmonenenlmaaDoF
set_option linter.unusedSimpArgs false
set_option linter.unusedVariables false
namespace Go.Cm
open Go.Proofs Go.Gr
open Classical in
/-- does a node dominate another one? -/
noncomputable def domB (g : List (List Int)) (a b : Int) : Bool := decide (Dom g a b)
theorem domB_iff {g : List (List Int)} {a b : Int} : domB g a b = true ↔ Dom g a b := by simp [domB]
theorem domB_false {g : List (List Int)} {a b : Int} (h : ¬ Dom g a b) : domB g a b = false := by simp [domB, h]
theorem reachL_get {g : List (List Int)} {x : Int} (h0 : 0 ≤ x) (h1 : x < g.length) : (reachL g)[x.toNat]? = some (decide (x ∈ ord g)) := by
  have : ((x.toNat : Nat) : Int) = x := by omega
  rw [reachL, List.getElem?_map, List.getElem?_range (by omega)]
  simp [this]
theorem adopt_ownN {α : Type} {e : α → List CV} {sz d : Nat} {gl : Bool} {l : List α} {m : Mem} (hg : gl = false) : adopt gl d (ownN e sz l) m = (.ref (.l (16 * d)) (gnext m.L (16 * d)) 0 l.length, setL m (16 * d) (.arr (gnext m.L (16 * d)) sz (l.flatMap e) 0)) := by
  subst hg; rfl
/-- a call of Reach -/
theorem k10 (g : List (List Int)) (hg : Sm g) (gv : CV) (hgv : IsRows gv g) {fid : FuncId} {d : Tmp} {m : Mem} (hgl : (An.glob fid).contains d = false) :
    callC An FF fid (some d) 10 [gv] m = some (.ref (.l (16 * d)) (gnext m.L (16 * d)) 0 g.length, setL m (16 * d) (.arr (gnext m.L (16 * d)) 1 ((reachL g).flatMap boolC) 0)) := by
  obtain ⟨H', h⟩ := x10 g hg gv hgv
  have hl : (reachL g).length = g.length := by simp [reachL]
  rw [callC_P h rfl (by simp only [List.all_cons, List.all_nil, escP_escQ hgv.esc, Bool.and_self]) (by simp only [noGs, hgv.noG, Bool.and_self]) (noG_ownN boolC_N _), adopt_ownN hgl, hl]
theorem x11 (g : List (List Int)) (hg : Sm g) (gv : CV) (hgv : IsRows gv g) (a b : Int) : ∃ r, (∃ H', r = (CV.bool (domB g a b), H')) ∧ FF 11 [gv, .int .i64 a, .int .i64 b] [] = some r := by
  by_cases hr : 0 ≤ a ∧ a < g.length ∧ 0 ≤ b ∧ b < g.length
  · obtain ⟨ha0, ha1, hb0, hb1⟩ := hr
    have n1 : ¬ a < 0 := by omega
    have n2 : ¬ (g.length : Int) ≤ a := by omega
    have n3 : ¬ b < 0 := by omega
    have n4 : ¬ (g.length : Int) ≤ b := by omega
    have hkr := k10 g hg gv hgv (fid := 11) (d := 28) (m := ⟨[], []⟩) rfl
    have hi : ∀ gn, idxS 1 (.ref (.l (16 * 28)) gn 0 g.length) (.int .i64 b) = some (.ptr (.l (16 * 28)) gn b.toNat) := fun gn => by
      rw [idxS_ref, if_pos ⟨by omega, by omega⟩]; simp
    have hrb := reachL_get hb0 hb1
    by_cases hb : b ∈ ord g
    · have hgn : g ≠ [] := fun h => by rw [h] at hb; simp [ord] at hb
      obtain ⟨_, ⟨v, H', up, rfl, ⟨nu, _, rfl, hup⟩, hul, hok, _, _⟩, hid⟩ := x16 g hg gv hgv []
      obtain ⟨hI, hF⟩ := hok hgn
      have hV := hI.toVal
      have hch : ∀ x ∈ ord g, ∀ c, Ch (uf up) x c ↔ Dom g c x := fun x hx c => hI.final hF hx
      have hci : ∀ L, callC An FF 11 (some 35) 16 [gv] ⟨L, []⟩ = some (.ref (.g nu) 1 0 g.length, ⟨L, H'⟩) := fun L => by
        rw [callC_I rfl (by simp only [List.all_cons, List.all_nil, escP_escQ hgv.esc, Bool.and_self]) hid]; rfl
      refine Fw_funE rfl Try.func11 s11 (Nat.le_of_ble_eq_true rfl) (fun Q hqr hqn => ?_)
      simp only [tinit, Nat.reduceAdd, c11]
      have hsetL : ∀ j o, setL ⟨[], []⟩ j o = ⟨lset [] j o, []⟩ := fun _ _ => rfl
      repeat' (first
      | with_reducible refine Tx_assoc ?_
      | with_reducible refine Tx_nopK ?_
      | with_reducible refine Tx_noK rfl ?_
      | with_reducible refine Tx_blockK (id := 0) (fun Q0 hn0 hx0 hr0 ho0 => ?_)
      | ((with_reducible refine Tx_regK (fun K hK => ?_); (first | with_reducible refine t11r0 ?_ | with_reducible refine t11r1 ?_ | with_reducible refine t11r3 ?_)); (try simp only [true_implies, false_implies, not_true_eq_false, not_false_eq_true, tget_cons, if_true, if_false, Nat.reduceEqDiff, ccells, Obt_some, Kn_normal, newL_eq, newP_eq, newA_eq, newM_eq, newR_eq, newK_eq, nmA_f, nmR_f, gn_var, gn_arr, gn_map, gnext_setL, lget_setL, lget_lset, gnext_lset, setL_setL, setL_H, Nat.reduceMul, Nat.reduceAdd, Nat.zero_add, fldA_ptr, fldA_rptr, List.drop_zero, ld1_l, ld1_r, ldA_l, rd1_var, rd1_arr, List.getElem?_cons_zero, List.getElem?_cons_succ, Obt_lss, Obt_leq, Obt_gtr, Obt_geq, Obt_eql, Obt_neq, Obt_not, gdO_tt, gdO_tf, gdO_ff, gdO_ft, gdO_skip, Option.map_some, pickX_t, pickX_f, Obt_pickS, Obt_gdT, Obt_gdF, Bool.not_true, Bool.not_false, lenS, Obt_map, Obt_add, Obt_sub, Obt_mul, Obt_quo, Obt_rem, Obt_and, Obt_or, Obt_xor, Obt_andNot, Obt_shl, Obt_shr, Obt_neg, Obt_cpl, Obt_conv, Obt_ext, Obt_bind, Obt_ite', appX_l, appX_n, appR_arr, appN_some, content_l, conR_arr, content_nil, clen_n, clen_r, idxS_ref, fillX, bslX, escP_list, List.all_append, stX_l, stV_var, stV_arr, splice, List.take_zero, List.take_succ_cons, List.drop_succ_cons, List.drop_nil, List.nil_append, List.cons_append, List.append_nil, List.length_cons, List.length_nil, Nat.reduceLeDiff, and_self, and_true, true_and, Nat.le_refl, Nat.zero_le, rdA_var, rdA_arr, escP, List.all_cons, List.all_nil, Bool.and_self, Bool.true_and, Bool.and_true, r11, tend, tresAll, tresC, Option.bind_some, mapMem, retv_agc, esc_i, esc_b, esc_n, esc_m, esc_s, retv_l, retR_arr, retv_gref, retv_gmap, retv_gptr, Nat.zero_sub, Nat.sub_self, retv_int, retv_bool, retv_nil, retv_imm, retv_inil, retv_pnil, tup_nil, tup_one, tup_two, Prod.mk.injEq, CV.int.injEq, CV.bool.injEq, n1, n2, n3, n4, hgv.len, hkr, hi, flat_bool, hrb, hb, decide_true, hsetL, hci]))
      | (revert hK; intro hK; (with_reducible refine hK _ ?_; clear hK K)))
      refine Tx_loopK (fun k s => ∃ (x : Int) (sl : List (Nat × CV)) (L : List (Nat × HO)), ((x = -1 ∧ ¬ Dom g a b) ∨ (x ∈ ord g ∧ (Ch (uf up) x a ↔ Dom g a b))) ∧ k = (if x = -1 then 0 else pl g x + 1) ∧
        s = ⟨sl, ⟨L, H'⟩⟩ ∧ tget sl 1 = .int .i64 a ∧ tget sl 2 = .int .i64 x ∧ tget sl 7 = .ref (.g nu) 1 0 g.length) _ ⟨b, _, _, .inr ⟨hb, hch b hb a⟩, rfl, rfl, rfl, rfl, rfl⟩ ?_
      rintro k s ⟨x, sl, L, hx, rfl, rfl, t1, t2, t7⟩ QL0 hnL0 hxL0 hrL0
      simp only [c11l0]
      rcases hx with ⟨rfl, hnd⟩ | ⟨hxo, hxd⟩
      · have hna : ¬ (-1 : Int) = a := by omega
        repeat' (first
        | with_reducible refine Tx_assoc ?_
        | with_reducible refine Tx_noK rfl ?_
        | with_reducible refine Tx_exitK ?_
        | with_reducible refine Tx_ret ?_
        | with_reducible refine hx0 _ ?_
        | with_reducible refine hxL0 _ _ ?_
        | ((first | (with_reducible refine Tx_regK (fun K hK => ?_); (first | with_reducible refine t11r4 ?_ | with_reducible refine t11r6 ?_)) | with_reducible refine hqr _ ?_); (try simp only [true_implies, false_implies, not_true_eq_false, not_false_eq_true, tget_cons, if_true, if_false, Nat.reduceEqDiff, ccells, Obt_some, Kn_normal, newL_eq, newP_eq, newA_eq, newM_eq, newR_eq, newK_eq, nmA_f, nmR_f, gn_var, gn_arr, gn_map, gnext_setL, lget_setL, lget_lset, gnext_lset, setL_setL, setL_H, Nat.reduceMul, Nat.reduceAdd, Nat.zero_add, fldA_ptr, fldA_rptr, List.drop_zero, ld1_l, ld1_r, ldA_l, rd1_var, rd1_arr, List.getElem?_cons_zero, List.getElem?_cons_succ, Obt_lss, Obt_leq, Obt_gtr, Obt_geq, Obt_eql, Obt_neq, Obt_not, gdO_tt, gdO_tf, gdO_ff, gdO_ft, gdO_skip, Option.map_some, pickX_t, pickX_f, Obt_pickS, Obt_gdT, Obt_gdF, Bool.not_true, Bool.not_false, lenS, Obt_map, Obt_add, Obt_sub, Obt_mul, Obt_quo, Obt_rem, Obt_and, Obt_or, Obt_xor, Obt_andNot, Obt_shl, Obt_shr, Obt_neg, Obt_cpl, Obt_conv, Obt_ext, Obt_bind, Obt_ite', appX_l, appX_n, appR_arr, appN_some, content_l, conR_arr, content_nil, clen_n, clen_r, idxS_ref, fillX, bslX, escP_list, List.all_append, stX_l, stV_var, stV_arr, splice, List.take_zero, List.take_succ_cons, List.drop_succ_cons, List.drop_nil, List.nil_append, List.cons_append, List.append_nil, List.length_cons, List.length_nil, Nat.reduceLeDiff, and_self, and_true, true_and, Nat.le_refl, Nat.zero_le, rdA_var, rdA_arr, escP, List.all_cons, List.all_nil, Bool.and_self, Bool.true_and, Bool.and_true, r11, tend, tresAll, tresC, Option.bind_some, mapMem, retv_agc, esc_i, esc_b, esc_n, esc_m, esc_s, retv_l, retR_arr, retv_gref, retv_gmap, retv_gptr, Nat.zero_sub, Nat.sub_self, retv_int, retv_bool, retv_nil, retv_imm, retv_inil, retv_pnil, tup_nil, tup_one, tup_two, Prod.mk.injEq, CV.int.injEq, CV.bool.injEq, t1, t2, t7]))
        | (revert hK; intro hK; (first | refine And.intro ?_ ?_ | intro _ | omega | (with_reducible refine hK _ ?_; clear hK K))))
        exact ⟨_, by rw [domB_false hnd], rfl⟩
      · have hxr := ((mem_ord g x).1 hxo).range
        have hne1 : ¬ x = -1 := by omega
        by_cases hxa : x = a
        · have hd : domB g a b = true := domB_iff.2 (hxd.1 (by rw [hxa]; exact .self _))
          repeat' (first
          | with_reducible refine Tx_assoc ?_
          | with_reducible refine Tx_noK rfl ?_
          | with_reducible refine Tx_exitK ?_
          | with_reducible refine Tx_ret ?_
          | with_reducible refine hx0 _ ?_
          | with_reducible refine hxL0 _ _ ?_
          | ((first | (with_reducible refine Tx_regK (fun K hK => ?_); (first | with_reducible refine t11r4 ?_ | with_reducible refine t11r6 ?_)) | with_reducible refine hqr _ ?_); (try simp only [true_implies, false_implies, not_true_eq_false, not_false_eq_true, tget_cons, if_true, if_false, Nat.reduceEqDiff, ccells, Obt_some, Kn_normal, newL_eq, newP_eq, newA_eq, newM_eq, newR_eq, newK_eq, nmA_f, nmR_f, gn_var, gn_arr, gn_map, gnext_setL, lget_setL, lget_lset, gnext_lset, setL_setL, setL_H, Nat.reduceMul, Nat.reduceAdd, Nat.zero_add, fldA_ptr, fldA_rptr, List.drop_zero, ld1_l, ld1_r, ldA_l, rd1_var, rd1_arr, List.getElem?_cons_zero, List.getElem?_cons_succ, Obt_lss, Obt_leq, Obt_gtr, Obt_geq, Obt_eql, Obt_neq, Obt_not, gdO_tt, gdO_tf, gdO_ff, gdO_ft, gdO_skip, Option.map_some, pickX_t, pickX_f, Obt_pickS, Obt_gdT, Obt_gdF, Bool.not_true, Bool.not_false, lenS, Obt_map, Obt_add, Obt_sub, Obt_mul, Obt_quo, Obt_rem, Obt_and, Obt_or, Obt_xor, Obt_andNot, Obt_shl, Obt_shr, Obt_neg, Obt_cpl, Obt_conv, Obt_ext, Obt_bind, Obt_ite', appX_l, appX_n, appR_arr, appN_some, content_l, conR_arr, content_nil, clen_n, clen_r, idxS_ref, fillX, bslX, escP_list, List.all_append, stX_l, stV_var, stV_arr, splice, List.take_zero, List.take_succ_cons, List.drop_succ_cons, List.drop_nil, List.nil_append, List.cons_append, List.append_nil, List.length_cons, List.length_nil, Nat.reduceLeDiff, and_self, and_true, true_and, Nat.le_refl, Nat.zero_le, rdA_var, rdA_arr, escP, List.all_cons, List.all_nil, Bool.and_self, Bool.true_and, Bool.and_true, r11, tend, tresAll, tresC, Option.bind_some, mapMem, retv_agc, esc_i, esc_b, esc_n, esc_m, esc_s, retv_l, retR_arr, retv_gref, retv_gmap, retv_gptr, Nat.zero_sub, Nat.sub_self, retv_int, retv_bool, retv_nil, retv_imm, retv_inil, retv_pnil, tup_nil, tup_one, tup_two, Prod.mk.injEq, CV.int.injEq, CV.bool.injEq, t1, t2, t7, hxa]))
          | (revert hK; intro hK; (with_reducible refine hK _ ?_; clear hK K)))
          exact ⟨_, hd.symm, rfl⟩
        · have hix : idxS 1 (.ref (.g nu) 1 0 g.length) (.int .i64 x) = some (.ptr (.g nu) 1 x.toNat) := by
            rw [idxS_ref, if_pos ⟨by omega, by omega⟩]; simp
          have hlx : ld1 ⟨L, H'⟩ (.ptr (.g nu) 1 x.toNat) = some (.int .i64 (uf up x)) := by
            rw [ld1_g]; simp only [hup, rd1_arr, flat_int, uf_get hxr.1 (by rw [hul]; exact hxr.2)]; rfl
          repeat' (first
          | with_reducible refine Tx_assoc ?_
          | with_reducible refine Tx_nopK ?_
          | with_reducible refine Tx_yesK rfl ?_
          | with_reducible refine Tx_blockE (id := 1) (fun Q1 hn1 hx1 hr1 ho1 => ?_)
          | with_reducible refine hn1 _ ?_
          | (((first | with_reducible refine Tx_regK (fun K hK => ?_) | with_reducible refine Tx_regE (fun K hK => ?_)); (first | with_reducible refine t11r4 ?_ | with_reducible refine t11r5 ?_)); (try simp only [true_implies, false_implies, not_true_eq_false, not_false_eq_true, tget_cons, if_true, if_false, Nat.reduceEqDiff, ccells, Obt_some, Kn_normal, newL_eq, newP_eq, newA_eq, newM_eq, newR_eq, newK_eq, nmA_f, nmR_f, gn_var, gn_arr, gn_map, gnext_setL, lget_setL, lget_lset, gnext_lset, setL_setL, setL_H, Nat.reduceMul, Nat.reduceAdd, Nat.zero_add, fldA_ptr, fldA_rptr, List.drop_zero, ld1_l, ld1_r, ldA_l, rd1_var, rd1_arr, List.getElem?_cons_zero, List.getElem?_cons_succ, Obt_lss, Obt_leq, Obt_gtr, Obt_geq, Obt_eql, Obt_neq, Obt_not, gdO_tt, gdO_tf, gdO_ff, gdO_ft, gdO_skip, Option.map_some, pickX_t, pickX_f, Obt_pickS, Obt_gdT, Obt_gdF, Bool.not_true, Bool.not_false, lenS, Obt_map, Obt_add, Obt_sub, Obt_mul, Obt_quo, Obt_rem, Obt_and, Obt_or, Obt_xor, Obt_andNot, Obt_shl, Obt_shr, Obt_neg, Obt_cpl, Obt_conv, Obt_ext, Obt_bind, Obt_ite', appX_l, appX_n, appR_arr, appN_some, content_l, conR_arr, content_nil, clen_n, clen_r, idxS_ref, fillX, bslX, escP_list, List.all_append, stX_l, stV_var, stV_arr, splice, List.take_zero, List.take_succ_cons, List.drop_succ_cons, List.drop_nil, List.nil_append, List.cons_append, List.append_nil, List.length_cons, List.length_nil, Nat.reduceLeDiff, and_self, and_true, true_and, Nat.le_refl, Nat.zero_le, rdA_var, rdA_arr, escP, List.all_cons, List.all_nil, Bool.and_self, Bool.true_and, Bool.and_true, r11, tend, tresAll, tresC, Option.bind_some, mapMem, retv_agc, esc_i, esc_b, esc_n, esc_m, esc_s, retv_l, retR_arr, retv_gref, retv_gmap, retv_gptr, Nat.zero_sub, Nat.sub_self, retv_int, retv_bool, retv_nil, retv_imm, retv_inil, retv_pnil, tup_nil, tup_one, tup_two, Prod.mk.injEq, CV.int.injEq, CV.bool.injEq, t1, t2, t7, hix, hlx]))
          | (revert hK; intro hK; (first | refine And.intro ?_ ?_ | intro _ | omega | (with_reducible refine hK _ ?_; clear hK K))))
          by_cases hu : uf up x = -1
          · refine hnL0 0 _ (by rw [if_neg hne1]; omega) ⟨uf up x, _, L, .inl ⟨hu, fun hd => ?_⟩, by rw [if_pos hu], rfl, rfl, rfl, rfl⟩
            cases hxd.2 hd with
            | self => exact hxa rfl
            | step h _ => exact h hu
          · obtain ⟨_, huo, hlt⟩ := hV.up x hu
            refine hnL0 (pl g (uf up x) + 1) _ (by rw [if_neg hne1]; omega) ⟨uf up x, _, L, .inr ⟨huo, ?_⟩, by rw [if_neg hu], rfl, rfl, rfl, rfl⟩
            rw [← hxd]
            refine ⟨fun h => .step hu h, fun h => ?_⟩
            cases h with
            | self => exact absurd rfl hxa
            | step _ h => exact h
    · have hd : domB g a b = false := domB_false fun h => hb ((mem_ord g b).2 h.2.1)
      simp only [hd]
      refine Fw_funE rfl Try.func11 s11 (Nat.le_of_ble_eq_true rfl) (fun Q hqr hqn => ?_)
      simp only [tinit, Nat.reduceAdd, c11]
      repeat' (first
      | with_reducible refine Tx_assoc ?_
      | with_reducible refine Tx_yesK rfl ?_
      | with_reducible refine Tx_retK ?_
      | ((first | (with_reducible refine Tx_regK (fun K hK => ?_); (first | with_reducible refine t11r0 ?_ | with_reducible refine t11r1 ?_ | with_reducible refine t11r2 ?_)) | with_reducible refine hqr _ ?_); (try simp only [true_implies, false_implies, not_true_eq_false, not_false_eq_true, tget_cons, if_true, if_false, Nat.reduceEqDiff, ccells, Obt_some, Kn_normal, newL_eq, newP_eq, newA_eq, newM_eq, newR_eq, newK_eq, nmA_f, nmR_f, gn_var, gn_arr, gn_map, gnext_setL, lget_setL, lget_lset, gnext_lset, setL_setL, setL_H, Nat.reduceMul, Nat.reduceAdd, Nat.zero_add, fldA_ptr, fldA_rptr, List.drop_zero, ld1_l, ld1_r, ldA_l, rd1_var, rd1_arr, List.getElem?_cons_zero, List.getElem?_cons_succ, Obt_lss, Obt_leq, Obt_gtr, Obt_geq, Obt_eql, Obt_neq, Obt_not, gdO_tt, gdO_tf, gdO_ff, gdO_ft, gdO_skip, Option.map_some, pickX_t, pickX_f, Obt_pickS, Obt_gdT, Obt_gdF, Bool.not_true, Bool.not_false, lenS, Obt_map, Obt_add, Obt_sub, Obt_mul, Obt_quo, Obt_rem, Obt_and, Obt_or, Obt_xor, Obt_andNot, Obt_shl, Obt_shr, Obt_neg, Obt_cpl, Obt_conv, Obt_ext, Obt_bind, Obt_ite', appX_l, appX_n, appR_arr, appN_some, content_l, conR_arr, content_nil, clen_n, clen_r, idxS_ref, fillX, bslX, escP_list, List.all_append, stX_l, stV_var, stV_arr, splice, List.take_zero, List.take_succ_cons, List.drop_succ_cons, List.drop_nil, List.nil_append, List.cons_append, List.append_nil, List.length_cons, List.length_nil, Nat.reduceLeDiff, and_self, and_true, true_and, Nat.le_refl, Nat.zero_le, rdA_var, rdA_arr, escP, List.all_cons, List.all_nil, Bool.and_self, Bool.true_and, Bool.and_true, r11, tend, tresAll, tresC, Option.bind_some, mapMem, retv_agc, esc_i, esc_b, esc_n, esc_m, esc_s, retv_l, retR_arr, retv_gref, retv_gmap, retv_gptr, Nat.zero_sub, Nat.sub_self, retv_int, retv_bool, retv_nil, retv_imm, retv_inil, retv_pnil, tup_nil, tup_one, tup_two, Prod.mk.injEq, CV.int.injEq, CV.bool.injEq, n1, n2, n3, n4, hgv.len, hkr, hi, flat_bool, hrb, hb, decide_false]))
      | (revert hK; intro hK; (with_reducible refine hK _ ?_; clear hK K)))
      all_goals exact ⟨_, rfl⟩
  · have hd : domB g a b = false := domB_false fun h => hr ⟨h.1.range.1, h.1.range.2, h.2.1.range.1, h.2.1.range.2⟩
    simp only [hd]
    refine Fw_funE rfl Try.func11 s11 (Nat.le_of_ble_eq_true rfl) (fun Q hqr hqn => ?_)
    simp only [tinit, Nat.reduceAdd, c11]
    repeat' (first
    | with_reducible refine Tx_assoc ?_
    | with_reducible refine Tx_yesK rfl ?_
    | with_reducible refine Tx_retK ?_
    | ((first | (with_reducible refine Tx_regK (fun K hK => ?_); (first | with_reducible refine t11r0 ?_ | with_reducible refine t11r1 ?_ | with_reducible refine t11r2 ?_)) | with_reducible refine hqr _ ?_); (try simp only [true_implies, false_implies, not_true_eq_false, not_false_eq_true, tget_cons, if_true, if_false, Nat.reduceEqDiff, ccells, Obt_some, Kn_normal, newL_eq, newP_eq, newA_eq, newM_eq, newR_eq, newK_eq, nmA_f, nmR_f, gn_var, gn_arr, gn_map, gnext_setL, lget_setL, lget_lset, gnext_lset, setL_setL, setL_H, Nat.reduceMul, Nat.reduceAdd, Nat.zero_add, fldA_ptr, fldA_rptr, List.drop_zero, ld1_l, ld1_r, ldA_l, rd1_var, rd1_arr, List.getElem?_cons_zero, List.getElem?_cons_succ, Obt_lss, Obt_leq, Obt_gtr, Obt_geq, Obt_eql, Obt_neq, Obt_not, gdO_tt, gdO_tf, gdO_ff, gdO_ft, gdO_skip, Option.map_some, pickX_t, pickX_f, Obt_pickS, Obt_gdT, Obt_gdF, Bool.not_true, Bool.not_false, lenS, Obt_map, Obt_add, Obt_sub, Obt_mul, Obt_quo, Obt_rem, Obt_and, Obt_or, Obt_xor, Obt_andNot, Obt_shl, Obt_shr, Obt_neg, Obt_cpl, Obt_conv, Obt_ext, Obt_bind, Obt_ite', appX_l, appX_n, appR_arr, appN_some, content_l, conR_arr, content_nil, clen_n, clen_r, idxS_ref, fillX, bslX, escP_list, List.all_append, stX_l, stV_var, stV_arr, splice, List.take_zero, List.take_succ_cons, List.drop_succ_cons, List.drop_nil, List.nil_append, List.cons_append, List.append_nil, List.length_cons, List.length_nil, Nat.reduceLeDiff, and_self, and_true, true_and, Nat.le_refl, Nat.zero_le, rdA_var, rdA_arr, escP, List.all_cons, List.all_nil, Bool.and_self, Bool.true_and, Bool.and_true, r11, tend, tresAll, tresC, Option.bind_some, mapMem, retv_agc, esc_i, esc_b, esc_n, esc_m, esc_s, retv_l, retR_arr, retv_gref, retv_gmap, retv_gptr, Nat.zero_sub, Nat.sub_self, retv_int, retv_bool, retv_nil, retv_imm, retv_inil, retv_pnil, tup_nil, tup_one, tup_two, Prod.mk.injEq, CV.int.injEq, CV.bool.injEq, hgv.len]))
    | (revert hK; intro hK; (first | refine And.intro ?_ ?_ | intro _ | omega | (with_reducible refine hK _ ?_; clear hK K))))
    all_goals exact ⟨_, rfl⟩
end Go.Cm
