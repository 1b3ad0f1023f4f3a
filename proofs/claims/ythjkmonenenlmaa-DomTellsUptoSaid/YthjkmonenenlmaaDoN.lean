/-
  Graphs: who dominates whom, by the document: its table.
-/
import Derived.Test.YthjkmonenenlmaaDoW
import Derived.Test.YthjkmonenenlmaaDoM
import Derived.Test.YthjkmonenenlmaaDyD
set_option linter.unusedSimpArgs false
set_option linter.unusedVariables false
namespace Go.Cm
open Go.Proofs Go.Gr
/-- whom a node dominates -/
noncomputable def tabRow (g : List (List Int)) (a : Int) : List Bool := (List.range g.length).map fun (b : Nat) => domB g a (b : Int)
noncomputable def tabL (g : List (List Int)) : List (List Bool) := (List.range g.length).map fun (a : Nat) => tabRow g (a : Int)
def rowBC (r : List Bool) : List CV := [sl boolC r]
theorem rowBC_len (r : List Bool) : (rowBC r).length = 1 := rfl
theorem rowBC_N (r : List Bool) : noGs (rowBC r) = true := by simp only [rowBC, noGs, noG_sl boolC_N, Bool.and_self]
open Classical in
noncomputable def avB (g : List (List Int)) (w x : Int) : Bool := decide (Av g w x)
theorem avL_get {g : List (List Int)} {w : Int} {b : Nat} (hb : b < g.length) : (avL g w)[b]? = some (avB g w b) := by
  rw [avL, List.getElem?_map, List.getElem?_range hb]; rfl
theorem dom_av {g : List (List Int)} {a b : Int} : domB g a b = (decide (a ∈ ord g) && decide (b ∈ ord g) && (decide (a = b) || !avB g a b)) := by
  have h : Dom g a b ↔ a ∈ ord g ∧ b ∈ ord g ∧ (a = b ∨ ¬ Av g a b) := by
    rw [mem_ord, mem_ord]
    constructor
    · intro h; exact ⟨h.1, h.2.1, .inr h.2.2⟩
    · rintro ⟨h1, h2, h3 | h3⟩
      · subst h3; exact Dom.self h1
      · exact ⟨h1, h2, h3⟩
  rw [Bool.eq_iff_iff, domB_iff, h]
  simp only [Bool.and_eq_true, Bool.or_eq_true, decide_eq_true_eq, Bool.not_eq_true', avB, decide_eq_false_iff_not, and_assoc]
theorem x24 (g : List (List Int)) (hg : Sm g) (ht : um g [] ≤ 17179869184) (gv : CV) (hgv : IsRows gv g) : ∃ r, (∃ H', r = (ownC rowBC 1 (tabL g), H')) ∧ FF 24 [gv] [] = some r := by
  have hgl := hg.1
  have hl : (reachL g).length = g.length := by simp [reachL]
  have hk1 : ∀ m, callC An FF 24 (some 10) 18 [gv] m = some (.ref (.l (16 * 10)) (gnext m.L (16 * 10)) 0 g.length, setL m (16 * 10) (.arr (gnext m.L (16 * 10)) 1 ((reachL g).flatMap boolC) 0)) := fun m => by
    obtain ⟨_, ⟨H', rfl⟩, h⟩ := x18 g hg ht _ hgv
    rw [callC_P h rfl (by simp only [List.all_cons, List.all_nil, escP_escQ hgv.esc, Bool.and_self]) (by simp only [noGs, hgv.noG, Bool.and_self]) (noG_ownN boolC_N _), adopt_ownN (show (An.glob 24).contains 10 = false from rfl), hl]
  have hk2 : ∀ m w, callC An FF 24 (some 19) 27 [gv, .int .i64 w] m = some (.ref (.l (16 * 19)) (gnext m.L (16 * 19)) 0 g.length, setL m (16 * 19) (.arr (gnext m.L (16 * 19)) 1 ((avL g w).flatMap boolC) 0)) := fun m w => by
    obtain ⟨_, ⟨H', rfl⟩, h⟩ := x27 g hg ht _ hgv w
    rw [callC_P h rfl (by simp only [List.all_cons, List.all_nil, escP_escQ hgv.esc, escQ_int, Bool.and_self]) (by simp only [noGs, hgv.noG, noG_int, Bool.and_self]) (noG_ownN boolC_N _), adopt_ownN (show (An.glob 24).contains 19 = false from rfl), avL_len]
  have hmk := fun m => mkX_l (j := 352) (sz := 1) (b := 1) (z := [.bool false]) (k := .i64) (n := g.length) (m := m) rfl (by omega) (by omega)
  refine Fw_funE rfl Try.func24 s24 (Nat.le_of_ble_eq_true rfl) (fun Q hqr hqn => ?_)
  simp only [tinit, Nat.reduceAdd, c24]
  repeat' (first
  | with_reducible refine Tx_assoc ?_
  | with_reducible refine Tx_blockK (id := 0) (fun Q0 hn0 hx0 hr0 ho0 => ?_)
  | ((with_reducible refine Tx_regK (fun K hK => ?_); (first | with_reducible refine t24r0 ?_ | with_reducible refine t24r1 ?_ | with_reducible refine t24r2 ?_ | with_reducible refine t24r3 ?_)); (try simp only [true_implies, false_implies, not_true_eq_false, not_false_eq_true, tget_cons, if_true, if_false, Nat.reduceEqDiff, ccells, Obt_some, Kn_normal, newL_eq, newP_eq, newA_eq, newM_eq, newR_eq, newK_eq, nmA_f, nmR_f, gn_var, gn_arr, gn_map, gnext_setL, lget_setL, lget_lset, gnext_lset, setL_setL, setL_H, Nat.reduceMul, Nat.reduceAdd, Nat.zero_add, fldA_ptr, fldA_rptr, List.drop_zero, ld1_l, ld1_r, ldA_l, rd1_var, rd1_arr, List.getElem?_cons_zero, List.getElem?_cons_succ, Obt_lss, Obt_leq, Obt_gtr, Obt_geq, Obt_eql, Obt_neq, Obt_not, gdO_tt, gdO_tf, gdO_ff, gdO_ft, gdO_skip, Option.map_some, pickX_t, pickX_f, Obt_pickS, Obt_gdT, Obt_gdF, Bool.not_true, Bool.not_false, lenS, Obt_map, Obt_add, Obt_sub, Obt_mul, Obt_quo, Obt_rem, Obt_and, Obt_or, Obt_xor, Obt_andNot, Obt_shl, Obt_shr, Obt_neg, Obt_cpl, Obt_conv, Obt_ext, Obt_bind, Obt_ite', appX_l, appX_n, appR_arr, appN_some, content_l, conR_arr, content_nil, clen_n, clen_r, idxS_ref, fillX, bslX, escP_list, List.all_append, stX_l, stV_var, stV_arr, splice, List.take_zero, List.take_succ_cons, List.drop_succ_cons, List.drop_nil, List.nil_append, List.cons_append, List.append_nil, List.length_cons, List.length_nil, Nat.reduceLeDiff, and_self, and_true, true_and, Nat.le_refl, Nat.zero_le, rdA_var, rdA_arr, escP, List.all_cons, List.all_nil, Bool.and_self, Bool.true_and, Bool.and_true, r24, tend, tresAll, tresC, Option.bind_some, mapMem, retv_agc, esc_i, esc_b, esc_n, esc_m, esc_s, retv_l, retR_arr, retv_gref, retv_gmap, retv_gptr, Nat.zero_sub, Nat.sub_self, retv_int, retv_bool, retv_nil, retv_imm, retv_inil, retv_pnil, tup_nil, tup_one, tup_two, Prod.mk.injEq, CV.int.injEq, CV.bool.injEq, hgv.len, hk1]))
  | (revert hK; intro hK; (with_reducible refine hK _ ?_; clear hK K)))
  refine Tx_loopK (fun k s => ∃ (i : Nat) (v : CV) (gr : Nat) (L : List (Nat × HO)), i ≤ g.length ∧ k = g.length - i ∧ s = ⟨[(0, gv), (3, .ref (.l 160) gr 0 g.length), (4, v), (5, .int .i64 i)], ⟨L, []⟩⟩ ∧
    lget L 160 = some (.arr gr 1 ((reachL g).flatMap boolC) 0) ∧ OwnE rowBC 1 ⟨L, []⟩ 912 v ((tabL g).take i)) _ ⟨0, .nil, _, _, Nat.zero_le _, rfl, rfl, by simp [setL, lget_lset], .nil⟩ ?_
  rintro k s ⟨i, v, gr, L, hi, rfl, rfl, hL1, hO⟩ QL1 hnL1 hxL1 hrL1
  simp only [c24l1]
  by_cases hig : i = g.length
  · subst hig
    repeat' (first
    | with_reducible refine Tx_assoc ?_
    | with_reducible refine Tx_noK rfl ?_
    | with_reducible refine Tx_exitK ?_
    | with_reducible refine Tx_ret ?_
    | with_reducible refine hx0 _ ?_
    | with_reducible refine hxL1 _ _ ?_
    | ((first | (with_reducible refine Tx_regK (fun K hK => ?_); (first | with_reducible refine t24r4 ?_ | with_reducible refine t24r13 ?_)) | with_reducible refine hqr _ ?_); (try simp only [true_implies, false_implies, not_true_eq_false, not_false_eq_true, tget_cons, if_true, if_false, Nat.reduceEqDiff, ccells, Obt_some, Kn_normal, newL_eq, newP_eq, newA_eq, newM_eq, newR_eq, newK_eq, nmA_f, nmR_f, gn_var, gn_arr, gn_map, gnext_setL, lget_setL, lget_lset, gnext_lset, setL_setL, setL_H, Nat.reduceMul, Nat.reduceAdd, Nat.zero_add, fldA_ptr, fldA_rptr, List.drop_zero, ld1_l, ld1_r, ldA_l, rd1_var, rd1_arr, List.getElem?_cons_zero, List.getElem?_cons_succ, Obt_lss, Obt_leq, Obt_gtr, Obt_geq, Obt_eql, Obt_neq, Obt_not, gdO_tt, gdO_tf, gdO_ff, gdO_ft, gdO_skip, Option.map_some, pickX_t, pickX_f, Obt_pickS, Obt_gdT, Obt_gdF, Bool.not_true, Bool.not_false, lenS, Obt_map, Obt_add, Obt_sub, Obt_mul, Obt_quo, Obt_rem, Obt_and, Obt_or, Obt_xor, Obt_andNot, Obt_shl, Obt_shr, Obt_neg, Obt_cpl, Obt_conv, Obt_ext, Obt_bind, Obt_ite', appX_l, appX_n, appR_arr, appN_some, content_l, conR_arr, content_nil, clen_n, clen_r, idxS_ref, fillX, bslX, escP_list, List.all_append, stX_l, stV_var, stV_arr, splice, List.take_zero, List.take_succ_cons, List.drop_succ_cons, List.drop_nil, List.nil_append, List.cons_append, List.append_nil, List.length_cons, List.length_nil, Nat.reduceLeDiff, and_self, and_true, true_and, Nat.le_refl, Nat.zero_le, rdA_var, rdA_arr, escP, List.all_cons, List.all_nil, Bool.and_self, Bool.true_and, Bool.and_true, r24, tend, tresAll, tresC, Option.bind_some, mapMem, retv_agc, esc_i, esc_b, esc_n, esc_m, esc_s, retv_l, retR_arr, retv_gref, retv_gmap, retv_gptr, Nat.zero_sub, Nat.sub_self, retv_int, retv_bool, retv_nil, retv_imm, retv_inil, retv_pnil, tup_nil, tup_one, tup_two, Prod.mk.injEq, CV.int.injEq, CV.bool.injEq, hgv.len]))
    | (revert hK; intro hK; (first | refine And.intro ?_ ?_ | intro _ | omega | (with_reducible refine hK _ ?_; clear hK K))))
    have htl : (tabL g).take g.length = tabL g := List.take_of_length_le (by simp [tabL])
    rw [htl] at hO
    refine hO.ret rowBC_len fun m' hm' => ?_
    simp only [tup_one, Option.map_some, Obt_some]
    first | exact ⟨_, trivial, rfl⟩ | simp
  · have hilt : (i : Int) < g.length := by omega
    repeat' (first
    | with_reducible refine Tx_assoc ?_
    | with_reducible refine Tx_nopK ?_
    | with_reducible refine Tx_yesK rfl ?_
    | with_reducible refine Tx_blockK (id := 1) (fun Q1 hn1 hx1 hr1 ho1 => ?_)
    | with_reducible refine Tx_blockK (id := 2) (fun Q2 hn2 hx2 hr2 ho2 => ?_)
    | ((with_reducible refine Tx_regK (fun K hK => ?_); (first | with_reducible refine t24r4 ?_ | with_reducible refine t24r6 ?_ | with_reducible refine t24r7 ?_ | with_reducible refine t24r8 ?_)); (try simp only [true_implies, false_implies, not_true_eq_false, not_false_eq_true, tget_cons, if_true, if_false, Nat.reduceEqDiff, ccells, Obt_some, Kn_normal, newL_eq, newP_eq, newA_eq, newM_eq, newR_eq, newK_eq, nmA_f, nmR_f, gn_var, gn_arr, gn_map, gnext_setL, lget_setL, lget_lset, gnext_lset, setL_setL, setL_H, Nat.reduceMul, Nat.reduceAdd, Nat.zero_add, fldA_ptr, fldA_rptr, List.drop_zero, ld1_l, ld1_r, ldA_l, rd1_var, rd1_arr, List.getElem?_cons_zero, List.getElem?_cons_succ, Obt_lss, Obt_leq, Obt_gtr, Obt_geq, Obt_eql, Obt_neq, Obt_not, gdO_tt, gdO_tf, gdO_ff, gdO_ft, gdO_skip, Option.map_some, pickX_t, pickX_f, Obt_pickS, Obt_gdT, Obt_gdF, Bool.not_true, Bool.not_false, lenS, Obt_map, Obt_add, Obt_sub, Obt_mul, Obt_quo, Obt_rem, Obt_and, Obt_or, Obt_xor, Obt_andNot, Obt_shl, Obt_shr, Obt_neg, Obt_cpl, Obt_conv, Obt_ext, Obt_bind, Obt_ite', appX_l, appX_n, appR_arr, appN_some, content_l, conR_arr, content_nil, clen_n, clen_r, idxS_ref, fillX, bslX, escP_list, List.all_append, stX_l, stV_var, stV_arr, splice, List.take_zero, List.take_succ_cons, List.drop_succ_cons, List.drop_nil, List.nil_append, List.cons_append, List.append_nil, List.length_cons, List.length_nil, Nat.reduceLeDiff, and_self, and_true, true_and, Nat.le_refl, Nat.zero_le, rdA_var, rdA_arr, escP, List.all_cons, List.all_nil, Bool.and_self, Bool.true_and, Bool.and_true, r24, tend, tresAll, tresC, Option.bind_some, mapMem, retv_agc, esc_i, esc_b, esc_n, esc_m, esc_s, retv_l, retR_arr, retv_gref, retv_gmap, retv_gptr, Nat.zero_sub, Nat.sub_self, retv_int, retv_bool, retv_nil, retv_imm, retv_inil, retv_pnil, tup_nil, tup_one, tup_two, Prod.mk.injEq, CV.int.injEq, CV.bool.injEq, hgv.len, hilt, hk2, hmk]))
    | (revert hK; intro hK; (with_reducible refine hK _ ?_; clear hK K)))
    refine Tx_loopK (fun k s => ∃ (b : Nat) (c : List Bool) (g6 g7 : Nat) (L : List (Nat × HO)), b ≤ g.length ∧ k = g.length - b ∧ c.length = g.length ∧ (∀ j : Nat, j < g.length → c[j]? = some (decide (j < b) && domB g i j)) ∧
      s = ⟨[(0, gv), (3, .ref (.l 160) gr 0 g.length), (4, v), (5, .int .i64 i), (6, .ref (.l 304) g6 0 g.length), (7, .ref (.l 352) g7 0 g.length), (8, .int .i64 b)], ⟨L, []⟩⟩ ∧
      lget L 160 = some (.arr gr 1 ((reachL g).flatMap boolC) 0) ∧ lget L 304 = some (.arr g6 1 ((avL g i).flatMap boolC) 0) ∧ lget L 352 = some (.arr g7 1 (c.flatMap boolC) 0) ∧ OwnE rowBC 1 ⟨L, []⟩ 912 v ((tabL g).take i)) _
      ⟨0, List.replicate g.length false, _, _, _, Nat.zero_le _, rfl, by simp, fun j hj => by simp [hj], rfl, by simp [setL, lget_lset, hL1], by simp [setL, lget_lset], by simp [setL, lget_lset, reps_bool], (hO.keepS (by decide)).keepS (by decide)⟩ ?_
    rintro k s ⟨b, c, g6, g7, L2, hb, rfl, hcl, hcc, rfl, m1, m2, m3, hO2⟩ QL0 hnL0 hxL0 hrL0
    simp only [c24l0]
    have hwi : IntKind.i64.wrap ((i : Int) + 1) = ((i + 1 : Nat) : Int) := by rw [wI (by omega) (by omega)]; rfl
    by_cases hbg : b = g.length
    · subst hbg
      have hcr : c = tabRow g i := by
        refine List.ext_getElem? fun j => ?_
        by_cases hj : j < g.length
        · rw [hcc j hj, tabRow, List.getElem?_map, List.getElem?_range hj]; simp [hj]
        · rw [List.getElem?_eq_none (by omega), List.getElem?_eq_none (by simp [tabRow]; omega)]
      have hesc := esc_own (m := ⟨L2, []⟩) (args := []) (len := g.length) m3 (by rw [len_bool, hcl]; omega) rfl
      have hfill : fillX [.nil] [(0, 1, .ref (.l 352) g7 0 g.length)] = some [.ref (.l 352) g7 0 g.length] := rfl
      repeat' (first
      | with_reducible refine Tx_assoc ?_
      | with_reducible refine Tx_noK rfl ?_
      | with_reducible refine Tx_exitK ?_
      | with_reducible refine hx2 _ ?_
      | with_reducible refine hxL0 _ _ ?_
      | (((first | with_reducible refine Tx_regK (fun K hK => ?_) | with_reducible refine Tx_regE (fun K hK => ?_)); (first | with_reducible refine t24r9 ?_ | with_reducible refine t24r12 ?_)); (try simp only [true_implies, false_implies, not_true_eq_false, not_false_eq_true, tget_cons, if_true, if_false, Nat.reduceEqDiff, ccells, Obt_some, Kn_normal, newL_eq, newP_eq, newA_eq, newM_eq, newR_eq, newK_eq, nmA_f, nmR_f, gn_var, gn_arr, gn_map, gnext_setL, lget_setL, lget_lset, gnext_lset, setL_setL, setL_H, Nat.reduceMul, Nat.reduceAdd, Nat.zero_add, fldA_ptr, fldA_rptr, List.drop_zero, ld1_l, ld1_r, ldA_l, rd1_var, rd1_arr, List.getElem?_cons_zero, List.getElem?_cons_succ, Obt_lss, Obt_leq, Obt_gtr, Obt_geq, Obt_eql, Obt_neq, Obt_not, gdO_tt, gdO_tf, gdO_ff, gdO_ft, gdO_skip, Option.map_some, pickX_t, pickX_f, Obt_pickS, Obt_gdT, Obt_gdF, Bool.not_true, Bool.not_false, lenS, Obt_map, Obt_add, Obt_sub, Obt_mul, Obt_quo, Obt_rem, Obt_and, Obt_or, Obt_xor, Obt_andNot, Obt_shl, Obt_shr, Obt_neg, Obt_cpl, Obt_conv, Obt_ext, Obt_bind, Obt_ite', appX_l, appX_n, appR_arr, appN_some, content_l, conR_arr, content_nil, clen_n, clen_r, idxS_ref, fillX, bslX, escP_list, List.all_append, stX_l, stV_var, stV_arr, splice, List.take_zero, List.take_succ_cons, List.drop_succ_cons, List.drop_nil, List.nil_append, List.cons_append, List.append_nil, List.length_cons, List.length_nil, Nat.reduceLeDiff, and_self, and_true, true_and, Nat.le_refl, Nat.zero_le, rdA_var, rdA_arr, escP, List.all_cons, List.all_nil, Bool.and_self, Bool.true_and, Bool.and_true, r24, tend, tresAll, tresC, Option.bind_some, mapMem, retv_agc, esc_i, esc_b, esc_n, esc_m, esc_s, retv_l, retR_arr, retv_gref, retv_gmap, retv_gptr, Nat.zero_sub, Nat.sub_self, retv_int, retv_bool, retv_nil, retv_imm, retv_inil, retv_pnil, tup_nil, tup_one, tup_two, Prod.mk.injEq, CV.int.injEq, CV.bool.injEq, hgv.len, hfill, hesc]))
      | (revert hK; intro hK; (first | refine And.intro ?_ ?_ | intro _ | omega | (with_reducible refine hK _ ?_; clear hK K))))
      refine ((hO2.keepS (i := 352) (by decide)).keepS (i := 896) (by decide)).app (ys := [c]) rowBC_len (by simp only [content_l, lget_setL, if_true, conR_arr, List.flatMap_cons, List.flatMap_nil, rowBC, sl, hcl]; rfl) rfl (by decide) (by simp only [List.length_cons, List.length_nil, List.length_take]; omega) fun v' m' hO' hH' hf => ?_
      refine hK _ ?_
      clear hK K
      obtain ⟨L3, H3⟩ := m'
      simp only at hH'
      subst hH'
      repeat' (first
      | with_reducible refine hn1 _ ?_
      | ((with_reducible refine Tx_regE (fun K hK => ?_); with_reducible refine t24r5 ?_); (try simp only [true_implies, false_implies, not_true_eq_false, not_false_eq_true, tget_cons, if_true, if_false, Nat.reduceEqDiff, ccells, Obt_some, Kn_normal, newL_eq, newP_eq, newA_eq, newM_eq, newR_eq, newK_eq, nmA_f, nmR_f, gn_var, gn_arr, gn_map, gnext_setL, lget_setL, lget_lset, gnext_lset, setL_setL, setL_H, Nat.reduceMul, Nat.reduceAdd, Nat.zero_add, fldA_ptr, fldA_rptr, List.drop_zero, ld1_l, ld1_r, ldA_l, rd1_var, rd1_arr, List.getElem?_cons_zero, List.getElem?_cons_succ, Obt_lss, Obt_leq, Obt_gtr, Obt_geq, Obt_eql, Obt_neq, Obt_not, gdO_tt, gdO_tf, gdO_ff, gdO_ft, gdO_skip, Option.map_some, pickX_t, pickX_f, Obt_pickS, Obt_gdT, Obt_gdF, Bool.not_true, Bool.not_false, lenS, Obt_map, Obt_add, Obt_sub, Obt_mul, Obt_quo, Obt_rem, Obt_and, Obt_or, Obt_xor, Obt_andNot, Obt_shl, Obt_shr, Obt_neg, Obt_cpl, Obt_conv, Obt_ext, Obt_bind, Obt_ite', appX_l, appX_n, appR_arr, appN_some, content_l, conR_arr, content_nil, clen_n, clen_r, idxS_ref, fillX, bslX, escP_list, List.all_append, stX_l, stV_var, stV_arr, splice, List.take_zero, List.take_succ_cons, List.drop_succ_cons, List.drop_nil, List.nil_append, List.cons_append, List.append_nil, List.length_cons, List.length_nil, Nat.reduceLeDiff, and_self, and_true, true_and, Nat.le_refl, Nat.zero_le, rdA_var, rdA_arr, escP, List.all_cons, List.all_nil, Bool.and_self, Bool.true_and, Bool.and_true, r24, tend, tresAll, tresC, Option.bind_some, mapMem, retv_agc, esc_i, esc_b, esc_n, esc_m, esc_s, retv_l, retR_arr, retv_gref, retv_gmap, retv_gptr, Nat.zero_sub, Nat.sub_self, retv_int, retv_bool, retv_nil, retv_imm, retv_inil, retv_pnil, tup_nil, tup_one, tup_two, Prod.mk.injEq, CV.int.injEq, CV.bool.injEq, hwi]))
      | (revert hK; intro hK; (with_reducible refine hK _ ?_; clear hK K)))
      refine hnL1 (g.length - (i + 1)) _ (by omega) ⟨i + 1, v', gr, L3, by omega, rfl, rfl, ?_, ?_⟩
      · rw [hf 160 (by decide)]; simp [setL, lget_lset, m1]
      · have hti : (tabL g)[i]? = some c := by rw [tabL, List.getElem?_map, List.getElem?_range (by omega), hcr]; rfl
        rw [List.take_add_one, hti]
        exact hO'
    · have hblt : (b : Int) < g.length := by omega
      have hix : ∀ j gn (x : Nat), x < g.length → idxS 1 (.ref (.l j) gn 0 g.length) (.int .i64 x) = some (.ptr (.l j) gn x) := fun j gn x h1 => by
        rw [idxS_ref, if_pos ⟨by omega, by omega⟩]; simp
      have hib := fun j gn => hix j gn b (by omega)
      have hii := fun j gn => hix j gn i (by omega)
      have hwb : IntKind.i64.wrap ((b : Int) + 1) = ((b + 1 : Nat) : Int) := by rw [wI (by omega) (by omega)]; rfl
      have hra := reachL_get (g := g) (x := (i : Int)) (by omega) hilt
      have hrb := reachL_get (g := g) (x := (b : Int)) (by omega) hblt
      rw [Int.toNat_natCast] at hra hrb
      have hav := avL_get (g := g) (w := (i : Int)) (b := b) (by omega)
      have hd := dom_av (g := g) (a := (i : Int)) (b := (b : Int))
      have l1 : ld1 ⟨L2, []⟩ (.ptr (.l 160) gr i) = some (.bool (decide ((i : Int) ∈ ord g))) := by rw [ld1_l]; simp only [m1, rd1_arr, flat_bool, hra]; rfl
      have l2 : ld1 ⟨L2, []⟩ (.ptr (.l 160) gr b) = some (.bool (decide ((b : Int) ∈ ord g))) := by rw [ld1_l]; simp only [m1, rd1_arr, flat_bool, hrb]; rfl
      have l3 : ld1 ⟨L2, []⟩ (.ptr (.l 304) g6 b) = some (.bool (avB g i b)) := by rw [ld1_l]; simp only [m2, rd1_arr, flat_bool, hav]; rfl
      have hstx : ∀ x : Bool, stX 1 ⟨L2, []⟩ (.ptr (.l 352) g7 b) (.bool x) = some ⟨lset L2 352 (.arr g7 1 ((c.set b x).flatMap boolC) 0), []⟩ := fun x => by
        rw [stX_one_l m3 (by rw [len_bool]; omega) rfl rfl, set_bool]; rfl
      have hstv : ∀ x : Bool, stV 1 ⟨L2, []⟩ 352 g7 b (some [.bool x]) (lget L2 352) = some ⟨lset L2 352 (.arr g7 1 ((c.set b x).flatMap boolC) 0), []⟩ := fun x => by
        have := hstx x
        rw [stX_l] at this
        exact this
      have done : QL0 .normal ⟨[(0, gv), (3, .ref (.l 160) gr 0 g.length), (4, v), (5, .int .i64 i), (6, .ref (.l 304) g6 0 g.length), (7, .ref (.l 352) g7 0 g.length), (8, .int .i64 ((b + 1 : Nat) : Int))], ⟨lset L2 352 (.arr g7 1 ((c.set b (domB g i b)).flatMap boolC) 0), []⟩⟩ := by
        refine hnL0 (g.length - (b + 1)) _ (by omega) ⟨b + 1, c.set b (domB g i b), g6, g7, _, by omega, rfl, by rw [List.length_set, hcl], fun j hj => ?_, rfl, by simp [lget_lset, m1], by simp [lget_lset, m2], by simp [lget_lset], hO2.keep (by simp [lget_lset])⟩
        by_cases hjb : b = j
        · subst hjb
          rw [List.getElem?_set_self (by omega)]; simp
        · rw [List.getElem?_set_ne hjb, hcc j hj]
          have : decide (j < b + 1) = decide (j < b) := by
            by_cases h : j < b
            · simp [h, show j < b + 1 from by omega]
            · simp [h, show ¬ j < b + 1 from by omega]
          rw [this]
      rw [hd] at done
      by_cases hib2 : (i : Int) = b
      · have hib3 : i = b := by omega
        subst hib3
        generalize (decide ((i : Int) ∈ ord g)) = ra at l1 l2 done
        generalize avB g (i : Int) (i : Int) = av at l3 done
        cases ra <;> cases av
        all_goals
          simp only [eq_self, decide_true, decide_false, Bool.and_true, Bool.and_false, Bool.false_and, Bool.true_and, Bool.or_true, Bool.or_false, Bool.not_true, Bool.not_false, Bool.true_or, Bool.false_or] at done
          repeat' (first
          | with_reducible refine Tx_assoc ?_
          | with_reducible refine Tx_nopK ?_
          | with_reducible refine Tx_yesK rfl ?_
          | with_reducible refine Tx_blockK (id := 3) (fun Q3 hn3 hx3 hr3 ho3 => ?_)
          | with_reducible refine hn3 _ ?_
          | (((first | with_reducible refine Tx_regK (fun K hK => ?_) | with_reducible refine Tx_regE (fun K hK => ?_)); (first | with_reducible refine t24r9 ?_ | with_reducible refine t24r11 ?_ | with_reducible refine t24r10 ?_)); (try simp only [true_implies, false_implies, not_true_eq_false, not_false_eq_true, tget_cons, if_true, if_false, Nat.reduceEqDiff, ccells, Obt_some, Kn_normal, newL_eq, newP_eq, newA_eq, newM_eq, newR_eq, newK_eq, nmA_f, nmR_f, gn_var, gn_arr, gn_map, gnext_setL, lget_setL, lget_lset, gnext_lset, setL_setL, setL_H, Nat.reduceMul, Nat.reduceAdd, Nat.zero_add, fldA_ptr, fldA_rptr, List.drop_zero, ld1_l, ld1_r, ldA_l, rd1_var, rd1_arr, List.getElem?_cons_zero, List.getElem?_cons_succ, Obt_lss, Obt_leq, Obt_gtr, Obt_geq, Obt_eql, Obt_neq, Obt_not, gdO_tt, gdO_tf, gdO_ff, gdO_ft, gdO_skip, Option.map_some, pickX_t, pickX_f, Obt_pickS, Obt_gdT, Obt_gdF, Bool.not_true, Bool.not_false, lenS, Obt_map, Obt_add, Obt_sub, Obt_mul, Obt_quo, Obt_rem, Obt_and, Obt_or, Obt_xor, Obt_andNot, Obt_shl, Obt_shr, Obt_neg, Obt_cpl, Obt_conv, Obt_ext, Obt_bind, Obt_ite', appX_l, appX_n, appR_arr, appN_some, content_l, conR_arr, content_nil, clen_n, clen_r, idxS_ref, fillX, bslX, escP_list, List.all_append, stX_l, stV_var, stV_arr, splice, List.take_zero, List.take_succ_cons, List.drop_succ_cons, List.drop_nil, List.nil_append, List.cons_append, List.append_nil, List.length_cons, List.length_nil, Nat.reduceLeDiff, and_self, and_true, true_and, Nat.le_refl, Nat.zero_le, rdA_var, rdA_arr, escP, List.all_cons, List.all_nil, Bool.and_self, Bool.true_and, Bool.and_true, r24, tend, tresAll, tresC, Option.bind_some, mapMem, retv_agc, esc_i, esc_b, esc_n, esc_m, esc_s, retv_l, retR_arr, retv_gref, retv_gmap, retv_gptr, Nat.zero_sub, Nat.sub_self, retv_int, retv_bool, retv_nil, retv_imm, retv_inil, retv_pnil, tup_nil, tup_one, tup_two, Prod.mk.injEq, CV.int.injEq, CV.bool.injEq, hgv.len, hblt, hib, l1, l3, hstv, hwb]))
          | (revert hK; intro hK; (with_reducible refine hK _ ?_; clear hK K)))
          all_goals exact done
      · generalize (decide ((i : Int) ∈ ord g)) = ra at l1 done
        generalize (decide ((b : Int) ∈ ord g)) = rb at l2 done
        generalize avB g (i : Int) (b : Int) = av at l3 done
        cases ra <;> cases rb <;> cases av
        all_goals
          simp only [hib2, decide_true, decide_false, Bool.and_true, Bool.and_false, Bool.false_and, Bool.true_and, Bool.or_true, Bool.or_false, Bool.not_true, Bool.not_false, Bool.true_or, Bool.false_or] at done
          repeat' (first
          | with_reducible refine Tx_assoc ?_
          | with_reducible refine Tx_nopK ?_
          | with_reducible refine Tx_yesK rfl ?_
          | with_reducible refine Tx_blockK (id := 3) (fun Q3 hn3 hx3 hr3 ho3 => ?_)
          | with_reducible refine hn3 _ ?_
          | (((first | with_reducible refine Tx_regK (fun K hK => ?_) | with_reducible refine Tx_regE (fun K hK => ?_)); (first | with_reducible refine t24r9 ?_ | with_reducible refine t24r11 ?_ | with_reducible refine t24r10 ?_)); (try simp only [true_implies, false_implies, not_true_eq_false, not_false_eq_true, tget_cons, if_true, if_false, Nat.reduceEqDiff, ccells, Obt_some, Kn_normal, newL_eq, newP_eq, newA_eq, newM_eq, newR_eq, newK_eq, nmA_f, nmR_f, gn_var, gn_arr, gn_map, gnext_setL, lget_setL, lget_lset, gnext_lset, setL_setL, setL_H, Nat.reduceMul, Nat.reduceAdd, Nat.zero_add, fldA_ptr, fldA_rptr, List.drop_zero, ld1_l, ld1_r, ldA_l, rd1_var, rd1_arr, List.getElem?_cons_zero, List.getElem?_cons_succ, Obt_lss, Obt_leq, Obt_gtr, Obt_geq, Obt_eql, Obt_neq, Obt_not, gdO_tt, gdO_tf, gdO_ff, gdO_ft, gdO_skip, Option.map_some, pickX_t, pickX_f, Obt_pickS, Obt_gdT, Obt_gdF, Bool.not_true, Bool.not_false, lenS, Obt_map, Obt_add, Obt_sub, Obt_mul, Obt_quo, Obt_rem, Obt_and, Obt_or, Obt_xor, Obt_andNot, Obt_shl, Obt_shr, Obt_neg, Obt_cpl, Obt_conv, Obt_ext, Obt_bind, Obt_ite', appX_l, appX_n, appR_arr, appN_some, content_l, conR_arr, content_nil, clen_n, clen_r, idxS_ref, fillX, bslX, escP_list, List.all_append, stX_l, stV_var, stV_arr, splice, List.take_zero, List.take_succ_cons, List.drop_succ_cons, List.drop_nil, List.nil_append, List.cons_append, List.append_nil, List.length_cons, List.length_nil, Nat.reduceLeDiff, and_self, and_true, true_and, Nat.le_refl, Nat.zero_le, rdA_var, rdA_arr, escP, List.all_cons, List.all_nil, Bool.and_self, Bool.true_and, Bool.and_true, r24, tend, tresAll, tresC, Option.bind_some, mapMem, retv_agc, esc_i, esc_b, esc_n, esc_m, esc_s, retv_l, retR_arr, retv_gref, retv_gmap, retv_gptr, Nat.zero_sub, Nat.sub_self, retv_int, retv_bool, retv_nil, retv_imm, retv_inil, retv_pnil, tup_nil, tup_one, tup_two, Prod.mk.injEq, CV.int.injEq, CV.bool.injEq, hgv.len, hblt, hib, hii, l1, l2, l3, hstv, hib2, hwb]))
          | (revert hK; intro hK; (with_reducible refine hK _ ?_; clear hK K)))
          all_goals exact done
end Go.Cm
