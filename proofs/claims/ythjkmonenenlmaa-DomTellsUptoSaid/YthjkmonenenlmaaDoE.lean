/-
  Graphs: the nearest node above two.
-/
import Derived.Test.YthjkmonenenlmaaDoD
set_option linter.unusedSimpArgs false
set_option linter.unusedVariables false
namespace Go.Cm
open Go.Proofs Go.Gr
/-- a table's row as a function -/
def uf (up : List Int) (x : Int) : Int := if 0 ≤ x then up.getD x.toNat (-1) else -1
theorem uf_get {up : List Int} {x : Int} (h0 : 0 ≤ x) (h1 : x < up.length) : up[x.toNat]? = some (uf up x) := by
  have : x.toNat < up.length := by omega
  simp [uf, h0, List.getD_eq_getElem?_getD, List.getElem?_eq_getElem this]
theorem uf_set {up : List Int} {x m : Int} (h0 : 0 ≤ x) (h1 : x < up.length) : uf (up.set x.toNat m) = Go.Gr.upd (uf up) x m := by
  funext z
  unfold uf Go.Gr.upd
  by_cases hz : z = x
  · subst hz
    have : z.toNat < up.length := by omega
    simp [h0, List.getD_eq_getElem?_getD, this]
  · rw [if_neg hz]
    split
    · rename_i hz0
      have : x.toNat ≠ z.toNat := by omega
      simp [hz0, List.getD_eq_getElem?_getD, List.getElem?_set_ne this]
    · rename_i hz0
      simp [hz0]
/-- places and a table in everybody's memory -/
structure PEnv (g : List (List Int)) (p q qu : Nat) (H : List HO) (up : List Int) : Prop where
  plc : ∃ pm lp, H[p]? = some (.var 1 [.map (.g pm) 1] 0) ∧ H[pm]? = some (.map 1 (esI .i64 lp)) ∧ (∀ x ∈ ord g, al lp x = some (.int .i64 (pl g x))) ∧ p ≠ qu ∧ pm ≠ qu
  upv : H[q]? = some (.var 1 [.ref (.g qu) 1 0 g.length] 0) ∧ q ≠ qu
  upa : H[qu]? = some (.arr 1 1 (up.flatMap intC) 0)
  ul : up.length = g.length
theorem PEnv.at {g : List (List Int)} {p q qu : Nat} {H : List HO} {up : List Int} (h : PEnv g p q qu H up) {x : Int} (hx : x ∈ ord g) : ∃ pt, idxS 1 (.ref (.g qu) 1 0 g.length) (.int .i64 x) = some pt ∧ ∀ L, ld1 ⟨L, H⟩ pt = some (.int .i64 (uf up x)) := by
  have hr := ((mem_ord g x).1 hx).range
  refine ⟨.ptr (.g qu) 1 x.toNat, ?_, fun L => ?_⟩
  · rw [idxS_ref, if_pos ⟨hr.1, by omega⟩]; simp
  · rw [ld1_g]; simp only [h.upa, rd1_arr, flat_int, uf_get hr.1 (by rw [h.ul]; exact hr.2)]; rfl
/-- the nearest node above two -/
structure Meet2 (u : Int → Int) (a b m : Int) : Prop where
  set : Set u m
  iff : ∀ c, Ch u m c ↔ Ch u a c ∧ Ch u b c
theorem up_common {g : List (List Int)} {u : Int → Int} (hV : Val g u) {a b : Int} (ha : Set u a) (h : pl g b < pl g a) : u a ≠ -1 ∧ Set u (u a) ∧ pl g (u a) < pl g a ∧ ∀ c, (Ch u (u a) c ∧ Ch u b c) ↔ (Ch u a c ∧ Ch u b c) := by
  have hne : u a ≠ -1 := by
    rcases ha with rfl | h1
    · exfalso
      obtain ⟨r, hr⟩ := ord_head hV.ne
      have : pl g 0 = 0 := by simp [pl, hr]
      omega
    · exact h1
  refine ⟨hne, hV.set a hne, (hV.up a hne).2.2, fun c => ⟨fun h1 => ⟨.step hne h1.1, h1.2⟩, fun h1 => ⟨?_, h1.2⟩⟩⟩
  cases h1.1 with
  | self => exfalso; have := hV.le' h1.2; omega
  | step _ h2 => exact h2
theorem x26 (g : List (List Int)) (p q qu : Nat) (H : List HO) (up : List Int) (hE : PEnv g p q qu H up) (hV : Val g (uf up)) (a b : Int) (ha : Set (uf up) a) (hb : Set (uf up) b) :
    ∃ r, (∃ m, r = (CV.int .i64 m, H) ∧ Meet2 (uf up) a b m) ∧ FF 26 [.int .i64 a, .int .i64 b, .ptr (.g p) 1 0, .ptr (.g q) 1 0] H = some r := by
  obtain ⟨pm, lp, e1, e2, e3, _, _⟩ := hE.plc
  have e4 := hE.upv.1
  have hlk := fun L (x : Int) (z : CV) => lookX_int (t := 3) (a := x) (z := z) (ok := false) Try.underlying3 (mapOf_g (m := ⟨L, H⟩) e2)
  simp only [Bool.false_eq_true, if_false] at hlk
  refine Fw_funE rfl Try.func26 s26 (Nat.le_of_ble_eq_true rfl) (fun Q hqr hqn => ?_)
  simp only [tinit, Nat.reduceAdd, c26]
  repeat' (first
  | with_reducible refine Tx_blockK (id := 0) (fun Q0 hn0 hx0 hr0 ho0 => ?_)
  | ((with_reducible refine Tx_regK (fun K hK => ?_); with_reducible refine t26r0 ?_); (try simp only [true_implies, false_implies, not_true_eq_false, not_false_eq_true, tget_cons, if_true, if_false, Nat.reduceEqDiff, ccells, Obt_some, Kn_normal, newL_eq, newP_eq, newA_eq, newM_eq, newR_eq, newK_eq, nmA_f, nmR_f, gn_var, gn_arr, gn_map, gnext_setL, lget_setL, lget_lset, gnext_lset, setL_setL, setL_H, Nat.reduceMul, Nat.reduceAdd, Nat.zero_add, fldA_ptr, fldA_rptr, List.drop_zero, ld1_l, ld1_r, ldA_l, rd1_var, rd1_arr, List.getElem?_cons_zero, List.getElem?_cons_succ, Obt_lss, Obt_leq, Obt_gtr, Obt_geq, Obt_eql, Obt_neq, Obt_not, gdO_tt, gdO_tf, gdO_ff, gdO_ft, gdO_skip, Option.map_some, pickX_t, pickX_f, Obt_pickS, Obt_gdT, Obt_gdF, Bool.not_true, Bool.not_false, lenS, Obt_map, Obt_add, Obt_sub, Obt_mul, Obt_quo, Obt_rem, Obt_and, Obt_or, Obt_xor, Obt_andNot, Obt_shl, Obt_shr, Obt_neg, Obt_cpl, Obt_conv, Obt_ext, Obt_bind, Obt_ite', appX_l, appX_n, appR_arr, appN_some, content_l, conR_arr, content_nil, clen_n, clen_r, idxS_ref, fillX, bslX, escP_list, List.all_append, stX_l, stV_var, stV_arr, splice, List.take_zero, List.take_succ_cons, List.drop_succ_cons, List.drop_nil, List.nil_append, List.cons_append, List.append_nil, List.length_cons, List.length_nil, Nat.reduceLeDiff, and_self, and_true, true_and, Nat.le_refl, Nat.zero_le, rdA_var, rdA_arr, escP, List.all_cons, List.all_nil, Bool.and_self, Bool.true_and, Bool.and_true, r26, tend, tresAll, tresC, Option.bind_some, mapMem, retv_agc, esc_i, esc_b, esc_n, esc_m, esc_s, retv_l, retR_arr, retv_gref, retv_gmap, retv_gptr, Nat.zero_sub, Nat.sub_self, retv_int, retv_bool, retv_nil, retv_imm, retv_inil, retv_pnil, tup_nil, tup_one, tup_two, Prod.mk.injEq, CV.int.injEq, CV.bool.injEq]))
  | (revert hK; intro hK; (with_reducible refine hK _ ?_; clear hK K)))
  refine Tx_loopK (fun k s => ∃ (x y : Int) (sl : List (Nat × CV)) (L : List (Nat × HO)), Set (uf up) x ∧ Set (uf up) y ∧ (∀ c, (Ch (uf up) x c ∧ Ch (uf up) y c) ↔ (Ch (uf up) a c ∧ Ch (uf up) b c)) ∧ k = pl g x + pl g y ∧
    s = ⟨sl, ⟨L, H⟩⟩ ∧ tget sl 0 = .int .i64 x ∧ tget sl 1 = .int .i64 y ∧ tget sl 2 = .ptr (.g p) 1 0 ∧ tget sl 3 = .ptr (.g q) 1 0) _ ⟨a, b, _, [], ha, hb, fun _ => Iff.rfl, rfl, rfl, rfl, rfl, rfl, rfl⟩ ?_
  rintro k s ⟨x, y, sl0, L, hx, hy, hxy, rfl, rfl, t0, t1, t2, t3⟩ QL2 hnL2 hxL2 hrL2
  simp only [c26l2]
  by_cases hne : x = y
  · subst hne
    repeat' (first
    | with_reducible refine Tx_assoc ?_
    | with_reducible refine Tx_noK rfl ?_
    | with_reducible refine Tx_exitK ?_
    | with_reducible refine Tx_ret ?_
    | with_reducible refine hx0 _ ?_
    | with_reducible refine hxL2 _ _ ?_
    | ((first | (with_reducible refine Tx_regK (fun K hK => ?_); (first | with_reducible refine t26r1 ?_ | with_reducible refine t26r6 ?_)) | with_reducible refine hqr _ ?_); (try simp only [true_implies, false_implies, not_true_eq_false, not_false_eq_true, tget_cons, if_true, if_false, Nat.reduceEqDiff, ccells, Obt_some, Kn_normal, newL_eq, newP_eq, newA_eq, newM_eq, newR_eq, newK_eq, nmA_f, nmR_f, gn_var, gn_arr, gn_map, gnext_setL, lget_setL, lget_lset, gnext_lset, setL_setL, setL_H, Nat.reduceMul, Nat.reduceAdd, Nat.zero_add, fldA_ptr, fldA_rptr, List.drop_zero, ld1_l, ld1_r, ldA_l, rd1_var, rd1_arr, List.getElem?_cons_zero, List.getElem?_cons_succ, Obt_lss, Obt_leq, Obt_gtr, Obt_geq, Obt_eql, Obt_neq, Obt_not, gdO_tt, gdO_tf, gdO_ff, gdO_ft, gdO_skip, Option.map_some, pickX_t, pickX_f, Obt_pickS, Obt_gdT, Obt_gdF, Bool.not_true, Bool.not_false, lenS, Obt_map, Obt_add, Obt_sub, Obt_mul, Obt_quo, Obt_rem, Obt_and, Obt_or, Obt_xor, Obt_andNot, Obt_shl, Obt_shr, Obt_neg, Obt_cpl, Obt_conv, Obt_ext, Obt_bind, Obt_ite', appX_l, appX_n, appR_arr, appN_some, content_l, conR_arr, content_nil, clen_n, clen_r, idxS_ref, fillX, bslX, escP_list, List.all_append, stX_l, stV_var, stV_arr, splice, List.take_zero, List.take_succ_cons, List.drop_succ_cons, List.drop_nil, List.nil_append, List.cons_append, List.append_nil, List.length_cons, List.length_nil, Nat.reduceLeDiff, and_self, and_true, true_and, Nat.le_refl, Nat.zero_le, rdA_var, rdA_arr, escP, List.all_cons, List.all_nil, Bool.and_self, Bool.true_and, Bool.and_true, r26, tend, tresAll, tresC, Option.bind_some, mapMem, retv_agc, esc_i, esc_b, esc_n, esc_m, esc_s, retv_l, retR_arr, retv_gref, retv_gmap, retv_gptr, Nat.zero_sub, Nat.sub_self, retv_int, retv_bool, retv_nil, retv_imm, retv_inil, retv_pnil, tup_nil, tup_one, tup_two, Prod.mk.injEq, CV.int.injEq, CV.bool.injEq, t0, t1, t2, t3]))
    | (revert hK; intro hK; (with_reducible refine hK _ ?_; clear hK K)))
    exact ⟨x, rfl, hx, fun c => by rw [← hxy]; exact (and_self_iff).symm⟩
  · have hpne : pl g x ≠ pl g y := fun h => hne (pl_inj (hV.mem hx) (hV.mem hy) h)
    repeat' (first
    | with_reducible refine Tx_assoc ?_
    | with_reducible refine Tx_nopK ?_
    | with_reducible refine Tx_yesK rfl ?_
    | with_reducible refine Tx_blockE (id := 1) (fun Q1 hn1 hx1 hr1 ho1 => ?_)
    | with_reducible refine Tx_blockK (id := 2) (fun Q2 hn2 hx2 hr2 ho2 => ?_)
    | ((with_reducible refine Tx_regK (fun K hK => ?_); with_reducible refine t26r1 ?_); (try simp only [true_implies, false_implies, not_true_eq_false, not_false_eq_true, tget_cons, if_true, if_false, Nat.reduceEqDiff, ccells, Obt_some, Kn_normal, newL_eq, newP_eq, newA_eq, newM_eq, newR_eq, newK_eq, nmA_f, nmR_f, gn_var, gn_arr, gn_map, gnext_setL, lget_setL, lget_lset, gnext_lset, setL_setL, setL_H, Nat.reduceMul, Nat.reduceAdd, Nat.zero_add, fldA_ptr, fldA_rptr, List.drop_zero, ld1_l, ld1_r, ldA_l, rd1_var, rd1_arr, List.getElem?_cons_zero, List.getElem?_cons_succ, Obt_lss, Obt_leq, Obt_gtr, Obt_geq, Obt_eql, Obt_neq, Obt_not, gdO_tt, gdO_tf, gdO_ff, gdO_ft, gdO_skip, Option.map_some, pickX_t, pickX_f, Obt_pickS, Obt_gdT, Obt_gdF, Bool.not_true, Bool.not_false, lenS, Obt_map, Obt_add, Obt_sub, Obt_mul, Obt_quo, Obt_rem, Obt_and, Obt_or, Obt_xor, Obt_andNot, Obt_shl, Obt_shr, Obt_neg, Obt_cpl, Obt_conv, Obt_ext, Obt_bind, Obt_ite', appX_l, appX_n, appR_arr, appN_some, content_l, conR_arr, content_nil, clen_n, clen_r, idxS_ref, fillX, bslX, escP_list, List.all_append, stX_l, stV_var, stV_arr, splice, List.take_zero, List.take_succ_cons, List.drop_succ_cons, List.drop_nil, List.nil_append, List.cons_append, List.append_nil, List.length_cons, List.length_nil, Nat.reduceLeDiff, and_self, and_true, true_and, Nat.le_refl, Nat.zero_le, rdA_var, rdA_arr, escP, List.all_cons, List.all_nil, Bool.and_self, Bool.true_and, Bool.and_true, r26, tend, tresAll, tresC, Option.bind_some, mapMem, retv_agc, esc_i, esc_b, esc_n, esc_m, esc_s, retv_l, retR_arr, retv_gref, retv_gmap, retv_gptr, Nat.zero_sub, Nat.sub_self, retv_int, retv_bool, retv_nil, retv_imm, retv_inil, retv_pnil, tup_nil, tup_one, tup_two, Prod.mk.injEq, CV.int.injEq, CV.bool.injEq, t0, t1, t2, t3]))
    | (revert hK; intro hK; (first | refine And.intro ?_ ?_ | intro _ | omega | (with_reducible refine hK _ ?_; clear hK K))))
    clear t0 t1 t2 t3
    refine Tx_loopK (fun k s => ∃ (x' : Int) (sl : List (Nat × CV)) (L : List (Nat × HO)), Set (uf up) x' ∧ (∀ c, (Ch (uf up) x' c ∧ Ch (uf up) y c) ↔ (Ch (uf up) a c ∧ Ch (uf up) b c)) ∧ k = pl g x' ∧ (x' = x ∨ pl g x' < pl g x) ∧
      s = ⟨sl, ⟨L, H⟩⟩ ∧ tget sl 0 = .int .i64 x' ∧ tget sl 1 = .int .i64 y ∧ tget sl 2 = .ptr (.g p) 1 0 ∧ tget sl 3 = .ptr (.g q) 1 0) _ ⟨x, _, L, hx, hxy, rfl, .inl rfl, rfl, rfl, rfl, rfl, rfl⟩ ?_
    rintro k s ⟨x', sl, L', hx', hxy', rfl, hle, rfl, t0, t1, t2, t3⟩ QL0 hnL0 hxL0 hrL0
    have a1 := e3 x' (hV.mem hx')
    have a2 := e3 y (hV.mem hy)
    simp only [c26l0]
    by_cases hgt : (pl g y : Int) < pl g x'
    · obtain ⟨c1, c2, c3, c4⟩ := up_common hV hx' (show pl g y < pl g x' by omega)
      obtain ⟨pt, g1, g2⟩ := hE.at (hV.mem hx')
      repeat' (first
      | with_reducible refine Tx_assoc ?_
      | with_reducible refine Tx_nopK ?_
      | with_reducible refine Tx_yesK rfl ?_
      | with_reducible refine Tx_blockE (id := 3) (fun Q3 hn3 hx3 hr3 ho3 => ?_)
      | with_reducible refine hn3 _ ?_
      | (((first | with_reducible refine Tx_regK (fun K hK => ?_) | with_reducible refine Tx_regE (fun K hK => ?_)); (first | with_reducible refine t26r2 ?_ | with_reducible refine t26r3 ?_)); (try simp only [true_implies, false_implies, not_true_eq_false, not_false_eq_true, tget_cons, if_true, if_false, Nat.reduceEqDiff, ccells, Obt_some, Kn_normal, newL_eq, newP_eq, newA_eq, newM_eq, newR_eq, newK_eq, nmA_f, nmR_f, gn_var, gn_arr, gn_map, gnext_setL, lget_setL, lget_lset, gnext_lset, setL_setL, setL_H, Nat.reduceMul, Nat.reduceAdd, Nat.zero_add, fldA_ptr, fldA_rptr, List.drop_zero, ld1_l, ld1_r, ldA_l, rd1_var, rd1_arr, List.getElem?_cons_zero, List.getElem?_cons_succ, Obt_lss, Obt_leq, Obt_gtr, Obt_geq, Obt_eql, Obt_neq, Obt_not, gdO_tt, gdO_tf, gdO_ff, gdO_ft, gdO_skip, Option.map_some, pickX_t, pickX_f, Obt_pickS, Obt_gdT, Obt_gdF, Bool.not_true, Bool.not_false, lenS, Obt_map, Obt_add, Obt_sub, Obt_mul, Obt_quo, Obt_rem, Obt_and, Obt_or, Obt_xor, Obt_andNot, Obt_shl, Obt_shr, Obt_neg, Obt_cpl, Obt_conv, Obt_ext, Obt_bind, Obt_ite', appX_l, appX_n, appR_arr, appN_some, content_l, conR_arr, content_nil, clen_n, clen_r, idxS_ref, fillX, bslX, escP_list, List.all_append, stX_l, stV_var, stV_arr, splice, List.take_zero, List.take_succ_cons, List.drop_succ_cons, List.drop_nil, List.nil_append, List.cons_append, List.append_nil, List.length_cons, List.length_nil, Nat.reduceLeDiff, and_self, and_true, true_and, Nat.le_refl, Nat.zero_le, rdA_var, rdA_arr, escP, List.all_cons, List.all_nil, Bool.and_self, Bool.true_and, Bool.and_true, r26, tend, tresAll, tresC, Option.bind_some, mapMem, retv_agc, esc_i, esc_b, esc_n, esc_m, esc_s, retv_l, retR_arr, retv_gref, retv_gmap, retv_gptr, Nat.zero_sub, Nat.sub_self, retv_int, retv_bool, retv_nil, retv_imm, retv_inil, retv_pnil, tup_nil, tup_one, tup_two, Prod.mk.injEq, CV.int.injEq, CV.bool.injEq, t0, t1, t2, t3, ld1_g, e1, e4, hlk, a1, a2, Option.getD_some, hgt, g1, g2]))
      | (revert hK; intro hK; (with_reducible refine hK _ ?_; clear hK K)))
      exact hnL0 _ _ c3 ⟨uf up x', _, L', c2, fun c => by rw [c4, hxy'], rfl, .inr (by rcases hle with h | h; rw [← h]; exact c3; omega), rfl, rfl, rfl, rfl, rfl⟩
    · repeat' (first
      | with_reducible refine Tx_assoc ?_
      | with_reducible refine Tx_noK rfl ?_
      | with_reducible refine Tx_exitK ?_
      | with_reducible refine hx2 _ ?_
      | with_reducible refine Tx_blockE (id := 4) (fun Q4 hn4 hx4 hr4 ho4 => ?_)
      | with_reducible refine hxL0 _ _ ?_
      | ((with_reducible refine Tx_regK (fun K hK => ?_); with_reducible refine t26r2 ?_); (try simp only [true_implies, false_implies, not_true_eq_false, not_false_eq_true, tget_cons, if_true, if_false, Nat.reduceEqDiff, ccells, Obt_some, Kn_normal, newL_eq, newP_eq, newA_eq, newM_eq, newR_eq, newK_eq, nmA_f, nmR_f, gn_var, gn_arr, gn_map, gnext_setL, lget_setL, lget_lset, gnext_lset, setL_setL, setL_H, Nat.reduceMul, Nat.reduceAdd, Nat.zero_add, fldA_ptr, fldA_rptr, List.drop_zero, ld1_l, ld1_r, ldA_l, rd1_var, rd1_arr, List.getElem?_cons_zero, List.getElem?_cons_succ, Obt_lss, Obt_leq, Obt_gtr, Obt_geq, Obt_eql, Obt_neq, Obt_not, gdO_tt, gdO_tf, gdO_ff, gdO_ft, gdO_skip, Option.map_some, pickX_t, pickX_f, Obt_pickS, Obt_gdT, Obt_gdF, Bool.not_true, Bool.not_false, lenS, Obt_map, Obt_add, Obt_sub, Obt_mul, Obt_quo, Obt_rem, Obt_and, Obt_or, Obt_xor, Obt_andNot, Obt_shl, Obt_shr, Obt_neg, Obt_cpl, Obt_conv, Obt_ext, Obt_bind, Obt_ite', appX_l, appX_n, appR_arr, appN_some, content_l, conR_arr, content_nil, clen_n, clen_r, idxS_ref, fillX, bslX, escP_list, List.all_append, stX_l, stV_var, stV_arr, splice, List.take_zero, List.take_succ_cons, List.drop_succ_cons, List.drop_nil, List.nil_append, List.cons_append, List.append_nil, List.length_cons, List.length_nil, Nat.reduceLeDiff, and_self, and_true, true_and, Nat.le_refl, Nat.zero_le, rdA_var, rdA_arr, escP, List.all_cons, List.all_nil, Bool.and_self, Bool.true_and, Bool.and_true, r26, tend, tresAll, tresC, Option.bind_some, mapMem, retv_agc, esc_i, esc_b, esc_n, esc_m, esc_s, retv_l, retR_arr, retv_gref, retv_gmap, retv_gptr, Nat.zero_sub, Nat.sub_self, retv_int, retv_bool, retv_nil, retv_imm, retv_inil, retv_pnil, tup_nil, tup_one, tup_two, Prod.mk.injEq, CV.int.injEq, CV.bool.injEq, t0, t1, t2, t3, ld1_g, e1, e4, hlk, a1, a2, Option.getD_some, hgt]))
      | (revert hK; intro hK; (with_reducible refine hK _ ?_; clear hK K)))
      refine Tx_loopK (fun k s => ∃ (y' : Int) (sl : List (Nat × CV)) (L : List (Nat × HO)), Set (uf up) y' ∧ (∀ c, (Ch (uf up) x' c ∧ Ch (uf up) y' c) ↔ (Ch (uf up) a c ∧ Ch (uf up) b c)) ∧ k = pl g y' ∧ (y' = y ∨ pl g y' < pl g y) ∧
        s = ⟨sl, ⟨L, H⟩⟩ ∧ tget sl 0 = .int .i64 x' ∧ tget sl 1 = .int .i64 y' ∧ tget sl 2 = .ptr (.g p) 1 0 ∧ tget sl 3 = .ptr (.g q) 1 0) _ ⟨y, _, L', hy, hxy', rfl, .inl rfl, rfl, rfl, rfl, rfl, rfl⟩ ?_
      rintro k s ⟨y', sl', L2, hy', hxy2, rfl, hle2, rfl, t0, t1, t2, t3⟩ QL1 hnL1 hxL1 hrL1
      have a2 := e3 y' (hV.mem hy')
      simp only [c26l1]
      by_cases hgt2 : (pl g x' : Int) < pl g y'
      · obtain ⟨c1, c2, c3, c4⟩ := up_common hV hy' (show pl g x' < pl g y' by omega)
        obtain ⟨pt, g1, g2⟩ := hE.at (hV.mem hy')
        repeat' (first
        | with_reducible refine Tx_assoc ?_
        | with_reducible refine Tx_nopK ?_
        | with_reducible refine Tx_yesK rfl ?_
        | with_reducible refine Tx_blockE (id := 5) (fun Q5 hn5 hx5 hr5 ho5 => ?_)
        | with_reducible refine hn5 _ ?_
        | (((first | with_reducible refine Tx_regK (fun K hK => ?_) | with_reducible refine Tx_regE (fun K hK => ?_)); (first | with_reducible refine t26r4 ?_ | with_reducible refine t26r5 ?_)); (try simp only [true_implies, false_implies, not_true_eq_false, not_false_eq_true, tget_cons, if_true, if_false, Nat.reduceEqDiff, ccells, Obt_some, Kn_normal, newL_eq, newP_eq, newA_eq, newM_eq, newR_eq, newK_eq, nmA_f, nmR_f, gn_var, gn_arr, gn_map, gnext_setL, lget_setL, lget_lset, gnext_lset, setL_setL, setL_H, Nat.reduceMul, Nat.reduceAdd, Nat.zero_add, fldA_ptr, fldA_rptr, List.drop_zero, ld1_l, ld1_r, ldA_l, rd1_var, rd1_arr, List.getElem?_cons_zero, List.getElem?_cons_succ, Obt_lss, Obt_leq, Obt_gtr, Obt_geq, Obt_eql, Obt_neq, Obt_not, gdO_tt, gdO_tf, gdO_ff, gdO_ft, gdO_skip, Option.map_some, pickX_t, pickX_f, Obt_pickS, Obt_gdT, Obt_gdF, Bool.not_true, Bool.not_false, lenS, Obt_map, Obt_add, Obt_sub, Obt_mul, Obt_quo, Obt_rem, Obt_and, Obt_or, Obt_xor, Obt_andNot, Obt_shl, Obt_shr, Obt_neg, Obt_cpl, Obt_conv, Obt_ext, Obt_bind, Obt_ite', appX_l, appX_n, appR_arr, appN_some, content_l, conR_arr, content_nil, clen_n, clen_r, idxS_ref, fillX, bslX, escP_list, List.all_append, stX_l, stV_var, stV_arr, splice, List.take_zero, List.take_succ_cons, List.drop_succ_cons, List.drop_nil, List.nil_append, List.cons_append, List.append_nil, List.length_cons, List.length_nil, Nat.reduceLeDiff, and_self, and_true, true_and, Nat.le_refl, Nat.zero_le, rdA_var, rdA_arr, escP, List.all_cons, List.all_nil, Bool.and_self, Bool.true_and, Bool.and_true, r26, tend, tresAll, tresC, Option.bind_some, mapMem, retv_agc, esc_i, esc_b, esc_n, esc_m, esc_s, retv_l, retR_arr, retv_gref, retv_gmap, retv_gptr, Nat.zero_sub, Nat.sub_self, retv_int, retv_bool, retv_nil, retv_imm, retv_inil, retv_pnil, tup_nil, tup_one, tup_two, Prod.mk.injEq, CV.int.injEq, CV.bool.injEq, t0, t1, t2, t3, ld1_g, e1, e4, hlk, a1, a2, Option.getD_some, hgt2, g1, g2]))
        | (revert hK; intro hK; (with_reducible refine hK _ ?_; clear hK K)))
        exact hnL1 _ _ c3 ⟨uf up y', _, L2, c2, fun c => by rw [← hxy2, and_comm, c4, and_comm], rfl, .inr (by rcases hle2 with h | h; rw [← h]; exact c3; omega), rfl, rfl, rfl, rfl, rfl⟩
      · repeat' (first
        | with_reducible refine Tx_assoc ?_
        | with_reducible refine Tx_noK rfl ?_
        | with_reducible refine Tx_exitK ?_
        | with_reducible refine hn1 _ ?_
        | with_reducible refine hx4 _ ?_
        | with_reducible refine hxL1 _ _ ?_
        | ((with_reducible refine Tx_regK (fun K hK => ?_); with_reducible refine t26r4 ?_); (try simp only [true_implies, false_implies, not_true_eq_false, not_false_eq_true, tget_cons, if_true, if_false, Nat.reduceEqDiff, ccells, Obt_some, Kn_normal, newL_eq, newP_eq, newA_eq, newM_eq, newR_eq, newK_eq, nmA_f, nmR_f, gn_var, gn_arr, gn_map, gnext_setL, lget_setL, lget_lset, gnext_lset, setL_setL, setL_H, Nat.reduceMul, Nat.reduceAdd, Nat.zero_add, fldA_ptr, fldA_rptr, List.drop_zero, ld1_l, ld1_r, ldA_l, rd1_var, rd1_arr, List.getElem?_cons_zero, List.getElem?_cons_succ, Obt_lss, Obt_leq, Obt_gtr, Obt_geq, Obt_eql, Obt_neq, Obt_not, gdO_tt, gdO_tf, gdO_ff, gdO_ft, gdO_skip, Option.map_some, pickX_t, pickX_f, Obt_pickS, Obt_gdT, Obt_gdF, Bool.not_true, Bool.not_false, lenS, Obt_map, Obt_add, Obt_sub, Obt_mul, Obt_quo, Obt_rem, Obt_and, Obt_or, Obt_xor, Obt_andNot, Obt_shl, Obt_shr, Obt_neg, Obt_cpl, Obt_conv, Obt_ext, Obt_bind, Obt_ite', appX_l, appX_n, appR_arr, appN_some, content_l, conR_arr, content_nil, clen_n, clen_r, idxS_ref, fillX, bslX, escP_list, List.all_append, stX_l, stV_var, stV_arr, splice, List.take_zero, List.take_succ_cons, List.drop_succ_cons, List.drop_nil, List.nil_append, List.cons_append, List.append_nil, List.length_cons, List.length_nil, Nat.reduceLeDiff, and_self, and_true, true_and, Nat.le_refl, Nat.zero_le, rdA_var, rdA_arr, escP, List.all_cons, List.all_nil, Bool.and_self, Bool.true_and, Bool.and_true, r26, tend, tresAll, tresC, Option.bind_some, mapMem, retv_agc, esc_i, esc_b, esc_n, esc_m, esc_s, retv_l, retR_arr, retv_gref, retv_gmap, retv_gptr, Nat.zero_sub, Nat.sub_self, retv_int, retv_bool, retv_nil, retv_imm, retv_inil, retv_pnil, tup_nil, tup_one, tup_two, Prod.mk.injEq, CV.int.injEq, CV.bool.injEq, t0, t1, t2, t3, ld1_g, e1, e4, hlk, a1, a2, Option.getD_some, hgt2]))
        | (revert hK; intro hK; (with_reducible refine hK _ ?_; clear hK K)))
        refine hnL2 (pl g x' + pl g y') _ ?_ ⟨x', y', _, L2, hx', hy', hxy2, rfl, rfl, rfl, rfl, rfl, rfl⟩
        have h1 : pl g x' = pl g x ∨ pl g x' < pl g x := by
          rcases hle with h | h
          · left; rw [h]
          · exact .inr h
        have h2 : pl g y' = pl g y ∨ pl g y' < pl g y := by
          rcases hle2 with h | h
          · left; rw [h]
          · exact .inr h
        omega
end Go.Cm
