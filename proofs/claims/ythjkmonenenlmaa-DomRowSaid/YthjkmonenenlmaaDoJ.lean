/-
  Graphs: the dominators of a node are in a row.
-/
import Derived.Test.YthjkmonenenlmaaDoI
set_option linter.unusedSimpArgs false
set_option linter.unusedVariables false
namespace Go.Cm
open Go.Proofs Go.Gr
/-- a call of Idom, where the memory may change -/
theorem ki16 (g : List (List Int)) (hg : Sm g) (gv : CV) (hgv : IsRows gv g) : ∃ H' up nu, up.length = g.length ∧ (g ≠ [] → IdomOK g up) ∧ (∀ i : Nat, (i : Int) ∉ ord g → uf up i = -1) ∧
    H'[nu]? = some (.arr 1 1 (up.flatMap intC) 0) ∧ ∀ (fid : FuncId) (d : Tmp) (L : List (Nat × HO)), callC An FF fid (some d) 16 [gv] ⟨L, []⟩ = some (.ref (.g nu) 1 0 g.length, ⟨L, H'⟩) := by
  obtain ⟨_, ⟨v, H', up, rfl, ⟨nu, _, rfl, hup⟩, hul, hok, hoff, _⟩, hid⟩ := x16 g hg gv hgv []
  refine ⟨H', up, nu, hul, hok, fun i h => hoff i (by omega) h, hup, fun fid d L => ?_⟩
  rw [callC_I rfl (by simp only [List.all_cons, List.all_nil, escP_escQ hgv.esc, Bool.and_self]) hid]; rfl
theorem row_walk (g : List (List Int)) (hg : Sm g) (a b : Int) (hs : (g.length : Int) ≤ 60) (ha0 : 0 ≤ a) (ha1 : a < g.length) (hb0 : 0 ≤ b) (hb1 : b < g.length)
    (H' : List HO) (up : List Int) (nu : Nat) (hul : up.length = g.length) (hup : H'[nu]? = some (.arr 1 1 (up.flatMap intC) 0)) (hci : ∀ (fid : FuncId) (d : Tmp) (L : List (Nat × HO)), callC An FF fid (some d) 16 [rowsC g] ⟨L, []⟩ = some (.ref (.g nu) 1 0 g.length, ⟨L, H'⟩))
    (P : Int → Prop) (h : Int → Nat) (hP : ∀ x, P x → (0 ≤ x ∧ x < g.length) ∧ (uf up x ≠ -1 → P (uf up x) ∧ h (uf up x) < h x)) (hPb : P b) (hhb : h b < g.length)
    (hr : ∀ c : Bool, (c = true ↔ Ch (uf up) b a) → domB g a b = (c && decide (b ∈ ord g))) : ∃ r, (∃ H', r = (CV.bool true, H')) ∧ FF 6 [rowsC g, .int .i64 a, .int .i64 b] [] = some r := by
  have hgv := IsRows.of g
  have n1 : ¬ a < 0 := by omega
  have n2 : ¬ (g.length : Int) ≤ a := by omega
  have n3 : ¬ b < 0 := by omega
  have n4 : ¬ (g.length : Int) ≤ b := by omega
  refine Fw_funE rfl Try.func6 s6 (Nat.le_of_ble_eq_true rfl) (fun Q hqr hqn => ?_)
  simp only [tinit, Nat.reduceAdd, c6]
  repeat' (first
    | with_reducible refine Tx_assoc ?_
    | with_reducible refine Tx_nopK ?_
    | with_reducible refine Tx_yesK rfl ?_
    | with_reducible refine Tx_noK rfl ?_
    | with_reducible refine Tx_ifK rfl (fun _ => ?_) (fun _ => ?_)
    | with_reducible refine Tx_yes rfl ?_
    | with_reducible refine Tx_no rfl ?_
    | with_reducible refine Tx_if rfl (fun _ => ?_) (fun _ => ?_)
    | with_reducible refine Tx_retK ?_
    | with_reducible refine Tx_exitK ?_
    | with_reducible refine Tx_ret ?_
    | with_reducible refine Tx_exit ?_
    | with_reducible refine Tx_nop ?_
    | with_reducible refine Tx_blockK (id := 0) (fun Q0 hn0 hx0 hr0 ho0 => ?_)
    | with_reducible refine Tx_blockE (id := 0) (fun Q0 hn0 hx0 hr0 ho0 => ?_)
    | with_reducible refine hn0 _ ?_
    | with_reducible refine hx0 _ ?_
    | with_reducible refine hr0 _ ?_
    | with_reducible refine ho0 _ _ (by decide) ?_
    | with_reducible refine Tx_blockK (id := 1) (fun Q1 hn1 hx1 hr1 ho1 => ?_)
    | with_reducible refine Tx_blockE (id := 1) (fun Q1 hn1 hx1 hr1 ho1 => ?_)
    | with_reducible refine hn1 _ ?_
    | with_reducible refine hx1 _ ?_
    | with_reducible refine hr1 _ ?_
    | with_reducible refine ho1 _ _ (by decide) ?_
    | with_reducible refine hxL0 _ _ ?_
    | with_reducible refine hrL0 _ ?_
    | ((first | ((first | with_reducible refine Tx_regK (fun K hK => ?_) | with_reducible refine Tx_regE (fun K hK => ?_)); (first | with_reducible refine t6r0 ?_ | with_reducible refine t6r1 ?_ | with_reducible refine t6r2 ?_ | with_reducible refine t6r3 ?_ | with_reducible refine t6r4 ?_ | with_reducible refine t6r5 ?_ | with_reducible refine t6r6 ?_ | with_reducible refine t6r7 ?_ | with_reducible refine t6r8 ?_ | with_reducible refine t6r9 ?_ | with_reducible refine t6r11 ?_ | with_reducible refine t6r12 ?_ | with_reducible refine t6r10 ?_ | with_reducible refine t6r13 ?_ | with_reducible refine t6r14 ?_ | with_reducible refine t6r15 ?_ | with_reducible refine t6r16 ?_)) | with_reducible refine hqr _ ?_ | with_reducible refine hqn _ ?_); (try simp only [true_implies, false_implies, not_true_eq_false, not_false_eq_true, tget_cons, if_true, if_false, Nat.reduceEqDiff, ccells, Obt_some, Kn_normal, newL_eq, newP_eq, newA_eq, newM_eq, newR_eq, newK_eq, nmA_f, nmR_f, gn_var, gn_arr, gn_map, gnext_setL, lget_setL, lget_lset, gnext_lset, setL_setL, setL_H, Nat.reduceMul, Nat.reduceAdd, Nat.zero_add, fldA_ptr, fldA_rptr, List.drop_zero, ld1_l, ld1_r, ldA_l, rd1_var, rd1_arr, List.getElem?_cons_zero, List.getElem?_cons_succ, Obt_lss, Obt_leq, Obt_gtr, Obt_geq, Obt_eql, Obt_neq, Obt_not, gdO_tt, gdO_tf, gdO_ff, gdO_ft, gdO_skip, Option.map_some, pickX_t, pickX_f, Obt_pickS, Obt_gdT, Obt_gdF, Bool.not_true, Bool.not_false, lenS, Obt_map, Obt_add, Obt_sub, Obt_mul, Obt_quo, Obt_rem, Obt_and, Obt_or, Obt_xor, Obt_andNot, Obt_shl, Obt_shr, Obt_neg, Obt_cpl, Obt_conv, Obt_ext, Obt_bind, Obt_ite', appX_l, appX_n, appR_arr, appN_some, content_l, conR_arr, content_nil, clen_n, clen_r, idxS_ref, fillX, bslX, escP_list, List.all_append, stX_l, stV_var, stV_arr, splice, List.take_zero, List.take_succ_cons, List.drop_succ_cons, List.drop_nil, List.nil_append, List.cons_append, List.append_nil, List.length_cons, List.length_nil, Nat.reduceLeDiff, and_self, and_true, true_and, Nat.le_refl, Nat.zero_le, rdA_var, rdA_arr, escP, List.all_cons, List.all_nil, Bool.and_self, Bool.true_and, Bool.and_true, r6, tend, tresAll, tresC, Option.bind_some, mapMem, retv_agc, esc_i, esc_b, esc_n, esc_m, esc_s, retv_l, retR_arr, retv_gref, retv_gmap, retv_gptr, Nat.zero_sub, Nat.sub_self, retv_int, retv_bool, retv_nil, retv_imm, retv_inil, retv_pnil, tup_nil, tup_one, tup_two, Prod.mk.injEq, CV.int.injEq, CV.bool.injEq, clen_rowsC, k8 g _ hgv true (decide_eq_true hs), n1, n2, n3, n4, hci]))
    | (revert hK; intro hK; (first | refine And.intro ?_ ?_ | (refine fun (h : (_ : Bool) = _) => ?_; subst h) | intro _ | omega | (with_reducible refine hK _ ?_; clear hK K))))
  refine Tx_loopK (fun k s => ∃ (x : Int) (c : Bool) (j : Nat) (L : List (Nat × HO)), (x = -1 ∨ P x) ∧ ((c = true ∨ (x ≠ -1 ∧ Ch (uf up) x a)) ↔ Ch (uf up) b a) ∧ (x ≠ -1 → j + h x ≤ h b) ∧ (j ≤ h b + 1) ∧ k = (if x = -1 then 0 else h x + 1) ∧
    s = ⟨[(0, rowsC g), (1, .int .i64 a), (2, .int .i64 b), (7, .ref (.g nu) 1 0 g.length), (8, .bool c), (9, .int .i64 x), (10, .int .i64 j)], ⟨L, H'⟩⟩) _ ⟨b, false, 0, _, .inr hPb, ?_, by omega, by omega, rfl, rfl⟩ ?_
  · have : b ≠ -1 := by omega
    simp [this]
  rintro k s ⟨x, c, j, L, hx, hc, hj, hj2, rfl, rfl⟩ QL0 hnL0 hxL0 hrL0
  simp only [c6l0]
  have hjl : (j : Int) ≤ g.length := by omega
  have hw : IntKind.i64.wrap ((j : Int) + 1) = ((j + 1 : Nat) : Int) := by rw [wI (by omega) (by omega)]; rfl
  rcases hx with rfl | hx
  · have hkr := fun L => k10 g hg _ hgv (fid := 6) (d := 71) (m := ⟨L, H'⟩) rfl
    have hi : ∀ gn, idxS 1 (.ref (.l (16 * 71)) gn 0 g.length) (.int .i64 b) = some (.ptr (.l (16 * 71)) gn b.toNat) := fun gn => by
      rw [idxS_ref, if_pos ⟨by omega, by omega⟩]; simp
    have hrb := reachL_get hb0 hb1
    have hd := hr c (by simpa using hc)
    cases c <;> by_cases hb : b ∈ ord g
    all_goals
      simp only [hb, decide_true, decide_false, Bool.and_true, Bool.and_false, Bool.false_and, Bool.true_and] at hd
      repeat' (first
        | with_reducible refine Tx_assoc ?_
        | with_reducible refine Tx_nopK ?_
        | with_reducible refine Tx_yesK rfl ?_
        | with_reducible refine Tx_noK rfl ?_
        | with_reducible refine Tx_ifK rfl (fun _ => ?_) (fun _ => ?_)
        | with_reducible refine Tx_yes rfl ?_
        | with_reducible refine Tx_no rfl ?_
        | with_reducible refine Tx_if rfl (fun _ => ?_) (fun _ => ?_)
        | with_reducible refine Tx_retK ?_
        | with_reducible refine Tx_exitK ?_
        | with_reducible refine Tx_ret ?_
        | with_reducible refine Tx_exit ?_
        | with_reducible refine Tx_nop ?_
        | with_reducible refine Tx_blockK (id := 0) (fun Q0 hn0 hx0 hr0 ho0 => ?_)
        | with_reducible refine Tx_blockE (id := 0) (fun Q0 hn0 hx0 hr0 ho0 => ?_)
        | with_reducible refine hn0 _ ?_
        | with_reducible refine hx0 _ ?_
        | with_reducible refine hr0 _ ?_
        | with_reducible refine ho0 _ _ (by decide) ?_
        | with_reducible refine Tx_blockK (id := 1) (fun Q1 hn1 hx1 hr1 ho1 => ?_)
        | with_reducible refine Tx_blockE (id := 1) (fun Q1 hn1 hx1 hr1 ho1 => ?_)
        | with_reducible refine hn1 _ ?_
        | with_reducible refine hx1 _ ?_
        | with_reducible refine hr1 _ ?_
        | with_reducible refine ho1 _ _ (by decide) ?_
        | with_reducible refine hxL0 _ _ ?_
        | with_reducible refine hrL0 _ ?_
        | ((first | ((first | with_reducible refine Tx_regK (fun K hK => ?_) | with_reducible refine Tx_regE (fun K hK => ?_)); (first | with_reducible refine t6r0 ?_ | with_reducible refine t6r1 ?_ | with_reducible refine t6r2 ?_ | with_reducible refine t6r3 ?_ | with_reducible refine t6r4 ?_ | with_reducible refine t6r5 ?_ | with_reducible refine t6r6 ?_ | with_reducible refine t6r7 ?_ | with_reducible refine t6r8 ?_ | with_reducible refine t6r9 ?_ | with_reducible refine t6r11 ?_ | with_reducible refine t6r12 ?_ | with_reducible refine t6r10 ?_ | with_reducible refine t6r13 ?_ | with_reducible refine t6r14 ?_ | with_reducible refine t6r15 ?_ | with_reducible refine t6r16 ?_)) | with_reducible refine hqr _ ?_ | with_reducible refine hqn _ ?_); (try simp only [true_implies, false_implies, not_true_eq_false, not_false_eq_true, tget_cons, if_true, if_false, Nat.reduceEqDiff, ccells, Obt_some, Kn_normal, newL_eq, newP_eq, newA_eq, newM_eq, newR_eq, newK_eq, nmA_f, nmR_f, gn_var, gn_arr, gn_map, gnext_setL, lget_setL, lget_lset, gnext_lset, setL_setL, setL_H, Nat.reduceMul, Nat.reduceAdd, Nat.zero_add, fldA_ptr, fldA_rptr, List.drop_zero, ld1_l, ld1_r, ldA_l, rd1_var, rd1_arr, List.getElem?_cons_zero, List.getElem?_cons_succ, Obt_lss, Obt_leq, Obt_gtr, Obt_geq, Obt_eql, Obt_neq, Obt_not, gdO_tt, gdO_tf, gdO_ff, gdO_ft, gdO_skip, Option.map_some, pickX_t, pickX_f, Obt_pickS, Obt_gdT, Obt_gdF, Bool.not_true, Bool.not_false, lenS, Obt_map, Obt_add, Obt_sub, Obt_mul, Obt_quo, Obt_rem, Obt_and, Obt_or, Obt_xor, Obt_andNot, Obt_shl, Obt_shr, Obt_neg, Obt_cpl, Obt_conv, Obt_ext, Obt_bind, Obt_ite', appX_l, appX_n, appR_arr, appN_some, content_l, conR_arr, content_nil, clen_n, clen_r, idxS_ref, fillX, bslX, escP_list, List.all_append, stX_l, stV_var, stV_arr, splice, List.take_zero, List.take_succ_cons, List.drop_succ_cons, List.drop_nil, List.nil_append, List.cons_append, List.append_nil, List.length_cons, List.length_nil, Nat.reduceLeDiff, and_self, and_true, true_and, Nat.le_refl, Nat.zero_le, rdA_var, rdA_arr, escP, List.all_cons, List.all_nil, Bool.and_self, Bool.true_and, Bool.and_true, r6, tend, tresAll, tresC, Option.bind_some, mapMem, retv_agc, esc_i, esc_b, esc_n, esc_m, esc_s, retv_l, retR_arr, retv_gref, retv_gmap, retv_gptr, Nat.zero_sub, Nat.sub_self, retv_int, retv_bool, retv_nil, retv_imm, retv_inil, retv_pnil, tup_nil, tup_one, tup_two, Prod.mk.injEq, CV.int.injEq, CV.bool.injEq, clen_rowsC, hjl, hkr, hi, hrb, hb, flat_bool, decide_true, decide_false, hd, chk, noRef, isRef, Obt_eqB Try.underlying4, beq_self_eq_true, k11 g hg _ hgv a b, k9]))
        | (revert hK; intro hK; (first | refine And.intro ?_ ?_ | (refine fun (h : (_ : Bool) = _) => ?_; subst h) | intro _ | omega | (with_reducible refine hK _ ?_; clear hK K))))
      all_goals exact ⟨_, rfl⟩
  · obtain ⟨⟨hx0, hx1⟩, hxu⟩ := hP x hx
    have hne : x ≠ -1 := by omega
    have hix : idxS 1 (.ref (.g nu) 1 0 g.length) (.int .i64 x) = some (.ptr (.g nu) 1 x.toNat) := by
      rw [idxS_ref, if_pos ⟨by omega, by omega⟩]; simp
    have hlx : ∀ L, ld1 ⟨L, H'⟩ (.ptr (.g nu) 1 x.toNat) = some (.int .i64 (uf up x)) := fun L => by
      rw [ld1_g]; simp only [hup, rd1_arr, flat_int, uf_get hx0 (by rw [hul]; exact hx1)]; rfl
    have hc1 : c = true ∨ Ch (uf up) x a ↔ Ch (uf up) b a := by simpa [hne] using hc
    have hj1 := hj hne
    have hstep : Ch (uf up) x a ↔ x = a ∨ (uf up x ≠ -1 ∧ Ch (uf up) (uf up x) a) := by
      constructor
      · intro hh
        cases hh with
        | self => exact .inl rfl
        | step h1 h2 => exact .inr ⟨h1, h2⟩
      · rintro (rfl | ⟨h1, h2⟩)
        · exact .self _
        · exact .step h1 h2
    have done : ∀ (c' : Bool) L', (c' = true ↔ c = true ∨ x = a) → QL0 .normal ⟨[(0, rowsC g), (1, .int .i64 a), (2, .int .i64 b), (7, .ref (.g nu) 1 0 g.length), (8, .bool c'), (9, .int .i64 (uf up x)), (10, .int .i64 ((j + 1 : Nat) : Int))], ⟨L', H'⟩⟩ := by
      intro c' L' hc'
      have hinv : (c' = true ∨ (uf up x ≠ -1 ∧ Ch (uf up) (uf up x) a)) ↔ Ch (uf up) b a := by
        rw [hc', or_assoc, ← hstep]; exact hc1
      by_cases hu : uf up x = -1
      · refine hnL0 0 _ (by rw [if_neg hne]; omega) ⟨_, c', j + 1, L', .inl hu, hinv, fun h => absurd hu h, by omega, by rw [if_pos hu], rfl⟩
      · obtain ⟨h1, h2⟩ := hxu hu
        refine hnL0 (h (uf up x) + 1) _ (by rw [if_neg hne]; omega) ⟨_, c', j + 1, L', .inr h1, hinv, fun _ => by omega, by omega, by rw [if_neg hu], rfl⟩
    cases c
    · by_cases hxa : x = a
      · have d1 := fun L => done true L (by simp [hxa])
        subst hxa
        repeat' (first
          | with_reducible refine Tx_assoc ?_
          | with_reducible refine Tx_nopK ?_
          | with_reducible refine Tx_yesK rfl ?_
          | with_reducible refine Tx_noK rfl ?_
          | with_reducible refine Tx_ifK rfl (fun _ => ?_) (fun _ => ?_)
          | with_reducible refine Tx_yes rfl ?_
          | with_reducible refine Tx_no rfl ?_
          | with_reducible refine Tx_if rfl (fun _ => ?_) (fun _ => ?_)
          | with_reducible refine Tx_retK ?_
          | with_reducible refine Tx_exitK ?_
          | with_reducible refine Tx_ret ?_
          | with_reducible refine Tx_exit ?_
          | with_reducible refine Tx_nop ?_
          | with_reducible refine Tx_blockK (id := 0) (fun Q0 hn0 hx0 hr0 ho0 => ?_)
          | with_reducible refine Tx_blockE (id := 0) (fun Q0 hn0 hx0 hr0 ho0 => ?_)
          | with_reducible refine hn0 _ ?_
          | with_reducible refine hx0 _ ?_
          | with_reducible refine hr0 _ ?_
          | with_reducible refine ho0 _ _ (by decide) ?_
          | with_reducible refine Tx_blockK (id := 1) (fun Q1 hn1 hx1 hr1 ho1 => ?_)
          | with_reducible refine Tx_blockE (id := 1) (fun Q1 hn1 hx1 hr1 ho1 => ?_)
          | with_reducible refine hn1 _ ?_
          | with_reducible refine hx1 _ ?_
          | with_reducible refine hr1 _ ?_
          | with_reducible refine ho1 _ _ (by decide) ?_
          | with_reducible refine hxL0 _ _ ?_
          | with_reducible refine hrL0 _ ?_
          | ((first | ((first | with_reducible refine Tx_regK (fun K hK => ?_) | with_reducible refine Tx_regE (fun K hK => ?_)); (first | with_reducible refine t6r0 ?_ | with_reducible refine t6r1 ?_ | with_reducible refine t6r2 ?_ | with_reducible refine t6r3 ?_ | with_reducible refine t6r4 ?_ | with_reducible refine t6r5 ?_ | with_reducible refine t6r6 ?_ | with_reducible refine t6r7 ?_ | with_reducible refine t6r8 ?_ | with_reducible refine t6r9 ?_ | with_reducible refine t6r11 ?_ | with_reducible refine t6r12 ?_ | with_reducible refine t6r10 ?_ | with_reducible refine t6r13 ?_ | with_reducible refine t6r14 ?_ | with_reducible refine t6r15 ?_ | with_reducible refine t6r16 ?_)) | with_reducible refine hqr _ ?_ | with_reducible refine hqn _ ?_); (try simp only [true_implies, false_implies, not_true_eq_false, not_false_eq_true, tget_cons, if_true, if_false, Nat.reduceEqDiff, ccells, Obt_some, Kn_normal, newL_eq, newP_eq, newA_eq, newM_eq, newR_eq, newK_eq, nmA_f, nmR_f, gn_var, gn_arr, gn_map, gnext_setL, lget_setL, lget_lset, gnext_lset, setL_setL, setL_H, Nat.reduceMul, Nat.reduceAdd, Nat.zero_add, fldA_ptr, fldA_rptr, List.drop_zero, ld1_l, ld1_r, ldA_l, rd1_var, rd1_arr, List.getElem?_cons_zero, List.getElem?_cons_succ, Obt_lss, Obt_leq, Obt_gtr, Obt_geq, Obt_eql, Obt_neq, Obt_not, gdO_tt, gdO_tf, gdO_ff, gdO_ft, gdO_skip, Option.map_some, pickX_t, pickX_f, Obt_pickS, Obt_gdT, Obt_gdF, Bool.not_true, Bool.not_false, lenS, Obt_map, Obt_add, Obt_sub, Obt_mul, Obt_quo, Obt_rem, Obt_and, Obt_or, Obt_xor, Obt_andNot, Obt_shl, Obt_shr, Obt_neg, Obt_cpl, Obt_conv, Obt_ext, Obt_bind, Obt_ite', appX_l, appX_n, appR_arr, appN_some, content_l, conR_arr, content_nil, clen_n, clen_r, idxS_ref, fillX, bslX, escP_list, List.all_append, stX_l, stV_var, stV_arr, splice, List.take_zero, List.take_succ_cons, List.drop_succ_cons, List.drop_nil, List.nil_append, List.cons_append, List.append_nil, List.length_cons, List.length_nil, Nat.reduceLeDiff, and_self, and_true, true_and, Nat.le_refl, Nat.zero_le, rdA_var, rdA_arr, escP, List.all_cons, List.all_nil, Bool.and_self, Bool.true_and, Bool.and_true, r6, tend, tresAll, tresC, Option.bind_some, mapMem, retv_agc, esc_i, esc_b, esc_n, esc_m, esc_s, retv_l, retR_arr, retv_gref, retv_gmap, retv_gptr, Nat.zero_sub, Nat.sub_self, retv_int, retv_bool, retv_nil, retv_imm, retv_inil, retv_pnil, tup_nil, tup_one, tup_two, Prod.mk.injEq, CV.int.injEq, CV.bool.injEq, clen_rowsC, hjl, hx0, hx1, hix, hlx, hw]))
          | (revert hK; intro hK; (first | refine And.intro ?_ ?_ | (refine fun (h : (_ : Bool) = _) => ?_; subst h) | intro _ | omega | (with_reducible refine hK _ ?_; clear hK K))))
        exact d1 _
      · repeat' (first
          | with_reducible refine Tx_assoc ?_
          | with_reducible refine Tx_nopK ?_
          | with_reducible refine Tx_yesK rfl ?_
          | with_reducible refine Tx_noK rfl ?_
          | with_reducible refine Tx_ifK rfl (fun _ => ?_) (fun _ => ?_)
          | with_reducible refine Tx_yes rfl ?_
          | with_reducible refine Tx_no rfl ?_
          | with_reducible refine Tx_if rfl (fun _ => ?_) (fun _ => ?_)
          | with_reducible refine Tx_retK ?_
          | with_reducible refine Tx_exitK ?_
          | with_reducible refine Tx_ret ?_
          | with_reducible refine Tx_exit ?_
          | with_reducible refine Tx_nop ?_
          | with_reducible refine Tx_blockK (id := 0) (fun Q0 hn0 hx0 hr0 ho0 => ?_)
          | with_reducible refine Tx_blockE (id := 0) (fun Q0 hn0 hx0 hr0 ho0 => ?_)
          | with_reducible refine hn0 _ ?_
          | with_reducible refine hx0 _ ?_
          | with_reducible refine hr0 _ ?_
          | with_reducible refine ho0 _ _ (by decide) ?_
          | with_reducible refine Tx_blockK (id := 1) (fun Q1 hn1 hx1 hr1 ho1 => ?_)
          | with_reducible refine Tx_blockE (id := 1) (fun Q1 hn1 hx1 hr1 ho1 => ?_)
          | with_reducible refine hn1 _ ?_
          | with_reducible refine hx1 _ ?_
          | with_reducible refine hr1 _ ?_
          | with_reducible refine ho1 _ _ (by decide) ?_
          | with_reducible refine hxL0 _ _ ?_
          | with_reducible refine hrL0 _ ?_
          | ((first | ((first | with_reducible refine Tx_regK (fun K hK => ?_) | with_reducible refine Tx_regE (fun K hK => ?_)); (first | with_reducible refine t6r0 ?_ | with_reducible refine t6r1 ?_ | with_reducible refine t6r2 ?_ | with_reducible refine t6r3 ?_ | with_reducible refine t6r4 ?_ | with_reducible refine t6r5 ?_ | with_reducible refine t6r6 ?_ | with_reducible refine t6r7 ?_ | with_reducible refine t6r8 ?_ | with_reducible refine t6r9 ?_ | with_reducible refine t6r11 ?_ | with_reducible refine t6r12 ?_ | with_reducible refine t6r10 ?_ | with_reducible refine t6r13 ?_ | with_reducible refine t6r14 ?_ | with_reducible refine t6r15 ?_ | with_reducible refine t6r16 ?_)) | with_reducible refine hqr _ ?_ | with_reducible refine hqn _ ?_); (try simp only [true_implies, false_implies, not_true_eq_false, not_false_eq_true, tget_cons, if_true, if_false, Nat.reduceEqDiff, ccells, Obt_some, Kn_normal, newL_eq, newP_eq, newA_eq, newM_eq, newR_eq, newK_eq, nmA_f, nmR_f, gn_var, gn_arr, gn_map, gnext_setL, lget_setL, lget_lset, gnext_lset, setL_setL, setL_H, Nat.reduceMul, Nat.reduceAdd, Nat.zero_add, fldA_ptr, fldA_rptr, List.drop_zero, ld1_l, ld1_r, ldA_l, rd1_var, rd1_arr, List.getElem?_cons_zero, List.getElem?_cons_succ, Obt_lss, Obt_leq, Obt_gtr, Obt_geq, Obt_eql, Obt_neq, Obt_not, gdO_tt, gdO_tf, gdO_ff, gdO_ft, gdO_skip, Option.map_some, pickX_t, pickX_f, Obt_pickS, Obt_gdT, Obt_gdF, Bool.not_true, Bool.not_false, lenS, Obt_map, Obt_add, Obt_sub, Obt_mul, Obt_quo, Obt_rem, Obt_and, Obt_or, Obt_xor, Obt_andNot, Obt_shl, Obt_shr, Obt_neg, Obt_cpl, Obt_conv, Obt_ext, Obt_bind, Obt_ite', appX_l, appX_n, appR_arr, appN_some, content_l, conR_arr, content_nil, clen_n, clen_r, idxS_ref, fillX, bslX, escP_list, List.all_append, stX_l, stV_var, stV_arr, splice, List.take_zero, List.take_succ_cons, List.drop_succ_cons, List.drop_nil, List.nil_append, List.cons_append, List.append_nil, List.length_cons, List.length_nil, Nat.reduceLeDiff, and_self, and_true, true_and, Nat.le_refl, Nat.zero_le, rdA_var, rdA_arr, escP, List.all_cons, List.all_nil, Bool.and_self, Bool.true_and, Bool.and_true, r6, tend, tresAll, tresC, Option.bind_some, mapMem, retv_agc, esc_i, esc_b, esc_n, esc_m, esc_s, retv_l, retR_arr, retv_gref, retv_gmap, retv_gptr, Nat.zero_sub, Nat.sub_self, retv_int, retv_bool, retv_nil, retv_imm, retv_inil, retv_pnil, tup_nil, tup_one, tup_two, Prod.mk.injEq, CV.int.injEq, CV.bool.injEq, clen_rowsC, hjl, hx0, hx1, hxa, hix, hlx, hw]))
          | (revert hK; intro hK; (first | refine And.intro ?_ ?_ | (refine fun (h : (_ : Bool) = _) => ?_; subst h) | intro _ | omega | (with_reducible refine hK _ ?_; clear hK K))))
        exact done false _ (by simp [hxa])
    · repeat' (first
        | with_reducible refine Tx_assoc ?_
        | with_reducible refine Tx_nopK ?_
        | with_reducible refine Tx_yesK rfl ?_
        | with_reducible refine Tx_noK rfl ?_
        | with_reducible refine Tx_ifK rfl (fun _ => ?_) (fun _ => ?_)
        | with_reducible refine Tx_yes rfl ?_
        | with_reducible refine Tx_no rfl ?_
        | with_reducible refine Tx_if rfl (fun _ => ?_) (fun _ => ?_)
        | with_reducible refine Tx_retK ?_
        | with_reducible refine Tx_exitK ?_
        | with_reducible refine Tx_ret ?_
        | with_reducible refine Tx_exit ?_
        | with_reducible refine Tx_nop ?_
        | with_reducible refine Tx_blockK (id := 0) (fun Q0 hn0 hx0 hr0 ho0 => ?_)
        | with_reducible refine Tx_blockE (id := 0) (fun Q0 hn0 hx0 hr0 ho0 => ?_)
        | with_reducible refine hn0 _ ?_
        | with_reducible refine hx0 _ ?_
        | with_reducible refine hr0 _ ?_
        | with_reducible refine ho0 _ _ (by decide) ?_
        | with_reducible refine Tx_blockK (id := 1) (fun Q1 hn1 hx1 hr1 ho1 => ?_)
        | with_reducible refine Tx_blockE (id := 1) (fun Q1 hn1 hx1 hr1 ho1 => ?_)
        | with_reducible refine hn1 _ ?_
        | with_reducible refine hx1 _ ?_
        | with_reducible refine hr1 _ ?_
        | with_reducible refine ho1 _ _ (by decide) ?_
        | with_reducible refine hxL0 _ _ ?_
        | with_reducible refine hrL0 _ ?_
        | ((first | ((first | with_reducible refine Tx_regK (fun K hK => ?_) | with_reducible refine Tx_regE (fun K hK => ?_)); (first | with_reducible refine t6r0 ?_ | with_reducible refine t6r1 ?_ | with_reducible refine t6r2 ?_ | with_reducible refine t6r3 ?_ | with_reducible refine t6r4 ?_ | with_reducible refine t6r5 ?_ | with_reducible refine t6r6 ?_ | with_reducible refine t6r7 ?_ | with_reducible refine t6r8 ?_ | with_reducible refine t6r9 ?_ | with_reducible refine t6r11 ?_ | with_reducible refine t6r12 ?_ | with_reducible refine t6r10 ?_ | with_reducible refine t6r13 ?_ | with_reducible refine t6r14 ?_ | with_reducible refine t6r15 ?_ | with_reducible refine t6r16 ?_)) | with_reducible refine hqr _ ?_ | with_reducible refine hqn _ ?_); (try simp only [true_implies, false_implies, not_true_eq_false, not_false_eq_true, tget_cons, if_true, if_false, Nat.reduceEqDiff, ccells, Obt_some, Kn_normal, newL_eq, newP_eq, newA_eq, newM_eq, newR_eq, newK_eq, nmA_f, nmR_f, gn_var, gn_arr, gn_map, gnext_setL, lget_setL, lget_lset, gnext_lset, setL_setL, setL_H, Nat.reduceMul, Nat.reduceAdd, Nat.zero_add, fldA_ptr, fldA_rptr, List.drop_zero, ld1_l, ld1_r, ldA_l, rd1_var, rd1_arr, List.getElem?_cons_zero, List.getElem?_cons_succ, Obt_lss, Obt_leq, Obt_gtr, Obt_geq, Obt_eql, Obt_neq, Obt_not, gdO_tt, gdO_tf, gdO_ff, gdO_ft, gdO_skip, Option.map_some, pickX_t, pickX_f, Obt_pickS, Obt_gdT, Obt_gdF, Bool.not_true, Bool.not_false, lenS, Obt_map, Obt_add, Obt_sub, Obt_mul, Obt_quo, Obt_rem, Obt_and, Obt_or, Obt_xor, Obt_andNot, Obt_shl, Obt_shr, Obt_neg, Obt_cpl, Obt_conv, Obt_ext, Obt_bind, Obt_ite', appX_l, appX_n, appR_arr, appN_some, content_l, conR_arr, content_nil, clen_n, clen_r, idxS_ref, fillX, bslX, escP_list, List.all_append, stX_l, stV_var, stV_arr, splice, List.take_zero, List.take_succ_cons, List.drop_succ_cons, List.drop_nil, List.nil_append, List.cons_append, List.append_nil, List.length_cons, List.length_nil, Nat.reduceLeDiff, and_self, and_true, true_and, Nat.le_refl, Nat.zero_le, rdA_var, rdA_arr, escP, List.all_cons, List.all_nil, Bool.and_self, Bool.true_and, Bool.and_true, r6, tend, tresAll, tresC, Option.bind_some, mapMem, retv_agc, esc_i, esc_b, esc_n, esc_m, esc_s, retv_l, retR_arr, retv_gref, retv_gmap, retv_gptr, Nat.zero_sub, Nat.sub_self, retv_int, retv_bool, retv_nil, retv_imm, retv_inil, retv_pnil, tup_nil, tup_one, tup_two, Prod.mk.injEq, CV.int.injEq, CV.bool.injEq, clen_rowsC, hjl, hx0, hx1, hix, hlx, hw]))
        | (revert hK; intro hK; (first | refine And.intro ?_ ?_ | (refine fun (h : (_ : Bool) = _) => ?_; subst h) | intro _ | omega | (with_reducible refine hK _ ?_; clear hK K))))
      exact done true _ (by simp)
theorem x6 (g : List (List Int)) (hr0 : ∀ r ∈ g, r.length ≤ 17592186044416) (a b : Int) : ∃ r, (∃ H', r = (CV.bool true, H')) ∧ FF 6 [rowsC g, .int .i64 a, .int .i64 b] [] = some r := by
  have hgv := IsRows.of g
  by_cases hr : (g.length : Int) ≤ 60 ∧ 0 ≤ a ∧ a < g.length ∧ 0 ≤ b ∧ b < g.length
  · obtain ⟨hs, ha0, ha1, hb0, hb1⟩ := hr
    have hg : Sm g := Sm.of hs hr0
    obtain ⟨H', up, nu, hul, hok, hoff, hup, hci⟩ := ki16 g hg _ hgv
    by_cases hb : b ∈ ord g
    · have hgn : g ≠ [] := fun h => by rw [h] at hb; simp [ord] at hb
      obtain ⟨hI, hF⟩ := hok hgn
      have hol := ord_len g
      have hpl := pl_lt hb
      refine row_walk g hg a b hs ha0 ha1 hb0 hb1 H' up nu hul hup hci (fun x => x ∈ ord g) (pl g) (fun x hx => ⟨((mem_ord g x).1 hx).range, fun hu => ?_⟩) hb (by omega) fun c hc => ?_
      · obtain ⟨_, huo, hlt⟩ := hI.toVal.up x hu
        exact ⟨huo, hlt⟩
      · have hd := (hI.final hF hb (c := a)).symm.trans hc.symm
        have h2 := domB_iff (g := g) (a := a) (b := b)
        simp only [hb, decide_true, Bool.and_true]
        cases c <;> cases hdb : domB g a b <;> simp_all
    · have hub : uf up b = -1 := by have := hoff b.toNat; rw [Int.toNat_of_nonneg hb0] at this; exact this hb
      refine row_walk g hg a b hs ha0 ha1 hb0 hb1 H' up nu hul hup hci (fun x => x = b) (fun _ => 0) (fun x hx => ?_) rfl (by omega) fun c hc => ?_
      · subst hx; exact ⟨⟨hb0, hb1⟩, fun h => absurd hub h⟩
      · simp only [hb, decide_false, Bool.and_false]
        exact domB_false fun h => hb ((mem_ord g b).2 h.2.1)
  · by_cases h1 : (g.length : Int) ≤ 60
    · by_cases h2 : a < 0 <;> by_cases h3 : b < 0 <;> by_cases h4 : (g.length : Int) ≤ a <;> by_cases h5 : (g.length : Int) ≤ b
      all_goals first
        | (exfalso; exact hr ⟨h1, by omega, by omega, by omega, by omega⟩)
        | skip
      all_goals
        refine Fw_funE rfl Try.func6 s6 (Nat.le_of_ble_eq_true rfl) (fun Q hqr hqn => ?_)
        simp only [tinit, Nat.reduceAdd, c6]
        repeat' (first
          | with_reducible refine Tx_assoc ?_
          | with_reducible refine Tx_nopK ?_
          | with_reducible refine Tx_yesK rfl ?_
          | with_reducible refine Tx_noK rfl ?_
          | with_reducible refine Tx_ifK rfl (fun _ => ?_) (fun _ => ?_)
          | with_reducible refine Tx_yes rfl ?_
          | with_reducible refine Tx_no rfl ?_
          | with_reducible refine Tx_if rfl (fun _ => ?_) (fun _ => ?_)
          | with_reducible refine Tx_retK ?_
          | with_reducible refine Tx_exitK ?_
          | with_reducible refine Tx_ret ?_
          | with_reducible refine Tx_exit ?_
          | with_reducible refine Tx_nop ?_
          | with_reducible refine Tx_blockK (id := 0) (fun Q0 hn0 hx0 hr0 ho0 => ?_)
          | with_reducible refine Tx_blockE (id := 0) (fun Q0 hn0 hx0 hr0 ho0 => ?_)
          | with_reducible refine hn0 _ ?_
          | with_reducible refine hx0 _ ?_
          | with_reducible refine hr0 _ ?_
          | with_reducible refine ho0 _ _ (by decide) ?_
          | with_reducible refine Tx_blockK (id := 1) (fun Q1 hn1 hx1 hr1 ho1 => ?_)
          | with_reducible refine Tx_blockE (id := 1) (fun Q1 hn1 hx1 hr1 ho1 => ?_)
          | with_reducible refine hn1 _ ?_
          | with_reducible refine hx1 _ ?_
          | with_reducible refine hr1 _ ?_
          | with_reducible refine ho1 _ _ (by decide) ?_
          | with_reducible refine hxL0 _ _ ?_
          | with_reducible refine hrL0 _ ?_
          | ((first | ((first | with_reducible refine Tx_regK (fun K hK => ?_) | with_reducible refine Tx_regE (fun K hK => ?_)); (first | with_reducible refine t6r0 ?_ | with_reducible refine t6r1 ?_ | with_reducible refine t6r2 ?_ | with_reducible refine t6r3 ?_ | with_reducible refine t6r4 ?_ | with_reducible refine t6r5 ?_ | with_reducible refine t6r6 ?_ | with_reducible refine t6r7 ?_ | with_reducible refine t6r8 ?_ | with_reducible refine t6r9 ?_ | with_reducible refine t6r11 ?_ | with_reducible refine t6r12 ?_ | with_reducible refine t6r10 ?_ | with_reducible refine t6r13 ?_ | with_reducible refine t6r14 ?_ | with_reducible refine t6r15 ?_ | with_reducible refine t6r16 ?_)) | with_reducible refine hqr _ ?_ | with_reducible refine hqn _ ?_); (try simp only [true_implies, false_implies, not_true_eq_false, not_false_eq_true, tget_cons, if_true, if_false, Nat.reduceEqDiff, ccells, Obt_some, Kn_normal, newL_eq, newP_eq, newA_eq, newM_eq, newR_eq, newK_eq, nmA_f, nmR_f, gn_var, gn_arr, gn_map, gnext_setL, lget_setL, lget_lset, gnext_lset, setL_setL, setL_H, Nat.reduceMul, Nat.reduceAdd, Nat.zero_add, fldA_ptr, fldA_rptr, List.drop_zero, ld1_l, ld1_r, ldA_l, rd1_var, rd1_arr, List.getElem?_cons_zero, List.getElem?_cons_succ, Obt_lss, Obt_leq, Obt_gtr, Obt_geq, Obt_eql, Obt_neq, Obt_not, gdO_tt, gdO_tf, gdO_ff, gdO_ft, gdO_skip, Option.map_some, pickX_t, pickX_f, Obt_pickS, Obt_gdT, Obt_gdF, Bool.not_true, Bool.not_false, lenS, Obt_map, Obt_add, Obt_sub, Obt_mul, Obt_quo, Obt_rem, Obt_and, Obt_or, Obt_xor, Obt_andNot, Obt_shl, Obt_shr, Obt_neg, Obt_cpl, Obt_conv, Obt_ext, Obt_bind, Obt_ite', appX_l, appX_n, appR_arr, appN_some, content_l, conR_arr, content_nil, clen_n, clen_r, idxS_ref, fillX, bslX, escP_list, List.all_append, stX_l, stV_var, stV_arr, splice, List.take_zero, List.take_succ_cons, List.drop_succ_cons, List.drop_nil, List.nil_append, List.cons_append, List.append_nil, List.length_cons, List.length_nil, Nat.reduceLeDiff, and_self, and_true, true_and, Nat.le_refl, Nat.zero_le, rdA_var, rdA_arr, escP, List.all_cons, List.all_nil, Bool.and_self, Bool.true_and, Bool.and_true, r6, tend, tresAll, tresC, Option.bind_some, mapMem, retv_agc, esc_i, esc_b, esc_n, esc_m, esc_s, retv_l, retR_arr, retv_gref, retv_gmap, retv_gptr, Nat.zero_sub, Nat.sub_self, retv_int, retv_bool, retv_nil, retv_imm, retv_inil, retv_pnil, tup_nil, tup_one, tup_two, Prod.mk.injEq, CV.int.injEq, CV.bool.injEq, clen_rowsC, k8 g _ hgv true (decide_eq_true h1), h2, h3, h4, h5, k9]))
          | (revert hK; intro hK; (first | refine And.intro ?_ ?_ | (refine fun (h : (_ : Bool) = _) => ?_; subst h) | intro _ | omega | (with_reducible refine hK _ ?_; clear hK K))))
        all_goals exact ⟨_, rfl⟩
    · refine Fw_funE rfl Try.func6 s6 (Nat.le_of_ble_eq_true rfl) (fun Q hqr hqn => ?_)
      simp only [tinit, Nat.reduceAdd, c6]
      repeat' (first
        | with_reducible refine Tx_assoc ?_
        | with_reducible refine Tx_nopK ?_
        | with_reducible refine Tx_yesK rfl ?_
        | with_reducible refine Tx_noK rfl ?_
        | with_reducible refine Tx_ifK rfl (fun _ => ?_) (fun _ => ?_)
        | with_reducible refine Tx_yes rfl ?_
        | with_reducible refine Tx_no rfl ?_
        | with_reducible refine Tx_if rfl (fun _ => ?_) (fun _ => ?_)
        | with_reducible refine Tx_retK ?_
        | with_reducible refine Tx_exitK ?_
        | with_reducible refine Tx_ret ?_
        | with_reducible refine Tx_exit ?_
        | with_reducible refine Tx_nop ?_
        | with_reducible refine Tx_blockK (id := 0) (fun Q0 hn0 hx0 hr0 ho0 => ?_)
        | with_reducible refine Tx_blockE (id := 0) (fun Q0 hn0 hx0 hr0 ho0 => ?_)
        | with_reducible refine hn0 _ ?_
        | with_reducible refine hx0 _ ?_
        | with_reducible refine hr0 _ ?_
        | with_reducible refine ho0 _ _ (by decide) ?_
        | with_reducible refine Tx_blockK (id := 1) (fun Q1 hn1 hx1 hr1 ho1 => ?_)
        | with_reducible refine Tx_blockE (id := 1) (fun Q1 hn1 hx1 hr1 ho1 => ?_)
        | with_reducible refine hn1 _ ?_
        | with_reducible refine hx1 _ ?_
        | with_reducible refine hr1 _ ?_
        | with_reducible refine ho1 _ _ (by decide) ?_
        | with_reducible refine hxL0 _ _ ?_
        | with_reducible refine hrL0 _ ?_
        | ((first | ((first | with_reducible refine Tx_regK (fun K hK => ?_) | with_reducible refine Tx_regE (fun K hK => ?_)); (first | with_reducible refine t6r0 ?_ | with_reducible refine t6r1 ?_ | with_reducible refine t6r2 ?_ | with_reducible refine t6r3 ?_ | with_reducible refine t6r4 ?_ | with_reducible refine t6r5 ?_ | with_reducible refine t6r6 ?_ | with_reducible refine t6r7 ?_ | with_reducible refine t6r8 ?_ | with_reducible refine t6r9 ?_ | with_reducible refine t6r11 ?_ | with_reducible refine t6r12 ?_ | with_reducible refine t6r10 ?_ | with_reducible refine t6r13 ?_ | with_reducible refine t6r14 ?_ | with_reducible refine t6r15 ?_ | with_reducible refine t6r16 ?_)) | with_reducible refine hqr _ ?_ | with_reducible refine hqn _ ?_); (try simp only [true_implies, false_implies, not_true_eq_false, not_false_eq_true, tget_cons, if_true, if_false, Nat.reduceEqDiff, ccells, Obt_some, Kn_normal, newL_eq, newP_eq, newA_eq, newM_eq, newR_eq, newK_eq, nmA_f, nmR_f, gn_var, gn_arr, gn_map, gnext_setL, lget_setL, lget_lset, gnext_lset, setL_setL, setL_H, Nat.reduceMul, Nat.reduceAdd, Nat.zero_add, fldA_ptr, fldA_rptr, List.drop_zero, ld1_l, ld1_r, ldA_l, rd1_var, rd1_arr, List.getElem?_cons_zero, List.getElem?_cons_succ, Obt_lss, Obt_leq, Obt_gtr, Obt_geq, Obt_eql, Obt_neq, Obt_not, gdO_tt, gdO_tf, gdO_ff, gdO_ft, gdO_skip, Option.map_some, pickX_t, pickX_f, Obt_pickS, Obt_gdT, Obt_gdF, Bool.not_true, Bool.not_false, lenS, Obt_map, Obt_add, Obt_sub, Obt_mul, Obt_quo, Obt_rem, Obt_and, Obt_or, Obt_xor, Obt_andNot, Obt_shl, Obt_shr, Obt_neg, Obt_cpl, Obt_conv, Obt_ext, Obt_bind, Obt_ite', appX_l, appX_n, appR_arr, appN_some, content_l, conR_arr, content_nil, clen_n, clen_r, idxS_ref, fillX, bslX, escP_list, List.all_append, stX_l, stV_var, stV_arr, splice, List.take_zero, List.take_succ_cons, List.drop_succ_cons, List.drop_nil, List.nil_append, List.cons_append, List.append_nil, List.length_cons, List.length_nil, Nat.reduceLeDiff, and_self, and_true, true_and, Nat.le_refl, Nat.zero_le, rdA_var, rdA_arr, escP, List.all_cons, List.all_nil, Bool.and_self, Bool.true_and, Bool.and_true, r6, tend, tresAll, tresC, Option.bind_some, mapMem, retv_agc, esc_i, esc_b, esc_n, esc_m, esc_s, retv_l, retR_arr, retv_gref, retv_gmap, retv_gptr, Nat.zero_sub, Nat.sub_self, retv_int, retv_bool, retv_nil, retv_imm, retv_inil, retv_pnil, tup_nil, tup_one, tup_two, Prod.mk.injEq, CV.int.injEq, CV.bool.injEq, clen_rowsC, k8 g _ hgv false (decide_eq_false h1), k9]))
        | (revert hK; intro hK; (first | refine And.intro ?_ ?_ | (refine fun (h : (_ : Bool) = _) => ?_; subst h) | intro _ | omega | (with_reducible refine hK _ ?_; clear hK K))))
      all_goals exact ⟨_, rfl⟩
end Go.Cm
