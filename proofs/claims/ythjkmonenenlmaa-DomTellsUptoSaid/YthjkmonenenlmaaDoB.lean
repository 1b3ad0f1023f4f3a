/-
  Graphs: the walk that leaves nodes behind those that they lead to.
-/
import Derived.Test.YthjkmonenenlmaaDoA
set_option linter.unusedSimpArgs false
set_option linter.unusedVariables false
namespace Go.Cm
open Go.Proofs Go.Gr
def leftV (b : Nat) (left : List Int) : CV := if left = [] then .nil else .ref (.g (b + 5)) left.length 0 left.length
def leftH (left : List Int) : List HO := if left = [] then [] else [.arr left.length 1 (left.flatMap intC) 0]
/-- what the walk keeps -/
def envO (gv : CV) (b : Nat) (met left : List Int) : List HO :=
  .var 1 [gv] 0 :: .map 1 (esI .i64 (met.map fun x => (x, .bool true))) :: .var 1 [.map (.g (b + 1)) 1] 0 :: .var 1 [leftV b left] 0 ::
    .var 1 [.func (.func 28) [] [.ptr (.g (b + 2)) 1 0, .ptr (.g b) 1 0, .ptr (.g (b + 4)) 1 0, .ptr (.g (b + 3)) 1 0]] 0 :: leftH left
def argsO (b : Nat) (x : Int) : List CV := [.int .i64 x, .ptr (.g (b + 2)) 1 0, .ptr (.g b) 1 0, .ptr (.g (b + 4)) 1 0, .ptr (.g (b + 3)) 1 0]
theorem argsO_Q (b : Nat) (x : Int) : (argsO b x).all escQ = true := rfl
theorem left_step (gv : CV) (H0 : List HO) {met left : List Int} {x : Int} {gt : Nat} {m : Mem} (hm : m.H = H0 ++ envO gv H0.length met left) (ht : lget m.L 432 = some (.arr gt 1 [.int .i64 x] 0)) (hl : left.length + 1 ≤ 4294967296) :
    ∃ v H2, appX true 448 1 8 (leftV H0.length left) (.ref (.l 432) gt 0 1) m = some (v, ⟨m.L, H2⟩) ∧ stX 1 ⟨m.L, H2⟩ (.ptr (.g (H0.length + 3)) 1 0) v = some ⟨m.L, H0 ++ envO gv H0.length met (left ++ [x])⟩ := by
  have hc : content m 1 (.ref (.l 432) gt 0 1) = some [.int .i64 x] := by rw [content_l, ht, conR_arr]; rfl
  obtain ⟨ML, MH⟩ := m
  simp only at hm
  subst hm
  by_cases h0 : left = []
  · subst h0
    refine ⟨.ref (.g (H0.length + 5)) 1 0 1, H0 ++ (envO gv H0.length met [] ++ [.arr 1 1 [.int .i64 x] 0]), ?_, ?_⟩
    · simp only [leftV, if_true, appX_n, hc, clen_r]
      rw [appN_some (by decide), if_pos (smallB_ok (by decide) (by decide))]
      have hlen : (H0 ++ envO gv H0.length met []).length = H0.length + 5 := by simp [envO, leftH]
      simp only [nmR_t, nmA_t, List.append_assoc, hlen]
    · have e3 : (envO gv H0.length met [] ++ [.arr 1 1 [.int .i64 x] 0])[3]? = some (.var 1 [.nil] 0) := rfl
      simp only [stX_g, getH, e3, ccells, stW_var, List.length_cons, List.length_nil]
      rw [if_pos (by decide), escP_list rfl]
      simp only [Option.map_some, setG, setH]
      rfl
  · have hv : leftV H0.length left = .ref (.g (H0.length + 5)) left.length 0 left.length := by simp only [leftV, h0, if_false]
    have e5 : (envO gv H0.length met left)[5]? = some (.arr left.length 1 (left.flatMap intC) 0) := by
      simp only [envO, leftH, h0, if_false, List.getElem?_cons_succ, List.getElem?_cons_zero]
    have htk : (left.flatMap intC).take (left.length * 1) = left.flatMap intC := List.take_of_length_le (by rw [flat_len intC_len]; exact Nat.le_refl _)
    refine ⟨.ref (.g (H0.length + 5)) (left.length + 1) 0 (left.length + 1), H0 ++ (envO gv H0.length met left).set 5 (.arr (left.length + 1) 1 (left.flatMap intC ++ [.int .i64 x]) 0), ?_, ?_⟩
    · simp only [hv, appX_g, hc, clen_r, getH, e5]
      rw [if_pos ⟨trivial, trivial, by omega, smallB_ok (by decide) hl⟩]
      simp only [setG, setH, List.drop_zero, htk, Nat.zero_sub]
    · have e3 : ∀ o, ((envO gv H0.length met left).set 5 o)[3]? = some (.var 1 [leftV H0.length left] 0) := fun _ => rfl
      simp only [stX_g, getH, e3, ccells, stW_var, List.length_cons, List.length_nil]
      rw [if_pos (by decide), escP_list rfl]
      simp only [Option.map_some, setG, setH, splice, List.take_zero, List.nil_append, List.length_cons, List.length_nil, Nat.zero_add, List.drop_succ_cons, List.drop_zero, List.append_nil]
      congr 3
      simp [envO, leftV, leftH, h0, intC]
theorem x28 (g : List (List Int)) (hg : Sm g) (gv : CV) (hgv : IsRows gv g) (H0 : List HO) : ∀ (k : Nat) (x : Int) (met left : List Int), 0 ≤ x → x < g.length → unmet g met < k → (visit g k x (met, left)).2.length ≤ 1048576 →
    FF 28 (argsO H0.length x) (H0 ++ envO gv H0.length met left) = some (.tuple [], H0 ++ envO gv H0.length (visit g k x (met, left)).1 (visit g k x (met, left)).2)
  | 0, _, _, _, _, _, h, _ => by omega
  | k + 1, x, met, left, h0, h1, hk, hfin => by
    by_cases hx : x ∈ met
    · simp only [visit, hx, if_true] at hfin ⊢
      have hl : ∀ L, mapOf ⟨L, H0 ++ envO gv H0.length met left⟩ (.map (.g (H0.length + 1)) 1) = some (esI .i64 (met.map fun x => (x, .bool true))) := fun L => mapOf_g (by simp only [getH, envO, List.getElem?_cons_succ, List.getElem?_cons_zero])
      have hlk := fun L z ok => lookX_int (t := 3) (a := x) (z := z) (ok := ok) Try.underlying3 (hl L)
      have e2 : (envO gv H0.length met left)[2]? = some (.var 1 [.map (.g (H0.length + 1)) 1] 0) := rfl
      refine Fw_funK rfl Try.func28 s28 (Nat.le_of_ble_eq_true rfl) (fun Q hqr hqn => ?_)
      simp only [tinit, Nat.reduceAdd, c28]
      simp only [argsO, tinit, Nat.reduceAdd]
      repeat' (first
      | with_reducible refine Tx_assoc ?_
      | with_reducible refine Tx_yesK rfl ?_
      | with_reducible refine Tx_retK ?_
      | ((first | (with_reducible refine Tx_regK (fun K hK => ?_); with_reducible refine t28r0 ?_) | with_reducible refine hqr _ ?_); (try simp only [true_implies, false_implies, not_true_eq_false, not_false_eq_true, tget_cons, if_true, if_false, Nat.reduceEqDiff, ccells, Obt_some, Kn_normal, newL_eq, newP_eq, newA_eq, newM_eq, newR_eq, newK_eq, nmA_f, nmR_f, gn_var, gn_arr, gn_map, gnext_setL, lget_setL, lget_lset, gnext_lset, setL_setL, setL_H, Nat.reduceMul, Nat.reduceAdd, Nat.zero_add, fldA_ptr, fldA_rptr, List.drop_zero, ld1_l, ld1_r, ldA_l, rd1_var, rd1_arr, List.getElem?_cons_zero, List.getElem?_cons_succ, Obt_lss, Obt_leq, Obt_gtr, Obt_geq, Obt_eql, Obt_neq, Obt_not, gdO_tt, gdO_tf, gdO_ff, gdO_ft, gdO_skip, Option.map_some, pickX_t, pickX_f, Obt_pickS, Obt_gdT, Obt_gdF, Bool.not_true, Bool.not_false, lenS, Obt_map, Obt_add, Obt_sub, Obt_mul, Obt_quo, Obt_rem, Obt_and, Obt_or, Obt_xor, Obt_andNot, Obt_shl, Obt_shr, Obt_neg, Obt_cpl, Obt_conv, Obt_ext, Obt_bind, Obt_ite', appX_l, appX_n, appR_arr, appN_some, content_l, conR_arr, content_nil, clen_n, clen_r, idxS_ref, fillX, bslX, escP_list, List.all_append, stX_l, stV_var, stV_arr, splice, List.take_zero, List.take_succ_cons, List.drop_succ_cons, List.drop_nil, List.nil_append, List.cons_append, List.append_nil, List.length_cons, List.length_nil, Nat.reduceLeDiff, and_self, and_true, true_and, Nat.le_refl, Nat.zero_le, rdA_var, rdA_arr, escP, List.all_cons, List.all_nil, Bool.and_self, Bool.true_and, Bool.and_true, r28, tend, tresAll, tresC, Option.bind_some, mapMem, retv_agc, esc_i, esc_b, esc_n, esc_m, esc_s, retv_l, retR_arr, retv_gref, retv_gmap, retv_gptr, Nat.zero_sub, Nat.sub_self, retv_int, retv_bool, retv_nil, retv_imm, retv_inil, retv_pnil, tup_nil, tup_one, tup_two, Prod.mk.injEq, CV.int.injEq, CV.bool.injEq, ld1_g, getH, e2, hlk, al_const hx, Option.getD_some, Bool.false_eq_true]))
      | (revert hK; intro hK; (with_reducible refine hK _ ?_; clear hK K)))
    · have hvis : visit g (k + 1) x (met, left) = (((ins g x).foldl (fun s y => visit g k y s) (met ++ [x], left)).1, ((ins g x).foldl (fun s y => visit g k y s) (met ++ [x], left)).2 ++ [x]) := by simp only [visit, hx, if_false]
      rw [hvis] at hfin ⊢
      simp only [List.length_append, List.length_cons, List.length_nil] at hfin
      have hal : al (met.map fun x => (x, CV.bool true)) x = none := al_map (f := fun y => y) fun y hy e => hx (by rw [← e]; exact hy)
      have hl : ∀ L, mapOf ⟨L, H0 ++ envO gv H0.length met left⟩ (.map (.g (H0.length + 1)) 1) = some (esI .i64 (met.map fun x => (x, .bool true))) := fun L => mapOf_g (by simp only [getH, envO, List.getElem?_cons_succ, List.getElem?_cons_zero])
      have hlk := fun L z ok => lookX_int (t := 3) (a := x) (z := z) (ok := ok) Try.underlying3 (hl L)
      have hm : ∀ L, mupX Try.prog 3 (.map (.g (H0.length + 1)) 1) (.int .i64 x) (.bool true) ⟨L, H0 ++ envO gv H0.length met left⟩ = some ⟨L, H0 ++ envO gv H0.length (met ++ [x]) left⟩ := by
        intro L
        rw [mupX_int (l := met.map fun x => (x, .bool true)) Try.underlying3 rfl (by simp only [Mem.get, getH, envO, List.getElem?_cons_succ, List.getElem?_cons_zero])]
        simp only [Mem.set, setH, aset_new hal, envO, List.set_cons_succ, List.set_cons_zero, List.map_append, List.map_cons, List.map_nil]
      have q0 : ∀ m l, (envO gv H0.length m l)[0]? = some (.var 1 [gv] 0) := fun _ _ => rfl
      have q2 : ∀ m l, (envO gv H0.length m l)[2]? = some (.var 1 [.map (.g (H0.length + 1)) 1] 0) := fun _ _ => rfl
      have q3 : ∀ m l, (envO gv H0.length m l)[3]? = some (.var 1 [leftV H0.length l] 0) := fun _ _ => rfl
      have q4 : ∀ m l, (envO gv H0.length m l)[4]? = some (.var 1 [.func (.func 28) [] [.ptr (.g (H0.length + 2)) 1 0, .ptr (.g H0.length) 1 0, .ptr (.g (H0.length + 4)) 1 0, .ptr (.g (H0.length + 3)) 1 0]] 0) := fun _ _ => rfl
      refine Fw_funK rfl Try.func28 s28 (Nat.le_of_ble_eq_true rfl) (fun Q hqr hqn => ?_)
      simp only [tinit, Nat.reduceAdd, c28]
      simp only [argsO, tinit, Nat.reduceAdd]
      repeat' (first
      | with_reducible refine Tx_assoc ?_
      | with_reducible refine Tx_nopK ?_
      | with_reducible refine Tx_noK rfl ?_
      | ((with_reducible refine Tx_regK (fun K hK => ?_); (first | with_reducible refine t28r0 ?_ | with_reducible refine t28r1 ?_ | with_reducible refine t28r2 ?_)); (try simp only [true_implies, false_implies, not_true_eq_false, not_false_eq_true, tget_cons, if_true, if_false, Nat.reduceEqDiff, ccells, Obt_some, Kn_normal, newL_eq, newP_eq, newA_eq, newM_eq, newR_eq, newK_eq, nmA_f, nmR_f, gn_var, gn_arr, gn_map, gnext_setL, lget_setL, lget_lset, gnext_lset, setL_setL, setL_H, Nat.reduceMul, Nat.reduceAdd, Nat.zero_add, fldA_ptr, fldA_rptr, List.drop_zero, ld1_l, ld1_r, ldA_l, rd1_var, rd1_arr, List.getElem?_cons_zero, List.getElem?_cons_succ, Obt_lss, Obt_leq, Obt_gtr, Obt_geq, Obt_eql, Obt_neq, Obt_not, gdO_tt, gdO_tf, gdO_ff, gdO_ft, gdO_skip, Option.map_some, pickX_t, pickX_f, Obt_pickS, Obt_gdT, Obt_gdF, Bool.not_true, Bool.not_false, lenS, Obt_map, Obt_add, Obt_sub, Obt_mul, Obt_quo, Obt_rem, Obt_and, Obt_or, Obt_xor, Obt_andNot, Obt_shl, Obt_shr, Obt_neg, Obt_cpl, Obt_conv, Obt_ext, Obt_bind, Obt_ite', appX_l, appX_n, appR_arr, appN_some, content_l, conR_arr, content_nil, clen_n, clen_r, idxS_ref, fillX, bslX, escP_list, List.all_append, stX_l, stV_var, stV_arr, splice, List.take_zero, List.take_succ_cons, List.drop_succ_cons, List.drop_nil, List.nil_append, List.cons_append, List.append_nil, List.length_cons, List.length_nil, Nat.reduceLeDiff, and_self, and_true, true_and, Nat.le_refl, Nat.zero_le, rdA_var, rdA_arr, escP, List.all_cons, List.all_nil, Bool.and_self, Bool.true_and, Bool.and_true, r28, tend, tresAll, tresC, Option.bind_some, mapMem, retv_agc, esc_i, esc_b, esc_n, esc_m, esc_s, retv_l, retR_arr, retv_gref, retv_gmap, retv_gptr, Nat.zero_sub, Nat.sub_self, retv_int, retv_bool, retv_nil, retv_imm, retv_inil, retv_pnil, tup_nil, tup_one, tup_two, Prod.mk.injEq, CV.int.injEq, CV.bool.injEq, ld1_g, getH, getH0, q0, q2, hlk, hal, hm, Option.getD_none, Bool.false_eq_true]))
      | (revert hK; intro hK; (with_reducible refine hK _ ?_; clear hK K)))
      refine k29 g hg gv hgv x h0 h1 rfl fun v m' hO hH' hf => ?_
      simp only [hO.len, Obt_some]
      refine hK _ ?_
      clear hK K
      repeat' (first
      | with_reducible refine Tx_blockK (id := 0) (fun Q0 hn0 hx0 hr0 ho0 => ?_))
      obtain ⟨ML', MH'⟩ := m'
      simp only at hH'
      subst hH'
      have hun := unmet_lt h0 h1 hx
      have hfd : ∀ d t, ins g x = d ++ t → unmet g (d.foldl (fun s y => visit g k y s) (met ++ [x], left)).1 < k ∧ (d.foldl (fun s y => visit g k y s) (met ++ [x], left)).2.length ≤ ((ins g x).foldl (fun s y => visit g k y s) (met ++ [x], left)).2.length := by
        intro d t hdt
        obtain ⟨M, N, hv⟩ := fold_ok g k d (met ++ [x], left) (fun y hy => ins_range (x := x) (by rw [hdt]; exact List.mem_append_left _ hy)) (by simp only; omega)
        have h4 : unmet g (d.foldl (fun s y => visit g k y s) (met ++ [x], left)).1 < k := by
          rw [hv.met]; have := unmet_le g (met ++ [x]) M; simp only; omega
        refine ⟨h4, ?_⟩
        rw [hdt, List.foldl_append]
        obtain ⟨M2, N2, hv2⟩ := fold_ok g k t _ (fun y hy => ins_range (x := x) (by rw [hdt]; exact List.mem_append_right _ hy)) h4
        exact hv2.len_le
      refine Tx_loopK (fun n s => ∃ d t ML st, ins g x = d ++ t ∧ n = t.length ∧ st = d.foldl (fun s y => visit g k y s) (met ++ [x], left) ∧
        s = ⟨[(0, .int .i64 x), (3, .ptr (.g (H0.length + 4)) 1 0), (4, .ptr (.g (H0.length + 3)) 1 0), (15, v), (16, .int .i64 (ins g x).length), (17, .int .i64 d.length)], ⟨ML, H0 ++ envO gv H0.length st.1 st.2⟩⟩ ∧
        OwnE intC 1 ⟨ML, H0 ++ envO gv H0.length st.1 st.2⟩ 240 v (ins g x)) _ ⟨[], ins g x, ML', _, rfl, rfl, rfl, rfl, hO⟩ ?_
      rintro n s ⟨d, t, ML, st, h2, rfl, h3, rfl, hO2⟩ QL0 hnL0 hxL0 hrL0
      have hlen := congrArg List.length h2
      simp only [List.length_append] at hlen
      have hr2 := hg.2
      obtain ⟨f1, f2⟩ := hfd d t h2
      rw [← h3] at f1 f2
      obtain ⟨sm, sl⟩ := st
      simp only at f1 f2
      cases t with
      | nil =>
        simp only [List.length_nil] at hlen
        rw [List.append_nil] at h2
        rw [h2, ← h3] at hfin hqr hqn
        simp only [c28l0]
        repeat' (first
        | with_reducible refine Tx_noK rfl ?_
        | with_reducible refine Tx_exitK ?_
        | with_reducible refine hx0 _ ?_
        | with_reducible refine hxL0 _ _ ?_
        | (((first | with_reducible refine Tx_regK (fun K hK => ?_) | with_reducible refine Tx_regE (fun K hK => ?_)); (first | with_reducible refine t28r3 ?_ | with_reducible refine t28r7 ?_)); (try simp only [true_implies, false_implies, not_true_eq_false, not_false_eq_true, tget_cons, if_true, if_false, Nat.reduceEqDiff, ccells, Obt_some, Kn_normal, newL_eq, newP_eq, newA_eq, newM_eq, newR_eq, newK_eq, nmA_f, nmR_f, gn_var, gn_arr, gn_map, gnext_setL, lget_setL, lget_lset, gnext_lset, setL_setL, setL_H, Nat.reduceMul, Nat.reduceAdd, Nat.zero_add, fldA_ptr, fldA_rptr, List.drop_zero, ld1_l, ld1_r, ldA_l, rd1_var, rd1_arr, List.getElem?_cons_zero, List.getElem?_cons_succ, Obt_lss, Obt_leq, Obt_gtr, Obt_geq, Obt_eql, Obt_neq, Obt_not, gdO_tt, gdO_tf, gdO_ff, gdO_ft, gdO_skip, Option.map_some, pickX_t, pickX_f, Obt_pickS, Obt_gdT, Obt_gdF, Bool.not_true, Bool.not_false, lenS, Obt_map, Obt_add, Obt_sub, Obt_mul, Obt_quo, Obt_rem, Obt_and, Obt_or, Obt_xor, Obt_andNot, Obt_shl, Obt_shr, Obt_neg, Obt_cpl, Obt_conv, Obt_ext, Obt_bind, Obt_ite', appX_l, appX_n, appR_arr, appN_some, content_l, conR_arr, content_nil, clen_n, clen_r, idxS_ref, fillX, bslX, escP_list, List.all_append, stX_l, stV_var, stV_arr, splice, List.take_zero, List.take_succ_cons, List.drop_succ_cons, List.drop_nil, List.nil_append, List.cons_append, List.append_nil, List.length_cons, List.length_nil, Nat.reduceLeDiff, and_self, and_true, true_and, Nat.le_refl, Nat.zero_le, rdA_var, rdA_arr, escP, List.all_cons, List.all_nil, Bool.and_self, Bool.true_and, Bool.and_true, r28, tend, tresAll, tresC, Option.bind_some, mapMem, retv_agc, esc_i, esc_b, esc_n, esc_m, esc_s, retv_l, retR_arr, retv_gref, retv_gmap, retv_gptr, Nat.zero_sub, Nat.sub_self, retv_int, retv_bool, retv_nil, retv_imm, retv_inil, retv_pnil, tup_nil, tup_one, tup_two, Prod.mk.injEq, CV.int.injEq, CV.bool.injEq, ld1_g, getH, q3]))
        | (revert hK; intro hK; (first | refine And.intro ?_ ?_ | intro _ | omega | (with_reducible refine hK _ ?_; clear hK K))))
        simp only at hfin
        obtain ⟨v2, H2, a1, a2⟩ := left_step gv H0 (met := sm) (left := sl) (x := x) (gt := gnext ML 432) (m := setL ⟨ML, H0 ++ envO gv H0.length sm sl⟩ 432 (.arr (gnext ML 432) 1 [.int .i64 x] 0)) rfl (by rw [lget_setL, if_pos rfl]) (by omega)
        simp only [a1, Obt_some, a2]
        refine hK _ ?_
        clear hK K
        repeat' (first
        | (with_reducible refine hqn _ ?_; (try simp only [true_implies, false_implies, not_true_eq_false, not_false_eq_true, tget_cons, if_true, if_false, Nat.reduceEqDiff, ccells, Obt_some, Kn_normal, newL_eq, newP_eq, newA_eq, newM_eq, newR_eq, newK_eq, nmA_f, nmR_f, gn_var, gn_arr, gn_map, gnext_setL, lget_setL, lget_lset, gnext_lset, setL_setL, setL_H, Nat.reduceMul, Nat.reduceAdd, Nat.zero_add, fldA_ptr, fldA_rptr, List.drop_zero, ld1_l, ld1_r, ldA_l, rd1_var, rd1_arr, List.getElem?_cons_zero, List.getElem?_cons_succ, Obt_lss, Obt_leq, Obt_gtr, Obt_geq, Obt_eql, Obt_neq, Obt_not, gdO_tt, gdO_tf, gdO_ff, gdO_ft, gdO_skip, Option.map_some, pickX_t, pickX_f, Obt_pickS, Obt_gdT, Obt_gdF, Bool.not_true, Bool.not_false, lenS, Obt_map, Obt_add, Obt_sub, Obt_mul, Obt_quo, Obt_rem, Obt_and, Obt_or, Obt_xor, Obt_andNot, Obt_shl, Obt_shr, Obt_neg, Obt_cpl, Obt_conv, Obt_ext, Obt_bind, Obt_ite', appX_l, appX_n, appR_arr, appN_some, content_l, conR_arr, content_nil, clen_n, clen_r, idxS_ref, fillX, bslX, escP_list, List.all_append, stX_l, stV_var, stV_arr, splice, List.take_zero, List.take_succ_cons, List.drop_succ_cons, List.drop_nil, List.nil_append, List.cons_append, List.append_nil, List.length_cons, List.length_nil, Nat.reduceLeDiff, and_self, and_true, true_and, Nat.le_refl, Nat.zero_le, rdA_var, rdA_arr, escP, List.all_cons, List.all_nil, Bool.and_self, Bool.true_and, Bool.and_true, r28, tend, tresAll, tresC, Option.bind_some, mapMem, retv_agc, esc_i, esc_b, esc_n, esc_m, esc_s, retv_l, retR_arr, retv_gref, retv_gmap, retv_gptr, Nat.zero_sub, Nat.sub_self, retv_int, retv_bool, retv_nil, retv_imm, retv_inil, retv_pnil, tup_nil, tup_one, tup_two, Prod.mk.injEq, CV.int.injEq, CV.bool.injEq])))
      | cons a t =>
        simp only [List.length_cons] at hlen
        have hil : (ins g x).length ≤ 17592186044416 := by
          unfold ins
          refine Nat.le_trans (List.length_filter_le _ _) ?_
          rw [List.getD_eq_getElem?_getD, List.getElem?_eq_getElem (show x.toNat < g.length by omega), Option.getD_some]
          exact hr2 _ (List.getElem_mem _)
        have ha : (ins g x)[d.length]? = some a := by rw [h2]; simp
        have har := ins_range (g := g) (x := x) (List.mem_of_getElem? ha)
        obtain ⟨p, hp1, hp2⟩ := hO2.at ha (k := .i64)
        have hw : IntKind.i64.wrap ((d.length : Int) + 1) = d.length + 1 := wI (by omega) (by omega)
        have hst : visit g k a (sm, sl) = (d ++ [a]).foldl (fun s y => visit g k y s) (met ++ [x], left) := by rw [List.foldl_append, ← h3]; rfl
        have h5 := (hfd (d ++ [a]) t (by rw [h2]; simp)).2
        rw [← hst] at h5
        have ih := x28 g hg gv hgv H0 k a sm sl har.1 har.2 f1 (by omega)
        have hcall : callC An FF 28 (some 23) 28 (argsO H0.length a) ⟨ML, H0 ++ envO gv H0.length sm sl⟩ = some (.tuple [], ⟨ML, H0 ++ envO gv H0.length (visit g k a (sm, sl)).1 (visit g k a (sm, sl)).2⟩) := by rw [callC_I rfl (argsO_Q _ _) ih, adopt_tuple rfl]
        simp only [argsO] at hcall
        simp only [c28l0]
        repeat' (first
        | with_reducible refine Tx_nopK ?_
        | with_reducible refine Tx_yesK rfl ?_
        | with_reducible refine Tx_blockK (id := 1) (fun Q1 hn1 hx1 hr1 ho1 => ?_)
        | with_reducible refine hn1 _ ?_
        | (((first | with_reducible refine Tx_regK (fun K hK => ?_) | with_reducible refine Tx_regE (fun K hK => ?_)); (first | with_reducible refine t28r3 ?_ | with_reducible refine t28r4 ?_ | with_reducible refine t28r5 ?_ | with_reducible refine t28r6 ?_)); (try simp only [true_implies, false_implies, not_true_eq_false, not_false_eq_true, tget_cons, if_true, if_false, Nat.reduceEqDiff, ccells, Obt_some, Kn_normal, newL_eq, newP_eq, newA_eq, newM_eq, newR_eq, newK_eq, nmA_f, nmR_f, gn_var, gn_arr, gn_map, gnext_setL, lget_setL, lget_lset, gnext_lset, setL_setL, setL_H, Nat.reduceMul, Nat.reduceAdd, Nat.zero_add, fldA_ptr, fldA_rptr, List.drop_zero, ld1_l, ld1_r, ldA_l, rd1_var, rd1_arr, List.getElem?_cons_zero, List.getElem?_cons_succ, Obt_lss, Obt_leq, Obt_gtr, Obt_geq, Obt_eql, Obt_neq, Obt_not, gdO_tt, gdO_tf, gdO_ff, gdO_ft, gdO_skip, Option.map_some, pickX_t, pickX_f, Obt_pickS, Obt_gdT, Obt_gdF, Bool.not_true, Bool.not_false, lenS, Obt_map, Obt_add, Obt_sub, Obt_mul, Obt_quo, Obt_rem, Obt_and, Obt_or, Obt_xor, Obt_andNot, Obt_shl, Obt_shr, Obt_neg, Obt_cpl, Obt_conv, Obt_ext, Obt_bind, Obt_ite', appX_l, appX_n, appR_arr, appN_some, content_l, conR_arr, content_nil, clen_n, clen_r, idxS_ref, fillX, bslX, escP_list, List.all_append, stX_l, stV_var, stV_arr, splice, List.take_zero, List.take_succ_cons, List.drop_succ_cons, List.drop_nil, List.nil_append, List.cons_append, List.append_nil, List.length_cons, List.length_nil, Nat.reduceLeDiff, and_self, and_true, true_and, Nat.le_refl, Nat.zero_le, rdA_var, rdA_arr, escP, List.all_cons, List.all_nil, Bool.and_self, Bool.true_and, Bool.and_true, r28, tend, tresAll, tresC, Option.bind_some, mapMem, retv_agc, esc_i, esc_b, esc_n, esc_m, esc_s, retv_l, retR_arr, retv_gref, retv_gmap, retv_gptr, Nat.zero_sub, Nat.sub_self, retv_int, retv_bool, retv_nil, retv_imm, retv_inil, retv_pnil, tup_nil, tup_one, tup_two, Prod.mk.injEq, CV.int.injEq, CV.bool.injEq, ld1_g, getH, q4, hp1, hp2, invokeC_func, hcall, hw]))
        | (revert hK; intro hK; (first | refine And.intro ?_ ?_ | intro _ | omega | (with_reducible refine hK _ ?_; clear hK K))))
        refine hnL0 t.length _ (by simp) ⟨d ++ [a], t, ML, _, by simp [h2], rfl, hst, by simp, hO2.keep rfl⟩
end Go.Cm
