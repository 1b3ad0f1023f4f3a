import Derived.Test.YtlflghggdpbcnaaGreatCxM
import Derived.Test.YtlflghggdpbcnaaGreatGpD
import Derived.Test.YtlflghggdpbcnaaGreatGpE
import Derived.Test.YtlflghggdpbcnaaGreatGpG
import Derived.Test.YtlflghggdpbcnaaGreatGwV
set_option linter.unusedSimpArgs false
set_option linter.unusedVariables false
namespace Go.Cm
open Go.Proofs
theorem e55_sim {E : Oracle} (hE : Sim Tryz.prog E) : Sim Tryz.prog (tab 55 e55 E) := by
  refine sim_tab ?_ hE
  intro args H r H' h
  unfold e55 at h
  split at h
  · rename_i hc
    simp only [Bool.and_eq_true, List.isEmpty_iff] at hc
    obtain ⟨h1, h2⟩ := hc
    have h3 := beqs_eq _ _ h1
    subst h2 h3
    rw [← isZero_of run55_zero] at h
    exact ccall_sim EL_sim plainN mixed 40 _ _ _ _ _ h
  · cases h
theorem e29_sim {E : Oracle} (hE : Sim Tryz.prog E) : Sim Tryz.prog (tab 29 e29 E) := by
  refine sim_tab ?_ hE
  intro args H r H' h
  unfold e29 at h
  split at h
  · rename_i hc
    simp only [Bool.and_eq_true, List.isEmpty_iff] at hc
    obtain ⟨h1, h2⟩ := hc
    have h3 := beqs_eq _ _ h1
    subst h2 h3
    rw [← isF25_of run29_false] at h
    exact ccall_sim EL_sim plainN mixed 40 _ _ _ _ _ h
  · cases h
theorem E3_sim : Sim Tryz.prog E3 := e55_sim (e29_sim EL_sim)
theorem only1_sim {k : FuncId} {x : List CV} {E : Oracle} (hE : Sim Tryz.prog E) : Sim Tryz.prog (tab k (only1 x (ccall Tryz.prog An EL 40 k x [])) E) := by
  refine sim_tab ?_ hE
  intro args H r H' h
  unfold only1 at h
  split at h
  · rename_i hc
    simp only [Bool.and_eq_true, List.isEmpty_iff] at hc
    obtain ⟨h1, h2⟩ := hc
    have h3 := beqs_eq _ _ h1
    subst h2 h3
    exact ccall_sim EL_sim plainN mixed 40 _ _ _ _ _ h
  · cases h
theorem EE_sim : Sim Tryz.prog EE := by
  refine sim_tab ?_ (only1_sim (only1_sim (only1_sim EL_sim)))
  intro args H r H' h
  unfold only0 at h
  split at h
  · exact ccall_sim E3_sim plainN mixed 40 _ _ _ _ _ h
  · cases h
theorem Fw_E25 {P : Program} {A : Ann} {E : Oracle} {f : FuncId} {args : List CV} {H : List HO} {r : CV × List HO} (h : E f (cin (A.pure f) args) H = some r) : Fw P A E f args H = some r :=
  Fw_iff.2 ⟨1, by simp only [tcall, h]⟩
theorem only25 : EE 21 [] [] = only0 hx25 [] [] := by simp only [EE, tab, if_true]
theorem only0_nil25 (h : Option (CV × List HO)) : only0 h [] [] = h := rfl
theorem x21 : ∃ H', FF 21 [] [] = some (.bool true, H') := ⟨_, Fw_E25 ((only25.trans (only0_nil25 _)).trans (isT25_of hx25_true))⟩
theorem k21 {fid : FuncId} {d : Tmp} {m : Mem} : callC An FF fid (some d) 21 [] m = some (.bool true, m) := by
  obtain ⟨H', h⟩ := x21
  rw [callC_K h rfl rfl rfl rfl rfl, adopt_bool]
end Go.Cm

namespace Go.Cm
open Go.Proofs Go.Pk
theorem adopt1_own {α : Type} {e : α → List CV} {sz j : Nat} {m : Mem} {l : List α} : ∃ v m', adopt1 false j (ownC e sz l) m = (v, m') ∧ OwnE e sz m' j v l ∧ m'.H = m.H := by
  by_cases hl : l = []
  · subst hl
    exact ⟨.nil, m, rfl, .inl ⟨rfl, rfl⟩, rfl⟩
  · refine ⟨.ref (.l j) (gnext m.L j) 0 l.length, setL m j (.arr (gnext m.L j) sz (l.flatMap e) 0), ?_, .inr ⟨hl, _, rfl, by rw [lget_setL, if_pos rfl]⟩, rfl⟩
    rw [ownC, if_neg hl]; rfl
theorem rlx_cases (l : List Dr) (marks : List Int) : ∃ os e, rlx1 l marks = (ownC rcC 8 os, e) ∧ ((MayP l marks ∧ os = outs marks 0 l ∧ e = 0) ∨ (os = [] ∧ e ≠ 0)) := by
  unfold rlx1
  split
  · rename_i hm
    split
    · exact ⟨_, _, rfl, .inl ⟨mayD_of hm, rfl, rfl⟩⟩
    · exact ⟨[], 250, rfl, .inr ⟨rfl, by decide⟩⟩
  · exact ⟨[], 2, rfl, .inr ⟨rfl, by decide⟩⟩
theorem k22 {l : List Dr} {marks : List Int} (hl : l.length ≤ 1000) (hml : marks.length ≤ 9223372036854775807) {os : List Rc} {e : Int} (hr : rlx1 l marks = (ownC rcC 8 os, e)) {fid : FuncId} {t : Tmp} {m : Mem} {K : CV × Mem → Prop} (hgl : (An.glob fid).contains t = false)
    (hK : ∀ v m', OwnE rcC 8 m' (16 * t + 1) v os → m'.H = m.H → K (.tuple [v, .int .i64 e], m')) : Obt (callC An FF fid (some t) 22 [sl drC l, sl intC marks] m) K := by
  obtain ⟨_, ⟨H', rfl⟩, h⟩ := x22_ones l marks hl hml
  rw [hr] at h
  rw [callC_K h rfl (by simp only [cans, drE.can_sl, intE.can_sl]) rfl (by simp only [noGs, drE.noG_sl, intE.noG_sl, Bool.and_self]) (by simp only [noG, noGs, rcE.noG_own, Bool.and_self]), hgl, Obt_some]
  obtain ⟨v, m', h1, h2, h3⟩ := adopt1_own (e := rcC) (sz := 8) (j := 16 * t + 1) (m := m) (l := os)
  have had : adopt false t (.tuple [ownC rcC 8 os, .int .i64 e]) m = (.tuple [v, .int .i64 e], m') := by
    show ((CV.tuple (adopts false (16 * t + 1) [ownC rcC 8 os, .int .i64 e] m).1), (adopts false (16 * t + 1) [ownC rcC 8 os, .int .i64 e] m).2) = _
    simp only [adopts, h1]; rfl
  rw [had]
  exact hK v m' h2 h3
theorem outs_at {marks : List Int} : ∀ {dn td : List Dr} {x : Dr} {i : Nat}, (outs marks i (dn ++ x :: td))[dn.length]? = some (outD marks (i + dn.length) x)
  | [], td, x, i => by simp [outs]
  | y :: dn, td, x, i => by
    simp only [List.cons_append, outs, List.length_cons, List.getElem?_cons_succ, outs_at (dn := dn)]
    rw [show i + 1 + dn.length = i + (dn.length + 1) by omega]
set_option maxHeartbeats 4000000 in
theorem x7 (l : List Dr) (marks : List Int) (hll : l.length ≤ 9223372036854775807) (hml : marks.length ≤ 9223372036854775807) : ∃ r, (∃ H', r = (CV.bool true, H')) ∧ FF 7 [sl drC l, sl intC marks] [] = some r := by
  by_cases hl : (1000 : Int) < l.length
  · refine Fw_funE rfl Tryz.func7 s7 (Nat.le_of_ble_eq_true rfl) (fun Q hqr hqn => ?_)
    rw [cin_t (show An.pure 7 = true from rfl) (by simp only [cans, can_int, can_bool, can_agg, can_str, drE.can_sl, intE.can_sl])]
    simp only [tinit, Nat.reduceAdd, c7]
    repeat' (first
    | with_reducible (first | refine Tx_assoc ?_ | refine Tx_nopK ?_ | refine Tx_yesK rfl ?_ | refine Tx_noK rfl ?_ | refine Tx_ifK rfl (fun _ => ?_) (fun _ => ?_) | refine Tx_yes rfl ?_ | refine Tx_no rfl ?_ | refine Tx_if rfl (fun _ => ?_) (fun _ => ?_) | refine Tx_retK ?_ | refine Tx_exitK ?_ | refine Tx_ret ?_ | refine Tx_exit ?_ | refine Tx_nop ?_ | refine Tx_blockK (id := 0) (fun Q0 hn0 hx0 hr0 ho0 => ?_) | refine Tx_blockE (id := 0) (fun Q0 hn0 hx0 hr0 ho0 => ?_) | refine hn0 _ ?_ | refine hx0 _ ?_ | refine hr0 _ ?_ | refine ho0 _ _ (by decide) ?_ | refine Tx_blockK (id := 1) (fun Q1 hn1 hx1 hr1 ho1 => ?_) | refine Tx_blockE (id := 1) (fun Q1 hn1 hx1 hr1 ho1 => ?_) | refine hn1 _ ?_ | refine hx1 _ ?_ | refine hr1 _ ?_ | refine ho1 _ _ (by decide) ?_ | refine hxL0 _ _ ?_ | refine hrL0 _ ?_)
    | (with_reducible (first | ((first | refine Tx_regK (fun K hK => ?_) | refine Tx_regE (fun K hK => ?_)); (first | refine t7r0 ?_ | refine t7r1 ?_ | refine t7r2 ?_ | refine t7r3 ?_ | refine t7r4 ?_ | refine t7r5 ?_ | refine t7r6 ?_ | refine t7r7 ?_ | refine t7r8 ?_ | refine t7r9 ?_ | refine t7r11 ?_ | refine t7r12 ?_ | refine t7r13 ?_ | refine t7r14 ?_ | refine t7r15 ?_ | refine t7r10 ?_ | refine t7r16 ?_)) | refine hqr _ ?_ | refine hqn _ ?_); (try simp only [true_implies, false_implies, not_true_eq_false, not_false_eq_true, tget_cons, if_true, if_false, Nat.reduceEqDiff, ccells, Obt_some, Kn_normal, newL_eq, newP_eq, newA_eq, newM_eq, newR_eq, newK_eq, nmA_f, nmR_f, gn_var, gn_arr, gn_map, gnext_setL, lget_setL, lget_lset, gnext_lset, setL_setL, setL_H, Nat.reduceMul, Nat.reduceAdd, Nat.zero_add, fldA_ptr, fldA_rptr, List.drop_zero, ld1_l, ld1_r, ldA_l, rd1_var, rd1_arr, List.getElem?_cons_zero, List.getElem?_cons_succ, Obt_lss, Obt_leq, Obt_gtr, Obt_geq, Obt_eql, Obt_neq, Obt_not, gdO_tt, gdO_tf, gdO_ff, gdO_ft, gdO_skip, Option.map_some, pickX_t, pickX_f, Obt_pickS, Obt_gdT, Obt_gdF, Bool.not_true, Bool.not_false, lenS, Obt_map, Obt_add, Obt_sub, Obt_mul, Obt_quo, Obt_rem, Obt_and, Obt_or, Obt_xor, Obt_andNot, Obt_shl, Obt_shr, Obt_neg, Obt_cpl, Obt_conv, Obt_ext, Obt_bind, Obt_ite', appX_l, appX_n, appR_arr, appN_some, content_l, conR_arr, content_nil, clen_n, clen_r, idxS_ref, fillX, bslX, escP_list, List.all_append, stX_l, stV_var, stV_arr, splice, List.take_zero, List.take_succ_cons, List.drop_succ_cons, List.drop_nil, List.nil_append, List.cons_append, List.append_nil, List.length_cons, List.length_nil, Nat.reduceLeDiff, and_self, and_true, true_and, Nat.le_refl, Nat.zero_le, rdA_var, rdA_arr, escP, List.all_cons, List.all_nil, Bool.and_self, Bool.true_and, Bool.and_true, offR_nil, offR_f, offR_n, offR_l, offK_r, offK_g, offK_l, keyL_nil, keyL_t, keyL_f, Obt_offS, decide_false, decide_true, Bool.false_or, Bool.true_or, Bool.or_false, Bool.or_true, Bool.false_eq_true, if_false, if_true, r7, tend, tresAll, tresC, Option.bind_some, mapMem, retv_agc, esc_i, esc_b, esc_n, esc_m, esc_s, retv_l, retR_arr, retv_gref, retv_gmap, retv_gptr, Nat.zero_sub, Nat.sub_self, retv_int, retv_bool, retv_nil, retv_imm, retv_inil, retv_pnil, tup_nil, tup_one, tup_two, Prod.mk.injEq, CV.int.injEq, CV.bool.injEq, clen_sl, hl, gt_iff_lt, k21]))
    | (revert hK; intro hK; (first | refine And.intro ?_ ?_ | (refine fun (h : (_ : Bool) = _) => ?_; subst h) | intro _ | omega | (with_reducible refine hK _ ?_; clear hK K))))
    all_goals exact ⟨_, rfl⟩
  have hl' : l.length ≤ 1000 := by omega
  have hsetL : ∀ (L : List (Nat × HO)) (H : List HO) i x, setL ⟨L, H⟩ i x = ⟨lset L i x, H⟩ := fun _ _ _ _ => rfl
  obtain ⟨os, e, hr, hos⟩ := rlx_cases l marks
  refine Fw_funE rfl Tryz.func7 s7 (Nat.le_of_ble_eq_true rfl) (fun Q hqr hqn => ?_)
  rw [cin_t (show An.pure 7 = true from rfl) (by simp only [cans, can_int, can_bool, can_agg, can_str, drE.can_sl, intE.can_sl])]
  simp only [tinit, Nat.reduceAdd, c7]
  repeat' (first
  | with_reducible (first | refine Tx_assoc ?_ | refine Tx_nopK ?_ | refine Tx_yesK rfl ?_ | refine Tx_noK rfl ?_ | refine Tx_ifK rfl (fun _ => ?_) (fun _ => ?_) | refine Tx_yes rfl ?_ | refine Tx_no rfl ?_ | refine Tx_if rfl (fun _ => ?_) (fun _ => ?_) | refine Tx_retK ?_ | refine Tx_exitK ?_ | refine Tx_ret ?_ | refine Tx_exit ?_ | refine Tx_nop ?_ | refine Tx_blockK (id := 0) (fun Q0 hn0 hx0 hr0 ho0 => ?_) | refine Tx_blockE (id := 0) (fun Q0 hn0 hx0 hr0 ho0 => ?_) | refine hn0 _ ?_ | refine hx0 _ ?_ | refine hr0 _ ?_ | refine ho0 _ _ (by decide) ?_ | refine Tx_blockK (id := 1) (fun Q1 hn1 hx1 hr1 ho1 => ?_) | refine Tx_blockE (id := 1) (fun Q1 hn1 hx1 hr1 ho1 => ?_) | refine hn1 _ ?_ | refine hx1 _ ?_ | refine hr1 _ ?_ | refine ho1 _ _ (by decide) ?_ | refine hxL0 _ _ ?_ | refine hrL0 _ ?_)
  | (with_reducible (first | ((first | refine Tx_regK (fun K hK => ?_) | refine Tx_regE (fun K hK => ?_)); (first | refine t7r0 ?_ | refine t7r1 ?_ | refine t7r2 ?_ | refine t7r3 ?_ | refine t7r4 ?_ | refine t7r5 ?_ | refine t7r6 ?_ | refine t7r7 ?_ | refine t7r8 ?_ | refine t7r9 ?_ | refine t7r11 ?_ | refine t7r12 ?_ | refine t7r13 ?_ | refine t7r14 ?_ | refine t7r15 ?_ | refine t7r10 ?_ | refine t7r16 ?_)) | refine hqr _ ?_ | refine hqn _ ?_); (try simp only [true_implies, false_implies, not_true_eq_false, not_false_eq_true, tget_cons, if_true, if_false, Nat.reduceEqDiff, ccells, Obt_some, Kn_normal, newL_eq, newP_eq, newA_eq, newM_eq, newR_eq, newK_eq, nmA_f, nmR_f, gn_var, gn_arr, gn_map, gnext_setL, lget_setL, lget_lset, gnext_lset, setL_setL, setL_H, Nat.reduceMul, Nat.reduceAdd, Nat.zero_add, fldA_ptr, fldA_rptr, List.drop_zero, ld1_l, ld1_r, ldA_l, rd1_var, rd1_arr, List.getElem?_cons_zero, List.getElem?_cons_succ, Obt_lss, Obt_leq, Obt_gtr, Obt_geq, Obt_eql, Obt_neq, Obt_not, gdO_tt, gdO_tf, gdO_ff, gdO_ft, gdO_skip, Option.map_some, pickX_t, pickX_f, Obt_pickS, Obt_gdT, Obt_gdF, Bool.not_true, Bool.not_false, lenS, Obt_map, Obt_add, Obt_sub, Obt_mul, Obt_quo, Obt_rem, Obt_and, Obt_or, Obt_xor, Obt_andNot, Obt_shl, Obt_shr, Obt_neg, Obt_cpl, Obt_conv, Obt_ext, Obt_bind, Obt_ite', appX_l, appX_n, appR_arr, appN_some, content_l, conR_arr, content_nil, clen_n, clen_r, idxS_ref, fillX, bslX, escP_list, List.all_append, stX_l, stV_var, stV_arr, splice, List.take_zero, List.take_succ_cons, List.drop_succ_cons, List.drop_nil, List.nil_append, List.cons_append, List.append_nil, List.length_cons, List.length_nil, Nat.reduceLeDiff, and_self, and_true, true_and, Nat.le_refl, Nat.zero_le, rdA_var, rdA_arr, escP, List.all_cons, List.all_nil, Bool.and_self, Bool.true_and, Bool.and_true, offR_nil, offR_f, offR_n, offR_l, offK_r, offK_g, offK_l, keyL_nil, keyL_t, keyL_f, Obt_offS, decide_false, decide_true, Bool.false_or, Bool.true_or, Bool.or_false, Bool.or_true, Bool.false_eq_true, if_false, if_true, r7, tend, tresAll, tresC, Option.bind_some, mapMem, retv_agc, esc_i, esc_b, esc_n, esc_m, esc_s, retv_l, retR_arr, retv_gref, retv_gmap, retv_gptr, Nat.zero_sub, Nat.sub_self, retv_int, retv_bool, retv_nil, retv_imm, retv_inil, retv_pnil, tup_nil, tup_one, tup_two, Prod.mk.injEq, CV.int.injEq, CV.bool.injEq, clen_sl, hl, gt_iff_lt]))
  | (revert hK; intro hK; (first | refine And.intro ?_ ?_ | (refine fun (h : (_ : Bool) = _) => ?_; subst h) | intro _ | omega | (with_reducible refine hK _ ?_; clear hK K))))
  refine k22 hl' hml hr rfl fun v m1 hO hH => ?_
  simp only [true_implies, false_implies, not_true_eq_false, not_false_eq_true, tget_cons, if_true, if_false, Nat.reduceEqDiff, ccells, Obt_some, Kn_normal, newL_eq, newP_eq, newA_eq, newM_eq, newR_eq, newK_eq, nmA_f, nmR_f, gn_var, gn_arr, gn_map, gnext_setL, lget_setL, lget_lset, gnext_lset, setL_setL, setL_H, Nat.reduceMul, Nat.reduceAdd, Nat.zero_add, fldA_ptr, fldA_rptr, List.drop_zero, ld1_l, ld1_r, ldA_l, rd1_var, rd1_arr, List.getElem?_cons_zero, List.getElem?_cons_succ, Obt_lss, Obt_leq, Obt_gtr, Obt_geq, Obt_eql, Obt_neq, Obt_not, gdO_tt, gdO_tf, gdO_ff, gdO_ft, gdO_skip, Option.map_some, pickX_t, pickX_f, Obt_pickS, Obt_gdT, Obt_gdF, Bool.not_true, Bool.not_false, lenS, Obt_map, Obt_add, Obt_sub, Obt_mul, Obt_quo, Obt_rem, Obt_and, Obt_or, Obt_xor, Obt_andNot, Obt_shl, Obt_shr, Obt_neg, Obt_cpl, Obt_conv, Obt_ext, Obt_bind, Obt_ite', appX_l, appX_n, appR_arr, appN_some, content_l, conR_arr, content_nil, clen_n, clen_r, idxS_ref, fillX, bslX, escP_list, List.all_append, stX_l, stV_var, stV_arr, splice, List.take_zero, List.take_succ_cons, List.drop_succ_cons, List.drop_nil, List.nil_append, List.cons_append, List.append_nil, List.length_cons, List.length_nil, Nat.reduceLeDiff, and_self, and_true, true_and, Nat.le_refl, Nat.zero_le, rdA_var, rdA_arr, escP, List.all_cons, List.all_nil, Bool.and_self, Bool.true_and, Bool.and_true, offR_nil, offR_f, offR_n, offR_l, offK_r, offK_g, offK_l, keyL_nil, keyL_t, keyL_f, Obt_offS, decide_false, decide_true, Bool.false_or, Bool.true_or, Bool.or_false, Bool.or_true, Bool.false_eq_true, if_false, if_true]
  refine hK _ ?_
  clear hK K
  rcases hos with ⟨hM, hos, rfl⟩ | ⟨rfl, he⟩
  · obtain ⟨L1, H1⟩ := m1
    simp only at hH
    subst hH
    have hol : os.length = l.length := by rw [hos, outs_len]
    repeat' (first
    | with_reducible (first | refine Tx_assoc ?_ | refine Tx_nopK ?_ | refine Tx_yesK rfl ?_ | refine Tx_noK rfl ?_ | refine Tx_ifK rfl (fun _ => ?_) (fun _ => ?_) | refine Tx_yes rfl ?_ | refine Tx_no rfl ?_ | refine Tx_if rfl (fun _ => ?_) (fun _ => ?_) | refine Tx_retK ?_ | refine Tx_exitK ?_ | refine Tx_ret ?_ | refine Tx_exit ?_ | refine Tx_nop ?_ | refine Tx_blockK (id := 0) (fun Q0 hn0 hx0 hr0 ho0 => ?_) | refine Tx_blockE (id := 0) (fun Q0 hn0 hx0 hr0 ho0 => ?_) | refine hn0 _ ?_ | refine hx0 _ ?_ | refine hr0 _ ?_ | refine ho0 _ _ (by decide) ?_ | refine Tx_blockK (id := 1) (fun Q1 hn1 hx1 hr1 ho1 => ?_) | refine Tx_blockE (id := 1) (fun Q1 hn1 hx1 hr1 ho1 => ?_) | refine hn1 _ ?_ | refine hx1 _ ?_ | refine hr1 _ ?_ | refine ho1 _ _ (by decide) ?_ | refine hxL0 _ _ ?_ | refine hrL0 _ ?_)
    | (with_reducible (first | ((first | refine Tx_regK (fun K hK => ?_) | refine Tx_regE (fun K hK => ?_)); (first | refine t7r0 ?_ | refine t7r1 ?_ | refine t7r2 ?_ | refine t7r3 ?_ | refine t7r4 ?_ | refine t7r5 ?_ | refine t7r6 ?_ | refine t7r7 ?_ | refine t7r8 ?_ | refine t7r9 ?_ | refine t7r11 ?_ | refine t7r12 ?_ | refine t7r13 ?_ | refine t7r14 ?_ | refine t7r15 ?_ | refine t7r10 ?_ | refine t7r16 ?_)) | refine hqr _ ?_ | refine hqn _ ?_); (try simp only [true_implies, false_implies, not_true_eq_false, not_false_eq_true, tget_cons, if_true, if_false, Nat.reduceEqDiff, ccells, Obt_some, Kn_normal, newL_eq, newP_eq, newA_eq, newM_eq, newR_eq, newK_eq, nmA_f, nmR_f, gn_var, gn_arr, gn_map, gnext_setL, lget_setL, lget_lset, gnext_lset, setL_setL, setL_H, Nat.reduceMul, Nat.reduceAdd, Nat.zero_add, fldA_ptr, fldA_rptr, List.drop_zero, ld1_l, ld1_r, ldA_l, rd1_var, rd1_arr, List.getElem?_cons_zero, List.getElem?_cons_succ, Obt_lss, Obt_leq, Obt_gtr, Obt_geq, Obt_eql, Obt_neq, Obt_not, gdO_tt, gdO_tf, gdO_ff, gdO_ft, gdO_skip, Option.map_some, pickX_t, pickX_f, Obt_pickS, Obt_gdT, Obt_gdF, Bool.not_true, Bool.not_false, lenS, Obt_map, Obt_add, Obt_sub, Obt_mul, Obt_quo, Obt_rem, Obt_and, Obt_or, Obt_xor, Obt_andNot, Obt_shl, Obt_shr, Obt_neg, Obt_cpl, Obt_conv, Obt_ext, Obt_bind, Obt_ite', appX_l, appX_n, appR_arr, appN_some, content_l, conR_arr, content_nil, clen_n, clen_r, idxS_ref, fillX, bslX, escP_list, List.all_append, stX_l, stV_var, stV_arr, splice, List.take_zero, List.take_succ_cons, List.drop_succ_cons, List.drop_nil, List.nil_append, List.cons_append, List.append_nil, List.length_cons, List.length_nil, Nat.reduceLeDiff, and_self, and_true, true_and, Nat.le_refl, Nat.zero_le, rdA_var, rdA_arr, escP, List.all_cons, List.all_nil, Bool.and_self, Bool.true_and, Bool.and_true, offR_nil, offR_f, offR_n, offR_l, offK_r, offK_g, offK_l, keyL_nil, keyL_t, keyL_f, Obt_offS, decide_false, decide_true, Bool.false_or, Bool.true_or, Bool.or_false, Bool.or_true, Bool.false_eq_true, if_false, if_true, r7, tend, tresAll, tresC, Option.bind_some, mapMem, retv_agc, esc_i, esc_b, esc_n, esc_m, esc_s, retv_l, retR_arr, retv_gref, retv_gmap, retv_gptr, Nat.zero_sub, Nat.sub_self, retv_int, retv_bool, retv_nil, retv_imm, retv_inil, retv_pnil, tup_nil, tup_one, tup_two, Prod.mk.injEq, CV.int.injEq, CV.bool.injEq, clen_sl, hO.len, hol]))
    | (revert hK; intro hK; (first | refine And.intro ?_ ?_ | (refine fun (h : (_ : Bool) = _) => ?_; subst h) | intro _ | omega | (with_reducible refine hK _ ?_; clear hK K))))
    refine Tx_loopK (fun k s => ∃ (dn td : List Dr) (L : List (Nat × HO)), l = dn ++ td ∧ k = td.length ∧ OwnE rcC 8 ⟨L, []⟩ 257 v os ∧
        s = ⟨[(0, sl drC l), (1, sl intC marks), (5, v), (7, .int .i64 dn.length)], ⟨L, []⟩⟩) _ ⟨[], l, L1, rfl, rfl, hO, rfl⟩ ?_
    rintro k s ⟨dn, td, L, h2, rfl, hO2, rfl⟩ QL0 hnL0 hxL0 hrL0
    have hlen := congrArg List.length h2
    simp only [List.length_append] at hlen
    simp only [c7l0]
    cases td with
    | nil =>
      simp only [List.length_nil] at hlen
      have hge : ¬ ((dn.length : Int) < l.length) := by omega
      repeat' (first
      | with_reducible (first | refine Tx_assoc ?_ | refine Tx_nopK ?_ | refine Tx_yesK rfl ?_ | refine Tx_noK rfl ?_ | refine Tx_ifK rfl (fun _ => ?_) (fun _ => ?_) | refine Tx_yes rfl ?_ | refine Tx_no rfl ?_ | refine Tx_if rfl (fun _ => ?_) (fun _ => ?_) | refine Tx_retK ?_ | refine Tx_exitK ?_ | refine Tx_ret ?_ | refine Tx_exit ?_ | refine Tx_nop ?_ | refine Tx_blockK (id := 0) (fun Q0 hn0 hx0 hr0 ho0 => ?_) | refine Tx_blockE (id := 0) (fun Q0 hn0 hx0 hr0 ho0 => ?_) | refine hn0 _ ?_ | refine hx0 _ ?_ | refine hr0 _ ?_ | refine ho0 _ _ (by decide) ?_ | refine Tx_blockK (id := 1) (fun Q1 hn1 hx1 hr1 ho1 => ?_) | refine Tx_blockE (id := 1) (fun Q1 hn1 hx1 hr1 ho1 => ?_) | refine hn1 _ ?_ | refine hx1 _ ?_ | refine hr1 _ ?_ | refine ho1 _ _ (by decide) ?_ | refine hxL0 _ _ ?_ | refine hrL0 _ ?_)
      | (with_reducible (first | ((first | refine Tx_regK (fun K hK => ?_) | refine Tx_regE (fun K hK => ?_)); (first | refine t7r0 ?_ | refine t7r1 ?_ | refine t7r2 ?_ | refine t7r3 ?_ | refine t7r4 ?_ | refine t7r5 ?_ | refine t7r6 ?_ | refine t7r7 ?_ | refine t7r8 ?_ | refine t7r9 ?_ | refine t7r11 ?_ | refine t7r12 ?_ | refine t7r13 ?_ | refine t7r14 ?_ | refine t7r15 ?_ | refine t7r10 ?_ | refine t7r16 ?_)) | refine hqr _ ?_ | refine hqn _ ?_); (try simp only [true_implies, false_implies, not_true_eq_false, not_false_eq_true, tget_cons, if_true, if_false, Nat.reduceEqDiff, ccells, Obt_some, Kn_normal, newL_eq, newP_eq, newA_eq, newM_eq, newR_eq, newK_eq, nmA_f, nmR_f, gn_var, gn_arr, gn_map, gnext_setL, lget_setL, lget_lset, gnext_lset, setL_setL, setL_H, Nat.reduceMul, Nat.reduceAdd, Nat.zero_add, fldA_ptr, fldA_rptr, List.drop_zero, ld1_l, ld1_r, ldA_l, rd1_var, rd1_arr, List.getElem?_cons_zero, List.getElem?_cons_succ, Obt_lss, Obt_leq, Obt_gtr, Obt_geq, Obt_eql, Obt_neq, Obt_not, gdO_tt, gdO_tf, gdO_ff, gdO_ft, gdO_skip, Option.map_some, pickX_t, pickX_f, Obt_pickS, Obt_gdT, Obt_gdF, Bool.not_true, Bool.not_false, lenS, Obt_map, Obt_add, Obt_sub, Obt_mul, Obt_quo, Obt_rem, Obt_and, Obt_or, Obt_xor, Obt_andNot, Obt_shl, Obt_shr, Obt_neg, Obt_cpl, Obt_conv, Obt_ext, Obt_bind, Obt_ite', appX_l, appX_n, appR_arr, appN_some, content_l, conR_arr, content_nil, clen_n, clen_r, idxS_ref, fillX, bslX, escP_list, List.all_append, stX_l, stV_var, stV_arr, splice, List.take_zero, List.take_succ_cons, List.drop_succ_cons, List.drop_nil, List.nil_append, List.cons_append, List.append_nil, List.length_cons, List.length_nil, Nat.reduceLeDiff, and_self, and_true, true_and, Nat.le_refl, Nat.zero_le, rdA_var, rdA_arr, escP, List.all_cons, List.all_nil, Bool.and_self, Bool.true_and, Bool.and_true, offR_nil, offR_f, offR_n, offR_l, offK_r, offK_g, offK_l, keyL_nil, keyL_t, keyL_f, Obt_offS, decide_false, decide_true, Bool.false_or, Bool.true_or, Bool.or_false, Bool.or_true, Bool.false_eq_true, if_false, if_true, r7, tend, tresAll, tresC, Option.bind_some, mapMem, retv_agc, esc_i, esc_b, esc_n, esc_m, esc_s, retv_l, retR_arr, retv_gref, retv_gmap, retv_gptr, Nat.zero_sub, Nat.sub_self, retv_int, retv_bool, retv_nil, retv_imm, retv_inil, retv_pnil, tup_nil, tup_one, tup_two, Prod.mk.injEq, CV.int.injEq, CV.bool.injEq, clen_sl, hge, k21]))
      | (revert hK; intro hK; (first | refine And.intro ?_ ?_ | (refine fun (h : (_ : Bool) = _) => ?_; subst h) | intro _ | omega | (with_reducible refine hK _ ?_; clear hK K))))
      all_goals exact ⟨_, rfl⟩
    | cons x td =>
      simp only [List.length_cons] at hlen
      have hlt : (dn.length : Int) < l.length := by omega
      have hw : IntKind.i64.wrap ((dn.length : Int) + 1) = dn.length + 1 := wI (by omega) (by omega)
      have hix := idxS_split (k := .i64) drE.len (by omega : 0 < 9) h2
      have hx : x ∈ l := by rw [h2]; simp
      have hd := hM.drs x hx
      have hget : os[dn.length]? = some (outD marks dn.length x) := by
        rw [hos, h2, outs_at, Nat.zero_add]
      obtain ⟨g, rfl, hL, hi'⟩ := hO2.get hget
      have hidx : idxS 8 (.ref (.l 257) g 0 os.length) (.int .i64 dn.length) = some (.ptr (.l 257) g (dn.length * 8)) := by
        rw [idxS_ref, if_pos ⟨by omega, by omega⟩]; simp
      obtain ⟨q1, q2⟩ := flat_at (e := rcC) (sz := 8) rcE.len hget
      have hld : rdA g (dn.length * 8) 8 (lget L 257) = some (.agg (rcC (outD marks dn.length x))) := by
        simp only [hL, rdA_arr]; rw [if_pos q2, q1]
      have hnext : ∀ L', OwnE rcC 8 ⟨L', []⟩ 257 (.ref (.l 257) g 0 os.length) os → QL0 .normal ⟨[(0, sl drC l), (1, sl intC marks), (5, .ref (.l 257) g 0 os.length), (7, .int .i64 ((dn.length : Int) + 1))], ⟨L', []⟩⟩ := fun L' hq => by
        have e : ((dn.length : Int) + 1) = ((dn ++ [x]).length : Int) := by simp
        rw [e]
        exact hnL0 td.length _ (by simp) ⟨dn ++ [x], td, L', by simp [h2], rfl, hq, rfl⟩
      by_cases g1 : 0 < x.mark
      · obtain ⟨m1, m2, m3⟩ := markAt_get hM hx g1
        have ho : outD marks dn.length x = { x.ins with imm := markAt marks x - dn.length - 1 } := by unfold outD; rw [if_neg (by omega)]
        rw [ho] at hld
        simp only [rcC] at hld
        have hw1 : IntKind.i64.wrap (x.mark - 1) = x.mark - 1 := wI (by omega) (by omega)
        have hixm := idxS_sl (k := .i64) intC_len (by omega : 0 < 1) (by omega : 0 ≤ x.mark - 1) m1
        have hw2 : IntKind.i64.wrap (markAt marks x - dn.length) = markAt marks x - dn.length := wI (by omega) (by omega)
        have hw3 : IntKind.i64.wrap (markAt marks x - dn.length - 1) = markAt marks x - dn.length - 1 := wI (by omega) (by omega)
        repeat' (first
        | with_reducible (first | refine Tx_assoc ?_ | refine Tx_nopK ?_ | refine Tx_yesK rfl ?_ | refine Tx_noK rfl ?_ | refine Tx_ifK rfl (fun _ => ?_) (fun _ => ?_) | refine Tx_yes rfl ?_ | refine Tx_no rfl ?_ | refine Tx_if rfl (fun _ => ?_) (fun _ => ?_) | refine Tx_retK ?_ | refine Tx_exitK ?_ | refine Tx_ret ?_ | refine Tx_exit ?_ | refine Tx_nop ?_ | refine Tx_blockK (id := 0) (fun Q0 hn0 hx0 hr0 ho0 => ?_) | refine Tx_blockE (id := 0) (fun Q0 hn0 hx0 hr0 ho0 => ?_) | refine hn0 _ ?_ | refine hx0 _ ?_ | refine hr0 _ ?_ | refine ho0 _ _ (by decide) ?_ | refine Tx_blockK (id := 1) (fun Q1 hn1 hx1 hr1 ho1 => ?_) | refine Tx_blockE (id := 1) (fun Q1 hn1 hx1 hr1 ho1 => ?_) | refine hn1 _ ?_ | refine hx1 _ ?_ | refine hr1 _ ?_ | refine ho1 _ _ (by decide) ?_ | refine hxL0 _ _ ?_ | refine hrL0 _ ?_)
        | (with_reducible (first | ((first | refine Tx_regK (fun K hK => ?_) | refine Tx_regE (fun K hK => ?_)); (first | refine t7r0 ?_ | refine t7r1 ?_ | refine t7r2 ?_ | refine t7r3 ?_ | refine t7r4 ?_ | refine t7r5 ?_ | refine t7r6 ?_ | refine t7r7 ?_ | refine t7r8 ?_ | refine t7r9 ?_ | refine t7r11 ?_ | refine t7r12 ?_ | refine t7r13 ?_ | refine t7r14 ?_ | refine t7r15 ?_ | refine t7r10 ?_ | refine t7r16 ?_)) | refine hqr _ ?_ | refine hqn _ ?_); (try simp only [true_implies, false_implies, not_true_eq_false, not_false_eq_true, tget_cons, if_true, if_false, Nat.reduceEqDiff, ccells, Obt_some, Kn_normal, newL_eq, newP_eq, newA_eq, newM_eq, newR_eq, newK_eq, nmA_f, nmR_f, gn_var, gn_arr, gn_map, gnext_setL, lget_setL, lget_lset, gnext_lset, setL_setL, setL_H, Nat.reduceMul, Nat.reduceAdd, Nat.zero_add, fldA_ptr, fldA_rptr, List.drop_zero, ld1_l, ld1_r, ldA_l, rd1_var, rd1_arr, List.getElem?_cons_zero, List.getElem?_cons_succ, Obt_lss, Obt_leq, Obt_gtr, Obt_geq, Obt_eql, Obt_neq, Obt_not, gdO_tt, gdO_tf, gdO_ff, gdO_ft, gdO_skip, Option.map_some, pickX_t, pickX_f, Obt_pickS, Obt_gdT, Obt_gdF, Bool.not_true, Bool.not_false, lenS, Obt_map, Obt_add, Obt_sub, Obt_mul, Obt_quo, Obt_rem, Obt_and, Obt_or, Obt_xor, Obt_andNot, Obt_shl, Obt_shr, Obt_neg, Obt_cpl, Obt_conv, Obt_ext, Obt_bind, Obt_ite', appX_l, appX_n, appR_arr, appN_some, content_l, conR_arr, content_nil, clen_n, clen_r, fillX, bslX, escP_list, List.all_append, stX_l, stV_var, stV_arr, splice, List.take_zero, List.take_succ_cons, List.drop_succ_cons, List.drop_nil, List.nil_append, List.cons_append, List.append_nil, List.length_cons, List.length_nil, Nat.reduceLeDiff, and_self, and_true, true_and, Nat.le_refl, Nat.zero_le, rdA_var, rdA_arr, escP, List.all_cons, List.all_nil, Bool.and_self, Bool.true_and, Bool.and_true, offR_nil, offR_f, offR_n, offR_l, offK_r, offK_g, offK_l, keyL_nil, keyL_t, keyL_f, Obt_offS, decide_false, decide_true, Bool.false_or, Bool.true_or, Bool.or_false, Bool.or_true, Bool.false_eq_true, if_false, if_true, r7, tend, tresAll, tresC, Option.bind_some, mapMem, retv_agc, esc_i, esc_b, esc_n, esc_m, esc_s, retv_l, retR_arr, retv_gref, retv_gmap, retv_gptr, Nat.zero_sub, Nat.sub_self, retv_int, retv_bool, retv_nil, retv_imm, retv_inil, retv_pnil, tup_nil, tup_one, tup_two, Prod.mk.injEq, CV.int.injEq, CV.bool.injEq, hlt, clen_sl, hix, drC, ldA_r8, hsetL, g1, gt_iff_lt, hw1, hixm, intC, hw2, hw3, hidx, hld, rc_ne0, hw]))
        | (revert hK; intro hK; (first | refine And.intro ?_ ?_ | (refine fun (h : (_ : Bool) = _) => ?_; subst h) | intro _ | omega | (with_reducible refine hK _ ?_; clear hK K))))
        all_goals exact hnext _ (hO2.keep (by simp [lget_lset]))
      · have ho : outD marks dn.length x = x.ins := by unfold outD; rw [if_pos (by omega)]
        rw [ho] at hld
        simp only [rcC] at hld
        repeat' (first
        | with_reducible (first | refine Tx_assoc ?_ | refine Tx_nopK ?_ | refine Tx_yesK rfl ?_ | refine Tx_noK rfl ?_ | refine Tx_ifK rfl (fun _ => ?_) (fun _ => ?_) | refine Tx_yes rfl ?_ | refine Tx_no rfl ?_ | refine Tx_if rfl (fun _ => ?_) (fun _ => ?_) | refine Tx_retK ?_ | refine Tx_exitK ?_ | refine Tx_ret ?_ | refine Tx_exit ?_ | refine Tx_nop ?_ | refine Tx_blockK (id := 0) (fun Q0 hn0 hx0 hr0 ho0 => ?_) | refine Tx_blockE (id := 0) (fun Q0 hn0 hx0 hr0 ho0 => ?_) | refine hn0 _ ?_ | refine hx0 _ ?_ | refine hr0 _ ?_ | refine ho0 _ _ (by decide) ?_ | refine Tx_blockK (id := 1) (fun Q1 hn1 hx1 hr1 ho1 => ?_) | refine Tx_blockE (id := 1) (fun Q1 hn1 hx1 hr1 ho1 => ?_) | refine hn1 _ ?_ | refine hx1 _ ?_ | refine hr1 _ ?_ | refine ho1 _ _ (by decide) ?_ | refine hxL0 _ _ ?_ | refine hrL0 _ ?_)
        | (with_reducible (first | ((first | refine Tx_regK (fun K hK => ?_) | refine Tx_regE (fun K hK => ?_)); (first | refine t7r0 ?_ | refine t7r1 ?_ | refine t7r2 ?_ | refine t7r3 ?_ | refine t7r4 ?_ | refine t7r5 ?_ | refine t7r6 ?_ | refine t7r7 ?_ | refine t7r8 ?_ | refine t7r9 ?_ | refine t7r11 ?_ | refine t7r12 ?_ | refine t7r13 ?_ | refine t7r14 ?_ | refine t7r15 ?_ | refine t7r10 ?_ | refine t7r16 ?_)) | refine hqr _ ?_ | refine hqn _ ?_); (try simp only [true_implies, false_implies, not_true_eq_false, not_false_eq_true, tget_cons, if_true, if_false, Nat.reduceEqDiff, ccells, Obt_some, Kn_normal, newL_eq, newP_eq, newA_eq, newM_eq, newR_eq, newK_eq, nmA_f, nmR_f, gn_var, gn_arr, gn_map, gnext_setL, lget_setL, lget_lset, gnext_lset, setL_setL, setL_H, Nat.reduceMul, Nat.reduceAdd, Nat.zero_add, fldA_ptr, fldA_rptr, List.drop_zero, ld1_l, ld1_r, ldA_l, rd1_var, rd1_arr, List.getElem?_cons_zero, List.getElem?_cons_succ, Obt_lss, Obt_leq, Obt_gtr, Obt_geq, Obt_eql, Obt_neq, Obt_not, gdO_tt, gdO_tf, gdO_ff, gdO_ft, gdO_skip, Option.map_some, pickX_t, pickX_f, Obt_pickS, Obt_gdT, Obt_gdF, Bool.not_true, Bool.not_false, lenS, Obt_map, Obt_add, Obt_sub, Obt_mul, Obt_quo, Obt_rem, Obt_and, Obt_or, Obt_xor, Obt_andNot, Obt_shl, Obt_shr, Obt_neg, Obt_cpl, Obt_conv, Obt_ext, Obt_bind, Obt_ite', appX_l, appX_n, appR_arr, appN_some, content_l, conR_arr, content_nil, clen_n, clen_r, fillX, bslX, escP_list, List.all_append, stX_l, stV_var, stV_arr, splice, List.take_zero, List.take_succ_cons, List.drop_succ_cons, List.drop_nil, List.nil_append, List.cons_append, List.append_nil, List.length_cons, List.length_nil, Nat.reduceLeDiff, and_self, and_true, true_and, Nat.le_refl, Nat.zero_le, rdA_var, rdA_arr, escP, List.all_cons, List.all_nil, Bool.and_self, Bool.true_and, Bool.and_true, offR_nil, offR_f, offR_n, offR_l, offK_r, offK_g, offK_l, keyL_nil, keyL_t, keyL_f, Obt_offS, decide_false, decide_true, Bool.false_or, Bool.true_or, Bool.or_false, Bool.or_true, Bool.false_eq_true, if_false, if_true, r7, tend, tresAll, tresC, Option.bind_some, mapMem, retv_agc, esc_i, esc_b, esc_n, esc_m, esc_s, retv_l, retR_arr, retv_gref, retv_gmap, retv_gptr, Nat.zero_sub, Nat.sub_self, retv_int, retv_bool, retv_nil, retv_imm, retv_inil, retv_pnil, tup_nil, tup_one, tup_two, Prod.mk.injEq, CV.int.injEq, CV.bool.injEq, hlt, clen_sl, hix, drC, ldA_r8, hsetL, g1, gt_iff_lt, hidx, hld, rc_ne0, hw]))
        | (revert hK; intro hK; (first | refine And.intro ?_ ?_ | (refine fun (h : (_ : Bool) = _) => ?_; subst h) | intro _ | omega | (with_reducible refine hK _ ?_; clear hK K))))
        all_goals exact hnext _ (hO2.keep (by simp [lget_lset]))
  · repeat' (first
    | with_reducible (first | refine Tx_assoc ?_ | refine Tx_nopK ?_ | refine Tx_yesK rfl ?_ | refine Tx_noK rfl ?_ | refine Tx_ifK rfl (fun _ => ?_) (fun _ => ?_) | refine Tx_yes rfl ?_ | refine Tx_no rfl ?_ | refine Tx_if rfl (fun _ => ?_) (fun _ => ?_) | refine Tx_retK ?_ | refine Tx_exitK ?_ | refine Tx_ret ?_ | refine Tx_exit ?_ | refine Tx_nop ?_ | refine Tx_blockK (id := 0) (fun Q0 hn0 hx0 hr0 ho0 => ?_) | refine Tx_blockE (id := 0) (fun Q0 hn0 hx0 hr0 ho0 => ?_) | refine hn0 _ ?_ | refine hx0 _ ?_ | refine hr0 _ ?_ | refine ho0 _ _ (by decide) ?_ | refine Tx_blockK (id := 1) (fun Q1 hn1 hx1 hr1 ho1 => ?_) | refine Tx_blockE (id := 1) (fun Q1 hn1 hx1 hr1 ho1 => ?_) | refine hn1 _ ?_ | refine hx1 _ ?_ | refine hr1 _ ?_ | refine ho1 _ _ (by decide) ?_ | refine hxL0 _ _ ?_ | refine hrL0 _ ?_)
    | (with_reducible (first | ((first | refine Tx_regK (fun K hK => ?_) | refine Tx_regE (fun K hK => ?_)); (first | refine t7r0 ?_ | refine t7r1 ?_ | refine t7r2 ?_ | refine t7r3 ?_ | refine t7r4 ?_ | refine t7r5 ?_ | refine t7r6 ?_ | refine t7r7 ?_ | refine t7r8 ?_ | refine t7r9 ?_ | refine t7r11 ?_ | refine t7r12 ?_ | refine t7r13 ?_ | refine t7r14 ?_ | refine t7r15 ?_ | refine t7r10 ?_ | refine t7r16 ?_)) | refine hqr _ ?_ | refine hqn _ ?_); (try simp only [true_implies, false_implies, not_true_eq_false, not_false_eq_true, tget_cons, if_true, if_false, Nat.reduceEqDiff, ccells, Obt_some, Kn_normal, newL_eq, newP_eq, newA_eq, newM_eq, newR_eq, newK_eq, nmA_f, nmR_f, gn_var, gn_arr, gn_map, gnext_setL, lget_setL, lget_lset, gnext_lset, setL_setL, setL_H, Nat.reduceMul, Nat.reduceAdd, Nat.zero_add, fldA_ptr, fldA_rptr, List.drop_zero, ld1_l, ld1_r, ldA_l, rd1_var, rd1_arr, List.getElem?_cons_zero, List.getElem?_cons_succ, Obt_lss, Obt_leq, Obt_gtr, Obt_geq, Obt_eql, Obt_neq, Obt_not, gdO_tt, gdO_tf, gdO_ff, gdO_ft, gdO_skip, Option.map_some, pickX_t, pickX_f, Obt_pickS, Obt_gdT, Obt_gdF, Bool.not_true, Bool.not_false, lenS, Obt_map, Obt_add, Obt_sub, Obt_mul, Obt_quo, Obt_rem, Obt_and, Obt_or, Obt_xor, Obt_andNot, Obt_shl, Obt_shr, Obt_neg, Obt_cpl, Obt_conv, Obt_ext, Obt_bind, Obt_ite', appX_l, appX_n, appR_arr, appN_some, content_l, conR_arr, content_nil, clen_n, clen_r, idxS_ref, fillX, bslX, escP_list, List.all_append, stX_l, stV_var, stV_arr, splice, List.take_zero, List.take_succ_cons, List.drop_succ_cons, List.drop_nil, List.nil_append, List.cons_append, List.append_nil, List.length_cons, List.length_nil, Nat.reduceLeDiff, and_self, and_true, true_and, Nat.le_refl, Nat.zero_le, rdA_var, rdA_arr, escP, List.all_cons, List.all_nil, Bool.and_self, Bool.true_and, Bool.and_true, offR_nil, offR_f, offR_n, offR_l, offK_r, offK_g, offK_l, keyL_nil, keyL_t, keyL_f, Obt_offS, decide_false, decide_true, Bool.false_or, Bool.true_or, Bool.or_false, Bool.or_true, Bool.false_eq_true, if_false, if_true, r7, tend, tresAll, tresC, Option.bind_some, mapMem, retv_agc, esc_i, esc_b, esc_n, esc_m, esc_s, retv_l, retR_arr, retv_gref, retv_gmap, retv_gptr, Nat.zero_sub, Nat.sub_self, retv_int, retv_bool, retv_nil, retv_imm, retv_inil, retv_pnil, tup_nil, tup_one, tup_two, Prod.mk.injEq, CV.int.injEq, CV.bool.injEq, he, hO.len, k21]))
    | (revert hK; intro hK; (first | refine And.intro ?_ ?_ | (refine fun (h : (_ : Bool) = _) => ?_; subst h) | intro _ | omega | (with_reducible refine hK _ ?_; clear hK K))))
    all_goals exact ⟨_, rfl⟩
end Go.Cm
