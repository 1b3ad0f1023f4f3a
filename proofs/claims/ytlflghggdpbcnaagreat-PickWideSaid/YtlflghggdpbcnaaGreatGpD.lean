import Derived.Test.YtlflghggdpbcnaaGreatGpC
import Derived.KernelRfl
import Derived.Test.YtlflghggdpbcnaaGreatCxM
import Derived.Test.YtlflghggdpbcnaaGreatGwC
import Derived.Test.YtlflghggdpbcnaaGreatCxH
set_option linter.unusedSimpArgs false
set_option linter.unusedVariables false
namespace Go.Cm
open Go.Proofs
theorem run55_zero : isZero run55 = true := by kernel_rfl
end Go.Cm

namespace Go.Cm
open Go.Proofs
theorem run29_false : isFalse25 run29 = true := by kernel_rfl
end Go.Cm

namespace Go.Cm
open Go.Proofs
theorem hx25_true : isTrue25 hx25 = true := by kernel_rfl
end Go.Cm

namespace Go.Cm
open Go.Proofs
theorem e55_sim {E : Oracle} (hE : Sim Tryz.prog E) : Sim Tryz.prog (tab 55 e55 E) := by
  refine sim_tab ?_ hE
  intro args H r H' h
  unfold e55 at h
  split at h
  · rename_i hc
    simp only [Bool.and_eq_true, List.isEmpty_iff] at hc
    obtain ⟨h1, h2⟩ := hc
    have h3 := beqs_eq _ _ h1
    subst h2 h3
    rw [← isZero_of run55_zero] at h
    exact ccall_sim EL_sim plainN mixed 40 _ _ _ _ _ h
  · cases h
theorem e29_sim {E : Oracle} (hE : Sim Tryz.prog E) : Sim Tryz.prog (tab 29 e29 E) := by
  refine sim_tab ?_ hE
  intro args H r H' h
  unfold e29 at h
  split at h
  · rename_i hc
    simp only [Bool.and_eq_true, List.isEmpty_iff] at hc
    obtain ⟨h1, h2⟩ := hc
    have h3 := beqs_eq _ _ h1
    subst h2 h3
    rw [← isF25_of run29_false] at h
    exact ccall_sim EL_sim plainN mixed 40 _ _ _ _ _ h
  · cases h
theorem E3_sim : Sim Tryz.prog E3 := e55_sim (e29_sim EL_sim)
theorem EE_sim : Sim Tryz.prog EE := by
  refine sim_tab ?_ EL_sim
  intro args H r H' h
  unfold only0 at h
  split at h
  · exact ccall_sim E3_sim plainN mixed 40 _ _ _ _ _ h
  · cases h
theorem Fw_E25 {P : Program} {A : Ann} {E : Oracle} {f : FuncId} {args : List CV} {H : List HO} {r : CV × List HO} (h : E f (cin (A.pure f) args) H = some r) : Fw P A E f args H = some r :=
  Fw_iff.2 ⟨1, by simp only [tcall, h]⟩
theorem only25 : EE 21 [] [] = only0 hx25 [] [] := by simp only [EE, tab, if_true]
theorem only0_nil25 (h : Option (CV × List HO)) : only0 h [] [] = h := rfl
theorem x21 : ∃ H', FF 21 [] [] = some (.bool true, H') := ⟨_, Fw_E25 ((only25.trans (only0_nil25 _)).trans (isT25_of hx25_true))⟩
theorem k21 {fid : FuncId} {d : Tmp} {m : Mem} : callC An FF fid (some d) 21 [] m = some (.bool true, m) := by
  obtain ⟨H', h⟩ := x21
  rw [callC_K h rfl rfl rfl rfl rfl, adopt_bool]
end Go.Cm

namespace Go.Cm
open Go.Proofs Go.Pk
theorem kWide {f : FuncId} {d : Int} {x : Nat} (hF : FF f [.int .i64 d, .int .u64 x] [] = some (ownC rcC 8 (wideL d x), [])) (hp : An.pure f = true) {fid : FuncId} {t : Tmp} {m : Mem} {K : CV × Mem → Prop} (hgl : (An.glob fid).contains t = false)
    (hK : ∀ v m', OwnE rcC 8 m' (16 * t) v (wideL d x) → m'.H = m.H → (∀ i, i ≠ 16 * t → lget m'.L i = lget m.L i) → K (v, m')) : Obt (callC An FF fid (some t) f [.int .i64 d, .int .u64 x] m) K :=
  callC_O hF hp rfl rfl rfl rcE.noG hgl hK
theorem kSame {l : List Rc} (hl : l.length ≤ 1000000) {m : Mem} {ja jb : Nat} {va vb : CV} (ha : OwnE rcC 8 m ja va l) (hb : OwnE rcC 8 m jb vb l) (hj : ja ≠ jb) {fid : FuncId} {t : Tmp} : callC An FF fid (some t) 23 [va, vb] m = some (.bool true, m) := by
  obtain ⟨m1, e1, _, e3, _⟩ := ha.seen.esc1 rcE.len
  obtain ⟨m2, e4, _, _, _⟩ := (hb.seen.keep (m' := m1) (e3 jb hj.symm)).esc1 rcE.len
  rw [callC_KE (x23 l hl) rfl (xs := [rowC rcC l, rowC rcC l]) (m1 := m2) (by simp only [escList, mapMem, e1, e4, Option.bind_some, Option.map_some]) (by simp only [cans, can_rowC rcE.can]) (by simp only [noGs, noG_rowC rcE.noG, Bool.and_self]) rfl]
  rfl
theorem u64_of {x : Int} (h : isU64 x) : ∃ y : Nat, x = y ∧ y < 2 ^ 64 := by
  have h1 := h.1
  have h2 := h.2
  exact ⟨x.toNat, by omega, by omega⟩
theorem u64_nat {n : Nat} (h : n < 2 ^ 64) : IntKind.u64.wrap (n : Int) = n := IntWalk.u64_in _ (by omega)
theorem part_shl {n j : Nat} (hj : j < 4) : IntKind.u64.wrap ((n : Int) * 2 ^ (min (16 * (j : Int)).toNat IntKind.u64.bits)) = ((n * 2 ^ (16 * j) % 2 ^ 64 : Nat) : Int) := by
  have h1 : min (16 * (j : Int)).toNat IntKind.u64.bits = 16 * j := by rw [bits_u64]; omega
  rw [h1, show IntKind.u64.wrap ((n : Int) * 2 ^ (16 * j)) = ((n : Int) * 2 ^ (16 * j)) % 18446744073709551616 by simp [IntKind.wrap, IntKind.bits, IntKind.signed]]
  simp only [Int.natCast_emod, Int.natCast_mul, Int.natCast_pow]
  rfl
set_option maxHeartbeats 2000000 in
theorem x8 (d : Int) (x : Nat) (hx : x < 2 ^ 64) : ∃ r, (∃ H', r = (CV.bool true, H')) ∧ FF 8 [.int .i64 d, .int .u64 x] [] = some r := by
  refine Fw_funE rfl Tryz.func8 s8 (Nat.le_of_ble_eq_true rfl) (fun Q hqr hqn => ?_)
  rw [cin_t (show An.pure 8 = true from rfl) (by simp only [cans, can_int, can_bool, can_agg, can_str])]
  simp only [tinit, Nat.reduceAdd, c8]
  repeat' (first
  | with_reducible (first | refine Tx_assoc ?_ | refine Tx_nopK ?_ | refine Tx_yesK rfl ?_ | refine Tx_noK rfl ?_ | refine Tx_ifK rfl (fun _ => ?_) (fun _ => ?_) | refine Tx_yes rfl ?_ | refine Tx_no rfl ?_ | refine Tx_if rfl (fun _ => ?_) (fun _ => ?_) | refine Tx_retK ?_ | refine Tx_exitK ?_ | refine Tx_ret ?_ | refine Tx_exit ?_ | refine Tx_nop ?_ | refine Tx_blockK (id := 0) (fun Q0 hn0 hx0 hr0 ho0 => ?_) | refine Tx_blockE (id := 0) (fun Q0 hn0 hx0 hr0 ho0 => ?_) | refine hn0 _ ?_ | refine hx0 _ ?_ | refine hr0 _ ?_ | refine ho0 _ _ (by decide) ?_ | refine Tx_blockK (id := 1) (fun Q1 hn1 hx1 hr1 ho1 => ?_) | refine Tx_blockE (id := 1) (fun Q1 hn1 hx1 hr1 ho1 => ?_) | refine hn1 _ ?_ | refine hx1 _ ?_ | refine hr1 _ ?_ | refine ho1 _ _ (by decide) ?_ | refine hxL0 _ _ ?_ | refine hrL0 _ ?_)
  | (with_reducible (first | ((first | refine Tx_regK (fun K hK => ?_) | refine Tx_regE (fun K hK => ?_)); (first | refine t8r0 ?_ | refine t8r1 ?_ | refine t8r2 ?_ | refine t8r3 ?_ | refine t8r4 ?_ | refine t8r5 ?_ | refine t8r6 ?_ | refine t8r8 ?_ | refine t8r9 ?_ | refine t8r10 ?_ | refine t8r11 ?_ | refine t8r12 ?_ | refine t8r7 ?_ | refine t8r13 ?_)) | refine hqr _ ?_ | refine hqn _ ?_); (try simp only [true_implies, false_implies, not_true_eq_false, not_false_eq_true, tget_cons, if_true, if_false, Nat.reduceEqDiff, ccells, Obt_some, Kn_normal, newL_eq, newP_eq, newA_eq, newM_eq, newR_eq, newK_eq, nmA_f, nmR_f, gn_var, gn_arr, gn_map, gnext_setL, lget_setL, lget_lset, gnext_lset, setL_setL, setL_H, Nat.reduceMul, Nat.reduceAdd, Nat.zero_add, fldA_ptr, fldA_rptr, List.drop_zero, ld1_l, ld1_r, ldA_l, rd1_var, rd1_arr, List.getElem?_cons_zero, List.getElem?_cons_succ, Obt_lss, Obt_leq, Obt_gtr, Obt_geq, Obt_eql, Obt_neq, Obt_not, gdO_tt, gdO_tf, gdO_ff, gdO_ft, gdO_skip, Option.map_some, pickX_t, pickX_f, Obt_pickS, Obt_gdT, Obt_gdF, Bool.not_true, Bool.not_false, lenS, Obt_map, Obt_add, Obt_sub, Obt_mul, Obt_quo, Obt_rem, Obt_and, Obt_or, Obt_xor, Obt_andNot, Obt_shl, Obt_shr, Obt_neg, Obt_cpl, Obt_conv, Obt_ext, Obt_bind, Obt_ite', appX_l, appX_n, appR_arr, appN_some, content_l, conR_arr, content_nil, clen_n, clen_r, idxS_ref, fillX, bslX, escP_list, List.all_append, stX_l, stV_var, stV_arr, splice, List.take_zero, List.take_succ_cons, List.drop_succ_cons, List.drop_nil, List.nil_append, List.cons_append, List.append_nil, List.length_cons, List.length_nil, Nat.reduceLeDiff, and_self, and_true, true_and, Nat.le_refl, Nat.zero_le, rdA_var, rdA_arr, escP, List.all_cons, List.all_nil, Bool.and_self, Bool.true_and, Bool.and_true, offR_nil, offR_f, offR_n, offR_l, offK_r, offK_g, offK_l, keyL_nil, keyL_t, keyL_f, Obt_offS, decide_false, decide_true, Bool.false_or, Bool.true_or, Bool.or_false, Bool.or_true, Bool.false_eq_true, if_false, if_true, r8, tend, tresAll, tresC, Option.bind_some, mapMem, retv_agc, esc_i, esc_b, esc_n, esc_m, esc_s, retv_l, retR_arr, retv_gref, retv_gmap, retv_gptr, Nat.zero_sub, Nat.sub_self, retv_int, retv_bool, retv_nil, retv_imm, retv_inil, retv_pnil, tup_nil, tup_one, tup_two, Prod.mk.injEq, CV.int.injEq, CV.bool.injEq]))
  | (revert hK; intro hK; (first | refine And.intro ?_ ?_ | (refine fun (h : (_ : Bool) = _) => ?_; subst h) | intro _ | omega | (with_reducible refine hK _ ?_; clear hK K))))
  refine kWide (x18 d x hx) rfl rfl fun va m1 hO1 hH1 _ => ?_
  refine hK _ ?_
  clear hK K
  repeat' (first
  | with_reducible (first | refine Tx_assoc ?_ | refine Tx_nopK ?_ | refine Tx_yesK rfl ?_ | refine Tx_noK rfl ?_ | refine Tx_ifK rfl (fun _ => ?_) (fun _ => ?_) | refine Tx_yes rfl ?_ | refine Tx_no rfl ?_ | refine Tx_if rfl (fun _ => ?_) (fun _ => ?_) | refine Tx_retK ?_ | refine Tx_exitK ?_ | refine Tx_ret ?_ | refine Tx_exit ?_ | refine Tx_nop ?_ | refine Tx_blockK (id := 0) (fun Q0 hn0 hx0 hr0 ho0 => ?_) | refine Tx_blockE (id := 0) (fun Q0 hn0 hx0 hr0 ho0 => ?_) | refine hn0 _ ?_ | refine hx0 _ ?_ | refine hr0 _ ?_ | refine ho0 _ _ (by decide) ?_ | refine Tx_blockK (id := 1) (fun Q1 hn1 hx1 hr1 ho1 => ?_) | refine Tx_blockE (id := 1) (fun Q1 hn1 hx1 hr1 ho1 => ?_) | refine hn1 _ ?_ | refine hx1 _ ?_ | refine hr1 _ ?_ | refine ho1 _ _ (by decide) ?_ | refine hxL0 _ _ ?_ | refine hrL0 _ ?_)
  | (with_reducible (first | ((first | refine Tx_regK (fun K hK => ?_) | refine Tx_regE (fun K hK => ?_)); (first | refine t8r0 ?_ | refine t8r1 ?_ | refine t8r2 ?_ | refine t8r3 ?_ | refine t8r4 ?_ | refine t8r5 ?_ | refine t8r6 ?_ | refine t8r8 ?_ | refine t8r9 ?_ | refine t8r10 ?_ | refine t8r11 ?_ | refine t8r12 ?_ | refine t8r7 ?_ | refine t8r13 ?_)) | refine hqr _ ?_ | refine hqn _ ?_); (try simp only [true_implies, false_implies, not_true_eq_false, not_false_eq_true, tget_cons, if_true, if_false, Nat.reduceEqDiff, ccells, Obt_some, Kn_normal, newL_eq, newP_eq, newA_eq, newM_eq, newR_eq, newK_eq, nmA_f, nmR_f, gn_var, gn_arr, gn_map, gnext_setL, lget_setL, lget_lset, gnext_lset, setL_setL, setL_H, Nat.reduceMul, Nat.reduceAdd, Nat.zero_add, fldA_ptr, fldA_rptr, List.drop_zero, ld1_l, ld1_r, ldA_l, rd1_var, rd1_arr, List.getElem?_cons_zero, List.getElem?_cons_succ, Obt_lss, Obt_leq, Obt_gtr, Obt_geq, Obt_eql, Obt_neq, Obt_not, gdO_tt, gdO_tf, gdO_ff, gdO_ft, gdO_skip, Option.map_some, pickX_t, pickX_f, Obt_pickS, Obt_gdT, Obt_gdF, Bool.not_true, Bool.not_false, lenS, Obt_map, Obt_add, Obt_sub, Obt_mul, Obt_quo, Obt_rem, Obt_and, Obt_or, Obt_xor, Obt_andNot, Obt_shl, Obt_shr, Obt_neg, Obt_cpl, Obt_conv, Obt_ext, Obt_bind, Obt_ite', appX_l, appX_n, appR_arr, appN_some, content_l, conR_arr, content_nil, clen_n, clen_r, idxS_ref, fillX, bslX, escP_list, List.all_append, stX_l, stV_var, stV_arr, splice, List.take_zero, List.take_succ_cons, List.drop_succ_cons, List.drop_nil, List.nil_append, List.cons_append, List.append_nil, List.length_cons, List.length_nil, Nat.reduceLeDiff, and_self, and_true, true_and, Nat.le_refl, Nat.zero_le, rdA_var, rdA_arr, escP, List.all_cons, List.all_nil, Bool.and_self, Bool.true_and, Bool.and_true, offR_nil, offR_f, offR_n, offR_l, offK_r, offK_g, offK_l, keyL_nil, keyL_t, keyL_f, Obt_offS, decide_false, decide_true, Bool.false_or, Bool.true_or, Bool.or_false, Bool.or_true, Bool.false_eq_true, if_false, if_true, r8, tend, tresAll, tresC, Option.bind_some, mapMem, retv_agc, esc_i, esc_b, esc_n, esc_m, esc_s, retv_l, retR_arr, retv_gref, retv_gmap, retv_gptr, Nat.zero_sub, Nat.sub_self, retv_int, retv_bool, retv_nil, retv_imm, retv_inil, retv_pnil, tup_nil, tup_one, tup_two, Prod.mk.injEq, CV.int.injEq, CV.bool.injEq]))
  | (revert hK; intro hK; (first | refine And.intro ?_ ?_ | (refine fun (h : (_ : Bool) = _) => ?_; subst h) | intro _ | omega | (with_reducible refine hK _ ?_; clear hK K))))
  refine kWide (x24 d x hx) rfl rfl fun vb m2 hO2 hH2 hf2 => ?_
  have hO1' := hO1.keep (m' := m2) (hf2 160 (by decide))
  have hlen : (wideL d x).length ≤ 4 := by
    unfold wideL; split
    · simp
    · exact wide4_len
  rw [kSame (by omega) hO1' hO2 (by decide), Obt_some]
  simp only [true_implies, false_implies, not_true_eq_false, not_false_eq_true, tget_cons, if_true, if_false, Nat.reduceEqDiff, ccells, Obt_some, Kn_normal, newL_eq, newP_eq, newA_eq, newM_eq, newR_eq, newK_eq, nmA_f, nmR_f, gn_var, gn_arr, gn_map, gnext_setL, lget_setL, lget_lset, gnext_lset, setL_setL, setL_H, Nat.reduceMul, Nat.reduceAdd, Nat.zero_add, fldA_ptr, fldA_rptr, List.drop_zero, ld1_l, ld1_r, ldA_l, rd1_var, rd1_arr, List.getElem?_cons_zero, List.getElem?_cons_succ, Obt_lss, Obt_leq, Obt_gtr, Obt_geq, Obt_eql, Obt_neq, Obt_not, gdO_tt, gdO_tf, gdO_ff, gdO_ft, gdO_skip, Option.map_some, pickX_t, pickX_f, Obt_pickS, Obt_gdT, Obt_gdF, Bool.not_true, Bool.not_false, lenS, Obt_map, Obt_add, Obt_sub, Obt_mul, Obt_quo, Obt_rem, Obt_and, Obt_or, Obt_xor, Obt_andNot, Obt_shl, Obt_shr, Obt_neg, Obt_cpl, Obt_conv, Obt_ext, Obt_bind, Obt_ite', appX_l, appX_n, appR_arr, appN_some, content_l, conR_arr, content_nil, clen_n, clen_r, idxS_ref, fillX, bslX, escP_list, List.all_append, stX_l, stV_var, stV_arr, splice, List.take_zero, List.take_succ_cons, List.drop_succ_cons, List.drop_nil, List.nil_append, List.cons_append, List.append_nil, List.length_cons, List.length_nil, Nat.reduceLeDiff, and_self, and_true, true_and, Nat.le_refl, Nat.zero_le, rdA_var, rdA_arr, escP, List.all_cons, List.all_nil, Bool.and_self, Bool.true_and, Bool.and_true, offR_nil, offR_f, offR_n, offR_l, offK_r, offK_g, offK_l, keyL_nil, keyL_t, keyL_f, Obt_offS, decide_false, decide_true, Bool.false_or, Bool.true_or, Bool.or_false, Bool.or_true, Bool.false_eq_true, if_false, if_true]
  refine hK _ ?_
  clear hK K
  repeat' (first
  | with_reducible (first | refine Tx_assoc ?_ | refine Tx_nopK ?_ | refine Tx_yesK rfl ?_ | refine Tx_noK rfl ?_ | refine Tx_ifK rfl (fun _ => ?_) (fun _ => ?_) | refine Tx_yes rfl ?_ | refine Tx_no rfl ?_ | refine Tx_if rfl (fun _ => ?_) (fun _ => ?_) | refine Tx_retK ?_ | refine Tx_exitK ?_ | refine Tx_ret ?_ | refine Tx_exit ?_ | refine Tx_nop ?_ | refine Tx_blockK (id := 0) (fun Q0 hn0 hx0 hr0 ho0 => ?_) | refine Tx_blockE (id := 0) (fun Q0 hn0 hx0 hr0 ho0 => ?_) | refine hn0 _ ?_ | refine hx0 _ ?_ | refine hr0 _ ?_ | refine ho0 _ _ (by decide) ?_ | refine Tx_blockK (id := 1) (fun Q1 hn1 hx1 hr1 ho1 => ?_) | refine Tx_blockE (id := 1) (fun Q1 hn1 hx1 hr1 ho1 => ?_) | refine hn1 _ ?_ | refine hx1 _ ?_ | refine hr1 _ ?_ | refine ho1 _ _ (by decide) ?_ | refine hxL0 _ _ ?_ | refine hrL0 _ ?_)
  | (with_reducible (first | ((first | refine Tx_regK (fun K hK => ?_) | refine Tx_regE (fun K hK => ?_)); (first | refine t8r0 ?_ | refine t8r1 ?_ | refine t8r2 ?_ | refine t8r3 ?_ | refine t8r4 ?_ | refine t8r5 ?_ | refine t8r6 ?_ | refine t8r8 ?_ | refine t8r9 ?_ | refine t8r10 ?_ | refine t8r11 ?_ | refine t8r12 ?_ | refine t8r7 ?_ | refine t8r13 ?_)) | refine hqr _ ?_ | refine hqn _ ?_); (try simp only [true_implies, false_implies, not_true_eq_false, not_false_eq_true, tget_cons, if_true, if_false, Nat.reduceEqDiff, ccells, Obt_some, Kn_normal, newL_eq, newP_eq, newA_eq, newM_eq, newR_eq, newK_eq, nmA_f, nmR_f, gn_var, gn_arr, gn_map, gnext_setL, lget_setL, lget_lset, gnext_lset, setL_setL, setL_H, Nat.reduceMul, Nat.reduceAdd, Nat.zero_add, fldA_ptr, fldA_rptr, List.drop_zero, ld1_l, ld1_r, ldA_l, rd1_var, rd1_arr, List.getElem?_cons_zero, List.getElem?_cons_succ, Obt_lss, Obt_leq, Obt_gtr, Obt_geq, Obt_eql, Obt_neq, Obt_not, gdO_tt, gdO_tf, gdO_ff, gdO_ft, gdO_skip, Option.map_some, pickX_t, pickX_f, Obt_pickS, Obt_gdT, Obt_gdF, Bool.not_true, Bool.not_false, lenS, Obt_map, Obt_add, Obt_sub, Obt_mul, Obt_quo, Obt_rem, Obt_and, Obt_or, Obt_xor, Obt_andNot, Obt_shl, Obt_shr, Obt_neg, Obt_cpl, Obt_conv, Obt_ext, Obt_bind, Obt_ite', appX_l, appX_n, appR_arr, appN_some, content_l, conR_arr, content_nil, clen_n, clen_r, idxS_ref, fillX, bslX, escP_list, List.all_append, stX_l, stV_var, stV_arr, splice, List.take_zero, List.take_succ_cons, List.drop_succ_cons, List.drop_nil, List.nil_append, List.cons_append, List.append_nil, List.length_cons, List.length_nil, Nat.reduceLeDiff, and_self, and_true, true_and, Nat.le_refl, Nat.zero_le, rdA_var, rdA_arr, escP, List.all_cons, List.all_nil, Bool.and_self, Bool.true_and, Bool.and_true, offR_nil, offR_f, offR_n, offR_l, offK_r, offK_g, offK_l, keyL_nil, keyL_t, keyL_f, Obt_offS, decide_false, decide_true, Bool.false_or, Bool.true_or, Bool.or_false, Bool.or_true, Bool.false_eq_true, if_false, if_true, r8, tend, tresAll, tresC, Option.bind_some, mapMem, retv_agc, esc_i, esc_b, esc_n, esc_m, esc_s, retv_l, retR_arr, retv_gref, retv_gmap, retv_gptr, Nat.zero_sub, Nat.sub_self, retv_int, retv_bool, retv_nil, retv_imm, retv_inil, retv_pnil, tup_nil, tup_one, tup_two, Prod.mk.injEq, CV.int.injEq, CV.bool.injEq]))
  | (revert hK; intro hK; (first | refine And.intro ?_ ?_ | (refine fun (h : (_ : Bool) = _) => ?_; subst h) | intro _ | omega | (with_reducible refine hK _ ?_; clear hK K))))
  obtain ⟨L2, H2⟩ := m2
  have hH : H2 = [] := by simp only at hH2; rw [hH2]; exact hH1
  subst hH
  have hfin : ((wideL d x).length : Int) = 0 ∨ (wideL d x).foldl fvl 0 = x := by
    unfold wideL; split
    · left; rfl
    · right; exact fold_wide4 hx
  refine Tx_loopK (fun k s => ∃ (dn t : List Rc), wideL d x = dn ++ t ∧ k = t.length ∧ s = ⟨[(0, .int .i64 d), (1, .int .u64 x), (5, va), (6, .int .u64 (dn.foldl fvl 0 : Nat)), (7, .int .i64 dn.length)], ⟨L2, []⟩⟩) _ ⟨[], wideL d x, rfl, rfl, rfl⟩ ?_
  rintro k s ⟨dn, t, h2, rfl, rfl⟩ QL0 hnL0 hxL0 hrL0
  have hlen2 := congrArg List.length h2
  simp only [List.length_append] at hlen2
  simp only [c8l0]
  cases t with
  | nil =>
    simp only [List.length_nil] at hlen2
    rw [List.append_nil] at h2
    rw [← h2]
    have hl4 : ((wideL d x).length : Int) ≤ 4 := by omega
    rcases hfin with h | h
    · repeat' (first
      | with_reducible (first | refine Tx_assoc ?_ | refine Tx_nopK ?_ | refine Tx_yesK rfl ?_ | refine Tx_noK rfl ?_ | refine Tx_ifK rfl (fun _ => ?_) (fun _ => ?_) | refine Tx_yes rfl ?_ | refine Tx_no rfl ?_ | refine Tx_if rfl (fun _ => ?_) (fun _ => ?_) | refine Tx_retK ?_ | refine Tx_exitK ?_ | refine Tx_ret ?_ | refine Tx_exit ?_ | refine Tx_nop ?_ | refine Tx_blockK (id := 0) (fun Q0 hn0 hx0 hr0 ho0 => ?_) | refine Tx_blockE (id := 0) (fun Q0 hn0 hx0 hr0 ho0 => ?_) | refine hn0 _ ?_ | refine hx0 _ ?_ | refine hr0 _ ?_ | refine ho0 _ _ (by decide) ?_ | refine Tx_blockK (id := 1) (fun Q1 hn1 hx1 hr1 ho1 => ?_) | refine Tx_blockE (id := 1) (fun Q1 hn1 hx1 hr1 ho1 => ?_) | refine hn1 _ ?_ | refine hx1 _ ?_ | refine hr1 _ ?_ | refine ho1 _ _ (by decide) ?_ | refine hxL0 _ _ ?_ | refine hrL0 _ ?_)
      | (with_reducible (first | ((first | refine Tx_regK (fun K hK => ?_) | refine Tx_regE (fun K hK => ?_)); (first | refine t8r0 ?_ | refine t8r1 ?_ | refine t8r2 ?_ | refine t8r3 ?_ | refine t8r4 ?_ | refine t8r5 ?_ | refine t8r6 ?_ | refine t8r8 ?_ | refine t8r9 ?_ | refine t8r10 ?_ | refine t8r11 ?_ | refine t8r12 ?_ | refine t8r7 ?_ | refine t8r13 ?_)) | refine hqr _ ?_ | refine hqn _ ?_); (try simp only [true_implies, false_implies, not_true_eq_false, not_false_eq_true, tget_cons, if_true, if_false, Nat.reduceEqDiff, ccells, Obt_some, Kn_normal, newL_eq, newP_eq, newA_eq, newM_eq, newR_eq, newK_eq, nmA_f, nmR_f, gn_var, gn_arr, gn_map, gnext_setL, lget_setL, lget_lset, gnext_lset, setL_setL, setL_H, Nat.reduceMul, Nat.reduceAdd, Nat.zero_add, fldA_ptr, fldA_rptr, List.drop_zero, ld1_l, ld1_r, ldA_l, rd1_var, rd1_arr, List.getElem?_cons_zero, List.getElem?_cons_succ, Obt_lss, Obt_leq, Obt_gtr, Obt_geq, Obt_eql, Obt_neq, Obt_not, gdO_tt, gdO_tf, gdO_ff, gdO_ft, gdO_skip, Option.map_some, pickX_t, pickX_f, Obt_pickS, Obt_gdT, Obt_gdF, Bool.not_true, Bool.not_false, lenS, Obt_map, Obt_add, Obt_sub, Obt_mul, Obt_quo, Obt_rem, Obt_and, Obt_or, Obt_xor, Obt_andNot, Obt_shl, Obt_shr, Obt_neg, Obt_cpl, Obt_conv, Obt_ext, Obt_bind, Obt_ite', appX_l, appX_n, appR_arr, appN_some, content_l, conR_arr, content_nil, clen_n, clen_r, idxS_ref, fillX, bslX, escP_list, List.all_append, stX_l, stV_var, stV_arr, splice, List.take_zero, List.take_succ_cons, List.drop_succ_cons, List.drop_nil, List.nil_append, List.cons_append, List.append_nil, List.length_cons, List.length_nil, Nat.reduceLeDiff, and_self, and_true, true_and, Nat.le_refl, Nat.zero_le, rdA_var, rdA_arr, escP, List.all_cons, List.all_nil, Bool.and_self, Bool.true_and, Bool.and_true, offR_nil, offR_f, offR_n, offR_l, offK_r, offK_g, offK_l, keyL_nil, keyL_t, keyL_f, Obt_offS, decide_false, decide_true, Bool.false_or, Bool.true_or, Bool.or_false, Bool.or_true, Bool.false_eq_true, if_false, if_true, r8, tend, tresAll, tresC, Option.bind_some, mapMem, retv_agc, esc_i, esc_b, esc_n, esc_m, esc_s, retv_l, retR_arr, retv_gref, retv_gmap, retv_gptr, Nat.zero_sub, Nat.sub_self, retv_int, retv_bool, retv_nil, retv_imm, retv_inil, retv_pnil, tup_nil, tup_one, tup_two, Prod.mk.injEq, CV.int.injEq, CV.bool.injEq, hO1'.len, h, k21]))
      | (revert hK; intro hK; (first | refine And.intro ?_ ?_ | (refine fun (h : (_ : Bool) = _) => ?_; subst h) | intro _ | omega | (with_reducible refine hK _ ?_; clear hK K))))
      exact ⟨_, rfl⟩
    · rw [h]
      by_cases h0 : ((wideL d x).length : Int) = 0
      · repeat' (first
        | with_reducible (first | refine Tx_assoc ?_ | refine Tx_nopK ?_ | refine Tx_yesK rfl ?_ | refine Tx_noK rfl ?_ | refine Tx_ifK rfl (fun _ => ?_) (fun _ => ?_) | refine Tx_yes rfl ?_ | refine Tx_no rfl ?_ | refine Tx_if rfl (fun _ => ?_) (fun _ => ?_) | refine Tx_retK ?_ | refine Tx_exitK ?_ | refine Tx_ret ?_ | refine Tx_exit ?_ | refine Tx_nop ?_ | refine Tx_blockK (id := 0) (fun Q0 hn0 hx0 hr0 ho0 => ?_) | refine Tx_blockE (id := 0) (fun Q0 hn0 hx0 hr0 ho0 => ?_) | refine hn0 _ ?_ | refine hx0 _ ?_ | refine hr0 _ ?_ | refine ho0 _ _ (by decide) ?_ | refine Tx_blockK (id := 1) (fun Q1 hn1 hx1 hr1 ho1 => ?_) | refine Tx_blockE (id := 1) (fun Q1 hn1 hx1 hr1 ho1 => ?_) | refine hn1 _ ?_ | refine hx1 _ ?_ | refine hr1 _ ?_ | refine ho1 _ _ (by decide) ?_ | refine hxL0 _ _ ?_ | refine hrL0 _ ?_)
        | (with_reducible (first | ((first | refine Tx_regK (fun K hK => ?_) | refine Tx_regE (fun K hK => ?_)); (first | refine t8r0 ?_ | refine t8r1 ?_ | refine t8r2 ?_ | refine t8r3 ?_ | refine t8r4 ?_ | refine t8r5 ?_ | refine t8r6 ?_ | refine t8r8 ?_ | refine t8r9 ?_ | refine t8r10 ?_ | refine t8r11 ?_ | refine t8r12 ?_ | refine t8r7 ?_ | refine t8r13 ?_)) | refine hqr _ ?_ | refine hqn _ ?_); (try simp only [true_implies, false_implies, not_true_eq_false, not_false_eq_true, tget_cons, if_true, if_false, Nat.reduceEqDiff, ccells, Obt_some, Kn_normal, newL_eq, newP_eq, newA_eq, newM_eq, newR_eq, newK_eq, nmA_f, nmR_f, gn_var, gn_arr, gn_map, gnext_setL, lget_setL, lget_lset, gnext_lset, setL_setL, setL_H, Nat.reduceMul, Nat.reduceAdd, Nat.zero_add, fldA_ptr, fldA_rptr, List.drop_zero, ld1_l, ld1_r, ldA_l, rd1_var, rd1_arr, List.getElem?_cons_zero, List.getElem?_cons_succ, Obt_lss, Obt_leq, Obt_gtr, Obt_geq, Obt_eql, Obt_neq, Obt_not, gdO_tt, gdO_tf, gdO_ff, gdO_ft, gdO_skip, Option.map_some, pickX_t, pickX_f, Obt_pickS, Obt_gdT, Obt_gdF, Bool.not_true, Bool.not_false, lenS, Obt_map, Obt_add, Obt_sub, Obt_mul, Obt_quo, Obt_rem, Obt_and, Obt_or, Obt_xor, Obt_andNot, Obt_shl, Obt_shr, Obt_neg, Obt_cpl, Obt_conv, Obt_ext, Obt_bind, Obt_ite', appX_l, appX_n, appR_arr, appN_some, content_l, conR_arr, content_nil, clen_n, clen_r, idxS_ref, fillX, bslX, escP_list, List.all_append, stX_l, stV_var, stV_arr, splice, List.take_zero, List.take_succ_cons, List.drop_succ_cons, List.drop_nil, List.nil_append, List.cons_append, List.append_nil, List.length_cons, List.length_nil, Nat.reduceLeDiff, and_self, and_true, true_and, Nat.le_refl, Nat.zero_le, rdA_var, rdA_arr, escP, List.all_cons, List.all_nil, Bool.and_self, Bool.true_and, Bool.and_true, offR_nil, offR_f, offR_n, offR_l, offK_r, offK_g, offK_l, keyL_nil, keyL_t, keyL_f, Obt_offS, decide_false, decide_true, Bool.false_or, Bool.true_or, Bool.or_false, Bool.or_true, Bool.false_eq_true, if_false, if_true, r8, tend, tresAll, tresC, Option.bind_some, mapMem, retv_agc, esc_i, esc_b, esc_n, esc_m, esc_s, retv_l, retR_arr, retv_gref, retv_gmap, retv_gptr, Nat.zero_sub, Nat.sub_self, retv_int, retv_bool, retv_nil, retv_imm, retv_inil, retv_pnil, tup_nil, tup_one, tup_two, Prod.mk.injEq, CV.int.injEq, CV.bool.injEq, hO1'.len, h0, k21]))
        | (revert hK; intro hK; (first | refine And.intro ?_ ?_ | (refine fun (h : (_ : Bool) = _) => ?_; subst h) | intro _ | omega | (with_reducible refine hK _ ?_; clear hK K))))
        exact ⟨_, rfl⟩
      · repeat' (first
        | with_reducible (first | refine Tx_assoc ?_ | refine Tx_nopK ?_ | refine Tx_yesK rfl ?_ | refine Tx_noK rfl ?_ | refine Tx_ifK rfl (fun _ => ?_) (fun _ => ?_) | refine Tx_yes rfl ?_ | refine Tx_no rfl ?_ | refine Tx_if rfl (fun _ => ?_) (fun _ => ?_) | refine Tx_retK ?_ | refine Tx_exitK ?_ | refine Tx_ret ?_ | refine Tx_exit ?_ | refine Tx_nop ?_ | refine Tx_blockK (id := 0) (fun Q0 hn0 hx0 hr0 ho0 => ?_) | refine Tx_blockE (id := 0) (fun Q0 hn0 hx0 hr0 ho0 => ?_) | refine hn0 _ ?_ | refine hx0 _ ?_ | refine hr0 _ ?_ | refine ho0 _ _ (by decide) ?_ | refine Tx_blockK (id := 1) (fun Q1 hn1 hx1 hr1 ho1 => ?_) | refine Tx_blockE (id := 1) (fun Q1 hn1 hx1 hr1 ho1 => ?_) | refine hn1 _ ?_ | refine hx1 _ ?_ | refine hr1 _ ?_ | refine ho1 _ _ (by decide) ?_ | refine hxL0 _ _ ?_ | refine hrL0 _ ?_)
        | (with_reducible (first | ((first | refine Tx_regK (fun K hK => ?_) | refine Tx_regE (fun K hK => ?_)); (first | refine t8r0 ?_ | refine t8r1 ?_ | refine t8r2 ?_ | refine t8r3 ?_ | refine t8r4 ?_ | refine t8r5 ?_ | refine t8r6 ?_ | refine t8r8 ?_ | refine t8r9 ?_ | refine t8r10 ?_ | refine t8r11 ?_ | refine t8r12 ?_ | refine t8r7 ?_ | refine t8r13 ?_)) | refine hqr _ ?_ | refine hqn _ ?_); (try simp only [true_implies, false_implies, not_true_eq_false, not_false_eq_true, tget_cons, if_true, if_false, Nat.reduceEqDiff, ccells, Obt_some, Kn_normal, newL_eq, newP_eq, newA_eq, newM_eq, newR_eq, newK_eq, nmA_f, nmR_f, gn_var, gn_arr, gn_map, gnext_setL, lget_setL, lget_lset, gnext_lset, setL_setL, setL_H, Nat.reduceMul, Nat.reduceAdd, Nat.zero_add, fldA_ptr, fldA_rptr, List.drop_zero, ld1_l, ld1_r, ldA_l, rd1_var, rd1_arr, List.getElem?_cons_zero, List.getElem?_cons_succ, Obt_lss, Obt_leq, Obt_gtr, Obt_geq, Obt_eql, Obt_neq, Obt_not, gdO_tt, gdO_tf, gdO_ff, gdO_ft, gdO_skip, Option.map_some, pickX_t, pickX_f, Obt_pickS, Obt_gdT, Obt_gdF, Bool.not_true, Bool.not_false, lenS, Obt_map, Obt_add, Obt_sub, Obt_mul, Obt_quo, Obt_rem, Obt_and, Obt_or, Obt_xor, Obt_andNot, Obt_shl, Obt_shr, Obt_neg, Obt_cpl, Obt_conv, Obt_ext, Obt_bind, Obt_ite', appX_l, appX_n, appR_arr, appN_some, content_l, conR_arr, content_nil, clen_n, clen_r, idxS_ref, fillX, bslX, escP_list, List.all_append, stX_l, stV_var, stV_arr, splice, List.take_zero, List.take_succ_cons, List.drop_succ_cons, List.drop_nil, List.nil_append, List.cons_append, List.append_nil, List.length_cons, List.length_nil, Nat.reduceLeDiff, and_self, and_true, true_and, Nat.le_refl, Nat.zero_le, rdA_var, rdA_arr, escP, List.all_cons, List.all_nil, Bool.and_self, Bool.true_and, Bool.and_true, offR_nil, offR_f, offR_n, offR_l, offK_r, offK_g, offK_l, keyL_nil, keyL_t, keyL_f, Obt_offS, decide_false, decide_true, Bool.false_or, Bool.true_or, Bool.or_false, Bool.or_true, Bool.false_eq_true, if_false, if_true, r8, tend, tresAll, tresC, Option.bind_some, mapMem, retv_agc, esc_i, esc_b, esc_n, esc_m, esc_s, retv_l, retR_arr, retv_gref, retv_gmap, retv_gptr, Nat.zero_sub, Nat.sub_self, retv_int, retv_bool, retv_nil, retv_imm, retv_inil, retv_pnil, tup_nil, tup_one, tup_two, Prod.mk.injEq, CV.int.injEq, CV.bool.injEq, hO1'.len, h0, hl4, k21]))
        | (revert hK; intro hK; (first | refine And.intro ?_ ?_ | (refine fun (h : (_ : Bool) = _) => ?_; subst h) | intro _ | omega | (with_reducible refine hK _ ?_; clear hK K))))
        exact ⟨_, rfl⟩
  | cons r t =>
    simp only [List.length_cons] at hlen2
    have hd : 0 ≤ d ∧ d ≤ 31 := by
      by_cases h : d < 0 ∨ 32 ≤ d
      · have : wideL d x = [] := by unfold wideL; rw [if_pos h]
        rw [this] at hlen2; simp at hlen2
      · omega
    have hmem : r ∈ wide4 d x := by
      have : wideL d x = wide4 d x := by unfold wideL; rw [if_neg (by omega)]
      rw [← this, h2]; simp
    obtain ⟨op, j, n, rfl, ho, hj, hn⟩ := wide4_mem hmem
    have hw : IntKind.i64.wrap ((dn.length : Int) + 1) = dn.length + 1 := wI (by omega) (by omega)
    have hlt : (dn.length : Int) < (wideL d x).length := by omega
    have hget : (wideL d x)[dn.length]? = some (mk op d j n) := by rw [h2]; simp
    obtain ⟨g, rfl, hL, hi⟩ := hO1'.get hget
    have hidx : idxS 8 (.ref (.l 160) g 0 (wideL d x).length) (.int .i64 dn.length) = some (.ptr (.l 160) g (dn.length * 8)) := by
      rw [idxS_ref, if_pos ⟨by omega, by omega⟩]; simp
    obtain ⟨q1, q2⟩ := flat_at (e := rcC) (sz := 8) rcE.len hget
    have hld : ldA 8 ⟨L2, []⟩ (.ptr (.l 160) g (dn.length * 8)) = some (.agg (rcC (mk op d j n))) := by
      rw [ldA_l]; simp only [hL, rdA_arr]; rw [if_pos q2, q1]
    have hcell : ∀ off c, off < 8 → (rcC (mk op d j n))[off]? = some c → rd1 g (dn.length * 8 + off) (lget L2 160) = some c := fun off c ho hc => by
      have h := flat_get (e := rcC) (sz := 8) (off := off) rcE.len hget ho
      simp only [hL, rd1_arr]
      rw [h]; exact hc
    have hc0 := hcell 0 (.int .i64 op) (by decide) rfl
    have hc1 := hcell 1 (.int .i64 d) (by decide) rfl
    have hc6 := hcell 6 (.int .i64 j) (by decide) rfl
    have hc7 := hcell 7 (.int .i64 n) (by decide) rfl
    have hw16 : IntKind.i64.wrap (16 * (j : Int)) = 16 * j := wI (by omega) (by omega)
    have hu16 : IntKind.u64.wrap (16 * (j : Int)) = 16 * j := IntWalk.u64_in _ (by omega)
    have hun : IntKind.u64.wrap (n : Int) = n := u64_nat (by omega)
    have hnn : ¬ (16 * (j : Int) < 0) := by omega
    have hvl := foldl_fvl_lt dn (v := 0) (by decide)
    have hml : n * 2 ^ (16 * j) % 2 ^ 64 < 2 ^ 64 := Nat.mod_lt _ (by decide)
    have hor : ∀ v : Nat, v < 2 ^ 64 → bitop .or .u64 (v : Int) ((n * 2 ^ (16 * j) % 2 ^ 64 : Nat) : Int) = ((v ||| n * 2 ^ (16 * j) % 2 ^ 64 : Nat) : Int) := fun v hv => bit_or rfl hv hml
    have hnext : ∀ w : Nat, w = fvl (dn.foldl fvl 0) (mk op d j n) → QL0 .normal ⟨[(0, .int .i64 d), (1, .int .u64 x), (5, .ref (.l 160) g 0 (wideL d x).length), (6, .int .u64 w), (7, .int .i64 ((dn.length : Int) + 1))], ⟨L2, []⟩⟩ := fun w hw => by
      refine hnL0 t.length _ (by simp) ⟨dn ++ [mk op d j n], t, by simp [h2], rfl, ?_⟩
      rw [List.foldl_append, hw]
      simp
    have hk := fun (t : Tmp) (m : Mem) => k25_mk (fid := 8) (t := t) (m := m) (j := j) ho hj hn hd
    rcases ho with rfl | rfl
    · have hor2 : bitop .or .u64 (0 : Int) ((n * 2 ^ (16 * j) % 2 ^ 64 : Nat) : Int) = _ := hor 0 (by decide)
      repeat' (first
      | with_reducible (first | refine Tx_assoc ?_ | refine Tx_nopK ?_ | refine Tx_yesK rfl ?_ | refine Tx_noK rfl ?_ | refine Tx_ifK rfl (fun _ => ?_) (fun _ => ?_) | refine Tx_yes rfl ?_ | refine Tx_no rfl ?_ | refine Tx_if rfl (fun _ => ?_) (fun _ => ?_) | refine Tx_retK ?_ | refine Tx_exitK ?_ | refine Tx_ret ?_ | refine Tx_exit ?_ | refine Tx_nop ?_ | refine Tx_blockK (id := 0) (fun Q0 hn0 hx0 hr0 ho0 => ?_) | refine Tx_blockE (id := 0) (fun Q0 hn0 hx0 hr0 ho0 => ?_) | refine hn0 _ ?_ | refine hx0 _ ?_ | refine hr0 _ ?_ | refine ho0 _ _ (by decide) ?_ | refine Tx_blockK (id := 1) (fun Q1 hn1 hx1 hr1 ho1 => ?_) | refine Tx_blockE (id := 1) (fun Q1 hn1 hx1 hr1 ho1 => ?_) | refine hn1 _ ?_ | refine hx1 _ ?_ | refine hr1 _ ?_ | refine ho1 _ _ (by decide) ?_ | refine hxL0 _ _ ?_ | refine hrL0 _ ?_)
      | (with_reducible (first | ((first | refine Tx_regK (fun K hK => ?_) | refine Tx_regE (fun K hK => ?_)); (first | refine t8r0 ?_ | refine t8r1 ?_ | refine t8r2 ?_ | refine t8r3 ?_ | refine t8r4 ?_ | refine t8r5 ?_ | refine t8r6 ?_ | refine t8r8 ?_ | refine t8r9 ?_ | refine t8r10 ?_ | refine t8r11 ?_ | refine t8r12 ?_ | refine t8r7 ?_ | refine t8r13 ?_)) | refine hqr _ ?_ | refine hqn _ ?_); (try simp only [true_implies, false_implies, not_true_eq_false, not_false_eq_true, tget_cons, if_true, if_false, Nat.reduceEqDiff, ccells, Obt_some, Kn_normal, newL_eq, newP_eq, newA_eq, newM_eq, newR_eq, newK_eq, nmA_f, nmR_f, gn_var, gn_arr, gn_map, gnext_setL, lget_setL, lget_lset, gnext_lset, setL_setL, setL_H, Nat.reduceMul, Nat.reduceAdd, Nat.zero_add, fldA_ptr, fldA_rptr, List.drop_zero, ld1_l, ld1_r, ldA_l, rd1_var, rd1_arr, List.getElem?_cons_zero, List.getElem?_cons_succ, Obt_lss, Obt_leq, Obt_gtr, Obt_geq, Obt_eql, Obt_neq, Obt_not, gdO_tt, gdO_tf, gdO_ff, gdO_ft, gdO_skip, Option.map_some, pickX_t, pickX_f, Obt_pickS, Obt_gdT, Obt_gdF, Bool.not_true, Bool.not_false, lenS, Obt_map, Obt_add, Obt_sub, Obt_mul, Obt_quo, Obt_rem, Obt_and, Obt_or, Obt_xor, Obt_andNot, Obt_shl, Obt_shr, Obt_neg, Obt_cpl, Obt_conv, Obt_ext, Obt_bind, Obt_ite', appX_l, appX_n, appR_arr, appN_some, content_l, conR_arr, content_nil, clen_n, clen_r, idxS_ref, fillX, bslX, escP_list, List.all_append, stX_l, stV_var, stV_arr, splice, List.take_zero, List.take_succ_cons, List.drop_succ_cons, List.drop_nil, List.nil_append, List.cons_append, List.append_nil, List.length_cons, List.length_nil, Nat.reduceLeDiff, and_self, and_true, true_and, Nat.le_refl, Nat.zero_le, rdA_var, rdA_arr, escP, List.all_cons, List.all_nil, Bool.and_self, Bool.true_and, Bool.and_true, offR_nil, offR_f, offR_n, offR_l, offK_r, offK_g, offK_l, keyL_nil, keyL_t, keyL_f, Obt_offS, decide_false, decide_true, Bool.false_or, Bool.true_or, Bool.or_false, Bool.or_true, Bool.false_eq_true, if_false, if_true, r8, tend, tresAll, tresC, Option.bind_some, mapMem, retv_agc, esc_i, esc_b, esc_n, esc_m, esc_s, retv_l, retR_arr, retv_gref, retv_gmap, retv_gptr, Nat.zero_sub, Nat.sub_self, retv_int, retv_bool, retv_nil, retv_imm, retv_inil, retv_pnil, tup_nil, tup_one, tup_two, Prod.mk.injEq, CV.int.injEq, CV.bool.injEq, hO1'.len, clen_r, hlt, hidx, hld, hk, hc0, hc1, hc6, hc7, hw16, hu16, hun, hnn, part_shl hj, hor2, hw]))
      | (revert hK; intro hK; (first | refine And.intro ?_ ?_ | (refine fun (h : (_ : Bool) = _) => ?_; subst h) | intro _ | omega | (with_reducible refine hK _ ?_; clear hK K))))
      exact hnext _ (by simp [fvl, mk])
    · repeat' (first
      | with_reducible (first | refine Tx_assoc ?_ | refine Tx_nopK ?_ | refine Tx_yesK rfl ?_ | refine Tx_noK rfl ?_ | refine Tx_ifK rfl (fun _ => ?_) (fun _ => ?_) | refine Tx_yes rfl ?_ | refine Tx_no rfl ?_ | refine Tx_if rfl (fun _ => ?_) (fun _ => ?_) | refine Tx_retK ?_ | refine Tx_exitK ?_ | refine Tx_ret ?_ | refine Tx_exit ?_ | refine Tx_nop ?_ | refine Tx_blockK (id := 0) (fun Q0 hn0 hx0 hr0 ho0 => ?_) | refine Tx_blockE (id := 0) (fun Q0 hn0 hx0 hr0 ho0 => ?_) | refine hn0 _ ?_ | refine hx0 _ ?_ | refine hr0 _ ?_ | refine ho0 _ _ (by decide) ?_ | refine Tx_blockK (id := 1) (fun Q1 hn1 hx1 hr1 ho1 => ?_) | refine Tx_blockE (id := 1) (fun Q1 hn1 hx1 hr1 ho1 => ?_) | refine hn1 _ ?_ | refine hx1 _ ?_ | refine hr1 _ ?_ | refine ho1 _ _ (by decide) ?_ | refine hxL0 _ _ ?_ | refine hrL0 _ ?_)
      | (with_reducible (first | ((first | refine Tx_regK (fun K hK => ?_) | refine Tx_regE (fun K hK => ?_)); (first | refine t8r0 ?_ | refine t8r1 ?_ | refine t8r2 ?_ | refine t8r3 ?_ | refine t8r4 ?_ | refine t8r5 ?_ | refine t8r6 ?_ | refine t8r8 ?_ | refine t8r9 ?_ | refine t8r10 ?_ | refine t8r11 ?_ | refine t8r12 ?_ | refine t8r7 ?_ | refine t8r13 ?_)) | refine hqr _ ?_ | refine hqn _ ?_); (try simp only [true_implies, false_implies, not_true_eq_false, not_false_eq_true, tget_cons, if_true, if_false, Nat.reduceEqDiff, ccells, Obt_some, Kn_normal, newL_eq, newP_eq, newA_eq, newM_eq, newR_eq, newK_eq, nmA_f, nmR_f, gn_var, gn_arr, gn_map, gnext_setL, lget_setL, lget_lset, gnext_lset, setL_setL, setL_H, Nat.reduceMul, Nat.reduceAdd, Nat.zero_add, fldA_ptr, fldA_rptr, List.drop_zero, ld1_l, ld1_r, ldA_l, rd1_var, rd1_arr, List.getElem?_cons_zero, List.getElem?_cons_succ, Obt_lss, Obt_leq, Obt_gtr, Obt_geq, Obt_eql, Obt_neq, Obt_not, gdO_tt, gdO_tf, gdO_ff, gdO_ft, gdO_skip, Option.map_some, pickX_t, pickX_f, Obt_pickS, Obt_gdT, Obt_gdF, Bool.not_true, Bool.not_false, lenS, Obt_map, Obt_add, Obt_sub, Obt_mul, Obt_quo, Obt_rem, Obt_and, Obt_or, Obt_xor, Obt_andNot, Obt_shl, Obt_shr, Obt_neg, Obt_cpl, Obt_conv, Obt_ext, Obt_bind, Obt_ite', appX_l, appX_n, appR_arr, appN_some, content_l, conR_arr, content_nil, clen_n, clen_r, idxS_ref, fillX, bslX, escP_list, List.all_append, stX_l, stV_var, stV_arr, splice, List.take_zero, List.take_succ_cons, List.drop_succ_cons, List.drop_nil, List.nil_append, List.cons_append, List.append_nil, List.length_cons, List.length_nil, Nat.reduceLeDiff, and_self, and_true, true_and, Nat.le_refl, Nat.zero_le, rdA_var, rdA_arr, escP, List.all_cons, List.all_nil, Bool.and_self, Bool.true_and, Bool.and_true, offR_nil, offR_f, offR_n, offR_l, offK_r, offK_g, offK_l, keyL_nil, keyL_t, keyL_f, Obt_offS, decide_false, decide_true, Bool.false_or, Bool.true_or, Bool.or_false, Bool.or_true, Bool.false_eq_true, if_false, if_true, r8, tend, tresAll, tresC, Option.bind_some, mapMem, retv_agc, esc_i, esc_b, esc_n, esc_m, esc_s, retv_l, retR_arr, retv_gref, retv_gmap, retv_gptr, Nat.zero_sub, Nat.sub_self, retv_int, retv_bool, retv_nil, retv_imm, retv_inil, retv_pnil, tup_nil, tup_one, tup_two, Prod.mk.injEq, CV.int.injEq, CV.bool.injEq, hO1'.len, clen_r, hlt, hidx, hld, hk, hc0, hc1, hc6, hc7, hw16, hu16, hun, hnn, part_shl hj, hor _ hvl, hw]))
      | (revert hK; intro hK; (first | refine And.intro ?_ ?_ | (refine fun (h : (_ : Bool) = _) => ?_; subst h) | intro _ | omega | (with_reducible refine hK _ ?_; clear hK K))))
      exact hnext _ (by simp [fvl, mk])
end Go.Cm
