import Derived.Test.YtlflghggdpbcnaaGreatCxM
import Derived.Test.YtlflghggdpbcnaaGreatGpD
import Derived.Test.YtlflghggdpbcnaaGreatGpE
import Derived.Test.YtlflghggdpbcnaaGreatGpG
import Derived.Test.YtlflghggdpbcnaaGreatGwA
import Derived.Test.YtlflghggdpbcnaaGreatCxH
import Derived.Test.YtlflghggdpbcnaaGreatGwV
import Derived.Test.YtlflghggdpbcnaaGreatGzK
set_option linter.unusedSimpArgs false
set_option linter.unusedVariables false
namespace Go.Cm
open Go.Proofs
theorem e55_sim {E : Oracle} (hE : Sim Tryz.prog E) : Sim Tryz.prog (tab 55 e55 E) := by
  refine sim_tab ?_ hE
  intro args H r H' h
  unfold e55 at h
  split at h
  · rename_i hc
    simp only [Bool.and_eq_true, List.isEmpty_iff] at hc
    obtain ⟨h1, h2⟩ := hc
    have h3 := beqs_eq _ _ h1
    subst h2 h3
    rw [← isZero_of run55_zero] at h
    exact ccall_sim EL_sim plainN mixed 40 _ _ _ _ _ h
  · cases h
theorem e29_sim {E : Oracle} (hE : Sim Tryz.prog E) : Sim Tryz.prog (tab 29 e29 E) := by
  refine sim_tab ?_ hE
  intro args H r H' h
  unfold e29 at h
  split at h
  · rename_i hc
    simp only [Bool.and_eq_true, List.isEmpty_iff] at hc
    obtain ⟨h1, h2⟩ := hc
    have h3 := beqs_eq _ _ h1
    subst h2 h3
    rw [← isF25_of run29_false] at h
    exact ccall_sim EL_sim plainN mixed 40 _ _ _ _ _ h
  · cases h
theorem E3_sim : Sim Tryz.prog E3 := e55_sim (e29_sim EL_sim)
theorem only1_sim {k : FuncId} {x : List CV} {E : Oracle} (hE : Sim Tryz.prog E) : Sim Tryz.prog (tab k (only1 x (ccall Tryz.prog An EL 40 k x [])) E) := by
  refine sim_tab ?_ hE
  intro args H r H' h
  unfold only1 at h
  split at h
  · rename_i hc
    simp only [Bool.and_eq_true, List.isEmpty_iff] at hc
    obtain ⟨h1, h2⟩ := hc
    have h3 := beqs_eq _ _ h1
    subst h2 h3
    exact ccall_sim EL_sim plainN mixed 40 _ _ _ _ _ h
  · cases h
theorem EE_sim : Sim Tryz.prog EE := by
  refine sim_tab ?_ (only1_sim (only1_sim (only1_sim EL_sim)))
  intro args H r H' h
  unfold only0 at h
  split at h
  · exact ccall_sim E3_sim plainN mixed 40 _ _ _ _ _ h
  · cases h
theorem Fw_E25 {P : Program} {A : Ann} {E : Oracle} {f : FuncId} {args : List CV} {H : List HO} {r : CV × List HO} (h : E f (cin (A.pure f) args) H = some r) : Fw P A E f args H = some r :=
  Fw_iff.2 ⟨1, by simp only [tcall, h]⟩
theorem only25 : EE 21 [] [] = only0 hx25 [] [] := by simp only [EE, tab, if_true]
theorem only0_nil25 (h : Option (CV × List HO)) : only0 h [] [] = h := rfl
theorem x21 : ∃ H', FF 21 [] [] = some (.bool true, H') := ⟨_, Fw_E25 ((only25.trans (only0_nil25 _)).trans (isT25_of hx25_true))⟩
theorem k21 {fid : FuncId} {d : Tmp} {m : Mem} : callC An FF fid (some d) 21 [] m = some (.bool true, m) := by
  obtain ⟨H', h⟩ := x21
  rw [callC_K h rfl rfl rfl rfl rfl, adopt_bool]
end Go.Cm

namespace Go.Cm
open Go.Proofs Go.Pk
theorem kSame {l : List Rc} (hl : l.length ≤ 1000000) {m : Mem} {ja jb : Nat} {va vb : CV} (ha : OwnE rcC 8 m ja va l) (hb : OwnE rcC 8 m jb vb l) (hj : ja ≠ jb) {fid : FuncId} {t : Tmp} : callC An FF fid (some t) 23 [va, vb] m = some (.bool true, m) := by
  obtain ⟨m1, e1, _, e3, _⟩ := ha.seen.esc1 rcE.len
  obtain ⟨m2, e4, _, _, _⟩ := (hb.seen.keep (m' := m1) (e3 jb hj.symm)).esc1 rcE.len
  rw [callC_KE (x23 l hl) rfl (xs := [rowC rcC l, rowC rcC l]) (m1 := m2) (by simp only [escList, mapMem, e1, e4, Option.bind_some, Option.map_some]) (by simp only [cans, can_rowC rcE.can]) (by simp only [noGs, noG_rowC rcE.noG, Bool.and_self]) rfl]
  rfl
end Go.Cm

namespace Go.Cm
open Go.Proofs Go.Pk
theorem adopt1_own2 {α : Type} {e : α → List CV} {sz j : Nat} {m : Mem} {l : List α} : ∃ v m', adopt1 false j (ownC e sz l) m = (v, m') ∧ OwnE e sz m' j v l ∧ m'.H = m.H ∧ ∀ i, i ≠ j → lget m'.L i = lget m.L i := by
  by_cases hl : l = []
  · subst hl
    exact ⟨.nil, m, rfl, .inl ⟨rfl, rfl⟩, rfl, fun _ _ => rfl⟩
  · refine ⟨.ref (.l j) (gnext m.L j) 0 l.length, setL m j (.arr (gnext m.L j) sz (l.flatMap e) 0), ?_, .inr ⟨hl, _, rfl, by rw [lget_setL, if_pos rfl]⟩, rfl, fun i hi => by rw [lget_setL, if_neg (Ne.symm hi)]⟩
    rw [ownC, if_neg hl]; rfl
theorem kRlx {f : FuncId} {l : List Dr} {marks : List Int} (hF : ∃ q, (∃ H', q = (CV.tuple [ownC rcC 8 (rlxR l marks).1, .int .i64 (rlxR l marks).2], H')) ∧ FF f [sl drC l, sl intC marks] [] = some q) (hp : An.pure f = true) {fid : FuncId} {t : Tmp} {m m1 : Mem} {args xs : List CV} {K : CV × Mem → Prop}
    (hx : escList m args = some (xs, m1)) (hc : cans xs = [sl drC l, sl intC marks]) (hn : noGs xs = true) (hH : m1.H = m.H) (hgl : (An.glob fid).contains t = false)
    (hK : ∀ v m', OwnE rcC 8 m' (16 * t + 1) v (rlxR l marks).1 → m'.H = m.H → (∀ i, i ≠ 16 * t + 1 → lget m'.L i = lget m.L i ∨ lget m'.L i = lget m1.L i) → K (.tuple [v, .int .i64 (rlxR l marks).2], m')) : Obt (callC An FF fid (some t) f args m) K := by
  obtain ⟨_, ⟨H', rfl⟩, h⟩ := hF
  obtain ⟨os, hos⟩ : ∃ os, os = (rlxR l marks).1 := ⟨_, rfl⟩
  obtain ⟨e, he⟩ : ∃ e, e = (rlxR l marks).2 := ⟨_, rfl⟩
  rw [← hos, ← he] at h hK
  rw [callC_KE h hp hx hc hn (by simp only [noG, noGs, rcE.noG_own, Bool.and_self]), hgl, Obt_some]
  obtain ⟨m2, hm2, hH2, hL2⟩ : ∃ m2, m2 = (if scalar (.tuple [ownC rcC 8 os, .int .i64 e]) = true then m else m1) ∧ m2.H = m.H ∧ ∀ i, lget m2.L i = lget m.L i ∨ lget m2.L i = lget m1.L i := by
    refine ⟨_, rfl, ?_, fun i => ?_⟩
    · split
      · rfl
      · exact hH
    · split
      · exact .inl rfl
      · exact .inr rfl
  rw [← hm2]
  obtain ⟨v, m', h1, h2, h3, h4⟩ := adopt1_own2 (e := rcC) (sz := 8) (j := 16 * t + 1) (m := m2) (l := os)
  have had : adopt false t (.tuple [ownC rcC 8 os, .int .i64 e]) m2 = (.tuple [v, .int .i64 e], m') := by
    show ((CV.tuple (adopts false (16 * t + 1) [ownC rcC 8 os, .int .i64 e] m2).1), (adopts false (16 * t + 1) [ownC rcC 8 os, .int .i64 e] m2).2) = _
    simp only [adopts, h1]; rfl
  rw [had]
  exact hK v m' h2 (h3.trans hH2) fun i hi => by rw [h4 i hi]; exact hL2 i
theorem rlxR_len (l : List Dr) (marks : List Int) : (rlxR l marks).1.length ≤ 300000 := by
  unfold rlxR
  split
  · rename_i hm
    have hM := mayD_of hm
    split
    · have := outsL_len (sz := szsD l (finL l marks)) (marks := marks) (l := l) (lg := finL l marks) (i := 0)
      have := hM.len
      unfold rlxO; simp only; omega
    · simp
  · simp
theorem x9 (l : List Dr) (marks : List Int) (hll : l.length ≤ 9223372036854775807) (hml : marks.length ≤ 9223372036854775807) : ∃ r, (∃ H', r = (CV.bool true, H')) ∧ FF 9 [sl drC l, sl intC marks] [] = some r := by
  by_cases h1 : (6000 : Int) < l.length
  · refine Fw_funE rfl Tryz.func9 s9 (Nat.le_of_ble_eq_true rfl) (fun Q hqr hqn => ?_)
    rw [cin_t (show An.pure 9 = true from rfl) (by simp only [cans, can_int, can_bool, can_agg, can_str, drE.can_sl, intE.can_sl])]
    simp only [tinit, Nat.reduceAdd, c9]
    repeat' (first
    | with_reducible (first | refine Tx_assoc ?_ | refine Tx_yesK rfl ?_ | refine Tx_retK ?_)
    | (with_reducible (first | (refine Tx_regK (fun K hK => ?_); (first | refine t9r0 ?_ | refine t9r1 ?_ | refine t9r2 ?_)) | refine hqr _ ?_); (try simp only [true_implies, false_implies, not_true_eq_false, tget_cons, if_true, if_false, Nat.reduceEqDiff, Obt_some, Kn_normal, Obt_gtr, gdO_tf, gdO_ff, Option.map_some, pickX_t, pickX_f, lenS, Obt_map, and_true, true_and, if_false, if_true, r9, tend, tresAll, tresC, Option.bind_some, mapMem, retv_bool, tup_one, Prod.mk.injEq, clen_sl, h1, gt_iff_lt, k21]))
    | (revert hK; intro hK; (with_reducible refine hK _ ?_; clear hK K)))
    all_goals exact ⟨_, rfl⟩
  by_cases h2 : (1000 : Int) < marks.length
  · refine Fw_funE rfl Tryz.func9 s9 (Nat.le_of_ble_eq_true rfl) (fun Q hqr hqn => ?_)
    rw [cin_t (show An.pure 9 = true from rfl) (by simp only [cans, can_int, can_bool, can_agg, can_str, drE.can_sl, intE.can_sl])]
    simp only [tinit, Nat.reduceAdd, c9]
    repeat' (first
    | with_reducible (first | refine Tx_assoc ?_ | refine Tx_yesK rfl ?_ | refine Tx_retK ?_)
    | (with_reducible (first | (refine Tx_regK (fun K hK => ?_); (first | refine t9r0 ?_ | refine t9r1 ?_ | refine t9r2 ?_)) | refine hqr _ ?_); (try simp only [true_implies, false_implies, not_true_eq_false, not_false_eq_true, tget_cons, if_true, if_false, Nat.reduceEqDiff, Obt_some, Kn_normal, Obt_gtr, gdO_tf, gdO_ff, Option.map_some, pickX_t, pickX_f, lenS, Obt_map, and_true, true_and, if_false, if_true, r9, tend, tresAll, tresC, Option.bind_some, mapMem, retv_bool, tup_one, Prod.mk.injEq, clen_sl, h1, h2, gt_iff_lt, k21]))
    | (revert hK; intro hK; (with_reducible refine hK _ ?_; clear hK K)))
    all_goals exact ⟨_, rfl⟩
  have hsame := rlxR_len l marks
  refine Fw_funE rfl Tryz.func9 s9 (Nat.le_of_ble_eq_true rfl) (fun Q hqr hqn => ?_)
  rw [cin_t (show An.pure 9 = true from rfl) (by simp only [cans, can_int, can_bool, can_agg, can_str, drE.can_sl, intE.can_sl])]
  simp only [tinit, Nat.reduceAdd, c9]
  repeat' (first
  | with_reducible (first | refine Tx_assoc ?_ | refine Tx_nopK ?_ | refine Tx_noK rfl ?_)
  | (with_reducible (refine Tx_regK (fun K hK => ?_); (first | refine t9r0 ?_ | refine t9r1 ?_ | refine t9r3 ?_)); (try simp only [true_implies, false_implies, not_false_eq_true, tget_cons, if_true, if_false, Nat.reduceEqDiff, Obt_some, Kn_normal, Obt_gtr, gdO_tf, gdO_ff, Option.map_some, pickX_t, pickX_f, lenS, Obt_map, true_and, if_false, if_true, clen_sl, h1, h2, gt_iff_lt]))
  | (revert hK; intro hK; (with_reducible refine hK _ ?_; clear hK K)))
  refine kRlx (x22 l marks hll hml) rfl (escQ_list rfl) (by simp only [cans, drE.can_sl, intE.can_sl]) (by simp only [noGs, drE.noG_sl, intE.noG_sl, Bool.and_self]) rfl rfl fun va m1 hO1 hH1 _ => ?_
  simp only [true_implies, false_implies, not_true_eq_false, not_false_eq_true, tget_cons, if_true, if_false, Nat.reduceEqDiff, ccells, Obt_some, Kn_normal, newL_eq, newP_eq, newA_eq, newM_eq, newR_eq, newK_eq, nmA_f, nmR_f, gn_var, gn_arr, gn_map, gnext_setL, lget_setL, lget_lset, gnext_lset, setL_setL, setL_H, Nat.reduceMul, Nat.reduceAdd, Nat.zero_add, fldA_ptr, fldA_rptr, List.drop_zero, ld1_l, ld1_r, ldA_l, rd1_var, rd1_arr, List.getElem?_cons_zero, List.getElem?_cons_succ, Obt_lss, Obt_leq, Obt_gtr, Obt_geq, Obt_eql, Obt_neq, Obt_not, gdO_tt, gdO_tf, gdO_ff, gdO_ft, gdO_skip, Option.map_some, pickX_t, pickX_f, Obt_pickS, Obt_gdT, Obt_gdF, Bool.not_true, Bool.not_false, lenS, Obt_map, Obt_add, Obt_sub, Obt_mul, Obt_quo, Obt_rem, Obt_and, Obt_or, Obt_xor, Obt_andNot, Obt_shl, Obt_shr, Obt_neg, Obt_cpl, Obt_conv, Obt_ext, Obt_bind, Obt_ite', appX_l, appX_n, appR_arr, appN_some, content_l, conR_arr, content_nil, clen_n, clen_r, idxS_ref, fillX, bslX, escP_list, List.all_append, stX_l, stV_var, stV_arr, splice, List.take_zero, List.take_succ_cons, List.drop_succ_cons, List.drop_nil, List.nil_append, List.cons_append, List.append_nil, List.length_cons, List.length_nil, Nat.reduceLeDiff, and_self, and_true, true_and, Nat.le_refl, Nat.zero_le, rdA_var, rdA_arr, escP, List.all_cons, List.all_nil, Bool.and_self, Bool.true_and, Bool.and_true, offR_nil, offR_f, offR_n, offR_l, offK_r, offK_g, offK_l, keyL_nil, keyL_t, keyL_f, Obt_offS, decide_false, decide_true, Bool.false_or, Bool.true_or, Bool.or_false, Bool.or_true, Bool.false_eq_true, if_false, if_true]
  refine hK _ ?_
  clear hK K
  repeat' (first
  | (with_reducible (refine Tx_regK (fun K hK => ?_); refine t9r4 ?_); (try simp only [tget_cons, if_true, if_false, Nat.reduceEqDiff, Kn_normal, if_false, if_true])))
  refine kRlx (x26 l marks hll hml) rfl (escQ_list rfl) (by simp only [cans, drE.can_sl, intE.can_sl]) (by simp only [noGs, drE.noG_sl, intE.noG_sl, Bool.and_self]) rfl rfl fun vb m2 hO2 hH2 hf2 => ?_
  have hO1' := hO1.keep (m' := m2) ((hf2 337 (by decide)).elim id id)
  have hS := fun (t : Tmp) => kSame (by omega) hO1' hO2 (by decide) (fid := 9) (t := t)
  simp only [true_implies, false_implies, not_true_eq_false, not_false_eq_true, tget_cons, if_true, if_false, Nat.reduceEqDiff, ccells, Obt_some, Kn_normal, newL_eq, newP_eq, newA_eq, newM_eq, newR_eq, newK_eq, nmA_f, nmR_f, gn_var, gn_arr, gn_map, gnext_setL, lget_setL, lget_lset, gnext_lset, setL_setL, setL_H, Nat.reduceMul, Nat.reduceAdd, Nat.zero_add, fldA_ptr, fldA_rptr, List.drop_zero, ld1_l, ld1_r, ldA_l, rd1_var, rd1_arr, List.getElem?_cons_zero, List.getElem?_cons_succ, Obt_lss, Obt_leq, Obt_gtr, Obt_geq, Obt_eql, Obt_neq, Obt_not, gdO_tt, gdO_tf, gdO_ff, gdO_ft, gdO_skip, Option.map_some, pickX_t, pickX_f, Obt_pickS, Obt_gdT, Obt_gdF, Bool.not_true, Bool.not_false, lenS, Obt_map, Obt_add, Obt_sub, Obt_mul, Obt_quo, Obt_rem, Obt_and, Obt_or, Obt_xor, Obt_andNot, Obt_shl, Obt_shr, Obt_neg, Obt_cpl, Obt_conv, Obt_ext, Obt_bind, Obt_ite', appX_l, appX_n, appR_arr, appN_some, content_l, conR_arr, content_nil, clen_n, clen_r, idxS_ref, fillX, bslX, escP_list, List.all_append, stX_l, stV_var, stV_arr, splice, List.take_zero, List.take_succ_cons, List.drop_succ_cons, List.drop_nil, List.nil_append, List.cons_append, List.append_nil, List.length_cons, List.length_nil, Nat.reduceLeDiff, and_self, and_true, true_and, Nat.le_refl, Nat.zero_le, rdA_var, rdA_arr, escP, List.all_cons, List.all_nil, Bool.and_self, Bool.true_and, Bool.and_true, offR_nil, offR_f, offR_n, offR_l, offK_r, offK_g, offK_l, keyL_nil, keyL_t, keyL_f, Obt_offS, decide_false, decide_true, Bool.false_or, Bool.true_or, Bool.or_false, Bool.or_true, Bool.false_eq_true, if_false, if_true]
  refine hK _ ?_
  clear hK K
  repeat' (first
  | with_reducible refine Tx_ret ?_
  | (with_reducible (first | (refine Tx_regK (fun K hK => ?_); refine t9r5 ?_) | refine hqr _ ?_); (try simp only [true_implies, false_implies, not_true_eq_false, tget_cons, if_true, if_false, Nat.reduceEqDiff, Obt_some, Kn_normal, Obt_eql, gdO_tt, gdO_ft, Option.map_some, pickX_t, pickX_f, Obt_map, and_true, true_and, if_false, if_true, r9, tend, tresAll, tresC, Option.bind_some, mapMem, retv_bool, tup_one, Prod.mk.injEq, hS, k21]))
  | (revert hK; intro hK; (with_reducible refine hK _ ?_; clear hK K)))
  all_goals exact ⟨_, rfl⟩
end Go.Cm
