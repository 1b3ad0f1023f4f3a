import Derived.Test.YtjhndbgokapikaaFoC
set_option linter.unusedSimpArgs false
set_option linter.unusedVariables false
namespace Go.Cm
open Go.Proofs Go.Fl
theorem ldA_r6 {m : Mem} {a0 a1 a2 a3 a4 a5 : CV} {r : List CV} : ldA 6 m (.rptr (a0 :: a1 :: a2 :: a3 :: a4 :: a5 :: r)) = some (.agg [a0, a1, a2, a3, a4, a5]) := by
  simp only [ldA, cellsAt, List.length_cons, Option.map_some]
  rw [if_pos (by omega)]; rfl
theorem bit1 {n : Nat} (hn : n < 2 ^ 63) : bitop .and .i64 (n : Int) 1 = ((n % 2 : Nat) : Int) := by
  have e : (BitVec.ofInt IntKind.i64.bits (n : Int) &&& BitVec.ofInt IntKind.i64.bits 1).toNat = n % 2 := by
    show (BitVec.ofInt 64 (n : Int) &&& BitVec.ofInt 64 1).toNat = n % 2
    rw [BitVec.toNat_and, BitVec.toNat_ofInt, BitVec.toNat_ofInt]
    have h1 : ((n : Int) % ((2 ^ 64 : Nat) : Int)).toNat = n := by omega
    rw [h1, show (((1 : Int) % ((2 ^ 64 : Nat) : Int)).toNat) = 1 from rfl, Nat.and_one_is_mod]
  show IntKind.i64.wrap ((BitVec.ofInt IntKind.i64.bits (n : Int) &&& BitVec.ofInt IntKind.i64.bits 1).toNat : Int) = _
  rw [e]
  exact wI (by omega) (by omega)
theorem wides_step {p : List In} {i : Nat} {x : In} (h : p[i]? = some x) (h24 : x.op = 24) : wides p (i + 1) = wides p i + 1 := by rw [wides_succ h, if_pos h24]
set_option maxHeartbeats 2000000 in
theorem x34 (p : List In) (i : Int) (hp : p.length ≤ 9223372036854775807) : FF 34 [sl inC p, .int .i64 i] [] = some (.bool (holeI p i), []) := by
  by_cases h1 : i < 1
  · have he : holeI p i = false := by unfold holeI; rw [decide_eq_false (by omega)]; rfl
    refine Fw_funK rfl Try.func34 s34 (Nat.le_of_ble_eq_true rfl) (fun Q hqr hqn => ?_)
    rw [cin_t (show An.pure 34 = true from rfl) (by simp only [cans, can_int, can_bool, can_agg, can_str, inE.can_sl])]
    simp only [tinit, Nat.reduceAdd, c34]
    repeat' (first
    | with_reducible (first | refine Tx_assoc ?_ | refine Tx_yesK rfl ?_ | refine Tx_retK ?_)
    | (with_reducible (first | (refine Tx_regK (fun K hK => ?_); (first | refine t34r0 ?_ | refine t34r1 ?_ | refine t34r2 ?_)) | refine hqr _ ?_); (try simp only [true_implies, false_implies, not_true_eq_false, tget_cons, if_true, if_false, Nat.reduceEqDiff, Obt_some, Kn_normal, Obt_lss, Obt_geq, gdO_tf, gdO_ff, Option.map_some, pickX_t, pickX_f, lenS, Obt_map, and_true, if_false, if_true, r34, tend, tresAll, tresC, Option.bind_some, mapMem, retv_bool, tup_one, clen_sl, h1, he]))
    | (revert hK; intro hK; (with_reducible refine hK _ ?_; clear hK K)))
  by_cases h2 : (p.length : Int) ≤ i
  · have he : holeI p i = false := by unfold holeI; rw [decide_eq_false (by omega)]; rfl
    refine Fw_funK rfl Try.func34 s34 (Nat.le_of_ble_eq_true rfl) (fun Q hqr hqn => ?_)
    rw [cin_t (show An.pure 34 = true from rfl) (by simp only [cans, can_int, can_bool, can_agg, can_str, inE.can_sl])]
    simp only [tinit, Nat.reduceAdd, c34]
    repeat' (first
    | with_reducible (first | refine Tx_assoc ?_ | refine Tx_yesK rfl ?_ | refine Tx_retK ?_)
    | (with_reducible (first | (refine Tx_regK (fun K hK => ?_); (first | refine t34r0 ?_ | refine t34r1 ?_ | refine t34r2 ?_)) | refine hqr _ ?_); (try simp only [true_implies, false_implies, not_true_eq_false, not_false_eq_true, tget_cons, if_true, if_false, Nat.reduceEqDiff, Obt_some, Kn_normal, Obt_lss, Obt_geq, gdO_tf, gdO_ff, Option.map_some, pickX_t, pickX_f, lenS, Obt_map, and_true, true_and, if_false, if_true, r34, tend, tresAll, tresC, Option.bind_some, mapMem, retv_bool, tup_one, clen_sl, h1, h2, he, ge_iff_le]))
    | (revert hK; intro hK; (with_reducible refine hK _ ?_; clear hK K)))
  obtain ⟨k, rfl⟩ : ∃ k : Nat, i = k := ⟨i.toNat, by omega⟩
  have hr : holeI p k = decide (wides p k % 2 = 1) := by
    unfold holeI; rw [decide_eq_true ⟨by omega, by omega⟩, Bool.true_and]; rfl
  rw [hr]
  refine Fw_funK rfl Try.func34 s34 (Nat.le_of_ble_eq_true rfl) (fun Q hqr hqn => ?_)
  rw [cin_t (show An.pure 34 = true from rfl) (by simp only [cans, can_int, can_bool, can_agg, can_str, inE.can_sl])]
  simp only [tinit, Nat.reduceAdd, c34]
  repeat' (first
  | with_reducible (first | refine Tx_assoc ?_ | refine Tx_nopK ?_ | refine Tx_noK rfl ?_ | refine Tx_blockK (id := 0) (fun Q0 hn0 hx0 hr0 ho0 => ?_))
  | (with_reducible (refine Tx_regK (fun K hK => ?_); (first | refine t34r0 ?_ | refine t34r1 ?_ | refine t34r3 ?_)); (try simp only [true_implies, false_implies, not_false_eq_true, tget_cons, if_true, if_false, Nat.reduceEqDiff, Obt_some, Kn_normal, Obt_lss, Obt_geq, gdO_tf, gdO_ff, pickX_t, pickX_f, lenS, Obt_map, true_and, if_false, if_true, clen_sl, h1, h2, ge_iff_le]))
  | (revert hK; intro hK; (with_reducible refine hK _ ?_; clear hK K)))
  refine Tx_loopK (fun m s => ∃ (n : Nat) (L : List (Nat × HO)), n ≤ k ∧ m = k - n ∧ wides p k = n + wides p (k - n) ∧ s = ⟨[(0, sl inC p), (1, .int .i64 k), (5, .int .i64 n)], ⟨L, []⟩⟩) _ ⟨0, _, Nat.zero_le _, rfl, by simp, rfl⟩ ?_
  rintro m s ⟨n, L, hn, rfl, hw, rfl⟩ QL0 hnL0 hxL0 hrL0
  simp only [c34l0]
  have hb := bit1 (n := n) (by omega)
  have hend : wides p (k - n) = 0 → decide (bitop .and .i64 (n : Int) 1 = 1) = decide (wides p k % 2 = 1) := fun h => by
    rw [hb, hw, h, Nat.add_zero]
    exact decide_eq_decide.2 (by omega)
  by_cases hlt : (n : Int) < k
  · have hkn : k - n = (k - n - 1) + 1 := by omega
    have hget : p[k - n - 1]? = some p[k - n - 1] := List.getElem?_eq_getElem (by omega)
    obtain ⟨x, hx⟩ : ∃ x, p[k - n - 1]? = some x := ⟨_, hget⟩
    have w1 : IntKind.i64.wrap ((k : Int) - 1) = k - 1 := wI (by omega) (by omega)
    have w2 : IntKind.i64.wrap ((k : Int) - 1 - n) = k - 1 - n := wI (by omega) (by omega)
    have w3 : IntKind.i64.wrap ((n : Int) + 1) = n + 1 := wI (by omega) (by omega)
    have hix := idxS_sl (k := .i64) (i := (k : Int) - 1 - n) inE.len (by omega : 0 < 6) (by omega) (by rw [show ((k : Int) - 1 - n).toNat = k - n - 1 by omega]; exact hx)
    by_cases h24 : x.op = 24
    · have hws : wides p (k - n) = wides p (k - (n + 1)) + 1 := by
        rw [hkn, wides_step hx h24]
        rfl
      repeat' (first
      | with_reducible (first | refine Tx_assoc ?_ | refine Tx_nopK ?_ | refine Tx_yesK rfl ?_ | refine Tx_blockE (id := 1) (fun Q1 hn1 hx1 hr1 ho1 => ?_) | refine hn1 _ ?_)
      | (with_reducible ((first | refine Tx_regK (fun K hK => ?_) | refine Tx_regE (fun K hK => ?_)); (first | refine t34r4 ?_ | refine t34r5 ?_)); (try simp only [true_implies, false_implies, not_true_eq_false, tget_cons, if_true, if_false, Nat.reduceEqDiff, Obt_some, Kn_normal, fldA_rptr, List.drop_zero, ld1_r, Obt_lss, Obt_eql, gdO_tt, gdO_ft, pickX_t, pickX_f, Obt_map, Obt_add, Obt_sub, List.nil_append, List.cons_append, and_true, if_false, if_true, hlt, w1, w2, w3, hix, inC, h24]))
      | (revert hK; intro hK; (with_reducible refine hK _ ?_; clear hK K)))
      refine hnL0 (k - (n + 1)) _ (by omega) ⟨n + 1, L, by omega, rfl, by omega, by simp⟩
    · have hws : wides p (k - n) = 0 := by rw [hkn, wides_succ hx, if_neg h24]
      have he := hend hws
      repeat' (first
      | with_reducible (first | refine Tx_assoc ?_ | refine Tx_noK rfl ?_ | refine Tx_exitK ?_ | refine Tx_ret ?_ | refine hx0 _ ?_ | refine hxL0 _ _ ?_)
      | (with_reducible (first | (refine Tx_regK (fun K hK => ?_); (first | refine t34r4 ?_ | refine t34r6 ?_)) | refine hqr _ ?_); (try simp only [true_implies, false_implies, not_true_eq_false, not_false_eq_true, tget_cons, if_true, if_false, Nat.reduceEqDiff, Obt_some, Kn_normal, fldA_rptr, List.drop_zero, ld1_r, Obt_lss, Obt_eql, gdO_tt, gdO_ft, Option.map_some, pickX_t, pickX_f, Obt_map, Obt_sub, Obt_and, List.nil_append, List.cons_append, and_true, true_and, if_false, if_true, r34, tend, tresAll, tresC, Option.bind_some, mapMem, retv_bool, tup_one, Prod.mk.injEq, CV.bool.injEq, hlt, w1, w2, hix, inC, h24]))
      | (revert hK; intro hK; (first | refine And.intro ?_ ?_ | intro _ | (with_reducible refine hK _ ?_; clear hK K))))
      all_goals (rw [← he]; first | exact (decide_eq_true (by assumption)).symm | exact (decide_eq_false (by assumption)).symm)
  · have hnk : n = k := by omega
    have hws : wides p (k - n) = 0 := by rw [hnk, Nat.sub_self]; rfl
    have he := hend hws
    repeat' (first
    | with_reducible (first | refine Tx_assoc ?_ | refine Tx_noK rfl ?_ | refine Tx_exitK ?_ | refine Tx_ret ?_ | refine hx0 _ ?_ | refine hxL0 _ _ ?_)
    | (with_reducible (first | (refine Tx_regK (fun K hK => ?_); (first | refine t34r4 ?_ | refine t34r6 ?_)) | refine hqr _ ?_); (try simp only [true_implies, false_implies, not_false_eq_true, tget_cons, if_true, if_false, Nat.reduceEqDiff, Obt_some, Kn_normal, Obt_lss, Obt_eql, gdO_tt, gdO_ft, Option.map_some, pickX_t, pickX_f, Obt_map, Obt_sub, Obt_and, and_true, true_and, if_false, if_true, r34, tend, tresAll, tresC, Option.bind_some, mapMem, retv_bool, tup_one, Prod.mk.injEq, CV.bool.injEq, hlt]))
    | (revert hK; intro hK; (first | refine And.intro ?_ ?_ | intro _ | (with_reducible refine hK _ ?_; clear hK K))))
    all_goals (rw [← he]; first | exact (decide_eq_true (by assumption)).symm | exact (decide_eq_false (by assumption)).symm)
theorem k34 {p : List In} {i : Int} (hp : p.length ≤ 9223372036854775807) {fid : FuncId} {d : Tmp} {m : Mem} : callC An FF fid (some d) 34 [sl inC p, .int .i64 i] m = some (.bool (holeI p i), m) :=
  callC_V (x34 p i hp) (fun _ _ _ => rfl) rfl (by simp only [cans, can_int, inE.can_sl]) rfl (by simp only [noGs, noG_int, inE.noG_sl, Bool.and_self]) rfl
def jmpB (x : In) : Bool := jB x.op || decide (x.op = 5)
theorem x19 (x : In) : FF 19 [.agg (inC x)] [] = some (.bool (jmpB x), []) := by
  obtain ⟨ja, jb, hj⟩ := jT_eq x.op
  have h := x36 x.op
  rw [hj] at h
  have kJ : ∀ t m, callC An FF 19 (some t) 36 [.int .i64 x.op] m = some (.tuple [.int .i64 ja, .bool jb, .bool (jB x.op)], m) := fun t m => callC_V h (fun _ _ _ => rfl) rfl rfl rfl rfl rfl
  cases hJ : jB x.op with
  | true =>
    rw [hJ] at kJ
    rw [show jmpB x = true by simp [jmpB, hJ]]
    refine Fw_funK rfl Try.func19 s19 (Nat.le_of_ble_eq_true rfl) (fun Q hqr hqn => ?_)
    rw [cin_t (show An.pure 19 = true from rfl) (by simp only [cans, can_int, can_bool, can_agg, can_str, can_agg, inE.can])]
    simp only [tinit, Nat.reduceAdd, c19]
    repeat' (first
    | with_reducible refine Tx_ret ?_
    | (with_reducible (first | (refine Tx_regK (fun K hK => ?_); (first | refine t19r0 ?_ | refine t19r1 ?_ | refine t19r2 ?_)) | refine hqr _ ?_); (try simp only [tget_cons, if_true, if_false, Nat.reduceEqDiff, ccells, Obt_some, Kn_normal, newL_eq, newP_eq, lget_setL, setL_H, Nat.zero_add, fldA_ptr, ld1_l, rd1_var, List.getElem?_cons_zero, List.getElem?_cons_succ, gdO_tf, Option.map_some, pickX_t, Obt_ext, if_false, if_true, r19, tend, tresAll, tresC, Option.bind_some, mapMem, retv_bool, tup_one, inC, kJ]))
    | (revert hK; intro hK; (with_reducible refine hK _ ?_; clear hK K)))
  | false =>
    rw [hJ] at kJ
    rw [show jmpB x = decide (x.op = 5) by simp [jmpB, hJ]]
    refine Fw_funK rfl Try.func19 s19 (Nat.le_of_ble_eq_true rfl) (fun Q hqr hqn => ?_)
    rw [cin_t (show An.pure 19 = true from rfl) (by simp only [cans, can_int, can_bool, can_agg, can_str, can_agg, inE.can])]
    simp only [tinit, Nat.reduceAdd, c19]
    repeat' (first
    | with_reducible refine Tx_ret ?_
    | (with_reducible (first | (refine Tx_regK (fun K hK => ?_); (first | refine t19r0 ?_ | refine t19r1 ?_ | refine t19r2 ?_)) | refine hqr _ ?_); (try simp only [tget_cons, if_true, if_false, Nat.reduceEqDiff, ccells, Obt_some, Kn_normal, newL_eq, newP_eq, lget_setL, setL_H, Nat.zero_add, fldA_ptr, ld1_l, rd1_var, List.getElem?_cons_zero, List.getElem?_cons_succ, Obt_eql, gdO_ff, Option.map_some, pickX_f, Obt_map, Obt_ext, and_true, if_false, if_true, r19, tend, tresAll, tresC, Option.bind_some, mapMem, retv_bool, tup_one, Prod.mk.injEq, CV.bool.injEq, inC, kJ]))
    | (revert hK; intro hK; (first | refine And.intro ?_ ?_ | intro _ | (with_reducible refine hK _ ?_; clear hK K))))
    all_goals first | rfl | simp_all
theorem k19 {x : In} {fid : FuncId} {d : Tmp} {m : Mem} : callC An FF fid (some d) 19 [.agg (inC x)] m = some (.bool (jmpB x), m) :=
  callC_V (x19 x) (fun _ _ _ => rfl) rfl (by simp only [cans, can_agg, inE.can]) rfl rfl rfl
def wdI (x : In) : Int := if x.op = 24 then 2 else 1
theorem x37 (x : In) : FF 37 [.agg (inC x)] [] = some (.int .i64 (wdI x), []) := by
  by_cases h : x.op = 24
  · rw [wdI, if_pos h]
    refine Fw_funK rfl Try.func37 s37 (Nat.le_of_ble_eq_true rfl) (fun Q hqr hqn => ?_)
    rw [cin_t (show An.pure 37 = true from rfl) (by simp only [cans, can_int, can_bool, can_agg, can_str, can_agg, inE.can])]
    simp only [tinit, Nat.reduceAdd, c37]
    repeat' (first
    | with_reducible (first | refine Tx_assoc ?_ | refine Tx_yesK rfl ?_ | refine Tx_retK ?_)
    | (with_reducible (first | (refine Tx_regK (fun K hK => ?_); (first | refine t37r0 ?_ | refine t37r1 ?_ | refine t37r2 ?_)) | refine hqr _ ?_); (try simp only [true_implies, false_implies, not_true_eq_false, tget_cons, if_true, ccells, Obt_some, Kn_normal, newL_eq, newP_eq, lget_setL, setL_H, Nat.zero_add, fldA_ptr, ld1_l, rd1_var, List.getElem?_cons_zero, Obt_eql, Option.map_some, and_true, if_true, r37, tend, tresAll, tresC, Option.bind_some, mapMem, retv_int, tup_one, inC, h]))
    | (revert hK; intro hK; (with_reducible refine hK _ ?_; clear hK K)))
  · rw [wdI, if_neg h]
    refine Fw_funK rfl Try.func37 s37 (Nat.le_of_ble_eq_true rfl) (fun Q hqr hqn => ?_)
    rw [cin_t (show An.pure 37 = true from rfl) (by simp only [cans, can_int, can_bool, can_agg, can_str, can_agg, inE.can])]
    simp only [tinit, Nat.reduceAdd, c37]
    repeat' (first
    | with_reducible (first | refine Tx_assoc ?_ | refine Tx_nopK ?_ | refine Tx_noK rfl ?_ | refine Tx_ret ?_)
    | (with_reducible (first | (refine Tx_regK (fun K hK => ?_); (first | refine t37r0 ?_ | refine t37r1 ?_ | refine t37r3 ?_)) | refine hqr _ ?_); (try simp only [true_implies, false_implies, not_false_eq_true, tget_cons, if_true, ccells, Obt_some, Kn_normal, newL_eq, newP_eq, lget_setL, setL_H, Nat.zero_add, fldA_ptr, ld1_l, rd1_var, List.getElem?_cons_zero, Obt_eql, Option.map_some, true_and, if_true, r37, tend, tresAll, tresC, Option.bind_some, mapMem, retv_int, tup_one, inC, h]))
    | (revert hK; intro hK; (with_reducible refine hK _ ?_; clear hK K)))
theorem k37 {x : In} {fid : FuncId} {d : Tmp} {m : Mem} : callC An FF fid (some d) 37 [.agg (inC x)] m = some (.int .i64 (wdI x), m) :=
  callC_V (x37 x) (fun _ _ _ => rfl) rfl (by simp only [cans, can_agg, inE.can]) rfl rfl rfl
set_option maxHeartbeats 2000000 in
theorem x20 (p : List In) (i : Int) (hp : p.length ≤ 4611686018427387904) : FF 20 [sl inC p, .int .i64 i] [] = some (ownC intC 1 (sucI p i), []) := by
  have kH : ∀ t m, callC An FF 20 (some t) 34 [sl inC p, .int .i64 i] m = some (.bool (holeI p i), m) := fun t m => k34 (by omega)
  by_cases h1 : i < 0
  · have he : sucI p i = [] := by show succL jB wrI p i = _; unfold succL; rw [if_pos (.inl h1)]
    rw [he]
    refine Fw_funK rfl Try.func20 s20 (Nat.le_of_ble_eq_true rfl) (fun Q hqr hqn => ?_)
    rw [cin_t (show An.pure 20 = true from rfl) (by simp only [cans, can_int, can_bool, can_agg, can_str, inE.can_sl])]
    simp only [tinit, Nat.reduceAdd, c20]
    repeat' (first
    | with_reducible (first | refine Tx_assoc ?_ | refine Tx_yesK rfl ?_ | refine Tx_retK ?_)
    | (with_reducible (first | (refine Tx_regK (fun K hK => ?_); (first | refine t20r0 ?_ | refine t20r1 ?_ | refine t20r2 ?_)) | refine hqr _ ?_); (try simp only [true_implies, false_implies, not_true_eq_false, tget_cons, if_true, if_false, Nat.reduceEqDiff, Obt_some, Kn_normal, Obt_lss, Obt_geq, gdO_tf, gdO_ff, Option.map_some, pickX_t, pickX_f, lenS, Obt_map, and_true, if_false, if_true, r20, tend, tresAll, tresC, Option.bind_some, mapMem, retv_nil, tup_one, Prod.mk.injEq, clen_sl, h1]))
    | (revert hK; intro hK; (with_reducible refine hK _ ?_; clear hK K)))
    all_goals rfl
  by_cases h2 : (p.length : Int) ≤ i
  · have he : sucI p i = [] := by show succL jB wrI p i = _; unfold succL; rw [if_pos (.inr (.inl h2))]
    rw [he]
    refine Fw_funK rfl Try.func20 s20 (Nat.le_of_ble_eq_true rfl) (fun Q hqr hqn => ?_)
    rw [cin_t (show An.pure 20 = true from rfl) (by simp only [cans, can_int, can_bool, can_agg, can_str, inE.can_sl])]
    simp only [tinit, Nat.reduceAdd, c20]
    repeat' (first
    | with_reducible (first | refine Tx_assoc ?_ | refine Tx_yesK rfl ?_ | refine Tx_retK ?_)
    | (with_reducible (first | (refine Tx_regK (fun K hK => ?_); (first | refine t20r0 ?_ | refine t20r1 ?_ | refine t20r2 ?_)) | refine hqr _ ?_); (try simp only [true_implies, false_implies, not_true_eq_false, not_false_eq_true, tget_cons, if_true, if_false, Nat.reduceEqDiff, Obt_some, Kn_normal, Obt_lss, Obt_geq, gdO_tf, gdO_ff, Option.map_some, pickX_t, pickX_f, lenS, Obt_map, and_true, true_and, if_false, if_true, r20, tend, tresAll, tresC, Option.bind_some, mapMem, retv_nil, tup_one, Prod.mk.injEq, clen_sl, h1, h2, ge_iff_le]))
    | (revert hK; intro hK; (with_reducible refine hK _ ?_; clear hK K)))
    all_goals rfl
  cases hh : holeI p i with
  | true =>
    rw [hh] at kH
    have he : sucI p i = [] := by show succL jB wrI p i = _; unfold succL; rw [if_pos (.inr (.inr hh))]
    rw [he]
    refine Fw_funK rfl Try.func20 s20 (Nat.le_of_ble_eq_true rfl) (fun Q hqr hqn => ?_)
    rw [cin_t (show An.pure 20 = true from rfl) (by simp only [cans, can_int, can_bool, can_agg, can_str, inE.can_sl])]
    simp only [tinit, Nat.reduceAdd, c20]
    repeat' (first
    | with_reducible (first | refine Tx_assoc ?_ | refine Tx_yesK rfl ?_ | refine Tx_retK ?_)
    | (with_reducible (first | (refine Tx_regK (fun K hK => ?_); (first | refine t20r0 ?_ | refine t20r1 ?_ | refine t20r2 ?_)) | refine hqr _ ?_); (try simp only [true_implies, false_implies, not_false_eq_true, tget_cons, if_true, if_false, Nat.reduceEqDiff, Obt_some, Kn_normal, Obt_lss, Obt_geq, gdO_tf, gdO_ff, Option.map_some, pickX_t, pickX_f, lenS, Obt_map, and_true, true_and, if_false, if_true, r20, tend, tresAll, tresC, Option.bind_some, mapMem, retv_nil, tup_one, Prod.mk.injEq, clen_sl, h1, h2, ge_iff_le, kH]))
    | (revert hK; intro hK; (with_reducible refine hK _ ?_; clear hK K)))
    all_goals rfl
  | false =>
    rw [hh] at kH
    obtain ⟨x, hx⟩ : ∃ x, p[i.toNat]? = some x := ⟨_, List.getElem?_eq_getElem (by omega)⟩
    have he : sucI p i = if x.op = 149 then [] else if x.op = 5 then [IntKind.i64.wrap (i + 1 + x.off)] else if jB x.op = true then [i + 1, IntKind.i64.wrap (i + 1 + x.off)] else if x.op = 24 then [i + 2] else [i + 1] := by
      show succL jB wrI p i = _
      unfold succL
      rw [if_neg (by rw [hh]; rintro (h | h | h); exact h1 h; exact h2 h; cases h)]
      simp only [hx]
    have hix := idxS_sl (k := .i64) (i := i) inE.len (by omega : 0 < 6) (by omega) hx
    have w1 : IntKind.i64.wrap (i + 1) = i + 1 := wI (by omega) (by omega)
    have w2 : IntKind.i64.wrap (i + 2) = i + 2 := wI (by omega) (by omega)
    obtain ⟨ja, jb, hj⟩ := jT_eq x.op
    have h := x36 x.op
    rw [hj] at h
    obtain ⟨J, hJ⟩ : ∃ J, J = jB x.op := ⟨_, rfl⟩
    have kJ : ∀ t m, callC An FF 20 (some t) 36 [.int .i64 x.op] m = some (.tuple [.int .i64 ja, .bool jb, .bool J], m) := fun t m => by rw [hJ]; exact callC_V h (fun _ _ _ => rfl) rfl rfl rfl rfl rfl
    rw [← hJ] at he
    have o1 : ∀ a : Int, ownC intC 1 [a] = .own 1 1 [.int .i64 a] 0 := fun a => rfl
    have o2 : ∀ a b : Int, ownC intC 1 [a, b] = .own 2 1 [.int .i64 a, .int .i64 b] 0 := fun a b => rfl
    by_cases e1 : x.op = 149
    · rw [he, if_pos e1]
      refine Fw_funK rfl Try.func20 s20 (Nat.le_of_ble_eq_true rfl) (fun Q hqr hqn => ?_)
      rw [cin_t (show An.pure 20 = true from rfl) (by simp only [cans, can_int, can_bool, can_agg, can_str, inE.can_sl])]
      simp only [tinit, Nat.reduceAdd, c20]
      repeat' (first
      | with_reducible (first | refine Tx_assoc ?_ | refine Tx_nopK ?_ | refine Tx_noK rfl ?_ | refine Tx_yes rfl ?_ | refine Tx_ret ?_ | refine Tx_blockK (id := 0) (fun Q0 hn0 hx0 hr0 ho0 => ?_) | refine hr0 _ ?_)
      | (with_reducible (first | (refine Tx_regK (fun K hK => ?_); (first | refine t20r0 ?_ | refine t20r1 ?_ | refine t20r3 ?_ | refine t20r4 ?_ | refine t20r5 ?_ | refine t20r6 ?_)) | refine hqr _ ?_); (try simp only [true_implies, false_implies, not_true_eq_false, not_false_eq_true, tget_cons, if_true, if_false, Nat.reduceEqDiff, ccells, Obt_some, Kn_normal, newL_eq, newP_eq, lget_setL, setL_setL, setL_H, Nat.reduceAdd, Nat.zero_add, fldA_ptr, ld1_l, rd1_var, List.getElem?_cons_zero, List.getElem?_cons_succ, Obt_lss, Obt_geq, Obt_eql, gdO_tf, gdO_ff, Option.map_some, pickX_t, pickX_f, lenS, Obt_map, Obt_ext, stX_l, stV_var, splice, List.take_zero, List.drop_succ_cons, List.drop_nil, List.nil_append, List.cons_append, List.append_nil, List.length_cons, List.length_nil, and_self, and_true, true_and, Nat.le_refl, if_false, if_true, r20, tend, tresAll, tresC, Option.bind_some, mapMem, retv_nil, tup_one, Prod.mk.injEq, clen_sl, h1, h2, ge_iff_le, kH, hix, inC, ldA_r6, kJ, eq_true e1]))
      | (revert hK; intro hK; (with_reducible refine hK _ ?_; clear hK K)))
      all_goals first | rfl | simp_all
    by_cases e2 : x.op = 5
    · rw [he, if_neg e1, if_pos e2, o1]
      refine Fw_funK rfl Try.func20 s20 (Nat.le_of_ble_eq_true rfl) (fun Q hqr hqn => ?_)
      rw [cin_t (show An.pure 20 = true from rfl) (by simp only [cans, can_int, can_bool, can_agg, can_str, inE.can_sl])]
      simp only [tinit, Nat.reduceAdd, c20]
      repeat' (first
      | with_reducible (first | refine Tx_assoc ?_ | refine Tx_nopK ?_ | refine Tx_noK rfl ?_ | refine Tx_yes rfl ?_ | refine Tx_no rfl ?_ | refine Tx_ret ?_ | refine Tx_blockK (id := 0) (fun Q0 hn0 hx0 hr0 ho0 => ?_) | refine hr0 _ ?_)
      | (with_reducible (first | (refine Tx_regK (fun K hK => ?_); (first | refine t20r0 ?_ | refine t20r1 ?_ | refine t20r3 ?_ | refine t20r4 ?_ | refine t20r5 ?_ | refine t20r7 ?_ | refine t20r8 ?_)) | refine hqr _ ?_); (try simp only [true_implies, false_implies, not_true_eq_false, not_false_eq_true, tget_cons, if_true, if_false, Nat.reduceEqDiff, ccells, Obt_some, Kn_normal, newL_eq, newP_eq, nmA_f, nmR_f, gn_var, gnext_setL, lget_setL, setL_setL, setL_H, Nat.reduceMul, Nat.reduceAdd, Nat.zero_add, fldA_ptr, List.drop_zero, ld1_l, rd1_var, List.getElem?_cons_zero, List.getElem?_cons_succ, Obt_lss, Obt_geq, Obt_eql, gdO_tf, gdO_ff, Option.map_some, pickX_t, pickX_f, lenS, Obt_map, Obt_add, Obt_ext, Obt_bind, fillX, bslX, escP_list, stX_l, stV_var, splice, List.take_zero, List.take_succ_cons, List.drop_succ_cons, List.drop_nil, List.nil_append, List.cons_append, List.append_nil, List.length_cons, List.length_nil, and_self, and_true, true_and, Nat.le_refl, escP, List.all_cons, List.all_nil, Bool.and_self, if_false, if_true, r20, tend, tresAll, tresC, Option.bind_some, mapMem, retv_l, retR_arr, Nat.sub_self, tup_one, clen_sl, h1, h2, ge_iff_le, kH, hix, inC, ldA_r6, kJ, e1, eq_true e2, w1]))
      | (revert hK; intro hK; (with_reducible refine hK _ ?_; clear hK K)))
      all_goals first | rfl | simp_all
    cases J with
    | true =>
      rw [he, if_neg e1, if_neg e2, if_pos rfl, o2]
      refine Fw_funK rfl Try.func20 s20 (Nat.le_of_ble_eq_true rfl) (fun Q hqr hqn => ?_)
      rw [cin_t (show An.pure 20 = true from rfl) (by simp only [cans, can_int, can_bool, can_agg, can_str, inE.can_sl])]
      simp only [tinit, Nat.reduceAdd, c20]
      repeat' (first
      | with_reducible (first | refine Tx_assoc ?_ | refine Tx_nopK ?_ | refine Tx_noK rfl ?_ | refine Tx_yes rfl ?_ | refine Tx_no rfl ?_ | refine Tx_ret ?_ | refine Tx_blockK (id := 0) (fun Q0 hn0 hx0 hr0 ho0 => ?_) | refine hr0 _ ?_)
      | (with_reducible (first | (refine Tx_regK (fun K hK => ?_); (first | refine t20r0 ?_ | refine t20r1 ?_ | refine t20r3 ?_ | refine t20r4 ?_ | refine t20r5 ?_ | refine t20r7 ?_ | refine t20r9 ?_ | refine t20r10 ?_)) | refine hqr _ ?_); (try simp only [true_implies, false_implies, not_false_eq_true, tget_cons, if_true, if_false, Nat.reduceEqDiff, ccells, Obt_some, Kn_normal, newL_eq, newP_eq, nmA_f, nmR_f, gn_var, gnext_setL, lget_setL, setL_setL, setL_H, Nat.reduceMul, Nat.reduceAdd, Nat.zero_add, fldA_ptr, List.drop_zero, ld1_l, rd1_var, List.getElem?_cons_zero, List.getElem?_cons_succ, Obt_lss, Obt_geq, Obt_eql, gdO_tf, gdO_ff, Option.map_some, pickX_t, pickX_f, lenS, Obt_map, Obt_add, Obt_ext, Obt_bind, fillX, bslX, escP_list, stX_l, stV_var, splice, List.take_zero, List.take_succ_cons, List.drop_succ_cons, List.drop_nil, List.nil_append, List.cons_append, List.append_nil, List.length_cons, List.length_nil, Nat.reduceLeDiff, and_self, and_true, true_and, Nat.le_refl, escP, List.all_cons, List.all_nil, Bool.and_self, if_false, if_true, r20, tend, tresAll, tresC, Option.bind_some, mapMem, retv_l, retR_arr, Nat.sub_self, tup_one, clen_sl, h1, h2, ge_iff_le, kH, hix, inC, ldA_r6, kJ, e1, e2, w1]))
      | (revert hK; intro hK; (with_reducible refine hK _ ?_; clear hK K)))
      all_goals first | rfl | simp_all
    | false =>
      rw [he, if_neg e1, if_neg e2, if_neg (by decide)]
      by_cases e3 : x.op = 24
      · rw [if_pos e3, o1]
        refine Fw_funK rfl Try.func20 s20 (Nat.le_of_ble_eq_true rfl) (fun Q hqr hqn => ?_)
        rw [cin_t (show An.pure 20 = true from rfl) (by simp only [cans, can_int, can_bool, can_agg, can_str, inE.can_sl])]
        simp only [tinit, Nat.reduceAdd, c20]
        repeat' (first
        | with_reducible (first | refine Tx_assoc ?_ | refine Tx_nopK ?_ | refine Tx_noK rfl ?_ | refine Tx_yes rfl ?_ | refine Tx_no rfl ?_ | refine Tx_ret ?_ | refine Tx_blockK (id := 0) (fun Q0 hn0 hx0 hr0 ho0 => ?_) | refine hr0 _ ?_)
        | (with_reducible (first | (refine Tx_regK (fun K hK => ?_); (first | refine t20r0 ?_ | refine t20r1 ?_ | refine t20r3 ?_ | refine t20r4 ?_ | refine t20r5 ?_ | refine t20r7 ?_ | refine t20r9 ?_ | refine t20r11 ?_ | refine t20r12 ?_)) | refine hqr _ ?_); (try simp only [true_implies, false_implies, not_true_eq_false, not_false_eq_true, tget_cons, if_true, if_false, Nat.reduceEqDiff, ccells, Obt_some, Kn_normal, newL_eq, newP_eq, nmA_f, nmR_f, gn_var, gnext_setL, lget_setL, setL_setL, setL_H, Nat.reduceMul, Nat.reduceAdd, Nat.zero_add, fldA_ptr, List.drop_zero, ld1_l, rd1_var, List.getElem?_cons_zero, List.getElem?_cons_succ, Obt_lss, Obt_geq, Obt_eql, gdO_tf, gdO_ff, Option.map_some, pickX_t, pickX_f, lenS, Obt_map, Obt_add, Obt_ext, Obt_bind, fillX, bslX, escP_list, stX_l, stV_var, splice, List.take_zero, List.take_succ_cons, List.drop_succ_cons, List.drop_nil, List.nil_append, List.cons_append, List.append_nil, List.length_cons, List.length_nil, and_self, and_true, true_and, Nat.le_refl, escP, List.all_cons, List.all_nil, Bool.and_self, if_false, if_true, r20, tend, tresAll, tresC, Option.bind_some, mapMem, retv_l, retR_arr, Nat.sub_self, tup_one, clen_sl, h1, h2, ge_iff_le, kH, hix, inC, ldA_r6, kJ, e1, e2, eq_true e3, w2]))
        | (revert hK; intro hK; (with_reducible refine hK _ ?_; clear hK K)))
        all_goals first | rfl | simp_all
      · rw [if_neg e3, o1]
        refine Fw_funK rfl Try.func20 s20 (Nat.le_of_ble_eq_true rfl) (fun Q hqr hqn => ?_)
        rw [cin_t (show An.pure 20 = true from rfl) (by simp only [cans, can_int, can_bool, can_agg, can_str, inE.can_sl])]
        simp only [tinit, Nat.reduceAdd, c20]
        repeat' (first
        | with_reducible (first | refine Tx_assoc ?_ | refine Tx_nopK ?_ | refine Tx_noK rfl ?_ | refine Tx_no rfl ?_ | refine Tx_ret ?_ | refine Tx_nop ?_ | refine Tx_blockK (id := 0) (fun Q0 hn0 hx0 hr0 ho0 => ?_) | refine hn0 _ ?_)
        | (with_reducible (first | (refine Tx_regK (fun K hK => ?_); (first | refine t20r0 ?_ | refine t20r1 ?_ | refine t20r3 ?_ | refine t20r4 ?_ | refine t20r5 ?_ | refine t20r7 ?_ | refine t20r9 ?_ | refine t20r11 ?_ | refine t20r13 ?_)) | refine hqr _ ?_); (try simp only [true_implies, false_implies, not_false_eq_true, tget_cons, if_true, if_false, Nat.reduceEqDiff, ccells, Obt_some, Kn_normal, newL_eq, newP_eq, nmA_f, nmR_f, gn_var, gnext_setL, lget_setL, setL_setL, setL_H, Nat.reduceMul, Nat.reduceAdd, Nat.zero_add, fldA_ptr, List.drop_zero, ld1_l, rd1_var, List.getElem?_cons_zero, List.getElem?_cons_succ, Obt_lss, Obt_geq, Obt_eql, gdO_tf, gdO_ff, Option.map_some, pickX_t, pickX_f, lenS, Obt_map, Obt_add, Obt_ext, Obt_bind, fillX, bslX, escP_list, stX_l, stV_var, splice, List.take_zero, List.take_succ_cons, List.drop_succ_cons, List.drop_nil, List.nil_append, List.cons_append, List.append_nil, List.length_cons, List.length_nil, and_self, and_true, true_and, Nat.le_refl, escP, List.all_cons, List.all_nil, Bool.and_self, if_false, if_true, r20, tend, tresAll, tresC, Option.bind_some, mapMem, retv_l, retR_arr, Nat.sub_self, tup_one, clen_sl, h1, h2, ge_iff_le, kH, hix, inC, ldA_r6, kJ, e1, e2, e3, w1]))
        | (revert hK; intro hK; (with_reducible refine hK _ ?_; clear hK K)))
        all_goals first | rfl | simp_all
theorem k20 {p : List In} {i : Int} (hp : p.length ≤ 4611686018427387904) {fid : FuncId} {t : Tmp} {m : Mem} {K : CV × Mem → Prop} (hgl : (An.glob fid).contains t = false)
    (hK : ∀ v m', OwnE intC 1 m' (16 * t) v (sucI p i) → m'.H = m.H → (∀ i, i ≠ 16 * t → lget m'.L i = lget m.L i) → K (v, m')) : Obt (callC An FF fid (some t) 20 [sl inC p, .int .i64 i] m) K :=
  callC_O (x20 p i hp) rfl (by simp only [cans, can_int, inE.can_sl]) rfl (by simp only [noGs, noG_int, inE.noG_sl, Bool.and_self]) intE.noG hgl hK
end Go.Cm

namespace Go.Cm
open Go.Proofs Go.Fl
def eqA (b : Bool) (X : Option Bool) : Option Bool := match (some b : Option Bool) with
  | some true => X
  | r => r
theorem eqA_and (b c : Bool) : eqA b (some c) = some (b && c) := by cases b <;> rfl
theorem in_ceq0 (o1 d1 s1 f1 i1 w1 o2 d2 s2 f2 i2 w2 : Int) : ceq Try.prog 20 47 (.agg [.int .i64 o1, .int .i64 d1, .int .i64 s1, .int .i64 f1, .int .i64 i1, .int .u64 w1]) (.agg [.int .i64 o2, .int .i64 d2, .int .i64 s2, .int .i64 f2, .int .i64 i2, .int .u64 w2]) =
    eqA (o1 == o2) (eqA (d1 == d2) (eqA (s1 == s2) (eqA (f1 == f2) (eqA (i1 == i2) (eqA (w1 == w2) (some true)))))) := by
  kernel_rfl
theorem in_guard : Try.prog.eqGuardType Try.prog.depth 47 = false := by kernel_rfl
def zIn (x : In) : Bool := decide (x.op = 0 ∧ x.dst = 0 ∧ x.src = 0 ∧ x.off = 0 ∧ x.imm = 0 ∧ x.wide = 0)
theorem in_neq (y : In) {a b : Operand} : cbin Try.prog .neq 47 a b (.agg [.int .i64 y.op, .int .i64 y.dst, .int .i64 y.src, .int .i64 y.off, .int .i64 y.imm, .int .u64 y.wide]) (.agg [.int .i64 0, .int .i64 0, .int .i64 0, .int .i64 0, .int .i64 0, .int .u64 0]) = some (.bool (!(zIn y))) := by
  have h : (y.op == 0 && (y.dst == 0 && (y.src == 0 && (y.off == 0 && (y.imm == 0 && (y.wide == 0 && true)))))) = zIn y := by
    unfold zIn
    rw [Bool.eq_iff_iff]
    simp only [Bool.and_true, Bool.and_eq_true, beq_iff_eq, decide_eq_true_eq]
  simp only [cbin, eqC, in_guard, in_ceq0, eqA_and, h, Bool.false_eq_true, if_false, Option.map_some]
theorem twoB_eq {p : List In} {i : Nat} {x : In} : twoB p i x = (decide (x.op ≠ 24) || (match p[i + 1]? with | some y => zIn y | none => false)) := rfl
set_option maxHeartbeats 4000000 in
theorem inner18 {p : List In} {i : Nat} (hi : (i : Int) ≤ p.length) (hp : p.length ≤ 4096) {v : CV} {L' : List (Nat × HO)} (hO : OwnE intC 1 ⟨L', []⟩ 848 v (sucI p i)) {Q' : CE → TS → Prop}
    (hx : (sucI p i).all (goB p) = true → ∀ L'' v', Q' (.exit 3) ⟨[(0, sl inC p), (4, .int .i64 i), (16, sl inC p), (17, .int .i64 p.length), (18, .int .i64 i), (53, v'), (54, .int .i64 (sucI p i).length), (55, .int .i64 (sucI p i).length), (56, .bool false)], ⟨L'', []⟩⟩)
    (hr : (sucI p i).all (goB p) = false → ∀ L'', Q' .ret ⟨[(2, .int .i64 i), (3, .int .i64 40)], ⟨L'', []⟩⟩) :
    Tx Try.prog An FF 18 (.loop c18l0) ⟨[(0, sl inC p), (4, .int .i64 i), (16, sl inC p), (17, .int .i64 p.length), (18, .int .i64 i), (53, v), (54, .int .i64 (sucI p i).length), (55, .int .i64 0)], ⟨L', []⟩⟩ Q' := by
  obtain ⟨S, hS⟩ : ∃ S, S = sucI p i := ⟨_, rfl⟩
  have hSl : S.length ≤ 2 := by
    rw [hS]
    show (succL jB wrI p i).length ≤ 2
    unfold succL
    repeat' (first | split | simp | omega)
  rw [← hS] at hO hx hr ⊢
  clear hS
  have kH : ∀ i t m, callC An FF 18 (some t) 34 [sl inC p, .int .i64 i] m = some (.bool (holeI p i), m) := fun i t m => k34 (by omega)
  refine Tx_loopK (fun k s => ∃ (dn td : List Int) (L : List (Nat × HO)), S = dn ++ td ∧ k = td.length ∧ dn.all (goB p) = true ∧ OwnE intC 1 ⟨L, []⟩ 848 v S ∧
      s = ⟨[(0, sl inC p), (4, .int .i64 i), (16, sl inC p), (17, .int .i64 p.length), (18, .int .i64 i), (53, v), (54, .int .i64 S.length), (55, .int .i64 dn.length)], ⟨L, []⟩⟩) _ ⟨[], S, _, rfl, rfl, rfl, hO, rfl⟩ ?_
  clear hO
  rintro k s ⟨dn, td, L, h3, rfl, hg, hO, rfl⟩ QL0 hnL0 hxL0 hrL0
  have hlen := congrArg List.length h3
  simp only [List.length_append] at hlen
  simp only [c18l0]
  cases td with
  | nil =>
    simp only [List.length_nil] at hlen
    rw [List.append_nil] at h3
    have hge : ¬ ((dn.length : Int) < S.length) := by omega
    have e : dn.length = S.length := by omega
    repeat' (first
    | with_reducible (first | refine Tx_noK rfl ?_ | refine Tx_exitK ?_ | refine hxL0 _ _ ?_)
    | (with_reducible (refine Tx_regK (fun K hK => ?_); refine t18r12 ?_); (try simp only [true_implies, false_implies, not_false_eq_true, tget_cons, if_true, if_false, Nat.reduceEqDiff, Kn_normal, Obt_lss, true_and, if_false, if_true, hge]))
    | (revert hK; intro hK; (with_reducible refine hK _ ?_; clear hK K)))
    rw [e]
    exact hx (by rw [h3]; exact hg) _ _
  | cons y td =>
    simp only [List.length_cons] at hlen
    have hlt : (dn.length : Int) < S.length := by omega
    have hw : IntKind.i64.wrap ((dn.length : Int) + 1) = dn.length + 1 := wI (by omega) (by omega)
    have hget : S[dn.length]? = some y := by rw [h3]; simp
    obtain ⟨q, hq1, hq2⟩ := hO.at hget (k := .i64)
    have hld : ld1 ⟨L, []⟩ q = some (.int .i64 y) := hq2 _ rfl
    have hbad : goB p y = false → S.all (goB p) = false := fun h => by rw [h3, List.all_append, List.all_cons, h, Bool.false_and, Bool.and_false]
    by_cases g1 : y < 0
    · have hb := hr (hbad (by rw [goB, decide_eq_false (by omega)]; rfl))
      repeat' (first
      | with_reducible (first | refine Tx_nopK ?_ | refine Tx_yesK rfl ?_ | refine Tx_yes rfl ?_ | refine Tx_ret ?_ | refine Tx_blockK (id := 4) (fun Q4 hn4 hx4 hr4 ho4 => ?_) | refine hr4 _ ?_ | refine hrL0 _ ?_)
      | (with_reducible (refine Tx_regK (fun K hK => ?_); (first | refine t18r12 ?_ | refine t18r13 ?_ | refine t18r14 ?_ | refine t18r15 ?_)); (try simp only [true_implies, false_implies, not_true_eq_false, tget_cons, if_true, if_false, Nat.reduceEqDiff, Obt_some, Kn_normal, Obt_lss, Obt_geq, gdO_tf, gdO_ff, pickX_t, pickX_f, lenS, Obt_map, and_true, if_false, if_true, clen_sl, hlt, hq1, hld, g1]))
      | (revert hK; intro hK; (with_reducible refine hK _ ?_; clear hK K)))
      all_goals exact hb _
    by_cases g2 : (p.length : Int) ≤ y
    · have hb := hr (hbad (by rw [goB, decide_eq_false (p := y < p.length) (by omega), Bool.false_and, Bool.and_false]))
      repeat' (first
      | with_reducible (first | refine Tx_nopK ?_ | refine Tx_yesK rfl ?_ | refine Tx_yes rfl ?_ | refine Tx_ret ?_ | refine Tx_blockK (id := 4) (fun Q4 hn4 hx4 hr4 ho4 => ?_) | refine hr4 _ ?_ | refine hrL0 _ ?_)
      | (with_reducible (refine Tx_regK (fun K hK => ?_); (first | refine t18r12 ?_ | refine t18r13 ?_ | refine t18r14 ?_ | refine t18r15 ?_)); (try simp only [true_implies, false_implies, not_true_eq_false, not_false_eq_true, tget_cons, if_true, if_false, Nat.reduceEqDiff, Obt_some, Kn_normal, Obt_lss, Obt_geq, gdO_tf, gdO_ff, pickX_t, pickX_f, lenS, Obt_map, and_true, true_and, if_false, if_true, clen_sl, hlt, hq1, hld, g1, g2, ge_iff_le]))
      | (revert hK; intro hK; (with_reducible refine hK _ ?_; clear hK K)))
      all_goals exact hb _
    have kHy := kH y
    cases hh : holeI p y with
    | true =>
      rw [hh] at kHy
      have hb := hr (hbad (by rw [goB, hh, Bool.not_true, Bool.and_false, Bool.and_false]))
      repeat' (first
      | with_reducible (first | refine Tx_nopK ?_ | refine Tx_yesK rfl ?_ | refine Tx_yes rfl ?_ | refine Tx_ret ?_ | refine Tx_blockK (id := 4) (fun Q4 hn4 hx4 hr4 ho4 => ?_) | refine hr4 _ ?_ | refine hrL0 _ ?_)
      | (with_reducible (refine Tx_regK (fun K hK => ?_); (first | refine t18r12 ?_ | refine t18r13 ?_ | refine t18r14 ?_ | refine t18r15 ?_)); (try simp only [true_implies, false_implies, not_true_eq_false, not_false_eq_true, tget_cons, if_true, if_false, Nat.reduceEqDiff, Obt_some, Kn_normal, Obt_lss, Obt_geq, gdO_tf, gdO_ff, pickX_t, pickX_f, lenS, Obt_map, and_true, true_and, if_false, if_true, clen_sl, hlt, hq1, hld, g1, g2, ge_iff_le, kHy]))
      | (revert hK; intro hK; (with_reducible refine hK _ ?_; clear hK K)))
      all_goals exact hb _
    | false =>
      rw [hh] at kHy
      have hgo : goB p y = true := by rw [goB, hh, decide_eq_true (by omega), decide_eq_true (by omega)]; rfl
      repeat' (first
      | with_reducible (first | refine Tx_nopK ?_ | refine Tx_yesK rfl ?_ | refine Tx_no rfl ?_ | refine Tx_nop ?_ | refine Tx_blockK (id := 4) (fun Q4 hn4 hx4 hr4 ho4 => ?_) | refine hn4 _ ?_)
      | (with_reducible ((first | refine Tx_regK (fun K hK => ?_) | refine Tx_regE (fun K hK => ?_)); (first | refine t18r12 ?_ | refine t18r13 ?_ | refine t18r14 ?_ | refine t18r16 ?_)); (try simp only [true_implies, false_implies, not_true_eq_false, not_false_eq_true, tget_cons, if_true, if_false, Nat.reduceEqDiff, Obt_some, Kn_normal, Obt_lss, Obt_geq, gdO_tf, gdO_ff, pickX_t, pickX_f, lenS, Obt_map, Obt_add, and_true, true_and, if_false, if_true, clen_sl, hlt, hq1, hld, g1, g2, ge_iff_le, kHy, hw]))
      | (revert hK; intro hK; (with_reducible refine hK _ ?_; clear hK K)))
      have e : ((dn.length : Int) + 1) = ((dn ++ [y]).length : Int) := by simp
      rw [e]
      exact hnL0 td.length _ (by simp) ⟨dn ++ [y], td, L, by simp [h3], rfl, by rw [List.all_append, hg]; simp [hgo], hO, rfl⟩
set_option maxHeartbeats 8000000 in
theorem x18 (p : List In) (hp : p.length ≤ 9223372036854775807) : ∃ r, (∃ i H', r = (CV.tuple [.int .i64 i, .int .i64 (chkP p)], H')) ∧ FF 18 [sl inC p] [] = some r := by
  by_cases h1 : (4096 : Int) < p.length
  · have he : chkP p = 31 := by show chkE jB wrI insB p = _; unfold chkE; rw [if_pos (by omega)]
    rw [he]
    refine Fw_funE rfl Try.func18 s18 (Nat.le_of_ble_eq_true rfl) (fun Q hqr hqn => ?_)
    rw [cin_t (show An.pure 18 = true from rfl) (by simp only [cans, can_int, can_bool, can_agg, can_str, inE.can_sl])]
    simp only [tinit, Nat.reduceAdd, c18]
    repeat' (first
    | with_reducible (first | refine Tx_yes rfl ?_ | refine Tx_ret ?_ | refine Tx_blockK (id := 0) (fun Q0 hn0 hx0 hr0 ho0 => ?_) | refine hr0 _ ?_)
    | (with_reducible (first | (refine Tx_regK (fun K hK => ?_); (first | refine t18r0 ?_ | refine t18r1 ?_ | refine t18r2 ?_)) | refine hqr _ ?_); (try simp only [true_implies, false_implies, not_true_eq_false, tget_cons, if_true, if_false, Nat.reduceEqDiff, Obt_some, Kn_normal, Obt_gtr, Option.map_some, lenS, and_true, if_false, if_true, r18, tend, tresAll, tresC, Option.bind_some, mapMem, retv_int, tup_two, Prod.mk.injEq, clen_sl, h1, gt_iff_lt]))
    | (revert hK; intro hK; (with_reducible refine hK _ ?_; clear hK K)))
    all_goals first | exact ⟨_, _, rfl, rfl⟩ | exact ⟨_, _, rfl⟩
  by_cases h2 : (p.length : Int) = 0
  · have he : chkP p = 40 := by show chkE jB wrI insB p = _; unfold chkE; rw [if_neg (by omega), if_pos (by omega)]
    rw [he]
    refine Fw_funE rfl Try.func18 s18 (Nat.le_of_ble_eq_true rfl) (fun Q hqr hqn => ?_)
    rw [cin_t (show An.pure 18 = true from rfl) (by simp only [cans, can_int, can_bool, can_agg, can_str, inE.can_sl])]
    simp only [tinit, Nat.reduceAdd, c18]
    repeat' (first
    | with_reducible (first | refine Tx_yes rfl ?_ | refine Tx_no rfl ?_ | refine Tx_ret ?_ | refine Tx_blockK (id := 0) (fun Q0 hn0 hx0 hr0 ho0 => ?_) | refine hr0 _ ?_)
    | (with_reducible (first | (refine Tx_regK (fun K hK => ?_); (first | refine t18r0 ?_ | refine t18r1 ?_ | refine t18r3 ?_ | refine t18r4 ?_)) | refine hqr _ ?_); (try simp only [true_implies, false_implies, not_true_eq_false, tget_cons, if_true, if_false, Nat.reduceEqDiff, Obt_some, Kn_normal, Obt_gtr, Obt_eql, Option.map_some, lenS, and_true, if_false, if_true, r18, tend, tresAll, tresC, Option.bind_some, mapMem, retv_int, tup_two, Prod.mk.injEq, clen_sl, h2, gt_iff_lt]))
    | (revert hK; intro hK; (first | refine And.intro ?_ ?_ | intro _ | omega | (with_reducible refine hK _ ?_; clear hK K))))
    all_goals first | exact ⟨_, _, rfl, rfl⟩ | exact ⟨_, _, rfl⟩
  have hbad : chkFrom jB wrI insB p 0 p = false → chkP p = 40 := fun h => by
    show chkE jB wrI insB p = _
    unfold chkE
    rw [if_neg (by omega), if_neg (by omega), if_neg (by rw [h]; decide)]
  have hgood : chkFrom jB wrI insB p 0 p = true → chkP p = 0 := fun h => by
    show chkE jB wrI insB p = _
    unfold chkE
    rw [if_neg (by omega), if_neg (by omega), if_pos h]
  have kH : ∀ i t m, callC An FF 18 (some t) 34 [sl inC p, .int .i64 i] m = some (.bool (holeI p i), m) := fun i t m => k34 (by omega)
  refine Fw_funE rfl Try.func18 s18 (Nat.le_of_ble_eq_true rfl) (fun Q hqr hqn => ?_)
  rw [cin_t (show An.pure 18 = true from rfl) (by simp only [cans, can_int, can_bool, can_agg, can_str, inE.can_sl])]
  simp only [tinit, Nat.reduceAdd, c18]
  repeat' (first
  | with_reducible (first | refine Tx_assoc ?_ | refine Tx_no rfl ?_ | refine Tx_nop ?_ | refine Tx_blockK (id := 0) (fun Q0 hn0 hx0 hr0 ho0 => ?_) | refine hn0 _ ?_ | refine Tx_blockK (id := 1) (fun Q1 hn1 hx1 hr1 ho1 => ?_))
  | (with_reducible (refine Tx_regK (fun K hK => ?_); (first | refine t18r0 ?_ | refine t18r1 ?_ | refine t18r3 ?_ | refine t18r5 ?_)); (try simp only [true_implies, false_implies, not_false_eq_true, tget_cons, if_true, if_false, Nat.reduceEqDiff, Obt_some, Kn_normal, Obt_gtr, Obt_eql, Option.map_some, lenS, true_and, if_false, if_true, clen_sl, h1, h2, gt_iff_lt]))
  | (revert hK; intro hK; (with_reducible refine hK _ ?_; clear hK K)))
  refine Tx_loopK (fun k s => ∃ (dn td : List In) (L : List (Nat × HO)), p = dn ++ td ∧ k = td.length ∧ chkFrom jB wrI insB p 0 p = chkFrom jB wrI insB p dn.length td ∧
      s = ⟨[(0, sl inC p), (16, sl inC p), (17, .int .i64 p.length), (18, .int .i64 dn.length)], ⟨L, []⟩⟩) _ ⟨[], p, _, rfl, rfl, rfl, rfl⟩ ?_
  rintro k s ⟨dn, td, L, h3, rfl, hc, rfl⟩ QL1 hnL1 hxL1 hrL1
  have hlen := congrArg List.length h3
  simp only [List.length_append] at hlen
  simp only [c18l1]
  cases td with
  | nil =>
    simp only [List.length_nil] at hlen
    have hge : ¬ ((dn.length : Int) < p.length) := by omega
    have he := hgood hc
    repeat' (first
    | with_reducible (first | refine Tx_noK rfl ?_ | refine Tx_exitK ?_ | refine Tx_ret ?_ | refine hx1 _ ?_ | refine hxL1 _ _ ?_)
    | (with_reducible (first | (refine Tx_regK (fun K hK => ?_); (first | refine t18r6 ?_ | refine t18r18 ?_)) | refine hqr _ ?_); (try simp only [true_implies, false_implies, not_false_eq_true, tget_cons, if_true, if_false, Nat.reduceEqDiff, Obt_some, Kn_normal, Obt_lss, Option.map_some, true_and, if_false, if_true, r18, tend, tresAll, tresC, Option.bind_some, mapMem, retv_int, tup_two, Prod.mk.injEq, hge, he]))
    | (revert hK; intro hK; (with_reducible refine hK _ ?_; clear hK K)))
    all_goals first | exact ⟨_, _, rfl, rfl⟩ | exact ⟨_, _, rfl⟩
  | cons x td =>
    simp only [List.length_cons] at hlen
    have hlt : (dn.length : Int) < p.length := by omega
    have hw : IntKind.i64.wrap ((dn.length : Int) + 1) = dn.length + 1 := wI (by omega) (by omega)
    have hix := idxS_split (k := .i64) inE.len (by omega : 0 < 6) h3
    have hc2 : chkFrom jB wrI insB p dn.length (x :: td) = (okAt jB wrI insB p dn.length x && chkFrom jB wrI insB p (dn.length + 1) td) := rfl
    have hbad2 : okAt jB wrI insB p dn.length x = false → chkP p = 40 := fun h => hbad (by rw [hc, hc2, h]; rfl)
    have hnext : okAt jB wrI insB p dn.length x = true → ∀ L', QL1 .normal ⟨[(0, sl inC p), (16, sl inC p), (17, .int .i64 p.length), (18, .int .i64 ((dn.length : Int) + 1))], ⟨L', []⟩⟩ := fun h L' => by
      have e : ((dn.length : Int) + 1) = ((dn ++ [x]).length : Int) := by simp
      rw [e]
      exact hnL1 td.length _ (by simp) ⟨dn ++ [x], td, L', by simp [h3], rfl, by rw [hc, hc2, h, Bool.true_and]; simp, rfl⟩
    have hsetL : ∀ (L : List (Nat × HO)) (H : List HO) i x, setL ⟨L, H⟩ i x = ⟨lset L i x, H⟩ := fun _ _ _ _ => rfl
    have kI : ∀ t m, callC An FF 18 (some t) 35 [.agg [.int .i64 x.op, .int .i64 x.dst, .int .i64 x.src, .int .i64 x.off, .int .i64 x.imm, .int .u64 x.wide]] m = some (.bool (insB x), m) := fun t m => k35
    obtain ⟨hh, ehh⟩ : ∃ hh, hh = holeI p dn.length := ⟨_, rfl⟩
    have kH1 := kH dn.length
    rw [← ehh] at kH1
    cases hh with
    | true =>
      have hok : okAt jB wrI insB p dn.length x = true := by rw [okAt, ← ehh]; rfl
      repeat' (first
      | with_reducible (first | refine Tx_assoc ?_ | refine Tx_nopK ?_ | refine Tx_yesK rfl ?_ | refine Tx_exitK ?_ | refine Tx_blockK (id := 2) (fun Q2 hn2 hx2 hr2 ho2 => ?_) | refine hx2 _ ?_)
      | (with_reducible ((first | refine Tx_regK (fun K hK => ?_) | refine Tx_regE (fun K hK => ?_)); (first | refine t18r6 ?_ | refine t18r7 ?_ | refine t18r8 ?_ | refine t18r17 ?_)); (try simp only [true_implies, false_implies, not_true_eq_false, tget_cons, if_true, if_false, Nat.reduceEqDiff, ccells, Obt_some, Kn_normal, newL_eq, newP_eq, lget_lset, Nat.reduceAdd, Nat.zero_add, Obt_lss, Obt_add, stX_l, stV_var, splice, List.take_zero, List.drop_succ_cons, List.drop_nil, List.nil_append, List.cons_append, List.append_nil, List.length_cons, List.length_nil, and_self, and_true, Nat.le_refl, if_false, if_true, hlt, hix, inC, ldA_r6, hsetL, kH1, hw]))
      | (revert hK; intro hK; (with_reducible refine hK _ ?_; clear hK K)))
      all_goals exact hnext hok _
    | false =>
      have hok : okAt jB wrI insB p dn.length x = (insB x && (twoB p dn.length x && (sucI p dn.length).all (goB p))) := by rw [okAt, ← ehh]; rfl
      rw [hok] at hbad2 hnext
      clear hok hc2
      cases hI : insB x with
      | false =>
        rw [hI] at kI hbad2
        have he := hbad2 rfl
        repeat' (first
        | with_reducible (first | refine Tx_assoc ?_ | refine Tx_nopK ?_ | refine Tx_yesK rfl ?_ | refine Tx_noK rfl ?_ | refine Tx_retK ?_ | refine hr1 _ ?_ | refine Tx_blockK (id := 2) (fun Q2 hn2 hx2 hr2 ho2 => ?_) | refine hr2 _ ?_ | refine hrL1 _ ?_)
        | (with_reducible (first | (refine Tx_regK (fun K hK => ?_); (first | refine t18r6 ?_ | refine t18r7 ?_ | refine t18r8 ?_ | refine t18r9 ?_ | refine t18r10 ?_)) | refine hqr _ ?_); (try simp only [true_implies, false_implies, not_true_eq_false, tget_cons, if_true, if_false, Nat.reduceEqDiff, ccells, Obt_some, Kn_normal, newL_eq, newP_eq, lget_lset, Nat.reduceAdd, Nat.zero_add, fldA_ptr, List.drop_zero, ldA_l, Obt_lss, Obt_not, gdO_tf, gdO_skip, Option.map_some, pickX_t, Bool.not_false, lenS, fillX, stX_l, stV_var, splice, List.take_zero, List.take_succ_cons, List.drop_succ_cons, List.drop_nil, List.nil_append, List.cons_append, List.append_nil, List.length_cons, List.length_nil, and_self, and_true, Nat.le_refl, rdA_var, if_false, if_true, r18, tend, tresAll, tresC, Option.bind_some, mapMem, retv_int, tup_two, Prod.mk.injEq, hlt, hix, inC, ldA_r6, hsetL, kH1, kI, he]))
        | (revert hK; intro hK; (with_reducible refine hK _ ?_; clear hK K)))
        all_goals first | exact ⟨_, _, rfl, rfl⟩ | exact ⟨_, _, rfl⟩
      | true =>
        rw [hI] at kI hbad2 hnext
        have hin : twoB p dn.length x = true → ∀ (v : CV) (L' : List (Nat × HO)) (Q' : CE → TS → Prop), OwnE intC 1 ⟨L', []⟩ 848 v (sucI p dn.length) →
            (∀ L'' v', (∀ L3, QL1 .normal ⟨[(0, sl inC p), (16, sl inC p), (17, .int .i64 p.length), (18, .int .i64 ((dn.length : Int) + 1))], ⟨L3, []⟩⟩) → Q' (.exit 3) ⟨[(0, sl inC p), (4, .int .i64 dn.length), (16, sl inC p), (17, .int .i64 p.length), (18, .int .i64 dn.length), (53, v'), (54, .int .i64 (sucI p dn.length).length), (55, .int .i64 (sucI p dn.length).length), (56, .bool false)], ⟨L'', []⟩⟩) →
            (∀ L'', chkP p = 40 → Q' .ret ⟨[(2, .int .i64 dn.length), (3, .int .i64 40)], ⟨L'', []⟩⟩) →
            Tx Try.prog An FF 18 (.loop c18l0) ⟨[(0, sl inC p), (4, .int .i64 dn.length), (16, sl inC p), (17, .int .i64 p.length), (18, .int .i64 dn.length), (53, v), (54, .int .i64 (sucI p dn.length).length), (55, .int .i64 0)], ⟨L', []⟩⟩ Q' := by
          intro hT v L' Q' hO hx hr
          rw [hT, Bool.true_and, Bool.true_and] at hbad2 hnext
          exact inner18 (by omega) (by omega) hO (fun h L'' v' => hx L'' v' (hnext h)) (fun h L'' => hr L'' (hbad2 h))
        by_cases h24 : x.op = 24
        · rw [h24] at kI
          by_cases hend : (dn.length : Int) + 1 = p.length
          · have hwp : IntKind.i64.wrap (p.length : Int) = p.length := wI (by omega) (by omega)
            have he := hbad2 (by
              rw [twoB_eq, h24, List.getElem?_eq_none (by omega)]; rfl)
            repeat' (first
            | with_reducible (first | refine Tx_assoc ?_ | refine Tx_nopK ?_ | refine Tx_yesK rfl ?_ | refine Tx_noK rfl ?_ | refine Tx_retK ?_ | refine hr1 _ ?_ | refine Tx_blockK (id := 2) (fun Q2 hn2 hx2 hr2 ho2 => ?_) | refine hr2 _ ?_ | refine hrL1 _ ?_)
            | (with_reducible (first | (refine Tx_regK (fun K hK => ?_); (first | refine t18r6 ?_ | refine t18r7 ?_ | refine t18r8 ?_ | refine t18r9 ?_ | refine t18r10 ?_)) | refine hqr _ ?_); (try simp only [true_implies, false_implies, not_true_eq_false, tget_cons, if_true, if_false, Nat.reduceEqDiff, ccells, Obt_some, Kn_normal, newL_eq, newP_eq, lget_lset, Nat.reduceAdd, Nat.zero_add, fldA_ptr, List.drop_zero, ld1_l, ldA_l, rd1_var, List.getElem?_cons_zero, Obt_lss, Obt_eql, Obt_not, gdO_tt, gdO_tf, gdO_ff, gdO_ft, gdO_skip, Option.map_some, pickX_t, pickX_f, Bool.not_true, lenS, Obt_map, Obt_add, fillX, stX_l, stV_var, splice, List.take_zero, List.take_succ_cons, List.drop_succ_cons, List.drop_nil, List.nil_append, List.cons_append, List.append_nil, List.length_cons, List.length_nil, and_self, and_true, Nat.le_refl, rdA_var, if_false, if_true, r18, tend, tresAll, tresC, Option.bind_some, mapMem, retv_int, tup_two, Prod.mk.injEq, clen_sl, hlt, hix, inC, ldA_r6, hsetL, kH1, kI, he, h24, hw, hwp, hend, eq_self]))
            | (revert hK; intro hK; (with_reducible refine hK _ ?_; clear hK K)))
            all_goals first | exact ⟨_, _, rfl, rfl⟩ | exact ⟨_, _, rfl⟩
          · obtain ⟨y, hy⟩ : ∃ y, p[dn.length + 1]? = some y := ⟨_, List.getElem?_eq_getElem (by omega)⟩
            have hiy := idxS_sl (k := .i64) (i := (dn.length : Int) + 1) inE.len (by omega : 0 < 6) (by omega) (by rw [show ((dn.length : Int) + 1).toNat = dn.length + 1 by omega]; exact hy)
            have hty : twoB p dn.length x = zIn y := by rw [twoB_eq, h24, hy]; rfl
            have hnq := fun a b => in_neq y (a := a) (b := b)
            cases hz : zIn y with
            | false =>
              rw [hz] at hnq
              have he := hbad2 (by rw [hty, hz]; rfl)
              repeat' (first
              | with_reducible (first | refine Tx_assoc ?_ | refine Tx_nopK ?_ | refine Tx_yesK rfl ?_ | refine Tx_noK rfl ?_ | refine Tx_retK ?_ | refine hr1 _ ?_ | refine Tx_blockK (id := 2) (fun Q2 hn2 hx2 hr2 ho2 => ?_) | refine hr2 _ ?_ | refine hrL1 _ ?_)
              | (with_reducible (first | (refine Tx_regK (fun K hK => ?_); (first | refine t18r6 ?_ | refine t18r7 ?_ | refine t18r8 ?_ | refine t18r9 ?_ | refine t18r10 ?_)) | refine hqr _ ?_); (try simp only [true_implies, false_implies, not_true_eq_false, not_false_eq_true, tget_cons, if_true, if_false, Nat.reduceEqDiff, ccells, Obt_some, Kn_normal, newL_eq, newP_eq, lget_lset, Nat.reduceAdd, Nat.zero_add, fldA_ptr, List.drop_zero, ld1_l, ldA_l, rd1_var, List.getElem?_cons_zero, Obt_lss, Obt_eql, Obt_not, gdO_tt, gdO_tf, gdO_ff, gdO_ft, gdO_skip, Option.map_some, pickX_t, pickX_f, Bool.not_true, Bool.not_false, lenS, Obt_map, Obt_add, fillX, stX_l, stV_var, splice, List.take_zero, List.take_succ_cons, List.drop_succ_cons, List.drop_nil, List.nil_append, List.cons_append, List.append_nil, List.length_cons, List.length_nil, and_self, and_true, true_and, Nat.le_refl, rdA_var, if_false, if_true, r18, tend, tresAll, tresC, Option.bind_some, mapMem, retv_int, tup_two, Prod.mk.injEq, clen_sl, hlt, hix, inC, ldA_r6, hsetL, kH1, kI, he, h24, hw, hend, hiy, hnq]))
              | (revert hK; intro hK; (with_reducible refine hK _ ?_; clear hK K)))
              all_goals first | exact ⟨_, _, rfl, rfl⟩ | exact ⟨_, _, rfl⟩
            | true =>
              rw [hz] at hnq
              repeat' (first
              | with_reducible (first | refine Tx_assoc ?_ | refine Tx_nopK ?_ | refine Tx_yesK rfl ?_ | refine Tx_noK rfl ?_ | refine Tx_blockK (id := 2) (fun Q2 hn2 hx2 hr2 ho2 => ?_))
              | (with_reducible (refine Tx_regK (fun K hK => ?_); (first | refine t18r6 ?_ | refine t18r7 ?_ | refine t18r8 ?_ | refine t18r9 ?_ | refine t18r11 ?_)); (try simp only [true_implies, false_implies, not_true_eq_false, not_false_eq_true, tget_cons, if_true, if_false, Nat.reduceEqDiff, ccells, Obt_some, Kn_normal, newL_eq, newP_eq, lget_lset, Nat.reduceAdd, Nat.zero_add, fldA_ptr, List.drop_zero, ld1_l, ldA_l, rd1_var, List.getElem?_cons_zero, Obt_lss, Obt_eql, Obt_not, gdO_tt, gdO_tf, gdO_ff, gdO_ft, gdO_skip, Option.map_some, pickX_t, pickX_f, Bool.not_true, lenS, Obt_map, Obt_add, fillX, stX_l, stV_var, splice, List.take_zero, List.take_succ_cons, List.drop_succ_cons, List.drop_nil, List.nil_append, List.cons_append, List.append_nil, List.length_cons, List.length_nil, and_self, and_true, true_and, Nat.le_refl, rdA_var, if_false, if_true, clen_sl, hlt, hix, inC, ldA_r6, hsetL, kH1, kI, h24, hw, hend, hiy, hnq]))
              | (revert hK; intro hK; (with_reducible refine hK _ ?_; clear hK K)))
              refine k20 (by omega) rfl fun v m' hO hH' _ => ?_
              simp only [hO.len, lenS, Option.map_some, Obt_some]
              refine hK _ ?_
              clear hK K
              obtain ⟨L', H'⟩ := m'
              simp only at hH'
              subst hH'
              repeat' (first
              | with_reducible refine Tx_blockE (id := 3) (fun Q3 hn3 hx3 hr3 ho3 => ?_))
              refine hin (by rw [hty, hz]) _ _ _ hO ?_ ?_
              · intro L'' v' hn
                repeat' (first
                | with_reducible (first | refine hn2 _ ?_ | refine hx3 _ ?_)
                | (with_reducible (refine Tx_regE (fun K hK => ?_); refine t18r17 ?_); (try simp only [tget_cons, if_true, if_false, Nat.reduceEqDiff, Kn_normal, Obt_add, if_false, if_true, hw]))
                | (revert hK; intro hK; (with_reducible refine hK _ ?_; clear hK K)))
                exact hn _
              · intro L'' he
                repeat' (first
                | with_reducible (first | refine hr1 _ ?_ | refine hr2 _ ?_ | refine hr3 _ ?_ | refine hrL1 _ ?_)
                | (with_reducible refine hqr _ ?_; (try simp only [tget_cons, if_true, if_false, Nat.reduceEqDiff, Obt_some, Option.map_some, if_false, if_true, r18, tend, tresAll, tresC, Option.bind_some, mapMem, retv_int, tup_two, Prod.mk.injEq, he])))
                exact ⟨_, _, rfl, rfl⟩
        · repeat' (first
          | with_reducible (first | refine Tx_assoc ?_ | refine Tx_nopK ?_ | refine Tx_yesK rfl ?_ | refine Tx_noK rfl ?_ | refine Tx_blockK (id := 2) (fun Q2 hn2 hx2 hr2 ho2 => ?_))
          | (with_reducible (refine Tx_regK (fun K hK => ?_); (first | refine t18r6 ?_ | refine t18r7 ?_ | refine t18r8 ?_ | refine t18r9 ?_ | refine t18r11 ?_)); (try simp only [true_implies, false_implies, not_true_eq_false, not_false_eq_true, tget_cons, if_true, if_false, Nat.reduceEqDiff, ccells, Obt_some, Kn_normal, newL_eq, newP_eq, lget_lset, Nat.reduceAdd, Nat.zero_add, fldA_ptr, List.drop_zero, ld1_l, ldA_l, rd1_var, List.getElem?_cons_zero, Obt_lss, Obt_eql, Obt_not, gdO_tt, gdO_tf, gdO_ff, gdO_ft, gdO_skip, Option.map_some, pickX_t, pickX_f, Bool.not_true, lenS, Obt_map, Obt_add, fillX, stX_l, stV_var, splice, List.take_zero, List.take_succ_cons, List.drop_succ_cons, List.drop_nil, List.nil_append, List.cons_append, List.append_nil, List.length_cons, List.length_nil, and_self, and_true, true_and, Nat.le_refl, rdA_var, if_false, if_true, clen_sl, hlt, hix, inC, ldA_r6, hsetL, kH1, kI, h24, hw]))
          | (revert hK; intro hK; (with_reducible refine hK _ ?_; clear hK K)))
          refine k20 (by omega) rfl fun v m' hO hH' _ => ?_
          simp only [hO.len, lenS, Option.map_some, Obt_some]
          refine hK _ ?_
          clear hK K
          obtain ⟨L', H'⟩ := m'
          simp only at hH'
          subst hH'
          repeat' (first
          | with_reducible refine Tx_blockE (id := 3) (fun Q3 hn3 hx3 hr3 ho3 => ?_))
          refine hin (by rw [twoB_eq, decide_eq_true h24]; rfl) _ _ _ hO ?_ ?_
          · intro L'' v' hn
            repeat' (first
            | with_reducible (first | refine hn2 _ ?_ | refine hx3 _ ?_)
            | (with_reducible (refine Tx_regE (fun K hK => ?_); refine t18r17 ?_); (try simp only [tget_cons, if_true, if_false, Nat.reduceEqDiff, Kn_normal, Obt_add, if_false, if_true, hw]))
            | (revert hK; intro hK; (with_reducible refine hK _ ?_; clear hK K)))
            exact hn _
          · intro L'' he
            repeat' (first
            | with_reducible (first | refine hr1 _ ?_ | refine hr2 _ ?_ | refine hr3 _ ?_ | refine hrL1 _ ?_)
            | (with_reducible refine hqr _ ?_; (try simp only [tget_cons, if_true, if_false, Nat.reduceEqDiff, Obt_some, Option.map_some, if_false, if_true, r18, tend, tresAll, tresC, Option.bind_some, mapMem, retv_int, tup_two, Prod.mk.injEq, he])))
            exact ⟨_, _, rfl, rfl⟩
end Go.Cm
