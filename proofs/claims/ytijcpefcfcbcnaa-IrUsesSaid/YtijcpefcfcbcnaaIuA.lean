/-
  Code: one value more, an end that uses it.
-/
import Derived.Test.YtijcpefcfcbcnaaIzJ
import Derived.Test.YtijcpefcfcbcnaaIyG
import Derived.Test.YtijcpefcfcbcnaaIrB
import Derived.Test.YtijcpefcfcbcnaaIhA
import Derived.Test.YtijcpefcfcbcnaaCxM
import Derived.Test.YtijcpefcfcbcnaaIxA
set_option linter.unusedSimpArgs false
set_option linter.unusedVariables false
namespace Go.Cm
open Go.Proofs Go.Ir Go.Gr
theorem esc_aggO {m : Mem} {j g sz len vl : Nat} {cs : List CV} {k : IntKind} {v : Int} (h : lget m.L j = some (.arr g sz cs vl)) (hl : cs.length = len * sz) :
    escList m [.agg [.ref (.l j) g 0 len, .int k v]] = some ([.agg [.imm len cs, .int k v]], setL m j (.arr g sz cs (max vl (len * sz)))) := by
  refine escList_one ?_
  simp only [deep, esc, h, if_true, List.drop_zero, HO.seen, Nat.zero_add, mapMem, Option.bind_some, Option.map_some, Mem.set]
  rw [List.take_of_length_le (by omega)]; rfl
/-- a call of Check -/
theorem k36 (f : Cd) (hf : Sized f) {fid : FuncId} {d : Tmp} {m : Mem} : callC An FF fid (some d) 36 [.agg (codeC f)] m = some (.int .i64 (if codeOk f = true then 0 else 160), m) := by
  obtain ⟨_, ⟨H', rfl⟩, h⟩ := x36 f hf
  exact callC_V h (fun _ _ _ => rfl) rfl (by simp only [cans, can_agg, codeE.can]) rfl (by simp only [noGs, noG, codeE.noG, Bool.and_self]) rfl
/-- a call of Check on parts of one's own -/
theorem ko36 (f : Cd) (hf : Sized f) {j gn vl : Nat} {fid : FuncId} {d : Tmp} {m : Mem} (h : lget m.L j = some (.arr gn 10 (f.parts.flatMap ptC) vl)) :
    callC An FF fid (some d) 36 [.agg [.ref (.l j) gn 0 f.parts.length, .int .i64 f.values]] m = some (.int .i64 (if codeOk f = true then 0 else 160), m) := by
  obtain ⟨_, ⟨H', rfl⟩, hF⟩ := x36 f hf
  have he := esc_aggO (k := .i64) (v := f.values) h (flat_len ptE.len _)
  rw [callC_KE hF rfl he (by simp only [cans, can_agg, can_int, codeC, show can (.imm f.parts.length (f.parts.flatMap ptC)) = sl ptC f.parts from ptE.can_sl f.parts]) (by
    have := ptE.noG_sl f.parts
    simp only [sl] at this
    simp only [noGs, noG, noG_int, Bool.and_true] at this ⊢
    exact this) rfl]
  rfl
theorem x35 (f : Cd) : FF 35 [.agg (codeC f)] [] = some (.bool (decide ((f.parts.length : Int) ≤ 100) && decide (f.values ≤ 1000)), []) := by
  by_cases h1 : (f.parts.length : Int) ≤ 100
  · by_cases h2 : f.values ≤ 1000
    all_goals
      refine Fw_funK rfl Try.func35 s35 (Nat.le_of_ble_eq_true rfl) (fun Q hqr hqn => ?_)
      rw [cin_t (show An.pure 35 = true from rfl) (by simp only [cans, can_int, can_bool, can_agg, can_str, codeE.can])]
      simp only [tinit, Nat.reduceAdd, c35]
      repeat' (first
      | with_reducible refine Tx_ret ?_
      | ((first | (with_reducible refine Tx_regK (fun K hK => ?_); (first | with_reducible refine t35r0 ?_ | with_reducible refine t35r1 ?_)) | with_reducible refine hqr _ ?_); (try simp only [true_implies, false_implies, not_true_eq_false, not_false_eq_true, tget_cons, if_true, ccells, Obt_some, Kn_normal, newL_eq, newP_eq, lget_setL, setL_H, Nat.zero_add, fldA_ptr, ld1_l, rd1_var, List.getElem?_cons_zero, List.getElem?_cons_succ, Obt_leq, gdO_tt, gdO_ft, Option.map_some, pickX_t, pickX_f, lenS, Obt_map, and_true, true_and, Bool.and_self, Bool.true_and, decide_false, decide_true, if_true, r35, tend, tresAll, tresC, Option.bind_some, mapMem, retv_bool, tup_one, codeC, clen_sl, h1, h2]))
      | (revert hK; intro hK; (with_reducible refine hK _ ?_; clear hK K)))
      all_goals simp [h1, h2]
  · refine Fw_funK rfl Try.func35 s35 (Nat.le_of_ble_eq_true rfl) (fun Q hqr hqn => ?_)
    rw [cin_t (show An.pure 35 = true from rfl) (by simp only [cans, can_int, can_bool, can_agg, can_str, codeE.can])]
    simp only [tinit, Nat.reduceAdd, c35]
    repeat' (first
    | with_reducible refine Tx_ret ?_
    | ((first | (with_reducible refine Tx_regK (fun K hK => ?_); (first | with_reducible refine t35r0 ?_ | with_reducible refine t35r1 ?_)) | with_reducible refine hqr _ ?_); (try simp only [true_implies, false_implies, not_false_eq_true, tget_cons, if_true, ccells, Obt_some, Kn_normal, newL_eq, newP_eq, lget_setL, setL_H, Nat.zero_add, fldA_ptr, ld1_l, rd1_var, List.getElem?_cons_zero, List.getElem?_cons_succ, Obt_leq, gdO_tt, gdO_ft, Option.map_some, pickX_t, pickX_f, lenS, Obt_map, and_true, true_and, decide_false, if_true, r35, tend, tresAll, tresC, Option.bind_some, mapMem, retv_bool, tup_one, Prod.mk.injEq, CV.bool.injEq, codeC, clen_sl, h1]))
    | (revert hK; intro hK; (with_reducible refine hK _ ?_; clear hK K)))
    all_goals simp [h1]
theorem k35 (f : Cd) {fid : FuncId} {d : Tmp} {m : Mem} {b : Bool} (hb : (decide ((f.parts.length : Int) ≤ 100) && decide (f.values ≤ 1000)) = b) : callC An FF fid (some d) 35 [.agg (codeC f)] m = some (.bool b, m) := by
  rw [← hb]
  exact callC_V (x35 f) (fun _ _ _ => rfl) rfl (by simp only [cans, can_agg, codeE.can]) rfl (by simp only [noGs, noG, codeE.noG, Bool.and_self]) rfl
theorem flat_splice {α : Type} {e : α → List CV} {sz : Nat} (hs : ∀ a, (e a).length = sz) {new : List CV} {off : Nat} : ∀ {l : List α} {i : Nat} {a a' : α}, l[i]? = some a → e a' = splice (e a) off new → off + new.length ≤ sz →
    splice (l.flatMap e) (i * sz + off) new = (l.set i a').flatMap e
  | [], i, a, a', h, _, _ => by simp at h
  | b :: l, 0, a, a', h, he, ho => by
    simp only [List.getElem?_cons_zero, Option.some.injEq] at h
    subst h
    simp only [List.set_cons_zero, List.flatMap_cons, Nat.zero_mul, Nat.zero_add, he, splice]
    have := hs b
    rw [List.take_append_of_le_length (by omega), List.drop_append_of_le_length (by omega)]
    simp only [List.append_assoc]
  | b :: l, i + 1, a, a', h, he, ho => by
    simp only [List.getElem?_cons_succ] at h
    have ih := flat_splice hs h he ho
    simp only [List.set_cons_succ, List.flatMap_cons, ← ih, splice]
    have hb := hs b
    have e1 : (i + 1) * sz + off = (e b).length + (i * sz + off) := by rw [hb, Nat.succ_mul]; omega
    have e2 : (i + 1) * sz + off + new.length = (e b).length + (i * sz + off + new.length) := by omega
    rw [e2, e1, List.take_length_add_append, List.drop_length_add_append]
    simp only [List.append_assoc]
theorem flat_part {α : Type} {e : α → List CV} {sz : Nat} (hs : ∀ a, (e a).length = sz) {off n : Nat} : ∀ {l : List α} {i : Nat} {a : α}, l[i]? = some a → off + n ≤ sz → ((l.flatMap e).drop (i * sz + off)).take n = ((e a).drop off).take n
  | [], i, a, h, _ => by simp at h
  | b :: l, 0, a, h, ho => by
    simp only [List.getElem?_cons_zero, Option.some.injEq] at h
    subst h
    have := hs b
    simp only [List.flatMap_cons, Nat.zero_mul, Nat.zero_add]
    rw [List.drop_append_of_le_length (by omega), List.take_append_of_le_length (by rw [List.length_drop]; omega)]
  | b :: l, i + 1, a, h, ho => by
    simp only [List.getElem?_cons_succ] at h
    have hb := hs b
    have e1 : (i + 1) * sz + off = (e b).length + (i * sz + off) := by rw [hb, Nat.succ_mul]; omega
    simp only [List.flatMap_cons, e1, List.drop_length_add_append]
    exact flat_part hs h ho
theorem x9 (f : Cd) (hfit : Fit f) (part : Int) : ∃ r, (∃ H', r = (CV.bool true, H')) ∧ FF 9 [.agg (codeC f), .int .i64 part] [] = some r := by
  have hkh := fun d m => k37 (fid := 9) (d := d) (m := m)
  obtain ⟨b, hb⟩ : ∃ b, (decide ((f.parts.length : Int) ≤ 100) && decide (f.values ≤ 1000)) = b := ⟨_, rfl⟩
  have hks : ∀ d m, callC An FF 9 (some d) 35 [.agg [sl ptC f.parts, .int .i64 f.values]] m = _ := fun d m => k35 f (fid := 9) (d := d) (m := m) hb
  cases b with
  | false =>
    refine Fw_funE rfl Try.func9 s9 (Nat.le_of_ble_eq_true rfl) (fun Q hqr hqn => ?_)
    rw [cin_t (show An.pure 9 = true from rfl) (by simp only [cans, can_int, can_bool, can_agg, can_str, codeE.can])]
    simp only [tinit, Nat.reduceAdd, c9]
    repeat' (first
    | with_reducible refine Tx_assoc ?_
    | with_reducible refine Tx_yesK rfl ?_
    | with_reducible refine Tx_retK ?_
    | ((first | (with_reducible refine Tx_regK (fun K hK => ?_); (first | with_reducible refine t9r0 ?_ | with_reducible refine t9r1 ?_ | with_reducible refine t9r2 ?_)) | with_reducible refine hqr _ ?_); (try simp only [tget_cons, if_true, if_false, Nat.reduceEqDiff, ccells, Obt_some, Kn_normal, newL_eq, newP_eq, lget_setL, setL_H, Nat.reduceAdd, Nat.zero_add, fldA_ptr, List.drop_zero, ldA_l, Obt_not, gdO_tf, Option.map_some, pickX_t, Bool.not_false, lenS, List.take_zero, List.take_succ_cons, List.length_cons, List.length_nil, true_and, Nat.le_refl, rdA_var, if_false, if_true, r9, tend, tresAll, tresC, Option.bind_some, mapMem, retv_bool, tup_one, Prod.mk.injEq, codeC, ldA_r2, hks, hkh]))
    | (revert hK; intro hK; (with_reducible refine hK _ ?_; clear hK K)))
    exact ⟨_, rfl⟩
  | true =>
    have hf : Sized f := hfit.sized (by simp only [Bool.and_eq_true, decide_eq_true_eq] at hb; omega)
    have hkc : ∀ d m, callC An FF 9 (some d) 36 [.agg [sl ptC f.parts, .int .i64 f.values]] m = _ := fun d m => k36 f hf (fid := 9) (d := d) (m := m)
    cases hc : codeOk f with
    | false =>
      rw [hc, if_neg (by decide)] at hkc
      refine Fw_funE rfl Try.func9 s9 (Nat.le_of_ble_eq_true rfl) (fun Q hqr hqn => ?_)
      rw [cin_t (show An.pure 9 = true from rfl) (by simp only [cans, can_int, can_bool, can_agg, can_str, codeE.can])]
      simp only [tinit, Nat.reduceAdd, c9]
      repeat' (first
      | with_reducible refine Tx_assoc ?_
      | with_reducible refine Tx_yesK rfl ?_
      | with_reducible refine Tx_retK ?_
      | ((first | (with_reducible refine Tx_regK (fun K hK => ?_); (first | with_reducible refine t9r0 ?_ | with_reducible refine t9r1 ?_ | with_reducible refine t9r2 ?_)) | with_reducible refine hqr _ ?_); (try simp only [tget_cons, if_true, if_false, Nat.reduceEqDiff, ccells, Obt_some, Kn_normal, newL_eq, newP_eq, lget_setL, setL_H, Nat.reduceAdd, Nat.zero_add, fldA_ptr, List.drop_zero, ld1_l, ldA_l, rd1_var, List.getElem?_cons_zero, List.getElem?_cons_succ, Obt_lss, Obt_geq, Obt_neq, Obt_not, gdO_tf, gdO_ff, Option.map_some, pickX_t, pickX_f, Bool.not_true, lenS, Obt_map, List.take_zero, List.take_succ_cons, List.length_cons, List.length_nil, true_and, Nat.le_refl, rdA_var, if_false, if_true, r9, tend, tresAll, tresC, Option.bind_some, mapMem, retv_bool, tup_one, Prod.mk.injEq, codeC, ldA_r2, hks, hkh, hkc]))
      | (revert hK; intro hK; (first | refine And.intro ?_ ?_ | intro _ | omega | (with_reducible refine hK _ ?_; clear hK K))))
      exact ⟨_, rfl⟩
    | true =>
      rw [hc, if_pos rfl] at hkc
      by_cases h1 : part < 0
      · refine Fw_funE rfl Try.func9 s9 (Nat.le_of_ble_eq_true rfl) (fun Q hqr hqn => ?_)
        rw [cin_t (show An.pure 9 = true from rfl) (by simp only [cans, can_int, can_bool, can_agg, can_str, codeE.can])]
        simp only [tinit, Nat.reduceAdd, c9]
        repeat' (first
        | with_reducible refine Tx_assoc ?_
        | with_reducible refine Tx_yesK rfl ?_
        | with_reducible refine Tx_retK ?_
        | ((first | (with_reducible refine Tx_regK (fun K hK => ?_); (first | with_reducible refine t9r0 ?_ | with_reducible refine t9r1 ?_ | with_reducible refine t9r2 ?_)) | with_reducible refine hqr _ ?_); (try simp only [true_implies, false_implies, not_true_eq_false, tget_cons, if_true, if_false, Nat.reduceEqDiff, ccells, Obt_some, Kn_normal, newL_eq, newP_eq, lget_setL, setL_H, Nat.reduceAdd, Nat.zero_add, fldA_ptr, List.drop_zero, ld1_l, ldA_l, rd1_var, List.getElem?_cons_zero, List.getElem?_cons_succ, Obt_lss, Obt_geq, Obt_neq, Obt_not, gdO_tf, gdO_ff, Option.map_some, pickX_t, pickX_f, Bool.not_true, lenS, Obt_map, List.take_zero, List.take_succ_cons, List.length_cons, List.length_nil, and_true, true_and, Nat.le_refl, rdA_var, if_false, if_true, r9, tend, tresAll, tresC, Option.bind_some, mapMem, retv_bool, tup_one, Prod.mk.injEq, codeC, ldA_r2, hks, hkh, hkc, h1]))
        | (revert hK; intro hK; (with_reducible refine hK _ ?_; clear hK K)))
        exact ⟨_, rfl⟩
      by_cases h2 : (f.parts.length : Int) ≤ part
      · refine Fw_funE rfl Try.func9 s9 (Nat.le_of_ble_eq_true rfl) (fun Q hqr hqn => ?_)
        rw [cin_t (show An.pure 9 = true from rfl) (by simp only [cans, can_int, can_bool, can_agg, can_str, codeE.can])]
        simp only [tinit, Nat.reduceAdd, c9]
        repeat' (first
        | with_reducible refine Tx_assoc ?_
        | with_reducible refine Tx_yesK rfl ?_
        | with_reducible refine Tx_retK ?_
        | ((first | (with_reducible refine Tx_regK (fun K hK => ?_); (first | with_reducible refine t9r0 ?_ | with_reducible refine t9r1 ?_ | with_reducible refine t9r2 ?_)) | with_reducible refine hqr _ ?_); (try simp only [true_implies, false_implies, not_true_eq_false, not_false_eq_true, tget_cons, if_true, if_false, Nat.reduceEqDiff, ccells, Obt_some, Kn_normal, newL_eq, newP_eq, lget_setL, setL_H, Nat.reduceAdd, Nat.zero_add, fldA_ptr, List.drop_zero, ld1_l, ldA_l, rd1_var, List.getElem?_cons_zero, List.getElem?_cons_succ, Obt_lss, Obt_geq, Obt_neq, Obt_not, gdO_tf, gdO_ff, Option.map_some, pickX_t, pickX_f, Bool.not_true, lenS, Obt_map, List.take_zero, List.take_succ_cons, List.length_cons, List.length_nil, and_true, true_and, Nat.le_refl, rdA_var, if_false, if_true, r9, tend, tresAll, tresC, Option.bind_some, mapMem, retv_bool, tup_one, Prod.mk.injEq, codeC, ldA_r2, hks, hkh, hkc, h1, h2, clen_sl]))
        | (revert hK; intro hK; (with_reducible refine hK _ ?_; clear hK K)))
        exact ⟨_, rfl⟩
      by_cases h3 : 65536 ≤ f.values
      · refine Fw_funE rfl Try.func9 s9 (Nat.le_of_ble_eq_true rfl) (fun Q hqr hqn => ?_)
        rw [cin_t (show An.pure 9 = true from rfl) (by simp only [cans, can_int, can_bool, can_agg, can_str, codeE.can])]
        simp only [tinit, Nat.reduceAdd, c9]
        repeat' (first
        | with_reducible refine Tx_assoc ?_
        | with_reducible refine Tx_yesK rfl ?_
        | with_reducible refine Tx_retK ?_
        | ((first | (with_reducible refine Tx_regK (fun K hK => ?_); (first | with_reducible refine t9r0 ?_ | with_reducible refine t9r1 ?_ | with_reducible refine t9r2 ?_)) | with_reducible refine hqr _ ?_); (try simp only [true_implies, false_implies, not_true_eq_false, not_false_eq_true, tget_cons, if_true, if_false, Nat.reduceEqDiff, ccells, Obt_some, Kn_normal, newL_eq, newP_eq, lget_setL, setL_H, Nat.reduceAdd, Nat.zero_add, fldA_ptr, List.drop_zero, ld1_l, ldA_l, rd1_var, List.getElem?_cons_zero, List.getElem?_cons_succ, Obt_lss, Obt_geq, Obt_neq, Obt_not, gdO_tf, gdO_ff, Option.map_some, pickX_t, pickX_f, Bool.not_true, lenS, Obt_map, List.take_zero, List.take_succ_cons, List.length_cons, List.length_nil, and_true, true_and, Nat.le_refl, rdA_var, if_false, if_true, r9, tend, tresAll, tresC, Option.bind_some, mapMem, retv_bool, tup_one, Prod.mk.injEq, codeC, ldA_r2, hks, hkh, hkc, h1, h2, h3, clen_sl]))
        | (revert hK; intro hK; (with_reducible refine hK _ ?_; clear hK K)))
        exact ⟨_, rfl⟩
      have hw : IntKind.i64.wrap (f.values + 1) = f.values + 1 := wI (by simp only [Bool.and_eq_true, decide_eq_true_eq, codeOk] at hc; omega) (by omega)
      have hsb : smallB 128 f.parts.length = true := smallB_ok (by decide) (by have := hf.parts; omega)
      have hct : ∀ m, content m 10 (sl ptC f.parts) = some (f.parts.flatMap ptC) := fun m => content_sl ptE.len
      refine Fw_funE rfl Try.func9 s9 (Nat.le_of_ble_eq_true rfl) (fun Q hqr hqn => ?_)
      rw [cin_t (show An.pure 9 = true from rfl) (by simp only [cans, can_int, can_bool, can_agg, can_str, codeE.can])]
      simp only [tinit, Nat.reduceAdd, c9]
      repeat' (first
      | with_reducible refine Tx_assoc ?_
      | with_reducible refine Tx_nopK ?_
      | with_reducible refine Tx_noK rfl ?_
      | ((with_reducible refine Tx_regK (fun K hK => ?_); (first | with_reducible refine t9r0 ?_ | with_reducible refine t9r1 ?_ | with_reducible refine t9r3 ?_ | with_reducible refine t9r4 ?_)); (try simp only [true_implies, false_implies, not_true_eq_false, not_false_eq_true, tget_cons, if_true, if_false, Nat.reduceEqDiff, ccells, Obt_some, Kn_normal, newL_eq, newP_eq, nmA_f, nmR_f, gn_var, gnext_setL, lget_setL, setL_setL, Nat.reduceMul, Nat.reduceAdd, Nat.zero_add, fldA_ptr, List.drop_zero, ld1_l, ldA_l, rd1_var, List.getElem?_cons_zero, List.getElem?_cons_succ, Obt_lss, Obt_geq, Obt_neq, Obt_not, gdO_tf, gdO_ff, Option.map_some, pickX_t, pickX_f, Bool.not_true, lenS, Obt_map, Obt_add, Obt_ite', appX_l, appR_arr, fillX, bslX, stX_l, stV_var, splice, List.take_zero, List.take_succ_cons, List.drop_succ_cons, List.drop_nil, List.nil_append, List.cons_append, List.append_nil, List.length_cons, List.length_nil, Nat.reduceLeDiff, and_self, and_true, true_and, Nat.le_refl, rdA_var, offR_nil, offR_f, offR_l, offK_l, keyL_nil, keyL_t, decide_false, Bool.or_false, Bool.false_eq_true, if_false, if_true, Option.bind_some, Nat.sub_self, codeC, ldA_r2, hks, hkh, hkc, h1, h2, h3, clen_sl, hw, hsb, hct, appR_arr, Obt_offSL, sameL_nil, sameL_t, sameL_f, escList_nil, Nat.lt_irrefl, Nat.reduceLT, List.take_nil, Nat.zero_mul]))
      | (revert hK; intro hK; (with_reducible refine hK _ ?_; clear hK K)))
      have hc1 : codeOk ⟨f.parts, f.values + 1⟩ = true := codeOk_more hc (by omega)
      have hf1 : Sized ⟨f.parts, f.values + 1⟩ := ⟨hf.parts, hf.pred, hf.phis, hf.nodes⟩
      rw [ko36 ⟨f.parts, f.values + 1⟩ hf1 (vl := 0) (by simp only [lget_setL, Nat.reduceEqDiff, if_true, if_false]), hc1, if_pos rfl, Obt_some]
      simp only [Obt_neq, not_true_eq_false, decide_false]
      generalize hgn : gnext [] 528 + 1 = gn
      obtain ⟨i, hi⟩ : ∃ i : Nat, part = (i : Int) := ⟨part.toNat, by omega⟩
      subst hi
      obtain ⟨p, hp⟩ : ∃ p, f.parts[i]? = some p := ⟨_, List.getElem?_eq_getElem (by omega)⟩
      have hidx : idxS 10 (.ref (.l 528) gn 0 f.parts.length) (.int .i64 i) = some (.ptr (.l 528) gn (i * 10)) := by
        rw [idxS_ref, if_pos ⟨by omega, by omega⟩]; simp
      have hfl := flat_len ptE.len f.parts
      have hilt : i < f.parts.length := (List.getElem?_eq_some_iff.1 hp).1
      have hrd : rdA gn (i * 10 + 3) 7 (some (.arr gn 10 (f.parts.flatMap ptC) 0)) = some (.agg (tmC p.fin)) := by
        have := flat_part (off := 3) (n := 7) ptE.len hp (by decide)
        simp only [rdA_arr, hfl, this]
        rw [if_pos (by omega)]; rfl
      have hsp : splice (f.parts.flatMap ptC) (i * 10 + 3) (tmC (p.useA f.values).fin) = (f.parts.set i (p.useA f.values)).flatMap ptC := flat_splice (off := 3) ptE.len hp rfl (Nat.le_refl _)
      have hst : ∀ m, lget m.L 528 = some (.arr gn 10 (f.parts.flatMap ptC) 0) → stV 7 m 528 gn (i * 10 + 3) (some (tmC (p.useA f.values).fin)) (some (.arr gn 10 (f.parts.flatMap ptC) 0)) = some (setL m 528 (.arr gn 10 ((f.parts.set i (p.useA f.values)).flatMap ptC) 0)) := fun m hm => by
        rw [stV_arr rfl hm, if_pos ⟨rfl, by omega, by omega⟩, hsp]
      simp only [tmC, Pt.useA] at hrd hst
      have ht : (tmC p.fin) = [.int .i64 p.fin.op, .int .i64 p.fin.cond, .bool p.fin.wide, .int .i64 p.fin.a, .int .i64 p.fin.b, .int .i64 p.fin.to, .int .i64 p.fin.els] := rfl
      obtain ⟨H2, hH2⟩ : ∃ H2, H2 = f.parts.set i (p.useA f.values) := ⟨_, rfl⟩
      have hH1 : H2.length = f.parts.length := by rw [hH2, List.length_set]
      have hpm : p ∈ f.parts := List.mem_of_getElem? hp
      have hmem : ∀ q ∈ H2, q = p.useA f.values ∨ q ∈ f.parts := fun q hq => by
        rw [hH2] at hq
        rcases List.mem_or_eq_of_mem_set hq with h | h
        · exact .inr h
        · exact .inl h
      have hf2 : Sized ⟨H2, f.values + 1⟩ := by
        refine ⟨by simp only; rw [hH1]; exact hf.parts, fun q hq => ?_, fun q hq => ?_, fun q hq => ?_⟩
        all_goals rcases hmem q hq with rfl | h
        · exact hf.pred p hpm
        · exact hf.pred q h
        · exact hf.phis p hpm
        · exact hf.phis q h
        · exact hf.nodes p hpm
        · exact hf.nodes q h
      have hco := codeOk_uses hc (by omega) hp
      rw [← hH2] at hco
      simp only [Pt.useA] at hH2
      rw [← hH2] at hst
      have hck : ∀ d m, lget m.L 528 = some (.arr gn 10 (H2.flatMap ptC) 0) → callC An FF 9 (some d) 36 [.agg [.ref (.l 528) gn 0 f.parts.length, .int .i64 (f.values + 1)]] m = some (.int .i64 (if codeOk ⟨H2, f.values + 1⟩ = true then 0 else 160), m) := fun d m h => by
        have := ko36 ⟨H2, f.values + 1⟩ hf2 (fid := 9) (d := d) h
        simp only [hH1] at this
        exact this
      rw [hco] at hck
      refine ⟨fun _ => hK _ ?_, fun h => h.elim⟩
      clear hK K
      by_cases h5 : p.fin.op = 3
      · have e1 : (!(decide (p.fin.op = 3) || decide (p.fin.op = 2))) = false := by simp [h5]
        have h5 := eq_true h5
        rw [e1, if_neg (by decide)] at hck
        repeat' (first
        | with_reducible refine Tx_nopK ?_
        | with_reducible refine Tx_noK rfl ?_
        | with_reducible refine Tx_ret ?_
        | ((first | (with_reducible refine Tx_regK (fun K hK => ?_); (first | with_reducible refine t9r6 ?_ | with_reducible refine t9r7 ?_ | with_reducible refine t9r8 ?_ | with_reducible refine t9r9 ?_ | with_reducible refine t9r10 ?_)) | with_reducible refine hqr _ ?_); (try simp only [true_implies, false_implies, not_true_eq_false, tget_cons, if_true, if_false, Nat.reduceEqDiff, ccells, Obt_some, Kn_normal, newL_eq, newP_eq, gn_var, gn_arr, gnext_setL, lget_setL, setL_setL, setL_H, Nat.reduceAdd, Nat.zero_add, fldA_ptr, List.drop_zero, ld1_l, ldA_l, rd1_var, List.getElem?_cons_zero, List.getElem?_cons_succ, Obt_eql, gdO_tt, gdO_tf, gdO_ff, Option.map_some, pickX_t, pickX_f, Obt_pickS, Obt_gdT, Obt_map, stX_l, stV_var, splice, List.take_zero, List.take_succ_cons, List.drop_succ_cons, List.drop_nil, List.nil_append, List.cons_append, List.append_nil, List.length_cons, List.length_nil, Nat.reduceLeDiff, and_self, and_true, true_and, Nat.le_refl, Nat.zero_le, rdA_var, if_false, if_true, r9, tend, tresAll, tresC, Option.bind_some, mapMem, retv_bool, tup_one, Prod.mk.injEq, codeC, ldA_r2, hidx, hrd, hst, h5, hck, Obt_eqB Try.underlying4, beq_self_eq_true, hkh]))
        | (revert hK; intro hK; (with_reducible refine hK _ ?_; clear hK K)))
        exact ⟨_, rfl⟩
      by_cases h6 : p.fin.op = 2
      · have e1 : (!(decide (p.fin.op = 3) || decide (p.fin.op = 2))) = false := by simp [h6]
        have h6 := eq_true h6
        rw [e1, if_neg (by decide)] at hck
        repeat' (first
        | with_reducible refine Tx_nopK ?_
        | with_reducible refine Tx_noK rfl ?_
        | with_reducible refine Tx_ret ?_
        | ((first | (with_reducible refine Tx_regK (fun K hK => ?_); (first | with_reducible refine t9r6 ?_ | with_reducible refine t9r7 ?_ | with_reducible refine t9r8 ?_ | with_reducible refine t9r9 ?_ | with_reducible refine t9r10 ?_)) | with_reducible refine hqr _ ?_); (try simp only [true_implies, false_implies, not_true_eq_false, not_false_eq_true, tget_cons, if_true, if_false, Nat.reduceEqDiff, ccells, Obt_some, Kn_normal, newL_eq, newP_eq, gn_var, gn_arr, gnext_setL, lget_setL, setL_setL, setL_H, Nat.reduceAdd, Nat.zero_add, fldA_ptr, List.drop_zero, ld1_l, ldA_l, rd1_var, List.getElem?_cons_zero, List.getElem?_cons_succ, Obt_eql, gdO_tt, gdO_tf, gdO_ff, Option.map_some, pickX_t, pickX_f, Obt_pickS, Obt_gdT, Obt_map, stX_l, stV_var, splice, List.take_zero, List.take_succ_cons, List.drop_succ_cons, List.drop_nil, List.nil_append, List.cons_append, List.append_nil, List.length_cons, List.length_nil, Nat.reduceLeDiff, and_self, and_true, true_and, Nat.le_refl, Nat.zero_le, rdA_var, if_false, if_true, r9, tend, tresAll, tresC, Option.bind_some, mapMem, retv_bool, tup_one, Prod.mk.injEq, codeC, ldA_r2, hidx, hrd, hst, h5, h6, hck, Obt_eqB Try.underlying4, beq_self_eq_true, hkh]))
        | (revert hK; intro hK; (with_reducible refine hK _ ?_; clear hK K)))
        exact ⟨_, rfl⟩
      · have e1 : (!(decide (p.fin.op = 3) || decide (p.fin.op = 2))) = true := by simp [h5, h6]
        rw [e1, if_pos rfl] at hck
        repeat' (first
        | with_reducible refine Tx_nopK ?_
        | with_reducible refine Tx_noK rfl ?_
        | with_reducible refine Tx_ret ?_
        | ((first | (with_reducible refine Tx_regK (fun K hK => ?_); (first | with_reducible refine t9r6 ?_ | with_reducible refine t9r7 ?_ | with_reducible refine t9r8 ?_ | with_reducible refine t9r9 ?_ | with_reducible refine t9r10 ?_)) | with_reducible refine hqr _ ?_); (try simp only [true_implies, false_implies, not_false_eq_true, tget_cons, if_true, if_false, Nat.reduceEqDiff, ccells, Obt_some, Kn_normal, newL_eq, newP_eq, gn_var, gn_arr, gnext_setL, lget_setL, setL_setL, setL_H, Nat.reduceAdd, Nat.zero_add, fldA_ptr, List.drop_zero, ld1_l, ldA_l, rd1_var, List.getElem?_cons_zero, List.getElem?_cons_succ, Obt_eql, gdO_tt, gdO_tf, gdO_ff, Option.map_some, pickX_t, pickX_f, Obt_pickS, Obt_gdT, Obt_map, stX_l, stV_var, splice, List.take_zero, List.take_succ_cons, List.drop_succ_cons, List.drop_nil, List.nil_append, List.cons_append, List.append_nil, List.length_cons, List.length_nil, Nat.reduceLeDiff, and_self, true_and, Nat.le_refl, Nat.zero_le, rdA_var, if_false, if_true, r9, tend, tresAll, tresC, Option.bind_some, mapMem, retv_bool, tup_one, Prod.mk.injEq, codeC, ldA_r2, hidx, hrd, hst, h5, h6, hck, Obt_eqB Try.underlying4, beq_self_eq_true, hkh]))
        | (revert hK; intro hK; (first | refine And.intro ?_ ?_ | intro _ | omega | (with_reducible refine hK _ ?_; clear hK K))))
        exact ⟨_, rfl⟩
end Go.Cm
