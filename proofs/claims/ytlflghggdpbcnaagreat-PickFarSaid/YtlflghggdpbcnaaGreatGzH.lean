import Derived.Test.YtlflghggdpbcnaaGreatGzE
import Derived.Test.YtlflghggdpbcnaaGreatGzA
import Derived.Test.YtlflghggdpbcnaaGreatGwA
set_option linter.unusedSimpArgs false
set_option linter.unusedVariables false
namespace Go.Cm
open Go.Proofs Go.Pk
theorem x79 (fn : Int) : FF 79 [.int .i64 fn] [] = some (.int .i64 (opp fn), []) := by
  by_cases g : fn ∈ oppI
  · simp only [oppI, List.mem_cons, List.not_mem_nil, or_false] at g
    rcases g with rfl | rfl | rfl | rfl | rfl | rfl | rfl | rfl | rfl | rfl <;> exact Fw_iff.2 ⟨40, by kernel_rfl⟩
  · have h : ∀ x ∈ oppI, ¬ fn = x := fun x hx e => g (e ▸ hx)
    rw [opp_none h]
    have hb : ∀ (m : Mem) (z zs), bslX false 80 1 10 z [(0, 1, .int .i64 16), (1, 1, .int .i64 80), (2, 1, .int .i64 32), (3, 1, .int .i64 176), (4, 1, .int .i64 48), (5, 1, .int .i64 160), (6, 1, .int .i64 96), (7, 1, .int .i64 208), (8, 1, .int .i64 112), (9, 1, .int .i64 192)] m = zs → True := fun _ _ _ _ => trivial
    have h10 : oppI.length = 10 := rfl
    refine Fw_funK rfl Tryz.func79 s79 (Nat.le_of_ble_eq_true rfl) (fun Q hqr hqn => ?_)
    rw [cin_t (show An.pure 79 = true from rfl) (by simp only [cans, can_int, can_bool, can_agg, can_str])]
    simp only [tinit, Nat.reduceAdd, c79]
    repeat' (first
    | with_reducible (first | refine Tx_assoc ?_ | refine Tx_blockK (id := 0) (fun Q0 hn0 hx0 hr0 ho0 => ?_))
    | (with_reducible (refine Tx_regK (fun K hK => ?_); (first | refine t79r0 ?_ | refine t79r1 ?_ | refine t79r2 ?_)); (try simp only [tget_cons, if_true, if_false, Nat.reduceEqDiff, ccells, Obt_some, Kn_normal, nmA_f, nmR_f, Nat.reduceAdd, Nat.zero_add, List.drop_zero, Option.map_some, fillX, bslX, escP_list, splice, List.take_zero, List.take_succ_cons, List.drop_succ_cons, List.drop_nil, List.nil_append, List.cons_append, List.append_nil, List.length_cons, List.length_nil, Nat.reduceLeDiff, and_self, Nat.le_refl, escP, List.all_cons, List.all_nil, Bool.and_self, if_false, if_true, Option.bind_some]))
    | (revert hK; intro hK; (with_reducible refine hK _ ?_; clear hK K)))
    refine Tx_loopK (fun k s => ∃ (d t : List Int) (L : List (Nat × HO)) (v : CV), oppI = d ++ t ∧ k = t.length ∧ OwnE intC 1 ⟨L, []⟩ 80 v oppI ∧ s = ⟨[(0, .int .i64 fn), (3, v), (4, .int .i64 d.length)], ⟨L, []⟩⟩) _ ⟨[], oppI, _, _, rfl, rfl, .inr ⟨by decide, _, rfl, rfl⟩, rfl⟩ ?_
    rintro k s ⟨d, t, L, v, h2, rfl, hO, rfl⟩ QL0 hnL0 hxL0 hrL0
    have hlen := congrArg List.length h2
    simp only [List.length_append, h10] at hlen
    have hol := hO.len
    rw [h10] at hol
    simp only [c79l0]
    cases t with
    | nil =>
      simp only [List.length_nil] at hlen
      have hge : ¬ ((d.length : Int) < (10 : Nat)) := by omega
      repeat' (first
      | with_reducible (first | refine Tx_assoc ?_ | refine Tx_noK rfl ?_ | refine Tx_exitK ?_ | refine Tx_ret ?_ | refine hx0 _ ?_ | refine hxL0 _ _ ?_)
      | (with_reducible (first | (refine Tx_regK (fun K hK => ?_); (first | refine t79r3 ?_ | refine t79r9 ?_)) | refine hqr _ ?_); (try simp only [true_implies, false_implies, not_false_eq_true, tget_cons, if_true, if_false, Nat.reduceEqDiff, Obt_some, Kn_normal, Obt_lss, Option.map_some, lenS, true_and, if_false, if_true, r79, tend, tresAll, tresC, Option.bind_some, mapMem, retv_int, tup_one, hol, hge]))
      | (revert hK; intro hK; (with_reducible refine hK _ ?_; clear hK K)))
    | cons a t =>
      simp only [List.length_cons] at hlen
      have hlt : (d.length : Int) < (10 : Nat) := by omega
      have hw : IntKind.i64.wrap ((d.length : Int) + 1) = d.length + 1 := wI (by omega) (by omega)
      have hga : oppI[d.length]? = some a := by rw [h2]; simp
      have hna : ¬ a = fn := fun e => h a (by rw [h2]; simp) e.symm
      obtain ⟨g, rfl, hL, hi'⟩ := hO.get hga
      have hidx : idxS 1 (.ref (.l 80) g 0 oppI.length) (.int .i64 d.length) = some (.ptr (.l 80) g d.length) := by
        rw [idxS_ref, if_pos ⟨by omega, by omega⟩]; simp
      have hld : rd1 g d.length (lget L 80) = some (.int .i64 a) := by
        simp only [hL, rd1_arr, if_true, flat_int, hga, Option.map_some]
      repeat' (first
      | with_reducible (first | refine Tx_assoc ?_ | refine Tx_nopK ?_ | refine Tx_yesK rfl ?_ | refine Tx_no rfl ?_ | refine Tx_nop ?_ | refine Tx_blockK (id := 1) (fun Q1 hn1 hx1 hr1 ho1 => ?_) | refine hn1 _ ?_)
      | (with_reducible ((first | refine Tx_regK (fun K hK => ?_) | refine Tx_regE (fun K hK => ?_)); (first | refine t79r3 ?_ | refine t79r5 ?_ | refine t79r4 ?_)); (try simp only [true_implies, false_implies, not_true_eq_false, not_false_eq_true, tget_cons, if_true, if_false, Nat.reduceEqDiff, Obt_some, Kn_normal, ld1_l, Obt_lss, Obt_eql, Option.map_some, lenS, Obt_add, and_true, true_and, if_false, if_true, hol, hlt, hidx, hld, hna, hw]))
      | (revert hK; intro hK; (with_reducible refine hK _ ?_; clear hK K)))
      refine hnL0 t.length _ (by simp) ⟨d ++ [a], t, L, _, by simp [h2], rfl, hO, by simp⟩
theorem k79 (fn : Int) {fid : FuncId} {t : Tmp} {m : Mem} : callC An FF fid (some t) 79 [.int .i64 fn] m = some (.int .i64 (opp fn), m) :=
  callC_V (x79 fn) (fun _ _ _ => rfl) rfl rfl rfl rfl rfl
theorem x78 (x : Dr) (b : Bool) : FF 78 [.agg (drC x), .bool b] [] = some (.int .i64 (szB x b), []) := by
  have hO := fun (t : Tmp) (m : Mem) => k79 x.ins.fn (fid := 78) (t := t) (m := m)
  cases b with
  | false =>
    refine Fw_funK rfl Tryz.func78 s78 (Nat.le_of_ble_eq_true rfl) (fun Q hqr hqn => ?_)
    rw [cin_t (show An.pure 78 = true from rfl) (by simp only [cans, can_int, can_bool, can_agg, can_str, drE.can])]
    simp only [tinit, Nat.reduceAdd, c78]
    repeat' (first
    | with_reducible (first | refine Tx_assoc ?_ | refine Tx_yesK rfl ?_ | refine Tx_retK ?_)
    | (with_reducible (first | (refine Tx_regK (fun K hK => ?_); (first | refine t78r0 ?_ | refine t78r1 ?_ | refine t78r2 ?_)) | refine hqr _ ?_); (try simp only [tget_cons, if_true, if_false, Nat.reduceEqDiff, ccells, Obt_some, Kn_normal, newL_eq, newP_eq, setL_H, Obt_not, Option.map_some, Bool.not_false, and_true, true_and, if_false, if_true, r78, tend, tresAll, tresC, Option.bind_some, mapMem, retv_int, tup_one, Prod.mk.injEq, CV.int.injEq, drC]))
    | (revert hK; intro hK; (with_reducible refine hK _ ?_; clear hK K)))
    all_goals rfl
  | true =>
    rw [szB_t]
    by_cases o1 : 0 ≤ opp x.ins.fn
    · rw [if_pos o1]
      refine Fw_funK rfl Tryz.func78 s78 (Nat.le_of_ble_eq_true rfl) (fun Q hqr hqn => ?_)
      rw [cin_t (show An.pure 78 = true from rfl) (by simp only [cans, can_int, can_bool, can_agg, can_str, drE.can])]
      simp only [tinit, Nat.reduceAdd, c78]
      repeat' (first
      | with_reducible (first | refine Tx_assoc ?_ | refine Tx_nopK ?_ | refine Tx_yesK rfl ?_ | refine Tx_noK rfl ?_ | refine Tx_retK ?_)
      | (with_reducible (first | (refine Tx_regK (fun K hK => ?_); (first | refine t78r0 ?_ | refine t78r1 ?_ | refine t78r3 ?_ | refine t78r4 ?_)) | refine hqr _ ?_); (try simp only [true_implies, false_implies, not_true_eq_false, tget_cons, if_true, if_false, Nat.reduceEqDiff, ccells, Obt_some, Kn_normal, newL_eq, newP_eq, lget_setL, setL_H, Nat.zero_add, fldA_ptr, ld1_l, rd1_var, List.getElem?_cons_zero, List.getElem?_cons_succ, Obt_geq, Obt_not, Option.map_some, Bool.not_true, and_true, if_false, if_true, r78, tend, tresAll, tresC, Option.bind_some, mapMem, retv_int, tup_one, drC, hO, o1, ge_iff_le]))
      | (revert hK; intro hK; (with_reducible refine hK _ ?_; clear hK K)))
    · rw [if_neg o1]
      refine Fw_funK rfl Tryz.func78 s78 (Nat.le_of_ble_eq_true rfl) (fun Q hqr hqn => ?_)
      rw [cin_t (show An.pure 78 = true from rfl) (by simp only [cans, can_int, can_bool, can_agg, can_str, drE.can])]
      simp only [tinit, Nat.reduceAdd, c78]
      repeat' (first
      | with_reducible (first | refine Tx_assoc ?_ | refine Tx_nopK ?_ | refine Tx_noK rfl ?_ | refine Tx_ret ?_)
      | (with_reducible (first | (refine Tx_regK (fun K hK => ?_); (first | refine t78r0 ?_ | refine t78r1 ?_ | refine t78r3 ?_ | refine t78r5 ?_)) | refine hqr _ ?_); (try simp only [true_implies, false_implies, not_false_eq_true, tget_cons, if_true, if_false, Nat.reduceEqDiff, ccells, Obt_some, Kn_normal, newL_eq, newP_eq, lget_setL, setL_H, Nat.zero_add, fldA_ptr, ld1_l, rd1_var, List.getElem?_cons_zero, List.getElem?_cons_succ, Obt_geq, Obt_not, Option.map_some, Bool.not_true, true_and, if_false, if_true, r78, tend, tresAll, tresC, Option.bind_some, mapMem, retv_int, tup_one, drC, hO, o1, ge_iff_le]))
      | (revert hK; intro hK; (with_reducible refine hK _ ?_; clear hK K)))
theorem k78 (x : Dr) (b : Bool) {fid : FuncId} {t : Tmp} {m : Mem} : callC An FF fid (some t) 78 [.agg (drC x), .bool b] m = some (.int .i64 (szB x b), m) :=
  callC_V (x78 x b) (fun _ _ _ => rfl) rfl (by simp only [cans, can_agg, can_bool, drE.can]) rfl rfl rfl
theorem x54 (x : Dr) (w : Int) (hw : -9223372036854775000 ≤ w ∧ w ≤ 9223372036854775807) : FF 54 [.agg (drC x), .int .i64 w] [] = some (ownC rcC 8 (if 0 ≤ opp x.ins.fn then [{ x.ins with fn := opp x.ins.fn, imm := 1 }, jmp (w - 2)] else [{ x.ins with imm := 1 }, jmp 1, jmp (w - 3)]), []) := by
  have hO := fun (t : Tmp) (m : Mem) => k79 x.ins.fn (fid := 54) (t := t) (m := m)
  have hw3 : IntKind.i64.wrap (w - 2) = w - 2 := wI (by omega) (by omega)
  have hw4 : IntKind.i64.wrap (w - 3) = w - 3 := wI (by omega) (by omega)
  have hsetL : ∀ (L : List (Nat × HO)) (H : List HO) i x, setL ⟨L, H⟩ i x = ⟨lset L i x, H⟩ := fun _ _ _ _ => rfl
  by_cases o1 : 0 ≤ opp x.ins.fn
  · rw [if_pos o1]
    refine Fw_funK rfl Tryz.func54 s54 (Nat.le_of_ble_eq_true rfl) (fun Q hqr hqn => ?_)
    rw [cin_t (show An.pure 54 = true from rfl) (by simp only [cans, can_int, can_bool, can_agg, can_str, drE.can])]
    simp only [tinit, Nat.reduceAdd, c54]
    repeat' (first
    | with_reducible (first | refine Tx_assoc ?_ | refine Tx_yesK rfl ?_ | refine Tx_retK ?_)
    | (with_reducible (first | (refine Tx_regK (fun K hK => ?_); (first | refine t54r0 ?_ | refine t54r1 ?_ | refine t54r2 ?_ | refine t54r3 ?_ | refine t54r4 ?_ | refine t54r5 ?_ | refine t54r6 ?_)) | refine hqr _ ?_); (try simp only [true_implies, false_implies, not_true_eq_false, tget_cons, if_true, if_false, Nat.reduceEqDiff, ccells, Obt_some, Kn_normal, newL_eq, newP_eq, nmA_f, nmR_f, gn_var, lget_lset, gnext_lset, Nat.reduceMul, Nat.reduceAdd, Nat.zero_add, fldA_ptr, List.drop_zero, ld1_l, ldA_l, rd1_var, List.getElem?_cons_zero, List.getElem?_cons_succ, Obt_geq, Option.map_some, Obt_map, Obt_sub, Obt_bind, fillX, bslX, escP_list, stX_l, stV_var, splice, List.take_zero, List.take_succ_cons, List.drop_succ_cons, List.drop_nil, List.nil_append, List.cons_append, List.append_nil, List.length_cons, List.length_nil, Nat.reduceLeDiff, and_self, and_true, true_and, Nat.le_refl, Nat.zero_le, rdA_var, escP, List.all_cons, List.all_nil, Bool.and_self, if_false, if_true, r54, tend, tresAll, tresC, Option.bind_some, mapMem, retv_l, retR_arr, Nat.sub_self, tup_one, Prod.mk.injEq, drC, ldA_l, hO, o1, ge_iff_le, hw3, hw4, hsetL]))
    | (revert hK; intro hK; (with_reducible refine hK _ ?_; clear hK K)))
    all_goals rfl
  · rw [if_neg o1]
    refine Fw_funK rfl Tryz.func54 s54 (Nat.le_of_ble_eq_true rfl) (fun Q hqr hqn => ?_)
    rw [cin_t (show An.pure 54 = true from rfl) (by simp only [cans, can_int, can_bool, can_agg, can_str, drE.can])]
    simp only [tinit, Nat.reduceAdd, c54]
    repeat' (first
    | with_reducible (first | refine Tx_assoc ?_ | refine Tx_nopK ?_ | refine Tx_noK rfl ?_ | refine Tx_ret ?_)
    | (with_reducible (first | (refine Tx_regK (fun K hK => ?_); (first | refine t54r0 ?_ | refine t54r1 ?_ | refine t54r2 ?_ | refine t54r3 ?_ | refine t54r4 ?_ | refine t54r7 ?_)) | refine hqr _ ?_); (try simp only [true_implies, false_implies, not_false_eq_true, tget_cons, if_true, if_false, Nat.reduceEqDiff, ccells, Obt_some, Kn_normal, newL_eq, newP_eq, nmA_f, nmR_f, gn_var, lget_lset, gnext_lset, Nat.reduceMul, Nat.reduceAdd, Nat.zero_add, fldA_ptr, List.drop_zero, ld1_l, ldA_l, rd1_var, List.getElem?_cons_zero, List.getElem?_cons_succ, Obt_geq, Option.map_some, Obt_map, Obt_sub, Obt_bind, fillX, bslX, escP_list, stX_l, stV_var, splice, List.take_zero, List.take_succ_cons, List.drop_succ_cons, List.drop_nil, List.nil_append, List.cons_append, List.append_nil, List.length_cons, List.length_nil, Nat.reduceLeDiff, and_self, and_true, true_and, Nat.le_refl, Nat.zero_le, rdA_var, escP, List.all_cons, List.all_nil, Bool.and_self, if_false, if_true, r54, tend, tresAll, tresC, Option.bind_some, mapMem, retv_l, retR_arr, Nat.sub_self, tup_one, Prod.mk.injEq, drC, ldA_l, hO, o1, ge_iff_le, hw3, hw4, hsetL]))
    | (revert hK; intro hK; (with_reducible refine hK _ ?_; clear hK K)))
    all_goals rfl
def plN (sz : List Int) (k : Nat) : List Int := (List.range (k + 1)).map (sumN sz)
theorem plN_len {sz : List Int} {k : Nat} : (plN sz k).length = k + 1 := by simp [plN]
theorem plN_at {sz : List Int} {k j : Nat} (h : j ≤ k) : (plN sz k)[j]? = some (sumN sz j) := by
  simp [plN, List.getElem?_range (by omega : j < k + 1)]
theorem plN_succ {sz : List Int} {k : Nat} : plN sz (k + 1) = plN sz k ++ [sumN sz (k + 1)] := by
  rw [plN, List.range_succ, List.map_append]; rfl
theorem plN_ne {sz : List Int} {k : Nat} : plN sz k ≠ [] := fun e => by
  have := congrArg List.length e
  simp [plN_len] at this
theorem x53 {l : List Dr} {lg : List Bool} {H : List HO} {n g vl : Nat} (hl : l.length ≤ 100000) (hlg : lg.length = l.length) (hH : H[n]? = some (.arr g 1 (lg.flatMap boolC) vl)) : ∃ q, q = (ownC intC 1 (plN (szsD l lg) l.length), H) ∧ FF 53 [sl drC l, .ref (.g n) g 0 l.length] H = some q := by
  obtain ⟨sz, hsz⟩ : ∃ sz, sz = szsD l lg := ⟨_, rfl⟩
  have hsl : sz.length = l.length := by rw [hsz, szsD_len hlg]
  have hb0 : ∀ s ∈ sz, 1 ≤ s ∧ s ≤ 3 := by rw [hsz]; exact szsD_bd
  rw [← hsz]
  refine Fw_funE rfl Tryz.func53 s53 (Nat.le_of_ble_eq_true rfl) (fun Q hqr hqn => ?_)
  rw [show ∀ a, cin (An.pure 53) a = a from fun _ => rfl]
  simp only [tinit, Nat.reduceAdd, c53]
  repeat' (first
  | with_reducible (first | refine Tx_assoc ?_ | refine Tx_blockK (id := 0) (fun Q0 hn0 hx0 hr0 ho0 => ?_))
  | (with_reducible (refine Tx_regK (fun K hK => ?_); (first | refine t53r0 ?_ | refine t53r1 ?_ | refine t53r2 ?_)); (try simp only [tget_cons, if_true, if_false, Nat.reduceEqDiff, ccells, Obt_some, Kn_normal, nmA_f, nmR_f, Nat.zero_add, Option.map_some, fillX, bslX, escP_list, splice, List.take_zero, List.drop_succ_cons, List.drop_nil, List.nil_append, List.append_nil, List.length_cons, List.length_nil, and_self, Nat.le_refl, escP, List.all_cons, List.all_nil, Bool.and_self, if_false, if_true, Option.bind_some]))
  | (revert hK; intro hK; (with_reducible refine hK _ ?_; clear hK K)))
  refine Tx_loopK (fun k s => ∃ (dn td : List Dr) (v : CV) (L : List (Nat × HO)), l = dn ++ td ∧ k = td.length ∧ OwnE intC 1 ⟨L, H⟩ 112 v (plN sz dn.length) ∧
      s = ⟨[(0, sl drC l), (1, .ref (.g n) g 0 l.length), (5, v), (6, .int .i64 dn.length)], ⟨L, H⟩⟩) _ ⟨[], l, _, _, rfl, rfl, .inr ⟨plN_ne, _, rfl, by simp [plN, sumN_zero, lget_setL]; rfl⟩, rfl⟩ ?_
  rintro k s ⟨dn, td, v, L, h2, rfl, hO, rfl⟩ QL0 hnL0 hxL0 hrL0
  have hlen := congrArg List.length h2
  simp only [List.length_append] at hlen
  simp only [c53l0]
  cases td with
  | nil =>
    simp only [List.length_nil] at hlen
    have hdl : dn.length = l.length := by omega
    rw [hdl] at hO
    have hge : ¬ ((dn.length : Int) < l.length) := by omega
    repeat' (first
    | with_reducible (first | refine Tx_assoc ?_ | refine Tx_noK rfl ?_ | refine Tx_exitK ?_ | refine Tx_ret ?_ | refine hx0 _ ?_ | refine hxL0 _ _ ?_)
    | (with_reducible (first | (refine Tx_regK (fun K hK => ?_); (first | refine t53r3 ?_ | refine t53r6 ?_)) | refine hqr _ ?_); (try simp only [true_implies, false_implies, not_false_eq_true, tget_cons, if_true, if_false, Nat.reduceEqDiff, Obt_some, Kn_normal, Obt_lss, Option.map_some, lenS, Obt_map, Obt_bind, true_and, if_false, if_true, r53, tend, tresAll, tresC, Option.bind_some, mapMem, tup_one, Prod.mk.injEq, clen_sl, hge]))
    | (revert hK; intro hK; (with_reducible refine hK _ ?_; clear hK K)))
    refine hO.ret intC_len fun m' hm' => ?_
    exact ⟨rfl, hm'⟩
  | cons x td =>
    simp only [List.length_cons] at hlen
    have hlt : (dn.length : Int) < l.length := by omega
    have hw : IntKind.i64.wrap ((dn.length : Int) + 1) = dn.length + 1 := wI (by omega) (by omega)
    have hix := idxS_split (k := .i64) drE.len (by omega : 0 < 9) h2
    have hgx : l[dn.length]? = some x := by rw [h2]; simp
    have hgb : lg[dn.length]? = some lg[dn.length] := List.getElem?_eq_getElem (by omega)
    obtain ⟨b, hb⟩ : ∃ b, b = lg[dn.length] := ⟨_, rfl⟩
    rw [← hb] at hgb
    have hsx : sz[dn.length]? = some (szB x b) := by rw [hsz]; exact szsD_get hgx hgb
    have hss := sumN_succ hsx
    have hsb := sumN_bd (j := dn.length) hb0
    have hxb := szB_bd x b
    have hw2 : IntKind.i64.wrap (sumN sz dn.length + szB x b) = sumN sz dn.length + szB x b := wI (by omega) (by omega)
    have hixl := HR_ix (i := dn.length) (k := n) (n := l.length) (by omega)
    have hixg : idxS 1 (.ref (.g n) g 0 l.length) (.int .i64 dn.length) = some (.ptr (.g n) g dn.length) := by
      rw [idxS_ref, if_pos ⟨by omega, by omega⟩]; simp
    have hldb : ∀ L, ld1 ⟨L, H⟩ (.ptr (.g n) g dn.length) = some (.bool b) := fun L => by
      rw [ld1_g, hH]; simp only [rd1_arr, if_true, flat_bool, hgb, Option.map_some]
    have hk := fun (t : Tmp) (m : Mem) => k78 x b (fid := 53) (t := t) (m := m)
    simp only [drC] at hk
    have hgo : (plN sz dn.length)[dn.length]? = some (sumN sz dn.length) := plN_at (Nat.le_refl _)
    obtain ⟨g', rfl, hL, hi'⟩ := hO.get hgo
    have hidx : idxS 1 (.ref (.l 112) g' 0 (plN sz dn.length).length) (.int .i64 dn.length) = some (.ptr (.l 112) g' dn.length) := by
      rw [idxS_ref, if_pos ⟨by omega, by rw [plN_len]; omega⟩]; simp
    have hld : rd1 g' dn.length (lget L 112) = some (.int .i64 (sumN sz dn.length)) := by
      simp only [hL, rd1_arr, if_true, flat_int, hgo, Option.map_some]
    repeat' (first
    | with_reducible (first | refine Tx_assoc ?_ | refine Tx_nopK ?_ | refine Tx_yesK rfl ?_ | refine Tx_blockK (id := 1) (fun Q1 hn1 hx1 hr1 ho1 => ?_))
    | (with_reducible ((first | refine Tx_regK (fun K hK => ?_) | refine Tx_regE (fun K hK => ?_)); (first | refine t53r3 ?_ | refine t53r5 ?_)); (try simp only [true_implies, false_implies, not_true_eq_false, tget_cons, if_true, if_false, Nat.reduceEqDiff, Obt_some, Kn_normal, ld1_l, Obt_lss, Option.map_some, Bool.not_false, lenS, Obt_add, Obt_bind, List.nil_append, List.cons_append, and_true, if_false, if_true, clen_sl, hlt, hidx, hld, hix, ldA_r9, drC, hixg, hldb, hk, chk, noRef, isRef, hw2, bslX_int]))
    | (revert hK; intro hK; (with_reducible refine hK _ ?_; clear hK K)))
    refine OwnE.appN (l := plN sz dn.length) (ys := [sumN sz (dn.length + 1)]) (hO.keepS (by decide)) plN_ne intC_len (by rw [hss]; simp only [content_l, lget_setL, if_true, conR_arr]; rfl) rfl (by decide) (by rw [plN_len]; simp only [List.length_singleton]; omega) fun v' m' r1 r2 r3 => ?_
    refine hK _ ?_
    clear hK K
    obtain ⟨L', H'⟩ := m'
    simp only [setL_H] at r2
    subst r2
    repeat' (first
    | with_reducible refine hn1 _ ?_
    | (with_reducible (refine Tx_regE (fun K hK => ?_); refine t53r4 ?_); (try simp only [tget_cons, if_true, if_false, Nat.reduceEqDiff, Kn_normal, Obt_add, if_false, if_true, hw]))
    | (revert hK; intro hK; (with_reducible refine hK _ ?_; clear hK K)))
    have e : ((dn.length : Int) + 1) = ((dn ++ [x]).length : Int) := by simp
    rw [e]
    refine hnL0 td.length _ (by simp) ⟨dn ++ [x], td, v', L', by simp [h2], rfl, ?_, rfl⟩
    rw [List.length_append, List.length_singleton, plN_succ]; exact r1
end Go.Cm

namespace Go.Cm
open Go.Proofs Go.Pk
theorem k25 (r : Rc) {fid : FuncId} {t : Tmp} {m : Mem} : callC An FF fid (some t) 25 [.agg (rcC r)] m = some (.bool (chk48 r), m) := by
  rw [chk_eq]
  exact callC_V (x25 r) (fun _ _ _ => rfl) rfl (by simp only [cans, can_agg, rcE.can]) rfl rfl rfl
set_option maxHeartbeats 4000000 in
theorem x52 (l : List Dr) (marks : List Int) (hm : marks.length ≤ 9223372036854775807) (hl : l.length ≤ 9223372036854775807) : FF 52 [sl drC l, sl intC marks] [] = some (.bool (mayD l marks), []) := by
  by_cases h0 : (l.length : Int) > 100000
  · have he : mayD l marks = false := by
      unfold mayD; rw [decide_eq_false (by omega)]; rfl
    refine Fw_funK rfl Tryz.func52 s52 (Nat.le_of_ble_eq_true rfl) (fun Q hqr hqn => ?_)
    rw [cin_t (show An.pure 52 = true from rfl) (by simp only [cans, can_int, can_bool, can_agg, can_str, drE.can_sl, intE.can_sl])]
    simp only [tinit, Nat.reduceAdd, c52]
    repeat' (first
    | with_reducible (first | refine Tx_assoc ?_ | refine Tx_yesK rfl ?_ | refine Tx_retK ?_)
    | (with_reducible (first | (refine Tx_regK (fun K hK => ?_); (first | refine t52r0 ?_ | refine t52r1 ?_ | refine t52r2 ?_)) | refine hqr _ ?_); (try simp only [true_implies, false_implies, not_true_eq_false, tget_cons, if_true, if_false, Nat.reduceEqDiff, Obt_some, Kn_normal, Obt_gtr, Option.map_some, lenS, and_true, if_false, if_true, r52, tend, tresAll, tresC, Option.bind_some, mapMem, retv_bool, tup_one, clen_sl, h0, he, gt_iff_lt, gt_iff_lt.1 h0]))
    | (revert hK; intro hK; (with_reducible refine hK _ ?_; clear hK K)))
  have h0' : ¬ (100000 : Int) < l.length := h0
  have hd0 : decide (l.length ≤ 100000) = true := decide_eq_true (by omega)
  refine Fw_funK rfl Tryz.func52 s52 (Nat.le_of_ble_eq_true rfl) (fun Q hqr hqn => ?_)
  rw [cin_t (show An.pure 52 = true from rfl) (by simp only [cans, can_int, can_bool, can_agg, can_str, drE.can_sl, intE.can_sl])]
  simp only [tinit, Nat.reduceAdd, c52]
  repeat' (first
  | with_reducible (first | refine Tx_assoc ?_ | refine Tx_nopK ?_ | refine Tx_noK rfl ?_ | refine Tx_blockK (id := 0) (fun Q0 hn0 hx0 hr0 ho0 => ?_))
  | (with_reducible (refine Tx_regK (fun K hK => ?_); (first | refine t52r0 ?_ | refine t52r1 ?_ | refine t52r3 ?_)); (try simp only [true_implies, false_implies, not_false_eq_true, tget_cons, if_true, if_false, Nat.reduceEqDiff, Obt_some, Kn_normal, Obt_gtr, Option.map_some, lenS, true_and, if_false, if_true, clen_sl, h0, h0', gt_iff_lt]))
  | (revert hK; intro hK; (with_reducible refine hK _ ?_; clear hK K)))
  refine Tx_loopK (fun k s => ∃ (dn td : List Int) (L : List (Nat × HO)), marks = dn ++ td ∧ k = td.length ∧ dn.all (fun m => decide (0 ≤ m) && decide (m ≤ l.length)) = true ∧
      s = ⟨[(0, sl drC l), (1, sl intC marks), (5, .int .i64 dn.length)], ⟨L, []⟩⟩) _ ⟨[], marks, _, rfl, rfl, rfl, rfl⟩ ?_
  rintro k s ⟨dn, td, L, h2, rfl, hall, rfl⟩ QL0 hnL0 hxL0 hrL0
  have hlen := congrArg List.length h2
  simp only [List.length_append] at hlen
  simp only [c52l0]
  cases td with
  | cons a td =>
    simp only [List.length_cons] at hlen
    have hlt : (dn.length : Int) < marks.length := by omega
    have hw : IntKind.i64.wrap ((dn.length : Int) + 1) = dn.length + 1 := wI (by omega) (by omega)
    have hbad : (decide (0 ≤ a) && decide (a ≤ (l.length : Int))) = false → mayD l marks = false := fun h => by
      unfold mayD
      rw [h2, List.all_append, List.all_cons, h]; simp
    by_cases g1 : a < 0
    · have hb := hbad (by rw [decide_eq_false (by omega)]; rfl)
      repeat' (first
      | with_reducible (first | refine Tx_assoc ?_ | refine Tx_nopK ?_ | refine Tx_yesK rfl ?_ | refine Tx_yes rfl ?_ | refine Tx_ret ?_ | refine hr0 _ ?_ | refine Tx_blockK (id := 1) (fun Q1 hn1 hx1 hr1 ho1 => ?_) | refine hr1 _ ?_ | refine hrL0 _ ?_)
      | (with_reducible (first | (refine Tx_regK (fun K hK => ?_); (first | refine t52r4 ?_ | refine t52r6 ?_ | refine t52r7 ?_)) | refine hqr _ ?_); (try simp only [true_implies, false_implies, not_true_eq_false, tget_cons, if_true, if_false, Nat.reduceEqDiff, Obt_some, Kn_normal, ld1_r, Obt_lss, Obt_gtr, gdO_tf, gdO_ff, Option.map_some, pickX_t, pickX_f, lenS, Obt_map, List.nil_append, List.cons_append, and_true, if_false, if_true, r52, tend, tresAll, tresC, Option.bind_some, mapMem, retv_bool, tup_one, clen_sl, hlt, idxS_split intC_len (by omega) h2, intC, g1, hb]))
      | (revert hK; intro hK; (with_reducible refine hK _ ?_; clear hK K)))
    by_cases g2 : (l.length : Int) < a
    · have hb := hbad (by rw [decide_eq_false (p := a ≤ (l.length : Int)) (by omega), Bool.and_false])
      repeat' (first
      | with_reducible (first | refine Tx_assoc ?_ | refine Tx_nopK ?_ | refine Tx_yesK rfl ?_ | refine Tx_yes rfl ?_ | refine Tx_ret ?_ | refine hr0 _ ?_ | refine Tx_blockK (id := 1) (fun Q1 hn1 hx1 hr1 ho1 => ?_) | refine hr1 _ ?_ | refine hrL0 _ ?_)
      | (with_reducible (first | (refine Tx_regK (fun K hK => ?_); (first | refine t52r4 ?_ | refine t52r6 ?_ | refine t52r7 ?_)) | refine hqr _ ?_); (try simp only [true_implies, false_implies, not_true_eq_false, not_false_eq_true, tget_cons, if_true, if_false, Nat.reduceEqDiff, Obt_some, Kn_normal, ld1_r, Obt_lss, Obt_gtr, gdO_tf, gdO_ff, Option.map_some, pickX_t, pickX_f, lenS, Obt_map, List.nil_append, List.cons_append, and_true, true_and, if_false, if_true, r52, tend, tresAll, tresC, Option.bind_some, mapMem, retv_bool, tup_one, clen_sl, hlt, idxS_split intC_len (by omega) h2, intC, g1, g2, gt_iff_lt, hb]))
      | (revert hK; intro hK; (with_reducible refine hK _ ?_; clear hK K)))
    repeat' (first
    | with_reducible (first | refine Tx_assoc ?_ | refine Tx_nopK ?_ | refine Tx_yesK rfl ?_ | refine Tx_no rfl ?_ | refine Tx_nop ?_ | refine Tx_blockK (id := 1) (fun Q1 hn1 hx1 hr1 ho1 => ?_) | refine hn1 _ ?_)
    | (with_reducible ((first | refine Tx_regK (fun K hK => ?_) | refine Tx_regE (fun K hK => ?_)); (first | refine t52r4 ?_ | refine t52r6 ?_ | refine t52r5 ?_)); (try simp only [true_implies, false_implies, not_true_eq_false, not_false_eq_true, tget_cons, if_true, if_false, Nat.reduceEqDiff, Obt_some, Kn_normal, ld1_r, Obt_lss, Obt_gtr, gdO_tf, gdO_ff, Option.map_some, pickX_t, pickX_f, lenS, Obt_map, Obt_add, List.nil_append, List.cons_append, and_true, true_and, if_false, if_true, clen_sl, hlt, idxS_split intC_len (by omega) h2, intC, g1, g2, gt_iff_lt, hw]))
    | (revert hK; intro hK; (with_reducible refine hK _ ?_; clear hK K)))
    refine hnL0 td.length _ (by simp) ⟨dn ++ [a], td, L, by simp [h2], rfl, ?_, by simp⟩
    rw [List.all_append, hall]
    simp only [List.all_cons, List.all_nil, Bool.and_true, Bool.true_and, Bool.and_eq_true, decide_eq_true_eq]
    omega
  | nil =>
    simp only [List.length_nil] at hlen
    rw [List.append_nil] at h2
    have hge : ¬ ((dn.length : Int) < marks.length) := by omega
    rw [← h2] at hall
    repeat' (first
    | with_reducible (first | refine Tx_assoc ?_ | refine Tx_noK rfl ?_ | refine Tx_exitK ?_ | refine hx0 _ ?_ | refine Tx_blockK (id := 2) (fun Q2 hn2 hx2 hr2 ho2 => ?_) | refine hxL0 _ _ ?_)
    | (with_reducible (refine Tx_regK (fun K hK => ?_); (first | refine t52r4 ?_ | refine t52r8 ?_)); (try simp only [true_implies, false_implies, not_false_eq_true, tget_cons, if_true, if_false, Nat.reduceEqDiff, Obt_some, Kn_normal, Obt_lss, Option.map_some, lenS, true_and, if_false, if_true, hge, clen_sl]))
    | (revert hK; intro hK; (with_reducible refine hK _ ?_; clear hK K)))
    refine Tx_loopK (fun k s => ∃ (dn td : List Dr) (L : List (Nat × HO)), l = dn ++ td ∧ k = td.length ∧ dn.all (drOk marks.length) = true ∧
        s = ⟨[(0, sl drC l), (1, sl intC marks), (6, .int .i64 dn.length)], ⟨L, []⟩⟩) _ ⟨[], l, L, rfl, rfl, rfl, rfl⟩ ?_
    rintro k s ⟨dn, td, L, h3, rfl, hall2, rfl⟩ QL1 hnL1 hxL1 hrL1
    have hlen2 := congrArg List.length h3
    simp only [List.length_append] at hlen2
    simp only [c52l1]
    cases td with
    | nil =>
      simp only [List.length_nil] at hlen2
      rw [List.append_nil] at h3
      have hge2 : ¬ ((dn.length : Int) < l.length) := by omega
      have he : mayD l marks = true := by unfold mayD; rw [hd0, hall, h3, hall2]; rfl
      repeat' (first
      | with_reducible (first | refine Tx_assoc ?_ | refine Tx_noK rfl ?_ | refine Tx_exitK ?_ | refine Tx_ret ?_ | refine hx2 _ ?_ | refine hxL1 _ _ ?_)
      | (with_reducible (first | (refine Tx_regK (fun K hK => ?_); (first | refine t52r9 ?_ | refine t52r15 ?_)) | refine hqr _ ?_); (try simp only [true_implies, false_implies, not_false_eq_true, tget_cons, if_true, if_false, Nat.reduceEqDiff, Obt_some, Kn_normal, Obt_lss, Option.map_some, lenS, true_and, if_false, if_true, r52, tend, tresAll, tresC, Option.bind_some, mapMem, retv_bool, tup_one, clen_sl, hge2, he]))
      | (revert hK; intro hK; (with_reducible refine hK _ ?_; clear hK K)))
    | cons x td =>
      simp only [List.length_cons] at hlen2
      have hlt2 : (dn.length : Int) < l.length := by omega
      have hw2 : IntKind.i64.wrap ((dn.length : Int) + 1) = dn.length + 1 := wI (by omega) (by omega)
      have hsetL : ∀ (L : List (Nat × HO)) (H : List HO) i x, setL ⟨L, H⟩ i x = ⟨lset L i x, H⟩ := fun _ _ _ _ => rfl
      have hbad : drOk marks.length x = false → mayD l marks = false := fun h => by
        unfold mayD
        rw [h3, List.all_append, List.all_cons, h]; simp
      have hk := fun (t : Tmp) (m : Mem) => k25 x.ins (fid := 52) (t := t) (m := m)
      simp only [rcC] at hk
      have hix := idxS_split (k := .i64) drE.len (by omega : 0 < 9) h3
      have hnext : drOk marks.length x = true → ∀ L', QL1 .normal ⟨[(0, sl drC l), (1, sl intC marks), (6, .int .i64 ((dn.length : Int) + 1))], ⟨L', []⟩⟩ := fun hx L' => by
        have e : ((dn.length : Int) + 1) = ((dn ++ [x]).length : Int) := by simp
        rw [e]
        exact hnL1 td.length _ (by simp) ⟨dn ++ [x], td, L', by simp [h3], rfl, by rw [List.all_append, hall2]; simp [hx], rfl⟩
      obtain ⟨c, hc⟩ : ∃ c, c = chk48 x.ins := ⟨_, rfl⟩
      rw [← hc] at hk
      have hdr : drOk marks.length x = (decide (0 ≤ x.mark) && (decide (x.mark ≤ marks.length) && ((decide (x.mark ≤ 0) || ((decide (x.ins.op = 21) || decide (x.ins.op = 20)) && decide (x.ins.imm = 0))) && c))) := by rw [hc]; rfl
      obtain ⟨⟨op, d, a, b, fn, w, p, i⟩, mk⟩ := x
      simp only at hdr hk hix
      clear hc
      rw [hdr] at hbad hnext
      clear hdr
      rcases (show (op = 21 ∧ True) ∨ (¬ op = 21 ∧ op = 20) ∨ (¬ op = 21 ∧ ¬ op = 20) from (Classical.em (op = 21)).elim (fun h => .inl ⟨h, trivial⟩) fun h => (Classical.em (op = 20)).elim (fun g => .inr (.inl ⟨h, g⟩)) fun g => .inr (.inr ⟨h, g⟩)) with ⟨w1, w2⟩ | ⟨w1, w2⟩ | ⟨w1, w2⟩
      · subst w1
        cases c with
        | false =>
          have hb := hbad (by simp)
          repeat' (first
          | with_reducible (first | refine Tx_assoc ?_ | refine Tx_nopK ?_ | refine Tx_yesK rfl ?_ | refine Tx_yes rfl ?_ | refine Tx_ret ?_ | refine hr2 _ ?_ | refine Tx_blockK (id := 3) (fun Q3 hn3 hx3 hr3 ho3 => ?_) | refine hr3 _ ?_ | refine hrL1 _ ?_)
          | (with_reducible (first | (refine Tx_regK (fun K hK => ?_); (first | refine t52r9 ?_ | refine t52r11 ?_ | refine t52r12 ?_ | refine t52r13 ?_ | refine t52r14 ?_)) | refine hqr _ ?_); (try simp only [true_implies, false_implies, not_true_eq_false, tget_cons, if_true, if_false, Nat.reduceEqDiff, ccells, Obt_some, Kn_normal, newL_eq, newP_eq, lget_lset, Nat.reduceAdd, Nat.zero_add, fldA_ptr, List.drop_zero, ld1_l, ldA_l, rd1_var, List.getElem?_cons_zero, Obt_lss, Obt_eql, Obt_not, gdO_tf, gdO_ff, gdO_skip, Option.map_some, pickX_t, pickX_f, Bool.not_false, lenS, Obt_map, stX_l, stV_var, splice, List.take_zero, List.take_succ_cons, List.drop_succ_cons, List.drop_nil, List.nil_append, List.cons_append, List.append_nil, List.length_cons, List.length_nil, Nat.reduceLeDiff, and_self, and_true, Nat.le_refl, rdA_var, if_false, if_true, r52, tend, tresAll, tresC, Option.bind_some, mapMem, retv_bool, tup_one, clen_sl, hlt2, hix, ldA_r9, drC, ldA_l, hsetL, gt_iff_lt, hk, hb]))
          | (revert hK; intro hK; (with_reducible refine hK _ ?_; clear hK K)))
        | true =>
          by_cases g1 : mk < 0
          · have hb := hbad (by rw [decide_eq_false (p := 0 ≤ mk) (by omega)]; rfl)
            repeat' (first
            | with_reducible (first | refine Tx_assoc ?_ | refine Tx_nopK ?_ | refine Tx_yesK rfl ?_ | refine Tx_yes rfl ?_ | refine Tx_ret ?_ | refine hr2 _ ?_ | refine Tx_blockK (id := 3) (fun Q3 hn3 hx3 hr3 ho3 => ?_) | refine hr3 _ ?_ | refine hrL1 _ ?_)
            | (with_reducible (first | (refine Tx_regK (fun K hK => ?_); (first | refine t52r9 ?_ | refine t52r11 ?_ | refine t52r12 ?_ | refine t52r13 ?_ | refine t52r14 ?_)) | refine hqr _ ?_); (try simp only [true_implies, false_implies, not_true_eq_false, tget_cons, if_true, if_false, Nat.reduceEqDiff, ccells, Obt_some, Kn_normal, newL_eq, newP_eq, lget_lset, Nat.reduceAdd, Nat.zero_add, fldA_ptr, List.drop_zero, ld1_l, ldA_l, rd1_var, List.getElem?_cons_zero, List.getElem?_cons_succ, Obt_lss, Obt_gtr, Obt_eql, Obt_neq, Obt_not, gdO_tt, gdO_tf, gdO_ff, gdO_ft, gdO_skip, Option.map_some, pickX_t, pickX_f, Bool.not_true, lenS, Obt_map, stX_l, stV_var, splice, List.take_zero, List.take_succ_cons, List.drop_succ_cons, List.drop_nil, List.nil_append, List.cons_append, List.append_nil, List.length_cons, List.length_nil, Nat.reduceLeDiff, and_self, and_true, Nat.le_refl, rdA_var, if_false, if_true, r52, tend, tresAll, tresC, Option.bind_some, mapMem, retv_bool, tup_one, clen_sl, hlt2, hix, ldA_r9, drC, ldA_l, hsetL, gt_iff_lt, hk, g1, hb]))
            | (revert hK; intro hK; (with_reducible refine hK _ ?_; clear hK K)))
          by_cases g2 : (marks.length : Int) < mk
          · have hb := hbad (by rw [decide_eq_false (p := mk ≤ (marks.length : Int)) (by omega), Bool.false_and, Bool.and_false])
            repeat' (first
            | with_reducible (first | refine Tx_assoc ?_ | refine Tx_nopK ?_ | refine Tx_yesK rfl ?_ | refine Tx_yes rfl ?_ | refine Tx_ret ?_ | refine hr2 _ ?_ | refine Tx_blockK (id := 3) (fun Q3 hn3 hx3 hr3 ho3 => ?_) | refine hr3 _ ?_ | refine hrL1 _ ?_)
            | (with_reducible (first | (refine Tx_regK (fun K hK => ?_); (first | refine t52r9 ?_ | refine t52r11 ?_ | refine t52r12 ?_ | refine t52r13 ?_ | refine t52r14 ?_)) | refine hqr _ ?_); (try simp only [true_implies, false_implies, not_true_eq_false, not_false_eq_true, tget_cons, if_true, if_false, Nat.reduceEqDiff, ccells, Obt_some, Kn_normal, newL_eq, newP_eq, lget_lset, Nat.reduceAdd, Nat.zero_add, fldA_ptr, List.drop_zero, ld1_l, ldA_l, rd1_var, List.getElem?_cons_zero, List.getElem?_cons_succ, Obt_lss, Obt_gtr, Obt_eql, Obt_neq, Obt_not, gdO_tt, gdO_tf, gdO_ff, gdO_ft, gdO_skip, Option.map_some, pickX_t, pickX_f, Bool.not_true, lenS, Obt_map, stX_l, stV_var, splice, List.take_zero, List.take_succ_cons, List.drop_succ_cons, List.drop_nil, List.nil_append, List.cons_append, List.append_nil, List.length_cons, List.length_nil, Nat.reduceLeDiff, and_self, and_true, true_and, Nat.le_refl, rdA_var, if_false, if_true, r52, tend, tresAll, tresC, Option.bind_some, mapMem, retv_bool, tup_one, clen_sl, hlt2, hix, ldA_r9, drC, ldA_l, hsetL, gt_iff_lt, hk, g1, g2, hb]))
            | (revert hK; intro hK; (with_reducible refine hK _ ?_; clear hK K)))
          by_cases g3 : 0 < mk
          · by_cases g4 : i = 0
            · have hx := hnext (by simp; omega)
              subst g4
              repeat' (first
              | with_reducible (first | refine Tx_assoc ?_ | refine Tx_nopK ?_ | refine Tx_yesK rfl ?_ | refine Tx_no rfl ?_ | refine Tx_nop ?_ | refine Tx_blockK (id := 3) (fun Q3 hn3 hx3 hr3 ho3 => ?_) | refine hn3 _ ?_)
              | (with_reducible ((first | refine Tx_regK (fun K hK => ?_) | refine Tx_regE (fun K hK => ?_)); (first | refine t52r9 ?_ | refine t52r11 ?_ | refine t52r12 ?_ | refine t52r13 ?_ | refine t52r10 ?_)); (try simp only [true_implies, false_implies, not_true_eq_false, not_false_eq_true, tget_cons, if_true, if_false, Nat.reduceEqDiff, ccells, Obt_some, Kn_normal, newL_eq, newP_eq, lget_lset, Nat.reduceAdd, Nat.zero_add, fldA_ptr, List.drop_zero, ld1_l, ldA_l, rd1_var, List.getElem?_cons_zero, List.getElem?_cons_succ, Obt_lss, Obt_gtr, Obt_eql, Obt_neq, Obt_not, gdO_tt, gdO_tf, gdO_ff, gdO_ft, gdO_skip, Option.map_some, pickX_t, pickX_f, Bool.not_true, lenS, Obt_map, Obt_add, stX_l, stV_var, splice, List.take_zero, List.take_succ_cons, List.drop_succ_cons, List.drop_nil, List.nil_append, List.cons_append, List.append_nil, List.length_cons, List.length_nil, Nat.reduceLeDiff, and_self, and_true, true_and, Nat.le_refl, rdA_var, if_false, if_true, clen_sl, hlt2, hix, ldA_r9, drC, ldA_l, hsetL, gt_iff_lt, hk, g1, g2, g3, hw2]))
              | (revert hK; intro hK; (with_reducible refine hK _ ?_; clear hK K)))
              all_goals exact hx _
            · have hb := hbad (by rw [decide_eq_false (p := mk ≤ 0) (by omega), decide_eq_false g4]; simp)
              repeat' (first
              | with_reducible (first | refine Tx_assoc ?_ | refine Tx_nopK ?_ | refine Tx_yesK rfl ?_ | refine Tx_yes rfl ?_ | refine Tx_ret ?_ | refine hr2 _ ?_ | refine Tx_blockK (id := 3) (fun Q3 hn3 hx3 hr3 ho3 => ?_) | refine hr3 _ ?_ | refine hrL1 _ ?_)
              | (with_reducible (first | (refine Tx_regK (fun K hK => ?_); (first | refine t52r9 ?_ | refine t52r11 ?_ | refine t52r12 ?_ | refine t52r13 ?_ | refine t52r14 ?_)) | refine hqr _ ?_); (try simp only [true_implies, false_implies, not_true_eq_false, not_false_eq_true, tget_cons, if_true, if_false, Nat.reduceEqDiff, ccells, Obt_some, Kn_normal, newL_eq, newP_eq, lget_lset, Nat.reduceAdd, Nat.zero_add, fldA_ptr, List.drop_zero, ld1_l, ldA_l, rd1_var, List.getElem?_cons_zero, List.getElem?_cons_succ, Obt_lss, Obt_gtr, Obt_eql, Obt_neq, Obt_not, gdO_tt, gdO_tf, gdO_ff, gdO_ft, gdO_skip, Option.map_some, pickX_t, pickX_f, Bool.not_true, lenS, Obt_map, stX_l, stV_var, splice, List.take_zero, List.take_succ_cons, List.drop_succ_cons, List.drop_nil, List.nil_append, List.cons_append, List.append_nil, List.length_cons, List.length_nil, Nat.reduceLeDiff, and_self, and_true, true_and, Nat.le_refl, rdA_var, if_false, if_true, r52, tend, tresAll, tresC, Option.bind_some, mapMem, retv_bool, tup_one, clen_sl, hlt2, hix, ldA_r9, drC, ldA_l, hsetL, gt_iff_lt, hk, g1, g2, g3, g4, hb]))
              | (revert hK; intro hK; (with_reducible refine hK _ ?_; clear hK K)))
          · have hx := hnext (by simp; omega)
            repeat' (first
            | with_reducible (first | refine Tx_assoc ?_ | refine Tx_nopK ?_ | refine Tx_yesK rfl ?_ | refine Tx_no rfl ?_ | refine Tx_nop ?_ | refine Tx_blockK (id := 3) (fun Q3 hn3 hx3 hr3 ho3 => ?_) | refine hn3 _ ?_)
            | (with_reducible ((first | refine Tx_regK (fun K hK => ?_) | refine Tx_regE (fun K hK => ?_)); (first | refine t52r9 ?_ | refine t52r11 ?_ | refine t52r12 ?_ | refine t52r13 ?_ | refine t52r10 ?_)); (try simp only [true_implies, false_implies, not_true_eq_false, not_false_eq_true, tget_cons, if_true, if_false, Nat.reduceEqDiff, ccells, Obt_some, Kn_normal, newL_eq, newP_eq, lget_lset, Nat.reduceAdd, Nat.zero_add, fldA_ptr, List.drop_zero, ld1_l, ldA_l, rd1_var, List.getElem?_cons_zero, List.getElem?_cons_succ, Obt_lss, Obt_gtr, Obt_eql, Obt_neq, Obt_not, gdO_tt, gdO_tf, gdO_ff, gdO_ft, gdO_skip, Option.map_some, pickX_t, pickX_f, Bool.not_true, lenS, Obt_map, Obt_add, stX_l, stV_var, splice, List.take_zero, List.take_succ_cons, List.drop_succ_cons, List.drop_nil, List.nil_append, List.cons_append, List.append_nil, List.length_cons, List.length_nil, Nat.reduceLeDiff, and_self, and_true, true_and, Nat.le_refl, rdA_var, if_false, if_true, clen_sl, hlt2, hix, ldA_r9, drC, ldA_l, hsetL, gt_iff_lt, hk, g1, g2, g3, hw2]))
            | (revert hK; intro hK; (with_reducible refine hK _ ?_; clear hK K)))
            all_goals exact hx _
      · subst w2
        cases c with
        | false =>
          have hb := hbad (by simp)
          repeat' (first
          | with_reducible (first | refine Tx_assoc ?_ | refine Tx_nopK ?_ | refine Tx_yesK rfl ?_ | refine Tx_yes rfl ?_ | refine Tx_ret ?_ | refine hr2 _ ?_ | refine Tx_blockK (id := 3) (fun Q3 hn3 hx3 hr3 ho3 => ?_) | refine hr3 _ ?_ | refine hrL1 _ ?_)
          | (with_reducible (first | (refine Tx_regK (fun K hK => ?_); (first | refine t52r9 ?_ | refine t52r11 ?_ | refine t52r12 ?_ | refine t52r13 ?_ | refine t52r14 ?_)) | refine hqr _ ?_); (try simp only [true_implies, false_implies, not_true_eq_false, tget_cons, if_true, if_false, Nat.reduceEqDiff, ccells, Obt_some, Kn_normal, newL_eq, newP_eq, lget_lset, Nat.reduceAdd, Nat.zero_add, fldA_ptr, List.drop_zero, ld1_l, ldA_l, rd1_var, List.getElem?_cons_zero, Obt_lss, Obt_eql, Obt_not, gdO_tf, gdO_ff, gdO_skip, Option.map_some, pickX_t, pickX_f, Bool.not_false, lenS, Obt_map, stX_l, stV_var, splice, List.take_zero, List.take_succ_cons, List.drop_succ_cons, List.drop_nil, List.nil_append, List.cons_append, List.append_nil, List.length_cons, List.length_nil, Nat.reduceLeDiff, and_self, and_true, Nat.le_refl, rdA_var, if_false, if_true, r52, tend, tresAll, tresC, Option.bind_some, mapMem, retv_bool, tup_one, clen_sl, hlt2, hix, ldA_r9, drC, ldA_l, hsetL, gt_iff_lt, hk, hb]))
          | (revert hK; intro hK; (first | refine And.intro ?_ ?_ | intro _ | omega | (with_reducible refine hK _ ?_; clear hK K))))
        | true =>
          by_cases g1 : mk < 0
          · have hb := hbad (by rw [decide_eq_false (p := 0 ≤ mk) (by omega)]; rfl)
            repeat' (first
            | with_reducible (first | refine Tx_assoc ?_ | refine Tx_nopK ?_ | refine Tx_yesK rfl ?_ | refine Tx_yes rfl ?_ | refine Tx_ret ?_ | refine hr2 _ ?_ | refine Tx_blockK (id := 3) (fun Q3 hn3 hx3 hr3 ho3 => ?_) | refine hr3 _ ?_ | refine hrL1 _ ?_)
            | (with_reducible (first | (refine Tx_regK (fun K hK => ?_); (first | refine t52r9 ?_ | refine t52r11 ?_ | refine t52r12 ?_ | refine t52r13 ?_ | refine t52r14 ?_)) | refine hqr _ ?_); (try simp only [true_implies, false_implies, not_true_eq_false, tget_cons, if_true, if_false, Nat.reduceEqDiff, ccells, Obt_some, Kn_normal, newL_eq, newP_eq, lget_lset, Nat.reduceAdd, Nat.zero_add, fldA_ptr, List.drop_zero, ld1_l, ldA_l, rd1_var, List.getElem?_cons_zero, List.getElem?_cons_succ, Obt_lss, Obt_gtr, Obt_eql, Obt_neq, Obt_not, gdO_tt, gdO_tf, gdO_ff, gdO_ft, gdO_skip, Option.map_some, pickX_t, pickX_f, Bool.not_true, lenS, Obt_map, stX_l, stV_var, splice, List.take_zero, List.take_succ_cons, List.drop_succ_cons, List.drop_nil, List.nil_append, List.cons_append, List.append_nil, List.length_cons, List.length_nil, Nat.reduceLeDiff, and_self, and_true, Nat.le_refl, rdA_var, if_false, if_true, r52, tend, tresAll, tresC, Option.bind_some, mapMem, retv_bool, tup_one, clen_sl, hlt2, hix, ldA_r9, drC, ldA_l, hsetL, gt_iff_lt, hk, g1, hb]))
            | (revert hK; intro hK; (first | refine And.intro ?_ ?_ | intro _ | omega | (with_reducible refine hK _ ?_; clear hK K))))
          by_cases g2 : (marks.length : Int) < mk
          · have hb := hbad (by rw [decide_eq_false (p := mk ≤ (marks.length : Int)) (by omega), Bool.false_and, Bool.and_false])
            repeat' (first
            | with_reducible (first | refine Tx_assoc ?_ | refine Tx_nopK ?_ | refine Tx_yesK rfl ?_ | refine Tx_yes rfl ?_ | refine Tx_ret ?_ | refine hr2 _ ?_ | refine Tx_blockK (id := 3) (fun Q3 hn3 hx3 hr3 ho3 => ?_) | refine hr3 _ ?_ | refine hrL1 _ ?_)
            | (with_reducible (first | (refine Tx_regK (fun K hK => ?_); (first | refine t52r9 ?_ | refine t52r11 ?_ | refine t52r12 ?_ | refine t52r13 ?_ | refine t52r14 ?_)) | refine hqr _ ?_); (try simp only [true_implies, false_implies, not_true_eq_false, not_false_eq_true, tget_cons, if_true, if_false, Nat.reduceEqDiff, ccells, Obt_some, Kn_normal, newL_eq, newP_eq, lget_lset, Nat.reduceAdd, Nat.zero_add, fldA_ptr, List.drop_zero, ld1_l, ldA_l, rd1_var, List.getElem?_cons_zero, List.getElem?_cons_succ, Obt_lss, Obt_gtr, Obt_eql, Obt_neq, Obt_not, gdO_tt, gdO_tf, gdO_ff, gdO_ft, gdO_skip, Option.map_some, pickX_t, pickX_f, Bool.not_true, lenS, Obt_map, stX_l, stV_var, splice, List.take_zero, List.take_succ_cons, List.drop_succ_cons, List.drop_nil, List.nil_append, List.cons_append, List.append_nil, List.length_cons, List.length_nil, Nat.reduceLeDiff, and_self, and_true, true_and, Nat.le_refl, rdA_var, if_false, if_true, r52, tend, tresAll, tresC, Option.bind_some, mapMem, retv_bool, tup_one, clen_sl, hlt2, hix, ldA_r9, drC, ldA_l, hsetL, gt_iff_lt, hk, g1, g2, hb]))
            | (revert hK; intro hK; (first | refine And.intro ?_ ?_ | intro _ | omega | (with_reducible refine hK _ ?_; clear hK K))))
          by_cases g3 : 0 < mk
          · by_cases g4 : i = 0
            · have hx := hnext (by simp; omega)
              subst g4
              repeat' (first
              | with_reducible (first | refine Tx_assoc ?_ | refine Tx_nopK ?_ | refine Tx_yesK rfl ?_ | refine Tx_no rfl ?_ | refine Tx_nop ?_ | refine Tx_blockK (id := 3) (fun Q3 hn3 hx3 hr3 ho3 => ?_) | refine hn3 _ ?_)
              | (with_reducible ((first | refine Tx_regK (fun K hK => ?_) | refine Tx_regE (fun K hK => ?_)); (first | refine t52r9 ?_ | refine t52r11 ?_ | refine t52r12 ?_ | refine t52r13 ?_ | refine t52r10 ?_)); (try simp only [true_implies, false_implies, not_true_eq_false, not_false_eq_true, tget_cons, if_true, if_false, Nat.reduceEqDiff, ccells, Obt_some, Kn_normal, newL_eq, newP_eq, lget_lset, Nat.reduceAdd, Nat.zero_add, fldA_ptr, List.drop_zero, ld1_l, ldA_l, rd1_var, List.getElem?_cons_zero, List.getElem?_cons_succ, Obt_lss, Obt_gtr, Obt_eql, Obt_neq, Obt_not, gdO_tt, gdO_tf, gdO_ff, gdO_ft, gdO_skip, Option.map_some, pickX_t, pickX_f, Bool.not_true, lenS, Obt_map, Obt_add, stX_l, stV_var, splice, List.take_zero, List.take_succ_cons, List.drop_succ_cons, List.drop_nil, List.nil_append, List.cons_append, List.append_nil, List.length_cons, List.length_nil, Nat.reduceLeDiff, and_self, and_true, true_and, Nat.le_refl, rdA_var, if_false, if_true, clen_sl, hlt2, hix, ldA_r9, drC, ldA_l, hsetL, gt_iff_lt, hk, g1, g2, g3, hw2]))
              | (revert hK; intro hK; (first | refine And.intro ?_ ?_ | intro _ | omega | (with_reducible refine hK _ ?_; clear hK K))))
              all_goals exact hx _
            · have hb := hbad (by rw [decide_eq_false (p := mk ≤ 0) (by omega), decide_eq_false g4]; simp)
              repeat' (first
              | with_reducible (first | refine Tx_assoc ?_ | refine Tx_nopK ?_ | refine Tx_yesK rfl ?_ | refine Tx_yes rfl ?_ | refine Tx_ret ?_ | refine hr2 _ ?_ | refine Tx_blockK (id := 3) (fun Q3 hn3 hx3 hr3 ho3 => ?_) | refine hr3 _ ?_ | refine hrL1 _ ?_)
              | (with_reducible (first | (refine Tx_regK (fun K hK => ?_); (first | refine t52r9 ?_ | refine t52r11 ?_ | refine t52r12 ?_ | refine t52r13 ?_ | refine t52r14 ?_)) | refine hqr _ ?_); (try simp only [true_implies, false_implies, not_true_eq_false, not_false_eq_true, tget_cons, if_true, if_false, Nat.reduceEqDiff, ccells, Obt_some, Kn_normal, newL_eq, newP_eq, lget_lset, Nat.reduceAdd, Nat.zero_add, fldA_ptr, List.drop_zero, ld1_l, ldA_l, rd1_var, List.getElem?_cons_zero, List.getElem?_cons_succ, Obt_lss, Obt_gtr, Obt_eql, Obt_neq, Obt_not, gdO_tt, gdO_tf, gdO_ff, gdO_ft, gdO_skip, Option.map_some, pickX_t, pickX_f, Bool.not_true, lenS, Obt_map, stX_l, stV_var, splice, List.take_zero, List.take_succ_cons, List.drop_succ_cons, List.drop_nil, List.nil_append, List.cons_append, List.append_nil, List.length_cons, List.length_nil, Nat.reduceLeDiff, and_self, and_true, true_and, Nat.le_refl, rdA_var, if_false, if_true, r52, tend, tresAll, tresC, Option.bind_some, mapMem, retv_bool, tup_one, clen_sl, hlt2, hix, ldA_r9, drC, ldA_l, hsetL, gt_iff_lt, hk, g1, g2, g3, g4, hb]))
              | (revert hK; intro hK; (first | refine And.intro ?_ ?_ | intro _ | omega | (with_reducible refine hK _ ?_; clear hK K))))
          · have hx := hnext (by simp; omega)
            repeat' (first
            | with_reducible (first | refine Tx_assoc ?_ | refine Tx_nopK ?_ | refine Tx_yesK rfl ?_ | refine Tx_no rfl ?_ | refine Tx_nop ?_ | refine Tx_blockK (id := 3) (fun Q3 hn3 hx3 hr3 ho3 => ?_) | refine hn3 _ ?_)
            | (with_reducible ((first | refine Tx_regK (fun K hK => ?_) | refine Tx_regE (fun K hK => ?_)); (first | refine t52r9 ?_ | refine t52r11 ?_ | refine t52r12 ?_ | refine t52r13 ?_ | refine t52r10 ?_)); (try simp only [true_implies, false_implies, not_true_eq_false, not_false_eq_true, tget_cons, if_true, if_false, Nat.reduceEqDiff, ccells, Obt_some, Kn_normal, newL_eq, newP_eq, lget_lset, Nat.reduceAdd, Nat.zero_add, fldA_ptr, List.drop_zero, ld1_l, ldA_l, rd1_var, List.getElem?_cons_zero, List.getElem?_cons_succ, Obt_lss, Obt_gtr, Obt_eql, Obt_neq, Obt_not, gdO_tt, gdO_tf, gdO_ff, gdO_ft, gdO_skip, Option.map_some, pickX_t, pickX_f, Bool.not_true, lenS, Obt_map, Obt_add, stX_l, stV_var, splice, List.take_zero, List.take_succ_cons, List.drop_succ_cons, List.drop_nil, List.nil_append, List.cons_append, List.append_nil, List.length_cons, List.length_nil, Nat.reduceLeDiff, and_self, and_true, true_and, Nat.le_refl, rdA_var, if_false, if_true, clen_sl, hlt2, hix, ldA_r9, drC, ldA_l, hsetL, gt_iff_lt, hk, g1, g2, g3, hw2]))
            | (revert hK; intro hK; (first | refine And.intro ?_ ?_ | intro _ | omega | (with_reducible refine hK _ ?_; clear hK K))))
            all_goals exact hx _
      · cases c with
        | false =>
          have hb := hbad (by simp)
          repeat' (first
          | with_reducible (first | refine Tx_assoc ?_ | refine Tx_nopK ?_ | refine Tx_yesK rfl ?_ | refine Tx_yes rfl ?_ | refine Tx_ret ?_ | refine hr2 _ ?_ | refine Tx_blockK (id := 3) (fun Q3 hn3 hx3 hr3 ho3 => ?_) | refine hr3 _ ?_ | refine hrL1 _ ?_)
          | (with_reducible (first | (refine Tx_regK (fun K hK => ?_); (first | refine t52r9 ?_ | refine t52r11 ?_ | refine t52r12 ?_ | refine t52r13 ?_ | refine t52r14 ?_)) | refine hqr _ ?_); (try simp only [true_implies, false_implies, not_true_eq_false, not_false_eq_true, tget_cons, if_true, if_false, Nat.reduceEqDiff, ccells, Obt_some, Kn_normal, newL_eq, newP_eq, lget_lset, Nat.reduceAdd, Nat.zero_add, fldA_ptr, List.drop_zero, ld1_l, ldA_l, rd1_var, List.getElem?_cons_zero, Obt_lss, Obt_eql, Obt_not, gdO_tf, gdO_ff, gdO_skip, Option.map_some, pickX_t, pickX_f, Bool.not_false, lenS, Obt_map, stX_l, stV_var, splice, List.take_zero, List.take_succ_cons, List.drop_succ_cons, List.drop_nil, List.nil_append, List.cons_append, List.append_nil, List.length_cons, List.length_nil, Nat.reduceLeDiff, and_self, and_true, true_and, Nat.le_refl, rdA_var, if_false, if_true, r52, tend, tresAll, tresC, Option.bind_some, mapMem, retv_bool, tup_one, clen_sl, hlt2, hix, ldA_r9, drC, ldA_l, hsetL, gt_iff_lt, w1, w2, hk, hb]))
          | (revert hK; intro hK; (with_reducible refine hK _ ?_; clear hK K)))
        | true =>
          by_cases g1 : mk < 0
          · have hb := hbad (by rw [decide_eq_false (p := 0 ≤ mk) (by omega)]; rfl)
            repeat' (first
            | with_reducible (first | refine Tx_assoc ?_ | refine Tx_nopK ?_ | refine Tx_yesK rfl ?_ | refine Tx_yes rfl ?_ | refine Tx_ret ?_ | refine hr2 _ ?_ | refine Tx_blockK (id := 3) (fun Q3 hn3 hx3 hr3 ho3 => ?_) | refine hr3 _ ?_ | refine hrL1 _ ?_)
            | (with_reducible (first | (refine Tx_regK (fun K hK => ?_); (first | refine t52r9 ?_ | refine t52r11 ?_ | refine t52r12 ?_ | refine t52r13 ?_ | refine t52r14 ?_)) | refine hqr _ ?_); (try simp only [true_implies, false_implies, not_true_eq_false, not_false_eq_true, tget_cons, if_true, if_false, Nat.reduceEqDiff, ccells, Obt_some, Kn_normal, newL_eq, newP_eq, lget_lset, Nat.reduceAdd, Nat.zero_add, fldA_ptr, List.drop_zero, ld1_l, ldA_l, rd1_var, List.getElem?_cons_zero, List.getElem?_cons_succ, Obt_lss, Obt_gtr, Obt_eql, Obt_not, gdO_tt, gdO_tf, gdO_ff, gdO_ft, gdO_skip, Option.map_some, pickX_t, pickX_f, Bool.not_true, Bool.not_false, lenS, Obt_map, stX_l, stV_var, splice, List.take_zero, List.take_succ_cons, List.drop_succ_cons, List.drop_nil, List.nil_append, List.cons_append, List.append_nil, List.length_cons, List.length_nil, Nat.reduceLeDiff, and_self, and_true, true_and, Nat.le_refl, rdA_var, if_false, if_true, r52, tend, tresAll, tresC, Option.bind_some, mapMem, retv_bool, tup_one, clen_sl, hlt2, hix, ldA_r9, drC, ldA_l, hsetL, gt_iff_lt, w1, w2, hk, g1, hb]))
            | (revert hK; intro hK; (with_reducible refine hK _ ?_; clear hK K)))
          by_cases g2 : (marks.length : Int) < mk
          · have hb := hbad (by rw [decide_eq_false (p := mk ≤ (marks.length : Int)) (by omega), Bool.false_and, Bool.and_false])
            repeat' (first
            | with_reducible (first | refine Tx_assoc ?_ | refine Tx_nopK ?_ | refine Tx_yesK rfl ?_ | refine Tx_yes rfl ?_ | refine Tx_ret ?_ | refine hr2 _ ?_ | refine Tx_blockK (id := 3) (fun Q3 hn3 hx3 hr3 ho3 => ?_) | refine hr3 _ ?_ | refine hrL1 _ ?_)
            | (with_reducible (first | (refine Tx_regK (fun K hK => ?_); (first | refine t52r9 ?_ | refine t52r11 ?_ | refine t52r12 ?_ | refine t52r13 ?_ | refine t52r14 ?_)) | refine hqr _ ?_); (try simp only [true_implies, false_implies, not_true_eq_false, not_false_eq_true, tget_cons, if_true, if_false, Nat.reduceEqDiff, ccells, Obt_some, Kn_normal, newL_eq, newP_eq, lget_lset, Nat.reduceAdd, Nat.zero_add, fldA_ptr, List.drop_zero, ld1_l, ldA_l, rd1_var, List.getElem?_cons_zero, List.getElem?_cons_succ, Obt_lss, Obt_gtr, Obt_eql, Obt_not, gdO_tt, gdO_tf, gdO_ff, gdO_ft, gdO_skip, Option.map_some, pickX_t, pickX_f, Bool.not_true, Bool.not_false, lenS, Obt_map, stX_l, stV_var, splice, List.take_zero, List.take_succ_cons, List.drop_succ_cons, List.drop_nil, List.nil_append, List.cons_append, List.append_nil, List.length_cons, List.length_nil, Nat.reduceLeDiff, and_self, and_true, true_and, Nat.le_refl, rdA_var, if_false, if_true, r52, tend, tresAll, tresC, Option.bind_some, mapMem, retv_bool, tup_one, clen_sl, hlt2, hix, ldA_r9, drC, ldA_l, hsetL, gt_iff_lt, w1, w2, hk, g1, g2, hb]))
            | (revert hK; intro hK; (with_reducible refine hK _ ?_; clear hK K)))
          by_cases g3 : 0 < mk
          · have hb := hbad (by rw [decide_eq_false (p := mk ≤ 0) (by omega), decide_eq_false w1, decide_eq_false w2]; simp)
            repeat' (first
            | with_reducible (first | refine Tx_assoc ?_ | refine Tx_nopK ?_ | refine Tx_yesK rfl ?_ | refine Tx_yes rfl ?_ | refine Tx_ret ?_ | refine hr2 _ ?_ | refine Tx_blockK (id := 3) (fun Q3 hn3 hx3 hr3 ho3 => ?_) | refine hr3 _ ?_ | refine hrL1 _ ?_)
            | (with_reducible (first | (refine Tx_regK (fun K hK => ?_); (first | refine t52r9 ?_ | refine t52r11 ?_ | refine t52r12 ?_ | refine t52r13 ?_ | refine t52r14 ?_)) | refine hqr _ ?_); (try simp only [true_implies, false_implies, not_true_eq_false, not_false_eq_true, tget_cons, if_true, if_false, Nat.reduceEqDiff, ccells, Obt_some, Kn_normal, newL_eq, newP_eq, lget_lset, Nat.reduceAdd, Nat.zero_add, fldA_ptr, List.drop_zero, ld1_l, ldA_l, rd1_var, List.getElem?_cons_zero, List.getElem?_cons_succ, Obt_lss, Obt_gtr, Obt_eql, Obt_not, gdO_tt, gdO_tf, gdO_ff, gdO_ft, gdO_skip, Option.map_some, pickX_t, pickX_f, Bool.not_true, Bool.not_false, lenS, Obt_map, stX_l, stV_var, splice, List.take_zero, List.take_succ_cons, List.drop_succ_cons, List.drop_nil, List.nil_append, List.cons_append, List.append_nil, List.length_cons, List.length_nil, Nat.reduceLeDiff, and_self, and_true, true_and, Nat.le_refl, rdA_var, if_false, if_true, r52, tend, tresAll, tresC, Option.bind_some, mapMem, retv_bool, tup_one, clen_sl, hlt2, hix, ldA_r9, drC, ldA_l, hsetL, gt_iff_lt, w1, w2, hk, g1, g2, g3, hb]))
            | (revert hK; intro hK; (with_reducible refine hK _ ?_; clear hK K)))
          · have hx := hnext (by simp; omega)
            repeat' (first
            | with_reducible (first | refine Tx_assoc ?_ | refine Tx_nopK ?_ | refine Tx_yesK rfl ?_ | refine Tx_no rfl ?_ | refine Tx_nop ?_ | refine Tx_blockK (id := 3) (fun Q3 hn3 hx3 hr3 ho3 => ?_) | refine hn3 _ ?_)
            | (with_reducible ((first | refine Tx_regK (fun K hK => ?_) | refine Tx_regE (fun K hK => ?_)); (first | refine t52r9 ?_ | refine t52r11 ?_ | refine t52r12 ?_ | refine t52r13 ?_ | refine t52r10 ?_)); (try simp only [true_implies, false_implies, not_true_eq_false, not_false_eq_true, tget_cons, if_true, if_false, Nat.reduceEqDiff, ccells, Obt_some, Kn_normal, newL_eq, newP_eq, lget_lset, Nat.reduceAdd, Nat.zero_add, fldA_ptr, List.drop_zero, ld1_l, ldA_l, rd1_var, List.getElem?_cons_zero, List.getElem?_cons_succ, Obt_lss, Obt_gtr, Obt_eql, Obt_not, gdO_tt, gdO_tf, gdO_ff, gdO_ft, gdO_skip, Option.map_some, pickX_t, pickX_f, Bool.not_true, Bool.not_false, lenS, Obt_map, Obt_add, stX_l, stV_var, splice, List.take_zero, List.take_succ_cons, List.drop_succ_cons, List.drop_nil, List.nil_append, List.cons_append, List.append_nil, List.length_cons, List.length_nil, Nat.reduceLeDiff, and_self, and_true, true_and, Nat.le_refl, rdA_var, if_false, if_true, clen_sl, hlt2, hix, ldA_r9, drC, ldA_l, hsetL, gt_iff_lt, w1, w2, hk, g1, g2, g3, hw2]))
            | (revert hK; intro hK; (with_reducible refine hK _ ?_; clear hK K)))
            all_goals exact hx _
theorem k52 (l : List Dr) (marks : List Int) (hm : marks.length ≤ 9223372036854775807) (hl : l.length ≤ 9223372036854775807) {fid : FuncId} {t : Tmp} {m : Mem} : callC An FF fid (some t) 52 [sl drC l, sl intC marks] m = some (.bool (mayD l marks), m) :=
  callC_V (x52 l marks hm hl) (fun _ _ _ => rfl) rfl (by simp only [cans, drE.can_sl, intE.can_sl]) rfl (by simp only [noGs, drE.noG_sl, intE.noG_sl, Bool.and_self]) rfl
end Go.Cm

namespace Go.Cm
open Go.Proofs Go.Pk
def HB (lg : List Bool) : List HO := [.arr 1 1 (lg.flatMap boolC) 0]
section
variable {lg : List Bool} {L : List (Nat × HO)} {i : Nat} {b : Bool}
theorem HB_ld (h : lg[i]? = some b) : ld1 ⟨L, HB lg⟩ (.ptr (.g 0) 1 i) = some (.bool b) := by
  have e : (HB lg)[0]? = some (.arr 1 1 (lg.flatMap boolC) 0) := rfl
  rw [ld1_g, e]; simp only [rd1_arr, if_true, flat_bool, h, Option.map_some]
theorem HB_st (h : i < lg.length) : stX 1 ⟨L, HB lg⟩ (.ptr (.g 0) 1 i) (.bool b) = some ⟨L, HB (lg.set i b)⟩ := by
  rw [stX_one (cells := lg.flatMap boolC) rfl (by rw [len_bool]; exact h) rfl rfl, set_bool]; rfl
end
def OwnS (m : Mem) (v : CV) (l : List Rc) : Prop := ∃ j, (j = 1680 ∨ j = 2144 ∨ j = 2256) ∧ OwnE rcC 8 m j v l
theorem OwnS.keep {m m' : Mem} {v : CV} {l : List Rc} (h : OwnS m v l) (hm : ∀ j, (j = 1680 ∨ j = 2144 ∨ j = 2256) → lget m'.L j = lget m.L j) : OwnS m' v l := by
  obtain ⟨j, hj, h⟩ := h
  exact ⟨j, hj, h.keep (hm j hj)⟩
theorem OwnS.app {m : Mem} {v x : CV} {l ys : List Rc} {j' b : Nat} {K : CV × Mem → Prop} (h : OwnS m v l) (hj' : j' = 1680 ∨ j' = 2144 ∨ j' = 2256) (hx : content m 8 x = some (ys.flatMap rcC)) (hn : clen x = some ys.length) (hb : b ≤ 1024)
    (hl : l.length + ys.length ≤ 4294967296) (hK : ∀ v' m', OwnS m' v' (l ++ ys) → m'.H = m.H → (∀ i, ¬ (i = 1680 ∨ i = 2144 ∨ i = 2256) → lget m'.L i = lget m.L i) → K (v', m')) : Obt (appX false j' 8 b v x m) K := by
  obtain ⟨j, hj, h⟩ := h
  by_cases h0 : l = []
  · subst h0
    have hv : v = .nil := by
      rcases h with ⟨_, h⟩ | ⟨h, _⟩
      · exact h
      · exact absurd rfl h
    subst hv
    exact OwnE.app (.inl ⟨rfl, rfl⟩) rcE.len hx hn hb hl fun v' m' h1 h2 h3 => hK v' m' ⟨j', hj', h1⟩ h2 fun i hi => h3 i fun e => hi (e ▸ hj')
  · exact OwnE.appN h h0 rcE.len hx hn hb hl fun v' m' h1 h2 h3 => hK v' m' ⟨j, hj, h1⟩ h2 fun i hi => h3 i fun e => hi (e ▸ hj)
theorem OwnS.len {m : Mem} {v : CV} {l : List Rc} (h : OwnS m v l) : clen v = some l.length := by
  obtain ⟨j, hj, h⟩ := h; exact h.len
theorem k53 {l : List Dr} {lg : List Bool} (hl : l.length ≤ 100000) (hlg : lg.length = l.length) {t : Tmp} {L : List (Nat × HO)} {K : CV × Mem → Prop} (hgl : (An.glob 26).contains t = false)
    (hK : ∀ v L', OwnE intC 1 ⟨L', HB lg⟩ (16 * t) v (plN (szsD l lg) l.length) → K (v, ⟨L', HB lg⟩)) : Obt (callC An FF 26 (some t) 53 [sl drC l, .ref (.g 0) 1 0 l.length] ⟨L, HB lg⟩) K := by
  obtain ⟨_, rfl, h⟩ := x53 (H := HB lg) (n := 0) (g := 1) (vl := 0) hl hlg rfl
  rw [callC_I (A := An) (F := FF) (fid := 26) (d := t) (m := ⟨L, HB lg⟩) rfl (by simp only [List.all_cons, List.all_nil]; rfl) h, hgl, Obt_some]
  obtain ⟨v1, m1, e1, e2, e3, e4⟩ := adopt_ownC (e := intC) (sz := 1) (m := ⟨L, HB lg⟩) (l := plN (szsD l lg) l.length) (d := t) (gl := false) rfl
  rw [e1]
  obtain ⟨L1, H1⟩ := m1
  simp only at e3
  subst e3
  exact hK v1 L1 e2
theorem k54 (x : Dr) (w : Int) (hw : -9223372036854775000 ≤ w ∧ w ≤ 9223372036854775807) {t : Tmp} {m : Mem} {K : CV × Mem → Prop} (hgl : (An.glob 26).contains t = false)
    (hK : ∀ v m', OwnE rcC 8 m' (16 * t) v (if 0 ≤ opp x.ins.fn then [{ x.ins with fn := opp x.ins.fn, imm := 1 }, jmp (w - 2)] else [{ x.ins with imm := 1 }, jmp 1, jmp (w - 3)]) → m'.H = m.H → (∀ i, i ≠ 16 * t → lget m'.L i = lget m.L i) → K (v, m')) :
    Obt (callC An FF 26 (some t) 54 [.agg (drC x), .int .i64 w] m) K :=
  callC_O (x54 x w hw) rfl (by simp only [cans, can_agg, can_int, drE.can]) rfl rfl rcE.noG hgl hK
end Go.Cm
