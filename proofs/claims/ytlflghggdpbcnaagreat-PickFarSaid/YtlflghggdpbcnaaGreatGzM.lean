import Derived.Test.YtlflghggdpbcnaaGreatGpH
set_option linter.unusedSimpArgs false
set_option linter.unusedVariables false
namespace Go.Cm
open Go.Proofs Go.Pk
section
variable {α : Type} {e : α → List CV} {sz : Nat} {m m' : Mem} {j : Nat} {v : CV} {l : List α}
theorem flat_take (hs : ∀ a, (e a).length = sz) : ∀ (l : List α) (k : Nat), k ≤ l.length → (l.flatMap e).take (k * sz) = (l.take k).flatMap e
  | _, 0, _ => by simp
  | [], k + 1, h => by simp at h
  | a :: l, k + 1, h => by
    have h' : k ≤ l.length := by simpa using h
    rw [List.flatMap_cons, List.take_succ_cons, List.flatMap_cons, ← flat_take hs l k h', Nat.add_mul, Nat.one_mul, Nat.add_comm, ← hs a, List.take_length_add_append]
theorem flat_drop (hs : ∀ a, (e a).length = sz) : ∀ (l : List α) (k : Nat), k ≤ l.length → (l.flatMap e).drop (k * sz) = (l.drop k).flatMap e
  | _, 0, _ => by simp
  | [], k + 1, h => by simp at h
  | a :: l, k + 1, h => by
    have h' : k ≤ l.length := by simpa using h
    rw [List.flatMap_cons, List.drop_succ_cons, ← flat_drop hs l k h', Nat.add_mul, Nat.one_mul, Nat.add_comm, ← hs a, List.drop_length_add_append]
theorem slcX_hi (hs : ∀ a, (e a).length = sz) {k : Nat} (hk : k ≤ l.length) : slcX sz (sl e l) none (some (.int .i64 k)) none m = some (sl e (l.take k)) := by
  have hb : bounds l.length none (some (.int .i64 k)) = some (0, k) := by simp [bounds, asNat, hk]
  simp only [slcX, mxOK, clen_sl, hb]
  simp only [sl, Nat.zero_mul, List.drop_zero, Nat.sub_zero, flat_take hs l k hk, List.length_take, Nat.min_eq_left hk]
theorem slcX_lo (hs : ∀ a, (e a).length = sz) {k : Nat} (hk : k ≤ l.length) : slcX sz (sl e l) (some (.int .i64 k)) none none m = some (sl e (l.drop k)) := by
  have hb : bounds l.length (some (.int .i64 k)) none = some (k, l.length) := by simp [bounds, asNat, hk]
  simp only [slcX, mxOK, clen_sl, hb]
  simp only [sl, flat_drop hs l k hk, List.length_drop]
  rw [List.take_of_length_le (by rw [flat_len hs, List.length_drop]; exact Nat.le_refl _)]
def OwnR {α : Type} (e : α → List CV) (sz : Nat) (m : Mem) (j : Nat) (v : CV) (l : List α) : Prop :=
  ∃ g vl, v = .ref (.l j) g 0 l.length ∧ lget m.L j = some (.arr g sz (l.flatMap e) vl) ∧ vl ≤ l.length * sz
theorem OwnR.keep (h : OwnR e sz m j v l) (hm : lget m'.L j = lget m.L j) : OwnR e sz m' j v l := by
  obtain ⟨g, vl, h1, h2, h3⟩ := h
  exact ⟨g, vl, h1, by rw [hm, h2], h3⟩
theorem OwnR.app (h : OwnR e sz m j v l) {j' b : Nat} {x : CV} {ys : List α} {K : CV × Mem → Prop} (hs : ∀ a, (e a).length = sz) (hx : Cm.content m sz x = some (ys.flatMap e)) (hn : clen x = some ys.length)
    (hb : b ≤ 1024) (hl : l.length + ys.length ≤ 4294967296) (hK : ∀ v' m', OwnR e sz m' j v' (l ++ ys) → m'.H = m.H → (∀ i, i ≠ j → lget m'.L i = lget m.L i) → K (v', m')) : Obt (appX false j' sz b v x m) K := by
  obtain ⟨g, vl, rfl, h, hvl⟩ := h
  have htk : (l.flatMap e).take (l.length * sz) = l.flatMap e := List.take_of_length_le (by rw [flat_len hs]; omega)
  rw [appX_l, hx, hn, h, appR_arr, if_pos ⟨by omega, smallB_ok hb hl⟩, Obt_some]
  refine hK _ _ ⟨g + 1, vl - 0, by simp, ?_, by simp only [List.length_append]; have := Nat.mul_le_mul_right sz (Nat.le_add_right l.length ys.length); omega⟩ rfl ?_
  · rw [lget_setL, if_pos rfl, List.drop_zero, htk, List.flatMap_append]
  · intro i hi; rw [lget_setL, if_neg (Ne.symm hi)]
theorem OwnR.esc1 (h : OwnR e sz m j v l) (hs : ∀ a, (e a).length = sz) : ∃ m1, esc deep v m = some (sl e l, m1) ∧ m1.H = m.H ∧ (∀ i, i ≠ j → lget m1.L i = lget m.L i) ∧ OwnR e sz m1 j v l := by
  obtain ⟨g, vl, rfl, h1, h2⟩ := h
  refine ⟨setL m j (.arr g sz (l.flatMap e) (max vl (l.length * sz))), ?_, rfl, fun i hi => by rw [lget_setL, if_neg (Ne.symm hi)], ⟨g, max vl (l.length * sz), rfl, by rw [lget_setL, if_pos rfl], by omega⟩⟩
  simp only [deep, esc, h1, if_true, List.drop_zero, HO.seen, Nat.zero_add]
  rw [List.take_of_length_le (by rw [flat_len hs]; omega)]; rfl
end
def retD : Dr := ⟨⟨23, 0, 0, 0, 0, false, 0, 0⟩, 0⟩
theorem bsl_ret {s : Nat} {m : Mem} {z : List CV} (hz : z.length = 9) : bslX false s 9 1 z [(0, 9, .agg [.int .i64 23, .int .i64 0, .int .i64 0, .int .i64 0, .int .i64 0, .bool false, .int .i64 0, .int .i64 0, .int .i64 0])] m =
    some (.ref (.l s) (gnext m.L s) 0 1, setL m s (.arr (gnext m.L s) 9 (drC retD) 0)) := by
  match z, hz with
  | [_, _, _, _, _, _, _, _, _], _ => rfl
theorem escRlx {m : Mem} {v w : CV} {M : List Dr} {T : List Int} (hV : OwnR drC 9 m 720 v M) (hW : OwnV intC 1 m 1440 w T) : ∃ m1, escList m [v, w] = some ([sl drC M, rowC intC T], m1) ∧ m1.H = m.H ∧ (∀ i, i ≠ 720 → i ≠ 1440 → lget m1.L i = lget m.L i) ∧ OwnR drC 9 m1 720 v M ∧ OwnV intC 1 m1 1440 w T := by
  obtain ⟨m1, e1, e2, e3, e4⟩ := hV.esc1 drE.len
  obtain ⟨m2, f1, f2, f3, f4⟩ := (hW.keep (m' := m1) (e3 1440 (by decide))).esc1 intC_len
  refine ⟨m2, by simp only [escList, mapMem, e1, f1, Option.bind_some, Option.map_some], f2.trans e2, fun i h1 h2 => (f3 i h2).trans (e3 i h1), e4.keep (f3 720 (by decide)), f4⟩
set_option maxHeartbeats 8000000 in
theorem x10 (l : List Dr) (marks : List Int) (a g : Int) (hll : l.length ≤ 9223372036854775807) (hml : marks.length ≤ 9223372036854775807) : ∃ r, (∃ H', r = (CV.bool true, H')) ∧ FF 10 [sl drC l, sl intC marks, .int .i64 a, .int .i64 g] [] = some r := by
  by_cases h1 : (50 : Int) < l.length
  · refine Fw_funE rfl Tryz.func10 s10 (Nat.le_of_ble_eq_true rfl) (fun Q hqr hqn => ?_)
    rw [cin_t (show An.pure 10 = true from rfl) (by simp only [cans, can_int, can_bool, can_agg, can_str, drE.can_sl, intE.can_sl])]
    simp only [tinit, Nat.reduceAdd, c10]
    repeat' (first
    | with_reducible (first | refine Tx_assoc ?_ | refine Tx_yesK rfl ?_ | refine Tx_retK ?_)
    | (with_reducible (first | (refine Tx_regK (fun K hK => ?_); (first | refine t10r0 ?_ | refine t10r1 ?_ | refine t10r2 ?_)) | refine hqr _ ?_); (try simp only [true_implies, false_implies, not_true_eq_false, tget_cons, if_true, if_false, Nat.reduceEqDiff, Obt_some, Kn_normal, Obt_lss, Obt_gtr, gdO_tf, gdO_ff, Option.map_some, pickX_t, pickX_f, lenS, Obt_map, and_true, true_and, if_false, if_true, r10, tend, tresAll, tresC, Option.bind_some, mapMem, retv_bool, tup_one, Prod.mk.injEq, clen_sl, h1, gt_iff_lt, k21]))
    | (revert hK; intro hK; (with_reducible refine hK _ ?_; clear hK K)))
    all_goals exact ⟨_, rfl⟩
  by_cases h2 : (50 : Int) < marks.length
  · refine Fw_funE rfl Tryz.func10 s10 (Nat.le_of_ble_eq_true rfl) (fun Q hqr hqn => ?_)
    rw [cin_t (show An.pure 10 = true from rfl) (by simp only [cans, can_int, can_bool, can_agg, can_str, drE.can_sl, intE.can_sl])]
    simp only [tinit, Nat.reduceAdd, c10]
    repeat' (first
    | with_reducible (first | refine Tx_assoc ?_ | refine Tx_yesK rfl ?_ | refine Tx_retK ?_)
    | (with_reducible (first | (refine Tx_regK (fun K hK => ?_); (first | refine t10r0 ?_ | refine t10r1 ?_ | refine t10r2 ?_)) | refine hqr _ ?_); (try simp only [true_implies, false_implies, not_true_eq_false, not_false_eq_true, tget_cons, if_true, if_false, Nat.reduceEqDiff, Obt_some, Kn_normal, Obt_lss, Obt_gtr, gdO_tf, gdO_ff, Option.map_some, pickX_t, pickX_f, lenS, Obt_map, and_true, true_and, if_false, if_true, r10, tend, tresAll, tresC, Option.bind_some, mapMem, retv_bool, tup_one, Prod.mk.injEq, clen_sl, h1, h2, gt_iff_lt, k21]))
    | (revert hK; intro hK; (with_reducible refine hK _ ?_; clear hK K)))
    all_goals exact ⟨_, rfl⟩
  by_cases h3 : a < 0
  · refine Fw_funE rfl Tryz.func10 s10 (Nat.le_of_ble_eq_true rfl) (fun Q hqr hqn => ?_)
    rw [cin_t (show An.pure 10 = true from rfl) (by simp only [cans, can_int, can_bool, can_agg, can_str, drE.can_sl, intE.can_sl])]
    simp only [tinit, Nat.reduceAdd, c10]
    repeat' (first
    | with_reducible (first | refine Tx_assoc ?_ | refine Tx_yesK rfl ?_ | refine Tx_retK ?_)
    | (with_reducible (first | (refine Tx_regK (fun K hK => ?_); (first | refine t10r0 ?_ | refine t10r1 ?_ | refine t10r2 ?_)) | refine hqr _ ?_); (try simp only [true_implies, false_implies, not_true_eq_false, not_false_eq_true, tget_cons, if_true, if_false, Nat.reduceEqDiff, Obt_some, Kn_normal, Obt_lss, Obt_gtr, gdO_tf, gdO_ff, Option.map_some, pickX_t, pickX_f, lenS, Obt_map, and_true, true_and, if_false, if_true, r10, tend, tresAll, tresC, Option.bind_some, mapMem, retv_bool, tup_one, Prod.mk.injEq, clen_sl, h1, h2, h3, gt_iff_lt, k21]))
    | (revert hK; intro hK; (with_reducible refine hK _ ?_; clear hK K)))
    all_goals exact ⟨_, rfl⟩
  by_cases h4 : (l.length : Int) < a
  · refine Fw_funE rfl Tryz.func10 s10 (Nat.le_of_ble_eq_true rfl) (fun Q hqr hqn => ?_)
    rw [cin_t (show An.pure 10 = true from rfl) (by simp only [cans, can_int, can_bool, can_agg, can_str, drE.can_sl, intE.can_sl])]
    simp only [tinit, Nat.reduceAdd, c10]
    repeat' (first
    | with_reducible (first | refine Tx_assoc ?_ | refine Tx_yesK rfl ?_ | refine Tx_retK ?_)
    | (with_reducible (first | (refine Tx_regK (fun K hK => ?_); (first | refine t10r0 ?_ | refine t10r1 ?_ | refine t10r2 ?_)) | refine hqr _ ?_); (try simp only [true_implies, false_implies, not_true_eq_false, not_false_eq_true, tget_cons, if_true, if_false, Nat.reduceEqDiff, Obt_some, Kn_normal, Obt_lss, Obt_gtr, gdO_tf, gdO_ff, Option.map_some, pickX_t, pickX_f, lenS, Obt_map, and_true, true_and, if_false, if_true, r10, tend, tresAll, tresC, Option.bind_some, mapMem, retv_bool, tup_one, Prod.mk.injEq, clen_sl, h1, h2, h3, h4, gt_iff_lt, k21]))
    | (revert hK; intro hK; (with_reducible refine hK _ ?_; clear hK K)))
    all_goals exact ⟨_, rfl⟩
  by_cases h5 : g < 0
  · refine Fw_funE rfl Tryz.func10 s10 (Nat.le_of_ble_eq_true rfl) (fun Q hqr hqn => ?_)
    rw [cin_t (show An.pure 10 = true from rfl) (by simp only [cans, can_int, can_bool, can_agg, can_str, drE.can_sl, intE.can_sl])]
    simp only [tinit, Nat.reduceAdd, c10]
    repeat' (first
    | with_reducible (first | refine Tx_assoc ?_ | refine Tx_yesK rfl ?_ | refine Tx_retK ?_)
    | (with_reducible (first | (refine Tx_regK (fun K hK => ?_); (first | refine t10r0 ?_ | refine t10r1 ?_ | refine t10r2 ?_)) | refine hqr _ ?_); (try simp only [true_implies, false_implies, not_true_eq_false, not_false_eq_true, tget_cons, if_true, if_false, Nat.reduceEqDiff, Obt_some, Kn_normal, Obt_lss, Obt_gtr, gdO_tf, gdO_ff, Option.map_some, pickX_t, pickX_f, lenS, Obt_map, and_true, true_and, if_false, if_true, r10, tend, tresAll, tresC, Option.bind_some, mapMem, retv_bool, tup_one, Prod.mk.injEq, clen_sl, h1, h2, h3, h4, h5, gt_iff_lt, k21]))
    | (revert hK; intro hK; (with_reducible refine hK _ ?_; clear hK K)))
    all_goals exact ⟨_, rfl⟩
  by_cases h6 : (3000 : Int) < g
  · refine Fw_funE rfl Tryz.func10 s10 (Nat.le_of_ble_eq_true rfl) (fun Q hqr hqn => ?_)
    rw [cin_t (show An.pure 10 = true from rfl) (by simp only [cans, can_int, can_bool, can_agg, can_str, drE.can_sl, intE.can_sl])]
    simp only [tinit, Nat.reduceAdd, c10]
    repeat' (first
    | with_reducible (first | refine Tx_assoc ?_ | refine Tx_yesK rfl ?_ | refine Tx_retK ?_)
    | (with_reducible (first | (refine Tx_regK (fun K hK => ?_); (first | refine t10r0 ?_ | refine t10r1 ?_ | refine t10r2 ?_)) | refine hqr _ ?_); (try simp only [true_implies, false_implies, not_true_eq_false, not_false_eq_true, tget_cons, if_true, if_false, Nat.reduceEqDiff, Obt_some, Kn_normal, Obt_lss, Obt_gtr, gdO_tf, gdO_ff, Option.map_some, pickX_t, pickX_f, lenS, Obt_map, and_true, true_and, if_false, if_true, r10, tend, tresAll, tresC, Option.bind_some, mapMem, retv_bool, tup_one, Prod.mk.injEq, clen_sl, h1, h2, h3, h4, h5, h6, gt_iff_lt, k21]))
    | (revert hK; intro hK; (with_reducible refine hK _ ?_; clear hK K)))
    all_goals exact ⟨_, rfl⟩
  obtain ⟨p, rfl⟩ : ∃ p : Nat, a = p := ⟨a.toNat, by omega⟩
  obtain ⟨w, rfl⟩ : ∃ w : Nat, g = w := ⟨g.toNat, by omega⟩
  have hp : p ≤ l.length := by omega
  have hw3 : w ≤ 3000 := by omega
  have hs1 := fun (m : Mem) => slcX_hi (m := m) drE.len hp
  have hs2 := fun (m : Mem) => slcX_lo (m := m) drE.len hp
  have hbs : ∀ L, bslX false 720 9 0 [] [] ⟨L, []⟩ = some (.ref (.l 720) (gnext L 720) 0 0, ⟨lset L 720 (.arr (gnext L 720) 9 [] 0), []⟩) := fun _ => rfl
  have hsetL : ∀ (L : List (Nat × HO)) (H : List HO) i x, setL ⟨L, H⟩ i x = ⟨lset L i x, H⟩ := fun _ _ _ _ => rfl
  have hlt0 : (l.take p).length = p := by rw [List.length_take]; omega
  have hld0 : (l.drop p).length = l.length - p := List.length_drop ..
  refine Fw_funE rfl Tryz.func10 s10 (Nat.le_of_ble_eq_true rfl) (fun Q hqr hqn => ?_)
  rw [cin_t (show An.pure 10 = true from rfl) (by simp only [cans, can_int, can_bool, can_agg, can_str, drE.can_sl, intE.can_sl])]
  simp only [tinit, Nat.reduceAdd, c10]
  repeat' (first
  | with_reducible (first | refine Tx_assoc ?_ | refine Tx_nopK ?_ | refine Tx_noK rfl ?_)
  | (with_reducible (refine Tx_regK (fun K hK => ?_); (first | refine t10r0 ?_ | refine t10r1 ?_ | refine t10r3 ?_)); (try simp only [true_implies, false_implies, not_false_eq_true, tget_cons, if_true, if_false, Nat.reduceEqDiff, Obt_some, Kn_normal, Obt_lss, Obt_gtr, gdO_tf, gdO_ff, Option.map_some, pickX_t, pickX_f, lenS, Obt_map, true_and, if_false, if_true, clen_sl, h1, h2, h3, h4, h5, h6, gt_iff_lt, hs1, hbs]))
  | (revert hK; intro hK; (with_reducible refine hK _ ?_; clear hK K)))
  refine OwnR.app (l := []) (ys := l.take p) ⟨gnext [] 720, 0, rfl, by rw [lget_lset, if_pos rfl]; rfl, Nat.zero_le _⟩ drE.len (content_sl drE.len) clen_sl (by decide) (by simp only [List.length_nil]; omega) fun v0 m0 hV0 hH0 _ => ?_
  refine hK _ ?_
  clear hK K
  obtain ⟨L0, H0⟩ := m0
  simp only at hH0
  subst hH0
  repeat' (first
  | with_reducible (first | refine Tx_assoc ?_ | refine Tx_blockK (id := 0) (fun Q0 hn0 hx0 hr0 ho0 => ?_))
  | (with_reducible (refine Tx_regK (fun K hK => ?_); refine t10r4 ?_); (try simp only [tget_cons, if_true, if_false, Nat.reduceEqDiff, Kn_normal, if_false, if_true]))
  | (revert hK; intro hK; (with_reducible refine hK _ ?_; clear hK K)))
  refine Tx_loopK (fun k s => ∃ (i : Nat) (v : CV) (L : List (Nat × HO)), i ≤ w ∧ k = w - i ∧ OwnR drC 9 ⟨L, []⟩ 720 v (l.take p ++ List.replicate i retD) ∧
      s = ⟨[(0, sl drC l), (1, sl intC marks), (2, .int .i64 p), (3, .int .i64 w), (9, v), (10, .int .i64 i)], ⟨L, []⟩⟩) _ ⟨0, v0, L0, Nat.zero_le _, rfl, by simpa using hV0, rfl⟩ ?_
  clear hV0
  rintro k s ⟨i, v, L, hi, rfl, hV, rfl⟩ QL0 hnL0 hxL0 hrL0
  simp only [c10l0]
  by_cases hlt : (i : Int) < w
  · have hw : IntKind.i64.wrap ((i : Int) + 1) = i + 1 := wI (by omega) (by omega)
    repeat' (first
    | with_reducible (first | refine Tx_assoc ?_ | refine Tx_nopK ?_ | refine Tx_yesK rfl ?_ | refine Tx_blockK (id := 1) (fun Q1 hn1 hx1 hr1 ho1 => ?_))
    | (with_reducible ((first | refine Tx_regK (fun K hK => ?_) | refine Tx_regE (fun K hK => ?_)); (first | refine t10r5 ?_ | refine t10r7 ?_)); (try simp only [true_implies, false_implies, not_true_eq_false, tget_cons, if_true, if_false, Nat.reduceEqDiff, ccells, Obt_some, Kn_normal, Nat.reduceAdd, Nat.zero_add, List.drop_zero, Obt_lss, Option.map_some, Obt_map, fillX, splice, List.take_zero, List.drop_succ_cons, List.nil_append, List.cons_append, List.length_cons, List.length_nil, Nat.reduceLeDiff, and_self, and_true, if_false, if_true, hlt, hw, bsl_ret]))
    | (revert hK; intro hK; (with_reducible refine hK _ ?_; clear hK K)))
    refine OwnR.app (l := l.take p ++ List.replicate i retD) (ys := [retD]) (hV.keep (by rw [lget_setL, if_neg (by decide)])) drE.len (by simp only [content_l, lget_setL, if_true, conR_arr]; rfl) rfl (by decide) (by simp only [List.length_append, List.length_replicate, List.length_singleton]; omega) fun v1 m1 hV1 hH1 _ => ?_
    refine hK _ ?_
    clear hK K
    obtain ⟨L1, H1⟩ := m1
    simp only [setL_H] at hH1
    subst hH1
    repeat' (first
    | with_reducible refine hn1 _ ?_
    | (with_reducible (refine Tx_regE (fun K hK => ?_); refine t10r6 ?_); (try simp only [tget_cons, if_true, if_false, Nat.reduceEqDiff, Kn_normal, Obt_add, if_false, if_true, hw]))
    | (revert hK; intro hK; (with_reducible refine hK _ ?_; clear hK K)))
    have e : ((i : Int) + 1) = ((i + 1 : Nat) : Int) := by omega
    rw [e]
    refine hnL0 (w - (i + 1)) _ (by omega) ⟨i + 1, v1, L1, by omega, rfl, ?_, rfl⟩
    rw [List.replicate_succ', ← List.append_assoc]
    exact hV1
  · have hiw : i = w := by omega
    subst hiw
    repeat' (first
    | with_reducible (first | refine Tx_assoc ?_ | refine Tx_noK rfl ?_ | refine Tx_exitK ?_ | refine hx0 _ ?_ | refine hxL0 _ _ ?_)
    | (with_reducible (refine Tx_regK (fun K hK => ?_); (first | refine t10r5 ?_ | refine t10r8 ?_)); (try simp only [true_implies, false_implies, not_false_eq_true, tget_cons, if_true, if_false, Nat.reduceEqDiff, Obt_some, Kn_normal, Obt_lss, true_and, if_false, if_true, hlt, hs2]))
    | (revert hK; intro hK; (with_reducible refine hK _ ?_; clear hK K)))
    refine OwnR.app (ys := l.drop p) hV drE.len (content_sl drE.len) clen_sl (by decide) (by simp only [List.length_append, List.length_replicate]; omega) fun v1 m1 hV1 hH1 _ => ?_
    refine hK _ ?_
    clear hK K
    obtain ⟨L1, H1⟩ := m1
    simp only at hH1
    subst hH1
    obtain ⟨M, hM⟩ : ∃ M, M = l.take p ++ List.replicate i retD ++ l.drop p := ⟨_, rfl⟩
    have hMl : M.length ≤ 4000 := by rw [hM]; simp only [List.length_append, List.length_replicate]; omega
    rw [← hM] at hV1
    clear hV hM
    obtain ⟨f, hf⟩ : ∃ f : Int → Int, f = fun k => if (p : Int) < k ∧ k ≤ l.length then k + i else k := ⟨_, rfl⟩
    repeat' (first
    | with_reducible (first | refine Tx_assoc ?_ | refine Tx_blockK (id := 2) (fun Q2 hn2 hx2 hr2 ho2 => ?_))
    | (with_reducible (refine Tx_regK (fun K hK => ?_); (first | refine t10r9 ?_ | refine t10r10 ?_)); (try simp only [tget_cons, if_true, if_false, Nat.reduceEqDiff, Kn_normal, if_false, if_true]))
    | (revert hK; intro hK; (with_reducible refine hK _ ?_; clear hK K)))
    refine Tx_loopK (fun k s => ∃ (dn td : List Int) (v2 : CV) (L : List (Nat × HO)), marks = dn ++ td ∧ k = td.length ∧ OwnR drC 9 ⟨L, []⟩ 720 v1 M ∧ OwnE intC 1 ⟨L, []⟩ 1440 v2 (dn.map f) ∧
        s = ⟨[(0, sl drC l), (1, sl intC marks), (2, .int .i64 p), (3, .int .i64 i), (9, v1), (11, v2), (12, .int .i64 dn.length)], ⟨L, []⟩⟩) _ ⟨[], marks, .nil, L1, rfl, rfl, hV1, .inl ⟨rfl, rfl⟩, rfl⟩ ?_
    clear hV1
    rintro k s ⟨dn, td, v2, L, h7, rfl, hV, hW, rfl⟩ QL1 hnL1 hxL1 hrL1
    have hlen := congrArg List.length h7
    simp only [List.length_append] at hlen
    simp only [c10l1]
    cases td with
    | cons x td =>
      simp only [List.length_cons] at hlen
      have hlt7 : (dn.length : Int) < marks.length := by omega
      have hw : IntKind.i64.wrap ((dn.length : Int) + 1) = dn.length + 1 := wI (by omega) (by omega)
      have hix := idxS_split (k := .i64) intC_len (by omega : 0 < 1) h7
      have hnext : ∀ (v' : CV) (L' : List (Nat × HO)), OwnR drC 9 ⟨L', []⟩ 720 v1 M → OwnE intC 1 ⟨L', []⟩ 1440 v' (dn.map f ++ [f x]) → QL1 .normal ⟨[(0, sl drC l), (1, sl intC marks), (2, .int .i64 p), (3, .int .i64 i), (9, v1), (11, v'), (12, .int .i64 ((dn.length : Int) + 1))], ⟨L', []⟩⟩ := fun v' L' hV' hW' => by
        have e : ((dn.length : Int) + 1) = ((dn ++ [x]).length : Int) := by simp
        rw [e]
        exact hnL1 td.length _ (by simp) ⟨dn ++ [x], td, v', L', by simp [h7], rfl, hV', by simpa using hW', rfl⟩
      by_cases g1 : (p : Int) < x
      · by_cases g2 : x ≤ l.length
        · have hfx : f x = x + i := by rw [hf]; simp [g1, g2]
          have hwx : IntKind.i64.wrap (x + i) = x + i := wI (by omega) (by omega)
          repeat' (first
          | with_reducible (first | refine Tx_assoc ?_ | refine Tx_nopK ?_ | refine Tx_yesK rfl ?_ | refine Tx_blockK (id := 3) (fun Q3 hn3 hx3 hr3 ho3 => ?_))
          | (with_reducible ((first | refine Tx_regK (fun K hK => ?_) | refine Tx_regE (fun K hK => ?_)); (first | refine t10r11 ?_ | refine t10r13 ?_ | refine t10r14 ?_ | refine t10r15 ?_ | refine t10r16 ?_)); (try simp only [true_implies, false_implies, not_true_eq_false, tget_cons, if_true, if_false, Nat.reduceEqDiff, Obt_some, Kn_normal, ld1_r, Obt_lss, Obt_leq, Obt_gtr, gdO_tt, gdO_ft, Option.map_some, pickX_t, pickX_f, lenS, Obt_map, Obt_add, List.nil_append, List.cons_append, and_true, if_false, if_true, clen_sl, hlt7, hix, intC, g1, g2, gt_iff_lt, hwx, hsetL, bslX_int]))
          | (revert hK; intro hK; (with_reducible refine hK _ ?_; clear hK K)))
          refine OwnE.app (l := dn.map f) (ys := [f x]) (hW.keep (by rw [lget_lset, if_neg (by decide)])) intC_len (by simp only [content_l, lget_lset, if_true, conR_arr, hfx]; rfl) rfl (by decide) (by simp only [List.length_map, List.length_singleton]; omega) fun v' m' r1 r2 r3 => ?_
          refine hK _ ?_
          clear hK K
          obtain ⟨L', H'⟩ := m'
          simp only at r2
          subst r2
          repeat' (first
          | with_reducible refine hn3 _ ?_
          | (with_reducible (refine Tx_regE (fun K hK => ?_); refine t10r12 ?_); (try simp only [tget_cons, if_true, if_false, Nat.reduceEqDiff, Kn_normal, Obt_add, if_false, if_true, hw]))
          | (revert hK; intro hK; (with_reducible refine hK _ ?_; clear hK K)))
          exact hnext v' L' (hV.keep ((r3 720 (by decide)).trans (by rw [lget_lset, if_neg (by decide)]))) r1
        · have hfx : f x = x := by rw [hf]; simp [g2]
          repeat' (first
          | with_reducible (first | refine Tx_assoc ?_ | refine Tx_nopK ?_ | refine Tx_yesK rfl ?_ | refine Tx_noK rfl ?_ | refine Tx_blockK (id := 3) (fun Q3 hn3 hx3 hr3 ho3 => ?_))
          | (with_reducible ((first | refine Tx_regK (fun K hK => ?_) | refine Tx_regE (fun K hK => ?_)); (first | refine t10r11 ?_ | refine t10r13 ?_ | refine t10r14 ?_ | refine t10r16 ?_)); (try simp only [true_implies, false_implies, not_true_eq_false, not_false_eq_true, tget_cons, if_true, if_false, Nat.reduceEqDiff, Obt_some, Kn_normal, ld1_r, Obt_lss, Obt_leq, Obt_gtr, gdO_tt, gdO_ft, Option.map_some, pickX_t, pickX_f, lenS, Obt_map, List.nil_append, List.cons_append, and_true, true_and, if_false, if_true, clen_sl, hlt7, hix, intC, g1, g2, gt_iff_lt, hsetL, bslX_int]))
          | (revert hK; intro hK; (with_reducible refine hK _ ?_; clear hK K)))
          refine OwnE.app (l := dn.map f) (ys := [f x]) (hW.keep (by rw [lget_lset, if_neg (by decide)])) intC_len (by simp only [content_l, lget_lset, if_true, conR_arr, hfx]; rfl) rfl (by decide) (by simp only [List.length_map, List.length_singleton]; omega) fun v' m' r1 r2 r3 => ?_
          refine hK _ ?_
          clear hK K
          obtain ⟨L', H'⟩ := m'
          simp only at r2
          subst r2
          repeat' (first
          | with_reducible refine hn3 _ ?_
          | (with_reducible (refine Tx_regE (fun K hK => ?_); refine t10r12 ?_); (try simp only [tget_cons, if_true, if_false, Nat.reduceEqDiff, Kn_normal, Obt_add, if_false, if_true, hw]))
          | (revert hK; intro hK; (with_reducible refine hK _ ?_; clear hK K)))
          exact hnext v' L' (hV.keep ((r3 720 (by decide)).trans (by rw [lget_lset, if_neg (by decide)]))) r1
      · have hfx : f x = x := by rw [hf]; simp [g1]
        repeat' (first
        | with_reducible (first | refine Tx_assoc ?_ | refine Tx_nopK ?_ | refine Tx_yesK rfl ?_ | refine Tx_noK rfl ?_ | refine Tx_blockK (id := 3) (fun Q3 hn3 hx3 hr3 ho3 => ?_))
        | (with_reducible ((first | refine Tx_regK (fun K hK => ?_) | refine Tx_regE (fun K hK => ?_)); (first | refine t10r11 ?_ | refine t10r13 ?_ | refine t10r14 ?_ | refine t10r16 ?_)); (try simp only [true_implies, false_implies, not_true_eq_false, not_false_eq_true, tget_cons, if_true, if_false, Nat.reduceEqDiff, Obt_some, Kn_normal, ld1_r, Obt_lss, Obt_leq, Obt_gtr, gdO_tt, gdO_ft, Option.map_some, pickX_t, pickX_f, lenS, Obt_map, List.nil_append, List.cons_append, and_true, true_and, if_false, if_true, clen_sl, hlt7, hix, intC, g1, gt_iff_lt, hsetL, bslX_int]))
        | (revert hK; intro hK; (with_reducible refine hK _ ?_; clear hK K)))
        refine OwnE.app (l := dn.map f) (ys := [f x]) (hW.keep (by rw [lget_lset, if_neg (by decide)])) intC_len (by simp only [content_l, lget_lset, if_true, conR_arr, hfx]; rfl) rfl (by decide) (by simp only [List.length_map, List.length_singleton]; omega) fun v' m' r1 r2 r3 => ?_
        refine hK _ ?_
        clear hK K
        obtain ⟨L', H'⟩ := m'
        simp only at r2
        subst r2
        repeat' (first
        | with_reducible refine hn3 _ ?_
        | (with_reducible (refine Tx_regE (fun K hK => ?_); refine t10r12 ?_); (try simp only [tget_cons, if_true, if_false, Nat.reduceEqDiff, Kn_normal, Obt_add, if_false, if_true, hw]))
        | (revert hK; intro hK; (with_reducible refine hK _ ?_; clear hK K)))
        exact hnext v' L' (hV.keep ((r3 720 (by decide)).trans (by rw [lget_lset, if_neg (by decide)]))) r1
    | nil =>
      simp only [List.length_nil] at hlen
      rw [List.append_nil] at h7
      have hge : ¬ ((dn.length : Int) < marks.length) := by omega
      obtain ⟨T, hT⟩ : ∃ T, T = dn.map f := ⟨_, rfl⟩
      have hTl : T.length ≤ 50 := by rw [hT, List.length_map]; omega
      rw [← hT] at hW
      have hsame := rlxR_len M T
      obtain ⟨m1, e1, e2, e3, e4, e5⟩ := escRlx hV hW.seen
      repeat' (first
      | with_reducible (first | refine Tx_assoc ?_ | refine Tx_noK rfl ?_ | refine Tx_exitK ?_ | refine hx2 _ ?_ | refine hxL1 _ _ ?_)
      | (with_reducible (refine Tx_regK (fun K hK => ?_); (first | refine t10r11 ?_ | refine t10r17 ?_)); (try simp only [true_implies, false_implies, not_false_eq_true, tget_cons, if_true, if_false, Nat.reduceEqDiff, Obt_some, Kn_normal, Obt_lss, Option.map_some, lenS, true_and, if_false, if_true, clen_sl, hge]))
      | (revert hK; intro hK; (with_reducible refine hK _ ?_; clear hK K)))
      refine kRlx (x22 M T (by omega) (by omega)) rfl e1 (by simp only [cans, drE.can_sl, can_rowC intE.can]) (by simp only [noGs, drE.noG_sl, noG_rowC intE.noG, Bool.and_self]) e2 rfl fun va m2 hO1 hH2 hf2 => ?_
      have hV2 : OwnR drC 9 m2 720 v1 M := (hf2 720 (by decide)).elim hV.keep e4.keep
      have hW2 : OwnV intC 1 m2 1440 v2 T := (hf2 1440 (by decide)).elim hW.seen.keep e5.keep
      simp only [true_implies, false_implies, not_true_eq_false, not_false_eq_true, tget_cons, if_true, if_false, Nat.reduceEqDiff, ccells, Obt_some, Kn_normal, newL_eq, newP_eq, newA_eq, newM_eq, newR_eq, newK_eq, nmA_f, nmR_f, gn_var, gn_arr, gn_map, gnext_setL, lget_setL, lget_lset, gnext_lset, setL_setL, setL_H, Nat.reduceMul, Nat.reduceAdd, Nat.zero_add, fldA_ptr, fldA_rptr, List.drop_zero, ld1_l, ld1_r, ldA_l, rd1_var, rd1_arr, List.getElem?_cons_zero, List.getElem?_cons_succ, Obt_lss, Obt_leq, Obt_gtr, Obt_geq, Obt_eql, Obt_neq, Obt_not, gdO_tt, gdO_tf, gdO_ff, gdO_ft, gdO_skip, Option.map_some, pickX_t, pickX_f, Obt_pickS, Obt_gdT, Obt_gdF, Bool.not_true, Bool.not_false, lenS, Obt_map, Obt_add, Obt_sub, Obt_mul, Obt_quo, Obt_rem, Obt_and, Obt_or, Obt_xor, Obt_andNot, Obt_shl, Obt_shr, Obt_neg, Obt_cpl, Obt_conv, Obt_ext, Obt_bind, Obt_ite', appX_l, appX_n, appR_arr, appN_some, content_l, conR_arr, content_nil, clen_n, clen_r, idxS_ref, fillX, bslX, escP_list, List.all_append, stX_l, stV_var, stV_arr, splice, List.take_zero, List.take_succ_cons, List.drop_succ_cons, List.drop_nil, List.nil_append, List.cons_append, List.append_nil, List.length_cons, List.length_nil, Nat.reduceLeDiff, and_self, and_true, true_and, Nat.le_refl, Nat.zero_le, rdA_var, rdA_arr, escP, List.all_cons, List.all_nil, Bool.and_self, Bool.true_and, Bool.and_true, offR_nil, offR_f, offR_n, offR_l, offK_r, offK_g, offK_l, keyL_nil, keyL_t, keyL_f, Obt_offS, decide_false, decide_true, Bool.false_or, Bool.true_or, Bool.or_false, Bool.or_true, Bool.false_eq_true, if_false, if_true]
      refine hK _ ?_
      clear hK K
      obtain ⟨m3, u1, u2, u3, u4, u5⟩ := escRlx hV2 hW2
      repeat' (first
      | (with_reducible (refine Tx_regK (fun K hK => ?_); refine t10r18 ?_); (try simp only [tget_cons, if_true, if_false, Nat.reduceEqDiff, Kn_normal, if_false, if_true])))
      refine kRlx (x26 M T (by omega) (by omega)) rfl u1 (by simp only [cans, drE.can_sl, can_rowC intE.can]) (by simp only [noGs, drE.noG_sl, noG_rowC intE.noG, Bool.and_self]) u2 rfl fun vb m4 hO2 hH4 hf4 => ?_
      have hO1' := hO1.keep (m' := m4) ((hf4 1505 (by decide)).elim id fun h => h.trans (u3 1505 (by decide) (by decide)))
      have hS := fun (t : Tmp) => kSame (by omega) hO1' hO2 (by decide) (fid := 10) (t := t)
      simp only [true_implies, false_implies, not_true_eq_false, not_false_eq_true, tget_cons, if_true, if_false, Nat.reduceEqDiff, ccells, Obt_some, Kn_normal, newL_eq, newP_eq, newA_eq, newM_eq, newR_eq, newK_eq, nmA_f, nmR_f, gn_var, gn_arr, gn_map, gnext_setL, lget_setL, lget_lset, gnext_lset, setL_setL, setL_H, Nat.reduceMul, Nat.reduceAdd, Nat.zero_add, fldA_ptr, fldA_rptr, List.drop_zero, ld1_l, ld1_r, ldA_l, rd1_var, rd1_arr, List.getElem?_cons_zero, List.getElem?_cons_succ, Obt_lss, Obt_leq, Obt_gtr, Obt_geq, Obt_eql, Obt_neq, Obt_not, gdO_tt, gdO_tf, gdO_ff, gdO_ft, gdO_skip, Option.map_some, pickX_t, pickX_f, Obt_pickS, Obt_gdT, Obt_gdF, Bool.not_true, Bool.not_false, lenS, Obt_map, Obt_add, Obt_sub, Obt_mul, Obt_quo, Obt_rem, Obt_and, Obt_or, Obt_xor, Obt_andNot, Obt_shl, Obt_shr, Obt_neg, Obt_cpl, Obt_conv, Obt_ext, Obt_bind, Obt_ite', appX_l, appX_n, appR_arr, appN_some, content_l, conR_arr, content_nil, clen_n, clen_r, idxS_ref, fillX, bslX, escP_list, List.all_append, stX_l, stV_var, stV_arr, splice, List.take_zero, List.take_succ_cons, List.drop_succ_cons, List.drop_nil, List.nil_append, List.cons_append, List.append_nil, List.length_cons, List.length_nil, Nat.reduceLeDiff, and_self, and_true, true_and, Nat.le_refl, Nat.zero_le, rdA_var, rdA_arr, escP, List.all_cons, List.all_nil, Bool.and_self, Bool.true_and, Bool.and_true, offR_nil, offR_f, offR_n, offR_l, offK_r, offK_g, offK_l, keyL_nil, keyL_t, keyL_f, Obt_offS, decide_false, decide_true, Bool.false_or, Bool.true_or, Bool.or_false, Bool.or_true, Bool.false_eq_true, if_false, if_true]
      refine hK _ ?_
      clear hK K
      repeat' (first
      | with_reducible refine Tx_ret ?_
      | (with_reducible (first | (refine Tx_regK (fun K hK => ?_); refine t10r19 ?_) | refine hqr _ ?_); (try simp only [true_implies, false_implies, not_true_eq_false, tget_cons, if_true, if_false, Nat.reduceEqDiff, Obt_some, Kn_normal, Obt_eql, gdO_tt, gdO_ft, Option.map_some, pickX_t, pickX_f, Obt_map, and_true, true_and, if_false, if_true, r10, tend, tresAll, tresC, Option.bind_some, mapMem, retv_bool, tup_one, Prod.mk.injEq, hS, k21]))
      | (revert hK; intro hK; (with_reducible refine hK _ ?_; clear hK K)))
      all_goals exact ⟨_, rfl⟩
end Go.Cm
