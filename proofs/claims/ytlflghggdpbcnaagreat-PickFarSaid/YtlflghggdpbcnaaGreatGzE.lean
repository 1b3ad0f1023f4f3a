import Derived.Test.YtlflghggdpbcnaaGreatGwU
set_option linter.unusedSimpArgs false
set_option linter.unusedVariables false
namespace Go.Cm
open Go.Proofs Go.Pk
def oppI : List Int := [16, 80, 32, 176, 48, 160, 96, 208, 112, 192]
theorem opp_none {fn : Int} (h : ∀ x ∈ oppI, ¬ fn = x) : opp fn = -1 := by
  simp only [oppI, List.mem_cons, List.not_mem_nil, or_false, forall_eq_or_imp, forall_eq] at h
  obtain ⟨h1, h2, h3, h4, h5, h6, h7, h8, h9, h10⟩ := h
  simp only [opp, h1, h2, h3, h4, h5, h6, h7, h8, h9, h10, if_false]
theorem x72 (fn : Int) : FF 72 [.int .i64 fn] [] = some (.int .i64 (opp fn), []) := by
  by_cases g : fn ∈ oppI
  · simp only [oppI, List.mem_cons, List.not_mem_nil, or_false] at g
    rcases g with rfl | rfl | rfl | rfl | rfl | rfl | rfl | rfl | rfl | rfl <;> exact Fw_iff.2 ⟨10, by kernel_rfl⟩
  · have h : ∀ x ∈ oppI, ¬ fn = x := fun x hx e => g (e ▸ hx)
    rw [opp_none h]
    simp only [oppI, List.mem_cons, List.not_mem_nil, or_false, forall_eq_or_imp, forall_eq] at h
    obtain ⟨h1, h2, h3, h4, h5, h6, h7, h8, h9, h10⟩ := h
    refine Fw_funK rfl Tryz.func72 s72 (Nat.le_of_ble_eq_true rfl) (fun Q hqr hqn => ?_)
    rw [cin_t (show An.pure 72 = true from rfl) (by simp only [cans, can_int, can_bool, can_agg, can_str])]
    simp only [tinit, Nat.reduceAdd, c72]
    repeat' (first
    | with_reducible (first | refine Tx_assoc ?_ | refine Tx_no rfl ?_ | refine Tx_ret ?_ | refine Tx_nop ?_ | refine Tx_blockK (id := 0) (fun Q0 hn0 hx0 hr0 ho0 => ?_) | refine hn0 _ ?_)
    | (with_reducible (first | (refine Tx_regK (fun K hK => ?_); (first | refine t72r0 ?_ | refine t72r1 ?_ | refine t72r2 ?_ | refine t72r4 ?_ | refine t72r6 ?_ | refine t72r8 ?_ | refine t72r10 ?_ | refine t72r12 ?_ | refine t72r14 ?_ | refine t72r16 ?_ | refine t72r18 ?_ | refine t72r20 ?_ | refine t72r22 ?_)) | refine hqr _ ?_); (try simp only [true_implies, false_implies, not_false_eq_true, tget_cons, if_true, if_false, Nat.reduceEqDiff, Obt_some, Kn_normal, Obt_eql, Option.map_some, true_and, if_false, if_true, r72, tend, tresAll, tresC, Option.bind_some, mapMem, retv_int, tup_one, h1, h2, h3, h4, h5, h6, h7, h8, h9, h10]))
    | (revert hK; intro hK; (with_reducible refine hK _ ?_; clear hK K)))
theorem k72 (fn : Int) {fid : FuncId} {t : Tmp} {m : Mem} : callC An FF fid (some t) 72 [.int .i64 fn] m = some (.int .i64 (opp fn), m) :=
  callC_V (x72 fn) (fun _ _ _ => rfl) rfl rfl rfl rfl rfl
theorem x73 (n : Int) : FF 73 [.int .i64 n] [] = some (.agg (rcC (jmp n)), []) := by
  refine Fw_funK rfl Tryz.func73 s73 (Nat.le_of_ble_eq_true rfl) (fun Q hqr hqn => ?_)
  rw [cin_t (show An.pure 73 = true from rfl) (by simp only [cans, can_int, can_bool, can_agg, can_str])]
  simp only [tinit, Nat.reduceAdd, c73]
  repeat' (first
  | with_reducible refine Tx_ret ?_
  | (with_reducible (first | (refine Tx_regK (fun K hK => ?_); (first | refine t73r0 ?_ | refine t73r1 ?_)) | refine hqr _ ?_); (try simp only [tget_cons, if_true, if_false, Nat.reduceEqDiff, ccells, Obt_some, Kn_normal, newL_eq, newP_eq, lget_setL, setL_setL, setL_H, Nat.reduceAdd, Nat.zero_add, List.drop_zero, ldA_l, Option.map_some, fillX, stX_l, stV_var, splice, List.take_zero, List.take_succ_cons, List.drop_succ_cons, List.drop_nil, List.nil_append, List.cons_append, List.append_nil, List.length_cons, List.length_nil, Nat.reduceLeDiff, and_self, and_true, Nat.le_refl, rdA_var, if_false, if_true, r73, cl52, tend, tresAll, tresC, Option.bind_some, mapMem, retv_agc, esc_i, esc_b, tup_one, Prod.mk.injEq]))
  | (revert hK; intro hK; (with_reducible refine hK _ ?_; clear hK K)))
  all_goals rfl
theorem k73 (n : Int) {fid : FuncId} {t : Tmp} {m : Mem} : callC An FF fid (some t) 73 [.int .i64 n] m = some (.agg (rcC (jmp n)), m) :=
  callC_V (x73 n) (fun _ _ _ => rfl) rfl rfl rfl rfl rfl
theorem x45 (l : List Dr) (marks sz ats : List Int) (hl : l.length ≤ 100000) (hs : sz.length = l.length) (hb : ∀ s ∈ sz, 1 ≤ s ∧ s ≤ 3) (ha : ats.length = l.length + 1) :
    ∃ q, (∃ ats', IsPl sz ats' ∧ q = (CV.tuple [], HR l marks sz ats')) ∧ FF 45 [.ptr (.g 2) 1 0] (HR l marks sz ats) = some q := by
  refine Fw_funE rfl Tryz.func45 s45 (Nat.le_of_ble_eq_true rfl) (fun Q hqr hqn => ?_)
  rw [show ∀ a, cin (An.pure 45) a = a from fun _ => rfl]
  simp only [tinit, Nat.reduceAdd, c45]
  repeat' (first
  | with_reducible (first | refine Tx_assoc ?_ | refine Tx_blockK (id := 0) (fun Q0 hn0 hx0 hr0 ho0 => ?_))
  | (with_reducible (refine Tx_regK (fun K hK => ?_); (first | refine t45r0 ?_ | refine t45r1 ?_)); (try simp only [tget_cons, if_true, if_false, Nat.reduceEqDiff, Obt_some, Kn_normal, Nat.zero_add, fldA_ptr, lenS, Obt_map, clen_r, if_false, if_true, nilP', HR_2, clen_r]))
  | (revert hK; intro hK; (with_reducible refine hK _ ?_; clear hK K)))
  refine Tx_loopK (fun k s => ∃ (i : Nat) (a : List Int) (L : List (Nat × HO)), i ≤ l.length ∧ k = l.length - i ∧ a.length = l.length + 1 ∧ (∀ j, j < i → a[j]? = some (sumN sz j)) ∧
      s = ⟨[(0, .ptr (.g 2) 1 0), (2, .int .i64 (sumN sz i)), (8, .ref (.g 0) 1 0 l.length), (9, .int .i64 l.length), (10, .int .i64 i)], ⟨L, HR l marks sz a⟩⟩) _ ⟨0, ats, _, Nat.zero_le _, rfl, ha, fun j hj => by omega, by rw [sumN_zero]; rfl⟩ ?_
  rintro k s ⟨i, a, L, hi, rfl, hal, haj, rfl⟩ QL0 hnL0 hxL0 hrL0
  simp only [c45l0]
  by_cases hie : i = l.length
  · subst hie
    have hge : ¬ ((l.length : Int) < l.length) := by omega
    have hst := fun (L : List (Nat × HO)) (v : Int) => HR_st (l := l) (marks := marks) (sz := sz) (ats := a) (L := L) (i := l.length) (v := v) (by omega)
    have hix := HR_ix (i := l.length) (k := 1) (n := l.length + 1) (by omega)
    repeat' (first
    | with_reducible (first | refine Tx_noK rfl ?_ | refine Tx_exitK ?_ | refine hx0 _ ?_ | refine hxL0 _ _ ?_)
    | (with_reducible (first | ((first | refine Tx_regK (fun K hK => ?_) | refine Tx_regE (fun K hK => ?_)); (first | refine t45r2 ?_ | refine t45r7 ?_)) | refine hqn _ ?_); (try simp only [true_implies, false_implies, not_false_eq_true, tget_cons, if_true, if_false, Nat.reduceEqDiff, Obt_some, Kn_normal, Nat.zero_add, fldA_ptr, Obt_lss, Option.map_some, lenS, Obt_map, clen_r, true_and, if_false, if_true, r45, tend, tresAll, Option.bind_some, mapMem, tup_nil, Prod.mk.injEq, nilP', HR_2, HR_3, clen_r, hge, hix, hst]))
    | (revert hK; intro hK; (with_reducible refine hK _ ?_; clear hK K)))
    refine ⟨_, ⟨by simp [hal, hs], fun j hj => ?_⟩, rfl⟩
    rw [List.getElem?_set]
    by_cases hji : l.length = j
    · subst hji; rw [if_pos rfl, if_pos (by omega)]
    · rw [if_neg hji]; exact haj j (by omega)
  · have hlt : (i : Int) < l.length := by omega
    have hw : IntKind.i64.wrap ((i : Int) + 1) = i + 1 := wI (by omega) (by omega)
    have hix0 := HR_ix (i := i) (k := 0) (n := l.length) (by omega)
    have hix1 := HR_ix (i := i) (k := 1) (n := l.length + 1) (by omega)
    have hg : sz[i]? = some sz[i] := List.getElem?_eq_getElem (by omega)
    obtain ⟨v, hv⟩ : ∃ v, v = sz[i] := ⟨_, rfl⟩
    rw [← hv] at hg
    have hvb := hb v (by rw [hv]; exact List.getElem_mem _)
    have hsb := sumN_bd (j := i) hb
    have hss := sumN_succ hg
    have hw2 : IntKind.i64.wrap (sumN sz i + v) = sumN sz i + v := wI (by omega) (by omega)
    have hsz := fun (L : List (Nat × HO)) (a : List Int) => HR_sz (l := l) (marks := marks) (ats := a) (L := L) hg
    have hst := fun (L : List (Nat × HO)) (v : Int) => HR_st (l := l) (marks := marks) (sz := sz) (ats := a) (L := L) (i := i) (v := v) (by omega)
    repeat' (first
    | with_reducible (first | refine Tx_nopK ?_ | refine Tx_yesK rfl ?_ | refine Tx_blockK (id := 1) (fun Q1 hn1 hx1 hr1 ho1 => ?_) | refine hn1 _ ?_)
    | (with_reducible ((first | refine Tx_regK (fun K hK => ?_) | refine Tx_regE (fun K hK => ?_)); (first | refine t45r2 ?_ | refine t45r3 ?_ | refine t45r4 ?_ | refine t45r5 ?_ | refine t45r6 ?_)); (try simp only [true_implies, false_implies, not_true_eq_false, tget_cons, if_true, if_false, Nat.reduceEqDiff, Obt_some, Kn_normal, Nat.zero_add, fldA_ptr, Obt_lss, Obt_add, and_true, if_false, if_true, nilP', HR_2, HR_3, clen_r, hlt, hix0, hix1, hsz, hst, hw, hw2]))
    | (revert hK; intro hK; (with_reducible refine hK _ ?_; clear hK K)))
    refine hnL0 (l.length - (i + 1)) _ (by omega) ⟨i + 1, a.set i (sumN sz i), L, by omega, rfl, by simp [hal], fun j hj => ?_, by rw [hss]; rfl⟩
    rw [List.getElem?_set]
    by_cases hji : i = j
    · subst hji; rw [if_pos rfl, if_pos (by omega)]
    · rw [if_neg hji]; exact haj j (by omega)
theorem x71 {l dn td : List Dr} {x : Dr} {marks sz sz0 ats : List Int} (hM : MayP l marks) (hb : ∀ s ∈ sz0, 1 ≤ s ∧ s ≤ 3) (hs : sz0.length = l.length) (ha : IsPl sz0 ats) (h2 : l = dn ++ x :: td) (hp : 0 < x.mark) (hml : marks.length ≤ 9223372036854775807) :
    FF 71 [.ptr (.g 2) 1 0, .int .i64 dn.length] (HR l marks sz ats) = some (.int .i64 (wayD sz0 marks dn.length x), HR l marks sz ats) := by
  have hx : x ∈ l := by rw [h2]; simp
  obtain ⟨m1, m2, m3⟩ := markAt_get hM hx hp
  have hlen := congrArg List.length h2
  simp only [List.length_append, List.length_cons] at hlen
  have hbl := hM.len
  have hd := hM.drs x hx
  have hix := idxS_split (k := .i64) drE.len (by omega : 0 < 9) h2
  have hw1 : IntKind.i64.wrap (x.mark - 1) = x.mark - 1 := wI (by omega) (by omega)
  have hixm := idxS_sl (k := .i64) intC_len (by omega : 0 < 1) (by omega : 0 ≤ x.mark - 1) m1
  have hit := HR_it (k := 1) (n := l.length + 1) m2 (by omega)
  have hii := HR_ix (k := 1) (i := dn.length) (n := l.length + 1) (by omega)
  have hl1 := fun (L : List (Nat × HO)) => HR_at (l := l) (marks := marks) (sz := sz) (L := L) (ha.all (markAt marks x).toNat (by omega))
  have hl2 := fun (L : List (Nat × HO)) => HR_at (l := l) (marks := marks) (sz := sz) (L := L) (ha.all dn.length (by omega))
  have b1 := sumN_bd (j := (markAt marks x).toNat) hb
  have b2 := sumN_bd (j := dn.length) hb
  have hw2 : IntKind.i64.wrap (sumN sz0 (markAt marks x).toNat - sumN sz0 dn.length) = sumN sz0 (markAt marks x).toNat - sumN sz0 dn.length := wI (by omega) (by omega)
  refine Fw_funK rfl Tryz.func71 s71 (Nat.le_of_ble_eq_true rfl) (fun Q hqr hqn => ?_)
  rw [show ∀ a, cin (An.pure 71) a = a from fun _ => rfl]
  simp only [tinit, Nat.reduceAdd, c71]
  repeat' (first
  | with_reducible refine Tx_ret ?_
  | (with_reducible (first | (refine Tx_regK (fun K hK => ?_); (first | refine t71r0 ?_ | refine t71r1 ?_)) | refine hqr _ ?_); (try simp only [tget_cons, if_true, if_false, Nat.reduceEqDiff, Obt_some, Kn_normal, Nat.zero_add, fldA_ptr, fldA_rptr, List.drop_zero, ld1_r, Option.map_some, Obt_sub, List.drop_succ_cons, List.nil_append, List.cons_append, and_true, true_and, if_false, if_true, r71, tend, tresAll, tresC, Option.bind_some, mapMem, retv_int, tup_one, Prod.mk.injEq, CV.int.injEq, nilP', HR_0, HR_1, HR_3, hix, drC, hw1, hixm, intC, hit, hii, hl1, hl2, hw2]))
  | (revert hK; intro hK; (with_reducible refine hK _ ?_; clear hK K)))
  all_goals rfl
theorem way_bd {sz marks : List Int} {l : List Dr} {x : Dr} {i : Nat} (hM : MayP l marks) (hx : x ∈ l) (hp : 0 < x.mark) (hi : i ≤ l.length) (hb : ∀ s ∈ sz, 1 ≤ s ∧ s ≤ 3) : -300000 ≤ wayD sz marks i x ∧ wayD sz marks i x ≤ 300000 := by
  obtain ⟨m1, m2, m3⟩ := markAt_get hM hx hp
  have hbl := hM.len
  have b1 := sumN_bd (j := (markAt marks x).toNat) hb
  have b2 := sumN_bd (j := i) hb
  unfold wayD; omega
end Go.Cm

namespace Go.Cm
open Go.Proofs Go.Pk
theorem szB_f {x : Dr} : szB x false = 1 := rfl
theorem szB_t {x : Dr} : szB x true = if 0 ≤ opp x.ins.fn then 2 else 3 := rfl
theorem szB_gt {x : Dr} : (1 : Int) < szB x true := by rw [szB_t]; split <;> omega
theorem more_same {G ln : List Bool} {b : Bool} : decide (G ++ [b] ≠ ln ++ [b]) = decide (G ≠ ln) := by simp
theorem more_new {G ln : List Bool} : decide (G ++ [true] ≠ ln ++ [false]) = true := by
  rw [decide_eq_true_eq]; intro h
  have := congrArg List.getLast? h
  simp at this
set_option maxHeartbeats 2000000 in
theorem x46 {l : List Dr} {marks ats : List Int} {lg : List Bool} (hM : MayP l marks) (hlg : lg.length = l.length) (ha : IsPl (szsD l lg) ats) (hml : marks.length ≤ 9223372036854775807) :
    FF 46 [.ptr (.g 2) 1 0] (HR l marks (szsD l lg) ats) = some (.bool (decide (growD (szsD l lg) marks 0 l lg ≠ lg)), HR l marks (szsD l (growD (szsD l lg) marks 0 l lg)) ats) := by
  have hsetL : ∀ (L : List (Nat × HO)) (H : List HO) i x, setL ⟨L, H⟩ i x = ⟨lset L i x, H⟩ := fun _ _ _ _ => rfl
  have hbl := hM.len
  obtain ⟨sz0, hsz0⟩ : ∃ sz0, sz0 = szsD l lg := ⟨_, rfl⟩
  have hs0 : sz0.length = l.length := by rw [hsz0, szsD_len hlg]
  have hb0 : ∀ s ∈ sz0, 1 ≤ s ∧ s ≤ 3 := by rw [hsz0]; exact szsD_bd
  rw [← hsz0] at ha
  rw [← hsz0]
  rw [show HR l marks sz0 ats = HR l marks (szsD l lg) ats by rw [hsz0]]
  refine Fw_funK rfl Tryz.func46 s46 (Nat.le_of_ble_eq_true rfl) (fun Q hqr hqn => ?_)
  rw [show ∀ a, cin (An.pure 46) a = a from fun _ => rfl]
  simp only [tinit, Nat.reduceAdd, c46]
  repeat' (first
  | with_reducible (first | refine Tx_assoc ?_ | refine Tx_blockK (id := 0) (fun Q0 hn0 hx0 hr0 ho0 => ?_))
  | (with_reducible (refine Tx_regK (fun K hK => ?_); (first | refine t46r0 ?_ | refine t46r1 ?_ | refine t46r2 ?_)); (try simp only [tget_cons, if_true, if_false, Nat.reduceEqDiff, Obt_some, Kn_normal, Nat.zero_add, fldA_ptr, lenS, Obt_map, if_false, if_true, nilP', HR_0, clen_sl]))
  | (revert hK; intro hK; (with_reducible refine hK _ ?_; clear hK K)))
  refine Tx_loopK (fun k s => ∃ (dn td : List Dr) (ln lt : List Bool) (L : List (Nat × HO)), l = dn ++ td ∧ lg = ln ++ lt ∧ ln.length = dn.length ∧ k = td.length ∧
      s = ⟨[(0, .ptr (.g 2) 1 0), (3, .bool (decide (growD sz0 marks 0 dn ln ≠ ln))), (10, sl drC l), (11, .int .i64 l.length), (12, .int .i64 dn.length)], ⟨L, HR l marks (szsD l (growD sz0 marks 0 dn ln ++ lt)) ats⟩⟩) _ ⟨[], l, [], lg, _, rfl, rfl, rfl, rfl, rfl⟩ ?_
  rintro k s ⟨dn, td, ln, lt, L, h2, h3, h4, rfl, rfl⟩ QL0 hnL0 hxL0 hrL0
  have hlen := congrArg List.length h2
  have hlen3 := congrArg List.length h3
  simp only [List.length_append] at hlen hlen3
  simp only [c46l0]
  have hGl : (growD sz0 marks 0 dn ln).length = dn.length := growD_len h4
  have hsn := fun (x : Dr) (b : Bool) => growD_snoc (sz := sz0) (marks := marks) (x := x) (b := b) (i := 0) h4
  obtain ⟨G, hG⟩ : ∃ G, G = growD sz0 marks 0 dn ln := ⟨_, rfl⟩
  rw [← hG] at hGl hsn
  cases td with
  | nil =>
    simp only [List.length_nil] at hlen
    rw [List.append_nil] at h2
    have hlt0 : lt = [] := List.eq_nil_of_length_eq_zero (by omega)
    subst hlt0
    rw [List.append_nil] at h3
    subst h2 h3
    have hge : ¬ ((l.length : Int) < l.length) := by omega
    rw [← hG, List.append_nil]
    repeat' (first
    | with_reducible (first | refine Tx_noK rfl ?_ | refine Tx_exitK ?_ | refine Tx_ret ?_ | refine hx0 _ ?_ | refine hxL0 _ _ ?_)
    | (with_reducible (first | (refine Tx_regK (fun K hK => ?_); (first | refine t46r3 ?_ | refine t46r13 ?_)) | refine hqr _ ?_); (try simp only [true_implies, false_implies, not_false_eq_true, tget_cons, if_true, if_false, Nat.reduceEqDiff, Obt_some, Kn_normal, Obt_lss, Option.map_some, true_and, if_false, if_true, r46, tend, tresAll, tresC, Option.bind_some, mapMem, retv_bool, tup_one, Prod.mk.injEq, CV.bool.injEq, hge]))
    | (revert hK; intro hK; (with_reducible refine hK _ ?_; clear hK K)))
    all_goals (rw [hG]; exact ⟨rfl, rfl⟩)
  | cons x td =>
    simp only [List.length_cons] at hlen
    obtain ⟨b, lt, rfl⟩ : ∃ b lt', lt = b :: lt' := by
      cases lt with
      | nil => simp only [List.length_nil] at hlen3; omega
      | cons b lt' => exact ⟨b, lt', rfl⟩
    simp only [List.length_cons] at hlen3
    have hlt : (dn.length : Int) < l.length := by omega
    have hw : IntKind.i64.wrap ((dn.length : Int) + 1) = dn.length + 1 := wI (by omega) (by omega)
    have hix := idxS_split (k := .i64) drE.len (by omega : 0 < 9) h2
    have hgx : l[dn.length]? = some x := by rw [h2]; simp
    have hgb : (G ++ b :: lt)[dn.length]? = some b := by rw [← hGl]; simp
    have hcount : (szsD l (G ++ b :: lt)).length = l.length := szsD_len (by simp only [List.length_append, List.length_cons, hGl]; omega)
    have hnew : ∀ (b' mo : Bool) L', growB sz0 marks dn.length x b = b' → mo = decide (G ++ [b'] ≠ ln ++ [b]) → QL0 .normal ⟨[(0, .ptr (.g 2) 1 0), (3, .bool mo), (10, sl drC l), (11, .int .i64 l.length), (12, .int .i64 ((dn.length : Int) + 1))], ⟨L', HR l marks (szsD l (G ++ b' :: lt)) ats⟩⟩ := fun b' mo L' hq hmo => by
      have e : ((dn.length : Int) + 1) = ((dn ++ [x]).length : Int) := by simp
      have e2 := hsn x b
      rw [Nat.zero_add, hq] at e2
      have e3 : G ++ b' :: lt = growD sz0 marks 0 (dn ++ [x]) (ln ++ [b]) ++ lt := by rw [e2]; simp
      rw [e, e3, hmo, ← e2]
      exact hnL0 td.length _ (by simp) ⟨dn ++ [x], td, ln ++ [b], lt, L', by simp [h2], by simp [h3], by simp [h4], rfl, rfl⟩
    have hnext : ∀ L', growB sz0 marks dn.length x b = b → QL0 .normal ⟨[(0, .ptr (.g 2) 1 0), (3, .bool (decide (G ≠ ln))), (10, sl drC l), (11, .int .i64 l.length), (12, .int .i64 ((dn.length : Int) + 1))], ⟨L', HR l marks (szsD l (G ++ b :: lt)) ats⟩⟩ := fun L' hq => hnew b _ L' hq more_same.symm
    have hx : x ∈ l := by rw [h2]; simp
    have hd := hM.drs x hx
    rw [← hG]
    obtain ⟨mo, hmo⟩ : ∃ mo, mo = decide (G ≠ ln) := ⟨_, rfl⟩
    rw [← hmo] at hnext ⊢
    by_cases g1 : x.mark = 0
    · have hq : growB sz0 marks dn.length x b = b := by unfold growB; simp [g1]
      repeat' (first
      | with_reducible (first | refine Tx_assoc ?_ | refine Tx_nopK ?_ | refine Tx_yesK rfl ?_ | refine Tx_exitK ?_ | refine Tx_blockK (id := 1) (fun Q1 hn1 hx1 hr1 ho1 => ?_) | refine hx1 _ ?_)
      | (with_reducible ((first | refine Tx_regK (fun K hK => ?_) | refine Tx_regE (fun K hK => ?_)); (first | refine t46r3 ?_ | refine t46r4 ?_ | refine t46r5 ?_ | refine t46r12 ?_)); (try simp only [true_implies, false_implies, not_true_eq_false, tget_cons, if_true, if_false, Nat.reduceEqDiff, ccells, Obt_some, Kn_normal, newL_eq, newP_eq, lget_lset, Nat.reduceAdd, Nat.zero_add, fldA_ptr, ld1_l, rd1_var, List.getElem?_cons_zero, List.getElem?_cons_succ, Obt_lss, Obt_eql, Obt_neq, gdO_tf, gdO_ff, Option.map_some, pickX_t, pickX_f, Obt_map, Obt_add, stX_l, stV_var, splice, List.take_zero, List.drop_succ_cons, List.drop_nil, List.nil_append, List.cons_append, List.append_nil, List.length_cons, List.length_nil, and_self, and_true, Nat.le_refl, if_false, if_true, hlt, hix, ldA_r9, drC, hsetL, g1, hw]))
      | (revert hK; intro hK; (with_reducible refine hK _ ?_; clear hK K)))
      all_goals exact hnext _ hq
    by_cases g2 : x.ins.op = 20
    · have hii := HR_ix (k := 0) (i := dn.length) (n := l.length) (by omega)
      have hsz := fun (L : List (Nat × HO)) => HR_sz (l := l) (marks := marks) (ats := ats) (L := L) (szsD_get hgx hgb)
      cases b with
      | true =>
        have hq : growB sz0 marks dn.length x true = true := rfl
        have h1 := szB_gt (x := x)
        repeat' (first
        | with_reducible (first | refine Tx_assoc ?_ | refine Tx_nopK ?_ | refine Tx_yesK rfl ?_ | refine Tx_exitK ?_ | refine Tx_blockK (id := 1) (fun Q1 hn1 hx1 hr1 ho1 => ?_) | refine hx1 _ ?_)
        | (with_reducible ((first | refine Tx_regK (fun K hK => ?_) | refine Tx_regE (fun K hK => ?_)); (first | refine t46r3 ?_ | refine t46r4 ?_ | refine t46r5 ?_ | refine t46r12 ?_)); (try simp only [true_implies, false_implies, not_true_eq_false, not_false_eq_true, tget_cons, if_true, if_false, Nat.reduceEqDiff, ccells, Obt_some, Kn_normal, newL_eq, newP_eq, lget_lset, Nat.reduceAdd, Nat.zero_add, fldA_ptr, ld1_l, rd1_var, List.getElem?_cons_zero, List.getElem?_cons_succ, Obt_lss, Obt_gtr, Obt_eql, Obt_neq, gdO_tf, gdO_ff, Option.map_some, pickX_t, pickX_f, Obt_map, Obt_add, stX_l, stV_var, splice, List.take_zero, List.drop_succ_cons, List.drop_nil, List.nil_append, List.cons_append, List.append_nil, List.length_cons, List.length_nil, and_self, and_true, true_and, Nat.le_refl, if_false, if_true, nilP', HR_2, hlt, hix, ldA_r9, drC, hsetL, g1, g2, hw, hsz, hii, h1, gt_iff_lt]))
        | (revert hK; intro hK; (with_reducible refine hK _ ?_; clear hK K)))
        all_goals exact hnext _ hq
      | false =>
        have hpos : 0 < x.mark := by omega
        obtain ⟨w1, w2⟩ := way_bd (i := dn.length) hM hx hpos (by omega) hb0
        have hk := fun (L : List (Nat × HO)) (t : Tmp) => callC_I (A := An) (F := FF) (fid := 46) (d := t) (m := ⟨L, HR l marks (szsD l (G ++ false :: lt)) ats⟩) rfl rfl (x71 (sz := szsD l (G ++ false :: lt)) hM hb0 hs0 ha h2 hpos hml)
        obtain ⟨w, hwy⟩ : ∃ w, w = wayD sz0 marks dn.length x := ⟨_, rfl⟩
        rw [← hwy] at hk w1 w2
        have hw2 : IntKind.i64.wrap (w - 1) = w - 1 := wI (by omega) (by omega)
        have hgr : growB sz0 marks dn.length x false = farB (w - 1) := by
          unfold growB; rw [← hwy]; simp [g1, g2]
        simp only [szB_f] at hsz
        have hO := fun (t : Tmp) (m : Mem) => k72 x.ins.fn (fid := 46) (t := t) (m := m)
        have hss := fun (L : List (Nat × HO)) (v : Int) => HR_ss (l := l) (marks := marks) (sz := szsD l (G ++ false :: lt)) (ats := ats) (L := L) (i := dn.length) (v := v) (by omega)
        have hss2 := fun (L : List (Nat × HO)) (u v : Int) => HR_ss (l := l) (marks := marks) (sz := (szsD l (G ++ false :: lt)).set dn.length u) (ats := ats) (L := L) (i := dn.length) (v := v) (by simp; omega)
        have hset : (szsD l (G ++ false :: lt)).set dn.length (szB x true) = szsD l (G ++ true :: lt) := by
          rw [szsD_set hgx, ← hGl]; simp
        rw [szB_t] at hset
        have hfar : (w - 1 < -1024 ∨ 1024 ≤ w - 1) → ∀ L', QL0 .normal ⟨[(0, .ptr (.g 2) 1 0), (3, .bool true), (10, sl drC l), (11, .int .i64 l.length), (12, .int .i64 ((dn.length : Int) + 1))], ⟨L', HR l marks (szsD l (G ++ true :: lt)) ats⟩⟩ := fun hf L' =>
          hnew true true L' (by rw [hgr]; simp only [farB, Bool.or_eq_true, decide_eq_true_eq]; exact hf) more_new.symm
        by_cases n1 : w - 1 < -1024
        · by_cases o1 : 0 ≤ opp x.ins.fn
          · rw [if_pos o1] at hset
            repeat' (first
            | with_reducible (first | refine Tx_assoc ?_ | refine Tx_nopK ?_ | refine Tx_yesK rfl ?_ | refine Tx_noK rfl ?_ | refine Tx_yes rfl ?_ | refine Tx_blockK (id := 1) (fun Q1 hn1 hx1 hr1 ho1 => ?_) | refine hn1 _ ?_)
            | (with_reducible ((first | refine Tx_regK (fun K hK => ?_) | refine Tx_regE (fun K hK => ?_)); (first | refine t46r3 ?_ | refine t46r4 ?_ | refine t46r5 ?_ | refine t46r6 ?_ | refine t46r7 ?_ | refine t46r8 ?_ | refine t46r9 ?_ | refine t46r10 ?_ | refine t46r11 ?_ | refine t46r12 ?_)); (try simp only [true_implies, false_implies, not_true_eq_false, not_false_eq_true, tget_cons, if_true, if_false, Nat.reduceEqDiff, ccells, Obt_some, Kn_normal, newL_eq, newP_eq, lget_lset, Nat.reduceAdd, Nat.zero_add, fldA_ptr, ld1_l, rd1_var, List.getElem?_cons_zero, List.getElem?_cons_succ, Obt_lss, Obt_gtr, Obt_geq, Obt_eql, Obt_neq, gdO_tf, gdO_ff, Option.map_some, pickX_t, pickX_f, Obt_map, Obt_add, Obt_sub, stX_l, stV_var, splice, List.take_zero, List.drop_succ_cons, List.drop_nil, List.nil_append, List.cons_append, List.append_nil, List.length_cons, List.length_nil, and_self, and_true, true_and, Nat.le_refl, if_false, if_true, nilP', HR_2, hlt, hix, ldA_r9, drC, hsetL, g1, g2, hw, hk, adopt_int, hsz, hii, hw2, n1, ge_iff_le, gt_iff_lt, hss, hss2, hO, o1, List.set_set, hset]))
            | (revert hK; intro hK; (first | refine And.intro ?_ ?_ | intro _ | omega | (with_reducible refine hK _ ?_; clear hK K))))
            all_goals exact hfar (.inl n1) _
          · rw [if_neg o1] at hset
            repeat' (first
            | with_reducible (first | refine Tx_assoc ?_ | refine Tx_nopK ?_ | refine Tx_yesK rfl ?_ | refine Tx_noK rfl ?_ | refine Tx_yes rfl ?_ | refine Tx_blockK (id := 1) (fun Q1 hn1 hx1 hr1 ho1 => ?_) | refine hn1 _ ?_)
            | (with_reducible ((first | refine Tx_regK (fun K hK => ?_) | refine Tx_regE (fun K hK => ?_)); (first | refine t46r3 ?_ | refine t46r4 ?_ | refine t46r5 ?_ | refine t46r6 ?_ | refine t46r7 ?_ | refine t46r8 ?_ | refine t46r9 ?_ | refine t46r11 ?_ | refine t46r12 ?_)); (try simp only [true_implies, false_implies, not_true_eq_false, not_false_eq_true, tget_cons, if_true, if_false, Nat.reduceEqDiff, ccells, Obt_some, Kn_normal, newL_eq, newP_eq, lget_lset, Nat.reduceAdd, Nat.zero_add, fldA_ptr, ld1_l, rd1_var, List.getElem?_cons_zero, List.getElem?_cons_succ, Obt_lss, Obt_gtr, Obt_geq, Obt_eql, Obt_neq, gdO_tf, gdO_ff, Option.map_some, pickX_t, pickX_f, Obt_map, Obt_add, Obt_sub, stX_l, stV_var, splice, List.take_zero, List.drop_succ_cons, List.drop_nil, List.nil_append, List.cons_append, List.append_nil, List.length_cons, List.length_nil, and_self, and_true, true_and, Nat.le_refl, if_false, if_true, nilP', HR_2, hlt, hix, ldA_r9, drC, hsetL, g1, g2, hw, hk, adopt_int, hsz, hii, hw2, n1, ge_iff_le, gt_iff_lt, hss, hss2, hO, o1, List.set_set, hset]))
            | (revert hK; intro hK; (first | refine And.intro ?_ ?_ | intro _ | omega | (with_reducible refine hK _ ?_; clear hK K))))
            all_goals exact hfar (.inl n1) _
        · by_cases n2 : 1024 ≤ w - 1
          · by_cases o1 : 0 ≤ opp x.ins.fn
            · rw [if_pos o1] at hset
              repeat' (first
              | with_reducible (first | refine Tx_assoc ?_ | refine Tx_nopK ?_ | refine Tx_yesK rfl ?_ | refine Tx_noK rfl ?_ | refine Tx_yes rfl ?_ | refine Tx_blockK (id := 1) (fun Q1 hn1 hx1 hr1 ho1 => ?_) | refine hn1 _ ?_)
              | (with_reducible ((first | refine Tx_regK (fun K hK => ?_) | refine Tx_regE (fun K hK => ?_)); (first | refine t46r3 ?_ | refine t46r4 ?_ | refine t46r5 ?_ | refine t46r6 ?_ | refine t46r7 ?_ | refine t46r8 ?_ | refine t46r9 ?_ | refine t46r10 ?_ | refine t46r11 ?_ | refine t46r12 ?_)); (try simp only [true_implies, false_implies, not_true_eq_false, not_false_eq_true, tget_cons, if_true, if_false, Nat.reduceEqDiff, ccells, Obt_some, Kn_normal, newL_eq, newP_eq, lget_lset, Nat.reduceAdd, Nat.zero_add, fldA_ptr, ld1_l, rd1_var, List.getElem?_cons_zero, List.getElem?_cons_succ, Obt_lss, Obt_gtr, Obt_geq, Obt_eql, Obt_neq, gdO_tf, gdO_ff, Option.map_some, pickX_t, pickX_f, Obt_map, Obt_add, Obt_sub, stX_l, stV_var, splice, List.take_zero, List.drop_succ_cons, List.drop_nil, List.nil_append, List.cons_append, List.append_nil, List.length_cons, List.length_nil, and_self, and_true, true_and, Nat.le_refl, if_false, if_true, nilP', HR_2, hlt, hix, ldA_r9, drC, hsetL, g1, g2, hw, hk, adopt_int, hsz, hii, hw2, n1, n2, ge_iff_le, gt_iff_lt, hss, hss2, hO, o1, List.set_set, hset]))
              | (revert hK; intro hK; (first | refine And.intro ?_ ?_ | intro _ | omega | (with_reducible refine hK _ ?_; clear hK K))))
              all_goals exact hfar (.inr n2) _
            · rw [if_neg o1] at hset
              repeat' (first
              | with_reducible (first | refine Tx_assoc ?_ | refine Tx_nopK ?_ | refine Tx_yesK rfl ?_ | refine Tx_noK rfl ?_ | refine Tx_yes rfl ?_ | refine Tx_blockK (id := 1) (fun Q1 hn1 hx1 hr1 ho1 => ?_) | refine hn1 _ ?_)
              | (with_reducible ((first | refine Tx_regK (fun K hK => ?_) | refine Tx_regE (fun K hK => ?_)); (first | refine t46r3 ?_ | refine t46r4 ?_ | refine t46r5 ?_ | refine t46r6 ?_ | refine t46r7 ?_ | refine t46r8 ?_ | refine t46r9 ?_ | refine t46r11 ?_ | refine t46r12 ?_)); (try simp only [true_implies, false_implies, not_true_eq_false, not_false_eq_true, tget_cons, if_true, if_false, Nat.reduceEqDiff, ccells, Obt_some, Kn_normal, newL_eq, newP_eq, lget_lset, Nat.reduceAdd, Nat.zero_add, fldA_ptr, ld1_l, rd1_var, List.getElem?_cons_zero, List.getElem?_cons_succ, Obt_lss, Obt_gtr, Obt_geq, Obt_eql, Obt_neq, gdO_tf, gdO_ff, Option.map_some, pickX_t, pickX_f, Obt_map, Obt_add, Obt_sub, stX_l, stV_var, splice, List.take_zero, List.drop_succ_cons, List.drop_nil, List.nil_append, List.cons_append, List.append_nil, List.length_cons, List.length_nil, and_self, and_true, true_and, Nat.le_refl, if_false, if_true, nilP', HR_2, hlt, hix, ldA_r9, drC, hsetL, g1, g2, hw, hk, adopt_int, hsz, hii, hw2, n1, n2, ge_iff_le, gt_iff_lt, hss, hss2, hO, o1, List.set_set, hset]))
              | (revert hK; intro hK; (first | refine And.intro ?_ ?_ | intro _ | omega | (with_reducible refine hK _ ?_; clear hK K))))
              all_goals exact hfar (.inr n2) _
          · have hq : growB sz0 marks dn.length x false = false := by rw [hgr]; simp [farB, n1, n2]
            repeat' (first
            | with_reducible (first | refine Tx_assoc ?_ | refine Tx_nopK ?_ | refine Tx_yesK rfl ?_ | refine Tx_noK rfl ?_ | refine Tx_no rfl ?_ | refine Tx_nop ?_ | refine Tx_blockK (id := 1) (fun Q1 hn1 hx1 hr1 ho1 => ?_) | refine hn1 _ ?_)
            | (with_reducible ((first | refine Tx_regK (fun K hK => ?_) | refine Tx_regE (fun K hK => ?_)); (first | refine t46r3 ?_ | refine t46r4 ?_ | refine t46r5 ?_ | refine t46r6 ?_ | refine t46r7 ?_ | refine t46r12 ?_)); (try simp only [true_implies, false_implies, not_true_eq_false, not_false_eq_true, tget_cons, if_true, if_false, Nat.reduceEqDiff, ccells, Obt_some, Kn_normal, newL_eq, newP_eq, lget_lset, Nat.reduceAdd, Nat.zero_add, fldA_ptr, ld1_l, rd1_var, List.getElem?_cons_zero, List.getElem?_cons_succ, Obt_lss, Obt_gtr, Obt_geq, Obt_eql, Obt_neq, gdO_tf, gdO_ff, Option.map_some, pickX_t, pickX_f, Obt_map, Obt_add, Obt_sub, stX_l, stV_var, splice, List.take_zero, List.drop_succ_cons, List.drop_nil, List.nil_append, List.cons_append, List.append_nil, List.length_cons, List.length_nil, and_self, and_true, true_and, Nat.le_refl, if_false, if_true, nilP', HR_2, hlt, hix, ldA_r9, drC, hsetL, g1, g2, hw, hk, adopt_int, hsz, hii, hw2, n1, n2, ge_iff_le, gt_iff_lt]))
            | (revert hK; intro hK; (first | refine And.intro ?_ ?_ | intro _ | omega | (with_reducible refine hK _ ?_; clear hK K))))
            all_goals exact hnext _ hq
    · have hq : growB sz0 marks dn.length x b = b := by unfold growB; simp [g2]
      repeat' (first
      | with_reducible (first | refine Tx_assoc ?_ | refine Tx_nopK ?_ | refine Tx_yesK rfl ?_ | refine Tx_exitK ?_ | refine Tx_blockK (id := 1) (fun Q1 hn1 hx1 hr1 ho1 => ?_) | refine hx1 _ ?_)
      | (with_reducible ((first | refine Tx_regK (fun K hK => ?_) | refine Tx_regE (fun K hK => ?_)); (first | refine t46r3 ?_ | refine t46r4 ?_ | refine t46r5 ?_ | refine t46r12 ?_)); (try simp only [true_implies, false_implies, not_true_eq_false, not_false_eq_true, tget_cons, if_true, if_false, Nat.reduceEqDiff, ccells, Obt_some, Kn_normal, newL_eq, newP_eq, lget_lset, Nat.reduceAdd, Nat.zero_add, fldA_ptr, ld1_l, rd1_var, List.getElem?_cons_zero, List.getElem?_cons_succ, Obt_lss, Obt_eql, Obt_neq, gdO_tf, gdO_ff, Option.map_some, pickX_t, pickX_f, Obt_map, Obt_add, stX_l, stV_var, splice, List.take_zero, List.drop_succ_cons, List.drop_nil, List.nil_append, List.cons_append, List.append_nil, List.length_cons, List.length_nil, and_self, and_true, true_and, Nat.le_refl, if_false, if_true, hlt, hix, ldA_r9, drC, hsetL, g1, g2, hw]))
      | (revert hK; intro hK; (with_reducible refine hK _ ?_; clear hK K)))
      all_goals exact hnext _ hq
theorem x47 {l dn td : List Dr} {x : Dr} {b : Bool} {lg : List Bool} {marks ats : List Int} (hM : MayP l marks) (hlg : lg.length = l.length) (ha : IsPl (szsD l lg) ats) (h2 : l = dn ++ x :: td) (hgb : lg[dn.length]? = some b) (hml : marks.length ≤ 9223372036854775807) :
    FF 47 [.ptr (.g 2) 1 0, .int .i64 dn.length] (HR l marks (szsD l lg) ats) = some (ownC rcC 8 (expD (szsD l lg) marks dn.length x b), HR l marks (szsD l lg) ats) := by
  have hsetL : ∀ (L : List (Nat × HO)) (H : List HO) i x, setL ⟨L, H⟩ i x = ⟨lset L i x, H⟩ := fun _ _ _ _ => rfl
  have hx : x ∈ l := by rw [h2]; simp
  have hlen := congrArg List.length h2
  simp only [List.length_append, List.length_cons] at hlen
  have hbl := hM.len
  have hd := hM.drs x hx
  have hix := idxS_split (k := .i64) drE.len (by omega : 0 < 9) h2
  have hgx : l[dn.length]? = some x := by rw [h2]; simp
  by_cases g1 : x.mark = 0
  · have ho : expD (szsD l lg) marks dn.length x b = [x.ins] := by unfold expD; rw [if_pos g1]
    rw [ho]
    refine Fw_funK rfl Tryz.func47 s47 (Nat.le_of_ble_eq_true rfl) (fun Q hqr hqn => ?_)
    rw [show ∀ a, cin (An.pure 47) a = a from fun _ => rfl]
    simp only [tinit, Nat.reduceAdd, c47]
    repeat' (first
    | with_reducible (first | refine Tx_assoc ?_ | refine Tx_yesK rfl ?_ | refine Tx_retK ?_)
    | (with_reducible (first | (refine Tx_regK (fun K hK => ?_); (first | refine t47r0 ?_ | refine t47r1 ?_ | refine t47r2 ?_ | refine t47r3 ?_)) | refine hqr _ ?_); (try simp only [true_implies, false_implies, not_true_eq_false, tget_cons, if_true, if_false, Nat.reduceEqDiff, ccells, Obt_some, Kn_normal, newL_eq, newP_eq, nmA_f, nmR_f, gn_var, lget_lset, gnext_lset, Nat.reduceMul, Nat.reduceAdd, Nat.zero_add, fldA_ptr, fldA_rptr, List.drop_zero, ld1_r, ldA_l, Obt_eql, Option.map_some, Obt_map, Obt_bind, fillX, bslX, escP_list, stX_l, stV_var, splice, List.take_zero, List.take_succ_cons, List.drop_succ_cons, List.drop_nil, List.nil_append, List.cons_append, List.append_nil, List.length_cons, List.length_nil, and_self, and_true, Nat.le_refl, rdA_var, escP, List.all_cons, List.all_nil, Bool.and_self, if_false, if_true, r47, tend, tresAll, tresC, Option.bind_some, mapMem, retv_l, retR_arr, Nat.sub_self, tup_one, Prod.mk.injEq, nilP', HR_0, hix, drC, ldA_r8, hsetL, g1]))
    | (revert hK; intro hK; (with_reducible refine hK _ ?_; clear hK K)))
    all_goals rfl
  · have hpos : 0 < x.mark := by omega
    have hs0 := szsD_len hlg
    have hb0 : ∀ s ∈ szsD l lg, 1 ≤ s ∧ s ≤ 3 := szsD_bd
    obtain ⟨w1, w2⟩ := way_bd (i := dn.length) hM hx hpos (by omega) hb0
    have hk := fun (L : List (Nat × HO)) (t : Tmp) => callC_I (A := An) (F := FF) (fid := 47) (d := t) (m := ⟨L, HR l marks (szsD l lg) ats⟩) rfl rfl (x71 (sz := szsD l lg) hM hb0 hs0 ha h2 hpos hml)
    have hsz := fun (L : List (Nat × HO)) => HR_sz (l := l) (marks := marks) (ats := ats) (L := L) (szsD_get hgx hgb)
    have hii := HR_ix (k := 0) (i := dn.length) (n := l.length) (by omega)
    have hO := fun (t : Tmp) (m : Mem) => k72 x.ins.fn (fid := 47) (t := t) (m := m)
    have hJ := fun (n : Int) (t : Tmp) (m : Mem) => k73 n (fid := 47) (t := t) (m := m)
    unfold expD
    rw [if_neg g1]
    obtain ⟨w, hwy⟩ : ∃ w, w = wayD (szsD l lg) marks dn.length x := ⟨_, rfl⟩
    rw [← hwy] at hk w1 w2 ⊢
    have hw2 : IntKind.i64.wrap (w - 1) = w - 1 := wI (by omega) (by omega)
    have hw3 : IntKind.i64.wrap (w - 2) = w - 2 := wI (by omega) (by omega)
    have hw4 : IntKind.i64.wrap (w - 3) = w - 3 := wI (by omega) (by omega)
    cases b with
    | false =>
      simp only [szB_f] at hsz
      rw [if_neg (by simp)]
      refine Fw_funK rfl Tryz.func47 s47 (Nat.le_of_ble_eq_true rfl) (fun Q hqr hqn => ?_)
      rw [show ∀ a, cin (An.pure 47) a = a from fun _ => rfl]
      simp only [tinit, Nat.reduceAdd, c47]
      repeat' (first
      | with_reducible (first | refine Tx_assoc ?_ | refine Tx_nopK ?_ | refine Tx_noK rfl ?_ | refine Tx_yes rfl ?_ | refine Tx_ret ?_ | refine Tx_blockK (id := 0) (fun Q0 hn0 hx0 hr0 ho0 => ?_) | refine hr0 _ ?_)
      | (with_reducible (first | (refine Tx_regK (fun K hK => ?_); (first | refine t47r0 ?_ | refine t47r1 ?_ | refine t47r2 ?_ | refine t47r4 ?_ | refine t47r5 ?_ | refine t47r6 ?_ | refine t47r7 ?_ | refine t47r8 ?_)) | refine hqr _ ?_); (try simp only [true_implies, false_implies, not_true_eq_false, not_false_eq_true, tget_cons, if_true, if_false, Nat.reduceEqDiff, ccells, Obt_some, Kn_normal, newL_eq, newP_eq, nmA_f, nmR_f, gn_var, lget_lset, gnext_lset, Nat.reduceMul, Nat.reduceAdd, Nat.zero_add, fldA_ptr, fldA_rptr, List.drop_zero, ld1_r, ldA_l, Obt_eql, Option.map_some, Obt_map, Obt_sub, Obt_bind, fillX, bslX, escP_list, stX_l, stV_var, splice, List.take_zero, List.take_succ_cons, List.drop_succ_cons, List.drop_nil, List.nil_append, List.cons_append, List.append_nil, List.length_cons, List.length_nil, and_self, and_true, true_and, Nat.le_refl, Nat.zero_le, rdA_var, escP, List.all_cons, List.all_nil, Bool.and_self, if_false, if_true, r47, tend, tresAll, tresC, Option.bind_some, mapMem, retv_l, retR_arr, Nat.sub_self, tup_one, Prod.mk.injEq, nilP', HR_0, HR_2, hix, drC, ldA_r8, hsetL, g1, hk, adopt_int, hsz, hii, hw2]))
      | (revert hK; intro hK; (with_reducible refine hK _ ?_; clear hK K)))
      all_goals rfl
    | true =>
      rw [if_pos rfl]
      rw [szB_t] at hsz
      by_cases o1 : 0 ≤ opp x.ins.fn
      · rw [if_pos o1] at hsz ⊢
        refine Fw_funK rfl Tryz.func47 s47 (Nat.le_of_ble_eq_true rfl) (fun Q hqr hqn => ?_)
        rw [show ∀ a, cin (An.pure 47) a = a from fun _ => rfl]
        simp only [tinit, Nat.reduceAdd, c47]
        repeat' (first
        | with_reducible (first | refine Tx_assoc ?_ | refine Tx_nopK ?_ | refine Tx_noK rfl ?_ | refine Tx_yes rfl ?_ | refine Tx_no rfl ?_ | refine Tx_ret ?_ | refine Tx_blockK (id := 0) (fun Q0 hn0 hx0 hr0 ho0 => ?_) | refine hr0 _ ?_)
        | (with_reducible (first | (refine Tx_regK (fun K hK => ?_); (first | refine t47r0 ?_ | refine t47r1 ?_ | refine t47r2 ?_ | refine t47r4 ?_ | refine t47r5 ?_ | refine t47r6 ?_ | refine t47r9 ?_ | refine t47r10 ?_ | refine t47r11 ?_)) | refine hqr _ ?_); (try simp only [true_implies, false_implies, not_true_eq_false, not_false_eq_true, tget_cons, if_true, if_false, Nat.reduceEqDiff, ccells, Obt_some, Kn_normal, newL_eq, newP_eq, nmA_f, nmR_f, gn_var, lget_lset, gnext_lset, Nat.reduceMul, Nat.reduceAdd, Nat.zero_add, fldA_ptr, fldA_rptr, List.drop_zero, ld1_l, ld1_r, ldA_l, rd1_var, List.getElem?_cons_zero, List.getElem?_cons_succ, Obt_eql, Option.map_some, Bool.not_false, Obt_map, Obt_sub, Obt_bind, fillX, bslX, escP_list, stX_l, stV_var, splice, List.take_zero, List.take_succ_cons, List.drop_succ_cons, List.drop_nil, List.nil_append, List.cons_append, List.append_nil, List.length_cons, List.length_nil, Nat.reduceLeDiff, and_self, and_true, true_and, Nat.le_refl, Nat.zero_le, rdA_var, escP, List.all_cons, List.all_nil, Bool.and_self, if_false, if_true, r47, tend, tresAll, tresC, Option.bind_some, mapMem, retv_l, retR_arr, Nat.sub_self, tup_one, Prod.mk.injEq, nilP', HR_0, HR_2, hix, drC, ldA_r8, hsetL, g1, hk, adopt_int, hsz, hii, hw3, hO, hJ, chk, noRef, isRef, rcC, jmp]))
        | (revert hK; intro hK; (first | refine And.intro ?_ ?_ | intro _ | omega | (with_reducible refine hK _ ?_; clear hK K))))
        all_goals rfl
      · rw [if_neg o1] at hsz ⊢
        refine Fw_funK rfl Tryz.func47 s47 (Nat.le_of_ble_eq_true rfl) (fun Q hqr hqn => ?_)
        rw [show ∀ a, cin (An.pure 47) a = a from fun _ => rfl]
        simp only [tinit, Nat.reduceAdd, c47]
        repeat' (first
        | with_reducible (first | refine Tx_assoc ?_ | refine Tx_nopK ?_ | refine Tx_noK rfl ?_ | refine Tx_no rfl ?_ | refine Tx_ret ?_ | refine Tx_nop ?_ | refine Tx_blockK (id := 0) (fun Q0 hn0 hx0 hr0 ho0 => ?_) | refine hn0 _ ?_)
        | (with_reducible (first | (refine Tx_regK (fun K hK => ?_); (first | refine t47r0 ?_ | refine t47r1 ?_ | refine t47r2 ?_ | refine t47r4 ?_ | refine t47r5 ?_ | refine t47r6 ?_ | refine t47r9 ?_ | refine t47r12 ?_ | refine t47r13 ?_)) | refine hqr _ ?_); (try simp only [true_implies, false_implies, not_false_eq_true, tget_cons, if_true, if_false, Nat.reduceEqDiff, ccells, Obt_some, Kn_normal, newL_eq, newP_eq, nmA_f, nmR_f, gn_var, lget_lset, gnext_lset, Nat.reduceMul, Nat.reduceAdd, Nat.zero_add, fldA_ptr, fldA_rptr, List.drop_zero, ld1_r, ldA_l, Obt_eql, Option.map_some, Bool.not_false, Obt_map, Obt_sub, Obt_bind, fillX, bslX, escP_list, stX_l, stV_var, splice, List.take_zero, List.take_succ_cons, List.drop_succ_cons, List.drop_nil, List.nil_append, List.cons_append, List.append_nil, List.length_cons, List.length_nil, Nat.reduceLeDiff, and_self, and_true, true_and, Nat.le_refl, Nat.zero_le, rdA_var, escP, List.all_cons, List.all_nil, Bool.and_self, if_false, if_true, r47, tend, tresAll, tresC, Option.bind_some, mapMem, retv_l, retR_arr, Nat.sub_self, tup_one, Prod.mk.injEq, nilP', HR_0, HR_2, hix, drC, ldA_r8, hsetL, g1, hk, adopt_int, hsz, hii, hw4, hO, hJ, chk, noRef, isRef, rcC, jmp]))
        | (revert hK; intro hK; (first | refine And.intro ?_ ?_ | intro _ | omega | (with_reducible refine hK _ ?_; clear hK K))))
        all_goals rfl
end Go.Cm
