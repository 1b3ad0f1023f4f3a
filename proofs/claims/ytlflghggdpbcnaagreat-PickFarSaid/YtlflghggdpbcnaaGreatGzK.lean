import Derived.Test.YtlflghggdpbcnaaGreatGzH
set_option linter.unusedSimpArgs false
set_option linter.unusedVariables false
namespace Go.Cm
open Go.Proofs Go.Pk
theorem bsl_rc {o d a b f p i : Int} {w : Bool} {s : Nat} {m : Mem} : bslX false s 8 1 [.int .i64 0, .int .i64 0, .int .i64 0, .int .i64 0, .int .i64 0, .bool false, .int .i64 0, .int .i64 0] [(0, 8, .agg [.int .i64 o, .int .i64 d, .int .i64 a, .int .i64 b, .int .i64 f, .bool w, .int .i64 p, .int .i64 i])] m =
    some (.ref (.l s) (gnext m.L s) 0 1, setL m s (.arr (gnext m.L s) 8 (rcC ⟨o, d, a, b, f, w, p, i⟩) 0)) := rfl
set_option maxHeartbeats 8000000 in
theorem x26 (l : List Dr) (marks : List Int) (hl : l.length ≤ 9223372036854775807) (hml : marks.length ≤ 9223372036854775807) :
    ∃ q, (∃ H', q = (CV.tuple [ownC rcC 8 (rlxR l marks).1, .int .i64 (rlxR l marks).2], H')) ∧ FF 26 [sl drC l, sl intC marks] [] = some q := by
  have hk52 := fun (t : Tmp) (m : Mem) => k52 l marks hml (by omega) (fid := 26) (t := t) (m := m)
  cases hmay : mayD l marks with
  | false =>
    rw [hmay] at hk52
    have he : rlxR l marks = ([], 2) := by unfold rlxR; rw [hmay]; rfl
    rw [he]
    refine Fw_funE rfl Tryz.func26 s26 (Nat.le_of_ble_eq_true rfl) (fun Q hqr hqn => ?_)
    rw [cin_t (show An.pure 26 = true from rfl) (by simp only [cans, can_int, can_bool, can_agg, can_str, drE.can_sl, intE.can_sl])]
    simp only [tinit, Nat.reduceAdd, c26]
    repeat' (first
    | with_reducible (first | refine Tx_assoc ?_ | refine Tx_yesK rfl ?_ | refine Tx_retK ?_)
    | (with_reducible (first | (refine Tx_regK (fun K hK => ?_); (first | refine t26r0 ?_ | refine t26r1 ?_ | refine t26r2 ?_)) | refine hqr _ ?_); (try simp only [tget_cons, if_true, if_false, Nat.reduceEqDiff, Obt_some, Kn_normal, Obt_not, Option.map_some, Bool.not_false, if_false, if_true, r26, tend, tresAll, tresC, Option.bind_some, mapMem, retv_int, retv_nil, tup_two, Prod.mk.injEq, hk52]))
    | (revert hK; intro hK; (with_reducible refine hK _ ?_; clear hK K)))
    all_goals exact ⟨_, rfl, rfl⟩
  | true =>
    rw [hmay] at hk52
    have hM := mayD_of hmay
    have hbl := hM.len
    have hsetL : ∀ (L : List (Nat × HO)) (H : List HO) i x, setL ⟨L, H⟩ i x = ⟨lset L i x, H⟩ := fun _ _ _ _ => rfl
    have hmk1 : ∀ L, mkX true 352 1 1 [.bool false] (.int .i64 l.length) (.int .i64 l.length) ⟨L, []⟩ = some (.ref (.g 0) 1 0 l.length, ⟨L, HB (List.replicate l.length false)⟩) := fun L => by
      have := mkX_g (j := 352) (sz := 1) (b := 1) (z := [.bool false]) (k := .i64) (n := l.length) (m := ⟨L, []⟩) rfl (by omega) (by omega)
      rw [reps_bool] at this
      exact this
    refine Fw_funE rfl Tryz.func26 s26 (Nat.le_of_ble_eq_true rfl) (fun Q hqr hqn => ?_)
    rw [cin_t (show An.pure 26 = true from rfl) (by simp only [cans, can_int, can_bool, can_agg, can_str, drE.can_sl, intE.can_sl])]
    simp only [tinit, Nat.reduceAdd, c26]
    repeat' (first
    | with_reducible (first | refine Tx_assoc ?_ | refine Tx_nopK ?_ | refine Tx_noK rfl ?_)
    | (with_reducible (refine Tx_regK (fun K hK => ?_); (first | refine t26r0 ?_ | refine t26r1 ?_ | refine t26r3 ?_ | refine t26r4 ?_)); (try simp only [tget_cons, if_true, if_false, Nat.reduceEqDiff, Obt_some, Kn_normal, Obt_not, Option.map_some, Bool.not_true, lenS, if_false, if_true, hk52, clen_sl, hmk1]))
    | (revert hK; intro hK; (with_reducible refine hK _ ?_; clear hK K)))
    refine k53 hbl (by simp) rfl fun v0 L0 hV0 => ?_
    refine hK _ ?_
    clear hK K
    repeat' (first
    | with_reducible refine Tx_blockK (id := 0) (fun Q0 hn0 hx0 hr0 ho0 => ?_))
    refine Tx_loopK (fun k s => ∃ (lg : List Bool) (v : CV) (j : Nat) (L : List (Nat × HO)), Rnd l marks lg ∧ (j = 400 ∨ j = 1344) ∧ OwnE intC 1 ⟨L, HB lg⟩ j v (plN (szsD l lg) l.length) ∧ k = cf lg ∧
        s = ⟨[(0, sl drC l), (1, sl intC marks), (6, .ref (.g 0) 1 0 l.length), (7, v)], ⟨L, HB lg⟩⟩) _ ⟨_, v0, 400, L0, Rnd.start, .inl rfl, hV0, rfl, rfl⟩ ?_
    clear hV0
    rintro k s ⟨lg, v, j, L, hR, hj, hV, rfl, rfl⟩ QL1 hnL1 hxL1 hrL1
    have hRl := hR.len
    obtain ⟨sz, hsz⟩ : ∃ sz, sz = szsD l lg := ⟨_, rfl⟩
    have hs0 : sz.length = l.length := by rw [hsz, szsD_len hRl]
    have hb0 : ∀ s ∈ sz, 1 ≤ s ∧ s ≤ 3 := by rw [hsz]; exact szsD_bd
    have hnx := hR.next
    have hls := hR.last
    rw [← hsz] at hV hnx hls
    simp only [c26l1]
    repeat' (first
    | with_reducible (first | refine Tx_assoc ?_ | refine Tx_blockE (id := 1) (fun Q1 hn1 hx1 hr1 ho1 => ?_) | refine Tx_blockK (id := 2) (fun Q2 hn2 hx2 hr2 ho2 => ?_))
    | (with_reducible (refine Tx_regK (fun K hK => ?_); (first | refine t26r5 ?_ | refine t26r6 ?_)); (try simp only [tget_cons, if_true, if_false, Nat.reduceEqDiff, Kn_normal, if_false, if_true]))
    | (revert hK; intro hK; (with_reducible refine hK _ ?_; clear hK K)))
    refine Tx_loopK (fun k s => ∃ (dn td : List Dr) (ln lt : List Bool) (L : List (Nat × HO)), l = dn ++ td ∧ lg = ln ++ lt ∧ ln.length = dn.length ∧ k = td.length ∧ OwnE intC 1 ⟨L, []⟩ j v (plN sz l.length) ∧
        s = ⟨[(0, sl drC l), (1, sl intC marks), (6, .ref (.g 0) 1 0 l.length), (7, v), (8, .bool (decide (growD sz marks 0 dn ln ≠ ln))), (9, .int .i64 dn.length)], ⟨L, HB (growD sz marks 0 dn ln ++ lt)⟩⟩) _ ⟨[], l, [], lg, L, rfl, rfl, rfl, rfl, hV.keep rfl, rfl⟩ ?_
    clear hV
    rintro k s ⟨dn, td, ln, lt, L, h2, h3, h4, rfl, hV, rfl⟩ QL0 hnL0 hxL0 hrL0
    have hlen := congrArg List.length h2
    have hlen3 := congrArg List.length h3
    simp only [List.length_append] at hlen hlen3
    simp only [c26l0]
    have hGl : (growD sz marks 0 dn ln).length = dn.length := growD_len h4
    have hsn := fun (x : Dr) (b : Bool) => growD_snoc (sz := sz) (marks := marks) (x := x) (b := b) (i := 0) h4
    obtain ⟨G, hG⟩ : ∃ G, G = growD sz marks 0 dn ln := ⟨_, rfl⟩
    rw [← hG] at hGl hsn
    cases td with
    | cons x td =>
      simp only [List.length_cons] at hlen
      obtain ⟨b, lt, rfl⟩ : ∃ b lt', lt = b :: lt' := by
        cases lt with
        | nil => simp only [List.length_nil] at hlen3; omega
        | cons b lt' => exact ⟨b, lt', rfl⟩
      simp only [List.length_cons] at hlen3
      have hlt : (dn.length : Int) < l.length := by omega
      have hw : IntKind.i64.wrap ((dn.length : Int) + 1) = dn.length + 1 := wI (by omega) (by omega)
      have hix := idxS_split (k := .i64) drE.len (by omega : 0 < 9) h2
      have hgb : (G ++ b :: lt)[dn.length]? = some b := by rw [← hGl]; simp
      have hnew : ∀ (b' mo : Bool) L', growB sz marks dn.length x b = b' → mo = decide (G ++ [b'] ≠ ln ++ [b]) → OwnE intC 1 ⟨L', []⟩ j v (plN sz l.length) → QL0 .normal ⟨[(0, sl drC l), (1, sl intC marks), (6, .ref (.g 0) 1 0 l.length), (7, v), (8, .bool mo), (9, .int .i64 ((dn.length : Int) + 1))], ⟨L', HB (G ++ b' :: lt)⟩⟩ := fun b' mo L' hq hmo hV' => by
        have e : ((dn.length : Int) + 1) = ((dn ++ [x]).length : Int) := by simp
        have e2 := hsn x b
        rw [Nat.zero_add, hq] at e2
        have e3 : G ++ b' :: lt = growD sz marks 0 (dn ++ [x]) (ln ++ [b]) ++ lt := by rw [e2]; simp
        rw [e, e3, hmo, ← e2]
        exact hnL0 td.length _ (by simp) ⟨dn ++ [x], td, ln ++ [b], lt, L', by simp [h2], by simp [h3], by simp [h4], rfl, hV', rfl⟩
      have hx : x ∈ l := by rw [h2]; simp
      have hd := hM.drs x hx
      rw [← hG]
      obtain ⟨mo, hmo⟩ : ∃ mo, mo = decide (G ≠ ln) := ⟨_, rfl⟩
      have hnext : growB sz marks dn.length x b = b → QL0 .normal ⟨[(0, sl drC l), (1, sl intC marks), (6, .ref (.g 0) 1 0 l.length), (7, v), (8, .bool mo), (9, .int .i64 ((dn.length : Int) + 1))], ⟨L, HB (G ++ b :: lt)⟩⟩ := fun hq => hnew b _ L hq (hmo.trans more_same.symm) hV
      rw [← hmo]
      have hii := HR_ix (k := 0) (i := dn.length) (n := l.length) (by omega)
      have hldb := fun (L : List (Nat × HO)) => HB_ld (L := L) hgb
      by_cases g1 : x.mark = 0
      · have hq : growB sz marks dn.length x b = b := by unfold growB; simp [g1]
        repeat' (first
        | with_reducible (first | refine Tx_assoc ?_ | refine Tx_nopK ?_ | refine Tx_yesK rfl ?_ | refine Tx_exitK ?_ | refine Tx_blockK (id := 3) (fun Q3 hn3 hx3 hr3 ho3 => ?_) | refine hx3 _ ?_)
        | (with_reducible ((first | refine Tx_regK (fun K hK => ?_) | refine Tx_regE (fun K hK => ?_)); (first | refine t26r7 ?_ | refine t26r9 ?_ | refine t26r8 ?_)); (try simp only [true_implies, false_implies, not_true_eq_false, tget_cons, if_true, if_false, Nat.reduceEqDiff, Obt_some, Kn_normal, Nat.zero_add, fldA_rptr, List.drop_zero, ld1_r, Obt_lss, Obt_eql, Obt_neq, gdO_tf, gdO_ff, Option.map_some, pickX_t, pickX_f, lenS, Obt_map, Obt_add, Obt_ite', idxS_ref, List.drop_succ_cons, List.nil_append, List.cons_append, and_true, if_false, if_true, clen_sl, hlt, hix, drC, g1, hw]))
        | (revert hK; intro hK; (with_reducible refine hK _ ?_; clear hK K)))
        all_goals exact hnext hq
      by_cases g2 : x.ins.op = 20
      · cases b with
        | true =>
          have hq : growB sz marks dn.length x true = true := rfl
          repeat' (first
          | with_reducible (first | refine Tx_assoc ?_ | refine Tx_nopK ?_ | refine Tx_yesK rfl ?_ | refine Tx_exitK ?_ | refine Tx_blockK (id := 3) (fun Q3 hn3 hx3 hr3 ho3 => ?_) | refine hx3 _ ?_)
          | (with_reducible ((first | refine Tx_regK (fun K hK => ?_) | refine Tx_regE (fun K hK => ?_)); (first | refine t26r7 ?_ | refine t26r9 ?_ | refine t26r8 ?_)); (try simp only [true_implies, false_implies, not_true_eq_false, not_false_eq_true, tget_cons, if_true, if_false, Nat.reduceEqDiff, Obt_some, Kn_normal, fldA_rptr, List.drop_zero, ld1_r, Obt_lss, Obt_eql, Obt_neq, gdO_tf, gdO_ff, Option.map_some, pickX_t, pickX_f, lenS, Obt_map, Obt_add, List.drop_succ_cons, List.nil_append, List.cons_append, and_true, true_and, if_false, if_true, clen_sl, hlt, hix, drC, g1, g2, hw, hldb, hii]))
          | (revert hK; intro hK; (with_reducible refine hK _ ?_; clear hK K)))
          all_goals exact hnext hq
        | false =>
          have hpos : 0 < x.mark := by omega
          obtain ⟨w1, w2⟩ := way_bd (i := dn.length) hM hx hpos (by omega) hb0
          obtain ⟨m1, m2, m3⟩ := markAt_get hM hx hpos
          have hwm : IntKind.i64.wrap (x.mark - 1) = x.mark - 1 := wI (by omega) (by omega)
          have hixm := idxS_sl (k := .i64) intC_len (by omega : 0 < 1) (by omega : 0 ≤ x.mark - 1) m1
          have hg1 : (plN sz l.length)[(markAt marks x).toNat]? = some (sumN sz (markAt marks x).toNat) := plN_at (by omega)
          have hg2 : (plN sz l.length)[dn.length]? = some (sumN sz dn.length) := plN_at (by omega)
          obtain ⟨gv, rfl, hL, hi'⟩ := hV.get hg2
          have hi1 : idxS 1 (.ref (.l j) gv 0 (plN sz l.length).length) (.int .i64 (markAt marks x)) = some (.ptr (.l j) gv (markAt marks x).toNat) := by
            rw [idxS_ref, if_pos ⟨by omega, by rw [plN_len]; omega⟩]; simp
          have hi2 : idxS 1 (.ref (.l j) gv 0 (plN sz l.length).length) (.int .i64 dn.length) = some (.ptr (.l j) gv dn.length) := by
            rw [idxS_ref, if_pos ⟨by omega, by rw [plN_len]; omega⟩]; simp
          have hl1 : rd1 gv (markAt marks x).toNat (lget L j) = some (.int .i64 (sumN sz (markAt marks x).toNat)) := by
            simp only [hL, rd1_arr, if_true, flat_int, hg1, Option.map_some]
          have hl2 : rd1 gv dn.length (lget L j) = some (.int .i64 (sumN sz dn.length)) := by
            simp only [hL, rd1_arr, if_true, flat_int, hg2, Option.map_some]
          have hwd : sumN sz (markAt marks x).toNat - sumN sz dn.length = wayD sz marks dn.length x := rfl
          obtain ⟨w, hwy⟩ : ∃ w, w = wayD sz marks dn.length x := ⟨_, rfl⟩
          rw [← hwy] at hwd w1 w2
          have hw1 : IntKind.i64.wrap w = w := wI (by omega) (by omega)
          have hw2 : IntKind.i64.wrap (w - 1) = w - 1 := wI (by omega) (by omega)
          have hgr : growB sz marks dn.length x false = farB (w - 1) := by
            unfold growB; rw [← hwy]; simp [g1, g2]
          have hst := fun (L : List (Nat × HO)) => HB_st (lg := G ++ false :: lt) (L := L) (i := dn.length) (b := true) (by simp [hGl])
          have hset : (G ++ false :: lt).set dn.length true = G ++ true :: lt := by rw [← hGl]; simp
          rw [hset] at hst
          have hfar : (w - 1 < -1024 ∨ 1024 ≤ w - 1) → QL0 .normal ⟨[(0, sl drC l), (1, sl intC marks), (6, .ref (.g 0) 1 0 l.length), (7, .ref (.l j) gv 0 (plN sz l.length).length), (8, .bool true), (9, .int .i64 ((dn.length : Int) + 1))], ⟨L, HB (G ++ true :: lt)⟩⟩ := fun hf =>
            hnew true true L (by rw [hgr]; simp only [farB, Bool.or_eq_true, decide_eq_true_eq]; exact hf) more_new.symm hV
          by_cases n1 : w - 1 < -1024
          · repeat' (first
            | with_reducible (first | refine Tx_assoc ?_ | refine Tx_nopK ?_ | refine Tx_yesK rfl ?_ | refine Tx_noK rfl ?_ | refine Tx_yes rfl ?_ | refine Tx_blockK (id := 3) (fun Q3 hn3 hx3 hr3 ho3 => ?_) | refine hn3 _ ?_)
            | (with_reducible ((first | refine Tx_regK (fun K hK => ?_) | refine Tx_regE (fun K hK => ?_)); (first | refine t26r7 ?_ | refine t26r9 ?_ | refine t26r10 ?_ | refine t26r11 ?_ | refine t26r12 ?_ | refine t26r13 ?_ | refine t26r8 ?_)); (try simp only [true_implies, false_implies, not_true_eq_false, not_false_eq_true, tget_cons, if_true, if_false, Nat.reduceEqDiff, Obt_some, Kn_normal, fldA_rptr, List.drop_zero, ld1_l, ld1_r, Obt_lss, Obt_gtr, Obt_eql, Obt_neq, gdO_tf, gdO_ff, Option.map_some, pickX_t, pickX_f, lenS, Obt_map, Obt_add, Obt_sub, List.drop_succ_cons, List.nil_append, List.cons_append, and_true, true_and, if_false, if_true, clen_sl, hlt, hix, drC, g1, g2, hw, hldb, hii, hwm, hixm, intC, hi1, hi2, hl1, hl2, hwd, hw1, hw2, n1, gt_iff_lt, hst]))
            | (revert hK; intro hK; (with_reducible refine hK _ ?_; clear hK K)))
            all_goals exact hfar (.inl n1)
          · by_cases n2 : (1023 : Int) < w - 1
            · repeat' (first
              | with_reducible (first | refine Tx_assoc ?_ | refine Tx_nopK ?_ | refine Tx_yesK rfl ?_ | refine Tx_noK rfl ?_ | refine Tx_yes rfl ?_ | refine Tx_blockK (id := 3) (fun Q3 hn3 hx3 hr3 ho3 => ?_) | refine hn3 _ ?_)
              | (with_reducible ((first | refine Tx_regK (fun K hK => ?_) | refine Tx_regE (fun K hK => ?_)); (first | refine t26r7 ?_ | refine t26r9 ?_ | refine t26r10 ?_ | refine t26r11 ?_ | refine t26r12 ?_ | refine t26r13 ?_ | refine t26r8 ?_)); (try simp only [true_implies, false_implies, not_true_eq_false, not_false_eq_true, tget_cons, if_true, if_false, Nat.reduceEqDiff, Obt_some, Kn_normal, fldA_rptr, List.drop_zero, ld1_l, ld1_r, Obt_lss, Obt_gtr, Obt_eql, Obt_neq, gdO_tf, gdO_ff, Option.map_some, pickX_t, pickX_f, lenS, Obt_map, Obt_add, Obt_sub, List.drop_succ_cons, List.nil_append, List.cons_append, and_true, true_and, if_false, if_true, clen_sl, hlt, hix, drC, g1, g2, hw, hldb, hii, hwm, hixm, intC, hi1, hi2, hl1, hl2, hwd, hw1, hw2, n1, n2, gt_iff_lt, hst]))
              | (revert hK; intro hK; (with_reducible refine hK _ ?_; clear hK K)))
              all_goals exact hfar (.inr (by omega))
            · have n3 : ¬ (1024 ≤ w - 1) := by omega
              have hq : growB sz marks dn.length x false = false := by rw [hgr]; simp [farB, n1, n3]
              repeat' (first
              | with_reducible (first | refine Tx_assoc ?_ | refine Tx_nopK ?_ | refine Tx_yesK rfl ?_ | refine Tx_noK rfl ?_ | refine Tx_no rfl ?_ | refine Tx_nop ?_ | refine Tx_blockK (id := 3) (fun Q3 hn3 hx3 hr3 ho3 => ?_) | refine hn3 _ ?_)
              | (with_reducible ((first | refine Tx_regK (fun K hK => ?_) | refine Tx_regE (fun K hK => ?_)); (first | refine t26r7 ?_ | refine t26r9 ?_ | refine t26r10 ?_ | refine t26r11 ?_ | refine t26r8 ?_)); (try simp only [true_implies, false_implies, not_true_eq_false, not_false_eq_true, tget_cons, if_true, if_false, Nat.reduceEqDiff, Obt_some, Kn_normal, fldA_rptr, List.drop_zero, ld1_l, ld1_r, Obt_lss, Obt_gtr, Obt_eql, Obt_neq, gdO_tf, gdO_ff, Option.map_some, pickX_t, pickX_f, lenS, Obt_map, Obt_add, Obt_sub, List.drop_succ_cons, List.nil_append, List.cons_append, and_true, true_and, if_false, if_true, clen_sl, hlt, hix, drC, g1, g2, hw, hldb, hii, hwm, hixm, intC, hi1, hi2, hl1, hl2, hwd, hw1, hw2, n1, n2, gt_iff_lt, hst]))
              | (revert hK; intro hK; (with_reducible refine hK _ ?_; clear hK K)))
              all_goals exact hnext hq
      · have hq : growB sz marks dn.length x b = b := by unfold growB; simp [g2]
        repeat' (first
        | with_reducible (first | refine Tx_assoc ?_ | refine Tx_nopK ?_ | refine Tx_yesK rfl ?_ | refine Tx_exitK ?_ | refine Tx_blockK (id := 3) (fun Q3 hn3 hx3 hr3 ho3 => ?_) | refine hx3 _ ?_)
        | (with_reducible ((first | refine Tx_regK (fun K hK => ?_) | refine Tx_regE (fun K hK => ?_)); (first | refine t26r7 ?_ | refine t26r9 ?_ | refine t26r8 ?_)); (try simp only [true_implies, false_implies, not_true_eq_false, not_false_eq_true, tget_cons, if_true, if_false, Nat.reduceEqDiff, Obt_some, Kn_normal, Nat.zero_add, fldA_rptr, List.drop_zero, ld1_r, Obt_lss, Obt_eql, Obt_neq, gdO_tf, gdO_ff, Option.map_some, pickX_t, pickX_f, lenS, Obt_map, Obt_add, Obt_ite', idxS_ref, List.drop_succ_cons, List.nil_append, List.cons_append, and_true, true_and, if_false, if_true, clen_sl, hlt, hix, drC, g1, g2, hw]))
        | (revert hK; intro hK; (with_reducible refine hK _ ?_; clear hK K)))
        all_goals exact hnext hq
    | nil =>
      simp only [List.length_nil] at hlen
      rw [List.append_nil] at h2
      have hlt0 : lt = [] := List.eq_nil_of_length_eq_zero (by omega)
      subst hlt0
      rw [List.append_nil] at h3
      subst h2 h3
      have hge : ¬ ((l.length : Int) < l.length) := by omega
      rw [← hG, List.append_nil]
      rw [← hG] at hnx hls
      by_cases hg : G = lg
      · have hd0 : decide (G ≠ lg) = false := decide_eq_false (fun h => h hg)
        rw [hd0]
        have hfin := hls hg
        subst hg
        repeat' (first
        | with_reducible (first | refine Tx_assoc ?_ | refine Tx_yesK rfl ?_ | refine Tx_noK rfl ?_ | refine Tx_exitK ?_ | refine hx0 _ ?_ | refine ho1 _ _ (by decide) ?_ | refine hx2 _ ?_ | refine Tx_blockK (id := 4) (fun Q4 hn4 hx4 hr4 ho4 => ?_) | refine hxL0 _ _ ?_ | refine hxL1 _ _ ?_)
        | (with_reducible (refine Tx_regK (fun K hK => ?_); (first | refine t26r7 ?_ | refine t26r14 ?_ | refine t26r16 ?_ | refine t26r17 ?_)); (try simp only [true_implies, false_implies, not_false_eq_true, tget_cons, if_true, if_false, Nat.reduceEqDiff, Obt_some, Kn_normal, Obt_lss, Obt_not, Option.map_some, Bool.not_false, lenS, true_and, if_false, if_true, hge, clen_sl]))
        | (revert hK; intro hK; (with_reducible refine hK _ ?_; clear hK K)))
        refine Tx_loopK (fun k s => ∃ (dn td : List Dr) (ln lt : List Bool) (o : CV) (L : List (Nat × HO)), l = dn ++ td ∧ G = ln ++ lt ∧ ln.length = dn.length ∧ k = td.length ∧ OwnE intC 1 ⟨L, []⟩ j v (plN sz l.length) ∧ OwnS ⟨L, []⟩ o (outsL sz marks 0 dn ln) ∧
            s = ⟨[(0, sl drC l), (1, sl intC marks), (6, .ref (.g 0) 1 0 l.length), (7, v), (11, o), (12, .int .i64 dn.length)], ⟨L, HB G⟩⟩) _ ⟨[], l, [], G, .nil, L, rfl, rfl, rfl, rfl, hV, ⟨1680, .inl rfl, .inl ⟨rfl, rfl⟩⟩, rfl⟩ ?_
        clear hV
        rintro k s ⟨dn, td, ln, lt, o, L, h2, h3, h4, rfl, hV, hO, rfl⟩ QL2 hnL2 hxL2 hrL2
        have hlen := congrArg List.length h2
        have hlen3 := congrArg List.length h3
        simp only [List.length_append] at hlen hlen3
        simp only [c26l2]
        cases td with
        | nil =>
          simp only [List.length_nil] at hlen
          rw [List.append_nil] at h2
          have hlt0 : lt = [] := List.eq_nil_of_length_eq_zero (by omega)
          subst hlt0
          rw [List.append_nil] at h3
          have hge2 : ¬ ((dn.length : Int) < l.length) := by omega
          obtain ⟨os, hos⟩ : ∃ os, os = outsL sz marks 0 l G := ⟨_, rfl⟩
          rw [← h2, ← h3, ← hos] at hO
          have hol : os.length ≤ 300000 := by
            have := outsL_len (sz := sz) (marks := marks) (l := l) (lg := G) (i := 0)
            rw [hos]; omega
          have hrl : rlxR l marks = if os.all chk48 = true then (os, 0) else ([], 250) := by unfold rlxR rlxO; rw [hmay, if_pos rfl, ← hfin, ← hsz, ← hos]
          repeat' (first
          | with_reducible (first | refine Tx_assoc ?_ | refine Tx_noK rfl ?_ | refine Tx_exitK ?_ | refine hx4 _ ?_ | refine Tx_blockK (id := 6) (fun Q6 hn6 hx6 hr6 ho6 => ?_) | refine hxL2 _ _ ?_)
          | (with_reducible (refine Tx_regK (fun K hK => ?_); (first | refine t26r18 ?_ | refine t26r28 ?_)); (try simp only [true_implies, false_implies, not_false_eq_true, tget_cons, if_true, if_false, Nat.reduceEqDiff, Obt_some, Kn_normal, Obt_lss, Option.map_some, lenS, true_and, if_false, if_true, hge2, clen_sl]))
          | (revert hK; intro hK; (with_reducible refine hK _ ?_; clear hK K)))
          refine Tx_loopK (fun k s => ∃ (dn td : List Rc) (L : List (Nat × HO)), os = dn ++ td ∧ k = td.length ∧ dn.all chk48 = true ∧ OwnS ⟨L, []⟩ o os ∧
              s = ⟨[(11, o), (15, .int .i64 dn.length)], ⟨L, HB G⟩⟩) _ ⟨[], os, L, rfl, rfl, rfl, hO, rfl⟩ ?_
          clear hO
          rintro k s ⟨dn, td, L4, h4, rfl, hall, hO4, rfl⟩ QL3 hnL3 hxL3 hrL3
          have hlen4 := congrArg List.length h4
          simp only [List.length_append] at hlen4
          simp only [c26l3]
          cases td with
          | nil =>
            simp only [List.length_nil] at hlen4
            rw [List.append_nil] at h4
            have hge4 : ¬ ((dn.length : Int) < os.length) := by omega
            rw [← h4] at hall
            rw [hall, if_pos rfl] at hrl
            repeat' (first
            | with_reducible (first | refine Tx_assoc ?_ | refine Tx_noK rfl ?_ | refine Tx_exitK ?_ | refine Tx_ret ?_ | refine hx6 _ ?_ | refine hxL3 _ _ ?_)
            | (with_reducible (first | (refine Tx_regK (fun K hK => ?_); (first | refine t26r29 ?_ | refine t26r33 ?_)) | refine hqr _ ?_); (try simp only [true_implies, false_implies, not_false_eq_true, tget_cons, if_true, if_false, Nat.reduceEqDiff, Obt_some, Kn_normal, Obt_lss, Option.map_some, lenS, Obt_map, Obt_bind, true_and, if_false, if_true, r26, tend, tresAll, tresC, Option.bind_some, mapMem, retv_int, tup_two, Prod.mk.injEq, hge4, hrl, hO4.len]))
            | (revert hK; intro hK; (with_reducible refine hK _ ?_; clear hK K)))
            obtain ⟨j0, _, hO4⟩ := hO4
            have hO5 : OwnE rcC 8 ⟨L4, HB G⟩ j0 o os := hO4.keep rfl
            refine hO5.ret rcE.len fun m' hm' => ⟨_, rfl, rfl⟩
          | cons r td =>
            simp only [List.length_cons] at hlen4
            have hlt : (dn.length : Int) < os.length := by omega
            have hw : IntKind.i64.wrap ((dn.length : Int) + 1) = dn.length + 1 := wI (by omega) (by omega)
            have hget : os[dn.length]? = some r := by rw [h4]; simp
            have hk := fun (t : Tmp) (m : Mem) => k25 r (fid := 26) (t := t) (m := m)
            obtain ⟨j0, hj0, hO4⟩ := hO4
            obtain ⟨g, rfl, hL, hi'⟩ := hO4.get hget
            have hidx : idxS 8 (.ref (.l j0) g 0 os.length) (.int .i64 dn.length) = some (.ptr (.l j0) g (dn.length * 8)) := by
              rw [idxS_ref, if_pos ⟨by omega, by omega⟩]; simp
            obtain ⟨q1, q2⟩ := flat_at (e := rcC) (sz := 8) rcE.len hget
            have hld : rdA g (dn.length * 8) 8 (lget L4 j0) = some (.agg (rcC r)) := by
              simp only [hL, rdA_arr]; rw [if_pos q2, q1]
            cases hc : chk48 r with
            | false =>
              rw [hc] at hk
              have hf : rlxR l marks = ([], 250) := by
                rw [hrl, if_neg]
                rw [h4, List.all_append, List.all_cons, hc]; simp
              repeat' (first
              | with_reducible (first | refine Tx_assoc ?_ | refine Tx_nopK ?_ | refine Tx_yesK rfl ?_ | refine Tx_yes rfl ?_ | refine Tx_ret ?_ | refine hr6 _ ?_ | refine Tx_blockK (id := 7) (fun Q7 hn7 hx7 hr7 ho7 => ?_) | refine hr7 _ ?_ | refine hrL3 _ ?_)
              | (with_reducible (first | (refine Tx_regK (fun K hK => ?_); (first | refine t26r29 ?_ | refine t26r31 ?_ | refine t26r32 ?_)) | refine hqr _ ?_); (try simp only [true_implies, false_implies, not_true_eq_false, tget_cons, if_true, if_false, Nat.reduceEqDiff, Obt_some, Kn_normal, ldA_l, Obt_lss, Obt_not, Option.map_some, Bool.not_false, lenS, clen_r, and_true, if_false, if_true, r26, tend, tresAll, tresC, Option.bind_some, mapMem, retv_int, retv_nil, tup_two, Prod.mk.injEq, clen_r, hlt, hidx, hld, hk, hf]))
              | (revert hK; intro hK; (with_reducible refine hK _ ?_; clear hK K)))
              all_goals exact ⟨_, rfl, rfl⟩
            | true =>
              rw [hc] at hk
              repeat' (first
              | with_reducible (first | refine Tx_assoc ?_ | refine Tx_nopK ?_ | refine Tx_yesK rfl ?_ | refine Tx_no rfl ?_ | refine Tx_nop ?_ | refine Tx_blockK (id := 7) (fun Q7 hn7 hx7 hr7 ho7 => ?_) | refine hn7 _ ?_)
              | (with_reducible ((first | refine Tx_regK (fun K hK => ?_) | refine Tx_regE (fun K hK => ?_)); (first | refine t26r29 ?_ | refine t26r31 ?_ | refine t26r30 ?_)); (try simp only [true_implies, false_implies, not_true_eq_false, tget_cons, if_true, if_false, Nat.reduceEqDiff, Obt_some, Kn_normal, ldA_l, Obt_lss, Obt_not, Option.map_some, Bool.not_true, lenS, Obt_add, clen_r, and_true, if_false, if_true, clen_r, hlt, hidx, hld, hk, hw]))
              | (revert hK; intro hK; (with_reducible refine hK _ ?_; clear hK K)))
              have e : ((dn.length : Int) + 1) = ((dn ++ [r]).length : Int) := by simp
              rw [e]
              exact hnL3 td.length _ (by simp) ⟨dn ++ [r], td, _, by simp [h4], rfl, by rw [List.all_append, hall]; simp [hc], ⟨j0, hj0, hO4⟩, rfl⟩
        | cons x td =>
          simp only [List.length_cons] at hlen
          obtain ⟨b, lt, rfl⟩ : ∃ b lt', lt = b :: lt' := by
            cases lt with
            | nil => simp only [List.length_nil] at hlen3; omega
            | cons b lt' => exact ⟨b, lt', rfl⟩
          have hgb : G[dn.length]? = some b := by rw [h3, ← h4]; simp
          have hlt : (dn.length : Int) < l.length := by omega
          have hw : IntKind.i64.wrap ((dn.length : Int) + 1) = dn.length + 1 := wI (by omega) (by omega)
          have hb1 := outsL_len (sz := sz) (marks := marks) (l := dn) (lg := ln) (i := 0)
          have hb2 := expD_len (sz := sz) (marks := marks) (i := dn.length) (x := x) (b := b)
          have hsn2 := outsL_snoc (sz := sz) (marks := marks) (x := x) (b := b) (i := 0) h4
          rw [Nat.zero_add] at hsn2
          have hix := idxS_split (k := .i64) drE.len (by omega : 0 < 9) h2
          have hx : x ∈ l := by rw [h2]; simp
          have hd := hM.drs x hx
          have hii := HR_ix (k := 0) (i := dn.length) (n := l.length) (by omega)
          have hldb := fun (L : List (Nat × HO)) => HB_ld (L := L) hgb
          have hnext : ∀ o' L', OwnE intC 1 ⟨L', []⟩ j v (plN sz l.length) → OwnS ⟨L', []⟩ o' (outsL sz marks 0 dn ln ++ expD sz marks dn.length x b) → QL2 .normal ⟨[(0, sl drC l), (1, sl intC marks), (6, .ref (.g 0) 1 0 l.length), (7, v), (11, o'), (12, .int .i64 ((dn.length : Int) + 1))], ⟨L', HB G⟩⟩ := fun o' L' hV' hO' => by
            have e : ((dn.length : Int) + 1) = ((dn ++ [x]).length : Int) := by simp
            rw [e]
            rw [← hsn2] at hO'
            exact hnL2 td.length _ (by simp) ⟨dn ++ [x], td, ln ++ [b], lt, o', L', by simp [h2], by simp [h3], by simp [h4], rfl, hV', hO', rfl⟩
          have hjn : ¬ (j = 1680 ∨ j = 2144 ∨ j = 2256) := by omega
          have h208 : ¬ (208 = j) := by omega
          have h1664 : ¬ (1664 = j) := by omega
          have h2240 : ¬ (2240 = j) := by omega
          by_cases g1 : x.mark = 0
          · have hex : expD sz marks dn.length x b = [x.ins] := by unfold expD; rw [if_pos g1]
            rw [hex] at hnext
            repeat' (first
            | with_reducible (first | refine Tx_assoc ?_ | refine Tx_nopK ?_ | refine Tx_yesK rfl ?_ | refine Tx_blockK (id := 5) (fun Q5 hn5 hx5 hr5 ho5 => ?_))
            | (with_reducible (refine Tx_regK (fun K hK => ?_); (first | refine t26r18 ?_ | refine t26r20 ?_ | refine t26r21 ?_ | refine t26r22 ?_)); (try simp only [true_implies, false_implies, not_true_eq_false, tget_cons, if_true, if_false, Nat.reduceEqDiff, ccells, Obt_some, Kn_normal, newL_eq, newP_eq, gn_var, lget_lset, gnext_lset, Nat.reduceAdd, Nat.zero_add, fldA_rptr, List.drop_zero, ld1_r, ldA_l, Obt_lss, Obt_eql, Option.map_some, lenS, stX_l, stV_var, splice, List.take_zero, List.take_succ_cons, List.drop_succ_cons, List.drop_nil, List.nil_append, List.cons_append, List.append_nil, List.length_cons, List.length_nil, and_self, and_true, Nat.le_refl, rdA_var, if_false, if_true, clen_sl, hlt, hix, drC, ldA_r8, ldA_l, hsetL, bsl_rc, g1]))
            | (revert hK; intro hK; (with_reducible refine hK _ ?_; clear hK K)))
            refine OwnS.app (l := outsL sz marks 0 dn ln) (ys := [x.ins]) (hO.keep fun i hi => by rcases hi with rfl | rfl | rfl <;> simp [lget_lset]) (.inl rfl) (by simp only [content_l, lget_lset, if_true, conR_arr]; rfl) rfl (by decide) (by simp only [List.length_singleton]; omega) fun v' m' r1 r2 r3 => ?_
            refine hK _ ?_
            clear hK K
            obtain ⟨L', H'⟩ := m'
            simp only at r2
            subst r2
            repeat' (first
            | with_reducible (first | refine Tx_exitK ?_ | refine hx5 _ ?_)
            | (with_reducible (refine Tx_regE (fun K hK => ?_); refine t26r19 ?_); (try simp only [tget_cons, if_true, if_false, Nat.reduceEqDiff, Kn_normal, Obt_add, if_false, if_true, hw]))
            | (revert hK; intro hK; (with_reducible refine hK _ ?_; clear hK K)))
            refine hnext v' L' (hV.keep ((r3 j hjn).trans ?_)) r1
            simp [lget_lset, h208, h1664]
          · have hpos : 0 < x.mark := by omega
            obtain ⟨w1, w2⟩ := way_bd (i := dn.length) hM hx hpos (by omega) hb0
            obtain ⟨m1, m2, m3⟩ := markAt_get hM hx hpos
            have hwm : IntKind.i64.wrap (x.mark - 1) = x.mark - 1 := wI (by omega) (by omega)
            have hixm := idxS_sl (k := .i64) intC_len (by omega : 0 < 1) (by omega : 0 ≤ x.mark - 1) m1
            have hg1 : (plN sz l.length)[(markAt marks x).toNat]? = some (sumN sz (markAt marks x).toNat) := plN_at (by omega)
            have hg2 : (plN sz l.length)[dn.length]? = some (sumN sz dn.length) := plN_at (by omega)
            obtain ⟨gv, rfl, hL, hi'⟩ := hV.get hg2
            have hi1 : idxS 1 (.ref (.l j) gv 0 (plN sz l.length).length) (.int .i64 (markAt marks x)) = some (.ptr (.l j) gv (markAt marks x).toNat) := by
              rw [idxS_ref, if_pos ⟨by omega, by rw [plN_len]; omega⟩]; simp
            have hi2 : idxS 1 (.ref (.l j) gv 0 (plN sz l.length).length) (.int .i64 dn.length) = some (.ptr (.l j) gv dn.length) := by
              rw [idxS_ref, if_pos ⟨by omega, by rw [plN_len]; omega⟩]; simp
            have hl1 : rd1 gv (markAt marks x).toNat (lget L j) = some (.int .i64 (sumN sz (markAt marks x).toNat)) := by
              simp only [hL, rd1_arr, if_true, flat_int, hg1, Option.map_some]
            have hl2 : rd1 gv dn.length (lget L j) = some (.int .i64 (sumN sz dn.length)) := by
              simp only [hL, rd1_arr, if_true, flat_int, hg2, Option.map_some]
            have hwd : sumN sz (markAt marks x).toNat - sumN sz dn.length = wayD sz marks dn.length x := rfl
            have hex : expD sz marks dn.length x b = if b = true then (if 0 ≤ opp x.ins.fn then [{ x.ins with fn := opp x.ins.fn, imm := 1 }, jmp (wayD sz marks dn.length x - 2)] else [{ x.ins with imm := 1 }, jmp 1, jmp (wayD sz marks dn.length x - 3)]) else [{ x.ins with imm := wayD sz marks dn.length x - 1 }] := by unfold expD; rw [if_neg g1]
            obtain ⟨w, hwy⟩ : ∃ w, w = wayD sz marks dn.length x := ⟨_, rfl⟩
            rw [← hwy] at hwd w1 w2 hex
            have hw1 : IntKind.i64.wrap w = w := wI (by omega) (by omega)
            have hw2 : IntKind.i64.wrap (w - 1) = w - 1 := wI (by omega) (by omega)
            cases b with
            | false =>
              rw [if_neg (by simp)] at hex
              rw [hex] at hnext
              repeat' (first
              | with_reducible (first | refine Tx_assoc ?_ | refine Tx_nopK ?_ | refine Tx_yesK rfl ?_ | refine Tx_noK rfl ?_ | refine Tx_blockK (id := 5) (fun Q5 hn5 hx5 hr5 ho5 => ?_))
              | (with_reducible ((first | refine Tx_regK (fun K hK => ?_) | refine Tx_regE (fun K hK => ?_)); (first | refine t26r18 ?_ | refine t26r20 ?_ | refine t26r21 ?_ | refine t26r23 ?_ | refine t26r24 ?_ | refine t26r26 ?_ | refine t26r27 ?_)); (try simp only [true_implies, false_implies, not_true_eq_false, not_false_eq_true, tget_cons, if_true, if_false, Nat.reduceEqDiff, ccells, Obt_some, Kn_normal, newL_eq, newP_eq, gn_var, lget_lset, gnext_lset, Nat.reduceAdd, Nat.zero_add, fldA_ptr, fldA_rptr, List.drop_zero, ld1_l, ld1_r, ldA_l, Obt_lss, Obt_eql, Option.map_some, lenS, Obt_sub, stX_l, stV_var, splice, List.take_zero, List.take_succ_cons, List.drop_succ_cons, List.drop_nil, List.nil_append, List.cons_append, List.append_nil, List.length_cons, List.length_nil, and_self, and_true, true_and, Nat.le_refl, Nat.zero_le, rdA_var, if_false, if_true, clen_sl, hlt, hix, drC, ldA_r8, ldA_l, hsetL, bsl_rc, g1, hwm, hixm, intC, hi1, hi2, hl1, hl2, hwd, hw1, hw2, h208, hldb, hii]))
              | (revert hK; intro hK; (with_reducible refine hK _ ?_; clear hK K)))
              refine OwnS.app (l := outsL sz marks 0 dn ln) (ys := [{ x.ins with imm := w - 1 }]) (hO.keep fun i hi => by rcases hi with rfl | rfl | rfl <;> simp [lget_lset]) (.inr (.inr rfl)) (by simp only [content_l, lget_lset, if_true, conR_arr]; rfl) rfl (by decide) (by simp only [List.length_singleton]; omega) fun v' m' r1 r2 r3 => ?_
              refine hK _ ?_
              clear hK K
              obtain ⟨L', H'⟩ := m'
              simp only at r2
              subst r2
              repeat' (first
              | with_reducible refine hn5 _ ?_
              | (with_reducible (refine Tx_regE (fun K hK => ?_); refine t26r19 ?_); (try simp only [tget_cons, if_true, if_false, Nat.reduceEqDiff, Kn_normal, Obt_add, if_false, if_true, hw]))
              | (revert hK; intro hK; (with_reducible refine hK _ ?_; clear hK K)))
              refine hnext v' L' (hV.keep ((r3 j hjn).trans ?_)) r1
              simp [lget_lset, h208, h2240]
            | true =>
              rw [if_pos rfl] at hex
              obtain ⟨ys, hys⟩ : ∃ ys, ys = expD sz marks dn.length x true := ⟨_, rfl⟩
              rw [← hys] at hnext hb2 hex
              repeat' (first
              | with_reducible (first | refine Tx_assoc ?_ | refine Tx_nopK ?_ | refine Tx_yesK rfl ?_ | refine Tx_noK rfl ?_ | refine Tx_blockK (id := 5) (fun Q5 hn5 hx5 hr5 ho5 => ?_))
              | (with_reducible (refine Tx_regK (fun K hK => ?_); (first | refine t26r18 ?_ | refine t26r20 ?_ | refine t26r21 ?_ | refine t26r23 ?_ | refine t26r24 ?_ | refine t26r25 ?_)); (try simp only [true_implies, false_implies, not_true_eq_false, not_false_eq_true, tget_cons, if_true, if_false, Nat.reduceEqDiff, ccells, Obt_some, Kn_normal, newL_eq, newP_eq, lget_lset, Nat.reduceAdd, Nat.zero_add, fldA_rptr, List.drop_zero, ld1_l, ld1_r, Obt_lss, Obt_eql, Option.map_some, lenS, Obt_sub, stX_l, stV_var, splice, List.take_zero, List.drop_succ_cons, List.drop_nil, List.nil_append, List.cons_append, List.append_nil, List.length_cons, List.length_nil, and_self, and_true, true_and, Nat.le_refl, if_false, if_true, clen_sl, hlt, hix, drC, ldA_r8, ldA_r9, ldA_l, hsetL, bsl_rc, g1, hwm, hixm, intC, hi1, hi2, hl1, hl2, hwd, hw1, hw2, h208, hldb, hii]))
              | (revert hK; intro hK; (with_reducible refine hK _ ?_; clear hK K)))
              refine k54 x w (by omega) rfl fun v1 m1 e2 e3 e4 => ?_
              rw [← hex] at e2
              refine OwnS.app (l := outsL sz marks 0 dn ln) (ys := ys) (hO.keep fun i hi => (e4 i (by rcases hi with rfl | rfl | rfl <;> decide)).trans (by rcases hi with rfl | rfl | rfl <;> simp [lget_lset])) (.inr (.inl rfl)) (e2.content rcE.len) e2.len (by decide) (by omega) fun v' m' r1 r2 r3 => ?_
              refine hK _ ?_
              clear hK K
              obtain ⟨L', H'⟩ := m'
              simp only at r2
              rw [e3] at r2
              simp only at r2
              subst r2
              repeat' (first
              | with_reducible (first | refine Tx_exitK ?_ | refine hx5 _ ?_)
              | (with_reducible (refine Tx_regE (fun K hK => ?_); refine t26r19 ?_); (try simp only [tget_cons, if_true, if_false, Nat.reduceEqDiff, Kn_normal, Obt_add, if_false, if_true, hw]))
              | (revert hK; intro hK; (with_reducible refine hK _ ?_; clear hK K)))
              refine hnext v' L' (hV.keep ((r3 j hjn).trans ((e4 j (by rcases hj with rfl | rfl <;> decide)).trans ?_))) r1
              simp [lget_lset, h208]
      · have hd1 : decide (G ≠ lg) = true := decide_eq_true hg
        rw [hd1]
        obtain ⟨hR2, hcf⟩ := hnx hg
        repeat' (first
        | with_reducible (first | refine Tx_assoc ?_ | refine Tx_nopK ?_ | refine Tx_noK rfl ?_ | refine Tx_exitK ?_ | refine hx2 _ ?_ | refine hxL0 _ _ ?_)
        | (with_reducible ((first | refine Tx_regK (fun K hK => ?_) | refine Tx_regE (fun K hK => ?_)); (first | refine t26r7 ?_ | refine t26r14 ?_ | refine t26r15 ?_)); (try simp only [true_implies, false_implies, not_false_eq_true, tget_cons, if_true, if_false, Nat.reduceEqDiff, Obt_some, Kn_normal, Obt_lss, Obt_not, Option.map_some, Bool.not_true, lenS, true_and, if_false, if_true, hge, clen_sl]))
        | (revert hK; intro hK; (with_reducible refine hK _ ?_; clear hK K)))
        refine k53 hbl hR2.len rfl fun v2 L2 hV2 => ?_
        refine hK _ ?_
        clear hK K
        repeat' (first
        | with_reducible refine hn1 _ ?_)
        exact hnL1 (cf G) _ hcf ⟨G, v2, 1344, L2, hR2, .inr rfl, hV2, rfl, rfl⟩
end Go.Cm
