import Derived.Test.YtlflghggdpbcnaaGreatGwU
import Derived.Test.YtlflghggdpbcnaaGreatGzE
import Derived.Test.YtlflghggdpbcnaaGreatGwQ
set_option linter.unusedSimpArgs false
set_option linter.unusedVariables false
namespace Go.Cm
open Go.Proofs Go.Pk
theorem k44 (l : List Dr) (marks : List Int) (hm : marks.length ≤ 9223372036854775807) (hl : l.length ≤ 9223372036854775807) {fid : FuncId} {t : Tmp} {m : Mem} : callC An FF fid (some t) 44 [sl drC l, sl intC marks] m = some (.bool (mayD l marks), m) :=
  callC_V (x44 l marks hm hl) (fun _ _ _ => rfl) rfl (by simp only [cans, drE.can_sl, intE.can_sl]) rfl (by simp only [noGs, drE.noG_sl, intE.noG_sl, Bool.and_self]) rfl
theorem box_R {l : List Dr} {marks sz ats : List Int} {L : List (Nat × HO)} : boxG (.agg [sl drC l, sl intC marks, .ref (.g 0) 1 0 l.length, .ref (.g 1) 1 0 (l.length + 1)]) ⟨L, [.arr 1 1 (sz.flatMap intC) 0, .arr 1 1 (ats.flatMap intC) 0]⟩ = some (.ptr (.g 2) 1 0, ⟨L, HR l marks sz ats⟩) := rfl
end Go.Cm

namespace Go.Cm
open Go.Proofs Go.Pk
theorem szs_ones : ∀ {l : List Dr} {sz : List Int}, sz.length = l.length → (∀ j, j < l.length → sz[j]? = some 1) → sz = szsD l (List.replicate l.length false)
  | [], [], _, _ => rfl
  | [], _ :: _, h, _ => by simp at h
  | _ :: _, [], h, _ => by simp at h
  | x :: l, s :: sz, h, h2 => by
    have h0 := h2 0 (by simp)
    simp only [List.getElem?_cons_zero, Option.some.injEq] at h0
    subst h0
    simp only [List.length_cons, List.replicate_succ, szsD, szB_f]
    rw [← szs_ones (l := l) (sz := sz) (by simpa using h) (fun j hj => by simpa using h2 (j + 1) (by simp; omega))]
set_option maxHeartbeats 4000000 in
theorem x22 (l : List Dr) (marks : List Int) (hl : l.length ≤ 9223372036854775807) (hml : marks.length ≤ 9223372036854775807) :
    ∃ q, (∃ H', q = (CV.tuple [ownC rcC 8 (rlxR l marks).1, .int .i64 (rlxR l marks).2], H')) ∧ FF 22 [sl drC l, sl intC marks] [] = some q := by
  have hk44 := fun (t : Tmp) (m : Mem) => k44 l marks hml (by omega) (fid := 22) (t := t) (m := m)
  cases hmay : mayD l marks with
  | false =>
    rw [hmay] at hk44
    have he : rlxR l marks = ([], 2) := by unfold rlxR; rw [hmay]; rfl
    rw [he]
    refine Fw_funE rfl Tryz.func22 s22 (Nat.le_of_ble_eq_true rfl) (fun Q hqr hqn => ?_)
    rw [cin_t (show An.pure 22 = true from rfl) (by simp only [cans, can_int, can_bool, can_agg, can_str, drE.can_sl, intE.can_sl])]
    simp only [tinit, Nat.reduceAdd, c22]
    repeat' (first
    | with_reducible (first | refine Tx_assoc ?_ | refine Tx_yesK rfl ?_ | refine Tx_retK ?_)
    | (with_reducible (first | (refine Tx_regK (fun K hK => ?_); (first | refine t22r0 ?_ | refine t22r1 ?_ | refine t22r2 ?_)) | refine hqr _ ?_); (try simp only [tget_cons, if_true, if_false, Nat.reduceEqDiff, Obt_some, Kn_normal, Obt_not, Option.map_some, Bool.not_false, if_false, if_true, r22, tend, tresAll, tresC, Option.bind_some, mapMem, retv_int, retv_nil, tup_two, Prod.mk.injEq, hk44]))
    | (revert hK; intro hK; (with_reducible refine hK _ ?_; clear hK K)))
    all_goals exact ⟨_, rfl, rfl⟩
  | true =>
    rw [hmay] at hk44
    have hM := mayD_of hmay
    have hbl := hM.len
    have hsetL : ∀ (L : List (Nat × HO)) (H : List HO) i x, setL ⟨L, H⟩ i x = ⟨lset L i x, H⟩ := fun _ _ _ _ => rfl
    have hw0 : IntKind.i64.wrap ((l.length : Int) + 1) = l.length + 1 := wI (by omega) (by omega)
    have hmk1 : ∀ m, mkX true 320 1 8 [.int .i64 0] (.int .i64 l.length) (.int .i64 l.length) m = some (.ref (.g m.H.length) 1 0 l.length, ⟨m.L, m.H ++ [.arr 1 1 ((List.replicate l.length (0 : Int)).flatMap intC) 0]⟩) := fun m => by
      have := mkX_g (j := 320) (sz := 1) (b := 8) (z := [.int .i64 0]) (k := .i64) (n := l.length) (m := m) rfl (by omega) (by omega)
      rw [reps_int] at this
      exact this
    have hmk2 : ∀ m, mkX true 384 1 8 [.int .i64 0] (.int .i64 ((l.length : Int) + 1)) (.int .i64 ((l.length : Int) + 1)) m = some (.ref (.g m.H.length) 1 0 (l.length + 1), ⟨m.L, m.H ++ [.arr 1 1 ((List.replicate (l.length + 1) (0 : Int)).flatMap intC) 0]⟩) := fun m => by
      have := mkX_g (j := 384) (sz := 1) (b := 8) (z := [.int .i64 0]) (k := .i64) (n := l.length + 1) (m := m) rfl (by omega) (by omega)
      rw [reps_int] at this
      exact this
    have hfill : ∀ (a b : Key) (n m : Nat), fillX [.nil, .nil, .nil, .nil] [(0, 1, sl drC l), (1, 1, sl intC marks), (2, 1, .ref a 1 0 n), (3, 1, .ref b 1 0 m)] = some [sl drC l, sl intC marks, .ref a 1 0 n, .ref b 1 0 m] := fun _ _ _ _ => rfl
    refine Fw_funE rfl Tryz.func22 s22 (Nat.le_of_ble_eq_true rfl) (fun Q hqr hqn => ?_)
    rw [cin_t (show An.pure 22 = true from rfl) (by simp only [cans, can_int, can_bool, can_agg, can_str, drE.can_sl, intE.can_sl])]
    simp only [tinit, Nat.reduceAdd, c22]
    repeat' (first
    | with_reducible (first | refine Tx_assoc ?_ | refine Tx_nopK ?_ | refine Tx_noK rfl ?_ | refine Tx_blockK (id := 0) (fun Q0 hn0 hx0 hr0 ho0 => ?_))
    | (with_reducible (refine Tx_regK (fun K hK => ?_); (first | refine t22r0 ?_ | refine t22r1 ?_ | refine t22r3 ?_ | refine t22r4 ?_)); (try simp only [tget_cons, if_true, if_false, Nat.reduceEqDiff, Obt_some, Kn_normal, Nat.zero_add, fldA_ptr, Obt_not, Option.map_some, Bool.not_true, lenS, Obt_map, Obt_add, clen_r, List.nil_append, List.cons_append, List.length_cons, List.length_nil, if_false, if_true, hfill, hk44, clen_sl, hmk1, hmk2, hw0, box_R, nilP', HR_2, clen_r]))
    | (revert hK; intro hK; (with_reducible refine hK _ ?_; clear hK K)))
    refine Tx_loopK (fun k s => ∃ (i : Nat) (sz : List Int) (L : List (Nat × HO)), i ≤ l.length ∧ k = l.length - i ∧ sz.length = l.length ∧ (∀ j, j < i → sz[j]? = some 1) ∧
        s = ⟨[(0, sl drC l), (6, .ptr (.g 2) 1 0), (31, .int .i64 l.length), (32, .int .i64 i)], ⟨L, HR l marks sz (List.replicate (l.length + 1) 0)⟩⟩) _ ⟨0, List.replicate l.length 0, _, Nat.zero_le _, rfl, by simp, fun j hj => by omega, rfl⟩ ?_
    rintro k s ⟨i, sz, L, hi, rfl, hsl, hsj, rfl⟩ QL0 hnL0 hxL0 hrL0
    simp only [c22l0]
    by_cases hie : i = l.length
    · subst hie
      have hge : ¬ ((l.length : Int) < l.length) := by omega
      have hz := szs_ones hsl hsj
      have hk45 : ∀ (lg : List Bool) (ats : List Int), lg.length = l.length → ats.length = l.length + 1 → ∃ ats', IsPl (szsD l lg) ats' ∧ ∀ (L : List (Nat × HO)) (t : Tmp), callC An FF 22 (some t) 45 [.ptr (.g 2) 1 0] ⟨L, HR l marks (szsD l lg) ats⟩ = some (.tuple [], ⟨L, HR l marks (szsD l lg) ats'⟩) := fun lg ats h1 h2 => by
        obtain ⟨_, ⟨ats', hI, rfl⟩, h45⟩ := x45 l marks (szsD l lg) ats hbl (szsD_len h1) szsD_bd h2
        exact ⟨ats', hI, fun L t => by rw [callC_I (A := An) (F := FF) (fid := 22) (d := t) (m := ⟨L, HR l marks (szsD l lg) ats⟩) rfl rfl h45, adopt_t0]⟩
      subst hz
      obtain ⟨ats, hIo, hk⟩ := hk45 (List.replicate l.length false) (List.replicate (l.length + 1) 0) (by simp) (by simp)
      repeat' (first
      | with_reducible (first | refine Tx_noK rfl ?_ | refine Tx_exitK ?_ | refine hx0 _ ?_ | refine Tx_blockK (id := 2) (fun Q2 hn2 hx2 hr2 ho2 => ?_) | refine hxL0 _ _ ?_)
      | (with_reducible (refine Tx_regK (fun K hK => ?_); (first | refine t22r5 ?_ | refine t22r9 ?_)); (try simp only [true_implies, false_implies, not_false_eq_true, tget_cons, if_true, if_false, Nat.reduceEqDiff, Obt_some, Kn_normal, Obt_lss, true_and, if_false, if_true, hge, hk]))
      | (revert hK; intro hK; (with_reducible refine hK _ ?_; clear hK K)))
      refine Tx_loopK (fun k s => ∃ (lg : List Bool) (ats : List Int) (L : List (Nat × HO)), Rnd l marks lg ∧ IsPl (szsD l lg) ats ∧ k = cf lg ∧
          s = ⟨[(0, sl drC l), (6, .ptr (.g 2) 1 0)], ⟨L, HR l marks (szsD l lg) ats⟩⟩) _ ⟨_, ats, L, Rnd.start, hIo, rfl, rfl⟩ ?_
      rintro k s ⟨lg, ats1, L1, hR, hI1, rfl, rfl⟩ QL1 hnL1 hxL1 hrL1
      clear hk hIo
      have hk46 : ∀ (L : List (Nat × HO)) (t : Tmp), callC An FF 22 (some t) 46 [.ptr (.g 2) 1 0] ⟨L, HR l marks (szsD l lg) ats1⟩ = some (.bool (decide (growD (szsD l lg) marks 0 l lg ≠ lg)), ⟨L, HR l marks (szsD l (growD (szsD l lg) marks 0 l lg)) ats1⟩) := fun L t => by
        rw [callC_I (A := An) (F := FF) (fid := 22) (d := t) (m := ⟨L, HR l marks (szsD l lg) ats1⟩) rfl rfl (x46 hM hR.len hI1 hml), adopt_bool]
      simp only [c22l1]
      by_cases hg : growD (szsD l lg) marks 0 l lg = lg
      · rw [hg] at hk46
        rw [decide_eq_false (by simp)] at hk46
        have hlg := hR.last hg
        have hRl := hR.len
        repeat' (first
        | with_reducible (first | refine Tx_assoc ?_ | refine Tx_noK rfl ?_ | refine Tx_exitK ?_ | refine hx2 _ ?_ | refine Tx_blockK (id := 4) (fun Q4 hn4 hx4 hr4 ho4 => ?_) | refine hxL1 _ _ ?_)
        | (with_reducible (refine Tx_regK (fun K hK => ?_); (first | refine t22r10 ?_ | refine t22r12 ?_ | refine t22r13 ?_)); (try simp only [tget_cons, if_true, if_false, Nat.reduceEqDiff, Obt_some, Kn_normal, Option.map_some, lenS, if_false, if_true, hk46, clen_sl]))
        | (revert hK; intro hK; (with_reducible refine hK _ ?_; clear hK K)))
        refine Tx_loopK (fun k s => ∃ (dn td : List Dr) (ln lt : List Bool) (v : CV) (L : List (Nat × HO)), l = dn ++ td ∧ lg = ln ++ lt ∧ ln.length = dn.length ∧ k = td.length ∧ OwnE rcC 8 ⟨L, HR l marks (szsD l lg) ats1⟩ 912 v (outsL (szsD l lg) marks 0 dn ln) ∧
            s = ⟨[(6, .ptr (.g 2) 1 0), (8, v), (49, .int .i64 l.length), (50, .int .i64 dn.length)], ⟨L, HR l marks (szsD l lg) ats1⟩⟩) _ ⟨[], l, [], lg, .nil, L1, rfl, rfl, rfl, rfl, .inl ⟨rfl, rfl⟩, rfl⟩ ?_
        rintro k s ⟨dn, td, ln, lt, v, L2, h2, h3, h4, rfl, hO, rfl⟩ QL2 hnL2 hxL2 hrL2
        have hlen := congrArg List.length h2
        have hlen3 := congrArg List.length h3
        simp only [List.length_append] at hlen hlen3
        simp only [c22l2]
        cases td with
        | cons x td =>
          simp only [List.length_cons] at hlen
          obtain ⟨b, lt, rfl⟩ : ∃ b lt', lt = b :: lt' := by
            cases lt with
            | nil => simp only [List.length_nil] at hlen3; omega
            | cons b lt' => exact ⟨b, lt', rfl⟩
          have hgb : lg[dn.length]? = some b := by rw [h3, ← h4]; simp
          have hlt : (dn.length : Int) < l.length := by omega
          have hw : IntKind.i64.wrap ((dn.length : Int) + 1) = dn.length + 1 := wI (by omega) (by omega)
          obtain ⟨sz, hsz⟩ : ∃ sz, sz = szsD l lg := ⟨_, rfl⟩
          have hb1 := outsL_len (sz := sz) (marks := marks) (l := dn) (lg := ln) (i := 0)
          have hb2 := expD_len (sz := sz) (marks := marks) (i := dn.length) (x := x) (b := b)
          have hx47 := x47 hM hRl hI1 h2 hgb hml
          have hsn := outsL_snoc (sz := sz) (marks := marks) (x := x) (b := b) (i := 0) h4
          rw [← hsz] at hO hx47 ⊢
          rw [← hsz] at hnL2
          repeat' (first
          | with_reducible (first | refine Tx_nopK ?_ | refine Tx_yesK rfl ?_ | refine Tx_blockK (id := 5) (fun Q5 hn5 hx5 hr5 ho5 => ?_))
          | (with_reducible ((first | refine Tx_regK (fun K hK => ?_) | refine Tx_regE (fun K hK => ?_)); (first | refine t22r14 ?_ | refine t22r15 ?_ | refine t22r16 ?_)); (try simp only [true_implies, false_implies, not_true_eq_false, tget_cons, if_true, if_false, Nat.reduceEqDiff, Kn_normal, Obt_lss, and_true, if_false, if_true, hlt]))
          | (revert hK; intro hK; (with_reducible refine hK _ ?_; clear hK K)))
          rw [callC_I (A := An) (m := ⟨L2, HR l marks sz ats1⟩) rfl rfl hx47, Obt_some]
          obtain ⟨v1, m1, e1, e2, e3, e4⟩ := adopt_ownC (e := rcC) (sz := 8) (m := ⟨L2, HR l marks sz ats1⟩) (l := expD sz marks dn.length x b) (d := 56) (gl := (An.glob 22).contains 56) rfl
          rw [e1]
          refine OwnE.app (l := outsL sz marks 0 dn ln) (ys := expD sz marks dn.length x b) (hO.keep (e4 912 (by decide))) rcE.len (e2.content rcE.len) (by rw [e2.len]) (by decide) (by omega) fun v' m' r1 r2 r3 => ?_
          refine hK _ ?_
          clear hK K
          obtain ⟨L3, H3⟩ := m'
          simp only at r2
          rw [e3] at r2
          simp only at r2
          subst r2
          repeat' (first
          | with_reducible refine hn5 _ ?_
          | (with_reducible (refine Tx_regE (fun K hK => ?_); refine t22r17 ?_); (try simp only [tget_cons, if_true, if_false, Nat.reduceEqDiff, Kn_normal, Obt_add, if_false, if_true, hw]))
          | (revert hK; intro hK; (with_reducible refine hK _ ?_; clear hK K)))
          have e : ((dn.length : Int) + 1) = ((dn ++ [x]).length : Int) := by simp
          rw [e]
          refine hnL2 td.length _ (by simp) ⟨dn ++ [x], td, ln ++ [b], lt, v', L3, by simp [h2], by simp [h3], by simp [h4], rfl, ?_, rfl⟩
          rw [hsn, Nat.zero_add]; exact r1
        | nil =>
          simp only [List.length_nil] at hlen
          rw [List.append_nil] at h2
          have hlt0 : lt = [] := List.eq_nil_of_length_eq_zero (by omega)
          subst hlt0
          rw [List.append_nil] at h3
          rw [← h2, ← h3] at hO
          have hge2 : ¬ ((dn.length : Int) < l.length) := by omega
          obtain ⟨os, hos⟩ : ∃ os, os = outsL (szsD l lg) marks 0 l lg := ⟨_, rfl⟩
          rw [← hos] at hO
          have hol : os.length ≤ 300000 := by
            have := outsL_len (sz := szsD l lg) (marks := marks) (l := l) (lg := lg) (i := 0)
            rw [hos]; omega
          have hrl : rlxR l marks = if os.all chk48 = true then (os, 0) else ([], 250) := by unfold rlxR rlxO; rw [hmay, if_pos rfl, ← hlg, ← hos]
          obtain ⟨sz, hsz⟩ : ∃ sz, sz = szsD l lg := ⟨_, rfl⟩
          rw [← hsz] at hO ⊢
          repeat' (first
          | with_reducible (first | refine Tx_assoc ?_ | refine Tx_noK rfl ?_ | refine Tx_exitK ?_ | refine hx4 _ ?_ | refine Tx_blockK (id := 6) (fun Q6 hn6 hx6 hr6 ho6 => ?_) | refine hxL2 _ _ ?_)
          | (with_reducible (refine Tx_regK (fun K hK => ?_); (first | refine t22r14 ?_ | refine t22r18 ?_)); (try simp only [true_implies, false_implies, not_false_eq_true, tget_cons, if_true, if_false, Nat.reduceEqDiff, Obt_some, Kn_normal, Obt_lss, Option.map_some, lenS, true_and, if_false, if_true, hge2, hO.len]))
          | (revert hK; intro hK; (with_reducible refine hK _ ?_; clear hK K)))
          refine Tx_loopK (fun k s => ∃ (dn td : List Rc) (L : List (Nat × HO)), os = dn ++ td ∧ k = td.length ∧ dn.all chk48 = true ∧ OwnE rcC 8 ⟨L, HR l marks sz ats1⟩ 912 v os ∧
              s = ⟨[(8, v), (59, v), (60, .int .i64 os.length), (61, .int .i64 dn.length)], ⟨L, HR l marks sz ats1⟩⟩) _ ⟨[], os, L2, rfl, rfl, rfl, hO, rfl⟩ ?_
          rintro k s ⟨dn, td, L4, h4, rfl, hall, hO4, rfl⟩ QL3 hnL3 hxL3 hrL3
          have hlen4 := congrArg List.length h4
          simp only [List.length_append] at hlen4
          simp only [c22l3]
          cases td with
          | nil =>
            simp only [List.length_nil] at hlen4
            rw [List.append_nil] at h4
            have hge4 : ¬ ((dn.length : Int) < os.length) := by omega
            rw [← h4] at hall
            rw [hall, if_pos rfl] at hrl
            repeat' (first
            | with_reducible (first | refine Tx_noK rfl ?_ | refine Tx_exitK ?_ | refine Tx_ret ?_ | refine hx6 _ ?_ | refine hxL3 _ _ ?_)
            | (with_reducible (first | (refine Tx_regK (fun K hK => ?_); (first | refine t22r19 ?_ | refine t22r24 ?_)) | refine hqr _ ?_); (try simp only [true_implies, false_implies, not_false_eq_true, tget_cons, if_true, if_false, Nat.reduceEqDiff, Obt_some, Kn_normal, Obt_lss, Option.map_some, Obt_map, Obt_bind, true_and, if_false, if_true, r22, tend, tresAll, tresC, Option.bind_some, mapMem, retv_int, tup_two, Prod.mk.injEq, hge4, hrl]))
            | (revert hK; intro hK; (with_reducible refine hK _ ?_; clear hK K)))
            refine hO4.ret rcE.len fun m' hm' => ⟨_, rfl, rfl⟩
          | cons r td =>
            simp only [List.length_cons] at hlen4
            have hlt : (dn.length : Int) < os.length := by omega
            have hw : IntKind.i64.wrap ((dn.length : Int) + 1) = dn.length + 1 := wI (by omega) (by omega)
            have hget : os[dn.length]? = some r := by rw [h4]; simp
            obtain ⟨g, rfl, hL, hi'⟩ := hO4.get hget
            have hidx : idxS 8 (.ref (.l 912) g 0 os.length) (.int .i64 dn.length) = some (.ptr (.l 912) g (dn.length * 8)) := by
              rw [idxS_ref, if_pos ⟨by omega, by omega⟩]; simp
            obtain ⟨q1, q2⟩ := flat_at (e := rcC) (sz := 8) rcE.len hget
            have hld : rdA g (dn.length * 8) 8 (lget L4 912) = some (.agg (rcC r)) := by
              simp only [hL, rdA_arr]; rw [if_pos q2, q1]
            have hk := fun (t : Tmp) (m : Mem) => k48 r (fid := 22) (t := t) (m := m)
            simp only [rcC] at hld
            cases hc : chk48 r with
            | false =>
              rw [hc] at hk
              have hf : rlxR l marks = ([], 250) := by
                rw [hrl, if_neg]
                rw [h4, List.all_append, List.all_cons, hc]; simp
              repeat' (first
              | with_reducible (first | refine Tx_nopK ?_ | refine Tx_yesK rfl ?_ | refine Tx_yes rfl ?_ | refine Tx_ret ?_ | refine hr6 _ ?_ | refine Tx_blockK (id := 7) (fun Q7 hn7 hx7 hr7 ho7 => ?_) | refine hr7 _ ?_ | refine hrL3 _ ?_)
              | (with_reducible (first | (refine Tx_regK (fun K hK => ?_); (first | refine t22r19 ?_ | refine t22r20 ?_ | refine t22r21 ?_ | refine t22r22 ?_)) | refine hqr _ ?_); (try simp only [true_implies, false_implies, not_true_eq_false, tget_cons, if_true, if_false, Nat.reduceEqDiff, ccells, Obt_some, Kn_normal, newL_eq, newP_eq, lget_lset, Nat.reduceAdd, Nat.zero_add, List.drop_zero, ldA_l, Obt_lss, Obt_not, Option.map_some, Bool.not_false, stX_l, stV_var, splice, List.take_zero, List.take_succ_cons, List.drop_succ_cons, List.drop_nil, List.nil_append, List.append_nil, List.length_cons, List.length_nil, and_self, and_true, Nat.le_refl, rdA_var, if_false, if_true, r22, tend, tresAll, tresC, Option.bind_some, mapMem, retv_int, retv_nil, tup_two, Prod.mk.injEq, hlt, hidx, hld, hk, hsetL, hf]))
              | (revert hK; intro hK; (with_reducible refine hK _ ?_; clear hK K)))
              all_goals exact ⟨_, rfl, rfl⟩
            | true =>
              rw [hc] at hk
              repeat' (first
              | with_reducible (first | refine Tx_nopK ?_ | refine Tx_yesK rfl ?_ | refine Tx_no rfl ?_ | refine Tx_nop ?_ | refine Tx_blockK (id := 7) (fun Q7 hn7 hx7 hr7 ho7 => ?_) | refine hn7 _ ?_)
              | (with_reducible ((first | refine Tx_regK (fun K hK => ?_) | refine Tx_regE (fun K hK => ?_)); (first | refine t22r19 ?_ | refine t22r20 ?_ | refine t22r21 ?_ | refine t22r23 ?_)); (try simp only [true_implies, false_implies, not_true_eq_false, tget_cons, if_true, if_false, Nat.reduceEqDiff, ccells, Obt_some, Kn_normal, newL_eq, newP_eq, lget_lset, Nat.reduceAdd, Nat.zero_add, List.drop_zero, ldA_l, Obt_lss, Obt_not, Bool.not_true, Obt_add, stX_l, stV_var, splice, List.take_zero, List.take_succ_cons, List.drop_succ_cons, List.drop_nil, List.nil_append, List.append_nil, List.length_cons, List.length_nil, and_self, and_true, Nat.le_refl, rdA_var, if_false, if_true, hlt, hidx, hld, hk, hsetL, hw]))
              | (revert hK; intro hK; (with_reducible refine hK _ ?_; clear hK K)))
              have e : ((dn.length : Int) + 1) = ((dn ++ [r]).length : Int) := by simp
              rw [e]
              refine hnL3 td.length _ (by simp) ⟨dn ++ [r], td, _, by simp [h4], rfl, by rw [List.all_append, hall]; simp [hc], ?_, rfl⟩
              exact hO4.keep (by simp [lget_lset])
      · rw [decide_eq_true hg] at hk46
        obtain ⟨hR2, hcf⟩ := hR.next hg
        obtain ⟨g, hgg⟩ : ∃ g, g = growD (szsD l lg) marks 0 l lg := ⟨_, rfl⟩
        rw [← hgg] at hk46 hR2 hcf
        obtain ⟨ats2, hI2, hk2⟩ := hk45 g ats1 hR2.len (by have := hI1.len; rw [szsD_len hR.len] at this; exact this)
        repeat' (first
        | with_reducible (first | refine Tx_assoc ?_ | refine Tx_nopK ?_ | refine Tx_yesK rfl ?_ | refine Tx_blockE (id := 3) (fun Q3 hn3 hx3 hr3 ho3 => ?_) | refine hn3 _ ?_)
        | (with_reducible ((first | refine Tx_regK (fun K hK => ?_) | refine Tx_regE (fun K hK => ?_)); (first | refine t22r10 ?_ | refine t22r11 ?_)); (try simp only [tget_cons, if_true, if_false, Nat.reduceEqDiff, Obt_some, Kn_normal, if_false, if_true, hk46, hk2]))
        | (revert hK; intro hK; (with_reducible refine hK _ ?_; clear hK K)))
        exact hnL1 (cf g) _ hcf ⟨g, ats2, _, hR2, hI2, rfl, rfl⟩
    · have hlt : (i : Int) < l.length := by omega
      have hw : IntKind.i64.wrap ((i : Int) + 1) = i + 1 := wI (by omega) (by omega)
      have hix0 := HR_ix (i := i) (k := 0) (n := l.length) (by omega)
      have hst := fun (L : List (Nat × HO)) (v : Int) => HR_ss (l := l) (marks := marks) (sz := sz) (ats := List.replicate (l.length + 1) 0) (L := L) (i := i) (v := v) (by omega)
      repeat' (first
      | with_reducible (first | refine Tx_nopK ?_ | refine Tx_yesK rfl ?_ | refine Tx_blockK (id := 1) (fun Q1 hn1 hx1 hr1 ho1 => ?_) | refine hn1 _ ?_)
      | (with_reducible ((first | refine Tx_regK (fun K hK => ?_) | refine Tx_regE (fun K hK => ?_)); (first | refine t22r5 ?_ | refine t22r6 ?_ | refine t22r7 ?_ | refine t22r8 ?_)); (try simp only [true_implies, false_implies, not_true_eq_false, tget_cons, if_true, if_false, Nat.reduceEqDiff, Obt_some, Kn_normal, Nat.zero_add, fldA_ptr, Obt_lss, Obt_add, and_true, if_false, if_true, nilP', HR_2, hlt, hix0, hst, hw]))
      | (revert hK; intro hK; (with_reducible refine hK _ ?_; clear hK K)))
      refine hnL0 (l.length - (i + 1)) _ (by omega) ⟨i + 1, sz.set i 1, L, by omega, rfl, by simp [hsl], fun j hj => ?_, rfl⟩
      rw [List.getElem?_set]
      by_cases hji : i = j
      · subst hji; rw [if_pos rfl, if_pos (by omega)]
      · rw [if_neg hji]; exact hsj j (by omega)
end Go.Cm

namespace Go.Cm
open Go.Proofs Go.Pk
theorem x62 : FF 62 [] [] = some (ownC intC 1 condsI, []) := by
  refine Fw_funK rfl Tryz.func62 s62 (Nat.le_of_ble_eq_true rfl) (fun Q hqr hqn => ?_)
  rw [cin_t (show An.pure 62 = true from rfl) (by simp only [cans, can_int, can_bool, can_agg, can_str])]
  simp only [tinit, Nat.reduceAdd, c62]
  repeat' (first
  | with_reducible refine Tx_ret ?_
  | (with_reducible (first | (refine Tx_regK (fun K hK => ?_); (first | refine t62r0 ?_ | refine t62r1 ?_)) | refine hqr _ ?_); (try simp only [tget_cons, if_true, ccells, Obt_some, Kn_normal, nmA_f, nmR_f, lget_setL, setL_setL, setL_H, Nat.reduceMul, Nat.reduceAdd, Nat.zero_add, List.drop_zero, Option.map_some, fillX, bslX, escP_list, splice, List.take_zero, List.take_succ_cons, List.drop_succ_cons, List.drop_nil, List.nil_append, List.cons_append, List.append_nil, List.length_cons, List.length_nil, Nat.reduceLeDiff, and_self, and_true, Nat.le_refl, escP, List.all_cons, List.all_nil, Bool.and_self, if_true, r62, tend, tresAll, tresC, Option.bind_some, mapMem, retv_l, retR_arr, Nat.sub_self, tup_one, Prod.mk.injEq]))
  | (revert hK; intro hK; (with_reducible refine hK _ ?_; clear hK K)))
  all_goals rfl
theorem x37 (c : Int) : FF 37 [.int .i64 c] [] = some (.int .i64 (idxOf condsI c), []) := by
  have h11 : condsI.length = 11 := rfl
  refine Fw_funK rfl Tryz.func37 s37 (Nat.le_of_ble_eq_true rfl) (fun Q hqr hqn => ?_)
  rw [cin_t (show An.pure 37 = true from rfl) (by simp only [cans, can_int, can_bool, can_agg, can_str])]
  simp only [tinit, Nat.reduceAdd, c37]
  repeat' (first
  | (with_reducible (refine Tx_regK (fun K hK => ?_); (first | refine t37r0 ?_ | refine t37r1 ?_)); (try simp only [tget_cons, if_true, Kn_normal, if_true]))
  | (revert hK; intro hK; (with_reducible refine hK _ ?_; clear hK K)))
  refine callC_O (l := condsI) x62 rfl rfl rfl rfl (fun _ => rfl) rfl fun v m1 hO hH hf => ?_
  refine hK _ ?_
  clear hK K
  obtain ⟨L1, H1⟩ := m1
  simp only at hH
  subst hH
  repeat' (first
  | with_reducible (first | refine Tx_assoc ?_ | refine Tx_blockK (id := 0) (fun Q0 hn0 hx0 hr0 ho0 => ?_))
  | (with_reducible (refine Tx_regK (fun K hK => ?_); refine t37r2 ?_); (try simp only [tget_cons, if_true, if_false, Nat.reduceEqDiff, Kn_normal, if_false, if_true]))
  | (revert hK; intro hK; (with_reducible refine hK _ ?_; clear hK K)))
  refine Tx_loopK (fun n s => ∃ (d t : List Int) (L : List (Nat × HO)), condsI = d ++ t ∧ (∀ x ∈ d, x ≠ c) ∧ n = t.length ∧ OwnE intC 1 ⟨L, []⟩ 80 v condsI ∧ s = ⟨[(0, .int .i64 c), (3, v), (4, .int .i64 d.length)], ⟨L, []⟩⟩) _ ⟨[], condsI, L1, rfl, by simp, rfl, hO, rfl⟩ ?_
  rintro n s ⟨d, t, L, h2, hd, rfl, hO, rfl⟩ QL0 hnL0 hxL0 hrL0
  have hlen := congrArg List.length h2
  simp only [List.length_append, h11] at hlen
  have hol := hO.len
  rw [h11] at hol
  simp only [c37l0]
  cases t with
  | nil =>
    simp only [List.length_nil] at hlen
    rw [List.append_nil] at h2
    have hge : ¬ ((d.length : Int) < (11 : Nat)) := by omega
    have he : idxOf condsI c = -1 := idxOf_none (by rw [h2]; exact hd)
    repeat' (first
    | with_reducible (first | refine Tx_assoc ?_ | refine Tx_noK rfl ?_ | refine Tx_exitK ?_ | refine Tx_ret ?_ | refine hx0 _ ?_ | refine hxL0 _ _ ?_)
    | (with_reducible (first | (refine Tx_regK (fun K hK => ?_); (first | refine t37r3 ?_ | refine t37r7 ?_)) | refine hqr _ ?_); (try simp only [true_implies, false_implies, not_false_eq_true, tget_cons, if_true, if_false, Nat.reduceEqDiff, Obt_some, Kn_normal, Obt_lss, Option.map_some, lenS, true_and, if_false, if_true, r37, tend, tresAll, tresC, Option.bind_some, mapMem, retv_int, tup_one, hol, hge, he]))
    | (revert hK; intro hK; (with_reducible refine hK _ ?_; clear hK K)))
  | cons a t =>
    simp only [List.length_cons] at hlen
    have hlt : (d.length : Int) < (11 : Nat) := by omega
    have hw : IntKind.i64.wrap ((d.length : Int) + 1) = d.length + 1 := wI (by omega) (by omega)
    have hga : condsI[d.length]? = some a := by rw [h2]; simp
    obtain ⟨g, rfl, hL, hi'⟩ := hO.get hga
    have hidx : idxS 1 (.ref (.l 80) g 0 condsI.length) (.int .i64 d.length) = some (.ptr (.l 80) g d.length) := by
      rw [idxS_ref, if_pos ⟨by omega, by omega⟩]; simp
    have hld : rd1 g d.length (lget L 80) = some (.int .i64 a) := by
      simp only [hL, rd1_arr, if_true, flat_int, hga, Option.map_some]
    by_cases hv : a = c
    · subst hv
      have he : idxOf condsI a = d.length := by rw [h2]; exact idxOf_at hd
      repeat' (first
      | with_reducible (first | refine Tx_assoc ?_ | refine Tx_nopK ?_ | refine Tx_yesK rfl ?_ | refine Tx_yes rfl ?_ | refine Tx_ret ?_ | refine hr0 _ ?_ | refine Tx_blockK (id := 1) (fun Q1 hn1 hx1 hr1 ho1 => ?_) | refine hr1 _ ?_ | refine hrL0 _ ?_)
      | (with_reducible (first | (refine Tx_regK (fun K hK => ?_); (first | refine t37r3 ?_ | refine t37r5 ?_ | refine t37r6 ?_)) | refine hqr _ ?_); (try simp only [true_implies, false_implies, not_true_eq_false, tget_cons, if_true, if_false, Nat.reduceEqDiff, Obt_some, Kn_normal, ld1_l, Obt_lss, Obt_eql, Option.map_some, lenS, and_true, if_false, if_true, r37, tend, tresAll, tresC, Option.bind_some, mapMem, retv_int, tup_one, hol, hlt, hidx, hld, he]))
      | (revert hK; intro hK; (with_reducible refine hK _ ?_; clear hK K)))
    · repeat' (first
      | with_reducible (first | refine Tx_assoc ?_ | refine Tx_nopK ?_ | refine Tx_yesK rfl ?_ | refine Tx_no rfl ?_ | refine Tx_nop ?_ | refine Tx_blockK (id := 1) (fun Q1 hn1 hx1 hr1 ho1 => ?_) | refine hn1 _ ?_)
      | (with_reducible ((first | refine Tx_regK (fun K hK => ?_) | refine Tx_regE (fun K hK => ?_)); (first | refine t37r3 ?_ | refine t37r5 ?_ | refine t37r4 ?_)); (try simp only [true_implies, false_implies, not_true_eq_false, not_false_eq_true, tget_cons, if_true, if_false, Nat.reduceEqDiff, Obt_some, Kn_normal, ld1_l, Obt_lss, Obt_eql, Option.map_some, lenS, Obt_add, and_true, true_and, if_false, if_true, hol, hlt, hidx, hld, hv, hw]))
      | (revert hK; intro hK; (with_reducible refine hK _ ?_; clear hK K)))
      refine hnL0 t.length _ (by simp) ⟨d ++ [a], t, L, by simp [h2], ?_, rfl, hO, by simp⟩
      intro x hx
      rcases List.mem_append.1 hx with hx | hx
      · exact hd x hx
      · rw [List.mem_singleton] at hx; rw [hx]; exact hv
theorem k37 (c : Int) {fid : FuncId} {t : Tmp} {m : Mem} : callC An FF fid (some t) 37 [.int .i64 c] m = some (.int .i64 (idxOf condsI c), m) :=
  callC_V (x37 c) (fun _ _ _ => rfl) rfl rfl rfl rfl rfl
end Go.Cm
