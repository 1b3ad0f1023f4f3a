/-
  Code as values: whether parts' ways are right.
-/
import Derived.Test.YtijcpefcfcbcnaaIzH
set_option linter.unusedSimpArgs false
set_option linter.unusedVariables false
namespace Go.Cm
open Go.Proofs Go.Ir Go.Gr
theorem endOk_bad {n : Nat} {e : Tm} (h : e.op < 1 ∨ 3 < e.op ∨ (e.op = 2 ∧ (condOk e.cond = false ∨ e.to = e.els))) : endOk n e = false := by
  unfold endOk
  rcases h with h | h | ⟨h, h2 | h2⟩
  · rw [decide_eq_false (by omega : ¬ 1 ≤ e.op)]; rfl
  · rw [decide_eq_false (by omega : ¬ e.op ≤ 3)]; simp
  · simp [h, h2]
  · simp [h, h2]
theorem endOk_out {n : Nat} {e : Tm} {y : Int} (h : y ∈ nexts e) (h2 : ¬ (0 ≤ y ∧ y < n)) : endOk n e = false := by
  rw [← Bool.not_eq_true]
  intro h3
  simp only [endOk, Bool.and_eq_true, List.all_eq_true, decide_eq_true_eq] at h3
  exact h2 (h3.2 y h)
theorem endOk_ok {n : Nat} {e : Tm} (h1 : ¬ e.op < 1) (h2 : ¬ 3 < e.op) (h3 : e.op = 2 → condOk e.cond = true ∧ ¬ e.to = e.els) (h4 : ∀ y ∈ nexts e, 0 ≤ y ∧ y < n) : endOk n e = true := by
  unfold endOk
  rw [decide_eq_true (by omega : 1 ≤ e.op), decide_eq_true (by omega : e.op ≤ 3), List.all_eq_true.2 (fun y hy => decide_eq_true (h4 y hy))]
  by_cases h : e.op = 2
  · simp [h, h3 h]
  · simp [h]
theorem ways_end {f : Cd} {p : Pt} (hp : p ∈ f.parts) (h : endOk f.parts.length p.fin = false) : waysOk f = false := by
  rw [← Bool.not_eq_true]
  intro h3
  simp only [waysOk, Bool.and_eq_true, List.all_eq_true] at h3
  rw [h3.1.1 p hp] at h; cases h
theorem ways_part {f : Cd} {i : Nat} {p : Pt} (hp : f.parts[i]? = some p) (h : ¬ ((i : Int) ∈ ord (succs f) ∧ predsOf (succs f) i f.parts.length = p.pred)) : waysOk f = false := by
  rw [← Bool.not_eq_true]
  intro h3
  refine h ⟨reach_of h3 (List.getElem?_eq_some_iff.1 hp).1, (pred_of h3 hp).symm⟩
theorem ways_first {f : Cd} {p : Pt} (hp : f.parts[0]? = some p) (h : p.pred ≠ []) : waysOk f = false := by
  rw [← Bool.not_eq_true]
  intro h3
  simp only [waysOk, Bool.and_eq_true, decide_eq_true_eq] at h3
  refine h ?_
  rw [← h3.2, List.getD_eq_getElem?_getD, List.getElem?_map, hp]; rfl
theorem ways_ok {f : Cd} (h1 : ∀ p ∈ f.parts, endOk f.parts.length p.fin = true) (h2 : ∀ (i : Nat) (p : Pt), f.parts[i]? = some p → ((i : Int) ∈ ord (succs f) ∧ predsOf (succs f) i f.parts.length = p.pred) ∧ (i = 0 → p.pred = [])) (hne : f.parts ≠ []) : waysOk f = true := by
  have h0 : 0 < f.parts.length := List.length_pos_iff.2 hne
  simp only [waysOk, Bool.and_eq_true, List.all_eq_true, decide_eq_true_eq, List.mem_range]
  refine ⟨⟨h1, fun i hi => ?_⟩, ?_⟩
  · have hp : f.parts[i]? = some f.parts[i] := List.getElem?_eq_getElem hi
    have := (h2 i _ hp).1
    refine ⟨this.1, this.2.trans ?_⟩
    rw [List.getD_eq_getElem?_getD, List.getElem?_map, hp]; rfl
  · have hp : f.parts[0]? = some f.parts[0] := List.getElem?_eq_getElem h0
    rw [List.getD_eq_getElem?_getD, List.getElem?_map, hp]
    exact (h2 0 _ hp).2 rfl
theorem succs_get {f : Cd} {i : Nat} {p : Pt} (hp : f.parts[i]? = some p) : (succs f).getD i [] = nexts p.fin := by
  rw [succs, List.getD_eq_getElem?_getD, List.getElem?_map, hp]; rfl
theorem succs_two (f : Cd) (i : Nat) : ((succs f).getD i []).length ≤ 2 := by
  rw [succs, List.getD_eq_getElem?_getD, List.getElem?_map]
  cases f.parts[i]? with
  | none => simp
  | some p => exact nexts_len p.fin
set_option maxHeartbeats 4000000 in
theorem x60 (H : List HO) (f : Cd) (nc : Nat) (hf : Sized f) (hf1 : f.parts ≠ []) (h8 : f.parts.length ≤ 8192) (hnc : H[nc]? = some (.var 1 [sl ptC f.parts, .int .i64 f.values, .nil, .nil] 0)) :
    ∃ r, (∃ v H', r = (v, H') ∧ (∀ i, i < H.length → H'[i]? = H[i]?) ∧ (if waysOk f = true then v = .inil else Refus H' v 1)) ∧ FF 60 [.ptr (.g nc) 1 0] H = some r := by
  have hSm := succs_small hf
  have hncl := (List.getElem?_eq_some_iff.1 hnc).1
  have hsne : succs f ≠ [] := by simpa [succs] using hf1
  obtain ⟨H1, hH1⟩ : ∃ H1, H1 = H ++ [HO.arr 1 1 (reps f.parts.length [.nil]) 0] := ⟨_, rfl⟩
  have hmk : ∀ L, mkX true 320 1 24 [.nil] (.int .i64 f.parts.length) (.int .i64 f.parts.length) ⟨L, H⟩ = some (.ref (.g H.length) 1 0 f.parts.length, ⟨L, H1⟩) := fun L => by
    have := mkX_g (j := 320) (sz := 1) (b := 24) (z := [.nil]) (k := .i64) (n := f.parts.length) (m := ⟨L, H⟩) rfl (by omega) (by omega)
    rw [this, hH1]
  have hR0 : RInv (H.length + 1) f.parts.length H.length H1 H1 (reps f.parts.length [.nil]) (fun (x : Nat) => predsOf (succs f) x 0) := by
    refine ⟨by rw [hH1]; simp, by omega, by rw [hH1]; simp, reps_len, fun x hx => .inl ⟨reps_nil _ _ hx, rfl⟩, fun x y k gn gn' l l' h => ?_, fun i _ _ => rfl⟩
    rcases Nat.lt_or_ge x f.parts.length with hx | hx
    · rw [reps_nil _ _ hx] at h; cases h
    · rw [List.getElem?_eq_none (by rw [reps_len]; exact hx)] at h; cases h
  have hold : ∀ {H2 cs g}, RInv (H.length + 1) f.parts.length H.length H1 H2 cs g → ∀ i, i < H.length → H2[i]? = H[i]? := fun {H2 cs g} h i hi => by
    rw [h.old i (by omega) (by omega), hH1, List.getElem?_append_left hi]
  have hfp : ∀ {H2 cs g}, RInv (H.length + 1) f.parts.length H.length H1 H2 cs g → ∀ L, ld1 ⟨L, H2⟩ (.ptr (.g nc) 1 0) = some (sl ptC f.parts) := fun {H2 cs g} h L => by
    rw [ld1_g, hold h nc hncl]; simp only [hnc, rd1_var]; rfl
  have hfp0 : ∀ L, ld1 ⟨L, H⟩ (.ptr (.g nc) 1 0) = some (sl ptC f.parts) := fun L => by rw [ld1_g]; simp only [hnc, rd1_var]; rfl
  have hfp1 := hfp hR0
  have bad : ∀ {H2 cs g}, RInv (H.length + 1) f.parts.length H.length H1 H2 cs g → ∀ i : Int, waysOk f = false → ∃ v H', (CV.iface 152 (.ptr (.g H2.length) 1 0) = v ∧ H2 ++ [HO.var 1 [.int .i64 i, .int .i64 1] 0] = H') ∧ (∀ i, i < H.length → H'[i]? = H[i]?) ∧ (if waysOk f = true then v = .inil else Refus H' v 1) := fun {H2 cs g} h i hw => by
    refine ⟨_, _, ⟨rfl, rfl⟩, fun j hj => ?_, ?_⟩
    · have := h.len
      rw [List.getElem?_append_left (by omega)]; exact hold h j hj
    · rw [hw, if_neg (by decide)]
      exact ⟨_, i, rfl, by simp⟩
  have hsetL : ∀ (L : List (Nat × HO)) (H : List HO) j o, setL ⟨L, H⟩ j o = ⟨lset L j o, H⟩ := fun _ _ _ _ => rfl
  have hpl := hf.parts
  refine Fw_funE rfl Try.func60 s60 (Nat.le_of_ble_eq_true rfl) (fun Q hqr hqn => ?_)
  rw [show ∀ a, cin (An.pure 60) a = a from fun _ => rfl]
  simp only [tinit, Nat.reduceAdd, c60]
  repeat' (first
  | with_reducible refine Tx_assoc ?_
  | with_reducible refine Tx_blockK (id := 0) (fun Q0 hn0 hx0 hr0 ho0 => ?_)
  | ((with_reducible refine Tx_regK (fun K hK => ?_); (first | with_reducible refine t60r0 ?_ | with_reducible refine t60r1 ?_ | with_reducible refine t60r2 ?_)); (try simp only [tget_cons, if_true, if_false, Nat.reduceEqDiff, Obt_some, Kn_normal, Nat.zero_add, fldA_ptr, lenS, Obt_map, if_false, if_true, nilX, hfp0, hfp1, clen_sl, hmk]))
  | (revert hK; intro hK; (with_reducible refine hK _ ?_; clear hK K)))
  refine Tx_loopK (fun k s => ∃ (d t : List Pt) (L : List (Nat × HO)) (H2 : List HO) (cs : List CV), f.parts = d ++ t ∧ k = t.length ∧ (∀ p ∈ d, endOk f.parts.length p.fin = true) ∧ RInv (H.length + 1) f.parts.length H.length H1 H2 cs (fun (x : Nat) => predsOf (succs f) x d.length) ∧
    s = ⟨[(0, .ptr (.g nc) 1 0), (3, .ref (.g H.length) 1 0 f.parts.length), (25, sl ptC f.parts), (26, .int .i64 f.parts.length), (27, .int .i64 d.length)], ⟨L, H2⟩⟩) _ ⟨[], f.parts, _, _, _, rfl, rfl, by simp, hR0, rfl⟩ ?_
  rintro k s ⟨d, t, L, H2, cs, h3, rfl, hd, hR, rfl⟩ QL1 hnL1 hxL1 hrL1
  have hlen := congrArg List.length h3
  simp only [List.length_append] at hlen
  simp only [c60l1]
  cases t with
  | nil =>
    simp only [List.length_nil] at hlen
    rw [List.append_nil] at h3
    have hfpR := hfp hR
    have hldR : ∀ L, ldA 2 ⟨L, H2⟩ (.ptr (.g nc) 1 0) = some (.agg (codeC f)) := fun L => by rw [ldA_g, hold hR nc hncl]; simp only [hnc, rdA_var]; rfl
    obtain ⟨_, ⟨H5, rfl⟩, hsu⟩ := x66 f hf.parts
    obtain ⟨H6, hre⟩ := x84 (succs f) hSm (rowsC (succs f)) (IsRows.of _)
    rw [← h3] at hd
    have hRn : RInv (H.length + 1) f.parts.length H.length H1 H2 cs (fun (x : Nat) => predsOf (succs f) x f.parts.length) := by rw [← h3] at hR; exact hR
    repeat' (first
    | with_reducible refine Tx_noK rfl ?_
    | with_reducible refine Tx_exitK ?_
    | with_reducible refine hx0 _ ?_
    | with_reducible refine hxL1 _ _ ?_
    | ((with_reducible refine Tx_regK (fun K hK => ?_); (first | with_reducible refine t60r3 ?_ | with_reducible refine t60r17 ?_)); (try simp only [tget_cons, if_true, if_false, Nat.reduceEqDiff, Obt_some, Kn_normal, Nat.zero_add, fldA_ptr, Obt_lss, if_false, if_true, nilX, hldR]))
    | (revert hK; intro hK; (first | refine And.intro ?_ ?_ | intro _ | omega | (with_reducible refine hK _ ?_; clear hK K))))
    refine callC_O hsu rfl (by simp only [cans, can_agg, codeE.can]) rfl (by simp only [noGs, noG, codeE.noG, Bool.and_self]) rowCC_N rfl fun v1 m1 hO1 hm1 hf1' => ?_
    obtain ⟨m2, e1, e2, e3, _⟩ := hO1.seen.esc1 rowCC_len
    have hrl : (reachL (succs f)).length = f.parts.length := by simp [reachL, succs]
    have hpos : 0 < f.parts.length := List.length_pos_iff.2 hf1
    have hre' : FF 84 [rowsC (succs f)] [] = some (ownC boolC 1 (reachL (succs f)), H6) := by
      rw [hre, ownC, if_neg (by intro h; rw [h] at hrl; simp at hrl; omega)]; rfl
    refine callC_OE hre' rfl (escList_one e1) (by simp only [cans, can_rowsCC]) (by simp only [noGs, noG_rowC rowCC_N, Bool.and_self]) boolC_N rfl fun v2 m3 hO2 hm3 hf2 => ?_
    have hm3' : m3.H = H2 := by rcases hm3 with h | h <;> rw [h]; exact hm1; rw [e2]; exact hm1
    obtain ⟨gn, hv2, hl2⟩ : ∃ gn, v2 = .ref (.l 1664) gn 0 f.parts.length ∧ lget m3.L 1664 = some (.arr gn 1 ((reachL (succs f)).flatMap boolC) 0) := by
      rcases hO2 with ⟨h, _⟩ | ⟨_, g, h1, h2⟩
      · rw [h] at hrl; simp at hrl; omega
      · exact ⟨g, by rw [h1, hrl], h2⟩
    obtain ⟨L3, H3⟩ := m3
    simp only at hm3'
    subst hm3'
    subst hv2
    refine hK _ ?_
    clear hK K
    repeat' (first
    | with_reducible refine Tx_assoc ?_
    | with_reducible refine Tx_blockK (id := 4) (fun Q4 hn4 hx4 hr4 ho4 => ?_)
    | ((with_reducible refine Tx_regK (fun K hK => ?_); with_reducible refine t60r18 ?_); (try simp only [tget_cons, if_true, if_false, Nat.reduceEqDiff, Obt_some, Kn_normal, Nat.zero_add, fldA_ptr, lenS, Obt_map, if_false, if_true, nilX, hfpR, clen_sl]))
    | (revert hK; intro hK; (with_reducible refine hK _ ?_; clear hK K)))
    refine Tx_loopK (fun k s => ∃ (d2 t2 : List Pt) (L : List (Nat × HO)), f.parts = d2 ++ t2 ∧ k = t2.length ∧ (∀ (i : Nat) (p : Pt), d2[i]? = some p → ((i : Int) ∈ ord (succs f) ∧ predsOf (succs f) i f.parts.length = p.pred) ∧ (i = 0 → p.pred = [])) ∧ lget L 1664 = some (.arr gn 1 ((reachL (succs f)).flatMap boolC) 0) ∧
      s = ⟨[(3, .ref (.g H.length) 1 0 f.parts.length), (11, .ref (.l 1664) gn 0 f.parts.length), (109, sl ptC f.parts), (110, .int .i64 f.parts.length), (111, .int .i64 d2.length)], ⟨L, H3⟩⟩) _ ⟨[], f.parts, _, rfl, rfl, fun i p h => by simp at h, hl2, rfl⟩ ?_
    rintro k s ⟨d2, t2, L, h4, rfl, hd2, hL, rfl⟩ QL2 hnL2 hxL2 hrL2
    have hlen2 := congrArg List.length h4
    simp only [List.length_append] at hlen2
    simp only [c60l2]
    cases t2 with
    | nil =>
      simp only [List.length_nil] at hlen2
      rw [List.append_nil] at h4
      repeat' (first
      | with_reducible refine Tx_noK rfl ?_
      | with_reducible refine Tx_exitK ?_
      | with_reducible refine Tx_ret ?_
      | with_reducible refine hx4 _ ?_
      | with_reducible refine hxL2 _ _ ?_
      | ((first | (with_reducible refine Tx_regK (fun K hK => ?_); (first | with_reducible refine t60r19 ?_ | with_reducible refine t60r24 ?_)) | with_reducible refine hqr _ ?_); (try simp only [tget_cons, if_true, if_false, Nat.reduceEqDiff, Obt_some, Kn_normal, Obt_lss, Option.map_some, if_false, if_true, r60, tend, tresAll, tresC, Option.bind_some, mapMem, retv_inil, tup_one, Prod.mk.injEq]))
      | (revert hK; intro hK; (first | refine And.intro ?_ ?_ | intro _ | omega | (with_reducible refine hK _ ?_; clear hK K))))
      refine ⟨_, _, ⟨rfl, rfl⟩, hold hR, ?_⟩
      rw [← h4] at hd2
      rw [if_pos (ways_ok hd hd2 hf1)]
    | cons p t2 =>
      simp only [List.length_cons] at hlen2
      have hpi : f.parts[d2.length]? = some p := by rw [h4]; simp
      have hwd : IntKind.i64.wrap ((d2.length : Int) + 1) = d2.length + 1 := wI (by omega) (by omega)
      have hre1 : (reachL (succs f))[d2.length]? = some (decide ((d2.length : Int) ∈ ord (succs f))) := by
        rw [reachL, List.getElem?_map, List.getElem?_range (by rw [succs_len]; omega)]; rfl
      have hre2 : idxS 1 (.ref (.l 1664) gn 0 f.parts.length) (.int .i64 d2.length) = some (.ptr (.l 1664) gn d2.length) := by
        rw [idxS_ref, if_pos ⟨by omega, by omega⟩]; simp
      have hre3 : ((reachL (succs f)).flatMap boolC)[d2.length]? = some (.bool (decide ((d2.length : Int) ∈ ord (succs f)))) := by rw [flat_bool, hre1]; rfl
      obtain ⟨vr, hvr, hrg⟩ := hRn.get (x := d2.length) (by omega)
      have hxi := hRn.idx (x := (d2.length : Int)) (by omega) (by omega)
      rw [Int.toNat_natCast] at hxi
      have hxl := fun L => hRn.ld hvr (L := L)
      have hpbl := predsOf_len (succs_two f) (d2.length : Int) f.parts.length
      have hEq := x88 H3 vr (sl intC p.pred) _ p.pred (.inr hrg) (.inl rfl) (by omega)
      have hEqc : ∀ L, callC An FF 60 (some 128) 88 [vr, sl intC p.pred] ⟨L, H3⟩ = some (.bool (decide (predsOf (succs f) d2.length f.parts.length = p.pred)), ⟨L, H3⟩) := fun L => by
        rw [callC_I rfl (by simp only [List.all_cons, List.all_nil, RdI.esc (.inr hrg), escP_escQ escP_sl, Bool.and_self]) hEq]; rfl
      have hnext : (((d2.length : Int) ∈ ord (succs f)) ∧ predsOf (succs f) d2.length f.parts.length = p.pred) → (d2.length = 0 → p.pred = []) → ∀ L', lget L' 1664 = some (.arr gn 1 ((reachL (succs f)).flatMap boolC) 0) → QL2 .normal ⟨[(3, .ref (.g H.length) 1 0 f.parts.length), (11, .ref (.l 1664) gn 0 f.parts.length), (109, sl ptC f.parts), (110, .int .i64 f.parts.length), (111, .int .i64 (d2.length + 1))], ⟨L', H3⟩⟩ := fun h1 h2 L' hL' => by
        rw [show ((d2.length : Int) + 1) = ((d2 ++ [p]).length : Int) by simp]
        refine hnL2 t2.length _ (by simp) ⟨d2 ++ [p], t2, L', by simp [h4], rfl, fun i q hq => ?_, hL', rfl⟩
        by_cases hi : i < d2.length
        · rw [List.getElem?_append_left hi] at hq
          exact hd2 i q hq
        · have : i = d2.length := by have := (List.getElem?_eq_some_iff.1 hq).1; simp at this; omega
          subst this
          simp at hq
          subst hq
          exact ⟨h1, h2⟩
      by_cases hb1 : (d2.length : Int) ∈ ord (succs f)
      · rw [decide_eq_true hb1] at hre3
        by_cases hb2 : predsOf (succs f) d2.length f.parts.length = p.pred
        · rw [decide_eq_true hb2] at hEqc
          by_cases hb3 : d2.length = 0
          · have hb3' : decide (((d2.length : Nat) : Int) = 0) = true := decide_eq_true (by omega)
            cases hp : p.pred with
            | nil =>
              have hl0 : ¬ (0 : Int) < ((p.pred.length : Nat) : Int) := by rw [hp]; simp
              repeat' (first
              | with_reducible refine Tx_nopK ?_
              | with_reducible refine Tx_yesK rfl ?_
              | with_reducible refine Tx_no rfl ?_
              | with_reducible refine Tx_nop ?_
              | with_reducible refine Tx_blockK (id := 5) (fun Q5 hn5 hx5 hr5 ho5 => ?_)
              | with_reducible refine hn5 _ ?_
              | (((first | with_reducible refine Tx_regK (fun K hK => ?_) | with_reducible refine Tx_regE (fun K hK => ?_)); (first | with_reducible refine t60r19 ?_ | with_reducible refine t60r20 ?_ | with_reducible refine t60r21 ?_ | with_reducible refine t60r23 ?_)); (try simp only [true_implies, false_implies, not_false_eq_true, tget_cons, if_true, if_false, Nat.reduceEqDiff, ccells, Obt_some, Kn_normal, newL_eq, newP_eq, lget_lset, Nat.reduceAdd, Nat.zero_add, fldA_ptr, ld1_l, rd1_var, rd1_arr, List.getElem?_cons_zero, Obt_lss, Obt_gtr, Obt_eql, Obt_not, gdO_tt, gdO_ff, gdO_ft, Option.map_some, pickX_t, pickX_f, Bool.not_true, lenS, Obt_map, Obt_add, stX_l, stV_var, splice, List.take_zero, List.drop_succ_cons, List.drop_nil, List.nil_append, List.cons_append, List.append_nil, List.length_cons, List.length_nil, and_self, true_and, Nat.le_refl, if_false, if_true, idxS_split ptE.len (by omega) h4, ldA_r10, ptC, hsetL, hL, hre2, hre3, hxi, hxl, hEqc, hb3', hl0, clen_sl, hwd]))
              | (revert hK; intro hK; (first | refine And.intro ?_ ?_ | intro _ | omega | (with_reducible refine hK _ ?_; clear hK K))))
              exact hnext ⟨hb1, hb2⟩ (fun _ => hp) _ (by simp [lget_lset, hL])
            | cons z zs =>
              have hl0 : (0 : Int) < ((p.pred.length : Nat) : Int) := by rw [hp]; simp
              repeat' (first
              | with_reducible refine Tx_nopK ?_
              | with_reducible refine Tx_yesK rfl ?_
              | with_reducible refine Tx_yes rfl ?_
              | with_reducible refine Tx_ret ?_
              | with_reducible refine hr4 _ ?_
              | with_reducible refine Tx_blockK (id := 5) (fun Q5 hn5 hx5 hr5 ho5 => ?_)
              | with_reducible refine hr5 _ ?_
              | with_reducible refine hrL2 _ ?_
              | ((first | (with_reducible refine Tx_regK (fun K hK => ?_); (first | with_reducible refine t60r19 ?_ | with_reducible refine t60r20 ?_ | with_reducible refine t60r21 ?_ | with_reducible refine t60r22 ?_)) | with_reducible refine hqr _ ?_); (try simp only [true_implies, false_implies, not_true_eq_false, tget_cons, if_true, if_false, Nat.reduceEqDiff, ccells, Obt_some, Kn_normal, newL_eq, newP_eq, lget_lset, Nat.reduceAdd, Nat.zero_add, fldA_ptr, List.drop_zero, ld1_l, rd1_var, rd1_arr, List.getElem?_cons_zero, Obt_lss, Obt_gtr, Obt_eql, Obt_not, gdO_tt, gdO_ff, gdO_ft, Option.map_some, pickX_t, pickX_f, Bool.not_true, lenS, Obt_map, fillX, stX_l, stV_var, splice, List.take_zero, List.take_succ_cons, List.drop_succ_cons, List.drop_nil, List.nil_append, List.cons_append, List.append_nil, List.length_cons, List.length_nil, Nat.reduceLeDiff, and_self, and_true, Nat.le_refl, if_false, if_true, r60, tend, tresAll, tresC, Option.bind_some, mapMem, tup_one, Prod.mk.injEq, idxS_split ptE.len (by omega) h4, ldA_r10, ptC, hsetL, hL, hre2, hre3, hxi, hxl, hEqc, hb3', hl0, clen_sl, fill_2, boxG_2, retv_igp]))
              | (revert hK; intro hK; (first | refine And.intro ?_ ?_ | intro _ | omega | (with_reducible refine hK _ ?_; clear hK K))))
              exact bad hR _ (ways_first (by rw [← hb3]; exact hpi) (by rw [hp]; simp))
          · have hb3' : ¬ ((d2.length : Nat) : Int) = 0 := by omega
            repeat' (first
            | with_reducible refine Tx_nopK ?_
            | with_reducible refine Tx_yesK rfl ?_
            | with_reducible refine Tx_no rfl ?_
            | with_reducible refine Tx_nop ?_
            | with_reducible refine Tx_blockK (id := 5) (fun Q5 hn5 hx5 hr5 ho5 => ?_)
            | with_reducible refine hn5 _ ?_
            | (((first | with_reducible refine Tx_regK (fun K hK => ?_) | with_reducible refine Tx_regE (fun K hK => ?_)); (first | with_reducible refine t60r19 ?_ | with_reducible refine t60r20 ?_ | with_reducible refine t60r21 ?_ | with_reducible refine t60r23 ?_)); (try simp only [true_implies, false_implies, not_false_eq_true, tget_cons, if_true, if_false, Nat.reduceEqDiff, ccells, Obt_some, Kn_normal, newL_eq, newP_eq, lget_lset, Nat.reduceAdd, Nat.zero_add, fldA_ptr, ld1_l, rd1_var, rd1_arr, List.getElem?_cons_zero, Obt_lss, Obt_gtr, Obt_eql, Obt_not, gdO_tt, gdO_ff, gdO_ft, Option.map_some, pickX_t, pickX_f, Bool.not_true, lenS, Obt_map, Obt_add, stX_l, stV_var, splice, List.take_zero, List.drop_succ_cons, List.drop_nil, List.nil_append, List.cons_append, List.append_nil, List.length_cons, List.length_nil, and_self, true_and, Nat.le_refl, if_false, if_true, idxS_split ptE.len (by omega) h4, ldA_r10, ptC, hsetL, hL, hre2, hre3, hxi, hxl, hEqc, hb3', hwd]))
            | (revert hK; intro hK; (first | refine And.intro ?_ ?_ | intro _ | omega | (with_reducible refine hK _ ?_; clear hK K))))
            exact hnext ⟨hb1, hb2⟩ (fun h => absurd h hb3) _ (by simp [lget_lset, hL])
        · rw [decide_eq_false hb2] at hEqc
          repeat' (first
          | with_reducible refine Tx_nopK ?_
          | with_reducible refine Tx_yesK rfl ?_
          | with_reducible refine Tx_yes rfl ?_
          | with_reducible refine Tx_ret ?_
          | with_reducible refine hr4 _ ?_
          | with_reducible refine Tx_blockK (id := 5) (fun Q5 hn5 hx5 hr5 ho5 => ?_)
          | with_reducible refine hr5 _ ?_
          | with_reducible refine hrL2 _ ?_
          | ((first | (with_reducible refine Tx_regK (fun K hK => ?_); (first | with_reducible refine t60r19 ?_ | with_reducible refine t60r20 ?_ | with_reducible refine t60r21 ?_ | with_reducible refine t60r22 ?_)) | with_reducible refine hqr _ ?_); (try simp only [tget_cons, if_true, if_false, Nat.reduceEqDiff, ccells, Obt_some, Kn_normal, newL_eq, newP_eq, lget_lset, Nat.reduceAdd, Nat.zero_add, fldA_ptr, List.drop_zero, ld1_l, rd1_var, rd1_arr, List.getElem?_cons_zero, Obt_lss, Obt_not, gdO_tf, gdO_ff, gdO_skip, Option.map_some, pickX_t, pickX_f, Bool.not_true, Bool.not_false, lenS, Obt_map, fillX, stX_l, stV_var, splice, List.take_zero, List.take_succ_cons, List.drop_succ_cons, List.drop_nil, List.nil_append, List.cons_append, List.append_nil, List.length_cons, List.length_nil, Nat.reduceLeDiff, and_self, Nat.le_refl, if_false, if_true, r60, tend, tresAll, tresC, Option.bind_some, mapMem, tup_one, Prod.mk.injEq, idxS_split ptE.len (by omega) h4, ldA_r10, ptC, hsetL, hL, hre2, hre3, hxi, hxl, hEqc, fill_2, boxG_2, retv_igp]))
          | (revert hK; intro hK; (first | refine And.intro ?_ ?_ | intro _ | omega | (with_reducible refine hK _ ?_; clear hK K))))
          exact bad hR _ (ways_part hpi fun h => hb2 h.2)
      · rw [decide_eq_false hb1] at hre3
        repeat' (first
        | with_reducible refine Tx_nopK ?_
        | with_reducible refine Tx_yesK rfl ?_
        | with_reducible refine Tx_yes rfl ?_
        | with_reducible refine Tx_ret ?_
        | with_reducible refine hr4 _ ?_
        | with_reducible refine Tx_blockK (id := 5) (fun Q5 hn5 hx5 hr5 ho5 => ?_)
        | with_reducible refine hr5 _ ?_
        | with_reducible refine hrL2 _ ?_
        | ((first | (with_reducible refine Tx_regK (fun K hK => ?_); (first | with_reducible refine t60r19 ?_ | with_reducible refine t60r20 ?_ | with_reducible refine t60r21 ?_ | with_reducible refine t60r22 ?_)) | with_reducible refine hqr _ ?_); (try simp only [tget_cons, if_true, if_false, Nat.reduceEqDiff, ccells, Obt_some, Kn_normal, newL_eq, newP_eq, lget_lset, Nat.reduceAdd, Nat.zero_add, fldA_ptr, List.drop_zero, ld1_l, rd1_arr, Obt_lss, Obt_not, gdO_tf, gdO_skip, Option.map_some, pickX_t, Bool.not_false, lenS, fillX, stX_l, stV_var, splice, List.take_zero, List.take_succ_cons, List.drop_succ_cons, List.drop_nil, List.nil_append, List.cons_append, List.append_nil, List.length_cons, List.length_nil, Nat.reduceLeDiff, and_self, Nat.le_refl, if_false, if_true, r60, tend, tresAll, tresC, Option.bind_some, mapMem, tup_one, Prod.mk.injEq, idxS_split ptE.len (by omega) h4, ldA_r10, ptC, hsetL, hL, hre2, hre3, fill_2, boxG_2, retv_igp]))
        | (revert hK; intro hK; (first | refine And.intro ?_ ?_ | intro _ | omega | (with_reducible refine hK _ ?_; clear hK K))))
        exact bad hR _ (ways_part hpi fun h => hb1 h.1)
  | cons p t =>
    simp only [List.length_cons] at hlen
    have hpi : f.parts[d.length]? = some p := by rw [h3]; simp
    have hpm : p ∈ f.parts := List.mem_of_getElem? hpi
    have hwd : IntKind.i64.wrap ((d.length : Int) + 1) = d.length + 1 := wI (by omega) (by omega)
    have hsg := succs_get hpi
    obtain ⟨_, ⟨xb, H7, rfl⟩, hC⟩ := x86 p.fin.cond
    have hC : ∀ m, callC An FF 60 (some 37) 86 [.int .i64 p.fin.cond, .int .u64 0, .int .u64 0, .bool true] m = some (.tuple [.bool xb, .bool (condOk p.fin.cond)], m) := fun m =>
      callC_V hC (fun _ _ _ => rfl) rfl rfl rfl rfl rfl
    have hb := fun (h : p.fin.op < 1 ∨ 3 < p.fin.op ∨ (p.fin.op = 2 ∧ (condOk p.fin.cond = false ∨ p.fin.to = p.fin.els))) => bad hR d.length (ways_end hpm (endOk_bad h))
    have hgo : p.fin.op < 1 ∨ 3 < p.fin.op ∨ (p.fin.op = 2 ∧ (condOk p.fin.cond = false ∨ p.fin.to = p.fin.els)) ∨ (¬ p.fin.op < 1 ∧ ¬ 3 < p.fin.op ∧ (p.fin.op = 2 → condOk p.fin.cond = true ∧ ¬ p.fin.to = p.fin.els)) := by
      by_cases h1 : p.fin.op < 1
      · exact .inl h1
      · by_cases h2 : 3 < p.fin.op
        · exact .inr (.inl h2)
        · by_cases h3 : p.fin.op = 2 → condOk p.fin.cond = true ∧ ¬ p.fin.to = p.fin.els
          · exact .inr (.inr (.inr ⟨h1, h2, h3⟩))
          · right; right; left
            cases hcb : condOk p.fin.cond
            · by_cases h4 : p.fin.op = 2
              · exact ⟨h4, .inl rfl⟩
              · exact absurd (fun h => absurd h h4) h3
            · rw [hcb] at h3
              by_cases h4 : p.fin.op = 2
              · by_cases h5 : p.fin.to = p.fin.els
                · exact ⟨h4, .inr h5⟩
                · exact absurd (fun _ => ⟨rfl, h5⟩) h3
              · exact absurd (fun h => absurd h h4) h3
    rcases hgo with h1 | h1 | ⟨h1, h2⟩ | ⟨h1, h2, h2'⟩
    · have hb := hb (.inl h1)
      repeat' (first
      | with_reducible refine Tx_assoc ?_
      | with_reducible refine Tx_nopK ?_
      | with_reducible refine Tx_yesK rfl ?_
      | with_reducible refine Tx_retK ?_
      | with_reducible refine hr0 _ ?_
      | with_reducible refine Tx_blockK (id := 1) (fun Q1 hn1 hx1 hr1 ho1 => ?_)
      | with_reducible refine hr1 _ ?_
      | with_reducible refine hrL1 _ ?_
      | ((first | (with_reducible refine Tx_regK (fun K hK => ?_); (first | with_reducible refine t60r3 ?_ | with_reducible refine t60r4 ?_ | with_reducible refine t60r5 ?_ | with_reducible refine t60r6 ?_ | with_reducible refine t60r7 ?_ | with_reducible refine t60r8 ?_)) | with_reducible refine hqr _ ?_); (try simp only [true_implies, false_implies, not_true_eq_false, tget_cons, if_true, if_false, Nat.reduceEqDiff, ccells, Obt_some, Kn_normal, newL_eq, newP_eq, gn_var, lget_lset, gnext_lset, Nat.reduceAdd, Nat.zero_add, fldA_ptr, List.drop_zero, ld1_l, ldA_l, rd1_var, List.getElem?_cons_zero, List.getElem?_cons_succ, Obt_lss, Obt_gtr, Obt_eql, Obt_not, gdO_tt, gdO_tf, gdO_ff, gdO_ft, gdO_skip, Option.map_some, pickX_t, pickX_f, Obt_pickS, Obt_gdF, Obt_map, fillX, stX_l, stV_var, splice, List.take_zero, List.take_succ_cons, List.drop_succ_cons, List.drop_nil, List.nil_append, List.cons_append, List.append_nil, List.length_cons, List.length_nil, Nat.reduceLeDiff, and_self, and_true, Nat.le_refl, rdA_var, if_false, if_true, r60, tend, tresAll, tresC, Option.bind_some, mapMem, tup_one, Prod.mk.injEq, idxS_split ptE.len (by omega) h3, ldA_r10, ptC, hsetL, extX, hC, h1, fill_2, boxG_2, retv_igp]))
      | (revert hK; intro hK; (first | refine And.intro ?_ ?_ | intro _ | omega | (with_reducible refine hK _ ?_; clear hK K))))
      exact hb
    · have hb := hb (.inr (.inl h1))
      have h0 : ¬ p.fin.op < 1 := by omega
      repeat' (first
      | with_reducible refine Tx_assoc ?_
      | with_reducible refine Tx_nopK ?_
      | with_reducible refine Tx_yesK rfl ?_
      | with_reducible refine Tx_retK ?_
      | with_reducible refine hr0 _ ?_
      | with_reducible refine Tx_blockK (id := 1) (fun Q1 hn1 hx1 hr1 ho1 => ?_)
      | with_reducible refine hr1 _ ?_
      | with_reducible refine hrL1 _ ?_
      | ((first | (with_reducible refine Tx_regK (fun K hK => ?_); (first | with_reducible refine t60r3 ?_ | with_reducible refine t60r4 ?_ | with_reducible refine t60r5 ?_ | with_reducible refine t60r6 ?_ | with_reducible refine t60r7 ?_ | with_reducible refine t60r8 ?_)) | with_reducible refine hqr _ ?_); (try simp only [true_implies, false_implies, not_true_eq_false, not_false_eq_true, tget_cons, if_true, if_false, Nat.reduceEqDiff, ccells, Obt_some, Kn_normal, newL_eq, newP_eq, gn_var, lget_lset, gnext_lset, Nat.reduceAdd, Nat.zero_add, fldA_ptr, List.drop_zero, ld1_l, ldA_l, rd1_var, List.getElem?_cons_zero, List.getElem?_cons_succ, Obt_lss, Obt_gtr, Obt_eql, Obt_not, gdO_tt, gdO_tf, gdO_ff, gdO_ft, gdO_skip, Option.map_some, pickX_t, pickX_f, Obt_pickS, Obt_gdF, Obt_map, fillX, stX_l, stV_var, splice, List.take_zero, List.take_succ_cons, List.drop_succ_cons, List.drop_nil, List.nil_append, List.cons_append, List.append_nil, List.length_cons, List.length_nil, Nat.reduceLeDiff, and_self, and_true, true_and, Nat.le_refl, rdA_var, if_false, if_true, r60, tend, tresAll, tresC, Option.bind_some, mapMem, tup_one, Prod.mk.injEq, idxS_split ptE.len (by omega) h3, ldA_r10, ptC, hsetL, extX, hC, h0, h1, fill_2, boxG_2, retv_igp]))
      | (revert hK; intro hK; (first | refine And.intro ?_ ?_ | intro _ | omega | (with_reducible refine hK _ ?_; clear hK K))))
      exact hb
    · have hb := hb (.inr (.inr ⟨h1, h2⟩))
      cases hcb : condOk p.fin.cond with
      | false =>
        rw [hcb] at hC
        repeat' (first
        | with_reducible refine Tx_assoc ?_
        | with_reducible refine Tx_nopK ?_
        | with_reducible refine Tx_yesK rfl ?_
        | with_reducible refine Tx_retK ?_
        | with_reducible refine hr0 _ ?_
        | with_reducible refine Tx_blockK (id := 1) (fun Q1 hn1 hx1 hr1 ho1 => ?_)
        | with_reducible refine hr1 _ ?_
        | with_reducible refine hrL1 _ ?_
        | ((first | (with_reducible refine Tx_regK (fun K hK => ?_); (first | with_reducible refine t60r3 ?_ | with_reducible refine t60r4 ?_ | with_reducible refine t60r5 ?_ | with_reducible refine t60r6 ?_ | with_reducible refine t60r7 ?_ | with_reducible refine t60r8 ?_)) | with_reducible refine hqr _ ?_); (try simp only [true_implies, false_implies, not_true_eq_false, tget_cons, if_true, if_false, Nat.reduceEqDiff, ccells, Obt_some, Kn_normal, newL_eq, newP_eq, gn_var, lget_lset, gnext_lset, Nat.reduceAdd, Nat.zero_add, fldA_ptr, List.drop_zero, ld1_l, ldA_l, rd1_var, List.getElem?_cons_zero, List.getElem?_cons_succ, Obt_lss, Obt_gtr, Obt_eql, Obt_not, gdO_tt, gdO_tf, gdO_ff, gdO_ft, gdO_skip, Option.map_some, pickX_t, pickX_f, Bool.not_false, Obt_map, fillX, stX_l, stV_var, splice, List.take_zero, List.take_succ_cons, List.drop_succ_cons, List.drop_nil, List.nil_append, List.cons_append, List.append_nil, List.length_cons, List.length_nil, Nat.reduceLeDiff, and_self, and_true, Nat.le_refl, rdA_var, if_false, if_true, r60, tend, tresAll, tresC, Option.bind_some, mapMem, tup_one, Prod.mk.injEq, idxS_split ptE.len (by omega) h3, ldA_r10, ptC, hsetL, extX, hC, h1, fill_2, boxG_2, retv_igp]))
        | (revert hK; intro hK; (first | refine And.intro ?_ ?_ | intro _ | omega | (with_reducible refine hK _ ?_; clear hK K))))
        exact hb
      | true =>
        rw [hcb] at hC h2
        have h2 : p.fin.to = p.fin.els := by rcases h2 with h | h; cases h; exact h
        repeat' (first
        | with_reducible refine Tx_assoc ?_
        | with_reducible refine Tx_nopK ?_
        | with_reducible refine Tx_yesK rfl ?_
        | with_reducible refine Tx_retK ?_
        | with_reducible refine hr0 _ ?_
        | with_reducible refine Tx_blockK (id := 1) (fun Q1 hn1 hx1 hr1 ho1 => ?_)
        | with_reducible refine hr1 _ ?_
        | with_reducible refine hrL1 _ ?_
        | ((first | (with_reducible refine Tx_regK (fun K hK => ?_); (first | with_reducible refine t60r3 ?_ | with_reducible refine t60r4 ?_ | with_reducible refine t60r5 ?_ | with_reducible refine t60r6 ?_ | with_reducible refine t60r7 ?_ | with_reducible refine t60r8 ?_)) | with_reducible refine hqr _ ?_); (try simp only [true_implies, false_implies, not_true_eq_false, tget_cons, if_true, if_false, Nat.reduceEqDiff, ccells, Obt_some, Kn_normal, newL_eq, newP_eq, gn_var, lget_lset, gnext_lset, Nat.reduceAdd, Nat.zero_add, fldA_ptr, List.drop_zero, ld1_l, ldA_l, rd1_var, List.getElem?_cons_zero, List.getElem?_cons_succ, Obt_lss, Obt_gtr, Obt_eql, Obt_not, gdO_tt, gdO_tf, gdO_ff, gdO_ft, gdO_skip, Option.map_some, pickX_t, pickX_f, Bool.not_true, Obt_map, fillX, stX_l, stV_var, splice, List.take_zero, List.take_succ_cons, List.drop_succ_cons, List.drop_nil, List.nil_append, List.cons_append, List.append_nil, List.length_cons, List.length_nil, Nat.reduceLeDiff, and_self, and_true, Nat.le_refl, rdA_var, if_false, if_true, r60, tend, tresAll, tresC, Option.bind_some, mapMem, tup_one, Prod.mk.injEq, idxS_split ptE.len (by omega) h3, ldA_r10, ptC, hsetL, extX, hC, h1, h2, fill_2, boxG_2, retv_igp]))
        | (revert hK; intro hK; (first | refine And.intro ?_ ?_ | intro _ | omega | (with_reducible refine hK _ ?_; clear hK K))))
        exact hb
    · have hnx := nexts_len p.fin
      have h456 : ((p.fin.op = 2) = True ∧ condOk p.fin.cond = true ∧ ¬ p.fin.to = p.fin.els) ∨ (¬ p.fin.op = 2 ∧ ¬ p.fin.op = 2 ∧ ¬ p.fin.op = 2) := by
        by_cases h4 : p.fin.op = 2
        · exact .inl ⟨eq_true h4, h2' h4⟩
        · exact .inr ⟨h4, h4, h4⟩
      rcases h456 with ⟨h4, h5, h6⟩ | ⟨h4, h5, h6⟩
      all_goals
        repeat' (first
        | with_reducible refine Tx_assoc ?_
        | with_reducible refine Tx_nopK ?_
        | with_reducible refine Tx_yesK rfl ?_
        | with_reducible refine Tx_noK rfl ?_
        | with_reducible refine Tx_blockK (id := 1) (fun Q1 hn1 hx1 hr1 ho1 => ?_)
        | ((with_reducible refine Tx_regK (fun K hK => ?_); (first | with_reducible refine t60r3 ?_ | with_reducible refine t60r4 ?_ | with_reducible refine t60r5 ?_ | with_reducible refine t60r6 ?_ | with_reducible refine t60r7 ?_ | with_reducible refine t60r9 ?_)); (try simp only [true_implies, false_implies, not_true_eq_false, not_false_eq_true, tget_cons, if_true, if_false, Nat.reduceEqDiff, ccells, Obt_some, Kn_normal, newL_eq, newP_eq, gn_var, lget_lset, gnext_lset, Nat.reduceAdd, Nat.zero_add, fldA_ptr, List.drop_zero, ld1_l, ldA_l, rd1_var, List.getElem?_cons_zero, List.getElem?_cons_succ, Obt_lss, Obt_gtr, Obt_eql, Obt_not, gdO_tt, gdO_tf, gdO_ff, gdO_ft, gdO_skip, Option.map_some, pickX_t, pickX_f, Obt_pickS, Obt_gdF, Bool.not_true, lenS, Obt_map, stX_l, stV_var, splice, List.take_zero, List.take_succ_cons, List.drop_succ_cons, List.drop_nil, List.nil_append, List.cons_append, List.append_nil, List.length_cons, List.length_nil, and_self, and_true, true_and, Nat.le_refl, rdA_var, if_false, if_true, idxS_split ptE.len (by omega) h3, ldA_r10, ptC, hsetL, extX, hC, h1, h2, h4, h5, h6]))
        | (revert hK; intro hK; (first | refine And.intro ?_ ?_ | intro _ | omega | (with_reducible refine hK _ ?_; clear hK K))))
        refine k87 p.fin rfl fun v1 m1 hO1 hm1 hf1' => ?_
        obtain ⟨L1, H5⟩ := m1
        simp only at hm1
        subst hm1
        simp only [hO1.seen.len, Obt_some]
        refine hK _ ?_
        clear hK K
        repeat' (first
        | with_reducible refine Tx_blockE (id := 2) (fun Q2 hn2 hx2 hr2 ho2 => ?_))
        refine Tx_loopK (fun k s => ∃ (d2 t2 : List Int) (L : List (Nat × HO)) (H5 : List HO) (cs5 : List CV), nexts p.fin = d2 ++ t2 ∧ k = t2.length ∧ (∀ y ∈ d2, 0 ≤ y ∧ y < (f.parts.length : Int)) ∧ OwnV intC 1 ⟨L, H5⟩ 1104 v1 (nexts p.fin) ∧
          RInv (H.length + 1) f.parts.length H.length H1 H5 cs5 (fun (x : Nat) => predsOf (succs f) x d.length ++ (d2.filter fun y => decide (y = (x : Int))).map fun _ => (d.length : Int)) ∧
          s = ⟨[(0, .ptr (.g nc) 1 0), (3, .ref (.g H.length) 1 0 f.parts.length), (4, .int .i64 d.length), (25, sl ptC f.parts), (26, .int .i64 f.parts.length), (27, .int .i64 d.length), (69, v1), (70, .int .i64 (nexts p.fin).length), (71, .int .i64 d2.length)], ⟨L, H5⟩⟩) _ ⟨[], nexts p.fin, _, _, cs, rfl, rfl, by simp, hO1.seen, by simpa using hR, rfl⟩ ?_
        rintro k s ⟨d2, t2, L2, H5, cs5, h7, rfl, hd2, hO2, hR2, rfl⟩ QL0 hnL0 hxL0 hrL0
        have hlen2 := congrArg List.length h7
        simp only [List.length_append] at hlen2
        simp only [c60l0]
        cases t2 with
        | nil =>
          simp only [List.length_nil] at hlen2
          rw [List.append_nil] at h7
          repeat' (first
          | with_reducible refine Tx_noK rfl ?_
          | with_reducible refine Tx_exitK ?_
          | with_reducible refine hn1 _ ?_
          | with_reducible refine hx2 _ ?_
          | with_reducible refine hxL0 _ _ ?_
          | (((first | with_reducible refine Tx_regK (fun K hK => ?_) | with_reducible refine Tx_regE (fun K hK => ?_)); (first | with_reducible refine t60r10 ?_ | with_reducible refine t60r16 ?_)); (try simp only [tget_cons, if_true, if_false, Nat.reduceEqDiff, Kn_normal, Obt_lss, Obt_add, if_false, if_true, hwd]))
          | (revert hK; intro hK; (first | refine And.intro ?_ ?_ | intro _ | omega | (with_reducible refine hK _ ?_; clear hK K))))
          rw [show ((d.length : Int) + 1) = ((d ++ [p]).length : Int) by simp]
          refine hnL1 t.length _ (by simp) ⟨d ++ [p], t, L2, H5, cs5, by simp [h3], rfl, fun q hq => ?_, ?_, rfl⟩
          · rcases List.mem_append.1 hq with hq | hq
            · exact hd q hq
            · simp only [List.mem_singleton] at hq
              subst hq
              exact endOk_ok h1 h2 h2' (by rw [h7]; exact hd2)
          · rw [List.length_append, List.length_singleton]
            have : (fun (x : Nat) => predsOf (succs f) x (d.length + 1)) = fun (x : Nat) => predsOf (succs f) x d.length ++ (d2.filter fun y => decide (y = (x : Int))).map fun _ => (d.length : Int) := by
              funext x
              rw [predsOf_succ, hsg, h7]
            rw [this]; exact hR2
        | cons y t2 =>
          simp only [List.length_cons] at hlen2
          have hyi : (nexts p.fin)[d2.length]? = some y := by rw [h7]; simp
          have hym : y ∈ nexts p.fin := List.mem_of_getElem? hyi
          have hw2 : IntKind.i64.wrap ((d2.length : Int) + 1) = d2.length + 1 := wI (by omega) (by omega)
          obtain ⟨pt, hp1, hp2⟩ := hO2.idx1 hyi
          by_cases h8 : y < 0
          · have hb := bad hR2 d.length (ways_end hpm (endOk_out hym (by omega)))
            repeat' (first
            | with_reducible refine Tx_assoc ?_
            | with_reducible refine Tx_nopK ?_
            | with_reducible refine Tx_yesK rfl ?_
            | with_reducible refine Tx_retK ?_
            | with_reducible refine hr0 _ ?_
            | with_reducible refine hr1 _ ?_
            | with_reducible refine hr2 _ ?_
            | with_reducible refine Tx_blockK (id := 3) (fun Q3 hn3 hx3 hr3 ho3 => ?_)
            | with_reducible refine hr3 _ ?_
            | with_reducible refine hrL0 _ ?_
            | with_reducible refine hrL1 _ ?_
            | ((first | (with_reducible refine Tx_regK (fun K hK => ?_); (first | with_reducible refine t60r10 ?_ | with_reducible refine t60r11 ?_ | with_reducible refine t60r12 ?_ | with_reducible refine t60r13 ?_)) | with_reducible refine hqr _ ?_); (try simp only [true_implies, false_implies, not_true_eq_false, tget_cons, if_true, if_false, Nat.reduceEqDiff, ccells, Obt_some, Kn_normal, Nat.reduceAdd, Nat.zero_add, List.drop_zero, Obt_lss, Obt_geq, gdO_tf, gdO_ff, Option.map_some, pickX_t, pickX_f, lenS, Obt_map, clen_r, fillX, splice, List.take_zero, List.take_succ_cons, List.drop_succ_cons, List.drop_nil, List.nil_append, List.cons_append, List.append_nil, List.length_cons, List.length_nil, Nat.reduceLeDiff, and_self, and_true, Nat.le_refl, if_false, if_true, r60, tend, tresAll, tresC, Option.bind_some, mapMem, tup_one, Prod.mk.injEq, hp1, hp2, h8, fill_2, boxG_2, retv_igp]))
            | (revert hK; intro hK; (first | refine And.intro ?_ ?_ | intro _ | omega | (with_reducible refine hK _ ?_; clear hK K))))
            exact hb
          · by_cases h9 : y < (f.parts.length : Int)
            · have h9' : ¬ ((f.parts.length : Nat) : Int) ≤ y := by omega
              obtain ⟨vr, hvr, hrg⟩ := hR2.get (x := y.toNat) (by omega)
              have hxi := hR2.idx (x := y) (by omega) (by omega)
              have hxl := fun L => hR2.ld hvr (L := L)
              have hpbl := predsOf_len (succs_two f) ((y.toNat : Nat) : Int) d.length
              have hfl := List.length_filter_le (fun z => decide (z = ((y.toNat : Nat) : Int))) d2
              repeat' (first
              | with_reducible refine Tx_assoc ?_
              | with_reducible refine Tx_nopK ?_
              | with_reducible refine Tx_yesK rfl ?_
              | with_reducible refine Tx_noK rfl ?_
              | with_reducible refine Tx_blockK (id := 3) (fun Q3 hn3 hx3 hr3 ho3 => ?_)
              | (((first | with_reducible refine Tx_regK (fun K hK => ?_) | with_reducible refine Tx_regE (fun K hK => ?_)); (first | with_reducible refine t60r10 ?_ | with_reducible refine t60r11 ?_ | with_reducible refine t60r12 ?_ | with_reducible refine t60r14 ?_)); (try simp only [true_implies, false_implies, not_false_eq_true, tget_cons, if_true, if_false, Nat.reduceEqDiff, Obt_some, Kn_normal, Obt_lss, Obt_geq, gdO_tf, gdO_ff, pickX_t, pickX_f, lenS, Obt_map, clen_r, true_and, if_false, if_true, bslX_int, hp1, hp2, h8, h9, h9', clen_r, hxi, hxl, hsetL]))
              | (revert hK; intro hK; (first | refine And.intro ?_ ?_ | intro _ | omega | (with_reducible refine hK _ ?_; clear hK K))))
              obtain ⟨w, H6, H7, cs', e1, e2, hR3⟩ := hR2.step (x := y.toNat) (by omega) hvr (d.length : Int) (gt := gnext L2 1504) (j := 1520) (jt := 1504) (L := lset L2 1504 (HO.arr (gnext L2 1504) 1 [CV.int IntKind.i64 ↑d.length] 0)) (by rw [lget_lset, if_pos rfl]) (by simp only [List.length_append, List.length_map]; omega)
              rw [e1, Obt_some]
              simp only [e2, Obt_some]
              refine hK _ ?_
              clear hK K
              repeat' (first
              | with_reducible refine hn3 _ ?_
              | ((with_reducible refine Tx_regE (fun K hK => ?_); with_reducible refine t60r15 ?_); (try simp only [tget_cons, if_true, if_false, Nat.reduceEqDiff, Kn_normal, Obt_add, if_false, if_true, hw2]))
              | (revert hK; intro hK; (with_reducible refine hK _ ?_; clear hK K)))
              rw [show ((d2.length : Int) + 1) = ((d2 ++ [y]).length : Int) by simp]
              refine hnL0 t2.length _ (by simp) ⟨d2 ++ [y], t2, _, H7, cs', by simp [h7], rfl, fun z hz => ?_, hO2.keep ?_, ?_, rfl⟩
              · rcases List.mem_append.1 hz with hz | hz
                · exact hd2 z hz
                · simp only [List.mem_singleton] at hz
                  subst hz
                  exact ⟨by omega, h9⟩
              · rw [lget_lset, if_neg (by decide)]
              · have : (fun (x : Nat) => predsOf (succs f) x d.length ++ ((d2 ++ [y]).filter fun z => decide (z = (x : Int))).map fun _ => (d.length : Int)) =
                    fun x => if x = y.toNat then (predsOf (succs f) (y.toNat : Nat) d.length ++ (d2.filter fun z => decide (z = ((y.toNat : Nat) : Int))).map fun _ => (d.length : Int)) ++ [(d.length : Int)] else predsOf (succs f) x d.length ++ (d2.filter fun z => decide (z = (x : Int))).map fun _ => (d.length : Int) := by
                  funext x
                  have hy : ((y.toNat : Nat) : Int) = y := by omega
                  split
                  · rename_i hx
                    subst hx
                    rw [List.filter_append, List.map_append, ← List.append_assoc]
                    simp [hy]
                  · rename_i hx
                    rw [List.filter_append, List.map_append]
                    have : ¬ y = (x : Int) := by omega
                    simp [this]
                rw [this]; exact hR3
            · have hb := bad hR2 d.length (ways_end hpm (endOk_out hym (by omega)))
              have h9' : ((f.parts.length : Nat) : Int) ≤ y := by omega
              repeat' (first
              | with_reducible refine Tx_assoc ?_
              | with_reducible refine Tx_nopK ?_
              | with_reducible refine Tx_yesK rfl ?_
              | with_reducible refine Tx_retK ?_
              | with_reducible refine hr0 _ ?_
              | with_reducible refine hr1 _ ?_
              | with_reducible refine hr2 _ ?_
              | with_reducible refine Tx_blockK (id := 3) (fun Q3 hn3 hx3 hr3 ho3 => ?_)
              | with_reducible refine hr3 _ ?_
              | with_reducible refine hrL0 _ ?_
              | with_reducible refine hrL1 _ ?_
              | ((first | (with_reducible refine Tx_regK (fun K hK => ?_); (first | with_reducible refine t60r10 ?_ | with_reducible refine t60r11 ?_ | with_reducible refine t60r12 ?_ | with_reducible refine t60r13 ?_)) | with_reducible refine hqr _ ?_); (try simp only [true_implies, false_implies, not_true_eq_false, not_false_eq_true, tget_cons, if_true, if_false, Nat.reduceEqDiff, ccells, Obt_some, Kn_normal, Nat.reduceAdd, Nat.zero_add, List.drop_zero, Obt_lss, Obt_geq, gdO_tf, gdO_ff, Option.map_some, pickX_t, pickX_f, lenS, Obt_map, clen_r, fillX, splice, List.take_zero, List.take_succ_cons, List.drop_succ_cons, List.drop_nil, List.nil_append, List.cons_append, List.append_nil, List.length_cons, List.length_nil, Nat.reduceLeDiff, and_self, and_true, true_and, Nat.le_refl, if_false, if_true, r60, tend, tresAll, tresC, Option.bind_some, mapMem, tup_one, Prod.mk.injEq, hp1, hp2, h8, h9, h9', clen_r, fill_2, boxG_2, retv_igp]))
              | (revert hK; intro hK; (first | refine And.intro ?_ ?_ | intro _ | omega | (with_reducible refine hK _ ?_; clear hK K))))
              exact hb
end Go.Cm

/-
  Code as values: may it be?
-/
namespace Go.Cm
open Go.Proofs Go.Ir Go.Gr
theorem isE_nil {y : Int} {H : List HO} : FF 63 [.inil, .iface 127 (.int .i64 y)] H = some (.bool false, H) := by
  refine Fw_iff.2 ⟨1, ?_⟩
  have : EE 63 [.inil, .iface 127 (.int .i64 y)] H = some (.bool false, H) := by simp only [EE, BB, tab, if_true, if_false, Nat.reduceEqDiff, isF_nil]
  simp only [tcall, show An.pure 63 = false from rfl, cin, Bool.false_eq_true, if_false, this]
theorem isE_ref {n : Nat} {p x y : Int} {H : List HO} (h : H[n]? = some (.var 1 [.int .i64 p, .int .i64 x] 0)) : FF 63 [.iface 152 (.ptr (.g n) 1 0), .iface 127 (.int .i64 y)] H = some (.bool (x == y), H) := by
  refine Fw_iff.2 ⟨1, ?_⟩
  have : EE 63 [.iface 152 (.ptr (.g n) 1 0), .iface 127 (.int .i64 y)] H = some (.bool (x == y), H) := by simp only [EE, BB, tab, if_true, if_false, Nat.reduceEqDiff, isF_ref h]
  simp only [tcall, show An.pure 63 = false from rfl, cin, Bool.false_eq_true, if_false, this]
theorem isC_nil {fid : FuncId} {d : Tmp} {y : Int} {L : List (Nat × HO)} {H : List HO} : callC An FF fid (some d) 63 [.inil, .iface 127 (.int .i64 y)] ⟨L, H⟩ = some (.bool false, ⟨L, H⟩) := by
  rw [callC_I rfl rfl isE_nil]; rfl
theorem isC_ref {fid : FuncId} {d : Tmp} {n : Nat} {p x y : Int} {L : List (Nat × HO)} {H : List HO} (h : H[n]? = some (.var 1 [.int .i64 p, .int .i64 x] 0)) : callC An FF fid (some d) 63 [.iface 152 (.ptr (.g n) 1 0), .iface 127 (.int .i64 y)] ⟨L, H⟩ = some (.bool (x == y), ⟨L, H⟩) := by
  rw [callC_I rfl rfl (isE_ref h)]; rfl
/-- what stands in everybody's memory behind so many of the three rounds -/
def ChkAt (f : Cd) : Nat → List HO → Prop
  | 0, H => H = [.var 1 [sl ptC f.parts, .int .i64 f.values, .nil, .nil] 0]
  | 1, H => waysOk f = true ∧ H[0]? = some (.var 1 [sl ptC f.parts, .int .i64 f.values, .nil, .nil] 0)
  | 2, H => waysOk f = true ∧ ∃ l np, places f = some l ∧ l.length = f.values.toNat ∧ H[0]? = some (.var 1 [sl ptC f.parts, .int .i64 f.values, .ref (.g np) 1 0 l.length, .nil] 0) ∧ H[np]? = some (.arr 1 2 (l.flatMap plC) 0) ∧ (∀ (i : Nat) (x : Int × Int), l[i]? = some (some x) → 0 ≤ x.1)
  | _, _ => waysOk f = true ∧ ∃ l, places f = some l ∧ usedOk f l = true
set_option maxHeartbeats 2000000 in
theorem x36 (f : Cd) (hf : Sized f) : ∃ r, (∃ H', r = (CV.int .i64 (if codeOk f = true then 0 else 160), H')) ∧ FF 36 [.agg (codeC f)] [] = some r := by
  have hsetL : ∀ (L : List (Nat × HO)) (H : List HO) j o, setL ⟨L, H⟩ j o = ⟨lset L j o, H⟩ := fun _ _ _ _ => rfl
  by_cases h1 : (f.parts.length : Int) < 1
  · have hc : codeOk f = false := by unfold codeOk; rw [decide_eq_false (by omega : ¬ 1 ≤ f.parts.length)]; rfl
    refine Fw_funE rfl Try.func36 s36 (Nat.le_of_ble_eq_true rfl) (fun Q hqr hqn => ?_)
    rw [cin_t (show An.pure 36 = true from rfl) (by simp only [cans, can_int, can_bool, can_agg, can_str, codeE.can])]
    simp only [tinit, Nat.reduceAdd, c36]
    repeat' (first
    | with_reducible refine Tx_assoc ?_
    | with_reducible refine Tx_yesK rfl ?_
    | with_reducible refine Tx_retK ?_
    | ((first | (with_reducible refine Tx_regK (fun K hK => ?_); (first | with_reducible refine t36r0 ?_ | with_reducible refine t36r1 ?_ | with_reducible refine t36r2 ?_)) | with_reducible refine hqr _ ?_); (try simp only [true_implies, false_implies, not_true_eq_false, tget_cons, if_true, ccells, Obt_some, Kn_normal, newL_eq, newP_eq, lget_setL, setL_H, Nat.zero_add, fldA_ptr, ld1_l, rd1_var, List.getElem?_cons_zero, List.getElem?_cons_succ, Obt_lss, Obt_gtr, gdO_tf, gdO_ff, Option.map_some, pickX_t, pickX_f, lenS, Obt_map, and_true, true_and, if_true, r36, tend, tresAll, tresC, Option.bind_some, mapMem, retv_int, tup_one, Prod.mk.injEq, CV.int.injEq, codeC, clen_sl, h1]))
    | (revert hK; intro hK; (with_reducible refine hK _ ?_; clear hK K)))
    rw [hc, if_neg (by decide)]
    exact ⟨_, rfl, rfl⟩
  by_cases h2 : (8192 : Int) < f.parts.length
  · have hc : codeOk f = false := by unfold codeOk; rw [decide_eq_false (by omega : ¬ f.parts.length ≤ 8192)]; simp
    refine Fw_funE rfl Try.func36 s36 (Nat.le_of_ble_eq_true rfl) (fun Q hqr hqn => ?_)
    rw [cin_t (show An.pure 36 = true from rfl) (by simp only [cans, can_int, can_bool, can_agg, can_str, codeE.can])]
    simp only [tinit, Nat.reduceAdd, c36]
    repeat' (first
    | with_reducible refine Tx_assoc ?_
    | with_reducible refine Tx_yesK rfl ?_
    | with_reducible refine Tx_retK ?_
    | ((first | (with_reducible refine Tx_regK (fun K hK => ?_); (first | with_reducible refine t36r0 ?_ | with_reducible refine t36r1 ?_ | with_reducible refine t36r2 ?_)) | with_reducible refine hqr _ ?_); (try simp only [true_implies, false_implies, not_true_eq_false, not_false_eq_true, tget_cons, if_true, ccells, Obt_some, Kn_normal, newL_eq, newP_eq, lget_setL, setL_H, Nat.zero_add, fldA_ptr, ld1_l, rd1_var, List.getElem?_cons_zero, List.getElem?_cons_succ, Obt_lss, Obt_gtr, gdO_tf, gdO_ff, Option.map_some, pickX_t, pickX_f, lenS, Obt_map, and_true, true_and, if_true, r36, tend, tresAll, tresC, Option.bind_some, mapMem, retv_int, tup_one, Prod.mk.injEq, CV.int.injEq, codeC, clen_sl, h1, h2]))
    | (revert hK; intro hK; (with_reducible refine hK _ ?_; clear hK K)))
    rw [hc, if_neg (by decide)]
    exact ⟨_, rfl, rfl⟩
  by_cases h3 : f.values < 0
  · have hc : codeOk f = false := by unfold codeOk; rw [decide_eq_false (by omega : ¬ 0 ≤ f.values)]; simp
    refine Fw_funE rfl Try.func36 s36 (Nat.le_of_ble_eq_true rfl) (fun Q hqr hqn => ?_)
    rw [cin_t (show An.pure 36 = true from rfl) (by simp only [cans, can_int, can_bool, can_agg, can_str, codeE.can])]
    simp only [tinit, Nat.reduceAdd, c36]
    repeat' (first
    | with_reducible refine Tx_assoc ?_
    | with_reducible refine Tx_yesK rfl ?_
    | with_reducible refine Tx_retK ?_
    | ((first | (with_reducible refine Tx_regK (fun K hK => ?_); (first | with_reducible refine t36r0 ?_ | with_reducible refine t36r1 ?_ | with_reducible refine t36r2 ?_)) | with_reducible refine hqr _ ?_); (try simp only [true_implies, false_implies, not_true_eq_false, not_false_eq_true, tget_cons, if_true, ccells, Obt_some, Kn_normal, newL_eq, newP_eq, lget_setL, setL_H, Nat.zero_add, fldA_ptr, ld1_l, rd1_var, List.getElem?_cons_zero, List.getElem?_cons_succ, Obt_lss, Obt_gtr, gdO_tf, gdO_ff, Option.map_some, pickX_t, pickX_f, lenS, Obt_map, and_true, true_and, if_true, r36, tend, tresAll, tresC, Option.bind_some, mapMem, retv_int, tup_one, Prod.mk.injEq, CV.int.injEq, codeC, clen_sl, h1, h2, h3]))
    | (revert hK; intro hK; (with_reducible refine hK _ ?_; clear hK K)))
    rw [hc, if_neg (by decide)]
    exact ⟨_, rfl, rfl⟩
  by_cases h4 : 65536 < f.values
  · have hc : codeOk f = false := by unfold codeOk; rw [decide_eq_false (by omega : ¬ f.values ≤ 65536)]; simp
    refine Fw_funE rfl Try.func36 s36 (Nat.le_of_ble_eq_true rfl) (fun Q hqr hqn => ?_)
    rw [cin_t (show An.pure 36 = true from rfl) (by simp only [cans, can_int, can_bool, can_agg, can_str, codeE.can])]
    simp only [tinit, Nat.reduceAdd, c36]
    repeat' (first
    | with_reducible refine Tx_assoc ?_
    | with_reducible refine Tx_yesK rfl ?_
    | with_reducible refine Tx_retK ?_
    | ((first | (with_reducible refine Tx_regK (fun K hK => ?_); (first | with_reducible refine t36r0 ?_ | with_reducible refine t36r1 ?_ | with_reducible refine t36r2 ?_)) | with_reducible refine hqr _ ?_); (try simp only [true_implies, false_implies, not_true_eq_false, not_false_eq_true, tget_cons, if_true, ccells, Obt_some, Kn_normal, newL_eq, newP_eq, lget_setL, setL_H, Nat.zero_add, fldA_ptr, ld1_l, rd1_var, List.getElem?_cons_zero, List.getElem?_cons_succ, Obt_lss, Obt_gtr, gdO_tf, gdO_ff, Option.map_some, pickX_t, pickX_f, lenS, Obt_map, and_true, true_and, if_true, r36, tend, tresAll, tresC, Option.bind_some, mapMem, retv_int, tup_one, Prod.mk.injEq, CV.int.injEq, codeC, clen_sl, h1, h2, h3, h4]))
    | (revert hK; intro hK; (with_reducible refine hK _ ?_; clear hK K)))
    rw [hc, if_neg (by decide)]
    exact ⟨_, rfl, rfl⟩
  have hne : f.parts ≠ [] := by rintro h; rw [h] at h1; simp at h1
  have hcode : codeOk f = (waysOk f && match places f with | some l => usedOk f l | none => false) := by
    unfold codeOk
    rw [decide_eq_true (by omega : 1 ≤ f.parts.length), decide_eq_true (by omega : f.parts.length ≤ 8192), decide_eq_true (by omega : 0 ≤ f.values), decide_eq_true (by omega : f.values ≤ 65536)]
    rfl
  have hbox : ∀ L, boxG (.agg [sl ptC f.parts, .int .i64 f.values, .nil, .nil]) ⟨L, []⟩ = some (.ptr (.g 0) 1 0, ⟨L, [.var 1 [sl ptC f.parts, .int .i64 f.values, .nil, .nil] 0]⟩) := fun _ => rfl
  obtain ⟨fs, hfs⟩ : ∃ fs, fs = [CV.func (.func 60) [.ptr (.g 0) 1 0] [], .func (.func 61) [.ptr (.g 0) 1 0] [], .func (.func 62) [.ptr (.g 0) 1 0] []] := ⟨_, rfl⟩
  have hbs : ∀ L H, bslX false 576 1 3 [.nilf, .nilf, .nilf] [(0, 1, .func (.func 60) [.ptr (.g 0) 1 0] []), (1, 1, .func (.func 61) [.ptr (.g 0) 1 0] []), (2, 1, .func (.func 62) [.ptr (.g 0) 1 0] [])] ⟨L, H⟩ =
      some (.ref (.l 576) (gnext L 576) 0 3, ⟨lset L 576 (.arr (gnext L 576) 1 fs 0), H⟩) := fun L H => by rw [hfs]; rfl
  refine Fw_funE rfl Try.func36 s36 (Nat.le_of_ble_eq_true rfl) (fun Q hqr hqn => ?_)
  rw [cin_t (show An.pure 36 = true from rfl) (by simp only [cans, can_int, can_bool, can_agg, can_str, codeE.can])]
  simp only [tinit, Nat.reduceAdd, c36]
  repeat' (first
  | with_reducible refine Tx_assoc ?_
  | with_reducible refine Tx_nopK ?_
  | with_reducible refine Tx_noK rfl ?_
  | with_reducible refine Tx_blockK (id := 0) (fun Q0 hn0 hx0 hr0 ho0 => ?_)
  | ((with_reducible refine Tx_regK (fun K hK => ?_); (first | with_reducible refine t36r0 ?_ | with_reducible refine t36r1 ?_ | with_reducible refine t36r3 ?_ | with_reducible refine t36r4 ?_)); (try simp only [true_implies, false_implies, not_false_eq_true, tget_cons, if_true, if_false, Nat.reduceEqDiff, ccells, Obt_some, Kn_normal, newL_eq, newP_eq, gn_var, lget_lset, gnext_lset, Nat.reduceAdd, Nat.zero_add, fldA_ptr, List.drop_zero, ld1_l, ldA_l, rd1_var, List.getElem?_cons_zero, List.getElem?_cons_succ, Obt_lss, Obt_gtr, gdO_tf, gdO_ff, Option.map_some, pickX_t, pickX_f, lenS, Obt_map, clen_r, fillX, splice, List.take_zero, List.take_succ_cons, List.drop_succ_cons, List.nil_append, List.cons_append, List.length_cons, List.length_nil, Nat.reduceLeDiff, and_true, true_and, Nat.le_refl, rdA_var, if_false, if_true, codeC, clen_sl, h1, h2, h3, h4, hsetL, hbox, hbs, clen_r]))
  | (revert hK; intro hK; (with_reducible refine hK _ ?_; clear hK K)))
  refine Tx_loopK (fun k s => ∃ (i : Nat) (gn : Nat) (L : List (Nat × HO)) (H : List HO), i ≤ 3 ∧ k = 3 - i ∧ ChkAt f i H ∧ lget L 576 = some (.arr gn 1 fs 0) ∧
    s = ⟨[(36, .ref (.l 576) gn 0 3), (37, .int .i64 3), (38, .int .i64 i)], ⟨L, H⟩⟩) _ ⟨0, _, _, _, by omega, rfl, rfl, by simp [lget_lset], rfl⟩ ?_
  rintro k s ⟨i, gn, L, H, hi, rfl, hA, hL, rfl⟩ QL0 hnL0 hxL0 hrL0
  simp only [c36l0]
  have hidx : ∀ j : Nat, j < 3 → idxS 1 (.ref (.l 576) gn 0 3) (.int .i64 j) = some (.ptr (.l 576) gn j) := fun j hj => by rw [idxS_ref, if_pos ⟨by omega, by omega⟩]; simp
  by_cases hi3 : i = 3
  · subst hi3
    obtain ⟨hw, l, hl, hu⟩ := hA
    have hc : codeOk f = true := by rw [hcode, hw, hl]; simpa using hu
    have hlt : ¬ ((3 : Nat) : Int) < 3 := by decide
    repeat' (first
    | with_reducible refine Tx_noK rfl ?_
    | with_reducible refine Tx_exitK ?_
    | with_reducible refine Tx_ret ?_
    | with_reducible refine hx0 _ ?_
    | with_reducible refine hxL0 _ _ ?_
    | ((first | (with_reducible refine Tx_regK (fun K hK => ?_); (first | with_reducible refine t36r5 ?_ | with_reducible refine t36r11 ?_)) | with_reducible refine hqr _ ?_); (try simp only [true_implies, false_implies, not_false_eq_true, tget_cons, if_true, if_false, Nat.reduceEqDiff, Obt_some, Kn_normal, Obt_lss, Option.map_some, true_and, if_false, if_true, r36, tend, tresAll, tresC, Option.bind_some, mapMem, retv_int, tup_one, Prod.mk.injEq, CV.int.injEq, hlt]))
    | (revert hK; intro hK; (with_reducible refine hK _ ?_; clear hK K)))
    rw [hc, if_pos rfl]
    exact ⟨_, rfl, rfl⟩
  obtain ⟨fid, v, H', hfi, hF, hres⟩ : ∃ fid v H', fs[i]? = some (.func (.func fid) [.ptr (.g 0) 1 0] []) ∧ callC An FF 36 (some 43) fid [.ptr (.g 0) 1 0] ⟨L, H⟩ = some (v, ⟨L, H'⟩) ∧
      ((v = .inil ∧ ChkAt f (i + 1) H') ∨ (codeOk f = false ∧ ∃ why : Int, (why = 1 ∨ why = 2 ∨ why = 3) ∧ Refus H' v why)) := by
    have fin : ∀ fid v H', (fs[i]? = some (.func (.func fid) [.ptr (.g 0) 1 0] []) ∧ An.pure fid = false ∧ FF fid [.ptr (.g 0) 1 0] H = some (v, H') ∧
      ((v = .inil ∧ ChkAt f (i + 1) H') ∨ (codeOk f = false ∧ ∃ why : Int, (why = 1 ∨ why = 2 ∨ why = 3) ∧ Refus H' v why))) → ∃ fid v H', fs[i]? = some (.func (.func fid) [.ptr (.g 0) 1 0] []) ∧ callC An FF 36 (some 43) fid [.ptr (.g 0) 1 0] ⟨L, H⟩ = some (v, ⟨L, H'⟩) ∧
      ((v = .inil ∧ ChkAt f (i + 1) H') ∨ (codeOk f = false ∧ ∃ why : Int, (why = 1 ∨ why = 2 ∨ why = 3) ∧ Refus H' v why)) := by
      rintro fid v H' ⟨a1, a2, a3, a4⟩
      refine ⟨fid, v, H', a1, ?_, a4⟩
      rw [callC_I a2 rfl a3]
      rcases a4 with ⟨rfl, _⟩ | ⟨_, why, _, n, p, rfl, _⟩ <;> rfl
    match i, hi, hi3, hA with
    | i + 3, hi, hi3, _ => omega
    | 0, _, _, hA =>
      obtain ⟨_, ⟨v, H', rfl, hold, hv⟩, hF⟩ := x60 H f 0 hf hne (by omega) (by rw [hA]; rfl)
      refine fin _ v H' ⟨by rw [hfs]; rfl, rfl, hF, ?_⟩
      cases hw : waysOk f with
      | true =>
        rw [hw, if_pos rfl] at hv
        exact .inl ⟨hv, hw, by rw [hold 0 (by rw [hA]; exact Nat.zero_lt_one), hA]; rfl⟩
      | false =>
        rw [hw, if_neg (by decide)] at hv
        exact .inr ⟨by rw [hcode, hw]; rfl, 1, .inl rfl, hv⟩
    | 1, _, _, hA =>
      obtain ⟨hw, hA⟩ := hA
      obtain ⟨_, ⟨v, H', rfl, hold, hv⟩, hF⟩ := x61 H f 0 hf (by omega) (by omega) hA
      refine fin _ v H' ⟨by rw [hfs]; rfl, rfl, hF, ?_⟩
      cases hl : places f with
      | some l =>
        rw [hl] at hv
        obtain ⟨hv, hll, h1, h2, h3⟩ := hv
        exact .inl ⟨hv, hw, l, _, hl, hll, h1, h2, h3⟩
      | none =>
        rw [hl] at hv
        exact .inr ⟨by rw [hcode, hw, hl]; rfl, 2, .inr (.inl rfl), hv⟩
    | 2, _, _, hA =>
      obtain ⟨hw, l, np, hl, hll, h1, h2, h3⟩ := hA
      obtain ⟨_, ⟨v, H', rfl, hold, hv⟩, hF⟩ := x62 H f l 0 np hf hne hw h1 h2 h3 (by omega)
      refine fin _ v H' ⟨by rw [hfs]; rfl, rfl, hF, ?_⟩
      cases hu : usedOk f l with
      | true =>
        rw [hu, if_pos rfl] at hv
        exact .inl ⟨hv, hw, l, hl, hu⟩
      | false =>
        rw [hu, if_neg (by decide)] at hv
        exact .inr ⟨by rw [hcode, hw, hl]; simpa using hu, 3, .inr (.inr rfl), hv⟩
  have hinv : invokeC An FF 36 (some 43) (.func (.func fid) [.ptr (.g 0) 1 0] []) [] ⟨L, H⟩ = some (v, ⟨L, H'⟩) := hF
  have hlt : ((i : Nat) : Int) < 3 := by omega
  have hw1 : IntKind.i64.wrap (((i : Nat) : Int) + 1) = ((i + 1 : Nat) : Int) := by rw [wI (by omega) (by omega)]; rfl
  have hidx := hidx i (by omega)
  rcases hres with ⟨rfl, hA2⟩ | ⟨hc, why, hwhy, n, p, rfl, hn⟩
  · have hi1 : ∀ y d, callC An FF 36 (some d) 63 [.inil, .iface 127 (.int .i64 y)] ⟨L, H'⟩ = some (.bool false, ⟨L, H'⟩) := fun y d => isC_nil
    repeat' (first
    | with_reducible refine Tx_nopK ?_
    | with_reducible refine Tx_yesK rfl ?_
    | with_reducible refine Tx_no rfl ?_
    | with_reducible refine Tx_nop ?_
    | with_reducible refine Tx_blockK (id := 1) (fun Q1 hn1 hx1 hr1 ho1 => ?_)
    | with_reducible refine hn1 _ ?_
    | (((first | with_reducible refine Tx_regK (fun K hK => ?_) | with_reducible refine Tx_regE (fun K hK => ?_)); (first | with_reducible refine t36r5 ?_ | with_reducible refine t36r6 ?_ | with_reducible refine t36r7 ?_ | with_reducible refine t36r8 ?_ | with_reducible refine t36r10 ?_)); (try simp only [true_implies, false_implies, not_true_eq_false, tget_cons, if_true, if_false, Nat.reduceEqDiff, Obt_some, Kn_normal, ld1_l, rd1_arr, Obt_lss, gdO_ff, pickX_f, Obt_add, and_true, if_false, if_true, hlt, hidx, hL, hfi, hinv, hi1, hw1]))
    | (revert hK; intro hK; (with_reducible refine hK _ ?_; clear hK K)))
    refine hnL0 (3 - (i + 1)) _ (by omega) ⟨i + 1, gn, L, H', by omega, rfl, hA2, hL, rfl⟩
  · have hi1 : ∀ y d, callC An FF 36 (some d) 63 [.iface 152 (.ptr (.g n) 1 0), .iface 127 (.int .i64 y)] ⟨L, H'⟩ = some (.bool (why == y), ⟨L, H'⟩) := fun y d => isC_ref hn
    have e1 := hi1 1
    have e2 := hi1 2
    have e3 := hi1 3
    rcases hwhy with rfl | rfl | rfl
    · rw [show ((1 : Int) == 1) = true from rfl] at e1
      repeat' (first
      | with_reducible refine Tx_nopK ?_
      | with_reducible refine Tx_yesK rfl ?_
      | with_reducible refine Tx_yes rfl ?_
      | with_reducible refine Tx_ret ?_
      | with_reducible refine hr0 _ ?_
      | with_reducible refine Tx_blockK (id := 1) (fun Q1 hn1 hx1 hr1 ho1 => ?_)
      | with_reducible refine hr1 _ ?_
      | with_reducible refine hrL0 _ ?_
      | ((first | (with_reducible refine Tx_regK (fun K hK => ?_); (first | with_reducible refine t36r5 ?_ | with_reducible refine t36r6 ?_ | with_reducible refine t36r7 ?_ | with_reducible refine t36r8 ?_ | with_reducible refine t36r9 ?_)) | with_reducible refine hqr _ ?_); (try simp only [true_implies, false_implies, not_true_eq_false, tget_cons, if_true, if_false, Nat.reduceEqDiff, Obt_some, Kn_normal, ld1_l, rd1_arr, Obt_lss, gdO_tf, Option.map_some, pickX_t, and_true, true_and, if_false, if_true, r36, tend, tresAll, tresC, Option.bind_some, mapMem, retv_int, tup_one, Prod.mk.injEq, CV.int.injEq, hlt, hidx, hL, hfi, hinv, e1]))
      | (revert hK; intro hK; (with_reducible refine hK _ ?_; clear hK K)))
      rw [hc, if_neg (by decide)]
      exact ⟨_, rfl, rfl⟩
    · rw [show ((2 : Int) == 1) = false from rfl] at e1
      rw [show ((2 : Int) == 2) = true from rfl] at e2
      repeat' (first
      | with_reducible refine Tx_nopK ?_
      | with_reducible refine Tx_yesK rfl ?_
      | with_reducible refine Tx_yes rfl ?_
      | with_reducible refine Tx_ret ?_
      | with_reducible refine hr0 _ ?_
      | with_reducible refine Tx_blockK (id := 1) (fun Q1 hn1 hx1 hr1 ho1 => ?_)
      | with_reducible refine hr1 _ ?_
      | with_reducible refine hrL0 _ ?_
      | ((first | (with_reducible refine Tx_regK (fun K hK => ?_); (first | with_reducible refine t36r5 ?_ | with_reducible refine t36r6 ?_ | with_reducible refine t36r7 ?_ | with_reducible refine t36r8 ?_ | with_reducible refine t36r9 ?_)) | with_reducible refine hqr _ ?_); (try simp only [true_implies, false_implies, not_true_eq_false, tget_cons, if_true, if_false, Nat.reduceEqDiff, Obt_some, Kn_normal, ld1_l, rd1_arr, Obt_lss, gdO_tf, gdO_ff, Option.map_some, pickX_t, pickX_f, and_true, true_and, if_false, if_true, r36, tend, tresAll, tresC, Option.bind_some, mapMem, retv_int, tup_one, Prod.mk.injEq, CV.int.injEq, hlt, hidx, hL, hfi, hinv, e1, e2]))
      | (revert hK; intro hK; (with_reducible refine hK _ ?_; clear hK K)))
      rw [hc, if_neg (by decide)]
      exact ⟨_, rfl, rfl⟩
    · rw [show ((3 : Int) == 1) = false from rfl] at e1
      rw [show ((3 : Int) == 2) = false from rfl] at e2
      rw [show ((3 : Int) == 3) = true from rfl] at e3
      repeat' (first
      | with_reducible refine Tx_nopK ?_
      | with_reducible refine Tx_yesK rfl ?_
      | with_reducible refine Tx_yes rfl ?_
      | with_reducible refine Tx_ret ?_
      | with_reducible refine hr0 _ ?_
      | with_reducible refine Tx_blockK (id := 1) (fun Q1 hn1 hx1 hr1 ho1 => ?_)
      | with_reducible refine hr1 _ ?_
      | with_reducible refine hrL0 _ ?_
      | ((first | (with_reducible refine Tx_regK (fun K hK => ?_); (first | with_reducible refine t36r5 ?_ | with_reducible refine t36r6 ?_ | with_reducible refine t36r7 ?_ | with_reducible refine t36r8 ?_ | with_reducible refine t36r9 ?_)) | with_reducible refine hqr _ ?_); (try simp only [true_implies, false_implies, not_true_eq_false, tget_cons, if_true, if_false, Nat.reduceEqDiff, Obt_some, Kn_normal, ld1_l, rd1_arr, Obt_lss, gdO_ff, Option.map_some, pickX_f, and_true, true_and, if_false, if_true, r36, tend, tresAll, tresC, Option.bind_some, mapMem, retv_int, tup_one, Prod.mk.injEq, CV.int.injEq, hlt, hidx, hL, hfi, hinv, e1, e2, e3]))
      | (revert hK; intro hK; (with_reducible refine hK _ ?_; clear hK K)))
      rw [hc, if_neg (by decide)]
      exact ⟨_, rfl, rfl⟩
end Go.Cm
