import Derived.Test.YtijcpefcfcbcnaaIvB
import Derived.Test.YtijcpefcfcbcnaaIzDr
import Derived.Test.YtijcpefcfcbcnaaIhC
set_option linter.unusedSimpArgs false
set_option linter.unusedVariables false
namespace Go.Cm
open Go.Proofs Go.Ir Go.Gr
theorem x20 (f : Cd) : FF 20 [.agg (codeC f)] [] = some (.bool (decide ((f.parts.length : Int) ≤ 100) && decide (f.values ≤ 1000)), []) := by
  by_cases h1 : (f.parts.length : Int) ≤ 100
  · by_cases h2 : f.values ≤ 1000
    all_goals
      refine Fw_funK rfl Try.func20 s20 (Nat.le_of_ble_eq_true rfl) (fun Q hqr hqn => ?_)
      rw [cin_t (show An.pure 20 = true from rfl) (by simp only [cans, can_int, can_bool, can_agg, can_str, codeE.can])]
      simp only [tinit, Nat.reduceAdd, c20]
      repeat' (first
      | with_reducible refine Tx_ret ?_
      | (with_reducible (first | (refine Tx_regK (fun K hK => ?_); (first | refine t20r0 ?_ | refine t20r1 ?_)) | refine hqr _ ?_); (try simp only [SS, ccells, Obt_leq, lenS, Bool.and_self, Bool.true_and, decide_false, decide_true, r20, tend, tresAll, tresC, mapMem, codeC, clen_sl, h1, h2]))
      | (revert hK; intro hK; (with_reducible refine hK _ ?_; clear hK K)))
      all_goals simp [h1, h2]
  · refine Fw_funK rfl Try.func20 s20 (Nat.le_of_ble_eq_true rfl) (fun Q hqr hqn => ?_)
    rw [cin_t (show An.pure 20 = true from rfl) (by simp only [cans, can_int, can_bool, can_agg, can_str, codeE.can])]
    simp only [tinit, Nat.reduceAdd, c20]
    repeat' (first
    | with_reducible refine Tx_ret ?_
    | (with_reducible (first | (refine Tx_regK (fun K hK => ?_); (first | refine t20r0 ?_ | refine t20r1 ?_)) | refine hqr _ ?_); (try simp only [SS, ccells, Obt_leq, lenS, decide_false, r20, tend, tresAll, tresC, mapMem, codeC, clen_sl, h1]))
    | (revert hK; intro hK; (with_reducible refine hK _ ?_; clear hK K)))
    all_goals simp [h1]
theorem k20 (f : Cd) {fid : FuncId} {d : Tmp} {m : Mem} {b : Bool} (hb : (decide ((f.parts.length : Int) ≤ 100) && decide (f.values ≤ 1000)) = b) : callC An FF fid (some d) 20 [.agg (codeC f)] m = some (.bool b, m) := by
  rw [← hb]
  exact callC_V (x20 f) (fun _ _ _ => rfl) rfl (by simp only [cans, can_agg, codeE.can]) rfl (by simp only [noGs, noG, codeE.noG, Bool.and_self]) rfl
def MarkD (c c' : List Bool) (ids : List Int) (but : Int) : Prop := c'.length = c.length ∧ (∀ i : Nat, c[i]? = some true → c'[i]? = some true) ∧ ∀ id ∈ ids, 0 ≤ id → id < c.length → id ≠ but → c'[id.toNat]? = some true
theorem x28 (c : List Bool) (v : CV) (ids : List Int) (but : Int) (hv : ∀ H, RdI H v ids) (hil : ids.length ≤ 17592186044416) :
    ∃ r, (∃ c', r = (CV.tuple [], [HO.arr 1 1 (c'.flatMap boolC) 0]) ∧ MarkD c c' ids but) ∧ FF 28 [.ref (.g 0) 1 0 c.length, v, .int .i64 but] [.arr 1 1 (c.flatMap boolC) 0] = some r := by
  have hvl := (hv []).len
  refine Fw_funE rfl Try.func28 s28 (Nat.le_of_ble_eq_true rfl) (fun Q hqr hqn => ?_)
  rw [show ∀ a, cin (An.pure 28) a = a from fun _ => rfl]
  simp only [tinit, Nat.reduceAdd, c28]
  repeat' (first
  | with_reducible refine Tx_blockE (id := 0) (fun Q0 hn0 hx0 hr0 ho0 => ?_)
  | (with_reducible (refine Tx_regK (fun K hK => ?_); refine t28r0 ?_); (try simp only [SS, Nat.reduceEqDiff]))
  | (revert hK; intro hK; (with_reducible refine hK _ ?_; clear hK K)))
  refine Tx_loopK (fun k s => ∃ (d t : List Int) (c' : List Bool) (L : List (Nat × HO)), ids = d ++ t ∧ k = t.length ∧ MarkD c c' d but ∧
    s = ⟨[(0, .ref (.g 0) 1 0 c.length), (1, v), (2, .int .i64 but), (6, .int .i64 d.length)], ⟨L, [.arr 1 1 (c'.flatMap boolC) 0]⟩⟩) _ ⟨[], ids, c, _, rfl, rfl, ⟨rfl, fun _ h => h, by simp⟩, rfl⟩ ?_
  rintro k s ⟨d, t, c', L, h2, rfl, ⟨hm1, hm2, hm3⟩, rfl⟩ QL0 hnL0 hxL0 hrL0
  have hlen := congrArg List.length h2
  simp only [List.length_append] at hlen
  simp only [c28l0]
  cases t with
  | nil =>
    simp only [List.length_nil] at hlen
    rw [List.append_nil] at h2
    repeat' (first
    | with_reducible (first | refine Tx_assoc ?_ | refine Tx_noK rfl ?_ | refine Tx_exitK ?_ | refine hx0 _ ?_ | refine hxL0 _ _ ?_)
    | (with_reducible (first | (refine Tx_regK (fun K hK => ?_); refine t28r1 ?_) | refine hqn _ ?_); (try simp only [SS, Nat.reduceEqDiff, lenS, r28, tend, tresAll, mapMem, tup_nil, hvl]))
    | (revert hK; intro hK; (first | refine And.intro ?_ ?_ | intro _ | omega | (with_reducible refine hK _ ?_; clear hK K))))
    exact ⟨c', rfl, hm1, hm2, by rw [h2]; exact hm3⟩
  | cons x t =>
    simp only [List.length_cons] at hlen
    have hx : ids[d.length]? = some x := by rw [h2]; simp
    obtain ⟨pt, p1, p2⟩ := (hv [HO.arr 1 1 (c'.flatMap boolC) 0]).at hx (k := .i64)
    have hwd : IntKind.i64.wrap ((d.length : Int) + 1) = d.length + 1 := wI (by omega) (by omega)
    have step : ∀ c'', MarkD c c'' (d ++ [x]) but → QL0 .normal ⟨[(0, .ref (.g 0) 1 0 c.length), (1, v), (2, .int .i64 but), (6, .int .i64 (d.length + 1))], ⟨L, [.arr 1 1 (c''.flatMap boolC) 0]⟩⟩ := fun c'' h => by
      rw [show ((d.length : Int) + 1) = ((d ++ [x]).length : Int) by simp]
      exact hnL0 t.length _ (by simp) ⟨d ++ [x], t, c'', L, by simp [h2], rfl, h, rfl⟩
    have hlt : ((d.length : Nat) : Int) < ((ids.length : Nat) : Int) := by omega
    have skip : ¬ (0 ≤ x ∧ x < c.length ∧ x ≠ but) → MarkD c c' (d ++ [x]) but := fun h => ⟨hm1, hm2, fun id hid a1 a2 a3 => by
      rcases List.mem_append.1 hid with hid | hid
      · exact hm3 id hid a1 a2 a3
      · simp only [List.mem_singleton] at hid; subst hid; exact absurd ⟨a1, a2, a3⟩ h⟩
    by_cases g1 : 0 ≤ x
    · by_cases g2 : x < c.length
      · by_cases g3 : x = but
        · repeat' (first
          | with_reducible (first | refine Tx_assoc ?_ | refine Tx_nopK ?_ | refine Tx_yesK rfl ?_ | refine Tx_no rfl ?_ | refine Tx_nop ?_ | refine Tx_blockK (id := 1) (fun Q1 hn1 hx1 hr1 ho1 => ?_) | refine hn1 _ ?_)
          | (with_reducible ((first | refine Tx_regK (fun K hK => ?_) | refine Tx_regE (fun K hK => ?_)); (first | refine t28r1 ?_ | refine t28r3 ?_ | refine t28r2 ?_)); (try simp only [SS, Nat.reduceEqDiff, Obt_neq, lenS, hvl, hlt, p1, p2, g1, g2, eq_true g3, hwd]))
          | (revert hK; intro hK; (with_reducible refine hK _ ?_; clear hK K)))
          exact step c' (skip fun h => h.2.2 g3)
        · have hix : idxS 1 (.ref (.g 0) 1 0 c.length) (.int .i64 x) = some (.ptr (.g 0) 1 x.toNat) := by rw [idxS_ref, if_pos ⟨g1, by omega⟩]; simp
          have hst : ∀ L, stX 1 ⟨L, [HO.arr 1 1 (c'.flatMap boolC) 0]⟩ (.ptr (.g 0) 1 x.toNat) (.bool true) = some ⟨L, [HO.arr 1 1 ((c'.set x.toNat true).flatMap boolC) 0]⟩ := fun L => by
            have h0 : ([HO.arr 1 1 (c'.flatMap boolC) 0] : List HO)[0]? = some (.arr 1 1 (c'.flatMap boolC) 0) := rfl
            rw [stX_one (m := ⟨L, _⟩) h0 (by rw [flat_len boolC_len]; omega) rfl rfl, set_bool]; rfl
          repeat' (first
          | with_reducible (first | refine Tx_assoc ?_ | refine Tx_nopK ?_ | refine Tx_yesK rfl ?_ | refine Tx_yes rfl ?_ | refine Tx_blockK (id := 1) (fun Q1 hn1 hx1 hr1 ho1 => ?_) | refine hn1 _ ?_)
          | (with_reducible ((first | refine Tx_regK (fun K hK => ?_) | refine Tx_regE (fun K hK => ?_)); (first | refine t28r1 ?_ | refine t28r3 ?_ | refine t28r4 ?_ | refine t28r2 ?_)); (try simp only [SS, Nat.reduceEqDiff, Obt_neq, lenS, hvl, hlt, p1, p2, g1, g2, g3, hix, hst, hwd]))
          | (revert hK; intro hK; (with_reducible refine hK _ ?_; clear hK K)))
          refine step (c'.set x.toNat true) ⟨by rw [List.length_set, hm1], fun i hi => ?_, fun id hid a1 a2 a3 => ?_⟩
          · rw [List.getElem?_set]
            split
            · rename_i e; subst e; rw [if_pos (by omega)]
            · exact hm2 i hi
          · rw [List.getElem?_set]
            split
            · rw [if_pos (by omega)]
            · rename_i e
              rcases List.mem_append.1 hid with hid | hid
              · exact hm3 id hid a1 a2 a3
              · simp only [List.mem_singleton] at hid; subst hid; exact absurd rfl e
      · repeat' (first
        | with_reducible (first | refine Tx_assoc ?_ | refine Tx_nopK ?_ | refine Tx_yesK rfl ?_ | refine Tx_no rfl ?_ | refine Tx_nop ?_ | refine Tx_blockK (id := 1) (fun Q1 hn1 hx1 hr1 ho1 => ?_) | refine hn1 _ ?_)
        | (with_reducible ((first | refine Tx_regK (fun K hK => ?_) | refine Tx_regE (fun K hK => ?_)); (first | refine t28r1 ?_ | refine t28r3 ?_ | refine t28r2 ?_)); (try simp only [SS, Nat.reduceEqDiff, Obt_neq, lenS, hvl, hlt, p1, p2, g1, g2, hwd]))
        | (revert hK; intro hK; (with_reducible refine hK _ ?_; clear hK K)))
        exact step c' (skip fun h => g2 h.2.1)
    · repeat' (first
      | with_reducible (first | refine Tx_assoc ?_ | refine Tx_nopK ?_ | refine Tx_yesK rfl ?_ | refine Tx_no rfl ?_ | refine Tx_nop ?_ | refine Tx_blockK (id := 1) (fun Q1 hn1 hx1 hr1 ho1 => ?_) | refine hn1 _ ?_)
      | (with_reducible ((first | refine Tx_regK (fun K hK => ?_) | refine Tx_regE (fun K hK => ?_)); (first | refine t28r1 ?_ | refine t28r3 ?_ | refine t28r2 ?_)); (try simp only [SS, Nat.reduceEqDiff, Obt_neq, lenS, hvl, hlt, p1, p2, g1, hwd]))
      | (revert hK; intro hK; (with_reducible refine hK _ ?_; clear hK K)))
      exact step c' (skip fun h => g1 h.1)

theorem EscI.sl {m : Mem} {j : Nat} {l : List Int} : EscI m j (Cm.sl intC l) l := ⟨_, m, esc_Q escQ_sl, fun _ => .inl rfl, rfl, fun _ _ => rfl⟩
theorem EscI.ref {m : Mem} {j g : Nat} {l : List Int} (h : lget m.L j = some (.arr g 1 (l.flatMap intC) 0)) : EscI m j (.ref (.l j) g 0 l.length) l := by
  refine ⟨.imm l.length (l.flatMap intC), setL m j (.arr g 1 (l.flatMap intC) (max 0 (l.length * 1))), ?_, fun _ => .inl rfl, rfl, fun i hi => by rw [lget_setL, if_neg (Ne.symm hi)]⟩
  simp only [deep, esc, h, if_true, List.drop_zero, HO.seen, Nat.zero_add]
  rw [List.take_of_length_le (by rw [flat_len intC_len]; exact Nat.le_refl _)]; rfl
theorem k29 (e : Tm) {fid : FuncId} {d : Tmp} {m : Mem} {K : CV × Mem → Prop} (hgl : (An.glob fid).contains d = false)
    (hK : ∀ v m', EscI m' (16 * d) v (ends e) → m'.H = m.H → (∀ i, i ≠ 16 * d → lget m'.L i = lget m.L i) → K (v, m')) : Obt (callC An FF fid (some d) 29 [.agg (tmC e)] m) K :=
  callC_O (x29 e) rfl (by simp only [cans, can_agg, tmE.can]) rfl rfl intC_N hgl fun v m' h1 h2 h3 => hK v m' h1.seen.escI h2 h3
theorem k30 (n : Nd) (hl : n.args.length ≤ 17592186044416) {fid : FuncId} {d : Tmp} {m : Mem} {K : CV × Mem → Prop} (hgl : (An.glob fid).contains d = false)
    (hK : ∀ v m', EscI m' (16 * d) v (uses n) → m'.H = m.H → (∀ i, i ≠ 16 * d → lget m'.L i = lget m.L i) → K (v, m')) : Obt (callC An FF fid (some d) 30 [.agg (ndC n)] m) K := by
  have hF := x30 n hl
  by_cases h7 : n.op = 7
  · have hu : uses n = n.args := by unfold uses; rw [if_neg (by omega), if_neg (by omega), if_pos h7]
    rw [usesR, if_pos h7] at hF
    rw [hu] at hK
    rw [callC_K hF rfl (by simp only [cans, can_agg, ndE.can]) rfl (by simp only [noGs, noG, ndE.noG, Bool.and_self]) (noG_ownN intC_N _), Obt_some, adopt_ownN hgl]
    refine hK _ _ (EscI.ref (by rw [lget_setL, if_pos rfl])) rfl fun i hi => by rw [lget_setL, if_neg (Ne.symm hi)]
  · rw [usesR, if_neg h7] at hF
    exact callC_O hF rfl (by simp only [cans, can_agg, ndE.can]) rfl (by simp only [noGs, noG, ndE.noG, Bool.and_self]) intC_N hgl fun v m' h1 h2 h3 => hK v m' h1.seen.escI h2 h3
theorem k28 (c : List Bool) (but : Int) {v : CV} {ids : List Int} {m : Mem} {j : Nat} (hE : EscI m j v ids) (hH : m.H = [.arr 1 1 (c.flatMap boolC) 0]) (hil : ids.length ≤ 17592186044416) {fid : FuncId} {d : Tmp} {K : CV × Mem → Prop}
    (hK : ∀ c' m', MarkD c c' ids but → m'.H = [.arr 1 1 (c'.flatMap boolC) 0] → (∀ i, i ≠ j → lget m'.L i = lget m.L i) → K (.tuple [], m')) : Obt (callC An FF fid (some d) 28 [.ref (.g 0) 1 0 c.length, v, .int .i64 but] m) K := by
  obtain ⟨x, m1, q1, q2, q3, q4⟩ := hE
  obtain ⟨_, ⟨c', rfl, hM⟩, hF⟩ := x28 c x ids but q2 hil
  have hx : escList m [.ref (.g 0) 1 0 c.length, v, .int .i64 but] = some ([.ref (.g 0) 1 0 c.length, x, .int .i64 but], m1) :=
    escList_cons (esc_Q (m := m) rfl) (escList_cons q1 (escList_cons (esc_Q (m := m1) rfl) rfl))
  rw [callC_IE rfl hx (by rw [q3, hH]; exact hF), Obt_some]
  exact hK c' ⟨m1.L, _⟩ hM rfl q4
def Dn (c : List Bool) (n : Nat) (id : Int) : Prop := 0 ≤ id → id < n → c[id.toNat]? = some true
def MkE (c : List Bool) (n : Nat) (p : Pt) : Prop := ∀ id ∈ ends p.fin, Dn c n id
def MkP (c : List Bool) (n : Nat) (l : List Ph) : Prop := ∀ x ∈ l, ∀ id ∈ x.src, id ≠ x.id → Dn c n id
def MkN (c : List Bool) (n : Nat) (l : List Nd) : Prop := ∀ m ∈ l, ∀ id ∈ uses m, Dn c n id
def MkA (c : List Bool) (n : Nat) (l : List Pt) : Prop := ∀ p ∈ l, MkE c n p ∧ MkP c n p.phis ∧ MkN c n p.nodes
section
variable {c c' : List Bool} {n : Nat}
theorem Dn.mono (h : ∀ i : Nat, c[i]? = some true → c'[i]? = some true) {id : Int} (hd : Dn c n id) : Dn c' n id := fun a b => h _ (hd a b)
theorem MkE.mono (h : ∀ i : Nat, c[i]? = some true → c'[i]? = some true) {p : Pt} (hd : MkE c n p) : MkE c' n p := fun id hid => (hd id hid).mono h
theorem MkP.mono (h : ∀ i : Nat, c[i]? = some true → c'[i]? = some true) {l : List Ph} (hd : MkP c n l) : MkP c' n l := fun x hx id hid hne => (hd x hx id hid hne).mono h
theorem MkN.mono (h : ∀ i : Nat, c[i]? = some true → c'[i]? = some true) {l : List Nd} (hd : MkN c n l) : MkN c' n l := fun x hx id hid => (hd x hx id hid).mono h
theorem MkA.mono (h : ∀ i : Nat, c[i]? = some true → c'[i]? = some true) {l : List Pt} (hd : MkA c n l) : MkA c' n l := fun p hp => ⟨(hd p hp).1.mono h, (hd p hp).2.1.mono h, (hd p hp).2.2.mono h⟩
theorem MkP.snoc {l : List Ph} {x : Ph} (h : MkP c n l) (hx : ∀ id ∈ x.src, id ≠ x.id → Dn c n id) : MkP c n (l ++ [x]) := fun y hy => by
  rcases List.mem_append.1 hy with hy | hy
  · exact h y hy
  · simp only [List.mem_singleton] at hy; subst hy; exact hx
theorem MkN.snoc {l : List Nd} {x : Nd} (h : MkN c n l) (hx : ∀ id ∈ uses x, Dn c n id) : MkN c n (l ++ [x]) := fun y hy => by
  rcases List.mem_append.1 hy with hy | hy
  · exact h y hy
  · simp only [List.mem_singleton] at hy; subst hy; exact hx
end
set_option maxHeartbeats 4000000 in
theorem x7 (f : Cd) (hfit : Fit f) (hS : ∀ p ∈ f.parts, p.phis.length ≤ 1048576 ∧ p.nodes.length ≤ 1048576) (hB : ∀ x ∈ upds f, x.2.length ≤ 1048576) (hw : (wantA f).length ≤ 8388608) :
    ∃ r, (∃ H', r = (CV.bool true, H')) ∧ FF 7 [.agg (codeC f)] [] = some r := by
  have hkh := fun d m => k21 (fid := 7) (d := d) (m := m)
  obtain ⟨b, hb⟩ : ∃ b, (decide ((f.parts.length : Int) ≤ 100) && decide (f.values ≤ 1000)) = b := ⟨_, rfl⟩
  have hks : ∀ d m, callC An FF 7 (some d) 20 [.agg [sl ptC f.parts, .int .i64 f.values]] m = _ := fun d m => k20 f (fid := 7) (d := d) (m := m) hb
  cases b with
  | false =>
    refine Fw_funE rfl Try.func7 s7 (Nat.le_of_ble_eq_true rfl) (fun Q hqr hqn => ?_)
    rw [cin_t (show An.pure 7 = true from rfl) (by simp only [cans, can_int, can_bool, can_agg, can_str, codeE.can])]
    simp only [tinit, Nat.reduceAdd, c7]
    repeat' (first
    | with_reducible (first | refine Tx_assoc ?_ | refine Tx_yesK rfl ?_ | refine Tx_retK ?_)
    | (with_reducible (first | (refine Tx_regK (fun K hK => ?_); (first | refine t7r0 ?_ | refine t7r1 ?_ | refine t7r2 ?_)) | refine hqr _ ?_); (try simp only [SS, ccells, Nat.reduceAdd, Bool.not_false, r7, tend, tresAll, tresC, mapMem, codeC, ldA_r2, hks, hkh]))
    | (revert hK; intro hK; (with_reducible refine hK _ ?_; clear hK K)))
    exact ⟨_, rfl⟩
  | true =>
    have hf : Sized f := hfit.sized (by simp only [Bool.and_eq_true, decide_eq_true_eq] at hb; omega)
    obtain ⟨_, ⟨H', rfl⟩, hdd⟩ := x22 f hf hS hB hw
    cases hc : codeOk f with
    | false =>
      rw [hc, if_neg (by decide)] at hdd
      have hkd : ∀ m, callC An FF 7 (some 20) 22 [.agg [sl ptC f.parts, .int .i64 f.values]] m = some (.tuple [.agg [.nil, .int .i64 0], .int .i64 160], m) := fun m => by
        have := callC_K (fid := 7) (d := 20) (m := m) (args := [.agg (codeC f)]) hdd rfl (by simp only [cans, can_agg, codeE.can]) rfl (by simp only [noGs, noG, codeE.noG, Bool.and_self]) rfl
        exact this
      refine Fw_funE rfl Try.func7 s7 (Nat.le_of_ble_eq_true rfl) (fun Q hqr hqn => ?_)
      rw [cin_t (show An.pure 7 = true from rfl) (by simp only [cans, can_int, can_bool, can_agg, can_str, codeE.can])]
      simp only [tinit, Nat.reduceAdd, c7]
      repeat' (first
      | with_reducible (first | refine Tx_assoc ?_ | refine Tx_nopK ?_ | refine Tx_yesK rfl ?_ | refine Tx_noK rfl ?_ | refine Tx_retK ?_)
      | (with_reducible (first | (refine Tx_regK (fun K hK => ?_); (first | refine t7r0 ?_ | refine t7r1 ?_ | refine t7r3 ?_ | refine t7r4 ?_ | refine t7r5 ?_)) | refine hqr _ ?_); (try simp only [SS, Nat.reduceEqDiff, ccells, gn_var, gnext_setL, setL_setL, Nat.reduceAdd, Obt_neq, Bool.not_true, splice, r7, tend, tresAll, tresC, mapMem, codeC, ldA_r2, hks, hkh, hkd, extX]))
      | (revert hK; intro hK; (first | refine And.intro ?_ ?_ | intro _ | omega | (with_reducible refine hK _ ?_; clear hK K))))
      exact ⟨_, rfl⟩
    | true =>
      rw [hc, if_pos rfl] at hdd
      have hfi := codeOk_fine hc
      obtain ⟨n, hn⟩ : ∃ n : Nat, f.values = (n : Int) := ⟨f.values.toNat, by have := hfi.values.1; omega⟩
      have hn1 : n ≤ 65536 := by have := hfi.values.2; omega
      obtain ⟨G, hG⟩ : ∃ G, (deadF f).parts = G := ⟨_, rfl⟩
      have hGl : G.length = f.parts.length := by rw [← hG]; simp [deadF]
      have hGne : rowC ptR G = sl ptR G := by
        cases hh : G with
        | nil => rw [hh] at hGl; have := hfi.parts.1; simp at hGl; omega
        | cons a l => rfl
      rw [hG, hGne, hn] at hdd
      have hkd : ∀ m, callC An FF 7 (some 20) 22 [.agg [sl ptC f.parts, .int .i64 f.values]] m = some (.tuple [.agg [sl ptR G, .int .i64 n], .int .i64 0], m) := fun m => by
        have := callC_K (fid := 7) (d := 20) (m := m) (args := [.agg (codeC f)]) hdd rfl (by simp only [cans, can_agg, codeE.can]) rfl (by simp only [noGs, noG, codeE.noG, Bool.and_self]) (by
          have := noG_sl ptR_N G
          simp only [noG, noGs, this, Bool.and_self])
        exact this
      have hmk := fun m => mkX_g (j := 464) (sz := 1) (b := 1) (z := [.bool false]) (k := .i64) (n := n) (m := m) rfl (by omega) (by omega)
      have hmax : minmax true [.int .i64 n, .int .i64 0] = some (.int .i64 n) := by
        simp only [minmax, if_true]; rw [if_neg (by omega)]
      have hsetL : ∀ (L : List (Nat × HO)) (H : List HO) j o, setL ⟨L, H⟩ j o = ⟨lset L j o, H⟩ := fun _ _ _ _ => rfl
      rw [hn] at hks hkd
      refine Fw_funE rfl Try.func7 s7 (Nat.le_of_ble_eq_true rfl) (fun Q hqr hqn => ?_)
      rw [cin_t (show An.pure 7 = true from rfl) (by simp only [cans, can_int, can_bool, can_agg, can_str, codeE.can])]
      simp only [tinit, Nat.reduceAdd, c7]
      rw [codeC, hn]
      repeat' (first
      | with_reducible (first | refine Tx_assoc ?_ | refine Tx_nopK ?_ | refine Tx_noK rfl ?_ | refine Tx_blockK (id := 0) (fun Q0 hn0 hx0 hr0 ho0 => ?_))
      | (with_reducible (refine Tx_regK (fun K hK => ?_); (first | refine t7r0 ?_ | refine t7r1 ?_ | refine t7r3 ?_ | refine t7r4 ?_ | refine t7r6 ?_ | refine t7r7 ?_ | refine t7r9 ?_)); (try simp only [SS, Nat.reduceEqDiff, ccells, gn_var, gnext_lset, Nat.reduceAdd, Obt_neq, Bool.not_true, splice, ldA_r2, hks, hkh, hkd, extX, hmk, hmax, hsetL, reps_bool]))
      | (revert hK; intro hK; (with_reducible refine hK _ ?_; clear hK K)))
      obtain ⟨g3, hg3⟩ : ∃ g, gnext [] 48 = g := ⟨_, rfl⟩
      rw [hg3]
      have hGp : ∀ p ∈ G, ∃ q ∈ f.parts, p = deadP f q := fun p hp => by
        rw [← hG] at hp
        simp only [deadF, List.mem_map] at hp
        obtain ⟨q, hq, rfl⟩ := hp
        exact ⟨q, hq, rfl⟩
      have hGs : ∀ p ∈ G, (p.phis.length ≤ 17592186044416 ∧ ∀ x ∈ p.phis, x.src.length ≤ 17592186044416) ∧ (p.nodes.length ≤ 17592186044416 ∧ ∀ x ∈ p.nodes, x.args.length ≤ 17592186044416) := fun p hp => by
        obtain ⟨q, hq, rfl⟩ := hGp p hp
        have h1 := hf.phis q hq
        have h2 := hf.nodes q hq
        have h3 := List.length_filter_le (fun x => needB f x.id) q.phis
        have h4 := List.length_filter_le (fun n => staysB n || needB f n.id) q.nodes
        exact ⟨⟨by simp only [deadP]; omega, fun x hx => h1.2 x (List.mem_filter.1 hx).1⟩, by simp only [deadP]; omega, fun x hx => (h2.2 x (List.mem_filter.1 hx).1).1⟩
      have hpl := hf.parts
      refine Tx_loopK (fun k s => ∃ (d t : List Pt) (c : List Bool) (L : List (Nat × HO)), G = d ++ t ∧ k = t.length ∧ c.length = n ∧ MkA c n d ∧ lget L 48 = some (.var g3 [sl ptR G, .int .i64 n] 0) ∧
        s = ⟨[(3, .ptr (.l 48) g3 0), (5, .ref (.g 0) 1 0 n), (6, .int .i64 d.length)], ⟨L, [.arr 1 1 (c.flatMap boolC) 0]⟩⟩) _ ⟨[], G, List.replicate n false, _, rfl, rfl, by simp, by intro p hp; simp at hp, by simp [lget_lset], rfl⟩ ?_
      rintro k s ⟨d, t, c, L, h2, rfl, hcl, hMA, hL, rfl⟩ QL2 hnL2 hxL2 hrL2
      have hlen := congrArg List.length h2
      simp only [List.length_append] at hlen
      simp only [c7l2]
      cases t with
      | nil =>
        simp only [List.length_nil] at hlen
        rw [List.append_nil] at h2
        rw [← h2] at hMA
        have hng : ¬ ((d.length : Nat) : Int) < ((G.length : Nat) : Int) := by omega
        repeat' (first
        | with_reducible (first | refine Tx_assoc ?_ | refine Tx_noK rfl ?_ | refine Tx_exitK ?_ | refine hx0 _ ?_ | refine Tx_blockK (id := 6) (fun Q6 hn6 hx6 hr6 ho6 => ?_) | refine hxL2 _ _ ?_)
        | (with_reducible (refine Tx_regK (fun K hK => ?_); (first | refine t7r10 ?_ | refine t7r22 ?_)); (try simp only [SS, Nat.reduceEqDiff, lenS, hL, clen_sl, hng]))
        | (revert hK; intro hK; (with_reducible refine hK _ ?_; clear hK K)))
        have hused : ∀ p ∈ G, ∀ m ∈ p.nodes, pureB m = true → 0 ≤ m.id ∧ m.id < n ∧ c[m.id.toNat]? = some true := fun p hp m hm hpu => by
          rw [← hG] at hp
          obtain ⟨a1, a2, hU⟩ := dead_used hfi hp hm hpu
          rw [hn] at a2
          refine ⟨a1, a2, ?_⟩
          unfold UsedIn at hU
          rw [hG] at hU
          rcases hU with ⟨q, hq, hid⟩ | ⟨q, hq, x, hx, hid, hne⟩ | ⟨q, hq, x, hx, hid⟩
          · exact (hMA q hq).1 _ hid a1 a2
          · exact (hMA q hq).2.1 x hx _ hid hne a1 a2
          · exact (hMA q hq).2.2 x hx _ hid a1 a2
        clear hMA
        refine Tx_loopK (fun k s => ∃ (d t : List Pt) (L : List (Nat × HO)), G = d ++ t ∧ k = t.length ∧ lget L 48 = some (.var g3 [sl ptR G, .int .i64 n] 0) ∧
          s = ⟨[(3, .ptr (.l 48) g3 0), (5, .ref (.g 0) 1 0 n), (10, .int .i64 d.length)], ⟨L, [.arr 1 1 (c.flatMap boolC) 0]⟩⟩) _ ⟨[], G, L, rfl, rfl, hL, rfl⟩ ?_
        rintro k s ⟨d, t, L, h2, rfl, hL, rfl⟩ QL4 hnL4 hxL4 hrL4
        have hlen := congrArg List.length h2
        simp only [List.length_append] at hlen
        simp only [c7l4]
        cases t with
        | nil =>
          simp only [List.length_nil] at hlen
          have hng : ¬ ((d.length : Nat) : Int) < ((G.length : Nat) : Int) := by omega
          repeat' (first
          | with_reducible (first | refine Tx_assoc ?_ | refine Tx_noK rfl ?_ | refine Tx_exitK ?_ | refine Tx_ret ?_ | refine hx6 _ ?_ | refine hxL4 _ _ ?_)
          | (with_reducible (first | (refine Tx_regK (fun K hK => ?_); (first | refine t7r23 ?_ | refine t7r32 ?_)) | refine hqr _ ?_); (try simp only [SS, Nat.reduceEqDiff, lenS, r7, tend, tresAll, tresC, mapMem, hL, clen_sl, hng, hkh]))
          | (revert hK; intro hK; (with_reducible refine hK _ ?_; clear hK K)))
          exact ⟨_, rfl⟩
        | cons p t =>
          simp only [List.length_cons] at hlen
          have hpm : p ∈ G := by rw [h2]; simp
          obtain ⟨_, hndl, hnds⟩ := hGs p hpm
          have hlt : ((d.length : Nat) : Int) < ((G.length : Nat) : Int) := by omega
          have hwd : IntKind.i64.wrap ((d.length : Int) + 1) = d.length + 1 := wI (by omega) (by omega)
          repeat' (first
          | with_reducible (first | refine Tx_assoc ?_ | refine Tx_nopK ?_ | refine Tx_yesK rfl ?_ | refine Tx_blockK (id := 7) (fun Q7 hn7 hx7 hr7 ho7 => ?_) | refine Tx_blockE (id := 8) (fun Q8 hn8 hx8 hr8 ho8 => ?_))
          | (with_reducible (refine Tx_regK (fun K hK => ?_); (first | refine t7r23 ?_ | refine t7r25 ?_)); (try simp only [SS, Nat.reduceEqDiff, lenS, hL, clen_sl, hlt]))
          | (revert hK; intro hK; (with_reducible refine hK _ ?_; clear hK K)))
          refine Tx_loopK (fun k s => ∃ (d1 t1 : List Nd) (L : List (Nat × HO)), p.nodes = d1 ++ t1 ∧ k = t1.length ∧ lget L 48 = some (.var g3 [sl ptR G, .int .i64 n] 0) ∧
            s = ⟨[(3, .ptr (.l 48) g3 0), (5, .ref (.g 0) 1 0 n), (10, .int .i64 d.length), (11, .int .i64 d1.length)], ⟨L, [.arr 1 1 (c.flatMap boolC) 0]⟩⟩) _ ⟨[], p.nodes, L, rfl, rfl, hL, rfl⟩ ?_
          rintro k s ⟨d1, t1, L1, h3, rfl, hL1, rfl⟩ QL3 hnL3 hxL3 hrL3
          have hlen1 := congrArg List.length h3
          simp only [List.length_append] at hlen1
          simp only [c7l3]
          cases t1 with
          | nil =>
            simp only [List.length_nil] at hlen1
            have hng1 : ¬ ((d1.length : Nat) : Int) < ((p.nodes.length : Nat) : Int) := by omega
            repeat' (first
            | with_reducible (first | refine Tx_assoc ?_ | refine Tx_noK rfl ?_ | refine Tx_exitK ?_ | refine hn7 _ ?_ | refine hx8 _ ?_ | refine hxL3 _ _ ?_)
            | (with_reducible ((first | refine Tx_regK (fun K hK => ?_) | refine Tx_regE (fun K hK => ?_)); (first | refine t7r26 ?_ | refine t7r24 ?_)); (try simp only [SS, Nat.reduceEqDiff, fldA_rptr, ld1_r, lenS, hL1, clen_sl, idxS_split ptR_len (by omega) h2, ptR, clen_rowC, hng1, hwd]))
            | (revert hK; intro hK; (with_reducible refine hK _ ?_; clear hK K)))
            rw [show ((d.length : Int) + 1) = ((d ++ [p]).length : Int) by simp]
            exact hnL4 t.length _ (by simp) ⟨d ++ [p], t, L1, by simp [h2], rfl, hL1, rfl⟩
          | cons x t1 =>
            simp only [List.length_cons] at hlen1
            have hxm : x ∈ p.nodes := by rw [h3]; simp
            have hlt1 : ((d1.length : Nat) : Int) < ((p.nodes.length : Nat) : Int) := by omega
            have hw1 : IntKind.i64.wrap ((d1.length : Int) + 1) = d1.length + 1 := wI (by omega) (by omega)
            have hrow : rowC ndC p.nodes = sl ndC p.nodes := by rw [h3]; cases d1 <;> rfl
            have fin : ∀ L', lget L' 48 = some (.var g3 [sl ptR G, .int .i64 n] 0) → QL3 .normal ⟨[(3, .ptr (.l 48) g3 0), (5, .ref (.g 0) 1 0 n), (10, .int .i64 d.length), (11, .int .i64 (d1.length + 1))], ⟨L', [.arr 1 1 (c.flatMap boolC) 0]⟩⟩ := fun L' hL' => by
              rw [show ((d1.length : Int) + 1) = ((d1 ++ [x]).length : Int) by simp]
              exact hnL3 t1.length _ (by simp) ⟨d1 ++ [x], t1, L', by simp [h3], rfl, hL', rfl⟩
            repeat' (first
            | with_reducible (first | refine Tx_assoc ?_ | refine Tx_nopK ?_ | refine Tx_yesK rfl ?_ | refine Tx_blockK (id := 9) (fun Q9 hn9 hx9 hr9 ho9 => ?_))
            | (with_reducible (refine Tx_regK (fun K hK => ?_); (first | refine t7r26 ?_ | refine t7r28 ?_)); (try simp only [SS, Nat.reduceEqDiff, ccells, fldA_rptr, ld1_r, lenS, hL1, clen_sl, idxS_split ptR_len (by omega) h2, ptR, clen_rowC, hlt1]))
            | (revert hK; intro hK; (with_reducible refine hK _ ?_; clear hK K)))
            simp only [hrow, idxS_split ndE.len (by omega) h3, Obt_some, ndC, List.cons_append, List.nil_append, ldA_r12, hL1, rd1_var, List.getElem?_cons_zero, idxS_split ptR_len (by omega) h2, ptR, fldA_rptr, List.drop_succ_cons, List.drop_zero, ld1_r]
            rw [stV_var, if_pos ⟨rfl, by simp, Nat.zero_le _⟩, Obt_some]
            refine hK _ ?_
            clear hK K
            have hpu : pureB x = true → ¬ x.id < 0 ∧ ¬ ((n : Nat) : Int) ≤ x.id ∧ idxS 1 (.ref (.g 0) 1 0 n) (.int .i64 x.id) = some (.ptr (.g 0) 1 x.id.toNat) ∧ ∀ L, ld1 ⟨L, [HO.arr 1 1 (c.flatMap boolC) 0]⟩ (.ptr (.g 0) 1 x.id.toNat) = some (.bool true) := fun h => by
              obtain ⟨u1, u2, u3⟩ := hused p hpm x hxm h
              refine ⟨by omega, by omega, ?_, fun L => ?_⟩
              · rw [idxS_ref, if_pos ⟨u1, by omega⟩]; simp
              · rw [ld1_g]
                have h0 : ([HO.arr 1 1 (c.flatMap boolC) 0] : List HO)[0]? = some (.arr 1 1 (c.flatMap boolC) 0) := rfl
                simp only [h0, rd1_arr, flat_bool, u3]; rfl
            by_cases o1 : x.op = 1
            · have e1 := eq_true o1
              obtain ⟨n0, n1, hix, hld⟩ := hpu (by simp [pureB, o1])
              repeat' (first
              | with_reducible (first | refine Tx_no rfl ?_ | refine Tx_nop ?_ | refine hn9 _ ?_)
              | (with_reducible ((first | refine Tx_regK (fun K hK => ?_) | refine Tx_regE (fun K hK => ?_)); (first | refine t7r29 ?_ | refine t7r30 ?_ | refine t7r27 ?_)); (try simp only [SS, Nat.reduceEqDiff, Nat.reduceAdd, gdO_skip, Bool.not_true, lenS, splice, e1, n0, n1, hix, hld, hsetL, hw1]))
              | (revert hK; intro hK; (with_reducible refine hK _ ?_; clear hK K)))
              exact fin _ (by simp [lget_lset, hL1])
            by_cases o2 : x.op = 2
            · have e2 := eq_true o2
              obtain ⟨n0, n1, hix, hld⟩ := hpu (by simp [pureB, o2])
              repeat' (first
              | with_reducible (first | refine Tx_no rfl ?_ | refine Tx_nop ?_ | refine hn9 _ ?_)
              | (with_reducible ((first | refine Tx_regK (fun K hK => ?_) | refine Tx_regE (fun K hK => ?_)); (first | refine t7r29 ?_ | refine t7r30 ?_ | refine t7r27 ?_)); (try simp only [SS, Nat.reduceEqDiff, Nat.reduceAdd, gdO_skip, Bool.not_true, lenS, splice, o1, e2, n0, n1, hix, hld, hsetL, hw1]))
              | (revert hK; intro hK; (with_reducible refine hK _ ?_; clear hK K)))
              exact fin _ (by simp [lget_lset, hL1])
            by_cases o3 : x.op = 3
            · have e3 := eq_true o3
              obtain ⟨n0, n1, hix, hld⟩ := hpu (by simp [pureB, o3])
              repeat' (first
              | with_reducible (first | refine Tx_no rfl ?_ | refine Tx_nop ?_ | refine hn9 _ ?_)
              | (with_reducible ((first | refine Tx_regK (fun K hK => ?_) | refine Tx_regE (fun K hK => ?_)); (first | refine t7r29 ?_ | refine t7r30 ?_ | refine t7r27 ?_)); (try simp only [SS, Nat.reduceEqDiff, Nat.reduceAdd, gdO_skip, Bool.not_true, lenS, splice, o1, o2, e3, n0, n1, hix, hld, hsetL, hw1]))
              | (revert hK; intro hK; (with_reducible refine hK _ ?_; clear hK K)))
              exact fin _ (by simp [lget_lset, hL1])
            by_cases o4 : x.op = 4
            · have e4 := eq_true o4
              obtain ⟨n0, n1, hix, hld⟩ := hpu (by simp [pureB, o4])
              repeat' (first
              | with_reducible (first | refine Tx_no rfl ?_ | refine Tx_nop ?_ | refine hn9 _ ?_)
              | (with_reducible ((first | refine Tx_regK (fun K hK => ?_) | refine Tx_regE (fun K hK => ?_)); (first | refine t7r29 ?_ | refine t7r30 ?_ | refine t7r27 ?_)); (try simp only [SS, Nat.reduceEqDiff, Nat.reduceAdd, gdO_skip, Bool.not_true, lenS, splice, o1, o2, o3, e4, n0, n1, hix, hld, hsetL, hw1]))
              | (revert hK; intro hK; (with_reducible refine hK _ ?_; clear hK K)))
              exact fin _ (by simp [lget_lset, hL1])
            by_cases o5 : x.op = 5
            · have e5 := eq_true o5
              cases hgr : x.grd with
              | false =>
                obtain ⟨n0, n1, hix, hld⟩ := hpu (by simp [pureB, o5, hgr])
                repeat' (first
                | with_reducible (first | refine Tx_no rfl ?_ | refine Tx_nop ?_ | refine hn9 _ ?_)
                | (with_reducible ((first | refine Tx_regK (fun K hK => ?_) | refine Tx_regE (fun K hK => ?_)); (first | refine t7r29 ?_ | refine t7r30 ?_ | refine t7r27 ?_)); (try simp only [SS, Nat.reduceEqDiff, Nat.reduceAdd, gdO_skip, Bool.not_true, Bool.not_false, lenS, splice, o1, o2, o3, o4, e5, hgr, n0, n1, hix, hld, hsetL, hw1]))
                | (revert hK; intro hK; (with_reducible refine hK _ ?_; clear hK K)))
                exact fin _ (by simp [lget_lset, hL1])
              | true =>
                repeat' (first
                | with_reducible (first | refine Tx_no rfl ?_ | refine Tx_nop ?_ | refine hn9 _ ?_)
                | (with_reducible ((first | refine Tx_regK (fun K hK => ?_) | refine Tx_regE (fun K hK => ?_)); (first | refine t7r29 ?_ | refine t7r30 ?_ | refine t7r27 ?_)); (try simp only [SS, Nat.reduceEqDiff, Nat.reduceAdd, gdO_skip, Bool.not_true, lenS, splice, o1, o2, o3, o4, e5, hgr, hsetL, hw1]))
                | (revert hK; intro hK; (with_reducible refine hK _ ?_; clear hK K)))
                exact fin _ (by simp [lget_lset, hL1])
            · repeat' (first
              | with_reducible (first | refine Tx_no rfl ?_ | refine Tx_nop ?_ | refine hn9 _ ?_)
              | (with_reducible ((first | refine Tx_regK (fun K hK => ?_) | refine Tx_regE (fun K hK => ?_)); (first | refine t7r29 ?_ | refine t7r30 ?_ | refine t7r27 ?_)); (try simp only [SS, Nat.reduceEqDiff, Nat.reduceAdd, gdO_skip, lenS, splice, o1, o2, o3, o4, o5, hsetL, hw1]))
              | (revert hK; intro hK; (with_reducible refine hK _ ?_; clear hK K)))
              exact fin _ (by simp [lget_lset, hL1])
      | cons p t =>
        simp only [List.length_cons] at hlen
        have hpm : p ∈ G := by rw [h2]; simp
        obtain ⟨⟨hphl, hphs⟩, hndl, hnds⟩ := hGs p hpm
        have hlt : ((d.length : Nat) : Int) < ((G.length : Nat) : Int) := by omega
        have hwd : IntKind.i64.wrap ((d.length : Int) + 1) = d.length + 1 := wI (by omega) (by omega)
        repeat' (first
        | with_reducible (first | refine Tx_assoc ?_ | refine Tx_nopK ?_ | refine Tx_yesK rfl ?_ | refine Tx_blockK (id := 1) (fun Q1 hn1 hx1 hr1 ho1 => ?_))
        | (with_reducible (refine Tx_regK (fun K hK => ?_); (first | refine t7r10 ?_ | refine t7r12 ?_ | refine t7r13 ?_)); (try simp only [SS, Nat.reduceEqDiff, ccells, Nat.reduceAdd, lenS, splice, hL, clen_sl, hlt, idxS_split ptR_len (by omega) h2, ldA_r10, ptR, hsetL]))
        | (revert hK; intro hK; (with_reducible refine hK _ ?_; clear hK K)))
        obtain ⟨g7, hg7⟩ : ∃ g, gnext L 112 = g := ⟨_, rfl⟩
        rw [hg7]
        refine k29 p.fin rfl fun v1 m1 hE1 hH1 hf1 => ?_
        rw [← hcl]
        refine k28 c (-1) hE1 hH1 (by have := ends_len p.fin; omega) fun c1 m2 hM1 hH2 hf2 => ?_
        have hfr : ∀ i, i ≠ 112 → i ≠ 800 → lget m2.L i = lget L i := fun i n1 n2 => by
          rw [hf2 i n2, hf1 i n2]; simp [lget_lset, Ne.symm n1]
        have h112 : lget m2.L 112 = some (.var g7 (ptR p) 0) := by
          rw [hf2 112 (by decide), hf1 112 (by decide)]; simp [lget_lset, ptR]
        obtain ⟨L1, H1⟩ := m2
        simp only at hH2
        subst hH2
        refine hK _ ?_
        clear hK K
        have hc1 : c1.length = n := by rw [hM1.1, hcl]
        have hE : MkE c1 n p := fun id hid a1 a2 => hM1.2.2 id hid a1 (by omega) (by omega)
        have hA1 : MkA c1 n d := hMA.mono hM1.2.1
        have hL1 : lget L1 48 = some (.var g3 [sl ptR G, .int .i64 n] 0) := by
          have := hfr 48 (by decide) (by decide)
          simp only at this
          rw [this]; exact hL
        simp only at h112
        rw [hcl]
        clear hf1 hf2 hfr hE1 hH1
        repeat' (first
        | with_reducible (first | refine Tx_assoc ?_ | refine Tx_blockK (id := 2) (fun Q2 hn2 hx2 hr2 ho2 => ?_))
        | (with_reducible (refine Tx_regK (fun K hK => ?_); refine t7r14 ?_); (try simp only [SS, Nat.reduceEqDiff]))
        | (revert hK; intro hK; (with_reducible refine hK _ ?_; clear hK K)))
        refine Tx_loopK (fun k s => ∃ (d1 t1 : List Ph) (c : List Bool) (L : List (Nat × HO)), p.phis = d1 ++ t1 ∧ k = t1.length ∧ c.length = n ∧ MkA c n d ∧ MkE c n p ∧ MkP c n d1 ∧ lget L 48 = some (.var g3 [sl ptR G, .int .i64 n] 0) ∧ lget L 112 = some (.var g7 (ptR p) 0) ∧
          s = ⟨[(3, .ptr (.l 48) g3 0), (5, .ref (.g 0) 1 0 n), (6, .int .i64 d.length), (7, .ptr (.l 112) g7 0), (8, .int .i64 d1.length)], ⟨L, [.arr 1 1 (c.flatMap boolC) 0]⟩⟩) _ ⟨[], p.phis, c1, L1, rfl, rfl, hc1, hA1, hE, by intro x hx; simp at hx, hL1, h112, rfl⟩ ?_
        rintro k s ⟨d1, t1, c2, L2, h3, rfl, hc2, hA2, hE2, hP2, hL2, h112', rfl⟩ QL0 hnL0 hxL0 hrL0
        have hlen1 := congrArg List.length h3
        simp only [List.length_append] at hlen1
        simp only [c7l0]
        cases t1 with
        | cons x t1 =>
          simp only [List.length_cons] at hlen1
          have hw1 : IntKind.i64.wrap ((d1.length : Int) + 1) = d1.length + 1 := wI (by omega) (by omega)
          have hlt1 : ((d1.length : Nat) : Int) < ((p.phis.length : Nat) : Int) := by omega
          have hrow : rowC phC p.phis = sl phC p.phis := by rw [h3]; cases d1 <;> rfl
          repeat' (first
          | with_reducible (first | refine Tx_assoc ?_ | refine Tx_nopK ?_ | refine Tx_yesK rfl ?_ | refine Tx_blockK (id := 3) (fun Q3 hn3 hx3 hr3 ho3 => ?_))
          | (with_reducible ((first | refine Tx_regK (fun K hK => ?_) | refine Tx_regE (fun K hK => ?_)); (first | refine t7r15 ?_ | refine t7r17 ?_)); (try simp only [SS, Nat.reduceEqDiff, lenS, h112', ptR, clen_rowC, hlt1]))
          | (revert hK; intro hK; (with_reducible refine hK _ ?_; clear hK K)))
          simp only [hrow, idxS_split phE.len (by omega) h3, Obt_some, phC, fldA_rptr, List.cons_append, List.drop_zero, List.drop_succ_cons, List.nil_append, ld1_r, h112', rd1_var, ptR, List.getElem?_cons_succ, List.getElem?_cons_zero]
          have hxl := hphs x (by rw [h3]; simp)
          rw [← hc2]
          refine k28 (j := 0) c2 x.id EscI.sl rfl hxl fun c3 m3 hM3 hH3 hf3 => ?_
          obtain ⟨L3, H3⟩ := m3
          simp only at hH3
          subst hH3
          have hL3 : ∀ i, i ≠ 0 → lget L3 i = lget L2 i := hf3
          refine hK _ ?_
          clear hK K
          rw [hc2]
          repeat' (first
          | with_reducible refine hn3 _ ?_
          | (with_reducible (refine Tx_regE (fun K hK => ?_); refine t7r16 ?_); (try simp only [SS, Nat.reduceEqDiff, hw1]))
          | (revert hK; intro hK; (with_reducible refine hK _ ?_; clear hK K)))
          rw [show ((d1.length : Int) + 1) = ((d1 ++ [x]).length : Int) by simp]
          refine hnL0 t1.length _ (by simp) ⟨d1 ++ [x], t1, c3, L3, by simp [h3], rfl, by rw [hM3.1, hc2], hA2.mono hM3.2.1, hE2.mono hM3.2.1, (hP2.mono hM3.2.1).snoc fun id hid hne a1 a2 => hM3.2.2 id hid a1 (by omega) hne, by rw [hL3 48 (by decide)]; exact hL2, by rw [hL3 112 (by decide)]; exact h112', rfl⟩
        | nil =>
          simp only [List.length_nil] at hlen1
          rw [List.append_nil] at h3
          rw [← h3] at hP2
          have hng1 : ¬ ((d1.length : Nat) : Int) < ((p.phis.length : Nat) : Int) := by omega
          repeat' (first
          | with_reducible (first | refine Tx_assoc ?_ | refine Tx_noK rfl ?_ | refine Tx_exitK ?_ | refine hx2 _ ?_ | refine Tx_blockE (id := 4) (fun Q4 hn4 hx4 hr4 ho4 => ?_) | refine hxL0 _ _ ?_)
          | (with_reducible (refine Tx_regK (fun K hK => ?_); (first | refine t7r15 ?_ | refine t7r18 ?_)); (try simp only [SS, Nat.reduceEqDiff, lenS, h112', ptR, clen_rowC, hng1]))
          | (revert hK; intro hK; (with_reducible refine hK _ ?_; clear hK K)))
          refine Tx_loopK (fun k s => ∃ (d4 t4 : List Nd) (c : List Bool) (L : List (Nat × HO)), p.nodes = d4 ++ t4 ∧ k = t4.length ∧ c.length = n ∧ MkA c n d ∧ MkE c n p ∧ MkP c n p.phis ∧ MkN c n d4 ∧ lget L 48 = some (.var g3 [sl ptR G, .int .i64 n] 0) ∧ lget L 112 = some (.var g7 (ptR p) 0) ∧
            s = ⟨[(3, .ptr (.l 48) g3 0), (5, .ref (.g 0) 1 0 n), (6, .int .i64 d.length), (7, .ptr (.l 112) g7 0), (9, .int .i64 d4.length)], ⟨L, [.arr 1 1 (c.flatMap boolC) 0]⟩⟩) _ ⟨[], p.nodes, c2, L2, rfl, rfl, hc2, hA2, hE2, hP2, by intro x hx; simp at hx, hL2, h112', rfl⟩ ?_
          rintro k s ⟨d4, t4, c4, L4, h4, rfl, hc4, hA4, hE4, hP4, hN4, hL4, h1124, rfl⟩ QL1 hnL1 hxL1 hrL1
          have hlen4 := congrArg List.length h4
          simp only [List.length_append] at hlen4
          simp only [c7l1]
          cases t4 with
          | cons x t4 =>
            simp only [List.length_cons] at hlen4
            have hw4 : IntKind.i64.wrap ((d4.length : Int) + 1) = d4.length + 1 := wI (by omega) (by omega)
            have hlt4 : ((d4.length : Nat) : Int) < ((p.nodes.length : Nat) : Int) := by omega
            have hrow : rowC ndC p.nodes = sl ndC p.nodes := by rw [h4]; cases d4 <;> rfl
            have hxl := hnds x (by rw [h4]; simp)
            repeat' (first
            | with_reducible (first | refine Tx_assoc ?_ | refine Tx_nopK ?_ | refine Tx_yesK rfl ?_ | refine Tx_blockK (id := 5) (fun Q5 hn5 hx5 hr5 ho5 => ?_))
            | (with_reducible ((first | refine Tx_regK (fun K hK => ?_) | refine Tx_regE (fun K hK => ?_)); (first | refine t7r19 ?_ | refine t7r21 ?_)); (try simp only [SS, Nat.reduceEqDiff, lenS, h1124, ptR, clen_rowC, hlt4]))
            | (revert hK; intro hK; (with_reducible refine hK _ ?_; clear hK K)))
            simp only [hrow, idxS_split ndE.len (by omega) h4, Obt_some, ndC, List.cons_append, List.nil_append, ldA_r12]
            refine k30 x hxl rfl fun v5 m5 hE5 hH5 hf5 => ?_
            rw [← hc4]
            refine k28 c4 (-1) hE5 hH5 (uses_len x hxl) fun c6 m6 hM6 hH6 hf6 => ?_
            have hL6 : ∀ i, i ≠ 16 * 86 → lget m6.L i = lget L4 i := fun i hi => by rw [hf6 i hi, hf5 i hi]
            obtain ⟨L6, H6⟩ := m6
            simp only at hH6 hL6
            subst hH6
            refine hK _ ?_
            clear hK K
            rw [hc4]
            repeat' (first
            | with_reducible refine hn5 _ ?_
            | (with_reducible (refine Tx_regE (fun K hK => ?_); refine t7r20 ?_); (try simp only [SS, Nat.reduceEqDiff, hw4]))
            | (revert hK; intro hK; (with_reducible refine hK _ ?_; clear hK K)))
            rw [show ((d4.length : Int) + 1) = ((d4 ++ [x]).length : Int) by simp]
            refine hnL1 t4.length _ (by simp) ⟨d4 ++ [x], t4, c6, L6, by simp [h4], rfl, by rw [hM6.1, hc4], hA4.mono hM6.2.1, hE4.mono hM6.2.1, hP4.mono hM6.2.1, (hN4.mono hM6.2.1).snoc fun id hid a1 a2 => hM6.2.2 id hid a1 (by omega) (by omega), by rw [hL6 48 (by decide)]; exact hL4, by rw [hL6 112 (by decide)]; exact h1124, rfl⟩
          | nil =>
            simp only [List.length_nil] at hlen4
            rw [List.append_nil] at h4
            rw [← h4] at hN4
            have hng4 : ¬ ((d4.length : Nat) : Int) < ((p.nodes.length : Nat) : Int) := by omega
            repeat' (first
            | with_reducible (first | refine Tx_assoc ?_ | refine Tx_noK rfl ?_ | refine Tx_exitK ?_ | refine hn1 _ ?_ | refine hx4 _ ?_ | refine hxL1 _ _ ?_)
            | (with_reducible ((first | refine Tx_regK (fun K hK => ?_) | refine Tx_regE (fun K hK => ?_)); (first | refine t7r19 ?_ | refine t7r11 ?_)); (try simp only [SS, Nat.reduceEqDiff, lenS, h1124, ptR, clen_rowC, hng4, hwd]))
            | (revert hK; intro hK; (with_reducible refine hK _ ?_; clear hK K)))
            rw [show ((d.length : Int) + 1) = ((d ++ [p]).length : Int) by simp]
            refine hnL2 t.length _ (by simp) ⟨d ++ [p], t, c4, L4, by simp [h2], rfl, hc4, fun q hq => ?_, hL4, rfl⟩
            rcases List.mem_append.1 hq with hq | hq
            · exact hA4 q hq
            · simp only [List.mem_singleton] at hq; subst hq; exact ⟨hE4, hP4, hN4⟩
end Go.Cm
