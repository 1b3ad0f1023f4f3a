import Derived.Test.YtijcpefcfcbcnaaIzA
import Derived.Test.YtijcpefcfcbcnaaIdA
set_option linter.unusedSimpArgs false
set_option linter.unusedVariables false
namespace Go.Cm
open Go.Proofs Go.Ir
def cloneV {α : Type} (e : α → List CV) (sz : Nat) (l : List α) : CV := if l.isEmpty then .imm 0 [] else .own l.length sz (l.flatMap e) 0
theorem noG_cloneV {α : Type} {e : α → List CV} {sz : Nat} (h : ∀ a, noGs (e a) = true) (l : List α) : noG (cloneV e sz l) = true := by
  cases l with
  | nil => rfl
  | cons a l => exact noGs_flat h _
def rowCC (l : List Int) : List CV := [rowC intC l]
theorem rowCC_len (l : List Int) : (rowCC l).length = 1 := rfl
theorem rowCC_N (l : List Int) : noGs (rowCC l) = true := by simp only [rowCC, noGs, noG_rowC intC_N, Bool.and_self]
theorem rowCC_can (l : List Int) : cans (rowCC l) = [sl intC l] := by simp only [rowCC, cans, can_rowC intE.can]
theorem can_rowsCC (g : List (List Int)) : can (rowC rowCC g) = rowsC g := can_rowC rowCC_can g
theorem eqNil (n : Nat) (c : CV) (cs : List CV) (x y : Operand) : cbin Try.prog .eql 51 x y (.imm (n + 1) (c :: cs)) .nil = some (.bool false) := by
  simp only [cbin, eqC, ceq, Try.underlying51, Option.map_some]
theorem x106 (l : List Int) (hl : l.length ≤ 17592186044416) : FF 106 [sl intC l] [] = some (cloneV intC 1 l, []) := by
  cases l with
  | nil => exact Fw_iff.2 ⟨1, rfl⟩
  | cons a l =>
    simp only [List.length_cons] at hl
    refine Fw_funK rfl Try.func106 s106 (Nat.le_of_ble_eq_true rfl) (fun Q hqr hqn => ?_)
    rw [cin_t (show An.pure 106 = true from rfl) (by simp only [cans, can_int, can_bool, can_agg, can_str, intE.can_sl])]
    simp only [tinit, Nat.reduceAdd, c106]
    simp only [sl, List.length_cons, List.flatMap_cons, intC, List.cons_append, List.nil_append]
    have hq := fun x y => eqNil l.length (.int .i64 a) (l.flatMap intC) x y
    have hs' : smallB 8 (l.length + 1) = true := smallB_big (by omega) (by omega)
    have hcl : (CV.int .i64 a :: l.flatMap intC).length = (l.length + 1) * 1 := by simp only [List.length_cons, len_int]; omega
    have he : ∀ m, escList m [] = some ([], m) := fun _ => rfl
    have hct : ∀ m, content m 1 (.imm (l.length + 1) (CV.int .i64 a :: l.flatMap intC)) = some (CV.int .i64 a :: l.flatMap intC) := fun m => by simp only [content, hcl, if_true]
    repeat' (first
    | with_reducible (first | refine Tx_assoc ?_ | refine Tx_nopK ?_ | refine Tx_noK rfl ?_ | refine Tx_ret ?_)
    | (with_reducible (first | (refine Tx_regK (fun K hK => ?_); (first | refine t106r0 ?_ | refine t106r1 ?_ | refine t106r3 ?_)) | refine hqr _ ?_); (try simp only [SS, Nat.reduceEqDiff, nmA_f, nmR_f, setL_setL, Nat.reduceMul, Obt_ite', appX_l, appR_arr, fillX, bslX, r106, tend, tresAll, tresC, mapMem, retv_l, retR_arr, Nat.sub_self, hq, he, hct, clen_imm]))
    | (revert hK; intro hK; (first | refine And.intro ?_ ?_ | omega | (with_reducible refine hK _ ?_; clear hK K))))
    all_goals first | exact hs' | skip
    · rw [List.take_of_length_le (by omega)]; rfl
theorem k87 (e : Tm) {fid : FuncId} {d : Tmp} {m : Mem} {K : CV × Mem → Prop} (hgl : (An.glob fid).contains d = false)
    (hK : ∀ v m', OwnE intC 1 m' (16 * d) v (nexts e) → m'.H = m.H → (∀ i, i ≠ 16 * d → lget m'.L i = lget m.L i) → K (v, m')) : Obt (callC An FF fid (some d) 87 [.agg (tmC e)] m) K := by
  rw [callC_K (x87 e) rfl (by simp only [cans, can_agg, tmE.can]) rfl rfl (intE.noG_own _), Obt_some]
  obtain ⟨v, m', h1, h2, h3, h4⟩ := adopt_ownC (e := intC) (sz := 1) (m := m) (l := nexts e) (d := d) hgl
  rw [h1]
  exact hK v m' h2 h3 h4
theorem nexts_len (e : Tm) : (nexts e).length ≤ 2 := by
  unfold nexts; split
  · simp
  · split <;> simp
theorem x66 (f : Cd) (hf : f.parts.length ≤ 1048576) : ∃ r, (∃ H', r = (ownC rowCC 1 (succs f), H')) ∧ FF 66 [.agg (codeC f)] [] = some r := by
  refine Fw_funE rfl Try.func66 s66 (Nat.le_of_ble_eq_true rfl) (fun Q hqr hqn => ?_)
  rw [cin_t (show An.pure 66 = true from rfl) (by simp only [cans, can_int, can_bool, can_agg, can_str, codeE.can])]
  simp only [tinit, Nat.reduceAdd, c66]
  repeat' (first
  | with_reducible (first | refine Tx_assoc ?_ | refine Tx_blockK (id := 0) (fun Q0 hn0 hx0 hr0 ho0 => ?_))
  | (with_reducible (refine Tx_regK (fun K hK => ?_); (first | refine t66r0 ?_ | refine t66r1 ?_ | refine t66r2 ?_)); (try simp only [SS, Nat.reduceEqDiff, ccells, lenS, codeC, clen_sl]))
  | (revert hK; intro hK; (with_reducible refine hK _ ?_; clear hK K)))
  refine Tx_loopK (fun n s => ∃ (d t : List Pt) (v : CV) (L : List (Nat × HO)), f.parts = d ++ t ∧ n = t.length ∧ s = ⟨[(3, v), (7, sl ptC f.parts), (8, .int .i64 f.parts.length), (9, .int .i64 d.length)], ⟨L, []⟩⟩ ∧ OwnE rowCC 1 ⟨L, []⟩ 288 v (d.map fun p => nexts p.fin)) _ ⟨[], f.parts, .nil, _, rfl, rfl, rfl, .nil⟩ ?_
  rintro n s ⟨d, t, v, L, h2, rfl, rfl, hO⟩ QL0 hnL0 hxL0 hrL0
  have hlen := congrArg List.length h2
  simp only [List.length_append] at hlen
  simp only [c66l0]
  cases t with
  | nil =>
    simp only [List.length_nil] at hlen
    rw [List.append_nil] at h2
    repeat' (first
    | with_reducible (first | refine Tx_noK rfl ?_ | refine Tx_exitK ?_ | refine Tx_ret ?_ | refine hx0 _ ?_ | refine hxL0 _ _ ?_)
    | (with_reducible (first | (refine Tx_regK (fun K hK => ?_); (first | refine t66r3 ?_ | refine t66r7 ?_)) | refine hqr _ ?_); (try simp only [SS, Nat.reduceEqDiff, Obt_bind, r66, tend, tresAll, tresC, mapMem]))
    | (revert hK; intro hK; (first | refine And.intro ?_ ?_ | intro _ | omega | (with_reducible refine hK _ ?_; clear hK K))))
    have : (d.map fun p => nexts p.fin) = succs f := by rw [succs, h2]
    rw [this] at hO
    refine hO.ret rowCC_len fun m' hm' => ?_
    simp only [tup_one, Option.map_some, Obt_some]
    first | exact ⟨_, rfl, rfl⟩ | exact ⟨_, trivial, rfl⟩
  | cons p t =>
    simp only [List.length_cons] at hlen
    have hw : IntKind.i64.wrap ((d.length : Int) + 1) = d.length + 1 := wI (by omega) (by omega)
    repeat' (first
    | with_reducible (first | refine Tx_nopK ?_ | refine Tx_yesK rfl ?_ | refine Tx_blockK (id := 1) (fun Q1 hn1 hx1 hr1 ho1 => ?_))
    | (with_reducible ((first | refine Tx_regK (fun K hK => ?_) | refine Tx_regE (fun K hK => ?_)); (first | refine t66r3 ?_ | refine t66r4 ?_ | refine t66r5 ?_)); (try simp only [SS, Nat.reduceEqDiff, ccells, setL_setL, Nat.reduceAdd, splice, hw, idxS_split ptE.len (by omega) h2, ldA_r10, ptC]))
    | (revert hK; intro hK; (first | refine And.intro ?_ ?_ | intro _ | omega | (with_reducible refine hK _ ?_; clear hK K))))
    refine k87 p.fin rfl fun v1 m1 hO1 hH1 hf1 => ?_
    refine bslX_row (s := 272) hO1.seen intE.len (fun m2 q1 q2 q3 q4 => ?_) (by decide)
    have hO2 : OwnE rowCC 1 m2 288 v (d.map fun p => nexts p.fin) := hO.keep (by rw [q3 288 (by decide) (by decide), hf1 288 (by decide)]; simp [setL, lget_lset])
    refine hO2.app (ys := [nexts p.fin]) rowCC_len (by simp only [content_l, q1, conR_arr]; rfl) rfl (by decide) (by simp; omega) fun v' m' hO' hH' hf' => ?_
    refine hK _ ?_
    clear hK K
    obtain ⟨L3, H3⟩ := m'
    simp only [q2, hH1] at hH'
    simp only [setL] at hH'
    subst hH'
    repeat' (first
    | with_reducible refine hn1 _ ?_
    | (with_reducible (refine Tx_regE (fun K hK => ?_); refine t66r6 ?_); (try simp only [SS, Nat.reduceEqDiff, hw]))
    | (revert hK; intro hK; (with_reducible refine hK _ ?_; clear hK K)))
    refine hnL0 t.length _ (by simp) ⟨d ++ [p], t, v', L3, by simp [h2], rfl, by simp, by simpa using hO'⟩
def usesV (n : Nd) : CV := if n.op = 7 then cloneV intC 1 n.args else ownC intC 1 (uses n)
theorem x79 (n : Nd) (hl : n.args.length ≤ 17592186044416) : FF 79 [.agg (ndC n)] [] = some (usesV n, []) := by
  have hk : ∀ m, callC An FF 79 (some 22) 106 [sl intC n.args] m = some (adopt false 22 (cloneV intC 1 n.args) m) := fun m =>
    callC_K (x106 n.args hl) rfl (by simp only [cans, intE.can_sl]) rfl (by simp only [noGs, intE.noG_sl, Bool.and_self]) (noG_cloneV intC_N _)
  by_cases h4 : n.op = 4
  · refine Fw_funK rfl Try.func79 s79 (Nat.le_of_ble_eq_true rfl) (fun Q hqr hqn => ?_)
    rw [cin_t (show An.pure 79 = true from rfl) (by simp only [cans, can_int, can_bool, can_agg, can_str, ndE.can])]
    simp only [tinit, Nat.reduceAdd, c79]
    repeat' (first
    | with_reducible (first | refine Tx_assoc ?_ | refine Tx_nopK ?_ | refine Tx_yesK rfl ?_ | refine Tx_yes rfl ?_ | refine Tx_ret ?_ | refine Tx_blockK (id := 0) (fun Q0 hn0 hx0 hr0 ho0 => ?_) | refine hr0 _ ?_)
    | (with_reducible (first | (refine Tx_regK (fun K hK => ?_); (first | refine t79r0 ?_ | refine t79r1 ?_ | refine t79r2 ?_ | refine t79r4 ?_)) | refine hqr _ ?_); (try simp only [SS, Nat.reduceEqDiff, ccells, nmA_f, nmR_f, gn_var, gnext_setL, setL_setL, Nat.reduceMul, Nat.reduceAdd, Obt_bind, fillX, bslX, escP_list, splice, Nat.reduceLeDiff, escP, List.all_cons, List.all_nil, Bool.and_self, r79, tend, tresAll, tresC, mapMem, retv_l, retR_arr, Nat.sub_self, ndC, h4]))
    | (revert hK; intro hK; (with_reducible refine hK _ ?_; clear hK K)))
    all_goals simp [usesV, uses, h4, ownC, intC]
  by_cases h6 : n.op = 6
  · refine Fw_funK rfl Try.func79 s79 (Nat.le_of_ble_eq_true rfl) (fun Q hqr hqn => ?_)
    rw [cin_t (show An.pure 79 = true from rfl) (by simp only [cans, can_int, can_bool, can_agg, can_str, ndE.can])]
    simp only [tinit, Nat.reduceAdd, c79]
    repeat' (first
    | with_reducible (first | refine Tx_assoc ?_ | refine Tx_noK rfl ?_ | refine Tx_yes rfl ?_ | refine Tx_ret ?_ | refine Tx_blockK (id := 0) (fun Q0 hn0 hx0 hr0 ho0 => ?_) | refine hr0 _ ?_)
    | (with_reducible (first | (refine Tx_regK (fun K hK => ?_); (first | refine t79r0 ?_ | refine t79r1 ?_ | refine t79r2 ?_ | refine t79r3 ?_ | refine t79r4 ?_)) | refine hqr _ ?_); (try simp only [SS, Nat.reduceEqDiff, ccells, nmA_f, nmR_f, gn_var, gnext_setL, setL_setL, Nat.reduceMul, Nat.reduceAdd, Obt_bind, fillX, bslX, escP_list, splice, Nat.reduceLeDiff, escP, List.all_cons, List.all_nil, Bool.and_self, r79, tend, tresAll, tresC, mapMem, retv_l, retR_arr, Nat.sub_self, ndC, h6]))
    | (revert hK; intro hK; (first | refine And.intro ?_ ?_ | intro _ | omega | (with_reducible refine hK _ ?_; clear hK K))))
    all_goals simp [usesV, uses, h6, ownC, intC]
  by_cases h5 : n.op = 5
  · refine Fw_funK rfl Try.func79 s79 (Nat.le_of_ble_eq_true rfl) (fun Q hqr hqn => ?_)
    rw [cin_t (show An.pure 79 = true from rfl) (by simp only [cans, can_int, can_bool, can_agg, can_str, ndE.can])]
    simp only [tinit, Nat.reduceAdd, c79]
    repeat' (first
    | with_reducible (first | refine Tx_assoc ?_ | refine Tx_noK rfl ?_ | refine Tx_yes rfl ?_ | refine Tx_no rfl ?_ | refine Tx_ret ?_ | refine Tx_blockK (id := 0) (fun Q0 hn0 hx0 hr0 ho0 => ?_) | refine hr0 _ ?_)
    | (with_reducible (first | (refine Tx_regK (fun K hK => ?_); (first | refine t79r0 ?_ | refine t79r1 ?_ | refine t79r2 ?_ | refine t79r3 ?_ | refine t79r5 ?_ | refine t79r6 ?_)) | refine hqr _ ?_); (try simp only [SS, Nat.reduceEqDiff, ccells, nmA_f, nmR_f, gn_var, gnext_setL, setL_setL, Nat.reduceMul, Obt_bind, fillX, bslX, escP_list, splice, escP, List.all_cons, List.all_nil, Bool.and_self, r79, tend, tresAll, tresC, mapMem, retv_l, retR_arr, Nat.sub_self, ndC, h5]))
    | (revert hK; intro hK; (first | refine And.intro ?_ ?_ | intro _ | omega | (with_reducible refine hK _ ?_; clear hK K))))
    all_goals simp [usesV, uses, h5, ownC, intC]
  by_cases h7 : n.op = 7
  · have hu : usesV n = cloneV intC 1 n.args := by rw [usesV, if_pos h7]
    rw [hu]
    cases ha : n.args with
    | nil =>
      rw [ha] at hk
      have hk : ∀ m, callC An FF 79 (some 22) 106 [sl intC []] m = some (.imm 0 [], m) := hk
      refine Fw_funK rfl Try.func79 s79 (Nat.le_of_ble_eq_true rfl) (fun Q hqr hqn => ?_)
      rw [cin_t (show An.pure 79 = true from rfl) (by simp only [cans, can_int, can_bool, can_agg, can_str, ndE.can])]
      simp only [tinit, Nat.reduceAdd, c79]
      repeat' (first
      | with_reducible (first | refine Tx_assoc ?_ | refine Tx_noK rfl ?_ | refine Tx_yes rfl ?_ | refine Tx_no rfl ?_ | refine Tx_ret ?_ | refine Tx_blockK (id := 0) (fun Q0 hn0 hx0 hr0 ho0 => ?_) | refine hr0 _ ?_)
      | (with_reducible (first | (refine Tx_regK (fun K hK => ?_); (first | refine t79r0 ?_ | refine t79r1 ?_ | refine t79r2 ?_ | refine t79r3 ?_ | refine t79r5 ?_ | refine t79r7 ?_ | refine t79r8 ?_)) | refine hqr _ ?_); (try simp only [SS, Nat.reduceEqDiff, ccells, r79, tend, tresAll, tresC, mapMem, retv_imm, ndC, h7, ha, hk]))
      | (revert hK; intro hK; (first | refine And.intro ?_ ?_ | intro _ | omega | (with_reducible refine hK _ ?_; clear hK K))))
      all_goals first | rfl | simp [cloneV]
    | cons a l =>
      rw [ha] at hk
      have hk : ∀ m, callC An FF 79 (some 22) 106 [sl intC (a :: l)] m = some (.ref (.l 352) (gnext m.L 352) 0 (l.length + 1), setL m 352 (.arr (gnext m.L 352) 1 ((a :: l).flatMap intC) 0)) := hk
      refine Fw_funK rfl Try.func79 s79 (Nat.le_of_ble_eq_true rfl) (fun Q hqr hqn => ?_)
      rw [cin_t (show An.pure 79 = true from rfl) (by simp only [cans, can_int, can_bool, can_agg, can_str, ndE.can])]
      simp only [tinit, Nat.reduceAdd, c79]
      repeat' (first
      | with_reducible (first | refine Tx_assoc ?_ | refine Tx_noK rfl ?_ | refine Tx_yes rfl ?_ | refine Tx_no rfl ?_ | refine Tx_ret ?_ | refine Tx_blockK (id := 0) (fun Q0 hn0 hx0 hr0 ho0 => ?_) | refine hr0 _ ?_)
      | (with_reducible (first | (refine Tx_regK (fun K hK => ?_); (first | refine t79r0 ?_ | refine t79r1 ?_ | refine t79r2 ?_ | refine t79r3 ?_ | refine t79r5 ?_ | refine t79r7 ?_ | refine t79r8 ?_)) | refine hqr _ ?_); (try simp only [SS, Nat.reduceEqDiff, ccells, gn_var, gnext_setL, setL_setL, r79, tend, tresAll, tresC, mapMem, retv_l, retR_arr, Nat.sub_self, ndC, h7, ha, hk]))
      | (revert hK; intro hK; (first | refine And.intro ?_ ?_ | intro _ | omega | (with_reducible refine hK _ ?_; clear hK K))))
      all_goals (rw [List.take_of_length_le (by rw [len_int]; simp)]; rfl)
  · refine Fw_funK rfl Try.func79 s79 (Nat.le_of_ble_eq_true rfl) (fun Q hqr hqn => ?_)
    rw [cin_t (show An.pure 79 = true from rfl) (by simp only [cans, can_int, can_bool, can_agg, can_str, ndE.can])]
    simp only [tinit, Nat.reduceAdd, c79]
    repeat' (first
    | with_reducible (first | refine Tx_assoc ?_ | refine Tx_noK rfl ?_ | refine Tx_no rfl ?_ | refine Tx_ret ?_ | refine Tx_nop ?_ | refine Tx_blockK (id := 0) (fun Q0 hn0 hx0 hr0 ho0 => ?_) | refine hn0 _ ?_)
    | (with_reducible (first | (refine Tx_regK (fun K hK => ?_); (first | refine t79r0 ?_ | refine t79r1 ?_ | refine t79r2 ?_ | refine t79r3 ?_ | refine t79r5 ?_ | refine t79r7 ?_ | refine t79r9 ?_)) | refine hqr _ ?_); (try simp only [SS, Nat.reduceEqDiff, ccells, r79, tend, tresAll, tresC, mapMem, retv_nil, ndC, h4, h5, h6, h7]))
    | (revert hK; intro hK; (with_reducible refine hK _ ?_; clear hK K)))
    all_goals simp [usesV, uses, h4, h5, h6, h7, ownC]
theorem x88 (H : List HO) (va vb : CV) (a b : List Int) (ha : RdI H va a) (hb : RdI H vb b) (hal : a.length ≤ 17592186044416) : FF 88 [va, vb] H = some (.bool (decide (a = b)), H) := by
  refine Fw_funK rfl Try.func88 s88 (Nat.le_of_ble_eq_true rfl) (fun Q hqr hqn => ?_)
  rw [show ∀ a, cin (An.pure 88) a = a from fun _ => rfl]
  simp only [tinit, Nat.reduceAdd, c88]
  by_cases hl : a.length = b.length
  · have hlb : clen vb = some a.length := by rw [hb.len, hl]
    repeat' (first
    | with_reducible (first | refine Tx_assoc ?_ | refine Tx_nopK ?_ | refine Tx_noK rfl ?_ | refine Tx_blockK (id := 0) (fun Q0 hn0 hx0 hr0 ho0 => ?_))
    | (with_reducible (refine Tx_regK (fun K hK => ?_); (first | refine t88r0 ?_ | refine t88r1 ?_ | refine t88r3 ?_)); (try simp only [SS, Nat.reduceEqDiff, Obt_neq, lenS, ha.len, hlb]))
    | (revert hK; intro hK; (with_reducible refine hK _ ?_; clear hK K)))
    refine Tx_loopK (fun k s => ∃ (i : Nat) (L : List (Nat × HO)), i ≤ a.length ∧ a.take i = b.take i ∧ k = a.length - i ∧ s = ⟨[(0, va), (1, vb), (12, .int .i64 a.length), (13, .int .i64 i)], ⟨L, H⟩⟩) _ ⟨0, _, Nat.zero_le _, rfl, rfl, rfl⟩ ?_
    rintro k s ⟨i, L, hi, hp, rfl, rfl⟩ QL0 hnL0 hxL0 hrL0
    simp only [c88l0]
    by_cases hig : i = a.length
    · subst hig
      have he : a = b := by rw [List.take_of_length_le (Nat.le_refl _), List.take_of_length_le (by omega)] at hp; exact hp
      repeat' (first
      | with_reducible (first | refine Tx_noK rfl ?_ | refine Tx_exitK ?_ | refine Tx_ret ?_ | refine hx0 _ ?_ | refine hxL0 _ _ ?_)
      | (with_reducible (first | (refine Tx_regK (fun K hK => ?_); (first | refine t88r4 ?_ | refine t88r9 ?_)) | refine hqr _ ?_); (try simp only [SS, Nat.reduceEqDiff, r88, tend, tresAll, tresC, mapMem, ha.len]))
      | (revert hK; intro hK; (first | refine And.intro ?_ ?_ | intro _ | omega | (with_reducible refine hK _ ?_; clear hK K))))
      simp [he]
    · have hia : (i : Int) < a.length := by omega
      have ga : a[i]? = some a[i] := List.getElem?_eq_getElem (by omega)
      have gb : b[i]? = some b[i] := List.getElem?_eq_getElem (by omega)
      obtain ⟨p, hp1, hp2⟩ := ha.at ga (k := .i64)
      obtain ⟨q, hq1, hq2⟩ := hb.at gb (k := .i64)
      have hw : IntKind.i64.wrap ((i : Int) + 1) = ((i + 1 : Nat) : Int) := by rw [wI (by omega) (by omega)]; rfl
      by_cases he : a[i] = b[i]
      · repeat' (first
        | with_reducible (first | refine Tx_nopK ?_ | refine Tx_yesK rfl ?_ | refine Tx_no rfl ?_ | refine Tx_nop ?_ | refine Tx_blockK (id := 1) (fun Q1 hn1 hx1 hr1 ho1 => ?_) | refine hn1 _ ?_)
        | (with_reducible ((first | refine Tx_regK (fun K hK => ?_) | refine Tx_regE (fun K hK => ?_)); (first | refine t88r4 ?_ | refine t88r5 ?_ | refine t88r6 ?_ | refine t88r8 ?_)); (try simp only [SS, Nat.reduceEqDiff, Obt_neq, ha.len, hia, hp1, hp2, hq1, hq2, he, hw]))
        | (revert hK; intro hK; (with_reducible refine hK _ ?_; clear hK K)))
        refine hnL0 (a.length - (i + 1)) _ (by omega) ⟨i + 1, L, by omega, ?_, rfl, rfl⟩
        rw [List.take_add_one, List.take_add_one, hp, ga, gb, he]
      · have hne : a ≠ b := fun h => he (by subst h; rfl)
        repeat' (first
        | with_reducible (first | refine Tx_nopK ?_ | refine Tx_yesK rfl ?_ | refine Tx_yes rfl ?_ | refine Tx_ret ?_ | refine hr0 _ ?_ | refine Tx_blockK (id := 1) (fun Q1 hn1 hx1 hr1 ho1 => ?_) | refine hr1 _ ?_ | refine hrL0 _ ?_)
        | (with_reducible (first | (refine Tx_regK (fun K hK => ?_); (first | refine t88r4 ?_ | refine t88r5 ?_ | refine t88r6 ?_ | refine t88r7 ?_)) | refine hqr _ ?_); (try simp only [SS, Nat.reduceEqDiff, Obt_neq, r88, tend, tresAll, tresC, mapMem, ha.len, hia, hp1, hp2, hq1, hq2, he, hw]))
        | (revert hK; intro hK; (with_reducible refine hK _ ?_; clear hK K)))
        simp [hne]
  · have hne : a ≠ b := fun h => hl (by rw [h])
    have hl2 : ¬ ((a.length : Int) = b.length) := by omega
    repeat' (first
    | with_reducible (first | refine Tx_assoc ?_ | refine Tx_yesK rfl ?_ | refine Tx_retK ?_)
    | (with_reducible (first | (refine Tx_regK (fun K hK => ?_); (first | refine t88r0 ?_ | refine t88r1 ?_ | refine t88r2 ?_)) | refine hqr _ ?_); (try simp only [SS, Nat.reduceEqDiff, Obt_neq, lenS, r88, tend, tresAll, tresC, mapMem, ha.len, hb.len, hl2]))
    | (revert hK; intro hK; (with_reducible refine hK _ ?_; clear hK K)))
    simp [hne]
end Go.Cm
