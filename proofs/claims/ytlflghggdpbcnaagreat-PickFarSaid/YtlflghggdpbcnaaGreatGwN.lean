import Derived.Test.YtlflghggdpbcnaaGreatGwA
set_option linter.unusedSimpArgs false
set_option linter.unusedVariables false
namespace Go.Cm
open Go.Proofs Go.Pk
def idxOf : List Int → Int → Int
  | [], _ => -1
  | a :: r, v => if a = v then 0 else if idxOf r v < 0 then -1 else idxOf r v + 1
theorem idxOf_none : ∀ {l : List Int} {v : Int}, (∀ x ∈ l, x ≠ v) → idxOf l v = -1
  | [], _, _ => rfl
  | a :: r, v, h => by
    have h1 := h a (by simp)
    have h2 := idxOf_none (l := r) (v := v) fun x hx => h x (List.mem_cons_of_mem _ hx)
    simp [idxOf, h1, h2]
theorem idxOf_at : ∀ {d r : List Int} {v : Int}, (∀ x ∈ d, x ≠ v) → idxOf (d ++ v :: r) v = d.length
  | [], r, v, _ => by simp [idxOf]
  | a :: d, r, v, h => by
    have h1 := h a (by simp)
    have h2 := idxOf_at (d := d) (r := r) (v := v) fun x hx => h x (List.mem_cons_of_mem _ hx)
    simp only [List.cons_append, idxOf, h1, if_false, h2]
    rw [if_neg (by omega)]; simp
theorem condsL_at {d t : List Int} {a : Int} (h : condsI = d ++ a :: t) : condsL[d.length]? = some (.int .i64 a) := by
  have : condsI[d.length]? = some a := by rw [h]; simp
  rw [condsL, flat_int, this]; rfl
theorem x102 {k : Nat} {H : List HO} (hk : H[k]? = some condsH) (v : Int) : FF 102 [.ref (.g k) 1 0 11, .int .i64 v] H = some (.int .i64 (idxOf condsI v), H) := by
  have h11 : condsI.length = 11 := rfl
  refine Fw_funK rfl Tryz.func102 s102 (Nat.le_of_ble_eq_true rfl) (fun Q hqr hqn => ?_)
  rw [show ∀ a, cin (An.pure 102) a = a from fun _ => rfl]
  simp only [tinit, Nat.reduceAdd, c102]
  repeat' (first
  | with_reducible (first | refine Tx_assoc ?_ | refine Tx_blockK (id := 0) (fun Q0 hn0 hx0 hr0 ho0 => ?_))
  | (with_reducible (refine Tx_regK (fun K hK => ?_); (first | refine t102r0 ?_ | refine t102r1 ?_)); (try simp only [tget_cons, if_true, if_false, Nat.reduceEqDiff, Obt_some, Kn_normal, Option.map_some, lenS, clen_r, if_false, if_true, clen_r]))
  | (revert hK; intro hK; (with_reducible refine hK _ ?_; clear hK K)))
  refine Tx_loopK (fun n s => ∃ (d t : List Int) (L : List (Nat × HO)), condsI = d ++ t ∧ (∀ x ∈ d, x ≠ v) ∧ n = t.length ∧ s = ⟨[(0, .ref (.g k) 1 0 11), (1, .int .i64 v), (7, .int .i64 11), (8, .int .i64 d.length)], ⟨L, H⟩⟩) _ ⟨[], condsI, _, rfl, by simp, rfl, rfl⟩ ?_
  rintro n s ⟨d, t, L, h2, hd, rfl, rfl⟩ QL0 hnL0 hxL0 hrL0
  have hlen := congrArg List.length h2
  simp only [List.length_append, h11] at hlen
  simp only [c102l0]
  cases t with
  | nil =>
    simp only [List.length_nil] at hlen
    rw [List.append_nil] at h2
    have hge : ¬ ((d.length : Int) < 11) := by omega
    have he : idxOf condsI v = -1 := idxOf_none (by rw [h2]; exact hd)
    repeat' (first
    | with_reducible (first | refine Tx_noK rfl ?_ | refine Tx_exitK ?_ | refine Tx_ret ?_ | refine hx0 _ ?_ | refine hxL0 _ _ ?_)
    | (with_reducible (first | (refine Tx_regK (fun K hK => ?_); (first | refine t102r2 ?_ | refine t102r7 ?_)) | refine hqr _ ?_); (try simp only [true_implies, false_implies, not_false_eq_true, tget_cons, if_true, if_false, Nat.reduceEqDiff, Obt_some, Kn_normal, Obt_lss, Option.map_some, true_and, if_false, if_true, r102, tend, tresAll, tresC, Option.bind_some, mapMem, retv_int, tup_one, hge, he]))
    | (revert hK; intro hK; (with_reducible refine hK _ ?_; clear hK K)))
  | cons a t =>
    simp only [List.length_cons] at hlen
    have hlt : (d.length : Int) < 11 := by omega
    have hw : IntKind.i64.wrap ((d.length : Int) + 1) = d.length + 1 := wI (by omega) (by omega)
    have hidx : idxS 1 (.ref (.g k) 1 0 11) (.int .i64 d.length) = some (.ptr (.g k) 1 d.length) := by
      rw [idxS_ref, if_pos ⟨by omega, by omega⟩]; simp
    have hld : ∀ L, ld1 ⟨L, H⟩ (.ptr (.g k) 1 d.length) = some (.int .i64 a) := fun L => by
      rw [ld1_g, hk]; simp only [condsH, rd1_arr, if_true]; exact condsL_at h2
    by_cases hv : a = v
    · subst hv
      have he : idxOf condsI a = d.length := by rw [h2]; exact idxOf_at hd
      repeat' (first
      | with_reducible (first | refine Tx_nopK ?_ | refine Tx_yesK rfl ?_ | refine Tx_yes rfl ?_ | refine Tx_ret ?_ | refine hr0 _ ?_ | refine Tx_blockK (id := 1) (fun Q1 hn1 hx1 hr1 ho1 => ?_) | refine hr1 _ ?_ | refine hrL0 _ ?_)
      | (with_reducible (first | (refine Tx_regK (fun K hK => ?_); (first | refine t102r2 ?_ | refine t102r3 ?_ | refine t102r4 ?_ | refine t102r5 ?_)) | refine hqr _ ?_); (try simp only [true_implies, false_implies, not_true_eq_false, tget_cons, if_true, if_false, Nat.reduceEqDiff, Obt_some, Kn_normal, Obt_lss, Obt_eql, Option.map_some, and_true, if_false, if_true, r102, tend, tresAll, tresC, Option.bind_some, mapMem, retv_int, tup_one, hlt, hidx, hld, he]))
      | (revert hK; intro hK; (with_reducible refine hK _ ?_; clear hK K)))
    · have hv' : ¬ v = a := fun e => hv e.symm
      repeat' (first
      | with_reducible (first | refine Tx_nopK ?_ | refine Tx_yesK rfl ?_ | refine Tx_no rfl ?_ | refine Tx_nop ?_ | refine Tx_blockK (id := 1) (fun Q1 hn1 hx1 hr1 ho1 => ?_) | refine hn1 _ ?_)
      | (with_reducible ((first | refine Tx_regK (fun K hK => ?_) | refine Tx_regE (fun K hK => ?_)); (first | refine t102r2 ?_ | refine t102r3 ?_ | refine t102r4 ?_ | refine t102r6 ?_)); (try simp only [true_implies, false_implies, not_true_eq_false, not_false_eq_true, tget_cons, if_true, if_false, Nat.reduceEqDiff, Obt_some, Kn_normal, Obt_lss, Obt_eql, Obt_add, and_true, true_and, if_false, if_true, hlt, hidx, hld, hv, hv', hw]))
      | (revert hK; intro hK; (with_reducible refine hK _ ?_; clear hK K)))
      refine hnL0 t.length _ (by simp) ⟨d ++ [a], t, L, by simp [h2], ?_, rfl, by simp⟩
      intro x hx
      rcases List.mem_append.1 hx with hx | hx
      · exact hd x hx
      · rw [List.mem_singleton] at hx; rw [hx]; exact hv
theorem slcA_all {k : Nat} {L : List (Nat × HO)} {H : List HO} (hk : H[k]? = some condsH) : slcA 11 1 (.ptr (.g k) 1 0) none none none ⟨L, H⟩ = some (.ref (.g k) 1 0 11) := by
  show (match H[k]? with | some (.arr g s' cs _) => if g = 1 ∧ s' = 1 ∧ 0 + 11 * 1 ≤ cs.length then some (CV.ref (.g k) 1 (0 + 0 * 1) (11 - 0)) else none | _ => none) = _
  rw [hk]; rfl
theorem x167 {x k : Nat} {r : Rc} {H : List HO} (hk : H[k]? = some condsH) (h2 : H[x]? = some (.var 1 (rcC r) 0)) : FF 167 [.ptr (.g x) 1 0, .ptr (.g k) 1 0] H = some (.int .i64 (idxOf condsI r.fn), H) := by
  have hl2 : ∀ L, ld1 ⟨L, H⟩ (.ptr (.g x) 1 4) = some (.int .i64 r.fn) := fun L => by rw [ld1_g, h2]; rfl
  have hs := fun L => slcA_all (L := L) hk
  have hc : ∀ L t, callC An FF 167 (some t) 102 [.ref (.g k) 1 0 11, .int .i64 r.fn] ⟨L, H⟩ = some (.int .i64 (idxOf condsI r.fn), ⟨L, H⟩) := fun L t => by rw [callC_I rfl rfl (x102 hk r.fn), adopt_int]
  refine Fw_funK rfl Tryz.func167 s167 (Nat.le_of_ble_eq_true rfl) (fun Q hqr hqn => ?_)
  rw [show ∀ a, cin (An.pure 167) a = a from fun _ => rfl]
  simp only [tinit, Nat.reduceAdd, c167]
  repeat' (first
  | with_reducible refine Tx_ret ?_
  | (with_reducible (first | (refine Tx_regK (fun K hK => ?_); (first | refine t167r0 ?_ | refine t167r1 ?_)) | refine hqr _ ?_); (try simp only [tget_cons, if_true, if_false, Nat.reduceEqDiff, Obt_some, Kn_normal, Nat.zero_add, fldA_ptr, Option.map_some, if_false, if_true, r167, tend, tresAll, tresC, Option.bind_some, mapMem, retv_int, tup_one, nilP', hl2, hs, hc]))
  | (revert hK; intro hK; (with_reducible refine hK _ ?_; clear hK K)))
def condAt (v : Int) : Int := if v < 11 then (condsI[v.toNat]?).getD 0 else -1
theorem x168 {x k : Nat} {r : Rc} {H : List HO} (v : Int) (h0 : 0 ≤ v) (hne : x ≠ k) (hk : H[k]? = some condsH) (h2 : H[x]? = some (.var 1 (rcC r) 0)) : FF 168 [.ptr (.g x) 1 0, .int .i64 v, .ptr (.g k) 1 0] H = some (.tuple [], H.set x (.var 1 (rcC { r with fn := condAt v }) 0)) := by
  obtain ⟨Hs, hHs⟩ : ∃ Hs : Int → List HO, Hs = fun y => H.set x (.var 1 (rcC { r with fn := y }) 0) := ⟨_, rfl⟩
  have hxl : x < H.length := (List.getElem?_eq_some_iff.1 h2).1
  have hst : ∀ L y, stX 1 ⟨L, H⟩ (.ptr (.g x) 1 4) (.int .i64 y) = some ⟨L, Hs y⟩ := fun L y => by
    have hc : ccells (.int .i64 y) = some [.int .i64 y] := rfl
    rw [stX_g, h2, hc, hHs]; rfl
  have hst2 : ∀ L y z, stX 1 ⟨L, Hs z⟩ (.ptr (.g x) 1 4) (.int .i64 y) = some ⟨L, Hs y⟩ := fun L y z => by
    have hc : ccells (.int .i64 y) = some [.int .i64 y] := rfl
    have h3 : (Hs z)[x]? = some (.var 1 (rcC { r with fn := z }) 0) := by rw [hHs]; simp [hxl]
    have e : stX 1 ⟨L, Hs z⟩ (.ptr (.g x) 1 4) (.int .i64 y) = some ⟨L, (Hs z).set x (.var 1 (rcC { r with fn := y }) 0)⟩ := by rw [stX_g, h3, hc]; rfl
    rw [e, hHs]
    simp only [List.set_set]
  rw [show H.set x (.var 1 (rcC { r with fn := condAt v }) 0) = Hs (condAt v) from by rw [hHs]]
  by_cases hv : v < 11
  · have hidx : idxA 11 1 (.ptr (.g k) 1 0) (.int .i64 v) = some (.ptr (.g k) 1 v.toNat) := by
      have ha : asNat (.int .i64 v) = some v.toNat := by simp [asNat, h0]
      simp only [idxA, ha]
      rw [if_pos (by omega)]; simp
    have hld : ∀ L y, ld1 ⟨L, Hs y⟩ (.ptr (.g k) 1 v.toNat) = some (.int .i64 (condAt v)) := fun L y => by
      have : (Hs y)[k]? = some condsH := by rw [hHs]; simp only; rw [List.getElem?_set_ne hne]; exact hk
      rw [ld1_g, this]
      simp only [condsH, rd1_arr, if_true, condsL, flat_int, condAt, hv]
      have h11 : v.toNat < condsI.length := by have : condsI.length = 11 := rfl; omega
      rw [List.getElem?_eq_getElem h11]; rfl
    refine Fw_funK rfl Tryz.func168 s168 (Nat.le_of_ble_eq_true rfl) (fun Q hqr hqn => ?_)
    rw [show ∀ a, cin (An.pure 168) a = a from fun _ => rfl]
    simp only [tinit, Nat.reduceAdd, c168]
    repeat' (first
    | with_reducible refine Tx_yes rfl ?_
    | (with_reducible (first | ((first | refine Tx_regK (fun K hK => ?_) | refine Tx_regE (fun K hK => ?_)); (first | refine t168r0 ?_ | refine t168r1 ?_ | refine t168r2 ?_)) | refine hqn _ ?_); (try simp only [true_implies, false_implies, not_true_eq_false, tget_cons, if_true, if_false, Nat.reduceEqDiff, Obt_some, Kn_normal, Nat.zero_add, fldA_ptr, Obt_lss, Option.map_some, and_true, if_false, if_true, r168, tend, tresAll, Option.bind_some, mapMem, tup_nil, nilP', hst, hst2, hv, hidx, hld]))
    | (revert hK; intro hK; (with_reducible refine hK _ ?_; clear hK K)))
    all_goals trace_state
    all_goals sorry
  · have he : condAt v = -1 := by unfold condAt; rw [if_neg hv]
    refine Fw_funK rfl Tryz.func168 s168 (Nat.le_of_ble_eq_true rfl) (fun Q hqr hqn => ?_)
    rw [show ∀ a, cin (An.pure 168) a = a from fun _ => rfl]
    simp only [tinit, Nat.reduceAdd, c168]
    repeat' (first
    | with_reducible (first | refine Tx_no rfl ?_ | refine Tx_nop ?_)
    | (with_reducible (first | (refine Tx_regK (fun K hK => ?_); (first | refine t168r0 ?_ | refine t168r1 ?_)) | refine hqn _ ?_); (try simp only [true_implies, false_implies, not_false_eq_true, tget_cons, if_true, if_false, Nat.reduceEqDiff, Obt_some, Kn_normal, Nat.zero_add, fldA_ptr, Obt_lss, Option.map_some, true_and, if_false, if_true, r168, tend, tresAll, Option.bind_some, mapMem, tup_nil, nilP', hst, hv, he]))
    | (revert hK; intro hK; (with_reducible refine hK _ ?_; clear hK K)))
    all_goals trace_state
    all_goals sorry
end Go.Cm

namespace Go.Cm
open Go.Proofs Go.Pk
inductive Fd where
  | cell (c : Cell) (n : Int) (s : Bool) (k : Nat)
  | non (n : Int)
  | wide
  | alu
  | cond (k : Nat)
def Fd.n : Fd → Int
  | .cell _ n _ _ => n | .non n => n | .wide => 1 | .alu => 4 | .cond _ => 4
def Fd.s : Fd → Bool
  | .cell _ _ s _ => s | _ => false
def Fd.g : Fd → CV
  | .cell _ _ _ k => .func (.func 161) [] [.ptr (.g k) 1 0] | .non _ => .func (.func 163) [] [] | .wide => .func (.func 156) [] [] | .alu => .func (.func 159) [] [] | .cond k => .func (.func 167) [] [.ptr (.g k) 1 0]
def Fd.t : Fd → CV
  | .cell _ _ _ k => .func (.func 162) [] [.ptr (.g k) 1 0] | .non _ => .func (.func 164) [] [] | .wide => .func (.func 158) [] [] | .alu => .func (.func 160) [] [] | .cond k => .func (.func 168) [] [.ptr (.g k) 1 0]
def Fd.cv (f : Fd) : List CV := [.int .i64 f.n, .bool f.s, f.g, f.t]
theorem Fd.cv_len (f : Fd) : f.cv.length = 4 := rfl
def Fd.get : Fd → Rc → Int
  | .cell c _ _ _, r => c.get r | .non _, _ => 0 | .wide, r => if r.wide then 1 else 0 | .alu, r => IntKind.i64.wrap (r.fn.tdiv 16) | .cond _, r => idxOf condsI r.fn
def Fd.set : Fd → Rc → Int → Rc
  | .cell c _ _ _, r, v => c.set r v | .non _, r, _ => r | .wide, r, v => { r with wide := decide (0 < v) } | .alu, r, v => { r with fn := IntKind.i64.wrap (16 * v) } | .cond _, r, v => { r with fn := condAt v }
def Fd.lo (f : Fd) : Int := (bnd f.n f.s).1
def Fd.hi (f : Fd) : Int := (bnd f.n f.s).2
def Fd.ok (ats : List HO) : Fd → Prop
  | .cell c n s k => okB n s ∧ 1 ≤ k ∧ ats[k - 1]? = some (atF c.fn)
  | .non n => okB n false
  | .wide => True
  | .alu => True
  | .cond k => 1 ≤ k ∧ ats[k - 1]? = some condsH
def HC (r s : Rc) (ats : List HO) : List HO := .var 1 (rcC r) 0 :: (ats ++ [.var 1 (rcC s) 0])
section
variable {r s : Rc} {ats : List HO} {f : Fd} {L : List (Nat × HO)} {fid : FuncId} {t : Tmp}
theorem HC_0 : (HC r s ats)[0]? = some (.var 1 (rcC r) 0) := rfl
theorem HC_at {k : Nat} {h : HO} (hk : 1 ≤ k) (ha : ats[k - 1]? = some h) : (HC r s ats)[k]? = some h := by
  obtain ⟨k, rfl⟩ : ∃ j, k = j + 1 := ⟨k - 1, by omega⟩
  rw [HC, List.getElem?_cons_succ, List.getElem?_append_left (by have := (List.getElem?_eq_some_iff.1 ha).1; omega)]
  simpa using ha
theorem HC_e : (HC r s ats)[ats.length + 1]? = some (.var 1 (rcC s) 0) := by
  rw [HC, List.getElem?_cons_succ, List.getElem?_append_right (Nat.le_refl _), Nat.sub_self]; rfl
theorem HC_set {s' : Rc} : (HC r s ats).set (ats.length + 1) (.var 1 (rcC s') 0) = HC r s' ats := by
  rw [HC, List.set_cons_succ, List.set_append_right _ _ (Nat.le_refl _), Nat.sub_self]; rfl
theorem adopt_t0 {gl : Bool} {d : Nat} {m : Mem} : adopt gl d (.tuple []) m = (.tuple [], m) := rfl
theorem kget (hf : f.ok ats) : invokeC An FF fid (some t) f.g [.ptr (.g 0) 1 0] ⟨L, HC r s ats⟩ = some (.int .i64 (f.get r), ⟨L, HC r s ats⟩) := by
  cases f with
  | cell c n b k => simp only [Fd.g, Fd.get, invokeC_func, List.nil_append, List.cons_append, List.append_nil]; rw [callC_I (A := An) (m := ⟨L, HC r s ats⟩) rfl rfl (x161 c (HC_at hf.2.1 hf.2.2) HC_0), adopt_int]
  | non n => simp only [Fd.g, Fd.get, invokeC_func, List.nil_append, List.cons_append, List.append_nil]; rw [callC_I (A := An) (m := ⟨L, HC r s ats⟩) rfl rfl (x163 _ _), adopt_int]
  | wide => simp only [Fd.g, Fd.get, invokeC_func, List.nil_append, List.cons_append, List.append_nil]; rw [callC_I (A := An) (m := ⟨L, HC r s ats⟩) rfl rfl (x156 HC_0), adopt_int]
  | alu => simp only [Fd.g, Fd.get, invokeC_func, List.nil_append, List.cons_append, List.append_nil]; rw [callC_I (A := An) (m := ⟨L, HC r s ats⟩) rfl rfl (x159 HC_0), adopt_int]
  | cond k => simp only [Fd.g, Fd.get, invokeC_func, List.nil_append, List.cons_append, List.append_nil]; rw [callC_I (A := An) (m := ⟨L, HC r s ats⟩) rfl rfl (x167 (HC_at hf.1 hf.2) HC_0), adopt_int]
theorem kset (hf : f.ok ats) {v : Int} (h0 : f.lo ≤ v) : invokeC An FF fid (some t) f.t [.ptr (.g (ats.length + 1)) 1 0, .int .i64 v] ⟨L, HC r s ats⟩ = some (.tuple [], ⟨L, HC r (f.set s v) ats⟩) := by
  cases f with
  | cell c n b k => simp only [Fd.t, Fd.set, invokeC_func, List.nil_append, List.cons_append, List.append_nil]; rw [callC_I (A := An) (m := ⟨L, HC r s ats⟩) rfl rfl (x162 c v (HC_at hf.2.1 hf.2.2) HC_e), adopt_t0, HC_set]
  | non n => simp only [Fd.t, Fd.set, invokeC_func, List.nil_append, List.cons_append, List.append_nil]; rw [callC_I (A := An) (m := ⟨L, HC r s ats⟩) rfl rfl (x164 _ _ _), adopt_t0]
  | wide => simp only [Fd.t, Fd.set, invokeC_func, List.nil_append, List.cons_append, List.append_nil]; rw [callC_I (A := An) (m := ⟨L, HC r s ats⟩) rfl rfl (x158 v HC_e), adopt_t0, HC_set]
  | alu => simp only [Fd.t, Fd.set, invokeC_func, List.nil_append, List.cons_append, List.append_nil]; rw [callC_I (A := An) (m := ⟨L, HC r s ats⟩) rfl rfl (x160 v HC_e), adopt_t0, HC_set]
  | cond k =>
    have hk := hf.1
    have hl := (List.getElem?_eq_some_iff.1 hf.2).1
    have h0' : 0 ≤ v := h0
    simp only [Fd.t, Fd.set, invokeC_func, List.nil_append, List.cons_append, List.append_nil]; rw [callC_I (A := An) (m := ⟨L, HC r s ats⟩) rfl rfl (x168 v h0' (by omega) (HC_at hf.1 hf.2) HC_e), adopt_t0, HC_set]
end
def runF : List Fd → Rc → Rc → Option Rc
  | [], _, s => some s
  | f :: fs, r, s => if f.get r < f.lo ∨ f.hi < f.get r then none else runF fs r (f.set s (f.get r))
theorem okB_of {ats : List HO} {f : Fd} (h : f.ok ats) : okB f.n f.s := by
  cases f with
  | cell c n s k => exact h.1
  | non n => exact h
  | wide => exact .inl ⟨rfl, .inl rfl⟩
  | alu => exact .inl ⟨rfl, by simp [Fd.n]⟩
  | cond k => exact .inl ⟨rfl, by simp [Fd.n]⟩
theorem k75 {ats : List HO} {f : Fd} (h : f.ok ats) {fid : FuncId} {t : Tmp} {m : Mem} : callC An FF fid (some t) 75 [.agg f.cv] m = some (.tuple [.int .i64 f.lo, .int .i64 f.hi], m) := by
  have he : escList m [.agg f.cv] = some ([.agg f.cv], m) := by cases f <;> rfl
  rw [callC_IE (A := An) rfl he (x75 f.n f.s f.g f.t m.H (okB_of h))]
  rfl
end Go.Cm

namespace Go.Cm
open Go.Proofs Go.Pk
def layOf (op : Int) : List Fd × List HO :=
  if op = 1 then ([.cell .d 5 false 1, .cell .a 5 false 2, .cell .b 5 false 3, .wide, .alu], [atF 153, atF 154, atF 155])
  else if op = 2 ∨ op = 3 then ([.cell .d 5 false 1, .cell .part 2 false 2, .non 3, .cell .imm 16 false 3], [atF 153, atF 110, atF 165])
  else if 4 ≤ op ∧ op < 12 then ([.cell .d 5 false 1, .cell .a 5 false 2, .cell .imm 16 true 3], [atF 153, atF 154, atF 165])
  else if 12 ≤ op ∧ op < 20 then ([.non 5, .cell .a 5 false 1, .cell .imm 16 true 2], [atF 154, atF 165])
  else if op = 20 then ([.cell .a 5 false 1, .cell .b 5 false 2, .cond 3, .wide, .cell .imm 11 true 4], [atF 154, atF 155, condsH, atF 165])
  else if op = 21 then ([.cell .imm 26 true 1], [atF 165])
  else if op = 22 then ([.cell .imm 26 false 1], [atF 165])
  else if op = 23 then ([.non 1], [])
  else if op = 24 ∨ op = 25 then ([.cell .d 5 false 1, .non 5, .cell .imm 16 false 2], [atF 153, atF 165])
  else if op = 26 ∨ op = 27 then ([.cell .d 5 false 1], [atF 153])
  else ([], [])
theorem lay_none (h : HO) {op : Int} (ho : op < 1 ∨ 27 < op) : FF 74 [.int .i64 op] [h] = some (.nil, [h]) := by
  have h1 : ¬ op = 1 := by omega
  have h2 : ¬ op = 2 := by omega
  have h3 : ¬ op = 3 := by omega
  have h4 : ¬ op = 20 := by omega
  have h5 : ¬ op = 21 := by omega
  have h6 : ¬ op = 22 := by omega
  have h7 : ¬ op = 23 := by omega
  have h8 : ¬ op = 24 := by omega
  have h9 : ¬ op = 25 := by omega
  have h10 : ¬ op = 26 := by omega
  have h11 : ¬ op = 27 := by omega
  rcases ho with ho | ho
  · have g1 : ¬ 4 ≤ op := by omega
    have g2 : ¬ 12 ≤ op := by omega
    refine Fw_funK rfl Tryz.func74 s74 (Nat.le_of_ble_eq_true rfl) (fun Q hqr hqn => ?_)
    rw [show ∀ a, cin (An.pure 74) a = a from fun _ => rfl]
    simp only [tinit, Nat.reduceAdd, c74]
    repeat' (first
    | with_reducible (first | refine Tx_assoc ?_ | refine Tx_nopK ?_ | refine Tx_noK rfl ?_ | refine Tx_no rfl ?_ | refine Tx_ret ?_ | refine Tx_exit ?_ | refine Tx_nop ?_ | refine Tx_blockK (id := 0) (fun Q0 hn0 hx0 hr0 ho0 => ?_) | refine hn0 _ ?_ | refine Tx_blockK (id := 1) (fun Q1 hn1 hx1 hr1 ho1 => ?_) | refine hx1 _ ?_ | refine Tx_blockK (id := 9) (fun Q9 hn9 hx9 hr9 ho9 => ?_) | refine ho9 _ _ (by decide) ?_ | refine Tx_blockK (id := 8) (fun Q8 hn8 hx8 hr8 ho8 => ?_) | refine ho8 _ _ (by decide) ?_ | refine Tx_blockE (id := 7) (fun Q7 hn7 hx7 hr7 ho7 => ?_) | refine ho7 _ _ (by decide) ?_ | refine Tx_blockK (id := 6) (fun Q6 hn6 hx6 hr6 ho6 => ?_) | refine ho6 _ _ (by decide) ?_ | refine Tx_blockE (id := 5) (fun Q5 hn5 hx5 hr5 ho5 => ?_) | refine ho5 _ _ (by decide) ?_ | refine Tx_blockK (id := 4) (fun Q4 hn4 hx4 hr4 ho4 => ?_) | refine ho4 _ _ (by decide) ?_ | refine Tx_blockK (id := 3) (fun Q3 hn3 hx3 hr3 ho3 => ?_) | refine ho3 _ _ (by decide) ?_ | refine Tx_blockK (id := 2) (fun Q2 hn2 hx2 hr2 ho2 => ?_) | refine ho2 _ _ (by decide) ?_)
    | (with_reducible (first | (refine Tx_regK (fun K hK => ?_); (first | refine t74r0 ?_ | refine t74r1 ?_ | refine t74r3 ?_ | refine t74r5 ?_ | refine t74r7 ?_ | refine t74r9 ?_ | refine t74r10 ?_ | refine t74r11 ?_ | refine t74r12 ?_ | refine t74r13 ?_ | refine t74r14 ?_ | refine t74r15 ?_ | refine t74r16 ?_ | refine t74r17 ?_ | refine t74r24 ?_)) | refine hqr _ ?_); (try simp only [true_implies, false_implies, not_false_eq_true, tget_cons, if_true, if_false, Nat.reduceEqDiff, Obt_some, Kn_normal, Obt_lss, Obt_geq, Obt_eql, gdO_tt, gdO_tf, gdO_ff, gdO_ft, Option.map_some, pickX_t, pickX_f, Obt_map, true_and, if_false, if_true, r74, tend, tresAll, tresC, Option.bind_some, mapMem, retv_nil, tup_one, h1, h2, h3, h4, h5, h6, h7, h8, h9, h10, h11, g1, g2, ge_iff_le]))
    | (revert hK; intro hK; (with_reducible refine hK _ ?_; clear hK K)))
  · have g1 : 4 ≤ op := by omega
    have g2 : 12 ≤ op := by omega
    have g3 : ¬ op < 12 := by omega
    have g4 : ¬ op < 20 := by omega
    refine Fw_funK rfl Tryz.func74 s74 (Nat.le_of_ble_eq_true rfl) (fun Q hqr hqn => ?_)
    rw [show ∀ a, cin (An.pure 74) a = a from fun _ => rfl]
    simp only [tinit, Nat.reduceAdd, c74]
    repeat' (first
    | with_reducible (first | refine Tx_assoc ?_ | refine Tx_nopK ?_ | refine Tx_noK rfl ?_ | refine Tx_no rfl ?_ | refine Tx_ret ?_ | refine Tx_exit ?_ | refine Tx_nop ?_ | refine Tx_blockK (id := 0) (fun Q0 hn0 hx0 hr0 ho0 => ?_) | refine hn0 _ ?_ | refine Tx_blockK (id := 1) (fun Q1 hn1 hx1 hr1 ho1 => ?_) | refine hx1 _ ?_ | refine Tx_blockK (id := 9) (fun Q9 hn9 hx9 hr9 ho9 => ?_) | refine ho9 _ _ (by decide) ?_ | refine Tx_blockK (id := 8) (fun Q8 hn8 hx8 hr8 ho8 => ?_) | refine ho8 _ _ (by decide) ?_ | refine Tx_blockE (id := 7) (fun Q7 hn7 hx7 hr7 ho7 => ?_) | refine ho7 _ _ (by decide) ?_ | refine Tx_blockK (id := 6) (fun Q6 hn6 hx6 hr6 ho6 => ?_) | refine ho6 _ _ (by decide) ?_ | refine Tx_blockE (id := 5) (fun Q5 hn5 hx5 hr5 ho5 => ?_) | refine ho5 _ _ (by decide) ?_ | refine Tx_blockK (id := 4) (fun Q4 hn4 hx4 hr4 ho4 => ?_) | refine ho4 _ _ (by decide) ?_ | refine Tx_blockK (id := 3) (fun Q3 hn3 hx3 hr3 ho3 => ?_) | refine ho3 _ _ (by decide) ?_ | refine Tx_blockK (id := 2) (fun Q2 hn2 hx2 hr2 ho2 => ?_) | refine ho2 _ _ (by decide) ?_)
    | (with_reducible (first | (refine Tx_regK (fun K hK => ?_); (first | refine t74r0 ?_ | refine t74r1 ?_ | refine t74r3 ?_ | refine t74r5 ?_ | refine t74r7 ?_ | refine t74r9 ?_ | refine t74r10 ?_ | refine t74r11 ?_ | refine t74r12 ?_ | refine t74r13 ?_ | refine t74r14 ?_ | refine t74r15 ?_ | refine t74r16 ?_ | refine t74r17 ?_ | refine t74r24 ?_)) | refine hqr _ ?_); (try simp only [true_implies, false_implies, not_true_eq_false, not_false_eq_true, tget_cons, if_true, if_false, Nat.reduceEqDiff, Obt_some, Kn_normal, Obt_lss, Obt_geq, Obt_eql, gdO_tt, gdO_tf, gdO_ff, gdO_ft, Option.map_some, pickX_t, pickX_f, Obt_map, and_true, true_and, if_false, if_true, r74, tend, tresAll, tresC, Option.bind_some, mapMem, retv_nil, tup_one, h1, h2, h3, h4, h5, h6, h7, h8, h9, h10, h11, g1, g2, g3, g4, ge_iff_le]))
    | (revert hK; intro hK; (with_reducible refine hK _ ?_; clear hK K)))
theorem lay_all (h : HO) (op : Int) : FF 74 [.int .i64 op] [h] = some (ownC Fd.cv 4 (layOf op).1, h :: (layOf op).2) ∧ ∀ f ∈ (layOf op).1, f.ok (layOf op).2 := by
  have okc : ∀ (c : Cell) (n : Int) (s : Bool) (k : Nat) (ats : List HO), okB n s → 1 ≤ k → ats[k - 1]? = some (atF c.fn) → (Fd.cell c n s k).ok ats := fun _ _ _ _ _ h1 h2 h3 => ⟨h1, h2, h3⟩
  unfold layOf
  by_cases ho1 : op = 1
  · rw [if_pos ho1]; subst ho1
    refine ⟨lay1 h, fun f hf => ?_⟩
    simp only [List.mem_cons, List.not_mem_nil, or_false] at hf
    rcases hf with rfl | rfl | rfl | rfl | rfl <;> first | trivial | exact okc _ _ _ _ _ (.inl ⟨rfl, by simp⟩) (by decide) rfl
  rw [if_neg ho1]
  by_cases ho2 : op = 2 ∨ op = 3
  · rw [if_pos ho2]
    refine ⟨lay2 h ho2, fun f hf => ?_⟩
    simp only [List.mem_cons, List.not_mem_nil, or_false] at hf
    rcases hf with rfl | rfl | rfl | rfl <;> first | exact okc _ _ _ _ _ (.inl ⟨rfl, by simp⟩) (by decide) rfl | exact .inl ⟨rfl, by simp⟩
  rw [if_neg ho2]
  by_cases ho3 : 4 ≤ op ∧ op < 12
  · rw [if_pos ho3]
    refine ⟨lay4 h ho3, fun f hf => ?_⟩
    simp only [List.mem_cons, List.not_mem_nil, or_false] at hf
    rcases hf with rfl | rfl | rfl <;> first | exact okc _ _ _ _ _ (.inl ⟨rfl, by simp⟩) (by decide) rfl | exact okc _ _ _ _ _ (.inr ⟨rfl, by simp⟩) (by decide) rfl
  rw [if_neg ho3]
  by_cases ho4 : 12 ≤ op ∧ op < 20
  · rw [if_pos ho4]
    refine ⟨lay12 h ho4, fun f hf => ?_⟩
    simp only [List.mem_cons, List.not_mem_nil, or_false] at hf
    rcases hf with rfl | rfl | rfl <;> first | exact okc _ _ _ _ _ (.inl ⟨rfl, by simp⟩) (by decide) rfl | exact okc _ _ _ _ _ (.inr ⟨rfl, by simp⟩) (by decide) rfl | exact .inl ⟨rfl, by simp⟩
  rw [if_neg ho4]
  by_cases ho5 : op = 20
  · rw [if_pos ho5]; subst ho5
    refine ⟨lay20 h, fun f hf => ?_⟩
    simp only [List.mem_cons, List.not_mem_nil, or_false] at hf
    rcases hf with rfl | rfl | rfl | rfl | rfl <;> first | trivial | exact okc _ _ _ _ _ (.inl ⟨rfl, by simp⟩) (by decide) rfl | exact okc _ _ _ _ _ (.inr ⟨rfl, by simp⟩) (by decide) rfl | exact ⟨by decide, rfl⟩
  rw [if_neg ho5]
  by_cases ho6 : op = 21
  · rw [if_pos ho6]; subst ho6
    refine ⟨lay21 h, fun f hf => ?_⟩
    simp only [List.mem_cons, List.not_mem_nil, or_false] at hf
    subst hf; exact okc _ _ _ _ _ (.inr ⟨rfl, by simp⟩) (by decide) rfl
  rw [if_neg ho6]
  by_cases ho7 : op = 22
  · rw [if_pos ho7]; subst ho7
    refine ⟨lay22 h, fun f hf => ?_⟩
    simp only [List.mem_cons, List.not_mem_nil, or_false] at hf
    subst hf; exact okc _ _ _ _ _ (.inl ⟨rfl, by simp⟩) (by decide) rfl
  rw [if_neg ho7]
  by_cases ho8 : op = 23
  · rw [if_pos ho8]; subst ho8
    refine ⟨lay23 h, fun f hf => ?_⟩
    simp only [List.mem_cons, List.not_mem_nil, or_false] at hf
    subst hf; exact .inl ⟨rfl, by simp⟩
  rw [if_neg ho8]
  by_cases ho9 : op = 24 ∨ op = 25
  · rw [if_pos ho9]
    refine ⟨lay24 h ho9, fun f hf => ?_⟩
    simp only [List.mem_cons, List.not_mem_nil, or_false] at hf
    rcases hf with rfl | rfl | rfl <;> first | exact okc _ _ _ _ _ (.inl ⟨rfl, by simp⟩) (by decide) rfl | exact .inl ⟨rfl, by simp⟩
  rw [if_neg ho9]
  by_cases ho10 : op = 26 ∨ op = 27
  · rw [if_pos ho10]
    refine ⟨lay26 h ho10, fun f hf => ?_⟩
    simp only [List.mem_cons, List.not_mem_nil, or_false] at hf
    subst hf; exact okc _ _ _ _ _ (.inl ⟨rfl, by simp⟩) (by decide) rfl
  rw [if_neg ho10]
  exact ⟨lay_none h (by omega), fun f hf => by simp at hf⟩
end Go.Cm
