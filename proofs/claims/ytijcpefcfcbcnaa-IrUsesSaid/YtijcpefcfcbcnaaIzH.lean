/-
  Code as values: whether all that is used is made ahead.
-/
import Derived.Test.YtijcpefcfcbcnaaIzF
set_option linter.unusedSimpArgs false
set_option linter.unusedVariables false
namespace Go.Cm
open Go.Proofs Go.Ir Go.Gr
theorem all_range_false {n k : Nat} {p : Nat → Bool} (hk : k < n) (h : p k = false) : (List.range n).all p = false := by
  rw [List.all_eq_false]; exact ⟨k, List.mem_range.2 hk, by simp [h]⟩
theorem all_range_true {n : Nat} {p : Nat → Bool} (h : ∀ k, k < n → p k = true) : (List.range n).all p = true := by
  rw [List.all_eq_true]; exact fun k hk => h k (List.mem_range.1 hk)
/-- a call of Uses -/
theorem k79 (n : Nd) (hl : n.args.length ≤ 17592186044416) {fid : FuncId} {d : Tmp} {m : Mem} {K : CV × Mem → Prop} (hgl : (An.glob fid).contains d = false)
    (hK : ∀ v m', EscI m' (16 * d) v (uses n) → m'.H = m.H → (∀ i, i ≠ 16 * d → lget m'.L i = lget m.L i) → K (v, m')) : Obt (callC An FF fid (some d) 79 [.agg (ndC n)] m) K := by
  have hF := x79 n hl
  by_cases h7 : n.op = 7
  · have hu : uses n = n.args := by unfold uses; rw [if_neg (by omega), if_neg (by omega), if_pos h7]
    rw [usesV, if_pos h7] at hF
    rw [hu] at hK
    rw [callC_K hF rfl (by simp only [cans, can_agg, ndE.can]) rfl (by simp only [noGs, noG, ndE.noG, Bool.and_self]) (noG_cloneV intC_N _), Obt_some, hgl]
    cases ha : n.args with
    | nil => rw [ha] at hK; exact hK _ _ .imm rfl (fun _ _ => rfl)
    | cons a l =>
      rw [ha] at hK
      refine hK _ _ (OwnV.escI (.inr ⟨by simp, _, 0, rfl, ?_, Nat.zero_le _⟩)) rfl ?_
      · show lget (setL m (16 * d) _).L (16 * d) = _
        rw [lget_setL, if_pos rfl]; rfl
      · intro i hi
        show lget (setL m (16 * d) _).L i = _
        rw [lget_setL, if_neg (Ne.symm hi)]
  · rw [usesV, if_neg h7] at hF
    exact callC_O hF rfl (by simp only [cans, can_agg, ndE.can]) rfl (by simp only [noGs, noG, ndE.noG, Bool.and_self]) intC_N hgl fun v m' h1 h2 h3 => hK v m' h1.seen.escI h2 h3
theorem k93 (e : Tm) {fid : FuncId} {d : Tmp} {m : Mem} {K : CV × Mem → Prop} (hgl : (An.glob fid).contains d = false)
    (hK : ∀ v m', EscI m' (16 * d) v (ends e) → m'.H = m.H → (∀ i, i ≠ 16 * d → lget m'.L i = lget m.L i) → K (v, m')) : Obt (callC An FF fid (some d) 93 [.agg (tmC e)] m) K :=
  callC_O (x93 e) rfl (by simp only [cans, can_agg, tmE.can]) rfl rfl intC_N hgl fun v m' h1 h2 h3 => hK v m' h1.seen.escI h2 h3
theorem ends_len (e : Tm) : (ends e).length ≤ 2 := by
  unfold ends; split
  · simp
  · split <;> simp
theorem uses_len (x : Nd) (h : x.args.length ≤ 17592186044416) : (uses x).length ≤ 17592186044416 := by
  unfold uses
  split
  · simp
  · split
    · simp
    · split
      · exact h
      · simp
theorem CEnv.app {f : Cd} {l : List (Option (Int × Int))} {up : List Int} {nc np nu : Nat} {H : List HO} (h : CEnv f l up nc np nu H) (E : List HO) : CEnv f l up nc np nu (H ++ E) where
  ctx := by rw [List.getElem?_append_left (List.getElem?_eq_some_iff.1 h.ctx).1, h.ctx]
  pls := by rw [List.getElem?_append_left (List.getElem?_eq_some_iff.1 h.pls).1, h.pls]
  ups := by rw [List.getElem?_append_left (List.getElem?_eq_some_iff.1 h.ups).1, h.ups]
  pos := h.pos
  small := h.small
/-- a call of ahead -/
theorem k92 (f : Cd) (g : List (List Int)) (l : List (Option (Int × Int))) (up : List Int) (nc np nu : Nat) (m : Mem) (hE : CEnv f l up nc np nu m.H) (hok : IdomOK g up) (hul : up.length = g.length) (hgl : g.length ≤ 1048576)
    (part at_ : Int) (hpart : part ∈ ord g) (v : CV) (j : Nat) (ids : List Int) (hv : EscI m j v ids) (hil : ids.length ≤ 17592186044416) {fid : FuncId} {d : Tmp} {K : CV × Mem → Prop}
    (hK : ∀ m', m'.H = m.H → (∀ i, i ≠ j → lget m'.L i = lget m.L i) → K (.bool (ids.all (aheadB g l part at_)), m')) : Obt (callC An FF fid (some d) 92 [.ptr (.g nc) 1 0, .agg [.int .i64 part, .int .i64 at_], v] m) K := by
  obtain ⟨x, m1, h1, h2, h3, h4⟩ := hv
  have hF := x92 f g l up nc np nu m1.H (by rw [h3]; exact hE) hok hul hgl part at_ hpart x ids (h2 _) hil
  have hx : escList m [.ptr (.g nc) 1 0, .agg [.int .i64 part, .int .i64 at_], v] = some ([.ptr (.g nc) 1 0, .agg [.int .i64 part, .int .i64 at_], x], m1) := escList_last (pre := [.ptr (.g nc) 1 0, .agg [.int .i64 part, .int .i64 at_]]) rfl h1
  rw [callC_IE rfl hx hF, Obt_some, adopt_bool]
  exact hK _ h3 h4
/-- what a phi uses -/
noncomputable def phiOk (g : List (List Int)) (l : List (Option (Int × Int))) (p : Pt) (x : Ph) : Bool := decide (x.src.length = p.pred.length) && (List.range x.src.length).all fun k => aheadB g l (p.pred.getD k 0) farEnd (x.src.getD k 0)
noncomputable def ndOk (g : List (List Int)) (l : List (Option (Int × Int))) (i : Int) (p : Pt) (k : Nat) : Bool := match p.nodes[k]? with | some n => (uses n).all (aheadB g l i ((k + 1 : Nat) : Int)) | none => true
theorem partOk_eq {g : List (List Int)} {l : List (Option (Int × Int))} {i : Int} {p : Pt} : partOk g l i p = (p.phis.all (phiOk g l p) && ((List.range p.nodes.length).all (ndOk g l i p)) && (ends p.fin).all (aheadB g l i farEnd)) := rfl
theorem reach_of {f : Cd} (h : waysOk f = true) {i : Nat} (hi : i < f.parts.length) : (i : Int) ∈ ord (succs f) := by
  simp only [waysOk, Bool.and_eq_true, List.all_eq_true, List.mem_range, decide_eq_true_eq] at h
  exact (h.1.2 i hi).1
theorem succs_len (f : Cd) : (succs f).length = f.parts.length := by simp [succs]
theorem pred_of {f : Cd} (h : waysOk f = true) {i : Nat} {p : Pt} (hp : f.parts[i]? = some p) : p.pred = predsOf (succs f) i f.parts.length := by
  have hi := (List.getElem?_eq_some_iff.1 hp).1
  simp only [waysOk, Bool.and_eq_true, List.all_eq_true, List.mem_range, decide_eq_true_eq] at h
  have := (h.1.2 i hi).2
  rw [this, List.getD_eq_getElem?_getD, List.getElem?_map, hp]; rfl
theorem pred_reach {f : Cd} (h : waysOk f = true) {i : Nat} {p : Pt} (hp : f.parts[i]? = some p) {y : Int} (hy : y ∈ p.pred) : y ∈ ord (succs f) := by
  rw [pred_of h hp, predsOf, List.mem_flatMap] at hy
  obtain ⟨a, ha, hy⟩ := hy
  rw [List.mem_map] at hy
  obtain ⟨_, _, rfl⟩ := hy
  exact reach_of h (List.mem_range.1 ha)
theorem succs_small {f : Cd} (hf : Sized f) : Sm (succs f) := ⟨by rw [succs_len]; exact hf.parts, fun r hr => by
  rw [succs, List.mem_map] at hr
  obtain ⟨p, _, rfl⟩ := hr
  have := nexts_len p.fin
  omega⟩
theorem IsRows.rowC {g : List (List Int)} (hg : g ≠ []) : IsRows (rowC rowCC g) g := by
  cases g with
  | nil => exact absurd rfl hg
  | cons a g =>
    refine ⟨_, rfl, by rw [flat_len rowCC_len]; omega, fun i r hr => ?_, noGs_flat rowCC_N _⟩
    have := flat_get (e := rowCC) (sz := 1) (off := 0) rowCC_len hr (by omega)
    rw [Nat.mul_one, Nat.add_zero] at this
    refine ⟨_, this.trans rfl, ?_⟩
    cases r with
    | nil => exact .inr ⟨rfl, rfl⟩
    | cons b r => exact .inl rfl
set_option maxHeartbeats 4000000 in
theorem x62 (H : List HO) (f : Cd) (l : List (Option (Int × Int))) (nc np : Nat) (hf : Sized f) (hf1 : f.parts ≠ []) (hw : waysOk f = true)
    (hnc : H[nc]? = some (.var 1 [sl ptC f.parts, .int .i64 f.values, .ref (.g np) 1 0 l.length, .nil] 0)) (hnp : H[np]? = some (.arr 1 2 (l.flatMap plC) 0)) (hpos : ∀ (i : Nat) (x : Int × Int), l[i]? = some (some x) → 0 ≤ x.1) (hls : l.length ≤ 1048576) :
    ∃ r, (∃ v H', r = (v, H') ∧ (∀ i, i < H.length → i ≠ nc → H'[i]? = H[i]?) ∧ (if usedOk f l = true then v = .inil else Refus H' v 3)) ∧ FF 62 [.ptr (.g nc) 1 0] H = some r := by
  have hSm := succs_small hf
  have hgl : (succs f).length ≤ 1048576 := hSm.1
  have hsne : succs f ≠ [] := by simpa [succs] using hf1
  have hncl := (List.getElem?_eq_some_iff.1 hnc).1
  obtain ⟨_, ⟨H1, rfl⟩, hsu⟩ := x66 f hf.parts
  have hld : ∀ L, ldA 2 ⟨L, H⟩ (.ptr (.g nc) 1 0) = some (.agg (codeC f)) := fun L => by rw [ldA_g]; simp only [hnc, rdA_var]; rfl
  refine Fw_funE rfl Try.func62 s62 (Nat.le_of_ble_eq_true rfl) (fun Q hqr hqn => ?_)
  rw [show ∀ a, cin (An.pure 62) a = a from fun _ => rfl]
  simp only [tinit, Nat.reduceAdd, c62]
  repeat' (first
  | ((with_reducible refine Tx_regK (fun K hK => ?_); (first | with_reducible refine t62r0 ?_ | with_reducible refine t62r1 ?_)); (try simp only [tget_cons, if_true, Obt_some, Kn_normal, Nat.zero_add, fldA_ptr, if_true, nilX, hld]))
  | (revert hK; intro hK; (with_reducible refine hK _ ?_; clear hK K)))
  refine callC_O hsu rfl (by simp only [cans, can_agg, codeE.can]) rfl (by simp only [noGs, noG, codeE.noG, Bool.and_self]) rowCC_N rfl fun v1 m1 hO1 hH1 hf1' => ?_
  obtain ⟨m2, e1, e2, e3, _⟩ := hO1.seen.esc1 rowCC_len
  obtain ⟨_, ⟨_, H', up, rfl, ⟨nu, hnu, rfl, hup⟩, hul, hok, hout, hold⟩, hid⟩ := x91 (succs f) hSm (rowC rowCC (succs f)) (IsRows.rowC hsne) H
  have hok := hok hsne
  have hidc : callC An FF 62 (some 18) 91 [v1] m1 = some (.ref (.g nu) 1 0 (succs f).length, ⟨m2.L, H'⟩) := by
    rw [callC_IE (m1 := m2) rfl (escList_one e1) (by rw [e2, hH1]; exact hid)]; rfl
  have hnc' : H'[nc]? = some (.var 1 [sl ptC f.parts, .int .i64 f.values, .ref (.g np) 1 0 l.length, .nil] 0) := by rw [hold nc hncl, hnc]
  have hncl' := (List.getElem?_eq_some_iff.1 hnc').1
  obtain ⟨Hu, hHu⟩ : ∃ Hu, Hu = H'.set nc (.var 1 [sl ptC f.parts, .int .i64 f.values, .ref (.g np) 1 0 l.length, .ref (.g nu) 1 0 (succs f).length] 0) := ⟨_, rfl⟩
  have hst : ∀ L, stX 1 ⟨L, H'⟩ (.ptr (.g nc) 1 3) (.ref (.g nu) 1 0 (succs f).length) = some ⟨L, Hu⟩ := fun L => by
    rw [stX_g, hnc', show ccells (.ref (.g nu) 1 0 (succs f).length) = some [.ref (.g nu) 1 0 (succs f).length] from rfl, stW_var, if_pos ⟨rfl, by simp, Nat.zero_le _⟩, escP_list rfl, hHu]
    rfl
  have hnpc : np ≠ nc := fun e => by rw [e, hnc] at hnp; cases hnp
  have hnpl := (List.getElem?_eq_some_iff.1 hnp).1
  have hE0 : CEnv f l up nc np nu Hu := ⟨by rw [hHu, List.getElem?_set_self hncl', hul], by rw [hHu, List.getElem?_set_ne (Ne.symm hnpc), hold np hnpl, hnp], by rw [hHu, List.getElem?_set_ne (by omega), hup], hpos, hls⟩
  have hHul : Hu.length = H'.length := by rw [hHu, List.length_set]
  have hHle : H.length ≤ H'.length := by have := (List.getElem?_eq_some_iff.1 hup).1; omega
  have hkeep : ∀ (E : List HO) i, i < H.length → i ≠ nc → (Hu ++ E)[i]? = H[i]? := fun E i hi hn => by
    rw [List.getElem?_append_left (by omega), hHu, List.getElem?_set_ne (Ne.symm hn), hold i hi]
  have hgn : (((succs f).length : Nat) : Int) = f.parts.length := by rw [succs_len]
  simp only [hidc, hst, Obt_some]
  refine hK _ ?_
  clear hK K
  have hfp : ∀ (E : List HO) L, ld1 ⟨L, Hu ++ E⟩ (.ptr (.g nc) 1 0) = some (sl ptC f.parts) := fun E L => by rw [ld1_g]; simp only [(hE0.app E).ctx, rd1_var]; rfl
  have hfp0 : ∀ L, ld1 ⟨L, Hu⟩ (.ptr (.g nc) 1 0) = some (sl ptC f.parts) := fun L => by have := hfp [] L; rwa [List.append_nil] at this
  have hsetL : ∀ (L : List (Nat × HO)) (H : List HO) j o, setL ⟨L, H⟩ j o = ⟨lset L j o, H⟩ := fun _ _ _ _ => rfl
  have hpl := hf.parts
  repeat' (first
  | with_reducible refine Tx_assoc ?_
  | with_reducible refine Tx_blockK (id := 0) (fun Q0 hn0 hx0 hr0 ho0 => ?_)
  | ((with_reducible refine Tx_regK (fun K hK => ?_); with_reducible refine t62r2 ?_); (try simp only [tget_cons, if_true, Obt_some, Kn_normal, Nat.zero_add, fldA_ptr, lenS, Obt_map, if_true, nilX, hfp0, clen_sl]))
  | (revert hK; intro hK; (with_reducible refine hK _ ?_; clear hK K)))
  refine Tx_loopK (fun k s => ∃ (d t : List Pt) (E : List HO) (L : List (Nat × HO)), f.parts = d ++ t ∧ k = t.length ∧ (∀ (i : Nat) (p : Pt), d[i]? = some p → partOk (succs f) l (i : Int) p = true) ∧
    s = ⟨[(0, .ptr (.g nc) 1 0), (25, sl ptC f.parts), (26, .int .i64 f.parts.length), (27, .int .i64 d.length)], ⟨L, Hu ++ E⟩⟩) _ ⟨[], f.parts, [], _, rfl, rfl, fun i p h => by simp at h, by rw [List.append_nil]; rfl⟩ ?_
  rintro k s ⟨d, t, E, L, h3, rfl, hd, rfl⟩ QL3 hnL3 hxL3 hrL3
  have hlen := congrArg List.length h3
  simp only [List.length_append] at hlen
  simp only [c62l3]
  cases t with
  | nil =>
    simp only [List.length_nil] at hlen
    rw [List.append_nil] at h3
    repeat' (first
    | with_reducible refine Tx_noK rfl ?_
    | with_reducible refine Tx_exitK ?_
    | with_reducible refine Tx_ret ?_
    | with_reducible refine hx0 _ ?_
    | with_reducible refine hxL3 _ _ ?_
    | ((first | (with_reducible refine Tx_regK (fun K hK => ?_); (first | with_reducible refine t62r3 ?_ | with_reducible refine t62r27 ?_)) | with_reducible refine hqr _ ?_); (try simp only [tget_cons, if_true, if_false, Nat.reduceEqDiff, Obt_some, Kn_normal, Obt_lss, Option.map_some, if_false, if_true, r62, tend, tresAll, tresC, Option.bind_some, mapMem, retv_inil, tup_one, Prod.mk.injEq]))
    | (revert hK; intro hK; (first | refine And.intro ?_ ?_ | intro _ | omega | (with_reducible refine hK _ ?_; clear hK K))))
    refine ⟨_, _, ⟨rfl, rfl⟩, hkeep _, ?_⟩
    rw [if_pos]
    refine all_range_true fun i hi => ?_
    have : f.parts[i]? = some f.parts[i] := List.getElem?_eq_getElem hi
    rw [this]
    exact hd i _ (by rw [← h3, this])
  | cons p t =>
    simp only [List.length_cons] at hlen
    have hpi : f.parts[d.length]? = some p := by rw [h3]; simp
    have hpm : p ∈ f.parts := List.mem_of_getElem? hpi
    obtain ⟨hphl, hphs⟩ := hf.phis p hpm
    obtain ⟨hndl, hnds⟩ := hf.nodes p hpm
    have hprl := hf.pred p hpm
    have hdo : (d.length : Int) ∈ ord (succs f) := reach_of hw (by omega)
    have hwd : IntKind.i64.wrap ((d.length : Int) + 1) = d.length + 1 := wI (by omega) (by omega)
    obtain ⟨HE, hHE⟩ : ∃ HE, HE = Hu ++ (E ++ [.var 1 [.int .i64 d.length, .int .i64 3] 0]) := ⟨_, rfl⟩
    have hHE' : (Hu ++ E) ++ [HO.var 1 [.int .i64 d.length, .int .i64 3] 0] = HE := by rw [hHE, List.append_assoc]
    have hEE : CEnv f l up nc np nu HE := by rw [hHE]; exact hE0.app _
    have hno : HE[(Hu ++ E).length]? = some (.var 1 [.int .i64 d.length, .int .i64 3] 0) := by rw [← hHE']; simp
    have hkE : ∀ i, i < H.length → i ≠ nc → HE[i]? = H[i]? := by rw [hHE]; exact hkeep _
    have bad : partOk (succs f) l d.length p = false → (∀ i, i < H.length → i ≠ nc → HE[i]? = H[i]?) ∧ (if usedOk f l = true then CV.iface 152 (.ptr (.g (Hu ++ E).length) 1 0) = .inil else Refus HE (.iface 152 (.ptr (.g (Hu ++ E).length) 1 0)) 3) := fun hb => by
      refine ⟨hkE, ?_⟩
      have : usedOk f l = false := all_range_false (k := d.length) (by omega) (by rw [hpi]; exact hb)
      rw [this, if_neg (by decide)]
      exact ⟨_, _, rfl, hno⟩
    have hbox : ∀ L, boxG (.agg [.int .i64 d.length, .int .i64 3]) ⟨L, Hu ++ E⟩ = some (.ptr (.g (Hu ++ E).length) 1 0, ⟨L, HE⟩) := fun L => by rw [boxG_2, hHE']
    generalize (Hu ++ E).length = n5 at hno bad hbox
    repeat' (first
    | with_reducible refine Tx_assoc ?_
    | with_reducible refine Tx_nopK ?_
    | with_reducible refine Tx_yesK rfl ?_
    | with_reducible refine Tx_blockK (id := 1) (fun Q1 hn1 hx1 hr1 ho1 => ?_)
    | with_reducible refine Tx_blockK (id := 2) (fun Q2 hn2 hx2 hr2 ho2 => ?_)
    | ((with_reducible refine Tx_regK (fun K hK => ?_); (first | with_reducible refine t62r3 ?_ | with_reducible refine t62r4 ?_ | with_reducible refine t62r5 ?_ | with_reducible refine t62r6 ?_)); (try simp only [tget_cons, if_true, if_false, Nat.reduceEqDiff, ccells, Obt_some, Kn_normal, newL_eq, newP_eq, lget_lset, Nat.reduceAdd, Nat.zero_add, fldA_ptr, List.drop_zero, ld1_l, rd1_var, List.getElem?_cons_zero, List.getElem?_cons_succ, Obt_lss, Option.map_some, lenS, Obt_map, fillX, stX_l, stV_var, splice, List.take_zero, List.take_succ_cons, List.drop_succ_cons, List.drop_nil, List.nil_append, List.cons_append, List.append_nil, List.length_cons, List.length_nil, Nat.reduceLeDiff, and_self, Nat.le_refl, if_false, if_true, idxS_split ptE.len (by omega) h3, ldA_r10, ptC, hsetL, fill_2, hbox, clen_sl]))
    | (revert hK; intro hK; (first | refine And.intro ?_ ?_ | intro _ | omega | (with_reducible refine hK _ ?_; clear hK K))))
    refine Tx_loopK (fun k s => ∃ (d1 t1 : List Ph) (g4 : Nat) (L : List (Nat × HO)), p.phis = d1 ++ t1 ∧ k = t1.length ∧ (∀ x ∈ d1, phiOk (succs f) l p x = true) ∧ lget L 64 = some (.var g4 (ptC p) 0) ∧
      s = ⟨[(0, .ptr (.g nc) 1 0), (3, .int .i64 d.length), (4, .ptr (.l 64) g4 0), (5, .ptr (.g n5) 1 0), (25, sl ptC f.parts), (26, .int .i64 f.parts.length), (27, .int .i64 d.length), (36, sl phC p.phis), (37, .int .i64 p.phis.length), (38, .int .i64 d1.length)], ⟨L, HE⟩⟩) _
      ⟨[], p.phis, _, _, rfl, rfl, by simp, by simp [lget_lset, ptC], rfl⟩ ?_
    rintro k s ⟨d1, t1, g4, L1, h4, rfl, hd1, hL1, rfl⟩ QL1 hnL1 hxL1 hrL1
    have hlen1 := congrArg List.length h4
    simp only [List.length_append] at hlen1
    simp only [c62l1]
    cases t1 with
    | nil =>
      simp only [List.length_nil] at hlen1
      rw [List.append_nil] at h4
      have hph : p.phis.all (phiOk (succs f) l p) = true := by rw [h4, List.all_eq_true]; exact hd1
      repeat' (first
      | with_reducible refine Tx_assoc ?_
      | with_reducible refine Tx_noK rfl ?_
      | with_reducible refine Tx_exitK ?_
      | with_reducible refine hx2 _ ?_
      | with_reducible refine Tx_blockK (id := 6) (fun Q6 hn6 hx6 hr6 ho6 => ?_)
      | with_reducible refine hxL1 _ _ ?_
      | ((with_reducible refine Tx_regK (fun K hK => ?_); (first | with_reducible refine t62r7 ?_ | with_reducible refine t62r18 ?_)); (try simp only [tget_cons, if_true, if_false, Nat.reduceEqDiff, Obt_some, Kn_normal, Nat.zero_add, fldA_ptr, ld1_l, rd1_var, List.getElem?_cons_zero, List.getElem?_cons_succ, Obt_lss, lenS, Obt_map, if_false, if_true, hL1, ptC, clen_sl]))
      | (revert hK; intro hK; (first | refine And.intro ?_ ?_ | intro _ | omega | (with_reducible refine hK _ ?_; clear hK K))))
      refine Tx_loopK (fun k s => ∃ (d2 t2 : List Nd) (L : List (Nat × HO)), p.nodes = d2 ++ t2 ∧ k = t2.length ∧ (∀ i, i < d2.length → ndOk (succs f) l d.length p i = true) ∧ lget L 64 = some (.var g4 (ptC p) 0) ∧
        s = ⟨[(0, .ptr (.g nc) 1 0), (3, .int .i64 d.length), (4, .ptr (.l 64) g4 0), (5, .ptr (.g n5) 1 0), (25, sl ptC f.parts), (26, .int .i64 f.parts.length), (27, .int .i64 d.length), (75, sl ndC p.nodes), (76, .int .i64 p.nodes.length), (77, .int .i64 d2.length)], ⟨L, HE⟩⟩) _
        ⟨[], p.nodes, _, rfl, rfl, fun i h => by simp at h, hL1, rfl⟩ ?_
      rintro k s ⟨d2, t2, L2, h5, rfl, hd2, hL2, rfl⟩ QL2 hnL2 hxL2 hrL2
      have hlen2 := congrArg List.length h5
      simp only [List.length_append] at hlen2
      simp only [c62l2]
      cases t2 with
      | nil =>
        simp only [List.length_nil] at hlen2
        have hnd : (List.range p.nodes.length).all (ndOk (succs f) l d.length p) = true := all_range_true fun i hi => hd2 i (by omega)
        have hpk : partOk (succs f) l d.length p = (ends p.fin).all (aheadB (succs f) l d.length farEnd) := by rw [partOk_eq, hph, hnd]; simp
        repeat' (first
        | with_reducible refine Tx_noK rfl ?_
        | with_reducible refine Tx_exitK ?_
        | with_reducible refine hx6 _ ?_
        | with_reducible refine hxL2 _ _ ?_
        | ((with_reducible refine Tx_regK (fun K hK => ?_); (first | with_reducible refine t62r19 ?_ | with_reducible refine t62r24 ?_)); (try simp only [tget_cons, if_true, if_false, Nat.reduceEqDiff, ccells, Obt_some, Kn_normal, Nat.reduceAdd, Nat.zero_add, fldA_ptr, List.drop_zero, ldA_l, Obt_lss, Option.map_some, fillX, splice, List.take_zero, List.take_succ_cons, List.drop_succ_cons, List.drop_nil, List.nil_append, List.cons_append, List.append_nil, List.length_cons, List.length_nil, Nat.reduceLeDiff, and_self, Nat.le_refl, rdA_var, if_false, if_true, hL2, ptC, fill_2]))
        | (revert hK; intro hK; (first | refine And.intro ?_ ?_ | intro _ | omega | (with_reducible refine hK _ ?_; clear hK K))))
        refine k93 p.fin rfl fun v3 m3 hv3 hH3 hf3 => ?_
        refine k92 f (succs f) l up nc np nu m3 (by rw [hH3]; exact hEE) hok hul hgl d.length 1073741824 hdo v3 _ (ends p.fin) hv3 (by have := ends_len p.fin; omega) fun m4 hH4 hf4 => ?_
        obtain ⟨L4, H4⟩ := m4
        simp only [hH3] at hH4
        subst hH4
        rw [show (1073741824 : Int) = farEnd from rfl, ← hpk]
        cases hpo : partOk (succs f) l d.length p with
        | false =>
          simp only [Obt_not, Bool.not_false]
          refine hK _ ?_
          clear hK K
          repeat' (first
          | with_reducible refine Tx_yes rfl ?_
          | with_reducible refine Tx_ret ?_
          | with_reducible refine hr0 _ ?_
          | with_reducible refine hr1 _ ?_
          | with_reducible refine hrL3 _ ?_
          | ((first | (with_reducible refine Tx_regK (fun K hK => ?_); with_reducible refine t62r25 ?_) | with_reducible refine hqr _ ?_); (try simp only [tget_cons, if_true, if_false, Nat.reduceEqDiff, Obt_some, Kn_normal, Option.map_some, if_false, if_true, r62, tend, tresAll, tresC, Option.bind_some, mapMem, tup_one, Prod.mk.injEq, retv_igp]))
          | (revert hK; intro hK; (with_reducible refine hK _ ?_; clear hK K)))
          exact ⟨_, _, ⟨rfl, rfl⟩, bad hpo⟩
        | true =>
          simp only [Obt_not, Bool.not_true]
          refine hK _ ?_
          clear hK K
          repeat' (first
          | with_reducible refine Tx_no rfl ?_
          | with_reducible refine Tx_nop ?_
          | with_reducible refine hn1 _ ?_
          | ((with_reducible refine Tx_regE (fun K hK => ?_); with_reducible refine t62r26 ?_); (try simp only [tget_cons, if_true, if_false, Nat.reduceEqDiff, Kn_normal, Obt_add, if_false, if_true, hwd]))
          | (revert hK; intro hK; (with_reducible refine hK _ ?_; clear hK K)))
          refine hnL3 t.length _ (by simp) ⟨d ++ [p], t, E ++ [.var 1 [.int .i64 d.length, .int .i64 3] 0], L4, by simp [h3], rfl, fun i q hq => ?_, by rw [hHE]; simp⟩
          by_cases hi : i < d.length
          · rw [List.getElem?_append_left hi] at hq
            exact hd i q hq
          · have : i = d.length := by have := (List.getElem?_eq_some_iff.1 hq).1; simp at this; omega
            subst this
            simp at hq
            subst hq
            exact hpo
      | cons x t2 =>
        simp only [List.length_cons] at hlen2
        have hxi : p.nodes[d2.length]? = some x := by rw [h5]; simp
        have hxa := (hnds x (List.mem_of_getElem? hxi)).1
        have hw2 : IntKind.i64.wrap ((d2.length : Int) + 1) = ((d2.length + 1 : Nat) : Int) := by rw [wI (by omega) (by omega)]; rfl
        have hul' : (uses x).length ≤ 17592186044416 := uses_len x hxa
        have hnk : ndOk (succs f) l d.length p d2.length = (uses x).all (aheadB (succs f) l d.length ((d2.length + 1 : Nat) : Int)) := by unfold ndOk; rw [hxi]
        repeat' (first
        | with_reducible refine Tx_nopK ?_
        | with_reducible refine Tx_yesK rfl ?_
        | with_reducible refine Tx_blockK (id := 7) (fun Q7 hn7 hx7 hr7 ho7 => ?_)
        | ((with_reducible refine Tx_regK (fun K hK => ?_); (first | with_reducible refine t62r19 ?_ | with_reducible refine t62r20 ?_ | with_reducible refine t62r21 ?_)); (try simp only [tget_cons, if_true, if_false, Nat.reduceEqDiff, ccells, Obt_some, Kn_normal, newL_eq, newP_eq, lget_lset, Nat.reduceAdd, Nat.zero_add, List.drop_zero, ldA_l, Obt_lss, Obt_map, Obt_add, fillX, stX_l, stV_var, splice, List.take_zero, List.take_succ_cons, List.drop_succ_cons, List.drop_nil, List.nil_append, List.cons_append, List.append_nil, List.length_cons, List.length_nil, Nat.reduceLeDiff, and_self, and_true, Nat.le_refl, rdA_var, if_false, if_true, idxS_split ndE.len (by omega) h5, ldA_r12, ndC, hsetL, hw2, fill_2]))
        | (revert hK; intro hK; (first | refine And.intro ?_ ?_ | intro _ | omega | (with_reducible refine hK _ ?_; clear hK K))))
        refine k79 x hxa rfl fun v3 m3 hv3 hH3 hf3 => ?_
        refine k92 f (succs f) l up nc np nu m3 (by rw [hH3]; exact hEE) hok hul hgl d.length ((d2.length + 1 : Nat) : Int) hdo v3 _ (uses x) hv3 hul' fun m4 hH4 hf4 => ?_
        have h64 : lget m4.L 64 = some (.var g4 (ptC p) 0) := by rw [hf4 64 (by decide), hf3 64 (by decide)]; simp [lget_lset, hL2]
        obtain ⟨L4, H4⟩ := m4
        simp only [hH3] at hH4
        subst hH4
        rw [← hnk]
        cases hpo : ndOk (succs f) l d.length p d2.length with
        | false =>
          simp only [Obt_not, Bool.not_false]
          refine hK _ ?_
          clear hK K
          repeat' (first
          | with_reducible refine Tx_yes rfl ?_
          | with_reducible refine Tx_ret ?_
          | with_reducible refine hr0 _ ?_
          | with_reducible refine hr1 _ ?_
          | with_reducible refine hr6 _ ?_
          | with_reducible refine hr7 _ ?_
          | with_reducible refine hrL2 _ ?_
          | with_reducible refine hrL3 _ ?_
          | ((first | (with_reducible refine Tx_regK (fun K hK => ?_); with_reducible refine t62r22 ?_) | with_reducible refine hqr _ ?_); (try simp only [tget_cons, if_true, if_false, Nat.reduceEqDiff, Obt_some, Kn_normal, Option.map_some, if_false, if_true, r62, tend, tresAll, tresC, Option.bind_some, mapMem, tup_one, Prod.mk.injEq, retv_igp]))
          | (revert hK; intro hK; (with_reducible refine hK _ ?_; clear hK K)))
          refine ⟨_, _, ⟨rfl, rfl⟩, bad ?_⟩
          rw [partOk_eq, all_range_false (k := d2.length) (by omega) hpo]; simp
        | true =>
          simp only [Obt_not, Bool.not_true]
          refine hK _ ?_
          clear hK K
          repeat' (first
          | with_reducible refine Tx_no rfl ?_
          | with_reducible refine Tx_nop ?_
          | with_reducible refine hn7 _ ?_
          | ((with_reducible refine Tx_regE (fun K hK => ?_); with_reducible refine t62r23 ?_); (try simp only [tget_cons, if_true, if_false, Nat.reduceEqDiff, Kn_normal, Obt_add, if_false, if_true, hw2]))
          | (revert hK; intro hK; (with_reducible refine hK _ ?_; clear hK K)))
          rw [show ((d2.length + 1 : Nat) : Int) = ((d2 ++ [x]).length : Int) by simp]
          refine hnL2 t2.length _ (by simp) ⟨d2 ++ [x], t2, L4, by simp [h5], rfl, fun i hi => ?_, h64, rfl⟩
          by_cases hi2 : i < d2.length
          · exact hd2 i hi2
          · have : i = d2.length := by simp at hi; omega
            subst this
            exact hpo
    | cons x t1 =>
      simp only [List.length_cons] at hlen1
      have hxm : x ∈ p.phis := by rw [h4]; simp
      have hxs := hphs x hxm
      have hw1 : IntKind.i64.wrap ((d1.length : Int) + 1) = d1.length + 1 := wI (by omega) (by omega)
      by_cases hsl : x.src.length = p.pred.length
      · have hsl' : ((x.src.length : Nat) : Int) = p.pred.length := by omega
        repeat' (first
        | with_reducible refine Tx_assoc ?_
        | with_reducible refine Tx_nopK ?_
        | with_reducible refine Tx_yesK rfl ?_
        | with_reducible refine Tx_noK rfl ?_
        | with_reducible refine Tx_blockK (id := 3) (fun Q3 hn3 hx3 hr3 ho3 => ?_)
        | with_reducible refine Tx_blockE (id := 4) (fun Q4 hn4 hx4 hr4 ho4 => ?_)
        | ((with_reducible refine Tx_regK (fun K hK => ?_); (first | with_reducible refine t62r7 ?_ | with_reducible refine t62r8 ?_ | with_reducible refine t62r9 ?_ | with_reducible refine t62r11 ?_)); (try simp only [true_implies, false_implies, not_true_eq_false, tget_cons, if_true, if_false, Nat.reduceEqDiff, ccells, Obt_some, Kn_normal, newL_eq, newP_eq, lget_lset, Nat.reduceAdd, Nat.zero_add, fldA_ptr, ld1_l, rd1_var, List.getElem?_cons_zero, List.getElem?_cons_succ, Obt_lss, Obt_neq, lenS, Obt_map, stX_l, stV_var, splice, List.take_zero, List.drop_succ_cons, List.drop_nil, List.nil_append, List.cons_append, List.append_nil, List.length_cons, List.length_nil, and_self, and_true, Nat.le_refl, if_false, if_true, idxS_split phE.len (by omega) h4, ldA_r2, phC, hsetL, hL1, ptC, clen_sl, hsl']))
        | (revert hK; intro hK; (first | refine And.intro ?_ ?_ | intro _ | omega | (with_reducible refine hK _ ?_; clear hK K))))
        refine Tx_loopK (fun k s => ∃ (d5 t5 : List Int) (L : List (Nat × HO)), x.src = d5 ++ t5 ∧ k = t5.length ∧ (∀ i, i < d5.length → aheadB (succs f) l (p.pred.getD i 0) farEnd (x.src.getD i 0) = true) ∧ lget L 64 = some (.var g4 (ptC p) 0) ∧
          s = ⟨[(0, .ptr (.g nc) 1 0), (3, .int .i64 d.length), (4, .ptr (.l 64) g4 0), (5, .ptr (.g n5) 1 0), (25, sl ptC f.parts), (26, .int .i64 f.parts.length), (27, .int .i64 d.length), (36, sl phC p.phis), (37, .int .i64 p.phis.length), (38, .int .i64 d1.length), (52, sl intC x.src), (53, .int .i64 p.pred.length), (54, .int .i64 d5.length)], ⟨L, HE⟩⟩) _
          ⟨[], x.src, _, rfl, rfl, fun i h => by simp at h, by simp [lget_lset, hL1, ptC], rfl⟩ ?_
        rintro k s ⟨d5, t5, L5, h6, rfl, hd5, hL5, rfl⟩ QL0 hnL0 hxL0 hrL0
        have hlen5 := congrArg List.length h6
        simp only [List.length_append] at hlen5
        simp only [c62l0]
        cases t5 with
        | nil =>
          simp only [List.length_nil] at hlen5
          rw [List.append_nil] at h6
          repeat' (first
          | with_reducible refine Tx_noK rfl ?_
          | with_reducible refine Tx_exitK ?_
          | with_reducible refine hn3 _ ?_
          | with_reducible refine hx4 _ ?_
          | with_reducible refine hxL0 _ _ ?_
          | (((first | with_reducible refine Tx_regK (fun K hK => ?_) | with_reducible refine Tx_regE (fun K hK => ?_)); (first | with_reducible refine t62r12 ?_ | with_reducible refine t62r17 ?_)); (try simp only [tget_cons, if_true, if_false, Nat.reduceEqDiff, Kn_normal, Obt_lss, Obt_add, if_false, if_true, hw1]))
          | (revert hK; intro hK; (first | refine And.intro ?_ ?_ | intro _ | omega | (with_reducible refine hK _ ?_; clear hK K))))
          rw [show ((d1.length : Int) + 1) = ((d1 ++ [x]).length : Int) by simp]
          refine hnL1 t1.length _ (by simp) ⟨d1 ++ [x], t1, g4, L5, by simp [h4], rfl, fun y hy => ?_, hL5, rfl⟩
          rcases List.mem_append.1 hy with hy | hy
          · exact hd1 y hy
          · simp only [List.mem_singleton] at hy
            subst hy
            unfold phiOk
            simp only [hsl, decide_true, Bool.true_and]
            exact all_range_true fun i hi => hd5 i (by omega)
        | cons y t5 =>
          simp only [List.length_cons] at hlen5
          have hw5 : IntKind.i64.wrap ((d5.length : Int) + 1) = d5.length + 1 := wI (by omega) (by omega)
          have hpp : p.pred[((d5.length : Nat) : Int).toNat]? = some (p.pred.getD d5.length 0) := by
            rw [Int.toNat_natCast, List.getD_eq_getElem?_getD, List.getElem?_eq_getElem (by omega)]; rfl
          have hpr : p.pred.getD d5.length 0 ∈ ord (succs f) := pred_reach hw hpi (List.mem_of_getElem? hpp)
          have hxy : x.src.getD d5.length 0 = y := by rw [h6]; simp
          repeat' (first
          | with_reducible refine Tx_nopK ?_
          | with_reducible refine Tx_yesK rfl ?_
          | with_reducible refine Tx_blockK (id := 5) (fun Q5 hn5 hx5 hr5 ho5 => ?_)
          | ((with_reducible refine Tx_regK (fun K hK => ?_); (first | with_reducible refine t62r12 ?_ | with_reducible refine t62r13 ?_ | with_reducible refine t62r14 ?_)); (try simp only [tget_cons, if_true, if_false, Nat.reduceEqDiff, ccells, Obt_some, Kn_normal, Nat.reduceAdd, Nat.zero_add, fldA_ptr, List.drop_zero, ld1_l, ld1_r, rd1_var, List.getElem?_cons_zero, Obt_lss, Obt_map, fillX, splice, List.take_zero, List.take_succ_cons, List.drop_succ_cons, List.drop_nil, List.nil_append, List.cons_append, List.length_cons, List.length_nil, Nat.reduceLeDiff, and_true, true_and, Nat.le_refl, if_false, if_true, bslX_int, idxS_split intC_len (by omega) h6, idxS_sl intC_len (by omega) (show (0 : Int) ≤ (d5.length : Int) by omega) hpp, hL5, ptC, fill_2, intC, List.cons_append, List.nil_append]))
          | (revert hK; intro hK; (first | refine And.intro ?_ ?_ | intro _ | omega | (with_reducible refine hK _ ?_; clear hK K))))
          have hv3 : EscI (setL ⟨L5, HE⟩ 1072 (HO.arr (gnext L5 1072) 1 [CV.int IntKind.i64 y] 0)) 1072 (.ref (.l 1072) (gnext L5 1072) 0 1) [y] := OwnV.escI (.inr ⟨by simp, _, 0, rfl, by rw [lget_setL, if_pos rfl]; rfl, Nat.zero_le _⟩)
          refine k92 f (succs f) l up nc np nu _ hEE hok hul hgl (p.pred.getD d5.length 0) 1073741824 hpr _ _ [y] hv3 (by simp) fun m4 hH4 hf4 => ?_
          have h64 : lget m4.L 64 = some (.var g4 (ptC p) 0) := by rw [hf4 64 (by decide), lget_setL, if_neg (by decide)]; exact hL5
          obtain ⟨L4, H4⟩ := m4
          simp only [setL_H] at hH4
          subst hH4
          have hone : ([y].all (aheadB (succs f) l (p.pred.getD d5.length 0) 1073741824)) = aheadB (succs f) l (p.pred.getD d5.length 0) farEnd (x.src.getD d5.length 0) := by rw [hxy]; simp [farEnd]
          rw [hone]
          cases hpo : aheadB (succs f) l (p.pred.getD d5.length 0) farEnd (x.src.getD d5.length 0) with
          | false =>
            simp only [Obt_not, Bool.not_false]
            refine hK _ ?_
            clear hK K
            repeat' (first
            | with_reducible refine Tx_yes rfl ?_
            | with_reducible refine Tx_ret ?_
            | with_reducible refine hr0 _ ?_
            | with_reducible refine hr1 _ ?_
            | with_reducible refine hr2 _ ?_
            | with_reducible refine hr3 _ ?_
            | with_reducible refine hr4 _ ?_
            | with_reducible refine hr5 _ ?_
            | with_reducible refine hrL0 _ ?_
            | with_reducible refine hrL1 _ ?_
            | with_reducible refine hrL3 _ ?_
            | ((first | (with_reducible refine Tx_regK (fun K hK => ?_); with_reducible refine t62r15 ?_) | with_reducible refine hqr _ ?_); (try simp only [tget_cons, if_true, if_false, Nat.reduceEqDiff, Obt_some, Kn_normal, Option.map_some, if_false, if_true, r62, tend, tresAll, tresC, Option.bind_some, mapMem, tup_one, Prod.mk.injEq, retv_igp]))
            | (revert hK; intro hK; (with_reducible refine hK _ ?_; clear hK K)))
            have hpo2 : phiOk (succs f) l p x = false := by unfold phiOk; rw [all_range_false (k := d5.length) (by omega) hpo]; simp
            have hpa : p.phis.all (phiOk (succs f) l p) = false := by rw [List.all_eq_false]; exact ⟨x, hxm, by simp [hpo2]⟩
            exact ⟨_, _, ⟨rfl, rfl⟩, bad (by rw [partOk_eq, hpa]; simp)⟩
          | true =>
            simp only [Obt_not, Bool.not_true]
            refine hK _ ?_
            clear hK K
            repeat' (first
            | with_reducible refine Tx_no rfl ?_
            | with_reducible refine Tx_nop ?_
            | with_reducible refine hn5 _ ?_
            | ((with_reducible refine Tx_regE (fun K hK => ?_); with_reducible refine t62r16 ?_); (try simp only [tget_cons, if_true, if_false, Nat.reduceEqDiff, Kn_normal, Obt_add, if_false, if_true, hw5]))
            | (revert hK; intro hK; (with_reducible refine hK _ ?_; clear hK K)))
            rw [show ((d5.length : Int) + 1) = ((d5 ++ [y]).length : Int) by simp]
            refine hnL0 t5.length _ (by simp) ⟨d5 ++ [y], t5, L4, by simp [h6], rfl, fun i hi => ?_, h64, rfl⟩
            by_cases hi2 : i < d5.length
            · exact hd5 i hi2
            · have : i = d5.length := by simp at hi; omega
              subst this
              exact hpo
      · have hsl' : ¬ ((x.src.length : Nat) : Int) = p.pred.length := by omega
        have hpo : phiOk (succs f) l p x = false := by unfold phiOk; simp [hsl]
        have hpa : p.phis.all (phiOk (succs f) l p) = false := by rw [List.all_eq_false]; exact ⟨x, hxm, by simp [hpo]⟩
        repeat' (first
        | with_reducible refine Tx_assoc ?_
        | with_reducible refine Tx_nopK ?_
        | with_reducible refine Tx_yesK rfl ?_
        | with_reducible refine Tx_retK ?_
        | with_reducible refine hr0 _ ?_
        | with_reducible refine hr1 _ ?_
        | with_reducible refine hr2 _ ?_
        | with_reducible refine Tx_blockK (id := 3) (fun Q3 hn3 hx3 hr3 ho3 => ?_)
        | with_reducible refine hr3 _ ?_
        | with_reducible refine hrL1 _ ?_
        | with_reducible refine hrL3 _ ?_
        | ((first | (with_reducible refine Tx_regK (fun K hK => ?_); (first | with_reducible refine t62r7 ?_ | with_reducible refine t62r8 ?_ | with_reducible refine t62r9 ?_ | with_reducible refine t62r10 ?_)) | with_reducible refine hqr _ ?_); (try simp only [true_implies, false_implies, not_false_eq_true, tget_cons, if_true, if_false, Nat.reduceEqDiff, ccells, Obt_some, Kn_normal, newL_eq, newP_eq, lget_lset, Nat.reduceAdd, Nat.zero_add, fldA_ptr, ld1_l, rd1_var, List.getElem?_cons_zero, List.getElem?_cons_succ, Obt_lss, Obt_neq, Option.map_some, lenS, Obt_map, stX_l, stV_var, splice, List.take_zero, List.drop_succ_cons, List.drop_nil, List.nil_append, List.cons_append, List.append_nil, List.length_cons, List.length_nil, and_self, true_and, Nat.le_refl, if_false, if_true, r62, tend, tresAll, tresC, Option.bind_some, mapMem, tup_one, Prod.mk.injEq, idxS_split phE.len (by omega) h4, ldA_r2, phC, hsetL, hL1, ptC, clen_sl, hsl', retv_igp]))
        | (revert hK; intro hK; (first | refine And.intro ?_ ?_ | intro _ | omega | (with_reducible refine hK _ ?_; clear hK K))))
        exact ⟨_, _, ⟨rfl, rfl⟩, bad (by rw [partOk_eq, hpa]; simp)⟩
end Go.Cm

/-
  Code as values: rows of rows that grow in everybody's memory.
-/
namespace Go.Cm
open Go.Proofs Go.Ir Go.Gr
/-- rows in everybody's memory, each alone -/
structure RInv (b n no : Nat) (H0 H : List HO) (cs : List CV) (f : Nat → List Int) : Prop where
  len : b ≤ H.length
  nol : no < b
  tab : H[no]? = some (.arr 1 1 cs 0)
  csl : cs.length = n
  row : ∀ x : Nat, x < n → (cs[x]? = some .nil ∧ f x = []) ∨ ∃ k gn, cs[x]? = some (.ref (.g k) gn 0 (f x).length) ∧ b ≤ k ∧ H[k]? = some (.arr gn 1 ((f x).flatMap intC) 0)
  apart : ∀ (x y k gn gn' l l' : Nat), cs[x]? = some (.ref (.g k) gn 0 l) → cs[y]? = some (.ref (.g k) gn' 0 l') → x = y
  old : ∀ i : Nat, i < b → i ≠ no → H[i]? = H0[i]?
section
variable {b n no : Nat} {H0 H : List HO} {cs : List CV} {f : Nat → List Int}
theorem RInv.get (h : RInv b n no H0 H cs f) {x : Nat} (hx : x < n) : ∃ v, cs[x]? = some v ∧ RefG H v (f x) := by
  rcases h.row x hx with ⟨h1, h2⟩ | ⟨k, gn, h1, _, h2⟩
  · exact ⟨_, h1, .inl ⟨h2, rfl⟩⟩
  · exact ⟨_, h1, .inr ⟨k, gn, 0, rfl, h2⟩⟩
theorem RInv.idx (h : RInv b n no H0 H cs f) {x : Int} (h0 : 0 ≤ x) (hx : x < n) : idxS 1 (.ref (.g no) 1 0 n) (.int .i64 x) = some (.ptr (.g no) 1 x.toNat) := by
  rw [idxS_ref, if_pos ⟨h0, by omega⟩]; simp
theorem RInv.ld (h : RInv b n no H0 H cs f) {x : Nat} {v : CV} (hv : cs[x]? = some v) {L : List (Nat × HO)} : ld1 ⟨L, H⟩ (.ptr (.g no) 1 x) = some v := by
  rw [ld1_g]; simp only [h.tab, rd1_arr, hv]
/-- one more in a row -/
theorem RInv.step (h : RInv b n no H0 H cs f) {x : Nat} (hx : x < n) {v : CV} (hv : cs[x]? = some v) (a : Int) {gt j jt : Nat} {L : List (Nat × HO)} (ht : lget L jt = some (.arr gt 1 [.int .i64 a] 0)) (hl : (f x).length + 1 ≤ 4294967296) :
    ∃ w H2 H3 cs', appX true j 1 8 v (.ref (.l jt) gt 0 1) ⟨L, H⟩ = some (w, ⟨L, H2⟩) ∧ stX 1 ⟨L, H2⟩ (.ptr (.g no) 1 x) w = some ⟨L, H3⟩ ∧ RInv b n no H0 H3 cs' (fun z => if z = x then f x ++ [a] else f z) := by
  have hc : content ⟨L, H⟩ 1 (.ref (.l jt) gt 0 1) = some [.int .i64 a] := by rw [content_l, ht, conR_arr]; rfl
  have hbl := h.len
  have hnb := h.nol
  have hcx : x < cs.length := by rw [h.csl]; exact hx
  have hfresh : ∀ (z n gn k : Nat), cs[z]? = some (.ref (.g n) gn 0 k) → n < H.length := by
    intro z n gn k hz
    rcases Nat.lt_or_ge z cs.length with hz' | hz'
    · rcases h.row z (by rw [← h.csl]; exact hz') with ⟨h3, _⟩ | ⟨n', gn', h3, _, h4⟩
      · rw [h3] at hz; cases hz
      · rw [h3] at hz
        simp only [Option.some.injEq, CV.ref.injEq, Key.g.injEq] at hz
        rw [← hz.1]; exact (List.getElem?_eq_some_iff.1 h4).1
    · rw [List.getElem?_eq_none hz'] at hz; cases hz
  rcases h.row x hx with ⟨h1, h2⟩ | ⟨k, gn, h1, hbn, h2⟩
  · -- a new row
    rw [h1] at hv
    obtain rfl := (Option.some.inj hv)
    have htab : (H ++ [HO.arr 1 1 [.int .i64 a] 0])[no]? = some (.arr 1 1 cs 0) := by rw [List.getElem?_append_left (by omega)]; exact h.tab
    refine ⟨.ref (.g H.length) 1 0 1, H ++ [HO.arr 1 1 [.int .i64 a] 0], _, cs.set x (.ref (.g H.length) 1 0 1), ?_, stX_one (m := ⟨L, _⟩) htab hcx rfl rfl, ?_⟩
    · rw [appX_n, hc, clen_r, appN_some (by decide), if_pos (smallB_ok (by decide) (by decide))]
      rfl
    · refine ⟨by simp; omega, hnb, by simp only; rw [List.getElem?_set_self (by simp; omega)], by simp [h.csl], fun z hz => ?_, fun z w n gn gn' k k' hz hw => ?_, fun i hi hi2 => ?_⟩
      · by_cases hzx : z = x
        · subst hzx
          right
          refine ⟨H.length, 1, ?_, hbl, ?_⟩
          · rw [List.getElem?_set_self hcx]; simp [h2]
          · simp only
            rw [List.getElem?_set_ne (by omega), List.getElem?_append_right (by omega)]
            simp [h2, intC]
        · rw [List.getElem?_set_ne (Ne.symm hzx), if_neg hzx]
          rcases h.row z hz with h3 | ⟨n', gn', h3, h4, h5⟩
          · exact .inl h3
          · right
            have := (List.getElem?_eq_some_iff.1 h5).1
            exact ⟨n', gn', h3, h4, by simp only; rw [List.getElem?_set_ne (by omega), List.getElem?_append_left this, h5]⟩
      · rw [List.getElem?_set] at hz hw
        split at hz <;> split at hw
        · rename_i e1 e2; rw [← e1, ← e2]
        · simp only [Option.some.injEq, CV.ref.injEq, Key.g.injEq] at hz
          have := hfresh w n gn' k' hw
          omega
        · simp only [Option.some.injEq, CV.ref.injEq, Key.g.injEq] at hw
          have := hfresh z n gn k hz
          omega
        · exact h.apart z w n gn gn' k k' hz hw
      · simp only
        rw [List.getElem?_set_ne (by omega), List.getElem?_append_left (by omega)]; exact h.old i hi hi2
  · -- a row that is made longer
    rw [h1] at hv
    obtain rfl := (Option.some.inj hv)
    have hnl := (List.getElem?_eq_some_iff.1 h2).1
    have htab : (H.set k (.arr (gn + 1) 1 ((f x ++ [a]).flatMap intC) 0))[no]? = some (.arr 1 1 cs 0) := by rw [List.getElem?_set_ne (by omega)]; exact h.tab
    refine ⟨.ref (.g k) (gn + 1) 0 ((f x).length + 1), H.set k (.arr (gn + 1) 1 ((f x ++ [a]).flatMap intC) 0), _, cs.set x (.ref (.g k) (gn + 1) 0 ((f x).length + 1)), ?_, stX_one (m := ⟨L, _⟩) htab hcx rfl rfl, ?_⟩
    · have htk : ((f x).flatMap intC).take ((f x).length * 1) = (f x).flatMap intC := List.take_of_length_le (by rw [len_int]; omega)
      rw [appX_g, hc, clen_r]
      simp only [h2]
      rw [if_pos ⟨trivial, trivial, by omega, smallB_ok (by decide) hl⟩]
      simp only [setG, List.drop_zero, htk, Nat.zero_sub, List.flatMap_append, List.flatMap_cons, List.flatMap_nil, List.append_nil, intC]
    · refine ⟨by simp; omega, hnb, by simp only; rw [List.getElem?_set_self (by simp; omega)], by simp [h.csl], fun z hz => ?_, fun z w n' g1 g2 l l' hz hw => ?_, fun i hi hi2 => ?_⟩
      · by_cases hzx : z = x
        · subst hzx
          right
          refine ⟨k, gn + 1, ?_, hbn, ?_⟩
          · rw [List.getElem?_set_self hcx]; simp
          · simp only
            rw [List.getElem?_set_ne (by omega), List.getElem?_set_self hnl]
            simp
        · rw [List.getElem?_set_ne (Ne.symm hzx), if_neg hzx]
          rcases h.row z hz with h3 | ⟨n', gn', h3, h4, h5⟩
          · exact .inl h3
          · right
            have hne : k ≠ n' := fun e => hzx (h.apart z x n' gn' gn _ _ h3 (by rw [← e]; exact h1))
            exact ⟨n', gn', h3, h4, by simp only; rw [List.getElem?_set_ne (by omega), List.getElem?_set_ne hne, h5]⟩
      · rw [List.getElem?_set] at hz hw
        split at hz <;> split at hw
        · rename_i e1 e2; rw [← e1, ← e2]
        · rename_i e1 e2
          simp only [Option.some.injEq, CV.ref.injEq, Key.g.injEq] at hz
          rw [← hz.1] at hw
          rw [← e1]; exact h.apart x w k gn g2 _ _ h1 hw
        · rename_i e1 e2
          simp only [Option.some.injEq, CV.ref.injEq, Key.g.injEq] at hw
          rw [← hw.1] at hz
          rw [← e2]; exact (h.apart x z k gn g1 _ _ h1 hz).symm
        · exact h.apart z w n' g1 g2 l l' hz hw
      · simp only
        rw [List.getElem?_set_ne (by omega), List.getElem?_set_ne (by omega)]; exact h.old i hi hi2
end
theorem reps_nil : ∀ n x : Nat, x < n → (reps n [CV.nil])[x]? = some .nil := by
  intro n
  induction n with
  | zero => intro x hx; omega
  | succ n ih =>
    intro x hx
    cases x with
    | zero => rfl
    | succ x => exact ih x (by omega)
theorem OwnV.idx1 {m : Mem} {j : Nat} {v : CV} {l : List Int} (h : OwnV intC 1 m j v l) {a : Int} {i : Nat} (ha : l[i]? = some a) : ∃ pt, idxS 1 v (.int .i64 i) = some pt ∧ ld1 m pt = some (.int .i64 a) := by
  obtain ⟨g, vl, rfl, h2, _⟩ := h.at intC_len ha (k := .i64)
  have hi := (List.getElem?_eq_some_iff.1 ha).1
  refine ⟨.ptr (.l j) g i, by rw [idxS_ref, if_pos ⟨by omega, by omega⟩]; simp, ?_⟩
  rw [ld1_l, h2]
  simp only [rd1_arr]
  rw [flat_int, ha]; rfl
theorem predsOf_succ {s : List (List Int)} {b : Int} {n : Nat} : predsOf s b (n + 1) = predsOf s b n ++ ((s.getD n []).filter fun y => decide (y = b)).map fun _ => (n : Int) := by
  simp only [predsOf, List.range_succ, List.flatMap_append, List.flatMap_cons, List.flatMap_nil, List.append_nil]
theorem predsOf_len {s : List (List Int)} (hs : ∀ i : Nat, (s.getD i []).length ≤ 2) (b : Int) : ∀ n, (predsOf s b n).length ≤ 2 * n
  | 0 => by simp [predsOf]
  | n + 1 => by
    rw [predsOf_succ, List.length_append, List.length_map]
    have h1 := predsOf_len hs b n
    have h2 := List.length_filter_le (fun y => decide (y = b)) (s.getD n [])
    have h3 := hs n
    omega
end Go.Cm
