import Derived.Test.YtijcpefcfcbcnaaIzF
set_option linter.unusedSimpArgs false
set_option linter.unusedVariables false
namespace Go.Cm
open Go.Proofs Go.Ir Go.Gr
theorem all_range_false {n k : Nat} {p : Nat → Bool} (hk : k < n) (h : p k = false) : (List.range n).all p = false := by
  rw [List.all_eq_false]; exact ⟨k, List.mem_range.2 hk, by simp [h]⟩
theorem all_range_true {n : Nat} {p : Nat → Bool} (h : ∀ k, k < n → p k = true) : (List.range n).all p = true := by
  rw [List.all_eq_true]; exact fun k hk => h k (List.mem_range.1 hk)
theorem k79 (n : Nd) (hl : n.args.length ≤ 17592186044416) {fid : FuncId} {d : Tmp} {m : Mem} {K : CV × Mem → Prop} (hgl : (An.glob fid).contains d = false)
    (hK : ∀ v m', EscI m' (16 * d) v (uses n) → m'.H = m.H → (∀ i, i ≠ 16 * d → lget m'.L i = lget m.L i) → K (v, m')) : Obt (callC An FF fid (some d) 79 [.agg (ndC n)] m) K := by
  have hF := x79 n hl
  by_cases h7 : n.op = 7
  · have hu : uses n = n.args := by unfold uses; rw [if_neg (by omega), if_neg (by omega), if_pos h7]
    rw [usesV, if_pos h7] at hF
    rw [hu] at hK
    rw [callC_K hF rfl (by simp only [cans, can_agg, ndE.can]) rfl (by simp only [noGs, noG, ndE.noG, Bool.and_self]) (noG_cloneV intC_N _), Obt_some, hgl]
    cases ha : n.args with
    | nil => rw [ha] at hK; exact hK _ _ .imm rfl (fun _ _ => rfl)
    | cons a l =>
      rw [ha] at hK
      refine hK _ _ (OwnV.escI (.inr ⟨by simp, _, 0, rfl, ?_, Nat.zero_le _⟩)) rfl ?_
      · show lget (setL m (16 * d) _).L (16 * d) = _
        rw [lget_setL, if_pos rfl]; rfl
      · intro i hi
        show lget (setL m (16 * d) _).L i = _
        rw [lget_setL, if_neg (Ne.symm hi)]
  · rw [usesV, if_neg h7] at hF
    exact callC_O hF rfl (by simp only [cans, can_agg, ndE.can]) rfl (by simp only [noGs, noG, ndE.noG, Bool.and_self]) intC_N hgl fun v m' h1 h2 h3 => hK v m' h1.seen.escI h2 h3
theorem k93 (e : Tm) {fid : FuncId} {d : Tmp} {m : Mem} {K : CV × Mem → Prop} (hgl : (An.glob fid).contains d = false)
    (hK : ∀ v m', EscI m' (16 * d) v (ends e) → m'.H = m.H → (∀ i, i ≠ 16 * d → lget m'.L i = lget m.L i) → K (v, m')) : Obt (callC An FF fid (some d) 93 [.agg (tmC e)] m) K :=
  callC_O (x93 e) rfl (by simp only [cans, can_agg, tmE.can]) rfl rfl intC_N hgl fun v m' h1 h2 h3 => hK v m' h1.seen.escI h2 h3
theorem ends_len (e : Tm) : (ends e).length ≤ 2 := by
  unfold ends; split
  · simp
  · split <;> simp
theorem uses_len (x : Nd) (h : x.args.length ≤ 17592186044416) : (uses x).length ≤ 17592186044416 := by
  unfold uses
  split
  · simp
  · split
    · simp
    · split
      · exact h
      · simp
theorem CEnv.app {f : Cd} {l : List (Option (Int × Int))} {up : List Int} {nc np nu : Nat} {H : List HO} (h : CEnv f l up nc np nu H) (E : List HO) : CEnv f l up nc np nu (H ++ E) where
  ctx := by rw [List.getElem?_append_left (List.getElem?_eq_some_iff.1 h.ctx).1, h.ctx]
  pls := by rw [List.getElem?_append_left (List.getElem?_eq_some_iff.1 h.pls).1, h.pls]
  ups := by rw [List.getElem?_append_left (List.getElem?_eq_some_iff.1 h.ups).1, h.ups]
  pos := h.pos
  small := h.small
theorem k92 (f : Cd) (g : List (List Int)) (l : List (Option (Int × Int))) (up : List Int) (nc np nu : Nat) (m : Mem) (hE : CEnv f l up nc np nu m.H) (hok : IdomOK g up) (hul : up.length = g.length) (hgl : g.length ≤ 1048576)
    (part at_ : Int) (hpart : part ∈ ord g) (v : CV) (j : Nat) (ids : List Int) (hv : EscI m j v ids) (hil : ids.length ≤ 17592186044416) {fid : FuncId} {d : Tmp} {K : CV × Mem → Prop}
    (hK : ∀ m', m'.H = m.H → (∀ i, i ≠ j → lget m'.L i = lget m.L i) → K (.bool (ids.all (aheadB g l part at_)), m')) : Obt (callC An FF fid (some d) 92 [.ptr (.g nc) 1 0, .agg [.int .i64 part, .int .i64 at_], v] m) K := by
  obtain ⟨x, m1, h1, h2, h3, h4⟩ := hv
  have hF := x92 f g l up nc np nu m1.H (by rw [h3]; exact hE) hok hul hgl part at_ hpart x ids (h2 _) hil
  have hx : escList m [.ptr (.g nc) 1 0, .agg [.int .i64 part, .int .i64 at_], v] = some ([.ptr (.g nc) 1 0, .agg [.int .i64 part, .int .i64 at_], x], m1) := escList_last (pre := [.ptr (.g nc) 1 0, .agg [.int .i64 part, .int .i64 at_]]) rfl h1
  rw [callC_IE rfl hx hF, Obt_some, adopt_bool]
  exact hK _ h3 h4
noncomputable def phiOk (g : List (List Int)) (l : List (Option (Int × Int))) (p : Pt) (x : Ph) : Bool := decide (x.src.length = p.pred.length) && (List.range x.src.length).all fun k => aheadB g l (p.pred.getD k 0) farEnd (x.src.getD k 0)
noncomputable def ndOk (g : List (List Int)) (l : List (Option (Int × Int))) (i : Int) (p : Pt) (k : Nat) : Bool := match p.nodes[k]? with | some n => (uses n).all (aheadB g l i ((k + 1 : Nat) : Int)) | none => true
theorem partOk_eq {g : List (List Int)} {l : List (Option (Int × Int))} {i : Int} {p : Pt} : partOk g l i p = (p.phis.all (phiOk g l p) && ((List.range p.nodes.length).all (ndOk g l i p)) && (ends p.fin).all (aheadB g l i farEnd)) := rfl
theorem reach_of {f : Cd} (h : waysOk f = true) {i : Nat} (hi : i < f.parts.length) : (i : Int) ∈ ord (succs f) := by
  simp only [waysOk, Bool.and_eq_true, List.all_eq_true, List.mem_range, decide_eq_true_eq] at h
  exact (h.1.2 i hi).1
theorem succs_len (f : Cd) : (succs f).length = f.parts.length := by simp [succs]
theorem pred_of {f : Cd} (h : waysOk f = true) {i : Nat} {p : Pt} (hp : f.parts[i]? = some p) : p.pred = predsOf (succs f) i f.parts.length := by
  have hi := (List.getElem?_eq_some_iff.1 hp).1
  simp only [waysOk, Bool.and_eq_true, List.all_eq_true, List.mem_range, decide_eq_true_eq] at h
  have := (h.1.2 i hi).2
  rw [this, List.getD_eq_getElem?_getD, List.getElem?_map, hp]; rfl
theorem pred_reach {f : Cd} (h : waysOk f = true) {i : Nat} {p : Pt} (hp : f.parts[i]? = some p) {y : Int} (hy : y ∈ p.pred) : y ∈ ord (succs f) := by
  rw [pred_of h hp, predsOf, List.mem_flatMap] at hy
  obtain ⟨a, ha, hy⟩ := hy
  rw [List.mem_map] at hy
  obtain ⟨_, _, rfl⟩ := hy
  exact reach_of h (List.mem_range.1 ha)
theorem succs_small {f : Cd} (hf : Sized f) : Sm (succs f) := ⟨by rw [succs_len]; exact hf.parts, fun r hr => by
  rw [succs, List.mem_map] at hr
  obtain ⟨p, _, rfl⟩ := hr
  have := nexts_len p.fin
  omega⟩
theorem IsRows.rowC {g : List (List Int)} (hg : g ≠ []) : IsRows (rowC rowCC g) g := by
  cases g with
  | nil => exact absurd rfl hg
  | cons a g =>
    refine ⟨_, rfl, by rw [flat_len rowCC_len]; omega, fun i r hr => ?_, noGs_flat rowCC_N _⟩
    have := flat_get (e := rowCC) (sz := 1) (off := 0) rowCC_len hr (by omega)
    rw [Nat.mul_one, Nat.add_zero] at this
    refine ⟨_, this.trans rfl, ?_⟩
    cases r with
    | nil => exact .inr ⟨rfl, rfl⟩
    | cons b r => exact .inl rfl
set_option maxHeartbeats 4000000 in
theorem x62 (H : List HO) (f : Cd) (l : List (Option (Int × Int))) (nc np : Nat) (hf : Sized f) (hf1 : f.parts ≠ []) (hw : waysOk f = true)
    (hnc : H[nc]? = some (.var 1 [sl ptC f.parts, .int .i64 f.values, .ref (.g np) 1 0 l.length, .nil] 0)) (hnp : H[np]? = some (.arr 1 2 (l.flatMap plC) 0)) (hpos : ∀ (i : Nat) (x : Int × Int), l[i]? = some (some x) → 0 ≤ x.1) (hls : l.length ≤ 1048576) :
    ∃ r, (∃ v H', r = (v, H') ∧ (∀ i, i < H.length → i ≠ nc → H'[i]? = H[i]?) ∧ (if usedOk f l = true then v = .inil else Refus H' v 3)) ∧ FF 62 [.ptr (.g nc) 1 0] H = some r := by
  have hSm := succs_small hf
  have hgl : (succs f).length ≤ 1048576 := hSm.1
  have hsne : succs f ≠ [] := by simpa [succs] using hf1
  have hncl := (List.getElem?_eq_some_iff.1 hnc).1
  obtain ⟨_, ⟨H1, rfl⟩, hsu⟩ := x66 f hf.parts
  have hld : ∀ L, ldA 2 ⟨L, H⟩ (.ptr (.g nc) 1 0) = some (.agg (codeC f)) := fun L => by rw [ldA_g]; simp only [hnc, rdA_var]; rfl
  refine Fw_funE rfl Try.func62 s62 (Nat.le_of_ble_eq_true rfl) (fun Q hqr hqn => ?_)
  rw [show ∀ a, cin (An.pure 62) a = a from fun _ => rfl]
  simp only [tinit, Nat.reduceAdd, c62]
  repeat' (first
  | (with_reducible (refine Tx_regK (fun K hK => ?_); (first | refine t62r0 ?_ | refine t62r1 ?_)); (try simp only [SS, nilX, hld]))
  | (revert hK; intro hK; (with_reducible refine hK _ ?_; clear hK K)))
  refine callC_O hsu rfl (by simp only [cans, can_agg, codeE.can]) rfl (by simp only [noGs, noG, codeE.noG, Bool.and_self]) rowCC_N rfl fun v1 m1 hO1 hH1 hf1' => ?_
  obtain ⟨m2, e1, e2, e3, _⟩ := hO1.seen.esc1 rowCC_len
  obtain ⟨_, ⟨_, H', up, rfl, ⟨nu, hnu, rfl, hup⟩, hul, hok, hout, hold⟩, hid⟩ := x91 (succs f) hSm (rowC rowCC (succs f)) (IsRows.rowC hsne) H
  have hok := hok hsne
  have hidc : callC An FF 62 (some 18) 91 [v1] m1 = some (.ref (.g nu) 1 0 (succs f).length, ⟨m2.L, H'⟩) := by
    rw [callC_IE (m1 := m2) rfl (escList_one e1) (by rw [e2, hH1]; exact hid)]; rfl
  have hnc' : H'[nc]? = some (.var 1 [sl ptC f.parts, .int .i64 f.values, .ref (.g np) 1 0 l.length, .nil] 0) := by rw [hold nc hncl, hnc]
  have hncl' := (List.getElem?_eq_some_iff.1 hnc').1
  obtain ⟨Hu, hHu⟩ : ∃ Hu, Hu = H'.set nc (.var 1 [sl ptC f.parts, .int .i64 f.values, .ref (.g np) 1 0 l.length, .ref (.g nu) 1 0 (succs f).length] 0) := ⟨_, rfl⟩
  have hst : ∀ L, stX 1 ⟨L, H'⟩ (.ptr (.g nc) 1 3) (.ref (.g nu) 1 0 (succs f).length) = some ⟨L, Hu⟩ := fun L => by
    rw [stX_g, hnc', show ccells (.ref (.g nu) 1 0 (succs f).length) = some [.ref (.g nu) 1 0 (succs f).length] from rfl, stW_var, if_pos ⟨rfl, by simp, Nat.zero_le _⟩, escP_list rfl, hHu]
    rfl
  have hnpc : np ≠ nc := fun e => by rw [e, hnc] at hnp; cases hnp
  have hnpl := (List.getElem?_eq_some_iff.1 hnp).1
  have hE0 : CEnv f l up nc np nu Hu := ⟨by rw [hHu, List.getElem?_set_self hncl', hul], by rw [hHu, List.getElem?_set_ne (Ne.symm hnpc), hold np hnpl, hnp], by rw [hHu, List.getElem?_set_ne (by omega), hup], hpos, hls⟩
  have hHul : Hu.length = H'.length := by rw [hHu, List.length_set]
  have hHle : H.length ≤ H'.length := by have := (List.getElem?_eq_some_iff.1 hup).1; omega
  have hkeep : ∀ (E : List HO) i, i < H.length → i ≠ nc → (Hu ++ E)[i]? = H[i]? := fun E i hi hn => by
    rw [List.getElem?_append_left (by omega), hHu, List.getElem?_set_ne (Ne.symm hn), hold i hi]
  have hgn : (((succs f).length : Nat) : Int) = f.parts.length := by rw [succs_len]
  simp only [hidc, hst, Obt_some]
  refine hK _ ?_
  clear hK K
  have hfp : ∀ (E : List HO) L, ld1 ⟨L, Hu ++ E⟩ (.ptr (.g nc) 1 0) = some (sl ptC f.parts) := fun E L => by rw [ld1_g]; simp only [(hE0.app E).ctx, rd1_var]; rfl
  have hfp0 : ∀ L, ld1 ⟨L, Hu⟩ (.ptr (.g nc) 1 0) = some (sl ptC f.parts) := fun L => by have := hfp [] L; rwa [List.append_nil] at this
  have hsetL : ∀ (L : List (Nat × HO)) (H : List HO) j o, setL ⟨L, H⟩ j o = ⟨lset L j o, H⟩ := fun _ _ _ _ => rfl
  have hpl := hf.parts
  repeat' (first
  | with_reducible (first | refine Tx_assoc ?_ | refine Tx_blockK (id := 0) (fun Q0 hn0 hx0 hr0 ho0 => ?_))
  | (with_reducible (refine Tx_regK (fun K hK => ?_); refine t62r2 ?_); (try simp only [SS, lenS, nilX, hfp0, clen_sl]))
  | (revert hK; intro hK; (with_reducible refine hK _ ?_; clear hK K)))
  refine Tx_loopK (fun k s => ∃ (d t : List Pt) (E : List HO) (L : List (Nat × HO)), f.parts = d ++ t ∧ k = t.length ∧ (∀ (i : Nat) (p : Pt), d[i]? = some p → partOk (succs f) l (i : Int) p = true) ∧
    s = ⟨[(0, .ptr (.g nc) 1 0), (25, sl ptC f.parts), (26, .int .i64 f.parts.length), (27, .int .i64 d.length)], ⟨L, Hu ++ E⟩⟩) _ ⟨[], f.parts, [], _, rfl, rfl, fun i p h => by simp at h, by rw [List.append_nil]; rfl⟩ ?_
  rintro k s ⟨d, t, E, L, h3, rfl, hd, rfl⟩ QL3 hnL3 hxL3 hrL3
  have hlen := congrArg List.length h3
  simp only [List.length_append] at hlen
  simp only [c62l3]
  cases t with
  | nil =>
    simp only [List.length_nil] at hlen
    rw [List.append_nil] at h3
    repeat' (first
    | with_reducible (first | refine Tx_noK rfl ?_ | refine Tx_exitK ?_ | refine Tx_ret ?_ | refine hx0 _ ?_ | refine hxL3 _ _ ?_)
    | (with_reducible (first | (refine Tx_regK (fun K hK => ?_); (first | refine t62r3 ?_ | refine t62r27 ?_)) | refine hqr _ ?_); (try simp only [SS, Nat.reduceEqDiff, r62, tend, tresAll, tresC, mapMem, retv_inil]))
    | (revert hK; intro hK; (first | refine And.intro ?_ ?_ | intro _ | omega | (with_reducible refine hK _ ?_; clear hK K))))
    refine ⟨_, _, ⟨rfl, rfl⟩, hkeep _, ?_⟩
    rw [if_pos]
    refine all_range_true fun i hi => ?_
    have : f.parts[i]? = some f.parts[i] := List.getElem?_eq_getElem hi
    rw [this]
    exact hd i _ (by rw [← h3, this])
  | cons p t =>
    simp only [List.length_cons] at hlen
    have hpi : f.parts[d.length]? = some p := by rw [h3]; simp
    have hpm : p ∈ f.parts := List.mem_of_getElem? hpi
    obtain ⟨hphl, hphs⟩ := hf.phis p hpm
    obtain ⟨hndl, hnds⟩ := hf.nodes p hpm
    have hprl := hf.pred p hpm
    have hdo : (d.length : Int) ∈ ord (succs f) := reach_of hw (by omega)
    have hwd : IntKind.i64.wrap ((d.length : Int) + 1) = d.length + 1 := wI (by omega) (by omega)
    obtain ⟨HE, hHE⟩ : ∃ HE, HE = Hu ++ (E ++ [.var 1 [.int .i64 d.length, .int .i64 3] 0]) := ⟨_, rfl⟩
    have hHE' : (Hu ++ E) ++ [HO.var 1 [.int .i64 d.length, .int .i64 3] 0] = HE := by rw [hHE, List.append_assoc]
    have hEE : CEnv f l up nc np nu HE := by rw [hHE]; exact hE0.app _
    have hno : HE[(Hu ++ E).length]? = some (.var 1 [.int .i64 d.length, .int .i64 3] 0) := by rw [← hHE']; simp
    have hkE : ∀ i, i < H.length → i ≠ nc → HE[i]? = H[i]? := by rw [hHE]; exact hkeep _
    have bad : partOk (succs f) l d.length p = false → (∀ i, i < H.length → i ≠ nc → HE[i]? = H[i]?) ∧ (if usedOk f l = true then CV.iface 152 (.ptr (.g (Hu ++ E).length) 1 0) = .inil else Refus HE (.iface 152 (.ptr (.g (Hu ++ E).length) 1 0)) 3) := fun hb => by
      refine ⟨hkE, ?_⟩
      have : usedOk f l = false := all_range_false (k := d.length) (by omega) (by rw [hpi]; exact hb)
      rw [this, if_neg (by decide)]
      exact ⟨_, _, rfl, hno⟩
    have hbox : ∀ L, boxG (.agg [.int .i64 d.length, .int .i64 3]) ⟨L, Hu ++ E⟩ = some (.ptr (.g (Hu ++ E).length) 1 0, ⟨L, HE⟩) := fun L => by rw [boxG_2, hHE']
    generalize (Hu ++ E).length = n5 at hno bad hbox
    repeat' (first
    | with_reducible (first | refine Tx_assoc ?_ | refine Tx_nopK ?_ | refine Tx_yesK rfl ?_ | refine Tx_blockK (id := 1) (fun Q1 hn1 hx1 hr1 ho1 => ?_) | refine Tx_blockK (id := 2) (fun Q2 hn2 hx2 hr2 ho2 => ?_))
    | (with_reducible (refine Tx_regK (fun K hK => ?_); (first | refine t62r3 ?_ | refine t62r4 ?_ | refine t62r5 ?_ | refine t62r6 ?_)); (try simp only [SS, Nat.reduceEqDiff, ccells, Nat.reduceAdd, lenS, fillX, splice, Nat.reduceLeDiff, idxS_split ptE.len (by omega) h3, ldA_r10, ptC, hsetL, fill_2, hbox, clen_sl]))
    | (revert hK; intro hK; (first | refine And.intro ?_ ?_ | intro _ | omega | (with_reducible refine hK _ ?_; clear hK K))))
    refine Tx_loopK (fun k s => ∃ (d1 t1 : List Ph) (g4 : Nat) (L : List (Nat × HO)), p.phis = d1 ++ t1 ∧ k = t1.length ∧ (∀ x ∈ d1, phiOk (succs f) l p x = true) ∧ lget L 64 = some (.var g4 (ptC p) 0) ∧
      s = ⟨[(0, .ptr (.g nc) 1 0), (3, .int .i64 d.length), (4, .ptr (.l 64) g4 0), (5, .ptr (.g n5) 1 0), (25, sl ptC f.parts), (26, .int .i64 f.parts.length), (27, .int .i64 d.length), (36, sl phC p.phis), (37, .int .i64 p.phis.length), (38, .int .i64 d1.length)], ⟨L, HE⟩⟩) _
      ⟨[], p.phis, _, _, rfl, rfl, by simp, by simp [lget_lset, ptC], rfl⟩ ?_
    rintro k s ⟨d1, t1, g4, L1, h4, rfl, hd1, hL1, rfl⟩ QL1 hnL1 hxL1 hrL1
    have hlen1 := congrArg List.length h4
    simp only [List.length_append] at hlen1
    simp only [c62l1]
    cases t1 with
    | nil =>
      simp only [List.length_nil] at hlen1
      rw [List.append_nil] at h4
      have hph : p.phis.all (phiOk (succs f) l p) = true := by rw [h4, List.all_eq_true]; exact hd1
      repeat' (first
      | with_reducible (first | refine Tx_assoc ?_ | refine Tx_noK rfl ?_ | refine Tx_exitK ?_ | refine hx2 _ ?_ | refine Tx_blockK (id := 6) (fun Q6 hn6 hx6 hr6 ho6 => ?_) | refine hxL1 _ _ ?_)
      | (with_reducible (refine Tx_regK (fun K hK => ?_); (first | refine t62r7 ?_ | refine t62r18 ?_)); (try simp only [SS, Nat.reduceEqDiff, lenS, hL1, ptC, clen_sl]))
      | (revert hK; intro hK; (first | refine And.intro ?_ ?_ | intro _ | omega | (with_reducible refine hK _ ?_; clear hK K))))
      refine Tx_loopK (fun k s => ∃ (d2 t2 : List Nd) (L : List (Nat × HO)), p.nodes = d2 ++ t2 ∧ k = t2.length ∧ (∀ i, i < d2.length → ndOk (succs f) l d.length p i = true) ∧ lget L 64 = some (.var g4 (ptC p) 0) ∧
        s = ⟨[(0, .ptr (.g nc) 1 0), (3, .int .i64 d.length), (4, .ptr (.l 64) g4 0), (5, .ptr (.g n5) 1 0), (25, sl ptC f.parts), (26, .int .i64 f.parts.length), (27, .int .i64 d.length), (75, sl ndC p.nodes), (76, .int .i64 p.nodes.length), (77, .int .i64 d2.length)], ⟨L, HE⟩⟩) _
        ⟨[], p.nodes, _, rfl, rfl, fun i h => by simp at h, hL1, rfl⟩ ?_
      rintro k s ⟨d2, t2, L2, h5, rfl, hd2, hL2, rfl⟩ QL2 hnL2 hxL2 hrL2
      have hlen2 := congrArg List.length h5
      simp only [List.length_append] at hlen2
      simp only [c62l2]
      cases t2 with
      | nil =>
        simp only [List.length_nil] at hlen2
        have hnd : (List.range p.nodes.length).all (ndOk (succs f) l d.length p) = true := all_range_true fun i hi => hd2 i (by omega)
        have hpk : partOk (succs f) l d.length p = (ends p.fin).all (aheadB (succs f) l d.length farEnd) := by rw [partOk_eq, hph, hnd]; simp
        repeat' (first
        | with_reducible (first | refine Tx_noK rfl ?_ | refine Tx_exitK ?_ | refine hx6 _ ?_ | refine hxL2 _ _ ?_)
        | (with_reducible (refine Tx_regK (fun K hK => ?_); (first | refine t62r19 ?_ | refine t62r24 ?_)); (try simp only [SS, Nat.reduceEqDiff, ccells, Nat.reduceAdd, fillX, splice, Nat.reduceLeDiff, hL2, ptC, fill_2]))
        | (revert hK; intro hK; (first | refine And.intro ?_ ?_ | intro _ | omega | (with_reducible refine hK _ ?_; clear hK K))))
        refine k93 p.fin rfl fun v3 m3 hv3 hH3 hf3 => ?_
        refine k92 f (succs f) l up nc np nu m3 (by rw [hH3]; exact hEE) hok hul hgl d.length 1073741824 hdo v3 _ (ends p.fin) hv3 (by have := ends_len p.fin; omega) fun m4 hH4 hf4 => ?_
        obtain ⟨L4, H4⟩ := m4
        simp only [hH3] at hH4
        subst hH4
        rw [show (1073741824 : Int) = farEnd from rfl, ← hpk]
        cases hpo : partOk (succs f) l d.length p with
        | false =>
          simp only [Obt_not, Bool.not_false]
          refine hK _ ?_
          clear hK K
          repeat' (first
          | with_reducible (first | refine Tx_yes rfl ?_ | refine Tx_ret ?_ | refine hr0 _ ?_ | refine hr1 _ ?_ | refine hrL3 _ ?_)
          | (with_reducible (first | (refine Tx_regK (fun K hK => ?_); refine t62r25 ?_) | refine hqr _ ?_); (try simp only [SS, Nat.reduceEqDiff, r62, tend, tresAll, tresC, mapMem, retv_igp]))
          | (revert hK; intro hK; (with_reducible refine hK _ ?_; clear hK K)))
          exact ⟨_, _, ⟨rfl, rfl⟩, bad hpo⟩
        | true =>
          simp only [Obt_not, Bool.not_true]
          refine hK _ ?_
          clear hK K
          repeat' (first
          | with_reducible (first | refine Tx_no rfl ?_ | refine Tx_nop ?_ | refine hn1 _ ?_)
          | (with_reducible (refine Tx_regE (fun K hK => ?_); refine t62r26 ?_); (try simp only [SS, Nat.reduceEqDiff, hwd]))
          | (revert hK; intro hK; (with_reducible refine hK _ ?_; clear hK K)))
          refine hnL3 t.length _ (by simp) ⟨d ++ [p], t, E ++ [.var 1 [.int .i64 d.length, .int .i64 3] 0], L4, by simp [h3], rfl, fun i q hq => ?_, by rw [hHE]; simp⟩
          by_cases hi : i < d.length
          · rw [List.getElem?_append_left hi] at hq
            exact hd i q hq
          · have : i = d.length := by have := (List.getElem?_eq_some_iff.1 hq).1; simp at this; omega
            subst this
            simp at hq
            subst hq
            exact hpo
      | cons x t2 =>
        simp only [List.length_cons] at hlen2
        have hxi : p.nodes[d2.length]? = some x := by rw [h5]; simp
        have hxa := (hnds x (List.mem_of_getElem? hxi)).1
        have hw2 : IntKind.i64.wrap ((d2.length : Int) + 1) = ((d2.length + 1 : Nat) : Int) := by rw [wI (by omega) (by omega)]; rfl
        have hul' : (uses x).length ≤ 17592186044416 := uses_len x hxa
        have hnk : ndOk (succs f) l d.length p d2.length = (uses x).all (aheadB (succs f) l d.length ((d2.length + 1 : Nat) : Int)) := by unfold ndOk; rw [hxi]
        repeat' (first
        | with_reducible (first | refine Tx_nopK ?_ | refine Tx_yesK rfl ?_ | refine Tx_blockK (id := 7) (fun Q7 hn7 hx7 hr7 ho7 => ?_))
        | (with_reducible (refine Tx_regK (fun K hK => ?_); (first | refine t62r19 ?_ | refine t62r20 ?_ | refine t62r21 ?_)); (try simp only [SS, Nat.reduceEqDiff, ccells, Nat.reduceAdd, fillX, splice, Nat.reduceLeDiff, idxS_split ndE.len (by omega) h5, ldA_r12, ndC, hsetL, hw2, fill_2]))
        | (revert hK; intro hK; (first | refine And.intro ?_ ?_ | intro _ | omega | (with_reducible refine hK _ ?_; clear hK K))))
        refine k79 x hxa rfl fun v3 m3 hv3 hH3 hf3 => ?_
        refine k92 f (succs f) l up nc np nu m3 (by rw [hH3]; exact hEE) hok hul hgl d.length ((d2.length + 1 : Nat) : Int) hdo v3 _ (uses x) hv3 hul' fun m4 hH4 hf4 => ?_
        have h64 : lget m4.L 64 = some (.var g4 (ptC p) 0) := by rw [hf4 64 (by decide), hf3 64 (by decide)]; simp [lget_lset, hL2]
        obtain ⟨L4, H4⟩ := m4
        simp only [hH3] at hH4
        subst hH4
        rw [← hnk]
        cases hpo : ndOk (succs f) l d.length p d2.length with
        | false =>
          simp only [Obt_not, Bool.not_false]
          refine hK _ ?_
          clear hK K
          repeat' (first
          | with_reducible (first | refine Tx_yes rfl ?_ | refine Tx_ret ?_ | refine hr0 _ ?_ | refine hr1 _ ?_ | refine hr6 _ ?_ | refine hr7 _ ?_ | refine hrL2 _ ?_ | refine hrL3 _ ?_)
          | (with_reducible (first | (refine Tx_regK (fun K hK => ?_); refine t62r22 ?_) | refine hqr _ ?_); (try simp only [SS, Nat.reduceEqDiff, r62, tend, tresAll, tresC, mapMem, retv_igp]))
          | (revert hK; intro hK; (with_reducible refine hK _ ?_; clear hK K)))
          refine ⟨_, _, ⟨rfl, rfl⟩, bad ?_⟩
          rw [partOk_eq, all_range_false (k := d2.length) (by omega) hpo]; simp
        | true =>
          simp only [Obt_not, Bool.not_true]
          refine hK _ ?_
          clear hK K
          repeat' (first
          | with_reducible (first | refine Tx_no rfl ?_ | refine Tx_nop ?_ | refine hn7 _ ?_)
          | (with_reducible (refine Tx_regE (fun K hK => ?_); refine t62r23 ?_); (try simp only [SS, Nat.reduceEqDiff, hw2]))
          | (revert hK; intro hK; (with_reducible refine hK _ ?_; clear hK K)))
          rw [show ((d2.length + 1 : Nat) : Int) = ((d2 ++ [x]).length : Int) by simp]
          refine hnL2 t2.length _ (by simp) ⟨d2 ++ [x], t2, L4, by simp [h5], rfl, fun i hi => ?_, h64, rfl⟩
          by_cases hi2 : i < d2.length
          · exact hd2 i hi2
          · have : i = d2.length := by simp at hi; omega
            subst this
            exact hpo
    | cons x t1 =>
      simp only [List.length_cons] at hlen1
      have hxm : x ∈ p.phis := by rw [h4]; simp
      have hxs := hphs x hxm
      have hw1 : IntKind.i64.wrap ((d1.length : Int) + 1) = d1.length + 1 := wI (by omega) (by omega)
      by_cases hsl : x.src.length = p.pred.length
      · have hsl' : ((x.src.length : Nat) : Int) = p.pred.length := by omega
        repeat' (first
        | with_reducible (first | refine Tx_assoc ?_ | refine Tx_nopK ?_ | refine Tx_yesK rfl ?_ | refine Tx_noK rfl ?_ | refine Tx_blockK (id := 3) (fun Q3 hn3 hx3 hr3 ho3 => ?_) | refine Tx_blockE (id := 4) (fun Q4 hn4 hx4 hr4 ho4 => ?_))
        | (with_reducible (refine Tx_regK (fun K hK => ?_); (first | refine t62r7 ?_ | refine t62r8 ?_ | refine t62r9 ?_ | refine t62r11 ?_)); (try simp only [SS, Nat.reduceEqDiff, ccells, Nat.reduceAdd, Obt_neq, lenS, splice, idxS_split phE.len (by omega) h4, ldA_r2, phC, hsetL, hL1, ptC, clen_sl, hsl']))
        | (revert hK; intro hK; (first | refine And.intro ?_ ?_ | intro _ | omega | (with_reducible refine hK _ ?_; clear hK K))))
        refine Tx_loopK (fun k s => ∃ (d5 t5 : List Int) (L : List (Nat × HO)), x.src = d5 ++ t5 ∧ k = t5.length ∧ (∀ i, i < d5.length → aheadB (succs f) l (p.pred.getD i 0) farEnd (x.src.getD i 0) = true) ∧ lget L 64 = some (.var g4 (ptC p) 0) ∧
          s = ⟨[(0, .ptr (.g nc) 1 0), (3, .int .i64 d.length), (4, .ptr (.l 64) g4 0), (5, .ptr (.g n5) 1 0), (25, sl ptC f.parts), (26, .int .i64 f.parts.length), (27, .int .i64 d.length), (36, sl phC p.phis), (37, .int .i64 p.phis.length), (38, .int .i64 d1.length), (52, sl intC x.src), (53, .int .i64 p.pred.length), (54, .int .i64 d5.length)], ⟨L, HE⟩⟩) _
          ⟨[], x.src, _, rfl, rfl, fun i h => by simp at h, by simp [lget_lset, hL1, ptC], rfl⟩ ?_
        rintro k s ⟨d5, t5, L5, h6, rfl, hd5, hL5, rfl⟩ QL0 hnL0 hxL0 hrL0
        have hlen5 := congrArg List.length h6
        simp only [List.length_append] at hlen5
        simp only [c62l0]
        cases t5 with
        | nil =>
          simp only [List.length_nil] at hlen5
          rw [List.append_nil] at h6
          repeat' (first
          | with_reducible (first | refine Tx_noK rfl ?_ | refine Tx_exitK ?_ | refine hn3 _ ?_ | refine hx4 _ ?_ | refine hxL0 _ _ ?_)
          | (with_reducible ((first | refine Tx_regK (fun K hK => ?_) | refine Tx_regE (fun K hK => ?_)); (first | refine t62r12 ?_ | refine t62r17 ?_)); (try simp only [SS, Nat.reduceEqDiff, hw1]))
          | (revert hK; intro hK; (first | refine And.intro ?_ ?_ | intro _ | omega | (with_reducible refine hK _ ?_; clear hK K))))
          rw [show ((d1.length : Int) + 1) = ((d1 ++ [x]).length : Int) by simp]
          refine hnL1 t1.length _ (by simp) ⟨d1 ++ [x], t1, g4, L5, by simp [h4], rfl, fun y hy => ?_, hL5, rfl⟩
          rcases List.mem_append.1 hy with hy | hy
          · exact hd1 y hy
          · simp only [List.mem_singleton] at hy
            subst hy
            unfold phiOk
            simp only [hsl, decide_true, Bool.true_and]
            exact all_range_true fun i hi => hd5 i (by omega)
        | cons y t5 =>
          simp only [List.length_cons] at hlen5
          have hw5 : IntKind.i64.wrap ((d5.length : Int) + 1) = d5.length + 1 := wI (by omega) (by omega)
          have hpp : p.pred[((d5.length : Nat) : Int).toNat]? = some (p.pred.getD d5.length 0) := by
            rw [Int.toNat_natCast, List.getD_eq_getElem?_getD, List.getElem?_eq_getElem (by omega)]; rfl
          have hpr : p.pred.getD d5.length 0 ∈ ord (succs f) := pred_reach hw hpi (List.mem_of_getElem? hpp)
          have hxy : x.src.getD d5.length 0 = y := by rw [h6]; simp
          repeat' (first
          | with_reducible (first | refine Tx_nopK ?_ | refine Tx_yesK rfl ?_ | refine Tx_blockK (id := 5) (fun Q5 hn5 hx5 hr5 ho5 => ?_))
          | (with_reducible (refine Tx_regK (fun K hK => ?_); (first | refine t62r12 ?_ | refine t62r13 ?_ | refine t62r14 ?_)); (try simp only [SS, Nat.reduceEqDiff, ccells, Nat.reduceAdd, ld1_r, fillX, splice, Nat.reduceLeDiff, bslX_int, idxS_split intC_len (by omega) h6, idxS_sl intC_len (by omega) (show (0 : Int) ≤ (d5.length : Int) by omega) hpp, hL5, ptC, fill_2, intC]))
          | (revert hK; intro hK; (first | refine And.intro ?_ ?_ | intro _ | omega | (with_reducible refine hK _ ?_; clear hK K))))
          have hv3 : EscI (setL ⟨L5, HE⟩ 1072 (HO.arr (gnext L5 1072) 1 [CV.int IntKind.i64 y] 0)) 1072 (.ref (.l 1072) (gnext L5 1072) 0 1) [y] := OwnV.escI (.inr ⟨by simp, _, 0, rfl, by rw [lget_setL, if_pos rfl]; rfl, Nat.zero_le _⟩)
          refine k92 f (succs f) l up nc np nu _ hEE hok hul hgl (p.pred.getD d5.length 0) 1073741824 hpr _ _ [y] hv3 (by simp) fun m4 hH4 hf4 => ?_
          have h64 : lget m4.L 64 = some (.var g4 (ptC p) 0) := by rw [hf4 64 (by decide), lget_setL, if_neg (by decide)]; exact hL5
          obtain ⟨L4, H4⟩ := m4
          simp only [setL_H] at hH4
          subst hH4
          have hone : ([y].all (aheadB (succs f) l (p.pred.getD d5.length 0) 1073741824)) = aheadB (succs f) l (p.pred.getD d5.length 0) farEnd (x.src.getD d5.length 0) := by rw [hxy]; simp [farEnd]
          rw [hone]
          cases hpo : aheadB (succs f) l (p.pred.getD d5.length 0) farEnd (x.src.getD d5.length 0) with
          | false =>
            simp only [Obt_not, Bool.not_false]
            refine hK _ ?_
            clear hK K
            repeat' (first
            | with_reducible (first | refine Tx_yes rfl ?_ | refine Tx_ret ?_ | refine hr0 _ ?_ | refine hr1 _ ?_ | refine hr2 _ ?_ | refine hr3 _ ?_ | refine hr4 _ ?_ | refine hr5 _ ?_ | refine hrL0 _ ?_ | refine hrL1 _ ?_ | refine hrL3 _ ?_)
            | (with_reducible (first | (refine Tx_regK (fun K hK => ?_); refine t62r15 ?_) | refine hqr _ ?_); (try simp only [SS, Nat.reduceEqDiff, r62, tend, tresAll, tresC, mapMem, retv_igp]))
            | (revert hK; intro hK; (with_reducible refine hK _ ?_; clear hK K)))
            have hpo2 : phiOk (succs f) l p x = false := by unfold phiOk; rw [all_range_false (k := d5.length) (by omega) hpo]; simp
            have hpa : p.phis.all (phiOk (succs f) l p) = false := by rw [List.all_eq_false]; exact ⟨x, hxm, by simp [hpo2]⟩
            exact ⟨_, _, ⟨rfl, rfl⟩, bad (by rw [partOk_eq, hpa]; simp)⟩
          | true =>
            simp only [Obt_not, Bool.not_true]
            refine hK _ ?_
            clear hK K
            repeat' (first
            | with_reducible (first | refine Tx_no rfl ?_ | refine Tx_nop ?_ | refine hn5 _ ?_)
            | (with_reducible (refine Tx_regE (fun K hK => ?_); refine t62r16 ?_); (try simp only [SS, Nat.reduceEqDiff, hw5]))
            | (revert hK; intro hK; (with_reducible refine hK _ ?_; clear hK K)))
            rw [show ((d5.length : Int) + 1) = ((d5 ++ [y]).length : Int) by simp]
            refine hnL0 t5.length _ (by simp) ⟨d5 ++ [y], t5, L4, by simp [h6], rfl, fun i hi => ?_, h64, rfl⟩
            by_cases hi2 : i < d5.length
            · exact hd5 i hi2
            · have : i = d5.length := by simp at hi; omega
              subst this
              exact hpo
      · have hsl' : ¬ ((x.src.length : Nat) : Int) = p.pred.length := by omega
        have hpo : phiOk (succs f) l p x = false := by unfold phiOk; simp [hsl]
        have hpa : p.phis.all (phiOk (succs f) l p) = false := by rw [List.all_eq_false]; exact ⟨x, hxm, by simp [hpo]⟩
        repeat' (first
        | with_reducible (first | refine Tx_assoc ?_ | refine Tx_nopK ?_ | refine Tx_yesK rfl ?_ | refine Tx_retK ?_ | refine hr0 _ ?_ | refine hr1 _ ?_ | refine hr2 _ ?_ | refine Tx_blockK (id := 3) (fun Q3 hn3 hx3 hr3 ho3 => ?_) | refine hr3 _ ?_ | refine hrL1 _ ?_ | refine hrL3 _ ?_)
        | (with_reducible (first | (refine Tx_regK (fun K hK => ?_); (first | refine t62r7 ?_ | refine t62r8 ?_ | refine t62r9 ?_ | refine t62r10 ?_)) | refine hqr _ ?_); (try simp only [SS, Nat.reduceEqDiff, ccells, Nat.reduceAdd, Obt_neq, lenS, splice, r62, tend, tresAll, tresC, mapMem, idxS_split phE.len (by omega) h4, ldA_r2, phC, hsetL, hL1, ptC, clen_sl, hsl', retv_igp]))
        | (revert hK; intro hK; (first | refine And.intro ?_ ?_ | intro _ | omega | (with_reducible refine hK _ ?_; clear hK K))))
        exact ⟨_, _, ⟨rfl, rfl⟩, bad (by rw [partOk_eq, hpa]; simp)⟩
end Go.Cm

namespace Go.Cm
open Go.Proofs Go.Ir Go.Gr
structure RInv (b n no : Nat) (H0 H : List HO) (cs : List CV) (f : Nat → List Int) : Prop where
  len : b ≤ H.length
  nol : no < b
  tab : H[no]? = some (.arr 1 1 cs 0)
  csl : cs.length = n
  row : ∀ x : Nat, x < n → (cs[x]? = some .nil ∧ f x = []) ∨ ∃ k gn, cs[x]? = some (.ref (.g k) gn 0 (f x).length) ∧ b ≤ k ∧ H[k]? = some (.arr gn 1 ((f x).flatMap intC) 0)
  apart : ∀ (x y k gn gn' l l' : Nat), cs[x]? = some (.ref (.g k) gn 0 l) → cs[y]? = some (.ref (.g k) gn' 0 l') → x = y
  old : ∀ i : Nat, i < b → i ≠ no → H[i]? = H0[i]?
section
variable {b n no : Nat} {H0 H : List HO} {cs : List CV} {f : Nat → List Int}
theorem RInv.get (h : RInv b n no H0 H cs f) {x : Nat} (hx : x < n) : ∃ v, cs[x]? = some v ∧ RefG H v (f x) := by
  rcases h.row x hx with ⟨h1, h2⟩ | ⟨k, gn, h1, _, h2⟩
  · exact ⟨_, h1, .inl ⟨h2, rfl⟩⟩
  · exact ⟨_, h1, .inr ⟨k, gn, 0, rfl, h2⟩⟩
theorem RInv.idx (h : RInv b n no H0 H cs f) {x : Int} (h0 : 0 ≤ x) (hx : x < n) : idxS 1 (.ref (.g no) 1 0 n) (.int .i64 x) = some (.ptr (.g no) 1 x.toNat) := by
  rw [idxS_ref, if_pos ⟨h0, by omega⟩]; simp
theorem RInv.ld (h : RInv b n no H0 H cs f) {x : Nat} {v : CV} (hv : cs[x]? = some v) {L : List (Nat × HO)} : ld1 ⟨L, H⟩ (.ptr (.g no) 1 x) = some v := by
  rw [ld1_g]; simp only [h.tab, rd1_arr, hv]
theorem RInv.step (h : RInv b n no H0 H cs f) {x : Nat} (hx : x < n) {v : CV} (hv : cs[x]? = some v) (a : Int) {gt j jt : Nat} {L : List (Nat × HO)} (ht : lget L jt = some (.arr gt 1 [.int .i64 a] 0)) (hl : (f x).length + 1 ≤ 4294967296) :
    ∃ w H2 H3 cs', appX true j 1 8 v (.ref (.l jt) gt 0 1) ⟨L, H⟩ = some (w, ⟨L, H2⟩) ∧ stX 1 ⟨L, H2⟩ (.ptr (.g no) 1 x) w = some ⟨L, H3⟩ ∧ RInv b n no H0 H3 cs' (fun z => if z = x then f x ++ [a] else f z) := by
  have hc : content ⟨L, H⟩ 1 (.ref (.l jt) gt 0 1) = some [.int .i64 a] := by rw [content_l, ht, conR_arr]; rfl
  have hbl := h.len
  have hnb := h.nol
  have hcx : x < cs.length := by rw [h.csl]; exact hx
  have hfresh : ∀ (z n gn k : Nat), cs[z]? = some (.ref (.g n) gn 0 k) → n < H.length := by
    intro z n gn k hz
    rcases Nat.lt_or_ge z cs.length with hz' | hz'
    · rcases h.row z (by rw [← h.csl]; exact hz') with ⟨h3, _⟩ | ⟨n', gn', h3, _, h4⟩
      · rw [h3] at hz; cases hz
      · rw [h3] at hz
        simp only [Option.some.injEq, CV.ref.injEq, Key.g.injEq] at hz
        rw [← hz.1]; exact (List.getElem?_eq_some_iff.1 h4).1
    · rw [List.getElem?_eq_none hz'] at hz; cases hz
  rcases h.row x hx with ⟨h1, h2⟩ | ⟨k, gn, h1, hbn, h2⟩
  · -- a new row
    rw [h1] at hv
    obtain rfl := (Option.some.inj hv)
    have htab : (H ++ [HO.arr 1 1 [.int .i64 a] 0])[no]? = some (.arr 1 1 cs 0) := by rw [List.getElem?_append_left (by omega)]; exact h.tab
    refine ⟨.ref (.g H.length) 1 0 1, H ++ [HO.arr 1 1 [.int .i64 a] 0], _, cs.set x (.ref (.g H.length) 1 0 1), ?_, stX_one (m := ⟨L, _⟩) htab hcx rfl rfl, ?_⟩
    · rw [appX_n, hc, clen_r, appN_some (by decide), if_pos (smallB_ok (by decide) (by decide))]
      rfl
    · refine ⟨by simp; omega, hnb, by simp only; rw [List.getElem?_set_self (by simp; omega)], by simp [h.csl], fun z hz => ?_, fun z w n gn gn' k k' hz hw => ?_, fun i hi hi2 => ?_⟩
      · by_cases hzx : z = x
        · subst hzx
          right
          refine ⟨H.length, 1, ?_, hbl, ?_⟩
          · rw [List.getElem?_set_self hcx]; simp [h2]
          · simp only
            rw [List.getElem?_set_ne (by omega), List.getElem?_append_right (by omega)]
            simp [h2, intC]
        · rw [List.getElem?_set_ne (Ne.symm hzx), if_neg hzx]
          rcases h.row z hz with h3 | ⟨n', gn', h3, h4, h5⟩
          · exact .inl h3
          · right
            have := (List.getElem?_eq_some_iff.1 h5).1
            exact ⟨n', gn', h3, h4, by simp only; rw [List.getElem?_set_ne (by omega), List.getElem?_append_left this, h5]⟩
      · rw [List.getElem?_set] at hz hw
        split at hz <;> split at hw
        · rename_i e1 e2; rw [← e1, ← e2]
        · simp only [Option.some.injEq, CV.ref.injEq, Key.g.injEq] at hz
          have := hfresh w n gn' k' hw
          omega
        · simp only [Option.some.injEq, CV.ref.injEq, Key.g.injEq] at hw
          have := hfresh z n gn k hz
          omega
        · exact h.apart z w n gn gn' k k' hz hw
      · simp only
        rw [List.getElem?_set_ne (by omega), List.getElem?_append_left (by omega)]; exact h.old i hi hi2
  · -- a row that is made longer
    rw [h1] at hv
    obtain rfl := (Option.some.inj hv)
    have hnl := (List.getElem?_eq_some_iff.1 h2).1
    have htab : (H.set k (.arr (gn + 1) 1 ((f x ++ [a]).flatMap intC) 0))[no]? = some (.arr 1 1 cs 0) := by rw [List.getElem?_set_ne (by omega)]; exact h.tab
    refine ⟨.ref (.g k) (gn + 1) 0 ((f x).length + 1), H.set k (.arr (gn + 1) 1 ((f x ++ [a]).flatMap intC) 0), _, cs.set x (.ref (.g k) (gn + 1) 0 ((f x).length + 1)), ?_, stX_one (m := ⟨L, _⟩) htab hcx rfl rfl, ?_⟩
    · have htk : ((f x).flatMap intC).take ((f x).length * 1) = (f x).flatMap intC := List.take_of_length_le (by rw [len_int]; omega)
      rw [appX_g, hc, clen_r]
      simp only [h2]
      rw [if_pos ⟨trivial, trivial, by omega, smallB_ok (by decide) hl⟩]
      simp only [setG, List.drop_zero, htk, Nat.zero_sub, List.flatMap_append, List.flatMap_cons, List.flatMap_nil, List.append_nil, intC]
    · refine ⟨by simp; omega, hnb, by simp only; rw [List.getElem?_set_self (by simp; omega)], by simp [h.csl], fun z hz => ?_, fun z w n' g1 g2 l l' hz hw => ?_, fun i hi hi2 => ?_⟩
      · by_cases hzx : z = x
        · subst hzx
          right
          refine ⟨k, gn + 1, ?_, hbn, ?_⟩
          · rw [List.getElem?_set_self hcx]; simp
          · simp only
            rw [List.getElem?_set_ne (by omega), List.getElem?_set_self hnl]
            simp
        · rw [List.getElem?_set_ne (Ne.symm hzx), if_neg hzx]
          rcases h.row z hz with h3 | ⟨n', gn', h3, h4, h5⟩
          · exact .inl h3
          · right
            have hne : k ≠ n' := fun e => hzx (h.apart z x n' gn' gn _ _ h3 (by rw [← e]; exact h1))
            exact ⟨n', gn', h3, h4, by simp only; rw [List.getElem?_set_ne (by omega), List.getElem?_set_ne hne, h5]⟩
      · rw [List.getElem?_set] at hz hw
        split at hz <;> split at hw
        · rename_i e1 e2; rw [← e1, ← e2]
        · rename_i e1 e2
          simp only [Option.some.injEq, CV.ref.injEq, Key.g.injEq] at hz
          rw [← hz.1] at hw
          rw [← e1]; exact h.apart x w k gn g2 _ _ h1 hw
        · rename_i e1 e2
          simp only [Option.some.injEq, CV.ref.injEq, Key.g.injEq] at hw
          rw [← hw.1] at hz
          rw [← e2]; exact (h.apart x z k gn g1 _ _ h1 hz).symm
        · exact h.apart z w n' g1 g2 l l' hz hw
      · simp only
        rw [List.getElem?_set_ne (by omega), List.getElem?_set_ne (by omega)]; exact h.old i hi hi2
end
theorem reps_nil : ∀ n x : Nat, x < n → (reps n [CV.nil])[x]? = some .nil := by
  intro n
  induction n with
  | zero => intro x hx; omega
  | succ n ih =>
    intro x hx
    cases x with
    | zero => rfl
    | succ x => exact ih x (by omega)
theorem OwnV.idx1 {m : Mem} {j : Nat} {v : CV} {l : List Int} (h : OwnV intC 1 m j v l) {a : Int} {i : Nat} (ha : l[i]? = some a) : ∃ pt, idxS 1 v (.int .i64 i) = some pt ∧ ld1 m pt = some (.int .i64 a) := by
  obtain ⟨g, vl, rfl, h2, _⟩ := h.at intC_len ha (k := .i64)
  have hi := (List.getElem?_eq_some_iff.1 ha).1
  refine ⟨.ptr (.l j) g i, by rw [idxS_ref, if_pos ⟨by omega, by omega⟩]; simp, ?_⟩
  rw [ld1_l, h2]
  simp only [rd1_arr]
  rw [flat_int, ha]; rfl
theorem predsOf_succ {s : List (List Int)} {b : Int} {n : Nat} : predsOf s b (n + 1) = predsOf s b n ++ ((s.getD n []).filter fun y => decide (y = b)).map fun _ => (n : Int) := by
  simp only [predsOf, List.range_succ, List.flatMap_append, List.flatMap_cons, List.flatMap_nil, List.append_nil]
theorem predsOf_len {s : List (List Int)} (hs : ∀ i : Nat, (s.getD i []).length ≤ 2) (b : Int) : ∀ n, (predsOf s b n).length ≤ 2 * n
  | 0 => by simp [predsOf]
  | n + 1 => by
    rw [predsOf_succ, List.length_append, List.length_map]
    have h1 := predsOf_len hs b n
    have h2 := List.length_filter_le (fun y => decide (y = b)) (s.getD n [])
    have h3 := hs n
    omega
end Go.Cm

namespace Go.Cm
open Go.Proofs Go.Ir Go.Gr
theorem endOk_bad {n : Nat} {e : Tm} (h : e.op < 1 ∨ 3 < e.op ∨ (e.op = 2 ∧ (condOk e.cond = false ∨ e.to = e.els))) : endOk n e = false := by
  unfold endOk
  rcases h with h | h | ⟨h, h2 | h2⟩
  · rw [decide_eq_false (by omega : ¬ 1 ≤ e.op)]; rfl
  · rw [decide_eq_false (by omega : ¬ e.op ≤ 3)]; simp
  · simp [h, h2]
  · simp [h, h2]
theorem endOk_out {n : Nat} {e : Tm} {y : Int} (h : y ∈ nexts e) (h2 : ¬ (0 ≤ y ∧ y < n)) : endOk n e = false := by
  rw [← Bool.not_eq_true]
  intro h3
  simp only [endOk, Bool.and_eq_true, List.all_eq_true, decide_eq_true_eq] at h3
  exact h2 (h3.2 y h)
theorem endOk_ok {n : Nat} {e : Tm} (h1 : ¬ e.op < 1) (h2 : ¬ 3 < e.op) (h3 : e.op = 2 → condOk e.cond = true ∧ ¬ e.to = e.els) (h4 : ∀ y ∈ nexts e, 0 ≤ y ∧ y < n) : endOk n e = true := by
  unfold endOk
  rw [decide_eq_true (by omega : 1 ≤ e.op), decide_eq_true (by omega : e.op ≤ 3), List.all_eq_true.2 (fun y hy => decide_eq_true (h4 y hy))]
  by_cases h : e.op = 2
  · simp [h, h3 h]
  · simp [h]
theorem ways_end {f : Cd} {p : Pt} (hp : p ∈ f.parts) (h : endOk f.parts.length p.fin = false) : waysOk f = false := by
  rw [← Bool.not_eq_true]
  intro h3
  simp only [waysOk, Bool.and_eq_true, List.all_eq_true] at h3
  rw [h3.1.1 p hp] at h; cases h
theorem ways_part {f : Cd} {i : Nat} {p : Pt} (hp : f.parts[i]? = some p) (h : ¬ ((i : Int) ∈ ord (succs f) ∧ predsOf (succs f) i f.parts.length = p.pred)) : waysOk f = false := by
  rw [← Bool.not_eq_true]
  intro h3
  refine h ⟨reach_of h3 (List.getElem?_eq_some_iff.1 hp).1, (pred_of h3 hp).symm⟩
theorem ways_first {f : Cd} {p : Pt} (hp : f.parts[0]? = some p) (h : p.pred ≠ []) : waysOk f = false := by
  rw [← Bool.not_eq_true]
  intro h3
  simp only [waysOk, Bool.and_eq_true, decide_eq_true_eq] at h3
  refine h ?_
  rw [← h3.2, List.getD_eq_getElem?_getD, List.getElem?_map, hp]; rfl
theorem ways_ok {f : Cd} (h1 : ∀ p ∈ f.parts, endOk f.parts.length p.fin = true) (h2 : ∀ (i : Nat) (p : Pt), f.parts[i]? = some p → ((i : Int) ∈ ord (succs f) ∧ predsOf (succs f) i f.parts.length = p.pred) ∧ (i = 0 → p.pred = [])) (hne : f.parts ≠ []) : waysOk f = true := by
  have h0 : 0 < f.parts.length := List.length_pos_iff.2 hne
  simp only [waysOk, Bool.and_eq_true, List.all_eq_true, decide_eq_true_eq, List.mem_range]
  refine ⟨⟨h1, fun i hi => ?_⟩, ?_⟩
  · have hp : f.parts[i]? = some f.parts[i] := List.getElem?_eq_getElem hi
    have := (h2 i _ hp).1
    refine ⟨this.1, this.2.trans ?_⟩
    rw [List.getD_eq_getElem?_getD, List.getElem?_map, hp]; rfl
  · have hp : f.parts[0]? = some f.parts[0] := List.getElem?_eq_getElem h0
    rw [List.getD_eq_getElem?_getD, List.getElem?_map, hp]
    exact (h2 0 _ hp).2 rfl
theorem succs_get {f : Cd} {i : Nat} {p : Pt} (hp : f.parts[i]? = some p) : (succs f).getD i [] = nexts p.fin := by
  rw [succs, List.getD_eq_getElem?_getD, List.getElem?_map, hp]; rfl
theorem succs_two (f : Cd) (i : Nat) : ((succs f).getD i []).length ≤ 2 := by
  rw [succs, List.getD_eq_getElem?_getD, List.getElem?_map]
  cases f.parts[i]? with
  | none => simp
  | some p => exact nexts_len p.fin
set_option maxHeartbeats 4000000 in
theorem x60 (H : List HO) (f : Cd) (nc : Nat) (hf : Sized f) (hf1 : f.parts ≠ []) (h8 : f.parts.length ≤ 8192) (hnc : H[nc]? = some (.var 1 [sl ptC f.parts, .int .i64 f.values, .nil, .nil] 0)) :
    ∃ r, (∃ v H', r = (v, H') ∧ (∀ i, i < H.length → H'[i]? = H[i]?) ∧ (if waysOk f = true then v = .inil else Refus H' v 1)) ∧ FF 60 [.ptr (.g nc) 1 0] H = some r := by
  have hSm := succs_small hf
  have hncl := (List.getElem?_eq_some_iff.1 hnc).1
  have hsne : succs f ≠ [] := by simpa [succs] using hf1
  obtain ⟨H1, hH1⟩ : ∃ H1, H1 = H ++ [HO.arr 1 1 (reps f.parts.length [.nil]) 0] := ⟨_, rfl⟩
  have hmk : ∀ L, mkX true 320 1 24 [.nil] (.int .i64 f.parts.length) (.int .i64 f.parts.length) ⟨L, H⟩ = some (.ref (.g H.length) 1 0 f.parts.length, ⟨L, H1⟩) := fun L => by
    have := mkX_g (j := 320) (sz := 1) (b := 24) (z := [.nil]) (k := .i64) (n := f.parts.length) (m := ⟨L, H⟩) rfl (by omega) (by omega)
    rw [this, hH1]
  have hR0 : RInv (H.length + 1) f.parts.length H.length H1 H1 (reps f.parts.length [.nil]) (fun (x : Nat) => predsOf (succs f) x 0) := by
    refine ⟨by rw [hH1]; simp, by omega, by rw [hH1]; simp, reps_len, fun x hx => .inl ⟨reps_nil _ _ hx, rfl⟩, fun x y k gn gn' l l' h => ?_, fun i _ _ => rfl⟩
    rcases Nat.lt_or_ge x f.parts.length with hx | hx
    · rw [reps_nil _ _ hx] at h; cases h
    · rw [List.getElem?_eq_none (by rw [reps_len]; exact hx)] at h; cases h
  have hold : ∀ {H2 cs g}, RInv (H.length + 1) f.parts.length H.length H1 H2 cs g → ∀ i, i < H.length → H2[i]? = H[i]? := fun {H2 cs g} h i hi => by
    rw [h.old i (by omega) (by omega), hH1, List.getElem?_append_left hi]
  have hfp : ∀ {H2 cs g}, RInv (H.length + 1) f.parts.length H.length H1 H2 cs g → ∀ L, ld1 ⟨L, H2⟩ (.ptr (.g nc) 1 0) = some (sl ptC f.parts) := fun {H2 cs g} h L => by
    rw [ld1_g, hold h nc hncl]; simp only [hnc, rd1_var]; rfl
  have hfp0 : ∀ L, ld1 ⟨L, H⟩ (.ptr (.g nc) 1 0) = some (sl ptC f.parts) := fun L => by rw [ld1_g]; simp only [hnc, rd1_var]; rfl
  have hfp1 := hfp hR0
  have bad : ∀ {H2 cs g}, RInv (H.length + 1) f.parts.length H.length H1 H2 cs g → ∀ i : Int, waysOk f = false → ∃ v H', (CV.iface 152 (.ptr (.g H2.length) 1 0) = v ∧ H2 ++ [HO.var 1 [.int .i64 i, .int .i64 1] 0] = H') ∧ (∀ i, i < H.length → H'[i]? = H[i]?) ∧ (if waysOk f = true then v = .inil else Refus H' v 1) := fun {H2 cs g} h i hw => by
    refine ⟨_, _, ⟨rfl, rfl⟩, fun j hj => ?_, ?_⟩
    · have := h.len
      rw [List.getElem?_append_left (by omega)]; exact hold h j hj
    · rw [hw, if_neg (by decide)]
      exact ⟨_, i, rfl, by simp⟩
  have hsetL : ∀ (L : List (Nat × HO)) (H : List HO) j o, setL ⟨L, H⟩ j o = ⟨lset L j o, H⟩ := fun _ _ _ _ => rfl
  have hpl := hf.parts
  refine Fw_funE rfl Try.func60 s60 (Nat.le_of_ble_eq_true rfl) (fun Q hqr hqn => ?_)
  rw [show ∀ a, cin (An.pure 60) a = a from fun _ => rfl]
  simp only [tinit, Nat.reduceAdd, c60]
  repeat' (first
  | with_reducible (first | refine Tx_assoc ?_ | refine Tx_blockK (id := 0) (fun Q0 hn0 hx0 hr0 ho0 => ?_))
  | (with_reducible (refine Tx_regK (fun K hK => ?_); (first | refine t60r0 ?_ | refine t60r1 ?_ | refine t60r2 ?_)); (try simp only [SS, Nat.reduceEqDiff, lenS, nilX, hfp0, hfp1, clen_sl, hmk]))
  | (revert hK; intro hK; (with_reducible refine hK _ ?_; clear hK K)))
  refine Tx_loopK (fun k s => ∃ (d t : List Pt) (L : List (Nat × HO)) (H2 : List HO) (cs : List CV), f.parts = d ++ t ∧ k = t.length ∧ (∀ p ∈ d, endOk f.parts.length p.fin = true) ∧ RInv (H.length + 1) f.parts.length H.length H1 H2 cs (fun (x : Nat) => predsOf (succs f) x d.length) ∧
    s = ⟨[(0, .ptr (.g nc) 1 0), (3, .ref (.g H.length) 1 0 f.parts.length), (25, sl ptC f.parts), (26, .int .i64 f.parts.length), (27, .int .i64 d.length)], ⟨L, H2⟩⟩) _ ⟨[], f.parts, _, _, _, rfl, rfl, by simp, hR0, rfl⟩ ?_
  rintro k s ⟨d, t, L, H2, cs, h3, rfl, hd, hR, rfl⟩ QL1 hnL1 hxL1 hrL1
  have hlen := congrArg List.length h3
  simp only [List.length_append] at hlen
  simp only [c60l1]
  cases t with
  | nil =>
    simp only [List.length_nil] at hlen
    rw [List.append_nil] at h3
    have hfpR := hfp hR
    have hldR : ∀ L, ldA 2 ⟨L, H2⟩ (.ptr (.g nc) 1 0) = some (.agg (codeC f)) := fun L => by rw [ldA_g, hold hR nc hncl]; simp only [hnc, rdA_var]; rfl
    obtain ⟨_, ⟨H5, rfl⟩, hsu⟩ := x66 f hf.parts
    obtain ⟨H6, hre⟩ := x84 (succs f) hSm (rowsC (succs f)) (IsRows.of _)
    rw [← h3] at hd
    have hRn : RInv (H.length + 1) f.parts.length H.length H1 H2 cs (fun (x : Nat) => predsOf (succs f) x f.parts.length) := by rw [← h3] at hR; exact hR
    repeat' (first
    | with_reducible (first | refine Tx_noK rfl ?_ | refine Tx_exitK ?_ | refine hx0 _ ?_ | refine hxL1 _ _ ?_)
    | (with_reducible (refine Tx_regK (fun K hK => ?_); (first | refine t60r3 ?_ | refine t60r17 ?_)); (try simp only [SS, Nat.reduceEqDiff, nilX, hldR]))
    | (revert hK; intro hK; (first | refine And.intro ?_ ?_ | intro _ | omega | (with_reducible refine hK _ ?_; clear hK K))))
    refine callC_O hsu rfl (by simp only [cans, can_agg, codeE.can]) rfl (by simp only [noGs, noG, codeE.noG, Bool.and_self]) rowCC_N rfl fun v1 m1 hO1 hm1 hf1' => ?_
    obtain ⟨m2, e1, e2, e3, _⟩ := hO1.seen.esc1 rowCC_len
    have hrl : (reachL (succs f)).length = f.parts.length := by simp [reachL, succs]
    have hpos : 0 < f.parts.length := List.length_pos_iff.2 hf1
    have hre' : FF 84 [rowsC (succs f)] [] = some (ownC boolC 1 (reachL (succs f)), H6) := by
      rw [hre, ownC, if_neg (by intro h; rw [h] at hrl; simp at hrl; omega)]; rfl
    refine callC_OE hre' rfl (escList_one e1) (by simp only [cans, can_rowsCC]) (by simp only [noGs, noG_rowC rowCC_N, Bool.and_self]) boolC_N rfl fun v2 m3 hO2 hm3 hf2 => ?_
    have hm3' : m3.H = H2 := by rcases hm3 with h | h <;> rw [h]; exact hm1; rw [e2]; exact hm1
    obtain ⟨gn, hv2, hl2⟩ : ∃ gn, v2 = .ref (.l 1664) gn 0 f.parts.length ∧ lget m3.L 1664 = some (.arr gn 1 ((reachL (succs f)).flatMap boolC) 0) := by
      rcases hO2 with ⟨h, _⟩ | ⟨_, g, h1, h2⟩
      · rw [h] at hrl; simp at hrl; omega
      · exact ⟨g, by rw [h1, hrl], h2⟩
    obtain ⟨L3, H3⟩ := m3
    simp only at hm3'
    subst hm3'
    subst hv2
    refine hK _ ?_
    clear hK K
    repeat' (first
    | with_reducible (first | refine Tx_assoc ?_ | refine Tx_blockK (id := 4) (fun Q4 hn4 hx4 hr4 ho4 => ?_))
    | (with_reducible (refine Tx_regK (fun K hK => ?_); refine t60r18 ?_); (try simp only [SS, Nat.reduceEqDiff, lenS, nilX, hfpR, clen_sl]))
    | (revert hK; intro hK; (with_reducible refine hK _ ?_; clear hK K)))
    refine Tx_loopK (fun k s => ∃ (d2 t2 : List Pt) (L : List (Nat × HO)), f.parts = d2 ++ t2 ∧ k = t2.length ∧ (∀ (i : Nat) (p : Pt), d2[i]? = some p → ((i : Int) ∈ ord (succs f) ∧ predsOf (succs f) i f.parts.length = p.pred) ∧ (i = 0 → p.pred = [])) ∧ lget L 1664 = some (.arr gn 1 ((reachL (succs f)).flatMap boolC) 0) ∧
      s = ⟨[(3, .ref (.g H.length) 1 0 f.parts.length), (11, .ref (.l 1664) gn 0 f.parts.length), (109, sl ptC f.parts), (110, .int .i64 f.parts.length), (111, .int .i64 d2.length)], ⟨L, H3⟩⟩) _ ⟨[], f.parts, _, rfl, rfl, fun i p h => by simp at h, hl2, rfl⟩ ?_
    rintro k s ⟨d2, t2, L, h4, rfl, hd2, hL, rfl⟩ QL2 hnL2 hxL2 hrL2
    have hlen2 := congrArg List.length h4
    simp only [List.length_append] at hlen2
    simp only [c60l2]
    cases t2 with
    | nil =>
      simp only [List.length_nil] at hlen2
      rw [List.append_nil] at h4
      repeat' (first
      | with_reducible (first | refine Tx_noK rfl ?_ | refine Tx_exitK ?_ | refine Tx_ret ?_ | refine hx4 _ ?_ | refine hxL2 _ _ ?_)
      | (with_reducible (first | (refine Tx_regK (fun K hK => ?_); (first | refine t60r19 ?_ | refine t60r24 ?_)) | refine hqr _ ?_); (try simp only [SS, Nat.reduceEqDiff, r60, tend, tresAll, tresC, mapMem, retv_inil]))
      | (revert hK; intro hK; (first | refine And.intro ?_ ?_ | intro _ | omega | (with_reducible refine hK _ ?_; clear hK K))))
      refine ⟨_, _, ⟨rfl, rfl⟩, hold hR, ?_⟩
      rw [← h4] at hd2
      rw [if_pos (ways_ok hd hd2 hf1)]
    | cons p t2 =>
      simp only [List.length_cons] at hlen2
      have hpi : f.parts[d2.length]? = some p := by rw [h4]; simp
      have hwd : IntKind.i64.wrap ((d2.length : Int) + 1) = d2.length + 1 := wI (by omega) (by omega)
      have hre1 : (reachL (succs f))[d2.length]? = some (decide ((d2.length : Int) ∈ ord (succs f))) := by
        rw [reachL, List.getElem?_map, List.getElem?_range (by rw [succs_len]; omega)]; rfl
      have hre2 : idxS 1 (.ref (.l 1664) gn 0 f.parts.length) (.int .i64 d2.length) = some (.ptr (.l 1664) gn d2.length) := by
        rw [idxS_ref, if_pos ⟨by omega, by omega⟩]; simp
      have hre3 : ((reachL (succs f)).flatMap boolC)[d2.length]? = some (.bool (decide ((d2.length : Int) ∈ ord (succs f)))) := by rw [flat_bool, hre1]; rfl
      obtain ⟨vr, hvr, hrg⟩ := hRn.get (x := d2.length) (by omega)
      have hxi := hRn.idx (x := (d2.length : Int)) (by omega) (by omega)
      rw [Int.toNat_natCast] at hxi
      have hxl := fun L => hRn.ld hvr (L := L)
      have hpbl := predsOf_len (succs_two f) (d2.length : Int) f.parts.length
      have hEq := x88 H3 vr (sl intC p.pred) _ p.pred (.inr hrg) (.inl rfl) (by omega)
      have hEqc : ∀ L, callC An FF 60 (some 128) 88 [vr, sl intC p.pred] ⟨L, H3⟩ = some (.bool (decide (predsOf (succs f) d2.length f.parts.length = p.pred)), ⟨L, H3⟩) := fun L => by
        rw [callC_I rfl (by simp only [List.all_cons, List.all_nil, RdI.esc (.inr hrg), escP_escQ escP_sl, Bool.and_self]) hEq]; rfl
      have hnext : (((d2.length : Int) ∈ ord (succs f)) ∧ predsOf (succs f) d2.length f.parts.length = p.pred) → (d2.length = 0 → p.pred = []) → ∀ L', lget L' 1664 = some (.arr gn 1 ((reachL (succs f)).flatMap boolC) 0) → QL2 .normal ⟨[(3, .ref (.g H.length) 1 0 f.parts.length), (11, .ref (.l 1664) gn 0 f.parts.length), (109, sl ptC f.parts), (110, .int .i64 f.parts.length), (111, .int .i64 (d2.length + 1))], ⟨L', H3⟩⟩ := fun h1 h2 L' hL' => by
        rw [show ((d2.length : Int) + 1) = ((d2 ++ [p]).length : Int) by simp]
        refine hnL2 t2.length _ (by simp) ⟨d2 ++ [p], t2, L', by simp [h4], rfl, fun i q hq => ?_, hL', rfl⟩
        by_cases hi : i < d2.length
        · rw [List.getElem?_append_left hi] at hq
          exact hd2 i q hq
        · have : i = d2.length := by have := (List.getElem?_eq_some_iff.1 hq).1; simp at this; omega
          subst this
          simp at hq
          subst hq
          exact ⟨h1, h2⟩
      by_cases hb1 : (d2.length : Int) ∈ ord (succs f)
      · rw [decide_eq_true hb1] at hre3
        by_cases hb2 : predsOf (succs f) d2.length f.parts.length = p.pred
        · rw [decide_eq_true hb2] at hEqc
          by_cases hb3 : d2.length = 0
          · have hb3' : decide (((d2.length : Nat) : Int) = 0) = true := decide_eq_true (by omega)
            cases hp : p.pred with
            | nil =>
              have hl0 : ¬ (0 : Int) < ((p.pred.length : Nat) : Int) := by rw [hp]; simp
              repeat' (first
              | with_reducible (first | refine Tx_nopK ?_ | refine Tx_yesK rfl ?_ | refine Tx_no rfl ?_ | refine Tx_nop ?_ | refine Tx_blockK (id := 5) (fun Q5 hn5 hx5 hr5 ho5 => ?_) | refine hn5 _ ?_)
              | (with_reducible ((first | refine Tx_regK (fun K hK => ?_) | refine Tx_regE (fun K hK => ?_)); (first | refine t60r19 ?_ | refine t60r20 ?_ | refine t60r21 ?_ | refine t60r23 ?_)); (try simp only [SS, Nat.reduceEqDiff, ccells, Nat.reduceAdd, rd1_arr, Obt_gtr, Bool.not_true, lenS, splice, idxS_split ptE.len (by omega) h4, ldA_r10, ptC, hsetL, hL, hre2, hre3, hxi, hxl, hEqc, hb3', hl0, clen_sl, hwd]))
              | (revert hK; intro hK; (first | refine And.intro ?_ ?_ | intro _ | omega | (with_reducible refine hK _ ?_; clear hK K))))
              exact hnext ⟨hb1, hb2⟩ (fun _ => hp) _ (by simp [lget_lset, hL])
            | cons z zs =>
              have hl0 : (0 : Int) < ((p.pred.length : Nat) : Int) := by rw [hp]; simp
              repeat' (first
              | with_reducible (first | refine Tx_nopK ?_ | refine Tx_yesK rfl ?_ | refine Tx_yes rfl ?_ | refine Tx_ret ?_ | refine hr4 _ ?_ | refine Tx_blockK (id := 5) (fun Q5 hn5 hx5 hr5 ho5 => ?_) | refine hr5 _ ?_ | refine hrL2 _ ?_)
              | (with_reducible (first | (refine Tx_regK (fun K hK => ?_); (first | refine t60r19 ?_ | refine t60r20 ?_ | refine t60r21 ?_ | refine t60r22 ?_)) | refine hqr _ ?_); (try simp only [SS, Nat.reduceEqDiff, ccells, Nat.reduceAdd, rd1_arr, Obt_gtr, Bool.not_true, lenS, fillX, splice, Nat.reduceLeDiff, r60, tend, tresAll, tresC, mapMem, idxS_split ptE.len (by omega) h4, ldA_r10, ptC, hsetL, hL, hre2, hre3, hxi, hxl, hEqc, hb3', hl0, clen_sl, fill_2, boxG_2, retv_igp]))
              | (revert hK; intro hK; (first | refine And.intro ?_ ?_ | intro _ | omega | (with_reducible refine hK _ ?_; clear hK K))))
              exact bad hR _ (ways_first (by rw [← hb3]; exact hpi) (by rw [hp]; simp))
          · have hb3' : ¬ ((d2.length : Nat) : Int) = 0 := by omega
            repeat' (first
            | with_reducible (first | refine Tx_nopK ?_ | refine Tx_yesK rfl ?_ | refine Tx_no rfl ?_ | refine Tx_nop ?_ | refine Tx_blockK (id := 5) (fun Q5 hn5 hx5 hr5 ho5 => ?_) | refine hn5 _ ?_)
            | (with_reducible ((first | refine Tx_regK (fun K hK => ?_) | refine Tx_regE (fun K hK => ?_)); (first | refine t60r19 ?_ | refine t60r20 ?_ | refine t60r21 ?_ | refine t60r23 ?_)); (try simp only [SS, Nat.reduceEqDiff, ccells, Nat.reduceAdd, rd1_arr, Obt_gtr, Bool.not_true, lenS, splice, idxS_split ptE.len (by omega) h4, ldA_r10, ptC, hsetL, hL, hre2, hre3, hxi, hxl, hEqc, hb3', hwd]))
            | (revert hK; intro hK; (first | refine And.intro ?_ ?_ | intro _ | omega | (with_reducible refine hK _ ?_; clear hK K))))
            exact hnext ⟨hb1, hb2⟩ (fun h => absurd h hb3) _ (by simp [lget_lset, hL])
        · rw [decide_eq_false hb2] at hEqc
          repeat' (first
          | with_reducible (first | refine Tx_nopK ?_ | refine Tx_yesK rfl ?_ | refine Tx_yes rfl ?_ | refine Tx_ret ?_ | refine hr4 _ ?_ | refine Tx_blockK (id := 5) (fun Q5 hn5 hx5 hr5 ho5 => ?_) | refine hr5 _ ?_ | refine hrL2 _ ?_)
          | (with_reducible (first | (refine Tx_regK (fun K hK => ?_); (first | refine t60r19 ?_ | refine t60r20 ?_ | refine t60r21 ?_ | refine t60r22 ?_)) | refine hqr _ ?_); (try simp only [SS, Nat.reduceEqDiff, ccells, Nat.reduceAdd, rd1_arr, gdO_skip, Bool.not_true, Bool.not_false, lenS, fillX, splice, Nat.reduceLeDiff, r60, tend, tresAll, tresC, mapMem, idxS_split ptE.len (by omega) h4, ldA_r10, ptC, hsetL, hL, hre2, hre3, hxi, hxl, hEqc, fill_2, boxG_2, retv_igp]))
          | (revert hK; intro hK; (first | refine And.intro ?_ ?_ | intro _ | omega | (with_reducible refine hK _ ?_; clear hK K))))
          exact bad hR _ (ways_part hpi fun h => hb2 h.2)
      · rw [decide_eq_false hb1] at hre3
        repeat' (first
        | with_reducible (first | refine Tx_nopK ?_ | refine Tx_yesK rfl ?_ | refine Tx_yes rfl ?_ | refine Tx_ret ?_ | refine hr4 _ ?_ | refine Tx_blockK (id := 5) (fun Q5 hn5 hx5 hr5 ho5 => ?_) | refine hr5 _ ?_ | refine hrL2 _ ?_)
        | (with_reducible (first | (refine Tx_regK (fun K hK => ?_); (first | refine t60r19 ?_ | refine t60r20 ?_ | refine t60r21 ?_ | refine t60r22 ?_)) | refine hqr _ ?_); (try simp only [SS, Nat.reduceEqDiff, ccells, Nat.reduceAdd, rd1_arr, gdO_skip, Bool.not_false, lenS, fillX, splice, Nat.reduceLeDiff, r60, tend, tresAll, tresC, mapMem, idxS_split ptE.len (by omega) h4, ldA_r10, ptC, hsetL, hL, hre2, hre3, fill_2, boxG_2, retv_igp]))
        | (revert hK; intro hK; (first | refine And.intro ?_ ?_ | intro _ | omega | (with_reducible refine hK _ ?_; clear hK K))))
        exact bad hR _ (ways_part hpi fun h => hb1 h.1)
  | cons p t =>
    simp only [List.length_cons] at hlen
    have hpi : f.parts[d.length]? = some p := by rw [h3]; simp
    have hpm : p ∈ f.parts := List.mem_of_getElem? hpi
    have hwd : IntKind.i64.wrap ((d.length : Int) + 1) = d.length + 1 := wI (by omega) (by omega)
    have hsg := succs_get hpi
    obtain ⟨_, ⟨xb, H7, rfl⟩, hC⟩ := x86 p.fin.cond
    have hC : ∀ m, callC An FF 60 (some 37) 86 [.int .i64 p.fin.cond, .int .u64 0, .int .u64 0, .bool true] m = some (.tuple [.bool xb, .bool (condOk p.fin.cond)], m) := fun m =>
      callC_V hC (fun _ _ _ => rfl) rfl rfl rfl rfl rfl
    have hb := fun (h : p.fin.op < 1 ∨ 3 < p.fin.op ∨ (p.fin.op = 2 ∧ (condOk p.fin.cond = false ∨ p.fin.to = p.fin.els))) => bad hR d.length (ways_end hpm (endOk_bad h))
    have hgo : p.fin.op < 1 ∨ 3 < p.fin.op ∨ (p.fin.op = 2 ∧ (condOk p.fin.cond = false ∨ p.fin.to = p.fin.els)) ∨ (¬ p.fin.op < 1 ∧ ¬ 3 < p.fin.op ∧ (p.fin.op = 2 → condOk p.fin.cond = true ∧ ¬ p.fin.to = p.fin.els)) := by
      by_cases h1 : p.fin.op < 1
      · exact .inl h1
      · by_cases h2 : 3 < p.fin.op
        · exact .inr (.inl h2)
        · by_cases h3 : p.fin.op = 2 → condOk p.fin.cond = true ∧ ¬ p.fin.to = p.fin.els
          · exact .inr (.inr (.inr ⟨h1, h2, h3⟩))
          · right; right; left
            cases hcb : condOk p.fin.cond
            · by_cases h4 : p.fin.op = 2
              · exact ⟨h4, .inl rfl⟩
              · exact absurd (fun h => absurd h h4) h3
            · rw [hcb] at h3
              by_cases h4 : p.fin.op = 2
              · by_cases h5 : p.fin.to = p.fin.els
                · exact ⟨h4, .inr h5⟩
                · exact absurd (fun _ => ⟨rfl, h5⟩) h3
              · exact absurd (fun h => absurd h h4) h3
    rcases hgo with h1 | h1 | ⟨h1, h2⟩ | ⟨h1, h2, h2'⟩
    · have hb := hb (.inl h1)
      repeat' (first
      | with_reducible (first | refine Tx_assoc ?_ | refine Tx_nopK ?_ | refine Tx_yesK rfl ?_ | refine Tx_retK ?_ | refine hr0 _ ?_ | refine Tx_blockK (id := 1) (fun Q1 hn1 hx1 hr1 ho1 => ?_) | refine hr1 _ ?_ | refine hrL1 _ ?_)
      | (with_reducible (first | (refine Tx_regK (fun K hK => ?_); (first | refine t60r3 ?_ | refine t60r4 ?_ | refine t60r5 ?_ | refine t60r6 ?_ | refine t60r7 ?_ | refine t60r8 ?_)) | refine hqr _ ?_); (try simp only [SS, Nat.reduceEqDiff, ccells, gn_var, gnext_lset, Nat.reduceAdd, Obt_gtr, gdO_skip, Obt_pickS, Obt_gdF, fillX, splice, Nat.reduceLeDiff, r60, tend, tresAll, tresC, mapMem, idxS_split ptE.len (by omega) h3, ldA_r10, ptC, hsetL, extX, hC, h1, fill_2, boxG_2, retv_igp]))
      | (revert hK; intro hK; (first | refine And.intro ?_ ?_ | intro _ | omega | (with_reducible refine hK _ ?_; clear hK K))))
      exact hb
    · have hb := hb (.inr (.inl h1))
      have h0 : ¬ p.fin.op < 1 := by omega
      repeat' (first
      | with_reducible (first | refine Tx_assoc ?_ | refine Tx_nopK ?_ | refine Tx_yesK rfl ?_ | refine Tx_retK ?_ | refine hr0 _ ?_ | refine Tx_blockK (id := 1) (fun Q1 hn1 hx1 hr1 ho1 => ?_) | refine hr1 _ ?_ | refine hrL1 _ ?_)
      | (with_reducible (first | (refine Tx_regK (fun K hK => ?_); (first | refine t60r3 ?_ | refine t60r4 ?_ | refine t60r5 ?_ | refine t60r6 ?_ | refine t60r7 ?_ | refine t60r8 ?_)) | refine hqr _ ?_); (try simp only [SS, Nat.reduceEqDiff, ccells, gn_var, gnext_lset, Nat.reduceAdd, Obt_gtr, gdO_skip, Obt_pickS, Obt_gdF, fillX, splice, Nat.reduceLeDiff, r60, tend, tresAll, tresC, mapMem, idxS_split ptE.len (by omega) h3, ldA_r10, ptC, hsetL, extX, hC, h0, h1, fill_2, boxG_2, retv_igp]))
      | (revert hK; intro hK; (first | refine And.intro ?_ ?_ | intro _ | omega | (with_reducible refine hK _ ?_; clear hK K))))
      exact hb
    · have hb := hb (.inr (.inr ⟨h1, h2⟩))
      cases hcb : condOk p.fin.cond with
      | false =>
        rw [hcb] at hC
        repeat' (first
        | with_reducible (first | refine Tx_assoc ?_ | refine Tx_nopK ?_ | refine Tx_yesK rfl ?_ | refine Tx_retK ?_ | refine hr0 _ ?_ | refine Tx_blockK (id := 1) (fun Q1 hn1 hx1 hr1 ho1 => ?_) | refine hr1 _ ?_ | refine hrL1 _ ?_)
        | (with_reducible (first | (refine Tx_regK (fun K hK => ?_); (first | refine t60r3 ?_ | refine t60r4 ?_ | refine t60r5 ?_ | refine t60r6 ?_ | refine t60r7 ?_ | refine t60r8 ?_)) | refine hqr _ ?_); (try simp only [SS, Nat.reduceEqDiff, ccells, gn_var, gnext_lset, Nat.reduceAdd, Obt_gtr, gdO_skip, Bool.not_false, fillX, splice, Nat.reduceLeDiff, r60, tend, tresAll, tresC, mapMem, idxS_split ptE.len (by omega) h3, ldA_r10, ptC, hsetL, extX, hC, h1, fill_2, boxG_2, retv_igp]))
        | (revert hK; intro hK; (first | refine And.intro ?_ ?_ | intro _ | omega | (with_reducible refine hK _ ?_; clear hK K))))
        exact hb
      | true =>
        rw [hcb] at hC h2
        have h2 : p.fin.to = p.fin.els := by rcases h2 with h | h; cases h; exact h
        repeat' (first
        | with_reducible (first | refine Tx_assoc ?_ | refine Tx_nopK ?_ | refine Tx_yesK rfl ?_ | refine Tx_retK ?_ | refine hr0 _ ?_ | refine Tx_blockK (id := 1) (fun Q1 hn1 hx1 hr1 ho1 => ?_) | refine hr1 _ ?_ | refine hrL1 _ ?_)
        | (with_reducible (first | (refine Tx_regK (fun K hK => ?_); (first | refine t60r3 ?_ | refine t60r4 ?_ | refine t60r5 ?_ | refine t60r6 ?_ | refine t60r7 ?_ | refine t60r8 ?_)) | refine hqr _ ?_); (try simp only [SS, Nat.reduceEqDiff, ccells, gn_var, gnext_lset, Nat.reduceAdd, Obt_gtr, gdO_skip, Bool.not_true, fillX, splice, Nat.reduceLeDiff, r60, tend, tresAll, tresC, mapMem, idxS_split ptE.len (by omega) h3, ldA_r10, ptC, hsetL, extX, hC, h1, h2, fill_2, boxG_2, retv_igp]))
        | (revert hK; intro hK; (first | refine And.intro ?_ ?_ | intro _ | omega | (with_reducible refine hK _ ?_; clear hK K))))
        exact hb
    · have hnx := nexts_len p.fin
      have h456 : ((p.fin.op = 2) = True ∧ condOk p.fin.cond = true ∧ ¬ p.fin.to = p.fin.els) ∨ (¬ p.fin.op = 2 ∧ ¬ p.fin.op = 2 ∧ ¬ p.fin.op = 2) := by
        by_cases h4 : p.fin.op = 2
        · exact .inl ⟨eq_true h4, h2' h4⟩
        · exact .inr ⟨h4, h4, h4⟩
      rcases h456 with ⟨h4, h5, h6⟩ | ⟨h4, h5, h6⟩
      all_goals
        repeat' (first
        | with_reducible (first | refine Tx_assoc ?_ | refine Tx_nopK ?_ | refine Tx_yesK rfl ?_ | refine Tx_noK rfl ?_ | refine Tx_blockK (id := 1) (fun Q1 hn1 hx1 hr1 ho1 => ?_))
        | (with_reducible (refine Tx_regK (fun K hK => ?_); (first | refine t60r3 ?_ | refine t60r4 ?_ | refine t60r5 ?_ | refine t60r6 ?_ | refine t60r7 ?_ | refine t60r9 ?_)); (try simp only [SS, Nat.reduceEqDiff, ccells, gn_var, gnext_lset, Nat.reduceAdd, Obt_gtr, gdO_skip, Obt_pickS, Obt_gdF, Bool.not_true, lenS, splice, idxS_split ptE.len (by omega) h3, ldA_r10, ptC, hsetL, extX, hC, h1, h2, h4, h5, h6]))
        | (revert hK; intro hK; (first | refine And.intro ?_ ?_ | intro _ | omega | (with_reducible refine hK _ ?_; clear hK K))))
        refine k87 p.fin rfl fun v1 m1 hO1 hm1 hf1' => ?_
        obtain ⟨L1, H5⟩ := m1
        simp only at hm1
        subst hm1
        simp only [hO1.seen.len, Obt_some]
        refine hK _ ?_
        clear hK K
        repeat' (first
        | with_reducible refine Tx_blockE (id := 2) (fun Q2 hn2 hx2 hr2 ho2 => ?_))
        refine Tx_loopK (fun k s => ∃ (d2 t2 : List Int) (L : List (Nat × HO)) (H5 : List HO) (cs5 : List CV), nexts p.fin = d2 ++ t2 ∧ k = t2.length ∧ (∀ y ∈ d2, 0 ≤ y ∧ y < (f.parts.length : Int)) ∧ OwnV intC 1 ⟨L, H5⟩ 1104 v1 (nexts p.fin) ∧
          RInv (H.length + 1) f.parts.length H.length H1 H5 cs5 (fun (x : Nat) => predsOf (succs f) x d.length ++ (d2.filter fun y => decide (y = (x : Int))).map fun _ => (d.length : Int)) ∧
          s = ⟨[(0, .ptr (.g nc) 1 0), (3, .ref (.g H.length) 1 0 f.parts.length), (4, .int .i64 d.length), (25, sl ptC f.parts), (26, .int .i64 f.parts.length), (27, .int .i64 d.length), (69, v1), (70, .int .i64 (nexts p.fin).length), (71, .int .i64 d2.length)], ⟨L, H5⟩⟩) _ ⟨[], nexts p.fin, _, _, cs, rfl, rfl, by simp, hO1.seen, by simpa using hR, rfl⟩ ?_
        rintro k s ⟨d2, t2, L2, H5, cs5, h7, rfl, hd2, hO2, hR2, rfl⟩ QL0 hnL0 hxL0 hrL0
        have hlen2 := congrArg List.length h7
        simp only [List.length_append] at hlen2
        simp only [c60l0]
        cases t2 with
        | nil =>
          simp only [List.length_nil] at hlen2
          rw [List.append_nil] at h7
          repeat' (first
          | with_reducible (first | refine Tx_noK rfl ?_ | refine Tx_exitK ?_ | refine hn1 _ ?_ | refine hx2 _ ?_ | refine hxL0 _ _ ?_)
          | (with_reducible ((first | refine Tx_regK (fun K hK => ?_) | refine Tx_regE (fun K hK => ?_)); (first | refine t60r10 ?_ | refine t60r16 ?_)); (try simp only [SS, Nat.reduceEqDiff, hwd]))
          | (revert hK; intro hK; (first | refine And.intro ?_ ?_ | intro _ | omega | (with_reducible refine hK _ ?_; clear hK K))))
          rw [show ((d.length : Int) + 1) = ((d ++ [p]).length : Int) by simp]
          refine hnL1 t.length _ (by simp) ⟨d ++ [p], t, L2, H5, cs5, by simp [h3], rfl, fun q hq => ?_, ?_, rfl⟩
          · rcases List.mem_append.1 hq with hq | hq
            · exact hd q hq
            · simp only [List.mem_singleton] at hq
              subst hq
              exact endOk_ok h1 h2 h2' (by rw [h7]; exact hd2)
          · rw [List.length_append, List.length_singleton]
            have : (fun (x : Nat) => predsOf (succs f) x (d.length + 1)) = fun (x : Nat) => predsOf (succs f) x d.length ++ (d2.filter fun y => decide (y = (x : Int))).map fun _ => (d.length : Int) := by
              funext x
              rw [predsOf_succ, hsg, h7]
            rw [this]; exact hR2
        | cons y t2 =>
          simp only [List.length_cons] at hlen2
          have hyi : (nexts p.fin)[d2.length]? = some y := by rw [h7]; simp
          have hym : y ∈ nexts p.fin := List.mem_of_getElem? hyi
          have hw2 : IntKind.i64.wrap ((d2.length : Int) + 1) = d2.length + 1 := wI (by omega) (by omega)
          obtain ⟨pt, hp1, hp2⟩ := hO2.idx1 hyi
          by_cases h8 : y < 0
          · have hb := bad hR2 d.length (ways_end hpm (endOk_out hym (by omega)))
            repeat' (first
            | with_reducible (first | refine Tx_assoc ?_ | refine Tx_nopK ?_ | refine Tx_yesK rfl ?_ | refine Tx_retK ?_ | refine hr0 _ ?_ | refine hr1 _ ?_ | refine hr2 _ ?_ | refine Tx_blockK (id := 3) (fun Q3 hn3 hx3 hr3 ho3 => ?_) | refine hr3 _ ?_ | refine hrL0 _ ?_ | refine hrL1 _ ?_)
            | (with_reducible (first | (refine Tx_regK (fun K hK => ?_); (first | refine t60r10 ?_ | refine t60r11 ?_ | refine t60r12 ?_ | refine t60r13 ?_)) | refine hqr _ ?_); (try simp only [SS, Nat.reduceEqDiff, ccells, Nat.reduceAdd, lenS, fillX, splice, Nat.reduceLeDiff, r60, tend, tresAll, tresC, mapMem, hp1, hp2, h8, fill_2, boxG_2, retv_igp]))
            | (revert hK; intro hK; (first | refine And.intro ?_ ?_ | intro _ | omega | (with_reducible refine hK _ ?_; clear hK K))))
            exact hb
          · by_cases h9 : y < (f.parts.length : Int)
            · have h9' : ¬ ((f.parts.length : Nat) : Int) ≤ y := by omega
              obtain ⟨vr, hvr, hrg⟩ := hR2.get (x := y.toNat) (by omega)
              have hxi := hR2.idx (x := y) (by omega) (by omega)
              have hxl := fun L => hR2.ld hvr (L := L)
              have hpbl := predsOf_len (succs_two f) ((y.toNat : Nat) : Int) d.length
              have hfl := List.length_filter_le (fun z => decide (z = ((y.toNat : Nat) : Int))) d2
              repeat' (first
              | with_reducible (first | refine Tx_assoc ?_ | refine Tx_nopK ?_ | refine Tx_yesK rfl ?_ | refine Tx_noK rfl ?_ | refine Tx_blockK (id := 3) (fun Q3 hn3 hx3 hr3 ho3 => ?_))
              | (with_reducible ((first | refine Tx_regK (fun K hK => ?_) | refine Tx_regE (fun K hK => ?_)); (first | refine t60r10 ?_ | refine t60r11 ?_ | refine t60r12 ?_ | refine t60r14 ?_)); (try simp only [SS, Nat.reduceEqDiff, lenS, bslX_int, hp1, hp2, h8, h9, h9', hxi, hxl, hsetL]))
              | (revert hK; intro hK; (first | refine And.intro ?_ ?_ | intro _ | omega | (with_reducible refine hK _ ?_; clear hK K))))
              obtain ⟨w, H6, H7, cs', e1, e2, hR3⟩ := hR2.step (x := y.toNat) (by omega) hvr (d.length : Int) (gt := gnext L2 1504) (j := 1520) (jt := 1504) (L := lset L2 1504 (HO.arr (gnext L2 1504) 1 [CV.int IntKind.i64 ↑d.length] 0)) (by rw [lget_lset, if_pos rfl]) (by simp only [List.length_append, List.length_map]; omega)
              rw [e1, Obt_some]
              simp only [e2, Obt_some]
              refine hK _ ?_
              clear hK K
              repeat' (first
              | with_reducible refine hn3 _ ?_
              | (with_reducible (refine Tx_regE (fun K hK => ?_); refine t60r15 ?_); (try simp only [SS, Nat.reduceEqDiff, hw2]))
              | (revert hK; intro hK; (with_reducible refine hK _ ?_; clear hK K)))
              rw [show ((d2.length : Int) + 1) = ((d2 ++ [y]).length : Int) by simp]
              refine hnL0 t2.length _ (by simp) ⟨d2 ++ [y], t2, _, H7, cs', by simp [h7], rfl, fun z hz => ?_, hO2.keep ?_, ?_, rfl⟩
              · rcases List.mem_append.1 hz with hz | hz
                · exact hd2 z hz
                · simp only [List.mem_singleton] at hz
                  subst hz
                  exact ⟨by omega, h9⟩
              · rw [lget_lset, if_neg (by decide)]
              · have : (fun (x : Nat) => predsOf (succs f) x d.length ++ ((d2 ++ [y]).filter fun z => decide (z = (x : Int))).map fun _ => (d.length : Int)) =
                    fun x => if x = y.toNat then (predsOf (succs f) (y.toNat : Nat) d.length ++ (d2.filter fun z => decide (z = ((y.toNat : Nat) : Int))).map fun _ => (d.length : Int)) ++ [(d.length : Int)] else predsOf (succs f) x d.length ++ (d2.filter fun z => decide (z = (x : Int))).map fun _ => (d.length : Int) := by
                  funext x
                  have hy : ((y.toNat : Nat) : Int) = y := by omega
                  split
                  · rename_i hx
                    subst hx
                    rw [List.filter_append, List.map_append, ← List.append_assoc]
                    simp [hy]
                  · rename_i hx
                    rw [List.filter_append, List.map_append]
                    have : ¬ y = (x : Int) := by omega
                    simp [this]
                rw [this]; exact hR3
            · have hb := bad hR2 d.length (ways_end hpm (endOk_out hym (by omega)))
              have h9' : ((f.parts.length : Nat) : Int) ≤ y := by omega
              repeat' (first
              | with_reducible (first | refine Tx_assoc ?_ | refine Tx_nopK ?_ | refine Tx_yesK rfl ?_ | refine Tx_retK ?_ | refine hr0 _ ?_ | refine hr1 _ ?_ | refine hr2 _ ?_ | refine Tx_blockK (id := 3) (fun Q3 hn3 hx3 hr3 ho3 => ?_) | refine hr3 _ ?_ | refine hrL0 _ ?_ | refine hrL1 _ ?_)
              | (with_reducible (first | (refine Tx_regK (fun K hK => ?_); (first | refine t60r10 ?_ | refine t60r11 ?_ | refine t60r12 ?_ | refine t60r13 ?_)) | refine hqr _ ?_); (try simp only [SS, Nat.reduceEqDiff, ccells, Nat.reduceAdd, lenS, fillX, splice, Nat.reduceLeDiff, r60, tend, tresAll, tresC, mapMem, hp1, hp2, h8, h9, h9', fill_2, boxG_2, retv_igp]))
              | (revert hK; intro hK; (first | refine And.intro ?_ ?_ | intro _ | omega | (with_reducible refine hK _ ?_; clear hK K))))
              exact hb
end Go.Cm
