/-
  The C machine, twenty-fourth part: regions that draw their order, whole.
-/
import Derived.Test.YtjmmeeokpncdbaaCvW
set_option linter.unusedSimpArgs false
set_option linter.unusedVariables false
namespace Go.Cm

section
variable {P : Program} {A : Ann} {F : Oracle} {fid : FuncId} {nt : Nat}
variable {ops : Array Oper} {sl0 : List CV} {mA : Mem} {al : List Al} {rows es : List Row} {last : Mem}
variable {K0 : KM} {m0 : Mem} {Q0 : PM} {w0 : World} {Qx : Exit → Act → World → Prop}

theorem evL_V {K : KM} {m : Mem} {Q : PM} {ts : List Tmp} {sl : List CV} {a : Act} (h : ∀ t, t ∈ ts → Vt K m Q (sget sl t) (a.tmps.getD t undef)) (x : Operand) : Vt K m Q (evL ts sl x) (a.eval x) := by
  cases x with
  | tmp t =>
    simp only [evL, Act.eval]
    split
    · rename_i hc; exact h t (by simpa using hc)
    · simp [Vt, V]
  | const v => exact ofC_V v
  | global g => simp [evL, ev, Vt, V]
  | func f => simp [evL, ev, Vt, V, Act.eval, Vs]

theorem freshAt_spec {b : Al} {m : Mem} (h : freshAt b m = true) : m.get b.key = some (.var b.gn b.z 0) := by
  unfold freshAt at h
  split at h
  · rename_i g cs vl hget
    simp only [Bool.and_eq_true, decide_eq_true_eq] at h
    obtain ⟨⟨rfl, rfl⟩, h3⟩ := h
    rw [hget, beqs_eq _ _ h3]
  · simp at h

theorem quiet_noeff {o : Oper} (h : quietOp o.op = true) : effOp P o = false := by simp [effOp, h]
theorem alloc_noeff {o : Oper} (h : plainAlloc P o = true) : effOp P o = false := by simp [effOp, h]

theorem Inv.op (hS : Sim P F) (hN : plainNames P = true) (hD : Drawn P A F fid nt ops sl0 mA al rows es last)
    (hAl : ∀ b ∈ al, ∃ o t, ops.toList[b.i]? = some o ∧ o.op = .alloc t ∧ tzcells P t = some b.z ∧ ∀ y, m0.get b.key = some y → y.gn < b.gn)
    {listed : Array Bool} {k : Nat} {a : Act} {w : World} (hI : Inv nt K0 m0 Q0 w0 ops sl0 al rows es last listed k a w)
    {i : Nat} (hi : i ∈ Region.ready .any ops listed) {next : Act → World → Prop} (hn : ∀ k' a' w', Inv nt K0 m0 Q0 w0 ops sl0 al rows es last (listed.setIfInBounds i true) k' a' w' → next a' w') :
    wpOp P ops Qx i next a w := by
  obtain ⟨hl0, o, ho, hedges⟩ := mem_ready.1 hi
  have hlt : i < ops.size := (Array.getElem?_eq_some_iff.1 ho).1
  obtain ⟨x, hx⟩ : ∃ x, rows[i]? = some x := ⟨_, List.getElem?_eq_getElem (by rw [hD.len]; exact hlt)⟩
  obtain ⟨ho', hxi, hsl, hdr⟩ := hD.row i x hx
  rw [ho] at ho'
  simp only [Option.some.injEq] at ho'
  subst ho'
  obtain ⟨K, Q, hT, hal, hlook, hwhere, hnot, hmask, hfin⟩ := hI.step hD hi hx
  have hgu : ∀ {b}, guardC ops.toList x.sl x.o = some b → Region.wanted x.o (yielded ops a.tmps) = b := by
    intro b hg
    refine guard_wanted' (K := K) (m := memo es last k) (Q := Q) (fun g want d hgd hd => hlook d ?_) hg
    simp only [looks, hgd]
    rw [Array.getElem?_toList, hd]
    simp
  simp only [wpOp, ho]
  obtain ⟨_, hc⟩ := drow_cases hdr
  rcases hc with ⟨hg, hv, hm⟩ | ⟨hg, hp, hm, b, hb, hv⟩ | ⟨hg, hp, hq, hgo, hm⟩ | ⟨hg, hp, hq, hcv⟩
  · -- not wanted
    rw [hgu hg]
    simp only [Bool.false_eq_true, if_false]
    have hsame : memo es last (if effOp P x.o then k + 1 else k) = memo es last k := by
      split
      · rename_i heff
        rw [hD.next k x (hwhere heff), hm]
        simp [memo, hwhere heff]
      · rfl
    refine hn _ _ _ (hfin _ rfl w undef K Q (by rw [hsame]; exact hT) (fun c v h => by rw [hsame]; exact h) (by rw [hsame, hv]; exact undef_V) fun b hb hlb _ => by rw [hsame]; exact hal b hb hlb)
  · -- a new variable
    rw [hgu hg]
    simp only [if_true]
    left
    have hne : effOp P x.o = false := alloc_noeff hp
    obtain ⟨hbm, hbi⟩ := aget_mem hb
    obtain ⟨o', t, ho1, ho2, hz, hgen⟩ := hAl b hbm
    rw [hbi, hxi, Array.getElem?_toList, ho] at ho1
    simp only [Option.some.injEq] at ho1
    subst ho1
    obtain ⟨hqn, hfr⟩ := hal b hbm (by rw [hbi, hxi]; exact hnot)
    have hget := freshAt_spec hfr
    obtain ⟨v, hzv, hall, hV, _⟩ := run_tzcells (K := K) (M := (memo es last k).get) (Q := Q) (w := w) (loc := false) hz
    obtain ⟨hT', hG⟩ := hT.fill (w3 := { w with heap := w.heap.push (.cells v.cells t (0, 0)) }) hget hqn hgen rfl hall hV ⟨rfl, rfl, rfl⟩
    have hrun : (execOp a.eval x.o).run P w = .ok (.value (.pointer (some ⟨w.heap.size, 0, none⟩))) { w with heap := w.heap.push (.cells v.cells t (0, 0)) } := by
      simp only [execOp, ho2]
      simp [Instr.alloc, hzv, newVar, newRow]
    simp only [Oper.wp, hrun, Oper.upon_value]
    refine hn _ _ _ (hfin k (by rw [hne]; rfl) _ _ K _ hT' (fun c v h => V_mono (fun _ _ _ h => h) hG.sub (fun h => h) hG c v h) ?_ fun b' hb' hlb' hne' => ?_)
    · rw [hv]
      simp only [Vt, V]
      exact ⟨by cases b.key <;> simp [keyOK], _, _, hget, Nat.le_refl _, rfl, fun _ => ⟨_, by simp [updP]; rfl, rfl⟩⟩
    · obtain ⟨h1, h2⟩ := hal b' hb' hlb'
      refine ⟨?_, h2⟩
      simp only [updP]
      split
      · rename_i he
        have := keysOK_spec hD.keys b hbm b' hb' he
        subst this
        exact absurd (by rw [hbi, hxi]) hne'
      · exact h1
  · -- an answer
    rw [hgu hg]
    simp only [if_true]
    left
    have hne : effOp P x.o = false := quiet_noeff hq
    have hst := steady_spec es k (hD.steady x (List.mem_of_getElem? hx) hgo hq) hI.kle (fun j e hj he => by
      have hl := (hI.pre j e he).2 hj
      cases hb : ((amasks ops.toList []).getD e.i 0).testBit x.i with
      | false => rfl
      | true =>
        have := hI.closed _ _ hl hb
        rw [hxi, hnot] at this; cases this) (fun e he => by
      cases hb : ((amasks ops.toList []).getD x.i 0).testBit e.i with
      | false => rfl
      | true =>
        rw [hxi] at hb
        have := (hI.pre k e he).1 (hmask _ hb)
        omega)
    unfold steadyAt at hst
    split at hst
    · rename_i v m1 hcv
      have hbe := beq_eq _ _ hst
      subst hbe
      obtain ⟨_, r, hrun, hVr⟩ := quiet_run hT.mr (evL_V hlook) hq hcv
      simp only [Oper.wp, hrun, Oper.upon_value]
      exact hn _ _ _ (hfin k (by rw [hne]; rfl) _ _ K Q hT (fun c v h => h) hVr fun b hb hlb _ => hal b hb hlb)
    · simp at hst
  · -- an operation that does something
    rw [hgu hg]
    simp only [if_true]
    left
    have heff : effOp P x.o = true := by simp [effOp, hq, hp]
    have hxk := hwhere heff
    have hmx : memo es last k = x.m := by simp [memo, hxk]
    have hmn : memo es last (k + 1) = x.m' := hD.next k x hxk
    rw [← hmx, ← hmn] at hcv
    refine op_goes hS hN hT.mr (evL_V hlook) hcv next Qx fun r w' K' Q' hT' hv => ?_
    refine hn _ _ _ (hfin (k + 1) (by rw [heff]; rfl) _ _ K' Q' (hT.trans hT') (fun c v h => hT'.V h) hv fun b hb hlb _ => ?_)
    obtain ⟨h1, h2⟩ := hal b hb hlb
    have hfr : freshAt b (memo es last (k + 1)) = true := by
      rw [hmn]
      rcases hD.fresh b hb x (List.mem_of_getElem? hxk) with h | h
      · rw [hxi] at h
        have := hmask _ h
        rw [hlb] at this; cases this
      · exact h
    refine ⟨?_, hfr⟩
    cases hq' : Q' b.key with
    | none => rfl
    | some q =>
      rcases hT'.pn _ _ hq' with ⟨q0, h, _⟩ | ⟨_, h⟩
      · rw [h1] at h; cases h
      · obtain ⟨y, hy, hlt⟩ := h _ (freshAt_spec h2)
        rw [freshAt_spec hfr] at hy
        simp only [Option.some.injEq] at hy
        subst hy
        simp [HO.gn] at hlt

/-- how many are not done -/
def left (n : Nat) (listed : Array Bool) : Nat := (List.range n).countP fun i => !listed.getD i true

theorem countP_lt {p q : Nat → Bool} {i : Nat} : ∀ {l : List Nat}, i ∈ l → (∀ j, q j = true → p j = true) → p i = true → q i = false → l.countP q < l.countP p
  | x :: l, hi, hpq, hp, hq => by
    simp only [List.countP_cons]
    have hle : l.countP q ≤ l.countP p := List.countP_mono_left fun j _ h => hpq j h
    rcases List.mem_cons.1 hi with rfl | hi
    · simp [hp, hq]; omega
    · have := countP_lt hi hpq hp hq
      by_cases hx : q x = true
      · simp [hx, hpq x hx]; exact this
      · simp [hx]; omega

theorem left_set {n i : Nat} {listed : Array Bool} (hsz : listed.size = n) (hi : i < n) (hn : listed.getD i true = false) : left n (listed.setIfInBounds i true) < left n listed := by
  refine countP_lt (i := i) (List.mem_range.2 hi) (fun j hj => ?_) (by simp only [hn]; rfl) ?_
  · by_cases he : i = j
    · subst he
      simp only [Array.getD_eq_getD_getElem?, Array.getElem?_setIfInBounds] at hj
      simp [hsz, hi] at hj
    · rwa [getD_set_ne true he] at hj
  · simp only [Array.getD_eq_getD_getElem?, Array.getElem?_setIfInBounds]
    simp [hsz, hi]

theorem ready_nil {listed : Array Bool} (hsz : listed.size = ops.size) (hback : ∀ (j : Nat) (y : Oper), ops.toList[j]? = some y → ∀ e ∈ y.after.toList, Region.binds .any e = true → e.on < j)
    (h : Region.ready .any ops listed = []) : ∀ j, j < ops.size → listed.getD j false = true := by
  intro j
  induction j using Nat.strongRecOn with
  | _ j ih =>
    intro hj
    cases hl : listed.getD j false with
    | true => rfl
    | false =>
      have hm : j ∈ Region.ready .any ops listed := by
        refine mem_ready.2 ⟨?_, ops[j], Array.getElem?_eq_getElem hj, fun e he hb => ?_⟩
        · have hj' : j < listed.size := by omega
          simp only [Array.getD_eq_getD_getElem?, Array.getElem?_eq_getElem hj', Option.getD_some] at hl ⊢
          exact hl
        · have hlt := hback j ops[j] (by rw [Array.getElem?_toList]; exact Array.getElem?_eq_getElem hj) e (Array.mem_toList_iff.2 he) hb
          exact ih e.on hlt (by omega)
      rw [h] at hm; cases hm

theorem Inv.any (hS : Sim P F) (hN : plainNames P = true) (hD : Drawn P A F fid nt ops sl0 mA al rows es last)
    (hAl : ∀ b ∈ al, ∃ o t, ops.toList[b.i]? = some o ∧ o.op = .alloc t ∧ tzcells P t = some b.z ∧ ∀ y, m0.get b.key = some y → y.gn < b.gn)
    (hend : ∀ k listed a w, Inv nt K0 m0 Q0 w0 ops sl0 al rows es last listed k a w → (∀ j, j < ops.size → listed.getD j false = true) → Qx .normal a w) :
    ∀ (fuel : Nat) (listed : Array Bool) (k : Nat) (a : Act) (w : World), left ops.size listed ≤ fuel → Inv nt K0 m0 Q0 w0 ops sl0 al rows es last listed k a w → wpAny P .any ops Qx fuel listed a w := by
  intro fuel
  induction fuel with
  | zero =>
    intro listed k a w hf hI
    have hr : Region.ready .any ops listed = [] := by
      cases hr : Region.ready .any ops listed with
      | nil => rfl
      | cons i l =>
        have hi : i ∈ Region.ready .any ops listed := by rw [hr]; exact List.mem_cons_self
        obtain ⟨h0, o, ho, _⟩ := mem_ready.1 hi
        have := left_set hI.size (Array.getElem?_eq_some_iff.1 ho).1 h0
        omega
    exact ⟨hr, hend k listed a w hI (ready_nil hI.size hD.reg.back hr)⟩
  | succ fuel ih =>
    intro listed k a w hf hI
    refine ⟨fun hr => hend k listed a w hI (ready_nil hI.size hD.reg.back hr), fun i hi => ?_⟩
    refine hI.op hS hN hD hAl hi fun k' a' w' hI' => ih _ k' a' w' ?_ hI'
    obtain ⟨h0, o, ho, _⟩ := mem_ready.1 hi
    have := left_set hI.size (Array.getElem?_eq_some_iff.1 ho).1 h0
    omega

theorem cdraw_goes (hS : Sim P F) (hN : plainNames P = true) (hM : P.follows .mixedOrders = true) {s s' : CS} {a : Act} {w : World} {id : Nat} (hA : At nt K0 m0 Q0 w0 s a w)
    (h : cdraw P A F fid nt ops.toList s = some s') (hQ : ∀ a w, At nt K0 m0 Q0 w0 s' a w → Qx .normal a w) : (Code.region id ops true).wp P Qx a w := by
  obtain ⟨K, Q, hT, hs, hsz, hd⟩ := hA
  unfold cdraw at h
  simp only at h
  split at h
  · rename_i hreg
    simp only [Option.bind_eq_some_iff] at h
    obtain ⟨⟨al, mA⟩, hh, ⟨rows, sl', last⟩, hr, h⟩ := h
    simp only at h
    split at h
    · rename_i hc
      simp only [Bool.and_eq_true] at hc
      obtain ⟨⟨hk, hf⟩, hst⟩ := hc
      simp only [Option.some.injEq] at h
      subst h
      simp only at hr hk hf hst hQ
      obtain ⟨Q1, hT1, hG, hal, _⟩ := hoist_run ops.toList 0 s.m Q al mA hT hh
      obtain ⟨r1, rfl, rfl, r4⟩ := drows_spec _ _ _ _ _ _ _ hr
      have hrow : ∀ (k : Nat) (x : Row), rows[k]? = some x → ops[k]? = some x.o ∧ x.i = k ∧ x.sl = slF (rows.take k) s.sl ∧ drow P A F fid nt ops.toList al k x.o x.sl x.m = some x := by
        intro k x hx
        obtain ⟨e1, e2, e3, e4, e5⟩ := r4 k x hx
        exact ⟨by rw [← Array.getElem?_toList]; exact e1, by omega, e3, by rw [Nat.zero_add] at e5; exact e5⟩
      have hmemo := memo_spec (eff := fun x => effOp P x.o) rows mA fun k x hx => ⟨(r4 k x hx).2.2.2.1, fun he => by
        obtain ⟨_, hc⟩ := drow_cases (hrow k x hx).2.2.2
        rcases hc with ⟨_, _, hm⟩ | ⟨_, _, hm, _⟩ | ⟨_, _, _, _, hm⟩ | ⟨_, hp, hq, _⟩
        · exact hm
        · exact hm
        · exact hm
        · simp [effOp, hp, hq] at he⟩
      have hD : Drawn P A F fid nt ops s.sl mA al rows (rows.filter fun x => effOp P x.o) (mF rows mA) := by
        refine ⟨RegOK.of hreg, by rw [r1]; simp, hrow, rfl, hmemo.1, hmemo.2, hk, fun b hb => ?_, fun b hb e he => ?_, fun x hx hgo hq => ?_⟩
        · have := List.all_eq_true.1 hf b hb
          simp only [Bool.and_eq_true] at this
          exact this.1
        · have := List.all_eq_true.1 hf b hb
          simp only [Bool.and_eq_true] at this
          have := List.all_eq_true.1 this.2 e he
          simpa using this
        · have := List.all_eq_true.1 hst x hx
          simpa [hgo, hq] using this
      refine wp_region_any hM (Inv.any (K0 := K0) (m0 := m0) (Q0 := Q0) (w0 := w0) hS hN hD (fun b hb => ?_) (fun k listed a' w' hI hall => ?_) ops.size _ 0 a _ ?_ ?_)
      · obtain ⟨⟨o, t, h1, _, h2, _, h3⟩, _, h4⟩ := hal b hb
        exact ⟨o, t, by simpa using h1, h2, h3, h4⟩
      · refine hQ a' w' ?_
        obtain ⟨K', Q', hT', hsl, _⟩ := hI.mem
        have hkk : k = (rows.filter fun x => effOp P x.o).length := by
          have h1 := hI.kle
          rcases Nat.lt_or_ge k (rows.filter fun x => effOp P x.o).length with h2 | h2
          · have he : (rows.filter fun x => effOp P x.o)[k]? = some (rows.filter fun x => effOp P x.o)[k] := List.getElem?_eq_getElem h2
            obtain ⟨hr', _⟩ := hD.es_row (List.mem_of_getElem? he)
            have := (hI.pre k _ he).1 (hall _ (by
              have := (List.getElem?_eq_some_iff.1 hr').1
              rw [hD.len] at this; exact this))
            omega
          · omega
        have hmem : memo (rows.filter fun x => effOp P x.o) (mF rows mA) k = mF rows mA := by
          rw [hkk]; simp [memo]
        rw [hmem] at hT' hsl
        refine ⟨K', Q', hT', fun t => ?_, hI.tsz, hI.defs⟩
        have hg := slF_get rows s.sl t fun i j x y hx hy h1 h2 => hD.reg.dst i j x.o y.o t (by rw [Array.getElem?_toList]; exact (hrow _ _ hx).1) (by rw [Array.getElem?_toList]; exact (hrow _ _ hy).1) h1 h2
        have hin : ∀ {j : Nat} {x : Row}, rows[j]? = some x → listed.getD j false = true := fun hx => hall _ (by
          have := (List.getElem?_eq_some_iff.1 hx).1
          rw [hD.len] at this; exact this)
        by_cases hex : ∃ (j : Nat) (x : Row), rows[j]? = some x ∧ x.o.dst = some t
        · obtain ⟨j, x, hx, hxd⟩ := hex
          simp only [hg.1 j x hx hxd]
          exact (hsl t).1 j x hx (hin hx) hxd
        · simp only [hg.2 fun j x hx hxd => hex ⟨j, x, hx, hxd⟩]
          exact (hsl t).2 fun j x hx _ hxd => hex ⟨j, x, hx, hxd⟩
      · have : left ops.size (Array.replicate ops.size false) ≤ (List.range ops.size).length := List.countP_le_length
        simpa using this
      · have hfalse : ∀ j, (Array.replicate ops.size false).getD j false = false := by
          intro j
          simp only [Array.getD_eq_getD_getElem?, Array.getElem?_replicate]
          split <;> rfl
        have hT2 := hT1.same (w'' := { w with drawn := w.drawn + 1 }) rfl rfl rfl
        refine ⟨by simp, fun j i hj _ => (by rw [hfalse] at hj; cases hj), fun j e he => by simp [hfalse], Nat.zero_le _, ⟨K, Q1, by rw [hmemo.1]; exact hT2, fun t => ⟨fun j x _ hj _ => (by rw [hfalse] at hj; cases hj), fun _ => ?_⟩, fun b hb _ => ?_⟩, hsz, hd⟩
        · rw [hmemo.1]
          exact V_mono (fun _ _ _ h => h) hG.sub (fun h => h) hG _ _ (hs t)
        · rw [hmemo.1]
          exact ⟨(hal b hb).none, hD.fresh0 b hb⟩
    · cases h
  · cases h
end
end Go.Cm
