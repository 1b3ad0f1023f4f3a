/-
  The C machine, twenty-second part: new variables ahead of all; the rows of a drawn region.
-/
import Derived.Test.YtjmmeeokpncdbaaCvU
set_option linter.unusedSimpArgs false
set_option linter.unusedVariables false
namespace Go.Cm

section
variable {K K2 : KM} {Q Q2 : PM} {P : Program} {w w2 w3 : World} {m m2 m3 : Mem} {A : Ann} {F : Oracle} {fid : FuncId} {nt : Nat}

theorem updP_none (Q : PM) {key : Key} (h : Q key = none) (q : Option Pl) (k : Key) (p : Pl) (hk : Q k = some p) : updP Q key q k = some p := by
  simp only [updP]
  split
  · rename_i he; subst he; rw [h] at hk; cases hk
  · exact hk

/-- an object that was promised is there -/
theorem Trans.fill (hT : Trans K m Q w K2 m2 Q2 w2) {key : Key} {x : HO} (hx : m2.get key = some x) (hq : Q2 key = none) (hgen : ∀ y, m.get key = some y → y.gn < x.gn)
    {z : List CV} {g : Nat} (hxv : x = .var g z 0) {es : Array Value} {t : TypeId} (hall : z.all leafV = true) (hV : Cm.Vs K2 m2.get Q2 false z es.toList) (hw : Pushed w2 w3 (.cells es t (0, 0))) :
    Trans K m Q w K2 m2 (updP Q2 key (some ⟨w2.heap.size, 0, es.size⟩)) w3 ∧ Grow true m2.get Q2 m2.get (updP Q2 key (some ⟨w2.heap.size, 0, es.size⟩)) := by
  have hsz : w3.heap.size = w2.heap.size + 1 := by rw [hw.1]; simp
  have hold : ∀ b, b < w2.heap.size → w3.heap[b]? = w2.heap[b]? := fun b hb => by rw [hw.1, Array.getElem?_push]; rw [if_neg (by omega)]
  have hG : Grow true m2.get Q2 m2.get (updP Q2 key (some ⟨w2.heap.size, 0, es.size⟩)) := by
    intro k y _ hy
    exact ⟨y, hy, Nat.le_refl _, fun _ => ⟨fun p hp => updP_none Q2 hq _ k p hp, fun _ _ cs vl h' => ⟨cs, vl, h', Nat.le_refl _⟩⟩⟩
  have hlen := Vs_length hV
  refine ⟨⟨⟨fun b o v hv => ?_, fun k y hy => ?_, fun k1 k2 q1 q2 h1 h2 he => ?_, fun k q1 h1 => ?_⟩, hT.kk, hT.grow.trans hG, by have := hT.size; omega, fun b hb hne => ?_, hT.kn, fun k q hq' => ?_, hT.io.trans (hw.kept (.inl ⟨_, _, rfl⟩))⟩, hG⟩
  · have hc := hT.mr.stab b o v hv
    rw [cell?_of_heap (hold b (World.block_lt_of_cell? _ _ hc))]; exact hc
  · by_cases he : key = k
    · subst he
      rw [hx] at hy
      simp only [Option.some.injEq] at hy
      subst hy
      intro q hq'
      simp only [updP, if_true, Option.some.injEq] at hq'
      subst hq'
      subst hxv
      refine (show CellsOK K2 m2.get (updP Q2 key (some ⟨w2.heap.size, 0, es.size⟩)) w3 (flag key (.var g z 0)) z 0 ⟨w2.heap.size, 0, es.size⟩ from ⟨⟨es, t, by rw [hw.1]; simp, rfl, fun i c hc => ?_⟩, ?_, fun o _ => ?_⟩)
      · obtain ⟨v, h1, h2⟩ := Vs_get hV hc
        refine ⟨List.all_eq_true.1 hall c (List.mem_of_getElem? hc), v, by simpa using h1, ?_⟩
        exact V_mono (fun _ _ _ h => h) hG.sub (by simp) hG.sub c v h2
      · simp only [Array.length_toList] at hlen
        simp only [Nat.zero_add]; omega
      · cases hk' : K2 w2.heap.size o with
        | none => rfl
        | some v =>
          have := World.block_lt_of_cell? _ _ (hT.mr.stab _ _ _ hk')
          simp at this
    · exact (hT.mr.objs k y hy).mono (fun _ _ _ h => h) hG (fun q1 h1 => by simpa [updP, he] using h1) (fun q1 h1 => hold _ (hT.mr.dom _ _ h1).2) (fun _ _ _ _ h => h)
  · simp only [updP] at h1 h2
    split at h1 <;> split at h2
    · rename_i a b; rw [← a, ← b]
    · simp only [Option.some.injEq] at h1; subst h1
      have := (hT.mr.dom _ _ h2).2; simp only at he; omega
    · simp only [Option.some.injEq] at h2; subst h2
      have := (hT.mr.dom _ _ h1).2; simp only at he; omega
    · exact hT.mr.inj _ _ _ _ h1 h2 he
  · simp only [updP] at h1
    split at h1
    · rename_i a
      simp only [Option.some.injEq] at h1; subst h1 a
      exact ⟨⟨x, hx⟩, by simp only; omega⟩
    · obtain ⟨hy, hlt⟩ := hT.mr.dom k q1 h1
      exact ⟨hy, by omega⟩
  · rw [hold b (Nat.lt_of_lt_of_le hb hT.size)]
    exact hT.frame b hb hne
  · simp only [updP] at hq'
    split at hq'
    · rename_i he; subst he
      simp only [Option.some.injEq] at hq'; subst hq'
      exact .inr ⟨hT.size, fun y hy => ⟨x, hx, hgen y hy⟩⟩
    · exact hT.pn k q hq'

/-- what hoisting promises -/
structure AlOK (P : Program) (l : List Oper) (i0 : Nat) (m0 : Mem) (Q1 : PM) (b : Al) : Prop where
  op : ∃ o t, l[b.i - i0]? = some o ∧ i0 ≤ b.i ∧ o.op = .alloc t ∧ plainAlloc P o = true ∧ tzcells P t = some b.z
  none : Q1 b.key = none
  gen : ∀ y, m0.get b.key = some y → y.gn < b.gn

theorem hoist_run : ∀ (l : List Oper) (i : Nat) (m2 : Mem) (Q2 : PM) (al : List Al) (m3 : Mem), Trans K m Q w K2 m2 Q2 w2 → hoist P A fid i l m2 = some (al, m3) →
    ∃ Q3, Trans K m Q w K2 m3 Q3 w2 ∧ Grow true m2.get Q2 m3.get Q3 ∧ (∀ b ∈ al, AlOK P l i m Q3 b) ∧ (∀ k, Q2 k = none → Q3 k = none) := by
  intro l
  induction l with
  | nil =>
    intro i m2 Q2 al m3 hT h
    simp only [hoist, Option.some.injEq, Prod.mk.injEq] at h
    obtain ⟨rfl, rfl⟩ := h
    exact ⟨Q2, hT, Grow.refl _ _ _, fun b hb => by simp at hb, fun _ h => h⟩
  | cons o r ih =>
    intro i m2 Q2 al m3 hT h
    have step : ∀ {al : List Al} {m3 : Mem} {m2 : Mem} {Q2 : PM}, Trans K m Q w K2 m2 Q2 w2 → hoist P A fid (i + 1) r m2 = some (al, m3) →
        ∃ Q3, Trans K m Q w K2 m3 Q3 w2 ∧ Grow true m2.get Q2 m3.get Q3 ∧ (∀ b ∈ al, AlOK P (o :: r) i m Q3 b) ∧ (∀ k, Q2 k = none → Q3 k = none) := by
      intro al m3 m2 Q2 hT h
      obtain ⟨Q3, h1, h2, h3, h4⟩ := ih (i + 1) m2 Q2 al m3 hT h
      refine ⟨Q3, h1, h2, fun b hb => ?_, h4⟩
      obtain ⟨⟨o', t, e1, e2, e3⟩, e4, e5⟩ := h3 b hb
      refine ⟨⟨o', t, ?_, by omega, e3⟩, e4, e5⟩
      rw [show b.i - i = (b.i - (i + 1)) + 1 from by omega, List.getElem?_cons_succ]
      exact e1
    simp only [hoist] at h
    split at h
    · rename_i hp
      split at h
      · rename_i t ht
        simp only [Option.bind_eq_some_iff, Option.map_eq_some_iff, Prod.mk.injEq] at h
        obtain ⟨z, hz, ⟨al', m4⟩, h, rfl, rfl⟩ := h
        obtain ⟨hget, hgen⟩ := add_spec m2 (gslot (A.glob fid) o.dst) (dslot o.dst) (fun g => HO.var g z 0) (fun _ => rfl)
        generalize (m2.add (gslot (A.glob fid) o.dst) (dslot o.dst) fun g => HO.var g z 0).1 = key at *
        generalize (m2.add (gslot (A.glob fid) o.dst) (dslot o.dst) fun g => HO.var g z 0).2.1 = gn at *
        generalize (m2.add (gslot (A.glob fid) o.dst) (dslot o.dst) fun g => HO.var g z 0).2.2 = m5 at *
        have hG : Grow true m2.get Q2 m5.get (updP Q2 key none) := by
          rw [hget]
          exact Grow.upd fun y hy => ⟨Nat.le_of_lt (hgen y hy), fun he => absurd he (Nat.ne_of_lt (hgen y hy))⟩
        have hT5 : Trans K m Q w K2 m5 (updP Q2 key none) w2 := by
          refine ⟨?_, hT.kk, hT.grow.trans hG, hT.size, hT.frame, hT.kn, fun k q hq => ?_, hT.io⟩
          · rw [hget]
            exact hT.mr.place (x := .var gn z 0) hgen (by simp) (by intro q hq; simp [updP] at hq)
          · simp only [updP] at hq
            split at hq
            · simp at hq
            · exact hT.pn' hG hq
        obtain ⟨Q3, h1, h2, h3, h4⟩ := step hT5 h
        refine ⟨Q3, h1, hG.trans h2, fun b hb => ?_, fun k hk => h4 k ?_⟩
        · simp only [List.mem_cons] at hb
          rcases hb with rfl | hb
          · exact ⟨⟨o, t, by simp, by simp, ht, hp, hz⟩, h4 _ (by simp [updP]), fun y hy => hT.gen hy hgen⟩
          · exact h3 b hb
        · simp only [updP]
          split
          · rfl
          · exact hk
      · simp at h
    · exact step hT h

theorem aget_mem : ∀ {al : List Al} {j : Nat} {a : Al}, aget al j = some a → a ∈ al ∧ a.i = j
  | b :: r, j, a, h => by
    simp only [aget] at h
    split at h
    · rename_i he
      simp only [Option.some.injEq] at h; subst h
      exact ⟨List.mem_cons_self, he⟩
    · obtain ⟨h1, h2⟩ := aget_mem h
      exact ⟨List.mem_cons_of_mem _ h1, h2⟩
theorem keysOK_spec : ∀ {al : List Al}, keysOK al = true → ∀ a ∈ al, ∀ b ∈ al, a.key = b.key → a = b
  | x :: r, h, a, ha, b, hb, he => by
    simp only [keysOK, Bool.and_eq_true, List.all_eq_true, decide_eq_true_eq] at h
    simp only [List.mem_cons] at ha hb
    rcases ha with rfl | ha <;> rcases hb with rfl | hb
    · rfl
    · exact absurd he (h.1 b hb)
    · exact absurd he.symm (h.1 a ha)
    · exact keysOK_spec h.2 a ha b hb he

/-! rows -/
def slF (rows : List Row) (sl : List CV) : List CV := rows.foldl (fun s x => sput s x.o.dst x.v) sl
def mF (rows : List Row) (m : Mem) : Mem := rows.foldl (fun _ x => x.m') m

theorem drow_fields {ops : List Oper} {al : List Al} {i : Nat} {o : Oper} {sl : List CV} {m : Mem} {x : Row} (h : drow P A F fid nt ops al i o sl m = some x) :
    x.i = i ∧ x.o = o ∧ x.sl = sl ∧ x.m = m := by
  unfold drow at h
  split at h
  · simp at h
  · split at h
    · split at h
      · simp only [Option.map_eq_some_iff] at h
        obtain ⟨a, _, rfl⟩ := h
        exact ⟨rfl, rfl, rfl, rfl⟩
      · simp only [Option.map_eq_some_iff] at h
        obtain ⟨a, _, rfl⟩ := h
        exact ⟨rfl, rfl, rfl, rfl⟩
    · simp only [Option.some.injEq] at h; subst h; exact ⟨rfl, rfl, rfl, rfl⟩
    · simp at h

theorem drows_spec {ops : List Oper} {al : List Al} : ∀ (l : List Oper) (i : Nat) (sl : List CV) (m : Mem) (rows : List Row) (sl' : List CV) (m' : Mem), drows P A F fid nt ops al i l sl m = some (rows, sl', m') →
    rows.length = l.length ∧ sl' = slF rows sl ∧ m' = mF rows m ∧
      ∀ k x, rows[k]? = some x → l[k]? = some x.o ∧ x.i = i + k ∧ x.sl = slF (rows.take k) sl ∧ x.m = mF (rows.take k) m ∧ drow P A F fid nt ops al (i + k) x.o x.sl x.m = some x := by
  intro l
  induction l with
  | nil =>
    intro i sl m rows sl' m' h
    simp only [drows, Option.some.injEq, Prod.mk.injEq] at h
    obtain ⟨rfl, rfl, rfl⟩ := h
    exact ⟨rfl, rfl, rfl, fun k x hx => by simp at hx⟩
  | cons o r ih =>
    intro i sl m rows sl' m' h
    simp only [drows, Option.bind_eq_some_iff, Option.map_eq_some_iff] at h
    obtain ⟨x, hx, ⟨rows2, sl2, m2⟩, h, he⟩ := h
    simp only [Prod.mk.injEq] at he
    obtain ⟨rfl, rfl, rfl⟩ := he
    obtain ⟨f1, f2, f3, f4⟩ := drow_fields hx
    obtain ⟨h1, h2, h3, h4⟩ := ih _ _ _ _ _ _ h
    refine ⟨by simp [h1], by simp only [h2, slF, List.foldl_cons, f2], by simp only [h3, mF, List.foldl_cons], fun k y hy => ?_⟩
    cases k with
    | zero =>
      simp only [List.getElem?_cons_zero, Option.some.injEq] at hy
      subst hy
      exact ⟨by simp [f2], by simpa using f1, by simp [slF, f3], by simp [mF, f4], by rw [f2, f3, f4]; exact hx⟩
    | succ k =>
      simp only [List.getElem?_cons_succ] at hy
      obtain ⟨e1, e2, e3, e4, e5⟩ := h4 k y hy
      refine ⟨by simpa using e1, by omega, by simp only [e3, slF, List.take_succ_cons, List.foldl_cons, f2], by simp only [e4, mF, List.take_succ_cons, List.foldl_cons], ?_⟩
      rwa [show i + (k + 1) = i + 1 + k from by omega]

/-- slots in the text's order -/
theorem slF_get : ∀ (rows : List Row) (sl : List CV) (t : Tmp), (∀ (i j : Nat) (x y : Row), rows[i]? = some x → rows[j]? = some y → x.o.dst = some t → y.o.dst = some t → i = j) →
    (∀ (j : Nat) (x : Row), rows[j]? = some x → x.o.dst = some t → sget (slF rows sl) t = x.v) ∧ ((∀ (j : Nat) (x : Row), rows[j]? = some x → x.o.dst ≠ some t) → sget (slF rows sl) t = sget sl t)
  | [], sl, t, _ => ⟨fun j x hx => by simp at hx, fun _ => rfl⟩
  | y :: r, sl, t, hd => by
    have ih := slF_get r (sput sl y.o.dst y.v) t fun i j a b ha hb h1 h2 => by
      have := hd (i + 1) (j + 1) a b (by simpa using ha) (by simpa using hb) h1 h2
      omega
    have hs : slF (y :: r) sl = slF r (sput sl y.o.dst y.v) := rfl
    rw [hs]
    have hput : ∀ (sl : List CV) (v : CV), sget (sput sl y.o.dst v) t = if y.o.dst = some t then v else sget sl t := by
      intro sl v
      cases hy : y.o.dst with
      | none => simp [sput]
      | some d => simp [sput, sget_sset]
    refine ⟨fun j x hx he => ?_, fun hne => ?_⟩
    · cases j with
      | zero =>
        simp only [List.getElem?_cons_zero, Option.some.injEq] at hx
        subst hx
        rw [ih.2 fun j x hx h => ?_, hput, if_pos he]
        have := hd 0 (j + 1) y x (by simp) (by simpa using hx) he h
        omega
      | succ j =>
        simp only [List.getElem?_cons_succ] at hx
        exact ih.1 j x hx he
    · rw [ih.2 fun j x hx => hne (j + 1) x (by simpa using hx), hput, if_neg (hne 0 y (by simp))]

/-- memories ahead of what is done -/
def memo (es : List Row) (last : Mem) (k : Nat) : Mem := match es[k]? with | some e => e.m | none => last
theorem memo_spec {eff : Row → Bool} : ∀ (rows : List Row) (m : Mem), (∀ (k : Nat) (x : Row), rows[k]? = some x → x.m = mF (rows.take k) m ∧ (eff x = false → x.m' = x.m)) →
    memo (rows.filter eff) (mF rows m) 0 = m ∧ ∀ (k : Nat) (e : Row), (rows.filter eff)[k]? = some e → memo (rows.filter eff) (mF rows m) (k + 1) = e.m'
  | [], m, _ => ⟨rfl, fun k e he => by simp at he⟩
  | x :: r, m, h => by
    have hx := h 0 x (by simp)
    simp only [List.take_zero] at hx
    have hm : x.m = m := hx.1
    have ih := memo_spec (eff := eff) r x.m' fun k y hy => by
      have := h (k + 1) y (by simpa using hy)
      simpa [mF, List.take_succ_cons] using this
    have hF : mF (x :: r) m = mF r x.m' := rfl
    rw [hF]
    by_cases he : eff x = true
    · rw [List.filter_cons_of_pos he]
      refine ⟨by simp [memo, hm], fun k e hk => ?_⟩
      cases k with
      | zero =>
        simp only [List.getElem?_cons_zero, Option.some.injEq] at hk
        subst hk
        simpa [memo] using ih.1
      | succ k =>
        simp only [List.getElem?_cons_succ] at hk
        simpa [memo] using ih.2 k e hk
    · rw [List.filter_cons_of_neg he]
      have hm' : x.m' = m := by rw [hx.2 (by simpa using he), hm]
      rw [hm'] at ih ⊢
      exact ih

theorem steady_spec {ops : List Oper} {masks : List Nat} {d : Row} {last : Mem} : ∀ (es : List Row) (k : Nat), steady P A F fid ops masks d last es = true →
    k ≤ es.length → (∀ (j : Nat) (e : Row), j < k → es[j]? = some e → (masks.getD e.i 0).testBit d.i = false) → (∀ (e : Row), es[k]? = some e → (masks.getD d.i 0).testBit e.i = false) → steadyAt P A F fid ops d (memo es last k) = true
  | [], k, h, hk, _, _ => by
    simp only [List.length_nil, Nat.le_zero] at hk
    subst hk
    simpa [memo, steady] using h
  | e :: es, k, h, hk, h1, h2 => by
    simp only [steady, Bool.and_eq_true, Bool.or_eq_true] at h
    cases k with
    | zero =>
      have := h2 e (by simp)
      rcases h.1 with h | h
      · rw [this] at h; cases h
      · simpa [memo] using h
    | succ k =>
      have h0 := h1 0 e (by omega) (by simp)
      rcases h.2 with h | h
      · rw [h0] at h; cases h
      · have := steady_spec es k h (by simpa using hk) (fun j e' hj he => h1 (j + 1) e' (by omega) (by simpa using he)) (fun e' he => h2 e' (by simpa using he))
        simpa [memo] using this
end
end Go.Cm
