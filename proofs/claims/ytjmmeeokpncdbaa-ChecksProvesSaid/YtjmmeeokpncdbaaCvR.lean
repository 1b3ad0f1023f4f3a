/-
  The C machine, eighteenth part: results that a caller takes; calls of functions as operations.
-/
import Derived.Test.YtjmmeeokpncdbaaCvQ
set_option linter.unusedSimpArgs false
set_option linter.unusedVariables false
namespace Go.Cm

section
variable {K K' K2 : KM} {Q Q' Q2 : PM} {P : Program} {w w' w0 w2 : World} {m m' m2 : Mem} {M M' : MM}

/-- a key takes a block that nobody has -/
theorem MR.place (h : MR K M Q w) {k : Key} {x : HO} {q : Option Pl} (hgen : ∀ y, M k = some y → y.gn < x.gn)
    (hnew : ∀ p, q = some p → (∀ k' p', Q k' = some p' → p'.blk ≠ p.blk) ∧ p.blk < w.heap.size)
    (hok : OK1 K (upd M k x) (updP Q k q) w k x) : MR K (upd M k x) (updP Q k q) w := by
  have hG : Grow true M Q (upd M k x) (updP Q k q) := Grow.upd fun y hy => ⟨Nat.le_of_lt (hgen y hy), fun he => absurd he (Nat.ne_of_lt (hgen y hy))⟩
  refine ⟨h.stab, fun k' y hy => ?_, fun k1 k2 q1 q2 h1 h2 he => ?_, fun k' q1 h1 => ?_⟩
  · by_cases he : k = k'
    · subst he
      simp only [upd, if_true, Option.some.injEq] at hy
      subst hy; exact hok
    · simp only [upd, he, if_false] at hy
      exact (h.objs k' y hy).mono (fun _ _ _ h => h) hG (fun q1 h1 => by simpa [updP, he] using h1) (fun q1 _ => rfl) (fun _ _ _ _ h => h)
  · simp only [updP] at h1 h2
    split at h1 <;> split at h2
    · rename_i a b; rw [← a, ← b]
    · exact absurd he.symm ((hnew _ h1).1 _ _ h2)
    · exact absurd he ((hnew _ h2).1 _ _ h1)
    · exact h.inj _ _ _ _ h1 h2 he
  · simp only [updP] at h1
    split at h1
    · rename_i a
      exact ⟨⟨x, by simp [upd, a]⟩, (hnew _ h1).2⟩
    · rename_i a
      obtain ⟨⟨y, hy⟩, hlt⟩ := h.dom k' q1 h1
      exact ⟨⟨y, by simp [upd, a, hy]⟩, hlt⟩

theorem adopt1_run {glob : Bool} {j : Nat} {c : CV} {v : Value} {o : Option Nat} (hT : Trans K m Q w K2 m2 Q2 w2) (h : RV1 K2 m2.get Q2 w w2 c v o) :
    ∃ Q3, Trans K m Q w K2 (adopt1 glob j c m2).2 Q3 w2 ∧ Grow true m2.get Q2 (adopt1 glob j c m2).2.get Q3 ∧ Vt K2 (adopt1 glob j c m2).2 Q3 (adopt1 glob j c m2).1 v ∧
      ∀ k q, Q3 k = some q → Q2 k = some q ∨ o = some q.blk := by
  cases c
  case own n sz cs vl =>
    simp only [adopt1]
    obtain ⟨hget, hgen⟩ := add_spec m2 glob j (fun g => HO.arr g sz cs vl) (fun _ => rfl)
    have hgetk : (m2.add glob j fun g => HO.arr g sz cs vl).2.2.get (m2.add glob j fun g => HO.arr g sz cs vl).1 = some (.arr (m2.add glob j fun g => HO.arr g sz cs vl).2.1 sz cs vl) := by rw [hget]; simp [upd]
    generalize (m2.add glob j fun g => HO.arr g sz cs vl).1 = key at *
    generalize (m2.add glob j fun g => HO.arr g sz cs vl).2.1 = gn at *
    generalize (m2.add glob j fun g => HO.arr g sz cs vl).2.2 = m3 at *
    have hflag : ∀ gg cc vv s, flag key (.arr gg s cc vv) = false := by intro gg cc vv s; cases key <;> rfl
    simp only [RV1] at h
    have hG : ∀ q, Grow true m2.get Q2 m3.get (updP Q2 key q) := fun q => by
      rw [hget]
      exact Grow.upd fun y hy => ⟨Nat.le_of_lt (hgen y hy), fun he => absurd he (Nat.ne_of_lt (hgen y hy))⟩
    rcases h with ⟨rfl, rfl, rfl, a, rfl⟩ | ⟨q, cap, rfl, hq1, hq2, rfl, hcap, hc1, hc2, hcell⟩
    · have hmr : MR K2 m3.get (updP Q2 key none) w2 := by
        rw [hget]
        exact hT.mr.place (x := .arr gn sz [] vl) hgen (by simp) (by intro q hq; simp [updP] at hq)
      refine ⟨updP Q2 key none, ⟨hmr, hT.kk, hT.grow.trans (hG none), hT.size, hT.frame, hT.kn, fun k q hq => ?_, hT.io⟩, hG none, ?_, fun k q hq => ?_⟩
      · simp only [updP] at hq
        split at hq
        · simp at hq
        · exact hT.pn' (hG none) hq
      · simp only [Vt, V]
        exact ⟨by cases key <;> simp [keyOK], _, a, 0, hgetk, Nat.le_refl _, rfl, Nat.le_refl _, .inl rfl, fun _ => ⟨_, _, _, rfl, .inl rfl⟩⟩
      · simp only [updP] at hq
        split at hq
        · simp at hq
        · exact .inl hq
    · have hlt : q.blk < w2.heap.size := by
        obtain ⟨es, t, h1, _⟩ := hcell.row
        rcases Nat.lt_or_ge q.blk w2.heap.size with h | h
        · exact h
        · rw [Array.getElem?_eq_none h] at h1; cases h1
      have hmr : MR K2 m3.get (updP Q2 key (some q)) w2 := by
        rw [hget]
        refine hT.mr.place (x := .arr gn sz cs vl) hgen (fun p hp => by simp only [Option.some.injEq] at hp; subst hp; exact ⟨hq2, hlt⟩) ?_
        intro p hp
        simp only [updP, if_true, Option.some.injEq] at hp
        subst hp
        have hG' := hG (some q)
        rw [hget] at hG'
        refine (show CellsOK _ _ _ _ _ _ _ _ from ?_)
        rw [hflag]
        exact hcell.mono (fun _ _ _ h => h) hG' rfl hcell.free
      refine ⟨updP Q2 key (some q), ⟨hmr, hT.kk, hT.grow.trans (hG _), hT.size, hT.frame, hT.kn, fun k p hp => ?_, hT.io⟩, hG _, ?_, fun k p hp => ?_⟩
      · simp only [updP] at hp
        split at hp
        · rename_i he; subst he
          simp only [Option.some.injEq] at hp; subst hp; exact .inr ⟨hq1, fun h hh => ⟨_, hgetk, hT.gen hh hgen⟩⟩
        · exact hT.pn' (hG (some q)) hp
      · exact new_ref hgetk (by simp [updP]) hcap hc1 hc2
      · simp only [updP] at hp
        split at hp
        · simp only [Option.some.injEq] at hp; subst hp; exact .inr rfl
        · exact .inl hp
  all_goals
    simp only [RV1] at h
    exact ⟨Q2, hT, Grow.refl _ _ _, V_loc h.2, fun k q hq => .inl hq⟩

theorem adopts_run {glob : Bool} : ∀ (cs : List CV) (j : Nat) (vs : List Value) (used : List Nat) {m2 : Mem} {Q2 : PM}, Trans K m Q w K2 m2 Q2 w2 → RVs K2 m2.get Q2 w w2 cs vs used →
    ∃ Q3, Trans K m Q w K2 (adopts glob j cs m2).2 Q3 w2 ∧ Grow true m2.get Q2 (adopts glob j cs m2).2.get Q3 ∧ Vs K2 (adopts glob j cs m2).2.get Q3 true (adopts glob j cs m2).1 vs := by
  intro cs
  induction cs with
  | nil =>
    intro j vs used m2 Q2 hT h
    simp only [RVs] at h; subst h
    exact ⟨Q2, hT, Grow.refl _ _ _, by simp [adopts, Vs]⟩
  | cons c cs ih =>
    intro j vs used m2 Q2 hT h
    simp only [RVs] at h
    obtain ⟨v, r, o, rfl, h1, h2, h3⟩ := h
    obtain ⟨Q3, hT3, hG3, hV3, hb3⟩ := adopt1_run (glob := glob) (j := j) hT h1
    have h3' : RVs K2 (adopt1 glob j c m2).2.get Q3 w w2 cs r (o.toList ++ used) := by
      have key : ∀ (cs : List CV) (r : List Value) (u : List Nat), (∀ b, o = some b → b ∈ u) → RVs K2 m2.get Q2 w w2 cs r u → RVs K2 (adopt1 glob j c m2).2.get Q3 w w2 cs r u := by
        intro cs
        induction cs with
        | nil => intro r u _ h; exact h
        | cons c' cs ih' =>
          intro r u hu h
          simp only [RVs] at h ⊢
          obtain ⟨v', r', o', rfl, a1, a2, a3⟩ := h
          refine ⟨v', r', o', rfl, ?_, a2, ih' r' _ (fun b hb => List.mem_append_right _ (hu b hb)) a3⟩
          refine a1.mono (fun c v _ hv => V_mono (fun _ _ _ h => h) hG3.sub (fun h => h) hG3.sub c v hv) (.inr hG3.sub) fun b hb k p hp he => ?_
          rcases hb3 k p hp with hq | hq
          · cases c' <;> simp only [RV1] at a1
            case own =>
              rcases a1 with ⟨rfl, _⟩ | ⟨q, cap, hq1, _, hq2, _⟩
              · cases hb
              · rw [hb] at hq1; simp only [Option.some.injEq] at hq1
                exact hq2 k p hq (by omega)
            all_goals (rw [a1.1] at hb; cases hb)
          · exact a2 b hb (by rw [← he]; exact hu _ hq)
      exact key cs r _ (fun b hb => by simp [hb]) h3
    obtain ⟨Q4, hT4, hG4, hV4⟩ := ih (j + 1) r _ hT3 h3'
    refine ⟨Q4, hT4, hG3.trans hG4, ?_⟩
    simp only [adopts, Vs]
    exact ⟨v, r, rfl, V_mono (fun _ _ _ h => h) hG4.sub (fun h => h) hG4 _ _ hV3, hV4⟩

theorem adopt_run {glob : Bool} {d : Nat} {c : CV} {v : Value} (hT : Trans K m Q w K2 m2 Q2 w2) (h : RV K2 m2.get Q2 w w2 c v) :
    ∃ Q3, Trans K m Q w K2 (adopt glob d c m2).2 Q3 w2 ∧ Vt K2 (adopt glob d c m2).2 Q3 (adopt glob d c m2).1 v := by
  cases c
  case tuple cs =>
    simp only [RV] at h
    obtain ⟨vs, rfl, h⟩ := h
    obtain ⟨Q3, h1, _, h2⟩ := adopts_run (glob := glob) cs (16 * d + 1) _ _ hT h
    refine ⟨Q3, by simpa [adopt] using h1, ?_⟩
    simp only [adopt, Vt, V]
    exact ⟨vs, rfl, h2⟩
  all_goals
    simp only [RV] at h
    obtain ⟨o, h⟩ := h
    obtain ⟨Q3, h1, _, h2, _⟩ := adopt1_run (glob := glob) (j := 16 * d) hT h
    exact ⟨Q3, by simpa [adopt] using h1, by simpa [adopt] using h2⟩

theorem RVs.mono {cs : List CV} {vs : List Value} {used : List Nat} (h : RVs K M Q w0 w cs vs used) (hV : ∀ c v, (noG c = true ∨ Grow false M Q M' Q') → V K M Q false c v → V K M' Q' false c v)
    (hg : noGs cs = true ∨ Grow false M Q M' Q') (hQ : ∀ b, w0.heap.size ≤ b → (∀ k p, Q k = some p → p.blk ≠ b) → ∀ k p, Q' k = some p → p.blk ≠ b) : RVs K M' Q' w0 w cs vs used := by
  induction cs generalizing vs used with
  | nil => exact h
  | cons c cs ih =>
    simp only [RVs] at h ⊢
    obtain ⟨v, r, o, rfl, a1, a2, a3⟩ := h
    have hgc : noG c = true ∨ Grow false M Q M' Q' := by
      rcases hg with hg | hg
      · simp only [noGs, Bool.and_eq_true] at hg; exact .inl hg.1
      · exact .inr hg
    have hgs : noGs cs = true ∨ Grow false M Q M' Q' := by
      rcases hg with hg | hg
      · simp only [noGs, Bool.and_eq_true] at hg; exact .inl hg.2
      · exact .inr hg
    refine ⟨v, r, o, rfl, a1.mono hV hgc fun b hb => ?_, a2, ih a3 hgs⟩
    cases c <;> simp only [RV1] at a1
    case own =>
      rcases a1 with ⟨rfl, _⟩ | ⟨q, cap, hq1, hq0, hq2, _⟩
      · cases hb
      · rw [hb] at hq1; simp only [Option.some.injEq] at hq1
        exact hQ b (by omega) (fun k p hp => by rw [hq1]; exact hq2 k p hp)
    all_goals (rw [a1.1] at hb; cases hb)
theorem RV.mono {c : CV} {v : Value} (h : RV K M Q w0 w c v) (hV : ∀ c v, (noG c = true ∨ Grow false M Q M' Q') → V K M Q false c v → V K M' Q' false c v)
    (hg : noG c = true ∨ Grow false M Q M' Q') (hQ : ∀ b, w0.heap.size ≤ b → (∀ k p, Q k = some p → p.blk ≠ b) → ∀ k p, Q' k = some p → p.blk ≠ b) : RV K M' Q' w0 w c v := by
  cases c
  case tuple cs =>
    simp only [RV] at h ⊢
    obtain ⟨vs, rfl, h⟩ := h
    refine ⟨vs, rfl, h.mono hV ?_ hQ⟩
    rcases hg with hg | hg
    · exact .inl (by simpa [noG] using hg)
    · exact .inr hg
  case own n sz cs vl =>
    simp only [RV] at h ⊢
    obtain ⟨o, a1⟩ := h
    refine ⟨o, a1.mono hV hg fun b hb => ?_⟩
    simp only [RV1] at a1
    rcases a1 with ⟨rfl, _⟩ | ⟨q, cap, hq1, hq0, hq2, _⟩
    · cases hb
    · rw [hb] at hq1; simp only [Option.some.injEq] at hq1
      exact hQ b (by omega) (fun k p hp => by rw [hq1]; exact hq2 k p hp)
  all_goals
    simp only [RV] at h ⊢
    obtain ⟨o, a1⟩ := h
    refine ⟨o, a1.mono hV hg fun b hb => ?_⟩
    simp only [RV1] at a1
    rw [a1.1] at hb; cases hb

theorem RVs_scalar {K' : KM} {M' : MM} {Q' : PM} : ∀ (cs : List CV) (l : List Value) (u : List Nat), scalar (.tuple cs) = true → RVs K M Q w0 w cs l u → RVs K' M' Q' w0 w cs l u
  | [], _, _, _, h => by simpa [RVs] using h
  | c :: cs, l, u, hs, h => by
    simp only [scalar, List.all_cons, Bool.and_eq_true] at hs
    simp only [RVs] at h ⊢
    obtain ⟨v, r, o, rfl, a1, a2, a3⟩ := h
    refine ⟨v, r, o, rfl, ?_, a2, RVs_scalar cs r _ (by simpa [scalar] using hs.2) a3⟩
    cases c <;> simp only [Bool.false_eq_true, false_and, and_false] at hs <;> simpa only [RV1, V] using a1
theorem RV_scalar {c : CV} {v : Value} (hs : scalar c = true) (h : RV K M Q w0 w c v) {K' : KM} {M' : MM} {Q' : PM} : RV K' M' Q' w0 w c v := by
  cases c <;> first
    | (simp only [RV] at h ⊢
       obtain ⟨vs, rfl, h⟩ := h
       exact ⟨vs, rfl, RVs_scalar _ _ _ hs h⟩)
    | (simp only [RV, RV1, V] at h ⊢
       exact h)
    | (simp only [scalar, Bool.false_eq_true] at hs)

/-- a memory that a call has left alone -/
theorem MR.apart (h : MR K M Q w) (hkk : ∀ b o v, K b o = some v → K' b o = some v) (hstab : ∀ b o v, K' b o = some v → w'.cell? ⟨b, o, none⟩ = some v)
    (hkn : ∀ k q o, Q k = some q → K q.blk o = none → K' q.blk o = none) (hw : ∀ b, b < w.heap.size → w'.heap[b]? = w.heap[b]?) (hs : w.heap.size ≤ w'.heap.size) : MR K' M Q w' := by
  refine ⟨hstab, fun k x hx => ?_, h.inj, fun k q hq => ?_⟩
  · exact (h.objs k x hx).mono hkk (Grow.refl _ _ _) (fun _ h => h) (fun q hq => hw _ (h.dom _ _ hq).2) (fun q hq o _ ho => hkn k q o hq ho)
  · obtain ⟨a, b⟩ := h.dom k q hq
    exact ⟨a, Nat.lt_of_lt_of_le b hs⟩
theorem MR.none (h : ∀ b o v, K b o = some v → w.cell? ⟨b, o, none⟩ = some v) : MR K (gm []) (fun _ => none) w :=
  ⟨h, fun k x hx => by cases k <;> simp [gm] at hx, fun _ _ _ _ hq => by simp at hq, fun _ _ hq => by simp at hq⟩

theorem callC_run {F : Oracle} (hS : Sim P F) {A : Ann} {fid f : FuncId} {d : Option Tmp} (hR : MR K m.get Q w) {args : List CV} {vs : Array Value} {c : CV} (hV : Vs K m.get Q true args vs.toList)
    (h : callC A F fid d f args m = some (c, m')) : (∃ fn, P.funcs[f]? = some fn ∧ fn.body.isSome = true) ∧
    Calls P f vs w fun e w' => ∃ v K' Q', e = .returned v ∧ Trans K m Q w K' m' Q' w' ∧ Vt K' m' Q' c v := by
  simp only [callC, Option.bind_eq_some_iff] at h
  obtain ⟨⟨xs, m1⟩, hx, h⟩ := h
  obtain ⟨K1, hl, hV1, _, _⟩ := escList_run hR hV hx
  simp only at h
  have fin : ∀ {K2 : KM} {Q2 : PM} {w2 : World} {m2 : Mem} {r : CV} {v : Value}, Trans K m Q w K2 m2 Q2 w2 → RV K2 m2.get Q2 w w2 r v →
      takes (A.glob fid) d r m2 = some (c, m') → ∃ v' K' Q', Ending.returned v = Ending.returned v' ∧ Trans K m Q w K' m' Q' w2 ∧ Vt K' m' Q' c v' := by
    intro K2 Q2 w2 m2 r v hT hRV he
    cases d with
    | none =>
      simp only [takes, Option.some.injEq, Prod.mk.injEq] at he
      obtain ⟨rfl, rfl⟩ := he
      exact ⟨v, K2, Q2, rfl, hT, by simp [Vt, V]⟩
    | some d =>
      simp only [takes, Option.some.injEq] at he
      obtain ⟨Q3, h1, h2⟩ := adopt_run (glob := (A.glob fid).contains d) (d := d) hT hRV
      rw [he] at h1 h2
      exact ⟨v, K2, Q3, rfl, h1, h2⟩
  split at h
  · split at h
    · rename_i hng
      simp only [Option.bind_eq_some_iff] at h
      obtain ⟨⟨r, H'⟩, hr, h⟩ := h
      simp only at h
      split at h
      · rename_i hngr
        obtain ⟨hex, hsim⟩ := hS _ _ _ _ _ hr
        refine ⟨hex, (hsim K1 (fun _ => none) w vs (MR.none hl.mr.stab) (noGs_V _ _ hng hV1)).mono ?_⟩
        rintro e w2 ⟨v, K2, Q2, rfl, hmr2, hsi, hrv⟩
        have hw : ∀ b, b < w.heap.size → w2.heap[b]? = w.heap[b]? := fun b hb => hsi.frame b hb (by simp)
        by_cases hsc : scalar r = true
        · rw [if_pos hsc] at h
          refine fin (K2 := K) (Q2 := Q) (m2 := m) ?_ (RV_scalar hsc hrv) h
          refine ⟨hR.apart (fun _ _ _ h => h) (fun b o v hv => ?_) (fun _ _ _ _ h => h) hw hsi.size, fun _ _ _ h => h, Grow.refl _ _ _, hsi.size, fun b hb _ => hw b hb, fun _ _ _ h => .inl h, fun k q hq => .inl ⟨q, hq, rfl⟩, hsi.io⟩
          have hc := hR.stab b o v hv
          rw [cell?_of_heap (hw b (World.block_lt_of_cell? _ _ hc))]; exact hc
        · rw [if_neg hsc] at h
          have hkn : ∀ k q o, Q k = some q → K1 q.blk o = none → K2 q.blk o = none := by
            intro k q o hq ho
            cases hk : K2 q.blk o with
            | none => rfl
            | some v =>
              rcases hsi.kn _ _ _ hk with h1 | ⟨_, _, h1, _⟩ | h1
              · rw [ho] at h1; cases h1
              · cases h1
              · have := (hR.dom _ _ hq).2; omega
          refine fin (K2 := K2) (Q2 := Q) (m2 := m1) (hl.toTrans.trans ?_) (hrv.mono (fun c v hg hv => ?_) (.inl hngr) (fun b hb _ k p hp => ?_)) h
          · refine ⟨hl.mr.apart hsi.kk hmr2.stab hkn hw hsi.size, hsi.kk, Grow.refl _ _ _, hsi.size, fun b hb _ => hw b hb, fun b o v hv => ?_, fun k q hq => .inl ⟨q, hq, rfl⟩, hsi.io⟩
            rcases hsi.kn _ _ _ hv with h1 | ⟨_, _, h1, _⟩ | h1
            · exact .inl h1
            · cases h1
            · exact .inr (.inr h1)
          · rcases hg with hg | hg
            · exact noG_V c v hg hv
            · exact V_mono (fun _ _ _ h => h) hg (fun h => h) hg c v hv
          · have := (hR.dom _ _ hp).2; omega
      · cases h
    · cases h
  · simp only [Option.bind_eq_some_iff] at h
    obtain ⟨⟨r, H'⟩, hr, h⟩ := h
    simp only at h
    obtain ⟨hex, hsim⟩ := hS _ _ _ _ _ hr
    have hG := Grow.glob (m := m1) (Q := Q)
    refine ⟨hex, (hsim K1 (gp Q) w vs hl.mr.glob (Vs_mono (fun _ _ _ h => h) hG (fun h => h) hG _ _ hV1)).mono ?_⟩
    rintro e w2 ⟨v, K2, Q2, rfl, hmr2, hsi, hrv⟩
    have hT := hl.toTrans.trans (call_back hl.mr hmr2 hsi)
    refine fin hT (hrv.mono (fun c v hg hv => ?_) (.inr ?_) (fun b hb hne k p hp => ?_)) h
    · rcases hg with hg | hg
      · exact noG_V c v hg hv
      · exact V_mono (fun _ _ _ h => h) hg (fun h => h) hg c v hv
    · intro k x hk hx
      cases k with
      | l j => simp [keyOK] at hk
      | g n => exact ⟨x, hx, Nat.le_refl _, fun _ => ⟨fun q hq => hq, fun g sz cs vl he => ⟨cs, vl, he, Nat.le_refl _⟩⟩⟩
    · cases k with
      | l j => have := (hR.dom _ _ hp).2; omega
      | g n => exact hne _ _ hp
end
end Go.Cm
