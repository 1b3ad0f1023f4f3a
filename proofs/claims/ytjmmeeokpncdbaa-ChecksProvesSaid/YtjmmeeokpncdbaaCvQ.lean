/-
  The C machine, seventeenth part: calls.
-/
import Derived.Test.YtjmmeeokpncdbaaCvP
set_option linter.unusedSimpArgs false
set_option linter.unusedVariables false
namespace Go.Cm

/-- everybody's memory -/
def gm (H : List HO) : MM := fun k => match k with
  | .g n => H[n]?
  | .l _ => none
def gp (Q : PM) : PM := fun k => match k with
  | .g n => Q (.g n)
  | .l _ => none

/-- a result, and the block that it brings -/
def RV1 (K : KM) (M : MM) (Q : PM) (w0 w : World) (c : CV) (v : Value) (o : Option Nat) : Prop :=
  match c with
  | .own n sz cs vl => (o = none ∧ n = 0 ∧ cs = [] ∧ ∃ a, v = .slice a 0 0) ∨
      ∃ q cap, o = some q.blk ∧ w0.heap.size ≤ q.blk ∧ (∀ k p, Q k = some p → p.blk ≠ q.blk) ∧ v = .slice (some ⟨q.blk, q.base, none⟩) n cap ∧ n ≤ cap ∧ q.base + cap * sz ≤ q.bsz ∧ n * sz ≤ cs.length ∧ CellsOK K M Q w false cs vl q
  | c => o = none ∧ V K M Q false c v
def RVs (K : KM) (M : MM) (Q : PM) (w0 w : World) : List CV → List Value → List Nat → Prop
  | [], vs, _ => vs = []
  | c :: cs, vs, used => ∃ v r o, vs = v :: r ∧ RV1 K M Q w0 w c v o ∧ (∀ b, o = some b → b ∉ used) ∧ RVs K M Q w0 w cs r (o.toList ++ used)
def RV (K : KM) (M : MM) (Q : PM) (w0 w : World) (c : CV) (v : Value) : Prop :=
  match c with
  | .tuple cs => ∃ vs : Array Value, v = .tuple vs ∧ RVs K M Q w0 w cs vs.toList []
  | c => ∃ o, RV1 K M Q w0 w c v o

/-- what a call leaves -/
structure Since (w0 : World) (H0 : List HO) (K0 : KM) (P0 : PM) (w : World) (H : List HO) (K : KM) (P : PM) : Prop where
  frame : ∀ b, b < w0.heap.size → (∀ k q, P0 k = some q → q.blk ≠ b) → w.heap[b]? = w0.heap[b]?
  size : w0.heap.size ≤ w.heap.size
  kk : ∀ b o v, K0 b o = some v → K b o = some v
  kn : ∀ b o v, K b o = some v → K0 b o = some v ∨ (∃ k q, P0 k = some q ∧ q.blk = b) ∨ w0.heap.size ≤ b
  grow : Grow false (gm H0) P0 (gm H) P
  pn : ∀ k q, P k = some q → (∃ q0, P0 k = some q0 ∧ q0.blk = q.blk) ∨ (w0.heap.size ≤ q.blk ∧ ∀ h, gm H0 k = some h → ∃ h', gm H k = some h' ∧ h.gn < h'.gn)
  io : Kept w0 w

/-- a call of the program does what the machine says -/
def SimAt (P : Program) (f : FuncId) (args : List CV) (H : List HO) (r : CV) (H' : List HO) : Prop :=
  (∃ fn, P.funcs[f]? = some fn ∧ fn.body.isSome = true) ∧
  ∀ K Q (w : World) (vs : Array Value), MR K (gm H) Q w → Vs K (gm H) Q false args vs.toList →
    Calls P f vs w fun e w' => ∃ v K' Q', e = .returned v ∧ MR K' (gm H') Q' w' ∧ Since w H K Q w' H' K' Q' ∧ RV K' (gm H') Q' w w' r v
def Sim (P : Program) (F : Oracle) : Prop := ∀ f args H r H', F f args H = some (r, H') → SimAt P f args H r H'

section
variable {K K' : KM} {Q Q' : PM} {P : Program} {w w' w0 : World} {m m' : Mem} {M M' : MM}

mutual
theorem noG_V {loc loc' : Bool} : ∀ (c : CV) (v : Value), noG c = true → V K M Q loc c v → V K M' Q' loc' c v
  | .dead, _, h, _ => by simp [noG] at h
  | .bool b, _, _, hv => by simpa [V] using hv
  | .int k n, _, _, hv => by simpa [V] using hv
  | .str s, _, _, hv => by simpa [V] using hv
  | .agg cs, v, h, hv => by
    simp only [V] at hv ⊢
    obtain ⟨h0, vs, h1, h2⟩ := hv
    exact ⟨h0, vs, h1, noGs_V cs _ (by simpa [noG] using h) h2⟩
  | .nil, _, _, hv => by simpa [V] using hv
  | .imm n cs, v, h, hv => by
    simp only [V] at hv ⊢
    obtain ⟨h0, a, cap, h1, h2, h3⟩ := hv
    refine ⟨h0, a, cap, h1, h2, ?_⟩
    rcases h3 with h3 | ⟨b, o, ha, hk⟩
    · exact .inl h3
    · exact .inr ⟨b, o, ha, noGs_Vk cs b o (by simpa [noG] using h) hk⟩
  | .own _ _ _ _, _, _, hv => by simp [V] at hv
  | .ref _ _ _ _, _, h, _ => by simp [noG] at h
  | .pnil, _, _, hv => by simpa [V] using hv
  | .ptr _ _ _, _, h, _ => by simp [noG] at h
  | .rptr cs, v, h, hv => by
    simp only [V] at hv ⊢
    obtain ⟨h0, b, o, h1, hk⟩ := hv
    exact ⟨h0, b, o, h1, noGs_Vk cs b o (by simpa [noG] using h) hk⟩
  | .mnil, _, _, hv => by simpa [V] using hv
  | .map _ _, _, h, _ => by simp [noG] at h
  | .func f a b, v, h, hv => by
    simp only [V] at hv ⊢
    simp only [noG, Bool.and_eq_true] at h
    obtain ⟨x, y, h1, h2, h3⟩ := hv
    exact ⟨x, y, h1, noGs_V a _ h.1 h2, noGs_V b _ h.2 h3⟩
  | .nilf, _, _, hv => by simpa [V] using hv
  | .inil, _, _, hv => by simpa [V] using hv
  | .iface t c, v, h, hv => by
    simp only [V] at hv ⊢
    obtain ⟨u, h1, h2⟩ := hv
    exact ⟨u, h1, noG_V c u (by simpa [noG] using h) h2⟩
  | .tuple cs, v, h, hv => by
    simp only [V] at hv ⊢
    obtain ⟨vs, h1, h2⟩ := hv
    exact ⟨vs, h1, noGs_V cs _ (by simpa [noG] using h) h2⟩
theorem noGs_V {loc loc' : Bool} : ∀ (cs : List CV) (vs : List Value), noGs cs = true → Vs K M Q loc cs vs → Vs K M' Q' loc' cs vs
  | [], _, _, hv => by simpa [Vs] using hv
  | c :: cs, vs, h, hv => by
    simp only [Vs] at hv ⊢
    simp only [noGs, Bool.and_eq_true] at h
    obtain ⟨v, r, h1, h2, h3⟩ := hv
    exact ⟨v, r, h1, noG_V c v h.1 h2, noGs_V cs r h.2 h3⟩
theorem noGs_Vk : ∀ (cs : List CV) (b o : Nat), noGs cs = true → Vk K M Q b o cs → Vk K M' Q' b o cs
  | [], _, _, _, _ => by simp [Vk]
  | c :: cs, b, o, h, hv => by
    simp only [Vk] at hv ⊢
    simp only [noGs, Bool.and_eq_true] at h
    obtain ⟨⟨v, h1, h2⟩, h3⟩ := hv
    exact ⟨⟨v, h1, noG_V c v h.1 h2⟩, noGs_Vk cs b (o + 1) h.2 h3⟩
end

theorem noGs_mem : ∀ {cs : List CV} {c : CV}, noGs cs = true → c ∈ cs → noG c = true
  | x :: cs, c, h, hc => by
    simp only [noGs, Bool.and_eq_true] at h
    cases hc with
    | head => exact h.1
    | tail _ hm => exact noGs_mem h.2 hm

/-- results in another memory that knows as much -/
theorem RV1.mono {c : CV} {v : Value} {o : Option Nat} (h : RV1 K M Q w0 w c v o) (hV : ∀ c v, (noG c = true ∨ Grow false M Q M' Q') → V K M Q false c v → V K M' Q' false c v)
    (hg : noG c = true ∨ Grow false M Q M' Q') (hQ : ∀ b, o = some b → ∀ k p, Q' k = some p → p.blk ≠ b) : RV1 K M' Q' w0 w c v o := by
  cases c
  case own n sz cs vl =>
    simp only [RV1] at h ⊢
    rcases h with h | ⟨q, cap, h1, h2, h3, h4, h5, h6, h7, ⟨⟨es, t, e1, e2, e3⟩, e4, e5⟩⟩
    · exact .inl h
    · refine .inr ⟨q, cap, h1, h2, hQ _ h1, h4, h5, h6, h7, ⟨⟨es, t, e1, e2, fun i c hc => ?_⟩, e4, e5⟩⟩
      obtain ⟨l1, u, hu, hVu⟩ := e3 i c hc
      refine ⟨l1, u, hu, hV c u ?_ hVu⟩
      rcases hg with hg | hg
      · exact .inl (noGs_mem (by simpa [noG] using hg) (List.mem_of_getElem? hc))
      · exact .inr hg
  all_goals
    simp only [RV1] at h ⊢
    exact ⟨h.1, hV _ _ hg h.2⟩

/-- the caller's own memory behind a call -/
theorem call_back {K1 K2 : KM} {Q2 : PM} {w2 : World} {m1 : Mem} {H2 : List HO} (h1 : MR K1 m1.get Q w) (h2 : MR K2 (gm H2) Q2 w2) (hs : Since w m1.H K1 (gp Q) w2 H2 K2 Q2) :
    Trans K1 m1 Q w K2 { L := m1.L, H := H2 } (fun k => match k with | .l j => Q (.l j) | .g n => Q2 (.g n)) w2 := by
  have hnl : ∀ j, Q2 (.l j) = none := by
    intro j
    cases hq : Q2 (.l j) with
    | none => rfl
    | some q => obtain ⟨⟨x, hx⟩, _⟩ := h2.dom _ _ hq; simp [gm] at hx
  have hgrow : Grow true m1.get Q ({ L := m1.L, H := H2 } : Mem).get (fun k => match k with | .l j => Q (.l j) | .g n => Q2 (.g n)) := by
    intro k x _ hx
    cases k with
    | l j => exact ⟨x, hx, Nat.le_refl _, fun _ => ⟨fun q hq => hq, fun g sz cs vl he => ⟨cs, vl, he, Nat.le_refl _⟩⟩⟩
    | g n =>
      obtain ⟨x', hx', hle, hp⟩ := hs.grow (.g n) x trivial hx
      exact ⟨x', hx', hle, fun he => hp he⟩
  have hgrow2 : Grow false (gm H2) Q2 ({ L := m1.L, H := H2 } : Mem).get (fun k => match k with | .l j => Q (.l j) | .g n => Q2 (.g n)) := by
    intro k x hk hx
    cases k with
    | l j => simp [keyOK] at hk
    | g n => exact ⟨x, hx, Nat.le_refl _, fun _ => ⟨fun q hq => hq, fun g sz cs vl he => ⟨cs, vl, he, Nat.le_refl _⟩⟩⟩
  -- a local block is as it was
  have hloc : ∀ j q, Q (.l j) = some q → w2.heap[q.blk]? = w.heap[q.blk]? ∧ ∀ o, K1 q.blk o = none → K2 q.blk o = none := by
    intro j q hq
    have hne : ∀ k q', gp Q k = some q' → q'.blk ≠ q.blk := by
      intro k q' hq' he
      cases k with
      | l i => simp [gp] at hq'
      | g n => have := h1.inj _ _ _ _ hq hq' he.symm; cases this
    refine ⟨hs.frame _ (h1.dom _ _ hq).2 hne, fun o ho => ?_⟩
    cases hk : K2 q.blk o with
    | none => rfl
    | some v =>
      rcases hs.kn _ _ _ hk with h | ⟨k, q', hq', he⟩ | h
      · rw [ho] at h; cases h
      · exact absurd he (hne k q' hq')
      · have := (h1.dom _ _ hq).2; omega
  refine ⟨⟨h2.stab, fun k x hx => ?_, fun k k' q q' hq hq' he => ?_, fun k q hq => ?_⟩, hs.kk, hgrow, hs.size, fun b hb hne => hs.frame b hb fun k q hq => ?_, fun b o v hv => ?_, fun k q hq => ?_, hs.io⟩
  · cases k with
    | l j => exact (h1.objs (.l j) x hx).mono hs.kk hgrow (fun q hq => hq) (fun q hq => (hloc j q hq).1) (fun q hq o _ ho => (hloc j q hq).2 o ho)
    | g n =>
      intro q hq
      have := h2.objs (.g n) x hx q hq
      cases x with
      | map g es =>
        obtain ⟨xs, clk, a, b, c⟩ := this
        refine ⟨xs, clk, a, b, fun i e he => ?_⟩
        obtain ⟨y, hy, ha, hb⟩ := c i e he
        exact ⟨y, hy, V_mono (fun _ _ _ h => h) hgrow2 (fun h => h) hgrow2 _ _ ha, V_mono (fun _ _ _ h => h) hgrow2 (fun h => h) hgrow2 _ _ hb⟩
      | var g cs vl =>
        obtain ⟨⟨es, t, a, b, c⟩, d, e⟩ := this
        refine ⟨⟨es, t, a, b, fun i c0 hc => ?_⟩, d, e⟩
        obtain ⟨l1, u, hu, hVu⟩ := c i c0 hc
        exact ⟨l1, u, hu, V_mono (fun _ _ _ h => h) hgrow2 (fun h => h) hgrow2 _ _ hVu⟩
      | arr g sz cs vl =>
        obtain ⟨⟨es, t, a, b, c⟩, d, e⟩ := this
        refine ⟨⟨es, t, a, b, fun i c0 hc => ?_⟩, d, e⟩
        obtain ⟨l1, u, hu, hVu⟩ := c i c0 hc
        exact ⟨l1, u, hu, V_mono (fun _ _ _ h => h) hgrow2 (fun h => h) hgrow2 _ _ hVu⟩
  · have cross : ∀ j n q q', Q (.l j) = some q → Q2 (.g n) = some q' → q.blk ≠ q'.blk := by
      intro j n q q' ha hb he
      rcases hs.pn _ _ hb with ⟨q0, h0, he0⟩ | ⟨hge, _⟩
      · have := h1.inj (.l j) (.g n) q q0 ha (by simpa [gp] using h0) (by omega); cases this
      · have := (h1.dom _ _ ha).2; omega
    cases k with
    | l j =>
      cases k' with
      | l j' => exact h1.inj _ _ _ _ hq hq' he
      | g n => exact absurd he (cross j n q q' hq hq')
    | g n =>
      cases k' with
      | l j' => exact absurd he.symm (cross j' n q' q hq' hq)
      | g n' => exact h2.inj _ _ _ _ hq hq' he
  · cases k with
    | l j =>
      obtain ⟨hx, hlt⟩ := h1.dom (.l j) q hq
      exact ⟨hx, Nat.lt_of_lt_of_le hlt hs.size⟩
    | g n => exact h2.dom (.g n) q hq
  · cases k with
    | l j => simp [gp] at hq
    | g n => exact hne (.g n) q hq
  · rcases hs.kn b o v hv with h | ⟨k, q, hq, he⟩ | h
    · exact .inl h
    · cases k with
      | l j => simp [gp] at hq
      | g n => exact .inr (.inl ⟨.g n, q, hq, he⟩)
    · exact .inr (.inr h)
  · cases k with
    | l j => exact .inl ⟨q, hq, rfl⟩
    | g n =>
      rcases hs.pn (.g n) q hq with ⟨q0, h0, he⟩ | ⟨hge, hgn⟩
      · exact .inl ⟨q0, by simpa [gp] using h0, he⟩
      · exact .inr ⟨hge, fun h hh => hgn h hh⟩

/-- everybody's part of the memory -/
theorem MR.glob (h : MR K m.get Q w) : MR K (gm m.H) (gp Q) w := by
  have hg : Grow false m.get Q (gm m.H) (gp Q) := by
    intro k x hk hx
    cases k with
    | l j => simp [keyOK] at hk
    | g n => exact ⟨x, hx, Nat.le_refl _, fun _ => ⟨fun q hq => hq, fun g sz cs vl he => ⟨cs, vl, he, Nat.le_refl _⟩⟩⟩
  refine ⟨h.stab, fun k x hx => ?_, fun k k' q q' hq hq' he => ?_, fun k q hq => ?_⟩
  · cases k with
    | l j => simp [gm] at hx
    | g n =>
      intro q hq
      have := h.objs (.g n) x hx q hq
      cases x with
      | map g es =>
        obtain ⟨xs, clk, a, b, c⟩ := this
        refine ⟨xs, clk, a, b, fun i e he => ?_⟩
        obtain ⟨y, hy, ha, hb⟩ := c i e he
        exact ⟨y, hy, V_mono (fun _ _ _ h => h) hg (fun h => h) hg _ _ ha, V_mono (fun _ _ _ h => h) hg (fun h => h) hg _ _ hb⟩
      | var g cs vl =>
        obtain ⟨⟨es, t, a, b, c⟩, d, e⟩ := this
        refine ⟨⟨es, t, a, b, fun i c0 hc => ?_⟩, d, e⟩
        obtain ⟨l1, u, hu, hVu⟩ := c i c0 hc
        exact ⟨l1, u, hu, V_mono (fun _ _ _ h => h) hg (fun h => h) hg _ _ hVu⟩
      | arr g sz cs vl =>
        obtain ⟨⟨es, t, a, b, c⟩, d, e⟩ := this
        refine ⟨⟨es, t, a, b, fun i c0 hc => ?_⟩, d, e⟩
        obtain ⟨l1, u, hu, hVu⟩ := c i c0 hc
        exact ⟨l1, u, hu, V_mono (fun _ _ _ h => h) hg (fun h => h) hg _ _ hVu⟩
  · cases k with
    | l j => simp [gp] at hq
    | g n =>
      cases k' with
      | l j => simp [gp] at hq'
      | g n' => exact h.inj _ _ _ _ hq hq' he
  · cases k with
    | l j => simp [gp] at hq
    | g n => exact h.dom (.g n) q hq
theorem Grow.glob : Grow false m.get Q (gm m.H) (gp Q) := by
  intro k x hk hx
  cases k with
  | l j => simp [keyOK] at hk
  | g n => exact ⟨x, hx, Nat.le_refl _, fun _ => ⟨fun q hq => hq, fun g sz cs vl he => ⟨cs, vl, he, Nat.le_refl _⟩⟩⟩
end
end Go.Cm
