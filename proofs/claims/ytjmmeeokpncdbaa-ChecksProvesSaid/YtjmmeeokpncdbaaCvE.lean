/-
  The C machine, fifth part: Go's memory holds what the machine's memory says; what stays so behind a write, a new block, a look.
-/
import Derived.Test.YtjmmeeokpncdbaaCvD
set_option linter.unusedSimpArgs false
set_option linter.unusedVariables false
namespace Go.Cm

def flag : Key → HO → Bool
  | .l _, .var _ _ _ => true
  | _, _ => false

/-- a block's cells are an object's -/
structure CellsOK (K : KM) (M : MM) (P : PM) (w : World) (loc : Bool) (cs : List CV) (vl : Nat) (q : Pl) : Prop where
  row : ∃ es t, w.heap[q.blk]? = some (.cells es t (0, 0)) ∧ es.size = q.bsz ∧
    ∀ (i : Nat) (c : CV), cs[i]? = some c → leafV c = true ∧ ∃ v, es[q.base + i]? = some v ∧ V K M P loc c v
  fits : q.base + cs.length ≤ q.bsz
  free : ∀ o, q.base + vl ≤ o → K q.blk o = none

def EntryOK (K : KM) (M : MM) (P : PM) (e : CV × CV) (x : MapEntry) : Prop := V K M P false e.1 x.key ∧ V K M P false e.2 x.val
def MapOK (K : KM) (M : MM) (P : PM) (w : World) (es : List (CV × CV)) (q : Pl) : Prop :=
  ∃ xs clk, w.heap[q.blk]? = some (.map xs clk) ∧ xs.size = es.length ∧ ∀ (i : Nat) (e : CV × CV), es[i]? = some e → ∃ x, xs[i]? = some x ∧ EntryOK K M P e x

def OK1 (K : KM) (M : MM) (P : PM) (w : World) (k : Key) (h : HO) : Prop :=
  ∀ q, P k = some q → match h with
    | .map _ es => MapOK K M P w es q
    | h => CellsOK K M P w (flag k h) h.cells h.vl q

structure MR (K : KM) (M : MM) (P : PM) (w : World) : Prop where
  stab : ∀ b o v, K b o = some v → w.cell? ⟨b, o, none⟩ = some v
  objs : ∀ k h, M k = some h → OK1 K M P w k h
  inj : ∀ k k' q q', P k = some q → P k' = some q' → q.blk = q'.blk → k = k'
  dom : ∀ k q, P k = some q → (∃ h, M k = some h) ∧ q.blk < w.heap.size

section
variable {K K' : KM} {M M' : MM} {P P' : PM} {w w' : World}

theorem CellsOK.mono {loc : Bool} {cs : List CV} {vl : Nat} {q : Pl} (h : CellsOK K M P w loc cs vl q)
    (hK : ∀ b o v, K b o = some v → K' b o = some v) (hG : Grow true M P M' P')
    (hw : w'.heap[q.blk]? = w.heap[q.blk]?) (hf : ∀ o, q.base + vl ≤ o → K' q.blk o = none) : CellsOK K' M' P' w' loc cs vl q := by
  obtain ⟨⟨es, t, h1, h2, h3⟩, h4, _⟩ := h
  refine ⟨⟨es, t, by rw [hw]; exact h1, h2, fun i c hc => ?_⟩, h4, hf⟩
  obtain ⟨hl, v, hv, hV⟩ := h3 i c hc
  refine ⟨hl, v, hv, V_mono hK hG.sub (fun h => h) ?_ c v hV⟩
  cases loc
  · exact hG.sub
  · exact hG
theorem MapOK.mono {es : List (CV × CV)} {q : Pl} (h : MapOK K M P w es q)
    (hK : ∀ b o v, K b o = some v → K' b o = some v) (hG : Grow true M P M' P') (hw : w'.heap[q.blk]? = w.heap[q.blk]?) : MapOK K' M' P' w' es q := by
  obtain ⟨xs, clk, h1, h2, h3⟩ := h
  refine ⟨xs, clk, by rw [hw]; exact h1, h2, fun i e he => ?_⟩
  obtain ⟨x, hx, ha, hb⟩ := h3 i e he
  exact ⟨x, hx, V_mono hK hG.sub (fun h => h) hG.sub _ _ ha, V_mono hK hG.sub (fun h => h) hG.sub _ _ hb⟩

theorem OK1.mono {k : Key} {h : HO} (ho : OK1 K M P w k h) (hK : ∀ b o v, K b o = some v → K' b o = some v) (hG : Grow true M P M' P')
    (hP : ∀ q, P' k = some q → P k = some q) (hw : ∀ q, P k = some q → w'.heap[q.blk]? = w.heap[q.blk]?)
    (hf : ∀ q, P k = some q → ∀ o, q.base + h.vl ≤ o → K q.blk o = none → K' q.blk o = none) : OK1 K' M' P' w' k h := by
  intro q hq
  have hq' := hP q hq
  have := ho q hq'
  cases h with
  | map g es => exact MapOK.mono this hK hG (hw q hq')
  | var g cs vl => exact CellsOK.mono this hK hG (hw q hq') (fun o hle => hf q hq' o hle (this.free o hle))
  | arr g sz cs vl => exact CellsOK.mono this hK hG (hw q hq') (fun o hle => hf q hq' o hle (this.free o hle))

theorem cell?_of_heap {w w' : World} {b o : Nat} (h : w'.heap[b]? = w.heap[b]?) : w'.cell? ⟨b, o, none⟩ = w.cell? ⟨b, o, none⟩ := by
  simp [World.cell?, h]

/-- the same memory -/
theorem MR.same (h : MR K M P w) (hw : w'.heap = w.heap) : MR K M P w' :=
  ⟨fun b o v hv => (cell?_of_heap (w := w) (w' := w') (by rw [hw])).trans (h.stab b o v hv),
   fun k x hx => (h.objs k x hx).mono (fun _ _ _ h => h) (Grow.refl _ _ _) (fun _ h => h) (fun _ _ => by rw [hw]) (fun _ _ _ _ h => h),
   h.inj, fun k q hq => by rw [hw]; exact h.dom k q hq⟩

def upd (M : MM) (k : Key) (h : HO) : MM := fun k' => if k = k' then some h else M k'
def updP (P : PM) (k : Key) (q : Option Pl) : PM := fun k' => if k = k' then q else P k'

theorem Grow.upd {k : Key} {h : HO} {q : Option Pl} (hx : ∀ y, M k = some y → y.gn ≤ h.gn ∧ (y.gn = h.gn → Pres y h (P k) q)) : Grow true M P (upd M k h) (updP P k q) := by
  intro k' y _ hy
  by_cases he : k = k'
  · subst he
    exact ⟨h, by simp [Cm.upd], (hx y hy).1, fun hg => by simpa [updP] using (hx y hy).2 hg⟩
  · exact ⟨y, by simp [Cm.upd, he, hy], Nat.le_refl _, fun _ => by
      simp only [updP, he, if_false]
      exact ⟨fun q hq => hq, fun g sz cs vl h' => ⟨cs, vl, h', Nat.le_refl _⟩⟩⟩

/-- an object's own block is written: all other blocks stay -/
theorem MR.write (h : MR K M P w) {k : Key} {x : HO} {q q' : Pl} (hq : P k = some q) (hb : q'.blk = q.blk)
    (hgen : ∀ y, M k = some y → y.gn ≤ x.gn ∧ (y.gn = x.gn → Pres y x (P k) (some q')))
    (hothers : ∀ b, b ≠ q.blk → w'.heap[b]? = w.heap[b]?) (hsize : w'.heap.size = w.heap.size)
    (hstab : ∀ o v, K q.blk o = some v → w'.cell? ⟨q.blk, o, none⟩ = some v)
    (hok : OK1 K (upd M k x) (updP P k (some q')) w' k x) : MR K (upd M k x) (updP P k (some q')) w' := by
  have hG : Grow true M P (upd M k x) (updP P k (some q')) := Grow.upd hgen
  refine ⟨fun b o v hv => ?_, fun k' y hy => ?_, fun k1 k2 q1 q2 h1 h2 he => ?_, fun k' q1 h1 => ?_⟩
  · by_cases hbb : b = q.blk
    · subst hbb; exact hstab o v hv
    · rw [cell?_of_heap (hothers b hbb)]; exact h.stab b o v hv
  · by_cases he : k = k'
    · subst he
      simp only [upd, if_true, Option.some.injEq] at hy
      subst hy; exact hok
    · simp only [upd, he, if_false] at hy
      refine (h.objs k' y hy).mono (fun _ _ _ h => h) hG (fun q1 h1 => by simpa [updP, he] using h1) (fun q1 h1 => hothers _ fun hc => he (h.inj _ _ _ _ hq h1 hc.symm)) (fun _ _ _ _ h => h)
  · simp only [updP] at h1 h2
    split at h1 <;> split at h2
    · rename_i a b; rw [← a, ← b]
    · rename_i a b
      simp only [Option.some.injEq] at h1; subst h1
      exact absurd (h.inj _ _ _ _ hq h2 (by rw [← hb]; exact he)) b
    · rename_i a b
      simp only [Option.some.injEq] at h2; subst h2
      exact absurd (h.inj _ _ _ _ hq h1 (by rw [← hb]; exact he.symm)) a
    · exact h.inj _ _ _ _ h1 h2 he
  · simp only [updP] at h1
    split at h1
    · rename_i a
      simp only [Option.some.injEq] at h1; subst h1
      exact ⟨⟨x, by simp [upd, a]⟩, by rw [hsize, hb]; exact (h.dom k q hq).2⟩
    · rename_i a
      obtain ⟨⟨y, hy⟩, hlt⟩ := h.dom k' q1 h1
      exact ⟨⟨y, by simp [upd, a, hy]⟩, by rw [hsize]; exact hlt⟩

/-- a key's object has moved to a new block (or has none) -/
theorem MR.move (h : MR K M P w) {k : Key} {x : HO} {q : Option Pl}
    (hgen : ∀ y, M k = some y → y.gn < x.gn)
    (hothers : ∀ b, b < w.heap.size → w'.heap[b]? = w.heap[b]?) (hsize : w.heap.size ≤ w'.heap.size)
    (hnew : ∀ p, q = some p → w.heap.size ≤ p.blk ∧ p.blk < w'.heap.size)
    (hok : OK1 K (upd M k x) (updP P k q) w' k x) : MR K (upd M k x) (updP P k q) w' := by
  have hG : Grow true M P (upd M k x) (updP P k q) := Grow.upd fun y hy => ⟨Nat.le_of_lt (hgen y hy), fun he => absurd he (Nat.ne_of_lt (hgen y hy))⟩
  refine ⟨fun b o v hv => ?_, fun k' y hy => ?_, fun k1 k2 q1 q2 h1 h2 he => ?_, fun k' q1 h1 => ?_⟩
  · have hc := h.stab b o v hv
    rw [cell?_of_heap (hothers b (World.block_lt_of_cell? _ _ hc))]; exact hc
  · by_cases he : k = k'
    · subst he
      simp only [upd, if_true, Option.some.injEq] at hy
      subst hy; exact hok
    · simp only [upd, he, if_false] at hy
      exact (h.objs k' y hy).mono (fun _ _ _ h => h) hG (fun q1 h1 => by simpa [updP, he] using h1) (fun q1 h1 => hothers _ (h.dom _ _ h1).2) (fun _ _ _ _ h => h)
  · simp only [updP] at h1 h2
    split at h1 <;> split at h2
    · rename_i a b; rw [← a, ← b]
    · have a1 := hnew _ h1; have a2 := (h.dom _ _ h2).2; omega
    · have a1 := hnew _ h2; have a2 := (h.dom _ _ h1).2; omega
    · exact h.inj _ _ _ _ h1 h2 he
  · simp only [updP] at h1
    split at h1
    · rename_i a
      exact ⟨⟨x, by simp [upd, a]⟩, (hnew _ h1).2⟩
    · rename_i a
      obtain ⟨⟨y, hy⟩, hlt⟩ := h.dom k' q1 h1
      exact ⟨⟨y, by simp [upd, a, hy]⟩, Nat.lt_of_lt_of_le hlt hsize⟩

/-- some of an object's cells are looked at for ever -/
theorem MR.look (h : MR K M P w) {k : Key} {x y : HO} (hx : M k = some x) (hy : y.gn = x.gn) (hc : y.cells = x.cells) (hm : x.isMap = false)
    (hs : y = x.withCells x.cells ∨ ∃ n, y = x.seen n) (hvl : x.vl ≤ y.vl)
    (hK : ∀ b o v, K b o = some v → K' b o = some v)
    (hK' : ∀ b o v, K' b o = some v → K b o = some v ∨ ∃ q, P k = some q ∧ b = q.blk ∧ q.base ≤ o ∧ o < q.base + y.vl ∧ w.cell? ⟨b, o, none⟩ = some v) :
    MR K' (upd M k y) P w := by
  have hG : Grow true M P (upd M k y) P := by
    intro k' z _ hz
    by_cases he : k = k'
    · subst he
      rw [hx] at hz; simp only [Option.some.injEq] at hz; subst hz
      refine ⟨y, by simp [upd], by omega, fun _ => ⟨fun q hq => hq, fun g sz cs vl hh => ?_⟩⟩
      subst hh
      rcases hs with hs | ⟨n, hs⟩ <;> subst hs <;> exact ⟨cs, _, rfl, Nat.le_refl _⟩
    · exact ⟨z, by simp [upd, he, hz], Nat.le_refl _, fun _ => ⟨fun q hq => hq, fun g sz cs vl h' => ⟨cs, vl, h', Nat.le_refl _⟩⟩⟩
  refine ⟨fun b o v hv => ?_, fun k' z hz => ?_, h.inj, fun k' q1 h1 => ?_⟩
  · rcases hK' b o v hv with h1 | ⟨q, _, _, _, _, h1⟩
    · exact h.stab b o v h1
    · exact h1
  · have hfree : ∀ k1 q, P k1 = some q → k1 ≠ k → ∀ o, K q.blk o = none → K' q.blk o = none := by
      intro k1 q hq hne o ho
      cases hk : K' q.blk o with
      | none => rfl
      | some v =>
        rcases hK' _ _ _ hk with h1 | ⟨q', hq', hb, _⟩
        · rw [ho] at h1; cases h1
        · exact absurd (h.inj _ _ _ _ hq hq' hb) hne
    by_cases he : k = k'
    · subst he
      simp only [upd, if_true, Option.some.injEq] at hz
      subst hz
      intro q hq
      have h0 := h.objs k x hx q hq
      have hcell : CellsOK K M P w (flag k x) x.cells x.vl q := by cases x <;> simp_all [HO.isMap]
      have hfl : flag k y = flag k x := by
        rcases hs with hs | ⟨n, hs⟩ <;> subst hs <;> cases k <;> cases x <;> simp_all [HO.withCells, HO.seen, flag, HO.isMap]
      have hnm : y.isMap = false := by rcases hs with hs | ⟨n, hs⟩ <;> subst hs <;> cases x <;> simp_all [HO.withCells, HO.seen, HO.isMap]
      have hres : CellsOK K' (upd M k y) P w (flag k y) y.cells y.vl q := by
        rw [hfl, hc]
        refine (show CellsOK K M P w (flag k x) x.cells y.vl q from ⟨hcell.row, hcell.fits, fun o ho => hcell.free o (by omega)⟩).mono hK hG rfl fun o ho => ?_
        cases hk : K' q.blk o with
        | none => rfl
        | some v =>
          rcases hK' _ _ _ hk with h1 | ⟨q', hq', hb, h2, h3, _⟩
          · have := hcell.free o (by omega); rw [this] at h1; cases h1
          · rw [hq] at hq'; simp only [Option.some.injEq] at hq'; subst hq'; omega
      cases y <;> first | exact hres | simp [HO.isMap] at hnm
    · simp only [upd, he, if_false] at hz
      exact (h.objs k' z hz).mono hK hG (fun _ h => h) (fun _ _ => rfl) (fun q hq o _ ho => hfree k' q hq (Ne.symm he) o ho)
  · obtain ⟨⟨z, hz⟩, hlt⟩ := h.dom k' q1 h1
    refine ⟨?_, hlt⟩
    by_cases he : k = k'
    · exact ⟨y, by simp [upd, he]⟩
    · exact ⟨z, by simp [upd, he, hz]⟩
end
end Go.Cm
