/-
  The C machine, eighth part: the other operations that only answer a value, and all of these together.
-/
import Derived.Test.YtjmmeeokpncdbaaCvG
set_option linter.unusedSimpArgs false
set_option linter.unusedVariables false
namespace Go.Cm

section
variable {K : KM} {Q : PM} {P : Program} {w : World} {m : Mem}

theorem cun_run {op : UnOp} {a c : CV} {v : Value} (hv : Vt K m Q a v) (h : cun op a = some c) : ∃ r, (Op.unary op v).run P w = .ok r w ∧ Vt K m Q c r := by
  unfold cun at h
  split at h
  · simp only [Vt, V] at hv; subst hv; simp only [Option.some.injEq] at h; subst h
    exact ⟨_, by simp [Op.unary, Op.intArith]; rfl, by simp [Vt, V]⟩
  · simp only [Vt, V] at hv; subst hv; simp only [Option.some.injEq] at h; subst h
    exact ⟨_, by simp [Op.unary, Op.intBits]; rfl, by simp [Vt, V, bitop]⟩
  · simp only [Vt, V] at hv; subst hv; simp only [Option.some.injEq] at h; subst h
    exact ⟨_, by simp [Op.unary]; rfl, by simp [Vt, V]⟩
  · simp at h

theorem run_mapM_list {α β : Type} (f : α → Sem β) (g : α → β) (w : World) : ∀ (l : List α), (∀ x ∈ l, (f x).run P w = .ok (g x) w) → (l.mapM f).run P w = .ok (l.map g) w
  | [], _ => by simp
  | x :: l, h => by
    simp only [List.mapM_cons, Sem.run_bind, h x (by simp), Result.andThen_ok, run_mapM_list f g w l (fun y hy => h y (by simp [hy])), Sem.run_pure, List.map_cons]
theorem run_mapM {α β : Type} (f : α → Sem β) (g : α → β) (w : World) (l : Array α) (h : ∀ x ∈ l.toList, (f x).run P w = .ok (g x) w) : (l.mapM f).run P w = .ok (l.map g) w := by
  rw [Array.mapM_eq_mapM_toList]
  simp only [Sem.run_map, run_mapM_list f g w l.toList h, Result.andThen_ok]
  congr 1
  apply Array.ext'
  simp

theorem length_splice {cs new : List CV} {off : Nat} (h : off + new.length ≤ cs.length) : (splice cs off new).length = cs.length := by
  simp [splice]; omega
theorem getElem?_splice {cs new : List CV} {off : Nat} (h : off + new.length ≤ cs.length) (i : Nat) :
    (splice cs off new)[i]? = if off ≤ i ∧ i < off + new.length then new[i - off]? else cs[i]? := by
  simp only [splice]
  by_cases h1 : i < off
  · rw [List.getElem?_append_left (by simp; omega), List.getElem?_take, if_pos h1, if_neg (by omega)]
  · rw [List.getElem?_append_right (by simp; omega)]
    simp only [List.length_take]
    rw [show min off cs.length = off from by omega]
    by_cases h2 : i < off + new.length
    · rw [List.getElem?_append_left (by omega), if_pos (by omega)]
    · rw [List.getElem?_append_right (by omega), List.getElem?_drop, if_neg (by omega)]
      congr 1; omega
theorem all_splice {cs new : List CV} {off : Nat} {p : CV → Bool} (h1 : cs.all p = true) (h2 : new.all p = true) : (splice cs off new).all p = true := by
  simp only [splice, List.all_append, Bool.and_eq_true, List.all_eq_true] at *
  exact ⟨fun x hx => h1 x (List.mem_of_mem_take hx), h2, fun x hx => h1 x (List.mem_of_mem_drop hx)⟩

/-- the model's own way to lay parts into cells -/
theorem foldl_set (vs : List Value) : ∀ (cells : Array Value) (off k : Nat), 
    ((vs.zipIdx k).foldl (fun (cs : Array Value) (x : Value × Nat) => cs.setIfInBounds (off + x.2) x.1) cells).size = cells.size ∧
    ∀ i, ((vs.zipIdx k).foldl (fun (cs : Array Value) (x : Value × Nat) => cs.setIfInBounds (off + x.2) x.1) cells)[i]? =
      if off + k ≤ i ∧ i < off + k + vs.length ∧ i < cells.size then vs[i - (off + k)]? else cells[i]? := by
  induction vs with
  | nil => intro cells off k; simp; intro i h1 h2; omega
  | cons v vs ih =>
    intro cells off k
    simp only [List.zipIdx_cons, List.foldl_cons]
    obtain ⟨h1, h2⟩ := ih (cells.setIfInBounds (off + k) v) off (k + 1)
    refine ⟨by simpa using h1, fun i => ?_⟩
    rw [h2 i]
    simp only [Array.size_setIfInBounds, List.length_cons]
    by_cases hi : i = off + k
    · subst hi
      rw [if_neg (by omega)]
      by_cases hs : off + k < cells.size
      · rw [if_pos (by omega)]; simp [hs]
      · rw [if_neg (by omega)]
        rw [Array.getElem?_eq_none (by simp; omega), Array.getElem?_eq_none (by omega)]
    · by_cases hc : off + (k + 1) ≤ i ∧ i < off + (k + 1) + vs.length ∧ i < cells.size
      · rw [if_pos hc, if_pos (by omega)]
        rw [show i - (off + k) = i - (off + (k + 1)) + 1 from by omega]; simp
      · rw [if_neg hc, if_neg (by omega)]
        exact Array.getElem?_setIfInBounds_ne (by omega)

theorem fill_run {M : MM} {loc : Bool} {place : Nat → Option (Nat × Nat)} : ∀ (parts : List (Nat × CV)) (vparts : List (Nat × Value)) (cells : List CV) (vs : Array Value) (cs' : List CV),
    parts.length = vparts.length → (∀ (i : Nat) (a : Nat × CV) (b : Nat × Value), parts[i]? = some a → vparts[i]? = some b → a.1 = b.1 ∧ V K M Q loc a.2 b.2) → cells.all leafV = true → Vs K M Q loc cells vs.toList → fillC place cells parts = some cs' →
    ∃ vs' : Array Value, Instr.fill place vs vparts = some vs' ∧ cs'.all leafV = true ∧ Vs K M Q loc cs' vs'.toList ∧ cs'.length = cells.length := by
  intro parts
  induction parts with
  | nil =>
    intro vparts cells vs cs' hl _ hall hV h
    have : vparts = [] := List.eq_nil_of_length_eq_zero (by simpa using hl.symm)
    subst this
    simp only [fillC, Option.some.injEq] at h; subst h
    exact ⟨vs, by simp [Instr.fill], hall, hV, rfl⟩
  | cons a parts ih =>
    intro vparts cells vs cs' hl hp hall hV h
    obtain ⟨i, c⟩ := a
    cases vparts with
    | nil => simp at hl
    | cons b vparts =>
      obtain ⟨i', v⟩ := b
      obtain ⟨hii, hcv⟩ := hp 0 (i, c) (i', v) (by simp) (by simp)
      simp only [] at hii
      subst hii
      simp only [] at hcv
      simp only [fillC] at h
      simp only [Instr.fill]
      cases hpl : place i with
      | none => simp [hpl] at h
      | some os =>
        obtain ⟨off, size⟩ := os
        simp only [hpl] at h ⊢
        cases hcc : ccells c with
        | none => simp [hcc] at h
        | some ccs =>
          simp only [hcc] at h
          split at h
          · rename_i hcond
            obtain ⟨hc1, hc2⟩ := ccells_V hcc hcv
            have hlen1 := Vs_length hc2
            have hlen2 := Vs_length hV
            simp only [Array.length_toList] at hlen1 hlen2
            have hcond' : (decide (v.cells.size ≠ size) || decide (off + v.cells.size > vs.size)) = false := by simp; omega
            simp only [hcond', Bool.false_eq_true, if_false]
            have hz : v.cells.zipIdx.foldl (fun cs (x : Value × Nat) => cs.setIfInBounds (off + x.2) x.1) vs = (v.cells.toList.zipIdx 0).foldl (fun (cs : Array Value) (x : Value × Nat) => cs.setIfInBounds (off + x.2) x.1) vs := by
              rw [← Array.foldl_toList, Array.toList_zipIdx]
            obtain ⟨f1, f2⟩ := foldl_set v.cells.toList vs off 0
            have hnew := ih vparts (splice cells off ccs) ((v.cells.toList.zipIdx 0).foldl (fun (cs : Array Value) (x : Value × Nat) => cs.setIfInBounds (off + x.2) x.1) vs) cs' (by simpa using hl)
              (fun j a b ha hb => hp (j + 1) a b (by simpa using ha) (by simpa using hb)) (all_splice hall hc1) ?_ h
            · obtain ⟨vs', h1, h2, h3, h4⟩ := hnew
              refine ⟨vs', ?_, h2, h3, by rw [h4, length_splice (by omega)]⟩
              rw [← h1]
              exact congrArg (fun z => Instr.fill place z vparts) hz
            · refine Vs_of (by simp only [Array.length_toList]; rw [f1, length_splice (by omega)]; omega) fun j x hx => ?_
              rw [getElem?_splice (by omega)] at hx
              simp only [Array.getElem?_toList]
              rw [f2 j]
              split at hx
              · rename_i hj
                rw [if_pos (show off + 0 ≤ j ∧ j < off + 0 + v.cells.toList.length ∧ j < vs.size by simp only [Array.length_toList]; omega)]
                obtain ⟨u, hu, hxu⟩ := Vs_get hc2 hx
                exact ⟨u, by simpa using hu, hxu⟩
              · rename_i hj
                rw [if_neg (show ¬ (off + 0 ≤ j ∧ j < off + 0 + v.cells.toList.length ∧ j < vs.size) by simp only [Array.length_toList]; omega)]
                obtain ⟨u, hu, hxu⟩ := Vs_get hV hx
                exact ⟨u, by simpa using hu, hxu⟩
          · simp at h

/-- bounds of a slice expression -/
theorem asNat_run {c : CV} {n : Nat} {v : Value} (hv : Vt K m Q c v) (h : asNat c = some n) : ∃ k i, v = .int k i ∧ 0 ≤ i ∧ i.toNat = n := by
  unfold asNat at h
  split at h
  · simp only [Vt, V] at hv; subst hv
    split at h
    · simp only [Option.some.injEq] at h
      exact ⟨_, _, rfl, by assumption, h⟩
    · simp at h
  · simp at h
theorem sliceBound_run {v : Value} {k : IntKind} {i : Int} {y : Nat} {code : BoundsCode} (hv : v = .int k i) (h0 : 0 ≤ i) (h1 : i.toNat ≤ y) : (Instr.sliceBound v y code).run P w = .ok i.toNat w := by
  subst hv
  simp only [Instr.sliceBound, asIntOf, Sem.run_bind, Sem.run_pure, Result.andThen_ok]
  rw [if_pos ⟨h0, by omega⟩]; simp

def optV (K : KM) (m : Mem) (Q : PM) : Option CV → Option Value → Prop
  | none, none => True
  | some c, some v => Vt K m Q c v
  | _, _ => False

theorem bounds_run {b : Bool} {len cap l h : Nat} {lo hi mx : Option CV} {lo' hi' mx' : Option Value} (hcap : len ≤ cap)
    (hlo : optV K m Q lo lo') (hhi : optV K m Q hi hi') (hmx : optV K m Q mx mx')
    (hm : mxOK hi mx = true)
    (hb : bounds len lo hi = some (l, h)) :
    ∃ c, (Instr.sliceBounds b len cap lo' hi' mx').run P w = .ok (l, h, c) w ∧ h ≤ c ∧ c ≤ cap ∧ l ≤ h ∧ h ≤ len := by
  unfold bounds at hb
  cases hi with
  | none =>
    cases hi' with
    | some _ => simp [optV] at hhi
    | none =>
      cases mx with
      | some _ => simp [mxOK] at hm
      | none =>
        cases mx' with
        | some _ => simp [optV] at hmx
        | none =>
          cases lo with
          | none =>
            cases lo' with
            | some _ => simp [optV] at hlo
            | none =>
              simp only [] at hb
              split at hb
              · simp only [Option.some.injEq, Prod.mk.injEq] at hb
                obtain ⟨rfl, rfl⟩ := hb
                exact ⟨cap, by simp [Instr.sliceBounds], hcap, Nat.le_refl _, by omega, Nat.le_refl _⟩
              · simp at hb
          | some c =>
            cases lo' with
            | none => simp [optV] at hlo
            | some v =>
              simp only [] at hb
              cases ha : asNat c with
              | none => simp [ha] at hb
              | some n =>
                simp only [ha] at hb
                split at hb
                · simp only [Option.some.injEq, Prod.mk.injEq] at hb
                  obtain ⟨rfl, rfl⟩ := hb
                  obtain ⟨k, i, hv, h0, h1⟩ := asNat_run (show Vt K m Q c v from hlo) ha
                  refine ⟨cap, ?_, hcap, Nat.le_refl _, by omega, Nat.le_refl _⟩
                  have := sliceBound_run (P := P) (w := w) (y := len) (code := .sliceB) hv h0 (by omega)
                  simp [Instr.sliceBounds, this, h1]
                · simp at hb
  | some hc =>
    cases hi' with
    | none => simp [optV] at hhi
    | some hv =>
      simp only [] at hb
      cases hah : asNat hc with
      | none => simp [hah] at hb
      | some hn =>
        obtain ⟨kh, ih, hvh, h0h, h1h⟩ := asNat_run (show Vt K m Q hc hv from hhi) hah
        simp only [hah] at hb
        -- the third index
        have h3 : ∃ c, hn ≤ c ∧ c ≤ cap ∧ ((mx' = none ∧ c = cap) ∨ (∃ v k i, mx' = some v ∧ v = .int k i ∧ 0 ≤ i ∧ i.toNat = hn ∧ c = hn)) ∧ hn ≤ len := by
          have hle : hn ≤ len := by
            cases lo with
            | none => simp only [] at hb; split at hb <;> simp at hb; omega
            | some c =>
              simp only [] at hb
              cases ha : asNat c with
              | none => simp [ha] at hb
              | some n => simp only [ha] at hb; split at hb <;> simp at hb; omega
          cases mx with
          | none =>
            cases mx' with
            | some _ => simp [optV] at hmx
            | none => exact ⟨cap, by omega, Nat.le_refl _, .inl ⟨rfl, rfl⟩, hle⟩
          | some mc =>
            cases mx' with
            | none => simp [optV] at hmx
            | some mv =>
              cases hc <;> simp only [mxOK, Bool.false_eq_true] at hm
              rename_i kb bb
              cases mc <;> simp only [mxOK, Bool.false_eq_true] at hm
              rename_i ka aa
              simp only [beq_iff_eq] at hm; subst hm
              have hmv : Vt K m Q _ mv := hmx
              simp only [Vt, V] at hmv
              have hhv : Vt K m Q _ hv := hhi
              simp only [Vt, V] at hhv
              rw [hvh] at hhv
              simp only [Value.int.injEq] at hhv
              exact ⟨hn, Nat.le_refl _, by omega, .inr ⟨mv, _, _, rfl, hmv, by omega, by omega, rfl⟩, hle⟩
        obtain ⟨c, hc1, hc2, hc3, hle⟩ := h3
        have hrunh : ∀ y code, hn ≤ y → (Instr.sliceBound hv y code).run P w = .ok hn w := fun y code hy => by
          rw [← h1h]; exact sliceBound_run hvh h0h (by omega)
        have hlow : ∃ l', (match lo' with | some v => Instr.sliceBound v hn (if mx'.isSome then .slice3C else .sliceB) | none => pure 0).run P w = .ok l' w ∧ l' = l ∧ h = hn ∧ l ≤ hn := by
          cases lo with
          | none =>
            cases lo' with
            | some _ => simp [optV] at hlo
            | none =>
              simp only [] at hb
              split at hb
              · simp only [Option.some.injEq, Prod.mk.injEq] at hb
                exact ⟨0, by simp, hb.1, hb.2.symm, by omega⟩
              · simp at hb
          | some lc =>
            cases lo' with
            | none => simp [optV] at hlo
            | some lv =>
              simp only [] at hb
              cases ha : asNat lc with
              | none => simp [ha] at hb
              | some n =>
                simp only [ha] at hb
                split at hb
                · simp only [Option.some.injEq, Prod.mk.injEq] at hb
                  obtain ⟨k, i, hv', h0, h1⟩ := asNat_run (show Vt K m Q lc lv from hlo) ha
                  exact ⟨i.toNat, sliceBound_run hv' h0 (by omega), by omega, hb.2.symm, by omega⟩
                · simp at hb
        obtain ⟨l', hl1, rfl, rfl, hl4⟩ := hlow
        refine ⟨c, ?_, hc1, hc2, hl4, hle⟩
        rcases hc3 with ⟨rfl, rfl⟩ | ⟨mv, k, i, rfl, hmv, h0, h1, rfl⟩
        · cases lo' with
          | none => simp at hl1; subst hl1; simp [Instr.sliceBounds, hrunh _ _ hc1]
          | some v => simp at hl1; simp [Instr.sliceBounds, hrunh _ _ hc1, hl1]
        · have hm1 : ∀ code, (Instr.sliceBound mv cap code).run P w = .ok c w := fun code => by
            rw [← h1]; exact sliceBound_run hmv h0 (by omega)
          cases lo' with
          | none => simp at hl1; subst hl1; simp [Instr.sliceBounds, hm1, hrunh _ _ (Nat.le_refl _)]
          | some v => simp at hl1; simp [Instr.sliceBounds, hm1, hrunh _ _ (Nat.le_refl _), hl1]
end
end Go.Cm
