/-
  The C machine, thirteenth part: append, copy, stores, new objects, maps that are written: the operations that do something.
-/
import Derived.Test.YtjmmeeokpncdbaaCvL
set_option linter.unusedSimpArgs false
set_option linter.unusedVariables false
namespace Go.Cm

section
variable {K : KM} {Q : PM} {P : Program} {w w' : World} {m : Mem}

theorem small_spec {e : TypeId} {n : Nat} (h : small P e n = true) : ∃ i, P.info? e = some i ∧ i.bytes ≤ 1024 ∧ n ≤ 4294967296 := by
  unfold small tbytes at h
  cases hi : P.info? e with
  | none => simp [hi] at h
  | some i => simp [hi, most] at h; exact ⟨i, rfl, by simpa using h.1, of_decide_eq_true h.2⟩

theorem setRow_self_heap {w : World} {g : Nat} {cur cur' : Array Value} {t : TypeId} (h : w.heap[g]? = some (.cells cur t (0, 0))) : (w.setRow g cur').heap[g]? = some (.cells cur' t (0, 0)) := setRow_heap w g cur cur' t (0, 0) h
theorem setRow_kept {w : World} {g : Nat} {cur cur' : Array Value} {t : TypeId} (h : w.heap[g]? = some (.cells cur t (0, 0))) : Kept w (w.setRow g cur') := by
  refine ⟨rfl, rfl, fun a => ?_⟩
  by_cases ha : a.block = g
  · subst ha
    simp only [World.frozen?, setRow_self_heap (cur' := cur') h, h]
  · simp only [World.frozen?]
    rw [setRow_other w g a.block cur' ha]
theorem setRow_size {w : World} {g : Nat} {cur' : Array Value} : (w.setRow g cur').heap.size = w.heap.size := by simp [World.setRow]

theorem Vs_one {M : MM} {loc : Bool} {cs : List CV} {vs : List Value} (hall : cs.all leafV = true) (h : Vs K M Q loc cs vs) : ∀ v ∈ vs, v.oneCell' = true := by
  intro v hv
  obtain ⟨i, hi⟩ := List.getElem?_of_mem hv
  have hlt : i < cs.length := by have := (List.getElem?_eq_some_iff.1 hi).1; rw [Vs_length h] at this; exact this
  obtain ⟨u, h1, h2⟩ := Vs_get h (List.getElem?_eq_getElem hlt)
  rw [hi] at h1; simp only [Option.some.injEq] at h1; subst h1
  exact leaf_one (List.all_eq_true.1 hall _ (List.getElem_mem hlt)) h2

/-- some cells of a placed object are written -/
theorem write_cells (hR : MR K m.get Q w) {k : Key} {x y : HO} (hx : m.get k = some x) (hxm : x.isMap = false) {q : Pl} (hq : Q k = some q) {base' off : Nat}
    (hgn : x.gn < y.gn ∨ (y = x.withCells y.cells ∧ base' = q.base ∧ y.cells.length = x.cells.length)) (hym : y.isMap = false) {vs : List Value} (hone : ∀ v ∈ vs, v.oneCell' = true)
    (hoff : q.base + x.vl ≤ off) (hfit : off + vs.length ≤ q.bsz) (hb : base' + y.cells.length ≤ q.bsz) (hvl : q.base + x.vl ≤ base' + y.vl)
    (hflag : flag k x = flag k y)
    (hrow : ∀ (i : Nat) (c : CV), y.cells[i]? = some c → leafV c = true ∧
      ((∃ j v, base' + i = off + j ∧ vs[j]? = some v ∧ V K m.get Q (flag k y) c v) ∨ (¬ (off ≤ base' + i ∧ base' + i < off + vs.length) ∧ ∃ i', x.cells[i']? = some c ∧ q.base + i' = base' + i))) :
    ∃ w', (storeCells ⟨q.blk, off, none⟩ vs).run P w = .ok () w' ∧ Trans K m Q w K (m.set k y) (updP Q k (some ⟨q.blk, base', q.bsz⟩)) w' := by
  have hok := hR.objs k x hx q hq
  have hcell : CellsOK K m.get Q w (flag k x) x.cells x.vl q := by cases x <;> simp_all [HO.isMap]
  obtain ⟨⟨es, t, h1, h2, h3⟩, h4, h5⟩ := hcell
  have hst := run_storeCells_at P q.blk off t vs 0 es w h1 (by omega) hone
  simp only [Nat.add_zero] at hst
  refine ⟨_, hst, ?_⟩
  generalize hnew : (es.toList.take off ++ vs ++ es.toList.drop (off + vs.length)).toArray = es' at *
  have hsz' : es'.size = es.size := by
    subst hnew; simp only [List.size_toArray, List.length_append, List.length_take, List.length_drop, Array.length_toList]; omega
  have hget' : ∀ i, es'[i]? = if off ≤ i ∧ i < off + vs.length then vs[i - off]? else es[i]? := by
    intro i
    subst hnew
    simp only [List.getElem?_toArray]
    by_cases ha : i < off
    · rw [if_neg (by omega), List.append_assoc, List.getElem?_append_left (by simp; omega), List.getElem?_take, if_pos ha, Array.getElem?_toList]
    · by_cases hb' : i < off + vs.length
      · rw [if_pos (by omega), List.append_assoc, List.getElem?_append_right (by simp; omega), List.getElem?_append_left (by simp; omega)]
        congr 1; simp; omega
      · rw [if_neg (by omega), List.getElem?_append_right (by simp; omega), List.getElem?_drop, Array.getElem?_toList]
        congr 1; simp; omega
  have hheap := setRow_self_heap (cur' := es') h1
  have hgen : ∀ z, m.get k = some z → z.gn ≤ y.gn ∧ (z.gn = y.gn → Pres z y (Q k) (some ⟨q.blk, base', q.bsz⟩)) := by
    intro z hz
    rw [hx] at hz; simp only [Option.some.injEq] at hz; subst hz
    rcases hgn with hlt | ⟨he, hb', hl⟩
    · exact ⟨Nat.le_of_lt hlt, fun he => absurd he (Nat.ne_of_lt hlt)⟩
    · have hg : x.gn = y.gn := by rw [he]; cases x <;> rfl
      refine ⟨by omega, fun _ => ⟨fun p hp => by rw [hq] at hp; simp only [Option.some.injEq] at hp; subst hp; subst hb'; rfl, fun g sz cs vl hh => ?_⟩⟩
      subst hh
      exact ⟨y.cells, vl, by rw [he]; simp [HO.withCells, HO.cells], by simpa [HO.cells] using Nat.le_of_eq hl.symm⟩
  have hG : Grow true m.get Q (upd m.get k y) (updP Q k (some ⟨q.blk, base', q.bsz⟩)) := Grow.upd hgen
  have hothers : ∀ b, b ≠ q.blk → (w.setRow q.blk es').heap[b]? = w.heap[b]? := fun b hb => setRow_other w q.blk b es' (fun e => hb e)
  have hmr : MR K (upd m.get k y) (updP Q k (some ⟨q.blk, base', q.bsz⟩)) (w.setRow q.blk es') := by
    refine hR.write hq rfl hgen hothers setRow_size (fun o v hv => ?_) ?_
    · have hcur := hR.stab _ _ _ hv
      rw [row_cell h1] at hcur
      rw [row_cell hheap, hget' o]
      have : o < q.base + x.vl := by
        rcases Nat.lt_or_ge o (q.base + x.vl) with h | h
        · exact h
        · rw [h5 o h] at hv; cases hv
      rw [if_neg (by omega)]; exact hcur
    · intro p hp
      simp only [updP, if_true, Option.some.injEq] at hp
      subst hp
      have hres : CellsOK K (upd m.get k y) (updP Q k (some ⟨q.blk, base', q.bsz⟩)) (w.setRow q.blk es') (flag k y) y.cells y.vl ⟨q.blk, base', q.bsz⟩ := by
        refine ⟨⟨es', t, hheap, by simp only []; omega, fun i c hc => ?_⟩, hb, fun o ho => h5 o (by simp only [] at ho; omega)⟩
        obtain ⟨hl, hr⟩ := hrow i c hc
        refine ⟨hl, ?_⟩
        have up : ∀ v, V K m.get Q (flag k y) c v → V K (upd m.get k y) (updP Q k (some ⟨q.blk, base', q.bsz⟩)) (flag k y) c v := by
          intro v hv
          refine V_mono (fun _ _ _ h => h) hG.sub (fun h => h) ?_ c v hv
          cases flag k y
          · exact hG.sub
          · exact hG
        rcases hr with ⟨j, v, he, hv, hVv⟩ | ⟨hn, i', hi', he⟩
        · refine ⟨v, ?_, up v hVv⟩
          have hj : j < vs.length := (List.getElem?_eq_some_iff.1 hv).1
          simp only []
          rw [hget', if_pos (by omega), show base' + i - off = j from by omega]; exact hv
        · obtain ⟨_, v, hv, hVv⟩ := h3 i' c hi'
          refine ⟨v, ?_, up v (by rw [← hflag]; exact hVv)⟩
          simp only []
          rw [hget', if_neg hn, ← he]; exact hv
      cases y <;> first | exact hres | simp [HO.isMap] at hym
  refine ⟨?_, fun _ _ _ h => h, ?_, by rw [setRow_size]; exact Nat.le_refl _, fun b _ hne => hothers b fun he => hne k q hq he.symm, fun _ _ _ h => .inl h, fun k' p hp => ?_, setRow_kept h1⟩
  · rw [get_set_fun m k y x hx]; exact hmr
  · rw [get_set_fun m k y x hx]; exact hG
  · simp only [updP] at hp
    split at hp
    · rename_i he; subst he
      simp only [Option.some.injEq] at hp; subst hp
      exact .inl ⟨q, hq, rfl⟩
    · exact .inl ⟨p, hp, rfl⟩
end
end Go.Cm
