/-
  The C machine, fifteenth part: copy, stores, new objects, maps that are written.
-/
import Derived.Test.YtjmmeeokpncdbaaCvN
set_option linter.unusedSimpArgs false
set_option linter.unusedVariables false
namespace Go.Cm

section
variable {K : KM} {Q : PM} {P : Program} {w w' : World} {m : Mem}

theorem Vs_take {M : MM} {loc : Bool} {cs : List CV} {vs : List Value} (h : Vs K M Q loc cs vs) (n : Nat) : Vs K M Q loc (cs.take n) (vs.take n) := by
  refine Vs_of (by simp [Vs_length h]) fun i c hc => ?_
  rw [List.getElem?_take] at hc
  split at hc
  · rename_i hi
    obtain ⟨v, h1, h2⟩ := Vs_get h hc
    exact ⟨v, by rw [List.getElem?_take, if_pos hi]; exact h1, h2⟩
  · simp at hc

/-- cells of an object are replaced by a value's -/
theorem splice_cells (hR : MR K m.get Q w) {k : Key} {x : HO} (hx : m.get k = some x) (hxm : x.isMap = false) {q : Pl} (hq : Q k = some q) {off : Nat} {cs : List CV} {vs : List Value}
    (hall : cs.all leafV = true) (hV : Vs K m.get Q (flag k x) cs vs) (hvl : x.vl ≤ off) (hfit : off + cs.length ≤ x.cells.length) :
    ∃ w' Q', (storeCells ⟨q.blk, q.base + off, none⟩ vs).run P w = .ok () w' ∧ Trans K m Q w K (m.set k (x.withCells (splice x.cells off cs))) Q' w' := by
  have hok := hR.objs k x hx q hq
  have hcell : CellsOK K m.get Q w (flag k x) x.cells x.vl q := by cases x <;> simp_all [HO.isMap]
  have hlen := Vs_length hV
  have hwc : (x.withCells (splice x.cells off cs)).cells = splice x.cells off cs := by cases x <;> simp_all [HO.withCells, HO.cells, HO.isMap]
  have hwv : (x.withCells (splice x.cells off cs)).vl = x.vl := by cases x <;> rfl
  have hwm : (x.withCells (splice x.cells off cs)).isMap = false := by cases x <;> simp_all [HO.withCells, HO.isMap]
  have hwf : flag k x = flag k (x.withCells (splice x.cells off cs)) := by cases x <;> cases k <;> rfl
  obtain ⟨w', h1, h2⟩ := write_cells (P := P) hR hx hxm hq (y := x.withCells (splice x.cells off cs)) (base' := q.base) (off := q.base + off) (vs := vs)
    (.inr ⟨by rw [hwc], rfl, by rw [hwc, length_splice hfit]⟩) hwm (Vs_one hall hV) (by omega) (by have := hcell.fits; omega) (by rw [hwc, length_splice hfit]; exact hcell.fits) (by rw [hwv]; exact Nat.le_refl _) hwf (by
      intro i c hc
      rw [hwc, getElem?_splice hfit] at hc
      rw [← hwf]
      split at hc
      · rename_i hi
        obtain ⟨v, hv, hVv⟩ := Vs_get hV hc
        exact ⟨List.all_eq_true.1 hall c (List.mem_of_getElem? hc), .inl ⟨i - off, v, by omega, hv, hVv⟩⟩
      · rename_i hi
        obtain ⟨es, t, _, _, h3⟩ := hcell.row
        exact ⟨(h3 i c hc).1, .inr ⟨by omega, i, hc, rfl⟩⟩)
  exact ⟨w', _, h1, h2⟩

theorem ptr_live {k : Key} {gn off : Nat} {h : HO} {v : Value} (hp : Vt K m Q (.ptr k gn off) v) (hget : m.get k = some h) (hg : h.gn = gn) :
    ∃ q, Q k = some q ∧ v = .pointer (some ⟨q.blk, q.base + off, none⟩) := by
  simp only [Vt, V] at hp
  obtain ⟨_, y, a, hy, _, rfl, hr⟩ := hp
  rw [hget] at hy; simp only [Option.some.injEq] at hy; subst hy
  obtain ⟨q, hq, rfl⟩ := hr hg.symm
  exact ⟨q, hq, rfl⟩

theorem escList_run (hR : MR K m.get Q w) {cs cs' : List CV} {vs : List Value} {m' : Mem} (hV : Vs K m.get Q true cs vs) (h : escList m cs = some (cs', m')) :
    ∃ K', Look K m K' m' Q w ∧ Vs K' m'.get Q false cs' vs ∧ (cs.all leafV = true → cs'.all leafV = true) ∧ cs'.length = cs.length :=
  mapMem_run (esc_run (K := K) deep) cs cs' K m m' vs hR hV h

theorem cstoreAt_run (hR : MR K m.get Q w) {p : CV} {cs : List CV} {v : Value} {vs : List Value} {m' : Mem} (hp : Vt K m Q p v) (hall : cs.all leafV = true) (hV : Vs K m.get Q true cs vs) (h : cstoreAt m p cs = some m') :
    ∃ b o K' Q' w', v = .pointer (some ⟨b, o, none⟩) ∧ (storeCells ⟨b, o, none⟩ vs).run P w = .ok () w' ∧ Trans K m Q w K' m' Q' w' := by
  unfold cstoreAt at h
  split at h
  · rename_i k gn off
    split at h
    · rename_i g cells vl hget
      split at h
      · rename_i hc
        obtain ⟨rfl, hfit, hvl⟩ := hc
        obtain ⟨q, hq, rfl⟩ := ptr_live hp hget rfl
        cases k with
        | l j =>
          simp only [Option.some.injEq] at h; subst h
          obtain ⟨w', Q', h1, h2⟩ := splice_cells (P := P) hR hget rfl hq hall (by simpa [flag] using hV) hvl hfit
          exact ⟨_, _, K, Q', w', rfl, h1, h2⟩
        | g n =>
          simp only [Option.map_eq_some_iff] at h
          obtain ⟨⟨cs', m1⟩, he, rfl⟩ := h
          obtain ⟨K1, hl, hV1, hall1, hlen1⟩ := escList_run hR hV he
          have hget1 : m1.get (.g n) = some (.var g cells vl) := by
            simp only [Mem.get] at hget ⊢; rw [hl.hh]; exact hget
          obtain ⟨w', Q', h1, h2⟩ := splice_cells (P := P) hl.mr hget1 rfl hq (hall1 hall) (by simpa [flag] using hV1) hvl (by simp only [HO.cells]; omega)
          exact ⟨_, _, K1, Q', w', rfl, h1, hl.toTrans.trans h2⟩
      · simp at h
    · rename_i g sz cells vl hget
      split at h
      · rename_i hc
        obtain ⟨rfl, hfit, hvl⟩ := hc
        obtain ⟨q, hq, rfl⟩ := ptr_live hp hget rfl
        cases he : escList m cs with
        | none => simp [he] at h
        | some r =>
          obtain ⟨cs', m1⟩ := r
          simp only [he, Option.bind_some] at h
          obtain ⟨K1, hl, hV1, hall1, hlen1⟩ := escList_run hR hV he
          obtain ⟨nn, hnn⟩ := hl.keep _ _ hget
          split at h
          · rename_i g' sz' cells' vl' hget1
            rw [hget1] at hnn
            simp only [HO.seen, Option.some.injEq, HO.arr.injEq] at hnn
            obtain ⟨rfl, rfl, rfl, rfl⟩ := hnn
            split at h
            · rename_i hc2
              simp only [Option.some.injEq] at h; subst h
              have hfl : flag k (.arr g' sz' cells' (max vl nn)) = false := by cases k <;> rfl
              obtain ⟨w', Q', h1, h2⟩ := splice_cells (P := P) hl.mr hget1 rfl hq (hall1 hall) (by rw [hfl]; exact hV1) hc2.2 (by simp only [HO.cells]; omega)
              exact ⟨_, _, K1, Q', w', rfl, h1, hl.toTrans.trans h2⟩
            · simp at h
          · simp at h
      · simp at h
    · simp at h
  · simp at h

theorem cstore_run (hR : MR K m.get Q w) {t : TypeId} {p c : CV} {v u : Value} {m' : Mem} (hp : Vt K m Q p v) (hc : Vt K m Q c u) (h : cstore P m t p c = some m') :
    ∃ K' Q' w', (Instr.storeAt t v u).run P w = .ok () w' ∧ Trans K m Q w K' m' Q' w' := by
  unfold cstore at h
  split at h
  · rename_i n cs hs hcc
    split at h
    · rename_i hlen
      obtain ⟨hall, hV⟩ := ccells_V hcc hc
      obtain ⟨b, o, K', Q', w', rfl, h1, h2⟩ := cstoreAt_run (P := P) hR hp hall hV h
      have hsz := Vs_length hV
      simp only [Array.length_toList] at hsz
      refine ⟨K', Q', w', ?_, h2⟩
      simp only [Instr.storeAt, Instr.sureAddr, storeVar, Sem.run_bind, Sem.run_pure, Result.andThen_ok, run_tsize hs]
      rw [if_neg (by omega)]
      simpa using h1
    · simp at h
  · simp at h

theorem ccopy_run (hR : MR K m.get Q w) {e t ty : TypeId} {ts : Array TypeId} {d x c : CV} {dv xv : Value} {m' : Mem} (h0 : ts[0]? = some t) (ht : P.underlying t = some (.slice e))
    (hd : Vt K m Q d dv) (hx : Vt K m Q x xv) (h : ccopy P e d x m = some (c, m')) :
    ∃ Q' w' r, (Builtin.copy_ ts ty #[dv, xv]).run P w = .ok r w' ∧ Trans K m Q w K m' Q' w' ∧ Vt K m' Q' c r := by
  unfold ccopy at h
  split at h
  · rename_i sz hs
    split at h
    · rename_i ys n dl hys hn hdl
      obtain ⟨news, a, c0, rfl, hVn, halln, hlenn, hfc⟩ := content_run (P := P) hR hx hys hn
      obtain ⟨ad, capd, rfl, hcapd⟩ := clen_run hd hdl
      have hf := hfc w rfl (min n dl) (Nat.min_le_left _ _)
      have hsz := run_tsize (w := w) hs
      simp only [] at h
      split at h
      · rename_i hc0
        simp only [Option.some.injEq, Prod.mk.injEq] at h
        obtain ⟨rfl, rfl⟩ := h
        refine ⟨Q, w, .int .i64 0, ?_, Trans.refl hR, by simp [Vt, V]⟩
        rw [hc0] at hf
        have hmin : Nat.min n dl = 0 := hc0
        cases ad <;> simp [Builtin.copy_, h0, run_tunder ht, Builtin.lenOf, hmin, hsz, hf, goInt, storeCells]
      · rename_i hc0
        split at h
        · rename_i k gn off len
          split at h
          · rename_i g s' cs vl hget
            split at h
            · rename_i hc
              obtain ⟨rfl, rfl, hvl⟩ := hc
              simp only [Option.some.injEq, Prod.mk.injEq] at h
              obtain ⟨rfl, rfl⟩ := h
              simp only [clen, Option.some.injEq] at hdl; subst hdl
              have hd' := hd
              simp only [Vt, V] at hd'
              obtain ⟨hk, y, a', cap', hy, _, hv', hcap', _, hra⟩ := hd'
              simp only [Value.slice.injEq] at hv'
              obtain ⟨rfl, _, rfl⟩ := hv'
              rw [hget] at hy; simp only [Option.some.injEq] at hy; subst hy
              obtain ⟨sz', cs', vl', he, hra⟩ := hra rfl
              simp only [HO.arr.injEq] at he
              obtain ⟨_, rfl, rfl, rfl⟩ := he
              rcases hra with hz | ⟨q, hq, rfl, hb1, hb2⟩
              · omega
              · have hfl : flag k (.arr g s' cs vl) = false := by cases k <;> rfl
                have hle : min n len * s' ≤ len * s' := Nat.mul_le_mul_right _ (Nat.min_le_right _ _)
                obtain ⟨w', Q', h1, h2⟩ := splice_cells (P := P) hR hget rfl hq (off := off) (cs := ys.take (min n len * s')) (vs := news.take (min n len * s'))
                  (List.all_eq_true.2 fun c hc => List.all_eq_true.1 halln c (List.mem_of_mem_take hc)) (by rw [hfl]; exact Vs_take hVn _) hvl (by simp only [HO.cells, List.length_take]; omega)
                refine ⟨Q', w', .int .i64 (min n len : Nat), ?_, h2, by simp [Vt, V]⟩
                simp [Builtin.copy_, h0, run_tunder ht, Builtin.lenOf, hsz, show Nat.min n len = min n len from rfl, hf, h1, goInt]
            · simp at h
          · simp at h
        · simp at h
    · simp at h
  · simp at h

theorem reps_get {n : Nat} {z : List CV} {i : Nat} (hz : 0 < z.length) : (reps n z)[i]? = if i < n * z.length then z[i % z.length]? else none := by
  induction n generalizing i with
  | zero => simp [reps]
  | succ n ih =>
    simp only [reps]
    by_cases hi : i < z.length
    · rw [List.getElem?_append_left hi, Nat.mod_eq_of_lt hi, if_pos (by rw [Nat.succ_mul]; omega)]
    · rw [List.getElem?_append_right (by omega), ih]
      have hm : (i - z.length) % z.length = i % z.length := by
        rw [Nat.mod_eq_sub_mod (by omega : i ≥ z.length)]
      rw [hm, Nat.succ_mul]
      by_cases hlt : i - z.length < n * z.length
      · rw [if_pos hlt, if_pos (by omega)]
      · rw [if_neg hlt, if_neg (by omega)]
theorem reps_length {n : Nat} {z : List CV} : (reps n z).length = n * z.length := by
  induction n with
  | zero => simp [reps]
  | succ n ih => simp [reps, ih, Nat.succ_mul]; omega
theorem reps_all {n : Nat} {z : List CV} (h : z.all leafV = true) : (reps n z).all leafV = true := by
  induction n with
  | zero => simp [reps]
  | succ n ih => simp only [reps, List.all_append, h, ih, Bool.and_self]

/-- as many noughts as are asked for -/
theorem Vs_reps {M : MM} {loc : Bool} {n sz : Nat} {z : List CV} {zv : Array Value} (hz : z.length = sz) (h : Vs K M Q loc z zv.toList) :
    Vs K M Q loc (reps n z) ((Array.range (n * sz)).map (zv[· % zv.size]!)).toList := by
  have hlen := Vs_length h
  simp only [Array.length_toList] at hlen
  refine Vs_of (by simp [reps_length, hz]) fun i c hc => ?_
  have hlt : i < (reps n z).length := (List.getElem?_eq_some_iff.1 hc).1
  rw [reps_length] at hlt
  have hpos : 0 < z.length := by
    rcases Nat.eq_zero_or_pos z.length with h0 | h0
    · rw [h0] at hlt; omega
    · exact h0
  rw [reps_get hpos, if_pos hlt] at hc
  obtain ⟨v, h1, h2⟩ := Vs_get h hc
  refine ⟨v, ?_, h2⟩
  simp only [Array.getElem?_toList] at h1 ⊢
  rw [Array.getElem?_map, Array.getElem?_range, if_pos (by rw [← hz]; exact hlt)]
  simp only [Option.map_some, Option.some.injEq]
  rw [← hz, ← hlen] at *
  have hb : i % zv.size < zv.size := Nat.mod_lt _ (by omega)
  rw [Array.getElem?_eq_getElem hb] at h1
  simp only [Option.some.injEq] at h1
  rw [getElem!_pos zv _ hb]; exact h1

/-- maps: an entry -/
theorem map_write (hR : MR K m.get Q w) {k : Key} {g : Nat} {es es' : List (CV × CV)} (hx : m.get k = some (.map g es)) {q : Pl} (hq : Q k = some q) {xs' : Array MapEntry} {clk' : Nat}
    (hsz : xs'.size = es'.length) (hrows : ∀ (i : Nat) (e : CV × CV), es'[i]? = some e → ∃ x, xs'[i]? = some x ∧ EntryOK K m.get Q e x) (hlt : q.blk < w.heap.size) (hnc : ∀ o, K q.blk o = none)
    (hold : ∃ xs clk, w.heap[q.blk]? = some (.map xs clk)) :
    Trans K m Q w K (m.set k (.map g es')) Q { w with heap := w.heap.setIfInBounds q.blk (.map xs' clk') } := by
  have hothers : ∀ b, b ≠ q.blk → (w.heap.setIfInBounds q.blk (Obj.map xs' clk'))[b]? = w.heap[b]? := fun b hb => by
    rw [Array.getElem?_setIfInBounds_ne (Ne.symm hb)]
  have hsame : (updP Q k (some q)) = Q := by
    funext k'; simp only [updP]; split
    · rename_i he; subst he; exact hq.symm
    · rfl
  have hgen : ∀ y, m.get k = some y → y.gn ≤ (HO.map g es').gn ∧ (y.gn = (HO.map g es').gn → Pres y (HO.map g es') (Q k) (some q)) := by
    intro y hy; rw [hx] at hy; simp only [Option.some.injEq] at hy; subst hy
    exact ⟨Nat.le_refl _, fun _ => ⟨fun p hp => by rw [hq] at hp; exact hp, fun _ _ _ _ h => by cases h⟩⟩
  have hG : Grow true m.get Q (upd m.get k (.map g es')) Q := by
    have := Grow.upd (M := m.get) (P := Q) (k := k) (h := .map g es') (q := some q) hgen
    rwa [hsame] at this
  have hmr := hR.write (w' := { w with heap := w.heap.setIfInBounds q.blk (.map xs' clk') }) hq (q' := q) rfl hgen hothers (by simp) (fun o v hv => by rw [hnc o] at hv; cases hv) (by
    rw [hsame]
    intro p hp
    rw [hq] at hp; simp only [Option.some.injEq] at hp; subst hp
    refine ⟨xs', clk', by simp [hlt], hsz, fun i e he => ?_⟩
    obtain ⟨x, h1, h2, h3⟩ := hrows i e he
    exact ⟨x, h1, V_mono (fun _ _ _ h => h) hG.sub (fun h => h) hG.sub _ _ h2, V_mono (fun _ _ _ h => h) hG.sub (fun h => h) hG.sub _ _ h3⟩)
  rw [hsame] at hmr
  refine ⟨by rw [get_set_fun m k _ _ hx]; exact hmr, fun _ _ _ h => h, by rw [get_set_fun m k _ _ hx]; exact hG, by simp, fun b _ hne => hothers b fun he => hne k q hq he.symm, fun _ _ _ h => .inl h, fun k' p hp => .inl ⟨p, hp, rfl⟩, rfl, rfl, fun a => ?_⟩
  obtain ⟨xs, clk, hold⟩ := hold
  by_cases ha : a.block = q.blk
  · have e1 : (w.heap.setIfInBounds q.blk (Obj.map xs' clk'))[a.block]? = some (Obj.map xs' clk') := by rw [ha]; simp [hlt]
    have e2 : w.heap[a.block]? = some (Obj.map xs clk) := by rw [ha]; exact hold
    simp only [World.frozen?, e1, e2]
  · simp only [World.frozen?]
    rw [hothers a.block ha]
end
end Go.Cm
