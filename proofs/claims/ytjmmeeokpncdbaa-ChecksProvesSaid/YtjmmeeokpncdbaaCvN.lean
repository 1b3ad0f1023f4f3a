/-
  The C machine, fourteenth part: append and copy.
-/
import Derived.Test.YtjmmeeokpncdbaaCvM
set_option linter.unusedSimpArgs false
set_option linter.unusedVariables false
namespace Go.Cm

section
variable {K : KM} {Q : PM} {P : Program} {w w' : World} {m : Mem}

theorem append_place {ts : Array TypeId} {ty t u e e' : TypeId} {sz : Nat} (h0 : ts[0]? = some t) (h1 : ts[1]? = some u) (ht : P.underlying t = some (.slice e)) (hu : P.underlying u = some (.slice e'))
    (hs : tsize P e = some sz) {base a : Option Addr} {sLen sCap n c : Nat} {news : List Value} (hnew : (Builtin.firstCells sz n (.slice a n c)).run P w = .ok news.toArray w) (h : sLen + n ≤ sCap) :
    (Builtin.append_ ts ty #[.slice base sLen sCap, .slice a n c]).run P w = match base with
      | some b => ((storeCells (b.add (sLen * sz)) news).run P w).andThen fun _ w' => .ok (.slice base (sLen + n) sCap) w'
      | none => .ok (.slice base (sLen + n) sCap) w := by
  have hsz := run_tsize (w := w) hs
  cases base <;> simp [Builtin.append_, h0, h1, run_tunder ht, run_tunder hu, hsz, Builtin.lenOf, h, hnew]

theorem append_grows {ts : Array TypeId} {ty t u e e' : TypeId} {sz : Nat} (h0 : ts[0]? = some t) (h1 : ts[1]? = some u) (ht : P.underlying t = some (.slice e)) (hu : P.underlying u = some (.slice e'))
    (hs : tsize P e = some sz) {i : TypeInfo} (hi : P.info? e = some i) {z : Value} (hz : i.zero = some z) {base a : Option Addr} {sLen sCap n c : Nat} {news olds : List Value} (hnew : ∀ w', w'.heap = w.heap → (Builtin.firstCells sz n (.slice a n c)).run P w' = .ok news.toArray w')
    (hold : ∀ w', w'.heap = w.heap → (Builtin.firstCells sz sLen (.slice base sLen sCap)).run P w' = .ok olds.toArray w') (h : sCap < sLen + n) (hsmall : sLen + n ≤ 4294967296) (hb : i.bytes ≤ 1024) :
    ∃ w', (Builtin.append_ ts ty #[.slice base sLen sCap, .slice a n c]).run P w = .ok (.slice (some ⟨w.heap.size, 0, none⟩) (sLen + n) (grownCap w (sLen + n) sCap e)) w' ∧
      Pushed w w' (.cells (olds.toArray ++ news.toArray ++ Builtin.zeroCells z.cells (grownCap w (sLen + n) sCap e - (sLen + n))) e (0, 0)) := by
  have hsz : ∀ w', (sizeOf e).run P w' = .ok sz w' := fun w' => run_tsize hs
  have hn : ¬ (sLen + n ≤ sCap) := by omega
  have h63' : ¬ (9223372036854775807 < ((sLen : Int) + (n : Int))) := by omega
  have hnext := nextslicecap_le h
  have h48' : ¬ (281474976710656 < Builtin.nextslicecap (sLen + n) sCap * i.bytes) := by
    have : Builtin.nextslicecap (sLen + n) sCap * i.bytes ≤ (2 * 4294967296) * 1024 := Nat.mul_le_mul (by omega) hb
    omega
  have hf := hnew w.drew rfl
  have hfo := hold w.drew rfl
  refine ⟨w.drew.alloc (.cells (olds.toArray ++ news.toArray ++ Builtin.zeroCells z.cells (grownCap w (sLen + n) sCap e - (sLen + n))) e), ?_, rfl, rfl, rfl⟩
  simp [Builtin.append_, h0, h1, run_tunder ht, run_tunder hu, hsz, Builtin.lenOf, hn, typeInfo, zeroValue, hi, hz, h63', h48', Question.forced, newRow, grownCap, hf, hfo]
  congr 2
  apply Array.ext'
  simp [List.append_assoc]

theorem cappend_run (hR : MR K m.get Q w) {glob : Bool} {j : Nat} {e e' t u ty : TypeId} {ts : Array TypeId} {s x c : CV} {m' : Mem} {sv xv : Value}
    (h0 : ts[0]? = some t) (h1 : ts[1]? = some u) (ht : P.underlying t = some (.slice e)) (hu : P.underlying u = some (.slice e'))
    (hs : Vt K m Q s sv) (hx : Vt K m Q x xv) (h : cappend P glob j e s x m = some (c, m')) :
    ∃ Q' w' r, (Builtin.append_ ts ty #[sv, xv]).run P w = .ok r w' ∧ Trans K m Q w K m' Q' w' ∧ Vt K m' Q' c r := by
  unfold cappend at h
  split at h
  · rename_i sz z hsz hz
    split at h
    · simp at h
    · rename_i hzs
      simp only [not_or, Decidable.not_not] at hzs
      split at h
      · rename_i ys n hys hn
        obtain ⟨news, a, c0, rfl, hVn, halln, hlenn, hfc⟩ := content_run (P := P) hR hx hys hn
        have hfc' : ∀ w', w'.heap = w.heap → (Builtin.firstCells sz n (.slice a n c0)).run P w' = .ok news.toArray w' := fun w' hw => by
          have := hfc w' hw n (Nat.le_refl _)
          rwa [List.take_of_length_le (by omega)] at this
        obtain ⟨zv, hz1, hz2, hz3, i, hi, hiz⟩ := run_tzcells (K := K) (M := m.get) (Q := Q) (w := w) (loc := false) hz
        have hzlen : zv.cells.size = sz := by have := Vs_length hz3; simp only [Array.length_toList] at this; omega
        split at h
        · -- nothing so far
          simp only [Vt, V] at hs; subst hs
          split at h
          · rename_i hn0
            subst hn0
            simp only [Option.some.injEq, Prod.mk.injEq] at h
            obtain ⟨rfl, rfl⟩ := h
            refine ⟨Q, w, .slice none 0 0, ?_, Trans.refl hR, by simp [Vt, V]⟩
            rw [append_place h0 h1 ht hu hsz (hfc' w rfl) (by omega)]
          · rename_i hn0
            split at h
            · rename_i hsm
              obtain ⟨i', hi', hb, hsmall⟩ := small_spec hsm
              rw [hi] at hi'; simp only [Option.some.injEq] at hi'; subst hi'
              simp only [Option.some.injEq, Prod.mk.injEq] at h
              obtain ⟨rfl, rfl⟩ := h
              obtain ⟨w', hrun, hheap⟩ := append_grows (ty := ty) h0 h1 ht hu hsz hi hiz (base := none) (sLen := 0) (sCap := 0) (olds := []) hfc' (fun w' _ => by simp [Builtin.firstCells]) (by omega) (by omega) hb
              obtain ⟨Q', hT, hq⟩ := new_cells hR glob j (fun g => .arr g sz ys 0) (fun _ => rfl) (fun _ => rfl) (fun _ => rfl) (cs := ys) (fun _ => rfl) halln false (by simp) hVn (fun i v hv => by
                rw [Array.getElem?_append_left (by simp; exact (List.getElem?_eq_some_iff.1 hv).1)]
                simpa using hv) hheap
              refine ⟨Q', w', _, hrun, hT, ?_⟩
              obtain ⟨hget, _⟩ := add_spec m glob j (fun g => HO.arr g sz ys 0) (fun _ => rfl)
              have hge := grownCap_ge w (0 + n) 0 e
              have hlen := Vs_length hVn
              have hcap : grownCap w (0 + n) 0 e * sz = n * sz + (grownCap w (0 + n) 0 e - (0 + n)) * sz := by
                rw [← Nat.add_mul]; congr 1; omega
              have e0 : (0 + n) * sz = n * sz := by rw [Nat.zero_add]
              have hk2 : (m.add glob j fun g => HO.arr g sz ys 0).2.2.get (m.add glob j fun g => HO.arr g sz ys 0).1 = some (.arr (m.add glob j fun g => HO.arr g sz ys 0).2.1 sz ys 0) := by rw [hget]; simp [upd]
              have := new_ref (K := K) (Q' := Q') hk2 hq (len := 0 + n) (cap := grownCap w (0 + n) 0 e) hge (by
                simp only [Array.size_append, List.size_toArray, size_zeroCells, hzlen, List.length_nil]; omega) (by omega)
              simpa using this
            · simp at h
        · rename_i k gn off len
          split at h
          · rename_i g s' cs vl hget
            split at h
            · rename_i hcond
              obtain ⟨rfl, rfl, hvl, hsm⟩ := hcond
              simp only [Option.some.injEq, Prod.mk.injEq] at h
              obtain ⟨rfl, rfl⟩ := h
              obtain ⟨i', hi', hb, hsmall⟩ := small_spec hsm
              rw [hi] at hi'; simp only [Option.some.injEq] at hi'; subst hi'
              obtain ⟨olds, ob, cap, hsv, hVo, hallo, hleno, hfo⟩ := content_run (P := P) (sz := s') (n := len) (ys := (cs.drop off).take (len * s')) hR hs (by simp [content, hget]) (by simp [clen])
              have hfo' : ∀ w', w'.heap = w.heap → (Builtin.firstCells s' len (.slice ob len cap)).run P w' = .ok olds.toArray w' := fun w' hw => by
                have := hfo w' hw len (Nat.le_refl _)
                rw [hsv] at this
                rwa [List.take_of_length_le (by omega)] at this
              have hs' := hs
              simp only [Vt, V] at hs'
              obtain ⟨hk, y, a', cap', hy, _, hv', hcap', _, hra⟩ := hs'
              rw [hsv] at hv'; simp only [Value.slice.injEq] at hv'
              obtain ⟨rfl, _, rfl⟩ := hv'
              rw [hget] at hy; simp only [Option.some.injEq] at hy; subst hy
              obtain ⟨sz', cs', vl', he, hra⟩ := hra rfl
              simp only [HO.arr.injEq] at he
              obtain ⟨_, rfl, rfl, rfl⟩ := he
              subst hsv
              have hlena := Vs_length hVo
              have hlenb := Vs_length hVn
              have hget2 : ∀ y0, m.get k = some y0 → y0.gn < (HO.arr (g + 1) s' ((cs.drop off).take (len * s') ++ ys) (vl - off)).gn := by
                intro y0 hy0; rw [hget] at hy0; simp only [Option.some.injEq] at hy0; subst hy0; exact Nat.lt_succ_self g
              have hflag : ∀ gg cc vv, flag k (.arr gg s' cc vv) = false := by intro gg cc vv; cases k <;> rfl
              by_cases hroom : len + n ≤ cap
              · have hpl := append_place (ty := ty) h0 h1 ht hu hsz (base := ob) (sLen := len) (sCap := cap) (hfc' w rfl) hroom
                rcases hra with hc0 | ⟨q, hq, rfl, hb1, hb2⟩
                · -- no room at all, nothing to do
                  have hl0 : len = 0 := by omega
                  have hn0 : n = 0 := by omega
                  subst hl0 hn0 hc0
                  have hnil : ys = [] := List.eq_nil_of_length_eq_zero (by omega)
                  have hnn : news = [] := List.eq_nil_of_length_eq_zero (by omega)
                  subst hnil hnn
                  have hT : Trans K m Q w K (m.set k (.arr (g + 1) s' ((cs.drop off).take (0 * s') ++ []) (vl - off))) (updP Q k none) w := by
                    have hmv := hR.move (k := k) (x := .arr (g + 1) s' ((cs.drop off).take (0 * s') ++ []) (vl - off)) (q := none) (w' := w) hget2 (fun _ _ => rfl) (Nat.le_refl _) (by simp) (by
                      intro q hq; simp [updP] at hq)
                    refine ⟨by rw [get_set_fun m k _ _ hget]; exact hmv, fun _ _ _ h => h, by
                      rw [get_set_fun m k _ _ hget]
                      exact Grow.upd fun y hy => ⟨Nat.le_of_lt (hget2 y hy), fun he => absurd he (Nat.ne_of_lt (hget2 y hy))⟩, Nat.le_refl _, fun _ _ _ => rfl, fun _ _ _ h => .inl h, fun k' p hp => ?_, Kept.refl w⟩
                    simp only [updP] at hp
                    split at hp
                    · simp at hp
                    · exact .inl ⟨p, hp, rfl⟩
                  refine ⟨_, w, .slice ob 0 0, ?_, hT, ?_⟩
                  · rw [hpl]
                    cases ob <;> simp [storeCells]
                  · simp only [Vt, V]
                    refine ⟨hk, _, ob, 0, by rw [get_set_fun m k _ _ hget]; unfold upd; rw [if_pos rfl], Nat.le_refl _, rfl, Nat.le_refl _, .inl rfl, fun _ => ⟨_, _, _, rfl, .inl rfl⟩⟩
                · have hstep : (len + n) * s' ≤ cap * s' := Nat.mul_le_mul_right _ hroom
                  rw [Nat.add_mul] at hstep
                  have hvl' : q.base + vl ≤ q.base + off + len * s' := by omega
                  obtain ⟨w', hst, hT⟩ := write_cells (P := P) hR hget rfl hq (y := .arr (g + 1) s' ((cs.drop off).take (len * s') ++ ys) (vl - off)) (base' := q.base + off) (off := q.base + off + len * s') (vs := news) (.inl (Nat.lt_succ_self g)) rfl
                    (Vs_one halln hVn) (by simpa [HO.vl] using hvl') (by omega) (by simp only [HO.cells, List.length_append]; omega) (by simp only [HO.vl]; omega) (by rw [hflag, hflag]) (by
                      intro i c hc
                      simp only [HO.cells] at hc ⊢
                      rw [hflag]
                      by_cases hi1 : i < len * s'
                      · rw [List.getElem?_append_left (by omega)] at hc
                        refine ⟨List.all_eq_true.1 hallo c (List.mem_of_getElem? hc), .inr ⟨by omega, off + i, ?_, by omega⟩⟩
                        rw [List.getElem?_take] at hc
                        split at hc
                        · rwa [List.getElem?_drop] at hc
                        · omega
                      · rw [List.getElem?_append_right (by omega)] at hc
                        obtain ⟨v, hv, hVv⟩ := Vs_get hVn hc
                        exact ⟨List.all_eq_true.1 halln c (List.mem_of_getElem? hc), .inl ⟨i - len * s', v, by omega, by rw [show i - len * s' = i - ((cs.drop off).take (len * s')).length from by omega]; exact hv, hVv⟩⟩)
                  refine ⟨_, w', .slice (some ⟨q.blk, q.base + off, none⟩) (len + n) cap, ?_, hT, ?_⟩
                  · rw [hpl]
                    simp only [addr_add]
                    rw [hst]; rfl
                  · have := new_ref (K := K) (Q' := updP Q k (some ⟨q.blk, q.base + off, q.bsz⟩)) (m'' := m.set k (.arr (g + 1) s' ((cs.drop off).take (len * s') ++ ys) (vl - off))) (key := k) (by rw [get_set_fun m k _ _ hget]; unfold upd; rw [if_pos rfl]) (q := ⟨q.blk, q.base + off, q.bsz⟩) (by simp [updP]) (len := len + n) (cap := cap) hroom (by simpa using hb1) (by
                      rw [Nat.add_mul, List.length_append]; omega)
                    exact this
              · obtain ⟨w', hrun, hheap⟩ := append_grows (ty := ty) h0 h1 ht hu hsz hi hiz (base := ob) (sLen := len) (sCap := cap) (olds := olds) hfc' hfo' (by omega) (by omega) hb
                have hge := grownCap_ge w (len + n) cap e
                have hcap : grownCap w (len + n) cap e * s' = (len + n) * s' + (grownCap w (len + n) cap e - (len + n)) * s' := by
                  rw [← Nat.add_mul]; congr 1; omega
                generalize hes : olds.toArray ++ news.toArray ++ Builtin.zeroCells zv.cells (grownCap w (len + n) cap e - (len + n)) = es at *
                have hessz : es.size = len * s' + n * s' + (grownCap w (len + n) cap e - (len + n)) * s' := by
                  subst hes; simp only [Array.size_append, List.size_toArray, size_zeroCells, hzlen]; omega
                have hpre : ∀ (i : Nat) (v : Value), (olds ++ news)[i]? = some v → es[i]? = some v := by
                  intro i v hv
                  subst hes
                  have hlt := (List.getElem?_eq_some_iff.1 hv).1
                  rw [Array.getElem?_append_left (by simpa using hlt)]
                  simpa using hv
                have hold : ∀ b, b < w.heap.size → w'.heap[b]? = w.heap[b]? := fun b hb => by rw [hheap.1, Array.getElem?_push]; rw [if_neg (by omega)]
                have hsz' : w'.heap.size = w.heap.size + 1 := by rw [hheap.1]; simp
                generalize hy : HO.arr (g + 1) s' ((cs.drop off).take (len * s') ++ ys) (vl - off) = y at *
                have hG : Grow true m.get Q (upd m.get k y) (updP Q k (some ⟨w.heap.size, 0, es.size⟩)) :=
                  Grow.upd fun z hz => ⟨Nat.le_of_lt (hget2 z hz), fun he => absurd he (Nat.ne_of_lt (hget2 z hz))⟩
                have hmv := hR.move (k := k) (x := y) (q := some ⟨w.heap.size, 0, es.size⟩) (w' := w') hget2 hold (by omega) (fun p hp => by
                    simp only [Option.some.injEq] at hp; subst hp; exact ⟨Nat.le_refl _, by show w.heap.size < w'.heap.size; omega⟩) (by
                  intro p hp
                  simp only [updP, if_true, Option.some.injEq] at hp
                  subst hp; subst hy
                  refine (show CellsOK _ _ _ _ _ _ _ _ from ⟨⟨es, e, by rw [hheap.1]; simp, rfl, fun i c hc => ?_⟩, ?_, fun o _ => ?_⟩)
                  · simp only [HO.cells] at hc
                    have hc' : ((cs.drop off).take (len * s') ++ ys)[i]? = some c := hc
                    obtain ⟨v, hv, hVv⟩ := Vs_get (Vs_append hVo hVn) hc'
                    refine ⟨?_, v, by simpa using hpre i v hv, ?_⟩
                    · have hall : ((cs.drop off).take (len * s') ++ ys).all leafV = true := by rw [List.all_append, hallo, halln]; rfl
                      exact List.all_eq_true.1 hall c (List.mem_of_getElem? hc')
                    · exact V_mono (fun _ _ _ h => h) hG.sub (by rw [hflag]; simp) (by exact hG.sub) c v hVv
                  · simp only [HO.cells, List.length_append]; omega
                  · cases hk' : K w.heap.size o with
                    | none => rfl
                    | some v =>
                      have := World.block_lt_of_cell? _ _ (hR.stab _ _ _ hk')
                      simp at this)
                have hT : Trans K m Q w K (m.set k y) (updP Q k (some ⟨w.heap.size, 0, es.size⟩)) w' := by
                  refine ⟨by rw [get_set_fun m k _ _ hget]; exact hmv, fun _ _ _ h => h, by rw [get_set_fun m k _ _ hget]; exact hG, by omega, fun b hb _ => hold b hb, fun _ _ _ h => .inl h, fun k' p hp => ?_, hheap.kept (.inl ⟨_, _, rfl⟩)⟩
                  simp only [updP] at hp
                  split at hp
                  · rename_i he; subst he
                    simp only [Option.some.injEq] at hp; subst hp
                    exact .inr ⟨Nat.le_refl _, fun h hh => ⟨y, by rw [get_set_fun m k _ _ hget]; simp [upd], hget2 h hh⟩⟩
                  · exact .inl ⟨p, hp, rfl⟩
                refine ⟨_, w', _, hrun, hT, ?_⟩
                subst hy
                have := new_ref (K := K) (Q' := updP Q k (some ⟨w.heap.size, 0, es.size⟩)) (m'' := m.set k (.arr (g + 1) s' ((cs.drop off).take (len * s') ++ ys) (vl - off))) (key := k) (by rw [get_set_fun m k _ _ hget]; unfold upd; rw [if_pos rfl]) (q := ⟨w.heap.size, 0, es.size⟩) (by simp [updP]) (len := len + n) (cap := grownCap w (len + n) cap e) hge (by
                  simp only []; rw [hcap, hessz, Nat.add_mul]; omega) (by rw [Nat.add_mul, List.length_append]; omega)
                exact this
            · simp at h
          · simp at h
        · simp at h
      · simp at h
  · simp at h
end
end Go.Cm
