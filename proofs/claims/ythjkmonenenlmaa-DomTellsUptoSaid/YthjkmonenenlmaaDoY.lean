/-
  slices.Sort at rows of numbers, as the machine sees it: the row is sorted, nothing else changes.
-/
import Derived.Test.YthjkmonenenlmaaCwA
import Derived.Test.YthjkmonenenlmaaDoX
import Derived.Test.YthjkmonenenlmaaCxJ
set_option linter.unusedSimpArgs false
set_option linter.unusedVariables false
namespace Go.Cm
open Go.Proofs Go.Sort
section
variable {K : KM} {Q : PM} {w : World} {m : Mem}
theorem get_gm (H : List HO) : Mem.get ⟨[], H⟩ = gm H := by
  funext k
  cases k with
  | l j => rfl
  | g n => rfl
/-- blocks that nobody sees -/
theorem Trans_grown (hR : MR K m.get Q w) (os : Array Obj) : Trans K m Q w K m Q (Go.Sort.grow w os) := by
  have hh : ∀ b, b < w.heap.size → (Go.Sort.grow w os).heap[b]? = w.heap[b]? := fun b hb => by
    show (w.heap ++ os)[b]? = _
    rw [Array.getElem?_append_left hb]
  have hs : w.heap.size ≤ (Go.Sort.grow w os).heap.size := by
    show w.heap.size ≤ (w.heap ++ os).size
    simp
  have hb : ∀ {b o : Nat} {v : Value}, w.cell? ⟨b, o, none⟩ = some v → b < w.heap.size := fun {b o v} h => by
    unfold World.cell? at h
    cases hx : w.heap[b]? with
    | none => simp [hx] at h
    | some _ => exact (Array.getElem?_eq_some_iff.1 hx).1
  refine ⟨hR.apart (fun _ _ _ h => h) (fun b o v hv => ?_) (fun _ _ _ _ h => h) hh hs, fun _ _ _ h => h, Grow.refl _ _ _, hs, fun b hb _ => hh b hb, fun _ _ _ h => .inl h, fun k q h => .inl ⟨q, h, rfl⟩, rfl, rfl, fun a ha => ?_, hs⟩
  · have := hR.stab b o v hv
    rw [← this]
    exact cell?_of_heap (hh b (hb this))
  · simp only [World.frozen?, hh a.block ha]
theorem sort_sim {n gn : Nat} {l : List Int} {H : List HO} (hH : H[n]? = some (.arr gn 1 (l.flatMap intC) 0)) (hl : l.length < 4611686018427387904) :
    SimAt Try.prog 23 [.ref (.g n) gn 0 l.length] H (.tuple []) (H.set n (.arr gn 1 ((l.mergeSort fun x y => decide (x ≤ y)).flatMap intC) 0)) := by
  refine ⟨⟨_, Try.func23, by kernel_rfl⟩, fun K Q w vs hR hV => ?_⟩
  simp only [Vs] at hV
  obtain ⟨v, r, hvs, hv, hr⟩ := hV
  subst hr
  obtain rfl : vs = #[v] := by cases vs; simpa using hvs
  simp only [V] at hv
  obtain ⟨_, h, a, cap, hh, _, rfl, hcap, _, hra⟩ := hv
  have hh' : h = .arr gn 1 (l.flatMap intC) 0 := by
    have : gm H (.g n) = H[n]? := rfl
    rw [this, hH] at hh
    injection hh with hh
    exact hh.symm
  subst hh'
  obtain ⟨sz, cs, vl, he, hra⟩ := hra rfl
  injection he with e1 e2 e3 e4
  subst e2 e3
  have hlen : (l.flatMap intC).length = l.length := len_int
  generalize hS : (l.mergeSort fun x y => decide (x ≤ y)) = S
  have hSl : S.length = l.length := by rw [← hS, List.length_mergeSort]
  rcases hra with hc0 | ⟨q, hq, rfl, hb1, hb2⟩
  · have hl0 : l.length = 0 := by omega
    have hln : l = [] := List.eq_nil_of_length_eq_zero hl0
    have hSn : S = [] := List.eq_nil_of_length_eq_zero (by omega)
    subst hln hSn
    have hself : H.set n (.arr gn 1 (([] : List Int).flatMap intC) 0) = H := by
      refine List.ext_getElem? fun i => ?_
      by_cases hi : n = i
      · subst hi
        rw [List.getElem?_set_self (List.getElem?_eq_some_iff.1 hH).1, hH]
      · rw [List.getElem?_set_ne hi]
    rw [hself]
    refine (Try.slices_Sort_int_none a cap w).mono ?_
    rintro e w' ⟨rfl, rfl⟩
    exact ⟨.tuple #[], K, Q, rfl, hR, ⟨fun _ _ _ => rfl, Nat.le_refl _, fun _ _ _ h => h, fun _ _ _ h => .inl h, Grow.refl _ _ _, fun k q h => .inl ⟨q, h, rfl⟩, Kept.refl _⟩, ⟨#[], rfl, rfl⟩⟩
  · have hR' : MR K (Mem.get ⟨[], H⟩) Q w := by rw [get_gm]; exact hR
    have hok := hR.objs (.g n) _ hh q hq
    obtain ⟨⟨es, t, h1, h2, h3⟩, h4, h5⟩ := hok
    have hcell : ∀ j x, l[j]? = some x → es[q.base + j]? = some (.int .i64 x) := fun j x hx => by
      obtain ⟨_, v, hv1, hv2⟩ := h3 j (.int .i64 x) (by show (l.flatMap intC)[j]? = _; rw [flat_int, hx]; rfl)
      simp only [V] at hv2
      rw [hv1, hv2]
    have hHold : Holds (Value.int .i64) w q.blk (q.base + 0) l.toArray := by
      intro j hj
      have hj' : j < l.length := by simpa using hj
      have hx := hcell j l[j] (List.getElem?_eq_getElem hj')
      refine ⟨?_, by simp [World.frozen?, h1]⟩
      rw [row_cell h1, Nat.add_zero, hx]
      simp [hj']
    have hblk : q.blk < w.heap.size := (Array.getElem?_eq_some_iff.1 h1).1
    have hone : ∀ v ∈ S.map (Value.int .i64), v.oneCell' = true := by
      intro v hv
      obtain ⟨x, _, rfl⟩ := List.mem_map.1 hv
      rfl
    obtain ⟨w1, hrun, hT⟩ := write_cells (P := Try.prog) (m := ⟨[], H⟩) hR' (k := .g n) (x := .arr gn 1 (l.flatMap intC) 0) (y := .arr gn 1 (S.flatMap intC) 0) hH rfl hq (base' := q.base) (off := q.base) (vs := S.map (Value.int .i64))
      (.inr ⟨rfl, rfl, by show (S.flatMap intC).length = (l.flatMap intC).length; rw [len_int, len_int, hSl]⟩) rfl hone (Nat.le_refl _) (by rw [List.length_map]; omega) (by show q.base + (S.flatMap intC).length ≤ _; rw [len_int]; omega) (Nat.le_refl _) rfl
      (fun i c hc => by
        have hc : (S.flatMap intC)[i]? = some c := hc
        rw [flat_int] at hc
        cases hx : S[i]? with
        | none => rw [hx] at hc; simp at hc
        | some x =>
          rw [hx] at hc
          simp only [Option.map_some, Option.some.injEq] at hc
          subst hc
          exact ⟨rfl, .inl ⟨i, .int .i64 x, rfl, by rw [List.getElem?_map, hx]; rfl, by simp only [V]⟩⟩)
    have hst := run_storeCells_at Try.prog q.blk q.base t (S.map (Value.int .i64)) 0 es w h1 (by rw [List.length_map]; omega) hone
    rw [hrun] at hst
    injection hst with _ hw1
    have hsort := Try.slices_Sort_int q.blk (q.base + 0) cap l w hHold hblk hl
    refine hsort.mono ?_
    rintro e w' ⟨rfl, k, os, rfl⟩
    rw [hS]
    have hheap : (putRow (Value.int .i64) (Go.Sort.ahead w k) q.blk (q.base + 0) S.toArray).heap = w1.heap := by
      rw [hw1]
      simp only [putRow, mapBlock, World.setRow, Go.Sort.ahead]
      refine Array.ext_getElem? fun i => ?_
      simp only [Array.getElem?_modify]
      by_cases hi : q.blk = i
      · subst hi
        simp only [if_true, h1, Option.map_some, onCells]
        congr 2
        refine Array.ext_getElem? fun j => ?_
        have hfit : q.base + S.length ≤ es.size := by omega
        simp only [putCells, Array.getElem?_mapIdx, List.getElem?_toArray, Nat.add_zero, List.size_toArray, List.length_map]
        have htk : (es.toList.take q.base).length = q.base := by rw [List.length_take, Array.length_toList]; omega
        by_cases ha : j < q.base
        · rw [List.append_assoc, List.getElem?_append_left (by rw [htk]; exact ha), List.getElem?_take, if_pos ha, Array.getElem?_toList]
          have hn : ¬ (q.base ≤ j ∧ j < q.base + S.length) := by omega
          simp only [hn, if_false]
          cases es[j]? <;> rfl
        · by_cases hb : j < q.base + S.length
          · rw [List.getElem?_append_left (by rw [List.length_append, htk, List.length_map]; exact hb), List.getElem?_append_right (by rw [htk]; omega), htk, List.getElem?_map, Array.getElem?_eq_getElem (by omega)]
            have hy : q.base ≤ j ∧ j < q.base + S.length := ⟨by omega, hb⟩
            have hjs : j - q.base < S.length := by omega
            simp only [hy, and_self, if_true, Option.map_some, List.getElem?_eq_getElem hjs]
            simp [hjs]
          · rw [List.getElem?_append_right (by rw [List.length_append, htk, List.length_map]; omega), List.length_append, htk, List.length_map, List.getElem?_drop, Array.getElem?_toList]
            have hn : ¬ (q.base ≤ j ∧ j < q.base + S.length) := by omega
            have hjj : q.base + S.length + (j - (q.base + S.length)) = j := by omega
            simp only [hn, if_false, hjj]
            cases es[j]? <;> rfl
      · simp only [hi, if_false]
    have hT2 := hT.same (w'' := putRow (Value.int .i64) (Go.Sort.ahead w k) q.blk (q.base + 0) S.toArray) hheap (by rw [hw1]; rfl) (by rw [hw1]; rfl)
    have hT3 := hT2.trans (Trans_grown hT2.mr os)
    have hset : Mem.set ⟨[], H⟩ (.g n) (.arr gn 1 (S.flatMap intC) 0) = ⟨[], H.set n (.arr gn 1 (S.flatMap intC) 0)⟩ := rfl
    rw [hset] at hT3
    obtain ⟨t1, t2, t3, t4, t5, t6, t7, t8⟩ := hT3
    rw [get_gm] at t1 t3 t7
    rw [get_gm] at t3 t7
    exact ⟨.tuple #[], K, _, rfl, t1, ⟨t5, t4, t2, t6, t3.sub, t7, t8⟩, ⟨#[], rfl, rfl⟩⟩
theorem sort_nil {H : List HO} : SimAt Try.prog 23 [.nil] H (.tuple []) H := by
  refine ⟨⟨_, Try.func23, by kernel_rfl⟩, fun K Q w vs hR hV => ?_⟩
  simp only [Vs] at hV
  obtain ⟨v, r, hvs, hv, hr⟩ := hV
  subst hr
  obtain rfl : vs = #[v] := by cases vs; simpa using hvs
  simp only [V] at hv
  subst hv
  refine (Try.slices_Sort_int_none none 0 w).mono ?_
  rintro e w' ⟨rfl, rfl⟩
  exact ⟨.tuple #[], K, Q, rfl, hR, ⟨fun _ _ _ => rfl, Nat.le_refl _, fun _ _ _ h => h, fun _ _ _ h => .inl h, Grow.refl _ _ _, fun k q h => .inl ⟨q, h, rfl⟩, Kept.refl _⟩, ⟨#[], rfl, rfl⟩⟩
end
end Go.Cm
