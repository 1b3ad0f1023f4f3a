/-
  Graphs: rows of rows that grow in everybody's memory.
-/
import Derived.Test.YthjkmonenenlmaaDoR
set_option linter.unusedSimpArgs false
set_option linter.unusedVariables false
namespace Go.Cm
open Go.Proofs Go.Gr
/-- rows in everybody's memory, each alone -/
structure RInv (b n no : Nat) (H0 H : List HO) (cs : List CV) (f : Nat → List Int) : Prop where
  len : b ≤ H.length
  nol : no < b
  tab : H[no]? = some (.arr 1 1 cs 0)
  csl : cs.length = n
  row : ∀ x : Nat, x < n → (cs[x]? = some .nil ∧ f x = []) ∨ ∃ k gn, cs[x]? = some (.ref (.g k) gn 0 (f x).length) ∧ b ≤ k ∧ H[k]? = some (.arr gn 1 ((f x).flatMap intC) 0)
  apart : ∀ (x y k gn gn' l l' : Nat), cs[x]? = some (.ref (.g k) gn 0 l) → cs[y]? = some (.ref (.g k) gn' 0 l') → x = y
  old : ∀ i : Nat, i < b → i ≠ no → H[i]? = H0[i]?
section
variable {b n no : Nat} {H0 H : List HO} {cs : List CV} {f : Nat → List Int}
theorem RInv.get (h : RInv b n no H0 H cs f) {x : Nat} (hx : x < n) : ∃ v, cs[x]? = some v ∧ RefG H v (f x) := by
  rcases h.row x hx with ⟨h1, h2⟩ | ⟨k, gn, h1, _, h2⟩
  · exact ⟨_, h1, .inl ⟨h2, rfl⟩⟩
  · exact ⟨_, h1, .inr ⟨k, gn, 0, rfl, h2⟩⟩
theorem RInv.idx (h : RInv b n no H0 H cs f) {x : Int} (h0 : 0 ≤ x) (hx : x < n) : idxS 1 (.ref (.g no) 1 0 n) (.int .i64 x) = some (.ptr (.g no) 1 x.toNat) := by
  rw [idxS_ref, if_pos ⟨h0, by omega⟩]; simp
theorem RInv.ld (h : RInv b n no H0 H cs f) {x : Nat} {v : CV} (hv : cs[x]? = some v) {L : List (Nat × HO)} : ld1 ⟨L, H⟩ (.ptr (.g no) 1 x) = some v := by
  rw [ld1_g]; simp only [h.tab, rd1_arr, hv]
/-- one more in a row -/
theorem RInv.step (h : RInv b n no H0 H cs f) {x : Nat} (hx : x < n) {v : CV} (hv : cs[x]? = some v) (a : Int) {gt j jt : Nat} {L : List (Nat × HO)} (ht : lget L jt = some (.arr gt 1 [.int .i64 a] 0)) (hl : (f x).length + 1 ≤ 4294967296) :
    ∃ w H2 H3 cs', appX true j 1 8 v (.ref (.l jt) gt 0 1) ⟨L, H⟩ = some (w, ⟨L, H2⟩) ∧ stX 1 ⟨L, H2⟩ (.ptr (.g no) 1 x) w = some ⟨L, H3⟩ ∧ RInv b n no H0 H3 cs' (fun z => if z = x then f x ++ [a] else f z) := by
  have hc : content ⟨L, H⟩ 1 (.ref (.l jt) gt 0 1) = some [.int .i64 a] := by rw [content_l, ht, conR_arr]; rfl
  have hbl := h.len
  have hnb := h.nol
  have hcx : x < cs.length := by rw [h.csl]; exact hx
  have hfresh : ∀ (z n gn k : Nat), cs[z]? = some (.ref (.g n) gn 0 k) → n < H.length := by
    intro z n gn k hz
    rcases Nat.lt_or_ge z cs.length with hz' | hz'
    · rcases h.row z (by rw [← h.csl]; exact hz') with ⟨h3, _⟩ | ⟨n', gn', h3, _, h4⟩
      · rw [h3] at hz; cases hz
      · rw [h3] at hz
        simp only [Option.some.injEq, CV.ref.injEq, Key.g.injEq] at hz
        rw [← hz.1]; exact (List.getElem?_eq_some_iff.1 h4).1
    · rw [List.getElem?_eq_none hz'] at hz; cases hz
  rcases h.row x hx with ⟨h1, h2⟩ | ⟨k, gn, h1, hbn, h2⟩
  · -- a new row
    rw [h1] at hv
    obtain rfl := (Option.some.inj hv)
    have htab : (H ++ [HO.arr 1 1 [.int .i64 a] 0])[no]? = some (.arr 1 1 cs 0) := by rw [List.getElem?_append_left (by omega)]; exact h.tab
    refine ⟨.ref (.g H.length) 1 0 1, H ++ [HO.arr 1 1 [.int .i64 a] 0], _, cs.set x (.ref (.g H.length) 1 0 1), ?_, stX_one (m := ⟨L, _⟩) htab hcx rfl rfl, ?_⟩
    · rw [appX_n, hc, clen_r, appN_some (by decide), if_pos (smallB_ok (by decide) (by decide))]
      rfl
    · refine ⟨by simp; omega, hnb, by simp only; rw [List.getElem?_set_self (by simp; omega)], by simp [h.csl], fun z hz => ?_, fun z w n gn gn' k k' hz hw => ?_, fun i hi hi2 => ?_⟩
      · by_cases hzx : z = x
        · subst hzx
          right
          refine ⟨H.length, 1, ?_, hbl, ?_⟩
          · rw [List.getElem?_set_self hcx]; simp [h2]
          · simp only
            rw [List.getElem?_set_ne (by omega), List.getElem?_append_right (by omega)]
            simp [h2, intC]
        · rw [List.getElem?_set_ne (Ne.symm hzx), if_neg hzx]
          rcases h.row z hz with h3 | ⟨n', gn', h3, h4, h5⟩
          · exact .inl h3
          · right
            have := (List.getElem?_eq_some_iff.1 h5).1
            exact ⟨n', gn', h3, h4, by simp only; rw [List.getElem?_set_ne (by omega), List.getElem?_append_left this, h5]⟩
      · rw [List.getElem?_set] at hz hw
        split at hz <;> split at hw
        · rename_i e1 e2; rw [← e1, ← e2]
        · simp only [Option.some.injEq, CV.ref.injEq, Key.g.injEq] at hz
          have := hfresh w n gn' k' hw
          omega
        · simp only [Option.some.injEq, CV.ref.injEq, Key.g.injEq] at hw
          have := hfresh z n gn k hz
          omega
        · exact h.apart z w n gn gn' k k' hz hw
      · simp only
        rw [List.getElem?_set_ne (by omega), List.getElem?_append_left (by omega)]; exact h.old i hi hi2
  · -- a row that is made longer
    rw [h1] at hv
    obtain rfl := (Option.some.inj hv)
    have hnl := (List.getElem?_eq_some_iff.1 h2).1
    have htab : (H.set k (.arr (gn + 1) 1 ((f x ++ [a]).flatMap intC) 0))[no]? = some (.arr 1 1 cs 0) := by rw [List.getElem?_set_ne (by omega)]; exact h.tab
    refine ⟨.ref (.g k) (gn + 1) 0 ((f x).length + 1), H.set k (.arr (gn + 1) 1 ((f x ++ [a]).flatMap intC) 0), _, cs.set x (.ref (.g k) (gn + 1) 0 ((f x).length + 1)), ?_, stX_one (m := ⟨L, _⟩) htab hcx rfl rfl, ?_⟩
    · have htk : ((f x).flatMap intC).take ((f x).length * 1) = (f x).flatMap intC := List.take_of_length_le (by rw [len_int]; omega)
      rw [appX_g, hc, clen_r]
      simp only [h2]
      rw [if_pos ⟨trivial, trivial, by omega, smallB_ok (by decide) hl⟩]
      simp only [setG, List.drop_zero, htk, Nat.zero_sub, List.flatMap_append, List.flatMap_cons, List.flatMap_nil, List.append_nil, intC]
    · refine ⟨by simp; omega, hnb, by simp only; rw [List.getElem?_set_self (by simp; omega)], by simp [h.csl], fun z hz => ?_, fun z w n' g1 g2 l l' hz hw => ?_, fun i hi hi2 => ?_⟩
      · by_cases hzx : z = x
        · subst hzx
          right
          refine ⟨k, gn + 1, ?_, hbn, ?_⟩
          · rw [List.getElem?_set_self hcx]; simp
          · simp only
            rw [List.getElem?_set_ne (by omega), List.getElem?_set_self hnl]
            simp
        · rw [List.getElem?_set_ne (Ne.symm hzx), if_neg hzx]
          rcases h.row z hz with h3 | ⟨n', gn', h3, h4, h5⟩
          · exact .inl h3
          · right
            have hne : k ≠ n' := fun e => hzx (h.apart z x n' gn' gn _ _ h3 (by rw [← e]; exact h1))
            exact ⟨n', gn', h3, h4, by simp only; rw [List.getElem?_set_ne (by omega), List.getElem?_set_ne hne, h5]⟩
      · rw [List.getElem?_set] at hz hw
        split at hz <;> split at hw
        · rename_i e1 e2; rw [← e1, ← e2]
        · rename_i e1 e2
          simp only [Option.some.injEq, CV.ref.injEq, Key.g.injEq] at hz
          rw [← hz.1] at hw
          rw [← e1]; exact h.apart x w k gn g2 _ _ h1 hw
        · rename_i e1 e2
          simp only [Option.some.injEq, CV.ref.injEq, Key.g.injEq] at hw
          rw [← hw.1] at hz
          rw [← e2]; exact (h.apart x z k gn g1 _ _ h1 hz).symm
        · exact h.apart z w n' g1 g2 l l' hz hw
      · simp only
        rw [List.getElem?_set_ne (by omega), List.getElem?_set_ne (by omega)]; exact h.old i hi hi2
/-- a row that is sorted -/
theorem RInv.sort (h : RInv b n no H0 H cs f) {x : Nat} (hx : x < n) {v : CV} (hv : cs[x]? = some v) (hl : (f x).length < 4611686018427387904) :
    ∃ H2, EE 23 [v] H = some (.tuple [], H2) ∧ RInv b n no H0 H2 cs (fun z => if z = x then (f x).mergeSort (fun x y => decide (x ≤ y)) else f z) := by
  have hEE : ∀ a, EE 23 a H = sortF a H := fun a => by simp [EE, Cm.tab]
  rw [hEE]
  rcases h.row x hx with ⟨h1, h2⟩ | ⟨k, gn, h1, hbn, h2⟩
  · rw [h1] at hv
    obtain rfl := (Option.some.inj hv)
    refine ⟨H, rfl, ?_⟩
    have : (fun z => if z = x then (f x).mergeSort (fun x y => decide (x ≤ y)) else f z) = f := by
      funext z
      by_cases hz : z = x
      · subst hz; simp [h2]
      · simp [hz]
    rw [this]; exact h
  · rw [h1] at hv
    obtain rfl := (Option.some.inj hv)
    have hnl := (List.getElem?_eq_some_iff.1 h2).1
    have hbl := h.len
    have hnb := h.nol
    refine ⟨_, sortF_row h2 hl, ⟨by simp; omega, hnb, by rw [List.getElem?_set_ne (by omega)]; exact h.tab, h.csl, fun z hz => ?_, h.apart, fun i hi hi2 => by rw [List.getElem?_set_ne (by omega)]; exact h.old i hi hi2⟩⟩
    by_cases hzx : z = x
    · subst hzx
      right
      exact ⟨k, gn, by rw [if_pos rfl, List.length_mergeSort]; exact h1, hbn, by rw [List.getElem?_set_self hnl, if_pos rfl]⟩
    · rw [if_neg hzx]
      rcases h.row z hz with h3 | ⟨n', gn', h3, h4, h5⟩
      · exact .inl h3
      · right
        have hne : k ≠ n' := fun e => hzx (h.apart z x n' gn' gn _ _ h3 (by rw [← e]; exact h1))
        exact ⟨n', gn', h3, h4, by rw [List.getElem?_set_ne hne, h5]⟩
end
/-- rows that are sorted are the document's -/
theorem sort_eq {l : List Int} (hn : l.Nodup) {n : Nat} {p : Nat → Bool} (h : ∀ x : Int, x ∈ l ↔ ∃ i : Nat, i < n ∧ p i = true ∧ (i : Int) = x) :
    l.mergeSort (fun x y => decide (x ≤ y)) = ((List.range n).filter p).map fun (i : Nat) => (i : Int) := by
  have h1 : (l.mergeSort fun x y => decide (x ≤ y)).Pairwise fun a b => a ≤ b := by
    have := List.pairwise_mergeSort (le := fun (x y : Int) => decide (x ≤ y)) (fun a b c h1 h2 => by simp at *; omega) (fun a b => by simp; omega) l
    simpa using this
  have hlt : (((List.range n).filter p).map fun (i : Nat) => (i : Int)).Pairwise fun a b => a < b := by
    rw [List.pairwise_map]
    refine (List.pairwise_lt_range.filter p).imp fun h => by omega
  refine List.Perm.eq_of_pairwise (le := fun a b => a ≤ b) (fun a b _ _ h1 h2 => by omega) h1 (hlt.imp fun h => by omega) ((List.mergeSort_perm _ _).trans ?_)
  refine (List.perm_ext_iff_of_nodup hn (hlt.imp fun h => by omega)).2 fun x => ?_
  rw [h, List.mem_map]
  constructor
  · rintro ⟨i, h1, h2, h3⟩
    exact ⟨i, by simp [h1, h2], h3⟩
  · rintro ⟨i, h1, h2⟩
    simp at h1
    exact ⟨i, h1.1, h1.2, h2⟩
end Go.Cm
