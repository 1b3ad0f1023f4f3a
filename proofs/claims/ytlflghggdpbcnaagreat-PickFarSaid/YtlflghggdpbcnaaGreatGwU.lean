import Derived.Test.YtlflghggdpbcnaaGreatGwQ
set_option linter.unusedSimpArgs false
set_option linter.unusedVariables false
namespace Go.Cm
open Go.Proofs Go.Pk
def HR (l : List Dr) (marks sz ats : List Int) : List HO := [.arr 1 1 (sz.flatMap intC) 0, .arr 1 1 (ats.flatMap intC) 0, .var 1 [sl drC l, sl intC marks, .ref (.g 0) 1 0 l.length, .ref (.g 1) 1 0 (l.length + 1)] 0]
section
variable {l : List Dr} {marks sz ats : List Int} {L : List (Nat × HO)} {i : Nat} {v : Int}
theorem HR_0 : ld1 ⟨L, HR l marks sz ats⟩ (.ptr (.g 2) 1 0) = some (sl drC l) := rfl
theorem HR_1 : ld1 ⟨L, HR l marks sz ats⟩ (.ptr (.g 2) 1 1) = some (sl intC marks) := rfl
theorem HR_2 : ld1 ⟨L, HR l marks sz ats⟩ (.ptr (.g 2) 1 2) = some (.ref (.g 0) 1 0 l.length) := rfl
theorem HR_3 : ld1 ⟨L, HR l marks sz ats⟩ (.ptr (.g 2) 1 3) = some (.ref (.g 1) 1 0 (l.length + 1)) := rfl
theorem HR_ix {k n : Nat} (h : i < n) : idxS 1 (.ref (.g k) 1 0 n) (.int .i64 i) = some (.ptr (.g k) 1 i) := by
  rw [idxS_ref, if_pos ⟨by omega, by omega⟩]; simp
theorem HR_sz (h : sz[i]? = some v) : ld1 ⟨L, HR l marks sz ats⟩ (.ptr (.g 0) 1 i) = some (.int .i64 v) := by
  have e : (HR l marks sz ats)[0]? = some (.arr 1 1 (sz.flatMap intC) 0) := rfl
  rw [ld1_g, e]; simp only [rd1_arr, if_true, flat_int, h, Option.map_some]
theorem HR_at (h : ats[i]? = some v) : ld1 ⟨L, HR l marks sz ats⟩ (.ptr (.g 1) 1 i) = some (.int .i64 v) := by
  have e : (HR l marks sz ats)[1]? = some (.arr 1 1 (ats.flatMap intC) 0) := rfl
  rw [ld1_g, e]; simp only [rd1_arr, if_true, flat_int, h, Option.map_some]
theorem HR_st (h : i < ats.length) : stX 1 ⟨L, HR l marks sz ats⟩ (.ptr (.g 1) 1 i) (.int .i64 v) = some ⟨L, HR l marks sz (ats.set i v)⟩ := by
  rw [stX_one (cells := ats.flatMap intC) rfl (by rw [len_int]; exact h) rfl rfl, set_int]; rfl
theorem HR_ss (h : i < sz.length) : stX 1 ⟨L, HR l marks sz ats⟩ (.ptr (.g 0) 1 i) (.int .i64 v) = some ⟨L, HR l marks (sz.set i v) ats⟩ := by
  rw [stX_one (cells := sz.flatMap intC) rfl (by rw [len_int]; exact h) rfl rfl, set_int]; rfl
end
structure MayP (l : List Dr) (marks : List Int) : Prop where
  len : l.length ≤ 100000
  mks : ∀ m ∈ marks, 0 ≤ m ∧ m ≤ l.length
  drs : ∀ x ∈ l, 0 ≤ x.mark ∧ x.mark ≤ marks.length ∧ (0 < x.mark → (x.ins.op = 21 ∨ x.ins.op = 20) ∧ x.ins.imm = 0)
theorem mayD_of {l : List Dr} {marks : List Int} (h : mayD l marks = true) : MayP l marks := by
  simp only [mayD, Bool.and_eq_true, decide_eq_true_eq, List.all_eq_true] at h
  refine ⟨h.1, h.2.1, fun x hx => ?_⟩
  have := h.2.2 x hx
  simp only [drOk, Bool.and_eq_true, Bool.or_eq_true, decide_eq_true_eq] at this
  refine ⟨this.1, this.2.1, fun hp => ?_⟩
  rcases this.2.2.1 with h | h
  · omega
  · exact h
def markAt (marks : List Int) (x : Dr) : Int := (marks[(x.mark - 1).toNat]?).getD 0
theorem markAt_get {l : List Dr} {marks : List Int} (hM : MayP l marks) {x : Dr} (hx : x ∈ l) (hp : 0 < x.mark) : marks[(x.mark - 1).toNat]? = some (markAt marks x) ∧ 0 ≤ markAt marks x ∧ markAt marks x ≤ l.length := by
  have h := hM.drs x hx
  have hl : (x.mark - 1).toNat < marks.length := by omega
  have e : marks[(x.mark - 1).toNat]? = some marks[(x.mark - 1).toNat] := List.getElem?_eq_getElem hl
  have e2 : markAt marks x = marks[(x.mark - 1).toNat] := by rw [markAt, e]; rfl
  rw [e2]
  exact ⟨e, hM.mks _ (List.getElem_mem hl)⟩
theorem HR_it {k n : Nat} {t : Int} (h0 : 0 ≤ t) (h : t < n) : idxS 1 (.ref (.g k) 1 0 n) (.int .i64 t) = some (.ptr (.g k) 1 t.toNat) := by
  rw [idxS_ref, if_pos ⟨h0, by omega⟩]; simp
end Go.Cm

namespace Go.Cm
open Go.Proofs Go.Pk
def opp (fn : Int) : Int := if fn = 16 then 80 else if fn = 80 then 16 else if fn = 32 then 176 else if fn = 176 then 32 else if fn = 48 then 160 else if fn = 160 then 48 else if fn = 96 then 208 else if fn = 208 then 96 else if fn = 112 then 192 else if fn = 192 then 112 else -1
def szB (x : Dr) (b : Bool) : Int := if b = true then (if 0 ≤ opp x.ins.fn then 2 else 3) else 1
def szsD : List Dr → List Bool → List Int
  | x :: l, b :: lg => szB x b :: szsD l lg
  | _, _ => []
def sumN : List Int → Nat → Int
  | _, 0 => 0
  | [], _ + 1 => 0
  | s :: r, j + 1 => s + sumN r j
structure IsPl (sz ats : List Int) : Prop where
  len : ats.length = sz.length + 1
  all : ∀ j, j ≤ sz.length → ats[j]? = some (sumN sz j)
theorem szsD_len : ∀ {l : List Dr} {lg : List Bool}, lg.length = l.length → (szsD l lg).length = l.length
  | [], [], _ => rfl
  | [], _ :: _, h => by simp at h
  | _ :: _, [], h => by simp at h
  | x :: l, b :: lg, h => by simp only [szsD, List.length_cons] at h ⊢; rw [szsD_len (l := l) (lg := lg) (by omega)]
theorem szB_bd (x : Dr) (b : Bool) : 1 ≤ szB x b ∧ szB x b ≤ 3 := by
  unfold szB; split
  · split <;> omega
  · omega
theorem szsD_bd : ∀ {l : List Dr} {lg : List Bool}, ∀ s ∈ szsD l lg, 1 ≤ s ∧ s ≤ 3
  | [], _, s, h => by simp [szsD] at h
  | _ :: _, [], s, h => by simp [szsD] at h
  | x :: l, b :: lg, s, h => by
    simp only [szsD, List.mem_cons] at h
    rcases h with rfl | h
    · exact szB_bd x b
    · exact szsD_bd (l := l) (lg := lg) s h
theorem szsD_get : ∀ {l : List Dr} {lg : List Bool} {i : Nat} {x : Dr} {b : Bool}, l[i]? = some x → lg[i]? = some b → (szsD l lg)[i]? = some (szB x b)
  | [], _, i, x, b, h, _ => by simp at h
  | _ :: _, [], i, x, b, _, h => by simp at h
  | y :: l, c :: lg, 0, x, b, h1, h2 => by
    simp only [List.getElem?_cons_zero, Option.some.injEq] at h1 h2
    subst h1 h2; rfl
  | y :: l, c :: lg, i + 1, x, b, h1, h2 => by
    simp only [List.getElem?_cons_succ] at h1 h2
    simp only [szsD, List.getElem?_cons_succ]; exact szsD_get h1 h2
theorem szsD_set : ∀ {l : List Dr} {lg : List Bool} {i : Nat} {x : Dr} {b : Bool}, l[i]? = some x → (szsD l lg).set i (szB x b) = szsD l (lg.set i b)
  | [], _, i, x, b, h => by simp at h
  | _ :: _, [], i, x, b, _ => by simp [szsD]
  | y :: l, c :: lg, 0, x, b, h1 => by
    simp only [List.getElem?_cons_zero, Option.some.injEq] at h1
    subst h1; rfl
  | y :: l, c :: lg, i + 1, x, b, h1 => by
    simp only [List.getElem?_cons_succ] at h1
    simp only [szsD, List.set_cons_succ]; rw [szsD_set h1]
theorem sumN_succ : ∀ {sz : List Int} {j : Nat} {v : Int}, sz[j]? = some v → sumN sz (j + 1) = sumN sz j + v
  | [], j, v, h => by simp at h
  | s :: r, 0, v, h => by
    simp only [List.getElem?_cons_zero, Option.some.injEq] at h
    subst h; simp [sumN]
  | s :: r, j + 1, v, h => by
    simp only [List.getElem?_cons_succ] at h
    have := sumN_succ (sz := r) (j := j) h
    simp only [sumN] at this ⊢; omega
theorem sumN_zero {sz : List Int} : sumN sz 0 = 0 := by cases sz <;> rfl
theorem sumN_bd : ∀ {sz : List Int} {j : Nat}, (∀ s ∈ sz, 1 ≤ s ∧ s ≤ 3) → 0 ≤ sumN sz j ∧ sumN sz j ≤ 3 * j
  | sz, 0, _ => by rw [sumN_zero]; omega
  | [], j + 1, _ => by simp only [sumN]; omega
  | s :: r, j + 1, h => by
    have h1 := h s (by simp)
    have h2 := sumN_bd (sz := r) (j := j) fun x hx => h x (by simp [hx])
    simp only [sumN]; omega
def farB (w : Int) : Bool := decide (w < -1024) || decide (1024 ≤ w)
def wayD (sz marks : List Int) (i : Nat) (x : Dr) : Int := sumN sz (markAt marks x).toNat - sumN sz i
def growB (sz marks : List Int) (i : Nat) (x : Dr) (b : Bool) : Bool := b || (decide (x.mark ≠ 0) && (decide (x.ins.op = 20) && farB (wayD sz marks i x - 1)))
def growD (sz marks : List Int) : Nat → List Dr → List Bool → List Bool
  | i, x :: l, b :: lg => growB sz marks i x b :: growD sz marks (i + 1) l lg
  | _, _, _ => []
theorem growD_len {sz marks : List Int} : ∀ {l : List Dr} {lg : List Bool} {i : Nat}, lg.length = l.length → (growD sz marks i l lg).length = l.length
  | [], [], _, _ => rfl
  | [], _ :: _, _, h => by simp at h
  | _ :: _, [], _, h => by simp at h
  | x :: l, b :: lg, i, h => by simp only [growD, List.length_cons] at h ⊢; rw [growD_len (l := l) (lg := lg) (by omega)]
theorem growD_snoc {sz marks : List Int} {x : Dr} {b : Bool} : ∀ {l : List Dr} {lg : List Bool} {i : Nat}, lg.length = l.length → growD sz marks i (l ++ [x]) (lg ++ [b]) = growD sz marks i l lg ++ [growB sz marks (i + l.length) x b]
  | [], [], i, _ => by simp [growD]
  | [], _ :: _, _, h => by simp at h
  | _ :: _, [], _, h => by simp at h
  | y :: l, c :: lg, i, h => by
    simp only [List.length_cons] at h
    simp only [List.cons_append, growD, List.length_cons, growD_snoc (l := l) (lg := lg) (i := i + 1) (by omega)]
    rw [show i + 1 + l.length = i + (l.length + 1) by omega]
def cf (lg : List Bool) : Nat := lg.countP (fun b => !b)
theorem growD_cf {sz marks : List Int} : ∀ {l : List Dr} {lg : List Bool} {i : Nat}, lg.length = l.length → cf (growD sz marks i l lg) ≤ cf lg ∧ (growD sz marks i l lg ≠ lg → cf (growD sz marks i l lg) < cf lg)
  | [], [], i, _ => by simp [growD]
  | [], _ :: _, _, h => by simp at h
  | _ :: _, [], _, h => by simp at h
  | y :: l, c :: lg, i, h => by
    simp only [List.length_cons] at h
    obtain ⟨h1, h2⟩ := growD_cf (sz := sz) (marks := marks) (l := l) (lg := lg) (i := i + 1) (by omega)
    simp only [cf] at h1 h2 ⊢
    simp only [growD, List.countP_cons]
    cases c with
    | true =>
      have e : growB sz marks i y true = true := rfl
      rw [e]
      refine ⟨by omega, fun hn => ?_⟩
      have := h2 fun he => hn (by rw [he])
      omega
    | false =>
      cases hg : growB sz marks i y false with
      | true => simp; omega
      | false =>
        refine ⟨by omega, fun hn => ?_⟩
        have := h2 fun he => hn (by rw [he])
        omega
def fin (l : List Dr) (marks : List Int) : Nat → List Bool → List Bool
  | 0, lg => lg
  | n + 1, lg => if growD (szsD l lg) marks 0 l lg = lg then lg else fin l marks n (growD (szsD l lg) marks 0 l lg)
def finL (l : List Dr) (marks : List Int) : List Bool := fin l marks (l.length + 1) (List.replicate l.length false)
structure Rnd (l : List Dr) (marks : List Int) (lg : List Bool) : Prop where
  len : lg.length = l.length
  fin : ∃ j, cf lg < j ∧ fin l marks j lg = finL l marks
theorem Rnd.start {l : List Dr} {marks : List Int} : Rnd l marks (List.replicate l.length false) :=
  ⟨by simp, l.length + 1, by simp only [cf]; have := List.countP_le_length (p := fun b : Bool => !b) (l := List.replicate l.length false); simp only [List.length_replicate] at this; omega, rfl⟩
theorem Rnd.next {l : List Dr} {marks : List Int} {lg : List Bool} (h : Rnd l marks lg) (hn : growD (szsD l lg) marks 0 l lg ≠ lg) : Rnd l marks (growD (szsD l lg) marks 0 l lg) ∧ cf (growD (szsD l lg) marks 0 l lg) < cf lg := by
  obtain ⟨j, h1, h2⟩ := h.fin
  have h3 := (growD_cf (sz := szsD l lg) (marks := marks) (i := 0) h.len).2 hn
  refine ⟨⟨growD_len h.len, j - 1, by omega, ?_⟩, h3⟩
  obtain ⟨k, rfl⟩ : ∃ k, j = k + 1 := ⟨j - 1, by omega⟩
  rw [Go.Cm.fin, if_neg hn] at h2
  exact h2
theorem Rnd.last {l : List Dr} {marks : List Int} {lg : List Bool} (h : Rnd l marks lg) (he : growD (szsD l lg) marks 0 l lg = lg) : lg = finL l marks := by
  obtain ⟨j, h1, h2⟩ := h.fin
  obtain ⟨k, rfl⟩ : ∃ k, j = k + 1 := ⟨j - 1, by omega⟩
  rw [Go.Cm.fin, if_pos he] at h2
  exact h2
def jmp (n : Int) : Rc := ⟨21, 0, 0, 0, 0, false, 0, n⟩
def expD (sz marks : List Int) (i : Nat) (x : Dr) (b : Bool) : List Rc :=
  if x.mark = 0 then [x.ins]
  else if b = true then (if 0 ≤ opp x.ins.fn then [{ x.ins with fn := opp x.ins.fn, imm := 1 }, jmp (wayD sz marks i x - 2)] else [{ x.ins with imm := 1 }, jmp 1, jmp (wayD sz marks i x - 3)])
  else [{ x.ins with imm := wayD sz marks i x - 1 }]
def outsL (sz marks : List Int) : Nat → List Dr → List Bool → List Rc
  | i, x :: l, b :: lg => expD sz marks i x b ++ outsL sz marks (i + 1) l lg
  | _, _, _ => []
theorem expD_len {sz marks : List Int} {i : Nat} {x : Dr} {b : Bool} : (expD sz marks i x b).length ≤ 3 ∧ 1 ≤ (expD sz marks i x b).length := by
  unfold expD
  repeat' split
  all_goals simp
theorem outsL_snoc {sz marks : List Int} {x : Dr} {b : Bool} : ∀ {l : List Dr} {lg : List Bool} {i : Nat}, lg.length = l.length → outsL sz marks i (l ++ [x]) (lg ++ [b]) = outsL sz marks i l lg ++ expD sz marks (i + l.length) x b
  | [], [], i, _ => by simp [outsL]
  | [], _ :: _, _, h => by simp at h
  | _ :: _, [], _, h => by simp at h
  | y :: l, c :: lg, i, h => by
    simp only [List.length_cons] at h
    simp only [List.cons_append, outsL, List.length_cons, List.append_assoc, outsL_snoc (l := l) (lg := lg) (i := i + 1) (by omega)]
    rw [show i + 1 + l.length = i + (l.length + 1) by omega]
theorem outsL_len {sz marks : List Int} : ∀ {l : List Dr} {lg : List Bool} {i : Nat}, (outsL sz marks i l lg).length ≤ 3 * l.length
  | [], _, _ => by simp [outsL]
  | _ :: _, [], _ => by simp [outsL]
  | x :: l, b :: lg, i => by
    have h1 := (expD_len (sz := sz) (marks := marks) (i := i) (x := x) (b := b)).1
    have h2 := outsL_len (sz := sz) (marks := marks) (l := l) (lg := lg) (i := i + 1)
    simp only [outsL, List.length_append, List.length_cons]; omega
def rlxO (l : List Dr) (marks : List Int) : List Rc := outsL (szsD l (finL l marks)) marks 0 l (finL l marks)
def rlxR (l : List Dr) (marks : List Int) : List Rc × Int :=
  if mayD l marks = true then (if (rlxO l marks).all chk48 = true then (rlxO l marks, 0) else ([], 250)) else ([], 2)
end Go.Cm
