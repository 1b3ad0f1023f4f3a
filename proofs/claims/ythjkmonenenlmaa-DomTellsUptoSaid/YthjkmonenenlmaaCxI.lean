/-
  Maps whose keys are whole numbers; everybody's memory.
-/
import Derived.Test.YthjkmonenenlmaaCxH
set_option linter.unusedSimpArgs false
set_option linter.unusedVariables false
namespace Go.Cm

/-! maps -/
def al : List (Int × CV) → Int → Option CV
  | [], _ => none
  | p :: r, a => if p.1 = a then some p.2 else al r a
def aset : List (Int × CV) → Int → CV → List (Int × CV)
  | [], a, v => [(a, v)]
  | p :: r, a, v => if p.1 = a then (a, v) :: r else p :: aset r a v
def adel : List (Int × CV) → Int → List (Int × CV)
  | [], _ => []
  | p :: r, a => if p.1 = a then r else p :: adel r a
theorem al_aset {l : List (Int × CV)} {a b : Int} {v : CV} : al (aset l a v) b = if a = b then some v else al l b := by
  induction l with
  | nil => simp only [aset, al]
  | cons p r ih =>
    simp only [aset]
    by_cases h : p.1 = a
    · simp only [h, if_true, al]
      split <;> rfl
    · simp only [h, if_false, al, ih]
      by_cases h2 : p.1 = b
      · simp only [h2, if_true]
        rw [if_neg]
        intro h3; exact h (by rw [h2, h3])
      · simp only [h2, if_false]
/-- a map's entries -/
def esI (k : IntKind) (l : List (Int × CV)) : List (CV × CV) := l.map fun p => (.int k p.1, p.2)
def fix (l : List (Int × CV)) (a : Int) (i : Nat) : Option (Nat × CV) :=
  match l with
  | [] => none
  | p :: r => if p.1 = a then some (i, p.2) else fix r a (i + 1)
theorem ckey_int {P : Program} {t : TypeId} {k : IntKind} (hu : P.underlying t = some (.int k)) (a : Int) : ∀ (l : List (Int × CV)) (i : Nat), ckey P t (.int k a) (esI k l) i = some (fix l a i)
  | [], i => rfl
  | p :: r, i => by
    have h : ceq P 20 t (.int k a) (.int k p.1) = some (a == p.1) := by simp only [ceq, hu, if_true]
    simp only [esI, List.map_cons, ckey, h, fix]
    by_cases he : p.1 = a
    · subst he; simp
    · have : (a == p.1) = false := by simp; exact fun e => he e.symm
      simp only [this, he, if_false]
      exact ckey_int hu a r (i + 1)
theorem fix_al (l : List (Int × CV)) (a : Int) : ∀ i, (fix l a i).map (·.2) = al l a := by
  induction l with
  | nil => intro i; rfl
  | cons p r ih =>
    intro i
    simp only [fix, al]
    split
    · rfl
    · exact ih _
theorem lookX_int {P : Program} {t : TypeId} {k : IntKind} (hu : P.underlying t = some (.int k)) {z x : CV} {a : Int} {ok : Bool} {m : Mem} {l : List (Int × CV)} (hm : mapOf m x = some (esI k l)) :
    lookX P t z x (.int k a) ok m = some (if ok then .tuple [(al l a).getD z, .bool (al l a).isSome] else (al l a).getD z) := by
  simp only [lookX, hm, ckey_int hu]
  have := fix_al l a 0
  cases hf : fix l a 0 with
  | none => rw [hf] at this; simp only [Option.map_none] at this; rw [← this]; rfl
  | some p => rw [hf] at this; simp only [Option.map_some] at this; rw [← this]; rfl
theorem fix_set {k : IntKind} {l : List (Int × CV)} {a : Int} {v : CV} : ∀ (j : Nat) (l : List (Int × CV)), (match fix l a j with
    | some (i, _) => (esI k l).set (i - j) (.int k a, v)
    | none => esI k l ++ [(.int k a, v)]) = esI k (aset l a v) := by
  intro j l
  have hge : ∀ (l : List (Int × CV)) (j i : Nat) (c : CV), fix l a j = some (i, c) → j ≤ i := by
    intro l
    induction l with
    | nil => intro j i c h; simp [fix] at h
    | cons p r ih =>
      intro j i c h
      simp only [fix] at h
      split at h
      · simp only [Option.some.injEq, Prod.mk.injEq] at h; omega
      · have := ih _ _ _ h; omega
  induction l generalizing j with
  | nil => rfl
  | cons p r ih =>
    simp only [fix, aset]
    by_cases h : p.1 = a
    · simp only [h, if_true, Nat.sub_self]
      simp [esI]
    · simp only [h, if_false]
      have := ih (j + 1)
      cases hf : fix r a (j + 1) with
      | none => rw [hf] at this; simp only at this ⊢; simp only [esI, List.map_cons, List.cons_append] at this ⊢; rw [this]
      | some q =>
        obtain ⟨i, c⟩ := q
        rw [hf] at this
        have h1 := hge r (j + 1) i c hf
        simp only at this ⊢
        have h2 : i - j = (i - (j + 1)) + 1 := by omega
        simp only [esI, List.map_cons] at this ⊢
        rw [h2, List.set_cons_succ, this]

/-! everybody's memory -/
def setG (m : Mem) (n : Nat) (o : HO) : Mem := ⟨m.L, m.H.set n o⟩
theorem setG_L {m : Mem} {n : Nat} {o : HO} : (setG m n o).L = m.L := rfl
theorem setG_H {m : Mem} {n : Nat} {o : HO} : (setG m n o).H = m.H.set n o := rfl
theorem getH {H0 E : List HO} {i : Nat} : (H0 ++ E)[H0.length + i]? = E[i]? := by
  rw [List.getElem?_append_right (by omega)]; congr 1; omega
theorem getH0 {H0 E : List HO} : (H0 ++ E)[H0.length]? = E[0]? := by
  rw [List.getElem?_append_right (by omega)]; congr 1; omega
theorem setH {H0 E : List HO} {i : Nat} {o : HO} : (H0 ++ E).set (H0.length + i) o = H0 ++ E.set i o := by
  rw [List.set_append_right _ _ (by omega)]; congr 2; omega
theorem setH0 {H0 E : List HO} {o : HO} : (H0 ++ E).set H0.length o = H0 ++ E.set 0 o := by
  rw [List.set_append_right _ _ (by omega)]; congr 2; omega
theorem gnewL_eq {m : Mem} {cs : List CV} : gnewL m cs = ⟨m.L, m.H ++ [.var 1 cs 0]⟩ := rfl
theorem gnewP_eq {m : Mem} : gnewP m = .ptr (.g m.H.length) 1 0 := rfl
theorem gnewA_eq {m : Mem} {sz : Nat} {cs : List CV} : gnewA m sz cs = ⟨m.L, m.H ++ [.arr 1 sz cs 0]⟩ := rfl
theorem gnewR_eq {m : Mem} {n : Nat} : gnewR m n = .ref (.g m.H.length) 1 0 n := rfl
theorem gnewM_eq {m : Mem} : gnewM m = ⟨m.L, m.H ++ [.map 1 []]⟩ := rfl
theorem gnewK_eq {m : Mem} : gnewK m = .map (.g m.H.length) 1 := rfl
theorem nmA_t {m : Mem} {j sz : Nat} {cs : List CV} : nmA true m j sz cs = ⟨m.L, m.H ++ [.arr 1 sz cs 0]⟩ := rfl
theorem nmR_t {m : Mem} {j n : Nat} : nmR true m j n = .ref (.g m.H.length) 1 0 n := rfl

section
variable {m : Mem} {a g off len n sz : Nat} {cs : List CV} {v : CV}
theorem mapOf_g {l : List (CV × CV)} (h : m.H[a]? = some (.map g l)) : mapOf m (.map (.g a) g) = some l := by
  simp only [mapOf, Mem.get, h, if_true]
theorem mapOf_l {j : Nat} {l : List (CV × CV)} (h : lget m.L j = some (.map g l)) : mapOf m (.map (.l j) g) = some l := by
  simp only [mapOf, Mem.get, h, if_true]
theorem cellsAt_g : cellsAt m (.ptr (.g a) g off) n = rdO g off n m.H[a]? := by
  simp only [cellsAt, Mem.get]
  cases m.H[a]? with
  | none => rfl
  | some h => cases h <;> simp [rdO, HO.gn, HO.isMap, HO.cells]
theorem ld1_g : ld1 m (.ptr (.g a) g off) = rd1 g off m.H[a]? := by
  simp only [ld1, cellsAt_g]
  cases m.H[a]? with
  | none => rfl
  | some h =>
    cases h with
    | var g' cs vl =>
      simp only [rdO, rd1]
      by_cases hg : g' = g
      · simp only [hg, true_and, if_true]; exact head_take_drop
      · simp [hg]
    | arr g' s cs vl =>
      simp only [rdO, rd1]
      by_cases hg : g' = g
      · simp only [hg, true_and, if_true]; exact head_take_drop
      · simp [hg]
    | map => rfl
theorem ldA_g : ldA n m (.ptr (.g a) g off) = rdA g off n m.H[a]? := by simp only [ldA, cellsAt_g, rdA]
/-- a store into everybody's memory -/
def wrG (m : Mem) (a gn off : Nat) (cs : List CV) (g sz : Nat) (cells : List CV) (vl : Nat) : Option Mem :=
  if g = gn ∧ off + cs.length ≤ cells.length ∧ vl ≤ off then
    (escList m cs).bind fun x =>
      match x.2.H[a]? with
      | some (.arr g' _ _ vl') => if g' = gn ∧ vl' ≤ off then some (setG x.2 a (.arr g sz (splice cells off x.1) vl')) else none
      | _ => none
  else none
def stW (n : Nat) (m : Mem) (a gn off : Nat) (v : Option (List CV)) (o : Option HO) : Option Mem :=
  match v with
  | some cs => if cs.length = n then
      (match o with
      | some (.var g cells vl) => if g = gn ∧ off + cs.length ≤ cells.length ∧ vl ≤ off then (escList m cs).map fun x => setG x.2 a (.var g (splice cells off x.1) vl) else none
      | some (.arr g sz cells vl) => wrG m a gn off cs g sz cells vl
      | _ => none)
    else none
  | none => none
theorem stX_g : stX n m (.ptr (.g a) g off) v = stW n m a g off (ccells v) m.H[a]? := by
  unfold stX stW
  cases ccells v with
  | none => rfl
  | some cs =>
    simp only
    split
    · simp only [cstoreAt, Mem.get]
      cases m.H[a]? with
      | none => rfl
      | some h => cases h <;> rfl
    · rfl
theorem stW_var {cells : List CV} {vl : Nat} : stW n m a g off (some cs) (some (.var g cells vl)) = if cs.length = n ∧ off + n ≤ cells.length ∧ vl ≤ off then (escList m cs).map fun x => setG x.2 a (.var g (splice cells off x.1) vl) else none := by
  simp only [stW, true_and]
  by_cases h : cs.length = n
  · simp only [h, if_true, true_and]
  · simp only [h, if_false, false_and]
theorem stW_arr {cells : List CV} {s vl : Nat} (hp : cs.all escP = true) (hm : m.H[a]? = some (.arr g s cells vl)) : stW n m a g off (some cs) (some (.arr g s cells vl)) = if cs.length = n ∧ off + n ≤ cells.length ∧ vl ≤ off then some (setG m a (.arr g s (splice cells off cs) vl)) else none := by
  simp only [stW, wrG, true_and, escP_list hp, Option.bind_some, hm]
  by_cases h : cs.length = n
  · simp only [h, if_true, true_and]
    by_cases h2 : vl ≤ off
    · simp only [h2, and_true, if_true]
    · simp only [h2, and_false, if_false]
  · simp only [h, if_false, false_and]
theorem appX_g {glob : Bool} {i b len : Nat} {x : CV} : appX glob i sz b (.ref (.g a) g off len) x m = (match content m sz x, clen x, m.H[a]? with
    | some ys, some n, some (.arr g' s' cs vl) => if g' = g ∧ s' = sz ∧ vl ≤ off + len * sz ∧ smallB b (len + n) = true then some (.ref (.g a) (g' + 1) 0 (len + n), setG m a (.arr (g' + 1) sz ((cs.drop off).take (len * sz) ++ ys) (vl - off))) else none
    | _, _, _ => none) := by
  unfold appX
  cases content m sz x with
  | none => rfl
  | some ys =>
    cases clen x with
    | none => rfl
    | some n =>
      simp only [Mem.get]
      cases m.H[a]? with
      | none => rfl
      | some h => cases h <;> rfl
def conG (sz g off len : Nat) (o : Option HO) : Option (List CV) := conR sz g off len o
theorem content_g : content m sz (.ref (.g a) g off len) = conR sz g off len m.H[a]? := by
  simp only [content, Mem.get]
  cases m.H[a]? with
  | none => rfl
  | some h => cases h <;> rfl
end
end Go.Cm
