import Derived.Test.YtjhndbgokapikaaCxD
set_option linter.unusedSimpArgs false
set_option linter.unusedVariables false
namespace Go.Cm

section
variable {P : Program} {n : Nat} {t : TypeId} {d : D}
theorem ok_int {k : IntKind} (hu : P.underlying t = some (.int k)) (h : D.ok P (n + 1) t d) : ∃ m, d = .i k m ∧ k.min ≤ m ∧ m ≤ k.max := by simpa only [D.ok, hu] using h
theorem ok_slice {e : TypeId} (hu : P.underlying t = some (.slice e)) (h : D.ok P (n + 1) t d) : ∃ ds, d = .sl ds ∧ ds.length ≤ maxLen ∧ ∀ x ∈ ds, D.ok P n e x := by simpa only [D.ok, hu] using h
theorem ok_struct {fs : Array Field} {ts : List TypeId} (hu : P.underlying t = some (.struct fs)) (ht : fs.toList.map (·.type) = ts) (h : D.ok P (n + 1) t d) : ∃ ds, d = .ag ds ∧ oks (D.ok P n) ts ds := by
  subst ht
  simpa only [D.ok, hu] using h
theorem oks_cons {ok : TypeId → D → Prop} {ts : List TypeId} {ds : List D} (h : oks ok (t :: ts) ds) : ∃ d r, ds = d :: r ∧ ok t d ∧ oks ok ts r := by
  cases ds with
  | nil => cases h
  | cons d r => exact ⟨d, r, rfl, h.1, h.2⟩
theorem oks_nil {ok : TypeId → D → Prop} {ds : List D} (h : oks ok [] ds) : ds = [] := by
  cases ds with
  | nil => rfl
  | cons d r => cases h
theorem list_of {α : Type} {e : α → List CV} {W : α → Prop} : ∀ {ds : List D}, (∀ x ∈ ds, ∃ a, x.cells = e a ∧ W a) → ∃ l : List α, D.cellsL ds = l.flatMap e ∧ l.length = ds.length ∧ ∀ a ∈ l, W a
  | [], _ => ⟨[], rfl, rfl, fun a h => by cases h⟩
  | d :: ds, h => by
    obtain ⟨a, h1, h2⟩ := h d List.mem_cons_self
    obtain ⟨l, h3, h4, h5⟩ := list_of (ds := ds) fun x hx => h x (List.mem_cons_of_mem _ hx)
    refine ⟨a :: l, ?_, by simp [h4], ?_⟩
    · simp only [D.cellsL, h1, h3, List.flatMap_cons]
    · intro b hb
      rcases List.mem_cons.1 hb with rfl | hb
      · exact h2
      · exact h5 b hb
theorem slice_of {α : Type} {e : α → List CV} {W : α → Prop} {et : TypeId} (hu : P.underlying t = some (.slice et)) (he : ∀ x, D.ok P n et x → ∃ a, x.cells = e a ∧ W a) (h : D.ok P (n + 1) t d) :
    ∃ l : List α, d.cells = [sl e l] ∧ d.cv = sl e l ∧ (l.length ≤ 9223372036854775807 ∧ ∀ a ∈ l, W a) := by
  obtain ⟨ds, rfl, h1, h2⟩ := ok_slice hu h
  obtain ⟨l, h3, h4, h5⟩ := list_of fun x hx => he x (h2 x hx)
  have : sl e l = .imm ds.length (D.cellsL ds) := by simp only [sl, h3, h4]
  refine ⟨l, by simp only [D.cells, this], by simp only [D.cv, this], ?_, h5⟩
  rw [h4]; simpa only [maxLen] using h1
end
def isI64 (n : Int) : Prop := -9223372036854775808 ≤ n ∧ n ≤ 9223372036854775807
def isU64 (n : Int) : Prop := 0 ≤ n ∧ n ≤ 18446744073709551615
theorem ok_i64 {P : Program} {n : Nat} {t : TypeId} {d : D} (hu : P.underlying t = some (.int .i64)) (h : D.ok P (n + 1) t d) : ∃ m, d = .i .i64 m ∧ isI64 m := ok_int hu h
theorem ok_u64 {P : Program} {n : Nat} {t : TypeId} {d : D} (hu : P.underlying t = some (.int .u64)) (h : D.ok P (n + 1) t d) : ∃ m, d = .i .u64 m ∧ isU64 m := ok_int hu h
def intC (n : Int) : List CV := [.int .i64 n]
theorem intC_len (n : Int) : (intC n).length = 1 := rfl
def Area.wf (a : Area) : Prop := isI64 a.size
def Lay.wf (l : Lay) : Prop := l.ctx.wf ∧ l.maps.length ≤ 9223372036854775807 ∧ ∀ a ∈ l.maps, a.wf
def Fact.wf (f : Fact) : Prop := isI64 f.region ∧ isI64 f.low ∧ isI64 f.high
end Go.Cm

namespace Go.Cm

def al : List (Int × CV) → Int → Option CV
  | [], _ => none
  | p :: r, a => if p.1 = a then some p.2 else al r a
def aset : List (Int × CV) → Int → CV → List (Int × CV)
  | [], a, v => [(a, v)]
  | p :: r, a, v => if p.1 = a then (a, v) :: r else p :: aset r a v
def esI (k : IntKind) (l : List (Int × CV)) : List (CV × CV) := l.map fun p => (.int k p.1, p.2)
def fix (l : List (Int × CV)) (a : Int) (i : Nat) : Option (Nat × CV) :=
  match l with
  | [] => none
  | p :: r => if p.1 = a then some (i, p.2) else fix r a (i + 1)
theorem ckey_int {P : Program} {t : TypeId} {k : IntKind} (hu : P.underlying t = some (.int k)) (a : Int) : ∀ (l : List (Int × CV)) (i : Nat), ckey P t (.int k a) (esI k l) i = some (fix l a i)
  | [], i => rfl
  | p :: r, i => by
    have h : ceq P 20 t (.int k a) (.int k p.1) = some (a == p.1) := by simp only [ceq, hu, if_true]
    simp only [esI, List.map_cons, ckey, h, fix]
    by_cases he : p.1 = a
    · subst he; simp
    · have : (a == p.1) = false := by simp; exact fun e => he e.symm
      simp only [this, he, if_false]
      exact ckey_int hu a r (i + 1)
theorem fix_al (l : List (Int × CV)) (a : Int) : ∀ i, (fix l a i).map (·.2) = al l a := by
  induction l with
  | nil => intro i; rfl
  | cons p r ih =>
    intro i
    simp only [fix, al]
    split
    · rfl
    · exact ih _
theorem lookX_int {P : Program} {t : TypeId} {k : IntKind} (hu : P.underlying t = some (.int k)) {z x : CV} {a : Int} {ok : Bool} {m : Mem} {l : List (Int × CV)} (hm : mapOf m x = some (esI k l)) :
    lookX P t z x (.int k a) ok m = some (if ok then .tuple [(al l a).getD z, .bool (al l a).isSome] else (al l a).getD z) := by
  simp only [lookX, hm, ckey_int hu]
  have := fix_al l a 0
  cases hf : fix l a 0 with
  | none => rw [hf] at this; simp only [Option.map_none] at this; rw [← this]; rfl
  | some p => rw [hf] at this; simp only [Option.map_some] at this; rw [← this]; rfl
theorem fix_set {k : IntKind} {l : List (Int × CV)} {a : Int} {v : CV} : ∀ (j : Nat) (l : List (Int × CV)), (match fix l a j with
    | some (i, _) => (esI k l).set (i - j) (.int k a, v)
    | none => esI k l ++ [(.int k a, v)]) = esI k (aset l a v) := by
  intro j l
  have hge : ∀ (l : List (Int × CV)) (j i : Nat) (c : CV), fix l a j = some (i, c) → j ≤ i := by
    intro l
    induction l with
    | nil => intro j i c h; simp [fix] at h
    | cons p r ih =>
      intro j i c h
      simp only [fix] at h
      split at h
      · simp only [Option.some.injEq, Prod.mk.injEq] at h; omega
      · have := ih _ _ _ h; omega
  induction l generalizing j with
  | nil => rfl
  | cons p r ih =>
    simp only [fix, aset]
    by_cases h : p.1 = a
    · simp only [h, if_true, Nat.sub_self]
      simp [esI]
    · simp only [h, if_false]
      have := ih (j + 1)
      cases hf : fix r a (j + 1) with
      | none => rw [hf] at this; simp only at this ⊢; simp only [esI, List.map_cons, List.cons_append] at this ⊢; rw [this]
      | some q =>
        obtain ⟨i, c⟩ := q
        rw [hf] at this
        have h1 := hge r (j + 1) i c hf
        simp only at this ⊢
        have h2 : i - j = (i - (j + 1)) + 1 := by omega
        simp only [esI, List.map_cons] at this ⊢
        rw [h2, List.set_cons_succ, this]

def setG (m : Mem) (n : Nat) (o : HO) : Mem := ⟨m.L, m.H.set n o⟩
theorem getH {H0 E : List HO} {i : Nat} : (H0 ++ E)[H0.length + i]? = E[i]? := by
  rw [List.getElem?_append_right (by omega)]; congr 1; omega
theorem getH0 {H0 E : List HO} : (H0 ++ E)[H0.length]? = E[0]? := by
  rw [List.getElem?_append_right (by omega)]; congr 1; omega
theorem setH {H0 E : List HO} {i : Nat} {o : HO} : (H0 ++ E).set (H0.length + i) o = H0 ++ E.set i o := by
  rw [List.set_append_right _ _ (by omega)]; congr 2; omega
theorem setH0 {H0 E : List HO} {o : HO} : (H0 ++ E).set H0.length o = H0 ++ E.set 0 o := by
  rw [List.set_append_right _ _ (by omega)]; congr 2; omega
theorem gnewL_eq {m : Mem} {cs : List CV} : gnewL m cs = ⟨m.L, m.H ++ [.var 1 cs 0]⟩ := rfl
theorem gnewP_eq {m : Mem} : gnewP m = .ptr (.g m.H.length) 1 0 := rfl
theorem gnewA_eq {m : Mem} {sz : Nat} {cs : List CV} : gnewA m sz cs = ⟨m.L, m.H ++ [.arr 1 sz cs 0]⟩ := rfl
theorem gnewR_eq {m : Mem} {n : Nat} : gnewR m n = .ref (.g m.H.length) 1 0 n := rfl
theorem gnewM_eq {m : Mem} : gnewM m = ⟨m.L, m.H ++ [.map 1 []]⟩ := rfl
theorem gnewK_eq {m : Mem} : gnewK m = .map (.g m.H.length) 1 := rfl
theorem nmA_t {m : Mem} {j sz : Nat} {cs : List CV} : nmA true m j sz cs = ⟨m.L, m.H ++ [.arr 1 sz cs 0]⟩ := rfl
theorem nmR_t {m : Mem} {j n : Nat} : nmR true m j n = .ref (.g m.H.length) 1 0 n := rfl

section
variable {m : Mem} {a g off len n sz : Nat} {cs : List CV} {v : CV}
theorem mapOf_g {l : List (CV × CV)} (h : m.H[a]? = some (.map g l)) : mapOf m (.map (.g a) g) = some l := by
  simp only [mapOf, Mem.get, h, if_true]
theorem cellsAt_g : cellsAt m (.ptr (.g a) g off) n = rdO g off n m.H[a]? := by
  simp only [cellsAt, Mem.get]
  cases m.H[a]? with
  | none => rfl
  | some h => cases h <;> simp [rdO, HO.gn, HO.isMap, HO.cells]
theorem ld1_g : ld1 m (.ptr (.g a) g off) = rd1 g off m.H[a]? := by
  simp only [ld1, cellsAt_g]
  cases m.H[a]? with
  | none => rfl
  | some h =>
    cases h with
    | var g' cs vl =>
      simp only [rdO, rd1]
      by_cases hg : g' = g
      · simp only [hg, true_and, if_true]; exact head_take_drop
      · simp [hg]
    | arr g' s cs vl =>
      simp only [rdO, rd1]
      by_cases hg : g' = g
      · simp only [hg, true_and, if_true]; exact head_take_drop
      · simp [hg]
    | map => rfl
theorem ldA_g : ldA n m (.ptr (.g a) g off) = rdA g off n m.H[a]? := by simp only [ldA, cellsAt_g, rdA]
def wrG (m : Mem) (a gn off : Nat) (cs : List CV) (g sz : Nat) (cells : List CV) (vl : Nat) : Option Mem :=
  if g = gn ∧ off + cs.length ≤ cells.length ∧ vl ≤ off then
    (escList m cs).bind fun x =>
      match x.2.H[a]? with
      | some (.arr g' _ _ vl') => if g' = gn ∧ vl' ≤ off then some (setG x.2 a (.arr g sz (splice cells off x.1) vl')) else none
      | _ => none
  else none
def stW (n : Nat) (m : Mem) (a gn off : Nat) (v : Option (List CV)) (o : Option HO) : Option Mem :=
  match v with
  | some cs => if cs.length = n then
      (match o with
      | some (.var g cells vl) => if g = gn ∧ off + cs.length ≤ cells.length ∧ vl ≤ off then (escList m cs).map fun x => setG x.2 a (.var g (splice cells off x.1) vl) else none
      | some (.arr g sz cells vl) => wrG m a gn off cs g sz cells vl
      | _ => none)
    else none
  | none => none
theorem stX_g : stX n m (.ptr (.g a) g off) v = stW n m a g off (ccells v) m.H[a]? := by
  unfold stX stW
  cases ccells v with
  | none => rfl
  | some cs =>
    simp only
    split
    · simp only [cstoreAt, Mem.get]
      cases m.H[a]? with
      | none => rfl
      | some h => cases h <;> rfl
    · rfl
theorem stW_var {cells : List CV} {vl : Nat} : stW n m a g off (some cs) (some (.var g cells vl)) = if cs.length = n ∧ off + n ≤ cells.length ∧ vl ≤ off then (escList m cs).map fun x => setG x.2 a (.var g (splice cells off x.1) vl) else none := by
  simp only [stW, true_and]
  by_cases h : cs.length = n
  · simp only [h, if_true, true_and]
  · simp only [h, if_false, false_and]
theorem stW_arr {cells : List CV} {s vl : Nat} (hp : cs.all escP = true) (hm : m.H[a]? = some (.arr g s cells vl)) : stW n m a g off (some cs) (some (.arr g s cells vl)) = if cs.length = n ∧ off + n ≤ cells.length ∧ vl ≤ off then some (setG m a (.arr g s (splice cells off cs) vl)) else none := by
  simp only [stW, wrG, true_and, escP_list hp, Option.bind_some, hm]
  by_cases h : cs.length = n
  · simp only [h, if_true, true_and]
    by_cases h2 : vl ≤ off
    · simp only [h2, and_true, if_true]
    · simp only [h2, and_false, if_false]
  · simp only [h, if_false, false_and]
theorem appX_g {glob : Bool} {i b len : Nat} {x : CV} : appX glob i sz b (.ref (.g a) g off len) x m = (match content m sz x, clen x, m.H[a]? with
    | some ys, some n, some (.arr g' s' cs vl) => if g' = g ∧ s' = sz ∧ vl ≤ off + len * sz ∧ smallB b (len + n) = true then some (.ref (.g a) (g' + 1) 0 (len + n), setG m a (.arr (g' + 1) sz ((cs.drop off).take (len * sz) ++ ys) (vl - off))) else none
    | _, _, _ => none) := by
  unfold appX
  cases content m sz x with
  | none => rfl
  | some ys =>
    cases clen x with
    | none => rfl
    | some n =>
      simp only [Mem.get]
      cases m.H[a]? with
      | none => rfl
      | some h => cases h <;> rfl
end
end Go.Cm

namespace Go.Cm

def OwnE {α : Type} (e : α → List CV) (sz : Nat) (m : Mem) (j : Nat) (v : CV) (l : List α) : Prop :=
  (l = [] ∧ v = .nil) ∨ (l ≠ [] ∧ ∃ g, v = .ref (.l j) g 0 l.length ∧ lget m.L j = some (.arr g sz (l.flatMap e) 0))
def ownC {α : Type} (e : α → List CV) (sz : Nat) (l : List α) : CV := if l = [] then .nil else .own l.length sz (l.flatMap e) 0

section
variable {α : Type} {e : α → List CV} {sz : Nat} {m m' : Mem} {j : Nat} {v : CV} {l : List α}
theorem OwnE.nil : OwnE e sz m j .nil [] := .inl ⟨rfl, rfl⟩
theorem OwnE.keep (h : OwnE e sz m j v l) (hm : lget m'.L j = lget m.L j) : OwnE e sz m' j v l := by
  rcases h with h | ⟨h, g, h1, h2⟩
  · exact .inl h
  · exact .inr ⟨h, g, h1, by rw [hm, h2]⟩
theorem OwnE.len (h : OwnE e sz m j v l) : clen v = some l.length := by
  rcases h with ⟨rfl, rfl⟩ | ⟨_, g, rfl, _⟩ <;> rfl
theorem OwnE.lenS (h : OwnE e sz m j v l) : lenS v = some (.int .i64 l.length) := by simp only [Cm.lenS, h.len, Option.map_some]
theorem OwnE.content (h : OwnE e sz m j v l) (hs : ∀ a, (e a).length = sz) : content m sz v = some (l.flatMap e) := by
  rcases h with ⟨rfl, rfl⟩ | ⟨_, g, rfl, h⟩
  · rfl
  · rw [content_l, h, conR_arr, List.drop_zero, List.take_of_length_le (by rw [flat_len hs]; exact Nat.le_refl _)]
theorem OwnE.app (h : OwnE e sz m j v l) {b : Nat} {x : CV} {ys : List α} {K : CV × Mem → Prop} (hs : ∀ a, (e a).length = sz) (hx : Cm.content m sz x = some (ys.flatMap e)) (hn : clen x = some ys.length)
    (hb : b ≤ 1024) (hl : l.length + ys.length ≤ 4294967296) (hK : ∀ v' m', OwnE e sz m' j v' (l ++ ys) → m'.H = m.H → (∀ i, i ≠ j → lget m'.L i = lget m.L i) → K (v', m')) : Obt (appX false j sz b v x m) K := by
  rcases h with ⟨rfl, rfl⟩ | ⟨hne, g, rfl, h⟩
  · rw [appX_n, hx, hn]
    by_cases h0 : ys.length = 0
    · have : ys = [] := List.eq_nil_of_length_eq_zero h0
      subst this
      simp only [appN, List.length_nil, if_true, Obt_some]
      exact hK _ _ (.inl ⟨rfl, rfl⟩) rfl (fun _ _ => rfl)
    · rw [appN_some h0, if_pos (smallB_ok hb (by simpa using hl)), Obt_some]
      refine hK _ _ (.inr ⟨by simpa using fun e => h0 (by rw [e]; rfl), gnext m.L j, rfl, ?_⟩) rfl ?_
      · rw [nmA_f, lget_setL, if_pos rfl, List.nil_append]
      · intro i hi; rw [nmA_f, lget_setL, if_neg (Ne.symm hi)]
  · rw [appX_l, hx, hn, h, appR_arr, if_pos ⟨by omega, smallB_ok hb hl⟩, Obt_some]
    refine hK _ _ (.inr ⟨by simp [hne], g + 1, by simp, ?_⟩) rfl ?_
    · rw [lget_setL, if_pos rfl, List.drop_zero, List.take_of_length_le (by rw [flat_len hs]; exact Nat.le_refl _), List.flatMap_append]
    · intro i hi; rw [lget_setL, if_neg (Ne.symm hi)]
theorem OwnE.ret (h : OwnE e sz m j v l) (hs : ∀ a, (e a).length = sz) {K : CV × Mem → Prop} (hK : ∀ m', m'.H = m.H → K (ownC e sz l, m')) : Obt (retv v m) K := by
  rcases h with ⟨rfl, rfl⟩ | ⟨hne, g, rfl, h⟩
  · simp only [retv_nil, Obt_some]; exact hK m rfl
  · rw [retv_l, h, retR_arr, Obt_some, List.drop_zero, List.take_of_length_le (by rw [flat_len hs]; exact Nat.le_refl _)]
    have := hK (setL m j (.arr (g + 1) sz [] 0)) rfl
    rw [ownC, if_neg hne] at this
    exact this
theorem adopt_ownC {d : Nat} {gl : Bool} (hg : gl = false) : ∃ v m', adopt gl d (ownC e sz l) m = (v, m') ∧ OwnE e sz m' (16 * d) v l ∧ m'.H = m.H ∧ ∀ i, i ≠ 16 * d → lget m'.L i = lget m.L i := by
  subst hg
  unfold ownC
  split
  · rename_i h; subst h; exact ⟨.nil, m, rfl, .inl ⟨rfl, rfl⟩, rfl, fun _ _ => rfl⟩
  · rename_i h
    refine ⟨_, _, adopt_own, .inr ⟨h, _, rfl, by rw [lget_setL, if_pos rfl]⟩, rfl, fun i hi => by rw [lget_setL, if_neg (Ne.symm hi)]⟩
theorem noG_ownC (h : ∀ a, noGs (e a) = true) (l : List α) : noG (ownC e sz l) = true := by
  unfold ownC
  split
  · rfl
  · exact noGs_flat h l
theorem OwnE.get (h : OwnE e sz m j v l) {a : α} {i : Nat} (ha : l[i]? = some a) : ∃ g, v = .ref (.l j) g 0 l.length ∧ lget m.L j = some (.arr g sz (l.flatMap e) 0) ∧ i < l.length := by
  have hlt := (List.getElem?_eq_some_iff.1 ha).1
  rcases h with ⟨rfl, _⟩ | ⟨_, g, h1, h2⟩
  · simp at hlt
  · exact ⟨g, h1, h2, hlt⟩
end
theorem flat_get {α : Type} {e : α → List CV} {l : List α} {i off : Nat} {a : α} {sz : Nat} (hs : ∀ a, (e a).length = sz) (ha : l[i]? = some a) (ho : off < sz) : (l.flatMap e)[i * sz + off]? = (e a)[off]? := by
  obtain ⟨h1, h2⟩ := flat_at hs ha
  rw [← h1, List.getElem?_take, if_pos ho, List.getElem?_drop]
theorem flat_int {l : List Int} {i : Nat} : (l.flatMap intC)[i]? = (l[i]?).map (CV.int .i64) := by
  induction l generalizing i with
  | nil => rfl
  | cons x l ih =>
    cases i with
    | zero => rfl
    | succ i => simpa [intC] using ih
theorem OwnE.at {m : Mem} {j : Nat} {v : CV} {l : List Int} (h : OwnE intC 1 m j v l) {a : Int} {i : Nat} (ha : l[i]? = some a) {k : IntKind} : ∃ p, idxS 1 v (.int k i) = some p ∧ ∀ m' : Mem, lget m'.L j = lget m.L j → ld1 m' p = some (.int .i64 a) := by
  obtain ⟨g, rfl, h2, hlt⟩ := h.get ha
  refine ⟨.ptr (.l j) g i, ?_, fun m' hm => ?_⟩
  · rw [idxS_ref, if_pos ⟨by omega, by simpa using hlt⟩]; simp
  · rw [ld1_l, hm, h2, rd1_arr, flat_int, ha]; rfl
theorem splice_one {cells : List CV} {i : Nat} {v : CV} (h : i < cells.length) : splice cells i [v] = cells.set i v := by
  simp only [splice, List.length_cons, List.length_nil, Nat.zero_add, List.cons_append, List.nil_append]
  rw [List.set_eq_take_append_cons_drop, if_pos h]
theorem len_int {l : List Int} : (l.flatMap intC).length = l.length := by rw [flat_len intC_len]; omega
theorem flat_map {α : Type} {f : α → CV} {l : List α} : (l.flatMap fun a => [f a]) = l.map f := by
  induction l with
  | nil => rfl
  | cons x l ih => simp only [List.flatMap_cons, ih, List.map_cons, List.cons_append, List.nil_append]
theorem boxG_1 {x : CV} {m : Mem} (hc : ccells x = some [x]) (hp : escP x = true) : boxG x m = some (gnewP m, gnewL m [x]) := by
  simp only [boxG, hc, escP_list (m := m) (cs := [x]) (by simp only [List.all_cons, List.all_nil, hp, Bool.and_self]), Option.map_some]
def RefG (H : List HO) (v : CV) (l : List Int) : Prop := (l = [] ∧ v = .nil) ∨ ∃ n g vl, v = .ref (.g n) g 0 l.length ∧ H[n]? = some (.arr g 1 (l.flatMap intC) vl)
theorem RefG.len {H : List HO} {v : CV} {l : List Int} (h : RefG H v l) : clen v = some l.length := by
  rcases h with ⟨rfl, rfl⟩ | ⟨n, g, vl, rfl, _⟩ <;> rfl
theorem RefG.at {H : List HO} {v : CV} {l : List Int} (h : RefG H v l) {a : Int} {i : Nat} (ha : l[i]? = some a) {k : IntKind} : ∃ p, idxS 1 v (.int k i) = some p ∧ ∀ L, ld1 ⟨L, H⟩ p = some (.int .i64 a) := by
  have hlt := (List.getElem?_eq_some_iff.1 ha).1
  rcases h with ⟨rfl, rfl⟩ | ⟨n, g, vl, rfl, hn⟩
  · simp at hlt
  · refine ⟨.ptr (.g n) g i, ?_, fun L => ?_⟩
    · rw [idxS_ref, if_pos ⟨by omega, by simpa using hlt⟩]; simp
    · rw [ld1_g]; simp only [hn, rd1_arr, flat_int, ha]; rfl
theorem RefG.mono {H H' : List HO} {v : CV} {l : List Int} (h : RefG H v l) (hH : ∀ i : Nat, i < H.length → H'[i]? = H[i]?) : RefG H' v l := by
  rcases h with h | ⟨n, g, vl, h1, h2⟩
  · exact .inl h
  · exact .inr ⟨n, g, vl, h1, by rw [hH n (List.getElem?_eq_some_iff.1 h2).1, h2]⟩
theorem RefG.app {H E : List HO} {v : CV} {l : List Int} (h : RefG H v l) : RefG (H ++ E) v l := h.mono fun _ hi => List.getElem?_append_left hi
section
variable {P : Program} {A : Ann} {F : Oracle} {fid : FuncId} {m : Mem}
theorem callC_I {d : Tmp} {f : FuncId} {args : List CV} {r : CV} {H' : List HO} (hp : A.pure f = false) (hx : args.all escQ = true) (hF : F f args m.H = some (r, H')) :
    callC A F fid (some d) f args m = some (adopt ((A.glob fid).contains d) d r ⟨m.L, H'⟩) := by
  simp only [callC, escQ_list hx, Option.bind_some, hp, Bool.false_eq_true, if_false, hF, takes]
theorem invokeC_func {d : Option Tmp} {f : FuncId} {a args c : List CV} : invokeC A F fid d (.func (.func f) a c) args m = callC A F fid d f (a ++ args ++ c) m := rfl
end
theorem aset_new {l : List (Int × CV)} {a : Int} {v : CV} (h : al l a = none) : aset l a v = l ++ [(a, v)] := by
  induction l with
  | nil => rfl
  | cons p r ih =>
    simp only [al] at h
    split at h
    · cases h
    · rename_i hp
      simp only [aset, hp, if_false, ih h, List.cons_append]
theorem al_map {α : Type} {l : List α} {f : α → Int} {g : α → CV} {a : Int} (h : ∀ x ∈ l, f x ≠ a) : al (l.map fun x => (f x, g x)) a = none := by
  induction l with
  | nil => rfl
  | cons x l ih =>
    simp only [List.map_cons, al]
    rw [if_neg (h x List.mem_cons_self)]
    exact ih fun y hy => h y (List.mem_cons_of_mem _ hy)
theorem al_const {l : List Int} {a : Int} {v : CV} (h : a ∈ l) : al (l.map fun x => (x, v)) a = some v := by
  induction l with
  | nil => cases h
  | cons x l ih =>
    simp only [List.map_cons, al]
    by_cases hx : x = a
    · rw [if_pos hx]
    · rw [if_neg hx]
      rcases List.mem_cons.1 h with h | h
      · exact absurd h.symm hx
      · exact ih h
theorem mupX_int {P : Program} {t : TypeId} {k : IntKind} (hu : P.underlying t = some (.int k)) {key : Key} {g : Nat} {a : Int} {v : CV} {m : Mem} {l : List (Int × CV)} (hv : escQ v = true) (hm : m.get key = some (.map g (esI k l))) :
    mupX P t (.map key g) (.int k a) v m = some (m.set key (.map g (esI k (aset l a v)))) := by
  have he : escList m [v] = some ([v], m) := escQ_list (by simp only [List.all_cons, List.all_nil, hv, Bool.and_self])
  have hs := fix_set (k := k) (l := l) (a := a) (v := v) 0 l
  simp only [mupX, he, Option.bind_some, hm, isKey, and_self, if_true, ckey_int hu]
  cases hf : fix l a 0 with
  | none => rw [hf] at hs; simp only at hs ⊢; rw [hs]
  | some p =>
    obtain ⟨i, c⟩ := p
    rw [hf] at hs
    simp only [Nat.sub_zero] at hs ⊢
    rw [hs]
def rowsC (g : List (List Int)) : CV := sl (fun r => [sl intC r]) g
theorem intC_N (n : Int) : noGs (intC n) = true := rfl
theorem rowC_len (r : List Int) : ((fun r => [sl intC r]) r).length = 1 := rfl
theorem rowC_N (r : List Int) : noGs ((fun r => [sl intC r]) r) = true := by simp only [noGs, noG_sl intC_N, Bool.and_self]
def RdI (H : List HO) (v : CV) (l : List Int) : Prop := v = sl intC l ∨ RefG H v l
theorem RdI.len {H : List HO} {v : CV} {l : List Int} (h : RdI H v l) : clen v = some l.length := by
  rcases h with rfl | h
  · rfl
  · exact h.len
theorem RdI.at {H : List HO} {v : CV} {l : List Int} (h : RdI H v l) {a : Int} {i : Nat} (ha : l[i]? = some a) {k : IntKind} : ∃ p, idxS 1 v (.int k i) = some p ∧ ∀ L, ld1 ⟨L, H⟩ p = some (.int .i64 a) := by
  rcases h with rfl | h
  · refine ⟨_, idxS_sl intC_len (by omega) (by omega) (by simpa using ha), fun L => ?_⟩
    simp only [intC, List.cons_append, ld1_r]
  · exact h.at ha
theorem RdI.esc {H : List HO} {v : CV} {l : List Int} (h : RdI H v l) : escQ v = true := by
  rcases h with rfl | ⟨_, rfl⟩ | ⟨n, g, vl, rfl, _⟩ <;> rfl
structure IsRows (v : CV) (g : List (List Int)) : Prop where
  ex : ∃ cs, v = .imm g.length cs ∧ cs.length = g.length ∧ (∀ (i : Nat) (r : List Int), g[i]? = some r → ∃ w, cs[i]? = some w ∧ (w = sl intC r ∨ (r = [] ∧ w = .nil))) ∧ noGs cs = true
theorem IsRows.of (g : List (List Int)) : IsRows (rowsC g) g := by
  refine ⟨_, rfl, by rw [flat_len rowC_len]; omega, fun i r h => ⟨sl intC r, ?_, .inl rfl⟩, noGs_flat rowC_N g⟩
  rw [flat_map, List.getElem?_map, h]; rfl
section
variable {v : CV} {g : List (List Int)}
theorem IsRows.len (h : IsRows v g) : clen v = some g.length := by obtain ⟨cs, rfl, _⟩ := h.ex; rfl
theorem IsRows.esc (h : IsRows v g) : escP v = true := by obtain ⟨cs, rfl, _⟩ := h.ex; rfl
theorem IsRows.cells (h : IsRows v g) : ccells v = some [v] := by obtain ⟨cs, rfl, _⟩ := h.ex; rfl
theorem IsRows.noG (h : IsRows v g) : noG v = true := by obtain ⟨cs, rfl, _, _, h⟩ := h.ex; exact h
end
section
variable {P : Program} {t : TypeId} {x y : Operand} {a b : Bool} {K : CV → Prop}
end
end Go.Cm

namespace Go.Cm
structure Enc {α : Type} (e : α → List CV) (sz : Nat) : Prop where
  len : ∀ a, (e a).length = sz
  can : ∀ a, cans (e a) = e a
  noG : ∀ a, noGs (e a) = true
  esc : ∀ a, (e a).all escP = true
theorem cans_append : ∀ (a b : List CV), cans (a ++ b) = cans a ++ cans b
  | [], _ => rfl
  | c :: a, b => by simp only [List.cons_append, cans, cans_append a b]
theorem cans_flat {α : Type} {e e' : α → List CV} (h : ∀ a, cans (e a) = e' a) : ∀ l : List α, cans (l.flatMap e) = l.flatMap e'
  | [] => rfl
  | a :: l => by simp only [List.flatMap_cons, cans_append, h, cans_flat h l]
theorem can_sl' {α : Type} {e e' : α → List CV} (h : ∀ a, cans (e a) = e' a) (l : List α) : can (sl e l) = sl e' l := by
  simp only [sl, can, cans_flat h]
section
variable {α : Type} {e : α → List CV} {sz : Nat}
theorem Enc.can_sl (h : Enc e sz) (l : List α) : Cm.can (Cm.sl e l) = Cm.sl e l := can_sl' h.can l
theorem Enc.noG_sl (h : Enc e sz) (l : List α) : Cm.noG (Cm.sl e l) = true := Cm.noG_sl h.noG l
theorem Enc.sl (h : Enc e sz) : Enc (fun l : List α => [Cm.sl e l]) 1 where
  len _ := rfl
  can l := by simp only [cans, Enc.can_sl h]
  noG l := by simp only [noGs, Enc.noG_sl h, Bool.and_self]
  esc l := by simp only [List.all_cons, List.all_nil, Bool.and_true]; rfl
end
theorem intE : Enc intC 1 := ⟨fun _ => rfl, fun _ => rfl, fun _ => rfl, fun _ => rfl⟩
theorem can_int {k : IntKind} {n : Int} : can (.int k n) = .int k n := rfl
theorem can_bool {b : Bool} : can (.bool b) = .bool b := rfl
theorem can_str {b : ByteArray} : can (.str b) = .str b := rfl
theorem can_agg {cs : List CV} : can (.agg cs) = .agg (cans cs) := rfl
def rowC {α : Type} (e : α → List CV) (l : List α) : CV := if l.isEmpty then .nil else sl e l
theorem can_rowC {α : Type} {e e' : α → List CV} (h : ∀ a, cans (e a) = e' a) (l : List α) : can (rowC e l) = sl e' l := by
  cases l with
  | nil => rfl
  | cons a l => exact can_sl' h _
theorem noG_rowC {α : Type} {e : α → List CV} (h : ∀ a, noGs (e a) = true) (l : List α) : noG (rowC e l) = true := by
  cases l with
  | nil => rfl
  | cons a l => exact noG_sl h _
section
variable {P : Program} {A : Ann} {E : Oracle} {fid : FuncId} {d : Tmp} {f : FuncId} {m : Mem} {r : CV} {H' : List HO}
theorem callC_K {args cargs : List CV} (hF : Fw P A E f cargs [] = some (r, H')) (hp : A.pure f = true) (hc : cans args = cargs) (hx : args.all escQ = true) (hn : noGs args = true) (hr : noG r = true) :
    callC A (Fw P A E) fid (some d) f args m = some (adopt ((A.glob fid).contains d) d r m) := by
  refine callC_P (H' := H') ?_ hp hx hn hr
  rw [Fw_can, hp]
  show Fw P A E f (cans args) [] = _
  rw [hc]; exact hF
theorem callC_V {args cargs : List CV} (hF : Fw P A E f cargs [] = some (r, H')) (ha : ∀ g d m, adopt g d r m = (r, m)) (hp : A.pure f = true) (hc : cans args = cargs) (hx : args.all escQ = true) (hn : noGs args = true) (hr : noG r = true) :
    callC A (Fw P A E) fid (some d) f args m = some (r, m) := by
  rw [callC_K hF hp hc hx hn hr, ha]
theorem callC_KE {args xs cargs : List CV} {m1 : Mem} (hF : Fw P A E f cargs [] = some (r, H')) (hp : A.pure f = true) (hx : escList m args = some (xs, m1)) (hc : cans xs = cargs) (hn : noGs xs = true) (hr : noG r = true) :
    callC A (Fw P A E) fid (some d) f args m = some (adopt ((A.glob fid).contains d) d r (if scalar r then m else m1)) := by
  refine callC_pure (H' := H') hp hx hn ?_ hr
  rw [Fw_can, hp]
  show Fw P A E f (cans xs) [] = _
  rw [hc]; exact hF
end
section
variable {α : Type} {e : α → List CV} {sz : Nat} {m m' : Mem} {j : Nat} {v : CV} {l : List α}
def OwnV (e : α → List CV) (sz : Nat) (m : Mem) (j : Nat) (v : CV) (l : List α) : Prop :=
  (l = [] ∧ v = .nil) ∨ (l ≠ [] ∧ ∃ g vl, v = .ref (.l j) g 0 l.length ∧ lget m.L j = some (.arr g sz (l.flatMap e) vl) ∧ vl ≤ l.length * sz)
theorem OwnE.seen (h : OwnE e sz m j v l) : OwnV e sz m j v l := by
  rcases h with h | ⟨h, g, h1, h2⟩
  · exact .inl h
  · exact .inr ⟨h, g, 0, h1, h2, Nat.zero_le _⟩
theorem OwnV.keep (h : OwnV e sz m j v l) (hm : lget m'.L j = lget m.L j) : OwnV e sz m' j v l := by
  rcases h with h | ⟨h, g, vl, h1, h2, h3⟩
  · exact .inl h
  · exact .inr ⟨h, g, vl, h1, by rw [hm, h2], h3⟩
theorem OwnV.len (h : OwnV e sz m j v l) : clen v = some l.length := by
  rcases h with ⟨rfl, rfl⟩ | ⟨_, g, _, rfl, _⟩ <;> rfl
theorem OwnV.esc1 (h : OwnV e sz m j v l) (hs : ∀ a, (e a).length = sz) :
    ∃ m1, esc deep v m = some (rowC e l, m1) ∧ m1.H = m.H ∧ (∀ i, i ≠ j → lget m1.L i = lget m.L i) ∧ OwnV e sz m1 j v l := by
  rcases h with ⟨rfl, rfl⟩ | ⟨hne, g, vl, rfl, h1, h2⟩
  · exact ⟨m, rfl, rfl, fun _ _ => rfl, .inl ⟨rfl, rfl⟩⟩
  · refine ⟨setL m j (.arr g sz (l.flatMap e) (max vl (l.length * sz))), ?_, rfl, fun i hi => by rw [lget_setL, if_neg (Ne.symm hi)], .inr ⟨hne, g, max vl (l.length * sz), rfl, by rw [lget_setL, if_pos rfl], by omega⟩⟩
    have hr : rowC e l = .imm l.length (l.flatMap e) := by cases l with
      | nil => exact absurd rfl hne
      | cons a l => rfl
    simp only [deep, esc, h1, if_true, List.drop_zero, HO.seen, Nat.zero_add, hr]
    rw [List.take_of_length_le (by rw [flat_len hs]; omega)]; rfl
theorem OwnV.app (h : OwnV e sz m j v l) {b : Nat} {x : CV} {ys : List α} {K : CV × Mem → Prop} (hs : ∀ a, (e a).length = sz) (hx : Cm.content m sz x = some (ys.flatMap e)) (hn : clen x = some ys.length)
    (hb : smallB b (l.length + ys.length) = true) (hK : ∀ v' m', OwnV e sz m' j v' (l ++ ys) → m'.H = m.H → (∀ i, i ≠ j → lget m'.L i = lget m.L i) → K (v', m')) : Obt (appX false j sz b v x m) K := by
  rcases h with ⟨rfl, rfl⟩ | ⟨hne, g, vl, rfl, h, hvl⟩
  · rw [appX_n, hx, hn]
    by_cases h0 : ys.length = 0
    · have : ys = [] := List.eq_nil_of_length_eq_zero h0
      subst this
      simp only [appN, List.length_nil, if_true, Obt_some]
      exact hK _ _ (.inl ⟨rfl, rfl⟩) rfl (fun _ _ => rfl)
    · rw [appN_some h0, if_pos (by simpa using hb), Obt_some]
      refine hK _ _ (.inr ⟨by simpa using fun e => h0 (by rw [e]; rfl), gnext m.L j, 0, rfl, ?_, Nat.zero_le _⟩) rfl ?_
      · rw [nmA_f, lget_setL, if_pos rfl, List.nil_append]
      · intro i hi; rw [nmA_f, lget_setL, if_neg (Ne.symm hi)]
  · have htk : (l.flatMap e).take (l.length * sz) = l.flatMap e := List.take_of_length_le (by rw [flat_len hs]; omega)
    rw [appX_l, hx, hn, h]
    simp only [appR_arr]
    rw [if_pos (by simp only [hb, and_true, true_and]; omega), Obt_some]
    refine hK _ _ (.inr ⟨by simp [hne], g + 1, vl - 0, by simp, ?_, by simp only [List.length_append]; have := Nat.mul_le_mul_right sz (Nat.le_add_right l.length ys.length); omega⟩) rfl ?_
    · rw [lget_setL, if_pos rfl, List.drop_zero, htk, List.flatMap_append]
    · intro i hi; rw [lget_setL, if_neg (Ne.symm hi)]
theorem OwnV.at (h : OwnV e sz m j v l) (hs : ∀ a, (e a).length = sz) {a : α} {i : Nat} (ha : l[i]? = some a) {k : IntKind} : ∃ g vl, v = .ref (.l j) g 0 l.length ∧ lget m.L j = some (.arr g sz (l.flatMap e) vl) ∧ vl ≤ l.length * sz := by
  rcases h with ⟨rfl, rfl⟩ | ⟨_, g, vl, h⟩
  · cases ha
  · exact ⟨g, vl, h⟩
end
theorem escList_one {m m1 : Mem} {v x : CV} (h : esc deep v m = some (x, m1)) : escList m [v] = some ([x], m1) := by
  simp only [escList, mapMem, h, Option.bind_some, Option.map_some]
theorem bslX_int {s : Nat} {z : CV} {k : IntKind} {x : Int} {m : Mem} : bslX false s 1 1 [z] [(0, 1, .int k x)] m = some (.ref (.l s) (gnext m.L s) 0 1, setL m s (.arr (gnext m.L s) 1 [.int k x] 0)) := rfl
section
variable {P : Program} {A : Ann} {E : Oracle} {fid : FuncId} {d : Tmp} {f : FuncId} {m : Mem} {H' : List HO} {α : Type} {e : α → List CV} {sz : Nat} {l : List α}
theorem callC_O {args cargs : List CV} {K : CV × Mem → Prop} (hF : Fw P A E f cargs [] = some (ownC e sz l, H')) (hp : A.pure f = true) (hc : cans args = cargs) (hx : args.all escQ = true) (hn : noGs args = true) (hr : ∀ a, noGs (e a) = true)
    (hgl : (A.glob fid).contains d = false) (hK : ∀ v m', OwnE e sz m' (16 * d) v l → m'.H = m.H → (∀ i, i ≠ 16 * d → lget m'.L i = lget m.L i) → K (v, m')) : Obt (callC A (Fw P A E) fid (some d) f args m) K := by
  rw [callC_K hF hp hc hx hn (noG_ownC hr l), Obt_some]
  obtain ⟨v, m', h1, h2, h3, h4⟩ := adopt_ownC (e := e) (sz := sz) (m := m) (l := l) (d := d) hgl
  rw [h1]
  exact hK v m' h2 h3 h4
end
def EscI (m : Mem) (j : Nat) (v : CV) (l : List Int) : Prop := ∃ x m1, esc deep v m = some (x, m1) ∧ (∀ H, RdI H x l) ∧ m1.H = m.H ∧ ∀ i, i ≠ j → lget m1.L i = lget m.L i
theorem EscI.imm {m : Mem} {j : Nat} : EscI m j (.imm 0 []) [] := ⟨_, m, rfl, fun _ => .inl rfl, rfl, fun _ _ => rfl⟩
end Go.Cm
