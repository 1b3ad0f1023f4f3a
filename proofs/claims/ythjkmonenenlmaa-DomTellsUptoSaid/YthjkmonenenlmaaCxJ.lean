/-
  Rows of a function's own: made longer, read, handed out.
-/
import Derived.Test.YthjkmonenenlmaaCxI
set_option linter.unusedSimpArgs false
set_option linter.unusedVariables false
namespace Go.Cm

/-- a row that is somebody's own: nil, or alone in an object -/
def OwnE {α : Type} (e : α → List CV) (sz : Nat) (m : Mem) (j : Nat) (v : CV) (l : List α) : Prop :=
  (l = [] ∧ v = .nil) ∨ (l ≠ [] ∧ ∃ g, v = .ref (.l j) g 0 l.length ∧ lget m.L j = some (.arr g sz (l.flatMap e) 0))
/-- it goes out -/
def ownC {α : Type} (e : α → List CV) (sz : Nat) (l : List α) : CV := if l = [] then .nil else .own l.length sz (l.flatMap e) 0

section
variable {α : Type} {e : α → List CV} {sz : Nat} {m m' : Mem} {j : Nat} {v : CV} {l : List α}
theorem OwnE.nil : OwnE e sz m j .nil [] := .inl ⟨rfl, rfl⟩
theorem OwnE.keep (h : OwnE e sz m j v l) (hm : lget m'.L j = lget m.L j) : OwnE e sz m' j v l := by
  rcases h with h | ⟨h, g, h1, h2⟩
  · exact .inl h
  · exact .inr ⟨h, g, h1, by rw [hm, h2]⟩
theorem OwnE.keepS (h : OwnE e sz m j v l) {i : Nat} {o : HO} (hij : i ≠ j) : OwnE e sz (setL m i o) j v l := h.keep (by rw [lget_setL, if_neg hij])
theorem OwnE.len (h : OwnE e sz m j v l) : clen v = some l.length := by
  rcases h with ⟨rfl, rfl⟩ | ⟨_, g, rfl, _⟩ <;> rfl
theorem OwnE.lenS (h : OwnE e sz m j v l) : lenS v = some (.int .i64 l.length) := by simp only [Cm.lenS, h.len, Option.map_some]
theorem OwnE.content (h : OwnE e sz m j v l) (hs : ∀ a, (e a).length = sz) : content m sz v = some (l.flatMap e) := by
  rcases h with ⟨rfl, rfl⟩ | ⟨_, g, rfl, h⟩
  · rfl
  · rw [content_l, h, conR_arr, List.drop_zero, List.take_of_length_le (by rw [flat_len hs]; exact Nat.le_refl _)]
/-- more behind it -/
theorem OwnE.app (h : OwnE e sz m j v l) {b : Nat} {x : CV} {ys : List α} {K : CV × Mem → Prop} (hs : ∀ a, (e a).length = sz) (hx : Cm.content m sz x = some (ys.flatMap e)) (hn : clen x = some ys.length)
    (hb : b ≤ 1024) (hl : l.length + ys.length ≤ 4294967296) (hK : ∀ v' m', OwnE e sz m' j v' (l ++ ys) → m'.H = m.H → (∀ i, i ≠ j → lget m'.L i = lget m.L i) → K (v', m')) : Obt (appX false j sz b v x m) K := by
  rcases h with ⟨rfl, rfl⟩ | ⟨hne, g, rfl, h⟩
  · rw [appX_n, hx, hn]
    by_cases h0 : ys.length = 0
    · have : ys = [] := List.eq_nil_of_length_eq_zero h0
      subst this
      simp only [appN, List.length_nil, if_true, Obt_some]
      exact hK _ _ (.inl ⟨rfl, rfl⟩) rfl (fun _ _ => rfl)
    · rw [appN_some h0, if_pos (smallB_ok hb (by simpa using hl)), Obt_some]
      refine hK _ _ (.inr ⟨by simpa using fun e => h0 (by rw [e]; rfl), gnext m.L j, rfl, ?_⟩) rfl ?_
      · rw [nmA_f, lget_setL, if_pos rfl, List.nil_append]
      · intro i hi; rw [nmA_f, lget_setL, if_neg (Ne.symm hi)]
  · rw [appX_l, hx, hn, h, appR_arr, if_pos ⟨by omega, smallB_ok hb hl⟩, Obt_some]
    refine hK _ _ (.inr ⟨by simp [hne], g + 1, by simp, ?_⟩) rfl ?_
    · rw [lget_setL, if_pos rfl, List.drop_zero, List.take_of_length_le (by rw [flat_len hs]; exact Nat.le_refl _), List.flatMap_append]
    · intro i hi; rw [lget_setL, if_neg (Ne.symm hi)]
theorem OwnE.app8 (h : OwnE e sz m j v l) {b : Nat} {x : CV} {ys : List α} {K : CV × Mem → Prop} (hs : ∀ a, (e a).length = sz) (hx : Cm.content m sz x = some (ys.flatMap e)) (hn : clen x = some ys.length)
    (hb : b ≤ 8) (hl : l.length + ys.length ≤ 17592186044416) (hK : ∀ v' m', OwnE e sz m' j v' (l ++ ys) → m'.H = m.H → (∀ i, i ≠ j → lget m'.L i = lget m.L i) → K (v', m')) : Obt (appX false j sz b v x m) K := by
  rcases h with ⟨rfl, rfl⟩ | ⟨hne, g, rfl, h⟩
  · rw [appX_n, hx, hn]
    by_cases h0 : ys.length = 0
    · have : ys = [] := List.eq_nil_of_length_eq_zero h0
      subst this
      simp only [appN, List.length_nil, if_true, Obt_some]
      exact hK _ _ (.inl ⟨rfl, rfl⟩) rfl (fun _ _ => rfl)
    · rw [appN_some h0, if_pos (smallB_big hb (by simpa using hl)), Obt_some]
      refine hK _ _ (.inr ⟨by simpa using fun e => h0 (by rw [e]; rfl), gnext m.L j, rfl, ?_⟩) rfl ?_
      · rw [nmA_f, lget_setL, if_pos rfl, List.nil_append]
      · intro i hi; rw [nmA_f, lget_setL, if_neg (Ne.symm hi)]
  · rw [appX_l, hx, hn, h, appR_arr, if_pos ⟨by omega, smallB_big hb hl⟩, Obt_some]
    refine hK _ _ (.inr ⟨by simp [hne], g + 1, by simp, ?_⟩) rfl ?_
    · rw [lget_setL, if_pos rfl, List.drop_zero, List.take_of_length_le (by rw [flat_len hs]; exact Nat.le_refl _), List.flatMap_append]
    · intro i hi; rw [lget_setL, if_neg (Ne.symm hi)]
/-- it goes out with its function -/
theorem OwnE.ret (h : OwnE e sz m j v l) (hs : ∀ a, (e a).length = sz) {K : CV × Mem → Prop} (hK : ∀ m', m'.H = m.H → K (ownC e sz l, m')) : Obt (retv v m) K := by
  rcases h with ⟨rfl, rfl⟩ | ⟨hne, g, rfl, h⟩
  · simp only [retv_nil, Obt_some]; exact hK m rfl
  · rw [retv_l, h, retR_arr, Obt_some, List.drop_zero, List.take_of_length_le (by rw [flat_len hs]; exact Nat.le_refl _)]
    have := hK (setL m j (.arr (g + 1) sz [] 0)) rfl
    rw [ownC, if_neg hne] at this
    exact this
/-- it comes in -/
theorem adopt_ownC {d : Nat} {gl : Bool} (hg : gl = false) : ∃ v m', adopt gl d (ownC e sz l) m = (v, m') ∧ OwnE e sz m' (16 * d) v l ∧ m'.H = m.H ∧ ∀ i, i ≠ 16 * d → lget m'.L i = lget m.L i := by
  subst hg
  unfold ownC
  split
  · rename_i h; subst h; exact ⟨.nil, m, rfl, .inl ⟨rfl, rfl⟩, rfl, fun _ _ => rfl⟩
  · rename_i h
    refine ⟨_, _, adopt_own, .inr ⟨h, _, rfl, by rw [lget_setL, if_pos rfl]⟩, rfl, fun i hi => by rw [lget_setL, if_neg (Ne.symm hi)]⟩
theorem noG_ownC (h : ∀ a, noGs (e a) = true) (l : List α) : noG (ownC e sz l) = true := by
  unfold ownC
  split
  · rfl
  · exact noGs_flat h l
/-- an element of it -/
theorem OwnE.get (h : OwnE e sz m j v l) {a : α} {i : Nat} (ha : l[i]? = some a) : ∃ g, v = .ref (.l j) g 0 l.length ∧ lget m.L j = some (.arr g sz (l.flatMap e) 0) ∧ i < l.length := by
  have hlt := (List.getElem?_eq_some_iff.1 ha).1
  rcases h with ⟨rfl, _⟩ | ⟨_, g, h1, h2⟩
  · simp at hlt
  · exact ⟨g, h1, h2, hlt⟩
end
theorem flat_get {α : Type} {e : α → List CV} {l : List α} {i off : Nat} {a : α} {sz : Nat} (hs : ∀ a, (e a).length = sz) (ha : l[i]? = some a) (ho : off < sz) : (l.flatMap e)[i * sz + off]? = (e a)[off]? := by
  obtain ⟨h1, h2⟩ := flat_at hs ha
  rw [← h1, List.getElem?_take, if_pos ho, List.getElem?_drop]
theorem flat_int {l : List Int} {i : Nat} : (l.flatMap intC)[i]? = (l[i]?).map (CV.int .i64) := by
  induction l generalizing i with
  | nil => rfl
  | cons x l ih =>
    cases i with
    | zero => rfl
    | succ i => simpa [intC] using ih
/-- a number of it -/
theorem OwnE.at {m : Mem} {j : Nat} {v : CV} {l : List Int} (h : OwnE intC 1 m j v l) {a : Int} {i : Nat} (ha : l[i]? = some a) {k : IntKind} : ∃ p, idxS 1 v (.int k i) = some p ∧ ∀ m' : Mem, lget m'.L j = lget m.L j → ld1 m' p = some (.int .i64 a) := by
  obtain ⟨g, rfl, h2, hlt⟩ := h.get ha
  refine ⟨.ptr (.l j) g i, ?_, fun m' hm => ?_⟩
  · rw [idxS_ref, if_pos ⟨by omega, by simpa using hlt⟩]; simp
  · rw [ld1_l, hm, h2, rd1_arr, flat_int, ha]; rfl
theorem splice_one {cells : List CV} {i : Nat} {v : CV} (h : i < cells.length) : splice cells i [v] = cells.set i v := by
  simp only [splice, List.length_cons, List.length_nil, Nat.zero_add, List.cons_append, List.nil_append]
  rw [List.set_eq_take_append_cons_drop, if_pos h]
theorem set_int {l : List Int} {i : Nat} {x : Int} : (l.flatMap intC).set i (.int .i64 x) = (l.set i x).flatMap intC := by
  induction l generalizing i with
  | nil => rfl
  | cons y l ih =>
    cases i with
    | zero => rfl
    | succ i => simpa [intC] using ih
theorem len_int {l : List Int} : (l.flatMap intC).length = l.length := by rw [flat_len intC_len]; omega
theorem flat_map {α : Type} {f : α → CV} {l : List α} : (l.flatMap fun a => [f a]) = l.map f := by
  induction l with
  | nil => rfl
  | cons x l ih => simp only [List.flatMap_cons, ih, List.map_cons, List.cons_append, List.nil_append]
theorem flat_bool {l : List Bool} {i : Nat} : (l.flatMap boolC)[i]? = (l[i]?).map CV.bool := by
  rw [show l.flatMap boolC = l.map CV.bool from flat_map, List.getElem?_map]
theorem set_bool {l : List Bool} {i : Nat} {x : Bool} : (l.flatMap boolC).set i (.bool x) = (l.set i x).flatMap boolC := by
  rw [show l.flatMap boolC = l.map CV.bool from flat_map, show (l.set i x).flatMap boolC = (l.set i x).map CV.bool from flat_map, List.map_set]
theorem len_bool {l : List Bool} : (l.flatMap boolC).length = l.length := by rw [flat_len boolC_len]; omega
theorem stX_one_l {m : Mem} {j g i : Nat} {v : CV} {cells : List CV} (hn : lget m.L j = some (.arr g 1 cells 0)) (h : i < cells.length) (hp : escP v = true) (hc : ccells v = some [v]) : stX 1 m (.ptr (.l j) g i) v = some (setL m j (.arr g 1 (cells.set i v) 0)) := by
  rw [stX_l, hn, hc, stV_arr (by simp only [List.all_cons, List.all_nil, hp, Bool.and_self]) hn, if_pos ⟨rfl, by omega, by omega⟩, splice_one h]
theorem reps_len {n : Nat} {z : CV} : (reps n [z]).length = n := by
  induction n with
  | zero => rfl
  | succ n ih => simp [reps, ih]
theorem reps_bool {n : Nat} {b : Bool} : reps n [.bool b] = (List.replicate n b).flatMap boolC := by
  induction n with
  | zero => rfl
  | succ n ih => simp only [reps, ih, List.replicate_succ, List.flatMap_cons, boolC]
theorem reps_int {n : Nat} {b : Int} : reps n [.int .i64 b] = (List.replicate n b).flatMap intC := by
  induction n with
  | zero => rfl
  | succ n ih => simp only [reps, ih, List.replicate_succ, List.flatMap_cons, intC]
/-- a row of its own that is not nil -/
def ownN {α : Type} (e : α → List CV) (sz : Nat) (l : List α) : CV := .own l.length sz (l.flatMap e) 0
theorem noG_ownN {α : Type} {e : α → List CV} {sz : Nat} (h : ∀ a, noGs (e a) = true) (l : List α) : noG (ownN e sz l) = true := noGs_flat h l
theorem mkX_l {j sz b : Nat} {z : List CV} {k : IntKind} {n : Nat} {m : Mem} (hz : z.length = sz) (hb : b ≤ 1024) (hn : n ≤ 4294967296) : mkX false j sz b z (.int k n) (.int k n) m = some (.ref (.l j) (gnext m.L j) 0 n, setL m j (.arr (gnext m.L j) sz (reps n z) 0)) := by
  simp only [mkX, Int.toNat_natCast]
  rw [if_pos ⟨by omega, trivial, smallB_ok hb hn, hz⟩]; rfl
theorem mkX_g {j sz b : Nat} {z : List CV} {k : IntKind} {n : Nat} {m : Mem} (hz : z.length = sz) (hb : b ≤ 1024) (hn : n ≤ 4294967296) : mkX true j sz b z (.int k n) (.int k n) m = some (.ref (.g m.H.length) 1 0 n, ⟨m.L, m.H ++ [.arr 1 sz (reps n z) 0]⟩) := by
  simp only [mkX, Int.toNat_natCast]
  rw [if_pos ⟨by omega, trivial, smallB_ok hb hn, hz⟩]; rfl
theorem stX_one {m : Mem} {a g i : Nat} {v : CV} {cells : List CV} (hn : m.H[a]? = some (.arr g 1 cells 0)) (h : i < cells.length) (hp : escP v = true) (hc : ccells v = some [v]) : stX 1 m (.ptr (.g a) g i) v = some ⟨m.L, m.H.set a (.arr g 1 (cells.set i v) 0)⟩ := by
  rw [stX_g, hn, hc, stW_arr (by simp only [List.all_cons, List.all_nil, hp, Bool.and_self]) hn, if_pos ⟨rfl, by omega, by omega⟩, splice_one h]
  rfl
theorem boxG_1 {x : CV} {m : Mem} (hc : ccells x = some [x]) (hp : escP x = true) : boxG x m = some (gnewP m, gnewL m [x]) := by
  simp only [boxG, hc, escP_list (m := m) (cs := [x]) (by simp only [List.all_cons, List.all_nil, hp, Bool.and_self]), Option.map_some]
/-- numbers in everybody's memory -/
def RefG (H : List HO) (v : CV) (l : List Int) : Prop := (l = [] ∧ v = .nil) ∨ ∃ n g vl, v = .ref (.g n) g 0 l.length ∧ H[n]? = some (.arr g 1 (l.flatMap intC) vl)
theorem RefG.len {H : List HO} {v : CV} {l : List Int} (h : RefG H v l) : clen v = some l.length := by
  rcases h with ⟨rfl, rfl⟩ | ⟨n, g, vl, rfl, _⟩ <;> rfl
theorem RefG.at {H : List HO} {v : CV} {l : List Int} (h : RefG H v l) {a : Int} {i : Nat} (ha : l[i]? = some a) {k : IntKind} : ∃ p, idxS 1 v (.int k i) = some p ∧ ∀ L, ld1 ⟨L, H⟩ p = some (.int .i64 a) := by
  have hlt := (List.getElem?_eq_some_iff.1 ha).1
  rcases h with ⟨rfl, rfl⟩ | ⟨n, g, vl, rfl, hn⟩
  · simp at hlt
  · refine ⟨.ptr (.g n) g i, ?_, fun L => ?_⟩
    · rw [idxS_ref, if_pos ⟨by omega, by simpa using hlt⟩]; simp
    · rw [ld1_g]; simp only [hn, rd1_arr, flat_int, ha]; rfl
theorem RefG.mono {H H' : List HO} {v : CV} {l : List Int} (h : RefG H v l) (hH : ∀ i : Nat, i < H.length → H'[i]? = H[i]?) : RefG H' v l := by
  rcases h with h | ⟨n, g, vl, h1, h2⟩
  · exact .inl h
  · exact .inr ⟨n, g, vl, h1, by rw [hH n (List.getElem?_eq_some_iff.1 h2).1, h2]⟩
theorem RefG.app {H E : List HO} {v : CV} {l : List Int} (h : RefG H v l) : RefG (H ++ E) v l := h.mono fun _ hi => List.getElem?_append_left hi
section
variable {P : Program} {A : Ann} {F : Oracle} {fid : FuncId} {m : Mem}
theorem callC_I {d : Tmp} {f : FuncId} {args : List CV} {r : CV} {H' : List HO} (hp : A.pure f = false) (hx : args.all escQ = true) (hF : F f args m.H = some (r, H')) :
    callC A F fid (some d) f args m = some (adopt ((A.glob fid).contains d) d r ⟨m.L, H'⟩) := by
  simp only [callC, escQ_list hx, Option.bind_some, hp, Bool.false_eq_true, if_false, hF, takes]
theorem callC_I0 {f : FuncId} {args : List CV} {r : CV} {H' : List HO} (hp : A.pure f = false) (hx : args.all escQ = true) (hF : F f args m.H = some (r, H')) :
    callC A F fid none f args m = some (.dead, ⟨m.L, H'⟩) := by
  simp only [callC, escQ_list hx, Option.bind_some, hp, Bool.false_eq_true, if_false, hF, takes]
theorem invokeC_func {d : Option Tmp} {f : FuncId} {a args c : List CV} : invokeC A F fid d (.func (.func f) a c) args m = callC A F fid d f (a ++ args ++ c) m := rfl
end
theorem aset_new {l : List (Int × CV)} {a : Int} {v : CV} (h : al l a = none) : aset l a v = l ++ [(a, v)] := by
  induction l with
  | nil => rfl
  | cons p r ih =>
    simp only [al] at h
    split at h
    · cases h
    · rename_i hp
      simp only [aset, hp, if_false, ih h, List.cons_append]
theorem al_map {α : Type} {l : List α} {f : α → Int} {g : α → CV} {a : Int} (h : ∀ x ∈ l, f x ≠ a) : al (l.map fun x => (f x, g x)) a = none := by
  induction l with
  | nil => rfl
  | cons x l ih =>
    simp only [List.map_cons, al]
    rw [if_neg (h x List.mem_cons_self)]
    exact ih fun y hy => h y (List.mem_cons_of_mem _ hy)
theorem al_const {l : List Int} {a : Int} {v : CV} (h : a ∈ l) : al (l.map fun x => (x, v)) a = some v := by
  induction l with
  | nil => cases h
  | cons x l ih =>
    simp only [List.map_cons, al]
    by_cases hx : x = a
    · rw [if_pos hx]
    · rw [if_neg hx]
      rcases List.mem_cons.1 h with h | h
      · exact absurd h.symm hx
      · exact ih h
/-- a map is written -/
theorem mupX_int {P : Program} {t : TypeId} {k : IntKind} (hu : P.underlying t = some (.int k)) {key : Key} {g : Nat} {a : Int} {v : CV} {m : Mem} {l : List (Int × CV)} (hv : escQ v = true) (hm : m.get key = some (.map g (esI k l))) :
    mupX P t (.map key g) (.int k a) v m = some (m.set key (.map g (esI k (aset l a v)))) := by
  have he : escList m [v] = some ([v], m) := escQ_list (by simp only [List.all_cons, List.all_nil, hv, Bool.and_self])
  have hs := fix_set (k := k) (l := l) (a := a) (v := v) 0 l
  simp only [mupX, he, Option.bind_some, hm, isKey, and_self, if_true, ckey_int hu]
  cases hf : fix l a 0 with
  | none => rw [hf] at hs; simp only at hs ⊢; rw [hs]
  | some p =>
    obtain ⟨i, c⟩ := p
    rw [hf] at hs
    simp only [Nat.sub_zero] at hs ⊢
    rw [hs]
/-- rows of rows of numbers -/
def rowsC (g : List (List Int)) : CV := sl (fun r => [sl intC r]) g
theorem intC_N (n : Int) : noGs (intC n) = true := rfl
theorem boolC_N (n : Bool) : noGs (boolC n) = true := rfl
theorem rowC_len (r : List Int) : ((fun r => [sl intC r]) r).length = 1 := rfl
theorem rowC_N (r : List Int) : noGs ((fun r => [sl intC r]) r) = true := by simp only [noGs, noG_sl intC_N, Bool.and_self]
theorem noG_rowsC (g : List (List Int)) : noG (rowsC g) = true := noG_sl rowC_N g
theorem clen_rowsC {g : List (List Int)} : clen (rowsC g) = some g.length := rfl
theorem idx_rowsC {g : List (List Int)} {x : Int} {r : List Int} {k : IntKind} (h0 : 0 ≤ x) (h : g[x.toNat]? = some r) : idxS 1 (rowsC g) (.int k x) = some (.rptr (sl intC r :: (g.drop (x.toNat + 1)).flatMap fun r => [sl intC r])) :=
  idxS_sl rowC_len (by omega) h0 h
/-- numbers that may be read -/
def RdI (H : List HO) (v : CV) (l : List Int) : Prop := v = sl intC l ∨ RefG H v l
theorem RdI.len {H : List HO} {v : CV} {l : List Int} (h : RdI H v l) : clen v = some l.length := by
  rcases h with rfl | h
  · rfl
  · exact h.len
theorem RdI.at {H : List HO} {v : CV} {l : List Int} (h : RdI H v l) {a : Int} {i : Nat} (ha : l[i]? = some a) {k : IntKind} : ∃ p, idxS 1 v (.int k i) = some p ∧ ∀ L, ld1 ⟨L, H⟩ p = some (.int .i64 a) := by
  rcases h with rfl | h
  · refine ⟨_, idxS_sl intC_len (by omega) (by omega) (by simpa using ha), fun L => ?_⟩
    simp only [intC, List.cons_append, ld1_r]
  · exact h.at ha
theorem RdI.esc {H : List HO} {v : CV} {l : List Int} (h : RdI H v l) : escQ v = true := by
  rcases h with rfl | ⟨_, rfl⟩ | ⟨n, g, vl, rfl, _⟩ <;> rfl
/-- a row of rows of numbers, some of them nil -/
structure IsRows (v : CV) (g : List (List Int)) : Prop where
  ex : ∃ cs, v = .imm g.length cs ∧ cs.length = g.length ∧ (∀ (i : Nat) (r : List Int), g[i]? = some r → ∃ w, cs[i]? = some w ∧ (w = sl intC r ∨ (r = [] ∧ w = .nil))) ∧ noGs cs = true
theorem IsRows.of (g : List (List Int)) : IsRows (rowsC g) g := by
  refine ⟨_, rfl, by rw [flat_len rowC_len]; omega, fun i r h => ⟨sl intC r, ?_, .inl rfl⟩, noGs_flat rowC_N g⟩
  rw [flat_map, List.getElem?_map, h]; rfl
section
variable {v : CV} {g : List (List Int)}
theorem IsRows.len (h : IsRows v g) : clen v = some g.length := by obtain ⟨cs, rfl, _⟩ := h.ex; rfl
theorem IsRows.esc (h : IsRows v g) : escP v = true := by obtain ⟨cs, rfl, _⟩ := h.ex; rfl
theorem IsRows.cells (h : IsRows v g) : ccells v = some [v] := by obtain ⟨cs, rfl, _⟩ := h.ex; rfl
theorem IsRows.noG (h : IsRows v g) : noG v = true := by obtain ⟨cs, rfl, _, _, h⟩ := h.ex; exact h
theorem IsRows.idx (h : IsRows v g) {x : Int} {r : List Int} {k : IntKind} (h0 : 0 ≤ x) (hr : g[x.toNat]? = some r) : ∃ w t, idxS 1 v (.int k x) = some (.rptr (w :: t)) ∧ ∀ H, RdI H w r := by
  obtain ⟨cs, rfl, h1, h2, _⟩ := h.ex
  obtain ⟨w, h3, h4⟩ := h2 _ _ hr
  have hlt := (List.getElem?_eq_some_iff.1 hr).1
  have hlt2 : x.toNat < cs.length := by omega
  refine ⟨w, cs.drop (x.toNat + 1), ?_, fun H => ?_⟩
  · simp only [idxS, asNat, h0, if_true]
    rw [if_pos ⟨hlt, by omega⟩, Nat.mul_one, List.drop_eq_getElem_cons hlt2]
    rw [List.getElem?_eq_getElem hlt2] at h3
    rw [Option.some.inj h3]
  · rcases h4 with rfl | ⟨rfl, rfl⟩
    · exact .inl rfl
    · exact .inr (.inl ⟨rfl, rfl⟩)
end
section
variable {P : Program} {t : TypeId} {x y : Operand} {a b : Bool} {K : CV → Prop}
theorem Obt_eqB (hu : P.underlying t = some .bool) : Obt (cbin P .eql t x y (.bool a) (.bool b)) K = K (.bool (a == b)) := by
  simp only [cbin, eqC, ceq, hu, Option.map_some, Obt_some]
theorem Obt_neB (hu : P.underlying t = some .bool) : Obt (cbin P .neq t x y (.bool a) (.bool b)) K = K (.bool (!(a == b))) := by
  simp only [cbin, eqC, ceq, hu, Option.map_some, Obt_some]
end
/-- a row of its own, handed to who reads it -/
theorem esc_own {m : Mem} {j g len sz vl : Nat} {cs : List CV} {args : List CV} (h : lget m.L j = some (.arr g sz cs vl)) (hl : cs.length = len * sz) (ha : args.all escQ = true) :
    escList m (.ref (.l j) g 0 len :: args) = some (.imm len cs :: args, setL m j (.arr g sz cs (max vl (len * sz)))) := by
  have h1 : esc deep (.ref (.l j) g 0 len) m = some (.imm len cs, setL m j (.arr g sz cs (max vl (len * sz)))) := by
    simp only [deep, esc, h, if_true, List.drop_zero, HO.seen, Nat.zero_add]
    rw [List.take_of_length_le (by omega)]; rfl
  have h2 : ∀ m', mapMem (esc deep) args m' = some (args, m') := fun m' => escQ_list (m := m') ha
  simp only [escList, mapMem, h1, Option.bind_some, h2, Option.map_some]
theorem callC_own {P : Program} {A : Ann} {F : Oracle} {fid : FuncId} {m : Mem} {d : Tmp} {f : FuncId} {j g len sz vl : Nat} {cs args : List CV} {r : CV} {H' : List HO} (h : lget m.L j = some (.arr g sz cs vl)) (hl : cs.length = len * sz) (ha : args.all escQ = true)
    (hF : F f (.imm len cs :: args) [] = some (r, H')) (hp : A.pure f = true) (hn : noGs (.imm len cs :: args) = true) (hr : noG r = true) :
    callC A F fid (some d) f (.ref (.l j) g 0 len :: args) m = some (adopt ((A.glob fid).contains d) d r (if scalar r then m else setL m j (.arr g sz cs (max vl (len * sz))))) :=
  callC_pure hp (esc_own h hl ha) hn hF hr
end Go.Cm
