/-
  What comes in: a reading of Go's memory gives the machine's values.
-/
import Derived.Test.YtjmmeeokpncdbaaCvZ
import Derived.ChangeArms
set_option linter.unusedSimpArgs false
set_option linter.unusedVariables false
namespace Go.Cm

/-- data -/
inductive D where
  | b (x : Bool)
  | i (k : IntKind) (n : Int)
  | s (x : ByteArray)
  | sl (ds : List D)
  | ag (ds : List D)
  deriving Inhabited

mutual
def D.cells : D → List CV
  | .b x => [.bool x]
  | .i k n => [.int k n]
  | .s x => [.str x]
  | .sl ds => [.imm ds.length (D.cellsL ds)]
  | .ag ds => D.cellsL ds
def D.cellsL : List D → List CV
  | [] => []
  | d :: ds => D.cells d ++ D.cellsL ds
end
def D.cv : D → CV
  | .b x => .bool x
  | .i k n => .int k n
  | .s x => .str x
  | .sl ds => .imm ds.length (D.cellsL ds)
  | .ag ds => .agg (D.cellsL ds)

section
variable (P : Program)

/-- may values of a type be read so? -/
def offs : Nat → List Field → Option Nat
  | o, [] => some o
  | o, f :: fs => if f.offset = o then offs (o + P.cellsOf f.type) fs else none
def readTy : Nat → TypeId → Bool
  | 0, _ => false
  | n + 1, t =>
    match P.underlying t with
    | some .bool => decide (P.cellsOf t = 1)
    | some (.int _) => decide (P.cellsOf t = 1)
    | some .string => decide (P.cellsOf t = 1)
    | some (.slice e) => decide (P.cellsOf t = 1) && decide (0 < P.cellsOf e) && readTy n e
    | some (.struct fs) => decide (offs P 0 fs.toList = some (P.cellsOf t)) && fs.toList.all fun f => readTy n f.type
    | _ => false

def oks (ok : TypeId → D → Prop) : List TypeId → List D → Prop
  | [], [] => True
  | t :: ts, d :: ds => ok t d ∧ oks ok ts ds
  | _, _ => False
def D.ok : Nat → TypeId → D → Prop
  | 0, _, _ => False
  | n + 1, t, d =>
    match P.underlying t with
    | some .bool => ∃ x, d = .b x
    | some (.int k) => ∃ m, d = .i k m ∧ k.min ≤ m ∧ m ≤ k.max
    | some .string => ∃ x, d = .s x
    | some (.slice e) => ∃ ds, d = .sl ds ∧ ds.length ≤ maxLen ∧ ∀ x ∈ ds, D.ok n e x
    | some (.struct fs) => ∃ ds, d = .ag ds ∧ oks (D.ok n) (fs.toList.map (·.type)) ds
    | _ => False
end

section
variable {P : Program} {w : World} {H : Type} {enc : TypeId × Value → H} {base : Nat} {sp : Nat → Bool} {held : Bool} {Q : PM} {M : MM}

/-- all the cells that there are -/
def allK (w : World) : KM := fun b o => w.cell? ⟨b, o, none⟩

theorem add_block (a : Addr) (n : Nat) : (a.add n).block = a.block := by unfold Addr.add; split <;> rfl
theorem add_off (a : Addr) (n : Nat) : (a.add n).off = a.off + n := by
  unfold Addr.add
  split
  · rename_i h; simp_all
  · rfl
theorem add_zero (a : Addr) : a.add 0 = a := by unfold Addr.add; simp
theorem cells_read {a : Addr} {n : Nat} {cs : List Value} (h : w.cells? base a n = some cs) : cs.length = n ∧ (0 < n → a.spot = none) ∧ ∀ (i : Nat) (v : Value), cs[i]? = some v → allK w a.block (a.off + i) = some v := by
  unfold World.cells? at h
  split at h
  · have key : ∀ (l : List Nat) (cs : List Value), (l.mapM fun i => w.cell? (a.add i)) = some cs → cs.length = l.length ∧ ∀ (i : Nat) (v : Value), cs[i]? = some v → ∃ j, l[i]? = some j ∧ w.cell? (a.add j) = some v := by
      intro l
      induction l with
      | nil => intro cs h; simp at h; subst h; exact ⟨rfl, fun i v hv => by simp at hv⟩
      | cons x l ih =>
        intro cs h
        simp only [List.mapM_cons, Option.pure_def, Option.bind_eq_bind, Option.bind_eq_some_iff, Option.some.injEq] at h
        obtain ⟨v, hv, r, hr, rfl⟩ := h
        obtain ⟨h1, h2⟩ := ih r hr
        refine ⟨by simp [h1], fun i u hu => ?_⟩
        cases i with
        | zero => simp only [List.getElem?_cons_zero, Option.some.injEq] at hu; subst hu; exact ⟨x, rfl, hv⟩
        | succ i => simp only [List.getElem?_cons_succ] at hu ⊢; exact h2 i u hu
    obtain ⟨h1, h2⟩ := key _ _ h
    have hcell : ∀ j v, w.cell? (a.add j) = some v → (a.add j).spot = none := by
      intro j v hv
      unfold World.cell? at hv
      split at hv
      · split at hv
        · cases hv
        · rename_i hs; simpa using hs
      · cases hv
    have hidx : ∀ {i : Nat} {j : Nat}, (List.range n)[i]? = some j → j = i := by
      intro i j hj
      rw [List.getElem?_range (by have := (List.getElem?_eq_some_iff.1 hj).1; simpa using this)] at hj
      simpa using hj.symm
    refine ⟨by simpa using h1, fun hn => ?_, fun i v hv => ?_⟩
    · have hl : 0 < cs.length := by simpa [h1] using hn
      obtain ⟨j, hj0, hj⟩ := h2 0 cs[0] (List.getElem?_eq_getElem hl)
      have := hidx hj0
      subst this
      have := hcell _ _ hj
      rwa [add_zero] at this
    · obtain ⟨j, hj, hv'⟩ := h2 i v hv
      have hij := hidx hj
      subst hij
      have hs := hcell _ _ hv'
      simp only [allK]
      rw [← hv', ← add_block a j, ← add_off a j]
      congr 1
      generalize a.add j = x at hs
      cases x
      simp only at hs
      rw [hs]
  · cases h

variable {K : KM}
theorem Vs_cells_split {cs1 cs2 : List CV} {vs : List Value} (n : Nat) (h1 : Vs K M Q false cs1 (vs.take n)) (h2 : Vs K M Q false cs2 (vs.drop n)) : Vs K M Q false (cs1 ++ cs2) vs := by
  have := Vs_append h1 h2
  rwa [List.take_append_drop] at this
theorem Vk_append : ∀ {cs cs' : List CV} {b o : Nat}, Vk K M Q b o cs → Vk K M Q b (o + cs.length) cs' → Vk K M Q b o (cs ++ cs')
  | [], cs', b, o, _, h => by simpa using h
  | c :: cs, cs', b, o, h, h' => by
    simp only [Vk, List.cons_append] at h ⊢
    refine ⟨h.1, Vk_append h.2 ?_⟩
    rw [show o + 1 + cs.length = o + (c :: cs).length from by simp; omega]
    exact h'
theorem Vk_of_Vs {cs : List CV} {vs : List Value} {b o : Nat} (h : Vs K M Q false cs vs) (hk : ∀ (j : Nat) (v : Value), vs[j]? = some v → K b (o + j) = some v) : Vk K M Q b o cs :=
  Vk_of fun i c hc => by
    obtain ⟨v, h1, h2⟩ := Vs_get h hc
    exact ⟨v, hk i v h1, h2⟩

theorem cellsL_append : ∀ (a b : List D), D.cellsL (a ++ b) = D.cellsL a ++ D.cellsL b
  | [], b => rfl
  | d :: a, b => by simp only [List.cons_append, D.cellsL, cellsL_append a b, List.append_assoc]

theorem rows_D {ok : D → Prop} {b o sz : Nat} : ∀ (len : Nat), (∀ i, i < len → ∃ d : D, ok d ∧ d.cells.length = sz ∧ d.cells.all leafV = true ∧ Vk K M Q b (o + i * sz) d.cells) →
    ∃ ds : List D, ds.length = len ∧ (∀ x ∈ ds, ok x) ∧ (D.cellsL ds).length = len * sz ∧ (D.cellsL ds).all leafV = true ∧ Vk K M Q b o (D.cellsL ds)
  | 0, _ => ⟨[], rfl, by simp, by simp [D.cellsL], by simp [D.cellsL], by simp [D.cellsL, Vk]⟩
  | n + 1, h => by
    obtain ⟨ds, h1, h2, h3, h4, h5⟩ := rows_D n fun i hi => h i (by omega)
    obtain ⟨d, e1, e2, e3, e4⟩ := h n (by omega)
    have hc : D.cellsL (ds ++ [d]) = D.cellsL ds ++ d.cells := by rw [cellsL_append]; simp [D.cellsL]
    refine ⟨ds ++ [d], by simp [h1], fun x hx => ?_, by rw [hc, List.length_append, h3, e2, Nat.succ_mul], by rw [hc, List.all_append, h4, e3]; rfl, ?_⟩
    · rcases List.mem_append.1 hx with hx | hx
      · exact h2 x hx
      · simp only [List.mem_singleton] at hx; subst hx; exact e1
    · rw [hc]
      refine Vk_append h5 ?_
      rw [h3]; exact e4

theorem fields_D {ok : TypeId → D → Prop} {cs : List Value} : ∀ (fs : List Field) (o m : Nat), offs P o fs = some m →
    (∀ f ∈ fs, ∃ d : D, ok f.type d ∧ ((cs.drop f.offset).take (P.cellsOf f.type)).length = P.cellsOf f.type ∧ d.cells.all leafV = true ∧ Vs K M Q false d.cells ((cs.drop f.offset).take (P.cellsOf f.type))) →
    o ≤ m ∧ ∃ ds : List D, oks ok (fs.map (·.type)) ds ∧ (D.cellsL ds).all leafV = true ∧ Vs K M Q false (D.cellsL ds) ((cs.drop o).take (m - o))
  | [], o, m, h, _ => by
    simp only [offs, Option.some.injEq] at h
    subst h
    exact ⟨Nat.le_refl _, [], trivial, by simp [D.cellsL], by simp [D.cellsL, Vs]⟩
  | f :: fs, o, m, h, hf => by
    simp only [offs] at h
    split at h
    · rename_i ho
      obtain ⟨hle, ds, h1, h2, h3⟩ := fields_D fs _ m h fun f hf' => hf f (List.mem_cons_of_mem _ hf')
      obtain ⟨d, e1, e2, e3, e4⟩ := hf f List.mem_cons_self
      rw [ho] at e2 e4
      refine ⟨by omega, d :: ds, ⟨e1, h1⟩, by simp only [D.cellsL, List.all_append, e3, h2, Bool.and_self], ?_⟩
      simp only [D.cellsL]
      refine Vs_cells_split (P.cellsOf f.type) ?_ ?_
      · rw [List.take_take, Nat.min_eq_left (by omega)]
        exact e4
      · rw [List.drop_take, List.drop_drop, show m - o - P.cellsOf f.type = m - (o + P.cellsOf f.type) from by omega]
        exact h3
    · cases h

theorem trod_D : ∀ (n : Nat) (t : TypeId) (cs : List Value) (x : DataW H × List MemPlace) (fuel : Nat), readTy P n t = true → DataW.trod enc P w base sp held fuel t cs = some x →
    ∃ d, D.ok P n t d ∧ cs.length = P.cellsOf t ∧ d.cells.all leafV = true ∧ Vs (allK w) M Q false d.cells cs := by
  intro n
  induction n with
  | zero => intro t cs x fuel h; simp [readTy] at h
  | succ n ih =>
    intro t cs x fuel hr h
    simp only [readTy] at hr
    split at hr
    · rename_i ht
      obtain ⟨b, rfl, _⟩ := DataW.trod_bool ht h
      refine ⟨.b b, by simp only [D.ok, ht]; exact ⟨b, rfl⟩, by simpa using (of_decide_eq_true hr).symm, by simp [D.cells, leafV], ?_⟩
      simp [D.cells, Vs, V]
    · rename_i k ht
      obtain ⟨m, rfl, _, hwf⟩ := DataW.trod_int ht h
      simp only [Lit.wf, Bool.and_eq_true, decide_eq_true_eq] at hwf
      refine ⟨.i k m, by simp only [D.ok, ht]; exact ⟨m, rfl, hwf.1, hwf.2⟩, by simpa using (of_decide_eq_true hr).symm, by simp [D.cells, leafV], ?_⟩
      simp [D.cells, Vs, V]
    · rename_i ht
      obtain ⟨s, rfl, _⟩ := DataW.trod_string ht h
      refine ⟨.s s, by simp only [D.ok, ht]; exact ⟨s, rfl⟩, by simpa using (of_decide_eq_true hr).symm, by simp [D.cells, leafV], ?_⟩
      simp [D.cells, Vs, V]
    · rename_i e ht
      simp only [Bool.and_eq_true, decide_eq_true_eq] at hr
      obtain ⟨⟨h1, hsz⟩, hre⟩ := hr
      rcases DataW.trod_slice ht h with ⟨rfl, _⟩ | ⟨a, len, cap, elems, rest, fu, rfl, rfl, _, _, hlc, hcm, hel, hread, _⟩
      · refine ⟨.sl [], by simp only [D.ok, ht]; exact ⟨[], rfl, by simp, by simp⟩, by simpa using h1.symm, by simp [D.cells, leafV], ?_⟩
        simp only [D.cells, Vs, V, D.cellsL]
        exact ⟨_, [], rfl, ⟨by simp, none, 0, rfl, by simp, .inl trivial⟩, rfl⟩
      · have hrow : ∀ i, i < len → ∃ d : D, D.ok P n e d ∧ d.cells.length = P.cellsOf e ∧ d.cells.all leafV = true ∧ Vk (allK w) M Q a.block (a.off + i * P.cellsOf e) d.cells := by
          intro i hi
          have hb := hread i hi
          rw [List.getElem?_eq_getElem (by omega), Option.bind_eq_some_iff] at hb
          obtain ⟨ci, hci, hti⟩ := hb
          obtain ⟨d, e1, e2, e3, e4⟩ := ih e ci _ _ hre hti
          obtain ⟨_, _, hk⟩ := cells_read hci
          rw [add_block, add_off] at hk
          exact ⟨d, e1, by rw [← e2]; exact (Vs_length e4).symm, e3, Vk_of_Vs e4 hk⟩
        have hspot : 0 < len → a.spot = none := by
          intro h0
          have hb := hread 0 h0
          rw [List.getElem?_eq_getElem (by omega), Option.bind_eq_some_iff] at hb
          obtain ⟨ci, hci, _⟩ := hb
          have := (cells_read hci).2.1 hsz
          rwa [Nat.zero_mul, add_zero] at this
        obtain ⟨ds, g1, g2, g3, g4, g5⟩ := rows_D (K := allK w) (M := M) (Q := Q) len hrow
        refine ⟨.sl ds, by simp only [D.ok, ht]; exact ⟨ds, rfl, by omega, g2⟩, by simpa using h1.symm, by simp [D.cells, leafV], ?_⟩
        simp only [D.cells, Vs, V]
        refine ⟨_, [], rfl, ⟨g4, some a, cap, by rw [g1], by omega, ?_⟩, rfl⟩
        rcases Nat.eq_zero_or_pos len with h0 | h0
        · left
          rw [h0] at g3
          exact List.eq_nil_of_length_eq_zero (by simpa using g3)
        · right
          obtain ⟨ab, ao, as⟩ := a
          have := hspot h0
          simp only at this
          subst this
          exact ⟨ab, ao, rfl, g5⟩
    · rename_i fs ht
      simp only [Bool.and_eq_true, decide_eq_true_eq] at hr
      obtain ⟨xs, fu, rfl, _, hlen, hxl, hread⟩ := DataW.trod_struct ht h
      obtain ⟨_, ds, g1, g2, g3⟩ := fields_D (K := allK w) (M := M) (Q := Q) (ok := D.ok P n) (cs := cs) fs.toList 0 _ hr.1 fun f hf => by
        obtain ⟨i, hi⟩ := List.getElem?_of_mem hf
        rw [Array.getElem?_toList] at hi
        have hb := hread i f hi
        rw [List.getElem?_eq_getElem (by rw [hxl]; exact (Array.getElem?_eq_some_iff.1 hi).1)] at hb
        obtain ⟨d, e1, e2, e3, e4⟩ := ih f.type _ _ _ (List.all_eq_true.1 hr.2 f hf) hb
        exact ⟨d, e1, e2, e3, e4⟩
      refine ⟨.ag ds, by simp only [D.ok, ht]; exact ⟨ds, rfl, g1⟩, hlen, by simpa [D.cells] using g2, ?_⟩
      simp only [D.cells]
      rwa [List.drop_zero, Nat.sub_zero, List.take_of_length_le (by omega)] at g3
    · cases hr
end
end Go.Cm
