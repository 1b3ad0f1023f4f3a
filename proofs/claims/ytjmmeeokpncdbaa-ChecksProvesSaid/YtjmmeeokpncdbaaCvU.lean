/-
  The C machine, twenty-first part: regions that draw their order: what the checks say.
-/
import Derived.Test.YtjmmeeokpncdbaaCvT
set_option linter.unusedSimpArgs false
set_option linter.unusedVariables false
namespace Go.Cm

mutual
theorem beq_eq : ∀ (a b : CV), CV.beq a b = true → a = b
  | .dead, b, h => by cases b <;> simp_all [CV.beq]
  | .bool x, b, h => by cases b <;> simp_all [CV.beq]
  | .int k x, b, h => by cases b <;> simp_all [CV.beq]
  | .str s, b, h => by cases b <;> simp_all [CV.beq]
  | .agg xs, b, h => by
    cases b <;> simp only [CV.beq, Bool.false_eq_true] at h
    rw [beqs_eq _ _ h]
  | .nil, b, h => by cases b <;> simp_all [CV.beq]
  | .imm n xs, b, h => by
    cases b <;> simp only [CV.beq, Bool.false_eq_true, Bool.and_eq_true, decide_eq_true_eq] at h
    rw [beqs_eq _ _ h.2, h.1]
  | .own n s xs v, b, h => by
    cases b <;> simp only [CV.beq, Bool.false_eq_true, Bool.and_eq_true, decide_eq_true_eq] at h
    rw [beqs_eq _ _ h.2, h.1.1.1, h.1.1.2, h.1.2]
  | .ref k g o l, b, h => by cases b <;> simp_all [CV.beq]
  | .pnil, b, h => by cases b <;> simp_all [CV.beq]
  | .ptr k g o, b, h => by cases b <;> simp_all [CV.beq]
  | .rptr xs, b, h => by
    cases b <;> simp only [CV.beq, Bool.false_eq_true] at h
    rw [beqs_eq _ _ h]
  | .mnil, b, h => by cases b <;> simp_all [CV.beq]
  | .map k g, b, h => by cases b <;> simp_all [CV.beq]
  | .func f x y, b, h => by
    cases b <;> simp only [CV.beq, Bool.false_eq_true, Bool.and_eq_true, decide_eq_true_eq] at h
    rw [h.1.1, beqs_eq _ _ h.1.2, beqs_eq _ _ h.2]
  | .nilf, b, h => by cases b <;> simp_all [CV.beq]
  | .inil, b, h => by cases b <;> simp_all [CV.beq]
  | .iface t v, b, h => by
    cases b <;> simp only [CV.beq, Bool.false_eq_true, Bool.and_eq_true, decide_eq_true_eq] at h
    rw [h.1, beq_eq _ _ h.2]
  | .tuple xs, b, h => by
    cases b <;> simp only [CV.beq, Bool.false_eq_true] at h
    rw [beqs_eq _ _ h]
theorem beqs_eq : ∀ (a b : List CV), beqs a b = true → a = b
  | [], b, h => by cases b <;> simp_all [beqs]
  | x :: a, b, h => by
    cases b with
    | nil => simp [beqs] at h
    | cons y b =>
      simp only [beqs, Bool.and_eq_true] at h
      rw [beq_eq _ _ h.1, beqs_eq _ _ h.2]
end

/-! who goes ahead -/
theorem amasks_length : ∀ (l : List Oper) (acc : List Nat), (amasks l acc).length = acc.length + l.length
  | [], acc => by simp [amasks]
  | o :: r, acc => by rw [amasks, amasks_length]; simp; omega
theorem amasks_prefix : ∀ (l : List Oper) (acc : List Nat) (i : Nat), i < acc.length → (amasks l acc)[i]? = acc[i]?
  | [], acc, i, _ => by simp [amasks]
  | o :: r, acc, i, h => by
    rw [amasks, amasks_prefix r _ i (by simp; omega), List.getElem?_append_left h]
theorem amasks_take (r : List Oper) (acc : List Nat) : (amasks r acc).take acc.length = acc := by
  apply List.ext_getElem?
  intro i
  rw [List.getElem?_take]
  split
  · rename_i hi
    rw [amasks_prefix r _ i hi]
  · rw [List.getElem?_eq_none (by omega)]
theorem amasks_get (l : List Oper) : ∀ (acc : List Nat) (j : Nat) (o : Oper), l[j]? = some o → (amasks l acc)[acc.length + j]? = some (amask ((amasks l acc).take (acc.length + j)) o) := by
  induction l with
  | nil => intro acc j o h; simp at h
  | cons o' r ih =>
    intro acc j o h
    cases j with
    | zero =>
      simp only [List.getElem?_cons_zero, Option.some.injEq] at h
      subst h
      rw [amasks, amasks_prefix r _ _ (by simp), Nat.add_zero]
      have h2 := amasks_take r (acc ++ [amask acc o'])
      have h3 : (amasks r (acc ++ [amask acc o'])).take acc.length = acc := by
        have := congrArg (List.take acc.length) h2
        rw [List.take_take] at this
        simpa using this
      rw [h3]
      simp
    | succ j =>
      simp only [List.getElem?_cons_succ] at h
      have := ih (acc ++ [amask acc o']) j o h
      rw [amasks]
      rw [List.length_append, List.length_singleton] at this
      rw [show acc.length + (j + 1) = acc.length + 1 + j from by omega]
      exact this

theorem foldl_mask {P : Edge → Bool} {g : Edge → Nat} {i : Nat} : ∀ (es : List Edge) (s : Nat), (es.foldl (fun s e => if P e then s ||| g e else s) s).testBit i = true →
    s.testBit i = true ∨ ∃ e ∈ es, P e = true ∧ (g e).testBit i = true
  | [], s, h => .inl h
  | e :: es, s, h => by
    simp only [List.foldl_cons] at h
    rcases foldl_mask es _ h with h | ⟨e', he', h1, h2⟩
    · split at h
      · rename_i hp
        rw [Nat.testBit_or, Bool.or_eq_true] at h
        rcases h with h | h
        · exact .inl h
        · exact .inr ⟨e, List.mem_cons_self, hp, h⟩
      · exact .inl h
    · exact .inr ⟨e', List.mem_cons_of_mem _ he', h1, h2⟩

theorem mask_spec {l : List Oper} {j : Nat} {o : Oper} (ho : l[j]? = some o) {i : Nat} (h : ((amasks l []).getD j 0).testBit i = true) (hb : ∀ e ∈ o.after.toList, Region.binds .any e = true → e.on < j) :
    ∃ e ∈ o.after.toList, Region.binds .any e = true ∧ (i = e.on ∨ ((amasks l []).getD e.on 0).testBit i = true) := by
  have hg := amasks_get l [] j o ho
  simp only [List.length_nil, Nat.zero_add] at hg
  rw [List.getD_eq_getElem?_getD, hg, Option.getD_some, amask] at h
  rcases foldl_mask _ _ h with h | ⟨e, he, h1, h2⟩
  · simp at h
  · refine ⟨e, he, h1, ?_⟩
    rw [Nat.testBit_or, Bool.or_eq_true] at h2
    rcases h2 with h2 | h2
    · left
      rw [Nat.testBit_two_pow] at h2
      simpa [eq_comm] using h2
    · right
      have hlt := hb e he h1
      rw [List.getD_eq_getElem?_getD, List.getElem?_take, if_pos hlt] at h2
      rw [List.getD_eq_getElem?_getD]; exact h2

section
variable {P : Program} {ops : List Oper} {masks : List Nat}

theorem rowOK_spec {j : Nat} {y : Oper} {my : Nat} : ∀ (l : List Oper) (i0 : Nat), rowOK P ops j y my i0 l = true → ∀ (k : Nat) (x : Oper), l[k]? = some x → i0 + k < j → pairOK P ops (i0 + k) j x y my = true
  | [], _, _, k, x, hx, _ => by simp at hx
  | x0 :: r, i0, h, k, x, hx, hk => by
    simp only [rowOK] at h
    rw [if_pos (by omega)] at h
    simp only [Bool.and_eq_true] at h
    cases k with
    | zero => simp only [List.getElem?_cons_zero, Option.some.injEq] at hx; subst hx; exact h.1
    | succ k =>
      simp only [List.getElem?_cons_succ] at hx
      have := rowOK_spec r (i0 + 1) h.2 k x hx (by omega)
      rwa [show i0 + 1 + k = i0 + (k + 1) from by omega] at this
theorem regOK_spec : ∀ (l : List Oper) (j0 : Nat), regOK P ops masks j0 l = true → ∀ (k : Nat) (y : Oper), l[k]? = some y →
    rowOK P ops (j0 + k) y (masks.getD (j0 + k) 0) 0 ops = true ∧ ∀ e ∈ y.after.toList, Region.binds .any e = true → e.on < j0 + k
  | [], _, _, k, y, hy => by simp at hy
  | y0 :: r, j0, h, k, y, hy => by
    simp only [regOK, Bool.and_eq_true] at h
    cases k with
    | zero =>
      simp only [List.getElem?_cons_zero, Option.some.injEq] at hy; subst hy
      refine ⟨h.1.1, fun e he hb => ?_⟩
      have := List.all_eq_true.1 h.1.2 e he
      simpa [hb] using this
    | succ k =>
      simp only [List.getElem?_cons_succ] at hy
      have := regOK_spec r (j0 + 1) h.2 k y hy
      rwa [show j0 + 1 + k = j0 + (k + 1) from by omega] at this

/-- what a checked region is -/
structure RegOK (P : Program) (ops : List Oper) (masks : List Nat) : Prop where
  back : ∀ (j : Nat) (y : Oper), ops[j]? = some y → ∀ e ∈ y.after.toList, Region.binds .any e = true → e.on < j
  dst : ∀ (i j : Nat) (x y : Oper) d, ops[i]? = some x → ops[j]? = some y → x.dst = some d → y.dst = some d → i = j
  reads : ∀ (i j : Nat) (x y : Oper) d, i < j → ops[i]? = some x → ops[j]? = some y → x.dst = some d → d ∈ looks ops y → (masks.getD j 0).testBit i = true
  writes : ∀ (i j : Nat) (x y : Oper) d, i < j → ops[i]? = some x → ops[j]? = some y → y.dst = some d → d ∈ looks ops x → (masks.getD j 0).testBit i = true
  effs : ∀ (i j : Nat) (x y : Oper), i < j → ops[i]? = some x → ops[j]? = some y → effOp P x = true → effOp P y = true → (masks.getD j 0).testBit i = true

theorem RegOK.of (h : regOK P ops masks 0 ops = true) : RegOK P ops masks := by
  have key : ∀ i j x y, i < j → ops[i]? = some x → ops[j]? = some y → pairOK P ops i j x y (masks.getD j 0) = true := by
    intro i j x y hij hx hy
    have h1 := (regOK_spec ops 0 h j y hy).1
    rw [Nat.zero_add] at h1
    have := rowOK_spec ops 0 h1 i x hx (by omega)
    rwa [Nat.zero_add] at this
  refine ⟨fun j y hy e he hb => ?_, fun i j x y d hx hy hdx hdy => ?_, fun i j x y d hij hx hy hd hl => ?_, fun i j x y d hij hx hy hd hl => ?_, fun i j x y hij hx hy h1 h2 => ?_⟩
  · have := (regOK_spec ops 0 h j y hy).2 e he hb
    omega
  · rcases Nat.lt_trichotomy i j with hij | hij | hij
    · have := key i j x y hij hx hy
      simp [pairOK, hdx, hdy] at this
    · exact hij
    · have := key j i y x hij hy hx
      simp [pairOK, hdx, hdy] at this
  · have := key i j x y hij hx hy
    simp only [pairOK, hd, Bool.and_eq_true, Bool.or_eq_true] at this
    rcases this.1.1.1.2 with h | h
    · simp [hl] at h
    · exact h
  · have := key i j x y hij hx hy
    simp only [pairOK, hd, Bool.and_eq_true, Bool.or_eq_true] at this
    rcases this.1.1.2 with h | h
    · simp [hl] at h
    · exact h
  · have := key i j x y hij hx hy
    simp only [pairOK, h1, h2, Bool.and_eq_true, Bool.or_eq_true] at this
    rcases this.1.2 with h | h
    · simp at h
    · exact h
end
end Go.Cm
