/-
  The C machine, twentieth part: regions in the text's order; code.
-/
import Derived.Test.YtjmmeeokpncdbaaCvS
set_option linter.unusedSimpArgs false
set_option linter.unusedVariables false
namespace Go.Cm

section
variable {K K' : KM} {Q Q' : PM} {P : Program} {w w' : World} {m m' : Mem} {M M' : MM}

theorem ofC_V {loc : Bool} (v : Value) : V K M Q loc (ofC v) v := by
  unfold ofC
  split
  · rename_i cs h
    split
    · rename_i hall
      rw [← h]
      exact V_ofV v fun cs' h' => by rw [h] at h'; simp only [CV.agg.injEq] at h'; rw [← h']; exact hall
    · simp [V]
  · rename_i hne
    exact V_ofV v fun cs' h' => absurd h' (by intro he; exact hne _ he)

/-- slots -/
def Slots (K : KM) (m : Mem) (Q : PM) (sl : List CV) (a : Act) : Prop := ∀ t, Vt K m Q (sget sl t) (a.tmps.getD t undef)
theorem ev_V {sl : List CV} {a : Act} (h : Slots K m Q sl a) (x : Operand) : Vt K m Q (ev sl x) (a.eval x) := by
  cases x with
  | tmp t => exact h t
  | const v => exact ofC_V v
  | global g => simp [ev, Vt, V]
  | func f => simp [ev, Vt, V, Act.eval, Vs]
theorem Slots.put {sl : List CV} {a : Act} (h : Slots K m Q sl a) {nt : Nat} (hs : a.tmps.size = nt) {d : Option Tmp} (hd : dok nt d = true) {c : CV} {v : Value} (hv : Vt K m Q c v) :
    Slots K m Q (sput sl d c) (a.put d v) := by
  intro t
  cases d with
  | none => exact h t
  | some d =>
    simp only [dok, decide_eq_true_eq] at hd
    simp only [sput, Act.put, sget_sset]
    by_cases he : d = t
    · subst he
      have : d < a.tmps.size := by rw [hs]; exact hd
      simp [Array.getD, this, hv]
    · simp only [he, if_false]
      have := h t
      simpa [Array.getD_eq_getD_getElem?, Array.getElem?_setIfInBounds, he] using this
theorem Slots.mono {sl : List CV} {a : Act} (h : Slots K m Q sl a) (hT : Trans K m Q w K' m' Q' w') : Slots K' m' Q' sl a := fun t => hT.V (h t)

variable {nt : Nat} {K0 : KM} {m0 : Mem} {Q0 : PM} {w0 : World}
/-- where the walk stands, and how it came there -/
def At (nt : Nat) (K0 : KM) (m0 : Mem) (Q0 : PM) (w0 : World) (s : CS) (a : Act) (w : World) : Prop :=
  ∃ K Q, Trans K0 m0 Q0 w0 K s.m Q w ∧ Slots K s.m Q s.sl a ∧ a.tmps.size = nt ∧ a.defers = []

theorem keepOnly_get (ks : Option (List Tmp)) (sl : List CV) (t : Tmp) : sget (keepOnly ks sl) t = .dead ∨ sget (keepOnly ks sl) t = sget sl t := by
  cases ks with
  | none => exact .inr rfl
  | some ks =>
    simp only [keepOnly]
    have key : ∀ (ks : List Tmp) (acc : List CV), (sget acc t = .dead ∨ sget acc t = sget sl t) → (sget (ks.foldl (fun acc t => sset acc t (sget sl t)) acc) t = .dead ∨ sget (ks.foldl (fun acc t => sset acc t (sget sl t)) acc) t = sget sl t) := by
      intro ks
      induction ks with
      | nil => intro acc h; exact h
      | cons k ks ih =>
        intro acc h
        refine ih _ ?_
        rw [sget_sset]
        by_cases hk : k = t
        · right; rw [if_pos hk, hk]
        · rw [if_neg hk]; exact h
    exact key ks [] (.inl (by cases t <;> rfl))
theorem At.keep {s : CS} {a : Act} (ks : Option (List Tmp)) (h : At nt K0 m0 Q0 w0 s a w) : At nt K0 m0 Q0 w0 { sl := keepOnly ks s.sl, m := s.m } a w := by
  obtain ⟨K, Q, hT, hs, hr⟩ := h
  refine ⟨K, Q, hT, fun t => ?_, hr⟩
  rcases keepOnly_get ks s.sl t with h | h
  · simp only [h]; simp [Vt, V]
  · simp only [h]; exact hs t
theorem put_size (a : Act) (d : Option Tmp) (v : Value) : (a.put d v).tmps.size = a.tmps.size := by cases d <;> simp [Act.put]
theorem put_defers (a : Act) (d : Option Tmp) (v : Value) : (a.put d v).defers = a.defers := by cases d <;> simp [Act.put]

theorem guard_wanted' {sl : List CV} {a : Act} {ops : Array Oper} {o : Oper} (h : ∀ g want d, o.guard = some (g, want) → (ops[g]?).bind (·.dst) = some d → Vt K m Q (sget sl d) (a.tmps.getD d undef)) {b : Bool} (hg : guardC ops.toList sl o = some b) :
    Region.wanted o (yielded ops a.tmps) = b := by
  unfold guardC at hg
  unfold Region.wanted
  split at hg
  · rename_i hn; rw [hn]; simpa using hg
  · rename_i g want hn
    rw [hn]
    simp only [yielded]
    split at hg
    · rename_i d hd
      rw [Array.getElem?_toList] at hd
      rw [hd]
      have hs := h g want d hn hd
      simp only [Option.bind_some]
      split at hg
      · rename_i x hx
        rw [hx] at hs
        simp only [Vt, V] at hs
        simp only [Option.some.injEq] at hg
        rw [Array.getD_eq_getD_getElem?] at hs
        cases hq : a.tmps[d]? with
        | none => rw [hq] at hs; simp [undef] at hs
        | some u =>
          rw [hq] at hs
          simp only [Option.getD_some] at hs
          subst hs
          simp [← hg]
      · rename_i hx
        rw [hx] at hs
        simp only [Vt, V, Vs] at hs
        obtain ⟨vs, hs, _⟩ := hs
        simp only [Option.some.injEq] at hg
        rw [Array.getD_eq_getD_getElem?] at hs
        cases hq : a.tmps[d]? with
        | none => simp [← hg]
        | some u =>
          rw [hq] at hs
          simp only [Option.getD_some] at hs
          subst hs
          simp [← hg]
      · simp at hg
    · simp at hg

theorem guard_wanted {sl : List CV} {a : Act} (h : Slots K m Q sl a) {ops : Array Oper} {o : Oper} {b : Bool} (hg : guardC ops.toList sl o = some b) :
    Region.wanted o (yielded ops a.tmps) = b := guard_wanted' (fun _ _ d _ _ => h d) hg

theorem undef_V : Vt K m Q (.tuple []) undef := by simp [Vt, V, Vs, undef]

variable {F : Oracle} {A : Ann} {fid : FuncId} {ops : Array Oper} {Qx : Exit → Act → World → Prop}

theorem cop_goes (hS : Sim P F) (hN : plainNames P = true) {o : Oper} {s s' : CS} {a : Act} (hA : At nt K0 m0 Q0 w0 s a w) (h : cop P A F fid nt ops.toList o s = some s')
    {next : Act → World → Prop} (hn : ∀ a' w', At nt K0 m0 Q0 w0 s' a' w' → next a' w') :
    if Region.wanted o (yielded ops a.tmps) then o.wp P a w next Qx ∨ (o.asks P a w ∧ LetsOut Qx) else next (a.put o.dst undef) w := by
  obtain ⟨K, Q, hT, hs, hsz, hd⟩ := hA
  unfold cop at h
  split at h
  · simp at h
  · rename_i hdk
    have hdk : dok nt o.dst = true := by simpa using hdk
    split at h
    · rename_i hg
      rw [guard_wanted hs hg]
      simp only [if_true]
      left
      simp only [Option.map_eq_some_iff] at h
      obtain ⟨⟨c, m1⟩, hc, rfl⟩ := h
      refine op_goes hS hN hT.mr (ev_V hs) hc next Qx fun r w' K' Q' hT' hv => ?_
      refine hn _ _ ⟨K', Q', hT.trans hT', (hs.mono hT').put hsz hdk hv, by rw [put_size]; exact hsz, by rw [put_defers]; exact hd⟩
    · rename_i hg
      rw [guard_wanted hs hg]
      simp only [Bool.false_eq_true, if_false]
      simp only [Option.some.injEq] at h
      subst h
      exact hn _ _ ⟨K, Q, hT, hs.put hsz hdk undef_V, by rw [put_size]; exact hsz, by rw [put_defers]; exact hd⟩
    · simp at h

theorem cops_goes (hS : Sim P F) (hN : plainNames P = true) {s' : CS} (hQ : ∀ a w, At nt K0 m0 Q0 w0 s' a w → Qx .normal a w) : ∀ (l : List Oper) (i : Nat) (s : CS) (a : Act) (w : World), ops.toList.drop i = l → At nt K0 m0 Q0 w0 s a w → cops P A F fid nt ops.toList l s = some s' →
    wpOps P ops Qx ((List.range ops.size).drop i) a w := by
  intro l
  induction l with
  | nil =>
    intro i s a w hl hA h
    have hle : ops.size ≤ i := by have := congrArg List.length hl; simp at this; omega
    have : (List.range ops.size).drop i = [] := List.drop_eq_nil_of_le (by simpa using hle)
    rw [this]
    simp only [cops, Option.some.injEq] at h
    subst h
    exact hQ _ _ hA
  | cons o r ih =>
    intro i s a w hl hA h
    have hlt : i < ops.size := by
      rcases Nat.lt_or_ge i ops.size with h | h
      · exact h
      · rw [List.drop_eq_nil_of_le (by simpa using h)] at hl; cases hl
    have hr : (List.range ops.size).drop i = i :: (List.range ops.size).drop (i + 1) := by
      rw [List.drop_eq_getElem_cons (by simpa using hlt)]; simp
    have hl' := hl
    rw [List.drop_eq_getElem_cons (by simpa using hlt)] at hl'
    simp only [List.cons.injEq, Array.getElem_toList] at hl'
    have ho : ops[i]? = some o := by rw [Array.getElem?_eq_getElem hlt, hl'.1]
    rw [hr, wpOps_cons, wpOp, ho]
    simp only [cops, Option.bind_eq_some_iff] at h
    obtain ⟨s1, h1, h2⟩ := h
    exact cop_goes hS hN hA h1 fun a' w' hA' => ih (i + 1) s1 a' w' hl'.2 hA' h2
end
end Go.Cm
