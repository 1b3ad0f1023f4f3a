/-
  The C machine told by its limit: slots as pairs, runs without a number of rounds, what a function answers with any number of rounds.
-/
import Derived.Test.YthjkmonenenlmaaCwI
set_option linter.unusedSimpArgs false
set_option linter.unusedVariables false
namespace Go.Cm

/-- slots as pairs -/
def tget : List (Nat × CV) → Nat → CV
  | [], _ => .dead
  | (i, v) :: r, t => bif Nat.beq i t then v else tget r t
structure TS where
  sl : List (Nat × CV)
  m : Mem
def tev (sl : List (Nat × CV)) : Operand → CV
  | .tmp t => tget sl t
  | .const v => ofC v
  | .func f => .func (.func f) [] []
  | .global _ => .dead
def tput (sl : List (Nat × CV)) (d : Option Tmp) (v : CV) : List (Nat × CV) :=
  match d with
  | some d => (d, v) :: sl
  | none => sl
def tkeep : Option (List Tmp) → List (Nat × CV) → List (Nat × CV)
  | none, sl => sl
  | some ks, sl => ks.map fun t => (t, tget sl t)
def tinit : Nat → List CV → List (Nat × CV)
  | _, [] => []
  | i, v :: r => (i, v) :: tinit (i + 1) r
def tguard (g : Option (Tmp × Bool)) (sl : List (Nat × CV)) (X : Option (CV × Mem)) (m : Mem) : Option (CV × Mem) :=
  match g with
  | none => X
  | some (t, w) => gdO (tget sl t) w X (.tuple [], m)
def chk (b : Bool) (X : Option (CV × Mem)) : Option (CV × Mem) :=
  match b with
  | false => X
  | true => X.bind fun x => if noRef x.1 = true then some x else none

section
variable (P : Program) (A : Ann) (F : Oracle) (fid : FuncId)
def top (dr : Bool) (o : SO) (s : TS) : Option (CV × Mem) :=
  tguard o.g s.sl (chk (dr && calmOp A o.op) (cval P A F fid (tev s.sl) o.up s.m)) s.m
def tops (dr : Bool) : List SO → TS → Option TS
  | [], s => some s
  | o :: r, s => (top P A F fid dr o s).bind fun x => tops dr r ⟨tput s.sl o.d x.1, x.2⟩
def texec (n : Nat) : SC → TS → Option (CE × TS)
  | .nop, s => some (.normal, s)
  | .reg dr keep ops, s => (tops P A F fid dr ops s).map fun s' => (.normal, ⟨tkeep keep s'.sl, s'.m⟩)
  | .seq a b, s => (texec n a s).bind fun r => match r.1 with
    | .normal => texec n b r.2
    | e => some (e, r.2)
  | .cond c x y, s => match tev s.sl c with
    | .bool true => texec n x s
    | .bool false => texec n y s
    | _ => none
  | .block id c, s => (texec n c s).map fun r => match r.1 with
    | .exit i => if i = id then (.normal, r.2) else r
    | _ => r
  | .loop c, s => titer n (texec n c) s
  | .exit id, s => some (.exit id, s)
  | .ret, s => some (.ret, s)
where titer : Nat → (TS → Option (CE × TS)) → TS → Option (CE × TS)
  | 0, _, _ => none
  | n + 1, f, s => (f s).bind fun r => match r.1 with
    | .normal => titer n f r.2
    | e => some (e, r.2)
end

def tresC (P : Program) (m : Mem) (sl : List (Nat × CV)) : ResultVar → Option CV
  | .tmp t => some (tget sl t)
  | .cell a t => cload P m t (tget sl a)
def tresAll (P : Program) (sl : List (Nat × CV)) (m : Mem) : List ResultVar → Option (List CV)
  | [] => some []
  | r :: rs => (tresC P m sl r).bind fun v => (tresAll P sl m rs).map fun vs => v :: vs
def tend (P : Program) (rs : List ResultVar) (s : TS) : Option (CV × List HO) :=
  (tresAll P s.sl s.m rs).bind fun vs => (mapMem retv vs s.m).map fun x => (tup x.1, x.2.H)

def tcall (P : Program) (A : Ann) (E : Oracle) : Nat → Oracle
  | 0, _, _, _ => none
  | n + 1, f, args, H =>
    match E f args H with
    | some r => some r
    | none =>
      match P.funcs[f]? with
      | none => none
      | some fn =>
        match fn.body.bind (strip P A f fn.ntmps) with
        | none => none
        | some c =>
          if args.length ≤ fn.ntmps then
            (texec P A (tcall P A E n) f n c { sl := tinit 0 args, m := { L := [], H := H } }).bind fun r =>
              match r.1 with
              | .exit _ => none
              | _ => tend P fn.results.toList r.2
          else none

/-! soundness -/
def Rl (L : List CV) (T : List (Nat × CV)) : Prop := ∀ t, sget L t = tget T t

section
variable {P : Program} {A : Ann} {F F' : Oracle} {fid : FuncId} {dr : Bool}

theorem tget_cons {i t : Nat} {v : CV} {r : List (Nat × CV)} : tget ((i, v) :: r) t = if i = t then v else tget r t := by
  simp only [tget, cond_eq_ite, Nat.beq_eq]
theorem tget_nil {t : Nat} : tget [] t = .dead := rfl
theorem Rl.ev {L : List CV} {T : List (Nat × CV)} (h : Rl L T) : ev L = tev T := by
  funext x
  cases x with
  | tmp t => exact h t
  | _ => rfl
theorem Rl.put {L : List CV} {T : List (Nat × CV)} (h : Rl L T) (d : Option Tmp) (v : CV) : Rl (sput L d v) (tput T d v) := by
  cases d with
  | none => exact h
  | some d =>
    intro t
    simp only [sput, tput, sget_sset, tget_cons]
    split
    · rfl
    · exact h t
theorem Rl.keep {L : List CV} {T : List (Nat × CV)} (h : Rl L T) (ks : Option (List Tmp)) : Rl (keepOnly ks L) (tkeep ks T) := by
  cases ks with
  | none => exact h
  | some ks =>
    intro t
    simp only [keepOnly, tkeep]
    have k1 : ∀ (ks : List Tmp) (acc : List CV), sget (ks.foldl (fun acc t => sset acc t (sget L t)) acc) t = if t ∈ ks then sget L t else sget acc t := by
      intro ks
      induction ks with
      | nil => intro acc; simp
      | cons k ks ih =>
        intro acc
        simp only [List.foldl_cons, ih, sget_sset, List.mem_cons]
        by_cases h1 : t ∈ ks
        · simp [h1]
        · by_cases h2 : k = t
          · simp [h2]
          · have : ¬ t = k := fun e => h2 e.symm
            simp [h1, h2, this]
    have k2 : ∀ (ks : List Tmp), tget (ks.map fun t => (t, tget T t)) t = if t ∈ ks then tget T t else .dead := by
      intro ks
      induction ks with
      | nil => simp [tget]
      | cons k ks ih =>
        simp only [List.map_cons, tget_cons, ih, List.mem_cons]
        by_cases h2 : k = t
        · simp [h2]
        · have : ¬ t = k := fun e => h2 e.symm
          simp [h2, this]
    rw [k1, k2, h t]
    have : sget [] t = .dead := sget_nil t
    rw [this]
theorem Rl.init : ∀ (args : List CV) (i : Nat) (L0 : List CV), L0.length = i → (∀ t, t < i → True) → ∀ t, i ≤ t → sget (L0 ++ args) t = tget (tinit i args) t
  | [], i, L0, h, _, t, ht => by
    simp only [tinit, tget, List.append_nil]
    subst h
    have key : ∀ (L0 : List CV) (t : Nat), L0.length ≤ t → sget L0 t = .dead := by
      intro L0
      induction L0 with
      | nil => intro t _; exact sget_nil t
      | cons x l ih =>
        intro t ht
        cases t with
        | zero => simp at ht
        | succ t => exact ih t (by simpa using ht)
    exact key L0 t ht
  | v :: r, i, L0, h, _, t, ht => by
    simp only [tinit, tget_cons]
    split
    · rename_i he
      subst he
      subst h
      have key : ∀ (L0 : List CV), sget (L0 ++ v :: r) L0.length = v := by
        intro L0
        induction L0 with
        | nil => rfl
        | cons x l ih => exact ih
      exact key L0
    · have := Rl.init r (i + 1) (L0 ++ [v]) (by simp [h]) (fun _ _ => trivial) t (by omega)
      simpa using this

theorem gdO_some {α : Type} {c : CV} {w : Bool} {X : Option α} {e y : α} (h : gdO c w X e = some y) : (c = .bool w ∧ X = some y) ∨ ((c = .bool (!w) ∨ c = .tuple []) ∧ y = e) := by
  unfold gdO at h
  split at h
  · rename_i b
    split at h
    · rename_i hb; subst hb; exact .inl ⟨rfl, h⟩
    · rename_i hb
      simp only [Option.some.injEq] at h
      refine .inr ⟨.inl ?_, h.symm⟩
      cases b <;> cases w <;> simp_all
  · simp only [Option.some.injEq] at h
    exact .inr ⟨.inr rfl, h.symm⟩
  · cases h

theorem top_sop {o : SO} {L : List CV} {T : List (Nat × CV)} {m : Mem} {x : CV × Mem} (hR : Rl L T) (h : top P A F fid dr o ⟨T, m⟩ = some x) :
    sop P A F fid dr o ⟨L, m⟩ = some ⟨sput L o.d x.1, x.2⟩ := by
  have run : ∀ x, chk (dr && calmOp A o.op) (cval P A F fid (tev T) o.up m) = some x →
      ((cval P A F fid (tev T) o.up m).bind fun x => if (dr && calmOp A o.op && !(noRef x.1)) = true then none else some (⟨sput L o.d x.1, x.2⟩ : CS)) = some ⟨sput L o.d x.1, x.2⟩ := by
    intro x h
    cases hb : (dr && calmOp A o.op) with
    | false =>
      rw [hb] at h
      simp only [chk] at h
      rw [h]; simp
    | true =>
      rw [hb] at h
      simp only [chk, Option.bind_eq_some_iff] at h
      obtain ⟨y, h1, h2⟩ := h
      split at h2
      · rename_i hn
        simp only [Option.some.injEq] at h2
        subst h2
        rw [h1]; simp [hn]
      · cases h2
  unfold top tguard at h
  unfold sop
  simp only at h ⊢
  rw [hR.ev]
  split at h
  · rename_i hg
    simp only [hg, sguard]
    exact run x h
  · rename_i t w hg
    simp only [hg, sguard]
    rw [hR t]
    rcases gdO_some h with ⟨h1, h2⟩ | ⟨h1 | h1, rfl⟩
    · rw [h1]; simp only [beq_self_eq_true]; exact run x h2
    · rw [h1]
      have : ((!w) == w) = false := by cases w <;> rfl
      simp only [this]
    · rw [h1]

theorem tops_sops : ∀ (l : List SO) {L : List CV} {T : List (Nat × CV)} {m : Mem} {s' : TS}, Rl L T → tops P A F fid dr l ⟨T, m⟩ = some s' →
    ∃ L', sops P A F fid dr l ⟨L, m⟩ = some ⟨L', s'.m⟩ ∧ Rl L' s'.sl
  | [], L, T, m, s', hR, h => by
    simp only [tops, Option.some.injEq] at h
    subst h
    exact ⟨L, rfl, hR⟩
  | o :: r, L, T, m, s', hR, h => by
    simp only [tops, Option.bind_eq_some_iff] at h
    obtain ⟨x, h1, h2⟩ := h
    obtain ⟨L', h3, h4⟩ := tops_sops r (hR.put o.d x.1) h2
    exact ⟨L', by simp only [sops, top_sop hR h1, Option.bind_some]; exact h3, h4⟩

theorem titer_iter {f : TS → Option (CE × TS)} {g : CS → Option (CE × CS)} (hfg : ∀ L T m e s', Rl L T → f ⟨T, m⟩ = some (e, s') → ∃ L', g ⟨L, m⟩ = some (e, ⟨L', s'.m⟩) ∧ Rl L' s'.sl) :
    ∀ (n : Nat) (L : List CV) (T : List (Nat × CV)) (m : Mem) (e : CE) (s' : TS), Rl L T → texec.titer n f ⟨T, m⟩ = some (e, s') → ∃ L', iter n g ⟨L, m⟩ = some (e, ⟨L', s'.m⟩) ∧ Rl L' s'.sl := by
  intro n
  induction n with
  | zero => intro L T m e s' _ h; simp [texec.titer] at h
  | succ n ih =>
    intro L T m e s' hR h
    simp only [texec.titer, Option.bind_eq_some_iff] at h
    obtain ⟨⟨e1, s1⟩, h1, h2⟩ := h
    obtain ⟨L1, h3, h4⟩ := hfg _ _ _ _ _ hR h1
    cases e1
    case normal =>
      obtain ⟨L2, h5, h6⟩ := ih L1 s1.sl s1.m e s' h4 h2
      exact ⟨L2, by simp only [iter, h3, Option.bind_some]; exact h5, h6⟩
    all_goals
      simp only [Option.some.injEq, Prod.mk.injEq] at h2
      obtain ⟨rfl, rfl⟩ := h2
      exact ⟨L1, by simp only [iter, h3, Option.bind_some], h4⟩

theorem texec_sexec (n : Nat) : ∀ (c : SC) (L : List CV) (T : List (Nat × CV)) (m : Mem) (e : CE) (s' : TS), Rl L T → texec P A F fid n c ⟨T, m⟩ = some (e, s') → ∃ L', sexec P A F fid n c ⟨L, m⟩ = some (e, ⟨L', s'.m⟩) ∧ Rl L' s'.sl := by
  intro c
  induction c with
  | nop =>
    intro L T m e s' hR h
    simp only [texec, Option.some.injEq, Prod.mk.injEq] at h
    obtain ⟨rfl, rfl⟩ := h
    exact ⟨L, rfl, hR⟩
  | reg dr keep ops =>
    intro L T m e s' hR h
    simp only [texec, Option.map_eq_some_iff, Prod.mk.injEq] at h
    obtain ⟨s1, h1, rfl, rfl⟩ := h
    obtain ⟨L', h2, h3⟩ := tops_sops ops hR h1
    exact ⟨keepOnly keep L', by simp only [sexec, h2, Option.map_some], h3.keep keep⟩
  | seq a b iha ihb =>
    intro L T m e s' hR h
    simp only [texec, Option.bind_eq_some_iff] at h
    obtain ⟨⟨e1, s1⟩, h1, h2⟩ := h
    obtain ⟨L1, h3, h4⟩ := iha _ _ _ _ _ hR h1
    cases e1
    case normal =>
      obtain ⟨L2, h5, h6⟩ := ihb _ _ _ _ _ h4 h2
      exact ⟨L2, by simp only [sexec, h3, Option.bind_some]; exact h5, h6⟩
    all_goals
      simp only [Option.some.injEq, Prod.mk.injEq] at h2
      obtain ⟨rfl, rfl⟩ := h2
      exact ⟨L1, by simp only [sexec, h3, Option.bind_some], h4⟩
  | cond c x y ihx ihy =>
    intro L T m e s' hR h
    simp only [texec] at h
    simp only [sexec, hR.ev]
    split at h
    · rename_i hc; rw [hc]; exact ihx _ _ _ _ _ hR h
    · rename_i hc; rw [hc]; exact ihy _ _ _ _ _ hR h
    · cases h
  | block id c ih =>
    intro L T m e s' hR h
    simp only [texec, Option.map_eq_some_iff] at h
    obtain ⟨⟨e1, s1⟩, h1, h2⟩ := h
    obtain ⟨L1, h3, h4⟩ := ih _ _ _ _ _ hR h1
    simp only [sexec, h3, Option.map_some]
    cases e1
    case exit i =>
      simp only at h2 ⊢
      split at h2 <;> rename_i hi <;> simp only [Prod.mk.injEq] at h2 <;> obtain ⟨rfl, rfl⟩ := h2
      · exact ⟨L1, by simp [hi], h4⟩
      · exact ⟨L1, by simp [hi], h4⟩
    all_goals
      simp only [Prod.mk.injEq] at h2
      obtain ⟨rfl, rfl⟩ := h2
      exact ⟨L1, rfl, h4⟩
  | loop c ih =>
    intro L T m e s' hR h
    simp only [texec] at h
    simp only [sexec]
    exact titer_iter (fun L T m e s' hR h => ih L T m e s' hR h) n L T m e s' hR h
  | exit id =>
    intro L T m e s' hR h
    simp only [texec, Option.some.injEq, Prod.mk.injEq] at h
    obtain ⟨rfl, rfl⟩ := h
    exact ⟨L, rfl, hR⟩
  | ret =>
    intro L T m e s' hR h
    simp only [texec, Option.some.injEq, Prod.mk.injEq] at h
    obtain ⟨rfl, rfl⟩ := h
    exact ⟨L, rfl, hR⟩

theorem tresAll_resAll {L : List CV} {T : List (Nat × CV)} (hR : Rl L T) (m : Mem) : ∀ rs, tresAll P T m rs = resAll P L m rs
  | [] => rfl
  | r :: rs => by
    have h1 : tresC P m T r = resC P m L r := by cases r <;> simp only [tresC, resC, hR _]
    simp only [tresAll, resAll, h1, tresAll_resAll hR m rs]

theorem tcall_sim {E : Oracle} (hE : Sim P E) (hN : plainNames P = true) (hM : P.follows .mixedOrders = true) : ∀ n, Sim P (tcall P A E n)
  | 0 => fun _ _ _ _ _ h => by cases h
  | n + 1 => by
    intro f args H r H' h
    simp only [tcall] at h
    split at h
    · rename_i r0 hr
      simp only [Option.some.injEq] at h; subst h
      exact hE _ _ _ _ _ hr
    · split at h
      · cases h
      · rename_i fn hf
        split at h
        · cases h
        · rename_i c hc
          split at h
          · rename_i hlen
            simp only [Option.bind_eq_some_iff] at h
            obtain ⟨⟨e, s1⟩, h1, h2⟩ := h
            have hR : Rl args (tinit 0 args) := fun t => by
              have := Rl.init args 0 [] rfl (fun _ _ => trivial) t (Nat.zero_le _)
              simpa using this
            obtain ⟨L', h3, h4⟩ := texec_sexec n c _ _ _ _ _ hR h1
            have hne : ∀ i, e ≠ .exit i := by
              intro i he; subst he; simp at h2
            have h5 : tend P fn.results.toList s1 = some (r, H') := by cases e <;> first | exact h2 | exact absurd rfl (hne _)
            simp only [tend, Option.bind_eq_some_iff, Option.map_eq_some_iff, Prod.mk.injEq] at h5
            obtain ⟨vs, h6, ⟨xs, m'⟩, h7, h8, h9⟩ := h5
            rw [tresAll_resAll h4] at h6
            exact Sx.sim (tcall_sim hE hN hM n) hN hM hf hc hlen ⟨n, h3⟩ hne h6 h7 h8.symm h9.symm
          · cases h
end
end Go.Cm
