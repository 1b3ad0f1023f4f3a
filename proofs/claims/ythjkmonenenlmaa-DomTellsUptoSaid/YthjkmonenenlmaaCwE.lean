/-
  Code without what the machine does not look at; regions that draw their order run as the text does.
-/
import Derived.Test.YthjkmonenenlmaaCwA
set_option linter.unusedSimpArgs false
set_option linter.unusedVariables false
namespace Go.Cm

structure SO where
  d : Option Tmp
  op : Op
  g : Option (Tmp × Bool)
inductive SC where
  | nop
  | reg (dr : Bool) (keep : Option (List Tmp)) (ops : List SO)
  | seq (a b : SC)
  | cond (c : Operand) (x y : SC)
  | block (id : Nat) (c : SC)
  | loop (c : SC)
  | exit (id : Nat)
  | ret
def SO.up (x : SO) : Oper := { dst := x.d, op := x.op, type := 0, pos := "", after := #[], guard := none }
def sguard (sl : List CV) : Option (Tmp × Bool) → Option Bool
  | none => some true
  | some (t, want) => match sget sl t with
    | .bool b => some (b == want)
    | .tuple [] => some false
    | _ => none
def isRef : CV → Bool
  | .ref _ _ _ _ => true
  | _ => false
def noRef : CV → Bool
  | .tuple cs => cs.all fun c => !(isRef c)
  | c => !(isRef c)
/-- a call that leaves everybody's memory -/
def calmOp (A : Ann) : Op → Bool
  | .call c => match c.callee with
    | .value (.func f) => A.pure f
    | _ => false
  | _ => false

section
variable (P : Program) (A : Ann) (F : Oracle) (fid : FuncId) (nt : Nat)

def sop (dr : Bool) (o : SO) (s : CS) : Option CS :=
  match sguard s.sl o.g with
  | some true => (cval P A F fid (ev s.sl) o.up s.m).bind fun x => if (dr && calmOp A o.op && !(noRef x.1)) = true then none else some { sl := sput s.sl o.d x.1, m := x.2 }
  | some false => some { s with sl := sput s.sl o.d (.tuple []) }
  | none => none
def sops (dr : Bool) : List SO → CS → Option CS
  | [], s => some s
  | o :: r, s => (sop P A F fid dr o s).bind (sops dr r)

def stripO (ops : List Oper) (o : Oper) : Option SO :=
  if dok nt o.dst then
    match o.guard with
    | none => some { d := o.dst, op := o.op, g := none }
    | some (g, w) => match (ops[g]?).bind (·.dst) with
      | some d => some { d := o.dst, op := o.op, g := some (d, w) }
      | none => none
  else none
def stripOs (ops : List Oper) : List Oper → Option (List SO)
  | [] => some []
  | o :: r => (stripO nt ops o).bind fun x => (stripOs ops r).map fun y => x :: y

/-- operations that do something: the number, is it a calm one? -/
def effIx : Nat → List Oper → List (Nat × Bool)
  | _, [] => []
  | i, o :: r => if effOp P o then (i, calmOp A o.op) :: effIx (i + 1) r else effIx (i + 1) r
def statI (masks : List Nat) (es : List (Nat × Bool)) (i : Nat) : Bool :=
  (List.range es.length).all fun j =>
    match es[j]? with
    | some (e, calm) => calm || (decide (e < i) && (es.take (j + 1)).all fun x => (masks.getD i 0).testBit x.1) || (decide (i < e) && (masks.getD e 0).testBit i)
    | none => true
def statL (masks : List Nat) (es : List (Nat × Bool)) : Nat → List Oper → Bool
  | _, [] => true
  | i, o :: r => (!(quietOp o.op) || memFree o.op || statI masks es i) && !(plainAlloc P o) && statL masks es (i + 1) r
def statOK (ops : List Oper) : Bool :=
  let masks := amasks ops []
  regOK P ops masks 0 ops && statL P masks (effIx P A 0 ops) 0 ops

def strip : Code → Option SC
  | .skip => some .nop
  | .label _ => some .nop
  | .region id ops draw => if draw then (if statOK P A ops.toList then (stripOs nt ops.toList ops.toList).map (.reg true (A.keep fid id)) else none) else (stripOs nt ops.toList ops.toList).map (.reg false (A.keep fid id))
  | .seq a b => (strip a).bind fun x => (strip b).map fun y => .seq x y
  | .cond c a b => (strip a).bind fun x => (strip b).map fun y => .cond c x y
  | .block id c => (strip c).map (.block id)
  | .loop c => (strip c).map .loop
  | .exit id => some (.exit id)
  | .ret => some .ret
  | _ => none

def sexec (n : Nat) : SC → CS → Option (CE × CS)
  | .nop, s => some (.normal, s)
  | .reg dr keep ops, s => (sops P A F fid dr ops s).map fun s' => (.normal, { sl := keepOnly keep s'.sl, m := s'.m })
  | .seq a b, s => (sexec n a s).bind fun r => match r.1 with
    | .normal => sexec n b r.2
    | e => some (e, r.2)
  | .cond c x y, s => match ev s.sl c with
    | .bool true => sexec n x s
    | .bool false => sexec n y s
    | _ => none
  | .block id c, s => (sexec n c s).map fun r => match r.1 with
    | .exit i => if i = id then (.normal, r.2) else r
    | _ => r
  | .loop c, s => iter n (sexec n c) s
  | .exit id, s => some (.exit id, s)
  | .ret, s => some (.ret, s)
end

section
variable {P : Program} {A : Ann} {F : Oracle} {fid : FuncId} {nt : Nat} {ρ : Operand → CV} {m m' : Mem}

theorem cval_up (o : Oper) {x : SO} (h1 : x.d = o.dst) (h2 : x.op = o.op) : cval P A F fid ρ x.up m = cval P A F fid ρ o m := by
  obtain ⟨d, op, g⟩ := x
  obtain ⟨dst, op', ty, pos, after, guard⟩ := o
  simp only at h1 h2
  subst h1 h2
  rfl

theorem stripO_spec {ops : List Oper} {o : Oper} {x : SO} (h : stripO nt ops o = some x) : dok nt o.dst = true ∧ x.d = o.dst ∧ x.op = o.op ∧ ∀ sl, guardC ops sl o = sguard sl x.g := by
  unfold stripO at h
  split at h
  · rename_i hd
    refine ⟨hd, ?_⟩
    split at h
    · rename_i hg
      simp only [Option.some.injEq] at h; subst h
      exact ⟨rfl, rfl, fun sl => by simp [guardC, hg, sguard]⟩
    · rename_i g w hg
      split at h
      · rename_i d hdd
        simp only [Option.some.injEq] at h; subst h
        refine ⟨rfl, rfl, fun sl => ?_⟩
        simp only [guardC, hg, hdd, sguard]
        generalize sget sl d = c
        cases c <;> rfl
      · cases h
  · cases h

theorem sop_cop {ops : List Oper} {o : Oper} {x : SO} (hx : stripO nt ops o = some x) {dr : Bool} {s s' : CS} (h : sop P A F fid dr x s = some s') : cop P A F fid nt ops o s = some s' := by
  obtain ⟨h1, h2, h3, h4⟩ := stripO_spec hx
  unfold cop
  simp only [h1, h4]
  unfold sop at h
  rw [cval_up o h2 h3] at h
  rw [if_neg (by simp)]
  split at h
  · rename_i hg
    simp only [hg]
    simp only [Option.bind_eq_some_iff] at h
    obtain ⟨y, hy, h⟩ := h
    split at h
    · cases h
    · simp only [Option.some.injEq] at h
      simp only [hy, Option.map_some, ← h, h2]
  · rename_i hg
    simp only [hg, ← h, h2]
  · cases h
theorem sops_cops {ops : List Oper} {dr : Bool} : ∀ (l : List Oper) (xs : List SO) (s s' : CS), stripOs nt ops l = some xs → sops P A F fid dr xs s = some s' → cops P A F fid nt ops l s = some s'
  | [], xs, s, s', hx, h => by
    simp only [stripOs, Option.some.injEq] at hx
    subst hx
    simpa [sops, cops] using h
  | o :: l, xs, s, s', hx, h => by
    simp only [stripOs, Option.bind_eq_some_iff, Option.map_eq_some_iff] at hx
    obtain ⟨x, hx1, ys, hx2, rfl⟩ := hx
    simp only [sops, cops, Option.bind_eq_some_iff] at h ⊢
    obtain ⟨s1, h1, h2⟩ := h
    exact ⟨s1, sop_cop hx1 h1, sops_cops l ys s1 s' hx2 h2⟩

/-! drawn regions -/
theorem effIx_rows : ∀ (rows : List Row) (i : Nat), (∀ (k : Nat) (x : Row), rows[k]? = some x → x.i = i + k) →
    effIx P A i (rows.map (·.o)) = (rows.filter fun x => effOp P x.o).map fun x => (x.i, calmOp A x.o.op)
  | [], i, _ => rfl
  | x :: r, i, h => by
    have ih := effIx_rows r (i + 1) fun k y hy => by
      have := h (k + 1) y (by simpa using hy)
      omega
    have h0 : x.i = i := by simpa using h 0 x rfl
    simp only [List.map_cons, effIx]
    by_cases he : effOp P x.o = true
    · simp only [List.filter_cons, he, if_true, List.map_cons, ih, h0]
    · simp only [List.filter_cons, he, ih]; rfl

theorem statL_spec {masks : List Nat} {es : List (Nat × Bool)} : ∀ (l : List Oper) (i : Nat), statL P masks es i l = true → ∀ (k : Nat) (o : Oper), l[k]? = some o →
    (quietOp o.op = true → memFree o.op = true ∨ statI masks es (i + k) = true) ∧ plainAlloc P o = false
  | [], _, _, k, o, ho => by simp at ho
  | x :: r, i, h, k, o, ho => by
    simp only [statL, Bool.and_eq_true, Bool.or_eq_true, Bool.not_eq_true'] at h
    cases k with
    | zero =>
      simp only [List.getElem?_cons_zero, Option.some.injEq] at ho
      subst ho
      refine ⟨fun hq => ?_, h.1.2⟩
      rcases h.1.1 with (h1 | h1) | h1
      · rw [hq] at h1; cases h1
      · exact .inl h1
      · exact .inr h1
    | succ k =>
      simp only [List.getElem?_cons_succ] at ho
      have := statL_spec r (i + 1) h.2 k o ho
      rwa [show i + 1 + k = i + (k + 1) from by omega] at this

theorem hoist_none : ∀ (l : List Oper) (i : Nat) (m : Mem), (∀ o ∈ l, plainAlloc P o = false) → hoist P A fid i l m = some ([], m)
  | [], _, _, _ => rfl
  | o :: r, i, m, h => by
    simp only [hoist, h o List.mem_cons_self]
    exact hoist_none r (i + 1) m fun o ho => h o (List.mem_cons_of_mem _ ho)

theorem steady_of {ops : List Oper} {masks : List Nat} {d : Row} {last : Mem} : ∀ (es : List Row), (∀ k, k ≤ es.length → (∀ (j : Nat) (e : Row), j < k → es[j]? = some e → (masks.getD e.i 0).testBit d.i = false) →
      (∀ (e : Row), es[k]? = some e → (masks.getD d.i 0).testBit e.i = false) → steadyAt P A F fid ops d (memo es last k) = true) → steady P A F fid ops masks d last es = true
  | [], h => by
    have := h 0 (Nat.le_refl _) (fun j e hj => by omega) (fun e he => by simp at he)
    simpa [steady, memo] using this
  | e :: es, h => by
    simp only [steady, Bool.and_eq_true, Bool.or_eq_true]
    refine ⟨?_, ?_⟩
    · cases hb : (masks.getD d.i 0).testBit e.i with
      | true => exact .inl rfl
      | false =>
        right
        have := h 0 (Nat.zero_le _) (fun j e hj => by omega) (fun e' he => by simp only [List.getElem?_cons_zero, Option.some.injEq] at he; subst he; exact hb)
        simpa [memo] using this
    · cases hb : (masks.getD e.i 0).testBit d.i with
      | true => exact .inl rfl
      | false =>
        right
        refine steady_of es fun k hk h1 h2 => ?_
        have := h (k + 1) (by simpa using hk) (fun j e' hj he => by
          cases j with
          | zero => simp only [List.getElem?_cons_zero, Option.some.injEq] at he; subst he; exact hb
          | succ j => exact h1 j e' (by omega) (by simpa using he)) (fun e' he => h2 e' (by simpa using he))
        simpa [memo] using this

theorem noRef_isRef {c : CV} (h : noRef c = true) : isRef c = false := by cases c <;> first | rfl | simp [noRef, isRef] at h
theorem calm_seen {o : Oper} (hc : calmOp A o.op = true) {c : CV} (h : cval P A F fid ρ o m = some (c, m')) (hf : ∀ f, ρ (.func f) = .func (.func f) [] []) (hr : noRef c = true) : SeenEq m m' := by
  obtain ⟨dst, op, ty, pos, after, guard⟩ := o
  cases op <;> simp only [calmOp, Bool.false_eq_true] at hc
  rename_i c0
  obtain ⟨callee, args, argTypes⟩ := c0
  cases callee <;> simp only [Bool.false_eq_true] at hc
  rename_i f
  cases f <;> simp only [Bool.false_eq_true] at hc
  rename_i f
  simp only [cval, hf, invokeC, List.nil_append, List.append_nil, callC, hc, if_true, Option.bind_eq_some_iff] at h
  obtain ⟨⟨xs, m1⟩, hx, h⟩ := h
  simp only at h
  split at h
  · simp only [Option.bind_eq_some_iff] at h
    obtain ⟨⟨r, H'⟩, hr', h⟩ := h
    simp only at h
    split at h
    · rename_i hng
      have hm : SeenEq m (if scalar r = true then m else m1) := by
        split
        · exact SeenEq.refl _
        · exact escList_seen hx
      generalize (if scalar r = true then m else m1) = m2 at h hm
      suffices hs : m' = m2 by rw [hs]; exact hm
      cases dst with
      | none =>
        simp only [takes, Option.some.injEq, Prod.mk.injEq] at h
        exact h.2.symm
      | some d =>
        simp only [takes, Option.some.injEq] at h
        have one : ∀ {gl : Bool} {j : Nat} {v : CV} {m : Mem}, isRef (adopt1 gl j v m).1 = false → (adopt1 gl j v m).2 = m ∧ (adopt1 gl j v m).1 = v := by
          intro gl j v m h
          cases v
          case own => simp [adopt1, isRef] at h
          all_goals exact ⟨rfl, rfl⟩
        cases r
        case tuple cs =>
          have many : ∀ {gl : Bool} (cs : List CV) (j : Nat) (m : Mem), ((adopts gl j cs m).1.all fun c => !(isRef c)) = true → (adopts gl j cs m).2 = m := by
            intro gl cs
            induction cs with
            | nil => intro j m _; rfl
            | cons v r ih =>
              intro j m hh
              simp only [adopts, List.all_cons, Bool.and_eq_true, Bool.not_eq_true'] at hh ⊢
              obtain ⟨e1, e2⟩ := one hh.1
              rw [e1] at hh ⊢
              exact ih _ _ hh.2
          simp only [adopt, Prod.mk.injEq] at h
          obtain ⟨rfl, rfl⟩ := h
          exact many _ _ _ (by simpa [noRef] using hr)
        all_goals
          simp only [adopt] at h
          have h1 := congrArg Prod.fst h
          have h2 := congrArg Prod.snd h
          simp only at h1 h2
          rw [← h2]
          refine (one ?_).1
          rw [h1]
          exact noRef_isRef hr
    · cases h
  · cases h
end
end Go.Cm
