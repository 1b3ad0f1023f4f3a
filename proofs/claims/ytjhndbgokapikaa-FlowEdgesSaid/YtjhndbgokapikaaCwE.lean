import Derived.Test.YtjhndbgokapikaaCwA
set_option linter.unusedSimpArgs false
set_option linter.unusedVariables false
namespace Go.Cm

structure SO where
  d : Option Tmp
  op : Op
  g : Option (Tmp × Bool)
  off : List (Bool × Nat)
inductive SC where
  | nop
  | reg (dr : Bool) (keep : Option (List Tmp)) (ops : List SO)
  | seq (a b : SC)
  | cond (c : Operand) (x y : SC)
  | block (id : Nat) (c : SC)
  | loop (c : SC)
  | exit (id : Nat)
  | ret
def SO.up (x : SO) : Oper := { dst := x.d, op := x.op, type := 0, pos := "", after := #[], guard := none }
def sguard (sl : List CV) : Option (Tmp × Bool) → Option Bool
  | none => some true
  | some (t, want) => match sget sl t with
    | .bool b => some (b == want)
    | .tuple [] => some false
    | _ => none
def isRef : CV → Bool
  | .ref _ _ _ _ => true
  | _ => false
def noRef : CV → Bool
  | .tuple cs => cs.all fun c => !(isRef c)
  | c => !(isRef c)
def calmOp (A : Ann) : Op → Bool
  | .call c => match c.callee with
    | .value (.func f) => A.pure f
    | _ => false
  | _ => false

def keyIn (off : List (Bool × Nat)) : CV → Bool
  | .ptr (.l j) _ _ => off.any fun x => if x.1 then decide (16 * x.2 ≤ j) else decide (j = 16 * x.2)
  | _ => false
def offK {α : Type} (off : List (Bool × Nat)) (p : CV) (x : Option α) : Option α := if keyIn off p then none else x
def HM : Nat := 4294967295
def sameAt (d : Nat) (m m' : Mem) : Prop := if d = HM then m.H = m'.H else lget m.L (16 * d) = lget m'.L (16 * d)
open Classical in
noncomputable def offS (off : List (Bool × Nat)) (m : Mem) (x : Option (CV × Mem)) : Option (CV × Mem) :=
  x.bind fun y => if ∀ z ∈ off, z.1 = false → sameAt z.2 m y.2 then some y else none
def rowOut (off : List (Bool × Nat)) : CV → Bool
  | .ref (.l j) _ _ _ => off.any fun x => x.1 && decide (j < 16 * x.2)
  | .ref (.g _) _ _ _ => off.any fun x => x.1
  | _ => false
def offR {α : Type} (off : List (Bool × Nat)) (v : CV) (x : Option α) : Option α := if rowOut off v then none else x
def atIn (off : List (Bool × Nat)) : CV → Bool
  | .ptr (.l j) _ _ => off.all fun x => !x.1 || decide (j = 16 * x.2)
  | _ => false
def offP {α : Type} (off : List (Bool × Nat)) (p : CV) (x : Option α) : Option α :=
  if off.any fun x => x.1 then (if atIn off p then x else none) else x
theorem offP_some {α : Type} {off : List (Bool × Nat)} {p : CV} {x : Option α} {y : α} (h : offP off p x = some y) : x = some y ∧ ∀ d, (true, d) ∈ off → ∃ g o, p = .ptr (.l (16 * d)) g o := by
  unfold offP at h
  split at h
  · split at h
    · rename_i ha
      refine ⟨h, fun d hd => ?_⟩
      unfold atIn at ha
      split at ha
      · simp only [List.all_eq_true, Bool.or_eq_true, Bool.not_eq_true', decide_eq_true_eq] at ha
        rcases ha _ hd with h1 | h1
        · cases h1
        · exact ⟨_, _, by rw [h1]⟩
      · cases ha
    · cases h
  · rename_i hn
    refine ⟨h, fun d hd => absurd ?_ hn⟩
    simp only [List.any_eq_true]
    exact ⟨_, hd, rfl⟩
noncomputable def offC (off : List (Bool × Nat)) (op : Op) (ρ : Operand → CV) (m : Mem) (x : Option (CV × Mem)) : Option (CV × Mem) :=
  match off with
  | [] => x
  | _ => match op with
    | .load _ p => offK off (ρ p) x
    | .call c => match c.args.toList with
      | a :: _ => offR off (ρ a) (offS off m x)
      | [] => offS off m x
    | .store _ p _ => offP off (ρ p) (offS off m x)
    | _ => offS off m x
theorem offS_some {off : List (Bool × Nat)} {m : Mem} {x : Option (CV × Mem)} {y : CV × Mem} (h : offS off m x = some y) : x = some y ∧ ∀ z ∈ off, z.1 = false → sameAt z.2 m y.2 := by
  simp only [offS, Option.bind_eq_some_iff] at h
  obtain ⟨z, h1, h2⟩ := h
  split at h2
  · rename_i hall
    simp only [Option.some.injEq] at h2
    subst h2
    exact ⟨h1, hall⟩
  · cases h2
theorem offC_some {off : List (Bool × Nat)} {op : Op} {ρ : Operand → CV} {m : Mem} {x : Option (CV × Mem)} {y : CV × Mem} (h : offC off op ρ m x = some y) : x = some y := by
  unfold offC at h
  split at h
  · exact h
  · split at h
    · unfold offK at h; split at h
      · cases h
      · exact h
    · split at h
      · unfold offR at h; split at h
        · cases h
        · exact (offS_some h).1
      · exact (offS_some h).1
    · exact (offS_some (offP_some h).1).1
    · exact (offS_some h).1
theorem offC_eff {off : List (Bool × Nat)} {op : Op} {ρ : Operand → CV} {m : Mem} {x : Option (CV × Mem)} {y : CV × Mem} (h : offC off op ρ m x = some y) (hl : ∀ t p, op ≠ .load t p) :
    (∀ z ∈ off, z.1 = false → sameAt z.2 m y.2) ∧ (∀ c a r, op = .call c → c.args.toList = a :: r → rowOut off (ρ a) = false) ∧ ∀ t p v, op = .store t p v → ∀ d, (true, d) ∈ off → ∃ g o, ρ p = .ptr (.l (16 * d)) g o := by
  unfold offC at h
  split at h
  · refine ⟨fun z hz => by simp at hz, fun c a r _ _ => ?_, fun _ _ _ _ d hd => by simp at hd⟩
    generalize ρ a = v
    unfold rowOut
    split <;> rfl
  · split at h
    · exact absurd rfl (hl _ _)
    · rename_i c
      split at h
      · rename_i a0 r0 ha
        unfold offR at h; split at h
        · cases h
        · rename_i hr
          refine ⟨(offS_some h).2, fun c' a r he hc => ?_, fun _ _ _ he => by cases he⟩
          injection he with he
          subst he
          rw [ha] at hc
          injection hc with hc
          rw [← hc]; simpa using hr
      · rename_i ha
        refine ⟨(offS_some h).2, fun c' a r he hc => ?_, fun _ _ _ he => by cases he⟩
        injection he with he
        subst he
        rw [ha] at hc; cases hc
    · obtain ⟨h1, h2⟩ := offP_some h
      refine ⟨(offS_some h1).2, fun c' a r he hc => (by cases he), fun t p v he => ?_⟩
      injection he with _ he _
      subst he
      exact h2
    · rename_i h3 h4 h5
      exact ⟨(offS_some h).2, fun c' a r he hc => absurd he (h4 _), fun _ _ _ he => absurd he (h5 _ _ _)⟩

section
variable (P : Program) (A : Ann) (F : Oracle) (fid : FuncId) (nt : Nat)

noncomputable def sop (dr : Bool) (o : SO) (s : CS) : Option CS :=
  match sguard s.sl o.g with
  | some true => (offC o.off o.op (ev s.sl) s.m (cval P A F fid (ev s.sl) o.up s.m)).bind fun x => if (dr && calmOp A o.op && !(noRef x.1)) = true then none else some { sl := sput s.sl o.d x.1, m := x.2 }
  | some false => some { s with sl := sput s.sl o.d (.tuple []) }
  | none => none
noncomputable def sops (dr : Bool) : List SO → CS → Option CS
  | [], s => some s
  | o :: r, s => (sop P A F fid dr o s).bind (sops dr r)

def stripO (ops : List Oper) (o : Oper) : Option SO :=
  if dok nt o.dst then
    match o.guard with
    | none => some { d := o.dst, op := o.op, g := none, off := [] }
    | some (g, w) => match (ops[g]?).bind (·.dst) with
      | some d => some { d := o.dst, op := o.op, g := some (d, w), off := [] }
      | none => none
  else none
def stripOs (ops : List Oper) : List Oper → Option (List SO)
  | [] => some []
  | o :: r => (stripO nt ops o).bind fun x => (stripOs ops r).map fun y => x :: y

def effIx : Nat → List Oper → List (Nat × Bool)
  | _, [] => []
  | i, o :: r => if effOp P o then (i, calmOp A o.op) :: effIx (i + 1) r else effIx (i + 1) r
def statI (masks : List Nat) (es : List (Nat × Bool)) (i : Nat) : Bool :=
  (List.range es.length).all fun j =>
    match es[j]? with
    | some (e, calm) => calm || (decide (e < i) && (es.take (j + 1)).all fun x => (masks.getD i 0).testBit x.1) || (decide (i < e) && (masks.getD e 0).testBit i)
    | none => true
def statL (masks : List Nat) (es : List (Nat × Bool)) : Nat → List Oper → Bool
  | _, [] => true
  | i, o :: r => (!(quietOp o.op) || memFree o.op || statI masks es i) && !(plainAlloc P o) && statL masks es (i + 1) r
def statOK (ops : List Oper) : Bool :=
  let masks := amasks ops []
  regOK P ops masks 0 ops && statL P masks (effIx P A 0 ops) 0 ops

def newsOf : Nat → List Oper → List (Nat × Tmp)
  | _, [] => []
  | i, o :: r => if plainAlloc P o then (match o.dst with | some d => (i, d) :: newsOf (i + 1) r | none => newsOf (i + 1) r) else newsOf (i + 1) r
def foot (news : List (Nat × Tmp)) (o : Oper) : Option (Bool × Nat) :=
  match o.op with
  | .buildSlice _ _ _ => o.dst.bind fun d => if (A.glob fid).contains d then none else some (true, d)
  | .call c => match c.callee with
    | .value (.func f) => if A.pure f then o.dst.bind fun d => if (A.glob fid).contains d then none else some (true, d) else none
    | .builtin .append => match c.args.toList, o.dst with
      | .tmp t :: _, some d => if (A.glob fid).contains d then none else some (true, min t d)
      | _, _ => none
    | _ => none
  | .store _ (.tmp t) _ => if news.any (fun x => x.2 == t) then some (false, t) else (A.base fid t).map fun u => (false, u)
  | _ => none
def feet (news : List (Nat × Tmp)) : Nat → List Oper → List (Nat × Option (Bool × Nat))
  | _, [] => []
  | i, o :: r => if effOp P o then (i, foot A fid news o) :: feet news (i + 1) r else feet news (i + 1) r
def ordB (masks : List Nat) (es : List (Nat × Option (Bool × Nat))) (i j e : Nat) : Bool :=
  (decide (e < i) && (es.take (j + 1)).all fun x => (masks.getD i 0).testBit x.1) || (decide (i < e) && (masks.getD e 0).testBit i)
def allOrd (masks : List Nat) (es : List (Nat × Option (Bool × Nat))) (i : Nat) : Bool :=
  (List.range es.length).all fun j => match es[j]? with
    | some (e, _) => ordB masks es i j e
    | none => true
def feetOK (masks : List Nat) (es : List (Nat × Option (Bool × Nat))) (i : Nat) : Bool :=
  (List.range es.length).all fun j => match es[j]? with
    | some (e, f) => ordB masks es i j e || f.isSome
    | none => true
def offL (masks : List Nat) (es : List (Nat × Option (Bool × Nat))) (i : Nat) : List (Bool × Nat) :=
  (List.range es.length).filterMap fun j => match es[j]? with
    | some (e, f) => if ordB masks es i j e then none else f
    | none => none
def offE (masks : List Nat) (news : List (Nat × Tmp)) (i : Nat) : List (Bool × Nat) :=
  news.filterMap fun b => if (masks.getD i 0).testBit b.1 then none else some (false, b.2)
def appMark (news : List (Nat × Tmp)) (o : Oper) : List (Bool × Nat) :=
  match o.op with
  | .call c => match c.callee with
    | .builtin .append => (foot A fid news o).toList
    | _ => []
  | _ => []
def stMark (news : List (Nat × Tmp)) (o : Oper) : List (Bool × Nat) :=
  match o.op with
  | .store _ (.tmp t) _ => if news.any (fun x => x.2 == t) then [] else ((A.base fid t).map fun u => (true, u)).toList
  | _ => []
def isLoad : Op → Bool
  | .load _ _ => true
  | _ => false
def soOff (masks : List Nat) (news : List (Nat × Tmp)) (es : List (Nat × Option (Bool × Nat))) (i : Nat) (o : Oper) : List (Bool × Nat) :=
  if effOp P o then offE masks news i ++ (appMark A fid news o ++ stMark A fid news o) else if isLoad o.op && !(memFree o.op) then offL masks es i else []
def drawL (ops : List Oper) (masks : List Nat) (news : List (Nat × Tmp)) (es : List (Nat × Option (Bool × Nat))) : Nat → List Oper → Bool
  | _, [] => true
  | i, o :: r => (!(quietOp o.op) || memFree o.op || allOrd masks es i || (isLoad o.op && feetOK masks es i)) &&
      (news.all fun b => decide (b.1 < i) || !((looks ops o).contains b.2)) && (!(effOp P o) || isLoad o.op == false) && drawL ops masks news es (i + 1) r
def drawOK (ops : List Oper) : Bool :=
  let masks := amasks ops []
  let news := newsOf P 0 ops
  let es := feet P A fid news 0 ops
  regOK P ops masks 0 ops && drawL P ops masks news es 0 ops && (news.all fun b => !((A.glob fid).contains b.2) && decide (b.2 ≠ HM)) &&
    (news.all fun b => (List.range es.length).all fun j => (List.range j).all fun i => match es[i]?, es[j]? with
      | some x, some y => !((masks.getD x.1 0).testBit b.1) || (masks.getD y.1 0).testBit b.1
      | _, _ => true)
def newSO (o : Oper) : SO := { d := o.dst, op := o.op, g := none, off := [] }
def drawSOs (ops : List Oper) (masks : List Nat) (news : List (Nat × Tmp)) (es : List (Nat × Option (Bool × Nat))) : Nat → List Oper → Option (List SO)
  | _, [] => some []
  | i, o :: r => if plainAlloc P o then drawSOs ops masks news es (i + 1) r else
    (stripO nt ops o).bind fun x => (drawSOs ops masks news es (i + 1) r).map fun y => { x with off := soOff P A fid masks news es i o } :: y
def drawSO (ops : List Oper) : Option (List SO) :=
  let masks := amasks ops []
  let news := newsOf P 0 ops
  let es := feet P A fid news 0 ops
  (drawSOs P A fid nt ops masks news es 0 ops).map fun xs => (ops.filter (plainAlloc P)).map newSO ++ xs

namespace W2
def lenSl (o : Oper) : Bool :=
  match o.op with
  | .call c => match c.callee with
    | .builtin .len => match c.args.toList, c.argTypes.toList with
      | [_], [t] => match P.underlying t with
        | some (.slice _) => true
        | _ => false
      | _, _ => false
    | _ => false
  | _ => false
def still (o : Oper) : Bool := o.guard.isNone && ((memFree o.op && quietOp o.op) || lenSl P o)
def earlyT (ops : List Oper) (ds : List Tmp) : List Tmp → List Oper → List Tmp
  | acc, [] => acc
  | acc, o :: r => match o.dst with
    | some d => if still P o && (looks ops o).all (fun t => !(ds.contains t) || acc.contains t) then earlyT ops ds (d :: acc) r else earlyT ops ds acc r
    | none => earlyT ops ds acc r
def isE (E : List Tmp) (o : Oper) : Bool :=
  match o.dst with
  | some d => E.contains d
  | none => false
def newsOf : Nat → List Oper → List (Nat × Tmp)
  | _, [] => []
  | i, o :: r => if plainAlloc P o then (match o.dst with | some d => (i, d) :: newsOf (i + 1) r | none => newsOf (i + 1) r) else newsOf (i + 1) r
def pendOf (E : List Tmp) : Nat → List Oper → List (Nat × Tmp)
  | _, [] => []
  | i, o :: r => if plainAlloc P o || isE E o then (match o.dst with | some d => (i, d) :: pendOf E (i + 1) r | none => pendOf E (i + 1) r) else pendOf E (i + 1) r
def offE2 (masks : List Nat) (news : List (Nat × Tmp)) (i : Nat) : List (Bool × Nat) :=
  news.filterMap fun b => if (masks.getD i 0).testBit b.1 then none else if (A.glob fid).contains b.2 then some (false, HM) else some (false, b.2)
def varsOf (ops : List Oper) : List (Nat × Tmp) := (Cm.newsOf P 0 ops).filter fun b => !((A.glob fid).contains b.2)
def feet (vars : List (Nat × Tmp)) : Nat → List Oper → List (Nat × Option (Bool × Nat))
  | _, [] => []
  | i, o :: r => if effOp P o then (i, foot A fid vars o) :: feet vars (i + 1) r else feet vars (i + 1) r
def soOff (masks : List Nat) (vars news : List (Nat × Tmp)) (es : List (Nat × Option (Bool × Nat))) (i : Nat) (o : Oper) : List (Bool × Nat) :=
  if effOp P o then offE2 A fid masks news i ++ (appMark A fid vars o ++ stMark A fid vars o) else if isLoad o.op && !(memFree o.op) then offL masks es i else []
def drawL (ops : List Oper) (masks : List Nat) (pend : List (Nat × Tmp)) (es : List (Nat × Option (Bool × Nat))) : Nat → List Oper → Bool
  | _, [] => true
  | i, o :: r => (!(quietOp o.op) || memFree o.op || lenSl P o || allOrd masks es i || (isLoad o.op && feetOK masks es i)) &&
      (pend.all fun b => decide (b.1 < i) || !((looks ops o).contains b.2)) && (!(effOp P o) || isLoad o.op == false) && drawL ops masks pend es (i + 1) r
def earlyOK (ops : List Oper) (E ds : List Tmp) : Bool :=
  ops.all fun o => (!(isE E o) || (still P o && !(plainAlloc P o))) && (!(isE E o || plainAlloc P o) || (looks ops o).all fun t => !(ds.contains t) || E.contains t)
def drawOK (ops : List Oper) : Bool :=
  let masks := amasks ops []
  let ds := ops.filterMap (·.dst)
  let E := earlyT P ops ds [] ops
  let news := newsOf P 0 ops
  let vars := varsOf P A fid ops
  let es := feet P A fid vars 0 ops
  regOK P ops masks 0 ops && drawL P ops masks (pendOf P E 0 ops) es 0 ops && earlyOK P ops E ds && (news.all fun b => decide (b.2 ≠ HM)) &&
    (news.all fun b => (List.range es.length).all fun j => (List.range j).all fun i => match es[i]?, es[j]? with
      | some x, some y => !((masks.getD x.1 0).testBit b.1) || (masks.getD y.1 0).testBit b.1
      | _, _ => true)
def drawSOs (E : List Tmp) (ops : List Oper) (masks : List Nat) (vars news : List (Nat × Tmp)) (es : List (Nat × Option (Bool × Nat))) : Nat → List Oper → Option (List SO)
  | _, [] => some []
  | i, o :: r => if plainAlloc P o || isE E o then drawSOs E ops masks vars news es (i + 1) r else
    (stripO nt ops o).bind fun x => (drawSOs E ops masks vars news es (i + 1) r).map fun y => { x with off := soOff P A fid masks vars news es i o } :: y
def drawSO (ops : List Oper) : Option (List SO) :=
  let masks := amasks ops []
  let ds := ops.filterMap (·.dst)
  let E := earlyT P ops ds [] ops
  let news := newsOf P 0 ops
  let vars := varsOf P A fid ops
  let es := feet P A fid vars 0 ops
  (drawSOs P A fid nt E ops masks vars news es 0 ops).map fun xs => (ops.filter (isE E)).map newSO ++ ((ops.filter (plainAlloc P)).map newSO ++ xs)
end W2
def strip : Code → Option SC
  | .skip => some .nop
  | .label _ => some .nop
  | .region id ops draw => if draw then (if statOK P A ops.toList && !(A.nd fid id) then (stripOs nt ops.toList ops.toList).map (.reg true (A.keep fid id)) else
      if drawOK P A fid ops.toList && (A.keep fid id).isSome && (ops.toList.all fun o => !(plainAlloc P o) || dok nt o.dst) then (drawSO P A fid nt ops.toList).map (.reg false (A.keep fid id)) else
        if W2.drawOK P A fid ops.toList && !(regOK P ops.toList (amasks ops.toList []) 0 ops.toList) && (A.keep fid id).isSome && (ops.toList.all fun o => !(W2.plainAlloc P o || W2.isE (W2.earlyT P ops.toList (ops.toList.filterMap (·.dst)) [] ops.toList) o) || dok nt o.dst) then (W2.drawSO P A fid nt ops.toList).map (.reg false (A.keep fid id)) else none) else (stripOs nt ops.toList ops.toList).map (.reg false (A.keep fid id))
  | .seq a b => (strip a).bind fun x => (strip b).map fun y => .seq x y
  | .cond c a b => (strip a).bind fun x => (strip b).map fun y => .cond c x y
  | .block id c => (strip c).map (.block id)
  | .loop c => (strip c).map .loop
  | .exit id => some (.exit id)
  | .ret => some .ret
  | _ => none

noncomputable def sexec (n : Nat) : SC → CS → Option (CE × CS)
  | .nop, s => some (.normal, s)
  | .reg dr keep ops, s => (sops P A F fid dr ops s).map fun s' => (.normal, { sl := keepOnly keep s'.sl, m := s'.m })
  | .seq a b, s => (sexec n a s).bind fun r => match r.1 with
    | .normal => sexec n b r.2
    | e => some (e, r.2)
  | .cond c x y, s => match ev s.sl c with
    | .bool true => sexec n x s
    | .bool false => sexec n y s
    | _ => none
  | .block id c, s => (sexec n c s).map fun r => match r.1 with
    | .exit i => if i = id then (.normal, r.2) else r
    | _ => r
  | .loop c, s => iter n (sexec n c) s
  | .exit id, s => some (.exit id, s)
  | .ret, s => some (.ret, s)
end

section
variable {P : Program} {A : Ann} {F : Oracle} {fid : FuncId} {nt : Nat} {ρ : Operand → CV} {m m' : Mem}

theorem cval_up (o : Oper) {x : SO} (h1 : x.d = o.dst) (h2 : x.op = o.op) : cval P A F fid ρ x.up m = cval P A F fid ρ o m := by
  obtain ⟨d, op, g, off⟩ := x
  obtain ⟨dst, op', ty, pos, after, guard⟩ := o
  simp only at h1 h2
  subst h1 h2
  rfl

theorem stripO_spec {ops : List Oper} {o : Oper} {x : SO} (h : stripO nt ops o = some x) : dok nt o.dst = true ∧ x.d = o.dst ∧ x.op = o.op ∧ (∀ sl, guardC ops sl o = sguard sl x.g) ∧ x.off = [] := by
  unfold stripO at h
  split at h
  · rename_i hd
    refine ⟨hd, ?_⟩
    split at h
    · rename_i hg
      simp only [Option.some.injEq] at h; subst h
      exact ⟨rfl, rfl, fun sl => by simp [guardC, hg, sguard], rfl⟩
    · rename_i g w hg
      split at h
      · rename_i d hdd
        simp only [Option.some.injEq] at h; subst h
        refine ⟨rfl, rfl, fun sl => ?_, rfl⟩
        simp only [guardC, hg, hdd, sguard]
        generalize sget sl d = c
        cases c <;> rfl
      · cases h
  · cases h

theorem sop_cop {ops : List Oper} {o : Oper} {x : SO} (hx : stripO nt ops o = some x) {dr : Bool} {s s' : CS} (h : sop P A F fid dr x s = some s') : cop P A F fid nt ops o s = some s' := by
  obtain ⟨h1, h2, h3, h4, h5⟩ := stripO_spec hx
  unfold cop
  simp only [h1, h4]
  unfold sop at h
  rw [cval_up o h2 h3, h5] at h
  simp only [offC] at h
  rw [if_neg (by simp)]
  split at h
  · rename_i hg
    simp only [hg]
    simp only [Option.bind_eq_some_iff] at h
    obtain ⟨y, hy, h⟩ := h
    split at h
    · cases h
    · simp only [Option.some.injEq] at h
      simp only [hy, Option.map_some, ← h, h2]
  · rename_i hg
    simp only [hg, ← h, h2]
  · cases h
theorem sops_cops {ops : List Oper} {dr : Bool} : ∀ (l : List Oper) (xs : List SO) (s s' : CS), stripOs nt ops l = some xs → sops P A F fid dr xs s = some s' → cops P A F fid nt ops l s = some s'
  | [], xs, s, s', hx, h => by
    simp only [stripOs, Option.some.injEq] at hx
    subst hx
    simpa [sops, cops] using h
  | o :: l, xs, s, s', hx, h => by
    simp only [stripOs, Option.bind_eq_some_iff, Option.map_eq_some_iff] at hx
    obtain ⟨x, hx1, ys, hx2, rfl⟩ := hx
    simp only [sops, cops, Option.bind_eq_some_iff] at h ⊢
    obtain ⟨s1, h1, h2⟩ := h
    exact ⟨s1, sop_cop hx1 h1, sops_cops l ys s1 s' hx2 h2⟩

theorem effIx_rows : ∀ (rows : List Row) (i : Nat), (∀ (k : Nat) (x : Row), rows[k]? = some x → x.i = i + k) →
    effIx P A i (rows.map (·.o)) = (rows.filter fun x => effOp P x.o).map fun x => (x.i, calmOp A x.o.op)
  | [], i, _ => rfl
  | x :: r, i, h => by
    have ih := effIx_rows r (i + 1) fun k y hy => by
      have := h (k + 1) y (by simpa using hy)
      omega
    have h0 : x.i = i := by simpa using h 0 x rfl
    simp only [List.map_cons, effIx]
    by_cases he : effOp P x.o = true
    · simp only [List.filter_cons, he, if_true, List.map_cons, ih, h0]
    · simp only [List.filter_cons, he, ih]; rfl

theorem statL_spec {masks : List Nat} {es : List (Nat × Bool)} : ∀ (l : List Oper) (i : Nat), statL P masks es i l = true → ∀ (k : Nat) (o : Oper), l[k]? = some o →
    (quietOp o.op = true → memFree o.op = true ∨ statI masks es (i + k) = true) ∧ plainAlloc P o = false
  | [], _, _, k, o, ho => by simp at ho
  | x :: r, i, h, k, o, ho => by
    simp only [statL, Bool.and_eq_true, Bool.or_eq_true, Bool.not_eq_true'] at h
    cases k with
    | zero =>
      simp only [List.getElem?_cons_zero, Option.some.injEq] at ho
      subst ho
      refine ⟨fun hq => ?_, h.1.2⟩
      rcases h.1.1 with (h1 | h1) | h1
      · rw [hq] at h1; cases h1
      · exact .inl h1
      · exact .inr h1
    | succ k =>
      simp only [List.getElem?_cons_succ] at ho
      have := statL_spec r (i + 1) h.2 k o ho
      rwa [show i + 1 + k = i + (k + 1) from by omega] at this

theorem hoist_none : ∀ (l : List Oper) (i : Nat) (m : Mem), (∀ o ∈ l, plainAlloc P o = false) → hoist P A fid i l m = some ([], m)
  | [], _, _, _ => rfl
  | o :: r, i, m, h => by
    simp only [hoist, h o List.mem_cons_self]
    exact hoist_none r (i + 1) m fun o ho => h o (List.mem_cons_of_mem _ ho)

theorem steady_of {ops : List Oper} {masks : List Nat} {d : Row} {last : Mem} : ∀ (es : List Row), (∀ k, k ≤ es.length → (∀ (j : Nat) (e : Row), j < k → es[j]? = some e → (masks.getD e.i 0).testBit d.i = false) →
      (∀ (e : Row), es[k]? = some e → (masks.getD d.i 0).testBit e.i = false) → steadyAt P A F fid ops d (memo es last k) = true) → steady P A F fid ops masks d last es = true
  | [], h => by
    have := h 0 (Nat.le_refl _) (fun j e hj => by omega) (fun e he => by simp at he)
    simpa [steady, memo] using this
  | e :: es, h => by
    simp only [steady, Bool.and_eq_true, Bool.or_eq_true]
    refine ⟨?_, ?_⟩
    · cases hb : (masks.getD d.i 0).testBit e.i with
      | true => exact .inl rfl
      | false =>
        right
        have := h 0 (Nat.zero_le _) (fun j e hj => by omega) (fun e' he => by simp only [List.getElem?_cons_zero, Option.some.injEq] at he; subst he; exact hb)
        simpa [memo] using this
    · cases hb : (masks.getD e.i 0).testBit d.i with
      | true => exact .inl rfl
      | false =>
        right
        refine steady_of es fun k hk h1 h2 => ?_
        have := h (k + 1) (by simpa using hk) (fun j e' hj he => by
          cases j with
          | zero => simp only [List.getElem?_cons_zero, Option.some.injEq] at he; subst he; exact hb
          | succ j => exact h1 j e' (by omega) (by simpa using he)) (fun e' he => h2 e' (by simpa using he))
        simpa [memo] using this

theorem noRef_isRef {c : CV} (h : noRef c = true) : isRef c = false := by cases c <;> first | rfl | simp [noRef, isRef] at h
theorem calm_seen {o : Oper} (hc : calmOp A o.op = true) {c : CV} (h : cval P A F fid ρ o m = some (c, m')) (hf : ∀ f, ρ (.func f) = .func (.func f) [] []) (hr : noRef c = true) : SeenEq m m' := by
  obtain ⟨dst, op, ty, pos, after, guard⟩ := o
  cases op <;> simp only [calmOp, Bool.false_eq_true] at hc
  rename_i c0
  obtain ⟨callee, args, argTypes⟩ := c0
  cases callee <;> simp only [Bool.false_eq_true] at hc
  rename_i f
  cases f <;> simp only [Bool.false_eq_true] at hc
  rename_i f
  simp only [cval, hf, invokeC, List.nil_append, List.append_nil, callC, hc, if_true, Option.bind_eq_some_iff] at h
  obtain ⟨⟨xs, m1⟩, hx, h⟩ := h
  simp only at h
  split at h
  · simp only [Option.bind_eq_some_iff] at h
    obtain ⟨⟨r, H'⟩, hr', h⟩ := h
    simp only at h
    split at h
    · rename_i hng
      have hm : SeenEq m (if scalar r = true then m else m1) := by
        split
        · exact SeenEq.refl _
        · exact escList_seen hx
      generalize (if scalar r = true then m else m1) = m2 at h hm
      suffices hs : m' = m2 by rw [hs]; exact hm
      cases dst with
      | none =>
        simp only [takes, Option.some.injEq, Prod.mk.injEq] at h
        exact h.2.symm
      | some d =>
        simp only [takes, Option.some.injEq] at h
        have one : ∀ {gl : Bool} {j : Nat} {v : CV} {m : Mem}, isRef (adopt1 gl j v m).1 = false → (adopt1 gl j v m).2 = m ∧ (adopt1 gl j v m).1 = v := by
          intro gl j v m h
          cases v
          case own => simp [adopt1, isRef] at h
          all_goals exact ⟨rfl, rfl⟩
        cases r
        case tuple cs =>
          have many : ∀ {gl : Bool} (cs : List CV) (j : Nat) (m : Mem), ((adopts gl j cs m).1.all fun c => !(isRef c)) = true → (adopts gl j cs m).2 = m := by
            intro gl cs
            induction cs with
            | nil => intro j m _; rfl
            | cons v r ih =>
              intro j m hh
              simp only [adopts, List.all_cons, Bool.and_eq_true, Bool.not_eq_true'] at hh ⊢
              obtain ⟨e1, e2⟩ := one hh.1
              rw [e1] at hh ⊢
              exact ih _ _ hh.2
          simp only [adopt, Prod.mk.injEq] at h
          obtain ⟨rfl, rfl⟩ := h
          exact many _ _ _ (by simpa [noRef] using hr)
        all_goals
          simp only [adopt] at h
          have h1 := congrArg Prod.fst h
          have h2 := congrArg Prod.snd h
          simp only at h1 h2
          rw [← h2]
          refine (one ?_).1
          rw [h1]
          exact noRef_isRef hr
    · cases h
  · cases h
end
end Go.Cm

namespace Go.Cm

section
variable {P : Program} {A : Ann} {F : Oracle} {fid : FuncId} {nt : Nat} {m m' : Mem}

theorem evL_ev {ops : List Oper} {o : Oper} {sl : List CV} {x : Operand} (hx : x ∈ o.op.operands.toList) : evL (looks ops o) sl x = ev sl x := by
  cases x with
  | tmp t =>
    have : t ∈ looks ops o := by
      simp only [looks]
      refine List.mem_append_left _ (List.mem_filterMap.2 ⟨.tmp t, hx, rfl⟩)
    simp only [evL, ev]
    rw [if_pos (by simpa using this)]
  | const v => rfl
  | global g => rfl
  | func f => rfl

theorem drows_of {ops : List Oper} : ∀ (l : List Oper) (i : Nat) (xs : List SO) (s s' : CS), stripOs nt ops l = some xs → (∀ o ∈ l, plainAlloc P o = false) → sops P A F fid true xs s = some s' →
    ∃ rows, drows P A F fid nt ops [] i l s.sl s.m = some (rows, s'.sl, s'.m) ∧
      ∀ x ∈ rows, (calmOp A x.o.op = true → SeenEq x.m x.m') ∧ (x.go = true → quietOp x.o.op = true → cval P A F fid (evL (looks ops x.o) x.sl) x.o x.m = some (x.v, x.m))
  | [], i, xs, s, s', hx, _, h => by
    simp only [stripOs, Option.some.injEq] at hx
    subst hx
    simp only [sops, Option.some.injEq] at h
    subst h
    exact ⟨[], rfl, fun x hx => by simp at hx⟩
  | o :: l, i, xs, s, s', hx, hpa, h => by
    simp only [stripOs, Option.bind_eq_some_iff, Option.map_eq_some_iff] at hx
    obtain ⟨x, hx1, ys, hx2, rfl⟩ := hx
    simp only [sops, Option.bind_eq_some_iff] at h
    obtain ⟨s1, h1, h2⟩ := h
    obtain ⟨e1, e2, e3, e4, e5⟩ := stripO_spec hx1
    have hp := hpa o List.mem_cons_self
    have step : ∃ y : Row, drow P A F fid nt ops [] i o s.sl s.m = some y ∧ y.o = o ∧ s1 = { sl := sput s.sl o.dst y.v, m := y.m' } ∧
        (calmOp A y.o.op = true → SeenEq y.m y.m') ∧ (y.go = true → quietOp y.o.op = true → cval P A F fid (evL (looks ops y.o) y.sl) y.o y.m = some (y.v, y.m)) := by
      unfold sop at h1
      rw [cval_up o e2 e3, e5] at h1
      simp only [offC] at h1
      unfold drow
      rw [if_neg (by simp [e1]), e4, hp]
      have hc : cval P A F fid (evL (looks ops o) s.sl) o s.m = cval P A F fid (ev s.sl) o s.m := cval_congr fun y hy => evL_ev hy
      split at h1
      · rename_i hg
        simp only [hg, Bool.false_eq_true, if_false]
        simp only [Option.bind_eq_some_iff] at h1
        obtain ⟨⟨c, m1⟩, hy, h1⟩ := h1
        split at h1
        · cases h1
        · rename_i hnr
          simp only [Option.some.injEq] at h1
          rw [hc, hy]
          refine ⟨_, rfl, rfl, ?_, fun hcalm => ?_, fun _ hq => ?_⟩
          · simp only [← h1, e2]
            by_cases hq : quietOp o.op = true
            · simp only [hq, if_true]
              rw [quiet_mem hq hy]
            · simp only [hq, if_false]; rfl
          · simp only at hcalm ⊢
            split
            · exact SeenEq.refl _
            · refine calm_seen hcalm hy (fun f => rfl) ?_
              rw [e3, hcalm] at hnr
              simpa using hnr
          · simp only at hq ⊢
            rw [hc, hy, quiet_mem hq hy]
      · rename_i hg
        simp only [Option.some.injEq] at h1
        simp only [hg]
        exact ⟨_, rfl, rfl, by simp only [← h1, e2], fun _ => SeenEq.refl _, fun hgo => by cases hgo⟩
      · cases h1
    obtain ⟨y, hy1, hy2, hy3, hy4, hy5⟩ := step
    subst hy3
    obtain ⟨rows, g1, g2⟩ := drows_of l (i + 1) ys _ s' hx2 (fun o ho => hpa o (List.mem_cons_of_mem _ ho)) h2
    refine ⟨y :: rows, ?_, fun x hx => ?_⟩
    · simp only at g1
      simp only [drows, hy1, Option.bind_some, g1, Option.map_some]
    · rcases List.mem_cons.1 hx with rfl | hx
      · exact ⟨hy4, hy5⟩
      · exact g2 x hx

theorem memo_at {eff : Row → Bool} : ∀ (rows : List Row) (m : Mem), (∀ (k : Nat) (x : Row), rows[k]? = some x → x.m = mF (rows.take k) m ∧ (eff x = false → x.m' = x.m)) →
    ∀ (k : Nat) (x : Row), rows[k]? = some x → x.m = memo (rows.filter eff) (mF rows m) ((rows.take k).filter eff).length
  | [], m, _, k, x, hx => by simp at hx
  | y :: r, m, h, k, x, hx => by
    have hy := h 0 y (by simp)
    simp only [List.take_zero] at hy
    have hm : y.m = m := hy.1
    have hr : ∀ (k : Nat) (x : Row), r[k]? = some x → x.m = mF (r.take k) y.m' ∧ (eff x = false → x.m' = x.m) := fun k z hz => by
      have := h (k + 1) z (by simpa using hz)
      simpa [mF, List.take_succ_cons] using this
    have hF : mF (y :: r) m = mF r y.m' := rfl
    rw [hF]
    cases k with
    | zero =>
      simp only [List.getElem?_cons_zero, Option.some.injEq] at hx
      subst hx
      have := (memo_spec (eff := eff) (y :: r) m h).1
      rw [hF] at this
      simpa [hm] using this.symm
    | succ k =>
      simp only [List.getElem?_cons_succ] at hx
      have ih := memo_at (eff := eff) r y.m' hr k x hx
      rw [List.take_succ_cons]
      by_cases he : eff y = true
      · rw [List.filter_cons_of_pos he, List.filter_cons_of_pos he, List.length_cons]
        rw [ih]
        simp [memo]
      · rw [List.filter_cons_of_neg he, List.filter_cons_of_neg he]
        exact ih

theorem sdraw_ok {ops : List Oper} {xs : List SO} {s s' : CS} (hst : statOK P A ops = true) (hx : stripOs nt ops ops = some xs) (h : sops P A F fid true xs s = some s') : cdraw P A F fid nt ops s = some s' := by
  simp only [statOK, Bool.and_eq_true] at hst
  obtain ⟨hreg, hstat⟩ := hst
  have hsl := statL_spec ops 0 hstat
  have hpa : ∀ o ∈ ops, plainAlloc P o = false := fun o ho => by
    obtain ⟨k, hk⟩ := List.getElem?_of_mem ho
    exact (hsl k o hk).2
  obtain ⟨rows, hr, hrows⟩ := drows_of ops 0 xs s s' hx hpa h
  obtain ⟨r1, r2, r3, r4⟩ := drows_spec _ _ _ _ _ _ _ hr
  have hq0 : ∀ (k : Nat) (x : Row), rows[k]? = some x → x.m = mF (rows.take k) s.m ∧ (effOp P x.o = false → x.m' = x.m) := fun k x hx => ⟨(r4 k x hx).2.2.2.1, fun he => by
    obtain ⟨_, hc⟩ := drow_cases (r4 k x hx).2.2.2.2
    rcases hc with ⟨_, _, hm⟩ | ⟨_, _, hm, _⟩ | ⟨_, _, _, _, hm⟩ | ⟨_, hp, hq, _⟩
    · exact hm
    · exact hm
    · exact hm
    · simp [effOp, hp, hq] at he⟩
  have hnext := (memo_spec (eff := fun x => effOp P x.o) rows s.m hq0).2
  have hat := memo_at (eff := fun x => effOp P x.o) rows s.m hq0
  have hidx : ∀ (k : Nat) (x : Row), rows[k]? = some x → x.i = k := fun k x hx => by have := (r4 k x hx).2.1; omega
  have hops : rows.map (·.o) = ops := by
    apply List.ext_getElem?
    intro k
    rw [List.getElem?_map]
    cases hk : rows[k]? with
    | none =>
      rw [List.getElem?_eq_none_iff] at hk
      simp only [Option.map_none]
      exact (List.getElem?_eq_none (by omega)).symm
    | some x =>
      simp only [Option.map_some]
      exact (r4 k x hk).1.symm
  have hes : effIx P A 0 ops = (rows.filter fun x => effOp P x.o).map fun x => (x.i, calmOp A x.o.op) := by
    have := effIx_rows (P := P) (A := A) rows 0 fun k x hx => by rw [Nat.zero_add]; exact hidx k x hx
    rwa [hops] at this
  unfold cdraw
  simp only [hreg, if_true, hoist_none ops 0 s.m hpa, Option.bind_some, hr]
  rw [if_pos]
  simp only [keysOK, List.all_nil, Bool.and_self, Bool.true_and]
  rw [List.all_eq_true]
  intro x hxm
  simp only [Bool.or_eq_true, Bool.not_eq_true', Bool.and_eq_false_iff]
  by_cases hgo : x.go = true
  case neg => exact .inl (.inl (by simpa using hgo))
  by_cases hq : quietOp x.o.op = true
  case neg => exact .inl (.inr (by simpa using hq))
  right
  obtain ⟨i, hi⟩ := List.getElem?_of_mem hxm
  have hxi := hidx i x hi
  have hcv := (hrows x hxm).2 hgo hq
  have fin : ∀ mm, cval P A F fid (evL (looks ops x.o) x.sl) x.o mm = some (x.v, mm) → steadyAt P A F fid ops x mm = true := fun mm hmm => by
    simp only [steadyAt, hmm]
    exact beq_refl _
  refine steady_of _ fun k hk h1 h2 => fin _ ?_
  rcases (hsl i x.o (r4 i x hi).1).1 hq with hmf | hsi
  · exact cval_memFree hmf hcv _
  · refine cval_seen hq ?_ hcv
    rw [Nat.zero_add] at hsi
    generalize hesd : (rows.filter fun x => effOp P x.o) = es at *
    have hxm' : x.m = memo es s'.m ((rows.take i).filter fun x => effOp P x.o).length := by rw [r3]; exact hat i x hi
    generalize hp : ((rows.take i).filter fun x => effOp P x.o).length = p at hxm'
    have hpos : ∀ (j : Nat) (e : Row), es[j]? = some e → (j < p → e.i < i) ∧ (p ≤ j → i < e.i) := by
      intro j e he
      have hsplit : es = ((rows.take i).filter fun x => effOp P x.o) ++ ((rows.drop i).filter fun x => effOp P x.o) := by
        rw [← hesd, ← List.filter_append, List.take_append_drop]
      rw [hsplit] at he
      refine ⟨fun hj => ?_, fun hj => ?_⟩
      · rw [List.getElem?_append_left (by omega)] at he
        have hm := List.mem_of_getElem? he
        rw [List.mem_filter] at hm
        obtain ⟨q, hqq⟩ := List.getElem?_of_mem hm.1
        rw [List.getElem?_take] at hqq
        split at hqq
        · rw [hidx q e hqq]; assumption
        · cases hqq
      · rw [List.getElem?_append_right (by omega)] at he
        have hm := List.mem_of_getElem? he
        rw [List.mem_filter] at hm
        obtain ⟨q, hqq⟩ := List.getElem?_of_mem hm.1
        rw [List.getElem?_drop] at hqq
        have hei := hidx _ e hqq
        rcases Nat.eq_zero_or_pos q with h0 | h0
        · subst h0
          rw [Nat.add_zero, hi] at hqq
          simp only [Option.some.injEq] at hqq
          subst hqq
          have : effOp P x.o = false := quiet_noeff hq
          rw [this] at hm
          cases hm.2
        · omega
    have hcalm : ∀ (j : Nat) (e : Row), es[j]? = some e → calmOp A e.o.op = true ∨ (j < p ∧ ∀ (j' : Nat) (e' : Row), j' ≤ j → es[j']? = some e' → ((amasks ops []).getD i 0).testBit e'.i = true) ∨ (p ≤ j ∧ ((amasks ops []).getD e.i 0).testBit i = true) := by
      intro j e he
      have hlt := (List.getElem?_eq_some_iff.1 he).1
      simp only [statI, List.all_eq_true, List.mem_range, hes, List.length_map] at hsi
      have := hsi j hlt
      rw [List.getElem?_map, he] at this
      simp only [Option.map_some, Bool.or_eq_true, Bool.and_eq_true, decide_eq_true_eq] at this
      rcases this with (hc | ⟨hlt', hall⟩) | ⟨hlt', hb⟩
      · exact .inl hc
      · refine .inr (.inl ⟨?_, fun j' e' hj' he' => ?_⟩)
        · rcases Nat.lt_or_ge j p with h | h
          · exact h
          · have := (hpos j e he).2 h; omega
        · have := List.all_eq_true.1 hall (e'.i, calmOp A e'.o.op) (by
            rw [← List.map_take]
            refine List.mem_map.2 ⟨e', List.mem_of_getElem? (i := j') ?_, rfl⟩
            rw [List.getElem?_take, if_pos (by omega)]; exact he')
          simpa using this
      · refine .inr (.inr ⟨?_, hb⟩)
        rcases Nat.lt_or_ge j p with h | h
        · have := (hpos j e he).1 h; omega
        · exact h
    have hseen : ∀ (j : Nat) (e : Row), es[j]? = some e → calmOp A e.o.op = true → SeenEq (memo es s'.m j) (memo es s'.m (j + 1)) := by
      intro j e he hc
      have hin : e ∈ rows := by
        have := List.mem_of_getElem? he
        rw [← hesd, List.mem_filter] at this
        exact this.1
      have h3 : memo es s'.m (j + 1) = e.m' := by rw [r3]; exact hnext j e he
      rw [h3]
      have h4 : memo es s'.m j = e.m := by simp [memo, he]
      rw [h4]
      exact (hrows e hin).1 hc
    have chain : ∀ (d a : Nat), (∀ (j : Nat) (e : Row), a ≤ j → j < a + d → es[j]? = some e → calmOp A e.o.op = true) → a + d ≤ es.length → SeenEq (memo es s'.m a) (memo es s'.m (a + d)) := by
      intro d
      induction d with
      | zero => intro a _ _; exact SeenEq.refl _
      | succ d ih =>
        intro a hc hl
        have h3 := ih a (fun j e hj1 hj2 he => hc j e hj1 (by omega) he) (by omega)
        have hlt : a + d < es.length := by omega
        have h4 := hseen (a + d) es[a + d] (List.getElem?_eq_getElem hlt) (hc (a + d) _ (by omega) (by omega) (List.getElem?_eq_getElem hlt))
        exact h3.trans h4
    rw [hxm']
    have hpl : p ≤ es.length := by
      have hsplit : es = ((rows.take i).filter fun x => effOp P x.o) ++ ((rows.drop i).filter fun x => effOp P x.o) := by
        rw [← hesd, ← List.filter_append, List.take_append_drop]
      rw [hsplit, List.length_append]; omega
    rcases Nat.le_total k p with hkp | hkp
    · have := chain (p - k) k (fun j e hj1 hj2 he => by
        rcases hcalm j e he with hc | ⟨_, hall⟩ | ⟨hge, _⟩
        · exact hc
        · have hlt := (List.getElem?_eq_some_iff.1 he).1
          have hk' : es[k]? = some es[k] := List.getElem?_eq_getElem (by omega)
          have h5 := hall k _ hj1 hk'
          have h6 := h2 _ hk'
          rw [hxi, h5] at h6
          cases h6
        · omega) (by omega)
      rw [show k + (p - k) = p from by omega] at this
      exact this.symm
    · have := chain (k - p) p (fun j e hj1 hj2 he => by
        rcases hcalm j e he with hc | ⟨hlt, _⟩ | ⟨_, hb⟩
        · exact hc
        · omega
        · have h6 := h1 j e (by omega) he
          rw [hxi, hb] at h6
          cases h6) (by omega)
      rwa [show p + (k - p) = k from by omega] at this

end
end Go.Cm
