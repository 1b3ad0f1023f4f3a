/-
  The C machine, third part: regions (those that draw their order, too), code, functions.
-/
import Derived.Test.YtjmmeeokpncdbaaCvB
set_option linter.unusedSimpArgs false
set_option linter.unusedVariables false
namespace Go.Cm

mutual
def CV.beq : CV → CV → Bool
  | .dead, .dead => true
  | .bool a, .bool b => a == b
  | .int k a, .int k' b => decide (k = k') && decide (a = b)
  | .str a, .str b => decide (a = b)
  | .agg a, .agg b => beqs a b
  | .nil, .nil => true
  | .imm n a, .imm n' b => decide (n = n') && beqs a b
  | .own n s a v, .own n' s' b v' => decide (n = n') && decide (s = s') && decide (v = v') && beqs a b
  | .ref k g o l, .ref k' g' o' l' => decide (k = k') && decide (g = g') && decide (o = o') && decide (l = l')
  | .pnil, .pnil => true
  | .ptr k g o, .ptr k' g' o' => decide (k = k') && decide (g = g') && decide (o = o')
  | .rptr a, .rptr b => beqs a b
  | .mnil, .mnil => true
  | .map k g, .map k' g' => decide (k = k') && decide (g = g')
  | .func f a b, .func f' a' b' => decide (f = f') && beqs a a' && beqs b b'
  | .nilf, .nilf => true
  | .inil, .inil => true
  | .iface t v, .iface t' v' => decide (t = t') && CV.beq v v'
  | .tuple a, .tuple b => beqs a b
  | _, _ => false
def beqs : List CV → List CV → Bool
  | [], [] => true
  | a :: as, b :: bs => CV.beq a b && beqs as bs
  | _, _ => false
end

/-- a region's operation, its guard asked first -/
def guardC (ops : List Oper) (sl : List CV) (o : Oper) : Option Bool :=
  match o.guard with
  | none => some true
  | some (g, want) =>
    match (ops[g]?).bind (·.dst) with
    | some d => match sget sl d with
      | .bool b => some (b == want)
      | .tuple [] => some false
      | _ => none
    | none => none

section
variable (P : Program) (A : Ann) (F : Oracle) (fid : FuncId) (nt : Nat)

def dok (d : Option Tmp) : Bool := match d with | some d => decide (d < nt) | none => true
def cop (ops : List Oper) (o : Oper) (s : CS) : Option CS :=
  if dok nt o.dst = false then none else
  match guardC ops s.sl o with
  | some true => (cval P A F fid (ev s.sl) o s.m).map fun x => { sl := sput s.sl o.dst x.1, m := x.2 }
  | some false => some { s with sl := sput s.sl o.dst (.tuple []) }
  | none => none
def cops (ops : List Oper) : List Oper → CS → Option CS
  | [], s => some s
  | o :: r, s => (cop P A F fid nt ops o s).bind (cops ops r)

/-- who must have gone ahead -/
def amask (acc : List Nat) (o : Oper) : Nat :=
  o.after.toList.foldl (fun s e => if Region.binds .any e then s ||| (2 ^ e.on ||| acc.getD e.on 0) else s) 0
def amasks : List Oper → List Nat → List Nat
  | [], acc => acc
  | o :: r, acc => amasks r (acc ++ [amask acc o])

/-- does an operation do no more than answer a value? -/
def quietB : Builtin → Bool
  | .len => true
  | .max => true
  | .min => true
  | _ => false
def quietOp : Op → Bool
  | .move _ => true
  | .assign _ => true
  | .pick _ _ _ => true
  | .build _ _ => true
  | .load _ _ => true
  | .nilCheck _ => true
  | .binOp _ _ _ _ _ => true
  | .unOp _ _ _ => true
  | .convert _ _ _ => true
  | .makeInterface _ _ => true
  | .makeFunc _ _ _ => true
  | .slice _ _ _ _ _ => true
  | .fieldAddr _ _ _ => true
  | .field _ _ _ => true
  | .indexAddr _ _ _ => true
  | .index _ _ _ => true
  | .lookup _ _ _ _ => true
  | .typeAssert _ _ _ _ => true
  | .extract _ _ => true
  | .call c => match c.callee with
    | .builtin b => quietB b
    | _ => false
  | _ => false
/-- a new variable (no row), without a guard: made ahead of all -/
def plainAlloc (o : Oper) : Bool :=
  match o.op, o.guard, o.dst with
  | .alloc t, none, some _ => (tarr P t).isNone
  | _, _, _ => false
def effOp (o : Oper) : Bool := !(quietOp o.op) && !(plainAlloc P o)

/-- what an operation looks at -/
def looks (ops : List Oper) (o : Oper) : List Tmp :=
  (o.op.operands.toList.filterMap fun | .tmp t => some t | _ => none) ++
  (match o.guard with
   | some (g, _) => ((ops[g]?).bind (·.dst)).toList
   | none => [])
/-- may a region be done in any order that its edges allow? -/
def pairOK (ops : List Oper) (i j : Nat) (x y : Oper) (my : Nat) : Bool :=
  (match x.dst with | some d => (y.dst != some d) && (!((looks ops y).contains d) || my.testBit i) | none => true) &&
  (match y.dst with | some d => !((looks ops x).contains d) || my.testBit i | none => true) &&
  (!(effOp P x && effOp P y) || my.testBit i) && decide (i < j)
def rowOK (ops : List Oper) (j : Nat) (y : Oper) (my : Nat) : Nat → List Oper → Bool
  | _, [] => true
  | i, x :: r => if i < j then pairOK P ops i j x y my && rowOK ops j y my (i + 1) r else true
def regOK (ops : List Oper) (masks : List Nat) : Nat → List Oper → Bool
  | _, [] => true
  | j, y :: r => rowOK P ops j y (masks.getD j 0) 0 ops && y.after.toList.all (fun e => !(Region.binds .any e) || decide (e.on < j)) && regOK ops masks (j + 1) r

/-- the values that an operation looks at -/
def evL (ts : List Tmp) (sl : List CV) : Operand → CV
  | .tmp t => if ts.contains t then sget sl t else .dead
  | x => ev sl x

/-- new variables ahead of all: the operation's number, the key, its count, the cells -/
structure Al where
  i : Nat
  key : Key
  gn : Nat
  z : List CV
def hoist : Nat → List Oper → Mem → Option (List Al × Mem)
  | _, [], m => some ([], m)
  | i, o :: r, m =>
    if plainAlloc P o then
      match o.op with
      | .alloc t => (tzcells P t).bind fun z =>
        let x := m.add (gslot (A.glob fid) o.dst) (dslot o.dst) fun g => .var g z 0
        (hoist (i + 1) r x.2.2).map fun y => ({ i := i, key := x.1, gn := x.2.1, z := z } :: y.1, y.2)
      | _ => none
    else hoist (i + 1) r m
def aget : List Al → Nat → Option Al
  | [], _ => none
  | a :: r, j => if a.i = j then some a else aget r j

/-- what an operation did in the text's order: the slots and the memory ahead of it, whether it was wanted, its answer, the memory behind it -/
structure Row where
  i : Nat
  o : Oper
  sl : List CV
  m : Mem
  go : Bool
  v : CV
  m' : Mem
def drow (ops : List Oper) (al : List Al) (i : Nat) (o : Oper) (sl : List CV) (m : Mem) : Option Row :=
  if dok nt o.dst = false then none else
  match guardC ops sl o with
  | some true =>
    if plainAlloc P o then (aget al i).map fun a => { i := i, o := o, sl := sl, m := m, go := true, v := .ptr a.key a.gn 0, m' := m }
    else (cval P A F fid (evL (looks ops o) sl) o m).map fun x => { i := i, o := o, sl := sl, m := m, go := true, v := x.1, m' := if quietOp o.op then m else x.2 }
  | some false => some { i := i, o := o, sl := sl, m := m, go := false, v := .tuple [], m' := m }
  | none => none
def drows (ops : List Oper) (al : List Al) : Nat → List Oper → List CV → Mem → Option (List Row × List CV × Mem)
  | _, [], sl, m => some ([], sl, m)
  | i, o :: r, sl, m => (drow P A F fid nt ops al i o sl m).bind fun x => (drows ops al (i + 1) r (sput sl o.dst x.v) x.m').map fun y => (x :: y.1, y.2)

/-- is an answer the same at each memory at which it may be asked for? -/
def steadyAt (ops : List Oper) (d : Row) (m : Mem) : Bool :=
  match cval P A F fid (evL (looks ops d.o) d.sl) d.o m with
  | some (v, _) => CV.beq v d.v
  | none => false
def steady (ops : List Oper) (masks : List Nat) (d : Row) (last : Mem) : List Row → Bool
  | e :: es => (((masks.getD d.i 0).testBit e.i) || steadyAt P A F fid ops d e.m) && (((masks.getD e.i 0).testBit d.i) || steady ops masks d last es)
  | [] => steadyAt P A F fid ops d last
/-- is a new variable as it was made? -/
def freshAt (a : Al) (m : Mem) : Bool :=
  match m.get a.key with
  | some (.var g cs vl) => decide (g = a.gn) && decide (vl = 0) && beqs cs a.z
  | _ => false
def keysOK : List Al → Bool
  | [] => true
  | a :: r => r.all (fun b => decide (a.key ≠ b.key)) && keysOK r

def cdraw (ops : List Oper) (s : CS) : Option CS :=
  let masks := amasks ops []
  if regOK P ops masks 0 ops then
    (hoist P A fid 0 ops s.m).bind fun a =>
      (drows P A F fid nt ops a.1 0 ops s.sl a.2).bind fun t =>
        let es := t.1.filter fun x => effOp P x.o
        if keysOK a.1 && (a.1.all fun b => freshAt b a.2 && es.all fun e => (masks.getD e.i 0).testBit b.i || freshAt b e.m') &&
            (t.1.all fun x => !(x.go && quietOp x.o.op) || steady P A F fid ops masks x t.2.2 es) then some { sl := t.2.1, m := t.2.2 } else none
  else none

inductive CE where
  | normal
  | exit (id : Nat)
  | ret
  deriving DecidableEq, Inhabited

def iter : Nat → (CS → Option (CE × CS)) → CS → Option (CE × CS)
  | 0, _, _ => none
  | n + 1, f, s => (f s).bind fun r => match r.1 with
    | .normal => iter n f r.2
    | e => some (e, r.2)

def cexec (n : Nat) : Code → CS → Option (CE × CS)
  | .skip, s => some (.normal, s)
  | .label _, s => some (.normal, s)
  | .region id ops draw, s => (if draw then cdraw P A F fid nt ops.toList s else cops P A F fid nt ops.toList ops.toList s).map fun s' => (.normal, { sl := keepOnly (A.keep fid id) s'.sl, m := s'.m })
  | .seq a b, s => (cexec n a s).bind fun r => match r.1 with
    | .normal => cexec n b r.2
    | e => some (e, r.2)
  | .cond c x y, s => match ev s.sl c with
    | .bool true => cexec n x s
    | .bool false => cexec n y s
    | _ => none
  | .block id c, s => (cexec n c s).map fun r => match r.1 with
    | .exit i => if i = id then (.normal, r.2) else r
    | _ => r
  | .loop c, s => iter n (cexec n c) s
  | .exit id, s => some (.exit id, s)
  | .ret, s => some (.ret, s)
  | _, _ => none
end

/-- a result leaves its function: a row of its own goes with it -/
def retv (v : CV) (m : Mem) : Option (CV × Mem) :=
  match v with
  | .ref (.l j) gn off len =>
    match lget m.L j with
    | some (.arr g sz cs vl) =>
      if g = gn then some (.own len sz ((cs.drop off).take (len * sz)) (vl - off), m.set (.l j) (.arr (g + 1) sz [] 0)) else none
    | _ => none
  | v => esc deep v m
def resC (P : Program) (m : Mem) (sl : List CV) : ResultVar → Option CV
  | .tmp t => some (sget sl t)
  | .cell a t => cload P m t (sget sl a)
def resAll (P : Program) (sl : List CV) (m : Mem) : List ResultVar → Option (List CV)
  | [] => some []
  | r :: rs => (resC P m sl r).bind fun v => (resAll P sl m rs).map fun vs => v :: vs
def tup : List CV → CV
  | [v] => v
  | vs => .tuple vs

def ccall (P : Program) (A : Ann) (E : Oracle) : Nat → Oracle
  | 0, _, _, _ => none
  | n + 1, f, args, H =>
    match E f args H with
    | some r => some r
    | none =>
      match P.funcs[f]? with
      | none => none
      | some fn =>
        match fn.body with
        | none => none
        | some c =>
          if args.length ≤ fn.ntmps then
            (cexec P A (ccall P A E n) f fn.ntmps n c { sl := args, m := { L := [], H := H } }).bind fun r =>
              match r.1 with
              | .exit _ => none
              | _ =>
                (resAll P r.2.sl r.2.m fn.results.toList).bind fun vs =>
                  (mapMem retv vs r.2.m).map fun x => (tup x.1, x.2.H)
          else none
end Go.Cm
