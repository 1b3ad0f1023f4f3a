/-
  The C machine, first part: its values, its memory and what each operation does there. (A small abstract machine for Go code: slices that nobody writes any more are lists, the others are objects with a count of how often they may have moved.)
-/
import Derived.Orders
set_option linter.unusedSimpArgs false
set_option linter.unusedVariables false
namespace Go.Cm

inductive Key where
  | l (j : Nat)
  | g (n : Nat)
  deriving DecidableEq, Inhabited

inductive CV where
  | dead
  | bool (b : Bool)
  | int (k : IntKind) (n : Int)
  | str (s : ByteArray)
  | agg (cs : List CV)
  | nil
  | imm (n : Nat) (cs : List CV)
  | own (n sz : Nat) (cs : List CV) (vl : Nat)
  | ref (k : Key) (gn off len : Nat)
  | pnil
  | ptr (k : Key) (gn off : Nat)
  | rptr (cs : List CV)
  | mnil
  | map (k : Key) (gn : Nat)
  | func (fn : Fn) (first captured : List CV)
  | nilf
  | inil
  | iface (t : TypeId) (v : CV)
  | tuple (cs : List CV)
  deriving Inhabited

inductive HO where
  | var (gn : Nat) (cs : List CV) (vl : Nat)
  | arr (gn sz : Nat) (cs : List CV) (vl : Nat)
  | map (gn : Nat) (es : List (CV × CV))
  deriving Inhabited

def HO.gn : HO → Nat
  | .var g _ _ => g
  | .arr g _ _ _ => g
  | .map g _ => g
def HO.cells : HO → List CV
  | .var _ cs _ => cs
  | .arr _ _ cs _ => cs
  | .map _ _ => []
def HO.vl : HO → Nat
  | .var _ _ v => v
  | .arr _ _ _ v => v
  | .map _ _ => 0
def HO.isMap : HO → Bool
  | .map _ _ => true
  | _ => false
/-- other cells in a row or a variable -/
def HO.withCells : HO → List CV → HO
  | .var g _ v, cs => .var g cs v
  | .arr g s _ v, cs => .arr g s cs v
  | h, _ => h
/-- the first cells are seen by somebody -/
def HO.seen : HO → Nat → HO
  | .var g cs v, n => .var g cs (max v n)
  | .arr g s cs v, n => .arr g s cs (max v n)
  | h, _ => h

structure Mem where
  L : List (Nat × HO)
  H : List HO
  deriving Inhabited

def lget : List (Nat × HO) → Nat → Option HO
  | [], _ => none
  | (i, h) :: r, j => if i = j then some h else lget r j
def lset : List (Nat × HO) → Nat → HO → List (Nat × HO)
  | [], j, x => [(j, x)]
  | (i, h) :: r, j, x => if i = j then (j, x) :: r else (i, h) :: lset r j x

def Mem.get (m : Mem) : Key → Option HO
  | .l j => lget m.L j
  | .g n => m.H[n]?
def Mem.set (m : Mem) : Key → HO → Mem
  | .l j, h => { m with L := lset m.L j h }
  | .g n, h => { m with H := m.H.set n h }

def sget : List CV → Nat → CV
  | [], _ => .dead
  | x :: _, 0 => x
  | _ :: xs, n + 1 => sget xs n
def sset : List CV → Nat → CV → List CV
  | [], 0, v => [v]
  | [], n + 1, v => .dead :: sset [] n v
  | _ :: xs, 0, v => v :: xs
  | x :: xs, n + 1, v => x :: sset xs n v

/-- a constant -/
def ofLeaf : Value → CV
  | .bool b => .bool b
  | .int k n => .int k n
  | .string s => .str s
  | .pointer none => .pnil
  | .slice none 0 0 => .nil
  | .map none => .mnil
  | .nilFunc => .nilf
  | .nilIface => .inil
  | _ => .dead
def ofV : Value → CV
  | .agg cs => .agg (cs.toList.map ofLeaf)
  | v => ofLeaf v
def leafV : CV → Bool
  | .dead => false
  | .agg _ => false
  | .own _ _ _ _ => false
  | .tuple _ => false
  | _ => true
/-- a value's cells -/
def ccells : CV → Option (List CV)
  | .agg cs => some cs
  | .dead => none
  | .own _ _ _ _ => none
  | .tuple _ => none
  | v => some [v]

/-- types -/
def tsize (P : Program) (t : TypeId) : Option Nat := (P.info? t).map (·.size)
def tbytes (P : Program) (t : TypeId) : Option Nat := (P.info? t).map (·.bytes)
def tzero (P : Program) (t : TypeId) : Option CV := ((P.info? t).bind (·.zero)).bind fun z =>
  match ccells (ofV z) with
  | some cs => if cs.all leafV then some (ofV z) else none
  | none => none
def tzcells (P : Program) (t : TypeId) : Option (List CV) := (tzero P t).bind ccells
def tagg (P : Program) (t : TypeId) : Option Bool :=
  match P.underlying t with
  | some (.struct _) | some (.array _ _) => some true
  | some _ => some false
  | none => none
def telem (P : Program) (t : TypeId) : Option TypeId :=
  match P.underlying t with
  | some (.slice e) => some e
  | _ => none
def tarr (P : Program) (t : TypeId) : Option (Nat × TypeId) :=
  match P.underlying t with
  | some (.array n e) => some (n, e)
  | _ => none
def tmap (P : Program) (t : TypeId) : Option (TypeId × TypeId) :=
  match P.underlying t with
  | some (.map k e) => some (k, e)
  | _ => none
def tfield (P : Program) (t : TypeId) (f : Nat) : Option (Nat × TypeId) :=
  match P.underlying t with
  | some (.struct fs) => (fs[f]?).map fun x => (x.offset, x.type)
  | _ => none
def tkind (P : Program) (t : TypeId) : Option IntKind :=
  match P.underlying t with
  | some (.int k) => some k
  | _ => none

/-- cells at a pointer -/
def cellsAt (m : Mem) (p : CV) (n : Nat) : Option (List CV) :=
  match p with
  | .rptr cs => if n ≤ cs.length then some (cs.take n) else none
  | .ptr k gn off =>
    match m.get k with
    | some h => if h.gn = gn ∧ h.isMap = false ∧ off + n ≤ h.cells.length then some ((h.cells.drop off).take n) else none
    | none => none
  | _ => none
def cload (P : Program) (m : Mem) (t : TypeId) (p : CV) : Option CV :=
  match tagg P t with
  | some true => (tsize P t).bind fun sz => (cellsAt m p sz).map .agg
  | some false => (cellsAt m p 1).bind (·.head?)
  | none => none

/-- what a slice holds -/
def content (m : Mem) (sz : Nat) (v : CV) : Option (List CV) :=
  match v with
  | .nil => some []
  | .imm n cs => if cs.length = n * sz then some cs else none
  | .ref k gn off len =>
    match m.get k with
    | some (.arr g s cs _) => if g = gn ∧ s = sz then some ((cs.drop off).take (len * sz)) else none
    | _ => none
  | _ => none
def clen (v : CV) : Option Nat :=
  match v with
  | .nil => some 0
  | .imm n _ => some n
  | .ref _ _ _ len => some len
  | _ => none

/-- one behind the other -/
def mapMem (f : CV → Mem → Option (CV × Mem)) : List CV → Mem → Option (List CV × Mem)
  | [], m => some ([], m)
  | v :: r, m => (f v m).bind fun x => (mapMem f r x.2).map fun y => (x.1 :: y.1, y.2)
/-- a value that leaves the function's own memory: rows of its own become rows that nobody writes -/
def esc : Nat → CV → Mem → Option (CV × Mem)
  | 0, _, _ => none
  | n + 1, v, m =>
    match v with
    | .ref (.l j) gn off len =>
      match lget m.L j with
      | some (.arr g sz cs vl) =>
        if g = gn then some (.imm len ((cs.drop off).take (len * sz)), m.set (.l j) ((HO.arr g sz cs vl).seen (off + len * sz))) else none
      | _ => none
    | .ptr (.l j) gn off =>
      match lget m.L j with
      | some h =>
        if h.gn = gn ∧ h.isMap = false ∧ off ≤ h.cells.length then
          (mapMem (esc n) (h.cells.drop off) m).bind fun x =>
            match lget x.2.L j with
            | some h' => some (.rptr x.1, x.2.set (.l j) (h'.seen h.cells.length))
            | none => none
        else none
      | _ => none
    | .map (.l _) _ => none
    | .own _ _ _ _ => none
    | .dead => none
    | .agg cs => (mapMem (esc n) cs m).map fun x => (.agg x.1, x.2)
    | .tuple cs => (mapMem (esc n) cs m).map fun x => (.tuple x.1, x.2)
    | .iface t x => (esc n x m).map fun y => (.iface t y.1, y.2)
    | .func f a b => (mapMem (esc n) a m).bind fun x => (mapMem (esc n) b x.2).map fun y => (.func f x.1 y.1, y.2)
    | v => some (v, m)
/-- how deep values are escaped -/
def deep : Nat := 6

mutual
/-- does a value lead to nothing that may be written? -/
def noG : CV → Bool
  | .ref _ _ _ _ => false
  | .ptr _ _ _ => false
  | .map _ _ => false
  | .dead => false
  | .agg cs => noGs cs
  | .imm _ cs => noGs cs
  | .own _ _ cs _ => noGs cs
  | .rptr cs => noGs cs
  | .tuple cs => noGs cs
  | .iface _ v => noG v
  | .func _ a b => noGs a && noGs b
  | _ => true
def noGs : List CV → Bool
  | [] => true
  | c :: cs => noG c && noGs cs
end
end Go.Cm
