/-
  The C machine, second part: what operations, code and calls do on it.
-/
import Derived.Test.YtjmmeeokpncdbaaCvA
set_option linter.unusedSimpArgs false
set_option linter.unusedVariables false
namespace Go.Cm

/-- what the machine is told of a program: which slots' new memory is everybody's; which functions touch nothing of their callers' -/
structure Ann where
  glob : FuncId → List Nat := fun _ => []
  pure : FuncId → Bool := fun _ => false
  keep : FuncId → Nat → Option (List Tmp) := fun _ _ => none

abbrev Oracle := FuncId → List CV → List HO → Option (CV × List HO)

structure CS where
  sl : List CV
  m : Mem
  deriving Inhabited

def ofC (v : Value) : CV :=
  match ofV v with
  | .agg cs => if cs.all leafV then .agg cs else .dead
  | c => c
def ev (sl : List CV) : Operand → CV
  | .tmp t => sget sl t
  | .const v => ofC v
  | .func f => .func (.func f) [] []
  | .global _ => .dead
def sput (sl : List CV) (d : Option Tmp) (v : CV) : List CV :=
  match d with
  | some d => sset sl d v
  | none => sl

/-- a new object: its key, its count, the memory with it -/
def Mem.add (m : Mem) (glob : Bool) (j : Nat) (mk : Nat → HO) : Key × Nat × Mem :=
  if glob then (.g m.H.length, 1, { m with H := m.H ++ [mk 1] })
  else
    let g := ((lget m.L j).map HO.gn).getD 0 + 1
    (.l j, g, { m with L := lset m.L j (mk g) })

def splice (cs : List CV) (off : Nat) (new : List CV) : List CV := cs.take off ++ (new ++ cs.drop (off + new.length))

def fillC (place : Nat → Option (Nat × Nat)) (cells : List CV) : List (Nat × CV) → Option (List CV)
  | [] => some cells
  | (i, v) :: rest =>
    match place i with
    | none => none
    | some (off, size) =>
      match ccells v with
      | some vs => if vs.length = size ∧ off + size ≤ cells.length then fillC place (splice cells off vs) rest else none
      | none => none

def reps : Nat → List CV → List CV
  | 0, _ => []
  | n + 1, cs => cs ++ reps n cs

/-- whole numbers -/
def bitop (op : BinOp) (k : IntKind) (x y : Int) : Int :=
  let a := BitVec.ofInt k.bits x
  let b := BitVec.ofInt k.bits y
  k.wrap (match op with
    | .and => a &&& b
    | .or => a ||| b
    | .xor => a ^^^ b
    | _ => a &&& ~~~b).toNat
def intBin (op : BinOp) (k : IntKind) (a b : Int) : Option CV :=
  match op with
  | .add => some (.int k (k.wrap (a + b)))
  | .sub => some (.int k (k.wrap (a - b)))
  | .mul => some (.int k (k.wrap (a * b)))
  | .quo => if b = 0 then none else some (.int k (k.wrap (a.tdiv b)))
  | .rem => if b = 0 then none else some (.int k (a.tmod b))
  | .and => some (.int k (bitop .and k a b))
  | .or => some (.int k (bitop .or k a b))
  | .xor => some (.int k (bitop .xor k a b))
  | .andNot => some (.int k (bitop .andNot k a b))
  | .eql => some (.bool (a == b))
  | .neq => some (.bool (a != b))
  | .lss => some (.bool (a < b))
  | .leq => some (.bool (a ≤ b))
  | .gtr => some (.bool (a > b))
  | .geq => some (.bool (a ≥ b))
  | _ => none
def shiftC (op : BinOp) (k : IntKind) (x y : Int) : Option CV :=
  if y < 0 then none
  else match op with
    | .shl => some (.int k (k.wrap (x * 2 ^ (min y.toNat k.bits))))
    | .shr => some (.int k (x.fdiv (2 ^ (min y.toNat k.bits))))
    | _ => none

def partC (P : Program) (t : TypeId) (cs : List CV) (off : Nat) : Option CV :=
  match tagg P t with
  | some true => (tsize P t).map fun sz => .agg ((cs.drop off).take sz)
  | some false => cs[off]?
  | none => none

/-- equality -/
def ceqF (P : Program) (eq : TypeId → CV → CV → Option Bool) (xs ys : List CV) : List Field → Option Bool
  | [] => some true
  | f :: fs =>
    if f.name = "_" then ceqF P eq xs ys fs else
    match partC P f.type xs f.offset, partC P f.type ys f.offset with
    | some a, some b => match eq f.type a b with
      | some true => ceqF P eq xs ys fs
      | r => r
    | _, _ => none
def ceq (P : Program) : Nat → TypeId → CV → CV → Option Bool
  | 0, _, _, _ => none
  | d + 1, t, x, y =>
    match P.underlying t with
    | some .bool => match x, y with
      | .bool a, .bool b => some (a == b)
      | _, _ => none
    | some (.int _) => match x, y with
      | .int k a, .int k' b => if k = k' then some (a == b) else none
      | _, _ => none
    | some .string => match x, y with
      | .str a, .str b => some (a == b)
      | _, _ => none
    | some (.pointer _) => match x, y with
      | .pnil, .pnil => some true
      | .pnil, .rptr _ => some false
      | .rptr _, .pnil => some false
      | _, _ => none
    | some (.interface _) => match x, y with
      | .inil, .inil => some true
      | .inil, .iface _ _ => some false
      | .iface _ _, .inil => some false
      | .iface tx vx, .iface ty vy =>
        if tx ≠ ty then some false
        else if ((P.info? tx).map (·.comparable)) = some true then ceq P d tx vx vy else none
      | _, _ => none
    | some (.struct fields) => match x, y with
      | .agg xs, .agg ys => if P.stoodInHeld t then none else ceqF P (ceq P d) xs ys fields.toList
      | _, _ => none
    | _ => none
def isConst : Operand → Bool
  | .const _ => true
  | _ => false
def eqC (P : Program) (t : TypeId) (x y : Operand) (a b : CV) : Option Bool :=
  match a, b with
  | .inil, .inil => if isConst x || isConst y then ceq P 20 t a b else none
  | .agg _, .agg _ => if P.eqGuardType P.depth t then none else ceq P 20 t a b
  | _, _ => ceq P 20 t a b
def cbin (P : Program) (op : BinOp) (t : TypeId) (x y : Operand) (a b : CV) : Option CV :=
  match a, b with
  | .int k i, .int k' j =>
    match op with
    | .shl => shiftC .shl k i j
    | .shr => shiftC .shr k i j
    | op => if k = k' then intBin op k i j else none
  | .str i, .str j =>
    match op with
    | .eql => some (.bool (i.toList == j.toList))
    | .neq => some (.bool (!(i.toList == j.toList)))
    | _ => none
  | a, b =>
    match op with
    | .eql => (eqC P t x y a b).map .bool
    | .neq => (eqC P t x y a b).map fun r => .bool (!r)
    | _ => none
def cun (op : UnOp) (a : CV) : Option CV :=
  match op, a with
  | .neg, .int k n => some (.int k (k.wrap (0 - n)))
  | .xor, .int k n => some (.int k (bitop .xor k (if k.signed then -1 else k.max) n))
  | .not, .bool b => some (.bool !b)
  | _, _ => none

/-- maps: keys are whole numbers, bools, structs of these -/
def ckey (P : Program) (t : TypeId) (k : CV) : List (CV × CV) → Nat → Option (Option (Nat × CV))
  | [], _ => some none
  | e :: es, i =>
    match ceq P 20 t k e.1 with
    | some true => some (some (i, e.2))
    | some false => ckey P t k es (i + 1)
    | none => none
def mapOf (m : Mem) (v : CV) : Option (List (CV × CV)) :=
  match v with
  | .mnil => some []
  | .map k gn =>
    match m.get k with
    | some (.map g es) => if g = gn then some es else none
    | _ => none
  | _ => none
def isKey : CV → Bool
  | .int _ _ => true
  | .bool _ => true
  | _ => false
def plainKey (P : Program) (t : TypeId) : Bool :=
  match P.underlying t with
  | some (.int _) | some .bool => true
  | _ => false

/-- stores: into a variable of the function's own, as it is; into all else, escaped -/
def escList (m : Mem) (cs : List CV) : Option (List CV × Mem) := mapMem (esc deep) cs m
def cstoreAt (m : Mem) (p : CV) (cs : List CV) : Option Mem :=
  match p with
  | .ptr k gn off =>
    match m.get k with
    | some (.var g cells vl) =>
      if g = gn ∧ off + cs.length ≤ cells.length ∧ vl ≤ off then
        match k with
        | .l j => some (m.set (.l j) (.var g (splice cells off cs) vl))
        | .g n => (escList m cs).map fun x => x.2.set (.g n) (.var g (splice cells off x.1) vl)
      else none
    | some (.arr g sz cells vl) =>
      if g = gn ∧ off + cs.length ≤ cells.length ∧ vl ≤ off then
        (escList m cs).bind fun x =>
          match x.2.get k with
          | some (.arr g' _ _ vl') => if g' = gn ∧ vl' ≤ off then some (x.2.set k (.arr g sz (splice cells off x.1) vl')) else none
          | _ => none
      else none
    | _ => none
  | _ => none
def cstore (P : Program) (m : Mem) (t : TypeId) (p v : CV) : Option Mem :=
  match tsize P t, ccells v with
  | some n, some cs => if cs.length = n then cstoreAt m p cs else none
  | _, _ => none

/-- the greatest number of elements, and of bytes of one -/
def most : Nat := 4294967296
def small (P : Program) (e : TypeId) (n : Nat) : Bool :=
  match tbytes P e with
  | some b => b ≤ 1024 && n ≤ most
  | none => false

def cappend (P : Program) (glob : Bool) (j : Nat) (e : TypeId) (s x : CV) (m : Mem) : Option (CV × Mem) :=
  match tsize P e, tzcells P e with
  | some sz, some z =>
    if sz = 0 ∨ z.length ≠ sz then none else
    match content m sz x, clen x with
    | some ys, some n =>
      match s with
      | .nil =>
        if n = 0 then some (.nil, m)
        else if small P e n then
          let r := m.add glob j fun g => .arr g sz ys 0
          some (.ref r.1 r.2.1 0 n, r.2.2)
        else none
      | .ref k gn off len =>
        match m.get k with
        | some (.arr g s' cs vl) =>
          if g = gn ∧ s' = sz ∧ vl ≤ off + len * sz ∧ small P e (len + n) then
            some (.ref k (g + 1) 0 (len + n), m.set k (.arr (g + 1) sz ((cs.drop off).take (len * sz) ++ ys) (vl - off)))
          else none
        | _ => none
      | _ => none
    | _, _ => none
  | _, _ => none

def ccopy (P : Program) (e : TypeId) (d x : CV) (m : Mem) : Option (CV × Mem) :=
  match tsize P e with
  | some sz =>
    match content m sz x, clen x, clen d with
    | some ys, some n, some dl =>
      let c := min n dl
      if c = 0 then some (.int .i64 0, m) else
      match d with
      | .ref k gn off _ =>
        match m.get k with
        | some (.arr g s' cs vl) =>
          if g = gn ∧ s' = sz ∧ vl ≤ off then some (.int .i64 c, m.set k (.arr g sz (splice cs off (ys.take (c * sz))) vl)) else none
        | _ => none
      | _ => none
    | _, _, _ => none
  | none => none

def asNat : CV → Option Nat
  | .int _ i => if 0 ≤ i then some i.toNat else none
  | _ => none

def bounds (len : Nat) (lo hi : Option CV) : Option (Nat × Nat) :=
  match (match hi with | some v => asNat v | none => some len), (match lo with | some v => asNat v | none => some 0) with
  | some h, some l => if l ≤ h ∧ h ≤ len then some (l, h) else none
  | _, _ => none

def mxOK : Option CV → Option CV → Bool
  | _, none => true
  | some (.int _ b), some (.int _ a) => a == b
  | _, _ => false
/-- a slice's part; with a third index only where that is the second one -/
def cslice (P : Program) (t : TypeId) (x : CV) (lo hi mx : Option CV) (m : Mem) : Option CV :=
  match mxOK hi mx with
  | false => none
  | true =>
    match P.underlying t with
    | some (.slice e) =>
      match tsize P e, clen x with
      | some sz, some len =>
        match bounds len lo hi with
        | some (l, h) =>
          match x with
          | .nil => some .nil
          | .imm _ cs => some (.imm (h - l) ((cs.drop (l * sz)).take ((h - l) * sz)))
          | .ref k gn off _ =>
            match m.get k with
            | some (.arr g s' _ _) => if g = gn ∧ s' = sz then some (.ref k gn (off + l * sz) (h - l)) else none
            | _ => none
          | _ => none
        | none => none
      | _, _ => none
    | some (.array n e) =>
      match tsize P e, bounds n lo hi, x with
      | some sz, some (l, h), .ptr k gn off =>
        match m.get k with
        | some (.arr g s' cs _) => if g = gn ∧ s' = sz ∧ off + n * sz ≤ cs.length then some (.ref k gn (off + l * sz) (h - l)) else none
        | _ => none
      | _, _, _ => none
    | _ => none

def cindexAddr (P : Program) (t : TypeId) (x i : CV) : Option CV :=
  match asNat i with
  | none => none
  | some i =>
    match P.underlying t with
    | some (.slice e) =>
      match tsize P e, x with
      | some sz, .imm n cs => if i < n ∧ i * sz < cs.length then some (.rptr (cs.drop (i * sz))) else none
      | some sz, .ref k gn off len => if i < len then some (.ptr k gn (off + i * sz)) else none
      | _, _ => none
    | some (.array n e) =>
      match tsize P e, x with
      | some sz, .ptr k gn off => if i < n then some (.ptr k gn (off + i * sz)) else none
      | some sz, .rptr cs => if i < n then some (.rptr (cs.drop (i * sz))) else none
      | _, _ => none
    | _ => none

def cfieldAddr (P : Program) (t : TypeId) (x : CV) (f : Nat) : Option CV :=
  match tfield P t f with
  | none => none
  | some (off, ft) =>
    match tsize P ft with
    | some (_ + 1) => match x with
      | .ptr k gn o => some (.ptr k gn (o + off))
      | .rptr cs => some (.rptr (cs.drop off))
      | _ => none
    | _ => none

def tcomp (P : Program) (t : TypeId) : Option Bool := (P.info? t).map (·.comparable)

/-- results are laid into the caller's slot: rows that are the caller's now get keys of its own -/
def adopt1 (glob : Bool) (j : Nat) (v : CV) (m : Mem) : CV × Mem :=
  match v with
  | .own n sz cs vl =>
    let r := m.add glob j fun g => .arr g sz cs vl
    (.ref r.1 r.2.1 0 n, r.2.2)
  | v => (v, m)
def adopts (glob : Bool) : Nat → List CV → Mem → List CV × Mem
  | _, [], m => ([], m)
  | j, v :: r, m =>
    let x := adopt1 glob j v m
    let y := adopts glob (j + 1) r x.2
    (x.1 :: y.1, y.2)
def adopt (glob : Bool) (d : Nat) (v : CV) (m : Mem) : CV × Mem :=
  match v with
  | .tuple cs =>
    let y := adopts glob (16 * d + 1) cs m
    (.tuple y.1, y.2)
  | v => adopt1 glob (16 * d) v m

/-- is a result nothing that may hold a row? -/
def scalar : CV → Bool
  | .bool _ => true
  | .int _ _ => true
  | .nil => true
  | .tuple cs => cs.all fun
    | .bool _ => true
    | .int _ _ => true
    | .nil => true
    | _ => false
  | _ => false

def gslot (gs : List Nat) : Option Tmp → Bool
  | some d => gs.contains d
  | none => false
def dslot : Option Tmp → Nat
  | some d => 16 * d
  | none => 0
/-- slots that are kept, the others go -/
def keepOnly : Option (List Tmp) → List CV → List CV
  | none, sl => sl
  | some ks, sl => ks.foldl (fun acc t => sset acc t (sget sl t)) []
/-- a call's answer goes into its slot -/
def takes (gs : List Nat) (d : Option Tmp) (r : CV) (m : Mem) : Option (CV × Mem) :=
  match d with
  | some d => some (adopt (gs.contains d) d r m)
  | none => some (.dead, m)
def callC (A : Ann) (F : Oracle) (fid : FuncId) (d : Option Tmp) (f : FuncId) (args : List CV) (m : Mem) : Option (CV × Mem) :=
  (escList m args).bind fun x =>
    if A.pure f then
      if noGs x.1 then
        (F f x.1 []).bind fun r => if noG r.1 then takes (A.glob fid) d r.1 (if scalar r.1 then m else x.2) else none
      else none
    else
      (F f x.1 x.2.H).bind fun r => takes (A.glob fid) d r.1 { L := x.2.L, H := r.2 }

/-- a method of a value behind an interface -/
def methodC (P : Program) (t : TypeId) (v : CV) (name : String) : Option (FuncId × CV) :=
  match P.info? t with
  | none => none
  | some i =>
    match i.methods.find? (·.name == name) with
    | none => none
    | some x =>
      match x.path.toList, x.func with
      | [], some (f, ptr) =>
        match P.underlying t, ptr with
        | some (.pointer _), true => some (f, v)
        | some (.pointer _), false => none
        | some _, false => some (f, v)
        | _, _ => none
      | _, _ => none
def isIface (P : Program) (t : TypeId) : Bool :=
  match P.underlying t with
  | some (.interface _) => true
  | _ => false
def invokeC (A : Ann) (F : Oracle) (fid : FuncId) (d : Option Tmp) (f : CV) (args : List CV) (m : Mem) : Option (CV × Mem) :=
  match f with
  | .func (.func f) first captured => callC A F fid d f (first ++ args ++ captured) m
  | _ => none

def minmax (b : Bool) : List CV → Option CV
  | [.int k a, .int k' c] => if k = k' then some (.int k (if b then (if c > a then c else a) else (if c < a then c else a))) else none
  | _ => none

def cval (P : Program) (A : Ann) (F : Oracle) (fid : FuncId) (ρ : Operand → CV) (o : Oper) (m : Mem) : Option (CV × Mem) :=
  let glob : Bool := gslot (A.glob fid) o.dst
  let j : Nat := dslot o.dst
  match o.op with
  | .move x => some (ρ x, m)
  | .assign x => some (ρ x, m)
  | .pick c a b => match ρ c with
    | .bool true => some (ρ a, m)
    | .bool false => some (ρ b, m)
    | _ => none
  | .alloc t => match tzcells P t with
    | some z =>
      let r := m.add glob j fun g => match tarr P t with
        | some (_, e) => .arr g ((tsize P e).getD 0) z 0
        | none => .var g z 0
      some (.ptr r.1 r.2.1 0, r.2.2)
    | none => none
  | .box t x =>
    match ccells (ρ x), tarr P t with
    | some cs, some (_, e) => (escList m cs).map fun y =>
      let r := y.2.add glob j fun g => .arr g ((tsize P e).getD 0) y.1 0
      (.ptr r.1 r.2.1 0, r.2.2)
    | some cs, none =>
      if glob then (escList m cs).map fun y =>
        let r := y.2.add glob j fun g => .var g y.1 0
        (.ptr r.1 r.2.1 0, r.2.2)
      else
        let r := m.add glob j fun g => .var g cs 0
        some (.ptr r.1 r.2.1 0, r.2.2)
    | none, _ => none
  | .build t parts =>
    match tzcells P t, P.underlying t with
    | some z, some (.struct fields) =>
      if fields.toList.all (fun f => (tsize P f.type).isSome) then (fillC (fun i => (fields[i]?).bind fun f => (tsize P f.type).map fun s => (f.offset, s)) z (parts.toList.map fun p => (p.1, ρ p.2))).map fun cs => (.agg cs, m)
      else none
    | some z, some (.array _ e) =>
      (tsize P e).bind fun s => (fillC (fun i => some (i * s, s)) z (parts.toList.map fun p => (p.1, ρ p.2))).map fun cs => (.agg cs, m)
    | _, _ => none
  | .buildSlice t n parts =>
    match telem P t with
    | some e =>
      match tsize P e, tzcells P e with
      | some s, some z =>
        if n * s ≤ 1048576 ∧ z.length = s then
          (fillC (fun i => some (i * s, s)) (reps n z) (parts.toList.map fun p => (p.1, ρ p.2))).bind fun cs =>
            (escList m cs).map fun y =>
              let r := y.2.add glob j fun g => .arr g s y.1 0
              (.ref r.1 r.2.1 0 n, r.2.2)
        else none
      | _, _ => none
    | none => none
  | .load t a => (cload P m t (ρ a)).map fun v => (v, m)
  | .store t a x => (cstore P m t (ρ a) (ρ x)).map fun m' => (.dead, m')
  | .nilCheck x => match ρ x with
    | .ptr k g o => some (.ptr k g o, m)
    | .rptr cs => some (.rptr cs, m)
    | _ => none
  | .binOp op t x y _ => (cbin P op t x y (ρ x) (ρ y)).map fun v => (v, m)
  | .unOp op _ x => (cun op (ρ x)).map fun v => (v, m)
  | .convert src dst x => match P.underlying src, tkind P dst, ρ x with
    | some _, some k, .int _ n => some (.int k (k.wrap n), m)
    | _, _, _ => none
  | .makeInterface t x => if isIface P t || (P.underlying t).isNone then none else some (.iface t (ρ x), m)
  | .makeFunc fn first captured => some (.func fn (first.toList.map ρ) (captured.toList.map ρ), m)
  | .makeMap t none => match tmap P t with
    | some _ =>
      let r := m.add glob j fun g => .map g []
      some (.map r.1 r.2.1, r.2.2)
    | none => none
  | .makeMap t (some h) => match tmap P t, ρ h with
    | some _, .int _ _ =>
      let r := m.add glob j fun g => .map g []
      some (.map r.1 r.2.1, r.2.2)
    | _, _ => none
  | .makeSlice t l c => match telem P t with
    | some e =>
      match tsize P e, tzcells P e, ρ l, ρ c with
      | some s, some z, .int _ a, .int _ b =>
        if 0 ≤ a ∧ a = b ∧ small P e a.toNat ∧ z.length = s then
          let r := m.add glob j fun g => .arr g s (reps a.toNat z) 0
          some (.ref r.1 r.2.1 0 a.toNat, r.2.2)
        else none
      | _, _, _, _ => none
    | none => none
  | .slice t x lo hi mx => (cslice P t (ρ x) (lo.map ρ) (hi.map ρ) (mx.map ρ) m).map fun v => (v, m)
  | .fieldAddr s x f => (cfieldAddr P s (ρ x) f).map fun v => (v, m)
  | .field t x f => match tfield P t f, ρ x with
    | some (off, ft), .agg cs => (partC P ft cs off).map fun v => (v, m)
    | _, _ => none
  | .indexAddr t x i => (cindexAddr P t (ρ x) (ρ i)).map fun v => (v, m)
  | .index t x i => match ρ x, asNat (ρ i) with
    | .agg cs, some i => match tarr P t with
      | some (n, e) => if i < n then (tsize P e).bind fun s => (partC P e cs (i * s)).map fun v => (v, m) else none
      | none => none
    | .str s, some i => match P.underlying t with
      | some .string => (s[i]?).map fun b => (.int .u8 b.toNat, m)
      | _ => none
    | _, _ => none
  | .lookup t x i ok => match tmap P t, mapOf m (ρ x) with
    | some (kt, et), some es =>
      if plainKey P kt then
        match ckey P kt (ρ i) es 0, tzero P et with
        | some (some (_, v)), _ => some (if ok then .tuple [v, .bool true] else v, m)
        | some none, some z => some (if ok then .tuple [z, .bool false] else z, m)
        | _, _ => none
      else none
    | _, _ => none
  | .mapUpdate t x k v => mapUp P m t (ρ x) (ρ k) (ρ v)
  | .insert t x k v => mapUp P m t (ρ x) (ρ k) (ρ v)
  | .typeAssert x _ t ok => match P.underlying t with
    | none => none
    | some d => match ρ x with
      | .inil => if ok then (tzero P t).map fun z => (.tuple [z, .bool false], m) else none
      | .iface u v =>
        match (match d with
          | .interface want => (P.info? u).map fun i => want.toList.all fun w => i.methods.any fun x => x.name == w.1 && x.sig == w.2
          | _ => some (decide (u = t))) with
        | some true =>
          let r : CV := match d with
            | .interface _ => .iface u v
            | _ => v
          some (if ok then .tuple [r, .bool true] else r, m)
        | some false => if ok then (tzero P t).map fun z => (.tuple [z, .bool false], m) else none
        | none => none
      | _ => none
  | .extract t i => match ρ t with
    | .tuple vs => (vs[i]?).map fun v => (v, m)
    | _ => none
  | .call c =>
    match c.callee with
    | .value f => invokeC A F fid o.dst (ρ f) (c.args.toList.map ρ) m
    | .invoke recv name => match ρ recv with
      | .iface t x => (methodC P t x name).bind fun y => callC A F fid o.dst y.1 (y.2 :: c.args.toList.map ρ) m
      | _ => none
    | .builtin .len => match c.args.toList.map ρ, c.argTypes.toList with
      | [x], [t] => match P.underlying t with
        | some (.slice _) => (clen x).map fun (n : Nat) => (.int .i64 (n : Int), m)
        | some (.map _ _) => (mapOf m x).map fun es => (.int .i64 (es.length : Int), m)
        | some .string => match x with
          | .str s => some (.int .i64 s.size, m)
          | _ => none
        | some (.array n _) => some (.int .i64 n, m)
        | _ => none
      | _, _ => none
    | .builtin .append => match c.args.toList.map ρ, c.argTypes.toList with
      | [s, x], t :: u :: _ => match telem P t, telem P u with
        | some e, some _ => cappend P glob j e s x m
        | _, _ => none
      | _, _ => none
    | .builtin .copy => match c.args.toList.map ρ, c.argTypes.toList with
      | [d, x], t :: _ => match telem P t with
        | some e => ccopy P e d x m
        | none => none
      | _, _ => none
    | .builtin .max => (minmax true (c.args.toList.map ρ)).map fun v => (v, m)
    | .builtin .min => (minmax false (c.args.toList.map ρ)).map fun v => (v, m)
    | .builtin .delete => match c.args.toList.map ρ, c.argTypes.toList with
      | [x, k], t :: _ => match x, tmap P t with
        | .map key gn, some (kt, _) => match m.get key with
          | some (.map g es) =>
            if g = gn ∧ plainKey P kt then
              match ckey P kt k es 0 with
              | some (some (i, _)) => some (.tuple [], m.set key (.map g (es.eraseIdx i)))
              | some none => some (.tuple [], m.set key (.map g es))
              | none => none
            else none
          | _ => none
        | _, _ => none
      | _, _ => none
    | _ => none
  | _ => none
where
  mapUp (P : Program) (m : Mem) (t : TypeId) (x k v : CV) : Option (CV × Mem) :=
    match tmap P t, x with
    | some (kt, _), .map key gn =>
      (escList m [v]).bind fun y =>
        match y.2.get key, y.1 with
        | some (.map g es), [v'] =>
          if g = gn ∧ plainKey P kt ∧ isKey k then
            match ckey P kt k es 0 with
            | some (some (i, _)) => some (.dead, y.2.set key (.map g (es.set i (k, v'))))
            | some none => some (.dead, y.2.set key (.map g (es ++ [(k, v')])))
            | none => none
          else none
        | _, _ => none
    | _, _ => none
end Go.Cm
