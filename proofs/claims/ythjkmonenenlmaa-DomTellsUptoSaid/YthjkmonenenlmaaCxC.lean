/-
  Operations told one by one: what they answer where their types are known.
-/
import Derived.Test.YthjkmonenenlmaaCxB
set_option linter.unusedSimpArgs false
set_option linter.unusedVariables false
namespace Go.Cm

/-! answers, types left out -/
def ld1 (m : Mem) (p : CV) : Option CV := (cellsAt m p 1).bind (·.head?)
def ldA (sz : Nat) (m : Mem) (p : CV) : Option CV := (cellsAt m p sz).map CV.agg
def stX (n : Nat) (m : Mem) (p v : CV) : Option Mem :=
  match ccells v with
  | some cs => if cs.length = n then cstoreAt m p cs else none
  | none => none
def fldA (off : Nat) (x : CV) : Option CV :=
  match x with
  | .ptr k gn o => some (.ptr k gn (o + off))
  | .rptr cs => some (.rptr (cs.drop off))
  | _ => none
def idxS (sz : Nat) (x i : CV) : Option CV :=
  match asNat i with
  | none => none
  | some i =>
    match x with
    | .imm n cs => if i < n ∧ i * sz < cs.length then some (.rptr (cs.drop (i * sz))) else none
    | .ref k gn off len => if i < len then some (.ptr k gn (off + i * sz)) else none
    | _ => none
def idxA (n sz : Nat) (x i : CV) : Option CV :=
  match asNat i with
  | none => none
  | some i =>
    match x with
    | .ptr k gn off => if i < n then some (.ptr k gn (off + i * sz)) else none
    | .rptr cs => if i < n then some (.rptr (cs.drop (i * sz))) else none
    | _ => none
def fld1 (off : Nat) (x : CV) : Option CV :=
  match x with
  | .agg cs => cs[off]?
  | _ => none
def fldG (off sz : Nat) (x : CV) : Option CV :=
  match x with
  | .agg cs => some (.agg ((cs.drop off).take sz))
  | _ => none
def nilX (x : CV) : Option CV :=
  match x with
  | .ptr k g o => some (.ptr k g o)
  | .rptr cs => some (.rptr cs)
  | _ => none
def pickX (c a b : CV) : Option CV :=
  match c with
  | .bool true => some a
  | .bool false => some b
  | _ => none
def convX (k : IntKind) (x : CV) : Option CV :=
  match x with
  | .int _ n => some (.int k (k.wrap n))
  | _ => none
def extX (i : Nat) (x : CV) : Option CV :=
  match x with
  | .tuple vs => vs[i]?
  | _ => none
def lenS (x : CV) : Option CV := (clen x).map fun (n : Nat) => CV.int .i64 (n : Int)
def lenM (m : Mem) (x : CV) : Option CV := (mapOf m x).map fun es => CV.int .i64 (es.length : Int)
def lenT (x : CV) : Option CV :=
  match x with
  | .str s => some (.int .i64 s.size)
  | _ => none
def idxT (x i : CV) : Option CV :=
  match x, asNat i with
  | .str s, some i => (s[i]?).map fun b => .int .u8 b.toNat
  | _, _ => none
def idxV (n sz : Nat) (agg : Bool) (x i : CV) : Option CV :=
  match x, asNat i with
  | .agg cs, some i => if i < n then (if agg then some (.agg ((cs.drop (i * sz)).take sz)) else cs[i * sz]?) else none
  | _, _ => none
def fillX : List CV → List (Nat × Nat × CV) → Option (List CV)
  | cells, [] => some cells
  | cells, (off, size, v) :: rest =>
    match ccells v with
    | some vs => if vs.length = size ∧ off + size ≤ cells.length then fillX (splice cells off vs) rest else none
    | none => none
def smallB (b n : Nat) : Bool := b ≤ 1024 && (n ≤ most && n * b ≤ 140737488355328)
def newA (m : Mem) (j sz : Nat) (cs : List CV) : Mem := ⟨lset m.L j (.arr (gnext m.L j) sz cs 0), m.H⟩
def newR (m : Mem) (j n : Nat) : CV := .ref (.l j) (gnext m.L j) 0 n
def newM (m : Mem) (j : Nat) : Mem := ⟨lset m.L j (.map (gnext m.L j) []), m.H⟩
def newK (m : Mem) (j : Nat) : CV := .map (.l j) (gnext m.L j)
/-! everybody's -/
def gnewL (m : Mem) (cs : List CV) : Mem := ⟨m.L, m.H ++ [.var 1 cs 0]⟩
def gnewP (m : Mem) : CV := .ptr (.g m.H.length) 1 0
def gnewA (m : Mem) (sz : Nat) (cs : List CV) : Mem := ⟨m.L, m.H ++ [.arr 1 sz cs 0]⟩
def gnewR (m : Mem) (n : Nat) : CV := .ref (.g m.H.length) 1 0 n
def gnewM (m : Mem) : Mem := ⟨m.L, m.H ++ [.map 1 []]⟩
def gnewK (m : Mem) : CV := .map (.g m.H.length) 1
def nmA (glob : Bool) (m : Mem) (j sz : Nat) (cs : List CV) : Mem := match glob with | true => gnewA m sz cs | false => newA m j sz cs
def nmR (glob : Bool) (m : Mem) (j n : Nat) : CV := match glob with | true => gnewR m n | false => newR m j n

def mkX (glob : Bool) (j sz b : Nat) (z : List CV) (l c : CV) (m : Mem) : Option (CV × Mem) :=
  match l, c with
  | .int _ a, .int _ d =>
    if 0 ≤ a ∧ a = d ∧ smallB b a.toNat = true ∧ z.length = sz then some (nmR glob m j a.toNat, nmA glob m j sz (reps a.toNat z)) else none
  | _, _ => none
def mmX (glob : Bool) (j : Nat) (h : CV) (m : Mem) : Option (CV × Mem) :=
  match h with
  | .int _ _ => match glob with
    | false => some (newK m j, newM m j)
    | true => some (gnewK m, gnewM m)
  | _ => none
def appX (glob : Bool) (j sz b : Nat) (s x : CV) (m : Mem) : Option (CV × Mem) :=
  match content m sz x, clen x with
  | some ys, some n =>
    match s with
    | .nil =>
      if n = 0 then some (.nil, m)
      else if smallB b n = true then some (nmR glob m j n, nmA glob m j sz ys)
      else none
    | .ref k gn off len =>
      match m.get k with
      | some (.arr g s' cs vl) =>
        if g = gn ∧ s' = sz ∧ vl ≤ off + len * sz ∧ smallB b (len + n) = true then
          some (.ref k (g + 1) 0 (len + n), m.set k (.arr (g + 1) sz ((cs.drop off).take (len * sz) ++ ys) (vl - off)))
        else none
      | _ => none
    | _ => none
  | _, _ => none
def copX (sz : Nat) (d x : CV) (m : Mem) : Option (CV × Mem) :=
  match content m sz x, clen x, clen d with
  | some ys, some n, some dl =>
    let c := min n dl
    if c = 0 then some (.int .i64 0, m) else
    match d with
    | .ref k gn off _ =>
      match m.get k with
      | some (.arr g s' cs vl) =>
        if g = gn ∧ s' = sz ∧ vl ≤ off then some (.int .i64 c, m.set k (.arr g sz (splice cs off (ys.take (c * sz))) vl)) else none
      | _ => none
    | _ => none
  | _, _, _ => none
def slcX (sz : Nat) (x : CV) (lo hi mx : Option CV) (m : Mem) : Option CV :=
  match mxOK hi mx with
  | false => none
  | true =>
    match clen x with
    | some len =>
      match bounds len lo hi with
      | some (l, h) =>
        match x with
        | .nil => some .nil
        | .imm _ cs => some (.imm (h - l) ((cs.drop (l * sz)).take ((h - l) * sz)))
        | .ref k gn off _ =>
          match m.get k with
          | some (.arr g s' _ _) => if g = gn ∧ s' = sz then some (.ref k gn (off + l * sz) (h - l)) else none
          | _ => none
        | _ => none
      | none => none
    | none => none
def slcA (n sz : Nat) (x : CV) (lo hi mx : Option CV) (m : Mem) : Option CV :=
  match mxOK hi mx with
  | false => none
  | true =>
    match bounds n lo hi, x with
    | some (l, h), .ptr k gn off =>
      match m.get k with
      | some (.arr g s' cs _) => if g = gn ∧ s' = sz ∧ off + n * sz ≤ cs.length then some (.ref k gn (off + l * sz) (h - l)) else none
      | _ => none
    | _, _ => none
def bslX (glob : Bool) (j sz n : Nat) (z : List CV) (ps : List (Nat × Nat × CV)) (m : Mem) : Option (CV × Mem) :=
  (fillX z ps).bind fun cs => (escList m cs).map fun y => (nmR glob y.2 j n, nmA glob y.2 j sz y.1)
def boxG (x : CV) (m : Mem) : Option (CV × Mem) :=
  match ccells x with
  | some cs => (escList m cs).map fun y => (gnewP y.2, gnewL y.2 y.1)
  | none => none
def boxA (glob : Bool) (j sz : Nat) (x : CV) (m : Mem) : Option (CV × Mem) :=
  match ccells x with
  | some cs => (escList m cs).map fun y => (match glob with | true => gnewP y.2 | false => newP y.2 j, nmA glob y.2 j sz y.1)
  | none => none
def lookX (P : Program) (kt : TypeId) (z x i : CV) (ok : Bool) (m : Mem) : Option CV :=
  match mapOf m x with
  | some es =>
    match ckey P kt i es 0 with
    | some (some (_, v)) => some (if ok then .tuple [v, .bool true] else v)
    | some none => some (if ok then .tuple [z, .bool false] else z)
    | none => none
  | none => none
def mupX (P : Program) (kt : TypeId) (x k v : CV) (m : Mem) : Option Mem :=
  match x with
  | .map key gn =>
    (escList m [v]).bind fun y =>
      match y.2.get key, y.1 with
      | some (.map g es), [v'] =>
        if g = gn ∧ isKey k then
          match ckey P kt k es 0 with
          | some (some (i, _)) => some (y.2.set key (.map g (es.set i (k, v'))))
          | some none => some (y.2.set key (.map g (es ++ [(k, v')])))
          | none => none
        else none
      | _, _ => none
  | _ => none
def delX (P : Program) (kt : TypeId) (x k : CV) (m : Mem) : Option Mem :=
  match x with
  | .map key gn =>
    match m.get key with
    | some (.map g es) =>
      if g = gn then
        match ckey P kt k es 0 with
        | some (some (i, _)) => some (m.set key (.map g (es.eraseIdx i)))
        | some none => some (m.set key (.map g es))
        | none => none
      else none
    | _ => none
  | _ => none
def invX (P : Program) (A : Ann) (F : Oracle) (fid : FuncId) (d : Option Tmp) (r : CV) (name : String) (args : List CV) (m : Mem) : Option (CV × Mem) :=
  match r with
  | .iface t x => (methodC P t x name).bind fun y => callC A F fid d y.1 (y.2 :: args) m
  | _ => none
def asrX (P : Program) (t : TypeId) (ok : Bool) (x : CV) : Option CV :=
  match P.underlying t with
  | none => none
  | some d => match x with
    | .inil => if ok then (tzero P t).map fun z => .tuple [z, .bool false] else none
    | .iface u v =>
      match (match d with
        | .interface want => (P.info? u).map fun i => want.toList.all fun w => i.methods.any fun x => x.name == w.1 && x.sig == w.2
        | _ => some (decide (u = t))) with
      | some true =>
        let r : CV := match d with
          | .interface _ => .iface u v
          | _ => v
        some (if ok then .tuple [r, .bool true] else r)
      | some false => if ok then (tzero P t).map fun z => .tuple [z, .bool false] else none
      | none => none
    | _ => none

def placed (place : Nat → Option (Nat × Nat)) : List (Nat × CV) → Option (List (Nat × Nat × CV))
  | [] => some []
  | (i, v) :: r => match place i, placed place r with
    | some (off, size), some q => some ((off, size, v) :: q)
    | _, _ => none
theorem placed_fill {place : Nat → Option (Nat × Nat)} : ∀ {ps : List (Nat × CV)} {q : List (Nat × Nat × CV)} {z : List CV}, placed place ps = some q → fillC place z ps = fillX z q
  | [], q, z, h => by
    simp only [placed, Option.some.injEq] at h
    subst h; rfl
  | (i, v) :: r, q, z, h => by
    simp only [placed] at h
    split at h
    · rename_i off size q' h1 h2
      simp only [Option.some.injEq] at h
      subst h
      simp only [fillC, fillX, h1]
      cases ccells v with
      | none => rfl
      | some vs =>
        simp only
        split
        · exact placed_fill h2
        · rfl
    · cases h

section
variable (P : Program) (A : Ann) (F : Oracle) (fid : FuncId)
/-- answers of operations that leave the memory -/
def vX (ρ : Operand → CV) (op : Op) (m : Mem) : Option CV :=
  match op with
  | .move x => some (ρ x)
  | .assign x => some (ρ x)
  | .pick c a b => pickX (ρ c) (ρ a) (ρ b)
  | .load t a => match tagg P t, tsize P t with
    | some true, some sz => ldA sz m (ρ a)
    | some false, _ => ld1 m (ρ a)
    | _, _ => none
  | .nilCheck x => nilX (ρ x)
  | .binOp op t x y _ => cbin P op t x y (ρ x) (ρ y)
  | .unOp op _ x => cun op (ρ x)
  | .convert src dst x => match P.underlying src, tkind P dst with
    | some _, some k => convX k (ρ x)
    | _, _ => none
  | .makeInterface t x => if isIface P t || (P.underlying t).isNone then none else some (.iface t (ρ x))
  | .makeFunc fn first captured => some (.func fn (first.toList.map ρ) (captured.toList.map ρ))
  | .slice t x lo hi mx => match P.underlying t with
    | some (.slice e) => match tsize P e with
      | some sz => slcX sz (ρ x) (lo.map ρ) (hi.map ρ) (mx.map ρ) m
      | none => none
    | some (.array n e) => match tsize P e with
      | some sz => slcA n sz (ρ x) (lo.map ρ) (hi.map ρ) (mx.map ρ) m
      | none => none
    | _ => none
  | .fieldAddr s x f => match tfield P s f with
    | some (off, ft) => match tsize P ft with
      | some (_ + 1) => fldA off (ρ x)
      | _ => none
    | none => none
  | .indexAddr t x i => match P.underlying t with
    | some (.slice e) => match tsize P e with
      | some sz => idxS sz (ρ x) (ρ i)
      | none => none
    | some (.array n e) => match tsize P e with
      | some sz => idxA n sz (ρ x) (ρ i)
      | none => none
    | _ => none
  | .field t x f => match tfield P t f with
    | some (off, ft) => match tagg P ft, tsize P ft with
      | some true, some sz => fldG off sz (ρ x)
      | some false, _ => fld1 off (ρ x)
      | _, _ => none
    | none => none
  | .index t x i => match P.underlying t with
    | some .string => idxT (ρ x) (ρ i)
    | some (.array n e) => match tagg P e, tsize P e with
      | some a, some sz => idxV n sz a (ρ x) (ρ i)
      | _, _ => none
    | _ => none
  | .lookup t x i ok => match tmap P t with
    | some (kt, et) => match plainKey P kt, tzero P et with
      | true, some z => lookX P kt z (ρ x) (ρ i) ok m
      | _, _ => none
    | none => none
  | .typeAssert x _ t ok => asrX P t ok (ρ x)
  | .extract t i => extX i (ρ t)
  | .build t parts => match tzcells P t, P.underlying t with
    | some z, some (.struct fields) =>
      if fields.toList.all (fun f => (tsize P f.type).isSome) then
        (placed (fun i => (fields[i]?).bind fun f => (tsize P f.type).map fun s => (f.offset, s)) (parts.toList.map fun p => (p.1, ρ p.2))).bind fun q => (fillX z q).map CV.agg
      else none
    | some z, some (.array _ e) => match tsize P e with
      | some s => (placed (fun i => some (i * s, s)) (parts.toList.map fun p => (p.1, ρ p.2))).bind fun q => (fillX z q).map CV.agg
      | none => none
    | _, _ => none
  | .call ⟨.builtin .len, args, ats⟩ => match args.toList, ats.toList with
    | [x], [t] => match P.underlying t with
      | some (.slice _) => lenS (ρ x)
      | some (.map _ _) => lenM m (ρ x)
      | some .string => lenT (ρ x)
      | some (.array n _) => some (.int .i64 n)
      | _ => none
    | _, _ => none
  | .call ⟨.builtin .max, args, _⟩ => minmax true (args.toList.map ρ)
  | .call ⟨.builtin .min, args, _⟩ => minmax false (args.toList.map ρ)
  | _ => none
/-- what operations that only write leave -/
def mX (ρ : Operand → CV) (op : Op) (m : Mem) : Option Mem :=
  match op with
  | .store t a x => match tsize P t with
    | some n => stX n m (ρ a) (ρ x)
    | none => none
  | .mapUpdate t x k v => match tmap P t with
    | some (kt, _) => match plainKey P kt with
      | true => mupX P kt (ρ x) (ρ k) (ρ v) m
      | false => none
    | none => none
  | .insert t x k v => match tmap P t with
    | some (kt, _) => match plainKey P kt with
      | true => mupX P kt (ρ x) (ρ k) (ρ v) m
      | false => none
    | none => none
  | _ => none
/-- the others -/
def pX (d : Option Tmp) (ρ : Operand → CV) (op : Op) (m : Mem) : Option (CV × Mem) :=
  match op with
  | .alloc t => match tzcells P t, tarr P t with
    | some z, none => match gslot (A.glob fid) d with
      | false => some (newP m (dslot d), newL m (dslot d) z)
      | true => some (gnewP m, gnewL m z)
    | some z, some (_, e) => match gslot (A.glob fid) d with
      | false => some (.ptr (.l (dslot d)) (gnext m.L (dslot d)) 0, newA m (dslot d) ((tsize P e).getD 0) z)
      | true => some (gnewP m, gnewA m ((tsize P e).getD 0) z)
    | none, _ => none
  | .box t x => match tarr P t with
    | none => match gslot (A.glob fid) d with
      | false => (ccells (ρ x)).map fun cs => (newP m (dslot d), newL m (dslot d) cs)
      | true => boxG (ρ x) m
    | some (_, e) => boxA (gslot (A.glob fid) d) (dslot d) ((tsize P e).getD 0) (ρ x) m
  | .buildSlice t n parts => match telem P t with
    | some e => match tsize P e, tzcells P e with
      | some s, some z =>
        if n * s ≤ 1048576 ∧ z.length = s then
          (placed (fun i => some (i * s, s)) (parts.toList.map fun p => (p.1, ρ p.2))).bind fun q => bslX (gslot (A.glob fid) d) (dslot d) s n (reps n z) q m
        else none
      | _, _ => none
    | none => none
  | .makeMap t none => match tmap P t with
    | some _ => match gslot (A.glob fid) d with
      | false => some (newK m (dslot d), newM m (dslot d))
      | true => some (gnewK m, gnewM m)
    | none => none
  | .makeMap t (some h) => match tmap P t with
    | some _ => mmX (gslot (A.glob fid) d) (dslot d) (ρ h) m
    | none => none
  | .makeSlice t l c => match telem P t with
    | some e => match tsize P e, tzcells P e, tbytes P e with
      | some s, some z, some b => mkX (gslot (A.glob fid) d) (dslot d) s b z (ρ l) (ρ c) m
      | _, _, _ => none
    | none => none
  | .call c => match c.callee with
    | .value f => invokeC A F fid d (ρ f) (c.args.toList.map ρ) m
    | .invoke recv name => invX P A F fid d (ρ recv) name (c.args.toList.map ρ) m
    | .builtin .append => match c.args.toList, c.argTypes.toList with
      | [s, x], t :: u :: _ => match telem P t, telem P u with
        | some e, some _ => match tsize P e, tzcells P e, tbytes P e with
          | some sz, some z, some b => if sz = 0 ∨ z.length ≠ sz then none else appX (gslot (A.glob fid) d) (dslot d) sz b (ρ s) (ρ x) m
          | _, _, _ => none
        | _, _ => none
      | _, _ => none
    | .builtin .copy => match c.args.toList, c.argTypes.toList with
      | [x, y], t :: _ => match telem P t with
        | some e => match tsize P e with
          | some sz => copX sz (ρ x) (ρ y) m
          | none => none
        | none => none
      | _, _ => none
    | .builtin .delete => match c.args.toList, c.argTypes.toList with
      | [x, k], t :: _ => match tmap P t with
        | some (kt, _) => match plainKey P kt with
          | true => (delX P kt (ρ x) (ρ k) m).map fun m' => (.tuple [], m')
          | false => none
        | none => none
      | _, _ => none
    | _ => none
  | _ => none
end
/-- which kind an operation is of -/
def opk : Op → Nat
  | .alloc _ => 2
  | .box _ _ => 2
  | .buildSlice _ _ _ => 2
  | .makeMap _ _ => 2
  | .makeSlice _ _ _ => 2
  | .store _ _ _ => 1
  | .mapUpdate _ _ _ _ => 1
  | .insert _ _ _ _ => 1
  | .call c => match c.callee with
    | .builtin .len => 0
    | .builtin .max => 0
    | .builtin .min => 0
    | _ => 2
  | _ => 0
section
variable (P : Program) (A : Ann) (F : Oracle) (fid : FuncId)
def vval (d : Option Tmp) (ρ : Operand → CV) (op : Op) (m : Mem) : Option (CV × Mem) :=
  match opk op with
  | 0 => (vX P ρ op m).map fun v => (v, m)
  | 1 => (mX P ρ op m).map fun m' => (CV.dead, m')
  | _ => pX P A F fid d ρ op m
end
end Go.Cm
