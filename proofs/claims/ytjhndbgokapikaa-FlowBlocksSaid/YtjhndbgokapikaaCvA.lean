import Derived.Orders
import Derived.Laws.World
import Derived.Laws.Sem
import Derived.Laws.Cells
set_option linter.unusedSimpArgs false
set_option linter.unusedVariables false
namespace Go.Cm
inductive Key where
 |l (j:Nat)
 |g (n:Nat)
 deriving DecidableEq,Inhabited
inductive CV where
 |dead
 |bool (b:Bool)
 |int (k:IntKind) (n:Int)
 |str (s:ByteArray)
 |agg (cs:List CV)
 |nil
 |imm (n:Nat) (cs:List CV)
 |own (n sz:Nat) (cs:List CV) (vl:Nat)
 |ref (k:Key) (gn off len:Nat)
 |pnil
 |ptr (k:Key) (gn off:Nat)
 |rptr (cs:List CV)
 |mnil
 |map (k:Key) (gn:Nat)
 |func (fn:Fn) (first captured:List CV)
 |nilf
 |inil
 |iface (t:TypeId) (v:CV)
 |tuple (cs:List CV)
 deriving Inhabited
inductive HO where
 |var (gn:Nat) (cs:List CV) (vl:Nat)
 |arr (gn sz:Nat) (cs:List CV) (vl:Nat)
 |map (gn:Nat) (es:List (CV×CV))
 deriving Inhabited
def HO.gn:HO→Nat
 |.var g _ _=>g
 |.arr g _ _ _=>g
 |.map g _=>g
def HO.cells:HO→List CV
 |.var _ cs _=>cs
 |.arr _ _ cs _=>cs
 |.map _ _=>[]
def HO.vl:HO→Nat
 |.var _ _ v=>v
 |.arr _ _ _ v=>v
 |.map _ _=>0
def HO.isMap:HO→Bool
 |.map _ _=>true
 |_=>false
def HO.withCells:HO→List CV→HO
 |.var g _ v,cs=>.var g cs v
 |.arr g s _ v,cs=>.arr g s cs v
 |h,_=>h
def HO.seen:HO→Nat→HO
 |.var g cs v,n=>.var g cs (max v n)
 |.arr g s cs v,n=>.arr g s cs (max v n)
 |h,_=>h
structure Mem where
 L:List (Nat×HO)
 H:List HO
 deriving Inhabited
def aK:List (Nat×HO)→Nat→Option HO
 |[],_=>none
 |(i,h)::r,j=>if i=j then some h else aK r j
def gb:List (Nat×HO)→Nat→HO→List (Nat×HO)
 |[],j,x=>[(j,x)]
 |(i,h)::r,j,x=>if i=j then (j,x)::r else (i,h)::gb r j x
def Mem.get (m:Mem):Key→Option HO
 |.l j=>aK m.L j
 |.g n=>m.H[n]?
def Mem.set (m:Mem):Key→HO→Mem
 |.l j,h=>{ m with L:=gb m.L j h }
 |.g n,h=>{ m with H:=m.H.set n h }
def bH:List CV→Nat→CV
 |[],_=>.dead
 |x::_,0=>x
 |_::xs,n+1=>bH xs n
def li:List CV→Nat→CV→List CV
 |[],0,v=>[v]
 |[],n+1,v=>.dead::li [] n v
 |_::xs,0,v=>v::xs
 |x::xs,n+1,v=>x::li xs n v
def Hz:Value→CV
 |.bool b=>.bool b
 |.int k n=>.int k n
 |.string s=>.str s
 |.pointer none=>.pnil
 |.slice none 0 0=>.nil
 |.map none=>.mnil
 |.nilFunc=>.nilf
 |.nilIface=>.inil
 |_=>.dead
def ofV:Value→CV
 |.agg cs=>.agg (cs.toList.map Hz)
 |v=>Hz v
def bE:CV→Bool
 |.dead=>false
 |.agg _=>false
 |.own _ _ _ _=>false
 |.tuple _=>false
 |_=>true
def ap:CV→Option (List CV)
 |.agg cs=>some cs
 |.dead=>none
 |.own _ _ _ _=>none
 |.tuple _=>none
 |v=>some [v]
def bK (P:Program) (t:TypeId):Option Nat:=(P.info? t).map (·.size)
def oP (P:Program) (t:TypeId):Option Nat:=(P.info? t).map (·.bytes)
def iy (P:Program) (t:TypeId):Option CV:=((P.info? t).bind (·.zero)).bind λz=>
 match ap (ofV z) with
 |some cs=>if cs.all bE then some (ofV z) else none
 |none=>none
def dk (P:Program) (t:TypeId):Option (List CV):=(iy P t).bind ap
def uM (P:Program) (t:TypeId):Option Bool:=
 match P.underlying t with
 |some (.struct _)|some (.array _ _)=>some true
 |some _=>some false
 |none=>none
def w7 (P:Program) (t:TypeId):Option TypeId:=
 match P.underlying t with
 |some (.slice e)=>some e
 |_=>none
def lS (P:Program) (t:TypeId):Option (Nat×TypeId):=
 match P.underlying t with
 |some (.array n e)=>some (n,e)
 |_=>none
def jg (P:Program) (t:TypeId):Option (TypeId×TypeId):=
 match P.underlying t with
 |some (.map k e)=>some (k,e)
 |_=>none
def lT (P:Program) (t:TypeId) (f:Nat):Option (Nat×TypeId):=
 match P.underlying t with
 |some (.struct fs)=>(fs[f]?).map λx=>(x.offset,x.type)
 |_=>none
def FW (P:Program) (t:TypeId):Option IntKind:=
 match P.underlying t with
 |some (.int k)=>some k
 |_=>none
def bN (m:Mem) (p:CV) (n:Nat):Option (List CV):=
 match p with
 |.rptr cs=>if n≤cs.length then some (cs.take n) else none
 |.ptr k gn off=>
  match m.get k with
  |some h=>if h.gn=gn∧h.isMap=false∧off+n≤h.cells.length then some ((h.cells.drop off).take n) else none
  |none=>none
 |_=>none
def eW (P:Program) (m:Mem) (t:TypeId) (p:CV):Option CV:=
 match uM P t with
 |some true=>(bK P t).bind λsz=>(bN m p sz).map .agg
 |some false=>(bN m p 1).bind (·.head?)
 |none=>none
def content (m:Mem) (sz:Nat) (v:CV):Option (List CV):=
 match v with
 |.nil=>some []
 |.imm n cs=>if cs.length=n*sz then some cs else none
 |.ref k gn off len=>
  match m.get k with
  |some (.arr g s cs _)=>if g=gn∧s=sz then some ((cs.drop off).take (len*sz)) else none
  |_=>none
 |_=>none
def clen (v:CV):Option Nat:=
 match v with
 |.nil=>some 0
 |.imm n _=>some n
 |.ref _ _ _ len=>some len
 |_=>none
def am (f:CV→Mem→Option (CV×Mem)):List CV→Mem→Option (List CV×Mem)
 |[],m=>some ([],m)
 |v::r,m=>(f v m).bind λx=>(am f r x.2).map λy=>(x.1::y.1,y.2)
def esc:Nat→CV→Mem→Option (CV×Mem)
 |0,_,_=>none
 |n+1,v,m=>
  match v with
  |.ref (.l j) gn off len=>
   match aK m.L j with
   |some (.arr g sz cs vl)=>
    if g=gn then some (.imm len ((cs.drop off).take (len*sz)),m.set (.l j) ((HO.arr g sz cs vl).seen (off+len*sz))) else none
   |_=>none
  |.ptr (.l j) gn off=>
   match aK m.L j with
   |some h=>
    if h.gn=gn∧h.isMap=false∧off≤h.cells.length then
     (am (esc n) (h.cells.drop off) m).bind λx=>
      match aK x.2.L j with
      |some h'=>some (.rptr x.1,x.2.set (.l j) (h'.seen h.cells.length))
      |none=>none
    else none
   |_=>none
  |.map (.l _) _=>none
  |.own _ _ _ _=>none
  |.dead=>none
  |.agg cs=>(am (esc n) cs m).map λx=>(.agg x.1,x.2)
  |.tuple cs=>(am (esc n) cs m).map λx=>(.tuple x.1,x.2)
  |.iface t x=>(esc n x m).map λy=>(.iface t y.1,y.2)
  |.func f a b=>(am (esc n) a m).bind λx=>(am (esc n) b x.2).map λy=>(.func f x.1 y.1,y.2)
  |v=>some (v,m)
def iC:Nat:=6
mutual
def noG:CV→Bool
 |.ref _ _ _ _=>false
 |.ptr _ _ _=>false
 |.map _ _=>false
 |.dead=>false
 |.agg cs=>noGs cs
 |.imm _ cs=>noGs cs
 |.own _ _ cs _=>noGs cs
 |.rptr cs=>noGs cs
 |.tuple cs=>noGs cs
 |.iface _ v=>noG v
 |.func _ a b=>noGs a&&noGs b
 |_=>true
def noGs:List CV→Bool
 |[]=>true
 |c::cs=>noG c&&noGs cs
end
end Go.Cm
namespace Go.Cm
structure Ann where
 glob:FuncId→List Nat:=λ_=>[]
 pure:FuncId→Bool:=λ_=>false
 keep:FuncId→Nat→Option (List Tmp):=λ_ _=>none
 nd:FuncId→Nat→Bool:=λ_ _=>false
 base:FuncId→Tmp→Option Tmp:=λ_ _=>none
abbrev aW:=FuncId→List CV→List HO→Option (CV×List HO)
structure CS where
 sl:List CV
 m:Mem
 deriving Inhabited
def ofC (v:Value):CV:=
 match ofV v with
 |.agg cs=>if cs.all bE then .agg cs else .dead
 |c=>c
def ev (sl:List CV):Operand→CV
 |.tmp t=>bH sl t
 |.const v=>ofC v
 |.func f=>.func (.func f) [] []
 |.global _=>.dead
def eu (sl:List CV) (d:Option Tmp) (v:CV):List CV:=
 match d with
 |some d=>li sl d v
 |none=>sl
def Mem.add (m:Mem) (glob:Bool) (j:Nat) (mk:Nat→HO):Key×Nat×Mem:=
 if glob then (.g m.H.length,1,{ m with H:=m.H++[mk 1] })
 else
  let g:=((aK m.L j).map HO.gn).getD 0+1
  (.l j,g,{ m with L:=gb m.L j (mk g) })
def ay (cs:List CV) (off:Nat) (new:List CV):List CV:=cs.take off++(new++cs.drop (off+new.length))
def KT (place:Nat→Option (Nat×Nat)) (cells:List CV):List (Nat×CV)→Option (List CV)
 |[]=>some cells
 |(i,v)::rest=>
  match place i with
  |none=>none
  |some (off,size)=>
   match ap v with
   |some vs=>if vs.length=size∧off+size≤cells.length then KT place (ay cells off vs) rest else none
   |none=>none
def dM:Nat→List CV→List CV
 |0,_=>[]
 |n+1,cs=>cs++dM n cs
def lY (op:BinOp) (k:IntKind) (x y:Int):Int:=
 let a:=BitVec.ofInt k.bits x
 let b:=BitVec.ofInt k.bits y
 k.wrap (match op with
  |.and=>a &&& b
  |.or=>a ||| b
  |.xor=>a ^^^ b
  |_=>a &&& ~~~b).toNat
def fv (op:BinOp) (k:IntKind) (a b:Int):Option CV:=
 match op with
 |.add=>some (.int k (k.wrap (a+b)))
 |.sub=>some (.int k (k.wrap (a - b)))
 |.mul=>some (.int k (k.wrap (a*b)))
 |.quo=>if b=0 then none else some (.int k (k.wrap (a.tdiv b)))
 |.rem=>if b=0 then none else some (.int k (a.tmod b))
 |.and=>some (.int k (lY .and k a b))
 |.or=>some (.int k (lY .or k a b))
 |.xor=>some (.int k (lY .xor k a b))
 |.andNot=>some (.int k (lY .andNot k a b))
 |.eql=>some (.bool (a==b))
 |.neq=>some (.bool (a != b))
 |.lss=>some (.bool (a<b))
 |.leq=>some (.bool (a≤b))
 |.gtr=>some (.bool (a>b))
 |.geq=>some (.bool (a≥b))
 |_=>none
def qY (op:BinOp) (k:IntKind) (x y:Int):Option CV:=
 if y<0 then none
 else match op with
  |.shl=>some (.int k (k.wrap (x*2 ^ (min y.toNat k.bits))))
  |.shr=>some (.int k (x.fdiv (2 ^ (min y.toNat k.bits))))
  |_=>none
def iu (P:Program) (t:TypeId) (cs:List CV) (off:Nat):Option CV:=
 match uM P t with
 |some true=>(bK P t).map λsz=>.agg ((cs.drop off).take sz)
 |some false=>cs[off]?
 |none=>none
def DQ (P:Program) (eq:TypeId→CV→CV→Option Bool) (xs ys:List CV):List Field→Option Bool
 |[]=>some true
 |f::fs=>
  if f.name = "_" then DQ P eq xs ys fs else
  match iu P f.type xs f.offset,iu P f.type ys f.offset with
  |some a,some b=>match eq f.type a b with
   |some true=>DQ P eq xs ys fs
   |r=>r
  |_,_=>none
def ceq (P:Program):Nat→TypeId→CV→CV→Option Bool
 |0,_,_,_=>none
 |d+1,t,x,y=>
  match P.underlying t with
  |some .bool=>match x,y with
   |.bool a,.bool b=>some (a==b)
   |_,_=>none
  |some (.int _)=>match x,y with
   |.int k a,.int k' b=>if k=k' then some (a==b) else none
   |_,_=>none
  |some .string=>match x,y with
   |.str a,.str b=>some (a==b)
   |_,_=>none
  |some (.pointer _)=>match x,y with
   |.pnil,.pnil=>some true
   |.pnil,.rptr _=>some false
   |.rptr _,.pnil=>some false
   |.ptr _ _ _,.pnil=>some false
   |_,_=>none
  |some (.slice _)=>match x,y with
   |.nil,.nil=>some true
   |.imm (_+1) (_::_),.nil=>some false
   |.ref _ _ _ (_+1),.nil=>some false
   |_,_=>none
  |some (.map _ _)=>match x,y with
   |.mnil,.mnil=>some true
   |.map _ _,.mnil=>some false
   |_,_=>none
  |some (.interface _)=>match x,y with
   |.inil,.inil=>some true
   |.inil,.iface _ _=>some false
   |.iface _ _,.inil=>some false
   |.iface tx vx,.iface ty vy=>
    if tx≠ty then some false
    else if ((P.info? tx).map (·.comparable))=some true then ceq P d tx vx vy else none
   |_,_=>none
  |some (.struct fields)=>match x,y with
   |.agg xs,.agg ys=>if P.stoodInHeld t then none else DQ P (ceq P d) xs ys fields.toList
   |_,_=>none
  |_=>none
def qE:Operand→Bool
 |.const _=>true
 |_=>false
def eqC (P:Program) (t:TypeId) (x y:Operand) (a b:CV):Option Bool:=
 match a,b with
 |.inil,.inil=>if qE x||qE y then ceq P 20 t a b else none
 |.agg _,.agg _=>if P.eqGuardType P.depth t then none else ceq P 20 t a b
 |_,_=>ceq P 20 t a b
def aw (P:Program) (op:BinOp) (t:TypeId) (x y:Operand) (a b:CV):Option CV:=
 match a,b with
 |.int k i,.int k' j=>
  match op with
  |.shl=>qY .shl k i j
  |.shr=>qY .shr k i j
  |op=>if k=k' then fv op k i j else none
 |.str i,.str j=>
  match op with
  |.eql=>some (.bool (i.toList==j.toList))
  |.neq=>some (.bool (!(i.toList==j.toList)))
  |_=>none
 |a,b=>
  match op with
  |.eql=>(eqC P t x y a b).map .bool
  |.neq=>(eqC P t x y a b).map λr=>.bool (!r)
  |_=>none
def cun (op:UnOp) (a:CV):Option CV:=
 match op,a with
 |.neg,.int k n=>some (.int k (k.wrap (0 - n)))
 |.xor,.int k n=>some (.int k (lY .xor k (if k.signed then -1 else k.max) n))
 |.not,.bool b=>some (.bool !b)
 |_,_=>none
def gH (P:Program) (t:TypeId) (k:CV):List (CV×CV)→Nat→Option (Option (Nat×CV))
 |[],_=>some none
 |e::es,i=>
  match ceq P 20 t k e.1 with
  |some true=>some (some (i,e.2))
  |some false=>gH P t k es (i+1)
  |none=>none
def fx (m:Mem) (v:CV):Option (List (CV×CV)):=
 match v with
 |.mnil=>some []
 |.map k gn=>
  match m.get k with
  |some (.map g es)=>if g=gn then some es else none
  |_=>none
 |_=>none
def rZ:CV→Bool
 |.int _ _=>true
 |.bool _=>true
 |_=>false
def b8 (P:Program) (t:TypeId):Bool:=
 match P.underlying t with
 |some (.int _)|some .bool=>true
 |_=>false
def bp (m:Mem) (cs:List CV):Option (List CV×Mem):=am (esc iC) cs m
def fT (m:Mem) (p:CV) (cs:List CV):Option Mem:=
 match p with
 |.ptr k gn off=>
  match m.get k with
  |some (.var g cells vl)=>
   if g=gn∧off+cs.length≤cells.length∧vl≤off then
    match k with
    |.l j=>some (m.set (.l j) (.var g (ay cells off cs) vl))
    |.g n=>(bp m cs).map λx=>x.2.set (.g n) (.var g (ay cells off x.1) vl)
   else none
  |some (.arr g sz cells vl)=>
   if g=gn∧off+cs.length≤cells.length∧vl≤off then
    (bp m cs).bind λx=>
     match x.2.get k with
     |some (.arr g' _ _ vl')=>if g'=gn∧vl'≤off then some (x.2.set k (.arr g sz (ay cells off x.1) vl')) else none
     |_=>none
   else none
  |_=>none
 |_=>none
def ls (P:Program) (m:Mem) (t:TypeId) (p v:CV):Option Mem:=
 match bK P t,ap v with
 |some n,some cs=>if cs.length=n then fT m p cs else none
 |_,_=>none
def sh:Nat:=70368744177664
def Lq (P:Program) (e:TypeId) (n:Nat):Bool:=
 match oP P e with
 |some b=>b≤1024&&(n≤sh&&n*b≤140737488355328)
 |none=>false
def ky (P:Program) (glob:Bool) (j:Nat) (e:TypeId) (s x:CV) (m:Mem):Option (CV×Mem):=
 match bK P e,dk P e with
 |some sz,some z=>
  if sz=0∨z.length≠sz then none else
  match content m sz x,clen x with
  |some ys,some n=>
   match s with
   |.nil=>
    if n=0 then some (.nil,m)
    else if Lq P e n then
     let r:=m.add glob j λg=>.arr g sz ys 0
     some (.ref r.1 r.2.1 0 n,r.2.2)
    else none
   |.ref k gn off len=>
    match m.get k with
    |some (.arr g s' cs vl)=>
     if g=gn∧s'=sz∧vl≤off+len*sz∧Lq P e (len+n) then
      some (.ref k (g+1) 0 (len+n),m.set k (.arr (g+1) sz ((cs.drop off).take (len*sz)++ys) (vl - off)))
     else none
    |_=>none
   |_=>none
  |_,_=>none
 |_,_=>none
def vT (P:Program) (e:TypeId) (d x:CV) (m:Mem):Option (CV×Mem):=
 match bK P e with
 |some sz=>
  match content m sz x,clen x,clen d with
  |some ys,some n,some dl=>
   let c:=min n dl
   if c=0 then some (.int .i64 0,m) else
   match d with
   |.ref k gn off _=>
    match m.get k with
    |some (.arr g s' cs vl)=>
     if g=gn∧s'=sz∧vl≤off then some (.int .i64 c,m.set k (.arr g sz (ay cs off (ys.take (c*sz))) vl)) else none
    |_=>none
   |_=>none
  |_,_,_=>none
 |none=>none
def eH:CV→Option Nat
 |.int _ i=>if 0≤i then some i.toNat else none
 |_=>none
def fp (len:Nat) (lo hi:Option CV):Option (Nat×Nat):=
 match (match hi with|some v=>eH v|none=>some len),(match lo with|some v=>eH v|none=>some 0) with
 |some h,some l=>if l≤h∧h≤len then some (l,h) else none
 |_,_=>none
def qN:Option CV→Option CV→Bool
 |_,none=>true
 |some (.int _ b),some (.int _ a)=>a==b
 |_,_=>false
def iH (P:Program) (t:TypeId) (x:CV) (lo hi mx:Option CV) (m:Mem):Option CV:=
 match qN hi mx with
 |false=>none
 |true=>
  match P.underlying t with
  |some (.slice e)=>
   match bK P e,clen x with
   |some sz,some len=>
    match fp len lo hi with
    |some (l,h)=>
     match x with
     |.nil=>some .nil
     |.imm _ cs=>some (.imm (h - l) ((cs.drop (l*sz)).take ((h - l)*sz)))
     |.ref k gn off _=>
      match m.get k with
      |some (.arr g s' _ _)=>if g=gn∧s'=sz then some (.ref k gn (off+l*sz) (h - l)) else none
      |_=>none
     |_=>none
    |none=>none
   |_,_=>none
  |some (.array n e)=>
   match bK P e,fp n lo hi,x with
   |some sz,some (l,h),.ptr k gn off=>
    match m.get k with
    |some (.arr g s' cs _)=>if g=gn∧s'=sz∧off+n*sz≤cs.length then some (.ref k gn (off+l*sz) (h - l)) else none
    |_=>none
   |_,_,_=>none
  |_=>none
def fS (P:Program) (t:TypeId) (x i:CV):Option CV:=
 match eH i with
 |none=>none
 |some i=>
  match P.underlying t with
  |some (.slice e)=>
   match bK P e,x with
   |some sz,.imm n cs=>if i<n∧i*sz<cs.length then some (.rptr (cs.drop (i*sz))) else none
   |some sz,.ref k gn off len=>if i<len then some (.ptr k gn (off+i*sz)) else none
   |_,_=>none
  |some (.array n e)=>
   match bK P e,x with
   |some sz,.ptr k gn off=>if i<n then some (.ptr k gn (off+i*sz)) else none
   |some sz,.rptr cs=>if i<n then some (.rptr (cs.drop (i*sz))) else none
   |_,_=>none
  |_=>none
def fR (P:Program) (t:TypeId) (x:CV) (f:Nat):Option CV:=
 match lT P t f with
 |none=>none
 |some (off,ft)=>
  match bK P ft with
  |some (_+1)=>match x with
   |.ptr k gn o=>some (.ptr k gn (o+off))
   |.rptr cs=>some (.rptr (cs.drop off))
   |_=>none
  |_=>none
def adopt1 (glob:Bool) (j:Nat) (v:CV) (m:Mem):CV×Mem:=
 match v with
 |.own n sz cs vl=>
  let r:=m.add glob j λg=>.arr g sz cs vl
  (.ref r.1 r.2.1 0 n,r.2.2)
 |v=>(v,m)
def adopts (glob:Bool):Nat→List CV→Mem→List CV×Mem
 |_,[],m=>([],m)
 |j,v::r,m=>
  let x:=adopt1 glob j v m
  let y:=adopts glob (j+1) r x.2
  (x.1::y.1,y.2)
def adopt (glob:Bool) (d:Nat) (v:CV) (m:Mem):CV×Mem:=
 match v with
 |.tuple cs=>
  let y:=adopts glob (16*d+1) cs m
  (.tuple y.1,y.2)
 |v=>adopt1 glob (16*d) v m
def fa:CV→Bool
 |.bool _=>true
 |.int _ _=>true
 |.nil=>true
 |.tuple cs=>cs.all fun
  |.bool _=>true
  |.int _ _=>true
  |.nil=>true
  |_=>false
 |_=>false
def di (gs:List Nat):Option Tmp→Bool
 |some d=>gs.contains d
 |none=>false
def cW:Option Tmp→Nat
 |some d=>16*d
 |none=>0
def dC:Option (List Tmp)→List CV→List CV
 |none,sl=>sl
 |some ks,sl=>ks.foldl (λacc t=>li acc t (bH sl t)) []
def jf (gs:List Nat) (d:Option Tmp) (r:CV) (m:Mem):Option (CV×Mem):=
 match d with
 |some d=>some (adopt (gs.contains d) d r m)
 |none=>some (.dead,m)
def cd (A:Ann) (F:aW) (fid:FuncId) (d:Option Tmp) (f:FuncId) (args:List CV) (m:Mem):Option (CV×Mem):=
 (bp m args).bind λx=>
  if A.pure f then
   if noGs x.1 then
    (F f x.1 []).bind λr=>if noG r.1 then jf (A.glob fid) d r.1 (if fa r.1 then m else x.2) else none
   else none
  else
   (F f x.1 x.2.H).bind λr=>jf (A.glob fid) d r.1 { L:=x.2.L,H:=r.2 }
def mL (P:Program) (t:TypeId) (v:CV) (name:String):Option (FuncId×CV):=
 match P.info? t with
 |none=>none
 |some i=>
  match i.methods.find? (·.name==name) with
  |none=>none
  |some x=>
   match x.path.toList,x.func with
   |[],some (f,ptr)=>
    match P.underlying t,ptr with
    |some (.pointer _),true=>some (f,v)
    |some (.pointer _),false=>none
    |some _,false=>some (f,v)
    |_,_=>none
   |_,_=>none
def mK (P:Program) (t:TypeId):Bool:=
 match P.underlying t with
 |some (.interface _)=>true
 |_=>false
def dx (A:Ann) (F:aW) (fid:FuncId) (d:Option Tmp) (f:CV) (args:List CV) (m:Mem):Option (CV×Mem):=
 match f with
 |.func (.func f) first captured=>cd A F fid d f (first++args++captured) m
 |_=>none
def hZ (b:Bool):List CV→Option CV
 |[.int k a,.int k' c]=>if k=k' then some (.int k (if b then (if c>a then c else a) else (if c<a then c else a))) else none
 |_=>none
def cval (P:Program) (A:Ann) (F:aW) (fid:FuncId) (ρ:Operand→CV) (o:Oper) (m:Mem):Option (CV×Mem):=
 let glob:Bool:=di (A.glob fid) o.dst
 let j:Nat:=cW o.dst
 match o.op with
 |.move x=>some (ρ x,m)
 |.assign x=>some (ρ x,m)
 |.pick c a b=>match ρ c with
  |.bool true=>some (ρ a,m)
  |.bool false=>some (ρ b,m)
  |_=>none
 |.alloc t=>match dk P t with
  |some z=>
   let r:=m.add glob j λg=>match lS P t with
    |some (_,e)=>.arr g ((bK P e).getD 0) z 0
    |none=>.var g z 0
   some (.ptr r.1 r.2.1 0,r.2.2)
  |none=>none
 |.box t x=>
  match ap (ρ x),lS P t with
  |some cs,some (_,e)=>(bp m cs).map λy=>
   let r:=y.2.add glob j λg=>.arr g ((bK P e).getD 0) y.1 0
   (.ptr r.1 r.2.1 0,r.2.2)
  |some cs,none=>
   if glob then (bp m cs).map λy=>
    let r:=y.2.add glob j λg=>.var g y.1 0
    (.ptr r.1 r.2.1 0,r.2.2)
   else
    let r:=m.add glob j λg=>.var g cs 0
    some (.ptr r.1 r.2.1 0,r.2.2)
  |none,_=>none
 |.build t parts=>
  match dk P t,P.underlying t with
  |some z,some (.struct fields)=>
   if fields.toList.all (λf=>(bK P f.type).isSome) then (KT (λi=>(fields[i]?).bind λf=>(bK P f.type).map λs=>(f.offset,s)) z (parts.toList.map λp=>(p.1,ρ p.2))).map λcs=>(.agg cs,m)
   else none
  |some z,some (.array _ e)=>
   (bK P e).bind λs=>(KT (λi=>some (i*s,s)) z (parts.toList.map λp=>(p.1,ρ p.2))).map λcs=>(.agg cs,m)
  |_,_=>none
 |.buildSlice t n parts=>
  match w7 P t with
  |some e=>
   match bK P e,dk P e with
   |some s,some z=>
    if n*s≤1048576∧z.length=s then
     (KT (λi=>some (i*s,s)) (dM n z) (parts.toList.map λp=>(p.1,ρ p.2))).bind λcs=>
      (bp m cs).map λy=>
       let r:=y.2.add glob j λg=>.arr g s y.1 0
       (.ref r.1 r.2.1 0 n,r.2.2)
    else none
   |_,_=>none
  |none=>none
 |.load t a=>(eW P m t (ρ a)).map λv=>(v,m)
 |.store t a x=>(ls P m t (ρ a) (ρ x)).map λm'=>(.dead,m')
 |.nilCheck x=>match ρ x with
  |.ptr k g o=>some (.ptr k g o,m)
  |.rptr cs=>some (.rptr cs,m)
  |_=>none
 |.binOp op t x y _=>(aw P op t x y (ρ x) (ρ y)).map λv=>(v,m)
 |.unOp op _ x=>(cun op (ρ x)).map λv=>(v,m)
 |.convert src dst x=>match P.underlying src,FW P dst,ρ x with
  |some _,some k,.int _ n=>some (.int k (k.wrap n),m)
  |_,_,_=>none
 |.makeInterface t x=>if mK P t||(P.underlying t).isNone then none else some (.iface t (ρ x),m)
 |.makeFunc fn first captured=>some (.func fn (first.toList.map ρ) (captured.toList.map ρ),m)
 |.makeMap t none=>match jg P t with
  |some _=>
   let r:=m.add glob j λg=>.map g []
   some (.map r.1 r.2.1,r.2.2)
  |none=>none
 |.makeMap t (some h)=>match jg P t,ρ h with
  |some _,.int _ _=>
   let r:=m.add glob j λg=>.map g []
   some (.map r.1 r.2.1,r.2.2)
  |_,_=>none
 |.makeSlice t l c=>match w7 P t with
  |some e=>
   match bK P e,dk P e,ρ l,ρ c with
   |some s,some z,.int _ a,.int _ b=>
    if 0≤a∧a=b∧Lq P e a.toNat∧z.length=s then
     let r:=m.add glob j λg=>.arr g s (dM a.toNat z) 0
     some (.ref r.1 r.2.1 0 a.toNat,r.2.2)
    else none
   |_,_,_,_=>none
  |none=>none
 |.slice t x lo hi mx=>(iH P t (ρ x) (lo.map ρ) (hi.map ρ) (mx.map ρ) m).map λv=>(v,m)
 |.fieldAddr s x f=>(fR P s (ρ x) f).map λv=>(v,m)
 |.field t x f=>match lT P t f,ρ x with
  |some (off,ft),.agg cs=>(iu P ft cs off).map λv=>(v,m)
  |_,_=>none
 |.indexAddr t x i=>(fS P t (ρ x) (ρ i)).map λv=>(v,m)
 |.index t x i=>match ρ x,eH (ρ i) with
  |.agg cs,some i=>match lS P t with
   |some (n,e)=>if i<n then (bK P e).bind λs=>(iu P e cs (i*s)).map λv=>(v,m) else none
   |none=>none
  |.str s,some i=>match P.underlying t with
   |some .string=>(s[i]?).map λb=>(.int .u8 b.toNat,m)
   |_=>none
  |_,_=>none
 |.lookup t x i ok=>match jg P t,fx m (ρ x) with
  |some (kt,et),some es=>
   if b8 P kt then
    match gH P kt (ρ i) es 0,iy P et with
    |some (some (_,v)),_=>some (if ok then .tuple [v,.bool true] else v,m)
    |some none,some z=>some (if ok then .tuple [z,.bool false] else z,m)
    |_,_=>none
   else none
  |_,_=>none
 |.mapUpdate t x k v=>mapUp P m t (ρ x) (ρ k) (ρ v)
 |.insert t x k v=>mapUp P m t (ρ x) (ρ k) (ρ v)
 |.typeAssert x _ t ok=>match P.underlying t with
  |none=>none
  |some d=>match ρ x with
   |.inil=>if ok then (iy P t).map λz=>(.tuple [z,.bool false],m) else none
   |.iface u v=>
    match (match d with
     |.interface want=>(P.info? u).map λi=>want.toList.all λw=>i.methods.any λx=>x.name==w.1&&x.sig==w.2
     |_=>some (decide (u=t))) with
    |some true=>
     let r:CV:=match d with
      |.interface _=>.iface u v
      |_=>v
     some (if ok then .tuple [r,.bool true] else r,m)
    |some false=>if ok then (iy P t).map λz=>(.tuple [z,.bool false],m) else none
    |none=>none
   |_=>none
 |.extract t i=>match ρ t with
  |.tuple vs=>(vs[i]?).map λv=>(v,m)
  |_=>none
 |.call c=>
  match c.callee with
  |.value f=>dx A F fid o.dst (ρ f) (c.args.toList.map ρ) m
  |.invoke recv name=>match ρ recv with
   |.iface t x=>(mL P t x name).bind λy=>cd A F fid o.dst y.1 (y.2::c.args.toList.map ρ) m
   |_=>none
  |.builtin .len=>match c.args.toList.map ρ,c.argTypes.toList with
   |[x],[t]=>match P.underlying t with
    |some (.slice _)=>(clen x).map λ(n:Nat)=>(.int .i64 (n:Int),m)
    |some (.map _ _)=>(fx m x).map λes=>(.int .i64 (es.length:Int),m)
    |some .string=>match x with
     |.str s=>some (.int .i64 s.size,m)
     |_=>none
    |some (.array n _)=>some (.int .i64 n,m)
    |_=>none
   |_,_=>none
  |.builtin .append=>match c.args.toList.map ρ,c.argTypes.toList with
   |[s,x],t::u::_=>match w7 P t,w7 P u with
    |some e,some _=>ky P glob j e s x m
    |_,_=>none
   |_,_=>none
  |.builtin .copy=>match c.args.toList.map ρ,c.argTypes.toList with
   |[d,x],t::_=>match w7 P t with
    |some e=>vT P e d x m
    |none=>none
   |_,_=>none
  |.builtin .max=>(hZ true (c.args.toList.map ρ)).map λv=>(v,m)
  |.builtin .min=>(hZ false (c.args.toList.map ρ)).map λv=>(v,m)
  |.builtin .delete=>match c.args.toList.map ρ,c.argTypes.toList with
   |[x,k],t::_=>match x,jg P t with
    |.map key gn,some (kt,_)=>match m.get key with
     |some (.map g es)=>
      if g=gn∧b8 P kt then
       match gH P kt k es 0 with
       |some (some (i,_))=>some (.tuple [],m.set key (.map g (es.eraseIdx i)))
       |some none=>some (.tuple [],m.set key (.map g es))
       |none=>none
      else none
     |_=>none
    |_,_=>none
   |_,_=>none
  |_=>none
 |_=>none
where
 mapUp (P:Program) (m:Mem) (t:TypeId) (x k v:CV):Option (CV×Mem):=
  match jg P t,x with
  |some (kt,_),.map key gn=>
   (bp m [v]).bind λy=>
    match y.2.get key,y.1 with
    |some (.map g es),[v']=>
     if g=gn∧b8 P kt∧rZ k then
      match gH P kt k es 0 with
      |some (some (i,_))=>some (.dead,y.2.set key (.map g (es.set i (k,v'))))
      |some none=>some (.dead,y.2.set key (.map g (es++[(k,v')])))
      |none=>none
     else none
    |_,_=>none
  |_,_=>none
end Go.Cm
namespace Go.Cm
mutual
def CV.beq:CV→CV→Bool
 |.dead,.dead=>true
 |.bool a,.bool b=>a==b
 |.int k a,.int k' b=>decide (k=k')&&decide (a=b)
 |.str a,.str b=>decide (a=b)
 |.agg a,.agg b=>beqs a b
 |.nil,.nil=>true
 |.imm n a,.imm n' b=>decide (n=n')&&beqs a b
 |.own n s a v,.own n' s' b v'=>decide (n=n')&&decide (s=s')&&decide (v=v')&&beqs a b
 |.ref k g o l,.ref k' g' o' l'=>decide (k=k')&&decide (g=g')&&decide (o=o')&&decide (l=l')
 |.pnil,.pnil=>true
 |.ptr k g o,.ptr k' g' o'=>decide (k=k')&&decide (g=g')&&decide (o=o')
 |.rptr a,.rptr b=>beqs a b
 |.mnil,.mnil=>true
 |.map k g,.map k' g'=>decide (k=k')&&decide (g=g')
 |.func f a b,.func f' a' b'=>decide (f=f')&&beqs a a'&&beqs b b'
 |.nilf,.nilf=>true
 |.inil,.inil=>true
 |.iface t v,.iface t' v'=>decide (t=t')&&CV.beq v v'
 |.tuple a,.tuple b=>beqs a b
 |_,_=>false
def beqs:List CV→List CV→Bool
 |[],[]=>true
 |a::as,b::bs=>CV.beq a b&&beqs as bs
 |_,_=>false
end
def dR (ops:List Oper) (sl:List CV) (o:Oper):Option Bool:=
 match o.guard with
 |none=>some true
 |some (g,want)=>
  match (ops[g]?).bind (·.dst) with
  |some d=>match bH sl d with
   |.bool b=>some (b==want)
   |.tuple []=>some false
   |_=>none
  |none=>none
section
variable (P:Program) (A:Ann) (F:aW) (fid:FuncId) (nt:Nat)
def dok (d:Option Tmp):Bool:=match d with|some d=>decide (d<nt)|none=>true
def cop (ops:List Oper) (o:Oper) (s:CS):Option CS:=
 if dok nt o.dst=false then none else
 match dR ops s.sl o with
 |some true=>(cval P A F fid (ev s.sl) o s.m).map λx=>{ sl:=eu s.sl o.dst x.1,m:=x.2 }
 |some false=>some { s with sl:=eu s.sl o.dst (.tuple []) }
 |none=>none
def rI (ops:List Oper):List Oper→CS→Option CS
 |[],s=>some s
 |o::r,s=>(cop P A F fid nt ops o s).bind (rI ops r)
def pq (acc:List Nat) (o:Oper):Nat:=
 o.after.toList.foldl (λs e=>if Region.binds .any e then s ||| (2 ^ e.on ||| acc.getD e.on 0) else s) 0
def cy:List Oper→List Nat→List Nat
 |[],acc=>acc
 |o::r,acc=>cy r (acc++[pq acc o])
def oi:Builtin→Bool
 |.len=>true
 |.max=>true
 |.min=>true
 |_=>false
def bJ:Op→Bool
 |.move _=>true
 |.assign _=>true
 |.pick _ _ _=>true
 |.build _ _=>true
 |.load _ _=>true
 |.nilCheck _=>true
 |.binOp _ _ _ _ _=>true
 |.unOp _ _ _=>true
 |.convert _ _ _=>true
 |.makeInterface _ _=>true
 |.makeFunc _ _ _=>true
 |.slice _ _ _ _ _=>true
 |.fieldAddr _ _ _=>true
 |.field _ _ _=>true
 |.indexAddr _ _ _=>true
 |.index _ _ _=>true
 |.lookup _ _ _ _=>true
 |.typeAssert _ _ _ _=>true
 |.extract _ _=>true
 |.call c=>match c.callee with
  |.builtin b=>oi b
  |_=>false
 |_=>false
def plainAlloc (o:Oper):Bool:=
 match o.op,o.guard,o.dst with
 |.alloc t,none,some _=>(lS P t).isNone
 |_,_,_=>false
def bt (o:Oper):Bool:=!(bJ o.op) && !(plainAlloc P o)
def cg (ops:List Oper) (o:Oper):List Tmp:=
 (o.op.operands.toList.filterMap λ|.tmp t=>some t|_=>none) ++
 (match o.guard with
  |some (g,_)=>((ops[g]?).bind (·.dst)).toList
  |none=>[])
def iW (ops:List Oper) (i j:Nat) (x y:Oper) (my:Nat):Bool:=
 (match x.dst with|some d=>(y.dst != some d)&&(!((cg ops y).contains d)||my.testBit i)|none=>true) &&
 (match y.dst with|some d=>!((cg ops x).contains d)||my.testBit i|none=>true) &&
 (!(bt P x&&bt P y)||my.testBit i)&&decide (i<j)
def sD (ops:List Oper) (j:Nat) (y:Oper) (my:Nat):Nat→List Oper→Bool
 |_,[]=>true
 |i,x::r=>if i<j then iW P ops i j x y my&&sD ops j y my (i+1) r else true
def ol (ops:List Oper) (masks:List Nat):Nat→List Oper→Bool
 |_,[]=>true
 |j,y::r=>sD P ops j y (masks.getD j 0) 0 ops&&y.after.toList.all (λe=>!(Region.binds .any e)||decide (e.on<j))&&ol ops masks (j+1) r
def evL (ts:List Tmp) (sl:List CV):Operand→CV
 |.tmp t=>if ts.contains t then bH sl t else .dead
 |x=>ev sl x
structure Al where
 i:Nat
 key:Key
 gn:Nat
 z:List CV
def Hd:Nat→List Oper→Mem→Option (List Al×Mem)
 |_,[],m=>some ([],m)
 |i,o::r,m=>
  if plainAlloc P o then
   match o.op with
   |.alloc t=>(dk P t).bind λz=>
    let x:=m.add (di (A.glob fid) o.dst) (cW o.dst) λg=>.var g z 0
    (Hd (i+1) r x.2.2).map λy=>({ i:=i,key:=x.1,gn:=x.2.1,z:=z }::y.1,y.2)
   |_=>none
  else Hd (i+1) r m
def oU:List Al→Nat→Option Al
 |[],_=>none
 |a::r,j=>if a.i=j then some a else oU r j
structure Row where
 i:Nat
 o:Oper
 sl:List CV
 m:Mem
 go:Bool
 v:CV
 m':Mem
def kE (ops:List Oper) (al:List Al) (i:Nat) (o:Oper) (sl:List CV) (m:Mem):Option Row:=
 if dok nt o.dst=false then none else
 match dR ops sl o with
 |some true=>
  if plainAlloc P o then (oU al i).map λa=>{ i:=i,o:=o,sl:=sl,m:=m,go:=true,v:=.ptr a.key a.gn 0,m':=m }
  else (cval P A F fid (evL (cg ops o) sl) o m).map λx=>{ i:=i,o:=o,sl:=sl,m:=m,go:=true,v:=x.1,m':=if bJ o.op then m else x.2 }
 |some false=>some { i:=i,o:=o,sl:=sl,m:=m,go:=false,v:=.tuple [],m':=m }
 |none=>none
def jG (ops:List Oper) (al:List Al):Nat→List Oper→List CV→Mem→Option (List Row×List CV×Mem)
 |_,[],sl,m=>some ([],sl,m)
 |i,o::r,sl,m=>(kE P A F fid nt ops al i o sl m).bind λx=>(jG ops al (i+1) r (eu sl o.dst x.v) x.m').map λy=>(x::y.1,y.2)
def eU (ops:List Oper) (d:Row) (m:Mem):Bool:=
 match cval P A F fid (evL (cg ops d.o) d.sl) d.o m with
 |some (v,_)=>CV.beq v d.v
 |none=>false
def steady (ops:List Oper) (masks:List Nat) (d:Row) (last:Mem):List Row→Bool
 |e::es=>(((masks.getD d.i 0).testBit e.i)||eU P A F fid ops d e.m)&&(((masks.getD e.i 0).testBit d.i)||steady ops masks d last es)
 |[]=>eU P A F fid ops d last
def cC (a:Al) (m:Mem):Bool:=
 match m.get a.key with
 |some (.var g cs vl)=>decide (g=a.gn)&&decide (vl=0)&&beqs cs a.z
 |_=>false
def iP:List Al→Bool
 |[]=>true
 |a::r=>r.all (λb=>decide (a.key≠b.key))&&iP r
def cdraw (ops:List Oper) (s:CS):Option CS:=
 let masks:=cy ops []
 if ol P ops masks 0 ops then
  (Hd P A fid 0 ops s.m).bind λa=>
   (jG P A F fid nt ops a.1 0 ops s.sl a.2).bind λt=>
    let es:=t.1.filter λx=>bt P x.o
    if iP a.1&&(a.1.all λb=>cC b a.2&&es.all λe=>(masks.getD e.i 0).testBit b.i||cC b e.m') &&
      (t.1.all λx=>!(x.go&&bJ x.o.op)||steady P A F fid ops masks x t.2.2 es) then some { sl:=t.2.1,m:=t.2.2 } else none
 else none
namespace W2
def Nm (o:Oper):Bool:=
 match o.op,o.guard,o.dst with
 |.makeSlice _ _ _,none,some _=>true
 |_,_,_=>false
def plainAlloc (o:Oper):Bool:=Cm.plainAlloc P o||Nm o
def bt (o:Oper):Bool:=!(bJ o.op) && !(plainAlloc P o)
def iW (ops:List Oper) (i j:Nat) (x y:Oper) (my:Nat):Bool:=
 (match x.dst with|some d=>(y.dst != some d)&&(!((cg ops y).contains d)||my.testBit i)|none=>true) &&
 (match y.dst with|some d=>!((cg ops x).contains d)||my.testBit i|none=>true) &&
 (!(bt P x&&bt P y)||my.testBit i)&&decide (i<j)
def sD (ops:List Oper) (j:Nat) (y:Oper) (my:Nat):Nat→List Oper→Bool
 |_,[]=>true
 |i,x::r=>if i<j then iW P ops i j x y my&&sD ops j y my (i+1) r else true
def ol (ops:List Oper) (masks:List Nat):Nat→List Oper→Bool
 |_,[]=>true
 |j,y::r=>sD P ops j y (masks.getD j 0) 0 ops&&y.after.toList.all (λe=>!(Region.binds .any e)||decide (e.on<j))&&ol ops masks (j+1) r
structure Al where
 i:Nat
 key:Key
 gn:Nat
 z:List CV
 row:Option (Nat×Nat)
def w8 (z:List CV) (row:Option (Nat×Nat)) (g:Nat):HO:=match row with|none=>.var g z 0|some s=>.arr g s.1 z 0
def Al.cv (a:Al):CV:=match a.row with|none=>.ptr a.key a.gn 0|some s=>.ref a.key a.gn 0 s.2
def Hm (ρ:Operand→CV) (o:Oper):Option (List CV×Option (Nat×Nat)):=
 match o.op with
 |.alloc t=>(dk P t).map λz=>(z,none)
 |.makeSlice t l c=>match w7 P t with
  |some e=>
   match bK P e,dk P e,ρ l,ρ c with
   |some s,some z,.int _ a,.int _ b=>if 0≤a∧a=b∧Lq P e a.toNat∧z.length=s then some (dM a.toNat z,some (s,a.toNat)) else none
   |_,_,_,_=>none
  |none=>none
 |_=>none
def Hd (qs:List CV):Nat→List Oper→Mem→Option (List Al×Mem)
 |_,[],m=>some ([],m)
 |i,o::r,m=>
  if plainAlloc P o then
   (Hm P (ev qs) o).bind λzr=>
    let x:=m.add (di (A.glob fid) o.dst) (cW o.dst) (w8 zr.1 zr.2)
    (Hd qs (i+1) r x.2.2).map λy=>({ i:=i,key:=x.1,gn:=x.2.1,z:=zr.1,row:=zr.2 }::y.1,y.2)
  else Hd qs (i+1) r m
def oU:List Al→Nat→Option Al
 |[],_=>none
 |a::r,j=>if a.i=j then some a else oU r j
def kE (ops:List Oper) (al:List Al) (i:Nat) (o:Oper) (sl:List CV) (m:Mem):Option Row:=
 if dok nt o.dst=false then none else
 match dR ops sl o with
 |some true=>
  if plainAlloc P o then (oU al i).bind λa=>
   match Hm P (evL (cg ops o) sl) o with
   |some zr=>if zr.2=a.row∧beqs zr.1 a.z=true then some { i:=i,o:=o,sl:=sl,m:=m,go:=true,v:=a.cv,m':=m } else none
   |none=>none
  else (cval P A F fid (evL (cg ops o) sl) o m).map λx=>{ i:=i,o:=o,sl:=sl,m:=m,go:=true,v:=x.1,m':=if bJ o.op then m else x.2 }
 |some false=>some { i:=i,o:=o,sl:=sl,m:=m,go:=false,v:=.tuple [],m':=m }
 |none=>none
def jG (ops:List Oper) (al:List Al):Nat→List Oper→List CV→Mem→Option (List Row×List CV×Mem)
 |_,[],sl,m=>some ([],sl,m)
 |i,o::r,sl,m=>(kE P A F fid nt ops al i o sl m).bind λx=>(jG ops al (i+1) r (eu sl o.dst x.v) x.m').map λy=>(x::y.1,y.2)
def cC (a:Al) (m:Mem):Bool:=
 match m.get a.key,a.row with
 |some (.var g cs vl),none=>decide (g=a.gn)&&decide (vl=0)&&beqs cs a.z
 |some (.arr g s cs vl),some r=>decide (g=a.gn)&&decide (vl=0)&&decide (s=r.1)&&beqs cs a.z
 |_,_=>false
def iP:List Al→Bool
 |[]=>true
 |a::r=>r.all (λb=>decide (a.key≠b.key))&&iP r
def KZ:List Oper→List CV→Mem→List CV
 |[],sl,_=>sl
 |o::r,sl,m=>if bJ o.op then (match cval P A F fid (ev sl) o m with|some v=>KZ r (eu sl o.dst v.1) m|none=>KZ r sl m) else KZ r sl m
def cdraw (ops:List Oper) (s:CS):Option CS:=
 let masks:=cy ops []
 if ol P ops masks 0 ops then
  (Hd P A fid (KZ P A F fid ops s.sl s.m) 0 ops s.m).bind λa=>
   (jG P A F fid nt ops a.1 0 ops s.sl a.2).bind λt=>
    let es:=t.1.filter λx=>bt P x.o
    if iP a.1&&(a.1.all λb=>cC b a.2&&es.all λe=>(masks.getD e.i 0).testBit b.i||cC b e.m') &&
      (t.1.all λx=>!(x.go&&bJ x.o.op)||steady P A F fid ops masks x t.2.2 es) then some { sl:=t.2.1,m:=t.2.2 } else none
 else none
end W2
def Lb (ops:List Oper) (s:CS):Option CS:=
 match cdraw P A F fid nt ops s with
 |some x=>some x
 |none=>W2.cdraw P A F fid nt ops s
inductive CE where
 |normal
 |exit (id:Nat)
 |ret
 deriving DecidableEq,Inhabited
def ly:Nat→(CS→Option (CE×CS))→CS→Option (CE×CS)
 |0,_,_=>none
 |n+1,f,s=>(f s).bind λr=>match r.1 with
  |.normal=>ly n f r.2
  |e=>some (e,r.2)
def cG (n:Nat):Code→CS→Option (CE×CS)
 |.skip,s=>some (.normal,s)
 |.label _,s=>some (.normal,s)
 |.region id ops draw,s=>(if draw then Lb P A F fid nt ops.toList s else rI P A F fid nt ops.toList ops.toList s).map λs'=>(.normal,{ sl:=dC (A.keep fid id) s'.sl,m:=s'.m })
 |.seq a b,s=>(cG n a s).bind λr=>match r.1 with
  |.normal=>cG n b r.2
  |e=>some (e,r.2)
 |.cond c x y,s=>match ev s.sl c with
  |.bool true=>cG n x s
  |.bool false=>cG n y s
  |_=>none
 |.block id c,s=>(cG n c s).map λr=>match r.1 with
  |.exit i=>if i=id then (.normal,r.2) else r
  |_=>r
 |.loop c,s=>ly n (cG n c) s
 |.exit id,s=>some (.exit id,s)
 |.ret,s=>some (.ret,s)
 |_,_=>none
end
def gD (v:CV) (m:Mem):Option (CV×Mem):=
 match v with
 |.ref (.l j) gn off len=>
  match aK m.L j with
  |some (.arr g sz cs vl)=>
   if g=gn then some (.own len sz ((cs.drop off).take (len*sz)) (vl - off),m.set (.l j) (.arr (g+1) sz [] 0)) else none
  |_=>none
 |v=>esc iC v m
def Ei (P:Program) (m:Mem) (sl:List CV):ResultVar→Option CV
 |.tmp t=>some (bH sl t)
 |.cell a t=>eW P m t (bH sl a)
def ii (P:Program) (sl:List CV) (m:Mem):List ResultVar→Option (List CV)
 |[]=>some []
 |r::rs=>(Ei P m sl r).bind λv=>(ii P sl m rs).map λvs=>v::vs
def tup:List CV→CV
 |[v]=>v
 |vs=>.tuple vs
def kz (P:Program) (A:Ann) (E:aW):Nat→aW
 |0,_,_,_=>none
 |n+1,f,args,H=>
  match E f args H with
  |some r=>some r
  |none=>
   match P.funcs[f]? with
   |none=>none
   |some fn=>
    match fn.body with
    |none=>none
    |some c=>
     if args.length≤fn.ntmps then
      (cG P A (kz P A E n) f fn.ntmps n c { sl:=args,m:={ L:=[],H:=H } }).bind λr=>
       match r.1 with
       |.exit _=>none
       |_=>
        (ii P r.2.sl r.2.m fn.results.toList).bind λvs=>
         (am gD vs r.2.m).map λx=>(tup x.1,x.2.H)
     else none
end Go.Cm
namespace Go.Cm
structure Pl where
 blk:Nat
 base:Nat
 bsz:Nat
abbrev KM:=Nat→Nat→Option Value
abbrev PM:=Key→Option Pl
abbrev MM:=Key→Option HO
def keyOK (loc:Bool):Key→Prop
 |.l _=>loc=true
 |.g _=>True
def RefAt (p:Option Pl) (sz n off len:Nat) (a:Option Addr) (cap:Nat):Prop:=
 cap=0∨∃q,p=some q∧a=some ⟨q.blk,q.base+off,Option.none⟩∧q.base+off+cap*sz≤q.bsz∧off+len*sz≤n
mutual
def V (K:KM) (M:MM) (P:PM):Bool→CV→Value→Prop
 |_,.dead,_=>True
 |_,.bool b,v=>v=.bool b
 |_,.int k n,v=>v=.int k n
 |_,.str s,v=>v=.string s
 |loc,.agg cs,v=>cs.all bE=true∧∃vs:Array Value,v=.agg vs∧Vs K M P loc cs vs.toList
 |_,.nil,v=>v=.slice Option.none 0 0
 |_,.imm n cs,v=>cs.all bE=true∧∃a cap,v=.slice a n cap∧n≤cap∧(cs=[]∨∃b o,a=some ⟨b,o,Option.none⟩∧Vk K M P b o cs)
 |_,.own _ _ _ _,_=>False
 |loc,.ref k gn off len,v=>keyOK loc k∧∃h a cap,M k=some h∧gn≤h.gn∧v=.slice a len cap∧len≤cap∧(cap=0∨a.isSome=true) ∧
   (gn=h.gn→∃sz cs vl,h=.arr gn sz cs vl∧RefAt (P k) sz cs.length off len a cap)
 |_,.pnil,v=>v=.pointer Option.none
 |loc,.ptr k gn off,v=>keyOK loc k∧∃h a,M k=some h∧gn≤h.gn∧v=.pointer (some a) ∧
   (gn=h.gn→∃q,P k=some q∧a=⟨q.blk,q.base+off,Option.none⟩)
 |_,.rptr cs,v=>cs.all bE=true∧∃b o,v=.pointer (some ⟨b,o,Option.none⟩)∧Vk K M P b o cs
 |_,.mnil,v=>v=.map Option.none
 |loc,.map k gn,v=>keyOK loc k∧∃h r,M k=some h∧gn≤h.gn∧v=.map (some r)∧(gn=h.gn→∃q,P k=some q∧r=q.blk)
 |loc,.func f a b,v=>∃x y:Array Value,v=.func f x y∧Vs K M P loc a x.toList∧Vs K M P loc b y.toList
 |_,.nilf,v=>v=.nilFunc
 |_,.inil,v=>v=.nilIface
 |loc,.iface t c,v=>∃u,v=.iface t u∧V K M P loc c u
 |loc,.tuple cs,v=>∃vs:Array Value,v=.tuple vs∧Vs K M P loc cs vs.toList
def Vs (K:KM) (M:MM) (P:PM):Bool→List CV→List Value→Prop
 |_,[],vs=>vs=[]
 |loc,c::cs,vs=>∃v r,vs=v::r∧V K M P loc c v∧Vs K M P loc cs r
def Vk (K:KM) (M:MM) (P:PM):Nat→Nat→List CV→Prop
 |_,_,[]=>True
 |b,o,c::cs=>(∃v,K b o=some v∧V K M P false c v)∧Vk K M P b (o+1) cs
end
def wN (h h':HO) (p p':Option Pl):Prop:=
 (∀q,p=some q→p'=some q)∧(∀g sz cs vl,h=.arr g sz cs vl→∃cs' vl',h'=.arr g sz cs' vl'∧cs.length≤cs'.length)
def Grow (loc:Bool) (M:MM) (P:PM) (M':MM) (P':PM):Prop:=
 ∀k h,keyOK loc k→M k=some h→∃h',M' k=some h'∧h.gn≤h'.gn∧(h.gn=h'.gn→wN h h' (P k) (P' k))
theorem Grow.sub {loc:Bool}{M M':MM}{P P':PM}(h:Grow loc M P M' P'):Grow false M P M' P':=by
 intro k x hk hx;refine h k x ?_ hx
 cases k<;>simp[keyOK] at hk ⊢
theorem RefAt.mono {p p':Option Pl}{sz n n' off len cap:Nat}{a:Option Addr}(h:RefAt p sz n off len a cap) (hp:∀q,p=some q→p'=some q) (hn:n≤n') :
  RefAt p' sz n' off len a cap:=by
 rcases h with h|⟨q,h1,h2,h3,h4⟩
 ·exact .inl h
 ·exact .inr ⟨q,hp q h1,h2,h3,by omega⟩
section
variable {K K':KM}{M M':MM}{P P':PM}
theorem keyOK.le {loc loc':Bool}(hl:loc=true→loc'=true) {k:Key}(h:keyOK loc k):keyOK loc' k:=by
 cases k with
 |l j=>exact hl h
 |g n=>trivial
mutual
theorem V_mono (hK:∀b o v,K b o=some v→K' b o=some v) (hF:Grow false M P M' P') {loc loc':Bool}(hl:loc=true→loc'=true)
  (hM:Grow loc M P M' P'):∀(c:CV) (v:Value),V K M P loc c v→V K' M' P' loc' c v
 |.dead,_,_=>by simp[V]
 |.bool b,_,h=>by simpa[V] using h
 |.int k n,_,h=>by simpa[V] using h
 |.str s,_,h=>by simpa[V] using h
 |.agg cs,v,h=>by
  simp only[V] at h ⊢;obtain⟨h0,vs,hv,hs⟩:=h
  exact⟨h0,vs,hv,Vs_mono hK hF hl hM cs _ hs⟩
 |.nil,_,h=>by simpa[V] using h
 |.imm n cs,v,h=>by
  simp only[V] at h ⊢;obtain⟨h0,a,cap,hv,hn,hc⟩:=h
  refine⟨h0,a,cap,hv,hn,?_⟩
  rcases hc with hc|⟨b,o,ha,hk⟩
  ·exact .inl hc
  ·exact .inr ⟨b,o,ha,Vk_mono hK hF cs b o hk⟩
 |.own _ _ _ _,_,h=>by simp[V] at h
 |.ref k gn off len,v,h=>by
  simp only[V] at h ⊢;obtain⟨hk,x,a,cap,hx,hg,hv,hc,hs,hr⟩:=h;obtain⟨x',hx',hle,hp⟩:=hM k x hk hx
  refine⟨hk.le hl,x',a,cap,hx',by omega,hv,hc,hs,?_⟩
  intro he;have hgx:gn=x.gn:=by omega
  obtain⟨sz,cs,vl,hxe,hra⟩:=hr hgx;obtain⟨hp1,hp2⟩:=hp (by omega);obtain⟨cs',vl',h',hlen⟩:=hp2 _ _ _ _ hxe
  exact⟨sz,cs',vl',h',hra.mono hp1 hlen⟩
 |.pnil,_,h=>by simpa[V] using h
 |.ptr k gn off,v,h=>by
  simp only[V] at h ⊢;obtain⟨hk,x,a,hx,hg,hv,hr⟩:=h;obtain⟨x',hx',hle,hp⟩:=hM k x hk hx
  refine⟨hk.le hl,x',a,hx',by omega,hv,?_⟩
  intro he;obtain⟨q,hq,ha⟩:=hr (by omega)
  exact⟨q,(hp (by omega)).1 q hq,ha⟩
 |.rptr cs,v,h=>by
  simp only[V] at h ⊢;obtain⟨h0,b,o,hv,hk⟩:=h
  exact⟨h0,b,o,hv,Vk_mono hK hF cs b o hk⟩
 |.mnil,_,h=>by simpa[V] using h
 |.map k gn,v,h=>by
  simp only[V] at h ⊢;obtain⟨hk,x,r,hx,hg,hv,hr⟩:=h;obtain⟨x',hx',hle,hp⟩:=hM k x hk hx
  refine⟨hk.le hl,x',r,hx',by omega,hv,?_⟩
  intro he;obtain⟨q,hq,ha⟩:=hr (by omega)
  exact⟨q,(hp (by omega)).1 q hq,ha⟩
 |.func f a b,v,h=>by
  simp only[V] at h ⊢;obtain⟨x,y,hv,hx,hy⟩:=h
  exact⟨x,y,hv,Vs_mono hK hF hl hM a _ hx,Vs_mono hK hF hl hM b _ hy⟩
 |.nilf,_,h=>by simpa[V] using h
 |.inil,_,h=>by simpa[V] using h
 |.iface t c,v,h=>by
  simp only[V] at h ⊢;obtain⟨u,hv,hu⟩:=h
  exact⟨u,hv,V_mono hK hF hl hM c u hu⟩
 |.tuple cs,v,h=>by
  simp only[V] at h ⊢;obtain⟨vs,hv,hs⟩:=h
  exact⟨vs,hv,Vs_mono hK hF hl hM cs _ hs⟩
theorem Vs_mono (hK:∀b o v,K b o=some v→K' b o=some v) (hF:Grow false M P M' P') {loc loc':Bool}(hl:loc=true→loc'=true)
  (hM:Grow loc M P M' P'):∀(cs:List CV) (vs:List Value),Vs K M P loc cs vs→Vs K' M' P' loc' cs vs
 |[],_,h=>by simpa[Vs] using h
 |c::cs,vs,h=>by
  simp only[Vs] at h ⊢;obtain⟨v,r,hv,hc,hr⟩:=h
  exact⟨v,r,hv,V_mono hK hF hl hM c v hc,Vs_mono hK hF hl hM cs r hr⟩
theorem Vk_mono (hK:∀b o v,K b o=some v→K' b o=some v) (hF:Grow false M P M' P'):∀(cs:List CV) (b o:Nat),Vk K M P b o cs→Vk K' M' P' b o cs
 |[],_,_,_=>by simp[Vk]
 |c::cs,b,o,h=>by
  simp only[Vk] at h ⊢;obtain⟨⟨v,hv,hc⟩,hr⟩:=h
  exact⟨⟨v,hK b o v hv,V_mono hK hF (λh=>h) hF c v hc⟩,Vk_mono hK hF cs b (o+1) hr⟩
end
theorem Grow.refl (loc:Bool) (M:MM) (P:PM):Grow loc M P M P:=by
 intro k h _ hh
 exact⟨h,hh,Nat.le_refl _,λ_=>⟨λq hq=>hq,λg sz cs vl he=>⟨cs,vl,he,Nat.le_refl _⟩⟩⟩
theorem rx {loc:Bool}{c:CV}{v:Value}(h:V K M P false c v):V K M P loc c v:=
 V_mono (λ_ _ _ h=>h) (Grow.refl _ _ _) (by simp) (Grow.refl _ _ _) c v h
theorem bT {loc:Bool}:∀{cs:List CV}{vs:List Value},Vs K M P loc cs vs→vs.length=cs.length
 |[],vs,h=>by simp[Vs] at h;simp[h]
 |c::cs,vs,h=>by
  simp only[Vs] at h;obtain⟨v,r,rfl,_,hr⟩:=h;simp[bT hr]
theorem dX {loc:Bool}:∀{cs:List CV}{vs:List Value},Vs K M P loc cs vs→∀{i:Nat}{c:CV},cs[i]?=some c→∃v,vs[i]?=some v∧V K M P loc c v
 |[],vs,h,i,c,hc=>by simp at hc
 |x::cs,vs,h,i,c,hc=>by
  simp only[Vs] at h;obtain⟨v,r,rfl,hv,hr⟩:=h
  cases i with
  |zero=>simp at hc;subst hc;exact⟨v,by simp,hv⟩
  |succ i=>simp at hc;simpa using dX hr hc
theorem pi {loc:Bool}:∀{cs:List CV}{vs:List Value},vs.length=cs.length→(∀(i:Nat) (c:CV),cs[i]?=some c→∃v,vs[i]?=some v∧V K M P loc c v)→Vs K M P loc cs vs
 |[],vs,hl,_=>by simpa[Vs] using hl
 |x::cs,[],hl,_=>by simp at hl
 |x::cs,v::vs,hl,h=>by
  simp only[Vs]
  refine⟨v,vs,rfl,?_,pi (by simpa using hl) λi c hc=>?_⟩
  ·obtain⟨v',h1,h2⟩:=h 0 x (by simp)
   simp at h1;subst h1;exact h2
  ·simpa using h (i+1) c (by simpa using hc)
theorem gF {loc:Bool}:∀{a b:List CV}{x y:List Value},Vs K M P loc a x→Vs K M P loc b y→Vs K M P loc (a++b) (x++y)
 |[],b,x,y,ha,hb=>by simp[Vs] at ha;subst ha;simpa using hb
 |c::a,b,x,y,ha,hb=>by
  simp only[Vs] at ha;obtain⟨v,r,rfl,hv,hr⟩:=ha;simp only[List.cons_append,Vs]
  exact⟨v,r++y,rfl,hv,gF hr hb⟩
theorem qo:∀{cs:List CV}{b o:Nat},Vk K M P b o cs→∀{i:Nat}{c:CV},cs[i]?=some c→∃v,K b (o+i)=some v∧V K M P false c v
 |[],b,o,h,i,c,hc=>by simp at hc
 |x::cs,b,o,h,i,c,hc=>by
  simp only[Vk] at h
  cases i with
  |zero=>simp at hc;subst hc;simpa using h.1
  |succ i=>
   simp at hc;obtain⟨v,h1,h2⟩:=qo h.2 hc
   exact⟨v,by rw[show o+(i+1)=o+1+i from by omega];exact h1,h2⟩
theorem ph:∀{cs:List CV}{b o:Nat},(∀(i:Nat) (c:CV),cs[i]?=some c→∃v,K b (o+i)=some v∧V K M P false c v)→Vk K M P b o cs
 |[],b,o,_=>by simp[Vk]
 |x::cs,b,o,h=>by
  simp only[Vk]
  refine⟨by simpa using h 0 x (by simp),ph λi c hc=>?_⟩
  obtain⟨v,h1,h2⟩:=h (i+1) c (by simpa using hc)
  exact⟨v,by rw[show o+1+i=o+(i+1) from by omega];exact h1,h2⟩
theorem mE {cs:List CV}{b o:Nat}(h:Vk K M P b o cs) (n:Nat):Vk K M P b (o+n) (cs.drop n):=
 ph λi c hc=>by
  rw[List.getElem?_drop] at hc;obtain⟨v,h1,h2⟩:=qo h hc
  exact⟨v,by rw[show o+n+i=o+(n+i) from by omega];exact h1,h2⟩
theorem uU {cs:List CV}{b o:Nat}(h:Vk K M P b o cs) (n:Nat):Vk K M P b o (cs.take n):=
 ph λi c hc=>by
  rw[List.getElem?_take] at hc
  split at hc
  ·exact qo h hc
  ·simp at hc
theorem aq (L:List (Nat×HO)) (i j:Nat) (h:HO):aK (gb L i h) j=if i=j then some h else aK L j:=by
 induction L with
 |nil=>simp[gb,aK]
 |cons x r ih=>
  obtain⟨a,y⟩:=x;simp only[gb]
  by_cases ha:a=i
  ·subst ha
   simp only[if_true,aK]
   by_cases hj:a=j
   ·simp[hj]
   ·simp[hj]
  ·simp only[ha,if_false,aK,ih]
   by_cases hj:a=j
   ·have:i≠j:=by omega
    simp[hj,this]
   ·simp[hj]
theorem dH (l:List CV) (i j:Nat) (v:CV):bH (li l i v) j=if i=j then v else bH l j:=by
 induction l generalizing i j with
 |nil=>
  induction i generalizing j with
  |zero=>cases j<;>simp[li,bH]
  |succ i ih=>
   cases j with
   |zero=>simp[li,bH]
   |succ j=>simp[li,bH,ih]
 |cons x l ih=>
  cases i with
  |zero=>cases j<;>simp[li,bH]
  |succ i=>cases j with
   |zero=>simp[li,bH]
   |succ j=>simp[li,bH,ih]
theorem qA (m:Mem) (k k':Key) (h:HO) (x:HO) (hk:m.get k=some x):(m.set k h).get k'=if k=k' then some h else m.get k':=by
 cases k with
 |l j=>
  cases k' with
  |l j'=>simp[Mem.get,Mem.set,aq]
  |g n=>simp[Mem.get,Mem.set]
 |g n=>
  cases k' with
  |l j'=>simp[Mem.get,Mem.set]
  |g n'=>
   simp only[Mem.get,Mem.set,List.getElem?_set] at hk ⊢;have hlt:n<m.H.length:=(List.getElem?_eq_some_iff.1 hk).1
   by_cases he:n=n'
   ·subst he;simp[hlt]
   ·simp[he]
end
end Go.Cm
