import Derived.Test.YtijcpefcfcbcnaaGrA
set_option linter.unusedSimpArgs false
set_option linter.unusedVariables false
namespace Go.Ir
open Go.Gr
structure Nd where
 op:Int
 id:Int
 alu:Int
 wide:Bool
 a:Int
 b:Int
 imm:Int
 size:Int
 off:Int
 grd:Bool
 args:List Int
 at_:Int
structure Ph where
 id:Int
 src:List Int
structure Tm where
 op:Int
 cond:Int
 wide:Bool
 a:Int
 b:Int
 to:Int
 els:Int
structure Pt where
 pred:List Int
 phis:List Ph
 nodes:List Nd
 fin:Tm
structure Cd where
 parts:List Pt
 values:Int
def cE (e:Tm):List Int:=if e.op=1 then [e.to] else if e.op=2 then [e.to,e.els] else []
def aE (f:Cd):List (List Int):=f.parts.map fun p=>cE p.fin
def eF (n:Nd):List Int:=if n.op=4∨n.op=6 then [n.a,n.b] else if n.op=5 then [n.a] else if n.op=7 then n.args else []
def jC (e:Tm):List Int:=if e.op=3 then [e.a] else if e.op=2 then [e.a,e.b] else []
def ku (op:Int):Bool:=[0,16,32,48,64,80,96,112,128,144,160,176,192].contains op
def cL (op:Int):Bool:=[16,32,48,64,80,96,112,160,176,192,208].contains op
def dN (n:Int):Bool:=[1,2,4,8].contains n
def bZ (n:Int):Option Nat:=if n=1 then some 0 else if n=2 then some 1 else if n=3 then some 2 else if n=4 then some 2 else if n=5 then some 3 else none
def bX (n:Nd):Bool:=
 if n.op=1∨n.op=2∨n.op=3 then true else if n.op=4 then ku n.alu
 else if n.op=5 then dN n.size&&decide (-32768≤n.off∧n.off≤32767)
 else if n.op=6 then dN n.size&&decide (-32768≤n.off∧n.off≤32767)&&decide (n.id = -1)
 else if n.op=7 then decide (bZ n.imm=some n.args.length) else false
def bP (s:List (List Int)) (b:Int) (n:Nat):List Int:=(List.range n).flatMap fun(a:Nat)=>((s.getD a []).filter fun y=>decide (y=b)).map fun _=>(a:Int)
def ip (n:Nat) (e:Tm):Bool:=decide (1≤e.op)&&decide (e.op≤3)&&(decide (e.op≠2)||(cL e.cond&&decide (e.to≠e.els)))&&(cE e).all fun y=>decide (0≤y∧y<n)
def bY (f:Cd):Bool:=
 (f.parts.all fun p=>ip f.parts.length p.fin)&&((List.range f.parts.length).all fun b=>decide ((b:Int) ∈ ord (aE f))&&decide (bP (aE f) b f.parts.length=(f.parts.map (·.pred)).getD b [])) &&
 decide (((f.parts.map (·.pred)).getD 0 [])=[])
def mk1 (l:List (Option (Int×Int))) (id:Int) (p:Int×Int):Option (List (Option (Int×Int))):=
 if 0≤id∧l[id.toNat]?=some none then some (l.set id.toNat (some p)) else none
def fZ (i:Int):List Ph→List (Option (Int×Int))→Option (List (Option (Int×Int)))
 |[],l=>some l
 |x::r,l=>(mk1 l x.id (i,0)).bind (fZ i r)
def ck (i:Int):Nat→List Nd→List (Option (Int×Int))→Option (List (Option (Int×Int)))
 |_,[],l=>some l
 |k,n::r,l=>if bX n=true then if n.op=6 then ck i (k+1) r l else (mk1 l n.id (i,((k+1:Nat):Int))).bind (ck i (k+1) r) else none
def cJ:Nat→List Pt→List (Option (Int×Int))→Option (List (Option (Int×Int)))
 |_,[],l=>some l
 |i,p::r,l=>((fZ i p.phis l).bind (ck i 0 p.nodes)).bind (cJ (i+1) r)
def cq (f:Cd):Option (List (Option (Int×Int))):=cJ 0 f.parts (List.replicate f.values.toNat none)
open Classical in
noncomputable def bu (g:List (List Int)) (l:List (Option (Int×Int))) (part at_ id:Int):Bool:=
 if 0≤id then match l[id.toNat]? with
  |some (some x)=>if x.1=part then decide (x.2<at_) else decide (Dom g x.1 part)
  |_=>false
 else false
def eD:Int:=1073741824
noncomputable def eg (g:List (List Int)) (l:List (Option (Int×Int))) (i:Int) (p:Pt):Bool:=
 (p.phis.all fun x=>decide (x.src.length=p.pred.length)&&(List.range x.src.length).all fun k=>bu g l (p.pred.getD k 0) eD (x.src.getD k 0)) &&
 ((List.range p.nodes.length).all fun(k:Nat)=>match p.nodes[k]? with|some n=>(eF n).all (bu g l i ((k+1:Nat):Int))|none=>true) &&
 (jC p.fin).all (bu g l i eD)
noncomputable def ew (f:Cd) (l:List (Option (Int×Int))):Bool:=(List.range f.parts.length).all fun(i:Nat)=>match f.parts[i]? with|some p=>eg (aE f) l (i:Int) p|none=>true
noncomputable def bG (f:Cd):Bool:=
 decide (1≤f.parts.length)&&decide (f.parts.length≤8192)&&decide (0≤f.values)&&decide (f.values≤65536)&&bY f&&match cq f with|some l=>ew f l|none=>false
end Go.Ir
