import Derived.Test.YtjhndbgokapikaaCwA
set_option linter.unusedSimpArgs false
set_option linter.unusedVariables false
namespace Go.Cm
structure SO where
 d:Option Tmp
 op:Op
 g:Option (Tmp×Bool)
 off:List (Bool×Nat)
inductive SC where
 |nop
 |reg (dr:Bool) (keep:Option (List Tmp)) (ops:List SO)
 |seq (a b:SC)
 |cond (c:Operand) (x y:SC)
 |block (id:Nat) (c:SC)
 |loop (c:SC)
 |exit (id:Nat)
 |ret
def SO.up (x:SO):Oper:={ dst:=x.d,op:=x.op,type:=0,pos := "",after:=#[],guard:=none }
def iX (sl:List CV):Option (Tmp×Bool)→Option Bool
 |none=>some true
 |some (t,want)=>match bH sl t with
  |.bool b=>some (b==want)
  |.tuple []=>some false
  |_=>none
def nS:CV→Bool
 |.ref _ _ _ _=>true
 |_=>false
def n0:CV→Bool
 |.tuple cs=>cs.all λc=>!(nS c)
 |c=>!(nS c)
def dm (A:Ann):Op→Bool
 |.call c=>match c.callee with
  |.value (.func f)=>A.pure f
  |_=>false
 |_=>false
def pO (off:List (Bool×Nat)):CV→Bool
 |.ptr (.l j) _ _=>off.any λx=>if x.1 then decide (16*x.2≤j) else decide (j=16*x.2)
 |_=>false
def offK {α:Type}(off:List (Bool×Nat)) (p:CV) (x:Option α):Option α:=if pO off p then none else x
def HM:Nat:=4294967295
def sameAt (d:Nat) (m m':Mem):Prop:=if d=HM then m.H=m'.H else aK m.L (16*d)=aK m'.L (16*d)
open Classical in
noncomputable def qR (off:List (Bool×Nat)) (m:Mem) (x:Option (CV×Mem)):Option (CV×Mem):=
 x.bind λy=>if ∀z∈off,z.1=false→sameAt z.2 m y.2 then some y else none
def e9 (off:List (Bool×Nat)):CV→Bool
 |.ref (.l j) _ _ _=>off.any λx=>x.1&&decide (j<16*x.2)
 |.ref (.g _) _ _ _=>off.any λx=>x.1
 |_=>false
def qQ {α:Type}(off:List (Bool×Nat)) (v:CV) (x:Option α):Option α:=if e9 off v then none else x
def atIn (off:List (Bool×Nat)):CV→Bool
 |.ptr (.l j) _ _=>off.all λx=>!x.1||decide (j=16*x.2)
 |_=>false
def offP {α:Type}(off:List (Bool×Nat)) (p:CV) (x:Option α):Option α:=
 if off.any λx=>x.1 then (if atIn off p then x else none) else x
theorem Mf {α:Type}{off:List (Bool×Nat)}{p:CV}{x:Option α}{y:α}(h:offP off p x=some y):x=some y∧∀d,(true,d)∈off→∃g o,p=.ptr (.l (16*d)) g o:=by
 unfold offP at h
 split at h
 ·split at h
  ·rename_i ha
   refine⟨h,λd hd=>?_⟩
   unfold atIn at ha
   split at ha
   ·simp only[List.all_eq_true,Bool.or_eq_true,Bool.not_eq_true',decide_eq_true_eq] at ha
    rcases ha _ hd with h1|h1
    ·cases h1
    ·exact⟨_,_,by rw[h1]⟩
   ·cases ha
  ·cases h
 ·rename_i hn
  refine⟨h,λd hd=>absurd ?_ hn⟩
  simp only[List.any_eq_true]
  exact⟨_,hd,rfl⟩
noncomputable def fw (off:List (Bool×Nat)) (op:Op) (ρ:Operand→CV) (m:Mem) (x:Option (CV×Mem)):Option (CV×Mem):=
 match off with
 |[]=>x
 |_=>match op with
  |.load _ p=>offK off (ρ p) x
  |.call c=>match c.args.toList with
   |a::_=>qQ off (ρ a) (qR off m x)
   |[]=>qR off m x
  |.store _ p _=>offP off (ρ p) (qR off m x)
  |_=>qR off m x
theorem fL {off:List (Bool×Nat)}{m:Mem}{x:Option (CV×Mem)}{y:CV×Mem}(h:qR off m x=some y):x=some y∧∀z∈off,z.1=false→sameAt z.2 m y.2:=by
 simp only[qR,Option.bind_eq_some_iff] at h;obtain⟨z,h1,h2⟩:=h
 split at h2
 ·rename_i hall
  simp only[Option.some.injEq] at h2;subst h2
  exact⟨h1,hall⟩
 ·cases h2
theorem lB {off:List (Bool×Nat)}{op:Op}{ρ:Operand→CV}{m:Mem}{x:Option (CV×Mem)}{y:CV×Mem}(h:fw off op ρ m x=some y):x=some y:=by
 unfold fw at h
 split at h
 ·exact h
 ·split at h
  ·unfold offK at h;split at h
   ·cases h
   ·exact h
  ·split at h
   ·unfold qQ at h;split at h
    ·cases h
    ·exact(fL h).1
   ·exact(fL h).1
  ·exact(fL (Mf h).1).1
  ·exact(fL h).1
theorem sn {off:List (Bool×Nat)}{op:Op}{ρ:Operand→CV}{m:Mem}{x:Option (CV×Mem)}{y:CV×Mem}(h:fw off op ρ m x=some y) (hl:∀t p,op≠.load t p) :
  (∀z∈off,z.1=false→sameAt z.2 m y.2)∧(∀c a r,op=.call c→c.args.toList=a::r→e9 off (ρ a)=false)∧∀t p v,op=.store t p v→∀d,(true,d)∈off→∃g o,ρ p=.ptr (.l (16*d)) g o:=by
 unfold fw at h
 split at h
 ·refine⟨λz hz=>by simp at hz,λc a r _ _=>?_,λ_ _ _ _ d hd=>by simp at hd⟩
  generalize ρ a=v;unfold e9
  split<;>rfl
 ·split at h
  ·exact absurd rfl (hl _ _)
  ·rename_i c
   split at h
   ·rename_i a0 r0 ha
    unfold qQ at h;split at h
    ·cases h
    ·rename_i hr
     refine⟨(fL h).2,λc' a r he hc=>?_,λ_ _ _ he=>by cases he⟩
     injection he with he
     subst he;rw[ha] at hc
     injection hc with hc
     rw[←hc];simpa using hr
   ·rename_i ha
    refine⟨(fL h).2,λc' a r he hc=>?_,λ_ _ _ he=>by cases he⟩
    injection he with he
    subst he;rw[ha] at hc;cases hc
  ·obtain⟨h1,h2⟩:=Mf h
   refine⟨(fL h1).2,λc' a r he hc=>(by cases he),λt p v he=>?_⟩
   injection he with _ he _
   subst he;exact h2
  ·rename_i h3 h4 h5
   exact⟨(fL h).2,λc' a r he hc=>absurd he (h4 _),λ_ _ _ he=>absurd he (h5 _ _ _)⟩
section
variable (P:Program) (A:Ann) (F:aW) (fid:FuncId) (nt:Nat)
noncomputable def sop (dr:Bool) (o:SO) (s:CS):Option CS:=
 match iX s.sl o.g with
 |some true=>(fw o.off o.op (ev s.sl) s.m (cval P A F fid (ev s.sl) o.up s.m)).bind λx=>if (dr&&dm A o.op && !(n0 x.1))=true then none else some { sl:=eu s.sl o.d x.1,m:=x.2 }
 |some false=>some { s with sl:=eu s.sl o.d (.tuple []) }
 |none=>none
noncomputable def nf (dr:Bool):List SO→CS→Option CS
 |[],s=>some s
 |o::r,s=>(sop P A F fid dr o s).bind (nf dr r)
def ox (ops:List Oper) (o:Oper):Option SO:=
 if dok nt o.dst then
  match o.guard with
  |none=>some { d:=o.dst,op:=o.op,g:=none,off:=[] }
  |some (g,w)=>match (ops[g]?).bind (·.dst) with
   |some d=>some { d:=o.dst,op:=o.op,g:=some (d,w),off:=[] }
   |none=>none
 else none
def fj (ops:List Oper):List Oper→Option (List SO)
 |[]=>some []
 |o::r=>(ox nt ops o).bind λx=>(fj ops r).map λy=>x::y
def pH:Nat→List Oper→List (Nat×Bool)
 |_,[]=>[]
 |i,o::r=>if bt P o then (i,dm A o.op)::pH (i+1) r else pH (i+1) r
def Eu (masks:List Nat) (es:List (Nat×Bool)) (i:Nat):Bool:=
 (List.range es.length).all λj=>
  match es[j]? with
  |some (e,calm)=>calm||(decide (e<i)&&(es.take (j+1)).all λx=>(masks.getD i 0).testBit x.1)||(decide (i<e)&&(masks.getD e 0).testBit i)
  |none=>true
def wm (masks:List Nat) (es:List (Nat×Bool)):Nat→List Oper→Bool
 |_,[]=>true
 |i,o::r=>(!(bJ o.op)||ge o.op||Eu masks es i) && !(plainAlloc P o)&&wm masks es (i+1) r
def uj (ops:List Oper):Bool:=
 let masks:=cy ops []
 ol P ops masks 0 ops&&wm P masks (pH P A 0 ops) 0 ops
def gC:Nat→List Oper→List (Nat×Tmp)
 |_,[]=>[]
 |i,o::r=>if plainAlloc P o then (match o.dst with|some d=>(i,d)::gC (i+1) r|none=>gC (i+1) r) else gC (i+1) r
def rR (news:List (Nat×Tmp)) (o:Oper):Option (Bool×Nat):=
 match o.op with
 |.buildSlice _ _ _=>o.dst.bind λd=>if (A.glob fid).contains d then none else some (true,d)
 |.call c=>match c.callee with
  |.value (.func f)=>if A.pure f then o.dst.bind λd=>if (A.glob fid).contains d then none else some (true,d) else none
  |.builtin .append=>match c.args.toList,o.dst with
   |.tmp t::_,some d=>if (A.glob fid).contains d then none else some (true,min t d)
   |_,_=>none
  |_=>none
 |.store _ (.tmp t) _=>if news.any (λx=>x.2==t) then some (false,t) else (A.base fid t).map λu=>(false,u)
 |_=>none
def tR (news:List (Nat×Tmp)):Nat→List Oper→List (Nat×Option (Bool×Nat))
 |_,[]=>[]
 |i,o::r=>if bt P o then (i,rR A fid news o)::tR news (i+1) r else tR news (i+1) r
def xx (masks:List Nat) (es:List (Nat×Option (Bool×Nat))) (i j e:Nat):Bool:=
 (decide (e<i)&&(es.take (j+1)).all λx=>(masks.getD i 0).testBit x.1)||(decide (i<e)&&(masks.getD e 0).testBit i)
def xW (masks:List Nat) (es:List (Nat×Option (Bool×Nat))) (i:Nat):Bool:=
 (List.range es.length).all λj=>match es[j]? with
  |some (e,_)=>xx masks es i j e
  |none=>true
def DX (masks:List Nat) (es:List (Nat×Option (Bool×Nat))) (i:Nat):Bool:=
 (List.range es.length).all λj=>match es[j]? with
  |some (e,f)=>xx masks es i j e||f.isSome
  |none=>true
def offL (masks:List Nat) (es:List (Nat×Option (Bool×Nat))) (i:Nat):List (Bool×Nat):=
 (List.range es.length).filterMap λj=>match es[j]? with
  |some (e,f)=>if xx masks es i j e then none else f
  |none=>none
def offE (masks:List Nat) (news:List (Nat×Tmp)) (i:Nat):List (Bool×Nat):=
 news.filterMap λb=>if (masks.getD i 0).testBit b.1 then none else some (false,b.2)
def uZ (news:List (Nat×Tmp)) (o:Oper):List (Bool×Nat):=
 match o.op with
 |.call c=>match c.callee with
  |.builtin .append=>(rR A fid news o).toList
  |_=>[]
 |_=>[]
def Mw (news:List (Nat×Tmp)) (o:Oper):List (Bool×Nat):=
 match o.op with
 |.store _ (.tmp t) _=>if news.any (λx=>x.2==t) then [] else ((A.base fid t).map λu=>(true,u)).toList
 |_=>[]
def iO:Op→Bool
 |.load _ _=>true
 |_=>false
def sM (masks:List Nat) (news:List (Nat×Tmp)) (es:List (Nat×Option (Bool×Nat))) (i:Nat) (o:Oper):List (Bool×Nat):=
 if bt P o then offE masks news i++(uZ A fid news o++Mw A fid news o) else if iO o.op && !(ge o.op) then offL masks es i else []
def vU (ops:List Oper) (masks:List Nat) (news:List (Nat×Tmp)) (es:List (Nat×Option (Bool×Nat))):Nat→List Oper→Bool
 |_,[]=>true
 |i,o::r=>(!(bJ o.op)||ge o.op||xW masks es i||(iO o.op&&DX masks es i)) &&
   (news.all λb=>decide (b.1<i) || !((cg ops o).contains b.2))&&(!(bt P o)||iO o.op==false)&&vU ops masks news es (i+1) r
def drawOK (ops:List Oper):Bool:=
 let masks:=cy ops []
 let news:=gC P 0 ops
 let es:=tR P A fid news 0 ops
 ol P ops masks 0 ops&&vU P ops masks news es 0 ops&&(news.all λb=>!((A.glob fid).contains b.2)&&decide (b.2≠HM)) &&
  (news.all λb=>(List.range es.length).all λj=>(List.range j).all λi=>match es[i]?,es[j]? with
   |some x,some y=>!((masks.getD x.1 0).testBit b.1)||(masks.getD y.1 0).testBit b.1
   |_,_=>true)
def D8 (o:Oper):SO:={ d:=o.dst,op:=o.op,g:=none,off:=[] }
def jn (ops:List Oper) (masks:List Nat) (news:List (Nat×Tmp)) (es:List (Nat×Option (Bool×Nat))):Nat→List Oper→Option (List SO)
 |_,[]=>some []
 |i,o::r=>if plainAlloc P o then jn ops masks news es (i+1) r else
  (ox nt ops o).bind λx=>(jn ops masks news es (i+1) r).map λy=>{ x with off:=sM P A fid masks news es i o }::y
def drawSO (ops:List Oper):Option (List SO):=
 let masks:=cy ops []
 let news:=gC P 0 ops
 let es:=tR P A fid news 0 ops
 (jn P A fid nt ops masks news es 0 ops).map λxs=>(ops.filter (plainAlloc P)).map D8++xs
namespace W2
def LR (o:Oper):Bool:=
 match o.op with
 |.call c=>match c.callee with
  |.builtin .len=>match c.args.toList,c.argTypes.toList with
   |[_],[t]=>match P.underlying t with
    |some (.slice _)=>true
    |_=>false
   |_,_=>false
  |_=>false
 |_=>false
def KE (o:Oper):Bool:=o.guard.isNone&&((ge o.op&&bJ o.op)||LR P o)
def earlyT (ops:List Oper) (ds:List Tmp):List Tmp→List Oper→List Tmp
 |acc,[]=>acc
 |acc,o::r=>match o.dst with
  |some d=>if KE P o&&(cg ops o).all (λt=>!(ds.contains t)||acc.contains t) then earlyT ops ds (d::acc) r else earlyT ops ds acc r
  |none=>earlyT ops ds acc r
def isE (E:List Tmp) (o:Oper):Bool:=
 match o.dst with
 |some d=>E.contains d
 |none=>false
def gC:Nat→List Oper→List (Nat×Tmp)
 |_,[]=>[]
 |i,o::r=>if plainAlloc P o then (match o.dst with|some d=>(i,d)::gC (i+1) r|none=>gC (i+1) r) else gC (i+1) r
def xT (E:List Tmp):Nat→List Oper→List (Nat×Tmp)
 |_,[]=>[]
 |i,o::r=>if plainAlloc P o||isE E o then (match o.dst with|some d=>(i,d)::xT E (i+1) r|none=>xT E (i+1) r) else xT E (i+1) r
def P8 (masks:List Nat) (news:List (Nat×Tmp)) (i:Nat):List (Bool×Nat):=
 news.filterMap λb=>if (masks.getD i 0).testBit b.1 then none else if (A.glob fid).contains b.2 then some (false,HM) else some (false,b.2)
def MD (ops:List Oper):List (Nat×Tmp):=(Cm.gC P 0 ops).filter λb=>!((A.glob fid).contains b.2)
def tR (vars:List (Nat×Tmp)):Nat→List Oper→List (Nat×Option (Bool×Nat))
 |_,[]=>[]
 |i,o::r=>if bt P o then (i,rR A fid vars o)::tR vars (i+1) r else tR vars (i+1) r
def sM (masks:List Nat) (vars news:List (Nat×Tmp)) (es:List (Nat×Option (Bool×Nat))) (i:Nat) (o:Oper):List (Bool×Nat):=
 if bt P o then P8 A fid masks news i++(uZ A fid vars o++Mw A fid vars o) else if iO o.op && !(ge o.op) then offL masks es i else []
def vU (ops:List Oper) (masks:List Nat) (pend:List (Nat×Tmp)) (es:List (Nat×Option (Bool×Nat))):Nat→List Oper→Bool
 |_,[]=>true
 |i,o::r=>(!(bJ o.op)||ge o.op||LR P o||xW masks es i||(iO o.op&&DX masks es i)) &&
   (pend.all λb=>decide (b.1<i) || !((cg ops o).contains b.2))&&(!(bt P o)||iO o.op==false)&&vU ops masks pend es (i+1) r
def earlyOK (ops:List Oper) (E ds:List Tmp):Bool:=
 ops.all λo=>(!(isE E o)||(KE P o && !(plainAlloc P o)))&&(!(isE E o||plainAlloc P o)||(cg ops o).all λt=>!(ds.contains t)||E.contains t)
def drawOK (ops:List Oper):Bool:=
 let masks:=cy ops []
 let ds:=ops.filterMap (·.dst)
 let E:=earlyT P ops ds [] ops
 let news:=gC P 0 ops
 let vars:=MD P A fid ops
 let es:=tR P A fid vars 0 ops
 ol P ops masks 0 ops&&vU P ops masks (xT P E 0 ops) es 0 ops&&earlyOK P ops E ds&&(news.all λb=>decide (b.2≠HM)) &&
  (news.all λb=>(List.range es.length).all λj=>(List.range j).all λi=>match es[i]?,es[j]? with
   |some x,some y=>!((masks.getD x.1 0).testBit b.1)||(masks.getD y.1 0).testBit b.1
   |_,_=>true)
def jn (E:List Tmp) (ops:List Oper) (masks:List Nat) (vars news:List (Nat×Tmp)) (es:List (Nat×Option (Bool×Nat))):Nat→List Oper→Option (List SO)
 |_,[]=>some []
 |i,o::r=>if plainAlloc P o||isE E o then jn E ops masks vars news es (i+1) r else
  (ox nt ops o).bind λx=>(jn E ops masks vars news es (i+1) r).map λy=>{ x with off:=sM P A fid masks vars news es i o }::y
def drawSO (ops:List Oper):Option (List SO):=
 let masks:=cy ops []
 let ds:=ops.filterMap (·.dst)
 let E:=earlyT P ops ds [] ops
 let news:=gC P 0 ops
 let vars:=MD P A fid ops
 let es:=tR P A fid vars 0 ops
 (jn P A fid nt E ops masks vars news es 0 ops).map λxs=>(ops.filter (isE E)).map D8++((ops.filter (plainAlloc P)).map D8++xs)
end W2
def bh:Code→Option SC
 |.skip=>some .nop
 |.label _=>some .nop
 |.region id ops draw=>if draw then (if uj P A ops.toList && !(A.nd fid id) then (fj nt ops.toList ops.toList).map (.reg true (A.keep fid id)) else
   if drawOK P A fid ops.toList&&(A.keep fid id).isSome&&(ops.toList.all λo=>!(plainAlloc P o)||dok nt o.dst) then (drawSO P A fid nt ops.toList).map (.reg false (A.keep fid id)) else
    if W2.drawOK P A fid ops.toList && !(ol P ops.toList (cy ops.toList []) 0 ops.toList)&&(A.keep fid id).isSome&&(ops.toList.all λo=>!(W2.plainAlloc P o||W2.isE (W2.earlyT P ops.toList (ops.toList.filterMap (·.dst)) [] ops.toList) o)||dok nt o.dst) then (W2.drawSO P A fid nt ops.toList).map (.reg false (A.keep fid id)) else none) else (fj nt ops.toList ops.toList).map (.reg false (A.keep fid id))
 |.seq a b=>(bh a).bind λx=>(bh b).map λy=>.seq x y
 |.cond c a b=>(bh a).bind λx=>(bh b).map λy=>.cond c x y
 |.block id c=>(bh c).map (.block id)
 |.loop c=>(bh c).map .loop
 |.exit id=>some (.exit id)
 |.ret=>some .ret
 |_=>none
noncomputable def cA (n:Nat):SC→CS→Option (CE×CS)
 |.nop,s=>some (.normal,s)
 |.reg dr keep ops,s=>(nf P A F fid dr ops s).map λs'=>(.normal,{ sl:=dC keep s'.sl,m:=s'.m })
 |.seq a b,s=>(cA n a s).bind λr=>match r.1 with
  |.normal=>cA n b r.2
  |e=>some (e,r.2)
 |.cond c x y,s=>match ev s.sl c with
  |.bool true=>cA n x s
  |.bool false=>cA n y s
  |_=>none
 |.block id c,s=>(cA n c s).map λr=>match r.1 with
  |.exit i=>if i=id then (.normal,r.2) else r
  |_=>r
 |.loop c,s=>ly n (cA n c) s
 |.exit id,s=>some (.exit id,s)
 |.ret,s=>some (.ret,s)
end
section
variable {P:Program}{A:Ann}{F:aW}{fid:FuncId}{nt:Nat}{ρ:Operand→CV}{m m':Mem}
theorem KQ (o:Oper) {x:SO}(h1:x.d=o.dst) (h2:x.op=o.op):cval P A F fid ρ x.up m=cval P A F fid ρ o m:=by
 obtain⟨d,op,g,off⟩:=x;obtain⟨dst,op',ty,pos,after,guard⟩:=o;simp only at h1 h2;subst h1 h2;rfl
theorem iY {ops:List Oper}{o:Oper}{x:SO}(h:ox nt ops o=some x):dok nt o.dst=true∧x.d=o.dst∧x.op=o.op∧(∀sl,dR ops sl o=iX sl x.g)∧x.off=[]:=by
 unfold ox at h
 split at h
 ·rename_i hd
  refine⟨hd,?_⟩
  split at h
  ·rename_i hg
   simp only[Option.some.injEq] at h;subst h
   exact⟨rfl,rfl,λsl=>by simp[dR,hg,iX],rfl⟩
  ·rename_i g w hg
   split at h
   ·rename_i d hdd
    simp only[Option.some.injEq] at h;subst h
    refine⟨rfl,rfl,λsl=>?_,rfl⟩
    simp only[dR,hg,hdd,iX];generalize bH sl d=c
    cases c<;>rfl
   ·cases h
 ·cases h
theorem sop_cop {ops:List Oper}{o:Oper}{x:SO}(hx:ox nt ops o=some x) {dr:Bool}{s s':CS}(h:sop P A F fid dr x s=some s'):cop P A F fid nt ops o s=some s':=by
 obtain⟨h1,h2,h3,h4,h5⟩:=iY hx;unfold cop;simp only[h1,h4];unfold sop at h;rw[KQ o h2 h3,h5] at h;simp only[fw] at h;rw[if_neg (by simp)]
 split at h
 ·rename_i hg
  simp only[hg];simp only[Option.bind_eq_some_iff] at h;obtain⟨y,hy,h⟩:=h
  split at h
  ·cases h
  ·simp only[Option.some.injEq] at h
   simp only[hy,Option.map_some,←h,h2]
 ·rename_i hg
  simp only[hg,←h,h2]
 ·cases h
theorem p5 {ops:List Oper}{dr:Bool}:∀(l:List Oper) (xs:List SO) (s s':CS),fj nt ops l=some xs→nf P A F fid dr xs s=some s'→rI P A F fid nt ops l s=some s'
 |[],xs,s,s',hx,h=>by
  simp only[fj,Option.some.injEq] at hx;subst hx;simpa[nf,rI] using h
 |o::l,xs,s,s',hx,h=>by
  simp only[fj,Option.bind_eq_some_iff,Option.map_eq_some_iff] at hx;obtain⟨x,hx1,ys,hx2,rfl⟩:=hx;simp only[nf,rI,Option.bind_eq_some_iff] at h ⊢;obtain⟨s1,h1,h2⟩:=h
  exact⟨s1,sop_cop hx1 h1,p5 l ys s1 s' hx2 h2⟩
theorem nD:∀(rows:List Row) (i:Nat),(∀(k:Nat) (x:Row),rows[k]?=some x→x.i=i+k) →
  pH P A i (rows.map (·.o))=(rows.filter λx=>bt P x.o).map λx=>(x.i,dm A x.o.op)
 |[],i,_=>rfl
 |x::r,i,h=>by
  have ih:=nD r (i+1) λk y hy=>by
   have:=h (k+1) y (by simpa using hy);omega
  have h0:x.i=i:=by simpa using h 0 x rfl
  simp only[List.map_cons,pH]
  by_cases he:bt P x.o=true
  ·simp only[List.filter_cons,he,if_true,List.map_cons,ih,h0]
  ·simp only[List.filter_cons,he,ih];rfl
theorem ow {masks:List Nat}{es:List (Nat×Bool)}:∀(l:List Oper) (i:Nat),wm P masks es i l=true→∀(k:Nat) (o:Oper),l[k]?=some o →
  (bJ o.op=true→ge o.op=true∨Eu masks es (i+k)=true)∧plainAlloc P o=false
 |[],_,_,k,o,ho=>by simp at ho
 |x::r,i,h,k,o,ho=>by
  simp only[wm,Bool.and_eq_true,Bool.or_eq_true,Bool.not_eq_true'] at h
  cases k with
  |zero=>
   simp only[List.getElem?_cons_zero,Option.some.injEq] at ho;subst ho
   refine⟨λhq=>?_,h.1.2⟩
   rcases h.1.1 with(h1|h1)|h1
   ·rw[hq] at h1;cases h1
   ·exact .inl h1
   ·exact .inr h1
  |succ k=>
   simp only[List.getElem?_cons_succ] at ho;have:=ow r (i+1) h.2 k o ho
   rwa [show i+1+k=i+(k+1) from by omega] at this
theorem nR:∀(l:List Oper) (i:Nat) (m:Mem),(∀o∈l,plainAlloc P o=false)→Hd P A fid i l m=some ([],m)
 |[],_,_,_=>rfl
 |o::r,i,m,h=>by
  simp only[Hd,h o List.mem_cons_self];exact nR r (i+1) m λo ho=>h o (List.mem_cons_of_mem _ ho)
theorem lL {ops:List Oper}{masks:List Nat}{d:Row}{last:Mem}:∀(es:List Row),(∀k,k≤es.length→(∀(j:Nat) (e:Row),j<k→es[j]?=some e→(masks.getD e.i 0).testBit d.i=false) →
   (∀(e:Row),es[k]?=some e→(masks.getD d.i 0).testBit e.i=false)→eU P A F fid ops d (cp es last k)=true)→steady P A F fid ops masks d last es=true
 |[],h=>by
  have:=h 0 (Nat.le_refl _) (λj e hj=>by omega) (λe he=>by simp at he);simpa[steady,cp] using this
 |e::es,h=>by
  simp only[steady,Bool.and_eq_true,Bool.or_eq_true]
  refine⟨?_,?_⟩
  ·cases hb:(masks.getD d.i 0).testBit e.i with
   |true=>exact .inl rfl
   |false=>
    right;have:=h 0 (Nat.zero_le _) (λj e hj=>by omega) (λe' he=>by simp only[List.getElem?_cons_zero,Option.some.injEq] at he;subst he;exact hb)
    simpa[cp] using this
  ·cases hb:(masks.getD e.i 0).testBit d.i with
   |true=>exact .inl rfl
   |false=>
    right;refine lL es λk hk h1 h2=>?_
    have:=h (k+1) (by simpa using hk) (λj e' hj he=>by
     cases j with
     |zero=>simp only[List.getElem?_cons_zero,Option.some.injEq] at he;subst he;exact hb
     |succ j=>exact h1 j e' (by omega) (by simpa using he)) (λe' he=>h2 e' (by simpa using he))
    simpa[cp] using this
theorem sk {c:CV}(h:n0 c=true):nS c=false:=by cases c<;>first|rfl|simp[n0,nS] at h
theorem wX {o:Oper}(hc:dm A o.op=true) {c:CV}(h:cval P A F fid ρ o m=some (c,m')) (hf:∀f,ρ (.func f)=.func (.func f) [] []) (hr:n0 c=true):SeenEq m m':=by
 obtain⟨dst,op,ty,pos,after,guard⟩:=o
 cases op<;>simp only[dm,Bool.false_eq_true] at hc
 rename_i c0;obtain⟨callee,args,argTypes⟩:=c0
 cases callee<;>simp only[Bool.false_eq_true] at hc
 rename_i f
 cases f<;>simp only[Bool.false_eq_true] at hc
 rename_i f;simp only[cval,hf,dx,List.nil_append,List.append_nil,cd,hc,if_true,Option.bind_eq_some_iff] at h;obtain⟨⟨xs,m1⟩,hx,h⟩:=h;simp only at h
 split at h
 ·simp only[Option.bind_eq_some_iff] at h
  obtain⟨⟨r,H'⟩,hr',h⟩:=h;simp only at h
  split at h
  ·rename_i hng
   have hm:SeenEq m (if fa r=true then m else m1):=by
    split
    ·exact SeenEq.refl _
    ·exact fy hx
   generalize (if fa r=true then m else m1)=m2 at h hm
   suffices hs:m'=m2 by rw[hs];exact hm
   cases dst with
   |none=>
    simp only[jf,Option.some.injEq,Prod.mk.injEq] at h;exact h.2.symm
   |some d=>
    simp only[jf,Option.some.injEq] at h;have one:∀{gl:Bool}{j:Nat}{v:CV}{m:Mem},nS (adopt1 gl j v m).1=false→(adopt1 gl j v m).2=m∧(adopt1 gl j v m).1=v:=by
     intro gl j v m h;cases v
     case own=>simp[adopt1,nS] at h
     all_goals exact⟨rfl,rfl⟩
    cases r
    case tuple cs=>
     have many:∀{gl:Bool}(cs:List CV) (j:Nat) (m:Mem),((adopts gl j cs m).1.all λc=>!(nS c))=true→(adopts gl j cs m).2=m:=by
      intro gl cs
      induction cs with
      |nil=>intro j m _;rfl
      |cons v r ih=>
       intro j m hh;simp only[adopts,List.all_cons,Bool.and_eq_true,Bool.not_eq_true'] at hh ⊢;obtain⟨e1,e2⟩:=one hh.1;rw[e1] at hh ⊢;exact ih _ _ hh.2
     simp only[adopt,Prod.mk.injEq] at h;obtain⟨rfl,rfl⟩:=h;exact many _ _ _ (by simpa[n0] using hr)
    all_goals
     simp only[adopt] at h;have h1:=congrArg Prod.fst h;have h2:=congrArg Prod.snd h;simp only at h1 h2;rw[←h2]
     refine(one ?_).1
     rw[h1];exact sk hr
  ·cases h
 ·cases h
end
end Go.Cm
namespace Go.Cm
section
variable {P:Program}{A:Ann}{F:aW}{fid:FuncId}{nt:Nat}{m m':Mem}
theorem DV {ops:List Oper}{o:Oper}{sl:List CV}{x:Operand}(hx:x∈o.op.operands.toList):evL (cg ops o) sl x=ev sl x:=by
 cases x with
 |tmp t=>
  have:t∈cg ops o:=by
   simp only[cg];refine List.mem_append_left _ (List.mem_filterMap.2 ⟨.tmp t,hx,rfl⟩)
  simp only[evL,ev];rw[if_pos (by simpa using this)]
 |const v=>rfl
 |global g=>rfl
 |func f=>rfl
theorem rL {ops:List Oper}:∀(l:List Oper) (i:Nat) (xs:List SO) (s s':CS),fj nt ops l=some xs→(∀o∈l,plainAlloc P o=false)→nf P A F fid true xs s=some s' →
  ∃rows,jG P A F fid nt ops [] i l s.sl s.m=some (rows,s'.sl,s'.m) ∧
   ∀x∈rows,(dm A x.o.op=true→SeenEq x.m x.m')∧(x.go=true→bJ x.o.op=true→cval P A F fid (evL (cg ops x.o) x.sl) x.o x.m=some (x.v,x.m))
 |[],i,xs,s,s',hx,_,h=>by
  simp only[fj,Option.some.injEq] at hx;subst hx;simp only[nf,Option.some.injEq] at h;subst h
  exact⟨[],rfl,λx hx=>by simp at hx⟩
 |o::l,i,xs,s,s',hx,hpa,h=>by
  simp only[fj,Option.bind_eq_some_iff,Option.map_eq_some_iff] at hx;obtain⟨x,hx1,ys,hx2,rfl⟩:=hx;simp only[nf,Option.bind_eq_some_iff] at h;obtain⟨s1,h1,h2⟩:=h;obtain⟨e1,e2,e3,e4,e5⟩:=iY hx1;have hp:=hpa o List.mem_cons_self;have step:∃y:Row,kE P A F fid nt ops [] i o s.sl s.m=some y∧y.o=o∧s1={ sl:=eu s.sl o.dst y.v,m:=y.m' } ∧
    (dm A y.o.op=true→SeenEq y.m y.m')∧(y.go=true→bJ y.o.op=true→cval P A F fid (evL (cg ops y.o) y.sl) y.o y.m=some (y.v,y.m)):=by
   unfold sop at h1;rw[KQ o e2 e3,e5] at h1;simp only[fw] at h1;unfold kE;rw[if_neg (by simp[e1]),e4,hp];have hc:cval P A F fid (evL (cg ops o) s.sl) o s.m=cval P A F fid (ev s.sl) o s.m:=nB λy hy=>DV hy
   split at h1
   ·rename_i hg
    simp only[hg,Bool.false_eq_true,if_false];simp only[Option.bind_eq_some_iff] at h1;obtain⟨⟨c,m1⟩,hy,h1⟩:=h1
    split at h1
    ·cases h1
    ·rename_i hnr
     simp only[Option.some.injEq] at h1;rw[hc,hy]
     refine⟨_,rfl,rfl,?_,λhcalm=>?_,λ_ hq=>?_⟩
     ·simp only[←h1,e2]
      by_cases hq:bJ o.op=true
      ·simp only[hq,if_true]
       rw[lG hq hy]
      ·simp only[hq,if_false];rfl
     ·simp only at hcalm ⊢
      split
      ·exact SeenEq.refl _
      ·refine wX hcalm hy (λf=>rfl) ?_
       rw[e3,hcalm] at hnr;simpa using hnr
     ·simp only at hq ⊢
      rw[hc,hy,lG hq hy]
   ·rename_i hg
    simp only[Option.some.injEq] at h1;simp only[hg]
    exact⟨_,rfl,rfl,by simp only[←h1,e2],λ_=>SeenEq.refl _,λhgo=>by cases hgo⟩
   ·cases h1
  obtain⟨y,hy1,hy2,hy3,hy4,hy5⟩:=step;subst hy3;obtain⟨rows,g1,g2⟩:=rL l (i+1) ys _ s' hx2 (λo ho=>hpa o (List.mem_cons_of_mem _ ho)) h2
  refine⟨y::rows,?_,λx hx=>?_⟩
  ·simp only at g1
   simp only[jG,hy1,Option.bind_some,g1,Option.map_some]
  ·rcases List.mem_cons.1 hx with rfl|hx
   ·exact⟨hy4,hy5⟩
   ·exact g2 x hx
theorem qJ {eff:Row→Bool}:∀(rows:List Row) (m:Mem),(∀(k:Nat) (x:Row),rows[k]?=some x→x.m=mF (rows.take k) m∧(eff x=false→x.m'=x.m)) →
  ∀(k:Nat) (x:Row),rows[k]?=some x→x.m=cp (rows.filter eff) (mF rows m) ((rows.take k).filter eff).length
 |[],m,_,k,x,hx=>by simp at hx
 |y::r,m,h,k,x,hx=>by
  have hy:=h 0 y (by simp);simp only[List.take_zero] at hy;have hm:y.m=m:=hy.1;have hr:∀(k:Nat) (x:Row),r[k]?=some x→x.m=mF (r.take k) y.m'∧(eff x=false→x.m'=x.m):=λk z hz=>by
   have:=h (k+1) z (by simpa using hz);simpa[mF,List.take_succ_cons] using this
  have hF:mF (y::r) m=mF r y.m':=rfl;rw[hF]
  cases k with
  |zero=>
   simp only[List.getElem?_cons_zero,Option.some.injEq] at hx;subst hx;have:=(gL (eff:=eff) (y::r) m h).1;rw[hF] at this;simpa[hm] using this.symm
  |succ k=>
   simp only[List.getElem?_cons_succ] at hx;have ih:=qJ (eff:=eff) r y.m' hr k x hx;rw[List.take_succ_cons]
   by_cases he:eff y=true
   ·rw[List.filter_cons_of_pos he,List.filter_cons_of_pos he,List.length_cons]
    rw[ih];simp[cp]
   ·rw[List.filter_cons_of_neg he,List.filter_cons_of_neg he]
    exact ih
theorem Jr {ops:List Oper}{xs:List SO}{s s':CS}(hst:uj P A ops=true) (hx:fj nt ops ops=some xs) (h:nf P A F fid true xs s=some s'):cdraw P A F fid nt ops s=some s':=by
 simp only[uj,Bool.and_eq_true] at hst;obtain⟨hreg,hstat⟩:=hst;have hsl:=ow ops 0 hstat;have hpa:∀o∈ops,plainAlloc P o=false:=λo ho=>by
  obtain⟨k,hk⟩:=List.getElem?_of_mem ho
  exact(hsl k o hk).2
 obtain⟨rows,hr,hrows⟩:=rL ops 0 xs s s' hx hpa h;obtain⟨r1,r2,r3,r4⟩:=pt _ _ _ _ _ _ _ hr;have hq0:∀(k:Nat) (x:Row),rows[k]?=some x→x.m=mF (rows.take k) s.m∧(bt P x.o=false→x.m'=x.m):=λk x hx=>⟨(r4 k x hx).2.2.2.1,λhe=>by
  obtain⟨_,hc⟩:=fU (r4 k x hx).2.2.2.2;rcases hc with⟨_,_,hm⟩|⟨_,_,hm,_⟩|⟨_,_,_,_,hm⟩|⟨_,hp,hq,_⟩
  ·exact hm
  ·exact hm
  ·exact hm
  ·simp[bt,hp,hq] at he⟩
 have hnext:=(gL (eff:=λx=>bt P x.o) rows s.m hq0).2;have hat:=qJ (eff:=λx=>bt P x.o) rows s.m hq0;have hidx:∀(k:Nat) (x:Row),rows[k]?=some x→x.i=k:=λk x hx=>by have:=(r4 k x hx).2.1;omega
 have hops:rows.map (·.o)=ops:=by
  apply List.ext_getElem?
  intro k;rw[List.getElem?_map]
  cases hk:rows[k]? with
  |none=>
   rw[List.getElem?_eq_none_iff] at hk;simp only[Option.map_none]
   exact(List.getElem?_eq_none (by omega)).symm
  |some x=>
   simp only[Option.map_some]
   exact(r4 k x hk).1.symm
 have hes:pH P A 0 ops=(rows.filter λx=>bt P x.o).map λx=>(x.i,dm A x.o.op):=by
  have:=nD (P:=P) (A:=A) rows 0 λk x hx=>by rw[Nat.zero_add];exact hidx k x hx
  rwa [hops] at this
 unfold cdraw;simp only[hreg,if_true,nR ops 0 s.m hpa,Option.bind_some,hr];rw[if_pos];simp only[iP,List.all_nil,Bool.and_self,Bool.true_and];rw[List.all_eq_true];intro x hxm;simp only[Bool.or_eq_true,Bool.not_eq_true',Bool.and_eq_false_iff]
 by_cases hgo:x.go=true
 case neg=>exact .inl (.inl (by simpa using hgo))
 by_cases hq:bJ x.o.op=true
 case neg=>exact .inl (.inr (by simpa using hq))
 right;obtain⟨i,hi⟩:=List.getElem?_of_mem hxm
 have hxi:=hidx i x hi;have hcv:=(hrows x hxm).2 hgo hq;have fin:∀mm,cval P A F fid (evL (cg ops x.o) x.sl) x.o mm=some (x.v,mm)→eU P A F fid ops x mm=true:=λmm hmm=>by
  simp only[eU,hmm];exact beq_refl _
 refine lL _ λk hk h1 h2=>fin _ ?_;rcases (hsl i x.o (r4 i x hi).1).1 hq with hmf|hsi
 ·exact kD hmf hcv _
 ·refine xf hq ?_ hcv
  rw[Nat.zero_add] at hsi;generalize hesd:(rows.filter λx=>bt P x.o)=es at *;have hxm':x.m=cp es s'.m ((rows.take i).filter λx=>bt P x.o).length:=by rw[r3];exact hat i x hi
  generalize hp:((rows.take i).filter λx=>bt P x.o).length=p at hxm';have hpos:∀(j:Nat) (e:Row),es[j]?=some e→(j<p→e.i<i)∧(p≤j→i<e.i):=by
   intro j e he;have hsplit:es=((rows.take i).filter λx=>bt P x.o)++((rows.drop i).filter λx=>bt P x.o):=by
    rw[←hesd,←List.filter_append,List.take_append_drop]
   rw[hsplit] at he
   refine⟨λhj=>?_,λhj=>?_⟩
   ·rw[List.getElem?_append_left (by omega)] at he
    have hm:=List.mem_of_getElem? he;rw[List.mem_filter] at hm;obtain⟨q,hqq⟩:=List.getElem?_of_mem hm.1;rw[List.getElem?_take] at hqq
    split at hqq
    ·rw[hidx q e hqq];assumption
    ·cases hqq
   ·rw[List.getElem?_append_right (by omega)] at he
    have hm:=List.mem_of_getElem? he;rw[List.mem_filter] at hm;obtain⟨q,hqq⟩:=List.getElem?_of_mem hm.1;rw[List.getElem?_drop] at hqq;have hei:=hidx _ e hqq;rcases Nat.eq_zero_or_pos q with h0|h0
    ·subst h0
     rw[Nat.add_zero,hi] at hqq;simp only[Option.some.injEq] at hqq;subst hqq;have:bt P x.o=false:=eM hq;rw[this] at hm
     cases hm.2
    ·omega
  have hcalm:∀(j:Nat) (e:Row),es[j]?=some e→dm A e.o.op=true∨(j<p∧∀(j':Nat) (e':Row),j'≤j→es[j']?=some e'→((cy ops []).getD i 0).testBit e'.i=true)∨(p≤j∧((cy ops []).getD e.i 0).testBit i=true):=by
   intro j e he;have hlt:=(List.getElem?_eq_some_iff.1 he).1;simp only[Eu,List.all_eq_true,List.mem_range,hes,List.length_map] at hsi;have:=hsi j hlt;rw[List.getElem?_map,he] at this;simp only[Option.map_some,Bool.or_eq_true,Bool.and_eq_true,decide_eq_true_eq] at this;rcases this with(hc|⟨hlt',hall⟩)|⟨hlt',hb⟩
   ·exact .inl hc
   ·refine .inr (.inl ⟨?_,λj' e' hj' he'=>?_⟩)
    ·rcases Nat.lt_or_ge j p with h|h
     ·exact h
     ·have:=(hpos j e he).2 h;omega
    ·have:=List.all_eq_true.1 hall (e'.i,dm A e'.o.op) (by
      rw[←List.map_take];refine List.mem_map.2 ⟨e',List.mem_of_getElem? (i:=j') ?_,rfl⟩;rw[List.getElem?_take,if_pos (by omega)];exact he')
     simpa using this
   ·refine .inr (.inr ⟨?_,hb⟩)
    rcases Nat.lt_or_ge j p with h|h
    ·have:=(hpos j e he).1 h;omega
    ·exact h
  have hseen:∀(j:Nat) (e:Row),es[j]?=some e→dm A e.o.op=true→SeenEq (cp es s'.m j) (cp es s'.m (j+1)):=by
   intro j e he hc;have hin:e∈rows:=by
    have:=List.mem_of_getElem? he;rw[←hesd,List.mem_filter] at this;exact this.1
   have h3:cp es s'.m (j+1)=e.m':=by rw[r3];exact hnext j e he
   rw[h3];have h4:cp es s'.m j=e.m:=by simp[cp,he]
   rw[h4]
   exact(hrows e hin).1 hc
  have chain:∀(d a:Nat),(∀(j:Nat) (e:Row),a≤j→j<a+d→es[j]?=some e→dm A e.o.op=true)→a+d≤es.length→SeenEq (cp es s'.m a) (cp es s'.m (a+d)):=by
   intro d
   induction d with
   |zero=>intro a _ _;exact SeenEq.refl _
   |succ d ih=>
    intro a hc hl;have h3:=ih a (λj e hj1 hj2 he=>hc j e hj1 (by omega) he) (by omega);have hlt:a+d<es.length:=by omega
    have h4:=hseen (a+d) es[a+d] (List.getElem?_eq_getElem hlt) (hc (a+d) _ (by omega) (by omega) (List.getElem?_eq_getElem hlt));exact h3.trans h4
  rw[hxm'];have hpl:p≤es.length:=by
   have hsplit:es=((rows.take i).filter λx=>bt P x.o)++((rows.drop i).filter λx=>bt P x.o):=by
    rw[←hesd,←List.filter_append,List.take_append_drop]
   rw[hsplit,List.length_append];omega
  rcases Nat.le_total k p with hkp|hkp
  ·have:=chain (p - k) k (λj e hj1 hj2 he=>by
    rcases hcalm j e he with hc|⟨_,hall⟩|⟨hge,_⟩
    ·exact hc
    ·have hlt:=(List.getElem?_eq_some_iff.1 he).1
     have hk':es[k]?=some es[k]:=List.getElem?_eq_getElem (by omega);have h5:=hall k _ hj1 hk';have h6:=h2 _ hk';rw[hxi,h5] at h6;cases h6
    ·omega) (by omega)
   rw[show k+(p - k)=p from by omega] at this;exact this.symm
  ·have:=chain (k - p) p (λj e hj1 hj2 he=>by
    rcases hcalm j e he with hc|⟨hlt,_⟩|⟨_,hb⟩
    ·exact hc
    ·omega
    ·have h6:=h1 j e (by omega) he
     rw[hxi,hb] at h6
     cases h6) (by omega)
   rwa [show p+(k - p)=k from by omega] at this
end
end Go.Cm
