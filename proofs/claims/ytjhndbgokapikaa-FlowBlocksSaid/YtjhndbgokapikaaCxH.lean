import Derived.Test.YtjhndbgokapikaaCxD
set_option linter.unusedSimpArgs false
set_option linter.unusedVariables false
namespace Go.Cm
section
variable {P:Program}{n:Nat}{t:TypeId}{d:D}
theorem Ec {k:IntKind}(hu:P.underlying t=some (.int k)) (h:D.ok P (n+1) t d):∃m,d=.i k m∧k.min≤m∧m≤k.max:=by simpa only[D.ok,hu] using h
theorem P9 {e:TypeId}(hu:P.underlying t=some (.slice e)) (h:D.ok P (n+1) t d):∃ds,d=.sl ds∧ds.length≤maxLen∧∀x∈ds,D.ok P n e x:=by simpa only[D.ok,hu] using h
theorem eL {fs:Array Field}{ts:List TypeId}(hu:P.underlying t=some (.struct fs)) (ht:fs.toList.map (·.type)=ts) (h:D.ok P (n+1) t d):∃ds,d=.ag ds∧oks (D.ok P n) ts ds:=by
 subst ht;simpa only[D.ok,hu] using h
theorem bm {ok:TypeId→D→Prop}{ts:List TypeId}{ds:List D}(h:oks ok (t::ts) ds):∃d r,ds=d::r∧ok t d∧oks ok ts r:=by
 cases ds with
 |nil=>cases h
 |cons d r=>exact⟨d,r,rfl,h.1,h.2⟩
theorem fA {ok:TypeId→D→Prop}{ds:List D}(h:oks ok [] ds):ds=[]:=by
 cases ds with
 |nil=>rfl
 |cons d r=>cases h
theorem qH {α:Type}{e:α→List CV}{W:α→Prop}:∀{ds:List D},(∀x∈ds,∃a,x.cells=e a∧W a)→∃l:List α,D.cellsL ds=l.flatMap e∧l.length=ds.length∧∀a∈l,W a
 |[],_=>⟨[],rfl,rfl,λa h=>by cases h⟩
 |d::ds,h=>by
  obtain⟨a,h1,h2⟩:=h d List.mem_cons_self;obtain⟨l,h3,h4,h5⟩:=qH (ds:=ds) λx hx=>h x (List.mem_cons_of_mem _ hx)
  refine⟨a::l,?_,by simp[h4],?_⟩
  ·simp only[D.cellsL,h1,h3,List.flatMap_cons]
  ·intro b hb
   rcases List.mem_cons.1 hb with rfl|hb
   ·exact h2
   ·exact h5 b hb
theorem sK {α:Type}{e:α→List CV}{W:α→Prop}{et:TypeId}(hu:P.underlying t=some (.slice et)) (he:∀x,D.ok P n et x→∃a,x.cells=e a∧W a) (h:D.ok P (n+1) t d) :
  ∃l:List α,d.cells=[sl e l]∧d.cv=sl e l∧(l.length≤9223372036854775807∧∀a∈l,W a):=by
 obtain⟨ds,rfl,h1,h2⟩:=P9 hu h;obtain⟨l,h3,h4,h5⟩:=qH λx hx=>he x (h2 x hx);have:sl e l=.imm ds.length (D.cellsL ds):=by simp only[sl,h3,h4]
 refine⟨l,by simp only[D.cells,this],by simp only[D.cv,this],?_,h5⟩
 rw[h4];simpa only[maxLen] using h1
end
def du (n:Int):Prop:=-9223372036854775808≤n∧n≤9223372036854775807
def isU64 (n:Int):Prop:=0≤n∧n≤18446744073709551615
theorem dp {P:Program}{n:Nat}{t:TypeId}{d:D}(hu:P.underlying t=some (.int .i64)) (h:D.ok P (n+1) t d):∃m,d=.i .i64 m∧du m:=Ec hu h
theorem ok_u64 {P:Program}{n:Nat}{t:TypeId}{d:D}(hu:P.underlying t=some (.int .u64)) (h:D.ok P (n+1) t d):∃m,d=.i .u64 m∧isU64 m:=Ec hu h
def aX (n:Int):List CV:=[.int .i64 n]
def bS (b:Bool):List CV:=[.bool b]
theorem dB (n:Int):(aX n).length=1:=rfl
theorem jl (n:Bool):(bS n).length=1:=rfl
def Area.wf (a:Area):Prop:=du a.size
def Lay.wf (l:Lay):Prop:=l.ctx.wf∧l.maps.length≤9223372036854775807∧∀a∈l.maps,a.wf
def Fact.wf (f:Fact):Prop:=du f.region∧du f.low∧du f.high
end Go.Cm
namespace Go.Cm
def al:List (Int×CV)→Int→Option CV
 |[],_=>none
 |p::r,a=>if p.1=a then some p.2 else al r a
def jP:List (Int×CV)→Int→CV→List (Int×CV)
 |[],a,v=>[(a,v)]
 |p::r,a,v=>if p.1=a then (a,v)::r else p::jP r a v
def esI (k:IntKind) (l:List (Int×CV)):List (CV×CV):=l.map λp=>(.int k p.1,p.2)
def fix (l:List (Int×CV)) (a:Int) (i:Nat):Option (Nat×CV):=
 match l with
 |[]=>none
 |p::r=>if p.1=a then some (i,p.2) else fix r a (i+1)
theorem nm {P:Program}{t:TypeId}{k:IntKind}(hu:P.underlying t=some (.int k)) (a:Int):∀(l:List (Int×CV)) (i:Nat),gH P t (.int k a) (esI k l) i=some (fix l a i)
 |[],i=>rfl
 |p::r,i=>by
  have h:ceq P 20 t (.int k a) (.int k p.1)=some (a==p.1):=by simp only[ceq,hu,if_true]
  simp only[esI,List.map_cons,gH,h,fix]
  by_cases he:p.1=a
  ·subst he;simp
  ·have:(a==p.1)=false:=by simp;exact λe=>he e.symm
   simp only[this,he,if_false];exact nm hu a r (i+1)
theorem fix_al (l:List (Int×CV)) (a:Int):∀i,(fix l a i).map (·.2)=al l a:=by
 induction l with
 |nil=>intro i;rfl
 |cons p r ih=>
  intro i;simp only[fix,al];split
  ·rfl
  ·exact ih _
theorem fK {P:Program}{t:TypeId}{k:IntKind}(hu:P.underlying t=some (.int k)) {z x:CV}{a:Int}{ok:Bool}{m:Mem}{l:List (Int×CV)}(hm:fx m x=some (esI k l)) :
  gK P t z x (.int k a) ok m=some (if ok then .tuple [(al l a).getD z,.bool (al l a).isSome] else (al l a).getD z):=by
 simp only[gK,hm,nm hu];have:=fix_al l a 0
 cases hf:fix l a 0 with
 |none=>rw[hf] at this;simp only[Option.map_none] at this;rw[←this];rfl
 |some p=>rw[hf] at this;simp only[Option.map_some] at this;rw[←this];rfl
theorem fix_set {k:IntKind}{l:List (Int×CV)}{a:Int}{v:CV}:∀(j:Nat) (l:List (Int×CV)),(match fix l a j with
  |some (i,_)=>(esI k l).set (i - j) (.int k a,v)
  |none=>esI k l++[(.int k a,v)])=esI k (jP l a v):=by
 intro j l;have hge:∀(l:List (Int×CV)) (j i:Nat) (c:CV),fix l a j=some (i,c)→j≤i:=by
  intro l
  induction l with
  |nil=>intro j i c h;simp[fix] at h
  |cons p r ih=>
   intro j i c h;simp only[fix] at h
   split at h
   ·simp only[Option.some.injEq,Prod.mk.injEq] at h;omega
   ·have:=ih _ _ _ h;omega
 induction l generalizing j with
 |nil=>rfl
 |cons p r ih=>
  simp only[fix,jP]
  by_cases h:p.1=a
  ·simp only[h,if_true,Nat.sub_self]
   simp[esI]
  ·simp only[h,if_false]
   have:=ih (j+1)
   cases hf:fix r a (j+1) with
   |none=>rw[hf] at this;simp only at this ⊢;simp only[esI,List.map_cons,List.cons_append] at this ⊢;rw[this]
   |some q=>
    obtain⟨i,c⟩:=q;rw[hf] at this;have h1:=hge r (j+1) i c hf;simp only at this ⊢;have h2:i - j=(i - (j+1))+1:=by omega
    simp only[esI,List.map_cons] at this ⊢;rw[h2,List.set_cons_succ,this]
def jE (m:Mem) (n:Nat) (o:HO):Mem:=⟨m.L,m.H.set n o⟩
theorem gA {H0 E:List HO}{i:Nat}:(H0++E)[H0.length+i]?=E[i]?:=by
 rw[List.getElem?_append_right (by omega)];congr 1;omega
theorem nM {H0 E:List HO}:(H0++E)[H0.length]?=E[0]?:=by
 rw[List.getElem?_append_right (by omega)];congr 1;omega
theorem ot {H0 E:List HO}{i:Nat}{o:HO}:(H0++E).set (H0.length+i) o=H0++E.set i o:=by
 rw[List.set_append_right _ _ (by omega)];congr 2;omega
theorem p4 {H0 E:List HO}{o:HO}:(H0++E).set H0.length o=H0++E.set 0 o:=by
 rw[List.set_append_right _ _ (by omega)];congr 2;omega
theorem iK {m:Mem}{cs:List CV}:ir m cs=⟨m.L,m.H++[.var 1 cs 0]⟩:=rfl
theorem iM {m:Mem}:eP m=.ptr (.g m.H.length) 1 0:=rfl
theorem iI {m:Mem}{sz:Nat}{cs:List CV}:mb m sz cs=⟨m.L,m.H++[.arr 1 sz cs 0]⟩:=rfl
theorem iN {m:Mem}{n:Nat}:rT m n=.ref (.g m.H.length) 1 0 n:=rfl
theorem iL {m:Mem}:jJ m=⟨m.L,m.H++[.map 1 []]⟩:=rfl
theorem iJ {m:Mem}:md m=.map (.g m.H.length) 1:=rfl
theorem pR {m:Mem}{j sz:Nat}{cs:List CV}:nmA true m j sz cs=⟨m.L,m.H++[.arr 1 sz cs 0]⟩:=rfl
theorem pS {m:Mem}{j n:Nat}:nmR true m j n=.ref (.g m.H.length) 1 0 n:=rfl
section
variable {m:Mem}{a g off len n sz:Nat}{cs:List CV}{v:CV}
theorem jq {l:List (CV×CV)}(h:m.H[a]?=some (.map g l)):fx m (.map (.g a) g)=some l:=by
 simp only[fx,Mem.get,h,if_true]
theorem pC:bN m (.ptr (.g a) g off) n=rdO g off n m.H[a]?:=by
 simp only[bN,Mem.get]
 cases m.H[a]? with
 |none=>rfl
 |some h=>cases h<;>simp[rdO,HO.gn,HO.isMap,HO.cells]
theorem ce:ld1 m (.ptr (.g a) g off)=rd1 g off m.H[a]?:=by
 simp only[ld1,pC]
 cases m.H[a]? with
 |none=>rfl
 |some h=>
  cases h with
  |var g' cs vl=>
   simp only[rdO,rd1]
   by_cases hg:g'=g
   ·simp only[hg,true_and,if_true];exact eQ
   ·simp[hg]
  |arr g' s cs vl=>
   simp only[rdO,rd1]
   by_cases hg:g'=g
   ·simp only[hg,true_and,if_true];exact eQ
   ·simp[hg]
  |map=>rfl
theorem LP:ldA n m (.ptr (.g a) g off)=rdA g off n m.H[a]?:=by simp only[ldA,pC,rdA]
def wrG (m:Mem) (a gn off:Nat) (cs:List CV) (g sz:Nat) (cells:List CV) (vl:Nat):Option Mem:=
 if g=gn∧off+cs.length≤cells.length∧vl≤off then
  (bp m cs).bind λx=>
   match x.2.H[a]? with
   |some (.arr g' _ _ vl')=>if g'=gn∧vl'≤off then some (jE x.2 a (.arr g sz (ay cells off x.1) vl')) else none
   |_=>none
 else none
def stW (n:Nat) (m:Mem) (a gn off:Nat) (v:Option (List CV)) (o:Option HO):Option Mem:=
 match v with
 |some cs=>if cs.length=n then
   (match o with
   |some (.var g cells vl)=>if g=gn∧off+cs.length≤cells.length∧vl≤off then (bp m cs).map λx=>jE x.2 a (.var g (ay cells off x.1) vl) else none
   |some (.arr g sz cells vl)=>wrG m a gn off cs g sz cells vl
   |_=>none)
  else none
 |none=>none
theorem gQ:stX n m (.ptr (.g a) g off) v=stW n m a g off (ap v) m.H[a]?:=by
 unfold stX stW
 cases ap v with
 |none=>rfl
 |some cs=>
  simp only
  split
  ·simp only[fT,Mem.get]
   cases m.H[a]? with
   |none=>rfl
   |some h=>cases h<;>rfl
  ·rfl
theorem fD {cells:List CV}{vl:Nat}:stW n m a g off (some cs) (some (.var g cells vl))=if cs.length=n∧off+n≤cells.length∧vl≤off then (bp m cs).map λx=>jE x.2 a (.var g (ay cells off x.1) vl) else none:=by
 simp only[stW,true_and]
 by_cases h:cs.length=n
 ·simp only[h,if_true,true_and]
 ·simp only[h,if_false,false_and]
theorem mO {cells:List CV}{s vl:Nat}(hp:cs.all cz=true) (hm:m.H[a]?=some (.arr g s cells vl)):stW n m a g off (some cs) (some (.arr g s cells vl))=if cs.length=n∧off+n≤cells.length∧vl≤off then some (jE m a (.arr g s (ay cells off cs) vl)) else none:=by
 simp only[stW,wrG,true_and,bF hp,Option.bind_some,hm]
 by_cases h:cs.length=n
 ·simp only[h,if_true,true_and]
  by_cases h2:vl≤off
  ·simp only[h2,and_true,if_true]
  ·simp only[h2,and_false,if_false]
 ·simp only[h,if_false,false_and]
theorem tt {glob:Bool}{i b len:Nat}{x:CV}:ej glob i sz b (.ref (.g a) g off len) x m=(match content m sz x,clen x,m.H[a]? with
  |some ys,some n,some (.arr g' s' cs vl)=>if g'=g∧s'=sz∧vl≤off+len*sz∧cN b (len+n)=true then some (.ref (.g a) (g'+1) 0 (len+n),jE m a (.arr (g'+1) sz ((cs.drop off).take (len*sz)++ys) (vl - off))) else none
  |_,_,_=>none):=by
 unfold ej
 cases content m sz x with
 |none=>rfl
 |some ys=>
  cases clen x with
  |none=>rfl
  |some n=>
   simp only[Mem.get]
   cases m.H[a]? with
   |none=>rfl
   |some h=>cases h<;>rfl
end
end Go.Cm
namespace Go.Cm
def OwnE {α:Type}(e:α→List CV) (sz:Nat) (m:Mem) (j:Nat) (v:CV) (l:List α):Prop:=
 (l=[]∧v=.nil)∨(l≠[]∧∃g,v=.ref (.l j) g 0 l.length∧aK m.L j=some (.arr g sz (l.flatMap e) 0))
def eA {α:Type}(e:α→List CV) (sz:Nat) (l:List α):CV:=if l=[] then .nil else .own l.length sz (l.flatMap e) 0
section
variable {α:Type}{e:α→List CV}{sz:Nat}{m m':Mem}{j:Nat}{v:CV}{l:List α}
theorem OwnE.nil:OwnE e sz m j .nil []:=.inl ⟨rfl,rfl⟩
theorem OwnE.keep (h:OwnE e sz m j v l) (hm:aK m'.L j=aK m.L j):OwnE e sz m' j v l:=by
 rcases h with h|⟨h,g,h1,h2⟩
 ·exact .inl h
 ·exact .inr ⟨h,g,h1,by rw[hm,h2]⟩
theorem OwnE.len (h:OwnE e sz m j v l):clen v=some l.length:=by
 rcases h with⟨rfl,rfl⟩|⟨_,g,rfl,_⟩<;>rfl
theorem OwnE.lenS (h:OwnE e sz m j v l):lenS v=some (.int .i64 l.length):=by simp only[Cm.lenS,h.len,Option.map_some]
theorem OwnE.content (h:OwnE e sz m j v l) (hs:∀a,(e a).length=sz):content m sz v=some (l.flatMap e):=by
 rcases h with⟨rfl,rfl⟩|⟨_,g,rfl,h⟩
 ·rfl
 ·rw[cU,h,dz,List.drop_zero,List.take_of_length_le (by rw[bC hs];exact Nat.le_refl _)]
theorem OwnE.app (h:OwnE e sz m j v l) {b:Nat}{x:CV}{ys:List α}{K:CV×Mem→Prop}(hs:∀a,(e a).length=sz) (hx:Cm.content m sz x=some (ys.flatMap e)) (hn:clen x=some ys.length)
  (hb:b≤1024) (hl:l.length+ys.length≤4294967296) (hK:∀v' m',OwnE e sz m' j v' (l++ys)→m'.H=m.H→(∀i,i≠j→aK m'.L i=aK m.L i)→K (v',m')):Obt (ej false j sz b v x m) K:=by
 rcases h with⟨rfl,rfl⟩|⟨hne,g,rfl,h⟩
 ·rw[iD,hx,hn]
  by_cases h0:ys.length=0
  ·have:ys=[]:=List.eq_nil_of_length_eq_zero h0
   subst this;simp only[tr,List.length_nil,if_true,aJ];exact hK _ _ (.inl ⟨rfl,rfl⟩) rfl (λ_ _=>rfl)
  ·rw[eG h0,if_pos (dI hb (by simpa using hl)),aJ]
   refine hK _ _ (.inr ⟨by simpa using λe=>h0 (by rw[e];rfl),bj m.L j,rfl,?_⟩) rfl ?_
   ·rw[dj,ba,if_pos rfl,List.nil_append]
   ·intro i hi;rw[dj,ba,if_neg (Ne.symm hi)]
 ·rw[fP,hx,hn,h,ea,if_pos ⟨by omega,dI hb hl⟩,aJ]
  refine hK _ _ (.inr ⟨by simp[hne],g+1,by simp,?_⟩) rfl ?_
  ·rw[ba,if_pos rfl,List.drop_zero,List.take_of_length_le (by rw[bC hs];exact Nat.le_refl _),List.flatMap_append]
  ·intro i hi;rw[ba,if_neg (Ne.symm hi)]
theorem OwnE.ret (h:OwnE e sz m j v l) (hs:∀a,(e a).length=sz) {K:CV×Mem→Prop}(hK:∀m',m'.H=m.H→K (eA e sz l,m')):Obt (gD v m) K:=by
 rcases h with⟨rfl,rfl⟩|⟨hne,g,rfl,h⟩
 ·simp only[eh,aJ];exact hK m rfl
 ·rw[dq,h,bV,aJ,List.drop_zero,List.take_of_length_le (by rw[bC hs];exact Nat.le_refl _)]
  have:=hK (bi m j (.arr (g+1) sz [] 0)) rfl;rw[eA,if_neg hne] at this;exact this
theorem Jz {d:Nat}{gl:Bool}(hg:gl=false):∃v m',adopt gl d (eA e sz l) m=(v,m')∧OwnE e sz m' (16*d) v l∧m'.H=m.H∧∀i,i≠16*d→aK m'.L i=aK m.L i:=by
 subst hg;unfold eA;split
 ·rename_i h;subst h;exact⟨.nil,m,rfl,.inl ⟨rfl,rfl⟩,rfl,λ_ _=>rfl⟩
 ·rename_i h
  refine⟨_,_,po,.inr ⟨h,_,rfl,by rw[ba,if_pos rfl]⟩,rfl,λi hi=>by rw[ba,if_neg (Ne.symm hi)]⟩
theorem kU (h:∀a,noGs (e a)=true) (l:List α):noG (eA e sz l)=true:=by
 unfold eA;split
 ·rfl
 ·exact eJ h l
theorem OwnE.get (h:OwnE e sz m j v l) {a:α}{i:Nat}(ha:l[i]?=some a):∃g,v=.ref (.l j) g 0 l.length∧aK m.L j=some (.arr g sz (l.flatMap e) 0)∧i<l.length:=by
 have hlt:=(List.getElem?_eq_some_iff.1 ha).1;rcases h with⟨rfl,_⟩|⟨_,g,h1,h2⟩
 ·simp at hlt
 ·exact⟨g,h1,h2,hlt⟩
end
theorem dA {α:Type}{e:α→List CV}{l:List α}{i off:Nat}{a:α}{sz:Nat}(hs:∀a,(e a).length=sz) (ha:l[i]?=some a) (ho:off<sz):(l.flatMap e)[i*sz+off]?=(e a)[off]?:=by
 obtain⟨h1,h2⟩:=NH hs ha;rw[←h1,List.getElem?_take,if_pos ho,List.getElem?_drop]
theorem fX {l:List Int}{i:Nat}:(l.flatMap aX)[i]?=(l[i]?).map (CV.int .i64):=by
 induction l generalizing i with
 |nil=>rfl
 |cons x l ih=>
  cases i with
  |zero=>rfl
  |succ i=>simpa[aX] using ih
theorem OwnE.at {m:Mem}{j:Nat}{v:CV}{l:List Int}(h:OwnE aX 1 m j v l) {a:Int}{i:Nat}(ha:l[i]?=some a) {k:IntKind}:∃p,bd 1 v (.int k i)=some p∧∀m':Mem,aK m'.L j=aK m.L j→ld1 m' p=some (.int .i64 a):=by
 obtain⟨g,rfl,h2,hlt⟩:=h.get ha
 refine⟨.ptr (.l j) g i,?_,λm' hm=>?_⟩
 ·rw[bD,if_pos ⟨by omega,by simpa using hlt⟩];simp
 ·rw[eX,hm,h2,bM,fX,ha];rfl
theorem kg {cells:List CV}{i:Nat}{v:CV}(h:i<cells.length):ay cells i [v]=cells.set i v:=by
 simp only[ay,List.length_cons,List.length_nil,Nat.zero_add,List.cons_append,List.nil_append];rw[List.set_eq_take_append_cons_drop,if_pos h]
theorem dL {l:List Int}:(l.flatMap aX).length=l.length:=by rw[bC dB];omega
theorem KV {α:Type}{f:α→CV}{l:List α}:(l.flatMap λa=>[f a])=l.map f:=by
 induction l with
 |nil=>rfl
 |cons x l ih=>simp only[List.flatMap_cons,ih,List.map_cons,List.cons_append,List.nil_append]
theorem fI {l:List Bool}{i:Nat}:(l.flatMap bS)[i]?=(l[i]?).map CV.bool:=by
 rw[show l.flatMap bS=l.map CV.bool from KV,List.getElem?_map]
theorem ou {l:List Bool}{i:Nat}{x:Bool}:(l.flatMap bS).set i (.bool x)=(l.set i x).flatMap bS:=by
 rw[show l.flatMap bS=l.map CV.bool from KV,show(l.set i x).flatMap bS=(l.set i x).map CV.bool from KV,List.map_set]
theorem P2 {l:List Bool}:(l.flatMap bS).length=l.length:=by rw[bC jl];omega
theorem lK {m:Mem}{j g i:Nat}{v:CV}{cells:List CV}(hn:aK m.L j=some (.arr g 1 cells 0)) (h:i<cells.length) (hp:cz v=true) (hc:ap v=some [v]):stX 1 m (.ptr (.l j) g i) v=some (bi m j (.arr g 1 (cells.set i v) 0)):=by
 rw[p6,hn,hc,q6 (by simp only[List.all_cons,List.all_nil,hp,Bool.and_self]) hn,if_pos ⟨rfl,by omega,by omega⟩,kg h]
theorem jw {n:Nat}{b:Bool}:dM n [.bool b]=(List.replicate n b).flatMap bS:=by
 induction n with
 |zero=>rfl
 |succ n ih=>simp only[dM,ih,List.replicate_succ,List.flatMap_cons,bS]
theorem we {j sz b:Nat}{z:List CV}{k:IntKind}{n:Nat}{m:Mem}(hz:z.length=sz) (hb:b≤1024) (hn:n≤4294967296):mkX false j sz b z (.int k n) (.int k n) m=some (.ref (.l j) (bj m.L j) 0 n,bi m j (.arr (bj m.L j) sz (dM n z) 0)):=by
 simp only[mkX,Int.toNat_natCast];rw[if_pos ⟨by omega,trivial,dI hb hn,hz⟩];rfl
theorem ye {x:CV}{m:Mem}(hc:ap x=some [x]) (hp:cz x=true):iB x m=some (eP m,ir m [x]):=by
 simp only[iB,hc,bF (m:=m) (cs:=[x]) (by simp only[List.all_cons,List.all_nil,hp,Bool.and_self]),Option.map_some]
def RefG (H:List HO) (v:CV) (l:List Int):Prop:=(l=[]∧v=.nil)∨∃n g vl,v=.ref (.g n) g 0 l.length∧H[n]?=some (.arr g 1 (l.flatMap aX) vl)
theorem RefG.len {H:List HO}{v:CV}{l:List Int}(h:RefG H v l):clen v=some l.length:=by
 rcases h with⟨rfl,rfl⟩|⟨n,g,vl,rfl,_⟩<;>rfl
theorem RefG.at {H:List HO}{v:CV}{l:List Int}(h:RefG H v l) {a:Int}{i:Nat}(ha:l[i]?=some a) {k:IntKind}:∃p,bd 1 v (.int k i)=some p∧∀L,ld1 ⟨L,H⟩ p=some (.int .i64 a):=by
 have hlt:=(List.getElem?_eq_some_iff.1 ha).1;rcases h with⟨rfl,rfl⟩|⟨n,g,vl,rfl,hn⟩
 ·simp at hlt
 ·refine⟨.ptr (.g n) g i,?_,λL=>?_⟩
  ·rw[bD,if_pos ⟨by omega,by simpa using hlt⟩];simp
  ·rw[ce];simp only[hn,bM,fX,ha];rfl
theorem RefG.mono {H H':List HO}{v:CV}{l:List Int}(h:RefG H v l) (hH:∀i:Nat,i<H.length→H'[i]?=H[i]?):RefG H' v l:=by
 rcases h with h|⟨n,g,vl,h1,h2⟩
 ·exact .inl h
 ·exact .inr ⟨n,g,vl,h1,by rw[hH n (List.getElem?_eq_some_iff.1 h2).1,h2]⟩
theorem RefG.app {H E:List HO}{v:CV}{l:List Int}(h:RefG H v l):RefG (H++E) v l:=h.mono λ_ hi=>List.getElem?_append_left hi
section
variable {P:Program}{A:Ann}{F:aW}{fid:FuncId}{m:Mem}
theorem cf {d:Tmp}{f:FuncId}{args:List CV}{r:CV}{H':List HO}(hp:A.pure f=false) (hx:args.all eV=true) (hF:F f args m.H=some (r,H')) :
  cd A F fid (some d) f args m=some (adopt ((A.glob fid).contains d) d r ⟨m.L,H'⟩):=by
 simp only[cd,cn hx,Option.bind_some,hp,Bool.false_eq_true,if_false,hF,jf]
theorem dK {d:Option Tmp}{f:FuncId}{a args c:List CV}:dx A F fid d (.func (.func f) a c) args m=cd A F fid d f (a++args++c) m:=rfl
end
theorem Oi {l:List (Int×CV)}{a:Int}{v:CV}(h:al l a=none):jP l a v=l++[(a,v)]:=by
 induction l with
 |nil=>rfl
 |cons p r ih=>
  simp only[al] at h
  split at h
  ·cases h
  ·rename_i hp
   simp only[jP,hp,if_false,ih h,List.cons_append]
theorem Oh {α:Type}{l:List α}{f:α→Int}{g:α→CV}{a:Int}(h:∀x∈l,f x≠a):al (l.map λx=>(f x,g x)) a=none:=by
 induction l with
 |nil=>rfl
 |cons x l ih=>
  simp only[List.map_cons,al];rw[if_neg (h x List.mem_cons_self)];exact ih λy hy=>h y (List.mem_cons_of_mem _ hy)
theorem xV {l:List Int}{a:Int}{v:CV}(h:a∈l):al (l.map λx=>(x,v)) a=some v:=by
 induction l with
 |nil=>cases h
 |cons x l ih=>
  simp only[List.map_cons,al]
  by_cases hx:x=a
  ·rw[if_pos hx]
  ·rw[if_neg hx]
   rcases List.mem_cons.1 h with h|h
   ·exact absurd h.symm hx
   ·exact ih h
theorem MS {P:Program}{t:TypeId}{k:IntKind}(hu:P.underlying t=some (.int k)) {key:Key}{g:Nat}{a:Int}{v:CV}{m:Mem}{l:List (Int×CV)}(hv:eV v=true) (hm:m.get key=some (.map g (esI k l))) :
  mB P t (.map key g) (.int k a) v m=some (m.set key (.map g (esI k (jP l a v)))):=by
 have he:bp m [v]=some ([v],m):=cn (by simp only[List.all_cons,List.all_nil,hv,Bool.and_self]);have hs:=fix_set (k:=k) (l:=l) (a:=a) (v:=v) 0 l;simp only[mB,he,Option.bind_some,hm,rZ,and_self,if_true,nm hu]
 cases hf:fix l a 0 with
 |none=>rw[hf] at hs;simp only at hs ⊢;rw[hs]
 |some p=>
  obtain⟨i,c⟩:=p;rw[hf] at hs;simp only[Nat.sub_zero] at hs ⊢;rw[hs]
def fo (g:List (List Int)):CV:=sl (λr=>[sl aX r]) g
theorem fY (n:Int):noGs (aX n)=true:=rfl
theorem jk (n:Bool):noGs (bS n)=true:=rfl
theorem Em (r:List Int):((λr=>[sl aX r]) r).length=1:=rfl
theorem rowC_N (r:List Int):noGs ((λr=>[sl aX r]) r)=true:=by simp only[noGs,noG_sl fY,Bool.and_self]
def RdI (H:List HO) (v:CV) (l:List Int):Prop:=v=sl aX l∨RefG H v l
theorem RdI.len {H:List HO}{v:CV}{l:List Int}(h:RdI H v l):clen v=some l.length:=by
 rcases h with rfl|h
 ·rfl
 ·exact h.len
theorem RdI.at {H:List HO}{v:CV}{l:List Int}(h:RdI H v l) {a:Int}{i:Nat}(ha:l[i]?=some a) {k:IntKind}:∃p,bd 1 v (.int k i)=some p∧∀L,ld1 ⟨L,H⟩ p=some (.int .i64 a):=by
 rcases h with rfl|h
 ·refine⟨_,hY dB (by omega) (by omega) (by simpa using ha),λL=>?_⟩
  simp only[aX,List.cons_append,dw]
 ·exact h.at ha
theorem RdI.esc {H:List HO}{v:CV}{l:List Int}(h:RdI H v l):eV v=true:=by
 rcases h with rfl|⟨_,rfl⟩|⟨n,g,vl,rfl,_⟩<;>rfl
structure IsRows (v:CV) (g:List (List Int)):Prop where
 ex:∃cs,v=.imm g.length cs∧cs.length=g.length∧(∀(i:Nat) (r:List Int),g[i]?=some r→∃w,cs[i]?=some w∧(w=sl aX r∨(r=[]∧w=.nil)))∧noGs cs=true
theorem IsRows.of (g:List (List Int)):IsRows (fo g) g:=by
 refine⟨_,rfl,by rw[bC Em];omega,λi r h=>⟨sl aX r,?_,.inl rfl⟩,eJ rowC_N g⟩
 rw[KV,List.getElem?_map,h];rfl
section
variable {v:CV}{g:List (List Int)}
theorem IsRows.len (h:IsRows v g):clen v=some g.length:=by obtain⟨cs,rfl,_⟩:=h.ex;rfl
theorem IsRows.esc (h:IsRows v g):cz v=true:=by obtain⟨cs,rfl,_⟩:=h.ex;rfl
theorem IsRows.cells (h:IsRows v g):ap v=some [v]:=by obtain⟨cs,rfl,_⟩:=h.ex;rfl
theorem IsRows.noG (h:IsRows v g):noG v=true:=by obtain⟨cs,rfl,_,_,h⟩:=h.ex;exact h
end
section
variable {P:Program}{t:TypeId}{x y:Operand}{a b:Bool}{K:CV→Prop}
end
end Go.Cm
namespace Go.Cm
structure Enc {α:Type}(e:α→List CV) (sz:Nat):Prop where
 len:∀a,(e a).length=sz
 can:∀a,cans (e a)=e a
 noG:∀a,noGs (e a)=true
 esc:∀a,(e a).all cz=true
theorem lZ:∀(a b:List CV),cans (a++b)=cans a++cans b
 |[],_=>rfl
 |c::a,b=>by simp only[List.cons_append,cans,lZ a b]
theorem pB {α:Type}{e e':α→List CV}(h:∀a,cans (e a)=e' a):∀l:List α,cans (l.flatMap e)=l.flatMap e'
 |[]=>rfl
 |a::l=>by simp only[List.flatMap_cons,lZ,h,pB h l]
theorem vS {α:Type}{e e':α→List CV}(h:∀a,cans (e a)=e' a) (l:List α):can (sl e l)=sl e' l:=by
 simp only[sl,can,pB h]
section
variable {α:Type}{e:α→List CV}{sz:Nat}
theorem Enc.can_sl (h:Enc e sz) (l:List α):Cm.can (Cm.sl e l)=Cm.sl e l:=vS h.can l
theorem Enc.noG_sl (h:Enc e sz) (l:List α):Cm.noG (Cm.sl e l)=true:=Cm.noG_sl h.noG l
theorem Enc.sl (h:Enc e sz):Enc (λl:List α=>[Cm.sl e l]) 1 where
 len _:=rfl
 can l:=by simp only[cans,Enc.can_sl h]
 noG l:=by simp only[noGs,Enc.noG_sl h,Bool.and_self]
 esc l:=by simp only[List.all_cons,List.all_nil,Bool.and_true];rfl
end
theorem intE:Enc aX 1:=⟨λ_=>rfl,λ_=>rfl,λ_=>rfl,λ_=>rfl⟩
theorem aG {k:IntKind}{n:Int}:can (.int k n)=.int k n:=rfl
theorem az {b:Bool}:can (.bool b)=.bool b:=rfl
theorem aH {b:ByteArray}:can (.str b)=.str b:=rfl
theorem aC {cs:List CV}:can (.agg cs)=.agg (cans cs):=rfl
def MU {α:Type}(e:α→List CV) (l:List α):CV:=if l.isEmpty then .nil else sl e l
theorem rD {α:Type}{e e':α→List CV}(h:∀a,cans (e a)=e' a) (l:List α):can (MU e l)=sl e' l:=by
 cases l with
 |nil=>rfl
 |cons a l=>exact vS h _
theorem kV {α:Type}{e:α→List CV}(h:∀a,noGs (e a)=true) (l:List α):noG (MU e l)=true:=by
 cases l with
 |nil=>rfl
 |cons a l=>exact noG_sl h _
section
variable {P:Program}{A:Ann}{E:aW}{fid:FuncId}{d:Tmp}{f:FuncId}{m:Mem}{r:CV}{H':List HO}
theorem Mn {args cargs:List CV}(hF:Fw P A E f cargs []=some (r,H')) (hp:A.pure f=true) (hc:cans args=cargs) (hx:args.all eV=true) (hn:noGs args=true) (hr:noG r=true) :
  cd A (Fw P A E) fid (some d) f args m=some (adopt ((A.glob fid).contains d) d r m):=by
 refine el (H':=H') ?_ hp hx hn hr;rw[tj,hp];show Fw P A E f (cans args) []=_;rw[hc];exact hF
theorem cr {args cargs:List CV}(hF:Fw P A E f cargs []=some (r,H')) (ha:∀g d m,adopt g d r m=(r,m)) (hp:A.pure f=true) (hc:cans args=cargs) (hx:args.all eV=true) (hn:noGs args=true) (hr:noG r=true) :
  cd A (Fw P A E) fid (some d) f args m=some (r,m):=by
 rw[Mn hF hp hc hx hn hr,ha]
theorem na {args xs cargs:List CV}{m1:Mem}(hF:Fw P A E f cargs []=some (r,H')) (hp:A.pure f=true) (hx:bp m args=some (xs,m1)) (hc:cans xs=cargs) (hn:noGs xs=true) (hr:noG r=true) :
  cd A (Fw P A E) fid (some d) f args m=some (adopt ((A.glob fid).contains d) d r (if fa r then m else m1)):=by
 refine ng (H':=H') hp hx hn ?_ hr;rw[tj,hp];show Fw P A E f (cans xs) []=_;rw[hc];exact hF
end
section
variable {α:Type}{e:α→List CV}{sz:Nat}{m m':Mem}{j:Nat}{v:CV}{l:List α}
def OwnV (e:α→List CV) (sz:Nat) (m:Mem) (j:Nat) (v:CV) (l:List α):Prop:=
 (l=[]∧v=.nil)∨(l≠[]∧∃g vl,v=.ref (.l j) g 0 l.length∧aK m.L j=some (.arr g sz (l.flatMap e) vl)∧vl≤l.length*sz)
theorem OwnE.seen (h:OwnE e sz m j v l):OwnV e sz m j v l:=by
 rcases h with h|⟨h,g,h1,h2⟩
 ·exact .inl h
 ·exact .inr ⟨h,g,0,h1,h2,Nat.zero_le _⟩
theorem OwnV.keep (h:OwnV e sz m j v l) (hm:aK m'.L j=aK m.L j):OwnV e sz m' j v l:=by
 rcases h with h|⟨h,g,vl,h1,h2,h3⟩
 ·exact .inl h
 ·exact .inr ⟨h,g,vl,h1,by rw[hm,h2],h3⟩
theorem OwnV.len (h:OwnV e sz m j v l):clen v=some l.length:=by
 rcases h with⟨rfl,rfl⟩|⟨_,g,_,rfl,_⟩<;>rfl
theorem OwnV.esc1 (h:OwnV e sz m j v l) (hs:∀a,(e a).length=sz) :
  ∃m1,esc iC v m=some (MU e l,m1)∧m1.H=m.H∧(∀i,i≠j→aK m1.L i=aK m.L i)∧OwnV e sz m1 j v l:=by
 rcases h with⟨rfl,rfl⟩|⟨hne,g,vl,rfl,h1,h2⟩
 ·exact⟨m,rfl,rfl,λ_ _=>rfl,.inl ⟨rfl,rfl⟩⟩
 ·refine⟨bi m j (.arr g sz (l.flatMap e) (max vl (l.length*sz))),?_,rfl,λi hi=>by rw[ba,if_neg (Ne.symm hi)],.inr ⟨hne,g,max vl (l.length*sz),rfl,by rw[ba,if_pos rfl],by omega⟩⟩
  have hr:MU e l=.imm l.length (l.flatMap e):=by cases l with
   |nil=>exact absurd rfl hne
   |cons a l=>rfl
  simp only[iC,esc,h1,if_true,List.drop_zero,HO.seen,Nat.zero_add,hr];rw[List.take_of_length_le (by rw[bC hs];omega)];rfl
theorem OwnV.app (h:OwnV e sz m j v l) {b:Nat}{x:CV}{ys:List α}{K:CV×Mem→Prop}(hs:∀a,(e a).length=sz) (hx:Cm.content m sz x=some (ys.flatMap e)) (hn:clen x=some ys.length)
  (hb:cN b (l.length+ys.length)=true) (hK:∀v' m',OwnV e sz m' j v' (l++ys)→m'.H=m.H→(∀i,i≠j→aK m'.L i=aK m.L i)→K (v',m')):Obt (ej false j sz b v x m) K:=by
 rcases h with⟨rfl,rfl⟩|⟨hne,g,vl,rfl,h,hvl⟩
 ·rw[iD,hx,hn]
  by_cases h0:ys.length=0
  ·have:ys=[]:=List.eq_nil_of_length_eq_zero h0
   subst this;simp only[tr,List.length_nil,if_true,aJ];exact hK _ _ (.inl ⟨rfl,rfl⟩) rfl (λ_ _=>rfl)
  ·rw[eG h0,if_pos (by simpa using hb),aJ]
   refine hK _ _ (.inr ⟨by simpa using λe=>h0 (by rw[e];rfl),bj m.L j,0,rfl,?_,Nat.zero_le _⟩) rfl ?_
   ·rw[dj,ba,if_pos rfl,List.nil_append]
   ·intro i hi;rw[dj,ba,if_neg (Ne.symm hi)]
 ·have htk:(l.flatMap e).take (l.length*sz)=l.flatMap e:=List.take_of_length_le (by rw[bC hs];omega)
  rw[fP,hx,hn,h];simp only[ea];rw[if_pos (by simp only[hb,and_true,true_and];omega),aJ];refine hK _ _ (.inr ⟨by simp[hne],g+1,vl - 0,by simp,?_,by simp only[List.length_append];have:=Nat.mul_le_mul_right sz (Nat.le_add_right l.length ys.length);omega⟩) rfl ?_
  ·rw[ba,if_pos rfl,List.drop_zero,htk,List.flatMap_append]
  ·intro i hi;rw[ba,if_neg (Ne.symm hi)]
theorem OwnV.at (h:OwnV e sz m j v l) (hs:∀a,(e a).length=sz) {a:α}{i:Nat}(ha:l[i]?=some a) {k:IntKind}:∃g vl,v=.ref (.l j) g 0 l.length∧aK m.L j=some (.arr g sz (l.flatMap e) vl)∧vl≤l.length*sz:=by
 rcases h with⟨rfl,rfl⟩|⟨_,g,vl,h⟩
 ·cases ha
 ·exact⟨g,vl,h⟩
end
theorem dh {m m1:Mem}{v x:CV}(h:esc iC v m=some (x,m1)):bp m [v]=some ([x],m1):=by
 simp only[bp,am,h,Option.bind_some,Option.map_some]
theorem gG {s:Nat}{z:CV}{k:IntKind}{x:Int}{m:Mem}:be false s 1 1 [z] [(0,1,.int k x)] m=some (.ref (.l s) (bj m.L s) 0 1,bi m s (.arr (bj m.L s) 1 [.int k x] 0)):=rfl
section
variable {P:Program}{A:Ann}{E:aW}{fid:FuncId}{d:Tmp}{f:FuncId}{m:Mem}{H':List HO}{α:Type}{e:α→List CV}{sz:Nat}{l:List α}
theorem gX {args cargs:List CV}{K:CV×Mem→Prop}(hF:Fw P A E f cargs []=some (eA e sz l,H')) (hp:A.pure f=true) (hc:cans args=cargs) (hx:args.all eV=true) (hn:noGs args=true) (hr:∀a,noGs (e a)=true)
  (hgl:(A.glob fid).contains d=false) (hK:∀v m',OwnE e sz m' (16*d) v l→m'.H=m.H→(∀i,i≠16*d→aK m'.L i=aK m.L i)→K (v,m')):Obt (cd A (Fw P A E) fid (some d) f args m) K:=by
 rw[Mn hF hp hc hx hn (kU hr l),aJ];obtain⟨v,m',h1,h2,h3,h4⟩:=Jz (e:=e) (sz:=sz) (m:=m) (l:=l) (d:=d) hgl;rw[h1];exact hK v m' h2 h3 h4
theorem rC {args xs cargs:List CV}{m1:Mem}{K:CV×Mem→Prop}(hF:Fw P A E f cargs []=some (eA e sz l,H')) (hp:A.pure f=true) (hx:bp m args=some (xs,m1)) (hc:cans xs=cargs) (hn:noGs xs=true) (hr:∀a,noGs (e a)=true)
  (hgl:(A.glob fid).contains d=false) (hK:∀v m',OwnE e sz m' (16*d) v l→m'.H=m.H∨m'.H=m1.H→(∀i,i≠16*d→aK m'.L i=aK m.L i∨aK m'.L i=aK m1.L i)→K (v,m')):Obt (cd A (Fw P A E) fid (some d) f args m) K:=by
 rw[na hF hp hx hc hn (kU hr l),aJ];obtain⟨v,m',h1,h2,h3,h4⟩:=Jz (e:=e) (sz:=sz) (m:=if fa (eA e sz l) then m else m1) (l:=l) (d:=d) hgl;rw[h1];refine hK v m' h2 ?_ λi hi=>?_
 ·rw[h3];split
  ·exact .inl rfl
  ·exact .inr rfl
 ·rw[h4 i hi];split
  ·exact .inl rfl
  ·exact .inr rfl
end
theorem m9 {A:Ann}{F:aW}{fid:FuncId}{d:Tmp}{f:FuncId}{m m1:Mem}{args xs:List CV}{r:CV}{H':List HO}(hp:A.pure f=false) (hx:bp m args=some (xs,m1)) (hF:F f xs m1.H=some (r,H')) :
  cd A F fid (some d) f args m=some (adopt ((A.glob fid).contains d) d r ⟨m1.L,H'⟩):=by
 simp only[cd,hx,Option.bind_some,hp,Bool.false_eq_true,if_false,hF,jf]
theorem LU {f:CV→Mem→Option (CV×Mem)}:∀{a b xs ys:List CV}{m m1 m2:Mem},am f a m=some (xs,m1)→am f b m1=some (ys,m2)→am f (a++b) m=some (xs++ys,m2)
 |[],b,xs,ys,m,m1,m2,h1,h2=>by
  simp only[am,Option.some.injEq,Prod.mk.injEq] at h1;obtain⟨rfl,rfl⟩:=h1;exact h2
 |c::a,b,xs,ys,m,m1,m2,h1,h2=>by
  simp only[am,Option.bind_eq_some_iff,Option.map_eq_some_iff] at h1;obtain⟨x,hx,y,hy,he⟩:=h1;simp only[Prod.mk.injEq] at he;obtain⟨rfl,rfl⟩:=he;have:=LU hy h2;simp only[List.cons_append,am,hx,Option.bind_some,this,Option.map_some]
theorem kG {m m1:Mem}{pre:List CV}{v x:CV}(ha:pre.all eV=true) (h:esc iC v m=some (x,m1)):bp m (pre++[v])=some (pre++[x],m1):=
 LU (cn (m:=m) ha) (dh h)
def EscI (m:Mem) (j:Nat) (v:CV) (l:List Int):Prop:=∃x m1,esc iC v m=some (x,m1)∧(∀H,RdI H x l)∧m1.H=m.H∧∀i,i≠j→aK m1.L i=aK m.L i
theorem xM {H:List HO}{l:List Int}:RdI H (MU aX l) l:=by
 cases l with
 |nil=>exact .inr (.inl ⟨rfl,rfl⟩)
 |cons a l=>exact .inl rfl
theorem EscI.imm {m:Mem}{j:Nat}:EscI m j (.imm 0 []) []:=⟨_,m,rfl,λ_=>.inl rfl,rfl,λ_ _=>rfl⟩
end Go.Cm
