import Derived.Test.YtijcpefcfcbcnaaCxD
set_option linter.unusedSimpArgs false
set_option linter.unusedVariables false
namespace Go.Cm
section
variable {P:Program}{n:Nat}{t:TypeId}{d:D}
theorem kW (hu:P.underlying t=some .bool) (h:D.ok P (n+1) t d):∃x,d=.b x:=by simpa only[D.ok,hu] using h
theorem Ec {k:IntKind}(hu:P.underlying t=some (.int k)) (h:D.ok P (n+1) t d):∃m,d=.i k m∧k.min≤m∧m≤k.max:=by simpa only[D.ok,hu] using h
theorem sq {e:TypeId}(hu:P.underlying t=some (.slice e)) (h:D.ok P (n+1) t d):∃ds,d=.sl ds∧ds.length≤maxLen∧∀x∈ds,D.ok P n e x:=by simpa only[D.ok,hu] using h
theorem eL {fs:Array Field}{ts:List TypeId}(hu:P.underlying t=some (.struct fs)) (ht:fs.toList.map (·.type)=ts) (h:D.ok P (n+1) t d):∃ds,d=.ag ds∧oks (D.ok P n) ts ds:=by
 subst ht;simpa only[D.ok,hu] using h
theorem bm {ok:TypeId→D→Prop}{ts:List TypeId}{ds:List D}(h:oks ok (t::ts) ds):∃d r,ds=d::r∧ok t d∧oks ok ts r:=by
 cases ds with
 |nil=>cases h
 |cons d r=>exact⟨d,r,rfl,h.1,h.2⟩
theorem fA {ok:TypeId→D→Prop}{ds:List D}(h:oks ok [] ds):ds=[]:=by
 cases ds with
 |nil=>rfl
 |cons d r=>cases h
end
def du (n:Int):Prop:=-9223372036854775808≤n∧n≤9223372036854775807
def isU64 (n:Int):Prop:=0≤n∧n≤18446744073709551615
theorem dp {P:Program}{n:Nat}{t:TypeId}{d:D}(hu:P.underlying t=some (.int .i64)) (h:D.ok P (n+1) t d):∃m,d=.i .i64 m∧du m:=Ec hu h
theorem ok_u64 {P:Program}{n:Nat}{t:TypeId}{d:D}(hu:P.underlying t=some (.int .u64)) (h:D.ok P (n+1) t d):∃m,d=.i .u64 m∧isU64 m:=Ec hu h
def aX (n:Int):List CV:=[.int .i64 n]
def bS (b:Bool):List CV:=[.bool b]
theorem dB (n:Int):(aX n).length=1:=rfl
theorem jl (n:Bool):(bS n).length=1:=rfl
def Area.wf (a:Area):Prop:=du a.size
def Lay.wf (l:Lay):Prop:=l.ctx.wf∧l.maps.length≤9223372036854775807∧∀a∈l.maps,a.wf
def Fact.wf (f:Fact):Prop:=du f.region∧du f.low∧du f.high
end Go.Cm
namespace Go.Cm
def al:List (Int×CV)→Int→Option CV
 |[],_=>none
 |p::r,a=>if p.1=a then some p.2 else al r a
def jP:List (Int×CV)→Int→CV→List (Int×CV)
 |[],a,v=>[(a,v)]
 |p::r,a,v=>if p.1=a then (a,v)::r else p::jP r a v
theorem kr {l:List (Int×CV)}{a b:Int}{v:CV}:al (jP l a v) b=if a=b then some v else al l b:=by
 induction l with
 |nil=>simp only[jP,al]
 |cons p r ih=>
  simp only[jP]
  by_cases h:p.1=a
  ·simp only[h,if_true,al]
   split<;>rfl
  ·simp only[h,if_false,al,ih]
   by_cases h2:p.1=b
   ·simp only[h2,if_true]
    rw[if_neg];intro h3;exact h (by rw[h2,h3])
   ·simp only[h2,if_false]
def esI (k:IntKind) (l:List (Int×CV)):List (CV×CV):=l.map λp=>(.int k p.1,p.2)
def fix (l:List (Int×CV)) (a:Int) (i:Nat):Option (Nat×CV):=
 match l with
 |[]=>none
 |p::r=>if p.1=a then some (i,p.2) else fix r a (i+1)
theorem nm {P:Program}{t:TypeId}{k:IntKind}(hu:P.underlying t=some (.int k)) (a:Int):∀(l:List (Int×CV)) (i:Nat),gH P t (.int k a) (esI k l) i=some (fix l a i)
 |[],i=>rfl
 |p::r,i=>by
  have h:ceq P 20 t (.int k a) (.int k p.1)=some (a==p.1):=by simp only[ceq,hu,if_true]
  simp only[esI,List.map_cons,gH,h,fix]
  by_cases he:p.1=a
  ·subst he;simp
  ·have:(a==p.1)=false:=by simp;exact λe=>he e.symm
   simp only[this,he,if_false];exact nm hu a r (i+1)
theorem fix_al (l:List (Int×CV)) (a:Int):∀i,(fix l a i).map (·.2)=al l a:=by
 induction l with
 |nil=>intro i;rfl
 |cons p r ih=>
  intro i;simp only[fix,al];split
  ·rfl
  ·exact ih _
theorem fK {P:Program}{t:TypeId}{k:IntKind}(hu:P.underlying t=some (.int k)) {z x:CV}{a:Int}{ok:Bool}{m:Mem}{l:List (Int×CV)}(hm:fx m x=some (esI k l)) :
  gK P t z x (.int k a) ok m=some (if ok then .tuple [(al l a).getD z,.bool (al l a).isSome] else (al l a).getD z):=by
 simp only[gK,hm,nm hu];have:=fix_al l a 0
 cases hf:fix l a 0 with
 |none=>rw[hf] at this;simp only[Option.map_none] at this;rw[←this];rfl
 |some p=>rw[hf] at this;simp only[Option.map_some] at this;rw[←this];rfl
theorem In {k:IntKind}{l:List (Int×CV)}{a:Int}{v:CV}:∀(j:Nat) (l:List (Int×CV)),(match fix l a j with
  |some (i,_)=>(esI k l).set (i - j) (.int k a,v)
  |none=>esI k l++[(.int k a,v)])=esI k (jP l a v):=by
 intro j l;have hge:∀(l:List (Int×CV)) (j i:Nat) (c:CV),fix l a j=some (i,c)→j≤i:=by
  intro l
  induction l with
  |nil=>intro j i c h;simp[fix] at h
  |cons p r ih=>
   intro j i c h;simp only[fix] at h
   split at h
   ·simp only[Option.some.injEq,Prod.mk.injEq] at h;omega
   ·have:=ih _ _ _ h;omega
 induction l generalizing j with
 |nil=>rfl
 |cons p r ih=>
  simp only[fix,jP]
  by_cases h:p.1=a
  ·simp only[h,if_true,Nat.sub_self]
   simp[esI]
  ·simp only[h,if_false]
   have:=ih (j+1)
   cases hf:fix r a (j+1) with
   |none=>rw[hf] at this;simp only at this ⊢;simp only[esI,List.map_cons,List.cons_append] at this ⊢;rw[this]
   |some q=>
    obtain⟨i,c⟩:=q;rw[hf] at this;have h1:=hge r (j+1) i c hf;simp only at this ⊢;have h2:i - j=(i - (j+1))+1:=by omega
    simp only[esI,List.map_cons] at this ⊢;rw[h2,List.set_cons_succ,this]
def jE (m:Mem) (n:Nat) (o:HO):Mem:=⟨m.L,m.H.set n o⟩
theorem gA {H0 E:List HO}{i:Nat}:(H0++E)[H0.length+i]?=E[i]?:=by
 rw[List.getElem?_append_right (by omega)];congr 1;omega
theorem nM {H0 E:List HO}:(H0++E)[H0.length]?=E[0]?:=by
 rw[List.getElem?_append_right (by omega)];congr 1;omega
theorem ot {H0 E:List HO}{i:Nat}{o:HO}:(H0++E).set (H0.length+i) o=H0++E.set i o:=by
 rw[List.set_append_right _ _ (by omega)];congr 2;omega
theorem p4 {H0 E:List HO}{o:HO}:(H0++E).set H0.length o=H0++E.set 0 o:=by
 rw[List.set_append_right _ _ (by omega)];congr 2;omega
theorem iK {m:Mem}{cs:List CV}:ir m cs=⟨m.L,m.H++[.var 1 cs 0]⟩:=rfl
theorem iM {m:Mem}:eP m=.ptr (.g m.H.length) 1 0:=rfl
theorem iI {m:Mem}{sz:Nat}{cs:List CV}:mb m sz cs=⟨m.L,m.H++[.arr 1 sz cs 0]⟩:=rfl
theorem iN {m:Mem}{n:Nat}:rT m n=.ref (.g m.H.length) 1 0 n:=rfl
theorem iL {m:Mem}:jJ m=⟨m.L,m.H++[.map 1 []]⟩:=rfl
theorem iJ {m:Mem}:md m=.map (.g m.H.length) 1:=rfl
theorem pR {m:Mem}{j sz:Nat}{cs:List CV}:nmA true m j sz cs=⟨m.L,m.H++[.arr 1 sz cs 0]⟩:=rfl
theorem pS {m:Mem}{j n:Nat}:nmR true m j n=.ref (.g m.H.length) 1 0 n:=rfl
section
variable {m:Mem}{a g off len n sz:Nat}{cs:List CV}{v:CV}
theorem jq {l:List (CV×CV)}(h:m.H[a]?=some (.map g l)):fx m (.map (.g a) g)=some l:=by
 simp only[fx,Mem.get,h,if_true]
theorem pC:bN m (.ptr (.g a) g off) n=rdO g off n m.H[a]?:=by
 simp only[bN,Mem.get]
 cases m.H[a]? with
 |none=>rfl
 |some h=>cases h<;>simp[rdO,HO.gn,HO.isMap,HO.cells]
theorem ce:ld1 m (.ptr (.g a) g off)=rd1 g off m.H[a]?:=by
 simp only[ld1,pC]
 cases m.H[a]? with
 |none=>rfl
 |some h=>
  cases h with
  |var g' cs vl=>
   simp only[rdO,rd1]
   by_cases hg:g'=g
   ·simp only[hg,true_and,if_true];exact eQ
   ·simp[hg]
  |arr g' s cs vl=>
   simp only[rdO,rd1]
   by_cases hg:g'=g
   ·simp only[hg,true_and,if_true];exact eQ
   ·simp[hg]
  |map=>rfl
theorem kL:ldA n m (.ptr (.g a) g off)=rdA g off n m.H[a]?:=by simp only[ldA,pC,rdA]
def wrG (m:Mem) (a gn off:Nat) (cs:List CV) (g sz:Nat) (cells:List CV) (vl:Nat):Option Mem:=
 if g=gn∧off+cs.length≤cells.length∧vl≤off then
  (bp m cs).bind λx=>
   match x.2.H[a]? with
   |some (.arr g' _ _ vl')=>if g'=gn∧vl'≤off then some (jE x.2 a (.arr g sz (ay cells off x.1) vl')) else none
   |_=>none
 else none
def stW (n:Nat) (m:Mem) (a gn off:Nat) (v:Option (List CV)) (o:Option HO):Option Mem:=
 match v with
 |some cs=>if cs.length=n then
   (match o with
   |some (.var g cells vl)=>if g=gn∧off+cs.length≤cells.length∧vl≤off then (bp m cs).map λx=>jE x.2 a (.var g (ay cells off x.1) vl) else none
   |some (.arr g sz cells vl)=>wrG m a gn off cs g sz cells vl
   |_=>none)
  else none
 |none=>none
theorem gQ:stX n m (.ptr (.g a) g off) v=stW n m a g off (ap v) m.H[a]?:=by
 unfold stX stW
 cases ap v with
 |none=>rfl
 |some cs=>
  simp only
  split
  ·simp only[fT,Mem.get]
   cases m.H[a]? with
   |none=>rfl
   |some h=>cases h<;>rfl
  ·rfl
theorem fD {cells:List CV}{vl:Nat}:stW n m a g off (some cs) (some (.var g cells vl))=if cs.length=n∧off+n≤cells.length∧vl≤off then (bp m cs).map λx=>jE x.2 a (.var g (ay cells off x.1) vl) else none:=by
 simp only[stW,true_and]
 by_cases h:cs.length=n
 ·simp only[h,if_true,true_and]
 ·simp only[h,if_false,false_and]
theorem mO {cells:List CV}{s vl:Nat}(hp:cs.all cz=true) (hm:m.H[a]?=some (.arr g s cells vl)):stW n m a g off (some cs) (some (.arr g s cells vl))=if cs.length=n∧off+n≤cells.length∧vl≤off then some (jE m a (.arr g s (ay cells off cs) vl)) else none:=by
 simp only[stW,wrG,true_and,bF hp,Option.bind_some,hm]
 by_cases h:cs.length=n
 ·simp only[h,if_true,true_and]
  by_cases h2:vl≤off
  ·simp only[h2,and_true,if_true]
  ·simp only[h2,and_false,if_false]
 ·simp only[h,if_false,false_and]
theorem tt {glob:Bool}{i b len:Nat}{x:CV}:ej glob i sz b (.ref (.g a) g off len) x m=(match content m sz x,cK x,m.H[a]? with
  |some ys,some n,some (.arr g' s' cs vl)=>if g'=g∧s'=sz∧vl≤off+len*sz∧cN b (len+n)=true then some (.ref (.g a) (g'+1) 0 (len+n),jE m a (.arr (g'+1) sz ((cs.drop off).take (len*sz)++ys) (vl - off))) else none
  |_,_,_=>none):=by
 unfold ej
 cases content m sz x with
 |none=>rfl
 |some ys=>
  cases cK x with
  |none=>rfl
  |some n=>
   simp only[Mem.get]
   cases m.H[a]? with
   |none=>rfl
   |some h=>cases h<;>rfl
end
end Go.Cm
namespace Go.Cm
def OwnE {α:Type}(e:α→List CV) (sz:Nat) (m:Mem) (j:Nat) (v:CV) (l:List α):Prop:=
 (l=[]∧v=.nil)∨(l≠[]∧∃g,v=.ref (.l j) g 0 l.length∧aK m.L j=some (.arr g sz (l.flatMap e) 0))
def eA {α:Type}(e:α→List CV) (sz:Nat) (l:List α):CV:=if l=[] then .nil else .own l.length sz (l.flatMap e) 0
section
variable {α:Type}{e:α→List CV}{sz:Nat}{m m':Mem}{j:Nat}{v:CV}{l:List α}
theorem OwnE.nil:OwnE e sz m j .nil []:=.inl ⟨rfl,rfl⟩
theorem OwnE.keep (h:OwnE e sz m j v l) (hm:aK m'.L j=aK m.L j):OwnE e sz m' j v l:=by
 rcases h with h|⟨h,g,h1,h2⟩
 ·exact .inl h
 ·exact .inr ⟨h,g,h1,by rw[hm,h2]⟩
theorem OwnE.keepS (h:OwnE e sz m j v l) {i:Nat}{o:HO}(hij:i≠j):OwnE e sz (bi m i o) j v l:=h.keep (by rw[ba,if_neg hij])
theorem OwnE.len (h:OwnE e sz m j v l):cK v=some l.length:=by
 rcases h with⟨rfl,rfl⟩|⟨_,g,rfl,_⟩<;>rfl
theorem OwnE.lenS (h:OwnE e sz m j v l):lenS v=some (.int .i64 l.length):=by simp only[Cm.lenS,h.len,Option.map_some]
theorem OwnE.content (h:OwnE e sz m j v l) (hs:∀a,(e a).length=sz):content m sz v=some (l.flatMap e):=by
 rcases h with⟨rfl,rfl⟩|⟨_,g,rfl,h⟩
 ·rfl
 ·rw[cU,h,dz,List.drop_zero,List.take_of_length_le (by rw[bC hs];exact Nat.le_refl _)]
theorem OwnE.app (h:OwnE e sz m j v l) {b:Nat}{x:CV}{ys:List α}{K:CV×Mem→Prop}(hs:∀a,(e a).length=sz) (hx:Cm.content m sz x=some (ys.flatMap e)) (hn:cK x=some ys.length)
  (hb:b≤1024) (hl:l.length+ys.length≤4294967296) (hK:∀v' m',OwnE e sz m' j v' (l++ys)→m'.H=m.H→(∀i,i≠j→aK m'.L i=aK m.L i)→K (v',m')):Obt (ej false j sz b v x m) K:=by
 rcases h with⟨rfl,rfl⟩|⟨hne,g,rfl,h⟩
 ·rw[iD,hx,hn]
  by_cases h0:ys.length=0
  ·have:ys=[]:=List.eq_nil_of_length_eq_zero h0
   subst this;simp only[tr,List.length_nil,if_true,aJ];exact hK _ _ (.inl ⟨rfl,rfl⟩) rfl (λ_ _=>rfl)
  ·rw[eG h0,if_pos (dI hb (by simpa using hl)),aJ]
   refine hK _ _ (.inr ⟨by simpa using λe=>h0 (by rw[e];rfl),bj m.L j,rfl,?_⟩) rfl ?_
   ·rw[dj,ba,if_pos rfl,List.nil_append]
   ·intro i hi;rw[dj,ba,if_neg (Ne.symm hi)]
 ·rw[fP,hx,hn,h,ea,if_pos ⟨by omega,dI hb hl⟩,aJ]
  refine hK _ _ (.inr ⟨by simp[hne],g+1,by simp,?_⟩) rfl ?_
  ·rw[ba,if_pos rfl,List.drop_zero,List.take_of_length_le (by rw[bC hs];exact Nat.le_refl _),List.flatMap_append]
  ·intro i hi;rw[ba,if_neg (Ne.symm hi)]
theorem OwnE.app8 (h:OwnE e sz m j v l) {b:Nat}{x:CV}{ys:List α}{K:CV×Mem→Prop}(hs:∀a,(e a).length=sz) (hx:Cm.content m sz x=some (ys.flatMap e)) (hn:cK x=some ys.length)
  (hb:b≤8) (hl:l.length+ys.length≤17592186044416) (hK:∀v' m',OwnE e sz m' j v' (l++ys)→m'.H=m.H→(∀i,i≠j→aK m'.L i=aK m.L i)→K (v',m')):Obt (ej false j sz b v x m) K:=by
 rcases h with⟨rfl,rfl⟩|⟨hne,g,rfl,h⟩
 ·rw[iD,hx,hn]
  by_cases h0:ys.length=0
  ·have:ys=[]:=List.eq_nil_of_length_eq_zero h0
   subst this;simp only[tr,List.length_nil,if_true,aJ];exact hK _ _ (.inl ⟨rfl,rfl⟩) rfl (λ_ _=>rfl)
  ·rw[eG h0,if_pos (f0 hb (by simpa using hl)),aJ]
   refine hK _ _ (.inr ⟨by simpa using λe=>h0 (by rw[e];rfl),bj m.L j,rfl,?_⟩) rfl ?_
   ·rw[dj,ba,if_pos rfl,List.nil_append]
   ·intro i hi;rw[dj,ba,if_neg (Ne.symm hi)]
 ·rw[fP,hx,hn,h,ea,if_pos ⟨by omega,f0 hb hl⟩,aJ]
  refine hK _ _ (.inr ⟨by simp[hne],g+1,by simp,?_⟩) rfl ?_
  ·rw[ba,if_pos rfl,List.drop_zero,List.take_of_length_le (by rw[bC hs];exact Nat.le_refl _),List.flatMap_append]
  ·intro i hi;rw[ba,if_neg (Ne.symm hi)]
theorem OwnE.ret (h:OwnE e sz m j v l) (hs:∀a,(e a).length=sz) {K:CV×Mem→Prop}(hK:∀m',m'.H=m.H→K (eA e sz l,m')):Obt (gD v m) K:=by
 rcases h with⟨rfl,rfl⟩|⟨hne,g,rfl,h⟩
 ·simp only[eh,aJ];exact hK m rfl
 ·rw[dq,h,bV,aJ,List.drop_zero,List.take_of_length_le (by rw[bC hs];exact Nat.le_refl _)]
  have:=hK (bi m j (.arr (g+1) sz [] 0)) rfl;rw[eA,if_neg hne] at this;exact this
theorem Jz {d:Nat}{gl:Bool}(hg:gl=false):∃v m',adopt gl d (eA e sz l) m=(v,m')∧OwnE e sz m' (16*d) v l∧m'.H=m.H∧∀i,i≠16*d→aK m'.L i=aK m.L i:=by
 subst hg;unfold eA;split
 ·rename_i h;subst h;exact⟨.nil,m,rfl,.inl ⟨rfl,rfl⟩,rfl,λ_ _=>rfl⟩
 ·rename_i h
  refine⟨_,_,po,.inr ⟨h,_,rfl,by rw[ba,if_pos rfl]⟩,rfl,λi hi=>by rw[ba,if_neg (Ne.symm hi)]⟩
theorem kU (h:∀a,noGs (e a)=true) (l:List α):noG (eA e sz l)=true:=by
 unfold eA;split
 ·rfl
 ·exact eJ h l
theorem OwnE.get (h:OwnE e sz m j v l) {a:α}{i:Nat}(ha:l[i]?=some a):∃g,v=.ref (.l j) g 0 l.length∧aK m.L j=some (.arr g sz (l.flatMap e) 0)∧i<l.length:=by
 have hlt:=(List.getElem?_eq_some_iff.1 ha).1;rcases h with⟨rfl,_⟩|⟨_,g,h1,h2⟩
 ·simp at hlt
 ·exact⟨g,h1,h2,hlt⟩
end
theorem dA {α:Type}{e:α→List CV}{l:List α}{i off:Nat}{a:α}{sz:Nat}(hs:∀a,(e a).length=sz) (ha:l[i]?=some a) (ho:off<sz):(l.flatMap e)[i*sz+off]?=(e a)[off]?:=by
 obtain⟨h1,h2⟩:=hJ hs ha;rw[←h1,List.getElem?_take,if_pos ho,List.getElem?_drop]
theorem fX {l:List Int}{i:Nat}:(l.flatMap aX)[i]?=(l[i]?).map (CV.int .i64):=by
 induction l generalizing i with
 |nil=>rfl
 |cons x l ih=>
  cases i with
  |zero=>rfl
  |succ i=>simpa[aX] using ih
theorem OwnE.at {m:Mem}{j:Nat}{v:CV}{l:List Int}(h:OwnE aX 1 m j v l) {a:Int}{i:Nat}(ha:l[i]?=some a) {k:IntKind}:∃p,bd 1 v (.int k i)=some p∧∀m':Mem,aK m'.L j=aK m.L j→ld1 m' p=some (.int .i64 a):=by
 obtain⟨g,rfl,h2,hlt⟩:=h.get ha
 refine⟨.ptr (.l j) g i,?_,λm' hm=>?_⟩
 ·rw[bD,if_pos ⟨by omega,by simpa using hlt⟩];simp
 ·rw[eX,hm,h2,bM,fX,ha];rfl
theorem kg {cells:List CV}{i:Nat}{v:CV}(h:i<cells.length):ay cells i [v]=cells.set i v:=by
 simp only[ay,List.length_cons,List.length_nil,Nat.zero_add,List.cons_append,List.nil_append];rw[List.set_eq_take_append_cons_drop,if_pos h]
theorem mN {l:List Int}{i:Nat}{x:Int}:(l.flatMap aX).set i (.int .i64 x)=(l.set i x).flatMap aX:=by
 induction l generalizing i with
 |nil=>rfl
 |cons y l ih=>
  cases i with
  |zero=>rfl
  |succ i=>simpa[aX] using ih
theorem dL {l:List Int}:(l.flatMap aX).length=l.length:=by rw[bC dB];omega
theorem kI {α:Type}{f:α→CV}{l:List α}:(l.flatMap λa=>[f a])=l.map f:=by
 induction l with
 |nil=>rfl
 |cons x l ih=>simp only[List.flatMap_cons,ih,List.map_cons,List.cons_append,List.nil_append]
theorem fI {l:List Bool}{i:Nat}:(l.flatMap bS)[i]?=(l[i]?).map CV.bool:=by
 rw[show l.flatMap bS=l.map CV.bool from kI,List.getElem?_map]
theorem ou {l:List Bool}{i:Nat}{x:Bool}:(l.flatMap bS).set i (.bool x)=(l.set i x).flatMap bS:=by
 rw[show l.flatMap bS=l.map CV.bool from kI,show(l.set i x).flatMap bS=(l.set i x).map CV.bool from kI,List.map_set]
theorem kN {l:List Bool}:(l.flatMap bS).length=l.length:=by rw[bC jl];omega
theorem lK {m:Mem}{j g i:Nat}{v:CV}{cells:List CV}(hn:aK m.L j=some (.arr g 1 cells 0)) (h:i<cells.length) (hp:cz v=true) (hc:ap v=some [v]):stX 1 m (.ptr (.l j) g i) v=some (bi m j (.arr g 1 (cells.set i v) 0)):=by
 rw[p6,hn,hc,q6 (by simp only[List.all_cons,List.all_nil,hp,Bool.and_self]) hn,if_pos ⟨rfl,by omega,by omega⟩,kg h]
theorem sA {n:Nat}{z:CV}:(dM n [z]).length=n:=by
 induction n with
 |zero=>rfl
 |succ n ih=>simp[dM,ih]
theorem jw {n:Nat}{b:Bool}:dM n [.bool b]=(List.replicate n b).flatMap bS:=by
 induction n with
 |zero=>rfl
 |succ n ih=>simp only[dM,ih,List.replicate_succ,List.flatMap_cons,bS]
theorem Eh {n:Nat}{b:Int}:dM n [.int .i64 b]=(List.replicate n b).flatMap aX:=by
 induction n with
 |zero=>rfl
 |succ n ih=>simp only[dM,ih,List.replicate_succ,List.flatMap_cons,aX]
def mC {α:Type}(e:α→List CV) (sz:Nat) (l:List α):CV:=.own l.length sz (l.flatMap e) 0
theorem iT {α:Type}{e:α→List CV}{sz:Nat}(h:∀a,noGs (e a)=true) (l:List α):noG (mC e sz l)=true:=eJ h l
theorem we {j sz b:Nat}{z:List CV}{k:IntKind}{n:Nat}{m:Mem}(hz:z.length=sz) (hb:b≤1024) (hn:n≤4294967296):mkX false j sz b z (.int k n) (.int k n) m=some (.ref (.l j) (bj m.L j) 0 n,bi m j (.arr (bj m.L j) sz (dM n z) 0)):=by
 simp only[mkX,Int.toNat_natCast];rw[if_pos ⟨by omega,trivial,dI hb hn,hz⟩];rfl
theorem wd {j sz b:Nat}{z:List CV}{k:IntKind}{n:Nat}{m:Mem}(hz:z.length=sz) (hb:b≤1024) (hn:n≤4294967296):mkX true j sz b z (.int k n) (.int k n) m=some (.ref (.g m.H.length) 1 0 n,⟨m.L,m.H++[.arr 1 sz (dM n z) 0]⟩):=by
 simp only[mkX,Int.toNat_natCast];rw[if_pos ⟨by omega,trivial,dI hb hn,hz⟩];rfl
theorem jz {m:Mem}{a g i:Nat}{v:CV}{cells:List CV}(hn:m.H[a]?=some (.arr g 1 cells 0)) (h:i<cells.length) (hp:cz v=true) (hc:ap v=some [v]):stX 1 m (.ptr (.g a) g i) v=some ⟨m.L,m.H.set a (.arr g 1 (cells.set i v) 0)⟩:=by
 rw[gQ,hn,hc,mO (by simp only[List.all_cons,List.all_nil,hp,Bool.and_self]) hn,if_pos ⟨rfl,by omega,by omega⟩,kg h];rfl
theorem ye {x:CV}{m:Mem}(hc:ap x=some [x]) (hp:cz x=true):iB x m=some (eP m,ir m [x]):=by
 simp only[iB,hc,bF (m:=m) (cs:=[x]) (by simp only[List.all_cons,List.all_nil,hp,Bool.and_self]),Option.map_some]
def RefG (H:List HO) (v:CV) (l:List Int):Prop:=(l=[]∧v=.nil)∨∃n g vl,v=.ref (.g n) g 0 l.length∧H[n]?=some (.arr g 1 (l.flatMap aX) vl)
theorem RefG.len {H:List HO}{v:CV}{l:List Int}(h:RefG H v l):cK v=some l.length:=by
 rcases h with⟨rfl,rfl⟩|⟨n,g,vl,rfl,_⟩<;>rfl
theorem RefG.at {H:List HO}{v:CV}{l:List Int}(h:RefG H v l) {a:Int}{i:Nat}(ha:l[i]?=some a) {k:IntKind}:∃p,bd 1 v (.int k i)=some p∧∀L,ld1 ⟨L,H⟩ p=some (.int .i64 a):=by
 have hlt:=(List.getElem?_eq_some_iff.1 ha).1;rcases h with⟨rfl,rfl⟩|⟨n,g,vl,rfl,hn⟩
 ·simp at hlt
 ·refine⟨.ptr (.g n) g i,?_,λL=>?_⟩
  ·rw[bD,if_pos ⟨by omega,by simpa using hlt⟩];simp
  ·rw[ce];simp only[hn,bM,fX,ha];rfl
theorem RefG.mono {H H':List HO}{v:CV}{l:List Int}(h:RefG H v l) (hH:∀i:Nat,i<H.length→H'[i]?=H[i]?):RefG H' v l:=by
 rcases h with h|⟨n,g,vl,h1,h2⟩
 ·exact .inl h
 ·exact .inr ⟨n,g,vl,h1,by rw[hH n (List.getElem?_eq_some_iff.1 h2).1,h2]⟩
theorem RefG.app {H E:List HO}{v:CV}{l:List Int}(h:RefG H v l):RefG (H++E) v l:=h.mono λ_ hi=>List.getElem?_append_left hi
section
variable {P:Program}{A:Ann}{F:aW}{fid:FuncId}{m:Mem}
theorem cf {d:Tmp}{f:FuncId}{args:List CV}{r:CV}{H':List HO}(hp:A.pure f=false) (hx:args.all eV=true) (hF:F f args m.H=some (r,H')) :
  aB A F fid (some d) f args m=some (adopt ((A.glob fid).contains d) d r ⟨m.L,H'⟩):=by
 simp only[aB,cn hx,Option.bind_some,hp,Bool.false_eq_true,if_false,hF,jf]
theorem dK {d:Option Tmp}{f:FuncId}{a args c:List CV}:dx A F fid d (.func (.func f) a c) args m=aB A F fid d f (a++args++c) m:=rfl
end
theorem yc {l:List (Int×CV)}{a:Int}{v:CV}(h:al l a=none):jP l a v=l++[(a,v)]:=by
 induction l with
 |nil=>rfl
 |cons p r ih=>
  simp only[al] at h
  split at h
  ·cases h
  ·rename_i hp
   simp only[jP,hp,if_false,ih h,List.cons_append]
theorem al_map {α:Type}{l:List α}{f:α→Int}{g:α→CV}{a:Int}(h:∀x∈l,f x≠a):al (l.map λx=>(f x,g x)) a=none:=by
 induction l with
 |nil=>rfl
 |cons x l ih=>
  simp only[List.map_cons,al];rw[if_neg (h x List.mem_cons_self)];exact ih λy hy=>h y (List.mem_cons_of_mem _ hy)
theorem xV {l:List Int}{a:Int}{v:CV}(h:a∈l):al (l.map λx=>(x,v)) a=some v:=by
 induction l with
 |nil=>cases h
 |cons x l ih=>
  simp only[List.map_cons,al]
  by_cases hx:x=a
  ·rw[if_pos hx]
  ·rw[if_neg hx]
   rcases List.mem_cons.1 h with h|h
   ·exact absurd h.symm hx
   ·exact ih h
theorem kR {P:Program}{t:TypeId}{k:IntKind}(hu:P.underlying t=some (.int k)) {key:Key}{g:Nat}{a:Int}{v:CV}{m:Mem}{l:List (Int×CV)}(hv:eV v=true) (hm:m.get key=some (.map g (esI k l))) :
  mB P t (.map key g) (.int k a) v m=some (m.set key (.map g (esI k (jP l a v)))):=by
 have he:bp m [v]=some ([v],m):=cn (by simp only[List.all_cons,List.all_nil,hv,Bool.and_self]);have hs:=In (k:=k) (l:=l) (a:=a) (v:=v) 0 l;simp only[mB,he,Option.bind_some,hm,rZ,and_self,if_true,nm hu]
 cases hf:fix l a 0 with
 |none=>rw[hf] at hs;simp only at hs ⊢;rw[hs]
 |some p=>
  obtain⟨i,c⟩:=p;rw[hf] at hs;simp only[Nat.sub_zero] at hs ⊢;rw[hs]
def fo (g:List (List Int)):CV:=sl (λr=>[sl aX r]) g
theorem fY (n:Int):noGs (aX n)=true:=rfl
theorem jk (n:Bool):noGs (bS n)=true:=rfl
theorem Em (r:List Int):((λr=>[sl aX r]) r).length=1:=rfl
theorem rowC_N (r:List Int):noGs ((λr=>[sl aX r]) r)=true:=by simp only[noGs,noG_sl fY,Bool.and_self]
def RdI (H:List HO) (v:CV) (l:List Int):Prop:=v=sl aX l∨RefG H v l
theorem RdI.len {H:List HO}{v:CV}{l:List Int}(h:RdI H v l):cK v=some l.length:=by
 rcases h with rfl|h
 ·rfl
 ·exact h.len
theorem RdI.at {H:List HO}{v:CV}{l:List Int}(h:RdI H v l) {a:Int}{i:Nat}(ha:l[i]?=some a) {k:IntKind}:∃p,bd 1 v (.int k i)=some p∧∀L,ld1 ⟨L,H⟩ p=some (.int .i64 a):=by
 rcases h with rfl|h
 ·refine⟨_,hY dB (by omega) (by omega) (by simpa using ha),λL=>?_⟩
  simp only[aX,List.cons_append,dw]
 ·exact h.at ha
theorem RdI.esc {H:List HO}{v:CV}{l:List Int}(h:RdI H v l):eV v=true:=by
 rcases h with rfl|⟨_,rfl⟩|⟨n,g,vl,rfl,_⟩<;>rfl
structure IsRows (v:CV) (g:List (List Int)):Prop where
 ex:∃cs,v=.imm g.length cs∧cs.length=g.length∧(∀(i:Nat) (r:List Int),g[i]?=some r→∃w,cs[i]?=some w∧(w=sl aX r∨(r=[]∧w=.nil)))∧noGs cs=true
theorem IsRows.of (g:List (List Int)):IsRows (fo g) g:=by
 refine⟨_,rfl,by rw[bC Em];omega,λi r h=>⟨sl aX r,?_,.inl rfl⟩,eJ rowC_N g⟩
 rw[kI,List.getElem?_map,h];rfl
section
variable {v:CV}{g:List (List Int)}
theorem IsRows.len (h:IsRows v g):cK v=some g.length:=by obtain⟨cs,rfl,_⟩:=h.ex;rfl
theorem IsRows.esc (h:IsRows v g):cz v=true:=by obtain⟨cs,rfl,_⟩:=h.ex;rfl
theorem IsRows.cells (h:IsRows v g):ap v=some [v]:=by obtain⟨cs,rfl,_⟩:=h.ex;rfl
theorem IsRows.noG (h:IsRows v g):noG v=true:=by obtain⟨cs,rfl,_,_,h⟩:=h.ex;exact h
theorem IsRows.idx (h:IsRows v g) {x:Int}{r:List Int}{k:IntKind}(h0:0≤x) (hr:g[x.toNat]?=some r):∃w t,bd 1 v (.int k x)=some (.rptr (w::t))∧∀H,RdI H w r:=by
 obtain⟨cs,rfl,h1,h2,_⟩:=h.ex;obtain⟨w,h3,h4⟩:=h2 _ _ hr;have hlt:=(List.getElem?_eq_some_iff.1 hr).1;have hlt2:x.toNat<cs.length:=by omega
 refine⟨w,cs.drop (x.toNat+1),?_,λH=>?_⟩
 ·simp only[bd,eH,h0,if_true]
  rw[if_pos ⟨hlt,by omega⟩,Nat.mul_one,List.drop_eq_getElem_cons hlt2];rw[List.getElem?_eq_getElem hlt2] at h3;rw[Option.some.inj h3]
 ·rcases h4 with rfl|⟨rfl,rfl⟩
  ·exact .inl rfl
  ·exact .inr (.inl ⟨rfl,rfl⟩)
end
section
variable {P:Program}{t:TypeId}{x y:Operand}{a b:Bool}{K:CV→Prop}
theorem F1 (hu:P.underlying t=some .bool):Obt (aw P .eql t x y (.bool a) (.bool b)) K=K (.bool (a==b)):=by
 simp only[aw,eqC,ceq,hu,Option.map_some,aJ]
theorem Obt_neB (hu:P.underlying t=some .bool):Obt (aw P .neq t x y (.bool a) (.bool b)) K=K (.bool (!(a==b))):=by
 simp only[aw,eqC,ceq,hu,Option.map_some,aJ]
end
theorem esc_own {m:Mem}{j g len sz vl:Nat}{cs:List CV}{args:List CV}(h:aK m.L j=some (.arr g sz cs vl)) (hl:cs.length=len*sz) (ha:args.all eV=true) :
  bp m (.ref (.l j) g 0 len::args)=some (.imm len cs::args,bi m j (.arr g sz cs (max vl (len*sz)))):=by
 have h1:esc iC (.ref (.l j) g 0 len) m=some (.imm len cs,bi m j (.arr g sz cs (max vl (len*sz)))):=by
  simp only[iC,esc,h,if_true,List.drop_zero,HO.seen,Nat.zero_add];rw[List.take_of_length_le (by omega)];rfl
 have h2:∀m',am (esc iC) args m'=some (args,m'):=λm'=>cn (m:=m') ha;simp only[bp,am,h1,Option.bind_some,h2,Option.map_some]
end Go.Cm
namespace Go.Cm
structure Enc {α:Type}(e:α→List CV) (sz:Nat):Prop where
 len:∀a,(e a).length=sz
 can:∀a,cans (e a)=e a
 noG:∀a,noGs (e a)=true
 esc:∀a,(e a).all cz=true
theorem lZ:∀(a b:List CV),cans (a++b)=cans a++cans b
 |[],_=>rfl
 |c::a,b=>by simp only[List.cons_append,cans,lZ a b]
theorem pB {α:Type}{e e':α→List CV}(h:∀a,cans (e a)=e' a):∀l:List α,cans (l.flatMap e)=l.flatMap e'
 |[]=>rfl
 |a::l=>by simp only[List.flatMap_cons,lZ,h,pB h l]
theorem vS {α:Type}{e e':α→List CV}(h:∀a,cans (e a)=e' a) (l:List α):can (sl e l)=sl e' l:=by
 simp only[sl,can,pB h]
section
variable {α:Type}{e:α→List CV}{sz:Nat}
theorem Enc.can_sl (h:Enc e sz) (l:List α):Cm.can (Cm.sl e l)=Cm.sl e l:=vS h.can l
theorem Enc.noG_sl (h:Enc e sz) (l:List α):Cm.noG (Cm.sl e l)=true:=Cm.noG_sl h.noG l
theorem Enc.noG_own (h:Enc e sz) (l:List α):Cm.noG (eA e sz l)=true:=kU h.noG l
theorem Enc.sl (h:Enc e sz):Enc (λl:List α=>[Cm.sl e l]) 1 where
 len _:=rfl
 can l:=by simp only[cans,Enc.can_sl h]
 noG l:=by simp only[noGs,Enc.noG_sl h,Bool.and_self]
 esc l:=by simp only[List.all_cons,List.all_nil,Bool.and_true];rfl
end
theorem intE:Enc aX 1:=⟨λ_=>rfl,λ_=>rfl,λ_=>rfl,λ_=>rfl⟩
theorem rowE:Enc (λr:List Int=>[sl aX r]) 1:=intE.sl
theorem aG {k:IntKind}{n:Int}:can (.int k n)=.int k n:=rfl
theorem az {b:Bool}:can (.bool b)=.bool b:=rfl
theorem aH {b:ByteArray}:can (.str b)=.str b:=rfl
theorem aC {cs:List CV}:can (.agg cs)=.agg (cans cs):=rfl
theorem escP_sl {α:Type}{e:α→List CV}{l:List α}:cz (sl e l)=true:=rfl
theorem Im {α:Type}{e:α→List CV}{l:List α}:eV (sl e l)=true:=rfl
def rowC {α:Type}(e:α→List CV) (l:List α):CV:=if l.isEmpty then .nil else sl e l
theorem rD {α:Type}{e e':α→List CV}(h:∀a,cans (e a)=e' a) (l:List α):can (rowC e l)=sl e' l:=by
 cases l with
 |nil=>rfl
 |cons a l=>exact vS h _
theorem kV {α:Type}{e:α→List CV}(h:∀a,noGs (e a)=true) (l:List α):noG (rowC e l)=true:=by
 cases l with
 |nil=>rfl
 |cons a l=>exact noG_sl h _
section
variable {P:Program}{A:Ann}{E:aW}{fid:FuncId}{d:Tmp}{f:FuncId}{m:Mem}{r:CV}{H':List HO}
theorem ek {args cargs:List CV}(hF:Fw P A E f cargs []=some (r,H')) (hp:A.pure f=true) (hc:cans args=cargs) (hx:args.all eV=true) (hn:noGs args=true) (hr:noG r=true) :
  aB A (Fw P A E) fid (some d) f args m=some (adopt ((A.glob fid).contains d) d r m):=by
 refine el (H':=H') ?_ hp hx hn hr;rw[tj,hp];show Fw P A E f (cans args) []=_;rw[hc];exact hF
theorem cr {args cargs:List CV}(hF:Fw P A E f cargs []=some (r,H')) (ha:∀g d m,adopt g d r m=(r,m)) (hp:A.pure f=true) (hc:cans args=cargs) (hx:args.all eV=true) (hn:noGs args=true) (hr:noG r=true) :
  aB A (Fw P A E) fid (some d) f args m=some (r,m):=by
 rw[ek hF hp hc hx hn hr,ha]
theorem na {args xs cargs:List CV}{m1:Mem}(hF:Fw P A E f cargs []=some (r,H')) (hp:A.pure f=true) (hx:bp m args=some (xs,m1)) (hc:cans xs=cargs) (hn:noGs xs=true) (hr:noG r=true) :
  aB A (Fw P A E) fid (some d) f args m=some (adopt ((A.glob fid).contains d) d r (if fa r then m else m1)):=by
 refine ng (H':=H') hp hx hn ?_ hr;rw[tj,hp];show Fw P A E f (cans xs) []=_;rw[hc];exact hF
end
section
variable {α:Type}{e:α→List CV}{sz:Nat}{m m':Mem}{j:Nat}{v:CV}{l:List α}
def OwnV (e:α→List CV) (sz:Nat) (m:Mem) (j:Nat) (v:CV) (l:List α):Prop:=
 (l=[]∧v=.nil)∨(l≠[]∧∃g vl,v=.ref (.l j) g 0 l.length∧aK m.L j=some (.arr g sz (l.flatMap e) vl)∧vl≤l.length*sz)
theorem OwnE.seen (h:OwnE e sz m j v l):OwnV e sz m j v l:=by
 rcases h with h|⟨h,g,h1,h2⟩
 ·exact .inl h
 ·exact .inr ⟨h,g,0,h1,h2,Nat.zero_le _⟩
theorem OwnV.keep (h:OwnV e sz m j v l) (hm:aK m'.L j=aK m.L j):OwnV e sz m' j v l:=by
 rcases h with h|⟨h,g,vl,h1,h2,h3⟩
 ·exact .inl h
 ·exact .inr ⟨h,g,vl,h1,by rw[hm,h2],h3⟩
theorem OwnV.len (h:OwnV e sz m j v l):cK v=some l.length:=by
 rcases h with⟨rfl,rfl⟩|⟨_,g,_,rfl,_⟩<;>rfl
theorem OwnV.esc1 (h:OwnV e sz m j v l) (hs:∀a,(e a).length=sz) :
  ∃m1,esc iC v m=some (rowC e l,m1)∧m1.H=m.H∧(∀i,i≠j→aK m1.L i=aK m.L i)∧OwnV e sz m1 j v l:=by
 rcases h with⟨rfl,rfl⟩|⟨hne,g,vl,rfl,h1,h2⟩
 ·exact⟨m,rfl,rfl,λ_ _=>rfl,.inl ⟨rfl,rfl⟩⟩
 ·refine⟨bi m j (.arr g sz (l.flatMap e) (max vl (l.length*sz))),?_,rfl,λi hi=>by rw[ba,if_neg (Ne.symm hi)],.inr ⟨hne,g,max vl (l.length*sz),rfl,by rw[ba,if_pos rfl],by omega⟩⟩
  have hr:rowC e l=.imm l.length (l.flatMap e):=by cases l with
   |nil=>exact absurd rfl hne
   |cons a l=>rfl
  simp only[iC,esc,h1,if_true,List.drop_zero,HO.seen,Nat.zero_add,hr];rw[List.take_of_length_le (by rw[bC hs];omega)];rfl
theorem OwnV.app (h:OwnV e sz m j v l) {b:Nat}{x:CV}{ys:List α}{K:CV×Mem→Prop}(hs:∀a,(e a).length=sz) (hx:Cm.content m sz x=some (ys.flatMap e)) (hn:cK x=some ys.length)
  (hb:cN b (l.length+ys.length)=true) (hK:∀v' m',OwnV e sz m' j v' (l++ys)→m'.H=m.H→(∀i,i≠j→aK m'.L i=aK m.L i)→K (v',m')):Obt (ej false j sz b v x m) K:=by
 rcases h with⟨rfl,rfl⟩|⟨hne,g,vl,rfl,h,hvl⟩
 ·rw[iD,hx,hn]
  by_cases h0:ys.length=0
  ·have:ys=[]:=List.eq_nil_of_length_eq_zero h0
   subst this;simp only[tr,List.length_nil,if_true,aJ];exact hK _ _ (.inl ⟨rfl,rfl⟩) rfl (λ_ _=>rfl)
  ·rw[eG h0,if_pos (by simpa using hb),aJ]
   refine hK _ _ (.inr ⟨by simpa using λe=>h0 (by rw[e];rfl),bj m.L j,0,rfl,?_,Nat.zero_le _⟩) rfl ?_
   ·rw[dj,ba,if_pos rfl,List.nil_append]
   ·intro i hi;rw[dj,ba,if_neg (Ne.symm hi)]
 ·have htk:(l.flatMap e).take (l.length*sz)=l.flatMap e:=List.take_of_length_le (by rw[bC hs];omega)
  rw[fP,hx,hn,h];simp only[ea];rw[if_pos (by simp only[hb,and_true,true_and];omega),aJ];refine hK _ _ (.inr ⟨by simp[hne],g+1,vl - 0,by simp,?_,by simp only[List.length_append];have:=Nat.mul_le_mul_right sz (Nat.le_add_right l.length ys.length);omega⟩) rfl ?_
  ·rw[ba,if_pos rfl,List.drop_zero,htk,List.flatMap_append]
  ·intro i hi;rw[ba,if_neg (Ne.symm hi)]
theorem OwnV.at (h:OwnV e sz m j v l) (hs:∀a,(e a).length=sz) {a:α}{i:Nat}(ha:l[i]?=some a) {k:IntKind}:∃g vl,v=.ref (.l j) g 0 l.length∧aK m.L j=some (.arr g sz (l.flatMap e) vl)∧vl≤l.length*sz:=by
 rcases h with⟨rfl,rfl⟩|⟨_,g,vl,h⟩
 ·cases ha
 ·exact⟨g,vl,h⟩
end
theorem qG {m:Mem}{a0 a1:CV}{r:List CV}:ldA 2 m (.rptr (a0::a1::r))=some (.agg [a0,a1]):=by
 simp only[ldA,bN,List.length_cons,Option.map_some];rw[if_pos (by omega)];rfl
theorem iR {m:Mem}{a0 a1 a2 a3 a4 a5 a6:CV}{r:List CV}:ldA 7 m (.rptr (a0::a1::a2::a3::a4::a5::a6::r))=some (.agg [a0,a1,a2,a3,a4,a5,a6]):=by
 simp only[ldA,bN,List.length_cons,Option.map_some];rw[if_pos (by omega)];rfl
theorem ct {m:Mem}{a0 a1 a2 a3 a4 a5 a6 a7 a8 a9:CV}{r:List CV}:ldA 10 m (.rptr (a0::a1::a2::a3::a4::a5::a6::a7::a8::a9::r))=some (.agg [a0,a1,a2,a3,a4,a5,a6,a7,a8,a9]):=by
 simp only[ldA,bN,List.length_cons,Option.map_some];rw[if_pos (by omega)];rfl
theorem eR {m:Mem}{a0 a1 a2 a3 a4 a5 a6 a7 a8 a9 a10 a11:CV}{r:List CV}:ldA 12 m (.rptr (a0::a1::a2::a3::a4::a5::a6::a7::a8::a9::a10::a11::r))=some (.agg [a0,a1,a2,a3,a4,a5,a6,a7,a8,a9,a10,a11]):=by
 simp only[ldA,bN,List.length_cons,Option.map_some];rw[if_pos (by omega)];rfl
theorem ma {m:Mem}:bp m []=some ([],m):=rfl
theorem dh {m m1:Mem}{v x:CV}(h:esc iC v m=some (x,m1)):bp m [v]=some ([x],m1):=by
 simp only[bp,am,h,Option.bind_some,Option.map_some]
theorem rB {α:Type}{e:α→List CV}{sz:Nat}{m:Mem}{j s:Nat}{v z:CV}{l:List α}{K:CV×Mem→Prop}(h:OwnV e sz m j v l) (hs:∀a,(e a).length=sz)
  (hK:∀m',aK m'.L s=some (.arr (bj m.L s) 1 [rowC e l] 0)→m'.H=m.H→(∀i,i≠s→i≠j→aK m'.L i=aK m.L i)→j≠s→K (.ref (.l s) (bj m.L s) 0 1,m')) (hjs:j≠s):Obt (be false s 1 1 [z] [(0,1,v)] m) K:=by
 obtain⟨m1,h1,h2,h3,_⟩:=h.esc1 hs;have hc:ap v=some [v]:=by rcases h with⟨_,rfl⟩|⟨_,g,vl,rfl,_⟩<;>rfl
 have hf:bg [z] [(0,1,v)]=some [v]:=by simp only[bg,hc,List.length_cons,List.length_nil,ay,List.take_zero,List.nil_append,List.drop_succ_cons,List.drop_nil,List.append_nil];rfl
 have hg:bj m1.L s=bj m.L s:=by unfold bj;rw[h3 s (Ne.symm hjs)]
 simp only[be,hf,Option.bind_some,dh h1,Option.map_some,aJ,ef,dj,hg];refine hK _ (by simp[bi,aq]) h2 (λi hi hj=>?_) hjs;simp only[bi,aq];rw[if_neg (Ne.symm hi),h3 i hj]
theorem cP {t:TypeId}{n g o:Nat}{m:Mem}:gD (.iface t (.ptr (.g n) g o)) m=some (.iface t (.ptr (.g n) g o),m):=rfl
theorem gG {s:Nat}{z:CV}{k:IntKind}{x:Int}{m:Mem}:be false s 1 1 [z] [(0,1,.int k x)] m=some (.ref (.l s) (bj m.L s) 0 1,bi m s (.arr (bj m.L s) 1 [.int k x] 0)):=rfl
theorem Iu {s:Nat}{z z':CV}{k:IntKind}{x y:Int}{m:Mem}:be false s 1 2 [z,z'] [(0,1,.int k x),(1,1,.int k y)] m=some (.ref (.l s) (bj m.L s) 0 2,bi m s (.arr (bj m.L s) 1 [.int k x,.int k y] 0)):=rfl
section
variable {P:Program}{A:Ann}{E:aW}{fid:FuncId}{d:Tmp}{f:FuncId}{m:Mem}{H':List HO}{α:Type}{e:α→List CV}{sz:Nat}{l:List α}
theorem gX {args cargs:List CV}{K:CV×Mem→Prop}(hF:Fw P A E f cargs []=some (eA e sz l,H')) (hp:A.pure f=true) (hc:cans args=cargs) (hx:args.all eV=true) (hn:noGs args=true) (hr:∀a,noGs (e a)=true)
  (hgl:(A.glob fid).contains d=false) (hK:∀v m',OwnE e sz m' (16*d) v l→m'.H=m.H→(∀i,i≠16*d→aK m'.L i=aK m.L i)→K (v,m')):Obt (aB A (Fw P A E) fid (some d) f args m) K:=by
 rw[ek hF hp hc hx hn (kU hr l),aJ];obtain⟨v,m',h1,h2,h3,h4⟩:=Jz (e:=e) (sz:=sz) (m:=m) (l:=l) (d:=d) hgl;rw[h1];exact hK v m' h2 h3 h4
theorem rC {args xs cargs:List CV}{m1:Mem}{K:CV×Mem→Prop}(hF:Fw P A E f cargs []=some (eA e sz l,H')) (hp:A.pure f=true) (hx:bp m args=some (xs,m1)) (hc:cans xs=cargs) (hn:noGs xs=true) (hr:∀a,noGs (e a)=true)
  (hgl:(A.glob fid).contains d=false) (hK:∀v m',OwnE e sz m' (16*d) v l→m'.H=m.H∨m'.H=m1.H→(∀i,i≠16*d→aK m'.L i=aK m.L i∨aK m'.L i=aK m1.L i)→K (v,m')):Obt (aB A (Fw P A E) fid (some d) f args m) K:=by
 rw[na hF hp hx hc hn (kU hr l),aJ];obtain⟨v,m',h1,h2,h3,h4⟩:=Jz (e:=e) (sz:=sz) (m:=if fa (eA e sz l) then m else m1) (l:=l) (d:=d) hgl;rw[h1];refine hK v m' h2 ?_ λi hi=>?_
 ·rw[h3];split
  ·exact .inl rfl
  ·exact .inr rfl
 ·rw[h4 i hi];split
  ·exact .inl rfl
  ·exact .inr rfl
end
theorem m9 {A:Ann}{F:aW}{fid:FuncId}{d:Tmp}{f:FuncId}{m m1:Mem}{args xs:List CV}{r:CV}{H':List HO}(hp:A.pure f=false) (hx:bp m args=some (xs,m1)) (hF:F f xs m1.H=some (r,H')) :
  aB A F fid (some d) f args m=some (adopt ((A.glob fid).contains d) d r ⟨m1.L,H'⟩):=by
 simp only[aB,hx,Option.bind_some,hp,Bool.false_eq_true,if_false,hF,jf]
theorem ed {f:CV→Mem→Option (CV×Mem)}:∀{a b xs ys:List CV}{m m1 m2:Mem},am f a m=some (xs,m1)→am f b m1=some (ys,m2)→am f (a++b) m=some (xs++ys,m2)
 |[],b,xs,ys,m,m1,m2,h1,h2=>by
  simp only[am,Option.some.injEq,Prod.mk.injEq] at h1;obtain⟨rfl,rfl⟩:=h1;exact h2
 |c::a,b,xs,ys,m,m1,m2,h1,h2=>by
  simp only[am,Option.bind_eq_some_iff,Option.map_eq_some_iff] at h1;obtain⟨x,hx,y,hy,he⟩:=h1;simp only[Prod.mk.injEq] at he;obtain⟨rfl,rfl⟩:=he;have:=ed hy h2;simp only[List.cons_append,am,hx,Option.bind_some,this,Option.map_some]
theorem kG {m m1:Mem}{pre:List CV}{v x:CV}(ha:pre.all eV=true) (h:esc iC v m=some (x,m1)):bp m (pre++[v])=some (pre++[x],m1):=
 ed (cn (m:=m) ha) (dh h)
theorem jI {m m1:Mem}{post:List CV}{v x:CV}(ha:post.all eV=true) (h:esc iC v m=some (x,m1)):bp m (v::post)=some (x::post,m1):=
 ed (a:=[v]) (dh h) (cn (m:=m1) ha)
def EscI (m:Mem) (j:Nat) (v:CV) (l:List Int):Prop:=∃x m1,esc iC v m=some (x,m1)∧(∀H,RdI H x l)∧m1.H=m.H∧∀i,i≠j→aK m1.L i=aK m.L i
theorem xM {H:List HO}{l:List Int}:RdI H (rowC aX l) l:=by
 cases l with
 |nil=>exact .inr (.inl ⟨rfl,rfl⟩)
 |cons a l=>exact .inl rfl
theorem OwnV.escI {m:Mem}{j:Nat}{v:CV}{l:List Int}(h:OwnV aX 1 m j v l):EscI m j v l:=by
 obtain⟨m1,h1,h2,h3,_⟩:=h.esc1 dB
 exact⟨_,m1,h1,λ_=>xM,h2,h3⟩
theorem EscI.imm {m:Mem}{j:Nat}:EscI m j (.imm 0 []) []:=⟨_,m,rfl,λ_=>.inl rfl,rfl,λ_ _=>rfl⟩
theorem SS:type_of% (And.intro @if_true.{1} (And.intro @if_false.{1} (And.intro @dg (And.intro @b9 (And.intro @aJ (And.intro @Option.map_some.{0,0} (And.intro @Nat.zero_add (And.intro @eN (And.intro @List.getElem?_cons_zero.{0} (And.intro @ez (And.intro @cw (And.intro @true_implies (And.intro @false_implies (And.intro @dU (And.intro @eX (And.intro @and_true (And.intro @Option.bind_some.{0,0} (And.intro @true_and (And.intro @gx (And.intro @Prod.mk.injEq.{0,0} (And.intro @qO (And.intro @qP (And.intro @not_true_eq_false (And.intro @List.getElem?_cons_succ.{0} (And.intro @List.take_zero.{0} (And.intro @List.length_nil.{0} (And.intro @List.length_cons.{0} (And.intro @List.nil_append.{0} (And.intro @List.drop_succ_cons.{0} (And.intro @Nat.le_refl (And.intro @List.drop_nil.{0} (And.intro @ic (And.intro @not_false_eq_true (And.intro @gf (And.intro @gT (And.intro @List.append_nil.{0} (And.intro @f9 (And.intro @List.drop_zero.{0} (And.intro @List.cons_append.{0} (And.intro @and_self (And.intro @qy (And.intro @List.take_succ_cons.{0} (And.intro @ba (And.intro @ik (And.intro @aq (And.intro @p6 (And.intro @qz (And.intro @fq (And.intro @jx (And.intro @lj (And.intro @nL (And.intro @lw (And.intro @gU (And.intro @kM (And.intro @gi (And.intro @CV.bool.injEq (And.intro @fc (And.intro @tk_n (And.intro @tk_c (And.intro @gV_e (@gW_e))))))))))))))))))))))))))))))))))))))))))))))))))))))))))))):=And.intro @if_true.{1} (And.intro @if_false.{1} (And.intro @dg (And.intro @b9 (And.intro @aJ (And.intro @Option.map_some.{0,0} (And.intro @Nat.zero_add (And.intro @eN (And.intro @List.getElem?_cons_zero.{0} (And.intro @ez (And.intro @cw (And.intro @true_implies (And.intro @false_implies (And.intro @dU (And.intro @eX (And.intro @and_true (And.intro @Option.bind_some.{0,0} (And.intro @true_and (And.intro @gx (And.intro @Prod.mk.injEq.{0,0} (And.intro @qO (And.intro @qP (And.intro @not_true_eq_false (And.intro @List.getElem?_cons_succ.{0} (And.intro @List.take_zero.{0} (And.intro @List.length_nil.{0} (And.intro @List.length_cons.{0} (And.intro @List.nil_append.{0} (And.intro @List.drop_succ_cons.{0} (And.intro @Nat.le_refl (And.intro @List.drop_nil.{0} (And.intro @ic (And.intro @not_false_eq_true (And.intro @gf (And.intro @gT (And.intro @List.append_nil.{0} (And.intro @f9 (And.intro @List.drop_zero.{0} (And.intro @List.cons_append.{0} (And.intro @and_self (And.intro @qy (And.intro @List.take_succ_cons.{0} (And.intro @ba (And.intro @ik (And.intro @aq (And.intro @p6 (And.intro @qz (And.intro @fq (And.intro @jx (And.intro @lj (And.intro @nL (And.intro @lw (And.intro @gU (And.intro @kM (And.intro @gi (And.intro @CV.bool.injEq (And.intro @fc (And.intro @tk_n (And.intro @tk_c (And.intro @gV_e (@gW_e))))))))))))))))))))))))))))))))))))))))))))))))))))))))))))
end Go.Cm
