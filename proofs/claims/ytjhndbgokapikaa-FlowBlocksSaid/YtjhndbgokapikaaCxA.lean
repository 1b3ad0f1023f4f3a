import Derived.Test.YtjhndbgokapikaaCwG
set_option linter.unusedSimpArgs false
set_option linter.unusedVariables false
namespace Go.Cm
def ac:List (Nat×CV)→Nat→CV
 |[],_=>.dead
 |(i,v)::r,t=>bif Nat.beq i t then v else ac r t
structure TS where
 sl:List (Nat×CV)
 m:Mem
def tev (sl:List (Nat×CV)):Operand→CV
 |.tmp t=>ac sl t
 |.const v=>ofC v
 |.func f=>.func (.func f) [] []
 |.global _=>.dead
def rn (sl:List (Nat×CV)) (d:Option Tmp) (v:CV):List (Nat×CV):=
 match d with
 |some d=>(d,v)::sl
 |none=>sl
def qi:Option (List Tmp)→List (Nat×CV)→List (Nat×CV)
 |none,sl=>sl
 |some ks,sl=>ks.map λt=>(t,ac sl t)
def aO:Nat→List CV→List (Nat×CV)
 |_,[]=>[]
 |i,v::r=>(i,v)::aO (i+1) r
def rl (g:Option (Tmp×Bool)) (sl:List (Nat×CV)) (X:Option (CV×Mem)) (m:Mem):Option (CV×Mem):=
 match g with
 |none=>X
 |some (t,w)=>gdO (ac sl t) w X (.tuple [],m)
def chk (b:Bool) (X:Option (CV×Mem)):Option (CV×Mem):=
 match b with
 |false=>X
 |true=>X.bind λx=>if n0 x.1=true then some x else none
mutual
def can:CV→CV
 |.nil=>.imm 0 []
 |.imm n cs=>.imm n (cans cs)
 |.agg cs=>.agg (cans cs)
 |.rptr cs=>.rptr (cans cs)
 |.iface t c=>.iface t (can c)
 |v=>v
def cans:List CV→List CV
 |[]=>[]
 |c::cs=>can c::cans cs
end
theorem xo:∀c:CV,bE (can c)=bE c:=λc=>by cases c<;>rfl
theorem gY:∀cs:List CV,(cans cs).all bE=cs.all bE
 |[]=>rfl
 |c::cs=>by simp only[cans,List.all_cons,xo,gY cs]
mutual
theorem V_can {K:KM}{M:MM}{P:PM}:∀(loc:Bool) (c:CV) (v:Value),V K M P loc c v→V K M P loc (can c) v
 |loc,.agg cs,v,h=>by
  simp only[V,can,gY] at h ⊢;obtain⟨h0,vs,hv,hs⟩:=h
  exact⟨h0,vs,hv,Vs_can loc cs _ hs⟩
 |loc,.nil,v,h=>by
  simp only[V,can] at h ⊢
  exact⟨rfl,none,0,h,Nat.le_refl _,.inl trivial⟩
 |loc,.imm n cs,v,h=>by
  simp only[V,can,gY] at h ⊢;obtain⟨h0,a,cap,hv,hn,hc⟩:=h
  refine⟨h0,a,cap,hv,hn,?_⟩
  rcases hc with rfl|⟨b,o,ha,hk⟩
  ·exact .inl rfl
  ·exact .inr ⟨b,o,ha,Vk_can cs b o hk⟩
 |loc,.rptr cs,v,h=>by
  simp only[V,can,gY] at h ⊢;obtain⟨h0,b,o,hv,hk⟩:=h
  exact⟨h0,b,o,hv,Vk_can cs b o hk⟩
 |loc,.iface t c,v,h=>by
  simp only[V,can] at h ⊢;obtain⟨u,hu,h1⟩:=h
  exact⟨u,hu,V_can loc c u h1⟩
 |_,.dead,_,h|_,.bool _,_,h|_,.int _ _,_,h|_,.str _,_,h|_,.own _ _ _ _,_,h|_,.ref _ _ _ _,_,h|_,.pnil,_,h|_,.ptr _ _ _,_,h|_,.mnil,_,h|_,.map _ _,_,h
 |_,.func _ _ _,_,h|_,.nilf,_,h|_,.inil,_,h|_,.tuple _,_,h=>h
theorem Vs_can {K:KM}{M:MM}{P:PM}:∀(loc:Bool) (cs:List CV) (vs:List Value),Vs K M P loc cs vs→Vs K M P loc (cans cs) vs
 |_,[],_,h=>h
 |loc,c::cs,vs,h=>by
  simp only[Vs,cans] at h ⊢;obtain⟨v,r,hv,h1,h2⟩:=h
  exact⟨v,r,hv,V_can loc c v h1,Vs_can loc cs r h2⟩
theorem Vk_can {K:KM}{M:MM}{P:PM}:∀(cs:List CV) (b o:Nat),Vk K M P b o cs→Vk K M P b o (cans cs)
 |[],_,_,h=>h
 |c::cs,b,o,h=>by
  simp only[Vk,cans] at h ⊢;obtain⟨⟨v,h0,h1⟩,h2⟩:=h
  exact⟨⟨v,h0,V_can false c v h1⟩,Vk_can cs b (o+1) h2⟩
end
mutual
theorem can_can:∀c:CV,can (can c)=can c
 |.imm n cs=>by simp only[can,cans_cans cs]
 |.agg cs=>by simp only[can,cans_cans cs]
 |.rptr cs=>by simp only[can,cans_cans cs]
 |.iface t c=>by simp only[can,can_can c]
 |.nil=>rfl
 |.dead|.bool _|.int _ _|.str _|.own _ _ _ _|.ref _ _ _ _|.pnil|.ptr _ _ _|.mnil|.map _ _|.func _ _ _|.nilf|.inil|.tuple _=>rfl
theorem cans_cans:∀cs:List CV,cans (cans cs)=cans cs
 |[]=>rfl
 |c::cs=>by simp only[cans,can_can c,cans_cans cs]
end
theorem Ll:∀cs:List CV,(cans cs).length=cs.length
 |[]=>rfl
 |c::cs=>by simp only[cans,List.length_cons,Ll cs]
theorem SimAt.can {P:Program}{f:FuncId}{args:List CV}{H:List HO}{r:CV}{H':List HO}(h:SimAt P f (cans args) H r H'):SimAt P f args H r H':=
 ⟨h.1,λK Q w vs hR hV=>h.2 K Q w vs hR (Vs_can _ _ _ hV)⟩
def cin (b:Bool) (args:List CV):List CV:=if b then cans args else args
theorem nk {b:Bool}{args:List CV}:(cin b args).length=args.length:=by cases b<;>simp[cin,Ll]
theorem cin_cin {b:Bool}{args:List CV}:cin b (cin b args)=cin b args:=by cases b<;>simp[cin,cans_cans]
theorem SimAt.cin {P:Program}{f:FuncId}{args:List CV}{H:List HO}{r:CV}{H':List HO}{b:Bool}(h:SimAt P f (cin b args) H r H'):SimAt P f args H r H':=by
 cases b
 ·exact h
 ·exact h.can
section
variable (P:Program) (A:Ann) (F:aW) (fid:FuncId)
noncomputable def top (dr:Bool) (o:SO) (s:TS):Option (CV×Mem):=
 rl o.g s.sl (chk (dr&&dm A o.op) (fw o.off o.op (tev s.sl) s.m (cval P A F fid (tev s.sl) o.up s.m))) s.m
noncomputable def K9 (dr:Bool):List SO→TS→Option TS
 |[],s=>some s
 |o::r,s=>(top P A F fid dr o s).bind λx=>K9 dr r ⟨rn s.sl o.d x.1,x.2⟩
noncomputable def texec (n:Nat):SC→TS→Option (CE×TS)
 |.nop,s=>some (.normal,s)
 |.reg dr keep ops,s=>(K9 P A F fid dr ops s).map λs'=>(.normal,⟨qi keep s'.sl,s'.m⟩)
 |.seq a b,s=>(texec n a s).bind λr=>match r.1 with
  |.normal=>texec n b r.2
  |e=>some (e,r.2)
 |.cond c x y,s=>match tev s.sl c with
  |.bool true=>texec n x s
  |.bool false=>texec n y s
  |_=>none
 |.block id c,s=>(texec n c s).map λr=>match r.1 with
  |.exit i=>if i=id then (.normal,r.2) else r
  |_=>r
 |.loop c,s=>titer n (texec n c) s
 |.exit id,s=>some (.exit id,s)
 |.ret,s=>some (.ret,s)
where titer:Nat→(TS→Option (CE×TS))→TS→Option (CE×TS)
 |0,_,_=>none
 |n+1,f,s=>(f s).bind λr=>match r.1 with
  |.normal=>titer n f r.2
  |e=>some (e,r.2)
end
def aD (P:Program) (m:Mem) (sl:List (Nat×CV)):ResultVar→Option CV
 |.tmp t=>some (ac sl t)
 |.cell a t=>eW P m t (ac sl a)
def ak (P:Program) (sl:List (Nat×CV)) (m:Mem):List ResultVar→Option (List CV)
 |[]=>some []
 |r::rs=>(aD P m sl r).bind λv=>(ak P sl m rs).map λvs=>v::vs
def aQ (P:Program) (rs:List ResultVar) (s:TS):Option (CV×List HO):=
 (ak P s.sl s.m rs).bind λvs=>(am gD vs s.m).map λx=>(tup x.1,x.2.H)
noncomputable def dW (P:Program) (A:Ann) (E:aW):Nat→aW
 |0,_,_,_=>none
 |n+1,f,args,H=>
  match E f (cin (A.pure f) args) H with
  |some r=>some r
  |none=>
   match P.funcs[f]? with
   |none=>none
   |some fn=>
    match fn.body.bind (bh P A f fn.ntmps) with
    |none=>none
    |some c=>
     if args.length≤fn.ntmps then
      (texec P A (dW P A E n) f n c { sl:=aO 0 (cin (A.pure f) args),m:={ L:=[],H:=H } }).bind λr=>
       match r.1 with
       |.exit _=>none
       |_=>aQ P fn.results.toList r.2
     else none
def Rl (L:List CV) (T:List (Nat×CV)):Prop:=∀t,bH L t=ac T t
section
variable {P:Program}{A:Ann}{F F':aW}{fid:FuncId}{dr:Bool}
theorem b9 {i t:Nat}{v:CV}{r:List (Nat×CV)}:ac ((i,v)::r) t=if i=t then v else ac r t:=by
 simp only[ac,cond_eq_ite,Nat.beq_eq]
theorem Rl.ev {L:List CV}{T:List (Nat×CV)}(h:Rl L T):ev L=tev T:=by
 funext x
 cases x with
 |tmp t=>exact h t
 |_=>rfl
theorem Rl.put {L:List CV}{T:List (Nat×CV)}(h:Rl L T) (d:Option Tmp) (v:CV):Rl (eu L d v) (rn T d v):=by
 cases d with
 |none=>exact h
 |some d=>
  intro t;simp only[eu,rn,dH,b9];split
  ·rfl
  ·exact h t
theorem Rl.keep {L:List CV}{T:List (Nat×CV)}(h:Rl L T) (ks:Option (List Tmp)):Rl (dC ks L) (qi ks T):=by
 cases ks with
 |none=>exact h
 |some ks=>
  intro t;simp only[dC,qi];have k1:∀(ks:List Tmp) (acc:List CV),bH (ks.foldl (λacc t=>li acc t (bH L t)) acc) t=if t∈ks then bH L t else bH acc t:=by
   intro ks
   induction ks with
   |nil=>intro acc;simp
   |cons k ks ih=>
    intro acc;simp only[List.foldl_cons,ih,dH,List.mem_cons]
    by_cases h1:t∈ks
    ·simp[h1]
    ·by_cases h2:k=t
     ·simp[h2]
     ·have:¬t=k:=λe=>h2 e.symm
      simp[h1,h2,this]
  have k2:∀(ks:List Tmp),ac (ks.map λt=>(t,ac T t)) t=if t∈ks then ac T t else .dead:=by
   intro ks
   induction ks with
   |nil=>simp[ac]
   |cons k ks ih=>
    simp only[List.map_cons,b9,ih,List.mem_cons]
    by_cases h2:k=t
    ·simp[h2]
    ·have:¬t=k:=λe=>h2 e.symm
     simp[h2,this]
  rw[k1,k2,h t];have:bH [] t=.dead:=sI t;rw[this]
theorem Rl.init:∀(args:List CV) (i:Nat) (L0:List CV),L0.length=i→(∀t,t<i→True)→∀t,i≤t→bH (L0++args) t=ac (aO i args) t
 |[],i,L0,h,_,t,ht=>by
  simp only[aO,ac,List.append_nil];subst h;have key:∀(L0:List CV) (t:Nat),L0.length≤t→bH L0 t=.dead:=by
   intro L0
   induction L0 with
   |nil=>intro t _;exact sI t
   |cons x l ih=>
    intro t ht
    cases t with
    |zero=>simp at ht
    |succ t=>exact ih t (by simpa using ht)
  exact key L0 t ht
 |v::r,i,L0,h,_,t,ht=>by
  simp only[aO,b9];split
  ·rename_i he
   subst he;subst h;have key:∀(L0:List CV),bH (L0++v::r) L0.length=v:=by
    intro L0
    induction L0 with
    |nil=>rfl
    |cons x l ih=>exact ih
   exact key L0
  ·have:=Rl.init r (i+1) (L0++[v]) (by simp[h]) (λ_ _=>trivial) t (by omega)
   simpa using this
theorem nK {α:Type}{c:CV}{w:Bool}{X:Option α}{e y:α}(h:gdO c w X e=some y):(c=.bool w∧X=some y)∨((c=.bool (!w)∨c=.tuple [])∧y=e):=by
 unfold gdO at h
 split at h
 ·rename_i b
  split at h
  ·rename_i hb;subst hb;exact .inl ⟨rfl,h⟩
  ·rename_i hb
   simp only[Option.some.injEq] at h;refine .inr ⟨.inl ?_,h.symm⟩
   cases b<;>cases w<;>simp_all
 ·simp only[Option.some.injEq] at h
  exact .inr ⟨.inr rfl,h.symm⟩
 ·cases h
theorem top_sop {o:SO}{L:List CV}{T:List (Nat×CV)}{m:Mem}{x:CV×Mem}(hR:Rl L T) (h:top P A F fid dr o ⟨T,m⟩=some x) :
  sop P A F fid dr o ⟨L,m⟩=some ⟨eu L o.d x.1,x.2⟩:=by
 have run:∀x,chk (dr&&dm A o.op) (fw o.off o.op (tev T) m (cval P A F fid (tev T) o.up m))=some x →
   ((fw o.off o.op (tev T) m (cval P A F fid (tev T) o.up m)).bind λx=>if (dr&&dm A o.op && !(n0 x.1))=true then none else some (⟨eu L o.d x.1,x.2⟩:CS))=some ⟨eu L o.d x.1,x.2⟩:=by
  intro x h
  cases hb:(dr&&dm A o.op) with
  |false=>
   rw[hb] at h;simp only[chk] at h;rw[h];simp
  |true=>
   rw[hb] at h;simp only[chk,Option.bind_eq_some_iff] at h;obtain⟨y,h1,h2⟩:=h
   split at h2
   ·rename_i hn
    simp only[Option.some.injEq] at h2;subst h2;rw[h1];simp[hn]
   ·cases h2
 unfold top rl at h;unfold sop;simp only at h ⊢;rw[hR.ev]
 split at h
 ·rename_i hg
  simp only[hg,iX];exact run x h
 ·rename_i t w hg
  simp only[hg,iX];rw[hR t];rcases nK h with⟨h1,h2⟩|⟨h1|h1,rfl⟩
  ·rw[h1];simp only[beq_self_eq_true];exact run x h2
  ·rw[h1]
   have:((!w)==w)=false:=by cases w<;>rfl
   simp only[this]
  ·rw[h1]
theorem qk:∀(l:List SO) {L:List CV}{T:List (Nat×CV)}{m:Mem}{s':TS},Rl L T→K9 P A F fid dr l ⟨T,m⟩=some s' →
  ∃L',nf P A F fid dr l ⟨L,m⟩=some ⟨L',s'.m⟩∧Rl L' s'.sl
 |[],L,T,m,s',hR,h=>by
  simp only[K9,Option.some.injEq] at h;subst h
  exact⟨L,rfl,hR⟩
 |o::r,L,T,m,s',hR,h=>by
  simp only[K9,Option.bind_eq_some_iff] at h;obtain⟨x,h1,h2⟩:=h;obtain⟨L',h3,h4⟩:=qk r (hR.put o.d x.1) h2
  exact⟨L',by simp only[nf,top_sop hR h1,Option.bind_some];exact h3,h4⟩
theorem uO {f:TS→Option (CE×TS)}{g:CS→Option (CE×CS)}(hfg:∀L T m e s',Rl L T→f ⟨T,m⟩=some (e,s')→∃L',g ⟨L,m⟩=some (e,⟨L',s'.m⟩)∧Rl L' s'.sl) :
  ∀(n:Nat) (L:List CV) (T:List (Nat×CV)) (m:Mem) (e:CE) (s':TS),Rl L T→texec.titer n f ⟨T,m⟩=some (e,s')→∃L',ly n g ⟨L,m⟩=some (e,⟨L',s'.m⟩)∧Rl L' s'.sl:=by
 intro n
 induction n with
 |zero=>intro L T m e s' _ h;simp[texec.titer] at h
 |succ n ih=>
  intro L T m e s' hR h;simp only[texec.titer,Option.bind_eq_some_iff] at h;obtain⟨⟨e1,s1⟩,h1,h2⟩:=h;obtain⟨L1,h3,h4⟩:=hfg _ _ _ _ _ hR h1;cases e1
  case normal=>
   obtain⟨L2,h5,h6⟩:=ih L1 s1.sl s1.m e s' h4 h2
   exact⟨L2,by simp only[ly,h3,Option.bind_some];exact h5,h6⟩
  all_goals
   simp only[Option.some.injEq,Prod.mk.injEq] at h2;obtain⟨rfl,rfl⟩:=h2
   exact⟨L1,by simp only[ly,h3,Option.bind_some],h4⟩
theorem tf (n:Nat):∀(c:SC) (L:List CV) (T:List (Nat×CV)) (m:Mem) (e:CE) (s':TS),Rl L T→texec P A F fid n c ⟨T,m⟩=some (e,s')→∃L',cA P A F fid n c ⟨L,m⟩=some (e,⟨L',s'.m⟩)∧Rl L' s'.sl:=by
 intro c
 induction c with
 |nop=>
  intro L T m e s' hR h;simp only[texec,Option.some.injEq,Prod.mk.injEq] at h;obtain⟨rfl,rfl⟩:=h
  exact⟨L,rfl,hR⟩
 |reg dr keep ops=>
  intro L T m e s' hR h;simp only[texec,Option.map_eq_some_iff,Prod.mk.injEq] at h;obtain⟨s1,h1,rfl,rfl⟩:=h;obtain⟨L',h2,h3⟩:=qk ops hR h1
  exact⟨dC keep L',by simp only[cA,h2,Option.map_some],h3.keep keep⟩
 |seq a b iha ihb=>
  intro L T m e s' hR h;simp only[texec,Option.bind_eq_some_iff] at h;obtain⟨⟨e1,s1⟩,h1,h2⟩:=h;obtain⟨L1,h3,h4⟩:=iha _ _ _ _ _ hR h1;cases e1
  case normal=>
   obtain⟨L2,h5,h6⟩:=ihb _ _ _ _ _ h4 h2
   exact⟨L2,by simp only[cA,h3,Option.bind_some];exact h5,h6⟩
  all_goals
   simp only[Option.some.injEq,Prod.mk.injEq] at h2;obtain⟨rfl,rfl⟩:=h2
   exact⟨L1,by simp only[cA,h3,Option.bind_some],h4⟩
 |cond c x y ihx ihy=>
  intro L T m e s' hR h;simp only[texec] at h;simp only[cA,hR.ev]
  split at h
  ·rename_i hc;rw[hc];exact ihx _ _ _ _ _ hR h
  ·rename_i hc;rw[hc];exact ihy _ _ _ _ _ hR h
  ·cases h
 |block id c ih=>
  intro L T m e s' hR h;simp only[texec,Option.map_eq_some_iff] at h;obtain⟨⟨e1,s1⟩,h1,h2⟩:=h;obtain⟨L1,h3,h4⟩:=ih _ _ _ _ _ hR h1;simp only[cA,h3,Option.map_some];cases e1
  case exit i=>
   simp only at h2 ⊢
   split at h2<;>rename_i hi<;>simp only[Prod.mk.injEq] at h2<;>obtain⟨rfl,rfl⟩:=h2
   ·exact⟨L1,by simp[hi],h4⟩
   ·exact⟨L1,by simp[hi],h4⟩
  all_goals
   simp only[Prod.mk.injEq] at h2;obtain⟨rfl,rfl⟩:=h2
   exact⟨L1,rfl,h4⟩
 |loop c ih=>
  intro L T m e s' hR h;simp only[texec] at h;simp only[cA];exact uO (λL T m e s' hR h=>ih L T m e s' hR h) n L T m e s' hR h
 |exit id=>
  intro L T m e s' hR h;simp only[texec,Option.some.injEq,Prod.mk.injEq] at h;obtain⟨rfl,rfl⟩:=h
  exact⟨L,rfl,hR⟩
 |ret=>
  intro L T m e s' hR h;simp only[texec,Option.some.injEq,Prod.mk.injEq] at h;obtain⟨rfl,rfl⟩:=h
  exact⟨L,rfl,hR⟩
theorem jh {L:List CV}{T:List (Nat×CV)}(hR:Rl L T) (m:Mem):∀rs,ak P T m rs=ii P L m rs
 |[]=>rfl
 |r::rs=>by
  have h1:aD P m T r=Ei P m L r:=by cases r<;>simp only[aD,Ei,hR _]
  simp only[ak,ii,h1,jh hR m rs]
theorem qh {E:aW}(hE:Sim P E) (hN:cm P=true) (hM:P.follows .mixedOrders=true):∀n,Sim P (dW P A E n)
 |0=>λ_ _ _ _ _ h=>by cases h
 |n+1=>by
  intro f args H r H' h;simp only[dW] at h;refine SimAt.cin (b:=A.pure f) ?_;rw[←nk (b:=A.pure f)] at h;generalize cin (A.pure f) args=args at h ⊢
  split at h
  ·rename_i r0 hr
   simp only[Option.some.injEq] at h;subst h;exact hE _ _ _ _ _ hr
  ·split at h
   ·cases h
   ·rename_i fn hf
    split at h
    ·cases h
    ·rename_i c hc
     split at h
     ·rename_i hlen
      simp only[Option.bind_eq_some_iff] at h;obtain⟨⟨e,s1⟩,h1,h2⟩:=h;have hR:Rl args (aO 0 args):=λt=>by
       have:=Rl.init args 0 [] rfl (λ_ _=>trivial) t (Nat.zero_le _);simpa using this
      obtain⟨L',h3,h4⟩:=tf n c _ _ _ _ _ hR h1;have hne:∀i,e≠.exit i:=by
       intro i he;subst he;simp at h2
      have h5:aQ P fn.results.toList s1=some (r,H'):=by cases e<;>first|exact h2|exact absurd rfl (hne _)
      simp only[aQ,Option.bind_eq_some_iff,Option.map_eq_some_iff,Prod.mk.injEq] at h5;obtain⟨vs,h6,⟨xs,m'⟩,h7,h8,h9⟩:=h5;rw[jh h4] at h6;exact Sx.sim (qh hE hN hM n) hN hM hf hc hlen ⟨n,h3⟩ hne h6 h7 h8.symm h9.symm
     ·cases h
end
end Go.Cm
namespace Go.Cm
def Obeys (F F':aW):Prop:=∀f a H r,F f a H=some r→F' f a H=some r
section
variable {P:Program}{A:Ann}{F F':aW}{fid:FuncId}{dr:Bool}
theorem px {d:Option Tmp}{f:FuncId}{args:List CV}{m:Mem}{y:CV×Mem}(h:cd A F fid d f args m=some y) :
  ∃a H r,F f a H=some r∧∀F':aW,F' f a H=some r→cd A F' fid d f args m=some y:=by
 unfold cd at h;simp only[Option.bind_eq_some_iff] at h;obtain⟨x,h1,h2⟩:=h
 split at h2
 ·rename_i hp
  split at h2
  ·rename_i hn
   simp only[Option.bind_eq_some_iff] at h2;obtain⟨r,h3,h4⟩:=h2
   exact⟨_,_,r,h3,λF' h'=>by simp only[cd,h1,Option.bind_some,hp,if_true,hn,h'];exact h4⟩
  ·cases h2
 ·rename_i hp
  simp only[Option.bind_eq_some_iff] at h2;obtain⟨r,h3,h4⟩:=h2
  exact⟨_,_,r,h3,λF' h'=>by simp only[cd,h1,Option.bind_some,hp,h'];exact h4⟩
theorem rY {d:Option Tmp}{f:CV}{args:List CV}{m:Mem}{y:CV×Mem}(h:dx A F fid d f args m=some y) :
  ∃g a H r,F g a H=some r∧∀F':aW,F' g a H=some r→dx A F' fid d f args m=some y:=by
 unfold dx at h
 split at h
 ·obtain⟨a,H,r,h1,h2⟩:=px h
  exact⟨_,a,H,r,h1,λF' h'=>by simp only[dx];exact h2 F' h'⟩
 ·cases h
theorem DS {ρ:Operand→CV}{o:Oper}{m:Mem}{y:CV×Mem}(h:cval P A F fid ρ o m=some y) :
  (∀F',cval P A F' fid ρ o m=some y)∨∃g a H r,F g a H=some r∧∀F':aW,F' g a H=some r→cval P A F' fid ρ o m=some y:=by
 obtain⟨dst,op,ty,pos,af,guard⟩:=o;cases op
 case call c=>
  obtain⟨callee,args,ats⟩:=c
  cases callee with
  |value f=>exact .inr (rY h)
  |invoke recv name=>
   right;simp only[cval] at h ⊢
   split at h
   ·rename_i t x hx
    simp only[Option.bind_eq_some_iff] at h;obtain⟨z,h1,h2⟩:=h;obtain⟨a,H,r,h3,h4⟩:=px h2
    exact⟨_,a,H,r,h3,λF' h'=>by simp only[h1,Option.bind_some];exact h4 F' h'⟩
   ·cases h
  |builtin b=>exact .inl λF'=>by cases b<;>exact h
 case makeMap t x=>exact .inl λF'=>by cases x<;>exact h
 all_goals exact .inl λF'=>h
theorem rm {o:SO}{s:TS}{y:CV×Mem}(h:top P A F fid dr o s=some y) :
  (∀F',top P A F' fid dr o s=some y)∨∃g a H r,F g a H=some r∧∀F':aW,F' g a H=some r→top P A F' fid dr o s=some y:=by
 have hone:∀y,fw o.off o.op (tev s.sl) s.m (cval P A F fid (tev s.sl) o.up s.m)=some y →
   (∀F',fw o.off o.op (tev s.sl) s.m (cval P A F' fid (tev s.sl) o.up s.m)=some y)∨∃g a H r,F g a H=some r∧∀F':aW,F' g a H=some r→fw o.off o.op (tev s.sl) s.m (cval P A F' fid (tev s.sl) o.up s.m)=some y:=by
  intro y h;have h0:=lB h;rcases DS h0 with h3|⟨g,a,H,r,h3,h4⟩
  ·exact .inl λF'=>by rw[h3 F'];rw[h0] at h;exact h
  ·exact .inr ⟨g,a,H,r,h3,λF' h'=>by rw[h4 F' h'];rw[h0] at h;exact h⟩
 have hchk:∀y,chk (dr&&dm A o.op) (fw o.off o.op (tev s.sl) s.m (cval P A F fid (tev s.sl) o.up s.m))=some y →
   (∀F',chk (dr&&dm A o.op) (fw o.off o.op (tev s.sl) s.m (cval P A F' fid (tev s.sl) o.up s.m))=some y)∨∃g a H r,F g a H=some r∧∀F':aW,F' g a H=some r→chk (dr&&dm A o.op) (fw o.off o.op (tev s.sl) s.m (cval P A F' fid (tev s.sl) o.up s.m))=some y:=by
  intro y h
  cases hb:(dr&&dm A o.op) with
  |false=>rw[hb] at h;exact hone _ h
  |true=>
   rw[hb] at h;simp only[chk,Option.bind_eq_some_iff] at h ⊢;obtain⟨x,h1,h2⟩:=h;rcases hone _ h1 with h3|⟨g,a,H,r,h3,h4⟩
   ·exact .inl λF'=>⟨x,h3 F',h2⟩
   ·exact .inr ⟨g,a,H,r,h3,λF' h'=>⟨x,h4 F' h',h2⟩⟩
 unfold top rl at h ⊢
 split at h
 ·exact hchk y h
 ·rename_i t w hg
  rcases nK h with⟨h1,h2⟩|⟨h1,rfl⟩
  ·simp only[h1]
   have e:∀X:Option (CV×Mem),gdO (.bool w) w X (CV.tuple [],s.m)=X:=λX=>by cases w<;>rfl
   simp only[e];exact hchk y h2
  ·left;intro F'
   rcases h1 with h1|h1
   ·rw[h1];cases w<;>rfl
   ·rw[h1];rfl
theorem lU (hF:Obeys F F'):∀(l:List SO) (s s':TS),K9 P A F fid dr l s=some s'→K9 P A F' fid dr l s=some s'
 |[],_,_,h=>h
 |o::r,s,s',h=>by
  simp only[K9,Option.bind_eq_some_iff] at h ⊢;obtain⟨x,h1,h2⟩:=h
  refine⟨x,?_,lU hF r _ _ h2⟩
  rcases rm h1 with h3|⟨g,a,H,rr,h3,h4⟩
  ·exact h3 F'
  ·exact h4 F' (hF _ _ _ _ h3)
theorem il {f f':TS→Option (CE×TS)}(hf:∀s r,f s=some r→f' s=some r):∀(n n':Nat) (s:TS) (r:CE×TS),n≤n'→texec.titer n f s=some r→texec.titer n' f' s=some r
 |0,_,_,_,_,h=>by simp[texec.titer] at h
 |n+1,0,_,_,hle,_=>by omega
 |n+1,n'+1,s,r,hle,h=>by
  simp only[texec.titer,Option.bind_eq_some_iff] at h ⊢;obtain⟨r1,h1,h2⟩:=h
  refine⟨r1,hf _ _ h1,?_⟩
  obtain⟨e,s1⟩:=r1;cases e
  case normal=>exact il hf n n' _ _ (by omega) h2
  all_goals exact h2
theorem cZ (hF:Obeys F F'):∀(c:SC) (n n':Nat) (s:TS) (r:CE×TS),n≤n'→texec P A F fid n c s=some r→texec P A F' fid n' c s=some r:=by
 intro c
 induction c with
 |reg dr keep ops=>
  intro n n' s r hle h;simp only[texec,Option.map_eq_some_iff] at h ⊢;obtain⟨s1,h1,h2⟩:=h
  exact⟨s1,lU hF _ _ _ h1,h2⟩
 |seq x y ihx ihy=>
  intro n n' s r hle h;simp only[texec,Option.bind_eq_some_iff] at h ⊢;obtain⟨⟨e,s1⟩,h1,h2⟩:=h
  refine⟨_,ihx _ _ _ _ hle h1,?_⟩
  cases e
  case normal=>exact ihy _ _ _ _ hle h2
  all_goals exact h2
 |cond c x y ihx ihy=>
  intro n n' s r hle h;simp only[texec] at h ⊢
  split at h
  ·exact ihx _ _ _ _ hle h
  ·exact ihy _ _ _ _ hle h
  ·cases h
 |block id c ih=>
  intro n n' s r hle h;simp only[texec,Option.map_eq_some_iff] at h ⊢;obtain⟨r1,h1,h2⟩:=h
  exact⟨r1,ih _ _ _ _ hle h1,h2⟩
 |loop c ih=>
  intro n n' s r hle h;simp only[texec] at h ⊢;exact il (λs r h=>ih _ _ _ _ hle h) _ _ _ _ hle h
 |_=>intro n n' s r hle h;simpa only[texec] using h
variable {E:aW}
theorem dt:∀n n',n≤n'→Obeys (dW P A E n) (dW P A E n')
 |0,_,_=>λ_ _ _ _ h=>by cases h
 |n+1,0,hle=>by omega
 |n+1,n'+1,hle=>by
  intro f a H r h;simp only[dW] at h ⊢
  split at h
  ·exact h
  ·split at h
   ·cases h
   ·rename_i fn hf
    split at h
    ·cases h
    ·rename_i c hc
     split at h
     ·rename_i hlen
      simp only[hlen,if_true];simp only[Option.bind_eq_some_iff] at h ⊢;obtain⟨r1,h1,h2⟩:=h
      exact⟨r1,cZ (dt n n' (by omega)) _ _ _ _ _ (by omega) h1,h2⟩
     ·cases h
open Classical in
noncomputable def Fw (P:Program) (A:Ann) (E:aW):aW:=λf a H=>if h:∃r n,dW P A E n f a H=some r then some h.choose else none
theorem xK {f:FuncId}{a:List CV}{H:List HO}{r:CV×List HO}:Fw P A E f a H=some r↔∃n,dW P A E n f a H=some r:=by
 unfold Fw;constructor
 ·intro h
  split at h
  ·rename_i hx
   simp only[Option.some.injEq] at h;rw[←h];exact hx.choose_spec
  ·cases h
 ·rintro⟨n,hn⟩
  have hx:∃r n,dW P A E n f a H=some r:=⟨r,n,hn⟩;rw[dif_pos hx];obtain⟨n',hn'⟩:=hx.choose_spec;have h1:=dt n (max n n') (Nat.le_max_left _ _) _ _ _ _ hn;have h2:=dt n' (max n n') (Nat.le_max_right _ _) _ _ _ _ hn';rw[h1] at h2;exact h2.symm
theorem tj {f:FuncId}{a:List CV}{H:List HO}:Fw P A E f a H=Fw P A E f (cin (A.pure f) a) H:=by
 have key:∀n,dW P A E n f a H=dW P A E n f (cin (A.pure f) a) H:=λn=>by
  cases n with
  |zero=>rfl
  |succ n=>simp only[dW,cin_cin,nk]
 exact Option.ext λr=>by rw[xK,xK];exact exists_congr λn=>by rw[key]
theorem Fw_sim (hE:Sim P E) (hN:cm P=true) (hM:P.follows .mixedOrders=true):Sim P (Fw P A E):=by
 intro f a H r H' h;obtain⟨n,hn⟩:=xK.1 h;exact qh hE hN hM n f a H r H' hn
theorem qj:∀(l:List SO) (s s':TS),K9 P A (Fw P A E) fid dr l s=some s'→∃n,K9 P A (dW P A E n) fid dr l s=some s'
 |[],_,_,h=>⟨0,h⟩
 |o::r,s,s',h=>by
  simp only[K9,Option.bind_eq_some_iff] at h;obtain⟨x,h1,h2⟩:=h;obtain⟨n1,h3⟩:=qj r _ _ h2;have:∃n2,top P A (dW P A E n2) fid dr o s=some x:=by
   rcases rm h1 with h4|⟨g,a,H,rr,h4,h5⟩
   ·exact⟨0,h4 _⟩
   ·obtain⟨n,hn⟩:=xK.1 h4
    exact⟨n,h5 _ hn⟩
  obtain⟨n2,h4⟩:=this
  refine⟨max n1 n2,?_⟩
  simp only[K9,Option.bind_eq_some_iff]
  refine⟨x,?_,lU (dt _ _ (Nat.le_max_left _ _)) _ _ _ h3⟩
  rcases rm h4 with h5|⟨g,a,H,rr,h5,h6⟩
  ·exact h5 _
  ·exact h6 _ (dt _ _ (Nat.le_max_right _ _) _ _ _ _ h5)
theorem uN:∀(c:SC) (n:Nat) (s:TS) (r:CE×TS),texec P A (Fw P A E) fid n c s=some r→∃n',texec P A (dW P A E n') fid n' c s=some r:=by
 intro c
 induction c with
 |reg dr keep ops=>
  intro n s r h;simp only[texec,Option.map_eq_some_iff] at h ⊢;obtain⟨s1,h1,h2⟩:=h;obtain⟨n',h3⟩:=qj _ _ _ h1
  exact⟨n',s1,h3,h2⟩
 |seq x y ihx ihy=>
  intro n s r h;simp only[texec,Option.bind_eq_some_iff] at h;obtain⟨⟨e,s1⟩,h1,h2⟩:=h;obtain⟨n1,h3⟩:=ihx _ _ _ h1;cases e
  case normal=>
   obtain⟨n2,h4⟩:=ihy _ _ _ h2
   refine⟨max n1 n2,?_⟩
   simp only[texec,Option.bind_eq_some_iff]
   exact⟨_,cZ (dt _ _ (Nat.le_max_left _ _)) _ _ _ _ _ (Nat.le_max_left _ _) h3,cZ (dt _ _ (Nat.le_max_right _ _)) _ _ _ _ _ (Nat.le_max_right _ _) h4⟩
  all_goals
   refine⟨n1,?_⟩
   simp only[texec,Option.bind_eq_some_iff]
   exact⟨_,h3,h2⟩
 |cond c x y ihx ihy=>
  intro n s r h;simp only[texec] at h ⊢
  split at h
  ·exact ihx _ _ _ h
  ·exact ihy _ _ _ h
  ·cases h
 |block id c ih=>
  intro n s r h;simp only[texec,Option.map_eq_some_iff] at h ⊢;obtain⟨r1,h1,h2⟩:=h;obtain⟨n',h3⟩:=ih _ _ _ h1
  exact⟨n',r1,h3,h2⟩
 |loop c ih=>
  intro n s r h;simp only[texec] at h;have key:∀(k:Nat) (s:TS) (r:CE×TS),texec.titer k (texec P A (Fw P A E) fid n c) s=some r→∃n',texec.titer n' (texec P A (dW P A E n') fid n' c) s=some r:=by
   intro k
   induction k with
   |zero=>intro s r h;simp[texec.titer] at h
   |succ k ihk=>
    intro s r h;simp only[texec.titer,Option.bind_eq_some_iff] at h;obtain⟨⟨e,s1⟩,h1,h2⟩:=h;obtain⟨n1,h3⟩:=ih _ _ _ h1;cases e
    case normal=>
     obtain⟨n2,h4⟩:=ihk _ _ h2
     refine⟨max n1 n2+1,?_⟩
     simp only[texec.titer,Option.bind_eq_some_iff]
     exact⟨_,cZ (dt n1 _ (by omega)) _ _ _ _ _ (by omega) h3,il (λs r h=>cZ (dt n2 _ (by omega)) _ _ _ _ _ (by omega) h) _ _ _ _ (by omega) h4⟩
    all_goals
     refine⟨n1+1,?_⟩
     simp only[texec.titer,Option.bind_eq_some_iff]
     exact⟨_,cZ (dt n1 _ (by omega)) _ _ _ _ _ (by omega) h3,h2⟩
  obtain⟨n',h'⟩:=key n s r h
  exact⟨n',by simpa only[texec] using h'⟩
 |_=>intro n s r h;exact⟨n,by simpa only[texec] using h⟩
end
def Tx (P:Program) (A:Ann) (F:aW) (fid:FuncId) (c:SC) (s:TS) (Q:CE→TS→Prop):Prop:=∃r n,texec P A F fid n c s=some r∧Q r.1 r.2
def xO (P:Program) (A:Ann) (F:aW) (fid:FuncId) (dr:Bool):List SO→TS→(TS→Prop)→Prop
 |[],s,K=>K s
 |o::r,s,K=>Obt (top P A F fid dr o s) λx=>xO P A F fid dr r ⟨rn s.sl o.d x.1,x.2⟩ K
def FV (b:TS→Prop) (Q:CE→TS→Prop):CE→TS→Prop
 |.normal,s=>b s
 |e,s=>Q e s
def jA (id:Nat) (Q:CE→TS→Prop):CE→TS→Prop
 |.exit i,s=>if i=id then Q .normal s else Q (.exit i) s
 |e,s=>Q e s
section
variable {P:Program}{A:Ann}{F:aW}{fid:FuncId}{s:TS}{Q:CE→TS→Prop}
theorem pf {dr:Bool}:∀{l:List SO}{s:TS}{K:TS→Prop},xO P A F fid dr l s K→∃s',K9 P A F fid dr l s=some s'∧K s'
 |[],s,K,h=>⟨s,rfl,h⟩
 |o::r,s,K,h=>by
  obtain⟨x,h1,h2⟩:=h;obtain⟨s2,h3,h4⟩:=pf h2
  exact⟨s2,by simp only[K9,h1,Option.bind_some,h3],h4⟩
theorem Obeys.refl (F:aW):Obeys F F:=λ_ _ _ _ h=>h
theorem bx (h:Q .normal s):Tx P A F fid .nop s Q:=⟨_,0,rfl,h⟩
theorem Js {id:Nat}(h:Q (.exit id) s):Tx P A F fid (.exit id) s Q:=⟨_,0,rfl,h⟩
theorem aF (h:Q .ret s):Tx P A F fid .ret s Q:=⟨_,0,rfl,h⟩
theorem Tx_reg {dr:Bool}{keep:Option (List Tmp)}{ops:List SO}(h:xO P A F fid dr ops s λs'=>Q .normal ⟨qi keep s'.sl,s'.m⟩):Tx P A F fid (.reg dr keep ops) s Q:=by
 obtain⟨s',h1,h2⟩:=pf h
 exact⟨(.normal,{ sl:=qi keep s'.sl,m:=s'.m }),0,by simp only[texec,h1,Option.map_some],h2⟩
theorem mV {x y:SC}(h:Tx P A F fid x s (FV (λs'=>Tx P A F fid y s' Q) Q)):Tx P A F fid (.seq x y) s Q:=by
 obtain⟨⟨e,s1⟩,n,h1,h2⟩:=h;cases e
 case normal=>
  obtain⟨r,n2,h3,h4⟩:=h2
  refine⟨r,max n n2,?_,h4⟩
  simp only[texec,Option.bind_eq_some_iff]
  exact⟨_,cZ (Obeys.refl F) _ _ _ _ _ (Nat.le_max_left _ _) h1,cZ (Obeys.refl F) _ _ _ _ _ (Nat.le_max_right _ _) h3⟩
 all_goals exact⟨_,n,by simp only[texec,h1,Option.bind_some],h2⟩
theorem uT {c:SC}{Q':CE→TS→Prop}(h:Tx P A F fid c s Q') (hq:∀e s,Q' e s→Q e s):Tx P A F fid c s Q:=by
 obtain⟨r,n,h1,h2⟩:=h
 exact⟨r,n,h1,hq _ _ h2⟩
theorem uS {c:Operand}{x y:SC}{b:Bool}(hc:tev s.sl c=.bool b) (h1:b=true→Tx P A F fid x s Q) (h2:b=false→Tx P A F fid y s Q):Tx P A F fid (.cond c x y) s Q:=by
 cases b with
 |true=>
  obtain⟨r,n,h3,h4⟩:=h1 rfl
  exact⟨r,n,by simp only[texec,hc];exact h3,h4⟩
 |false=>
  obtain⟨r,n,h3,h4⟩:=h2 rfl
  exact⟨r,n,by simp only[texec,hc];exact h3,h4⟩
theorem bc {c:Operand}{x y:SC}(hc:tev s.sl c=.bool true) (h:Tx P A F fid x s Q):Tx P A F fid (.cond c x y) s Q:=uS hc (λ_=>h) (λh=>by cases h)
theorem d7 {c:Operand}{x y:SC}(hc:tev s.sl c=.bool false) (h:Tx P A F fid y s Q):Tx P A F fid (.cond c x y) s Q:=uS hc (λh=>by cases h) (λ_=>h)
theorem ru {id:Nat}{c:SC}(h:Tx P A F fid c s (jA id Q)):Tx P A F fid (.block id c) s Q:=by
 obtain⟨⟨e,s1⟩,n,h1,h2⟩:=h
 refine⟨_,n,by simp only[texec,h1,Option.map_some];rfl,?_⟩
 cases e
 case exit i=>
  simp only[jA] at h2 ⊢
  split at h2
  ·rename_i hi;simp only[hi,if_true];exact h2
  ·rename_i hi;simp only[hi,if_false];exact h2
 all_goals exact h2
theorem Tx_loop {c:SC}(I:Nat→TS→Prop) (n:Nat) (h0:I n s) (h:∀n s,I n s→Tx P A F fid c s (FV (λs'=>∃n',n'<n∧I n' s') Q)):Tx P A F fid (.loop c) s Q:=by
 induction n using Nat.strongRecOn generalizing s with
 |_ n ih=>
  obtain⟨⟨e,s1⟩,k,h1,h2⟩:=h n s h0;cases e
  case normal=>
   obtain⟨n',hn,hI⟩:=h2;obtain⟨r,k2,h3,h4⟩:=ih n' hn hI
   refine⟨r,max k k2+1,?_,h4⟩
   simp only[texec] at h3 ⊢;simp only[texec.titer,Option.bind_eq_some_iff]
   exact⟨_,cZ (Obeys.refl F) _ _ _ _ _ (by omega) h1,il (λs r h=>cZ (Obeys.refl F) _ _ _ _ _ (by omega) h) _ _ _ _ (by omega) h3⟩
  all_goals exact⟨_,k+1,by simp only[texec,texec.titer,cZ (Obeys.refl F) _ _ _ _ _ (Nat.le_succ k) h1,Option.bind_some],h2⟩
def Tfin (P:Program) (rs:List ResultVar) (v:CV) (H':List HO):CE→TS→Prop:=λe s=>(∀i,e≠.exit i)∧Obt (aQ P rs s) λx=>x=(v,H')
theorem xN {rs:List ResultVar}{v:CV}{H':List HO}(h:Obt (aQ P rs s) λx=>x=(v,H')):Tfin P rs v H' .ret s:=⟨by simp,h⟩
theorem rq {rs:List ResultVar}{v:CV}{H':List HO}(h:Obt (aQ P rs s) λx=>x=(v,H')):Tfin P rs v H' .normal s:=⟨by simp,h⟩
theorem xJ {E:aW}{f:FuncId}{fn:Func}{c:SC}{args:List CV}{H:List HO}{v:CV}{H':List HO}(hE:E f (cin (A.pure f) args) H=none)
  (hf:P.funcs[f]?=some fn) (hb:fn.body.bind (bh P A f fn.ntmps)=some c) (hlen:args.length≤fn.ntmps)
  (h:Tx P A (Fw P A E) f c { sl:=aO 0 (cin (A.pure f) args),m:={ L:=[],H:=H } } (Tfin P fn.results.toList v H')):Fw P A E f args H=some (v,H'):=by
 obtain⟨⟨e,s1⟩,n,h1,h2,y,h3,h4⟩:=h;subst h4;obtain⟨n',h5⟩:=uN _ _ _ _ h1;refine xK.2 ⟨n'+1,?_⟩;simp only[dW,hE,hf,hb,hlen,if_true,h5,Option.bind_some];cases e
 case exit i=>exact absurd rfl (h2 i)
 all_goals exact h3
end
end Go.Cm
namespace Go.Cm
def ld1 (m:Mem) (p:CV):Option CV:=(bN m p 1).bind (·.head?)
def ldA (sz:Nat) (m:Mem) (p:CV):Option CV:=(bN m p sz).map CV.agg
def stX (n:Nat) (m:Mem) (p v:CV):Option Mem:=
 match ap v with
 |some cs=>if cs.length=n then fT m p cs else none
 |none=>none
def aA (off:Nat) (x:CV):Option CV:=
 match x with
 |.ptr k gn o=>some (.ptr k gn (o+off))
 |.rptr cs=>some (.rptr (cs.drop off))
 |_=>none
def bd (sz:Nat) (x i:CV):Option CV:=
 match eH i with
 |none=>none
 |some i=>
  match x with
  |.imm n cs=>if i<n∧i*sz<cs.length then some (.rptr (cs.drop (i*sz))) else none
  |.ref k gn off len=>if i<len then some (.ptr k gn (off+i*sz)) else none
  |_=>none
def idxA (n sz:Nat) (x i:CV):Option CV:=
 match eH i with
 |none=>none
 |some i=>
  match x with
  |.ptr k gn off=>if i<n then some (.ptr k gn (off+i*sz)) else none
  |.rptr cs=>if i<n then some (.rptr (cs.drop (i*sz))) else none
  |_=>none
def fld1 (off:Nat) (x:CV):Option CV:=
 match x with
 |.agg cs=>cs[off]?
 |_=>none
def fldG (off sz:Nat) (x:CV):Option CV:=
 match x with
 |.agg cs=>some (.agg ((cs.drop off).take sz))
 |_=>none
def b7 (x:CV):Option CV:=
 match x with
 |.ptr k g o=>some (.ptr k g o)
 |.rptr cs=>some (.rptr cs)
 |_=>none
def cT (c a b:CV):Option CV:=
 match c with
 |.bool true=>some a
 |.bool false=>some b
 |_=>none
def pF (k:IntKind) (x:CV):Option CV:=
 match x with
 |.int _ n=>some (.int k (k.wrap n))
 |_=>none
def cV (i:Nat) (x:CV):Option CV:=
 match x with
 |.tuple vs=>vs[i]?
 |_=>none
def lenS (x:CV):Option CV:=(clen x).map λ(n:Nat)=>CV.int .i64 (n:Int)
def lenM (m:Mem) (x:CV):Option CV:=(fx m x).map λes=>CV.int .i64 (es.length:Int)
def lenT (x:CV):Option CV:=
 match x with
 |.str s=>some (.int .i64 s.size)
 |_=>none
def idxT (x i:CV):Option CV:=
 match x,eH i with
 |.str s,some i=>(s[i]?).map λb=>.int .u8 b.toNat
 |_,_=>none
def idxV (n sz:Nat) (agg:Bool) (x i:CV):Option CV:=
 match x,eH i with
 |.agg cs,some i=>if i<n then (if agg then some (.agg ((cs.drop (i*sz)).take sz)) else cs[i*sz]?) else none
 |_,_=>none
def bg:List CV→List (Nat×Nat×CV)→Option (List CV)
 |cells,[]=>some cells
 |cells,(off,size,v)::rest=>
  match ap v with
  |some vs=>if vs.length=size∧off+size≤cells.length then bg (ay cells off vs) rest else none
  |none=>none
def cN (b n:Nat):Bool:=b≤1024&&(n≤sh&&n*b≤140737488355328)
def ua (m:Mem) (j sz:Nat) (cs:List CV):Mem:=⟨gb m.L j (.arr (bj m.L j) sz cs 0),m.H⟩
def Jg (m:Mem) (j n:Nat):CV:=.ref (.l j) (bj m.L j) 0 n
def D7 (m:Mem) (j:Nat):Mem:=⟨gb m.L j (.map (bj m.L j) []),m.H⟩
def D6 (m:Mem) (j:Nat):CV:=.map (.l j) (bj m.L j)
def ir (m:Mem) (cs:List CV):Mem:=⟨m.L,m.H++[.var 1 cs 0]⟩
def eP (m:Mem):CV:=.ptr (.g m.H.length) 1 0
def mb (m:Mem) (sz:Nat) (cs:List CV):Mem:=⟨m.L,m.H++[.arr 1 sz cs 0]⟩
def rT (m:Mem) (n:Nat):CV:=.ref (.g m.H.length) 1 0 n
def jJ (m:Mem):Mem:=⟨m.L,m.H++[.map 1 []]⟩
def md (m:Mem):CV:=.map (.g m.H.length) 1
def nmA (glob:Bool) (m:Mem) (j sz:Nat) (cs:List CV):Mem:=match glob with|true=>mb m sz cs|false=>ua m j sz cs
def nmR (glob:Bool) (m:Mem) (j n:Nat):CV:=match glob with|true=>rT m n|false=>Jg m j n
def mkX (glob:Bool) (j sz b:Nat) (z:List CV) (l c:CV) (m:Mem):Option (CV×Mem):=
 match l,c with
 |.int _ a,.int _ d=>
  if 0≤a∧a=d∧cN b a.toNat=true∧z.length=sz then some (nmR glob m j a.toNat,nmA glob m j sz (dM a.toNat z)) else none
 |_,_=>none
def mmX (glob:Bool) (j:Nat) (h:CV) (m:Mem):Option (CV×Mem):=
 match h with
 |.int _ _=>match glob with
  |false=>some (D6 m j,D7 m j)
  |true=>some (md m,jJ m)
 |_=>none
def ej (glob:Bool) (j sz b:Nat) (s x:CV) (m:Mem):Option (CV×Mem):=
 match content m sz x,clen x with
 |some ys,some n=>
  match s with
  |.nil=>
   if n=0 then some (.nil,m)
   else if cN b n=true then some (nmR glob m j n,nmA glob m j sz ys)
   else none
  |.ref k gn off len=>
   match m.get k with
   |some (.arr g s' cs vl)=>
    if g=gn∧s'=sz∧vl≤off+len*sz∧cN b (len+n)=true then
     some (.ref k (g+1) 0 (len+n),m.set k (.arr (g+1) sz ((cs.drop off).take (len*sz)++ys) (vl - off)))
    else none
   |_=>none
  |_=>none
 |_,_=>none
def copX (sz:Nat) (d x:CV) (m:Mem):Option (CV×Mem):=
 match content m sz x,clen x,clen d with
 |some ys,some n,some dl=>
  let c:=min n dl
  if c=0 then some (.int .i64 0,m) else
  match d with
  |.ref k gn off _=>
   match m.get k with
   |some (.arr g s' cs vl)=>
    if g=gn∧s'=sz∧vl≤off then some (.int .i64 c,m.set k (.arr g sz (ay cs off (ys.take (c*sz))) vl)) else none
   |_=>none
  |_=>none
 |_,_,_=>none
def sJ (sz:Nat) (x:CV) (lo hi mx:Option CV) (m:Mem):Option CV:=
 match qN hi mx with
 |false=>none
 |true=>
  match clen x with
  |some len=>
   match fp len lo hi with
   |some (l,h)=>
    match x with
    |.nil=>some .nil
    |.imm _ cs=>some (.imm (h - l) ((cs.drop (l*sz)).take ((h - l)*sz)))
    |.ref k gn off _=>
     match m.get k with
     |some (.arr g s' _ _)=>if g=gn∧s'=sz then some (.ref k gn (off+l*sz) (h - l)) else none
     |_=>none
    |_=>none
   |none=>none
  |none=>none
def slcA (n sz:Nat) (x:CV) (lo hi mx:Option CV) (m:Mem):Option CV:=
 match qN hi mx with
 |false=>none
 |true=>
  match fp n lo hi,x with
  |some (l,h),.ptr k gn off=>
   match m.get k with
   |some (.arr g s' cs _)=>if g=gn∧s'=sz∧off+n*sz≤cs.length then some (.ref k gn (off+l*sz) (h - l)) else none
   |_=>none
  |_,_=>none
def be (glob:Bool) (j sz n:Nat) (z:List CV) (ps:List (Nat×Nat×CV)) (m:Mem):Option (CV×Mem):=
 (bg z ps).bind λcs=>(bp m cs).map λy=>(nmR glob y.2 j n,nmA glob y.2 j sz y.1)
def iB (x:CV) (m:Mem):Option (CV×Mem):=
 match ap x with
 |some cs=>(bp m cs).map λy=>(eP y.2,ir y.2 y.1)
 |none=>none
def boxA (glob:Bool) (j sz:Nat) (x:CV) (m:Mem):Option (CV×Mem):=
 match ap x with
 |some cs=>(bp m cs).map λy=>(match glob with|true=>eP y.2|false=>bo y.2 j,nmA glob y.2 j sz y.1)
 |none=>none
def gK (P:Program) (kt:TypeId) (z x i:CV) (ok:Bool) (m:Mem):Option CV:=
 match fx m x with
 |some es=>
  match gH P kt i es 0 with
  |some (some (_,v))=>some (if ok then .tuple [v,.bool true] else v)
  |some none=>some (if ok then .tuple [z,.bool false] else z)
  |none=>none
 |none=>none
def mB (P:Program) (kt:TypeId) (x k v:CV) (m:Mem):Option Mem:=
 match x with
 |.map key gn=>
  (bp m [v]).bind λy=>
   match y.2.get key,y.1 with
   |some (.map g es),[v']=>
    if g=gn∧rZ k then
     match gH P kt k es 0 with
     |some (some (i,_))=>some (y.2.set key (.map g (es.set i (k,v'))))
     |some none=>some (y.2.set key (.map g (es++[(k,v')])))
     |none=>none
    else none
   |_,_=>none
 |_=>none
def delX (P:Program) (kt:TypeId) (x k:CV) (m:Mem):Option Mem:=
 match x with
 |.map key gn=>
  match m.get key with
  |some (.map g es)=>
   if g=gn then
    match gH P kt k es 0 with
    |some (some (i,_))=>some (m.set key (.map g (es.eraseIdx i)))
    |some none=>some (m.set key (.map g es))
    |none=>none
   else none
  |_=>none
 |_=>none
def invX (P:Program) (A:Ann) (F:aW) (fid:FuncId) (d:Option Tmp) (r:CV) (name:String) (args:List CV) (m:Mem):Option (CV×Mem):=
 match r with
 |.iface t x=>(mL P t x name).bind λy=>cd A F fid d y.1 (y.2::args) m
 |_=>none
def asrX (P:Program) (t:TypeId) (ok:Bool) (x:CV):Option CV:=
 match P.underlying t with
 |none=>none
 |some d=>match x with
  |.inil=>if ok then (iy P t).map λz=>.tuple [z,.bool false] else none
  |.iface u v=>
   match (match d with
    |.interface want=>(P.info? u).map λi=>want.toList.all λw=>i.methods.any λx=>x.name==w.1&&x.sig==w.2
    |_=>some (decide (u=t))) with
   |some true=>
    let r:CV:=match d with
     |.interface _=>.iface u v
     |_=>v
    some (if ok then .tuple [r,.bool true] else r)
   |some false=>if ok then (iy P t).map λz=>.tuple [z,.bool false] else none
   |none=>none
  |_=>none
def jX (place:Nat→Option (Nat×Nat)):List (Nat×CV)→Option (List (Nat×Nat×CV))
 |[]=>some []
 |(i,v)::r=>match place i,jX place r with
  |some (off,size),some q=>some ((off,size,v)::q)
  |_,_=>none
theorem gh {place:Nat→Option (Nat×Nat)}:∀{ps:List (Nat×CV)}{q:List (Nat×Nat×CV)}{z:List CV},jX place ps=some q→KT place z ps=bg z q
 |[],q,z,h=>by
  simp only[jX,Option.some.injEq] at h;subst h;rfl
 |(i,v)::r,q,z,h=>by
  simp only[jX] at h
  split at h
  ·rename_i off size q' h1 h2
   simp only[Option.some.injEq] at h;subst h;simp only[KT,bg,h1]
   cases ap v with
   |none=>rfl
   |some vs=>
    simp only
    split
    ·exact gh h2
    ·rfl
  ·cases h
section
variable (P:Program) (A:Ann) (F:aW) (fid:FuncId)
def vX (ρ:Operand→CV) (op:Op) (m:Mem):Option CV:=
 match op with
 |.move x=>some (ρ x)
 |.assign x=>some (ρ x)
 |.pick c a b=>cT (ρ c) (ρ a) (ρ b)
 |.load t a=>match uM P t,bK P t with
  |some true,some sz=>ldA sz m (ρ a)
  |some false,_=>ld1 m (ρ a)
  |_,_=>none
 |.nilCheck x=>b7 (ρ x)
 |.binOp op t x y _=>aw P op t x y (ρ x) (ρ y)
 |.unOp op _ x=>cun op (ρ x)
 |.convert src dst x=>match P.underlying src,FW P dst with
  |some _,some k=>pF k (ρ x)
  |_,_=>none
 |.makeInterface t x=>if mK P t||(P.underlying t).isNone then none else some (.iface t (ρ x))
 |.makeFunc fn first captured=>some (.func fn (first.toList.map ρ) (captured.toList.map ρ))
 |.slice t x lo hi mx=>match P.underlying t with
  |some (.slice e)=>match bK P e with
   |some sz=>sJ sz (ρ x) (lo.map ρ) (hi.map ρ) (mx.map ρ) m
   |none=>none
  |some (.array n e)=>match bK P e with
   |some sz=>slcA n sz (ρ x) (lo.map ρ) (hi.map ρ) (mx.map ρ) m
   |none=>none
  |_=>none
 |.fieldAddr s x f=>match lT P s f with
  |some (off,ft)=>match bK P ft with
   |some (_+1)=>aA off (ρ x)
   |_=>none
  |none=>none
 |.indexAddr t x i=>match P.underlying t with
  |some (.slice e)=>match bK P e with
   |some sz=>bd sz (ρ x) (ρ i)
   |none=>none
  |some (.array n e)=>match bK P e with
   |some sz=>idxA n sz (ρ x) (ρ i)
   |none=>none
  |_=>none
 |.field t x f=>match lT P t f with
  |some (off,ft)=>match uM P ft,bK P ft with
   |some true,some sz=>fldG off sz (ρ x)
   |some false,_=>fld1 off (ρ x)
   |_,_=>none
  |none=>none
 |.index t x i=>match P.underlying t with
  |some .string=>idxT (ρ x) (ρ i)
  |some (.array n e)=>match uM P e,bK P e with
   |some a,some sz=>idxV n sz a (ρ x) (ρ i)
   |_,_=>none
  |_=>none
 |.lookup t x i ok=>match jg P t with
  |some (kt,et)=>match b8 P kt,iy P et with
   |true,some z=>gK P kt z (ρ x) (ρ i) ok m
   |_,_=>none
  |none=>none
 |.typeAssert x _ t ok=>asrX P t ok (ρ x)
 |.extract t i=>cV i (ρ t)
 |.build t parts=>match dk P t,P.underlying t with
  |some z,some (.struct fields)=>
   if fields.toList.all (λf=>(bK P f.type).isSome) then
    (jX (λi=>(fields[i]?).bind λf=>(bK P f.type).map λs=>(f.offset,s)) (parts.toList.map λp=>(p.1,ρ p.2))).bind λq=>(bg z q).map CV.agg
   else none
  |some z,some (.array _ e)=>match bK P e with
   |some s=>(jX (λi=>some (i*s,s)) (parts.toList.map λp=>(p.1,ρ p.2))).bind λq=>(bg z q).map CV.agg
   |none=>none
  |_,_=>none
 |.call ⟨.builtin .len,args,ats⟩=>match args.toList,ats.toList with
  |[x],[t]=>match P.underlying t with
   |some (.slice _)=>lenS (ρ x)
   |some (.map _ _)=>lenM m (ρ x)
   |some .string=>lenT (ρ x)
   |some (.array n _)=>some (.int .i64 n)
   |_=>none
  |_,_=>none
 |.call ⟨.builtin .max,args,_⟩=>hZ true (args.toList.map ρ)
 |.call ⟨.builtin .min,args,_⟩=>hZ false (args.toList.map ρ)
 |_=>none
def mX (ρ:Operand→CV) (op:Op) (m:Mem):Option Mem:=
 match op with
 |.store t a x=>match bK P t with
  |some n=>stX n m (ρ a) (ρ x)
  |none=>none
 |.mapUpdate t x k v=>match jg P t with
  |some (kt,_)=>match b8 P kt with
   |true=>mB P kt (ρ x) (ρ k) (ρ v) m
   |false=>none
  |none=>none
 |.insert t x k v=>match jg P t with
  |some (kt,_)=>match b8 P kt with
   |true=>mB P kt (ρ x) (ρ k) (ρ v) m
   |false=>none
  |none=>none
 |_=>none
def pX (d:Option Tmp) (ρ:Operand→CV) (op:Op) (m:Mem):Option (CV×Mem):=
 match op with
 |.alloc t=>match dk P t,lS P t with
  |some z,none=>match di (A.glob fid) d with
   |false=>some (bo m (cW d),bw m (cW d) z)
   |true=>some (eP m,ir m z)
  |some z,some (_,e)=>match di (A.glob fid) d with
   |false=>some (.ptr (.l (cW d)) (bj m.L (cW d)) 0,ua m (cW d) ((bK P e).getD 0) z)
   |true=>some (eP m,mb m ((bK P e).getD 0) z)
  |none,_=>none
 |.box t x=>match lS P t with
  |none=>match di (A.glob fid) d with
   |false=>(ap (ρ x)).map λcs=>(bo m (cW d),bw m (cW d) cs)
   |true=>iB (ρ x) m
  |some (_,e)=>boxA (di (A.glob fid) d) (cW d) ((bK P e).getD 0) (ρ x) m
 |.buildSlice t n parts=>match w7 P t with
  |some e=>match bK P e,dk P e with
   |some s,some z=>
    if n*s≤1048576∧z.length=s then
     (jX (λi=>some (i*s,s)) (parts.toList.map λp=>(p.1,ρ p.2))).bind λq=>be (di (A.glob fid) d) (cW d) s n (dM n z) q m
    else none
   |_,_=>none
  |none=>none
 |.makeMap t none=>match jg P t with
  |some _=>match di (A.glob fid) d with
   |false=>some (D6 m (cW d),D7 m (cW d))
   |true=>some (md m,jJ m)
  |none=>none
 |.makeMap t (some h)=>match jg P t with
  |some _=>mmX (di (A.glob fid) d) (cW d) (ρ h) m
  |none=>none
 |.makeSlice t l c=>match w7 P t with
  |some e=>match bK P e,dk P e,oP P e with
   |some s,some z,some b=>mkX (di (A.glob fid) d) (cW d) s b z (ρ l) (ρ c) m
   |_,_,_=>none
  |none=>none
 |.call c=>match c.callee with
  |.value f=>dx A F fid d (ρ f) (c.args.toList.map ρ) m
  |.invoke recv name=>invX P A F fid d (ρ recv) name (c.args.toList.map ρ) m
  |.builtin .append=>match c.args.toList,c.argTypes.toList with
   |[s,x],t::u::_=>match w7 P t,w7 P u with
    |some e,some _=>match bK P e,dk P e,oP P e with
     |some sz,some z,some b=>if sz=0∨z.length≠sz then none else ej (di (A.glob fid) d) (cW d) sz b (ρ s) (ρ x) m
     |_,_,_=>none
    |_,_=>none
   |_,_=>none
  |.builtin .copy=>match c.args.toList,c.argTypes.toList with
   |[x,y],t::_=>match w7 P t with
    |some e=>match bK P e with
     |some sz=>copX sz (ρ x) (ρ y) m
     |none=>none
    |none=>none
   |_,_=>none
  |.builtin .delete=>match c.args.toList,c.argTypes.toList with
   |[x,k],t::_=>match jg P t with
    |some (kt,_)=>match b8 P kt with
     |true=>(delX P kt (ρ x) (ρ k) m).map λm'=>(.tuple [],m')
     |false=>none
    |none=>none
   |_,_=>none
  |_=>none
 |_=>none
end
def opk:Op→Nat
 |.alloc _=>2
 |.box _ _=>2
 |.buildSlice _ _ _=>2
 |.makeMap _ _=>2
 |.makeSlice _ _ _=>2
 |.store _ _ _=>1
 |.mapUpdate _ _ _ _=>1
 |.insert _ _ _ _=>1
 |.call c=>match c.callee with
  |.builtin .len=>0
  |.builtin .max=>0
  |.builtin .min=>0
  |_=>2
 |_=>0
section
variable (P:Program) (A:Ann) (F:aW) (fid:FuncId)
def im (d:Option Tmp) (ρ:Operand→CV) (op:Op) (m:Mem):Option (CV×Mem):=
 match opk op with
 |0=>(vX P ρ op m).map λv=>(v,m)
 |1=>(mX P ρ op m).map λm'=>(CV.dead,m')
 |_=>pX P A F fid d ρ op m
end
end Go.Cm
