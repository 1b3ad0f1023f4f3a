import Derived.Test.YtjhndbgokapikaaCwJ
import Derived.Test.YtjhndbgokapikaaCvX2
set_option linter.unusedSimpArgs false
set_option linter.unusedVariables false
namespace Go.Cm.W2
section
variable {P:Program}{A:Ann}{F:aW}{fid:FuncId}{nt:Nat}{m m' m'':Mem}
theorem KH {o:Oper}(h:LR P o=true):∃x t c e,o.op=.call c∧c.callee=.builtin .len∧c.args.toList=[x]∧c.argTypes.toList=[t]∧P.underlying t=some (.slice e):=by
 obtain⟨dst,op,ty,pos,after,guard⟩:=o
 cases op<;>simp only[LR,Bool.false_eq_true] at h
 rename_i c;obtain⟨callee,args,tys⟩:=c
 cases callee<;>simp only[Bool.false_eq_true] at h
 rename_i b
 cases b<;>simp only[Bool.false_eq_true] at h
 split at h
 ·rename_i x t h1 h2
  split at h
  ·rename_i e h3
   exact⟨x,t,_,e,rfl,rfl,h1,h2,h3⟩
  ·cases h
 ·cases h
theorem BB {o:Oper}(h:KE P o=true):o.guard=none∧bJ o.op=true∧(ge o.op=true∨LR P o=true):=by
 simp only[KE,Bool.and_eq_true,Bool.or_eq_true,Option.isNone_iff_eq_none] at h
 refine⟨h.1,?_,?_⟩
 ·rcases h.2 with h|h
  ·exact h.2
  ·obtain⟨x,t,c,e,h1,h2,_⟩:=KH h
   rw[h1];simp only[bJ,h2];rfl
 ·rcases h.2 with h|h
  ·exact .inl h.1
  ·exact .inr h
theorem LS {o:Oper}{ρ:Operand→CV}(h:LR P o=true) {c:CV}{m1:Mem}(hc:cval P A F fid ρ o m=some (c,m1)) (m':Mem):cval P A F fid ρ o m'=some (c,m'):=by
 obtain⟨x,t,c0,e,h1,h2,h3,h4,h5⟩:=KH h;simp only[cval,h1,h2,h3,h4,h5,List.map_cons,List.map_nil,Option.map_eq_some_iff,Prod.mk.injEq] at hc ⊢;obtain⟨n,q1,q2,_⟩:=hc
 exact⟨n,q1,q2,trivial⟩
theorem KF {o:Oper}{ρ:Operand→CV}(h:KE P o=true) {c:CV}{m1:Mem}(hc:cval P A F fid ρ o m=some (c,m1)):m1=m∧∀m',cval P A F fid ρ o m'=some (c,m'):=by
 obtain⟨_,hq,hm⟩:=BB h;have:=lG hq hc;subst this
 refine⟨rfl,λm'=>?_⟩
 rcases hm with hm|hm
 ·exact kD hm hc m'
 ·exact LS hm hc m'
theorem Mv {o:Oper}{s:CS}:sop P A F fid false (D8 o) s=(cval P A F fid (ev s.sl) o s.m).bind λx=>some { sl:=eu s.sl o.dst x.1,m:=x.2 }:=by
 unfold sop;have:=λρ m=>KQ (P:=P) (A:=A) (F:=F) (fid:=fid) (ρ:=ρ) (m:=m) o (x:=D8 o) rfl rfl;simp only[this];simp only[D8,iX,fw,Bool.false_and,Bool.false_eq_true,if_false]
theorem KW {E:List Tmp}{o:Oper}(h:isE E o=true):∃d,o.dst=some d∧d∈E:=by
 unfold isE at h
 split at h
 ·rename_i d hd
  exact⟨d,hd,by simpa using h⟩
 ·cases h
theorem Hu {ops:List Oper}{o:Oper}{sl sl':List CV}(h:∀t∈cg ops o,bH sl t=bH sl' t):∀x∈o.op.operands.toList,ev sl x=ev sl' x:=by
 intro x hx
 cases x with
 |tmp t=>exact h t (by simp only[cg];exact List.mem_append_left _ (List.mem_filterMap.2 ⟨.tmp t,hx,rfl⟩))
 |_=>rfl
theorem nu {sl:List CV}{d:Option Tmp}{v:CV}{t:Tmp}(h:d≠some t):bH (eu sl d v) t=bH sl t:=by
 cases d with
 |none=>rfl
 |some d=>simp only[eu,dH];rw[if_neg (λe=>h (by rw[e]))]
theorem ne {sl:List CV}{d:Tmp}{v:CV}:bH (eu sl (some d) v) d=v:=by simp[eu,dH]
theorem Ld {ops:List Oper}{E:List Tmp}(hst:∀o∈ops,isE E o=true→KE P o=true)
  (hdst:∀(j k:Nat) (x y:Oper) d,ops[j]?=some x→ops[k]?=some y→x.dst=some d→y.dst=some d→j=k)
  (hpend:∀(k:Nat) (o:Oper),ops[k]?=some o→∀(j:Nat) (o':Oper) t,ops[j]?=some o'→isE E o'=true→o'.dst=some t→t∈cg ops o→j<k) :
  ∀(l:List Oper) (i:Nat) (s s1:CS),(∀k,l[k]?=ops[i+k]?)→nf P A F fid false ((l.filter (isE E)).map D8) s=some s1 →
   s1.m=s.m∧(∀t,(∀(k:Nat) (o:Oper),l[k]?=some o→isE E o=true→o.dst≠some t)→bH s1.sl t=bH s.sl t) ∧
   (∀(k:Nat) (o:Oper) d,l[k]?=some o→isE E o=true→o.dst=some d→cval P A F fid (ev s1.sl) o s.m=some (bH s1.sl d,s.m))
 |[],i,s,s1,_,h=>by
  simp only[List.filter_nil,List.map_nil,nf,Option.some.injEq] at h;subst h
  exact⟨rfl,λ_ _=>rfl,λk o d hk=>by simp at hk⟩
 |o::l,i,s,s1,hl,h=>by
  have ho:ops[i]?=some o:=by simpa using(hl 0).symm
  have hl':∀k,l[k]?=ops[i+1+k]?:=λk=>by
   have:=hl (k+1);simp only[List.getElem?_cons_succ] at this;rw[this,show i+(k+1)=i+1+k from by omega]
  by_cases hE:isE E o=true
  ·obtain⟨d,hd,_⟩:=KW hE
   simp only[List.filter_cons,hE,if_true,List.map_cons,nf,Mv,Option.bind_eq_some_iff] at h;obtain⟨s2,⟨⟨v,m1⟩,hc,h2⟩,h3⟩:=h;simp only[Option.some.injEq] at h2;obtain⟨hm,hcs⟩:=KF (hst o (List.mem_of_getElem? ho) hE) hc;subst hm h2;obtain⟨i1,i2,i3⟩:=Ld hst hdst hpend l (i+1) _ s1 hl' h3;simp only at i1 i2 i3;have hlater:∀t,t∈cg ops o∨t=d→∀(k:Nat) (o':Oper),l[k]?=some o'→isE E o'=true→o'.dst≠some t:=λt ht k o' hk hE' hdt=>by
    have hk':ops[i+1+k]?=some o':=by rw[←hl' k];exact hk
    rcases ht with ht|rfl
    ·have:=hpend i o ho _ o' t hk' hE' hdt ht
     omega
    ·have:=hdst _ _ _ _ _ ho hk' hd hdt
     omega
   refine⟨i1,λt ht=>?_,λk o' d' hk hE' hd'=>?_⟩
   ·rw[i2 t λk o' hk=>ht (k+1) o' (by simpa using hk)]
    exact nu (ht 0 o rfl hE)
   ·cases k with
    |zero=>
     simp only[List.getElem?_cons_zero,Option.some.injEq] at hk;subst hk;rw[hd] at hd'
     injection hd' with hd'
     subst hd';rw[i2 d (hlater d (.inr rfl)),hd,ne];rw[←hc];refine nB (Hu (ops:=ops) λt ht=>?_);rw[i2 t (hlater t (.inl ht)),hd];refine nu λe=>?_
     injection e with e
     subst e;have:=hpend i o ho i o d ho hE hd ht;omega
    |succ k=>exact i3 k o' d' (by simpa using hk) hE' hd'
  ·simp only[List.filter_cons,hE,Bool.false_eq_true,if_false] at h
   obtain⟨i1,i2,i3⟩:=Ld hst hdst hpend l (i+1) s s1 hl' h
   refine⟨i1,λt ht=>i2 t λk o' hk=>ht (k+1) o' (by simpa using hk),λk o' d' hk hE' hd'=>?_⟩
   cases k with
   |zero=>
    simp only[List.getElem?_cons_zero,Option.some.injEq] at hk;subst hk;exact absurd hE' hE
   |succ k=>exact i3 k o' d' (by simpa using hk) hE' hd'
def LA (ops:List Oper) (E:List Tmp) (i:Nat) (t:Tmp):Prop:=
 (∀(k:Nat) (o:Oper),ops[k]?=some o→o.dst≠some t)∨∃j,j<i∧∃o,ops[j]?=some o∧isE E o=true∧o.dst=some t
theorem py {ops:List Oper}{E:List Tmp}(hst:∀o∈ops,isE E o=true→KE P o=true)
  (hdst:∀(j k:Nat) (x y:Oper) d,ops[j]?=some x→ops[k]?=some y→x.dst=some d→y.dst=some d→j=k)
  (hlook:∀(k:Nat) (o:Oper),ops[k]?=some o→isE E o=true→∀t∈cg ops o,LA ops E k t) :
  ∀(l:List Oper) (i:Nat) (slq:List CV) (s s1:CS),(∀k,l[k]?=ops[i+k]?)→nf P A F fid false ((l.filter (isE E)).map D8) s=some s1 →
   (∀t,LA ops E i t→bH slq t=bH s.sl t)→∀t,LA ops E (i+l.length) t→bH (KZ P A F fid l slq s.m) t=bH s1.sl t
 |[],i,slq,s,s1,_,h,hR=>by
  simp only[List.filter_nil,List.map_nil,nf,Option.some.injEq] at h;subst h;simpa[KZ] using hR
 |o::l,i,slq,s,s1,hl,h,hR=>by
  have ho:ops[i]?=some o:=by simpa using(hl 0).symm
  have hl':∀k,l[k]?=ops[i+1+k]?:=λk=>by
   have:=hl (k+1);simp only[List.getElem?_cons_succ] at this;rw[this,show i+(k+1)=i+1+k from by omega]
  have hlen:i+(o::l).length=i+1+l.length:=by simp only[List.length_cons];omega
  rw[hlen]
  by_cases hE:isE E o=true
  ·obtain⟨d,hd,_⟩:=KW hE
   simp only[List.filter_cons,hE,if_true,List.map_cons,nf,Mv,Option.bind_eq_some_iff] at h;obtain⟨s2,⟨⟨v,m1⟩,hc,h2⟩,h3⟩:=h;simp only[Option.some.injEq] at h2;have hso:=hst o (List.mem_of_getElem? ho) hE;obtain⟨hm,hcs⟩:=KF hso hc;subst hm h2;have hcq:cval P A F fid (ev slq) o s.m=some (v,s.m):=by
    rw[←hc];exact nB (Hu (ops:=ops) λt ht=>hR t (hlook i o ho hE t ht))
   simp only[KZ,(BB hso).2.1,if_true,hcq];have ih:=py hst hdst hlook l (i+1) (eu slq o.dst v) { sl:=eu s.sl o.dst v,m:=s.m } s1 hl' h3 (λt ht=>?_)
   ·exact ih
   ·by_cases htd:t=d
    ·subst htd
     rw[hd,ne,ne]
    ·have hne:o.dst≠some t:=λe=>htd (by rw[hd] at e;injection e with e;exact e.symm)
     rw[nu hne,nu hne];refine hR t ?_;rcases ht with ht|⟨j,hj,o',q1,q2,q3⟩
     ·exact .inl ht
     ·refine .inr ⟨j,?_,o',q1,q2,q3⟩
      rcases Nat.lt_or_ge j i with h|h
      ·exact h
      ·have:j=i:=by omega
       rw[this,ho] at q1
       injection q1 with q1
       rw[q1] at hne;exact absurd q3 hne
  ·simp only[List.filter_cons,hE,Bool.false_eq_true,if_false] at h
   have key:∀slq',(slq'=slq∨∃v,slq'=eu slq o.dst v)→∀t,LA ops E (i+1) t→bH slq' t=bH s.sl t:=λslq' hs t ht=>by
    have hne:o.dst≠some t∧LA ops E i t:=by
     rcases ht with ht|⟨j,hj,o',q1,q2,q3⟩
     ·exact⟨ht i o ho,.inl ht⟩
     ·have hji:j≠i:=λe=>by
       rw[e,ho] at q1
       injection q1 with q1
       rw[q1] at hE;exact hE q2
      exact⟨λe=>hji (hdst _ _ _ _ _ q1 ho q3 e),.inr ⟨j,by omega,o',q1,q2,q3⟩⟩
    rcases hs with rfl|⟨v,rfl⟩
    ·exact hR t hne.2
    ·rw[nu hne.1];exact hR t hne.2
   simp only[KZ];split
   ·split
    ·exact py hst hdst hlook l (i+1) _ s s1 hl' h (key _ (.inr ⟨_,rfl⟩))
    ·exact py hst hdst hlook l (i+1) _ s s1 hl' h (key _ (.inl rfl))
   ·exact py hst hdst hlook l (i+1) _ s s1 hl' h (key _ (.inl rfl))
theorem LT {o:Oper}{ρ ρ':Operand→CV}(h:∀x∈o.op.operands.toList,ρ x=ρ' x):Hm P ρ o=Hm P ρ' o:=by
 obtain⟨dst,op,ty,pos,after,guard⟩:=o
 cases op<;>try rfl
 rename_i t l c;simp only[Hm,h l (by simp[Op.operands]),h c (by simp[Op.operands])]
theorem eB {o:Oper}(h:plainAlloc P o=true):o.guard=none∧∃d,o.dst=some d∧bJ o.op=false:=by
 simp only[plainAlloc,Bool.or_eq_true] at h;rcases h with h|h
 ·obtain⟨t,d,h1,h2,h3,_⟩:=Cm.eB h
  exact⟨h2,d,h3,by rw[h1];rfl⟩
 ·obtain⟨dst,op,ty,pos,after,guard⟩:=o
  cases op<;>cases guard<;>cases dst<;>simp only[Nm,Bool.false_eq_true] at h
  exact⟨rfl,_,rfl,rfl⟩
theorem N9 {o:Oper}{ρ:Operand→CV}{d:Tmp}{c:CV}{m1:Mem}(hp:plainAlloc P o=true) (hd:o.dst=some d) (h:cval P A F fid ρ o m=some (c,m1)) :
  ∃z row,Hm P ρ o=some (z,row)∧c=(Al.mk 0 (m.add ((A.glob fid).contains d) (16*d) (w8 z row)).1 (m.add ((A.glob fid).contains d) (16*d) (w8 z row)).2.1 z row).cv ∧
   m1=(m.add ((A.glob fid).contains d) (16*d) (w8 z row)).2.2:=by
 simp only[plainAlloc,Bool.or_eq_true] at hp;rcases hp with hp|hp
 ·obtain⟨t,d',h1,h2,h3,h4⟩:=Cm.eB hp
  simp only[cval,h1,hd,h4,di,cW] at h
  split at h
  ·rename_i z hz
   simp only[Option.some.injEq,Prod.mk.injEq] at h;obtain⟨rfl,rfl⟩:=h
   exact⟨z,none,by simp only[Hm,h1,hz,Option.map_some],rfl,rfl⟩
  ·cases h
 ·obtain⟨dst,op,ty,pos,after,guard⟩:=o
  cases op<;>cases guard<;>cases dst<;>simp only[Nm,Bool.false_eq_true] at hp
  rename_i t l c0 d';simp only[Option.some.injEq] at hd;subst hd;simp only[cval,di,cW] at h
  split at h
  ·rename_i e he
   split at h
   ·rename_i s z k a k' b q1 q2 q3 q4
    split at h
    ·rename_i hc
     simp only[Option.some.injEq,Prod.mk.injEq] at h;obtain⟨rfl,rfl⟩:=h
     exact⟨dM a.toNat z,some (s,a.toNat),by simp only[Hm,he,q1,q2,q3,q4,if_pos hc],rfl,rfl⟩
    ·cases h
   ·cases h
  ·cases h
theorem MN {b:Al}{m:Mem}(h:m.get b.key=some (w8 b.z b.row b.gn)):cC b m=true:=by
 unfold cC;rw[h]
 cases hr:b.row with
 |none=>simp only[w8,decide_true,Bool.true_and];exact beqs_refl _
 |some r=>simp only[w8,decide_true,Bool.true_and];exact beqs_refl _
theorem add_l {m:Mem}{j:Nat}{mk:Nat→HO}:m.add false j mk=(.l j,((aK m.L j).map HO.gn).getD 0+1,{ m with L:=gb m.L j (mk (((aK m.L j).map HO.gn).getD 0+1)) }):=by simp[Mem.add]
theorem add_g {m:Mem}{j:Nat}{mk:Nat→HO}:m.add true j mk=(.g m.H.length,1,{ m with H:=m.H++[mk 1] }):=by simp[Mem.add]
theorem nZ {qs:List CV}:∀(l:List Oper) (i:Nat) (s s1:CS),nf P A F fid false ((l.filter (plainAlloc P)).map D8) s=some s1 →
  (∀(j k:Nat) (x y:Oper) d,l[j]?=some x→l[k]?=some y→x.dst=some d→y.dst=some d→j=k) →
  (∀o∈l,plainAlloc P o=true→∀x∈o.op.operands.toList,ev qs x=ev s.sl x) →
  (∀o∈l,plainAlloc P o=true→∀t,Operand.tmp t∈o.op.operands.toList→∀o'∈l,plainAlloc P o'=true→o'.dst≠some t) →
  ∃al,Hd P A fid qs i l s.m=some (al,s1.m) ∧
   (∀(k:Nat) (o:Oper) d,l[k]?=some o→plainAlloc P o=true→o.dst=some d→∃b,oU al (i+k)=some b∧((A.glob fid).contains d=false→b.key=.l (16*d))∧bH s1.sl d=b.cv∧Hm P (ev qs) o=some (b.z,b.row)) ∧
   (∀t,(∀(k:Nat) (o:Oper),l[k]?=some o→plainAlloc P o=true→o.dst≠some t)→bH s1.sl t=bH s.sl t) ∧
   (∀b∈al,∃(k:Nat) (o:Oper) (d:Tmp),l[k]?=some o∧plainAlloc P o=true∧o.dst=some d∧b.i=i+k∧(((A.glob fid).contains d=false∧b.key=.l (16*d))∨((A.glob fid).contains d=true∧∃n,b.key=.g n∧s.m.H.length≤n))) ∧
   (∀b∈al,cC b s1.m=true)∧iP al=true ∧
   (∀key,(∀(k:Nat) (o:Oper) d,l[k]?=some o→plainAlloc P o=true→o.dst=some d→(A.glob fid).contains d=false→key≠.l (16*d))→(∀n,key=.g n→n<s.m.H.length)→s1.m.get key=s.m.get key)∧s.m.H.length≤s1.m.H.length
 |[],i,s,s1,h,_,_,_=>by
  simp only[List.filter_nil,List.map_nil,nf,Option.some.injEq] at h;subst h
  exact⟨[],rfl,λk o d hk=>by simp at hk,λ_ _=>rfl,λb hb=>by simp at hb,λb hb=>by simp at hb,rfl,λ_ _ _=>rfl,Nat.le_refl _⟩
 |o::r,i,s,s1,h,hd,hq,hlk=>by
  have hd':∀(j k:Nat) (x y:Oper) d,r[j]?=some x→r[k]?=some y→x.dst=some d→y.dst=some d→j=k:=λj k x y d hx hy h1 h2=>by
   have:=hd (j+1) (k+1) x y d (by simpa using hx) (by simpa using hy) h1 h2;omega
  have hlk':∀o∈r,plainAlloc P o=true→∀t,Operand.tmp t∈o.op.operands.toList→∀o'∈r,plainAlloc P o'=true→o'.dst≠some t:=λo ho hp t ht o' ho'=>hlk o (List.mem_cons_of_mem _ ho) hp t ht o' (List.mem_cons_of_mem _ ho')
  by_cases hp:plainAlloc P o=true
  ·obtain⟨hgd,d,hdst,hnq⟩:=eB hp
   simp only[List.filter_cons,hp,if_true,List.map_cons,nf,Mv,Option.bind_eq_some_iff] at h;obtain⟨s2,⟨⟨c,m2⟩,h2,h4⟩,h3⟩:=h;simp only[Option.some.injEq] at h4;subst h4;obtain⟨z,row,hz,hcv,hm2⟩:=N9 hp hdst h2;have hz':Hm P (ev qs) o=some (z,row):=by rw[LT (hq o List.mem_cons_self hp)];exact hz
   have hq':∀o∈r,plainAlloc P o=true→∀x∈o.op.operands.toList,ev qs x=ev (eu s.sl (some d) c) x:=λo' ho' hp' x hx=>by
    rw[hq o' (List.mem_cons_of_mem _ ho') hp' x hx]
    cases x with
    |tmp t=>
     have:=hlk o' (List.mem_cons_of_mem _ ho') hp' t hx o List.mem_cons_self hp;rw[hdst] at this
     exact(nu this).symm
    |_=>rfl
   rw[hdst] at h3;obtain⟨al,a1,a2,a3,a4,a5,a6,a7,a8⟩:=nZ r (i+1) _ s1 h3 hd' hq' hlk';simp only at a1 a3 a4 a7 a8;obtain⟨b0,hb0⟩:∃b0:Al,b0={ i:=i,key:=(s.m.add ((A.glob fid).contains d) (16*d) (w8 z row)).1,gn:=(s.m.add ((A.glob fid).contains d) (16*d) (w8 z row)).2.1,z:=z,row:=row }:=⟨_,rfl⟩;have hb0c:c=b0.cv:=by rw[hcv,hb0];rfl
   have hnd:∀(k:Nat) (o':Oper) d',r[k]?=some o'→plainAlloc P o'=true→o'.dst=some d'→d≠d':=λk o' d' hk _ hdd e=>by
    subst e;have:=hd 0 (k+1) o o' d rfl (by simpa using hk) hdst hdd;omega
   have hmain:(((A.glob fid).contains d=false∧b0.key=.l (16*d))∨((A.glob fid).contains d=true∧b0.key=.g s.m.H.length))∧s1.m.get b0.key=some (w8 b0.z b0.row b0.gn)∧s.m.H.length≤m2.H.length ∧
     ((A.glob fid).contains d=true→s.m.H.length+1≤m2.H.length)∧(∀key,((A.glob fid).contains d=false→key≠.l (16*d))→(∀n,key=.g n→n<s.m.H.length)→m2.get key=s.m.get key):=by
    cases hgl:(A.glob fid).contains d with
    |false=>
     rw[hgl,add_l] at hm2 hb0;simp only at hm2 hb0;subst hm2
     refine⟨.inl ⟨rfl,by rw[hb0]⟩,?_,Nat.le_refl _,(λh=>by cases h),λkey hk _=>?_⟩
     ·rw[hb0]
      simp only
      rw[a7 _ (λk o' d' hk hpp hdd _ e=>hnd k o' d' hk hpp hdd (by simp only[Key.l.injEq] at e;exact Nat.eq_of_mul_eq_mul_left (by decide) e)) (λn e=>by cases e)];simp only[Mem.get,aq,if_true]
     ·cases key with
      |g n=>rfl
      |l j=>
       have:16*d≠j:=λe=>hk rfl (by rw[e]);simp only[Mem.get,aq,if_neg this]
    |true=>
     rw[hgl,add_g] at hm2 hb0;simp only at hm2 hb0;subst hm2
     refine⟨.inr ⟨rfl,by rw[hb0]⟩,?_,by simp,λ_=>by simp,λkey _ hn=>?_⟩
     ·rw[hb0]
      simp only
      rw[a7 _ (λk o' d' hk hpp hdd _ e=>by cases e) (λn e=>by injection e with e;subst e;simp)];simp[Mem.get]
     ·cases key with
      |l j=>rfl
      |g n=>
       have:=hn n rfl;simp only[Mem.get];rw[List.getElem?_append_left this]
   obtain⟨hk1,hk2,hk3,hk4,hk5⟩:=hmain
   refine⟨b0::al,?_,λk o' d' hk hpp hdd=>?_,λu hu=>?_,λb hb=>?_,λb hb=>?_,?_,λkey hkey hlt=>?_,by omega⟩
   ·simp only[Hd,hp,if_true,hz',Option.bind_some,hdst,di,cW]
    rw[←hm2,a1,hb0];rfl
   ·cases k with
    |zero=>
     simp only[List.getElem?_cons_zero,Option.some.injEq] at hk;subst hk;rw[hdst] at hdd
     injection hdd with hdd
     subst hdd
     refine⟨b0,by rw[hb0];simp only[oU,Nat.add_zero,if_true],λhgf=>?_,?_,by rw[hz',hb0]⟩
     ·rcases hk1 with⟨_,h⟩|⟨h,_⟩
      ·exact h
      ·rw[hgf] at h;cases h
     ·rw[a3 d λk o' hk hpp hdd=>hnd k o' d hk hpp hdd rfl]
      rw[ne,hb0c]
    |succ k=>
     obtain⟨b,b1,b2,b3,b4⟩:=a2 k o' d' (by simpa using hk) hpp hdd
     refine⟨b,?_,b2,b3,b4⟩
     have hi0:b0.i=i:=by rw[hb0]
     simp only[oU,hi0];rw[if_neg (by omega),show i+(k+1)=i+1+k from by omega,b1]
   ·rw[a3 u λk o' hk hpp=>hu (k+1) o' (by simpa using hk) hpp]
    exact nu (by rw[←hdst];exact hu 0 o rfl hp)
   ·rcases List.mem_cons.1 hb with rfl|hb
    ·refine⟨0,o,d,rfl,hp,hdst,by rw[hb0];rfl,?_⟩
     rcases hk1 with h|⟨h,h'⟩
     ·exact .inl h
     ·exact .inr ⟨h,_,h',Nat.le_refl _⟩
    ·obtain⟨k,o',d',e1,e2,e3,e4,e5⟩:=a4 b hb
     refine⟨k+1,o',d',by simpa using e1,e2,e3,by omega,?_⟩
     rcases e5 with h|⟨h,n,h',h''⟩
     ·exact .inl h
     ·exact .inr ⟨h,n,h',by omega⟩
   ·rcases List.mem_cons.1 hb with rfl|hb
    ·exact MN hk2
    ·exact a5 b hb
   ·simp only[iP,Bool.and_eq_true,List.all_eq_true,decide_eq_true_eq]
    refine⟨λb hb e=>?_,a6⟩
    obtain⟨k,o',d',e1,e2,e3,e4,e5⟩:=a4 b hb;rcases hk1 with⟨_,h⟩|⟨hg,h⟩<;>rcases e5 with⟨_,h'⟩|⟨_,n,h',h''⟩<;>rw[h,h'] at e
    ·simp only[Key.l.injEq] at e
     exact hnd k o' d' e1 e2 e3 (Nat.eq_of_mul_eq_mul_left (by decide) e)
    ·cases e
    ·cases e
    ·injection e with e
     have:=hk4 hg;omega
   ·rw[a7 key (λk o' d' hk hpp hdd=>hkey (k+1) o' d' (by simpa using hk) hpp hdd) (λn e=>by have:=hlt n e;omega)]
    exact hk5 key (λhgf=>hkey 0 o d rfl hp hdst hgf) hlt
  ·have hp':plainAlloc P o=false:=by simpa using hp
   simp only[List.filter_cons,hp',Bool.false_eq_true,if_false] at h;obtain⟨al,a1,a2,a3,a4,a5,a6,a7,a8⟩:=nZ r (i+1) s s1 h hd' (λo ho=>hq o (List.mem_cons_of_mem _ ho)) hlk'
   refine⟨al,by simp only[Hd,hp',Bool.false_eq_true,if_false,a1],λk o' d' hk hpp hdd=>?_,λu hu=>a3 u λk o' hk=>hu (k+1) o' (by simpa using hk),λb hb=>?_,a5,a6,λkey hkey=>a7 key λk o' d' hk=>hkey (k+1) o' d' (by simpa using hk),a8⟩
   ·cases k with
    |zero=>
     simp only[List.getElem?_cons_zero,Option.some.injEq] at hk;subst hk;rw[hp'] at hpp;cases hpp
    |succ k=>
     obtain⟨b,b1,b2⟩:=a2 k o' d' (by simpa using hk) hpp hdd
     exact⟨b,by rw[show i+(k+1)=i+1+k from by omega,b1],b2⟩
   ·obtain⟨k,o',d',e1,e2,e3,e4,e5⟩:=a4 b hb
    exact⟨k+1,o',d',by simpa using e1,e2,e3,by omega,e5⟩
theorem cR:∀(l:List Oper) (i:Nat) (b:Nat×Tmp),b∈gC P i l↔∃k o,l[k]?=some o∧plainAlloc P o=true∧o.dst=some b.2∧b.1=i+k
 |[],i,b=>by simp[gC]
 |o::r,i,b=>by
  have ih:=cR r (i+1) b;have shift:(∃k o',r[k]?=some o'∧plainAlloc P o'=true∧o'.dst=some b.2∧b.1=i+1+k)↔∃k o',(o::r)[k+1]?=some o'∧plainAlloc P o'=true∧o'.dst=some b.2∧b.1=i+(k+1):=by
   constructor
   ·rintro⟨k,o',h1,h2,h3,h4⟩;exact⟨k,o',by simpa using h1,h2,h3,by omega⟩
   ·rintro⟨k,o',h1,h2,h3,h4⟩;exact⟨k,o',by simpa using h1,h2,h3,by omega⟩
  have split0:(∃k o',(o::r)[k]?=some o'∧plainAlloc P o'=true∧o'.dst=some b.2∧b.1=i+k) ↔
    (plainAlloc P o=true∧o.dst=some b.2∧b.1=i)∨∃k o',(o::r)[k+1]?=some o'∧plainAlloc P o'=true∧o'.dst=some b.2∧b.1=i+(k+1):=by
   constructor
   ·rintro⟨k,o',h1,h2,h3,h4⟩
    cases k with
    |zero=>
     simp only[List.getElem?_cons_zero,Option.some.injEq] at h1;subst h1;exact .inl ⟨h2,h3,h4⟩
    |succ k=>exact .inr ⟨k,o',h1,h2,h3,h4⟩
   ·rintro(⟨h2,h3,h4⟩|⟨k,o',h⟩)
    ·exact⟨0,o,rfl,h2,h3,h4⟩
    ·exact⟨k+1,o',h⟩
  rw[split0,←shift,←ih];simp only[gC]
  by_cases hp:plainAlloc P o=true
  ·obtain⟨hgd,d,hdst,_⟩:=eB hp
   simp only[hp,if_true,hdst,List.mem_cons,Option.some.injEq,true_and];constructor
   ·rintro(rfl|h)
    ·exact .inl ⟨rfl,rfl⟩
    ·exact .inr h
   ·rintro(⟨h1,h2⟩|h)
    ·left;obtain⟨x,y⟩:=b;simp only at h1 h2;rw[h1,h2]
    ·exact .inr h
  ·simp[hp]
theorem Qc {E:List Tmp}{o:Oper}(hp:(plainAlloc P o||isE E o)=true):∃d,o.dst=some d:=by
 rw[Bool.or_eq_true] at hp;rcases hp with h|h
 ·obtain⟨_,d,hd,_⟩:=eB h;exact⟨d,hd⟩
 ·obtain⟨d,hd,_⟩:=KW h;exact⟨d,hd⟩
theorem mU {E:List Tmp}:∀(l:List Oper) (i:Nat) (b:Nat×Tmp),b∈xT P E i l↔∃k o,l[k]?=some o∧(plainAlloc P o||isE E o)=true∧o.dst=some b.2∧b.1=i+k
 |[],i,b=>by simp[xT]
 |o::r,i,b=>by
  have ih:=mU (E:=E) r (i+1) b;have shift:(∃k o',r[k]?=some o'∧(plainAlloc P o'||isE E o')=true∧o'.dst=some b.2∧b.1=i+1+k)↔∃k o',(o::r)[k+1]?=some o'∧(plainAlloc P o'||isE E o')=true∧o'.dst=some b.2∧b.1=i+(k+1):=by
   constructor
   ·rintro⟨k,o',h1,h2,h3,h4⟩;exact⟨k,o',by simpa using h1,h2,h3,by omega⟩
   ·rintro⟨k,o',h1,h2,h3,h4⟩;exact⟨k,o',by simpa using h1,h2,h3,by omega⟩
  have split0:(∃k o',(o::r)[k]?=some o'∧(plainAlloc P o'||isE E o')=true∧o'.dst=some b.2∧b.1=i+k) ↔
    ((plainAlloc P o||isE E o)=true∧o.dst=some b.2∧b.1=i)∨∃k o',(o::r)[k+1]?=some o'∧(plainAlloc P o'||isE E o')=true∧o'.dst=some b.2∧b.1=i+(k+1):=by
   constructor
   ·rintro⟨k,o',h1,h2,h3,h4⟩
    cases k with
    |zero=>
     simp only[List.getElem?_cons_zero,Option.some.injEq] at h1;subst h1;exact .inl ⟨h2,h3,h4⟩
    |succ k=>exact .inr ⟨k,o',h1,h2,h3,h4⟩
   ·rintro(⟨h2,h3,h4⟩|⟨k,o',h⟩)
    ·exact⟨0,o,rfl,h2,h3,h4⟩
    ·exact⟨k+1,o',h⟩
  rw[split0,←shift,←ih];simp only[xT]
  by_cases hp:(plainAlloc P o||isE E o)=true
  ·obtain⟨d,hdst⟩:=Qc hp
   simp only[hp,if_true,hdst,List.mem_cons,Option.some.injEq,true_and];constructor
   ·rintro(rfl|h)
    ·exact .inl ⟨rfl,rfl⟩
    ·exact .inr h
   ·rintro(⟨h1,h2⟩|h)
    ·left;obtain⟨x,y⟩:=b;simp only at h1 h2;rw[h1,h2]
    ·exact .inr h
  ·simp[hp]
theorem nC {ops:List Oper}{masks:List Nat}{pend:List (Nat×Tmp)}{es:List (Nat×Option (Bool×Nat))}:∀(l:List Oper) (i:Nat),vU P ops masks pend es i l=true→∀(k:Nat) (o:Oper),l[k]?=some o →
  (bJ o.op=true→ge o.op=true∨LR P o=true∨xW masks es (i+k)=true∨(iO o.op=true∧DX masks es (i+k)=true)) ∧
  (∀b∈pend,b.1<i+k∨b.2∉cg ops o)∧(bt P o=true→iO o.op=false)
 |[],_,_,k,o,ho=>by simp at ho
 |x::r,i,h,k,o,ho=>by
  simp only[vU,Bool.and_eq_true,Bool.or_eq_true,Bool.not_eq_true',List.all_eq_true,decide_eq_true_eq] at h
  cases k with
  |zero=>
   simp only[List.getElem?_cons_zero,Option.some.injEq] at ho;subst ho
   refine⟨λhq=>?_,λb hb=>?_,λhe=>?_⟩
   ·rcases h.1.1.1 with(((h1|h1)|h1)|h1)|h1
    ·rw[hq] at h1;cases h1
    ·exact .inl h1
    ·exact .inr (.inl h1)
    ·exact .inr (.inr (.inl h1))
    ·exact .inr (.inr (.inr h1))
   ·rcases h.1.1.2 b hb with h1|h1
    ·exact .inl h1
    ·exact .inr (by simpa using h1)
   ·rcases h.1.2 with h1|h1
    ·rw[he] at h1;cases h1
    ·simpa using h1
  |succ k=>
   simp only[List.getElem?_cons_succ] at ho;have:=nC r (i+1) h.2 k o ho
   rwa [show i+1+k=i+(k+1) from by omega] at this
def Og (P:Program) (A:Ann) (F:aW) (fid:FuncId) (ops:List Oper) (masks:List Nat) (vars news:List (Nat×Tmp)) (es:List (Nat×Option (Bool×Nat))) (x:Row):Prop:=
 (bt P x.o=true→∀f,rR A fid vars x.o=some f→OffF f x.m x.m') ∧
 (x.go=true→bJ x.o.op=true→cval P A F fid (evL (cg ops x.o) x.sl) x.o x.m=some (x.v,x.m)) ∧
 (x.go=true→∀t p,x.o.op=.load t p→pO (offL masks es x.i) (evL (cg ops x.o) x.sl p)=false) ∧
 (bt P x.o=true→∀z∈P8 A fid masks news x.i,sameAt z.2 x.m x.m')
theorem offE2_f {masks:List Nat}{news:List (Nat×Tmp)}{i:Nat}{z:Bool×Nat}(h:z∈P8 A fid masks news i):z.1=false:=by
 obtain⟨b,_,h⟩:=List.mem_filterMap.1 h
 split at h
 ·cases h
 ·split at h<;>(simp only[Option.some.injEq] at h;rw[←h])
theorem Mt {o:Oper}(h:bJ o.op=true):bt P o=false:=by simp[bt,h]
theorem lu {ops:List Oper}{E:List Tmp}{masks:List Nat}{vars news pend:List (Nat×Tmp)}{es:List (Nat×Option (Bool×Nat))}{al:List Al}{qs:List CV}(hnews:news=gC P 0 ops) (hpd:pend=xT P E 0 ops) (hreg:RegOK P ops masks)
  (hst:∀o∈ops,isE E o=true→KE P o=true) (hknow:∀(k:Nat) (o:Oper),ops[k]?=some o→(isE E o||plainAlloc P o)=true→∀t∈cg ops o,LA ops E k t)
  (hV:∀b∈vars,b∈news∧∀c,oU al b.1=some c→c.row=none∧c.key=.l (16*b.2))
  (hdr:∀(k:Nat) (o:Oper),ops[k]?=some o→(∀b∈pend,b.1<k∨b.2∉cg ops o)∧(bt P o=true→iO o.op=false))
  (hdok:∀o∈ops,(plainAlloc P o||isE E o)=true→dok nt o.dst=true)
  (hal:∀(k:Nat) (o:Oper) d,ops[k]?=some o→plainAlloc P o=true→o.dst=some d→∃b,oU al k=some b∧Hm P (ev qs) o=some (b.z,b.row)) :
  ∀(l:List Oper) (i:Nat) (xs:List SO) (sl:List CV) (s s':CS),(∀k,l[k]?=ops[i+k]?)→jn P A fid nt E ops masks vars news es i l=some xs→nf P A F fid false xs s=some s' →
   (∀t,(∀b∈pend,b.2=t→b.1<i)→bH sl t=bH s.sl t) →
   (∀b∈news,∃c,oU al b.1=some c∧bH s.sl b.2=c.cv) →
   (∀(k:Nat) (o:Oper) d,ops[k]?=some o→isE E o=true→o.dst=some d→∀m,cval P A F fid (ev s.sl) o m=some (bH s.sl d,m)) →
   (∀(k:Nat) (o:Oper),ops[k]?=some o→plainAlloc P o=true→∀t∈cg ops o,bH qs t=bH s.sl t) →
   ∃rows sl',jG P A F fid nt ops al i l sl s.m=some (rows,sl',s'.m)∧(∀t,(∀b∈pend,b.2=t→b.1<i+l.length)→bH sl' t=bH s'.sl t)∧∀x∈rows,Og P A F fid ops masks vars news es x
 |[],i,xs,sl,s,s',_,hx,h,hR,_,_,_=>by
  simp only[jn,Option.some.injEq] at hx;subst hx;simp only[nf,Option.some.injEq] at h;subst h
  exact⟨[],sl,rfl,by simpa using hR,λx hx=>by simp at hx⟩
 |o::l,i,xs,sl,s,s',hl,hx,h,hR,hN,hEv,hQv=>by
  have ho:ops[i]?=some o:=by simpa using(hl 0).symm
  have hl':∀k,l[k]?=ops[i+1+k]?:=λk=>by
   have:=hl (k+1);simp only[List.getElem?_cons_succ] at this;rw[this,show i+(k+1)=i+1+k from by omega]
  have hmem:o∈ops:=List.mem_of_getElem? ho;simp only[jn] at hx;obtain⟨hlk,hel⟩:=hdr i o ho;have hsame:∀t∈cg ops o,bH sl t=bH s.sl t:=λt ht=>hR t λb hb hbt=>by
   rcases hlk b hb with h|h
   ·exact h
   ·exact absurd (hbt ▸ ht) h
  have hother:∀(d:Tmp) (v:CV),o.dst=some d→v=bH s.sl d→∀t,(∀b∈pend,b.2=t→b.1<i+1)→bH (eu sl o.dst v) t=bH s.sl t:=λd v hdst hv u hu=>by
   rw[hdst]
   by_cases e:u=d
   ·subst e;rw[ne,hv]
   ·rw[nu (λh=>e (by injection h with h;exact h.symm))]
    refine hR u λb hb hbu=>?_;have:=hu b hb hbu;rcases Nat.lt_or_ge b.1 i with h1|h1
    ·exact h1
    ·have hbi:b.1=i:=by omega
     rw[hpd,mU] at hb;obtain⟨k,o',e1,e2,e3,e4⟩:=hb;have:k=i:=by omega
     rw[this,ho] at e1
     injection e1 with e1
     rw[←e1,hdst] at e3
     injection e3 with e3
     exact absurd (e3.trans hbu).symm e
  by_cases hE:isE E o=true
  · -- known ahead
   have hso:=hst o hmem hE;obtain⟨sg,sq,sm⟩:=BB hso;obtain⟨d,hdst,_⟩:=KW hE;have hpf:plainAlloc P o=false:=by
    cases hpp:plainAlloc P o with
    |false=>rfl
    |true=>obtain⟨_,_,_,h⟩:=eB hpp;rw[sq] at h;cases h
   simp only[hE,Bool.or_true,if_true] at hx;have hcv:cval P A F fid (evL (cg ops o) sl) o s.m=some (bH s.sl d,s.m):=by
    rw[←hEv i o d ho hE hdst s.m];exact nB λy hy=>pK hsame hy
   obtain⟨rows,sl',g1,g2,g3⟩:=lu hnews hpd hreg hst hknow hV hdr hdok hal l (i+1) xs _ s s' hl' hx h (hother d _ hdst rfl) hN hEv hQv;have hd:kE P A F fid nt ops al i o sl s.m=some { i:=i,o:=o,sl:=sl,m:=s.m,go:=true,v:=bH s.sl d,m':=s.m }:=by
    unfold kE;rw[if_neg (by simp[hdok o hmem (by rw[hE,Bool.or_true])])];simp only[dR,sg,hpf,Bool.false_eq_true,if_false,hcv,Option.map_some,sq,if_true]
   refine⟨{ i:=i,o:=o,sl:=sl,m:=s.m,go:=true,v:=bH s.sl d,m':=s.m }::rows,sl',?_,λu hu=>g2 u λb hb hbu=>?_,λx hx=>?_⟩
   ·simp only[jG,hd,Option.bind_some,g1,Option.map_some]
   ·have:=hu b hb hbu;simp only[List.length_cons] at this;omega
   ·rcases List.mem_cons.1 hx with rfl|hx
    ·have hne:bt P o=false:=Mt sq
     refine⟨λhe=>?_,λ_ _=>hcv,λ_ t p he=>?_,λhe=>?_⟩
     ·simp only[hne] at he;cases he
     ·simp only at he
      rcases sm with sm|sm
      ·rw[he] at sm;cases sm
      ·obtain⟨_,_,_,_,h1,_⟩:=KH sm
       rw[he] at h1;cases h1
     ·simp only[hne] at he;cases he
    ·exact g3 x hx
  by_cases hp:plainAlloc P o=true
  · -- a new variable or row
   obtain⟨hgd,d,hdst,hnq⟩:=eB hp;simp only[hp,Bool.true_or,if_true] at hx;have hbn:(i,d)∈news:=by rw[hnews,cR];exact⟨i,o,ho,hp,hdst,by simp⟩
   obtain⟨c,c1,c2⟩:=hN _ hbn;simp only at c1 c2;obtain⟨rows,sl',g1,g2,g3⟩:=lu hnews hpd hreg hst hknow hV hdr hdok hal l (i+1) xs _ s s' hl' hx h (hother d _ hdst rfl) hN hEv hQv;have hmade:Hm P (evL (cg ops o) sl) o=some (c.z,c.row):=by
    obtain⟨b,b1,b3⟩:=hal i o d ho hp hdst;rw[c1] at b1
    injection b1 with b1
    rw[b1,←b3];refine LT λy hy=>?_;rw[pK (sl':=qs) (λt ht=>(hsame t ht).trans (hQv i o ho hp t ht).symm) hy]
   have hd:kE P A F fid nt ops al i o sl s.m=some { i:=i,o:=o,sl:=sl,m:=s.m,go:=true,v:=bH s.sl d,m':=s.m }:=by
    unfold kE;rw[if_neg (by simp[hdok o hmem (by rw[hp,Bool.true_or])])];simp only[dR,hgd,hp,if_true,c1,Option.bind_some,hmade,beqs_refl,and_self,c2]
   refine⟨{ i:=i,o:=o,sl:=sl,m:=s.m,go:=true,v:=bH s.sl d,m':=s.m }::rows,sl',?_,λu hu=>g2 u λb hb hbu=>?_,λx hx=>?_⟩
   ·simp only[jG,hd,Option.bind_some,g1,Option.map_some]
   ·have:=hu b hb hbu;simp only[List.length_cons] at this;omega
   ·rcases List.mem_cons.1 hx with rfl|hx
    ·have hne:bt P o=false:=lW hp
     refine⟨λhe=>?_,λ_ hq=>?_,λ_ t p he=>?_,λhe=>?_⟩
     ·simp only[hne] at he;cases he
     ·simp only at hq;rw[hnq] at hq;cases hq
     ·simp only at he
      have:bJ o.op=true:=by rw[he];rfl
      rw[hnq] at this;cases this
     ·simp only[hne] at he;cases he
    ·exact g3 x hx
  ·have hp':plainAlloc P o=false:=by simpa using hp
   have hE':isE E o=false:=by simpa using hE
   simp only[hp',hE',Bool.or_self,Bool.false_eq_true,if_false,Option.bind_eq_some_iff,Option.map_eq_some_iff] at hx;obtain⟨x0,hx0,ys,hys,rfl⟩:=hx;obtain⟨e1,e2,e3,e4,e5⟩:=iY hx0;simp only[nf,Option.bind_eq_some_iff] at h;obtain⟨s1,h1,h2⟩:=h;have hgc:dR ops sl o=iX s.sl x0.g:=by rw[qB hsame,e4]
   have hcv:∀m,cval P A F fid (evL (cg ops o) sl) o m=cval P A F fid (ev s.sl) o m:=λm=>nB λy hy=>pK hsame hy;have hdp:∀b∈pend,o.dst≠some b.2:=λb hb he=>by
    rw[hpd,mU] at hb;obtain⟨k,o',f1,f2,f3,f4⟩:=hb;have:=hreg.dst k i o' o b.2 f1 ho f3 he;rw[this,ho] at f1
    injection f1 with f1
    rw[←f1,hp',hE'] at f2;cases f2
   have hdn:∀b∈news,o.dst≠some b.2:=λb hb=>by
    refine hdp b ?_;rw[hnews,cR] at hb;obtain⟨k,o',f1,f2,f3,f4⟩:=hb;rw[hpd,mU]
    exact⟨k,o',f1,by rw[f2,Bool.true_or],f3,f4⟩
   have hdk:∀(k:Nat) (o':Oper),ops[k]?=some o'→(isE E o'||plainAlloc P o')=true→∀t∈cg ops o',o.dst≠some t:=λk o' hk hpe t ht he=>by
    rcases hknow k o' hk hpe t ht with h|⟨j,_,o2,q1,q2,q3⟩
    ·exact h i o ho he
    ·have:=hreg.dst j i o2 o t q1 ho q3 he
     rw[this,ho] at q1
     injection q1 with q1
     rw[←q1,hE'] at q2;cases q2
   have hNp:∀b∈vars,∃gn,ev s.sl (.tmp b.2)=.ptr (.l (16*b.2)) gn 0:=λb hb=>by
    obtain⟨v1,v2⟩:=hV b hb;obtain⟨c,c1,c2⟩:=hN b v1
    refine⟨c.gn,c2.trans ?_⟩
    simp only[Al.cv,(v2 c c1).1,(v2 c c1).2]
   have hsp:∀(sl:List CV) v t,o.dst≠some t→bH (eu sl o.dst v) t=bH sl t:=λsl v t ht=>by
    cases hd:o.dst with
    |none=>rfl
    |some d=>simp only[eu,dH];rw[if_neg (λe=>ht (by rw[hd,e]))]
   have hsp2:∀(sl sl':List CV) v t,bH sl t=bH sl' t→bH (eu sl o.dst v) t=bH (eu sl' o.dst v) t:=λsl sl' v t ht=>by
    cases hd:o.dst with
    |none=>exact ht
    |some d=>simp only[eu,dH];split;rfl;exact ht
   have step:∃y:Row,kE P A F fid nt ops al i o sl s.m=some y∧y.o=o∧s1={ sl:=eu s.sl o.dst y.v,m:=y.m' }∧Og P A F fid ops masks vars news es y:=by
    unfold sop at h1;rw[KQ o (x:={ x0 with off:=sM P A fid masks vars news es i o }) e2 e3] at h1;simp only[e3] at h1;unfold kE;rw[if_neg (by simp[e1]),hgc,hp']
    split at h1
    ·rename_i hg
     simp only[hg,Bool.false_eq_true,if_false];simp only[Bool.false_and,Bool.false_eq_true,if_false,Option.bind_eq_some_iff,Option.some.injEq] at h1;obtain⟨⟨c,m1⟩,hy,h1⟩:=h1;have hy2:=lB hy;rw[hcv,hy2];have hqm:bJ o.op=true→m1=s.m:=λhq=>lG hq hy2
     refine⟨_,rfl,rfl,?_,λhe f hf=>?_,λ_ hq=>?_,λ_ t p hl=>?_,λhe z hz=>?_⟩
     ·simp only[←h1,e2]
      by_cases hq:bJ o.op=true
      ·simp only[hq,if_true]
       rw[hqm hq]
      ·simp only[hq,if_false];rfl
     ·simp only at he hf ⊢
      have hq:bJ o.op=false:=by
       cases hqq:bJ o.op
       ·rfl
       ·rw[eM hqq] at he;cases he
      simp only[hq,Bool.false_eq_true,if_false];have hnl:∀t p,o.op≠.load t p:=λt p e=>by have:=hel he;rw[e] at this;cases this
      obtain⟨_,hro,hst⟩:=sn hy hnl;refine DZ hf hy2 hNp (λg=>rfl) (λc t r hc hcal hargs=>?_) (λty t v hop hnw u hu=>by
       refine hst _ _ _ hop u ?_;simp only[sM,he,if_true,Mw,hop,hnw,Bool.false_eq_true,if_false,hu,Option.map_some,Option.toList_some];exact List.mem_append_right _ (List.mem_append_right _ (by simp)))
      refine ug (hro c _ r hc hargs) λx hx=>?_;simp only[sM,he,if_true,uZ,hc,hcal];refine List.mem_append_right _ (List.mem_append_left _ ?_);rw[hf];simpa using hx
     ·simp only at hq ⊢
      rw[hcv,hy2,hqm hq]
     ·simp only at hl ⊢
      have hne:bt P o=false:=eM (by rw[hl];rfl);have hev:evL (cg ops o) sl p=ev s.sl p:=pK hsame (by rw[hl];simp[Op.operands]);rw[hev];simp only[sM,hne,Bool.false_eq_true,if_false,hl,iO,ge,Bool.not_false,Bool.and_self,if_true] at hy;unfold fw at hy
      split at hy
      ·rename_i hnil
       rw[hnil];generalize ev s.sl p=pv;unfold pO
       split<;>rfl
      ·simp only[offK] at hy
       split at hy
       ·cases hy
       ·rename_i hk
        simpa using hk
     ·simp only at he hz ⊢
      have hq:bJ o.op=false:=by
       cases hqq:bJ o.op
       ·rfl
       ·rw[eM hqq] at he;cases he
      simp only[hq,Bool.false_eq_true,if_false];have hnl:∀t p,o.op≠.load t p:=λt p e=>by have:=hel he;rw[e] at this;cases this
      refine(sn hy hnl).1 z ?_ (offE2_f hz)
      simp only[sM,he,if_true];exact List.mem_append_left _ hz
    ·rename_i hg
     simp only[Option.some.injEq] at h1;simp only[hg]
     refine⟨_,rfl,rfl,by simp only[←h1,e2],λ_ f _=>(SeenEq.refl _).off,λhgo=>(by cases hgo),λhgo=>(by cases hgo),λ_ _ _=>Lp⟩
    ·cases h1
   obtain⟨y,hy1,hy2,hy3,hy4⟩:=step;subst hy3;have hR':∀t,(∀b∈pend,b.2=t→b.1<i+1)→bH (eu sl o.dst y.v) t=bH (eu s.sl o.dst y.v) t:=λu hu=>by
    by_cases hdu:o.dst=some u
    ·rw[hdu];simp only[eu,dH,if_true]
    ·refine hsp2 _ _ _ _ (hR u λb hb hbu=>?_)
     have:=hu b hb hbu;rcases Nat.lt_or_ge b.1 i with h1|h1
     ·exact h1
     ·have hbi:b.1=i:=by omega
      rw[hpd,mU] at hb;obtain⟨k,o',f1,f2,f3,f4⟩:=hb;have:k=i:=by omega
      rw[this,ho] at f1
      injection f1 with f1
      rw[←f1,hp',hE'] at f2;cases f2
   obtain⟨rows,sl',g1,g2,g3⟩:=lu hnews hpd hreg hst hknow hV hdr hdok hal l (i+1) ys (eu sl o.dst y.v) _ s' hl' hys h2 hR' (λb hb=>by
    obtain⟨c,c1,c2⟩:=hN b hb
    exact⟨c,c1,by simp only;rw[hsp _ _ _ (hdn b hb),c2]⟩) (λk o' d hk hE2 hd m=>by
    simp only
    have hdd:o.dst≠some d:=λhe=>by
     have:=hreg.dst k i o' o d hk ho hd he;rw[this,ho] at hk
     injection hk with hk
     rw[←hk,hE'] at hE2;cases hE2
    rw[hsp _ _ _ hdd,←hEv k o' d hk hE2 hd m];exact nB (Hu (ops:=ops) λt ht=>hsp _ _ _ (hdk k o' hk (by rw[hE2,Bool.true_or]) t ht)))
    (λk o' hk hp2 t ht=>by
     simp only
     rw[hsp _ _ _ (hdk k o' hk (by rw[hp2,Bool.or_true]) t ht)];exact hQv k o' hk hp2 t ht)
   refine⟨y::rows,sl',?_,λu hu=>g2 u λb hb hbu=>?_,λx hx=>?_⟩
   ·simp only at g1
    simp only[jG,hy1,Option.bind_some,g1,Option.map_some]
   ·have:=hu b hb hbu;simp only[List.length_cons] at this;omega
   ·rcases List.mem_cons.1 hx with rfl|hx
    ·exact hy4
    ·exact g3 x hx
theorem pL {vars:List (Nat×Tmp)}:∀(rows:List Row) (i:Nat),(∀(k:Nat) (x:Row),rows[k]?=some x→x.i=i+k) →
  tR P A fid vars i (rows.map (·.o))=(rows.filter λx=>bt P x.o).map λx=>(x.i,rR A fid vars x.o)
 |[],i,_=>rfl
 |x::r,i,h=>by
  have ih:=pL (vars:=vars) r (i+1) λk y hy=>by
   have:=h (k+1) y (by simpa using hy);omega
  have h0:x.i=i:=by simpa using h 0 x rfl
  simp only[List.map_cons,tR]
  by_cases he:bt P x.o=true
  ·simp only[List.filter_cons,he,if_true,List.map_cons,ih,h0]
  ·simp only[List.filter_cons,he,ih];rfl
theorem qx {b:Al}{j:Nat}(hk:b.key=.l j) (h:aK m.L j=aK m'.L j):cC b m'=cC b m:=by
 simp only[cC,hk,Mem.get,h]
set_option maxHeartbeats 1000000 in
theorem ndraw_ok {ops:List Oper}{xs:List SO}{s s':CS}(hst:drawOK P A fid ops=true) (hdok:(ops.all λo=>!(plainAlloc P o||isE (earlyT P ops (ops.filterMap (·.dst)) [] ops) o)||dok nt o.dst)=true) (hx:drawSO P A fid nt ops=some xs) (h:nf P A F fid false xs s=some s') :
  ∃sl,cdraw P A F fid nt ops s=some { sl:=sl,m:=s'.m }∧∀t,bH sl t=bH s'.sl t:=by
 obtain⟨masks,hmasks⟩:∃masks,masks=cy ops []:=⟨_,rfl⟩;obtain⟨ds,hds⟩:∃ds,ds=ops.filterMap (·.dst):=⟨_,rfl⟩;obtain⟨E,hEd⟩:∃E,E=earlyT P ops ds [] ops:=⟨_,rfl⟩;obtain⟨news,hnews⟩:∃news,news=gC P 0 ops:=⟨_,rfl⟩;obtain⟨vars,hvars⟩:∃vars,vars=MD P A fid ops:=⟨_,rfl⟩;obtain⟨pend,hpd⟩:∃pend,pend=xT P E 0 ops:=⟨_,rfl⟩;simp only[drawOK,←hmasks,←hds,←hEd,←hnews,←hvars,←hpd,Bool.and_eq_true] at hst;simp only[drawSO,←hmasks,←hds,←hEd,←hnews,←hvars,Option.map_eq_some_iff] at hx;rw[←hds,←hEd] at hdok;obtain⟨es2,hes2⟩:∃es2,es2=tR P A fid vars 0 ops:=⟨_,rfl⟩;rw[←hes2] at hst hx;obtain⟨⟨⟨⟨hreg,hdl⟩,hearly⟩,hgl⟩,hmono⟩:=hst;obtain⟨ys,hys,rfl⟩:=hx;have hRg:=RegOK.of hreg;have hsl:=nC ops 0 hdl;have hearly':∀o∈ops,(isE E o=true→KE P o=true)∧((isE E o||plainAlloc P o)=true→∀t∈cg ops o,t∈ds→t∈E):=λo ho=>by
  have:=List.all_eq_true.1 hearly o ho;simp only[Bool.and_eq_true,Bool.or_eq_true,Bool.not_eq_true',List.all_eq_true] at this
  refine⟨λh=>?_,λh t ht htd=>?_⟩
  ·rcases this.1 with h1|h1
   ·rw[h] at h1;cases h1
   ·exact h1.1
  ·rcases this.2 with h1|h1
   ·rw[Bool.or_eq_true] at h
    simp only[Bool.or_eq_false_iff] at h1;rcases h with h|h
    ·rw[h1.1] at h;cases h
    ·rw[h1.2] at h;cases h
   ·rcases h1 t ht with h2|h2
    ·have h3:ds.contains t=true:=by simpa using htd
     rw[h3] at h2;cases h2
    ·simpa using h2
 have hE1:∀o∈ops,isE E o=true→KE P o=true:=λo ho=>(hearly' o ho).1;have hpend':∀(k:Nat) (o:Oper),ops[k]?=some o→∀(j:Nat) (o':Oper) t,ops[j]?=some o'→(plainAlloc P o'||isE E o')=true→o'.dst=some t→t∈cg ops o→j<k:=λk o hk j o' t hj hpe hd ht=>by
  have hb:(j,t)∈pend:=by rw[hpd,mU];exact⟨j,o',hj,hpe,hd,by simp⟩
  rcases (hsl k o hk).2.1 _ hb with h|h
  ·rw[Nat.zero_add] at h;exact h
  ·exact absurd ht h
 have hnoP:∀o∈ops,isE E o=true→plainAlloc P o=false:=λo ho hE=>by
  cases hpp:plainAlloc P o with
  |false=>rfl
  |true=>
   obtain⟨_,_,_,h⟩:=eB hpp;rw[(BB (hE1 o ho hE)).2.1] at h;cases h
 have hknow:∀(k:Nat) (o:Oper),ops[k]?=some o→(isE E o||plainAlloc P o)=true→∀t∈cg ops o,LA ops E k t:=λk o hk hpe t ht=>by
  by_cases htd:t∈ds
  ·have htE:=(hearly' o (List.mem_of_getElem? hk)).2 hpe t ht htd
   rw[hds,List.mem_filterMap] at htd;obtain⟨o',ho',hd'⟩:=htd;obtain⟨j,hj⟩:=List.getElem?_of_mem ho';have hE':isE E o'=true:=by simp only[isE,hd'];simpa using htE
   exact .inr ⟨j,hpend' k o hk j o' t hj (by rw[hE',Bool.or_true]) hd' ht,o',hj,hE',hd'⟩
  ·refine .inl λk' o' hk' hd'=>htd ?_
   rw[hds,List.mem_filterMap]
   exact⟨o',List.mem_of_getElem? hk',hd'⟩
 have hknP:∀(k:Nat) (o:Oper),ops[k]?=some o→(isE E o||plainAlloc P o)=true→∀t∈cg ops o,∀(j:Nat) (o':Oper),ops[j]?=some o'→plainAlloc P o'=true→o'.dst≠some t:=λk o hk hpe t ht j o' hj hp' hd'=>by
  rcases hknow k o hk hpe t ht with h|⟨j2,_,o2,q1,q2,q3⟩
  ·exact h j o' hj hd'
  ·have:=hRg.dst j2 j o2 o' t q1 hj q3 hd'
   rw[this,hj] at q1
   injection q1 with q1
   rw[←q1] at q2;rw[hnoP o' (List.mem_of_getElem? hj) q2] at hp';cases hp'
 rw[ml,Option.bind_eq_some_iff] at h;obtain⟨s0,h0,h⟩:=h;rw[ml,Option.bind_eq_some_iff] at h;obtain⟨s1,h1,h2⟩:=h;obtain⟨z1,z2,z3⟩:=Ld hE1 hRg.dst (λk o hk j o' t hj hE hd ht=>hpend' k o hk j o' t hj (by rw[hE,Bool.or_true]) hd ht) ops 0 s s0 (λk=>by rw[Nat.zero_add]) h0;have qv:=py (F:=F) hE1 hRg.dst (λk o hk hE=>hknow k o hk (by rw[hE,Bool.true_or])) ops 0 s.sl s s0 (λk=>by rw[Nat.zero_add]) h0 (λ_ _=>rfl);obtain⟨qs,hqs⟩:∃qs,qs=KZ P A F fid ops s.sl s.m:=⟨_,rfl⟩;rw[←hqs] at qv;have qv':∀(k:Nat) (o:Oper),ops[k]?=some o→(isE E o||plainAlloc P o)=true→∀t∈cg ops o,bH qs t=bH s0.sl t:=λk o hk hpe t ht=>by
  refine qv t ?_;rcases hknow k o hk hpe t ht with h|⟨j,hj,q⟩
  ·exact .inl h
  ·exact .inr ⟨j,by have:=(List.getElem?_eq_some_iff.1 hk).1;omega,q⟩
 obtain⟨al,a1,a2,a3,a4,a5,a6,a7,a8⟩:=nZ (qs:=qs) ops 0 s0 s1 h1 hRg.dst (λo ho hp=>by
   obtain⟨k,hk⟩:=List.getElem?_of_mem ho;exact Hu (ops:=ops) (qv' k o hk (by rw[hp,Bool.or_true])))
  (λo ho hp t ht o' ho' hp'=>by
   obtain⟨k,hk⟩:=List.getElem?_of_mem ho;obtain⟨j,hj⟩:=List.getElem?_of_mem ho';exact hknP k o hk (by rw[hp,Bool.or_true]) t (by simp only[cg];exact List.mem_append_left _ (List.mem_filterMap.2 ⟨.tmp t,ht,rfl⟩)) j o' hj hp')
 rw[z1] at a1;have hdok':∀o∈ops,(plainAlloc P o||isE E o)=true→dok nt o.dst=true:=λo ho hp=>by
  have:=List.all_eq_true.1 hdok o ho;rw[hp] at this;simpa using this
 have hals:∀(k:Nat) (o:Oper) d,ops[k]?=some o→plainAlloc P o=true→o.dst=some d→∃b,oU al k=some b∧Hm P (ev qs) o=some (b.z,b.row):=λk o d hk hp hd=>by
  obtain⟨b,b1,b2,_,b4⟩:=a2 k o d hk hp hd
  exact⟨b,by simpa using b1,b4⟩
 have hV:∀b∈vars,b∈news∧∀c,oU al b.1=some c→c.row=none∧c.key=.l (16*b.2):=λb hb=>by
  rw[hvars,MD,List.mem_filter,Cm.cR] at hb;obtain⟨⟨k,o,f1,f2,f3,f4⟩,f5⟩:=hb;have f6:(A.glob fid).contains b.2=false:=by simpa using f5
  have hp:plainAlloc P o=true:=by simp only[plainAlloc,f2,Bool.true_or]
  refine⟨by rw[hnews,cR];exact⟨k,o,f1,hp,f3,f4⟩,λc hc=>?_⟩
  obtain⟨c2,g1,g2,_,g3⟩:=a2 k o b.2 f1 hp f3;rw[Nat.zero_add] at g1;have:b.1=k:=by omega
  rw[this,g1] at hc
  injection hc with hc
  rw[←hc];obtain⟨t,d,hop,_⟩:=Cm.eB f2;simp only[Hm,hop,Option.map_eq_some_iff,Prod.mk.injEq] at g3;obtain⟨_,_,_,h⟩:=g3
  exact⟨h.symm,g2 f6⟩
 have ha3:∀(k:Nat) (o:Oper),ops[k]?=some o→(isE E o||plainAlloc P o)=true→∀t∈cg ops o,bH s1.sl t=bH s0.sl t:=λk o hk hpe t ht=>a3 t λj o' hj hp'=>hknP k o hk hpe t ht j o' hj hp';obtain⟨rows,sl',hr,hR,hgood⟩:=lu (F:=F) (qs:=qs) hnews hpd hRg hE1 hknow hV (λk o hk=>by have:=(hsl k o hk).2;rwa [Nat.zero_add] at this) hdok' hals ops 0 ys s.sl s1 s' (λk=>by rw[Nat.zero_add]) hys h2
  (λt ht=>by
   have hno:∀(k:Nat) (o:Oper),ops[k]?=some o→(plainAlloc P o||isE E o)=true→o.dst≠some t:=λk o hk hpe hd=>by
    have:=ht (k,t) (by rw[hpd,mU];exact⟨k,o,hk,hpe,hd,by simp⟩) rfl;omega
   rw[a3 t λk o hk hp=>hno k o hk (by rw[hp,Bool.true_or]),z2 t λk o hk hE=>hno k o hk (by rw[hE,Bool.or_true])])
  (λb hb=>by
   rw[hnews,cR] at hb;obtain⟨k,o,f1,f2,f3,f4⟩:=hb;obtain⟨c,c1,c2,c3,_⟩:=a2 k o b.2 f1 f2 f3
   exact⟨c,by rw[f4];exact c1,c3⟩)
  (λk o d hk hE hd mm=>by
   have hq:=z3 k o d hk hE hd;have hds1:bH s1.sl d=bH s0.sl d:=a3 d λj o' hj hp' hd'=>by
    have:=hRg.dst k j o o' d hk hj hd hd';rw[←this,hk] at hj
    injection hj with hj
    rw[←hj,hnoP o (List.mem_of_getElem? hk) hE] at hp';cases hp'
   have hq1:cval P A F fid (ev s1.sl) o s.m=some (bH s1.sl d,s.m):=by
    rw[hds1,←hq];exact nB (Hu (ops:=ops) (ha3 k o hk (by rw[hE,Bool.true_or])))
   exact(KF (hE1 o (List.mem_of_getElem? hk) hE) hq1).2 mm)
  (λk o hk hp t ht=>by
   rw[qv' k o hk (by rw[hp,Bool.or_true]) t ht,ha3 k o hk (by rw[hp,Bool.or_true]) t ht])
 refine⟨sl',?_,λt=>hR t λb hb _=>by
  rw[hpd,mU] at hb;obtain⟨k,o,f1,_,_,f4⟩:=hb;have:=(List.getElem?_eq_some_iff.1 f1).1
  omega⟩
 obtain⟨r1,r2,r3,r4⟩:=pt _ _ _ _ _ _ _ hr;have hq0:∀(k:Nat) (x:Row),rows[k]?=some x→x.m=mF (rows.take k) s1.m∧(bt P x.o=false→x.m'=x.m):=λk x hx=>⟨(r4 k x hx).2.2.2.1,λhe=>by
  obtain⟨_,hc⟩:=fU (r4 k x hx).2.2.2.2;rcases hc with⟨_,_,hm⟩|⟨_,_,hm,_⟩|⟨_,_,_,_,hm⟩|⟨_,hp,hq,_⟩
  ·exact hm
  ·exact hm
  ·exact hm
  ·simp[bt,hp,hq] at he⟩
 obtain⟨hfirst,hnext⟩:=gL (eff:=λx=>bt P x.o) rows s1.m hq0;have hat:=qJ (eff:=λx=>bt P x.o) rows s1.m hq0;have hidx:∀(k:Nat) (x:Row),rows[k]?=some x→x.i=k:=λk x hx=>by have:=(r4 k x hx).2.1;omega
 have hops:rows.map (·.o)=ops:=by
  apply List.ext_getElem?
  intro k;rw[List.getElem?_map]
  cases hk:rows[k]? with
  |none=>
   rw[List.getElem?_eq_none_iff] at hk;simp only[Option.map_none]
   exact(List.getElem?_eq_none (by omega)).symm
  |some x=>
   simp only[Option.map_some]
   exact(r4 k x hk).1.symm
 have hes:es2=(rows.filter λx=>bt P x.o).map λx=>(x.i,rR A fid vars x.o):=by
  have:=pL (P:=P) (A:=A) (fid:=fid) (vars:=vars) rows 0 λk x hx=>by rw[Nat.zero_add];exact hidx k x hx
  rw[hes2,←this,hops]
 rw[←r3] at hfirst hnext hat;obtain⟨es,hesd⟩:∃es,(rows.filter λx=>bt P x.o)=es:=⟨_,rfl⟩;rw[hesd] at hes hfirst hnext hat;have hesr:∀(j:Nat) (e:Row),es[j]?=some e→e∈rows∧bt P e.o=true:=λj e he=>by
  have:=List.mem_of_getElem? he;rw[←hesd,List.mem_filter] at this;exact this
 have hes2g:∀(j:Nat) (e:Row),es[j]?=some e→es2[j]?=some (e.i,rR A fid vars e.o):=λj e he=>by rw[hes,List.getElem?_map,he];rfl
 have hesl:es2.length=es.length:=by rw[hes,List.length_map]
 have hmemo:∀(j:Nat) (e:Row),es[j]?=some e→cp es s'.m j=e.m:=λj e he=>by simp[cp,he]
 have hfresh:∀b∈al,∀(q:Nat) (e:Row),es[q]?=some e→(masks.getD e.i 0).testBit b.i=false→cC b e.m=true∧cC b e.m'=true:=by
  intro b hb q;obtain⟨kb,ob,db,b1,b2,b3,b4,b5⟩:=a4 b hb;have hbn:(b.i,db)∈news:=by rw[hnews,cR];exact⟨kb,ob,b1,b2,b3,by simpa using b4⟩
  have one:∀e∈rows,bt P e.o=true→(masks.getD e.i 0).testBit b.i=false→cC b e.m=true→cC b e.m'=true:=by
   intro e he heff hbit hf;have hne:db≠HM:=of_decide_eq_true (List.all_eq_true.1 hgl _ hbn);rcases b5 with⟨g1,g2⟩|⟨g1,n,g2,_⟩
   ·have:=(hgood e he).2.2.2 heff (false,db) (List.mem_filterMap.2 ⟨(b.i,db),hbn,by simp only[hbit,g1,Bool.false_eq_true,if_false]⟩)
    rw[qx g2 (MV this hne)];exact hf
   ·have:=(hgood e he).2.2.2 heff (false,HM) (List.mem_filterMap.2 ⟨(b.i,db),hbn,by simp only[hbit,g1,Bool.false_eq_true,if_false,if_true]⟩)
    simp only[sameAt,if_true] at this;have e2:cC b e.m'=cC b e.m:=by simp only[cC,g2,Mem.get,this]
    rw[e2];exact hf
  induction q with
  |zero=>
   intro e he hbit;have hm:e.m=s1.m:=by rw[←hmemo 0 e he,hfirst]
   have h0:cC b e.m=true:=by rw[hm];exact a5 b hb
   exact⟨h0,one e (hesr 0 e he).1 (hesr 0 e he).2 hbit h0⟩
  |succ q ih=>
   intro e he hbit;have hlt:=(List.getElem?_eq_some_iff.1 he).1;have hq:es[q]?=some es[q]:=List.getElem?_eq_getElem (by omega);have hbq:(masks.getD (es[q]'(by omega)).i 0).testBit b.i=false:=by
    cases hbb:(masks.getD (es[q]'(by omega)).i 0).testBit b.i with
    |false=>rfl
    |true=>
     have h5:=List.all_eq_true.1 (List.all_eq_true.1 (List.all_eq_true.1 hmono _ hbn) (q+1) (List.mem_range.2 (by omega))) q (List.mem_range.2 (by omega));rw[hes2g q _ hq,hes2g (q+1) e he] at h5;simp only[hbb,Bool.not_true,Bool.false_or] at h5;rw[hbit] at h5;cases h5
   have h6:=(ih _ hq hbq).2;have hm:e.m=(es[q]'(by omega)).m':=by rw[←hmemo (q+1) e he,hnext q _ hq]
   have h0:cC b e.m=true:=by rw[hm];exact h6
   exact⟨h0,one e (hesr _ e he).1 (hesr _ e he).2 hbit h0⟩
 unfold cdraw;simp only[hreg,←hmasks,if_true,←hqs,a1,Option.bind_some,hr];rw[if_pos];simp only[hesd,a6,Bool.true_and,Bool.and_eq_true,List.all_eq_true]
 refine⟨λb hb=>⟨a5 b hb,λe he=>?_⟩,λx hxm=>?_⟩
 ·obtain⟨q,hq⟩:=List.getElem?_of_mem he
  cases hbit:(masks.getD e.i 0).testBit b.i with
  |true=>rfl
  |false=>simp[(hfresh b hb q e hq hbit).2]
 simp only[Bool.or_eq_true,Bool.not_eq_true',Bool.and_eq_false_iff]
 by_cases hgo:x.go=true
 case neg=>exact .inl (.inl (by simpa using hgo))
 by_cases hq:bJ x.o.op=true
 case neg=>exact .inl (.inr (by simpa using hq))
 right;obtain⟨i,hi⟩:=List.getElem?_of_mem hxm
 have hxi:=hidx i x hi;obtain⟨_,hg2,hg3,_⟩:=hgood x hxm;have hcv:cval P A F fid (evL (cg ops x.o) x.sl) x.o x.m=some (x.v,x.m):=hg2 hgo hq;have fin:∀mm,cval P A F fid (evL (cg ops x.o) x.sl) x.o mm=some (x.v,mm)→eU P A F fid ops x mm=true:=λmm hmm=>by
  simp only[eU,hmm];exact beq_refl _
 refine lL _ λk hk h1 h2=>fin _ ?_;have hstat:=(hsl i x.o (r4 i x hi).1).1 hq;rw[Nat.zero_add] at hstat;obtain⟨p,hp⟩:∃p,((rows.take i).filter λx=>bt P x.o).length=p:=⟨_,rfl⟩;have hxm':x.m=cp es s'.m p:=by have:=hat i x hi;rwa [hp] at this
 have hpos:∀(j:Nat) (e:Row),es[j]?=some e→(j<p→e.i<i)∧(p≤j→i<e.i):=by
  intro j e he;have hsplit:es=((rows.take i).filter λx=>bt P x.o)++((rows.drop i).filter λx=>bt P x.o):=by
   rw[←hesd,←List.filter_append,List.take_append_drop]
  rw[hsplit] at he
  refine⟨λhj=>?_,λhj=>?_⟩
  ·rw[List.getElem?_append_left (by omega)] at he
   have hm:=List.mem_of_getElem? he;rw[List.mem_filter] at hm;obtain⟨q,hqq⟩:=List.getElem?_of_mem hm.1;rw[List.getElem?_take] at hqq
   split at hqq
   ·rw[hidx q e hqq];assumption
   ·cases hqq
  ·rw[List.getElem?_append_right (by omega)] at he
   have hm:=List.mem_of_getElem? he;rw[List.mem_filter] at hm;obtain⟨q,hqq⟩:=List.getElem?_of_mem hm.1;rw[List.getElem?_drop] at hqq;have hei:=hidx _ e hqq;rcases Nat.eq_zero_or_pos q with h0|h0
   ·subst h0
    rw[Nat.add_zero,hi] at hqq;simp only[Option.some.injEq] at hqq;subst hqq;have:bt P x.o=false:=eM hq;rw[this] at hm
    cases hm.2
   ·omega
 have hpl:p≤es.length:=by
  have hsplit:es=((rows.take i).filter λx=>bt P x.o)++((rows.drop i).filter λx=>bt P x.o):=by
   rw[←hesd,←List.filter_append,List.take_append_drop]
  rw[hsplit,List.length_append];omega
 have hfree:∀(j:Nat) (e:Row),es[j]?=some e→(k≤j∧j<p∨p≤j∧j<k)→xx masks es2 i j e.i=false:=by
  intro j e he hj
  cases ho:xx masks es2 i j e.i with
  |false=>rfl
  |true=>
   exfalso;simp only[xx,Bool.or_eq_true,Bool.and_eq_true,decide_eq_true_eq,List.all_eq_true] at ho
   rcases ho with⟨hlt,hall⟩|⟨hlt,hb⟩
   ·rcases hj with⟨hkj,hjp⟩|⟨hpj,hjk⟩
    ·have hk':es[k]?=some es[k]:=List.getElem?_eq_getElem (by have:=(List.getElem?_eq_some_iff.1 he).1;omega)
     have h5:=hall _ (List.mem_of_getElem? (i:=k) (by rw[List.getElem?_take,if_pos (by omega)];exact hes2g k _ hk'));have h6:=h2 _ hk';rw[hxi] at h6;simp only at h5;rw[h5] at h6;cases h6
    ·have:=(hpos j e he).2 hpj
     omega
   ·rcases hj with⟨hkj,hjp⟩|⟨hpj,hjk⟩
    ·have:=(hpos j e he).1 hjp
     omega
    ·have h6:=h1 j e hjk he
     rw[hxi,hb] at h6;cases h6
 rcases hstat with hmf|hls|hao|⟨hld,hfo⟩
 ·exact kD hmf hcv _
 ·exact LS hls hcv _
 ·have hkp:k=p:=by
   rcases Nat.lt_trichotomy k p with h|h|h
   ·have he:es[k]?=some es[k]:=List.getElem?_eq_getElem (by omega)
    have h3:=hfree k _ he (.inl ⟨Nat.le_refl _,h⟩);have h4:=List.all_eq_true.1 hao k (List.mem_range.2 (by rw[hesl];omega));rw[hes2g k _ he] at h4;simp only at h4;rw[h3] at h4;cases h4
   ·exact h
   ·have he:es[p]?=some es[p]:=List.getElem?_eq_getElem (by omega)
    have h3:=hfree p _ he (.inr ⟨Nat.le_refl _,h⟩);have h4:=List.all_eq_true.1 hao p (List.mem_range.2 (by rw[hesl];omega));rw[hes2g p _ he] at h4;simp only at h4;rw[h3] at h4;cases h4
  rw[hkp,←hxm'];exact hcv
 ·obtain⟨t,a,hop⟩:∃t a,x.o.op=.load t a:=by
   cases ho:x.o.op<;>rw[ho] at hld<;>simp only[iO,Bool.false_eq_true] at hld
   exact⟨_,_,rfl⟩
  have hkey:=hg3 hgo t a hop;rw[hxi] at hkey;have hstep:∀(j:Nat) (e:Row),es[j]?=some e→(k≤j∧j<p∨p≤j∧j<k)→∀key g o,evL (cg ops x.o) x.sl a=.ptr key g o→((cp es s'.m j).get key).map HO.flat=((cp es s'.m (j+1)).get key).map HO.flat:=by
   intro j e he hj key g o hpk;have h3:=hfree j e he hj;have h4:=List.all_eq_true.1 hfo j (List.mem_range.2 (by rw[hesl];exact(List.getElem?_eq_some_iff.1 he).1));rw[hes2g j e he] at h4;simp only[h3,Bool.false_or,Option.isSome_iff_exists] at h4;obtain⟨ft,hft⟩:=h4;have h5:=(hgood e (hesr j e he).1).1 (hesr j e he).2 ft hft;rw[hmemo j e he,hnext j e he];refine h5 key ?_;rw[hpk,xn,List.any_eq_false] at hkey;have h6:=hkey ft (List.mem_filterMap.2 ⟨j,List.mem_range.2 (by rw[hesl];exact(List.getElem?_eq_some_iff.1 he).1),by rw[hes2g j e he];simp only[h3,Bool.false_eq_true,if_false,hft]⟩);simpa using h6
  have hchain:∀(d a0:Nat),a0+d≤es.length→(∀j,a0≤j→j<a0+d→(k≤j∧j<p∨p≤j∧j<k))→∀key g o,evL (cg ops x.o) x.sl a=.ptr key g o →
    ((cp es s'.m a0).get key).map HO.flat=((cp es s'.m (a0+d)).get key).map HO.flat:=by
   intro d
   induction d with
   |zero=>intro a0 _ _ _ _ _ _;rfl
   |succ d ih=>
    intro a0 hl hr key g o hpk;rw[ih a0 (by omega) (λj hj1 hj2=>hr j hj1 (by omega)) key g o hpk];exact hstep (a0+d) _ (List.getElem?_eq_getElem (by omega)) (hr _ (by omega) (by omega)) key g o hpk
  have hmm:∀key g o,evL (cg ops x.o) x.sl a=.ptr key g o→((cp es s'.m k).get key).map HO.flat=(x.m.get key).map HO.flat:=by
   intro key g o hpk;rw[hxm'];rcases Nat.le_total k p with hkp|hkp
   ·have:=hchain (p - k) k (by omega) (λj h1 h2=>.inl ⟨h1,by omega⟩) key g o hpk
    rwa [show k+(p - k)=p from by omega] at this
   ·have:=hchain (k - p) p (by omega) (λj h1 h2=>.inr ⟨h1,by omega⟩) key g o hpk
    rw[show p+(k - p)=k from by omega] at this;exact this.symm
  have hl:∀mm,cval P A F fid (evL (cg ops x.o) x.sl) x.o mm=(eW P mm t (evL (cg ops x.o) x.sl a)).map λv=>(v,mm):=λmm=>by
   generalize evL (cg ops x.o) x.sl=ρ;simp only[cval,hop]
  rw[hl] at hcv ⊢;rw[xc (m':=x.m) hmm t];simp only[Option.map_eq_some_iff,Prod.mk.injEq] at hcv ⊢;obtain⟨v,hv,rfl,_⟩:=hcv
  exact⟨_,hv,rfl,trivial⟩
theorem nU {ks:List Tmp}{sl sl':List CV}(h:∀t,bH sl t=bH sl' t):dC (some ks) sl=dC (some ks) sl':=by
 simp only[dC,h]
end
end Go.Cm.W2
namespace Go.Cm
section
variable {P:Program}{A:Ann}{F:aW}{fid:FuncId}{nt:Nat}{m m':Mem}
theorem sH:∀(c:Code) (x:SC),bh P A fid nt c=some x→∀(n:Nat) (s:CS) (r:CE×CS),cA P A F fid n x s=some r→cG P A F fid nt n c s=some r:=by
 intro c
 induction c with
 |skip=>
  intro x hx n s r h;simp only[bh,Option.some.injEq] at hx;subst hx;simpa only[cA,cG] using h
 |label=>
  intro x hx n s r h;simp only[bh,Option.some.injEq] at hx;subst hx;simpa only[cA,cG] using h
 |region id ops draw=>
  intro x hx n s r h;simp only[bh] at hx
  cases draw with
  |true=>
   simp only[if_true] at hx
   split at hx
   ·rename_i hst
    simp only[Bool.and_eq_true] at hst;simp only[Option.map_eq_some_iff] at hx;obtain⟨xs,hxs,rfl⟩:=hx;simp only[cA,Option.map_eq_some_iff] at h;obtain⟨s',h,rfl⟩:=h;simp only[cG,if_true,Ma (Jr hst.1 hxs h),Option.map_some]
   ·split at hx
    ·rename_i hst
     simp only[Bool.and_eq_true] at hst;obtain⟨⟨h1,h2⟩,h3⟩:=hst;simp only[Option.map_eq_some_iff] at hx;obtain⟨xs,hxs,rfl⟩:=hx;simp only[cA,Option.map_eq_some_iff] at h;obtain⟨s',h,rfl⟩:=h;obtain⟨sl,h4,h5⟩:=ndraw_ok h1 h3 hxs h;obtain⟨ks,hks⟩:=Option.isSome_iff_exists.1 h2;simp only[cG,if_true,Ma h4,Option.map_some,hks,nU h5]
    ·split at hx
     ·rename_i hst
      simp only[Bool.and_eq_true,Bool.not_eq_true'] at hst;obtain⟨⟨⟨h1,h0⟩,h2⟩,h3⟩:=hst;simp only[Option.map_eq_some_iff] at hx;obtain⟨xs,hxs,rfl⟩:=hx;simp only[cA,Option.map_eq_some_iff] at h;obtain⟨s',h,rfl⟩:=h;obtain⟨sl,h4,h5⟩:=W2.ndraw_ok h1 h3 hxs h;obtain⟨ks,hks⟩:=Option.isSome_iff_exists.1 h2;have h6:cdraw P A F fid nt ops.toList s=none:=by simp only[cdraw,h0,Bool.false_eq_true,if_false]
      simp only[cG,if_true,Lb,h6,h4,Option.map_some,hks,nU h5]
     ·cases hx
  |false=>
   simp only[Bool.false_eq_true,if_false,Option.map_eq_some_iff] at hx;obtain⟨xs,hxs,rfl⟩:=hx;simp only[cA,Option.map_eq_some_iff] at h;obtain⟨s',h,rfl⟩:=h;simp only[cG,Bool.false_eq_true,if_false,p5 _ _ _ _ hxs h,Option.map_some]
 |seq a b iha ihb=>
  intro x hx n s r h;simp only[bh,Option.bind_eq_some_iff,Option.map_eq_some_iff] at hx;obtain⟨y,hy,z,hz,rfl⟩:=hx;simp only[cA,cG,Option.bind_eq_some_iff] at h ⊢;obtain⟨⟨e,s1⟩,h1,h2⟩:=h
  refine⟨_,iha y hy _ _ _ h1,?_⟩
  cases e
  case normal=>exact ihb z hz _ _ _ h2
  all_goals exact h2
 |cond c a b iha ihb=>
  intro x hx n s r h;simp only[bh,Option.bind_eq_some_iff,Option.map_eq_some_iff] at hx;obtain⟨y,hy,z,hz,rfl⟩:=hx;simp only[cA,cG] at h ⊢
  split at h
  ·rename_i hc;simp only[hc];exact iha y hy _ _ _ h
  ·rename_i hc;simp only[hc];exact ihb z hz _ _ _ h
  ·cases h
 |block id c ih=>
  intro x hx n s r h;simp only[bh,Option.map_eq_some_iff] at hx;obtain⟨y,hy,rfl⟩:=hx;simp only[cA,cG,Option.map_eq_some_iff] at h ⊢;obtain⟨r1,h1,h2⟩:=h
  exact⟨r1,ih y hy _ _ _ h1,h2⟩
 |loop c ih=>
  intro x hx n s r h;simp only[bh,Option.map_eq_some_iff] at hx;obtain⟨y,hy,rfl⟩:=hx;simp only[cA,cG] at h ⊢;exact lz (λs r h=>ih y hy _ _ _ h) _ _ _ _ (Nat.le_refl _) h
 |exit id=>
  intro x hx n s r h;simp only[bh,Option.some.injEq] at hx;subst hx;simpa only[cA,cG] using h
 |ret=>
  intro x hx n s r h;simp only[bh,Option.some.injEq] at hx;subst hx;simpa only[cA,cG] using h
 |_=>intro x hx;simp[bh] at hx
end
end Go.Cm
