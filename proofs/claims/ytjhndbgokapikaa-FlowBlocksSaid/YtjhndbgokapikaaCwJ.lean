import Derived.Test.YtjhndbgokapikaaCwE
set_option linter.unusedSimpArgs false
set_option linter.unusedVariables false
namespace Go.Cm
def hit (f:Bool×Nat):Key→Bool
 |.l j=>if f.1 then decide (16*f.2≤j) else decide (j=16*f.2)
 |.g _=>false
theorem xn {off:List (Bool×Nat)}{k:Key}{g o:Nat}:pO off (.ptr k g o)=off.any λx=>hit x k:=by
 cases k with
 |l j=>rfl
 |g n=>simp[pO,hit]
theorem Lp {d:Nat}{m:Mem}:sameAt d m m:=by unfold sameAt;split<;>rfl
theorem MV {d:Nat}{m m':Mem}(h:sameAt d m m') (hd:d≠HM):aK m.L (16*d)=aK m'.L (16*d):=by unfold sameAt at h;rwa [if_neg hd] at h
def OffF (f:Bool×Nat) (m m':Mem):Prop:=∀k,hit f k=false→(m.get k).map HO.flat=(m'.get k).map HO.flat
section
variable {P:Program}{A:Ann}{F:aW}{fid:FuncId}{nt:Nat}{m m' m'':Mem}{f:Bool×Nat}
theorem SeenEq.off (h:SeenEq m m'):OffF f m m':=λk _=>h k
theorem OffF.trans (h:OffF f m m') (h':OffF f m' m''):OffF f m m'':=λk hk=>(h k hk).trans (h' k hk)
theorem OffF.set {j:Nat}{h:HO}(hj:hit f (.l j)=true):OffF f m { m with L:=gb m.L j h }:=by
 intro k hk
 cases k with
 |g n=>rfl
 |l i=>
  have:j≠i:=λe=>by rw[e,hk] at hj;cases hj
  simp only[Mem.get,aq,if_neg this]
theorem OffF.add {j:Nat}{mk:Nat→HO}(hj:hit f (.l j)=true):OffF f m (m.add false j mk).2.2:=OffF.set hj
theorem OffF.adopt1 {j:Nat}{v:CV}(hj:hit f (.l j)=true):OffF f m (adopt1 false j v m).2:=by
 unfold Cm.adopt1;split
 ·simp only;exact OffF.add hj
 ·exact(SeenEq.refl _).off
theorem OffF.adopts {d:Nat}:∀(cs:List CV) (j:Nat) (m:Mem),16*d≤j→OffF (true,d) m (adopts false j cs m).2
 |[],j,m,_=>(SeenEq.refl _).off
 |v::r,j,m,h=>by
  simp only[Cm.adopts]
  exact(OffF.adopt1 (by simp[hit,h])).trans (OffF.adopts r (j+1) _ (by omega))
theorem OffF.adopt {d:Nat}{v:CV}:OffF (true,d) m (adopt false d v m).2:=by
 cases v
 case tuple cs=>exact OffF.adopts cs _ _ (by omega)
 all_goals exact OffF.adopt1 (by simp[hit])
theorem DZ {news:List (Nat×Tmp)}{o:Oper}{ρ:Operand→CV}{c:CV}(hf:rR A fid news o=some f) (h:cval P A F fid ρ o m=some (c,m'))
  (hn:∀b∈news,∃gn,ρ (.tmp b.2)=.ptr (.l (16*b.2)) gn 0) (hfun:∀g,ρ (.func g)=.func (.func g) [] []) (ha:∀c t r,o.op=.call c→c.callee=.builtin .append→c.args.toList=.tmp t::r→e9 [f] (ρ (.tmp t))=false)
  (hs:∀ty t v,o.op=.store ty (.tmp t) v→(news.any λx=>x.2==t)=false→∀u,A.base fid t=some u→∃g o,ρ (.tmp t)=.ptr (.l (16*u)) g o):OffF f m m':=by
 obtain⟨dst,op,ty,pos,after,guard⟩:=o
 cases op<;>simp only[rR,reduceCtorEq] at hf
 case buildSlice t n parts=>
  cases dst with
  |none=>simp at hf
  |some d=>
   simp only[Option.bind_some] at hf
   split at hf
   ·cases hf
   ·rename_i hg
    simp only[Option.some.injEq] at hf;subst hf;simp only[cval] at h
    split at h
    ·split at h
     ·split at h
      ·simp only[Option.bind_eq_some_iff,Option.map_eq_some_iff] at h
       obtain⟨cs,_,y,hy,h⟩:=h;have hgs:di (A.glob fid) (some d)=false:=by simpa[di] using hg
       simp only[hgs,Prod.mk.injEq] at h;rw[←h.2]
       exact(fy hy).off.trans (OffF.add (by simp[hit,cW]))
      ·cases h
     ·cases h
    ·cases h
 case call c0=>
  obtain⟨callee,args,argTypes⟩:=c0
  cases callee<;>simp only[reduceCtorEq] at hf
  case builtin b=>
   cases b<;>simp only[reduceCtorEq] at hf
   obtain⟨t,r,d,hargs,hdst,hf⟩:∃t r d,args.toList=.tmp t::r∧dst=some d∧(if (A.glob fid).contains d then none else some (true,min t d))=some f:=by
    cases hargs:args.toList with
    |nil=>rw[hargs] at hf;cases hf
    |cons a r=>
     rw[hargs] at hf
     cases a<;>cases dst<;>simp only[reduceCtorEq] at hf
     exact⟨_,_,_,rfl,rfl,hf⟩
   by_cases htr:True
   ·split at hf
    ·cases hf
    ·rename_i hg
     simp only[Option.some.injEq] at hf;subst hf;have hro:=ha _ t r rfl rfl hargs;have hgs:di (A.glob fid) (some d)=false:=by simpa[di] using hg
     have hit':∀j,16*min t d≤j→hit (true,min t d) (.l j)=true:=λj hj=>by simp only[hit,if_true,decide_eq_true_eq];exact hj
     have hmin:min t d≤d:=Nat.min_le_right t d;simp only[cval,hargs,List.map_cons,hdst,hgs,cW] at h;generalize ρ (.tmp t)=s at hro h
     split at h
     ·rename_i s' x ty' r' hl1 hl2
      simp only[List.cons.injEq] at hl1;obtain⟨rfl,_⟩:=hl1
      split at h
      ·unfold ky at h
       split at h
       ·split at h
        ·cases h
        ·split at h
         ·split at h
          ·split at h
           ·simp only[Option.some.injEq,Prod.mk.injEq] at h
            rw[←h.2];exact(SeenEq.refl _).off
           ·split at h
            ·simp only[Option.some.injEq,Prod.mk.injEq] at h
             rw[←h.2];exact OffF.add (hit' _ (Nat.mul_le_mul_left 16 hmin))
            ·cases h
          ·rename_i k gn off len
           split at h
           ·split at h
            ·simp only[Option.some.injEq,Prod.mk.injEq] at h
             rw[←h.2]
             cases k with
             |g n=>simp[e9] at hro
             |l j=>
              simp only[e9,List.any_cons,List.any_nil,Bool.or_false,Bool.true_and,decide_eq_false_iff_not] at hro;exact OffF.set (hit' _ (Nat.le_of_not_lt hro))
            ·cases h
           ·cases h
          ·cases h
         ·cases h
       ·cases h
      ·cases h
     ·cases h
   ·exact absurd trivial htr
  rename_i g
  cases g<;>simp only[reduceCtorEq] at hf
  rename_i g
  split at hf
  ·rename_i hp
   cases dst with
   |none=>simp at hf
   |some d=>
    simp only[Option.bind_some] at hf
    split at hf
    ·cases hf
    ·rename_i hg
     simp only[Option.some.injEq] at hf;subst hf;simp only[cval,hfun,dx,List.nil_append,List.append_nil,cd,hp,if_true,Option.bind_eq_some_iff] at h;obtain⟨⟨xs,m1⟩,hx,h⟩:=h;simp only at h
     split at h
     ·simp only[Option.bind_eq_some_iff] at h
      obtain⟨⟨r,H'⟩,hr',h⟩:=h;simp only at h
      split at h
      ·have hm:SeenEq m (if fa r=true then m else m1):=by
        split
        ·exact SeenEq.refl _
        ·exact fy hx
       have hg':(A.glob fid).contains d=false:=by simpa using hg
       simp only[jf,hg',Option.some.injEq] at h;have h2:=congrArg Prod.snd h;simp only at h2;rw[←h2];exact hm.off.trans OffF.adopt
      ·cases h
     ·cases h
  ·cases hf
 case store t a x=>
  cases a<;>simp only[reduceCtorEq] at hf
  rename_i s;have hkey:f.1=false∧∃gn o,ρ (.tmp s)=.ptr (.l (16*f.2)) gn o:=by
   split at hf
   ·rename_i hs'
    simp only[Option.some.injEq] at hf;subst hf;simp only[List.any_eq_true,beq_iff_eq] at hs';obtain⟨b,hb,rfl⟩:=hs';obtain⟨gn,hp⟩:=hn b hb
    exact⟨rfl,gn,0,hp⟩
   ·rename_i hs'
    simp only[Option.map_eq_some_iff] at hf;obtain⟨u,hu,rfl⟩:=hf
    exact⟨rfl,hs _ _ _ rfl (by cases hx:news.any λx=>x.2==s with|false=>rfl|true=>exact absurd hx hs') u hu⟩
  ·obtain⟨hf1,gn,o0,hp⟩:=hkey
   obtain⟨fb,d⟩:=f;simp only at hf1 hp;subst hf1;simp only[cval,hp,Option.map_eq_some_iff,Prod.mk.injEq] at h;obtain⟨m2,h,_,rfl⟩:=h;unfold ls at h
   split at h
   ·split at h
    ·simp only[fT] at h
     split at h
     ·split at h
      ·simp only[Option.some.injEq] at h
       subst h;exact OffF.set (by simp[hit])
      ·cases h
     ·split at h
      ·simp only[Option.bind_eq_some_iff] at h
       obtain⟨y,hy,h⟩:=h
       split at h
       ·split at h
        ·simp only[Option.some.injEq] at h
         subst h
         exact(fy hy).off.trans (OffF.set (by simp[hit]))
        ·cases h
       ·cases h
      ·cases h
     ·cases h
    ·cases h
   ·cases h
theorem eB {o:Oper}(h:plainAlloc P o=true):∃t d,o.op=.alloc t∧o.guard=none∧o.dst=some d∧lS P t=none:=by
 obtain⟨dst,op,ty,pos,after,guard⟩:=o
 cases op<;>cases guard<;>cases dst<;>simp only[plainAlloc,Bool.false_eq_true,Option.isNone_iff_eq_none] at h
 exact⟨_,_,rfl,rfl,rfl,h⟩
theorem nZ:∀(l:List Oper) (i:Nat) (s s1:CS),nf P A F fid false ((l.filter (plainAlloc P)).map D8) s=some s1 →
  (∀o∈l,plainAlloc P o=true→∀d,o.dst=some d→(A.glob fid).contains d=false) →
  (∀(j k:Nat) (x y:Oper) d,l[j]?=some x→l[k]?=some y→x.dst=some d→y.dst=some d→j=k) →
  ∃al,Hd P A fid i l s.m=some (al,s1.m) ∧
   (∀(k:Nat) (o:Oper) d,l[k]?=some o→plainAlloc P o=true→o.dst=some d→∃b,oU al (i+k)=some b∧b.key=.l (16*d)∧bH s1.sl d=.ptr b.key b.gn 0) ∧
   (∀t,(∀(k:Nat) (o:Oper),l[k]?=some o→plainAlloc P o=true→o.dst≠some t)→bH s1.sl t=bH s.sl t) ∧
   (∀b∈al,∃(k:Nat) (o:Oper) (d:Tmp),l[k]?=some o∧plainAlloc P o=true∧o.dst=some d∧b.i=i+k∧b.key=.l (16*d)) ∧
   (∀b∈al,cC b s1.m=true)∧iP al=true ∧
   (∀key,(∀(k:Nat) (o:Oper) d,l[k]?=some o→plainAlloc P o=true→o.dst=some d→key≠.l (16*d))→s1.m.get key=s.m.get key)
 |[],i,s,s1,h,_,_=>by
  simp only[List.filter_nil,List.map_nil,nf,Option.some.injEq] at h;subst h
  exact⟨[],rfl,λk o d hk=>by simp at hk,λ_ _=>rfl,λb hb=>by simp at hb,λb hb=>by simp at hb,rfl,λ_ _=>rfl⟩
 |o::r,i,s,s1,h,hg,hd=>by
  have hd':∀(j k:Nat) (x y:Oper) d,r[j]?=some x→r[k]?=some y→x.dst=some d→y.dst=some d→j=k:=λj k x y d hx hy h1 h2=>by
   have:=hd (j+1) (k+1) x y d (by simpa using hx) (by simpa using hy) h1 h2;omega
  by_cases hp:plainAlloc P o=true
  ·obtain⟨t,d,hop,hgd,hdst,htr⟩:=eB hp
   have hgl:=hg o List.mem_cons_self hp d hdst;simp only[List.filter_cons,hp,if_true,List.map_cons,nf,Option.bind_eq_some_iff] at h;obtain⟨s2,h2,h3⟩:=h;simp only[sop,D8,iX,fw,SO.up,hop,hdst,cval,Bool.false_and,Bool.false_eq_true,if_false,Option.bind_eq_some_iff] at h2;obtain⟨⟨c,m2⟩,h2,h4⟩:=h2;simp only[Option.some.injEq] at h4;subst h4
   split at h2
   ·rename_i z hz
    simp only[htr,di,hgl,cW,Mem.add,Bool.false_eq_true,if_false,Option.some.injEq,Prod.mk.injEq] at h2;obtain⟨rfl,rfl⟩:=h2;obtain⟨al,a1,a2,a3,a4,a5,a6,a7⟩:=nZ r (i+1) _ s1 h3 (λo ho=>hg o (List.mem_cons_of_mem _ ho)) hd';have hnd:∀(k:Nat) (o':Oper) d',r[k]?=some o'→plainAlloc P o'=true→o'.dst=some d'→d≠d':=λk o' d' hk _ hdd e=>by
     subst e;have:=hd 0 (k+1) o o' d rfl (by simpa using hk) hdst hdd;omega
    have hkeep:s1.m.get (.l (16*d))=some (.var (((aK s.m.L (16*d)).map HO.gn).getD 0+1) z 0):=by
     rw[a7 _ λk o' d' hk hpp hdd e=>hnd k o' d' hk hpp hdd (by simp only[Key.l.injEq] at e;exact Nat.eq_of_mul_eq_mul_left (by decide) e)];simp only[Mem.get,aq,if_true]
    refine⟨{ i:=i,key:=.l (16*d),gn:=((aK s.m.L (16*d)).map HO.gn).getD 0+1,z:=z }::al,?_,λk o' d' hk hpp hdd=>?_,λu hu=>?_,λb hb=>?_,λb hb=>?_,?_,λkey hkey=>?_⟩
    ·simp only[Hd,hp,if_true,hop,hz,Option.bind_some,hdst,di,hgl,cW,Mem.add,Bool.false_eq_true,if_false,a1,Option.map_some]
    ·cases k with
     |zero=>
      simp only[List.getElem?_cons_zero,Option.some.injEq] at hk;subst hk;rw[hdst] at hdd
      injection hdd with hdd
      subst hdd
      refine⟨{ i:=i,key:=.l (16*d),gn:=((aK s.m.L (16*d)).map HO.gn).getD 0+1,z:=z },by simp only[oU,Nat.add_zero,if_true],rfl,?_⟩
      rw[a3 d λk o' hk hpp hdd=>hnd k o' d hk hpp hdd rfl];simp[eu,dH]
     |succ k=>
      obtain⟨b,b1,b2,b3⟩:=a2 k o' d' (by simpa using hk) hpp hdd
      refine⟨b,?_,b2,b3⟩
      simp only[oU];rw[if_neg (by omega),show i+(k+1)=i+1+k from by omega,b1]
    ·rw[a3 u λk o' hk hpp=>hu (k+1) o' (by simpa using hk) hpp]
     have:d≠u:=λe=>hu 0 o rfl hp (by rw[hdst,e]);simp[eu,dH,this]
    ·rcases List.mem_cons.1 hb with rfl|hb
     ·exact⟨0,o,d,rfl,hp,hdst,rfl,rfl⟩
     ·obtain⟨k,o',d',e1,e2,e3,e4,e5⟩:=a4 b hb
      exact⟨k+1,o',d',by simpa using e1,e2,e3,by omega,e5⟩
    ·rcases List.mem_cons.1 hb with rfl|hb
     ·simp only[cC,hkeep,decide_true,Bool.true_and]
      exact beqs_refl _
     ·exact a5 b hb
    ·simp only[iP,Bool.and_eq_true,List.all_eq_true,decide_eq_true_eq]
     refine⟨λb hb e=>?_,a6⟩
     obtain⟨k,o',d',e1,e2,e3,e4,e5⟩:=a4 b hb;rw[e5] at e;simp only[Key.l.injEq] at e;exact hnd k o' d' e1 e2 e3 (Nat.eq_of_mul_eq_mul_left (by decide) e)
    ·rw[a7 key λk o' d' hk hpp hdd=>hkey (k+1) o' d' (by simpa using hk) hpp hdd]
     have hne:=hkey 0 o d rfl hp hdst
     cases key with
     |g n=>rfl
     |l j=>
      have:16*d≠j:=λe=>hne (by rw[e]);simp only[Mem.get,aq,if_neg this]
   ·cases h2
  ·have hp':plainAlloc P o=false:=by simpa using hp
   simp only[List.filter_cons,hp',Bool.false_eq_true,if_false] at h;obtain⟨al,a1,a2,a3,a4,a5,a6,a7⟩:=nZ r (i+1) s s1 h (λo ho=>hg o (List.mem_cons_of_mem _ ho)) hd'
   refine⟨al,by simp only[Hd,hp',Bool.false_eq_true,if_false,a1],λk o' d' hk hpp hdd=>?_,λu hu=>a3 u λk o' hk=>hu (k+1) o' (by simpa using hk),λb hb=>?_,a5,a6,λkey hkey=>a7 key λk o' d' hk=>hkey (k+1) o' d' (by simpa using hk)⟩
   ·cases k with
    |zero=>
     simp only[List.getElem?_cons_zero,Option.some.injEq] at hk;subst hk;rw[hp'] at hpp;cases hpp
    |succ k=>
     obtain⟨b,b1,b2⟩:=a2 k o' d' (by simpa using hk) hpp hdd
     exact⟨b,by rw[show i+(k+1)=i+1+k from by omega,b1],b2⟩
   ·obtain⟨k,o',d',e1,e2,e3,e4,e5⟩:=a4 b hb
    exact⟨k+1,o',d',by simpa using e1,e2,e3,by omega,e5⟩
theorem cR:∀(l:List Oper) (i:Nat) (b:Nat×Tmp),b∈gC P i l↔∃k o,l[k]?=some o∧plainAlloc P o=true∧o.dst=some b.2∧b.1=i+k
 |[],i,b=>by simp[gC]
 |o::r,i,b=>by
  have ih:=cR r (i+1) b;have shift:(∃k o',r[k]?=some o'∧plainAlloc P o'=true∧o'.dst=some b.2∧b.1=i+1+k)↔∃k o',(o::r)[k+1]?=some o'∧plainAlloc P o'=true∧o'.dst=some b.2∧b.1=i+(k+1):=by
   constructor
   ·rintro⟨k,o',h1,h2,h3,h4⟩;exact⟨k,o',by simpa using h1,h2,h3,by omega⟩
   ·rintro⟨k,o',h1,h2,h3,h4⟩;exact⟨k,o',by simpa using h1,h2,h3,by omega⟩
  have split0:(∃k o',(o::r)[k]?=some o'∧plainAlloc P o'=true∧o'.dst=some b.2∧b.1=i+k) ↔
    (plainAlloc P o=true∧o.dst=some b.2∧b.1=i)∨∃k o',(o::r)[k+1]?=some o'∧plainAlloc P o'=true∧o'.dst=some b.2∧b.1=i+(k+1):=by
   constructor
   ·rintro⟨k,o',h1,h2,h3,h4⟩
    cases k with
    |zero=>
     simp only[List.getElem?_cons_zero,Option.some.injEq] at h1;subst h1;exact .inl ⟨h2,h3,h4⟩
    |succ k=>exact .inr ⟨k,o',h1,h2,h3,h4⟩
   ·rintro(⟨h2,h3,h4⟩|⟨k,o',h⟩)
    ·exact⟨0,o,rfl,h2,h3,h4⟩
    ·exact⟨k+1,o',h⟩
  rw[split0,←shift,←ih];simp only[gC]
  by_cases hp:plainAlloc P o=true
  ·obtain⟨t,d,hop,hgd,hdst,htr⟩:=eB hp
   simp only[hp,if_true,hdst,List.mem_cons,Option.some.injEq,true_and];constructor
   ·rintro(rfl|h)
    ·exact .inl ⟨rfl,rfl⟩
    ·exact .inr h
   ·rintro(⟨h1,h2⟩|h)
    ·left;obtain⟨x,y⟩:=b;simp only at h1 h2;rw[h1,h2]
    ·exact .inr h
  ·simp[hp]
theorem qB {ops:List Oper}{o:Oper}{sl sl':List CV}(h:∀t∈cg ops o,bH sl t=bH sl' t):dR ops sl o=dR ops sl' o:=by
 unfold dR;split
 ·rfl
 ·rename_i g w hg
  split
  ·rename_i d hd
   rw[h d (by simp only[cg,hg,hd];exact List.mem_append_right _ (by simp))]
  ·rfl
theorem pK {ops:List Oper}{o:Oper}{sl sl':List CV}(h:∀t∈cg ops o,bH sl t=bH sl' t) {x:Operand}(hx:x∈o.op.operands.toList):evL (cg ops o) sl x=ev sl' x:=by
 rw[DV hx]
 cases x with
 |tmp t=>
  have:t∈cg ops o:=by
   simp only[cg];exact List.mem_append_left _ (List.mem_filterMap.2 ⟨.tmp t,hx,rfl⟩)
  exact h t this
 |_=>rfl
theorem nC {ops:List Oper}{masks:List Nat}{news:List (Nat×Tmp)}{es:List (Nat×Option (Bool×Nat))}:∀(l:List Oper) (i:Nat),vU P ops masks news es i l=true→∀(k:Nat) (o:Oper),l[k]?=some o →
  (bJ o.op=true→ge o.op=true∨xW masks es (i+k)=true∨(iO o.op=true∧DX masks es (i+k)=true)) ∧
  (∀b∈news,b.1<i+k∨b.2∉cg ops o)∧(bt P o=true→iO o.op=false)
 |[],_,_,k,o,ho=>by simp at ho
 |x::r,i,h,k,o,ho=>by
  simp only[vU,Bool.and_eq_true,Bool.or_eq_true,Bool.not_eq_true',List.all_eq_true,decide_eq_true_eq] at h
  cases k with
  |zero=>
   simp only[List.getElem?_cons_zero,Option.some.injEq] at ho;subst ho
   refine⟨λhq=>?_,λb hb=>?_,λhe=>?_⟩
   ·rcases h.1.1.1 with((h1|h1)|h1)|h1
    ·rw[hq] at h1;cases h1
    ·exact .inl h1
    ·exact .inr (.inl h1)
    ·exact .inr (.inr h1)
   ·rcases h.1.1.2 b hb with h1|h1
    ·exact .inl h1
    ·exact .inr (by simpa using h1)
   ·rcases h.1.2 with h1|h1
    ·rw[he] at h1;cases h1
    ·simpa using h1
  |succ k=>
   simp only[List.getElem?_cons_succ] at ho;have:=nC r (i+1) h.2 k o ho
   rwa [show i+1+k=i+(k+1) from by omega] at this
def Og (P:Program) (A:Ann) (F:aW) (fid:FuncId) (ops:List Oper) (masks:List Nat) (news:List (Nat×Tmp)) (es:List (Nat×Option (Bool×Nat))) (x:Row):Prop:=
 (bt P x.o=true→∀f,rR A fid news x.o=some f→OffF f x.m x.m') ∧
 (x.go=true→bJ x.o.op=true→cval P A F fid (evL (cg ops x.o) x.sl) x.o x.m=some (x.v,x.m)∨plainAlloc P x.o=true) ∧
 (x.go=true→∀t p,x.o.op=.load t p→pO (offL masks es x.i) (evL (cg ops x.o) x.sl p)=false) ∧
 (bt P x.o=true→∀z∈offE masks news x.i,sameAt z.2 x.m x.m')
theorem offE_f {masks:List Nat}{news:List (Nat×Tmp)}{i:Nat}{z:Bool×Nat}(h:z∈offE masks news i):z.1=false:=by
 obtain⟨b,_,h⟩:=List.mem_filterMap.1 h
 split at h
 ·cases h
 ·simp only[Option.some.injEq] at h
  rw[←h]
theorem ug {off off':List (Bool×Nat)}{v:CV}(h:e9 off v=false) (hs:∀x∈off',x∈off):e9 off' v=false:=by
 unfold e9 at h ⊢;split
 ·simp only[List.any_eq_false] at h ⊢;exact λx hx=>h x (hs x hx)
 ·simp only[List.any_eq_false] at h ⊢;exact λx hx=>h x (hs x hx)
 ·rfl
theorem lu {ops:List Oper}{masks:List Nat}{news:List (Nat×Tmp)}{es:List (Nat×Option (Bool×Nat))}{al:List Al}(hnews:news=gC P 0 ops) (hreg:RegOK P ops masks)
  (hdr:∀(k:Nat) (o:Oper),ops[k]?=some o→(∀b∈news,b.1<k∨b.2∉cg ops o)∧(bt P o=true→iO o.op=false))
  (hdok:∀o∈ops,plainAlloc P o=true→dok nt o.dst=true)
  (hal:∀(k:Nat) (o:Oper) d,ops[k]?=some o→plainAlloc P o=true→o.dst=some d→∃b,oU al k=some b∧b.key=.l (16*d)) :
  ∀(l:List Oper) (i:Nat) (xs:List SO) (sl:List CV) (s s':CS),(∀k,l[k]?=ops[i+k]?)→jn P A fid nt ops masks news es i l=some xs→nf P A F fid false xs s=some s' →
   (∀t,(∀b∈news,b.2=t→b.1<i)→bH sl t=bH s.sl t) →
   (∀b∈news,∃c,oU al b.1=some c∧bH s.sl b.2=.ptr c.key c.gn 0∧c.key=.l (16*b.2)) →
   ∃rows sl',jG P A F fid nt ops al i l sl s.m=some (rows,sl',s'.m)∧(∀t,(∀b∈news,b.2=t→b.1<i+l.length)→bH sl' t=bH s'.sl t)∧∀x∈rows,Og P A F fid ops masks news es x
 |[],i,xs,sl,s,s',_,hx,h,hR,_=>by
  simp only[jn,Option.some.injEq] at hx;subst hx;simp only[nf,Option.some.injEq] at h;subst h
  exact⟨[],sl,rfl,by simpa using hR,λx hx=>by simp at hx⟩
 |o::l,i,xs,sl,s,s',hl,hx,h,hR,hN=>by
  have ho:ops[i]?=some o:=by simpa using(hl 0).symm
  have hl':∀k,l[k]?=ops[i+1+k]?:=λk=>by
   have:=hl (k+1);simp only[List.getElem?_cons_succ] at this;rw[this,show i+(k+1)=i+1+k from by omega]
  have hmem:o∈ops:=List.mem_of_getElem? ho;simp only[jn] at hx
  by_cases hp:plainAlloc P o=true
  · -- a new variable
   obtain⟨t,d,hop,hgd,hdst,htr⟩:=eB hp;simp only[hp,if_true] at hx;have hbn:(i,d)∈news:=by rw[hnews,cR];exact⟨i,o,ho,hp,hdst,by simp⟩
   obtain⟨c,c1,c2,c3⟩:=hN _ hbn;simp only at c1 c2 c3;have hR':∀t,(∀b∈news,b.2=t→b.1<i+1)→bH (eu sl o.dst (.ptr c.key c.gn 0)) t=bH s.sl t:=λu hu=>by
    simp only[hdst,eu,dH];split
    ·rename_i e;rw[←e,c2]
    ·rename_i e
     refine hR u λb hb hbu=>?_;have:=hu b hb hbu;rcases Nat.lt_or_ge b.1 i with h1|h1
     ·exact h1
     ·have hbi:b.1=i:=by omega
      rw[hnews,cR] at hb;obtain⟨k,o',e1,e2,e3,e4⟩:=hb;have:k=i:=by omega
      rw[this,ho] at e1
      injection e1 with e1
      rw[←e1,hdst] at e3
      injection e3 with e3
      exact absurd (e3.trans hbu) e
   obtain⟨rows,sl',g1,g2,g3⟩:=lu hnews hreg hdr hdok hal l (i+1) xs _ s s' hl' hx h hR' hN;have hd:kE P A F fid nt ops al i o sl s.m=some { i:=i,o:=o,sl:=sl,m:=s.m,go:=true,v:=.ptr c.key c.gn 0,m':=s.m }:=by
    unfold kE;rw[if_neg (by simp[hdok o hmem hp])];simp only[dR,hgd,hp,if_true,c1,Option.map_some]
   refine⟨{ i:=i,o:=o,sl:=sl,m:=s.m,go:=true,v:=.ptr c.key c.gn 0,m':=s.m }::rows,sl',?_,λu hu=>g2 u λb hb hbu=>?_,λx hx=>?_⟩
   ·simp only[jG,hd,Option.bind_some,g1,Option.map_some]
   ·have:=hu b hb hbu;simp only[List.length_cons] at this;omega
   ·rcases List.mem_cons.1 hx with rfl|hx
    ·have hne:bt P o=false:=lW hp
     refine⟨λhe=>?_,λ_ _=>.inr hp,λ_ t p he=>?_,λhe=>?_⟩
     ·simp only[hne] at he;cases he
     ·simp only[hop,reduceCtorEq] at he
     ·simp only[hne] at he;cases he
    ·exact g3 x hx
  ·have hp':plainAlloc P o=false:=by simpa using hp
   simp only[hp',Bool.false_eq_true,if_false,Option.bind_eq_some_iff,Option.map_eq_some_iff] at hx;obtain⟨x0,hx0,ys,hys,rfl⟩:=hx;obtain⟨e1,e2,e3,e4,e5⟩:=iY hx0;simp only[nf,Option.bind_eq_some_iff] at h;obtain⟨s1,h1,h2⟩:=h;obtain⟨hlk,hel⟩:=hdr i o ho;have hsame:∀t∈cg ops o,bH sl t=bH s.sl t:=λt ht=>hR t λb hb hbt=>by
    rcases hlk b hb with h|h
    ·exact h
    ·exact absurd (hbt ▸ ht) h
   have hgc:dR ops sl o=iX s.sl x0.g:=by rw[qB hsame,e4]
   have hcv:∀m,cval P A F fid (evL (cg ops o) sl) o m=cval P A F fid (ev s.sl) o m:=λm=>nB λy hy=>pK hsame hy;have hdn:∀b∈news,o.dst≠some b.2:=λb hb he=>by
    rw[hnews,cR] at hb;obtain⟨k,o',f1,f2,f3,f4⟩:=hb;have:=hreg.dst k i o' o b.2 f1 ho f3 he;rw[this,ho] at f1
    injection f1 with f1
    rw[←f1,hp'] at f2;cases f2
   have hsp:∀(sl:List CV) v t,o.dst≠some t→bH (eu sl o.dst v) t=bH sl t:=λsl v t ht=>by
    cases hd:o.dst with
    |none=>rfl
    |some d=>simp only[eu,dH];rw[if_neg (λe=>ht (by rw[hd,e]))]
   have hsp2:∀(sl sl':List CV) v t,bH sl t=bH sl' t→bH (eu sl o.dst v) t=bH (eu sl' o.dst v) t:=λsl sl' v t ht=>by
    cases hd:o.dst with
    |none=>exact ht
    |some d=>simp only[eu,dH];split;rfl;exact ht
   have step:∃y:Row,kE P A F fid nt ops al i o sl s.m=some y∧y.o=o∧s1={ sl:=eu s.sl o.dst y.v,m:=y.m' }∧Og P A F fid ops masks news es y:=by
    unfold sop at h1;rw[KQ o (x:={ x0 with off:=sM P A fid masks news es i o }) e2 e3] at h1;simp only[e3] at h1;unfold kE;rw[if_neg (by simp[e1]),hgc,hp']
    split at h1
    ·rename_i hg
     simp only[hg,Bool.false_eq_true,if_false];simp only[Bool.false_and,Bool.false_eq_true,if_false,Option.bind_eq_some_iff,Option.some.injEq] at h1;obtain⟨⟨c,m1⟩,hy,h1⟩:=h1;have hy2:=lB hy;rw[hcv,hy2];have hqm:bJ o.op=true→m1=s.m:=λhq=>lG hq hy2
     refine⟨_,rfl,rfl,?_,λhe f hf=>?_,λ_ hq=>.inl ?_,λ_ t p hl=>?_,λhe z hz=>?_⟩
     ·simp only[←h1,e2]
      by_cases hq:bJ o.op=true
      ·simp only[hq,if_true]
       rw[hqm hq]
      ·simp only[hq,if_false];rfl
     ·simp only at he hf ⊢
      have hq:bJ o.op=false:=by
       cases hqq:bJ o.op
       ·rfl
       ·rw[eM hqq] at he;cases he
      simp only[hq,Bool.false_eq_true,if_false];have hnl:∀t p,o.op≠.load t p:=λt p e=>by have:=hel he;rw[e] at this;cases this
      obtain⟨_,hro,hst⟩:=sn hy hnl;refine DZ hf hy2 (λb hb=>by obtain⟨cc,_,q1,q2⟩:=hN b hb;exact⟨cc.gn,by rw[←q2];exact q1⟩) (λg=>rfl) (λc t r hc hcal hargs=>?_) (λty t v hop hnw u hu=>by
       refine hst _ _ _ hop u ?_;simp only[sM,he,if_true,Mw,hop,hnw,Bool.false_eq_true,if_false,hu,Option.map_some,Option.toList_some];exact List.mem_append_right _ (List.mem_append_right _ (by simp)))
      refine ug (hro c _ r hc hargs) λx hx=>?_;simp only[sM,he,if_true,uZ,hc,hcal];refine List.mem_append_right _ (List.mem_append_left _ ?_);rw[hf];simpa using hx
     ·simp only at hq ⊢
      rw[hcv,hy2,hqm hq]
     ·simp only at hl ⊢
      have hne:bt P o=false:=eM (by rw[hl];rfl);have hev:evL (cg ops o) sl p=ev s.sl p:=pK hsame (by rw[hl];simp[Op.operands]);rw[hev];simp only[sM,hne,Bool.false_eq_true,if_false,hl,iO,ge,Bool.not_false,Bool.and_self,if_true] at hy;unfold fw at hy
      split at hy
      ·rename_i hnil
       rw[hnil];generalize ev s.sl p=pv;unfold pO
       split<;>rfl
      ·simp only[offK] at hy
       split at hy
       ·cases hy
       ·rename_i hk
        simpa using hk
     ·simp only at he hz ⊢
      have hq:bJ o.op=false:=by
       cases hqq:bJ o.op
       ·rfl
       ·rw[eM hqq] at he;cases he
      simp only[hq,Bool.false_eq_true,if_false];have hnl:∀t p,o.op≠.load t p:=λt p e=>by have:=hel he;rw[e] at this;cases this
      refine(sn hy hnl).1 z ?_ (offE_f hz)
      simp only[sM,he,if_true];exact List.mem_append_left _ hz
    ·rename_i hg
     simp only[Option.some.injEq] at h1;simp only[hg]
     refine⟨_,rfl,rfl,by simp only[←h1,e2],λ_ f _=>(SeenEq.refl _).off,λhgo=>(by cases hgo),λhgo=>(by cases hgo),λ_ _ _=>Lp⟩
    ·cases h1
   obtain⟨y,hy1,hy2,hy3,hy4⟩:=step;subst hy3;have hR':∀t,(∀b∈news,b.2=t→b.1<i+1)→bH (eu sl o.dst y.v) t=bH (eu s.sl o.dst y.v) t:=λu hu=>by
    by_cases hdu:o.dst=some u
    ·rw[hdu];simp only[eu,dH,if_true]
    ·refine hsp2 _ _ _ _ (hR u λb hb hbu=>?_)
     have:=hu b hb hbu;rcases Nat.lt_or_ge b.1 i with h1|h1
     ·exact h1
     ·have hbi:b.1=i:=by omega
      rw[hnews,cR] at hb;obtain⟨k,o',f1,f2,f3,f4⟩:=hb;have:k=i:=by omega
      rw[this,ho] at f1
      injection f1 with f1
      rw[←f1,hp'] at f2;cases f2
   obtain⟨rows,sl',g1,g2,g3⟩:=lu hnews hreg hdr hdok hal l (i+1) ys (eu sl o.dst y.v) _ s' hl' hys h2 hR' (λb hb=>by
    obtain⟨c,c1,c2,c3⟩:=hN b hb
    exact⟨c,c1,by simp only;rw[hsp _ _ _ (hdn b hb),c2],c3⟩)
   refine⟨y::rows,sl',?_,λu hu=>g2 u λb hb hbu=>?_,λx hx=>?_⟩
   ·simp only at g1
    simp only[jG,hy1,Option.bind_some,g1,Option.map_some]
   ·have:=hu b hb hbu;simp only[List.length_cons] at this;omega
   ·rcases List.mem_cons.1 hx with rfl|hx
    ·exact hy4
    ·exact g3 x hx
theorem pL {news:List (Nat×Tmp)}:∀(rows:List Row) (i:Nat),(∀(k:Nat) (x:Row),rows[k]?=some x→x.i=i+k) →
  tR P A fid news i (rows.map (·.o))=(rows.filter λx=>bt P x.o).map λx=>(x.i,rR A fid news x.o)
 |[],i,_=>rfl
 |x::r,i,h=>by
  have ih:=pL (news:=news) r (i+1) λk y hy=>by
   have:=h (k+1) y (by simpa using hy);omega
  have h0:x.i=i:=by simpa using h 0 x rfl
  simp only[List.map_cons,tR]
  by_cases he:bt P x.o=true
  ·simp only[List.filter_cons,he,if_true,List.map_cons,ih,h0]
  ·simp only[List.filter_cons,he,ih];rfl
theorem Lm {p:CV}(h:∀k g o,p=.ptr k g o→(m.get k).map HO.flat=(m'.get k).map HO.flat) (n:Nat):bN m p n=bN m' p n:=by
 cases p<;>try rfl
 case ptr k gn off=>
  have:=h k gn off rfl;simp only[bN]
  cases h1:m.get k<;>cases h2:m'.get k<;>rw[h1,h2] at this<;>simp only[Option.map_none,Option.map_some,reduceCtorEq] at this
  rename_i x y;simp only[Option.some.injEq] at this
  cases x<;>cases y<;>simp only[HO.flat,reduceCtorEq,HO.var.injEq,HO.arr.injEq,HO.map.injEq] at this<;>simp_all [HO.gn,HO.isMap,HO.cells]
theorem xc {p:CV}(h:∀k g o,p=.ptr k g o→(m.get k).map HO.flat=(m'.get k).map HO.flat) (t:TypeId):eW P m t p=eW P m' t p:=by
 unfold eW;split
 ·rw[show(λsz=>(bN m p sz).map CV.agg)=λsz=>(bN m' p sz).map CV.agg from funext λsz=>by rw[Lm h]]
 ·rw[Lm h]
 ·rfl
theorem qx {b:Al}{j:Nat}(hk:b.key=.l j) (h:aK m.L j=aK m'.L j):cC b m'=cC b m:=by
 simp only[cC,hk,Mem.get,h]
theorem ml {dr:Bool}:∀(a b:List SO) (s:CS),nf P A F fid dr (a++b) s=(nf P A F fid dr a s).bind (nf P A F fid dr b)
 |[],b,s=>rfl
 |x::a,b,s=>by
  simp only[List.cons_append,nf,Option.bind_assoc]
  congr 1
  funext s1
  exact ml a b s1
set_option maxHeartbeats 1000000 in
theorem ndraw_ok {ops:List Oper}{xs:List SO}{s s':CS}(hst:drawOK P A fid ops=true) (hdok:(ops.all λo=>!(plainAlloc P o)||dok nt o.dst)=true) (hx:drawSO P A fid nt ops=some xs) (h:nf P A F fid false xs s=some s') :
  ∃sl,cdraw P A F fid nt ops s=some { sl:=sl,m:=s'.m }∧∀t,bH sl t=bH s'.sl t:=by
 obtain⟨masks,hmasks⟩:∃masks,masks=cy ops []:=⟨_,rfl⟩;obtain⟨news,hnews⟩:∃news,news=gC P 0 ops:=⟨_,rfl⟩;simp only[drawOK,←hmasks,←hnews,Bool.and_eq_true] at hst;simp only[drawSO,←hmasks,←hnews,Option.map_eq_some_iff] at hx;obtain⟨es2,hes2⟩:∃es2,es2=tR P A fid news 0 ops:=⟨_,rfl⟩;rw[←hes2] at hst hx;obtain⟨⟨⟨hreg,hdl⟩,hgl⟩,hmono⟩:=hst;obtain⟨ys,hys,rfl⟩:=hx;have hRg:=RegOK.of hreg;have hsl:=nC ops 0 hdl;have hgl':∀o∈ops,plainAlloc P o=true→∀d,o.dst=some d→(A.glob fid).contains d=false:=λo ho hp d hd=>by
  obtain⟨k,hk⟩:=List.getElem?_of_mem ho;have hb:(k,d)∈news:=by rw[hnews,cR];exact⟨k,o,hk,hp,hd,by simp⟩
  have:=List.all_eq_true.1 hgl _ hb;simp only[Bool.and_eq_true,Bool.not_eq_true'] at this;exact this.1
 rw[ml,Option.bind_eq_some_iff] at h;obtain⟨s1,h1,h2⟩:=h;obtain⟨al,a1,a2,a3,a4,a5,a6,a7⟩:=nZ ops 0 s s1 h1 hgl' hRg.dst;have hdok':∀o∈ops,plainAlloc P o=true→dok nt o.dst=true:=λo ho hp=>by
  have:=List.all_eq_true.1 hdok o ho;simpa[hp] using this
 obtain⟨rows,sl',hr,hR,hgood⟩:=lu (F:=F) hnews hRg (λk o hk=>by have:=(hsl k o hk).2;rwa [Nat.zero_add] at this) hdok'
  (λk o d hk hp hd=>by obtain⟨b,b1,b2,_⟩:=a2 k o d hk hp hd;exact⟨b,by simpa using b1,b2⟩) ops 0 ys s.sl s1 s' (λk=>by rw[Nat.zero_add]) hys h2
  (λt ht=>(a3 t λk o hk hp hd=>by
   have:=ht (k,t) (by rw[hnews,cR];exact⟨k,o,hk,hp,hd,by simp⟩) rfl
   omega).symm)
  (λb hb=>by
   rw[hnews,cR] at hb;obtain⟨k,o,f1,f2,f3,f4⟩:=hb;obtain⟨c,c1,c2,c3⟩:=a2 k o b.2 f1 f2 f3
   exact⟨c,by rw[f4];exact c1,c3,c2⟩)
 refine⟨sl',?_,λt=>hR t λb hb _=>by
  rw[hnews,cR] at hb;obtain⟨k,o,f1,_,_,f4⟩:=hb;have:=(List.getElem?_eq_some_iff.1 f1).1
  omega⟩
 obtain⟨r1,r2,r3,r4⟩:=pt _ _ _ _ _ _ _ hr;have hq0:∀(k:Nat) (x:Row),rows[k]?=some x→x.m=mF (rows.take k) s1.m∧(bt P x.o=false→x.m'=x.m):=λk x hx=>⟨(r4 k x hx).2.2.2.1,λhe=>by
  obtain⟨_,hc⟩:=fU (r4 k x hx).2.2.2.2;rcases hc with⟨_,_,hm⟩|⟨_,_,hm,_⟩|⟨_,_,_,_,hm⟩|⟨_,hp,hq,_⟩
  ·exact hm
  ·exact hm
  ·exact hm
  ·simp[bt,hp,hq] at he⟩
 obtain⟨hfirst,hnext⟩:=gL (eff:=λx=>bt P x.o) rows s1.m hq0;have hat:=qJ (eff:=λx=>bt P x.o) rows s1.m hq0;have hidx:∀(k:Nat) (x:Row),rows[k]?=some x→x.i=k:=λk x hx=>by have:=(r4 k x hx).2.1;omega
 have hops:rows.map (·.o)=ops:=by
  apply List.ext_getElem?
  intro k;rw[List.getElem?_map]
  cases hk:rows[k]? with
  |none=>
   rw[List.getElem?_eq_none_iff] at hk;simp only[Option.map_none]
   exact(List.getElem?_eq_none (by omega)).symm
  |some x=>
   simp only[Option.map_some]
   exact(r4 k x hk).1.symm
 have hes:es2=(rows.filter λx=>bt P x.o).map λx=>(x.i,rR A fid news x.o):=by
  have:=pL (P:=P) (A:=A) (fid:=fid) (news:=news) rows 0 λk x hx=>by rw[Nat.zero_add];exact hidx k x hx
  rw[hes2,←this,hops]
 rw[←r3] at hfirst hnext hat;obtain⟨es,hesd⟩:∃es,(rows.filter λx=>bt P x.o)=es:=⟨_,rfl⟩;rw[hesd] at hes hfirst hnext hat;have hesr:∀(j:Nat) (e:Row),es[j]?=some e→e∈rows∧bt P e.o=true:=λj e he=>by
  have:=List.mem_of_getElem? he;rw[←hesd,List.mem_filter] at this;exact this
 have hes2g:∀(j:Nat) (e:Row),es[j]?=some e→es2[j]?=some (e.i,rR A fid news e.o):=λj e he=>by rw[hes,List.getElem?_map,he];rfl
 have hesl:es2.length=es.length:=by rw[hes,List.length_map]
 have hmemo:∀(j:Nat) (e:Row),es[j]?=some e→cp es s'.m j=e.m:=λj e he=>by simp[cp,he]
 have hfresh:∀b∈al,∀(q:Nat) (e:Row),es[q]?=some e→(masks.getD e.i 0).testBit b.i=false→cC b e.m=true∧cC b e.m'=true:=by
  intro b hb q;obtain⟨kb,ob,db,b1,b2,b3,b4,b5⟩:=a4 b hb;have hbn:(b.i,db)∈news:=by rw[hnews,cR];exact⟨kb,ob,b1,b2,b3,by simpa using b4⟩
  have one:∀e∈rows,bt P e.o=true→(masks.getD e.i 0).testBit b.i=false→cC b e.m=true→cC b e.m'=true:=λe he heff hbit hf=>by
   have:=(hgood e he).2.2.2 heff (false,db) (List.mem_filterMap.2 ⟨(b.i,db),hbn,by simp only[hbit,Bool.false_eq_true,if_false]⟩);have hn:=List.all_eq_true.1 hgl _ hbn;simp only[Bool.and_eq_true,decide_eq_true_eq] at hn;rw[qx b5 (MV this hn.2)];exact hf
  induction q with
  |zero=>
   intro e he hbit;have hm:e.m=s1.m:=by rw[←hmemo 0 e he,hfirst]
   have h0:cC b e.m=true:=by rw[hm];exact a5 b hb
   exact⟨h0,one e (hesr 0 e he).1 (hesr 0 e he).2 hbit h0⟩
  |succ q ih=>
   intro e he hbit;have hlt:=(List.getElem?_eq_some_iff.1 he).1;have hq:es[q]?=some es[q]:=List.getElem?_eq_getElem (by omega);have hbq:(masks.getD (es[q]'(by omega)).i 0).testBit b.i=false:=by
    cases hbb:(masks.getD (es[q]'(by omega)).i 0).testBit b.i with
    |false=>rfl
    |true=>
     have h5:=List.all_eq_true.1 (List.all_eq_true.1 (List.all_eq_true.1 hmono _ hbn) (q+1) (List.mem_range.2 (by omega))) q (List.mem_range.2 (by omega));rw[hes2g q _ hq,hes2g (q+1) e he] at h5;simp only[hbb,Bool.not_true,Bool.false_or] at h5;rw[hbit] at h5;cases h5
   have h6:=(ih _ hq hbq).2;have hm:e.m=(es[q]'(by omega)).m':=by rw[←hmemo (q+1) e he,hnext q _ hq]
   have h0:cC b e.m=true:=by rw[hm];exact h6
   exact⟨h0,one e (hesr _ e he).1 (hesr _ e he).2 hbit h0⟩
 unfold cdraw;simp only[hreg,←hmasks,if_true,a1,Option.bind_some,hr];rw[if_pos];simp only[hesd,a6,Bool.true_and,Bool.and_eq_true,List.all_eq_true]
 refine⟨λb hb=>⟨a5 b hb,λe he=>?_⟩,λx hxm=>?_⟩
 ·obtain⟨q,hq⟩:=List.getElem?_of_mem he
  cases hbit:(masks.getD e.i 0).testBit b.i with
  |true=>rfl
  |false=>simp[(hfresh b hb q e hq hbit).2]
 simp only[Bool.or_eq_true,Bool.not_eq_true',Bool.and_eq_false_iff]
 by_cases hgo:x.go=true
 case neg=>exact .inl (.inl (by simpa using hgo))
 by_cases hq:bJ x.o.op=true
 case neg=>exact .inl (.inr (by simpa using hq))
 right;obtain⟨i,hi⟩:=List.getElem?_of_mem hxm
 have hxi:=hidx i x hi;obtain⟨_,hg2,hg3,_⟩:=hgood x hxm;have hcv:cval P A F fid (evL (cg ops x.o) x.sl) x.o x.m=some (x.v,x.m):=by
  rcases hg2 hgo hq with h|h
  ·exact h
  ·obtain⟨t,d,hop,_⟩:=eB h
   rw[hop] at hq;cases hq
 have fin:∀mm,cval P A F fid (evL (cg ops x.o) x.sl) x.o mm=some (x.v,mm)→eU P A F fid ops x mm=true:=λmm hmm=>by
  simp only[eU,hmm];exact beq_refl _
 refine lL _ λk hk h1 h2=>fin _ ?_;have hstat:=(hsl i x.o (r4 i x hi).1).1 hq;rw[Nat.zero_add] at hstat;obtain⟨p,hp⟩:∃p,((rows.take i).filter λx=>bt P x.o).length=p:=⟨_,rfl⟩;have hxm':x.m=cp es s'.m p:=by have:=hat i x hi;rwa [hp] at this
 have hpos:∀(j:Nat) (e:Row),es[j]?=some e→(j<p→e.i<i)∧(p≤j→i<e.i):=by
  intro j e he;have hsplit:es=((rows.take i).filter λx=>bt P x.o)++((rows.drop i).filter λx=>bt P x.o):=by
   rw[←hesd,←List.filter_append,List.take_append_drop]
  rw[hsplit] at he
  refine⟨λhj=>?_,λhj=>?_⟩
  ·rw[List.getElem?_append_left (by omega)] at he
   have hm:=List.mem_of_getElem? he;rw[List.mem_filter] at hm;obtain⟨q,hqq⟩:=List.getElem?_of_mem hm.1;rw[List.getElem?_take] at hqq
   split at hqq
   ·rw[hidx q e hqq];assumption
   ·cases hqq
  ·rw[List.getElem?_append_right (by omega)] at he
   have hm:=List.mem_of_getElem? he;rw[List.mem_filter] at hm;obtain⟨q,hqq⟩:=List.getElem?_of_mem hm.1;rw[List.getElem?_drop] at hqq;have hei:=hidx _ e hqq;rcases Nat.eq_zero_or_pos q with h0|h0
   ·subst h0
    rw[Nat.add_zero,hi] at hqq;simp only[Option.some.injEq] at hqq;subst hqq;have:bt P x.o=false:=eM hq;rw[this] at hm
    cases hm.2
   ·omega
 have hpl:p≤es.length:=by
  have hsplit:es=((rows.take i).filter λx=>bt P x.o)++((rows.drop i).filter λx=>bt P x.o):=by
   rw[←hesd,←List.filter_append,List.take_append_drop]
  rw[hsplit,List.length_append];omega
 have hfree:∀(j:Nat) (e:Row),es[j]?=some e→(k≤j∧j<p∨p≤j∧j<k)→xx masks es2 i j e.i=false:=by
  intro j e he hj
  cases ho:xx masks es2 i j e.i with
  |false=>rfl
  |true=>
   exfalso;simp only[xx,Bool.or_eq_true,Bool.and_eq_true,decide_eq_true_eq,List.all_eq_true] at ho
   rcases ho with⟨hlt,hall⟩|⟨hlt,hb⟩
   ·rcases hj with⟨hkj,hjp⟩|⟨hpj,hjk⟩
    ·have hk':es[k]?=some es[k]:=List.getElem?_eq_getElem (by have:=(List.getElem?_eq_some_iff.1 he).1;omega)
     have h5:=hall _ (List.mem_of_getElem? (i:=k) (by rw[List.getElem?_take,if_pos (by omega)];exact hes2g k _ hk'));have h6:=h2 _ hk';rw[hxi] at h6;simp only at h5;rw[h5] at h6;cases h6
    ·have:=(hpos j e he).2 hpj
     omega
   ·rcases hj with⟨hkj,hjp⟩|⟨hpj,hjk⟩
    ·have:=(hpos j e he).1 hjp
     omega
    ·have h6:=h1 j e hjk he
     rw[hxi,hb] at h6;cases h6
 rcases hstat with hmf|hao|⟨hld,hfo⟩
 ·exact kD hmf hcv _
 ·have hkp:k=p:=by
   rcases Nat.lt_trichotomy k p with h|h|h
   ·have he:es[k]?=some es[k]:=List.getElem?_eq_getElem (by omega)
    have h3:=hfree k _ he (.inl ⟨Nat.le_refl _,h⟩);have h4:=List.all_eq_true.1 hao k (List.mem_range.2 (by rw[hesl];omega));rw[hes2g k _ he] at h4;simp only at h4;rw[h3] at h4;cases h4
   ·exact h
   ·have he:es[p]?=some es[p]:=List.getElem?_eq_getElem (by omega)
    have h3:=hfree p _ he (.inr ⟨Nat.le_refl _,h⟩);have h4:=List.all_eq_true.1 hao p (List.mem_range.2 (by rw[hesl];omega));rw[hes2g p _ he] at h4;simp only at h4;rw[h3] at h4;cases h4
  rw[hkp,←hxm'];exact hcv
 ·obtain⟨t,a,hop⟩:∃t a,x.o.op=.load t a:=by
   cases ho:x.o.op<;>rw[ho] at hld<;>simp only[iO,Bool.false_eq_true] at hld
   exact⟨_,_,rfl⟩
  have hkey:=hg3 hgo t a hop;rw[hxi] at hkey;have hstep:∀(j:Nat) (e:Row),es[j]?=some e→(k≤j∧j<p∨p≤j∧j<k)→∀key g o,evL (cg ops x.o) x.sl a=.ptr key g o→((cp es s'.m j).get key).map HO.flat=((cp es s'.m (j+1)).get key).map HO.flat:=by
   intro j e he hj key g o hpk;have h3:=hfree j e he hj;have h4:=List.all_eq_true.1 hfo j (List.mem_range.2 (by rw[hesl];exact(List.getElem?_eq_some_iff.1 he).1));rw[hes2g j e he] at h4;simp only[h3,Bool.false_or,Option.isSome_iff_exists] at h4;obtain⟨ft,hft⟩:=h4;have h5:=(hgood e (hesr j e he).1).1 (hesr j e he).2 ft hft;rw[hmemo j e he,hnext j e he];refine h5 key ?_;rw[hpk,xn,List.any_eq_false] at hkey;have h6:=hkey ft (List.mem_filterMap.2 ⟨j,List.mem_range.2 (by rw[hesl];exact(List.getElem?_eq_some_iff.1 he).1),by rw[hes2g j e he];simp only[h3,Bool.false_eq_true,if_false,hft]⟩);simpa using h6
  have hchain:∀(d a0:Nat),a0+d≤es.length→(∀j,a0≤j→j<a0+d→(k≤j∧j<p∨p≤j∧j<k))→∀key g o,evL (cg ops x.o) x.sl a=.ptr key g o →
    ((cp es s'.m a0).get key).map HO.flat=((cp es s'.m (a0+d)).get key).map HO.flat:=by
   intro d
   induction d with
   |zero=>intro a0 _ _ _ _ _ _;rfl
   |succ d ih=>
    intro a0 hl hr key g o hpk;rw[ih a0 (by omega) (λj hj1 hj2=>hr j hj1 (by omega)) key g o hpk];exact hstep (a0+d) _ (List.getElem?_eq_getElem (by omega)) (hr _ (by omega) (by omega)) key g o hpk
  have hmm:∀key g o,evL (cg ops x.o) x.sl a=.ptr key g o→((cp es s'.m k).get key).map HO.flat=(x.m.get key).map HO.flat:=by
   intro key g o hpk;rw[hxm'];rcases Nat.le_total k p with hkp|hkp
   ·have:=hchain (p - k) k (by omega) (λj h1 h2=>.inl ⟨h1,by omega⟩) key g o hpk
    rwa [show k+(p - k)=p from by omega] at this
   ·have:=hchain (k - p) p (by omega) (λj h1 h2=>.inr ⟨h1,by omega⟩) key g o hpk
    rw[show p+(k - p)=k from by omega] at this;exact this.symm
  have hl:∀mm,cval P A F fid (evL (cg ops x.o) x.sl) x.o mm=(eW P mm t (evL (cg ops x.o) x.sl a)).map λv=>(v,mm):=λmm=>by
   generalize evL (cg ops x.o) x.sl=ρ;simp only[cval,hop]
  rw[hl] at hcv ⊢;rw[xc (m':=x.m) hmm t];simp only[Option.map_eq_some_iff,Prod.mk.injEq] at hcv ⊢;obtain⟨v,hv,rfl,_⟩:=hcv
  exact⟨_,hv,rfl,trivial⟩
theorem nU {ks:List Tmp}{sl sl':List CV}(h:∀t,bH sl t=bH sl' t):dC (some ks) sl=dC (some ks) sl':=by
 simp only[dC,h]
end
end Go.Cm
