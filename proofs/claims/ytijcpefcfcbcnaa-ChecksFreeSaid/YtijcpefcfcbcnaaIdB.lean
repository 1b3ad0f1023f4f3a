import Derived.Test.YtijcpefcfcbcnaaIdA
set_option linter.unusedSimpArgs false
set_option linter.unusedVariables false
namespace Go.Cm
open Go.Proofs Go.Gr
def jM (b:Nat) (left:List Int):CV:=if left=[] then .nil else .ref (.g (b+5)) left.length 0 left.length
def sd (left:List Int):List HO:=if left=[] then [] else [.arr left.length 1 (left.flatMap aX) 0]
def dn (gv:CV) (b:Nat) (met left:List Int):List HO:=
 .var 1 [gv] 0::.map 1 (esI .i64 (met.map fun x=>(x,.bool true)))::.var 1 [.map (.g (b+1)) 1] 0::.var 1 [jM b left] 0 ::
  .var 1 [.func (.func 134) [] [.ptr (.g (b+2)) 1 0,.ptr (.g b) 1 0,.ptr (.g (b+4)) 1 0,.ptr (.g (b+3)) 1 0]] 0::sd left
def m6 (b:Nat) (x:Int):List CV:=[.int .i64 x,.ptr (.g (b+2)) 1 0,.ptr (.g b) 1 0,.ptr (.g (b+4)) 1 0,.ptr (.g (b+3)) 1 0]
theorem ve (b:Nat) (x:Int):(m6 b x).all eV=true:=rfl
theorem xp (gv:CV) (H0:List HO) {met left:List Int}{x:Int}{gt:Nat}{m:Mem}(hm:m.H=H0++dn gv H0.length met left) (ht:aK m.L 432=some (.arr gt 1 [.int .i64 x] 0)) (hl:left.length+1≤4294967296) :
  ∃ v H2,ej true 448 1 8 (jM H0.length left) (.ref (.l 432) gt 0 1) m=some (v,⟨m.L,H2⟩)∧stX 1 ⟨m.L,H2⟩ (.ptr (.g (H0.length+3)) 1 0) v=some ⟨m.L,H0++dn gv H0.length met (left++[x])⟩:=by
 have hc:content m 1 (.ref (.l 432) gt 0 1)=some [.int .i64 x]:=by rw[cU,ht,dz];rfl
 obtain⟨ML,MH⟩:=m
 simp only at hm
 subst hm
 by_cases h0:left=[]
 ·subst h0
  refine⟨.ref (.g (H0.length+5)) 1 0 1,H0++(dn gv H0.length met []++[.arr 1 1 [.int .i64 x] 0]),?_,?_⟩
  ·simp only[jM,if_true,iD,hc,fq]
   rw[eG (by decide),if_pos (dI (by decide) (by decide))]
   have hlen:(H0++dn gv H0.length met []).length=H0.length+5:=by simp[dn,sd]
   simp only[pS,pR,List.append_assoc,hlen]
  ·have e3:(dn gv H0.length met []++[.arr 1 1 [.int .i64 x] 0])[3]?=some (.var 1 [.nil] 0):=rfl
   simp only[gQ,gA,e3,ap,fD,List.length_cons,List.length_nil]
   rw[if_pos (by decide),bF rfl]
   simp only[Option.map_some,jE,ot]
   rfl
 ·have hv:jM H0.length left=.ref (.g (H0.length+5)) left.length 0 left.length:=by simp only[jM,h0,if_false]
  have e5:(dn gv H0.length met left)[5]?=some (.arr left.length 1 (left.flatMap aX) 0):=by
   simp only[dn,sd,h0,if_false,List.getElem?_cons_succ,List.getElem?_cons_zero]
  have htk:(left.flatMap aX).take (left.length*1)=left.flatMap aX:=List.take_of_length_le (by rw[bC dB];exact Nat.le_refl _)
  refine⟨.ref (.g (H0.length+5)) (left.length+1) 0 (left.length+1),H0++(dn gv H0.length met left).set 5 (.arr (left.length+1) 1 (left.flatMap aX++[.int .i64 x]) 0),?_,?_⟩
  ·simp only[hv,tt,hc,fq,gA,e5]
   rw[if_pos ⟨trivial,trivial,by omega,dI (by decide) hl⟩]
   simp only[jE,ot,List.drop_zero,htk,Nat.zero_sub]
  ·have e3:∀ o,((dn gv H0.length met left).set 5 o)[3]?=some (.var 1 [jM H0.length left] 0):=fun _=>rfl
   simp only[gQ,gA,e3,ap,fD,List.length_cons,List.length_nil]
   rw[if_pos (by decide),bF rfl]
   simp only[Option.map_some,jE,ot,ay,List.take_zero,List.nil_append,List.length_cons,List.length_nil,Nat.zero_add,List.drop_succ_cons,List.drop_zero,List.append_nil]
   congr 3
   simp[dn,jM,sd,h0,aX]
theorem x134 (g:List (List Int)) (hg:Sm g) (gv:CV) (hgv:IsRows gv g) (H0:List HO):∀ (k:Nat) (x:Int) (met left:List Int),0≤x→x<g.length→iz g met<k→(da g k x (met,left)).2.length≤1048576 →
  FF 134 (m6 H0.length x) (H0++dn gv H0.length met left)=some (.tuple [],H0++dn gv H0.length (da g k x (met,left)).1 (da g k x (met,left)).2)
 |0,_,_,_,_,_,h,_=>by omega
 |k+1,x,met,left,h0,h1,hk,hfin=>by
  by_cases hx:x ∈ met
  ·simp only[da,hx,if_true] at hfin ⊢
   have hl:∀ L,fx ⟨L,H0++dn gv H0.length met left⟩ (.map (.g (H0.length+1)) 1)=some (esI .i64 (met.map fun x=>(x,.bool true))):=fun L=>jq (by simp only[gA,dn,List.getElem?_cons_succ,List.getElem?_cons_zero])
   have hlk:=fun L z ok=>fK (t:=3) (a:=x) (z:=z) (ok:=ok) Try.underlying3 (hl L)
   have e2:(dn gv H0.length met left)[2]?=some (.var 1 [.map (.g (H0.length+1)) 1] 0):=rfl
   refine aL rfl Try.func134 s134 (Nat.le_of_ble_eq_true rfl) (fun Q hqr hqn=>?_)
   rw[show ∀ a,cin (An.pure 134) a=a from fun _=>rfl]
   simp only[aO,Nat.reduceAdd,c134]
   simp only[m6,aO,Nat.reduceAdd]
   repeat' (first
   |with_reducible (first|refine ai ?_|refine au rfl ?_|refine be ?_)
   |(with_reducible (first|(refine ah (fun K hK=>?_);refine EJ ?_)|refine hqr _ ?_);(try simp only[SS,Nat.reduceEqDiff,Bool.false_eq_true,r134,aQ,ak,am,ro,ce,gA,e2,hlk,xV hx,Option.getD_some]))
   |(revert hK;intro hK;(with_reducible refine hK _ ?_;clear hK K)))
  ·have hvis:da g (k+1) x (met,left)=(((ins g x).foldl (fun s y=>da g k y s) (met++[x],left)).1,((ins g x).foldl (fun s y=>da g k y s) (met++[x],left)).2++[x]):=by simp only[da,hx,if_false]
   rw[hvis] at hfin ⊢
   simp only[List.length_append,List.length_cons,List.length_nil] at hfin
   have hal:al (met.map fun x=>(x,CV.bool true)) x=none:=al_map (f:=fun y=>y) fun y hy e=>hx (by rw[←e];exact hy)
   have hl:∀ L,fx ⟨L,H0++dn gv H0.length met left⟩ (.map (.g (H0.length+1)) 1)=some (esI .i64 (met.map fun x=>(x,.bool true))):=fun L=>jq (by simp only[gA,dn,List.getElem?_cons_succ,List.getElem?_cons_zero])
   have hlk:=fun L z ok=>fK (t:=3) (a:=x) (z:=z) (ok:=ok) Try.underlying3 (hl L)
   have hm:∀ L,mB Try.prog 3 (.map (.g (H0.length+1)) 1) (.int .i64 x) (.bool true) ⟨L,H0++dn gv H0.length met left⟩=some ⟨L,H0++dn gv H0.length (met++[x]) left⟩:=by
    intro L
    rw[kR (l:=met.map fun x=>(x,.bool true)) Try.underlying3 rfl (by simp only[Mem.get,gA,dn,List.getElem?_cons_succ,List.getElem?_cons_zero])]
    simp only[Mem.set,ot,yc hal,dn,List.set_cons_succ,List.set_cons_zero,List.map_append,List.map_cons,List.map_nil]
   have q0:∀ m l,(dn gv H0.length m l)[0]?=some (.var 1 [gv] 0):=fun _ _=>rfl
   have q2:∀ m l,(dn gv H0.length m l)[2]?=some (.var 1 [.map (.g (H0.length+1)) 1] 0):=fun _ _=>rfl
   have q3:∀ m l,(dn gv H0.length m l)[3]?=some (.var 1 [jM H0.length l] 0):=fun _ _=>rfl
   have q4:∀ m l,(dn gv H0.length m l)[4]?=some (.var 1 [.func (.func 134) [] [.ptr (.g (H0.length+2)) 1 0,.ptr (.g H0.length) 1 0,.ptr (.g (H0.length+4)) 1 0,.ptr (.g (H0.length+3)) 1 0]] 0):=fun _ _=>rfl
   refine aL rfl Try.func134 s134 (Nat.le_of_ble_eq_true rfl) (fun Q hqr hqn=>?_)
   rw[show ∀ a,cin (An.pure 134) a=a from fun _=>rfl]
   simp only[aO,Nat.reduceAdd,c134]
   simp only[m6,aO,Nat.reduceAdd]
   repeat' (first
   |with_reducible (first|refine ai ?_|refine ar ?_|refine ax rfl ?_)
   |(with_reducible (refine ah (fun K hK=>?_);(first|refine EJ ?_|refine t134r1 ?_|refine t134r2 ?_));(try simp only[SS,Nat.reduceEqDiff,lenS,Bool.false_eq_true,ce,gA,nM,q0,q2,hlk,hal,hm,Option.getD_none]))
   |(revert hK;intro hK;(with_reducible refine hK _ ?_;clear hK K)))
   refine k135 g hg gv hgv x h0 h1 rfl fun v m' hO hH' hf=>?_
   simp only[hO.len,aJ]
   refine hK _ ?_
   clear hK K
   repeat' (first
   |with_reducible refine aj (id:=0) (fun Q0 hn0 hx0 hr0 ho0=>?_))
   obtain⟨ML',MH'⟩:=m'
   simp only at hH'
   subst hH'
   have hun:=tg h0 h1 hx
   have hfd:∀ d t,ins g x=d++t→iz g (d.foldl (fun s y=>da g k y s) (met++[x],left)).1<k∧(d.foldl (fun s y=>da g k y s) (met++[x],left)).2.length≤((ins g x).foldl (fun s y=>da g k y s) (met++[x],left)).2.length:=by
    intro d t hdt
    obtain⟨M,N,hv⟩:=qv g k d (met++[x],left) (fun y hy=>fJ (x:=x) (by rw[hdt];exact List.mem_append_left _ hy)) (by simp only;omega)
    have h4:iz g (d.foldl (fun s y=>da g k y s) (met++[x],left)).1<k:=by
     rw[hv.met];have:=oQ g (met++[x]) M;simp only;omega
    refine⟨h4,?_⟩
    rw[hdt,List.foldl_append]
    obtain⟨M2,N2,hv2⟩:=qv g k t _ (fun y hy=>fJ (x:=x) (by rw[hdt];exact List.mem_append_right _ hy)) h4
    exact hv2.len_le
   refine aU (fun n s=>∃ d t ML st,ins g x=d++t∧n=t.length∧st=d.foldl (fun s y=>da g k y s) (met++[x],left) ∧
    s=⟨[(0,.int .i64 x),(3,.ptr (.g (H0.length+4)) 1 0),(4,.ptr (.g (H0.length+3)) 1 0),(15,v),(16,.int .i64 (ins g x).length),(17,.int .i64 d.length)],⟨ML,H0++dn gv H0.length st.1 st.2⟩⟩ ∧
    OwnE aX 1 ⟨ML,H0++dn gv H0.length st.1 st.2⟩ 240 v (ins g x)) _ ⟨[],ins g x,ML',_,rfl,rfl,rfl,rfl,hO⟩ ?_
   rintro n s ⟨d,t,ML,st,h2,rfl,h3,rfl,hO2⟩ QL0 hnL0 hxL0 hrL0
   have hlen:=congrArg List.length h2
   simp only[List.length_append] at hlen
   have hr2:=hg.2
   obtain⟨f1,f2⟩:=hfd d t h2
   rw[←h3] at f1 f2
   obtain⟨sm,sl⟩:=st
   simp only at f1 f2
   cases t with
   |nil=>
    simp only[List.length_nil] at hlen
    rw[List.append_nil] at h2
    rw[h2,←h3] at hfin hqr hqn
    simp only[tD]
    repeat' (first
    |with_reducible (first|refine ax rfl ?_|refine aN ?_|refine hx0 _ ?_|refine hxL0 _ _ ?_)
    |(with_reducible ((first|refine ah (fun K hK=>?_)|refine aI (fun K hK=>?_));(first|refine EK ?_|refine t134r7 ?_));(try simp only[SS,Nat.reduceEqDiff,ap,dj,ef,bg,cd,bF,ay,cz,List.all_cons,List.all_nil,Bool.and_self,ce,gA,q3]))
    |(revert hK;intro hK;(first|refine And.intro ?_ ?_|intro _|omega|(with_reducible refine hK _ ?_;clear hK K))))
    simp only at hfin
    obtain⟨v2,H2,a1,a2⟩:=xp gv H0 (met:=sm) (left:=sl) (x:=x) (gt:=bj ML 432) (m:=bi ⟨ML,H0++dn gv H0.length sm sl⟩ 432 (.arr (bj ML 432) 1 [.int .i64 x] 0)) rfl (by rw[ba,if_pos rfl]) (by omega)
    simp only[a1,aJ,a2]
    refine hK _ ?_
    clear hK K
    repeat' (first
    |(with_reducible refine hqn _ ?_;(try simp only[aJ,Option.map_some,r134,aQ,ak,Option.bind_some,am,ro])))
   |cons a t=>
    simp only[List.length_cons] at hlen
    have hil:(ins g x).length≤17592186044416:=by
     unfold ins
     refine Nat.le_trans (List.length_filter_le _ _) ?_
     rw[List.getD_eq_getElem?_getD,List.getElem?_eq_getElem (show x.toNat<g.length by omega),Option.getD_some]
     exact hr2 _ (List.getElem_mem _)
    have ha:(ins g x)[d.length]?=some a:=by rw[h2];simp
    have har:=fJ (g:=g) (x:=x) (List.mem_of_getElem? ha)
    obtain⟨p,hp1,hp2⟩:=hO2.at ha (k:=.i64)
    have hw:IntKind.i64.wrap ((d.length:Int)+1)=d.length+1:=wI (by omega) (by omega)
    have hst:da g k a (sm,sl)=(d++[a]).foldl (fun s y=>da g k y s) (met++[x],left):=by rw[List.foldl_append,←h3];rfl
    have h5:=(hfd (d++[a]) t (by rw[h2];simp)).2
    rw[←hst] at h5
    have ih:=x134 g hg gv hgv H0 k a sm sl har.1 har.2 f1 (by omega)
    have hcall:aB An FF 134 (some 23) 134 (m6 H0.length a) ⟨ML,H0++dn gv H0.length sm sl⟩=some (.tuple [],⟨ML,H0++dn gv H0.length (da g k a (sm,sl)).1 (da g k a (sm,sl)).2⟩):=by rw[cf rfl (ve _ _) ih,fk rfl]
    simp only[m6] at hcall
    simp only[tD]
    repeat' (first
    |with_reducible (first|refine ar ?_|refine au rfl ?_|refine aj (id:=1) (fun Q1 hn1 hx1 hr1 ho1=>?_)|refine hn1 _ ?_)
    |(with_reducible ((first|refine ah (fun K hK=>?_)|refine aI (fun K hK=>?_));(first|refine EK ?_|refine t134r4 ?_|refine t134r5 ?_|refine t134r6 ?_));(try simp only[SS,Nat.reduceEqDiff,ce,gA,q4,hp1,hp2,dK,hcall,hw]))
    |(revert hK;intro hK;(first|refine And.intro ?_ ?_|intro _|omega|(with_reducible refine hK _ ?_;clear hK K))))
    refine hnL0 t.length _ (by simp) ⟨d++[a],t,ML,_,by simp[h2],rfl,hst,by simp,hO2.keep rfl⟩
end Go.Cm
namespace Go.Cm
open Go.Proofs Go.Gr
theorem x136 (H:List HO) (n gn:Nat) (l:List Int) (hH:H[n]?=some (.arr gn 1 (l.flatMap aX) 0)) (hl:l.length≤4294967296) :
  FF 136 [.ref (.g n) gn 0 l.length] H=some (.tuple [],H.set n (.arr gn 1 (l.reverse.flatMap aX) 0)):=by
 have hn:=(List.getElem?_eq_some_iff.1 hH).1
 have hw0:IntKind.i64.wrap ((l.length:Int) - 1)=l.length - 1:=wI (by omega) (by omega)
 refine aL rfl Try.func136 s136 (Nat.le_of_ble_eq_true rfl) (fun Q hqr hqn=>?_)
 rw[show ∀ a,cin (An.pure 136) a=a from fun _=>rfl]
 simp only[aO,Nat.reduceAdd,c136]
 repeat' (first
 |with_reducible refine bl (id:=0) (fun Q0 hn0 hx0 hr0 ho0=>?_)
 |(with_reducible (refine ah (fun K hK=>?_);refine t136r0 ?_);(try simp only[SS,lenS,fe,hw0]))
 |(revert hK;intro hK;(with_reducible refine hK _ ?_;clear hK K)))
 refine aU (fun k s=>∃ (i:Nat) (c:List Int),2*i≤l.length∧k=l.length - i∧c.length=l.length∧(∀ j,c[j]?=if j<l.length∧(j<i∨l.length≤j+i) then l[l.length - 1 - j]? else l[j]?) ∧
  s=⟨[(0,.ref (.g n) gn 0 l.length),(2,.int .i64 i),(3,.int .i64 ((l.length:Int) - 1 - i))],⟨[],H.set n (.arr gn 1 (c.flatMap aX) 0)⟩⟩) _ ⟨0,l,by omega,rfl,rfl,fun j=>?_,?_⟩ ?_
 ·split
  ·rename_i h;omega
  ·rfl
 ·have:H.set n (.arr gn 1 (l.flatMap aX) 0)=H:=by
   obtain⟨h1,h2⟩:=List.getElem?_eq_some_iff.1 hH
   rw[←h2];exact List.set_getElem_self h1
  rw[this];simp
 rintro k s ⟨i,c,hi,rfl,hc,hcj,rfl⟩ QL0 hnL0 hxL0 hrL0
 by_cases hij:(i:Int)<(l.length:Int) - 1 - i
 ·obtain⟨ci,hci⟩:∃ x,c[i]?=some x:=⟨_,List.getElem?_eq_getElem (by omega)⟩
  obtain⟨cj,hcj2⟩:∃ x,c[l.length - 1 - i]?=some x:=⟨_,List.getElem?_eq_getElem (by omega)⟩
  have e0:((l.length:Int) - 1 - i).toNat=l.length - 1 - i:=by omega
  have a1:bd 1 (.ref (.g n) gn 0 l.length) (.int .i64 ((l.length:Int) - 1 - i))=some (.ptr (.g n) gn (l.length - 1 - i)):=by
   rw[bD,if_pos ⟨by omega,by omega⟩,e0];simp
  have a2:bd 1 (.ref (.g n) gn 0 l.length) (.int .i64 i)=some (.ptr (.g n) gn i):=by
   rw[bD,if_pos ⟨by omega,by omega⟩];simp
  have hset:∀ o:HO,(H.set n o)[n]?=some o:=fun o=>List.getElem?_set_self hn
  have hw1:IntKind.i64.wrap ((i:Int)+1)=i+1:=wI (by omega) (by omega)
  have hw2:IntKind.i64.wrap ((l.length:Int) - 1 - i - 1)=(l.length:Int) - 1 - i - 1:=wI (by omega) (by omega)
  have s1:stX 1 ⟨[],H.set n (.arr gn 1 (c.flatMap aX) 0)⟩ (.ptr (.g n) gn i) (.int .i64 cj)=some ⟨[],H.set n (.arr gn 1 ((c.set i cj).flatMap aX) 0)⟩:=by
   rw[jz (hset _) (by rw[dL];omega) rfl rfl,mN,List.set_set]
  have s2:stX 1 ⟨[],H.set n (.arr gn 1 ((c.set i cj).flatMap aX) 0)⟩ (.ptr (.g n) gn (l.length - 1 - i)) (.int .i64 ci)=some ⟨[],H.set n (.arr gn 1 (((c.set i cj).set (l.length - 1 - i) ci).flatMap aX) 0)⟩:=by
   rw[jz (hset _) (by rw[dL,List.length_set];omega) rfl rfl,mN,List.set_set]
  simp only[tF]
  repeat' (first
  |with_reducible (first|refine ai ?_|refine ar ?_|refine au rfl ?_|refine aj (id:=1) (fun Q1 hn1 hx1 hr1 ho1=>?_)|refine hn1 _ ?_)
  |(with_reducible ((first|refine ah (fun K hK=>?_)|refine aI (fun K hK=>?_));(first|refine EN ?_|refine t136r3 ?_|refine t136r2 ?_));(try simp only[SS,Nat.reduceEqDiff,bM,fe,a1,a2,ce,hset,fX,hci,hcj2,s1,s2,hw1,hw2]))
  |(revert hK;intro hK;(first|refine And.intro ?_ ?_|intro _|omega|(with_reducible refine hK _ ?_;clear hK K))))
  refine hnL0 (l.length - (i+1)) _ (by omega) ⟨i+1,(c.set i cj).set (l.length - 1 - i) ci,by omega,rfl,by simp[hc],fun j=>?_,?_⟩
  ·rw[List.getElem?_set,List.getElem?_set]
   have hi1:=hcj i
   have hj1:=hcj (l.length - 1 - i)
   rw[if_neg (by omega)] at hi1 hj1
   rw[hci] at hi1
   rw[hcj2] at hj1
   by_cases h1:l.length - 1 - i=j
   ·subst h1
    rw[if_pos rfl,if_pos (by simp only[List.length_set];omega),if_pos (by omega)]
    rw[show l.length - 1 - (l.length - 1 - i)=i by omega,hi1]
   ·rw[if_neg h1]
    by_cases h2:i=j
    ·subst h2
     rw[if_pos rfl,if_pos (by omega),if_pos (by omega),hj1]
    ·rw[if_neg h2,hcj j]
     by_cases h3:j<l.length∧(j<i∨l.length≤j+i)
     ·rw[if_pos h3,if_pos (by omega)]
     ·rw[if_neg h3,if_neg (by omega)]
  ·have:((i+1:Nat):Int)=(i:Int)+1:=by omega
   rw[this,show(l.length:Int) - 1 - (i+1)=l.length - 1 - i - 1 by omega]
 ·simp only[tF]
  repeat' (first
  |with_reducible (first|refine ai ?_|refine ax rfl ?_|refine aN ?_|refine hx0 _ ?_|refine hxL0 _ _ ?_)
  |(with_reducible (first|(refine ah (fun K hK=>?_);refine EN ?_)|refine hqn _ ?_);(try simp only[SS,Nat.reduceEqDiff,r136,aQ,ak,am,ro]))
  |(revert hK;intro hK;(first|refine And.intro ?_ ?_|intro _|omega|(with_reducible refine hK _ ?_;clear hK K))))
  have:c=l.reverse:=by
   refine List.ext_getElem? fun j=>?_
   rw[hcj j]
   by_cases hj:j<l.length
   ·rw[List.getElem?_reverse hj]
    by_cases h3:j<i∨l.length≤j+i
    ·rw[if_pos ⟨hj,h3⟩]
    ·rw[if_neg (fun h=>h3 h.2),show l.length - 1 - j=j by omega]
   ·rw[if_neg (fun h=>hj h.1),List.getElem?_eq_none (by omega),List.getElem?_eq_none (by simp;omega)]
  rw[this]
theorem x112 (g:List (List Int)) (hg:Sm g) (gv:CV) (hgv:IsRows gv g) (H0:List HO):∃ v T,FF 112 [gv] H0=some (v,H0++T)∧RefG (H0++T) v (ord g):=by
 by_cases h0:g=[]
 ·subst h0
  refine⟨.nil,[.var 1 [gv] 0],?_,.inl ⟨rfl,rfl⟩⟩
  refine aL rfl Try.func112 s112 (Nat.le_of_ble_eq_true rfl) (fun Q hqr hqn=>?_)
  rw[show ∀ a,cin (An.pure 112) a=a from fun _=>rfl]
  simp only[aO,Nat.reduceAdd,c112]
  repeat' (first
  |with_reducible (first|refine ai ?_|refine au rfl ?_|refine be ?_)
  |(with_reducible (first|(refine ah (fun K hK=>?_);(first|refine Ex ?_|refine Ey ?_|refine t112r2 ?_))|refine hqr _ ?_);(try simp only[SS,lenS,r112,aQ,ak,aD,am,eh,ce,kL,gA,nM,ot,p4,iK,iM,iI,iN,iL,iJ,pR,pS,jE,gQ,fD,List.append_assoc,List.length_append,List.set_cons_succ,List.set_cons_zero,cn,eV,mmX,dK,ye (x:=gv) hgv.cells hgv.esc,hgv.len]))
  |(revert hK;intro hK;(first|refine And.intro ?_ ?_|intro _|omega|(with_reducible refine hK _ ?_;clear hK K))))
 ·obtain⟨M,N,hv,ho⟩:=qT g h0
  have hlen:0<g.length:=List.length_pos_iff.2 h0
  have hvis:(da g (g.length+1) 0 ([],[])).2=N:=by rw[hv.left];simp
  have hN:N=(ord g).reverse:=by rw[ho,List.reverse_reverse]
  have hNl:N.length≤1048576:=by rw[hN,List.length_reverse];have:=qS g;have:=hg.1;omega
  have hN0:N≠[]:=by
   obtain⟨r,hr⟩:=iV h0
   rw[hN,hr];simp
  have hwalk:=x134 g hg gv hgv H0 (g.length+1) 0 [] [] (Int.le_refl _) (by omega) (by have:=ql g;omega) (by rw[hvis];exact hNl)
  have hc:aB An FF 112 (some 12) 134 (m6 H0.length 0) ⟨[],H0++dn gv H0.length [] []⟩=some (.tuple [],⟨[],H0++dn gv H0.length (da g (g.length+1) 0 ([],[])).1 N⟩):=by
   rw[cf rfl (ve _ _) hwalk,fk rfl,hvis]
  generalize (da g (g.length+1) 0 ([],[])).1=met at hc
  have e5:(dn gv H0.length met N)[5]?=some (.arr N.length 1 (N.flatMap aX) 0):=by
   simp only[dn,sd,hN0,if_false,List.getElem?_cons_succ,List.getElem?_cons_zero]
  have hrev:=x136 (H0++dn gv H0.length met N) (H0.length+5) N.length N (by rw[gA,e5]) (by omega)
  have hc2:aB An FF 112 (some 14) 136 [.ref (.g (H0.length+5)) N.length 0 N.length] ⟨[],H0++dn gv H0.length met N⟩=some (.tuple [],⟨[],(H0++dn gv H0.length met N).set (H0.length+5) (.arr N.length 1 (N.reverse.flatMap aX) 0)⟩):=by
   rw[cf rfl rfl hrev,fk rfl]
  have e3:(dn gv H0.length met N)[3]?=some (.var 1 [.ref (.g (H0.length+5)) N.length 0 N.length] 0):=by
   simp only[dn,jM,hN0,if_false,List.getElem?_cons_succ,List.getElem?_cons_zero]
  have e3':∀ o,((dn gv H0.length met N).set 5 o)[3]?=some (.var 1 [.ref (.g (H0.length+5)) N.length 0 N.length] 0):=fun o=>by
   simp only[dn,jM,hN0,if_false,List.set_cons_succ,List.getElem?_cons_succ,List.getElem?_cons_zero]
  refine⟨.ref (.g (H0.length+5)) N.length 0 N.length,(dn gv H0.length met N).set 5 (.arr N.length 1 (N.reverse.flatMap aX) 0),?_,.inr ⟨H0.length+5,N.length,0,?_,?_⟩⟩
  ·refine aL rfl Try.func112 s112 (Nat.le_of_ble_eq_true rfl) (fun Q hqr hqn=>?_)
   rw[show ∀ a,cin (An.pure 112) a=a from fun _=>rfl]
   simp only[aO,Nat.reduceAdd,c112]
   repeat' (first
   |with_reducible (first|refine ai ?_|refine ar ?_|refine ax rfl ?_)
   |(with_reducible (refine ah (fun K hK=>?_);(first|refine Ex ?_|refine Ey ?_|refine t112r3 ?_|refine t112r4 ?_|refine t112r5 ?_|refine t112r6 ?_|refine t112r7 ?_));(try simp only[SS,Nat.reduceEqDiff,ap,Nat.reduceAdd,lenS,bF,ay,cz,List.all_cons,List.all_nil,Bool.and_self,ce,kL,gA,nM,ot,p4,iK,iM,iI,iN,iL,iJ,pR,pS,jE,gQ,fD,List.append_assoc,List.length_append,List.set_cons_succ,List.set_cons_zero,cn,eV,mmX,dK,ye (x:=gv) hgv.cells hgv.esc,hgv.len]))
   |(revert hK;intro hK;(first|refine And.intro ?_ ?_|intro _|omega|(with_reducible refine hK _ ?_;clear hK K))))
   refine mQ hc ?_
   refine hK _ ?_
   clear hK K
   repeat' (first
   |with_reducible refine aF ?_
   |(with_reducible (first|(refine ah (fun K hK=>?_);(first|refine t112r8 ?_|refine t112r9 ?_))|refine hqr _ ?_);(try simp only[SS,r112,aQ,ak,aD,am,lH,ce,gA,e3,e3',hc2,ot]))
   |(revert hK;intro hK;(with_reducible refine hK _ ?_;clear hK K)))
  ·simp only[ho,List.length_reverse]
  ·rw[gA,←ho,List.getElem?_set_self]
   exact(List.getElem?_eq_some_iff.1 e5).1
def bO (g:List (List Int)):List Bool:=(List.range g.length).map fun(i:Nat)=>decide ((i:Int) ∈ ord g)
theorem x84 (g:List (List Int)) (hg:Sm g) (gv:CV) (hgv:IsRows gv g):∃ H',FF 84 [gv] []=some (mC bS 1 (bO g),H'):=by
 rw[ko (show An.pure 84=true from rfl) hgv]
 simp only[cans,aG,az]
 clear hgv gv
 have hgv:=IsRows.of g
 have hcv:=fH g
 generalize fo g=gv at hgv hcv ⊢
 obtain⟨v,T,h1,h2⟩:=x112 g hg gv hgv []
 simp only[List.nil_append] at h1 h2
 refine⟨T,?_⟩
 have hol:=qS g
 have hgl:=hg.1
 have hmk:=fun m=>we (j:=128) (sz:=1) (b:=1) (z:=[.bool false]) (k:=.i64) (n:=g.length) (m:=m) rfl (by omega) (by omega)
 have hc:∀ L,aB An FF 84 (some 10) 112 [gv] ⟨L,[]⟩=some (v,⟨L,T⟩):=by
  intro L
  rw[cf rfl (by simp only[List.all_cons,List.all_nil,dQ hgv.esc,Bool.and_self]) h1]
  rcases h2 with⟨_,rfl⟩|⟨n,gn,vl,rfl,_⟩<;>rfl
 have hsetL:∀ j o,bi ⟨[],[]⟩ j o=⟨cF [] j o,[]⟩:=fun _ _=>rfl
 refine aL rfl Try.func84 s84 (Nat.le_of_ble_eq_true rfl) (fun Q hqr hqn=>?_)
 rw[bf (show An.pure 84=true from rfl) (by simp only[cans,aG,az,aC,aH,hcv])]
 simp only[aO,Nat.reduceAdd,c84]
 repeat' (first
 |with_reducible (first|refine ai ?_|refine aj (id:=0) (fun Q0 hn0 hx0 hr0 ho0=>?_))
 |(with_reducible (refine ah (fun K hK=>?_);(first|refine t84r0 ?_|refine t84r1 ?_|refine t84r2 ?_));(try simp only[SS,Nat.reduceEqDiff,lenS,hgv.len,hmk,hsetL,hc,h2.len,jw]))
 |(revert hK;intro hK;(with_reducible refine hK _ ?_;clear hK K)))
 refine aU (fun k s=>∃ (d t:List Int) (c:List Bool) (gn:Nat) (ML:List (Nat×HO)),ord g=d++t∧k=t.length∧c.length=g.length∧(∀ j:Nat,j<g.length→c[j]?=some (decide ((j:Int) ∈ d))) ∧
  s=⟨[(3,.ref (.l 128) gn 0 g.length),(10,v),(11,.int .i64 (ord g).length),(12,.int .i64 d.length)],⟨ML,T⟩⟩∧aK ML 128=some (.arr gn 1 (c.flatMap bS) 0)) _ ⟨[],ord g,List.replicate g.length false,_,_,rfl,rfl,by simp,fun j hj=>by simp[hj],rfl,rfl⟩ ?_
 rintro k s ⟨d,t,c,gn,ML,h3,rfl,hc1,hc2,rfl,hML⟩ QL0 hnL0 hxL0 hrL0
 have hlen:=congrArg List.length h3
 simp only[List.length_append] at hlen
 cases t with
 |nil=>
  simp only[List.length_nil] at hlen
  simp only[CZ]
  repeat' (first
  |with_reducible (first|refine ax rfl ?_|refine aN ?_|refine aF ?_|refine hx0 _ ?_|refine hxL0 _ _ ?_)
  |(with_reducible (first|(refine ah (fun K hK=>?_);(first|refine t84r3 ?_|refine t84r7 ?_))|refine hqr _ ?_);(try simp only[SS,Nat.reduceEqDiff,r84,aQ,ak,aD,am,dq,bV,Nat.sub_self,hML]))
  |(revert hK;intro hK;(first|refine And.intro ?_ ?_|intro _|omega|(with_reducible refine hK _ ?_;clear hK K))))
  rw[List.append_nil] at h3
  have hcr:c=bO g:=by
   refine List.ext_getElem? fun j=>?_
   by_cases hj:j<g.length
   ·rw[hc2 j hj,bO,List.getElem?_map,List.getElem?_range hj,h3];rfl
   ·rw[List.getElem?_eq_none (by omega),List.getElem?_eq_none (by simp[bO];omega)]
  have hrl:(bO g).length=g.length:=by simp[bO]
  rw[hcr]
  rw[mC,hrl,List.take_of_length_le (by rw[bC jl,hrl];omega)]
 |cons a t=>
  simp only[List.length_cons] at hlen
  have hal:(ord g)[d.length]?=some a:=by rw[h3];simp
  have har:=((cu g a).1 (List.mem_of_getElem? hal)).range
  obtain⟨p,hp1,hp2⟩:=h2.at hal (k:=.i64)
  have hw:IntKind.i64.wrap ((d.length:Int)+1)=d.length+1:=wI (by omega) (by omega)
  have hi:bd 1 (.ref (.l 128) gn 0 g.length) (.int .i64 a)=some (.ptr (.l 128) gn a.toNat):=by
   rw[bD,if_pos ⟨har.1,by omega⟩];simp
  have hs:stX 1 ⟨ML,T⟩ (.ptr (.l 128) gn a.toNat) (.bool true)=some ⟨cF ML 128 (.arr gn 1 ((c.set a.toNat true).flatMap bS) 0),T⟩:=by
   rw[lK (by exact hML) (by rw[kN];omega) rfl rfl,ou];rfl
  simp only[CZ]
  repeat' (first
  |with_reducible (first|refine ar ?_|refine au rfl ?_|refine aj (id:=1) (fun Q1 hn1 hx1 hr1 ho1=>?_)|refine hn1 _ ?_)
  |(with_reducible ((first|refine ah (fun K hK=>?_)|refine aI (fun K hK=>?_));(first|refine t84r3 ?_|refine t84r4 ?_|refine t84r5 ?_|refine t84r6 ?_));(try simp only[SS,Nat.reduceEqDiff,hp1,hp2,hi,hs,hw]))
  |(revert hK;intro hK;(first|refine And.intro ?_ ?_|intro _|omega|(with_reducible refine hK _ ?_;clear hK K))))
  refine hnL0 t.length _ (by simp) ⟨d++[a],t,c.set a.toNat true,gn,cF ML 128 (.arr gn 1 ((c.set a.toNat true).flatMap bS) 0),by simp[h3],rfl,by simp[hc1],fun j hj=>?_,by simp,by rw[aq,if_pos rfl]⟩
  rw[List.getElem?_set]
  by_cases hja:a.toNat=j
  ·rw[if_pos hja,if_pos (by omega)]
   have:(j:Int)=a:=by omega
   simp[this]
  ·rw[if_neg hja,hc2 j hj]
   have:¬ (j:Int)=a:=by omega
   simp[this]
end Go.Cm
namespace Go.Cm
open Go.Proofs Go.Gr
def rW (l:List Int) (x:Int):Int:=if x ∈ l then l.idxOf x else -1
theorem x113 (H:List HO) (v:CV) (l:List Int) (x:Int) (hv:RdI H v l) (hl:l.length≤4294967296):FF 113 [v,.int .i64 x] H=some (.int .i64 (rW l x),H):=by
 refine aL rfl Try.func113 s113 (Nat.le_of_ble_eq_true rfl) (fun Q hqr hqn=>?_)
 rw[show ∀ a,cin (An.pure 113) a=a from fun _=>rfl]
 simp only[aO,Nat.reduceAdd,c113]
 repeat' (first
 |with_reducible (first|refine ai ?_|refine aj (id:=0) (fun Q0 hn0 hx0 hr0 ho0=>?_))
 |(with_reducible (refine ah (fun K hK=>?_);(first|refine t113r0 ?_|refine t113r1 ?_));(try simp only[SS,Nat.reduceEqDiff,lenS,hv.len]))
 |(revert hK;intro hK;(with_reducible refine hK _ ?_;clear hK K)))
 refine aU (fun k s=>∃ (d t:List Int),l=d++t∧k=t.length∧x ∉ d∧s=⟨[(0,v),(1,.int .i64 x),(7,.int .i64 l.length),(8,.int .i64 d.length)],⟨[],H⟩⟩) _ ⟨[],l,rfl,rfl,by simp,rfl⟩ ?_
 rintro k s ⟨d,t,h3,rfl,hd,rfl⟩ QL0 hnL0 hxL0 hrL0
 have hlen:=congrArg List.length h3
 simp only[List.length_append] at hlen
 cases t with
 |nil=>
  simp only[List.length_nil] at hlen
  simp only[tA]
  repeat' (first
  |with_reducible (first|refine ax rfl ?_|refine aN ?_|refine aF ?_|refine hx0 _ ?_|refine hxL0 _ _ ?_)
  |(with_reducible (first|(refine ah (fun K hK=>?_);(first|refine Ez ?_|refine t113r7 ?_))|refine hqr _ ?_);(try simp only[SS,Nat.reduceEqDiff,r113,aQ,ak,aD,am,bz,CV.int.injEq]))
  |(revert hK;intro hK;(first|refine And.intro ?_ ?_|intro _|omega|(with_reducible refine hK _ ?_;clear hK K))))
  rw[List.append_nil] at h3
  rw[rW,if_neg (by rw[h3];exact hd)]
 |cons a t=>
  simp only[List.length_cons] at hlen
  have hal:l[d.length]?=some a:=by rw[h3];simp
  obtain⟨p,hp1,hp2⟩:=hv.at hal (k:=.i64)
  have hw:IntKind.i64.wrap ((d.length:Int)+1)=d.length+1:=wI (by omega) (by omega)
  simp only[tA]
  repeat' (first
  |with_reducible (first|refine ar ?_|refine au rfl ?_|refine bc rfl ?_|refine bn rfl ?_|refine aF ?_|refine bx ?_|refine hr0 _ ?_|refine aj (id:=1) (fun Q1 hn1 hx1 hr1 ho1=>?_)|refine hn1 _ ?_|refine hr1 _ ?_|refine hrL0 _ ?_)
  |(with_reducible (first|((first|refine ah (fun K hK=>?_)|refine aI (fun K hK=>?_));(first|refine Ez ?_|refine t113r3 ?_|refine t113r4 ?_|refine t113r5 ?_|refine t113r6 ?_))|refine hqr _ ?_);(try simp only[SS,Nat.reduceEqDiff,r113,aQ,ak,aD,am,bz,CV.int.injEq,hp1,hp2,hw]))
  |(revert hK;intro hK;(first|refine And.intro ?_ ?_|intro _|omega|(with_reducible refine hK _ ?_;clear hK K))))
  ·rename_i he
   rw[rW,if_pos (by rw[h3,he];simp),h3,he,List.idxOf_append,if_neg (by rw[←he];exact hd),List.idxOf_cons_self]
   simp
  ·rename_i he
   exact hnL0 t.length _ (by simp) ⟨d++[a],t,by simp[h3],rfl,by simp[hd,he],by simp⟩
theorem x85 (H:List HO) (v:CV) (l:List Int) (x:Int) (hv:RdI H v l) (hl:l.length≤4294967296):FF 85 [v,.int .i64 x] H=some (.bool (decide (x ∈ l)),H):=by
 have hc:aB An FF 85 (some 7) 113 [v,.int .i64 x] ⟨[],H⟩=some (.int .i64 (rW l x),⟨[],H⟩):=by
  rw[cf rfl (by simp only[List.all_cons,hv.esc];rfl) (x113 H v l x hv hl),pk]
 by_cases hx:x ∈ l
 ·have h1:0≤rW l x:=by rw[rW,if_pos hx];omega
  refine aL rfl Try.func85 s85 (Nat.le_of_ble_eq_true rfl) (fun Q hqr hqn=>?_)
  rw[show ∀ a,cin (An.pure 85) a=a from fun _=>rfl]
  simp only[aO,Nat.reduceAdd,c85]
  repeat' (first
  |with_reducible refine aF ?_
  |(with_reducible (first|(refine ah (fun K hK=>?_);(first|refine t85r0 ?_|refine t85r1 ?_))|refine hqr _ ?_);(try simp only[SS,Nat.reduceEqDiff,r85,aQ,ak,aD,am,hc]))
  |(revert hK;intro hK;(first|refine And.intro ?_ ?_|intro _|omega|(with_reducible refine hK _ ?_;clear hK K))))
  simp[hx]
 ·have h1:¬ 0≤rW l x:=by rw[rW,if_neg hx];omega
  refine aL rfl Try.func85 s85 (Nat.le_of_ble_eq_true rfl) (fun Q hqr hqn=>?_)
  rw[show ∀ a,cin (An.pure 85) a=a from fun _=>rfl]
  simp only[aO,Nat.reduceAdd,c85]
  repeat' (first
  |with_reducible refine aF ?_
  |(with_reducible (first|(refine ah (fun K hK=>?_);(first|refine t85r0 ?_|refine t85r1 ?_))|refine hqr _ ?_);(try simp only[SS,Nat.reduceEqDiff,r85,aQ,ak,aD,am,hc]))
  |(revert hK;intro hK;(first|refine And.intro ?_ ?_|intro _|omega|(with_reducible refine hK _ ?_;clear hK K))))
  simp[hx]
structure PInv (b:Nat) (H0 H:List HO) (l:List (Int×CV)) (f:Int→List Int):Prop where
 len:b<H.length
 map:H[b]?=some (.map 1 (esI .i64 l))
 row:∀ y,(al l y=none∧f y=[])∨∃ n gn,al l y=some (.ref (.g n) gn 0 (f y).length)∧b<n∧H[n]?=some (.arr gn 1 ((f y).flatMap aX) 0)
 apart:∀ y z n gn gn' k k',al l y=some (.ref (.g n) gn 0 k)→al l z=some (.ref (.g n) gn' 0 k')→y=z
 old:∀ i,i<b→H[i]?=H0[i]?
theorem PInv.ref {b:Nat}{H0 H:List HO}{l:List (Int×CV)}{f:Int→List Int}(h:PInv b H0 H l f) (y:Int):RefG H ((al l y).getD .nil) (f y):=by
 rcases h.row y with⟨h1,h2⟩|⟨n,gn,h1,_,h2⟩
 ·rw[h1,h2];exact .inl ⟨rfl,rfl⟩
 ·rw[h1];exact .inr ⟨n,gn,0,rfl,h2⟩
theorem PInv.step {b:Nat}{H0 H:List HO}{l:List (Int×CV)}{f:Int→List Int}(h:PInv b H0 H l f) (y a:Int) {gt j jt:Nat}{L:List (Nat×HO)}(ht:aK L jt=some (.arr gt 1 [.int .i64 a] 0)) (hl:(f y).length+1≤4294967296) :
  ∃ v H2 H3 l',ej true j 1 8 ((al l y).getD .nil) (.ref (.l jt) gt 0 1) ⟨L,H⟩=some (v,⟨L,H2⟩)∧mB Try.prog 3 (.map (.g b) 1) (.int .i64 y) v ⟨L,H2⟩=some ⟨L,H3⟩∧PInv b H0 H3 l' (fun z=>if z=y then f y++[a] else f z):=by
 have hc:content ⟨L,H⟩ 1 (.ref (.l jt) gt 0 1)=some [.int .i64 a]:=by rw[cU,ht,dz];rfl
 have hbl:=h.len
 rcases h.row y with⟨h1,h2⟩|⟨n,gn,h1,hbn,h2⟩
 · -- a new row
  have hmap:(H++[HO.arr 1 1 [.int .i64 a] 0])[b]?=some (.map 1 (esI .i64 l)):=by rw[List.getElem?_append_left h.len];exact h.map
  refine⟨.ref (.g H.length) 1 0 1,H++[HO.arr 1 1 [.int .i64 a] 0],(H++[HO.arr 1 1 [.int .i64 a] 0]).set b (.map 1 (esI .i64 (jP l y (.ref (.g H.length) 1 0 1)))),jP l y (.ref (.g H.length) 1 0 1),?_,?_,?_⟩
  ·rw[h1,Option.getD_none,iD,hc,fq,eG (by decide),if_pos (dI (by decide) (by decide))]
   rfl
  ·exact kR (P:=Try.prog) (t:=3) (k:=.i64) (key:=.g b) (g:=1) (a:=y) (v:=.ref (.g H.length) 1 0 1) (m:=⟨L,H++[HO.arr 1 1 [.int .i64 a] 0]⟩) (l:=l) Try.underlying3 rfl hmap
  ·have hfresh:∀ z n gn k,al l z=some (.ref (.g n) gn 0 k)→n<H.length:=by
    intro z n gn k hz
    rcases h.row z with⟨h3,_⟩|⟨n',gn',h3,_,h4⟩
    ·rw[h3] at hz;cases hz
    ·rw[h3] at hz
     simp only[Option.some.injEq,CV.ref.injEq,Key.g.injEq] at hz
     rw[←hz.1];exact(List.getElem?_eq_some_iff.1 h4).1
   refine⟨by simp;omega,by rw[List.getElem?_set_self (by simp;omega)],fun z=>?_,fun z w n gn gn' k k' hz hw=>?_,fun i hi=>?_⟩
   ·rw[kr]
    by_cases hz:y=z
    ·subst hz
     right
     refine⟨H.length,1,?_,hbl,?_⟩
     ·simp[h2]
     ·rw[List.getElem?_set_ne (by omega),List.getElem?_append_right (by omega)]
      simp[h2,aX]
    ·rw[if_neg hz,if_neg (Ne.symm hz)]
     rcases h.row z with h3|⟨n',gn',h3,h4,h5⟩
     ·exact .inl h3
     ·right
      have:=(List.getElem?_eq_some_iff.1 h5).1
      exact⟨n',gn',h3,h4,by rw[List.getElem?_set_ne (by omega),List.getElem?_append_left this,h5]⟩
   ·rw[kr] at hz hw
    split at hz<;>split at hw
    ·rename_i e1 e2;rw[←e1,←e2]
    ·simp only[Option.some.injEq,CV.ref.injEq,Key.g.injEq] at hz
     have:=hfresh w n gn' k' hw
     omega
    ·simp only[Option.some.injEq,CV.ref.injEq,Key.g.injEq] at hw
     have:=hfresh z n gn k hz
     omega
    ·exact h.apart z w n gn gn' k k' hz hw
   ·rw[List.getElem?_set_ne (by omega),List.getElem?_append_left (by omega)];exact h.old i hi
 · -- a row that is made longer
  have hnl:=(List.getElem?_eq_some_iff.1 h2).1
  have hmap:(H.set n (.arr (gn+1) 1 ((f y++[a]).flatMap aX) 0))[b]?=some (.map 1 (esI .i64 l)):=by rw[List.getElem?_set_ne (by omega)];exact h.map
  refine⟨.ref (.g n) (gn+1) 0 ((f y).length+1),H.set n (.arr (gn+1) 1 ((f y++[a]).flatMap aX) 0),(H.set n (.arr (gn+1) 1 ((f y++[a]).flatMap aX) 0)).set b (.map 1 (esI .i64 (jP l y (.ref (.g n) (gn+1) 0 ((f y).length+1))))),jP l y (.ref (.g n) (gn+1) 0 ((f y).length+1)),?_,?_,?_⟩
  ·have htk:((f y).flatMap aX).take ((f y).length*1)=(f y).flatMap aX:=List.take_of_length_le (by rw[dL];omega)
   rw[h1,Option.getD_some,tt,hc,fq]
   simp only[h2]
   rw[if_pos ⟨trivial,trivial,by omega,dI (by decide) hl⟩]
   simp only[jE,List.drop_zero,htk,Nat.zero_sub,List.flatMap_append,List.flatMap_cons,List.flatMap_nil,List.append_nil,aX]
  ·exact kR (P:=Try.prog) (t:=3) (k:=.i64) (key:=.g b) (g:=1) (a:=y) (v:=.ref (.g n) (gn+1) 0 ((f y).length+1)) (m:=⟨L,H.set n (.arr (gn+1) 1 ((f y++[a]).flatMap aX) 0)⟩) (l:=l) Try.underlying3 rfl hmap
  ·refine⟨by simp;omega,by rw[List.getElem?_set_self (by simp;omega)],fun z=>?_,fun z w n' g1 g2 k k' hz hw=>?_,fun i hi=>?_⟩
   ·rw[kr]
    by_cases hz:y=z
    ·subst hz
     right
     refine⟨n,gn+1,?_,hbn,?_⟩
     ·simp
     ·rw[List.getElem?_set_ne (by omega),List.getElem?_set_self hnl]
      simp
    ·rw[if_neg hz,if_neg (Ne.symm hz)]
     rcases h.row z with h3|⟨n',gn',h3,h4,h5⟩
     ·exact .inl h3
     ·right
      have hne:n≠n':=fun e=>hz (h.apart y z n gn gn' _ _ h1 (by rw[e];exact h3))
      exact⟨n',gn',h3,h4,by rw[List.getElem?_set_ne (by omega),List.getElem?_set_ne hne,h5]⟩
   ·rw[kr] at hz hw
    split at hz<;>split at hw
    ·rename_i e1 e2;rw[←e1,←e2]
    ·rename_i e1 e2
     simp only[Option.some.injEq,CV.ref.injEq,Key.g.injEq] at hz
     rw[←hz.1] at hw
     exact e1 ▸ h.apart y w n gn g2 _ _ h1 hw
    ·rename_i e1 e2
     simp only[Option.some.injEq,CV.ref.injEq,Key.g.injEq] at hw
     rw[←hw.1] at hz
     exact e2 ▸ (h.apart y z n gn g1 _ _ h1 hz).symm
    ·exact h.apart z w n' g1 g2 k k' hz hw
   ·rw[List.getElem?_set_ne (by omega),List.getElem?_set_ne (by omega)];exact h.old i hi
theorem rQ {d:List Int}{p:Int→Bool}{a:Int}:(d++[a]).filter p=d.filter p++(if p a then [a] else []):=by
 rw[List.filter_append]
 by_cases h:p a=true
 ·rw[List.filter_cons_of_pos h,if_pos h];rfl
 ·rw[List.filter_cons_of_neg h,if_neg h];rfl
theorem x119 (g:List (List Int)) (hg:Sm g) (gv:CV) (hgv:IsRows gv g) (H:List HO) (vo:CV) (o:List Int) (hv:RdI H vo o) (hr:∀ x ∈ o,0≤x∧x<g.length) (hol:o.length≤1048576) (hnd:o.Nodup) :
  ∃ H' l,FF 119 [gv,vo] H=some (.map (.g H.length) 1,H')∧PInv H.length H H' l (fun y=>o.filter fun x=>decide (y ∈ ins g x)):=by
 have hres:∃ r,(∃ H' l,r=(CV.map (.g H.length) 1,H')∧PInv H.length H H' l (fun y=>o.filter fun x=>decide (y ∈ ins g x)))∧FF 119 [gv,vo] H=some r:=by
  refine bA rfl Try.func119 s119 (Nat.le_of_ble_eq_true rfl) (fun Q hqr hqn=>?_)
  rw[show ∀ a,cin (An.pure 119) a=a from fun _=>rfl]
  simp only[aO,Nat.reduceAdd,c119]
  repeat' (first
  |with_reducible (first|refine ai ?_|refine aj (id:=0) (fun Q0 hn0 hx0 hr0 ho0=>?_))
  |(with_reducible (refine ah (fun K hK=>?_);(first|refine t119r0 ?_|refine t119r1 ?_|refine t119r2 ?_));(try simp only[SS,Nat.reduceEqDiff,lenS,ce,kL,gA,nM,ot,p4,iK,iM,iI,iN,iL,iJ,pR,pS,jE,gQ,fD,List.append_assoc,List.length_append,List.set_cons_succ,List.set_cons_zero,cn,eV,mmX,dK,hv.len]))
  |(revert hK;intro hK;(with_reducible refine hK _ ?_;clear hK K)))
  refine aU (fun k s=>∃ (d t:List Int) (L:List (Nat×HO)) (H':List HO) (l:List (Int×CV)),o=d++t∧k=t.length∧PInv H.length H H' l (fun y=>d.filter fun x=>decide (y ∈ ins g x)) ∧
   s=⟨[(0,gv),(5,.map (.g H.length) 1),(11,vo),(12,.int .i64 o.length),(13,.int .i64 d.length)],⟨L,H'⟩⟩) _ ⟨[],o,[],_,[],rfl,rfl,?_,rfl⟩ ?_
  ·exact⟨by simp,by simp[esI],fun y=>.inl ⟨rfl,rfl⟩,(fun y z n gn gn' k k' h=>by cases h),fun i hi=>List.getElem?_append_left hi⟩
  rintro k s ⟨d,t,L,H',l,h3,rfl,hP,rfl⟩ QL1 hnL1 hxL1 hrL1
  have hlen:=congrArg List.length h3
  simp only[List.length_append] at hlen
  cases t with
  |nil=>
   simp only[List.length_nil] at hlen
   simp only[tC]
   repeat' (first
   |with_reducible (first|refine ax rfl ?_|refine aN ?_|refine aF ?_|refine hx0 _ ?_|refine hxL1 _ _ ?_)
   |(with_reducible (first|(refine ah (fun K hK=>?_);(first|refine EC ?_|refine t119r12 ?_))|refine hqr _ ?_);(try simp only[SS,Nat.reduceEqDiff,r119,aQ,ak,aD,am,xA]))
   |(revert hK;intro hK;(first|refine And.intro ?_ ?_|intro _|omega|(with_reducible refine hK _ ?_;clear hK K))))
   rw[List.append_nil] at h3
   exact⟨H',l,rfl,by rw[h3];exact hP⟩
  |cons a t=>
   simp only[List.length_cons] at hlen
   have hal:o[d.length]?=some a:=by rw[h3];simp
   have har:=hr a (List.mem_of_getElem? hal)
   have had:a ∉ d:=by
    intro h
    rw[h3,List.nodup_append] at hnd
    exact hnd.2.2 a h a List.mem_cons_self rfl
   have hvH:RdI H' vo o:=by
    rcases hv with h|h|⟨n,gn,vl,h1,h2⟩
    ·exact .inl h
    ·exact .inr (.inl h)
    ·exact .inr (.inr ⟨n,gn,vl,h1,by rw[hP.old n (List.getElem?_eq_some_iff.1 h2).1,h2]⟩)
   obtain⟨p,hp1,hp2⟩:=hvH.at hal (k:=.i64)
   have hw:IntKind.i64.wrap ((d.length:Int)+1)=d.length+1:=wI (by omega) (by omega)
   simp only[tC]
   repeat' (first
   |with_reducible (first|refine ar ?_|refine au rfl ?_|refine aj (id:=1) (fun Q1 hn1 hx1 hr1 ho1=>?_))
   |(with_reducible (refine ah (fun K hK=>?_);(first|refine EC ?_|refine t119r4 ?_|refine t119r5 ?_));(try simp only[SS,Nat.reduceEqDiff,lenS,hp1,hp2]))
   |(revert hK;intro hK;(first|refine And.intro ?_ ?_|intro _|omega|(with_reducible refine hK _ ?_;clear hK K))))
   refine k135 g hg gv hgv a har.1 har.2 rfl fun vi m' hO hH' hf=>?_
   simp only[hO.len,aJ]
   refine hK _ ?_
   clear hK K
   obtain⟨L2,H2⟩:=m'
   (try simp only at hH')
   have hH2:=hH'.symm
   subst hH2
   repeat' (first
   |with_reducible refine bl (id:=2) (fun Q2 hn2 hx2 hr2 ho2=>?_))
   have hil:(ins g a).length≤17592186044416:=by
    unfold ins
    refine Nat.le_trans (List.length_filter_le _ _) ?_
    rw[List.getD_eq_getElem?_getD,List.getElem?_eq_getElem (show a.toNat<g.length by omega),Option.getD_some]
    exact hg.2 _ (List.getElem_mem _)
   refine aU (fun k s=>∃ (d' t':List Int) (L:List (Nat×HO)) (H':List HO) (l:List (Int×CV)),ins g a=d'++t'∧k=t'.length∧PInv H.length H H' l (fun y=>(d.filter fun x=>decide (y ∈ ins g x))++if y ∈ d' then [a] else [])∧OwnE aX 1 ⟨L,H'⟩ 304 vi (ins g a) ∧
    s=⟨[(0,gv),(5,.map (.g H.length) 1),(7,.int .i64 a),(11,vo),(12,.int .i64 o.length),(13,.int .i64 d.length),(19,vi),(20,.int .i64 (ins g a).length),(21,.int .i64 d'.length)],⟨L,H'⟩⟩) _ ⟨[],ins g a,L2,H',l,rfl,rfl,?_,hO,rfl⟩ ?_
   ·simpa using hP
   rintro k s ⟨d',t',L3,H3,l3,h4,rfl,hP3,hO3,rfl⟩ QL0 hnL0 hxL0 hrL0
   have hlen':=congrArg List.length h4
   simp only[List.length_append] at hlen'
   cases t' with
   |nil=>
    simp only[List.length_nil] at hlen'
    simp only[tB]
    repeat' (first
    |with_reducible (first|refine ax rfl ?_|refine aN ?_|refine hn1 _ ?_|refine hx2 _ ?_|refine hxL0 _ _ ?_)
    |(with_reducible ((first|refine ah (fun K hK=>?_)|refine aI (fun K hK=>?_));(first|refine uq ?_|refine t119r11 ?_));(try simp only[SS,Nat.reduceEqDiff,hw]))
    |(revert hK;intro hK;(first|refine And.intro ?_ ?_|intro _|omega|(with_reducible refine hK _ ?_;clear hK K))))
    rw[List.append_nil] at h4
    refine hnL1 t.length _ (by simp) ⟨d++[a],t,L3,H3,l3,by simp[h3],rfl,?_,by simp⟩
    have:(fun y=>(d++[a]).filter fun x=>decide (y ∈ ins g x))=fun y=>(d.filter fun x=>decide (y ∈ ins g x))++if y ∈ d' then [a] else []:=by
     funext y;rw[rQ,←h4];simp
    rw[this];exact hP3
   |cons b t'=>
    simp only[List.length_cons] at hlen'
    have hbl:(ins g a)[d'.length]?=some b:=by rw[h4];simp
    obtain⟨q,hq1,hq2⟩:=hO3.at hbl (k:=.i64)
    have hw':IntKind.i64.wrap ((d'.length:Int)+1)=d'.length+1:=wI (by omega) (by omega)
    have hlk:=fK (t:=3) (a:=b) (z:=.nil) (ok:=false) Try.underlying3 (jq (m:=⟨L3,H3⟩) hP3.map)
    simp only[Bool.false_eq_true,if_false] at hlk
    have hfl:=List.length_filter_le (fun x=>decide (b ∈ ins g x)) d
    have hcl:((d.filter fun x=>decide (b ∈ ins g x))++if b ∈ d' then [a] else []).length≤1048577:=by
     rw[List.length_append];split<;>simp<;>omega
    have hct:aB An FF 119 (some 29) 85 [(al l3 b).getD .nil,.int .i64 a] ⟨L3,H3⟩=some (.bool (decide (b ∈ d')),⟨L3,H3⟩):=by
     have hR:=RdI.esc (.inr (hP3.ref b))
     rw[cf rfl (by simp only[List.all_cons,hR];rfl) (x85 H3 _ _ a (.inr (hP3.ref b)) (by omega)),eY]
     congr 3
     have:a ∉ d.filter fun x=>decide (b ∈ ins g x):=fun h=>had (List.mem_filter.1 h).1
     by_cases hb:b ∈ d'<;>simp[hb,had]
    simp only[tB]
    by_cases hb:b ∈ d'
    ·repeat' (first
     |with_reducible (first|refine ar ?_|refine au rfl ?_|refine bn rfl ?_|refine bx ?_|refine aj (id:=3) (fun Q3 hn3 hx3 hr3 ho3=>?_)|refine hn3 _ ?_)
     |(with_reducible ((first|refine ah (fun K hK=>?_)|refine aI (fun K hK=>?_));(first|refine uq ?_|refine ED ?_|refine EF ?_|refine wn ?_));(try simp only[SS,Nat.reduceEqDiff,Bool.not_true,decide_true,hq1,hq2,hlk,hct,hb,hw']))
     |(revert hK;intro hK;(first|refine And.intro ?_ ?_|intro _|omega|(with_reducible refine hK _ ?_;clear hK K))))
     refine hnL0 t'.length _ (by simp) ⟨d'++[b],t',L3,H3,l3,by simp[h4],rfl,?_,hO3,by simp⟩
     have:(fun y=>(d.filter fun x=>decide (y ∈ ins g x))++if y ∈ d'++[b] then [a] else [])=fun y=>(d.filter fun x=>decide (y ∈ ins g x))++if y ∈ d' then [a] else []:=by
      funext y
      have:(y ∈ d'++[b])↔y ∈ d':=by
       rw[List.mem_append,List.mem_singleton]
       exact⟨fun h=>h.elim (fun h=>h) (fun h=>by rw[h];exact hb),.inl⟩
      simp only[this]
     rw[this];exact hP3
    ·repeat' (first
     |with_reducible (first|refine ar ?_|refine au rfl ?_|refine bc rfl ?_|refine aj (id:=3) (fun Q3 hn3 hx3 hr3 ho3=>?_))
     |(with_reducible ((first|refine ah (fun K hK=>?_)|refine aI (fun K hK=>?_));(first|refine uq ?_|refine ED ?_|refine EF ?_|refine t119r9 ?_));(try simp only[SS,Nat.reduceEqDiff,ap,dj,ef,Bool.not_false,bg,cd,bF,ay,cz,List.all_cons,List.all_nil,Bool.and_self,decide_false,hq1,hq2,hlk,hct,hb,hw']))
     |(revert hK;intro hK;(first|refine And.intro ?_ ?_|intro _|omega|(with_reducible refine hK _ ?_;clear hK K))))
     obtain⟨v,H4,H5,l5,a1,a2,a3⟩:=hP3.step b a (j:=608) (jt:=592) (gt:=bj L3 592) (L:=(bi ⟨L3,H3⟩ 592 (.arr (bj L3 592) 1 [.int .i64 a] 0)).L) (by rw[ba,if_pos rfl]) (by omega)
     refine mQ a1 ?_
     refine mQ a2 ?_
     refine hK _ ?_
     clear hK K
     repeat' (first
     |with_reducible refine hn3 _ ?_
     |(with_reducible (refine aI (fun K hK=>?_);refine wn ?_);(try simp only[SS,Nat.reduceEqDiff,hw']))
     |(revert hK;intro hK;(with_reducible refine hK _ ?_;clear hK K)))
     refine hnL0 t'.length _ (by simp) ⟨d'++[b],t',(bi ⟨L3,H3⟩ 592 (.arr (bj L3 592) 1 [.int .i64 a] 0)).L,H5,l5,by simp[h4],rfl,?_,hO3.keep (by rw[ba,if_neg (by decide)]),by simp⟩
     have:(fun y=>(d.filter fun x=>decide (y ∈ ins g x))++if y ∈ d'++[b] then [a] else [])=fun z=>if z=b then ((d.filter fun x=>decide (b ∈ ins g x))++if b ∈ d' then [a] else [])++[a] else (d.filter fun x=>decide (z ∈ ins g x))++if z ∈ d' then [a] else []:=by
      funext y
      by_cases hy:y=b
      ·subst hy;simp[hb]
      ·simp[hy]
     rw[this];exact a3
 obtain⟨_,⟨H',l,rfl,h1⟩,h2⟩:=hres
 exact⟨H',l,h2,h1⟩
end Go.Cm
namespace Go.Cm
open Go.Proofs Go.Gr
def uf (up:List Int) (x:Int):Int:=if 0≤x then up.getD x.toNat (-1) else -1
theorem uP {up:List Int}{x:Int}(h0:0≤x) (h1:x<up.length):up[x.toNat]?=some (uf up x):=by
 have:x.toNat<up.length:=by omega
 simp[uf,h0,List.getD_eq_getElem?_getD,List.getElem?_eq_getElem this]
theorem uf_set {up:List Int}{x m:Int}(h0:0≤x) (h1:x<up.length):uf (up.set x.toNat m)=Go.Gr.upd (uf up) x m:=by
 funext z
 unfold uf Go.Gr.upd
 by_cases hz:z=x
 ·subst hz
  have:z.toNat<up.length:=by omega
  simp[h0,List.getD_eq_getElem?_getD,this]
 ·rw[if_neg hz]
  split
  ·rename_i hz0
   have:x.toNat≠z.toNat:=by omega
   simp[hz0,List.getD_eq_getElem?_getD,List.getElem?_set_ne this]
  ·rename_i hz0
   simp[hz0]
structure PEnv (g:List (List Int)) (p q qu:Nat) (H:List HO) (up:List Int):Prop where
 plc:∃ pm lp,H[p]?=some (.var 1 [.map (.g pm) 1] 0)∧H[pm]?=some (.map 1 (esI .i64 lp))∧(∀ x ∈ ord g,al lp x=some (.int .i64 (pl g x)))∧p≠qu∧pm≠qu
 upv:H[q]?=some (.var 1 [.ref (.g qu) 1 0 g.length] 0)∧q≠qu
 upa:H[qu]?=some (.arr 1 1 (up.flatMap aX) 0)
 ul:up.length=g.length
theorem PEnv.at {g:List (List Int)}{p q qu:Nat}{H:List HO}{up:List Int}(h:PEnv g p q qu H up) {x:Int}(hx:x ∈ ord g):∃ pt,bd 1 (.ref (.g qu) 1 0 g.length) (.int .i64 x)=some pt∧∀ L,ld1 ⟨L,H⟩ pt=some (.int .i64 (uf up x)):=by
 have hr:=((cu g x).1 hx).range
 refine⟨.ptr (.g qu) 1 x.toNat,?_,fun L=>?_⟩
 ·rw[bD,if_pos ⟨hr.1,by omega⟩];simp
 ·rw[ce];simp only[h.upa,bM,fX,uP hr.1 (by rw[h.ul];exact hr.2)];rfl
structure Meet2 (u:Int→Int) (a b m:Int):Prop where
 set:Set u m
 iff:∀ c,Ch u m c↔Ch u a c∧Ch u b c
theorem qm {g:List (List Int)}{u:Int→Int}(hV:Val g u) {a b:Int}(ha:Set u a) (h:pl g b<pl g a):u a ≠ -1∧Set u (u a)∧pl g (u a)<pl g a∧∀ c,(Ch u (u a) c∧Ch u b c)↔(Ch u a c∧Ch u b c):=by
 have hne:u a ≠ -1:=by
  rcases ha with rfl|h1
  ·exfalso
   obtain⟨r,hr⟩:=iV hV.ne
   have:pl g 0=0:=by simp[pl,hr]
   omega
  ·exact h1
 refine⟨hne,hV.set a hne,(hV.up a hne).2.2,fun c=>⟨fun h1=>⟨.step hne h1.1,h1.2⟩,fun h1=>⟨?_,h1.2⟩⟩⟩
 cases h1.1 with
 |self=>exfalso;have:=hV.le' h1.2;omega
 |step _ h2=>exact h2
theorem x120 (g:List (List Int)) (p q qu:Nat) (H:List HO) (up:List Int) (hE:PEnv g p q qu H up) (hV:Val g (uf up)) (a b:Int) (ha:Set (uf up) a) (hb:Set (uf up) b) :
  ∃ r,(∃ m,r=(CV.int .i64 m,H)∧Meet2 (uf up) a b m)∧FF 120 [.int .i64 a,.int .i64 b,.ptr (.g p) 1 0,.ptr (.g q) 1 0] H=some r:=by
 obtain⟨pm,lp,e1,e2,e3,_,_⟩:=hE.plc
 have e4:=hE.upv.1
 have hlk:=fun L (x:Int) (z:CV)=>fK (t:=3) (a:=x) (z:=z) (ok:=false) Try.underlying3 (jq (m:=⟨L,H⟩) e2)
 simp only[Bool.false_eq_true,if_false] at hlk
 refine bA rfl Try.func120 s120 (Nat.le_of_ble_eq_true rfl) (fun Q hqr hqn=>?_)
 rw[show ∀ a,cin (An.pure 120) a=a from fun _=>rfl]
 simp only[aO,Nat.reduceAdd,c120]
 repeat' (first
 |with_reducible refine aj (id:=0) (fun Q0 hn0 hx0 hr0 ho0=>?_)
 |(with_reducible (refine ah (fun K hK=>?_);refine t120r0 ?_);(try simp only[SS,Nat.reduceEqDiff]))
 |(revert hK;intro hK;(with_reducible refine hK _ ?_;clear hK K)))
 refine aU (fun k s=>∃ (x y:Int) (sl:List (Nat×CV)) (L:List (Nat×HO)),Set (uf up) x∧Set (uf up) y∧(∀ c,(Ch (uf up) x c∧Ch (uf up) y c)↔(Ch (uf up) a c∧Ch (uf up) b c))∧k=pl g x+pl g y ∧
  s=⟨sl,⟨L,H⟩⟩∧ac sl 0=.int .i64 x∧ac sl 1=.int .i64 y∧ac sl 2=.ptr (.g p) 1 0∧ac sl 3=.ptr (.g q) 1 0) _ ⟨a,b,_,[],ha,hb,fun _=>Iff.rfl,rfl,rfl,rfl,rfl,rfl,rfl⟩ ?_
 rintro k s ⟨x,y,sl0,L,hx,hy,hxy,rfl,rfl,t0,t1,t2,t3⟩ QL2 hnL2 hxL2 hrL2
 simp only[zE]
 by_cases hne:x=y
 ·subst hne
  repeat' (first
  |with_reducible (first|refine ai ?_|refine ax rfl ?_|refine aN ?_|refine aF ?_|refine hx0 _ ?_|refine hxL2 _ _ ?_)
  |(with_reducible (first|(refine ah (fun K hK=>?_);(first|refine EG ?_|refine t120r6 ?_))|refine hqr _ ?_);(try simp only[SS,Nat.reduceEqDiff,br,r120,aQ,ak,aD,am,bz,CV.int.injEq,t0,t1,t2,t3]))
  |(revert hK;intro hK;(with_reducible refine hK _ ?_;clear hK K)))
  exact⟨x,rfl,hx,fun c=>by rw[←hxy];exact(and_self_iff).symm⟩
 ·have hpne:pl g x≠pl g y:=fun h=>hne (qU (hV.mem hx) (hV.mem hy) h)
  repeat' (first
  |with_reducible (first|refine ai ?_|refine ar ?_|refine au rfl ?_|refine bl (id:=1) (fun Q1 hn1 hx1 hr1 ho1=>?_)|refine aj (id:=2) (fun Q2 hn2 hx2 hr2 ho2=>?_))
  |(with_reducible (refine ah (fun K hK=>?_);refine EG ?_);(try simp only[dg,br,t0,t1,t2,t3]))
  |(revert hK;intro hK;(first|refine And.intro ?_ ?_|intro _|omega|(with_reducible refine hK _ ?_;clear hK K))))
  clear t0 t1 t2 t3
  refine aU (fun k s=>∃ (x':Int) (sl:List (Nat×CV)) (L:List (Nat×HO)),Set (uf up) x'∧(∀ c,(Ch (uf up) x' c∧Ch (uf up) y c)↔(Ch (uf up) a c∧Ch (uf up) b c))∧k=pl g x'∧(x'=x∨pl g x'<pl g x) ∧
   s=⟨sl,⟨L,H⟩⟩∧ac sl 0=.int .i64 x'∧ac sl 1=.int .i64 y∧ac sl 2=.ptr (.g p) 1 0∧ac sl 3=.ptr (.g q) 1 0) _ ⟨x,_,L,hx,hxy,rfl,.inl rfl,rfl,rfl,rfl,rfl,rfl⟩ ?_
  rintro k s ⟨x',sl,L',hx',hxy',rfl,hle,rfl,t0,t1,t2,t3⟩ QL0 hnL0 hxL0 hrL0
  have a1:=e3 x' (hV.mem hx')
  have a2:=e3 y (hV.mem hy)
  simp only[zC]
  by_cases hgt:(pl g y:Int)<pl g x'
  ·obtain⟨c1,c2,c3,c4⟩:=qm hV hx' (show pl g y<pl g x' by omega)
   obtain⟨pt,g1,g2⟩:=hE.at (hV.mem hx')
   repeat' (first
   |with_reducible (first|refine ai ?_|refine ar ?_|refine au rfl ?_|refine bl (id:=3) (fun Q3 hn3 hx3 hr3 ho3=>?_)|refine hn3 _ ?_)
   |(with_reducible ((first|refine ah (fun K hK=>?_)|refine aI (fun K hK=>?_));(first|refine EH ?_|refine t120r3 ?_));(try simp only[SS,Nat.reduceEqDiff,bq,t0,t1,t2,t3,ce,e1,e4,hlk,a1,a2,Option.getD_some,hgt,g1,g2]))
   |(revert hK;intro hK;(with_reducible refine hK _ ?_;clear hK K)))
   exact hnL0 _ _ c3 ⟨uf up x',_,L',c2,fun c=>by rw[c4,hxy'],rfl,.inr (by rcases hle with h|h;rw[←h];exact c3;omega),rfl,rfl,rfl,rfl,rfl⟩
  ·repeat' (first
   |with_reducible (first|refine ai ?_|refine ax rfl ?_|refine aN ?_|refine hx2 _ ?_|refine bl (id:=4) (fun Q4 hn4 hx4 hr4 ho4=>?_)|refine hxL0 _ _ ?_)
   |(with_reducible (refine ah (fun K hK=>?_);refine EH ?_);(try simp only[SS,bq,t0,t1,t2,t3,ce,e1,e4,hlk,a1,a2,Option.getD_some,hgt]))
   |(revert hK;intro hK;(with_reducible refine hK _ ?_;clear hK K)))
   refine aU (fun k s=>∃ (y':Int) (sl:List (Nat×CV)) (L:List (Nat×HO)),Set (uf up) y'∧(∀ c,(Ch (uf up) x' c∧Ch (uf up) y' c)↔(Ch (uf up) a c∧Ch (uf up) b c))∧k=pl g y'∧(y'=y∨pl g y'<pl g y) ∧
    s=⟨sl,⟨L,H⟩⟩∧ac sl 0=.int .i64 x'∧ac sl 1=.int .i64 y'∧ac sl 2=.ptr (.g p) 1 0∧ac sl 3=.ptr (.g q) 1 0) _ ⟨y,_,L',hy,hxy',rfl,.inl rfl,rfl,rfl,rfl,rfl,rfl⟩ ?_
   rintro k s ⟨y',sl',L2,hy',hxy2,rfl,hle2,rfl,t0,t1,t2,t3⟩ QL1 hnL1 hxL1 hrL1
   have a2:=e3 y' (hV.mem hy')
   simp only[zD]
   by_cases hgt2:(pl g x':Int)<pl g y'
   ·obtain⟨c1,c2,c3,c4⟩:=qm hV hy' (show pl g x'<pl g y' by omega)
    obtain⟨pt,g1,g2⟩:=hE.at (hV.mem hy')
    repeat' (first
    |with_reducible (first|refine ai ?_|refine ar ?_|refine au rfl ?_|refine bl (id:=5) (fun Q5 hn5 hx5 hr5 ho5=>?_)|refine hn5 _ ?_)
    |(with_reducible ((first|refine ah (fun K hK=>?_)|refine aI (fun K hK=>?_));(first|refine EI ?_|refine t120r5 ?_));(try simp only[SS,Nat.reduceEqDiff,bq,t0,t1,t2,t3,ce,e1,e4,hlk,a1,a2,Option.getD_some,hgt2,g1,g2]))
    |(revert hK;intro hK;(with_reducible refine hK _ ?_;clear hK K)))
    exact hnL1 _ _ c3 ⟨uf up y',_,L2,c2,fun c=>by rw[←hxy2,and_comm,c4,and_comm],rfl,.inr (by rcases hle2 with h|h;rw[←h];exact c3;omega),rfl,rfl,rfl,rfl,rfl⟩
   ·repeat' (first
    |with_reducible (first|refine ai ?_|refine ax rfl ?_|refine aN ?_|refine hn1 _ ?_|refine hx4 _ ?_|refine hxL1 _ _ ?_)
    |(with_reducible (refine ah (fun K hK=>?_);refine EI ?_);(try simp only[SS,bq,t0,t1,t2,t3,ce,e1,e4,hlk,a1,a2,Option.getD_some,hgt2]))
    |(revert hK;intro hK;(with_reducible refine hK _ ?_;clear hK K)))
    refine hnL2 (pl g x'+pl g y') _ ?_ ⟨x',y',_,L2,hx',hy',hxy2,rfl,rfl,rfl,rfl,rfl,rfl⟩
    have h1:pl g x'=pl g x∨pl g x'<pl g x:=by
     rcases hle with h|h
     ·left;rw[h]
     ·exact .inr h
    have h2:pl g y'=pl g y∨pl g y'<pl g y:=by
     rcases hle2 with h|h
     ·left;rw[h]
     ·exact .inr h
    omega
end Go.Cm
