import Derived.Test.YtjhndbgokapikaaFoD
import Derived.Test.YtjhndbgokapikaaFlC
set_option linter.unusedSimpArgs false
set_option linter.unusedVariables false
namespace Go.Cm
open Go.Proofs Go.Fl
def Slc (m:Mem) (j:Nat) (v:CV) (l:List Int):Prop:=∃g pre post,v=.ref (.l j) g (List.length pre) l.length∧aK m.L j=some (.arr g 1 (pre++l.flatMap aX++post) 0)
section
variable {m m':Mem}{j:Nat}{v:CV}{l:List Int}
theorem Slc.keep (h:Slc m j v l) (hm:aK m'.L j=aK m.L j):Slc m' j v l:=by
 obtain⟨g,pre,post,h1,h2⟩:=h
 exact⟨g,pre,post,h1,by rw[hm,h2]⟩
theorem Slc.len (h:Slc m j v l):clen v=some l.length:=by obtain⟨g,pre,post,rfl,_⟩:=h;rfl
theorem Slc.at (h:Slc m j v l) {a:Int}{i:Nat}(ha:l[i]?=some a) {k:IntKind}:∃p,bd 1 v (.int k i)=some p∧∀m':Mem,aK m'.L j=aK m.L j→ld1 m' p=some (.int .i64 a):=by
 obtain⟨g,pre,post,rfl,h2⟩:=h;have hi:=(List.getElem?_eq_some_iff.1 ha).1
 refine⟨.ptr (.l j) g (pre.length+i),?_,λm' hm=>?_⟩
 ·rw[bD,if_pos ⟨by omega,by omega⟩];simp
 ·rw[eX,hm,h2]
  simp only[bM,if_true];rw[List.append_assoc,List.getElem?_append_right (by omega),Nat.add_sub_cancel_left,List.getElem?_append_left (by rw[dL];exact hi),fX,ha];rfl
theorem Slc.tail {a:Int}(h:Slc m j v (a::l)):∃v',sJ 1 v (some (.int .i64 1)) none none m=some v'∧Slc m j v' l:=by
 obtain⟨g,pre,post,rfl,h2⟩:=h;have hb:fp (a::l).length (some (.int .i64 1)) none=some (1,(a::l).length):=by simp[fp,eH]
 refine⟨.ref (.l j) g (pre++[CV.int .i64 a]).length l.length,?_,g,pre++[CV.int .i64 a],post,rfl,?_⟩
 ·simp only[sJ,qN,clen,hb,Mem.get,h2,and_self,if_true]
  simp
 ·rw[h2];simp[aX]
theorem Slc.init {a:Int}{l':List Int}(h:Slc m j v l) (hl:l=l'++[a]):∃v',sJ 1 v none (some (.int .i64 l'.length)) none m=some v'∧Slc m j v' l':=by
 obtain⟨g,pre,post,rfl,h2⟩:=h;subst hl;have hb:fp (l'++[a]).length none (some (.int .i64 l'.length))=some (0,l'.length):=by simp[fp,eH]
 refine⟨.ref (.l j) g pre.length l'.length,?_,g,pre,.int .i64 a::post,rfl,?_⟩
 ·simp only[sJ,qN,clen,hb,Mem.get,h2,and_self,if_true]
  simp
 ·rw[h2];simp[aX]
theorem Slc.app (h:Slc m j v l) {j' b:Nat}{x:CV}{ys:List Int}{K:CV×Mem→Prop}(hx:Cm.content m 1 x=some (ys.flatMap aX)) (hn:clen x=some ys.length)
  (hb:b≤1024) (hl:l.length+ys.length≤4294967296) (hK:∀v' m',Slc m' j v' (l++ys)→m'.H=m.H→(∀i,i≠j→aK m'.L i=aK m.L i)→K (v',m')):Obt (ej false j' 1 b v x m) K:=by
 obtain⟨g,pre,post,rfl,h⟩:=h;have htk:((pre++l.flatMap aX++post).drop pre.length).take (l.length*1)=l.flatMap aX:=by
  rw[List.append_assoc,List.drop_left,List.take_append_of_le_length (by rw[dL];omega),List.take_of_length_le (by rw[dL];omega)]
 rw[fP,hx,hn,h,ea,if_pos ⟨by omega,dI hb hl⟩,aJ];refine hK _ _ ⟨g+1,[],[],by simp,?_⟩ rfl ?_
 ·rw[ba,if_pos rfl,htk,List.flatMap_append];simp
 ·intro i hi;rw[ba,if_neg (Ne.symm hi)]
end
def nI (l:List Nat):List Int:=l.map λ(i:Nat)=>(i:Int)
theorem nI_mem {l:List Nat}{i:Nat}:(i:Int)∈nI l↔i∈l:=by
 simp only[nI,List.mem_map]
 exact⟨λ⟨a,h1,h2⟩=>by rw[show i=a by omega];exact h1,λh=>⟨i,h,rfl⟩⟩
theorem d8 {l:List Nat}:(nI l).length=l.length:=List.length_map ..
theorem q5 {l:List Nat}{k:Nat}:(nI l)[k]?=(l[k]?).map λ(i:Nat)=>(i:Int):=List.getElem?_map ..
theorem Qg {M l:List Nat}(hM:M.Nodup) (hl:l.Pairwise (· < ·)) (h:∀x,x∈M↔x∈l):Kq (nI M)=nI l:=by
 have hl2:l.Nodup:=hl.imp λh=>by omega
 have hp:M.Perm l:=(List.perm_ext_iff_of_nodup hM hl2).2 h;have hp2:(nI M).Perm (nI l):=hp.map _;rw[Kq,Go.mergeSort_of_perm_i hp2];refine List.mergeSort_of_pairwise ?_;rw[nI,List.pairwise_map];exact hl.imp λh=>by simp;omega
def esB (M:List Nat):List (Int×CV):=(nI M).map λx=>(x,.bool true)
theorem Mc:∀{M:List Nat},(∀x∈M,x<1000000)→KD (esI .i64 (esB M))=some (nI M)
 |[],_=>rfl
 |x::M,h=>by
  have hx:=h x (by simp);have ih:=Mc (M:=M) λy hy=>h y (List.mem_cons_of_mem _ hy);have hw:(Lit.int .i64 (x:Int)).wf=true:=by
   simp only[Lit.wf,IntKind.min,IntKind.max,IntKind.bits,IntKind.signed];simp;omega
  show(if (Lit.int .i64 (x:Int)).wf then (KD (esI .i64 (esB M))).map ((x:Int)::·) else none)=_
  rw[if_pos hw,ih];rfl
theorem Nk {M:List Nat}{x:Nat}:(al (esB M) x).getD (.bool false)=.bool (decide (x∈M)):=by
 by_cases h:x∈M
 ·rw[esB,xV (nI_mem.2 h),decide_eq_true h];rfl
 ·have:al (esB M) x=none:=by
   have:=Oh (l:=nI M) (f:=λx=>x) (g:=λ_=>CV.bool true) (a:=(x:Int)) (λy hy e=>h (nI_mem.1 (e ▸ hy)));exact this
  rw[this,decide_eq_false h];rfl
theorem ME {M:List Nat}{x:Nat}(h:x∉M):jP (esB M) x (.bool true)=esB (M++[x]):=by
 have:al (esB M) x=none:=Oh (l:=nI M) (f:=λx=>x) (g:=λ_=>CV.bool true) (a:=(x:Int)) (λy hy e=>h (nI_mem.1 (e ▸ hy)));rw[Oi this];simp[esB,nI]
theorem x29 (H:List HO) (n gn:Nat):FF 29 [.map (.g n) gn] H=some (.func (.func 42) [] [.ptr (.g H.length) 1 0],H++[.var 1 [.map (.g n) gn] 0]):=by
 refine aL rfl Try.func29 s29 (Nat.le_of_ble_eq_true rfl) (λQ hqr hqn=>?_);rw[show ∀a,cin (An.pure 29) a=a from λ_=>rfl];simp only[aO,Nat.reduceAdd,c29];have hb:∀m,iB (.map (.g n) gn) m=some (eP m,ir m [.map (.g n) gn]):=λm=>ye rfl rfl;have hrf:∀m,gD (.func (.func 42) [] [.ptr (.g H.length) 1 0]) m=some (.func (.func 42) [] [.ptr (.g H.length) 1 0],m):=λm=>rfl
 repeat' (first
 |with_reducible refine aF ?_
 |(with_reducible (first|(refine ah (λK hK=>?_);(first|refine t29r0 ?_|refine t29r1 ?_))|refine hqr _ ?_);(try simp only[b9,if_true,aJ,dg,Option.map_some,if_true,r29,aQ,ak,aD,Option.bind_some,am,aV,ce,LP,gA,nM,ot,p4,iK,iM,iI,iN,iL,iJ,pR,pS,jE,gQ,fD,List.append_assoc,List.length_append,List.set_cons_succ,List.set_cons_zero,cn,eV,mmX,dK,hb,hrf]))
 |(revert hK;intro hK;(with_reducible refine hK _ ?_;clear hK K)))
noncomputable def hC (p:List In):List Int:=if gW p=0 then nI (bO (gP p)) else []
def um (n:Nat) (M:List Nat):Nat:=(List.range n).countP λi=>!(M.contains i)
theorem um_lt {n:Nat}{M:List Nat}{x:Nat}(h1:x<n) (hx:x∉M):um n (M++[x])<um n M:=by
 refine Gr.jS (i:=x) (List.mem_range.2 h1) (λj h=>?_) ?_ ?_
 ·simp at h ⊢;exact h.1
 ·simp[hx]
 ·simp
theorem gV {p:List In}(hp:gW p=0) {i:Nat}(hi:(gP p).live i):np p i=nI ((gP p).succ i):=by
 show it jB wrI p i=nI ((it jB wrI p i).map Int.toNat);rw[nI,List.map_map]
 refine(List.map_id _).symm.trans (List.map_congr_left λs hs=>?_)
 have:=Mi hp hi hs;simp only[id,Function.comp];omega
theorem tG {p:List In}{i:Int}:(np p i).length≤2:=by
 show(it jB wrI p i).length≤2
 unfold it
 repeat' (first|split|simp|omega)
theorem P7 {n:Nat}:∀{M:List Nat},M.Nodup→(∀x∈M,x<n)→M.length≤n:=λ{M} h1 h2=>by
 have h:=(List.perm_ext_iff_of_nodup (h1.filter (λ_=>true)) (List.nodup_range.filter λi=>M.contains i)).2 (λa=>by
  simp only[List.mem_filter,List.mem_range,List.contains_iff_mem,and_true]
  exact⟨λh=>⟨h2 a h,h⟩,λh=>h.2⟩)
 have h3:=h.length_eq;have h4:(M.filter λ_=>true)=M:=by simp
 rw[h4] at h3;have:=List.length_filter_le (λi=>M.contains i) (List.range n);rw[List.length_range] at this;omega
set_option maxHeartbeats 4000000 in
theorem x11 (p:List In) (hp:p.length≤9223372036854775807):∃r,(∃H',r=(eA aX 1 (hC p),H'))∧FF 11 [sl inC p] []=some r:=by
 obtain⟨_,⟨ci,H0,rfl⟩,hc⟩:=x18 p (by omega);have kC:∀t m,cd An FF 11 (some t) 18 [sl inC p] m=some (.tuple [.int .i64 ci,.int .i64 (gW p)],m):=λt m=>cr hc (λ_ _ _=>rfl) rfl (by simp only[cans,inE.can_sl]) rfl (by simp only[noGs,inE.noG_sl,Bool.and_self]) rfl
 by_cases h0:gW p=0
 ·have he:hC p=nI (bO (gP p)):=by rw[hC,if_pos h0]
  have hg:=vE h0;obtain⟨hn1,hn2,_⟩:=nb h0;rw[he];rw[h0] at kC;refine bA rfl Try.func11 s11 (Nat.le_of_ble_eq_true rfl) (λQ hqr hqn=>?_);rw[bf (show An.pure 11=true from rfl) (by simp only[cans,aG,az,aC,aH,inE.can_sl])];simp only[aO,Nat.reduceAdd,c11]
  repeat' (first
  |with_reducible (first|refine ai ?_|refine ar ?_|refine ax rfl ?_|refine aj (id:=0) (λQ0 hn0 hx0 hr0 ho0=>?_))
  |(with_reducible (refine ah (λK hK=>?_);(first|refine t11r0 ?_|refine t11r1 ?_|refine t11r2 ?_|refine t11r4 ?_|refine t11r5 ?_));(try simp only[true_implies,false_implies,not_true_eq_false,b9,if_true,if_false,Nat.reduceEqDiff,aJ,dg,List.getElem?_cons_zero,List.getElem?_cons_succ,br,dT,List.nil_append,List.length_nil,and_true,if_false,if_true,ce,LP,gA,nM,ot,p4,iK,iM,iI,iN,iL,iJ,pR,pS,jE,gQ,fD,List.append_assoc,List.length_append,List.set_cons_succ,List.set_cons_zero,cn,eV,mmX,dK,kC,gG]))
  |(revert hK;intro hK;(with_reducible refine hK _ ?_;clear hK K)))
  refine aU (λk s=>∃(M T:List Nat) (v:CV) (L:List (Nat×HO)) (ts:List (Nat×CV)),M.Nodup∧(∀x∈M,R (gP p) x)∧(∀x∈T,R (gP p) x)∧(0∈M∨0∈T)∧(∀x∈M,∀y∈(gP p).succ x,y∈M∨y∈T)∧k=3*um p.length M+T.length∧T.length+3*um p.length M≤30000∧Slc ⟨L,[]⟩ 256 v (nI T) ∧
    ac ts 0=sl inC p∧ac ts 5=.map (.g 0) 1∧ac ts 6=v∧s=⟨ts,⟨L,[.map 1 (esI .i64 (esB M))]⟩⟩) _ ⟨[],[0],.ref (.l 256) (bj [] 256) 0 1,_,_,List.nodup_nil,(λx h=>by cases h),(λx h=>by rw[List.mem_singleton.1 h];exact .zero),.inr (by simp),(λx h=>by cases h),rfl,?_,?_,rfl,rfl,rfl,rfl⟩ ?_
  ·have:um p.length []≤p.length:=Nat.le_trans List.countP_le_length (by rw[List.length_range];exact Nat.le_refl _)
   simp only[List.length_singleton];omega
  ·exact⟨_,[],[],rfl,by rw[aq,if_pos rfl];rfl⟩
  rintro k s ⟨M,T,v,L,ts,i1,i2,i3,i4,i5,rfl,i6,hS,g0,g5,g6,rfl⟩ QL0 hnL0 hxL0 hrL0;simp only[c11l0]
  cases T with
  |nil=>
   have h0M:0∈M:=i4.elim id λh=>by cases h
   have hall:∀x,x∈M↔x∈bO (gP p):=λx=>by
    rw[gc hg]
    refine⟨i2 x,λh=>?_⟩
    induction h with
    |zero=>exact h0M
    |step _ hs ih=>exact(i5 _ ih _ hs).elim id λh=>by cases h
   have hsrt:=Qg i1 (vp (g:=gP p)) hall;have hlt:∀x∈M,x<p.length:=λx hx=>hg.lt x ((i2 x hx).live hg);have hMl:=P7 i1 hlt;have hks:=Mc (M:=M) λx hx=>by have:=hlt x hx;omega
   have hne:nI M≠[]:=λe=>by
    have:M=[]:=by simpa[nI] using e
    rw[this] at h0M;cases h0M
   have hls:KY (nI M)=eA aX 1 (nI (bO (gP p))):=by
    rw[KY,if_neg hne,eA,←hsrt,if_neg (λe=>hne (List.eq_nil_of_length_eq_zero (by have:=congrArg List.length e;rw[Kq,List.length_mergeSort] at this;exact this)))];simp[Kq]
   have k29:∀t L,cd An FF 11 (some t) 29 [.map (.g 0) 1] ⟨L,[.map 1 (esI .i64 (esB M))]⟩=some (.func (.func 42) [] [.ptr (.g 1) 1 0],⟨L,[.map 1 (esI .i64 (esB M)),.var 1 [.map (.g 0) 1] 0]⟩):=λt L=>by
    rw[cf (A:=An) (F:=FF) (fid:=11) (d:=t) (m:=⟨L,[.map 1 (esI .i64 (esB M))]⟩) rfl rfl (x29 [.map 1 (esI .i64 (esB M))] 0 1)];rfl
   have hel:(esI .i64 (esB M)).length≤1000000:=by simp[esI,esB,nI];omega
   have h28:=x28 (x:=1) (gx:=1) (n:=0) (gn:=1) (vl:=0) (H:=[.map 1 (esI .i64 (esB M)),.var 1 [.map (.g 0) 1] 0]) rfl rfl hks hel;rw[hls] at h28;have hz:¬((0:Int)<0):=by omega
   repeat' (first
   |with_reducible (first|refine ai ?_|refine ax rfl ?_|refine aN ?_|refine hx0 _ ?_|refine hxL0 _ _ ?_)
   |(with_reducible (refine ah (λK hK=>?_);(first|refine Qh ?_|refine t11r12 ?_));(try simp only[true_implies,false_implies,not_false_eq_true,b9,if_true,if_false,Nat.reduceEqDiff,aJ,dg,bq,Option.map_some,lenS,List.length_nil,true_and,if_false,if_true,ce,LP,gA,nM,ot,p4,iK,iM,iI,iN,iL,iJ,pR,pS,jE,gQ,fD,List.append_assoc,List.length_append,List.set_cons_succ,List.set_cons_zero,cn,eV,mmX,dK,g0,g5,g6,hS.len,d8,Int.natCast_zero,gt_iff_lt,Int.lt_irrefl,k29]))
   |(revert hK;intro hK;(with_reducible refine hK _ ?_;clear hK K)))
   rw[cf (A:=An) (F:=FF) (fid:=11) (d:=38) (m:=⟨L,[.map 1 (esI .i64 (esB M)),.var 1 [.map (.g 0) 1] 0]⟩) rfl rfl h28,aJ];obtain⟨v1,m1,e1,e2,e3,e4⟩:=Jz (e:=aX) (sz:=1) (m:=⟨L,[.map 1 (esI .i64 (esB M)),.var 1 [.map (.g 0) 1] 0]⟩) (l:=nI (bO (gP p))) (d:=38) (gl:=(An.glob 11).contains 38) rfl;rw[e1];refine hK _ ?_;clear hK K
   repeat' (first
   |with_reducible refine aF ?_
   |(with_reducible refine hqr _ ?_;(try simp only[b9,if_true,aJ,Option.map_some,dU,cD,if_true,r11,aQ,ak,aD,Option.bind_some,am,aV,Prod.mk.injEq])))
   refine e2.ret dB λm' hm'=>⟨_,rfl,rfl⟩
  |cons x T=>
   have hx:=i3 x (by simp);have hxl:=hx.live hg;have hxn:x<p.length:=hg.lt x hxl;obtain⟨q,hq1,hq2⟩:=hS.at (i:=0) (a:=x) rfl (k:=.i64);have hld:ld1 ⟨L,[.map 1 (esI .i64 (esB M))]⟩ q=some (.int .i64 x):=hq2 _ rfl;obtain⟨v',hv1',hv2⟩:=(hS.keep (m':=⟨L,[.map 1 (esI .i64 (esB M))]⟩) rfl).tail;have hv2:=hv2.keep (m':=⟨L,[]⟩) rfl;have hlk:∀L,gK Try.prog 3 (.bool false) (.map (.g 0) 1) (.int .i64 x) false ⟨L,[.map 1 (esI .i64 (esB M))]⟩=some (.bool (decide (x∈M))):=λL=>by
    rw[fK Try.underlying3 (jq (m:=⟨L,[.map 1 (esI .i64 (esB M))]⟩) (a:=0) (g:=1) rfl)];simp only[Bool.false_eq_true,if_false,Nk]
   have hpos:(0:Int)<((T.length+1:Nat):Int):=by omega
   have h00:((0:Nat):Int)=0:=rfl;rw[h00] at hq1
   by_cases hm:x∈M
   ·rw[decide_eq_true hm] at hlk
    repeat' (first
    |with_reducible (first|refine ai ?_|refine ar ?_|refine au rfl ?_|refine d7 rfl ?_|refine bx ?_|refine bl (id:=1) (λQ1 hn1 hx1 hr1 ho1=>?_)|refine hn1 _ ?_)
    |(with_reducible (refine ah (λK hK=>?_);(first|refine Qh ?_|refine t11r7 ?_|refine t11r8 ?_|refine t11r9 ?_));(try simp only[true_implies,false_implies,not_true_eq_false,b9,if_true,if_false,Nat.reduceEqDiff,aJ,dg,bq,fc,Option.map_some,Bool.not_true,lenS,List.length_cons,and_true,if_false,if_true,ce,LP,gA,nM,ot,p4,iK,iM,iI,iN,iL,iJ,pR,pS,jE,gQ,fD,List.append_assoc,List.length_append,List.set_cons_succ,List.set_cons_zero,cn,eV,mmX,dK,g0,g5,g6,hS.len,d8,List.length_cons,gt_iff_lt,hpos,hq1,hld,hv1',hlk]))
    |(revert hK;intro hK;(with_reducible refine hK _ ?_;clear hK K)))
    refine hnL0 (3*um p.length M+T.length) _ (by simp) ⟨M,T,v',L,_,i1,i2,λy hy=>i3 y (List.mem_cons_of_mem _ hy),?_,λy hy z hz=>?_,rfl,by simp only[List.length_cons] at i6;omega,hv2,rfl,rfl,rfl,rfl⟩
    ·rcases i4 with h|h
     ·exact .inl h
     ·rcases List.mem_cons.1 h with rfl|h
      ·exact .inl hm
      ·exact .inr h
    ·rcases i5 y hy z hz with h|h
     ·exact .inl h
     ·rcases List.mem_cons.1 h with rfl|h
      ·exact .inl hm
      ·exact .inr h
   ·rw[decide_eq_false hm] at hlk
    have hmu:∀L,mB Try.prog 3 (.map (.g 0) 1) (.int .i64 x) (.bool true) ⟨L,[.map 1 (esI .i64 (esB M))]⟩=some ⟨L,[.map 1 (esI .i64 (esB (M++[x])))]⟩:=λL=>by
     rw[MS (P:=Try.prog) (t:=3) (k:=.i64) (key:=.g 0) (g:=1) (a:=x) (v:=.bool true) (m:=⟨L,[.map 1 (esI .i64 (esB M))]⟩) (l:=esB M) Try.underlying3 rfl rfl,ME hm];rfl
    repeat' (first
    |with_reducible (first|refine ai ?_|refine ar ?_|refine au rfl ?_|refine bc rfl ?_|refine bl (id:=1) (λQ1 hn1 hx1 hr1 ho1=>?_))
    |(with_reducible ((first|refine ah (λK hK=>?_)|refine aI (λK hK=>?_));(first|refine Qh ?_|refine t11r7 ?_|refine t11r8 ?_|refine t11r9 ?_|refine t11r10 ?_|refine t11r11 ?_));(try simp only[true_implies,false_implies,not_true_eq_false,b9,if_true,if_false,Nat.reduceEqDiff,aJ,dg,bq,fc,Option.map_some,Bool.not_false,lenS,List.length_cons,and_true,if_false,if_true,ce,LP,gA,nM,ot,p4,iK,iM,iI,iN,iL,iJ,pR,pS,jE,gQ,fD,List.append_assoc,List.length_append,List.set_cons_succ,List.set_cons_zero,cn,eV,mmX,dK,g0,g5,g6,hS.len,d8,List.length_cons,gt_iff_lt,hpos,hq1,hld,hv1',hlk,hmu]))
    |(revert hK;intro hK;(with_reducible refine hK _ ?_;clear hK K)))
    refine k20 (by omega) rfl λvs m' hO hH' hf=>?_;rw[gV h0 hxl] at hO;have hs2:((gP p).succ x).length≤2:=by
     have:=tG (p:=p) (i:=x);rw[gV h0 hxl,d8] at this;exact this
    have hum:=um_lt hxn hm;simp only[List.length_cons] at i6;refine Slc.app (l:=nI T) (ys:=nI ((gP p).succ x)) (hv2.keep (m':=m') (hf 256 (by decide))) (hO.content dB) hO.len (by decide) (by rw[d8,d8];omega) λv2 m2 hS2 hH2 _=>?_;refine hK _ ?_;clear hK K;obtain⟨L2,H2⟩:=m2;simp only at hH2;rw[hH'] at hH2;simp only at hH2;subst hH2
    repeat' (first
    |with_reducible refine hn1 _ ?_)
    refine hnL0 (3*um p.length (M++[x])+(T++(gP p).succ x).length) _ (by simp only[List.length_append,List.length_cons];omega) ⟨M++[x],T++(gP p).succ x,v2,L2,_,?_,?_,?_,?_,?_,rfl,by simp only[List.length_append];omega,by rw[show nI (T++(gP p).succ x)=nI T++nI ((gP p).succ x) from List.map_append ..];exact hS2.keep rfl,rfl,rfl,rfl,rfl⟩
    ·exact List.nodup_append.2 ⟨i1,by simp,λa ha b hb e=>hm (by rw[List.mem_singleton.1 hb] at e;exact e ▸ ha)⟩
    ·intro y hy
     rcases List.mem_append.1 hy with hy|hy
     ·exact i2 y hy
     ·rw[List.mem_singleton.1 hy];exact hx
    ·intro y hy
     rcases List.mem_append.1 hy with hy|hy
     ·exact i3 y (List.mem_cons_of_mem _ hy)
     ·exact .step hx hy
    ·rcases i4 with h|h
     ·exact .inl (List.mem_append_left _ h)
     ·rcases List.mem_cons.1 h with h|h
      ·exact .inl (by rw[h];simp)
      ·exact .inr (List.mem_append_left _ h)
    ·intro y hy z hz
     rcases List.mem_append.1 hy with hy|hy
     ·rcases i5 y hy z hz with h|h
      ·exact .inl (List.mem_append_left _ h)
      ·rcases List.mem_cons.1 h with h|h
       ·exact .inl (by rw[h];simp)
       ·exact .inr (List.mem_append_left _ h)
     ·rw[List.mem_singleton.1 hy] at hz
      exact .inr (List.mem_append_right _ hz)
 ·have he:hC p=[]:=by rw[hC,if_neg h0]
  rw[he];refine bA rfl Try.func11 s11 (Nat.le_of_ble_eq_true rfl) (λQ hqr hqn=>?_);rw[bf (show An.pure 11=true from rfl) (by simp only[cans,aG,az,aC,aH,inE.can_sl])];simp only[aO,Nat.reduceAdd,c11]
  repeat' (first
  |with_reducible (first|refine ai ?_|refine au rfl ?_|refine b6 ?_)
  |(with_reducible (first|(refine ah (λK hK=>?_);(first|refine t11r0 ?_|refine t11r1 ?_|refine t11r2 ?_|refine t11r3 ?_))|refine hqr _ ?_);(try simp only[true_implies,false_implies,not_false_eq_true,b9,if_true,if_false,Nat.reduceEqDiff,aJ,dg,List.getElem?_cons_zero,List.getElem?_cons_succ,br,Option.map_some,dT,true_and,if_false,if_true,r11,aQ,ak,aD,Option.bind_some,am,eh,aV,Prod.mk.injEq,kC,h0,ne_eq]))
  |(revert hK;intro hK;(with_reducible refine hK _ ?_;clear hK K)))
  all_goals exact⟨_,rfl,rfl⟩
end Go.Cm
