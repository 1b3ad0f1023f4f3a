import Derived.Test.YtijcpefcfcbcnaaIzK
import Derived.Test.YtijcpefcfcbcnaaIzC
import Derived.Test.YtijcpefcfcbcnaaIdW
set_option linter.unusedSimpArgs false
set_option linter.unusedVariables false
namespace Go.Cm
open Go.Proofs Go.Ir Go.Gr
def p3C (p:Option (Int×Int)):List CV:=match p with
 |none=>[.bool false,.int .i64 0,.int .i64 0]
 |some x=>[.bool true,.int .i64 x.1,.int .i64 x.2]
theorem kX (p:Option (Int×Int)):(p3C p).length=3:=by cases p<;>rfl
theorem Er {α:Type}{e:α→List CV}{sz:Nat}(hs:∀ a,(e a).length=sz):∀ (l:List α) (i:Nat) (x:α),i<l.length→ay (l.flatMap e) (i*sz) (e x)=(l.set i x).flatMap e
 |[],i,x,h=>by simp at h
 |a::l,0,x,_=>by
  simp only[List.flatMap_cons,Nat.zero_mul,ay,List.take_zero,List.nil_append,Nat.zero_add,hs,List.set_cons_zero]
  rw[List.drop_append_of_le_length (by rw[hs];exact Nat.le_refl _),List.drop_of_length_le (by rw[hs];exact Nat.le_refl _),List.nil_append]
 |a::l,i+1,x,h=>by
  have ih:=Er hs l i x (by simpa using h)
  simp only[List.flatMap_cons,List.set_cons_succ,←ih,ay,hs]
  have h3:(i+1)*sz=(e a).length+i*sz:=by rw[hs,Nat.succ_mul,Nat.add_comm]
  have h4:(e a).length+i*sz+sz=(e a).length+(i*sz+sz):=by omega
  rw[h3,List.take_length_add_append,h4,List.drop_length_add_append]
  simp only[List.append_assoc]
theorem pZ {α:Type}{e:α→List CV}{a:α}:∀ n,dM n (e a)=(List.replicate n a).flatMap e
 |0=>rfl
 |n+1=>by
  have:=pZ (e:=e) (a:=a) n
  simp only[dM,List.replicate_succ,List.flatMap_cons,this]
theorem p3_at {H:List HO}{np:Nat}{l:List (Option (Int×Int))}(hnp:H[np]?=some (.arr 1 3 (l.flatMap p3C) 0)) {id:Int}{p:Option (Int×Int)}(h0:0≤id) (hp:l[id.toNat]?=some p) :
  bd 3 (.ref (.g np) 1 0 l.length) (.int .i64 id)=some (.ptr (.g np) 1 (id.toNat*3))∧(∀ L,ldA 3 ⟨L,H⟩ (.ptr (.g np) 1 (id.toNat*3))=some (.agg (p3C p))) ∧
  (∀ L,ld1 ⟨L,H⟩ (.ptr (.g np) 1 (id.toNat*3))=some (.bool p.isSome)):=by
 have hl:=(List.getElem?_eq_some_iff.1 hp).1
 obtain⟨h1,h2⟩:=hJ (e:=p3C) (sz:=3) kX hp
 refine⟨by rw[bD,if_pos ⟨h0,by omega⟩];simp,fun L=>?_,fun L=>?_⟩
 ·rw[kL]
  simp only[hnp,fB]
  rw[if_pos h2,h1]
 ·have h:=dA (e:=p3C) (sz:=3) (off:=0) kX hp (by omega)
  rw[ce];simp only[hnp,bM]
  rw[Nat.add_zero] at h
  rw[h];cases p<;>rfl
theorem xG {H:List HO}{L:List (Nat×HO)}{np i:Nat}{l:List (Option (Int×Int))}{p:Option (Int×Int)}(hnp:H[np]?=some (.arr 1 3 (l.flatMap p3C) 0)) (hi:i<l.length) :
  stX 3 ⟨L,H⟩ (.ptr (.g np) 1 (i*3)) (.agg (p3C p))=some ⟨L,H.set np (.arr 1 3 ((l.set i p).flatMap p3C) 0)⟩:=by
 have hc:ap (.agg (p3C p))=some (p3C p):=rfl
 have hp:(p3C p).all cz=true:=by cases p<;>rfl
 rw[gQ,hnp,hc,mO hp hnp,if_pos ⟨kX p,by rw[bC kX];omega,Nat.zero_le _⟩,Er kX l i p hi];rfl
theorem DY {z z' z'':CV}{b:Bool}{i w:Int}:(bg [z,z',z''] [(0,1,.bool b),(1,1,.int .i64 i),(2,1,.int .i64 w)]).map CV.agg=some (.agg [.bool b,.int .i64 i,.int .i64 w]):=rfl
theorem x73 (H:List HO) (np:Nat) (l:List (Option (Int×Int))) (id p at_:Int) (hnp:H[np]?=some (.arr 1 3 (l.flatMap p3C) 0)) :
  FF 73 [.ref (.g np) 1 0 l.length,.int .i64 id,.int .i64 p,.int .i64 at_] H=some (match mk1 l id (p,at_) with|none=>(.bool false,H)|some l'=>(.bool true,H.set np (.arr 1 3 (l'.flatMap p3C) 0))):=by
 by_cases h0:id<0
 ·have hm:mk1 l id (p,at_)=none:=by unfold mk1;rw[if_neg (by omega)]
  rw[hm]
  refine aL rfl Try.func73 s73 (Nat.le_of_ble_eq_true rfl) (fun Q hqr hqn=>?_)
  rw[show ∀ a,cin (An.pure 73) a=a from fun _=>rfl]
  simp only[aO,Nat.reduceAdd,c73]
  repeat' (first
  |with_reducible (first|refine ai ?_|refine au rfl ?_|refine be ?_)
  |(with_reducible (first|(refine ah (fun K hK=>?_);(first|refine wD ?_|refine wE ?_|refine Fs ?_))|refine hqr _ ?_);(try simp only[SS,Nat.reduceEqDiff,lenS,dy,bD,r73,aQ,ak,aD,am,h0]))
  |(revert hK;intro hK;(with_reducible refine hK _ ?_;clear hK K)))
  all_goals first|rfl|trivial
 by_cases h1:(l.length:Int)≤id
 ·have hm:mk1 l id (p,at_)=none:=by unfold mk1;rw[if_neg];intro h;have:=(List.getElem?_eq_some_iff.1 h.2).1;omega
  rw[hm]
  refine aL rfl Try.func73 s73 (Nat.le_of_ble_eq_true rfl) (fun Q hqr hqn=>?_)
  rw[show ∀ a,cin (An.pure 73) a=a from fun _=>rfl]
  simp only[aO,Nat.reduceAdd,c73]
  repeat' (first
  |with_reducible (first|refine ai ?_|refine au rfl ?_|refine be ?_)
  |(with_reducible (first|(refine ah (fun K hK=>?_);(first|refine wD ?_|refine wE ?_|refine Fs ?_))|refine hqr _ ?_);(try simp only[SS,Nat.reduceEqDiff,lenS,dy,bD,r73,aQ,ak,aD,am,h0,h1]))
  |(revert hK;intro hK;(with_reducible refine hK _ ?_;clear hK K)))
  all_goals first|rfl|trivial
 obtain⟨q,hq⟩:∃ q,l[id.toNat]?=some q:=⟨_,List.getElem?_eq_getElem (by omega)⟩
 obtain⟨i1,_,i3⟩:=p3_at hnp (by omega) hq
 have hid:id.toNat<l.length:=by omega
 cases q with
 |some x=>
  have hm:mk1 l id (p,at_)=none:=by unfold mk1;rw[if_neg];intro h;rw[hq] at h;cases h.2
  rw[hm]
  simp only[Option.isSome] at i3
  refine aL rfl Try.func73 s73 (Nat.le_of_ble_eq_true rfl) (fun Q hqr hqn=>?_)
  rw[show ∀ a,cin (An.pure 73) a=a from fun _=>rfl]
  simp only[aO,Nat.reduceAdd,c73]
  repeat' (first
  |with_reducible (first|refine ai ?_|refine au rfl ?_|refine be ?_)
  |(with_reducible (first|(refine ah (fun K hK=>?_);(first|refine wD ?_|refine wE ?_|refine Fs ?_))|refine hqr _ ?_);(try simp only[SS,Nat.reduceEqDiff,lenS,r73,aQ,ak,aD,am,Nat.add_zero,h0,h1,i1,i3]))
  |(revert hK;intro hK;(with_reducible refine hK _ ?_;clear hK K)))
  all_goals first|rfl|trivial
 |none=>
  have hm:mk1 l id (p,at_)=some (l.set id.toNat (some (p,at_))):=by unfold mk1;rw[if_pos ⟨by omega,hq⟩]
  rw[hm]
  simp only[Option.isSome] at i3
  have hst:=fun L=>xG (L:=L) (p:=some (p,at_)) hnp hid
  simp only[p3C] at hst
  refine aL rfl Try.func73 s73 (Nat.le_of_ble_eq_true rfl) (fun Q hqr hqn=>?_)
  rw[show ∀ a,cin (An.pure 73) a=a from fun _=>rfl]
  simp only[aO,Nat.reduceAdd,c73]
  repeat' (first
  |with_reducible (first|refine ai ?_|refine ar ?_|refine ax rfl ?_|refine aF ?_)
  |(with_reducible (first|(refine ah (fun K hK=>?_);(first|refine wD ?_|refine wE ?_|refine t73r3 ?_|refine t73r4 ?_))|refine hqr _ ?_);(try simp only[true_implies,false_implies,not_false_eq_true,b9,if_true,if_false,Nat.reduceEqDiff,aJ,dg,ez,eN,gU,qz,qy,Option.map_some,ic,gf,lenS,dU,fq,true_and,if_false,if_true,r73,aQ,ak,aD,Option.bind_some,am,jx,gx,Nat.add_zero,h0,fq,h1,i1,i3,DY,hst]))
  |(revert hK;intro hK;(with_reducible refine hK _ ?_;clear hK K)))
  all_goals first|rfl|trivial
theorem wb {P:Int×Int→Prop}{l l':List (Option (Int×Int))}{id:Int}{p:Int×Int}(h:mk1 l id p=some l') (hp:P p) (hl:∀ (i:Nat) (x:Int×Int),l[i]?=some (some x)→P x):∀ (i:Nat) (x:Int×Int),l'[i]?=some (some x)→P x:=by
 unfold mk1 at h;split at h
 ·simp only[Option.some.injEq] at h
  intro i x hx
  rw[←h,List.getElem?_set] at hx
  split at hx
  ·split at hx
   ·simp only[Option.some.injEq] at hx;rw[←hx];exact hp
   ·cases hx
  ·exact hl i x hx
 ·cases h
set_option maxHeartbeats 2000000 in
theorem x48 (H:List HO) (f:Cd) (hf:Sized f) (hv0:0≤f.values) (hv1:f.values≤65536) :
  ∃ r,(∃ v H',r=(v,H')∧(match cq f with
    |some l=>v=.tuple [.ref (.g H.length) 1 0 l.length,.bool true]∧l.length=f.values.toNat∧H'=H++[.arr 1 3 (l.flatMap p3C) 0]∧(∀ (i:Nat) (x:Int×Int),l[i]?=some (some x)→0≤x.1∧x.1<f.parts.length)
    |none=>v=.tuple [.nil,.bool false]))∧FF 48 [.agg (aZ f)] H=some r:=by
 obtain⟨n,hn⟩:∃ n,n=f.values.toNat:=⟨_,rfl⟩
 have hnv:f.values=(n:Int):=by omega
 have hmk:=fun m=>wd (j:=176) (sz:=3) (b:=24) (z:=[.bool false,.int .i64 0,.int .i64 0]) (k:=.i64) (n:=n) (m:=m) rfl (by omega) (by omega)
 obtain⟨Hc,hHc⟩:∃ Hc:List CV→List HO,Hc=fun cs=>H++[.arr 1 3 cs 0]:=⟨_,rfl⟩
 have hc0:∀ cs,H++[.arr 1 3 cs 0]=Hc cs:=fun cs=>by rw[hHc]
 have hc2:∀ cs,(Hc cs)[H.length]?=some (.arr 1 3 cs 0):=fun cs=>by rw[hHc];simp
 have hc3:∀ cs cs',(Hc cs).set H.length (.arr 1 3 cs' 0)=Hc cs':=fun cs cs'=>by rw[hHc];simp
 have hmake:∀ (d:Tmp) (L:List (Nat×HO)) (l:List (Option (Int×Int))) (id p a:Int),l.length=n→aB An FF 48 (some d) 73 [.ref (.g H.length) 1 0 n,.int .i64 id,.int .i64 p,.int .i64 a] ⟨L,Hc (l.flatMap p3C)⟩ =
   some (match mk1 l id (p,a) with|none=>(.bool false,⟨L,Hc (l.flatMap p3C)⟩)|some l'=>(.bool true,⟨L,Hc (l'.flatMap p3C)⟩)):=fun d L l id p a hl=>by
  have h:=x73 (Hc (l.flatMap p3C)) H.length l id p a (hc2 _)
  rw[hl] at h
  cases hm:mk1 l id (p,a) with
  |none=>rw[hm] at h;rw[cf rfl rfl h];rfl
  |some l'=>rw[hm] at h;simp only[hc3] at h;rw[cf rfl rfl h];rfl
 have hsetL:∀ (L:List (Nat×HO)) (H:List HO) j o,bi ⟨L,H⟩ j o=⟨cF L j o,H⟩:=fun _ _ _ _=>rfl
 have hplaces:cq f=cJ 0 f.parts (List.replicate n none):=by rw[cq,←hn]
 have hr0:dM n [.bool false,.int .i64 0,.int .i64 0]=(List.replicate n none).flatMap p3C:=pZ (e:=p3C) (a:=none) n
 refine bA rfl Try.func48 s48 (Nat.le_of_ble_eq_true rfl) (fun Q hqr hqn=>?_)
 rw[show ∀ a,cin (An.pure 48) a=a from fun _=>rfl]
 simp only[aO,Nat.reduceAdd,c48]
 rw[aZ,hnv]
 repeat' (first
 |with_reducible (first|refine ai ?_|refine aj (id:=0) (fun Q0 hn0 hx0 hr0 ho0=>?_))
 |(with_reducible (refine ah (fun K hK=>?_);(first|refine t48r0 ?_|refine t48r1 ?_|refine t48r2 ?_));(try simp only[SS,Nat.reduceEqDiff,ap,hmk,hr0,hc0]))
 |(revert hK;intro hK;(with_reducible refine hK _ ?_;clear hK K)))
 obtain⟨g1,hg1⟩:∃ g,bj [] 16=g:=⟨_,rfl⟩
 rw[hg1]
 refine aU (fun k s=>∃ (d t:List Pt) (l:List (Option (Int×Int))) (L:List (Nat×HO)),f.parts=d++t∧k=t.length∧cq f=cJ d.length t l∧l.length=n∧(∀ (i:Nat) (x:Int×Int),l[i]?=some (some x)→0≤x.1∧x.1<f.parts.length)∧aK L 16=some (.var g1 [sl ptC f.parts,.int .i64 n] 0) ∧
  s=⟨[(1,.ptr (.l 16) g1 0),(4,.ref (.g H.length) 1 0 n),(5,.int .i64 d.length)],⟨L,Hc (l.flatMap p3C)⟩⟩) _ ⟨[],f.parts,_,_,rfl,rfl,hplaces,by simp,fun j x h=>by simp[List.getElem?_replicate] at h,by simp[bi,aq],rfl⟩ ?_
 rintro k s ⟨d,t,l,L,h3,rfl,hpl,hll,hpos,hL1,rfl⟩ QL2 hnL2 hxL2 hrL2
 have hlen:=congrArg List.length h3
 simp only[List.length_append] at hlen
 have hfp:=hf.parts
 simp only[c48l2]
 cases t with
 |nil=>
  simp only[List.length_nil] at hlen
  repeat' (first
  |with_reducible (first|refine ai ?_|refine ax rfl ?_|refine aN ?_|refine aF ?_|refine hx0 _ ?_|refine hxL2 _ _ ?_)
  |(with_reducible (first|(refine ah (fun K hK=>?_);(first|refine t48r3 ?_|refine t48r16 ?_))|refine hqr _ ?_);(try simp only[SS,Nat.reduceEqDiff,lenS,r48,aQ,ak,aD,am,lH,bW,hL1,aP]))
  |(revert hK;intro hK;(first|refine And.intro ?_ ?_|intro _|omega|(with_reducible refine hK _ ?_;clear hK K))))
  refine⟨_,_,⟨rfl,rfl⟩,?_⟩
  rw[hpl,cJ]
  exact⟨by rw[hll],by rw[hll,hn],(hc0 _).symm,hpos⟩
 |cons p t=>
  simp only[List.length_cons] at hlen
  have hpm:p ∈ f.parts:=by rw[h3];simp
  have hphl:=(hf.phis p hpm).1
  have hndl:=(hf.nodes p hpm).1
  have hdP:0≤(d.length:Int)∧(d.length:Int)<f.parts.length:=⟨by omega,by omega⟩
  have hw:IntKind.i64.wrap ((d.length:Int)+1)=d.length+1:=wI (by omega) (by omega)
  repeat' (first
  |with_reducible (first|refine ai ?_|refine ar ?_|refine au rfl ?_|refine aj (id:=1) (fun Q1 hn1 hx1 hr1 ho1=>?_)|refine aj (id:=2) (fun Q2 hn2 hx2 hr2 ho2=>?_))
  |(with_reducible (refine ah (fun K hK=>?_);(first|refine t48r3 ?_|refine t48r5 ?_|refine t48r6 ?_));(try simp only[SS,Nat.reduceEqDiff,ap,Nat.reduceAdd,lenS,ay,aM ptE.len (by omega) h3,ct,ptC,aP,hsetL,hL1]))
  |(revert hK;intro hK;(first|refine And.intro ?_ ?_|intro _|omega|(with_reducible refine hK _ ?_;clear hK K))))
  obtain⟨g6,hg6⟩:∃ g,bj L 96=g:=⟨_,rfl⟩
  rw[hg6]
  refine aU (fun k s=>∃ (d1 t1:List Ph) (l:List (Option (Int×Int))) (L:List (Nat×HO)),p.phis=d1++t1∧k=t1.length∧cq f=((fZ d.length t1 l).bind (ck d.length 0 p.nodes)).bind (cJ (d.length+1) t)∧l.length=n∧(∀ (i:Nat) (x:Int×Int),l[i]?=some (some x)→0≤x.1∧x.1<f.parts.length) ∧
   aK L 16=some (.var g1 [sl ptC f.parts,.int .i64 n] 0)∧aK L 96=some (.var g6 (ptC p) 0)∧s=⟨[(1,.ptr (.l 16) g1 0),(4,.ref (.g H.length) 1 0 n),(5,.int .i64 d.length),(6,.ptr (.l 96) g6 0),(7,.int .i64 d1.length)],⟨L,Hc (l.flatMap p3C)⟩⟩) _
   ⟨[],p.phis,l,_,rfl,rfl,hpl,hll,hpos,by simp[aq,hL1],by simp[aq,ptC],rfl⟩ ?_
  rintro k s ⟨d1,t1,l1,L3,h4,rfl,hpl1,hll1,hpos1,hM1,hM6,rfl⟩ QL0 hnL0 hxL0 hrL0
  have hlen1:=congrArg List.length h4
  simp only[List.length_append] at hlen1
  simp only[c48l0]
  cases t1 with
  |cons x t1=>
   simp only[List.length_cons] at hlen1
   have hw1:IntKind.i64.wrap ((d1.length:Int)+1)=d1.length+1:=wI (by omega) (by omega)
   have hm:=fun L=>hmake 39 L l1 x.id d.length 0 hll1
   rw[fZ] at hpl1
   cases hmk1:mk1 l1 x.id (d.length,0) with
   |none=>
    rw[hmk1] at hpl1
    simp only[hmk1] at hm
    have hnone:cq f=none:=hpl1
    repeat' (first
    |with_reducible (first|refine ai ?_|refine ar ?_|refine au rfl ?_|refine bc rfl ?_|refine aF ?_|refine hr0 _ ?_|refine hr1 _ ?_|refine hr2 _ ?_|refine aj (id:=3) (fun Q3 hn3 hx3 hr3 ho3=>?_)|refine hr3 _ ?_|refine hrL0 _ ?_|refine hrL2 _ ?_)
    |(with_reducible (first|(refine ah (fun K hK=>?_);(first|refine E8 ?_|refine t48r9 ?_|refine t48r10 ?_))|refine hqr _ ?_);(try simp only[SS,Nat.reduceEqDiff,bL,dw,Bool.not_false,lenS,r48,aQ,ak,aD,am,eh,bW,hM6,ptC,aP,aM phE.len (by omega) h4,phC,hm]))
    |(revert hK;intro hK;(first|refine And.intro ?_ ?_|intro _|omega|(with_reducible refine hK _ ?_;clear hK K))))
    refine⟨_,_,⟨rfl,rfl⟩,?_⟩
    rw[hnone]
   |some l'=>
    rw[hmk1,Option.bind_some] at hpl1
    simp only[hmk1] at hm
    repeat' (first
    |with_reducible (first|refine ai ?_|refine ar ?_|refine au rfl ?_|refine bn rfl ?_|refine bx ?_|refine aj (id:=3) (fun Q3 hn3 hx3 hr3 ho3=>?_)|refine hn3 _ ?_)
    |(with_reducible ((first|refine ah (fun K hK=>?_)|refine aI (fun K hK=>?_));(first|refine E8 ?_|refine t48r9 ?_|refine t48r8 ?_));(try simp only[SS,Nat.reduceEqDiff,bL,dw,Bool.not_true,lenS,hM6,ptC,aP,aM phE.len (by omega) h4,phC,hm,hw1]))
    |(revert hK;intro hK;(first|refine And.intro ?_ ?_|intro _|omega|(with_reducible refine hK _ ?_;clear hK K))))
    exact hnL0 t1.length _ (by simp) ⟨d1++[x],t1,l',L3,by simp[h4],rfl,hpl1,by rw[mM hmk1,hll1],wb (P:=fun x=>0≤x.1∧x.1<f.parts.length) hmk1 hdP hpos1,hM1,hM6,by simp⟩
  |nil=>
   simp only[List.length_nil] at hlen1
   rw[fZ,Option.bind_some] at hpl1
   repeat' (first
   |with_reducible (first|refine ai ?_|refine ax rfl ?_|refine aN ?_|refine hx2 _ ?_|refine bl (id:=4) (fun Q4 hn4 hx4 hr4 ho4=>?_)|refine hxL0 _ _ ?_)
   |(with_reducible (refine ah (fun K hK=>?_);(first|refine E8 ?_|refine t48r11 ?_));(try simp only[SS,Nat.reduceEqDiff,lenS,hM6,ptC,aP]))
   |(revert hK;intro hK;(first|refine And.intro ?_ ?_|intro _|omega|(with_reducible refine hK _ ?_;clear hK K))))
   refine aU (fun k s=>∃ (d2 t2:List Nd) (l:List (Option (Int×Int))) (L:List (Nat×HO)),p.nodes=d2++t2∧k=t2.length∧cq f=(ck d.length d2.length t2 l).bind (cJ (d.length+1) t)∧l.length=n∧(∀ (i:Nat) (x:Int×Int),l[i]?=some (some x)→0≤x.1∧x.1<f.parts.length) ∧
    aK L 16=some (.var g1 [sl ptC f.parts,.int .i64 n] 0)∧aK L 96=some (.var g6 (ptC p) 0)∧s=⟨[(1,.ptr (.l 16) g1 0),(4,.ref (.g H.length) 1 0 n),(5,.int .i64 d.length),(6,.ptr (.l 96) g6 0),(8,.int .i64 d2.length)],⟨L,Hc (l.flatMap p3C)⟩⟩) _
    ⟨[],p.nodes,l1,_,rfl,rfl,hpl1,hll1,hpos1,hM1,hM6,rfl⟩ ?_
   rintro k s ⟨d2,t2,l2,L4,h5,rfl,hpl2,hll2,hpos2,hN1,hN6,rfl⟩ QL1 hnL1 hxL1 hrL1
   have hlen2:=congrArg List.length h5
   simp only[List.length_append] at hlen2
   simp only[c48l1]
   cases t2 with
   |nil=>
    simp only[List.length_nil] at hlen2
    rw[ck,Option.bind_some] at hpl2
    repeat' (first
    |with_reducible (first|refine ai ?_|refine ax rfl ?_|refine aN ?_|refine hn1 _ ?_|refine hx4 _ ?_|refine hxL1 _ _ ?_)
    |(with_reducible ((first|refine ah (fun K hK=>?_)|refine aI (fun K hK=>?_));(first|refine oJ ?_|refine t48r4 ?_));(try simp only[SS,Nat.reduceEqDiff,lenS,hN6,ptC,aP,hw]))
    |(revert hK;intro hK;(first|refine And.intro ?_ ?_|intro _|omega|(with_reducible refine hK _ ?_;clear hK K))))
    exact hnL2 t.length _ (by simp) ⟨d++[p],t,l2,L4,by simp[h3],rfl,by simpa using hpl2,hll2,hpos2,hN1,by simp⟩
   |cons x t2=>
    simp only[List.length_cons] at hlen2
    have hxm:x ∈ p.nodes:=by rw[h5];simp
    obtain⟨hxa,hxi⟩:=(hf.nodes p hpm).2 x hxm
    have hw2:IntKind.i64.wrap ((d2.length:Int)+1)=((d2.length+1:Nat):Int):=by rw[wI (by omega) (by omega)];rfl
    have hr:∀ m,aB An FF 48 (some 53) 74 [.agg (ndC x)] m=some (.bool (bX x),m):=fun m=>
     cr (x74 x hxi hxa) (fun _ _ _=>rfl) rfl (by simp only[cans,aC,ndE.can]) rfl (by simp only[noGs,noG,ndE.noG,Bool.and_self]) rfl
    simp only[ndC] at hr
    rw[ck] at hpl2
    cases hok:bX x with
    |false=>
     rw[hok,if_neg (by decide)] at hpl2
     rw[hok] at hr
     have hnone:cq f=none:=hpl2
     repeat' (first
     |with_reducible (first|refine ai ?_|refine ar ?_|refine au rfl ?_|refine bc rfl ?_|refine aF ?_|refine hr0 _ ?_|refine hr1 _ ?_|refine hr4 _ ?_|refine aj (id:=5) (fun Q5 hn5 hx5 hr5 ho5=>?_)|refine hr5 _ ?_|refine hrL1 _ ?_|refine hrL2 _ ?_)
     |(with_reducible (first|(refine ah (fun K hK=>?_);(first|refine oJ ?_|refine re ?_|refine E7 ?_))|refine hqr _ ?_);(try simp only[SS,Nat.reduceEqDiff,bI,Bool.not_false,lenS,r48,aQ,ak,aD,am,eh,bW,hN6,ptC,aP,aM ndE.len (by omega) h5,eR,ndC,hr]))
     |(revert hK;intro hK;(first|refine And.intro ?_ ?_|intro _|omega|(with_reducible refine hK _ ?_;clear hK K))))
     refine⟨_,_,⟨rfl,rfl⟩,?_⟩
     rw[hnone]
    |true=>
     rw[hok,if_pos rfl] at hpl2
     rw[hok] at hr
     by_cases h6:x.op=6
     ·rw[if_pos h6] at hpl2
      have h6':(x.op≠6)=False:=by simp[h6]
      rw[h6] at hr
      repeat' (first
      |with_reducible (first|refine ai ?_|refine ar ?_|refine au rfl ?_|refine bn rfl ?_|refine bx ?_|refine aj (id:=5) (fun Q5 hn5 hx5 hr5 ho5=>?_)|refine hn5 _ ?_)
      |(with_reducible ((first|refine ah (fun K hK=>?_)|refine aI (fun K hK=>?_));(first|refine oJ ?_|refine re ?_|refine E6 ?_));(try simp only[SS,Nat.reduceEqDiff,bL,dw,br,Bool.not_true,lenS,hN6,ptC,aP,aM ndE.len (by omega) h5,eR,ndC,hr,h6,hw2]))
      |(revert hK;intro hK;(first|refine And.intro ?_ ?_|intro _|omega|(with_reducible refine hK _ ?_;clear hK K))))
      rw[show((d2.length+1:Nat):Int)=((d2++[x]).length:Int) by simp]
      exact hnL1 t2.length _ (by simp) ⟨d2++[x],t2,l2,_,by simp[h5],rfl,by simpa using hpl2,hll2,hpos2,hN1,hN6,rfl⟩
     ·rw[if_neg h6] at hpl2
      have hm:=fun L=>hmake 74 L l2 x.id d.length ((d2.length+1:Nat):Int) hll2
      cases hmk2:mk1 l2 x.id (d.length,((d2.length+1:Nat):Int)) with
      |none=>
       rw[hmk2] at hpl2
       simp only[hmk2] at hm
       have hnone:cq f=none:=hpl2
       repeat' (first
       |with_reducible (first|refine ai ?_|refine ar ?_|refine au rfl ?_|refine bc rfl ?_|refine aF ?_|refine hr0 _ ?_|refine hr1 _ ?_|refine hr4 _ ?_|refine aj (id:=5) (fun Q5 hn5 hx5 hr5 ho5=>?_)|refine hr5 _ ?_|refine hrL1 _ ?_|refine hrL2 _ ?_)
       |(with_reducible (first|(refine ah (fun K hK=>?_);(first|refine oJ ?_|refine re ?_|refine E7 ?_))|refine hqr _ ?_);(try simp only[SS,Nat.reduceEqDiff,bL,dw,br,Bool.not_true,Bool.not_false,lenS,r48,aQ,ak,aD,am,eh,bW,hN6,ptC,aP,aM ndE.len (by omega) h5,eR,ndC,hr,h6,hw2,hm]))
       |(revert hK;intro hK;(first|refine And.intro ?_ ?_|intro _|omega|(with_reducible refine hK _ ?_;clear hK K))))
       refine⟨_,_,⟨rfl,rfl⟩,?_⟩
       rw[hnone]
      |some l'=>
       rw[hmk2,Option.bind_some] at hpl2
       simp only[hmk2] at hm
       repeat' (first
       |with_reducible (first|refine ai ?_|refine ar ?_|refine au rfl ?_|refine bn rfl ?_|refine bx ?_|refine aj (id:=5) (fun Q5 hn5 hx5 hr5 ho5=>?_)|refine hn5 _ ?_)
       |(with_reducible ((first|refine ah (fun K hK=>?_)|refine aI (fun K hK=>?_));(first|refine oJ ?_|refine re ?_|refine E6 ?_));(try simp only[SS,Nat.reduceEqDiff,bL,dw,br,Bool.not_true,lenS,hN6,ptC,aP,aM ndE.len (by omega) h5,eR,ndC,hr,h6,hw2,hm]))
       |(revert hK;intro hK;(first|refine And.intro ?_ ?_|intro _|omega|(with_reducible refine hK _ ?_;clear hK K))))
       rw[show((d2.length+1:Nat):Int)=((d2++[x]).length:Int) by simp]
       exact hnL1 t2.length _ (by simp) ⟨d2++[x],t2,l',_,by simp[h5],rfl,by simpa using hpl2,by rw[mM hmk2,hll2],wb (P:=fun x=>0≤x.1∧x.1<f.parts.length) hmk2 hdP hpos2,hN1,hN6,rfl⟩
end Go.Cm
