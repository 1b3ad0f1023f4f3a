import Derived.Test.YtijcpefcfcbcnaaIzK
import Derived.Test.YtijcpefcfcbcnaaIzC
import Derived.Test.YtijcpefcfcbcnaaIdW
import Derived.Test.YtijcpefcfcbcnaaIdA
import Derived.Test.YtijcpefcfcbcnaaIyE
set_option linter.unusedSimpArgs false
set_option linter.unusedVariables false
namespace Go.Cm
open Go.Proofs Go.Ir Go.Gr
def p3C (p:Option (Int×Int)):List CV:=match p with
 |none=>[.bool false,.int .i64 0,.int .i64 0]
 |some x=>[.bool true,.int .i64 x.1,.int .i64 x.2]
theorem kX (p:Option (Int×Int)):(p3C p).length=3:=by cases p<;>rfl
theorem Er {α:Type}{e:α→List CV}{sz:Nat}(hs:∀a,(e a).length=sz):∀(l:List α) (i:Nat) (x:α),i<l.length→ay (l.flatMap e) (i*sz) (e x)=(l.set i x).flatMap e
 |[],i,x,h=>by simp at h
 |a::l,0,x,_=>by
  simp only[List.flatMap_cons,Nat.zero_mul,ay,List.take_zero,List.nil_append,Nat.zero_add,hs,List.set_cons_zero];rw[List.drop_append_of_le_length (by rw[hs];exact Nat.le_refl _),List.drop_of_length_le (by rw[hs];exact Nat.le_refl _),List.nil_append]
 |a::l,i+1,x,h=>by
  have ih:=Er hs l i x (by simpa using h);simp only[List.flatMap_cons,List.set_cons_succ,←ih,ay,hs];have h3:(i+1)*sz=(e a).length+i*sz:=by rw[hs,Nat.succ_mul,Nat.add_comm]
  have h4:(e a).length+i*sz+sz=(e a).length+(i*sz+sz):=by omega
  rw[h3,List.take_length_add_append,h4,List.drop_length_add_append];simp only[List.append_assoc]
theorem pZ {α:Type}{e:α→List CV}{a:α}:∀n,dM n (e a)=(List.replicate n a).flatMap e
 |0=>rfl
 |n+1=>by
  have:=pZ (e:=e) (a:=a) n;simp only[dM,List.replicate_succ,List.flatMap_cons,this]
theorem p3_at {H:List HO}{np:Nat}{l:List (Option (Int×Int))}(hnp:H[np]?=some (.arr 1 3 (l.flatMap p3C) 0)) {id:Int}{p:Option (Int×Int)}(h0:0≤id) (hp:l[id.toNat]?=some p) :
  bd 3 (.ref (.g np) 1 0 l.length) (.int .i64 id)=some (.ptr (.g np) 1 (id.toNat*3))∧(∀L,ldA 3 ⟨L,H⟩ (.ptr (.g np) 1 (id.toNat*3))=some (.agg (p3C p))) ∧
  (∀L,ld1 ⟨L,H⟩ (.ptr (.g np) 1 (id.toNat*3))=some (.bool p.isSome)):=by
 have hl:=(List.getElem?_eq_some_iff.1 hp).1;obtain⟨h1,h2⟩:=hJ (e:=p3C) (sz:=3) kX hp
 refine⟨by rw[bD,if_pos ⟨h0,by omega⟩];simp,λL=>?_,λL=>?_⟩
 ·rw[kL]
  simp only[hnp,fB];rw[if_pos h2,h1]
 ·have h:=dA (e:=p3C) (sz:=3) (off:=0) kX hp (by omega)
  rw[ce];simp only[hnp,bM];rw[Nat.add_zero] at h;rw[h];cases p<;>rfl
theorem xG {H:List HO}{L:List (Nat×HO)}{np i:Nat}{l:List (Option (Int×Int))}{p:Option (Int×Int)}(hnp:H[np]?=some (.arr 1 3 (l.flatMap p3C) 0)) (hi:i<l.length) :
  stX 3 ⟨L,H⟩ (.ptr (.g np) 1 (i*3)) (.agg (p3C p))=some ⟨L,H.set np (.arr 1 3 ((l.set i p).flatMap p3C) 0)⟩:=by
 have hc:ap (.agg (p3C p))=some (p3C p):=rfl;have hp:(p3C p).all cz=true:=by cases p<;>rfl
 rw[gQ,hnp,hc,mO hp hnp,if_pos ⟨kX p,by rw[bC kX];omega,Nat.zero_le _⟩,Er kX l i p hi];rfl
theorem DY {z z' z'':CV}{b:Bool}{i w:Int}:(bg [z,z',z''] [(0,1,.bool b),(1,1,.int .i64 i),(2,1,.int .i64 w)]).map CV.agg=some (.agg [.bool b,.int .i64 i,.int .i64 w]):=rfl
theorem x73 (H:List HO) (np:Nat) (l:List (Option (Int×Int))) (id p at_:Int) (hnp:H[np]?=some (.arr 1 3 (l.flatMap p3C) 0)) :
  FF 73 [.ref (.g np) 1 0 l.length,.int .i64 id,.int .i64 p,.int .i64 at_] H=some (match mk1 l id (p,at_) with|none=>(.bool false,H)|some l'=>(.bool true,H.set np (.arr 1 3 (l'.flatMap p3C) 0))):=by
 by_cases h0:id<0
 ·have hm:mk1 l id (p,at_)=none:=by unfold mk1;rw[if_neg (by omega)]
  rw[hm];refine aL rfl Try.func73 s73 (Nat.le_of_ble_eq_true rfl) (λQ hqr hqn=>?_);rw[show ∀a,cin (An.pure 73) a=a from λ_=>rfl];simp only[aO,Nat.reduceAdd,c73]
  repeat' (first
  |with_reducible (first|refine ai ?_|refine au rfl ?_|refine b6 ?_)
  |(with_reducible (first|(refine ah (λK hK=>?_);(first|refine wD ?_|refine wE ?_|refine Fs ?_))|refine hqr _ ?_);(try simp only[SS,Nat.reduceEqDiff,lenS,dy,bD,r73,aQ,ak,aD,am,h0]))
  |(with_reducible refine hK _ ?_;clear hK K))
  all_goals first|rfl|trivial
 by_cases h1:(l.length:Int)≤id
 ·have hm:mk1 l id (p,at_)=none:=by unfold mk1;rw[if_neg];intro h;have:=(List.getElem?_eq_some_iff.1 h.2).1;omega
  rw[hm];refine aL rfl Try.func73 s73 (Nat.le_of_ble_eq_true rfl) (λQ hqr hqn=>?_);rw[show ∀a,cin (An.pure 73) a=a from λ_=>rfl];simp only[aO,Nat.reduceAdd,c73]
  repeat' (first
  |with_reducible (first|refine ai ?_|refine au rfl ?_|refine b6 ?_)
  |(with_reducible (first|(refine ah (λK hK=>?_);(first|refine wD ?_|refine wE ?_|refine Fs ?_))|refine hqr _ ?_);(try simp only[SS,Nat.reduceEqDiff,lenS,dy,bD,r73,aQ,ak,aD,am,h0,h1]))
  |(with_reducible refine hK _ ?_;clear hK K))
  all_goals first|rfl|trivial
 obtain⟨q,hq⟩:∃q,l[id.toNat]?=some q:=⟨_,List.getElem?_eq_getElem (by omega)⟩;obtain⟨i1,_,i3⟩:=p3_at hnp (by omega) hq;have hid:id.toNat<l.length:=by omega
 cases q with
 |some x=>
  have hm:mk1 l id (p,at_)=none:=by unfold mk1;rw[if_neg];intro h;rw[hq] at h;cases h.2
  rw[hm];simp only[Option.isSome] at i3;refine aL rfl Try.func73 s73 (Nat.le_of_ble_eq_true rfl) (λQ hqr hqn=>?_);rw[show ∀a,cin (An.pure 73) a=a from λ_=>rfl];simp only[aO,Nat.reduceAdd,c73]
  repeat' (first
  |with_reducible (first|refine ai ?_|refine au rfl ?_|refine b6 ?_)
  |(with_reducible (first|(refine ah (λK hK=>?_);(first|refine wD ?_|refine wE ?_|refine Fs ?_))|refine hqr _ ?_);(try simp only[SS,Nat.reduceEqDiff,lenS,r73,aQ,ak,aD,am,Nat.add_zero,h0,h1,i1,i3]))
  |(with_reducible refine hK _ ?_;clear hK K))
  all_goals first|rfl|trivial
 |none=>
  have hm:mk1 l id (p,at_)=some (l.set id.toNat (some (p,at_))):=by unfold mk1;rw[if_pos ⟨by omega,hq⟩]
  rw[hm];simp only[Option.isSome] at i3;have hst:=λL=>xG (L:=L) (p:=some (p,at_)) hnp hid;simp only[p3C] at hst;refine aL rfl Try.func73 s73 (Nat.le_of_ble_eq_true rfl) (λQ hqr hqn=>?_);rw[show ∀a,cin (An.pure 73) a=a from λ_=>rfl];simp only[aO,Nat.reduceAdd,c73]
  repeat' (first
  |with_reducible (first|refine ai ?_|refine ar ?_|refine ax rfl ?_|refine aF ?_)
  |(with_reducible (first|(refine ah (λK hK=>?_);(first|refine wD ?_|refine wE ?_|refine t73r3 ?_|refine t73r4 ?_))|refine hqr _ ?_);(try simp only[true_implies,false_implies,not_false_eq_true,b9,if_true,if_false,Nat.reduceEqDiff,aJ,dg,ez,eN,gU,qz,qy,Option.map_some,ic,gf,lenS,dU,fq,true_and,if_false,if_true,tk_n,tk_c,gV_e,gW_e,r73,aQ,ak,aD,Option.bind_some,am,jx,gx,Nat.add_zero,h0,fq,h1,i1,i3,DY,hst]))
  |(with_reducible refine hK _ ?_;clear hK K))
  all_goals first|rfl|trivial
theorem wb {P:Int×Int→Prop}{l l':List (Option (Int×Int))}{id:Int}{p:Int×Int}(h:mk1 l id p=some l') (hp:P p) (hl:∀(i:Nat) (x:Int×Int),l[i]?=some (some x)→P x):∀(i:Nat) (x:Int×Int),l'[i]?=some (some x)→P x:=by
 unfold mk1 at h;split at h
 ·simp only[Option.some.injEq] at h
  intro i x hx;rw[←h,List.getElem?_set] at hx
  split at hx
  ·split at hx
   ·simp only[Option.some.injEq] at hx;rw[←hx];exact hp
   ·cases hx
  ·exact hl i x hx
 ·cases h
set_option maxHeartbeats 2000000 in
theorem x48 (H:List HO) (f:Cd) (hf:Sized f) (hv0:0≤f.values) (hv1:f.values≤65536) :
  ∃r,(∃v H',r=(v,H')∧(match cq f with
    |some l=>v=.tuple [.ref (.g H.length) 1 0 l.length,.bool true]∧l.length=f.values.toNat∧H'=H++[.arr 1 3 (l.flatMap p3C) 0]∧(∀(i:Nat) (x:Int×Int),l[i]?=some (some x)→0≤x.1∧x.1<f.parts.length)
    |none=>v=.tuple [.nil,.bool false]))∧FF 48 [.agg (aZ f)] H=some r:=by
 obtain⟨n,hn⟩:∃n,n=f.values.toNat:=⟨_,rfl⟩;have hnv:f.values=(n:Int):=by omega
 have hmk:=λm=>wd (j:=176) (sz:=3) (b:=24) (z:=[.bool false,.int .i64 0,.int .i64 0]) (k:=.i64) (n:=n) (m:=m) rfl (by omega) (by omega);obtain⟨Hc,hHc⟩:∃Hc:List CV→List HO,Hc=λcs=>H++[.arr 1 3 cs 0]:=⟨_,rfl⟩;have hc0:∀cs,H++[.arr 1 3 cs 0]=Hc cs:=λcs=>by rw[hHc]
 have hc2:∀cs,(Hc cs)[H.length]?=some (.arr 1 3 cs 0):=λcs=>by rw[hHc];simp
 have hc3:∀cs cs',(Hc cs).set H.length (.arr 1 3 cs' 0)=Hc cs':=λcs cs'=>by rw[hHc];simp
 have hmake:∀(d:Tmp) (L:List (Nat×HO)) (l:List (Option (Int×Int))) (id p a:Int),l.length=n→aB An FF 48 (some d) 73 [.ref (.g H.length) 1 0 n,.int .i64 id,.int .i64 p,.int .i64 a] ⟨L,Hc (l.flatMap p3C)⟩ =
   some (match mk1 l id (p,a) with|none=>(.bool false,⟨L,Hc (l.flatMap p3C)⟩)|some l'=>(.bool true,⟨L,Hc (l'.flatMap p3C)⟩)):=λd L l id p a hl=>by
  have h:=x73 (Hc (l.flatMap p3C)) H.length l id p a (hc2 _);rw[hl] at h
  cases hm:mk1 l id (p,a) with
  |none=>rw[hm] at h;rw[cf rfl rfl h];rfl
  |some l'=>rw[hm] at h;simp only[hc3] at h;rw[cf rfl rfl h];rfl
 have hsetL:∀(L:List (Nat×HO)) (H:List HO) j o,bi ⟨L,H⟩ j o=⟨cF L j o,H⟩:=λ_ _ _ _=>rfl;have hplaces:cq f=cJ 0 f.parts (List.replicate n none):=by rw[cq,←hn]
 have hr0:dM n [.bool false,.int .i64 0,.int .i64 0]=(List.replicate n none).flatMap p3C:=pZ (e:=p3C) (a:=none) n;refine bA rfl Try.func48 s48 (Nat.le_of_ble_eq_true rfl) (λQ hqr hqn=>?_);rw[show ∀a,cin (An.pure 48) a=a from λ_=>rfl];simp only[aO,Nat.reduceAdd,c48];rw[aZ,hnv]
 repeat' (first
 |with_reducible (first|refine ai ?_|refine aj (id:=0) (λQ0 hn0 hx0 hr0 ho0=>?_))
 |(with_reducible (refine ah (λK hK=>?_);(first|refine t48r0 ?_|refine t48r1 ?_|refine t48r2 ?_));(try simp only[SS,Nat.reduceEqDiff,ap,hmk,hr0,hc0]))
 |(with_reducible refine hK _ ?_;clear hK K))
 obtain⟨g1,hg1⟩:∃g,bj [] 16=g:=⟨_,rfl⟩;rw[hg1];refine aU (λk s=>∃(d t:List Pt) (l:List (Option (Int×Int))) (L:List (Nat×HO)),f.parts=d++t∧k=t.length∧cq f=cJ d.length t l∧l.length=n∧(∀(i:Nat) (x:Int×Int),l[i]?=some (some x)→0≤x.1∧x.1<f.parts.length)∧aK L 16=some (.var g1 [sl ptC f.parts,.int .i64 n] 0) ∧
  s=⟨[(1,.ptr (.l 16) g1 0),(4,.ref (.g H.length) 1 0 n),(5,.int .i64 d.length)],⟨L,Hc (l.flatMap p3C)⟩⟩) _ ⟨[],f.parts,_,_,rfl,rfl,hplaces,by simp,λj x h=>by simp[List.getElem?_replicate] at h,by simp[bi,aq],rfl⟩ ?_
 rintro k s ⟨d,t,l,L,h3,rfl,hpl,hll,hpos,hL1,rfl⟩ QL2 hnL2 hxL2 hrL2;have hlen:=congrArg List.length h3;simp only[List.length_append] at hlen;have hfp:=hf.parts;simp only[c48l2]
 cases t with
 |nil=>
  simp only[List.length_nil] at hlen
  repeat' (first
  |with_reducible (first|refine ai ?_|refine ax rfl ?_|refine aN ?_|refine aF ?_|refine hx0 _ ?_|refine hxL2 _ _ ?_)
  |(with_reducible (first|(refine ah (λK hK=>?_);(first|refine t48r3 ?_|refine t48r16 ?_))|refine hqr _ ?_);(try simp only[SS,Nat.reduceEqDiff,lenS,r48,aQ,ak,aD,am,lH,bW,hL1,aP]))
  |(revert hK;intro hK;(first|refine And.intro ?_ ?_|intro _|omega|(with_reducible refine hK _ ?_;clear hK K))))
  refine⟨_,_,⟨rfl,rfl⟩,?_⟩
  rw[hpl,cJ]
  exact⟨by rw[hll],by rw[hll,hn],(hc0 _).symm,hpos⟩
 |cons p t=>
  simp only[List.length_cons] at hlen;have hpm:p∈f.parts:=by rw[h3];simp
  have hphl:=(hf.phis p hpm).1;have hndl:=(hf.nodes p hpm).1;have hdP:0≤(d.length:Int)∧(d.length:Int)<f.parts.length:=⟨by omega,by omega⟩;have hw:IntKind.i64.wrap ((d.length:Int)+1)=d.length+1:=wI (by omega) (by omega)
  repeat' (first
  |with_reducible (first|refine ai ?_|refine ar ?_|refine au rfl ?_|refine aj (id:=1) (λQ1 hn1 hx1 hr1 ho1=>?_)|refine aj (id:=2) (λQ2 hn2 hx2 hr2 ho2=>?_))
  |(with_reducible (refine ah (λK hK=>?_);(first|refine t48r3 ?_|refine t48r5 ?_|refine t48r6 ?_));(try simp only[SS,Nat.reduceEqDiff,ap,Nat.reduceAdd,lenS,ay,aM ptE.len (by omega) h3,ct,ptC,aP,hsetL,hL1]))
  |(revert hK;intro hK;(first|refine And.intro ?_ ?_|intro _|omega|(with_reducible refine hK _ ?_;clear hK K))))
  obtain⟨g6,hg6⟩:∃g,bj L 96=g:=⟨_,rfl⟩;rw[hg6];refine aU (λk s=>∃(d1 t1:List Ph) (l:List (Option (Int×Int))) (L:List (Nat×HO)),p.phis=d1++t1∧k=t1.length∧cq f=((fZ d.length t1 l).bind (ck d.length 0 p.nodes)).bind (cJ (d.length+1) t)∧l.length=n∧(∀(i:Nat) (x:Int×Int),l[i]?=some (some x)→0≤x.1∧x.1<f.parts.length) ∧
   aK L 16=some (.var g1 [sl ptC f.parts,.int .i64 n] 0)∧aK L 96=some (.var g6 (ptC p) 0)∧s=⟨[(1,.ptr (.l 16) g1 0),(4,.ref (.g H.length) 1 0 n),(5,.int .i64 d.length),(6,.ptr (.l 96) g6 0),(7,.int .i64 d1.length)],⟨L,Hc (l.flatMap p3C)⟩⟩) _
   ⟨[],p.phis,l,_,rfl,rfl,hpl,hll,hpos,by simp[aq,hL1],by simp[aq,ptC],rfl⟩ ?_
  rintro k s ⟨d1,t1,l1,L3,h4,rfl,hpl1,hll1,hpos1,hM1,hM6,rfl⟩ QL0 hnL0 hxL0 hrL0;have hlen1:=congrArg List.length h4;simp only[List.length_append] at hlen1;simp only[c48l0]
  cases t1 with
  |cons x t1=>
   simp only[List.length_cons] at hlen1;have hw1:IntKind.i64.wrap ((d1.length:Int)+1)=d1.length+1:=wI (by omega) (by omega);have hm:=λL=>hmake 39 L l1 x.id d.length 0 hll1;rw[fZ] at hpl1
   cases hmk1:mk1 l1 x.id (d.length,0) with
   |none=>
    rw[hmk1] at hpl1;simp only[hmk1] at hm;have hnone:cq f=none:=hpl1
    repeat' (first
    |with_reducible (first|refine ai ?_|refine ar ?_|refine au rfl ?_|refine bc rfl ?_|refine aF ?_|refine hr0 _ ?_|refine hr1 _ ?_|refine hr2 _ ?_|refine aj (id:=3) (λQ3 hn3 hx3 hr3 ho3=>?_)|refine hr3 _ ?_|refine hrL0 _ ?_|refine hrL2 _ ?_)
    |(with_reducible (first|(refine ah (λK hK=>?_);(first|refine E8 ?_|refine t48r9 ?_|refine t48r10 ?_))|refine hqr _ ?_);(try simp only[SS,Nat.reduceEqDiff,bL,dw,Bool.not_false,lenS,r48,aQ,ak,aD,am,eh,bW,hM6,ptC,aP,aM phE.len (by omega) h4,phC,hm]))
    |(revert hK;intro hK;(first|refine And.intro ?_ ?_|intro _|omega|(with_reducible refine hK _ ?_;clear hK K))))
    refine⟨_,_,⟨rfl,rfl⟩,?_⟩
    rw[hnone]
   |some l'=>
    rw[hmk1,Option.bind_some] at hpl1;simp only[hmk1] at hm
    repeat' (first
    |with_reducible (first|refine ai ?_|refine ar ?_|refine au rfl ?_|refine bn rfl ?_|refine bx ?_|refine aj (id:=3) (λQ3 hn3 hx3 hr3 ho3=>?_)|refine hn3 _ ?_)
    |(with_reducible ((first|refine ah (λK hK=>?_)|refine aI (λK hK=>?_));(first|refine E8 ?_|refine t48r9 ?_|refine t48r8 ?_));(try simp only[SS,Nat.reduceEqDiff,bL,dw,Bool.not_true,lenS,hM6,ptC,aP,aM phE.len (by omega) h4,phC,hm,hw1]))
    |(revert hK;intro hK;(first|refine And.intro ?_ ?_|intro _|omega|(with_reducible refine hK _ ?_;clear hK K))))
    exact hnL0 t1.length _ (by simp) ⟨d1++[x],t1,l',L3,by simp[h4],rfl,hpl1,by rw[mM hmk1,hll1],wb (P:=λx=>0≤x.1∧x.1<f.parts.length) hmk1 hdP hpos1,hM1,hM6,by simp⟩
  |nil=>
   simp only[List.length_nil] at hlen1;rw[fZ,Option.bind_some] at hpl1
   repeat' (first
   |with_reducible (first|refine ai ?_|refine ax rfl ?_|refine aN ?_|refine hx2 _ ?_|refine bl (id:=4) (λQ4 hn4 hx4 hr4 ho4=>?_)|refine hxL0 _ _ ?_)
   |(with_reducible (refine ah (λK hK=>?_);(first|refine E8 ?_|refine t48r11 ?_));(try simp only[SS,Nat.reduceEqDiff,lenS,hM6,ptC,aP]))
   |(revert hK;intro hK;(first|refine And.intro ?_ ?_|intro _|omega|(with_reducible refine hK _ ?_;clear hK K))))
   refine aU (λk s=>∃(d2 t2:List Nd) (l:List (Option (Int×Int))) (L:List (Nat×HO)),p.nodes=d2++t2∧k=t2.length∧cq f=(ck d.length d2.length t2 l).bind (cJ (d.length+1) t)∧l.length=n∧(∀(i:Nat) (x:Int×Int),l[i]?=some (some x)→0≤x.1∧x.1<f.parts.length) ∧
    aK L 16=some (.var g1 [sl ptC f.parts,.int .i64 n] 0)∧aK L 96=some (.var g6 (ptC p) 0)∧s=⟨[(1,.ptr (.l 16) g1 0),(4,.ref (.g H.length) 1 0 n),(5,.int .i64 d.length),(6,.ptr (.l 96) g6 0),(8,.int .i64 d2.length)],⟨L,Hc (l.flatMap p3C)⟩⟩) _
    ⟨[],p.nodes,l1,_,rfl,rfl,hpl1,hll1,hpos1,hM1,hM6,rfl⟩ ?_
   rintro k s ⟨d2,t2,l2,L4,h5,rfl,hpl2,hll2,hpos2,hN1,hN6,rfl⟩ QL1 hnL1 hxL1 hrL1;have hlen2:=congrArg List.length h5;simp only[List.length_append] at hlen2;simp only[c48l1]
   cases t2 with
   |nil=>
    simp only[List.length_nil] at hlen2;rw[ck,Option.bind_some] at hpl2
    repeat' (first
    |with_reducible (first|refine ai ?_|refine ax rfl ?_|refine aN ?_|refine hn1 _ ?_|refine hx4 _ ?_|refine hxL1 _ _ ?_)
    |(with_reducible ((first|refine ah (λK hK=>?_)|refine aI (λK hK=>?_));(first|refine oJ ?_|refine t48r4 ?_));(try simp only[SS,Nat.reduceEqDiff,lenS,hN6,ptC,aP,hw]))
    |(revert hK;intro hK;(first|refine And.intro ?_ ?_|intro _|omega|(with_reducible refine hK _ ?_;clear hK K))))
    exact hnL2 t.length _ (by simp) ⟨d++[p],t,l2,L4,by simp[h3],rfl,by simpa using hpl2,hll2,hpos2,hN1,by simp⟩
   |cons x t2=>
    simp only[List.length_cons] at hlen2;have hxm:x∈p.nodes:=by rw[h5];simp
    obtain⟨hxa,hxi⟩:=(hf.nodes p hpm).2 x hxm;have hw2:IntKind.i64.wrap ((d2.length:Int)+1)=((d2.length+1:Nat):Int):=by rw[wI (by omega) (by omega)];rfl
    have hr:∀m,aB An FF 48 (some 53) 74 [.agg (ndC x)] m=some (.bool (bX x),m):=λm=>
     cr (x74 x hxi hxa) (λ_ _ _=>rfl) rfl (by simp only[cans,aC,ndE.can]) rfl (by simp only[noGs,noG,ndE.noG,Bool.and_self]) rfl
    simp only[ndC] at hr;rw[ck] at hpl2
    cases hok:bX x with
    |false=>
     rw[hok,if_neg (by decide)] at hpl2;rw[hok] at hr;have hnone:cq f=none:=hpl2
     repeat' (first
     |with_reducible (first|refine ai ?_|refine ar ?_|refine au rfl ?_|refine bc rfl ?_|refine aF ?_|refine hr0 _ ?_|refine hr1 _ ?_|refine hr4 _ ?_|refine aj (id:=5) (λQ5 hn5 hx5 hr5 ho5=>?_)|refine hr5 _ ?_|refine hrL1 _ ?_|refine hrL2 _ ?_)
     |(with_reducible (first|(refine ah (λK hK=>?_);(first|refine oJ ?_|refine re ?_|refine E7 ?_))|refine hqr _ ?_);(try simp only[SS,Nat.reduceEqDiff,bI,Bool.not_false,lenS,r48,aQ,ak,aD,am,eh,bW,hN6,ptC,aP,aM ndE.len (by omega) h5,eR,ndC,hr]))
     |(revert hK;intro hK;(first|refine And.intro ?_ ?_|intro _|omega|(with_reducible refine hK _ ?_;clear hK K))))
     refine⟨_,_,⟨rfl,rfl⟩,?_⟩
     rw[hnone]
    |true=>
     rw[hok,if_pos rfl] at hpl2;rw[hok] at hr
     by_cases h6:x.op=6
     ·rw[if_pos h6] at hpl2
      have h6':(x.op≠6)=False:=by simp[h6]
      rw[h6] at hr
      repeat' (first
      |with_reducible (first|refine ai ?_|refine ar ?_|refine au rfl ?_|refine bn rfl ?_|refine bx ?_|refine aj (id:=5) (λQ5 hn5 hx5 hr5 ho5=>?_)|refine hn5 _ ?_)
      |(with_reducible ((first|refine ah (λK hK=>?_)|refine aI (λK hK=>?_));(first|refine oJ ?_|refine re ?_|refine E6 ?_));(try simp only[SS,Nat.reduceEqDiff,bL,dw,br,Bool.not_true,lenS,hN6,ptC,aP,aM ndE.len (by omega) h5,eR,ndC,hr,h6,hw2]))
      |(revert hK;intro hK;(first|refine And.intro ?_ ?_|intro _|omega|(with_reducible refine hK _ ?_;clear hK K))))
      rw[show((d2.length+1:Nat):Int)=((d2++[x]).length:Int) by simp];exact hnL1 t2.length _ (by simp) ⟨d2++[x],t2,l2,_,by simp[h5],rfl,by simpa using hpl2,hll2,hpos2,hN1,hN6,rfl⟩
     ·rw[if_neg h6] at hpl2
      have hm:=λL=>hmake 74 L l2 x.id d.length ((d2.length+1:Nat):Int) hll2
      cases hmk2:mk1 l2 x.id (d.length,((d2.length+1:Nat):Int)) with
      |none=>
       rw[hmk2] at hpl2;simp only[hmk2] at hm;have hnone:cq f=none:=hpl2
       repeat' (first
       |with_reducible (first|refine ai ?_|refine ar ?_|refine au rfl ?_|refine bc rfl ?_|refine aF ?_|refine hr0 _ ?_|refine hr1 _ ?_|refine hr4 _ ?_|refine aj (id:=5) (λQ5 hn5 hx5 hr5 ho5=>?_)|refine hr5 _ ?_|refine hrL1 _ ?_|refine hrL2 _ ?_)
       |(with_reducible (first|(refine ah (λK hK=>?_);(first|refine oJ ?_|refine re ?_|refine E7 ?_))|refine hqr _ ?_);(try simp only[SS,Nat.reduceEqDiff,bL,dw,br,Bool.not_true,Bool.not_false,lenS,r48,aQ,ak,aD,am,eh,bW,hN6,ptC,aP,aM ndE.len (by omega) h5,eR,ndC,hr,h6,hw2,hm]))
       |(revert hK;intro hK;(first|refine And.intro ?_ ?_|intro _|omega|(with_reducible refine hK _ ?_;clear hK K))))
       refine⟨_,_,⟨rfl,rfl⟩,?_⟩
       rw[hnone]
      |some l'=>
       rw[hmk2,Option.bind_some] at hpl2;simp only[hmk2] at hm
       repeat' (first
       |with_reducible (first|refine ai ?_|refine ar ?_|refine au rfl ?_|refine bn rfl ?_|refine bx ?_|refine aj (id:=5) (λQ5 hn5 hx5 hr5 ho5=>?_)|refine hn5 _ ?_)
       |(with_reducible ((first|refine ah (λK hK=>?_)|refine aI (λK hK=>?_));(first|refine oJ ?_|refine re ?_|refine E6 ?_));(try simp only[SS,Nat.reduceEqDiff,bL,dw,br,Bool.not_true,lenS,hN6,ptC,aP,aM ndE.len (by omega) h5,eR,ndC,hr,h6,hw2,hm]))
       |(revert hK;intro hK;(first|refine And.intro ?_ ?_|intro _|omega|(with_reducible refine hK _ ?_;clear hK K))))
       rw[show((d2.length+1:Nat):Int)=((d2++[x]).length:Int) by simp];exact hnL1 t2.length _ (by simp) ⟨d2++[x],t2,l',_,by simp[h5],rfl,by simpa using hpl2,by rw[mM hmk2,hll2],wb (P:=λx=>0≤x.1∧x.1<f.parts.length) hmk2 hdP hpos2,hN1,hN6,rfl⟩
end Go.Cm
namespace Go.Cm
open Go.Proofs Go.Ir
theorem x29 (e:Tm):FF 29 [.agg (tmC e)] []=some (eA aX 1 (jC e),[]):=by
 refine aL rfl Try.func29 s29 (Nat.le_of_ble_eq_true rfl) (λQ hqr hqn=>?_);rw[bf (show An.pure 29=true from rfl) (by simp only[cans,aG,az,aC,aH,tmE.can])];simp only[aO,Nat.reduceAdd,c29]
 repeat' (first
 |with_reducible (first|refine ai ?_|refine bc rfl ?_|refine bn rfl ?_|refine aF ?_|refine bx ?_|refine aj (id:=0) (λQ0 hn0 hx0 hr0 ho0=>?_)|refine hn0 _ ?_|refine hr0 _ ?_)
 |(with_reducible (first|(refine ah (λK hK=>?_);(first|refine t29r0 ?_|refine t29r1 ?_|refine t29r2 ?_|refine t29r3 ?_|refine t29r4 ?_|refine t29r5 ?_|refine t29r6 ?_))|refine hqr _ ?_);(try simp only[SS,Nat.reduceEqDiff,ap,dj,ef,bv,aR,aS,Nat.reduceMul,Nat.reduceAdd,cD,bg,be,bF,ay,Nat.reduceLeDiff,cz,List.all_cons,List.all_nil,Bool.and_self,r29,aQ,ak,aD,am,dq,bV,Nat.sub_self,eh,tmC]))
 |(revert hK;intro hK;(first|refine And.intro ?_ ?_|intro _|(with_reducible refine hK _ ?_;clear hK K))))
 all_goals simp_all [jC,eA,aX]
def lm (n:Nd):CV:=if n.op=7 then mC aX 1 n.args else eA aX 1 (eF n)
theorem x30 (n:Nd) (hl:n.args.length≤17592186044416):FF 30 [.agg (ndC n)] []=some (lm n,[]):=by
 by_cases h4:n.op=4
 ·refine aL rfl Try.func30 s30 (Nat.le_of_ble_eq_true rfl) (λQ hqr hqn=>?_)
  rw[bf (show An.pure 30=true from rfl) (by simp only[cans,aG,az,aC,aH,ndE.can])];simp only[aO,Nat.reduceAdd,c30]
  repeat' (first
  |with_reducible (first|refine ai ?_|refine ar ?_|refine au rfl ?_|refine bc rfl ?_|refine aF ?_|refine aj (id:=0) (λQ0 hn0 hx0 hr0 ho0=>?_)|refine hr0 _ ?_)
  |(with_reducible (first|(refine ah (λK hK=>?_);(first|refine sP ?_|refine sQ ?_|refine sR ?_|refine t30r4 ?_))|refine hqr _ ?_);(try simp only[SS,Nat.reduceEqDiff,ap,dj,ef,bv,aR,aS,Nat.reduceMul,Nat.reduceAdd,cD,bg,be,bF,ay,Nat.reduceLeDiff,cz,List.all_cons,List.all_nil,Bool.and_self,r30,aQ,ak,aD,am,dq,bV,Nat.sub_self,ndC,h4]))
  |(with_reducible refine hK _ ?_;clear hK K))
  all_goals simp[lm,eF,h4,eA,aX]
 by_cases h6:n.op=6
 ·refine aL rfl Try.func30 s30 (Nat.le_of_ble_eq_true rfl) (λQ hqr hqn=>?_)
  rw[bf (show An.pure 30=true from rfl) (by simp only[cans,aG,az,aC,aH,ndE.can])];simp only[aO,Nat.reduceAdd,c30]
  repeat' (first
  |with_reducible (first|refine ai ?_|refine ax rfl ?_|refine bc rfl ?_|refine aF ?_|refine aj (id:=0) (λQ0 hn0 hx0 hr0 ho0=>?_)|refine hr0 _ ?_)
  |(with_reducible (first|(refine ah (λK hK=>?_);(first|refine sP ?_|refine sQ ?_|refine sR ?_|refine wq ?_|refine t30r4 ?_))|refine hqr _ ?_);(try simp only[SS,Nat.reduceEqDiff,ap,dj,ef,bv,aR,aS,Nat.reduceMul,Nat.reduceAdd,cD,bg,be,bF,ay,Nat.reduceLeDiff,cz,List.all_cons,List.all_nil,Bool.and_self,r30,aQ,ak,aD,am,dq,bV,Nat.sub_self,ndC,h6]))
  |(revert hK;intro hK;(first|refine And.intro ?_ ?_|intro _|omega|(with_reducible refine hK _ ?_;clear hK K))))
  all_goals simp[lm,eF,h6,eA,aX]
 by_cases h5:n.op=5
 ·refine aL rfl Try.func30 s30 (Nat.le_of_ble_eq_true rfl) (λQ hqr hqn=>?_)
  rw[bf (show An.pure 30=true from rfl) (by simp only[cans,aG,az,aC,aH,ndE.can])];simp only[aO,Nat.reduceAdd,c30]
  repeat' (first
  |with_reducible (first|refine ai ?_|refine ax rfl ?_|refine bc rfl ?_|refine bn rfl ?_|refine aF ?_|refine aj (id:=0) (λQ0 hn0 hx0 hr0 ho0=>?_)|refine hr0 _ ?_)
  |(with_reducible (first|(refine ah (λK hK=>?_);(first|refine sP ?_|refine sQ ?_|refine sR ?_|refine wq ?_|refine ES ?_|refine t30r6 ?_))|refine hqr _ ?_);(try simp only[SS,Nat.reduceEqDiff,ap,dj,ef,bv,aR,aS,Nat.reduceMul,cD,bg,be,bF,ay,cz,List.all_cons,List.all_nil,Bool.and_self,r30,aQ,ak,aD,am,dq,bV,Nat.sub_self,ndC,h5]))
  |(revert hK;intro hK;(first|refine And.intro ?_ ?_|intro _|omega|(with_reducible refine hK _ ?_;clear hK K))))
  all_goals simp[lm,eF,h5,eA,aX]
 by_cases h7:n.op=7
 ·have hu:lm n=mC aX 1 n.args:=by rw[lm,if_pos h7]
  rw[hu];have hs':cN 8 n.args.length=true:=f0 (by omega) hl;have hct:∀m,content m 1 (sl aX n.args)=some (n.args.flatMap aX):=λm=>by
   have hcl:(n.args.flatMap aX).length=n.args.length*1:=by rw[dL];omega
   simp only[sl,content,hcl,if_true]
  refine aL rfl Try.func30 s30 (Nat.le_of_ble_eq_true rfl) (λQ hqr hqn=>?_);rw[bf (show An.pure 30=true from rfl) (by simp only[cans,aG,az,aC,aH,ndE.can])];simp only[aO,Nat.reduceAdd,c30]
  repeat' (first
  |with_reducible (first|refine ai ?_|refine ax rfl ?_|refine bc rfl ?_|refine bn rfl ?_|refine aF ?_|refine aj (id:=0) (λQ0 hn0 hx0 hr0 ho0=>?_)|refine hr0 _ ?_)
  |(with_reducible (first|(refine ah (λK hK=>?_);(first|refine sP ?_|refine sQ ?_|refine sR ?_|refine wq ?_|refine ES ?_|refine t30r7 ?_|refine t30r8 ?_))|refine hqr _ ?_);(try simp only[SS,Nat.reduceEqDiff,ap,dj,ef,bv,aR,aS,Nat.reduceMul,fP,ea,bg,be,r30,aQ,ak,aD,am,dq,bV,Nat.sub_self,ndC,h7,ma,hct,aP,hs']))
  |(revert hK;intro hK;(first|refine And.intro ?_ ?_|intro _|omega|(with_reducible refine hK _ ?_;clear hK K))))
  all_goals (rw[List.take_of_length_le (by rw[dL];omega)];rfl)
 ·refine aL rfl Try.func30 s30 (Nat.le_of_ble_eq_true rfl) (λQ hqr hqn=>?_)
  rw[bf (show An.pure 30=true from rfl) (by simp only[cans,aG,az,aC,aH,ndE.can])];simp only[aO,Nat.reduceAdd,c30]
  repeat' (first
  |with_reducible (first|refine ai ?_|refine ax rfl ?_|refine bn rfl ?_|refine aF ?_|refine bx ?_|refine aj (id:=0) (λQ0 hn0 hx0 hr0 ho0=>?_)|refine hn0 _ ?_)
  |(with_reducible (first|(refine ah (λK hK=>?_);(first|refine sP ?_|refine sQ ?_|refine sR ?_|refine wq ?_|refine ES ?_|refine t30r7 ?_|refine t30r9 ?_))|refine hqr _ ?_);(try simp only[SS,Nat.reduceEqDiff,ap,r30,aQ,ak,aD,am,eh,ndC,h4,h5,h6,h7]))
  |(with_reducible refine hK _ ?_;clear hK K))
  all_goals simp[lm,eF,h4,h5,h6,h7,eA]
theorem x44 (a b:List Int) (hal:a.length≤17592186044416):FF 44 [sl aX a,sl aX b] []=some (.bool (decide (a=b)),[]):=by
 have ha:RdI [] (sl aX a) a:=.inl rfl;have hb:RdI [] (sl aX b) b:=.inl rfl;have ca:=intE.can_sl a;have cb:=intE.can_sl b;generalize sl aX a=va at ha ca;generalize sl aX b=vb at hb cb;refine aL rfl Try.func44 s44 (Nat.le_of_ble_eq_true rfl) (λQ hqr hqn=>?_);rw[bf (show An.pure 44=true from rfl) (by simp only[cans,aG,az,aC,aH,ca,cb])];simp only[aO,Nat.reduceAdd,c44]
 by_cases hl:a.length=b.length
 ·have hlb:cK vb=some a.length:=by rw[hb.len,hl]
  repeat' (first
  |with_reducible (first|refine ai ?_|refine ar ?_|refine ax rfl ?_|refine aj (id:=0) (λQ0 hn0 hx0 hr0 ho0=>?_))
  |(with_reducible (refine ah (λK hK=>?_);(first|refine t44r0 ?_|refine t44r1 ?_|refine t44r3 ?_));(try simp only[SS,Nat.reduceEqDiff,br,lenS,ha.len,hlb]))
  |(with_reducible refine hK _ ?_;clear hK K))
  refine aU (λk s=>∃(i:Nat) (L:List (Nat×HO)),i≤a.length∧a.take i=b.take i∧k=a.length - i∧s=⟨[(0,va),(1,vb),(5,.int .i64 i)],⟨L,[]⟩⟩) _ ⟨0,_,Nat.zero_le _,rfl,rfl,rfl⟩ ?_;rintro k s ⟨i,L,hi,hp,rfl,rfl⟩ QL0 hnL0 hxL0 hrL0;simp only[c44l0]
  by_cases hig:i=a.length
  ·subst hig
   have he:a=b:=by rw[List.take_of_length_le (Nat.le_refl _),List.take_of_length_le (by omega)] at hp;exact hp
   repeat' (first
   |with_reducible (first|refine ai ?_|refine ax rfl ?_|refine aN ?_|refine aF ?_|refine hx0 _ ?_|refine hxL0 _ _ ?_)
   |(with_reducible (first|(refine ah (λK hK=>?_);(first|refine EU ?_|refine t44r8 ?_))|refine hqr _ ?_);(try simp only[SS,Nat.reduceEqDiff,lenS,r44,aQ,ak,aD,am,ha.len]))
   |(revert hK;intro hK;(first|refine And.intro ?_ ?_|intro _|omega|(with_reducible refine hK _ ?_;clear hK K))))
   simp[he]
  ·have hia:(i:Int)<a.length:=by omega
   have ga:a[i]?=some a[i]:=List.getElem?_eq_getElem (by omega);have gb:b[i]?=some b[i]:=List.getElem?_eq_getElem (by omega);obtain⟨p,hp1,hp2⟩:=ha.at ga (k:=.i64);obtain⟨q,hq1,hq2⟩:=hb.at gb (k:=.i64);have hw:IntKind.i64.wrap ((i:Int)+1)=((i+1:Nat):Int):=by rw[wI (by omega) (by omega)];rfl
   by_cases he:a[i]=b[i]
   ·repeat' (first
    |with_reducible (first|refine ai ?_|refine ar ?_|refine au rfl ?_|refine bn rfl ?_|refine bx ?_|refine aj (id:=1) (λQ1 hn1 hx1 hr1 ho1=>?_)|refine hn1 _ ?_)
    |(with_reducible ((first|refine ah (λK hK=>?_)|refine aI (λK hK=>?_));(first|refine EU ?_|refine t44r6 ?_|refine t44r5 ?_));(try simp only[SS,Nat.reduceEqDiff,br,lenS,ha.len,hia,hp1,hp2,hq1,hq2,he,hw]))
    |(with_reducible refine hK _ ?_;clear hK K))
    refine hnL0 (a.length - (i+1)) _ (by omega) ⟨i+1,L,by omega,?_,rfl,rfl⟩;rw[List.take_add_one,List.take_add_one,hp,ga,gb,he]
   ·have hne:a≠b:=λh=>he (by subst h;rfl)
    repeat' (first
    |with_reducible (first|refine ai ?_|refine ar ?_|refine au rfl ?_|refine bc rfl ?_|refine aF ?_|refine hr0 _ ?_|refine aj (id:=1) (λQ1 hn1 hx1 hr1 ho1=>?_)|refine hr1 _ ?_|refine hrL0 _ ?_)
    |(with_reducible (first|(refine ah (λK hK=>?_);(first|refine EU ?_|refine t44r6 ?_|refine t44r7 ?_))|refine hqr _ ?_);(try simp only[SS,Nat.reduceEqDiff,br,lenS,r44,aQ,ak,aD,am,ha.len,hia,hp1,hp2,hq1,hq2,he,hw]))
    |(with_reducible refine hK _ ?_;clear hK K))
    simp[hne]
 ·have hne:a≠b:=λh=>hl (by rw[h])
  have hl2:¬((a.length:Int)=b.length):=by omega
  repeat' (first
  |with_reducible (first|refine ai ?_|refine au rfl ?_|refine b6 ?_)
  |(with_reducible (first|(refine ah (λK hK=>?_);(first|refine t44r0 ?_|refine t44r1 ?_|refine t44r2 ?_))|refine hqr _ ?_);(try simp only[SS,Nat.reduceEqDiff,br,lenS,r44,aQ,ak,aD,am,ha.len,hb.len,hl2]))
  |(with_reducible refine hK _ ?_;clear hK K))
  simp[hne]
end Go.Cm
namespace Go.Cm
open Go.Proofs Go.Ir Go.Gr
theorem rowC_ne {α:Type}{e:α→List CV}{l:List α}(h:l≠[]):rowC e l=sl e l:=by
 cases l with
 |nil=>exact absurd rfl h
 |cons a l=>rfl
theorem tab_row {g:List (List Int)}{x:Int}(h0:0≤x) (h1:x<g.length):(kl g)[x.toNat]?=some (km g x):=by
 rw[kl,List.getElem?_map,List.getElem?_range (by omega)];simp only[Option.map_some,Int.toNat_of_nonneg h0]
theorem FU {g:List (List Int)}{a x:Int}(h0:0≤x) (h1:x<g.length):(km g a)[x.toNat]?=some (mz g a x):=by
 rw[km,List.getElem?_map,List.getElem?_range (by omega)];simp only[Option.map_some,Int.toNat_of_nonneg h0]
structure REnv (f:Cd) (l:List (Option (Int×Int))) (vs:CV) (nc np:Nat) (H:List HO):Prop where
 ctx:H[nc]?=some (.var 1 [sl ptC f.parts,.int .i64 f.values,.ref (.g np) 1 0 l.length,vs,rowC gq (kl (aE f))] 0)
 pls:H[np]?=some (.arr 1 3 (l.flatMap p3C) 0)
 rng:∀(i:Nat) (x:Int×Int),l[i]?=some (some x)→0≤x.1∧x.1<f.parts.length
theorem x104 (f:Cd) (l:List (Option (Int×Int))) (vs:CV) (nc np:Nat) (H:List HO) (hE:REnv f l vs nc np H) (part at_:Int) (hpart:part∈ord (aE f)) (id:Int) :
  FF 104 [.ptr (.g nc) 1 0,.int .i64 id,.int .i64 part,.int .i64 at_] H=some (.bool (bu (aE f) l part at_ id),H):=by
 have hfl:∀L,ld1 ⟨L,H⟩ (.ptr (.g nc) 1 2)=some (.ref (.g np) 1 0 l.length):=λL=>by rw[ce];simp only[hE.ctx,cw];rfl
 have hfu:∀L,ld1 ⟨L,H⟩ (.ptr (.g nc) 1 4)=some (rowC gq (kl (aE f))):=λL=>by rw[ce];simp only[hE.ctx,cw];rfl
 have hsetL:∀L j o,bi ⟨L,H⟩ j o=⟨cF L j o,H⟩:=λ_ _ _=>rfl;have hpr:=((cu _ part).1 hpart).range
 by_cases h0:id<0
 ·have hb:bu (aE f) l part at_ id=false:=by unfold bu;rw[if_neg (by omega)]
  refine aL rfl Try.func104 xC (Nat.le_of_ble_eq_true rfl) (λQ hqr hqn=>?_);rw[show ∀a,cin (An.pure 104) a=a from λ_=>rfl];simp only[aO,Nat.reduceAdd,tw]
  repeat' (first
  |with_reducible (first|refine ai ?_|refine au rfl ?_|refine b6 ?_)
  |(with_reducible (first|(refine ah (λK hK=>?_);(first|refine lM ?_|refine lN ?_|refine uk ?_))|refine hqr _ ?_);(try simp only[SS,Nat.reduceEqDiff,lenS,xz,aQ,ak,aD,am,h0]))
  |(with_reducible refine hK _ ?_;clear hK K))
  rw[hb]
 by_cases h1:(l.length:Int)≤id
 ·have hb:bu (aE f) l part at_ id=false:=by unfold bu;rw[if_pos (by omega),List.getElem?_eq_none (by omega)]
  refine aL rfl Try.func104 xC (Nat.le_of_ble_eq_true rfl) (λQ hqr hqn=>?_);rw[show ∀a,cin (An.pure 104) a=a from λ_=>rfl];simp only[aO,Nat.reduceAdd,tw]
  repeat' (first
  |with_reducible (first|refine ai ?_|refine au rfl ?_|refine b6 ?_)
  |(with_reducible (first|(refine ah (λK hK=>?_);(first|refine lM ?_|refine lN ?_|refine uk ?_))|refine hqr _ ?_);(try simp only[SS,Nat.reduceEqDiff,lenS,dy,bD,xz,aQ,ak,aD,am,h0,b7,hfl,h1]))
  |(with_reducible refine hK _ ?_;clear hK K))
  rw[hb]
 obtain⟨q,hq⟩:∃q,l[id.toNat]?=some q:=⟨_,List.getElem?_eq_getElem (by omega)⟩;obtain⟨i1,i2,i3⟩:=p3_at hE.pls (by omega) hq
 cases q with
 |none=>
  have hb:bu (aE f) l part at_ id=false:=by unfold bu;rw[if_pos (by omega),hq]
  simp only[Option.isSome] at i3;refine aL rfl Try.func104 xC (Nat.le_of_ble_eq_true rfl) (λQ hqr hqn=>?_);rw[show ∀a,cin (An.pure 104) a=a from λ_=>rfl];simp only[aO,Nat.reduceAdd,tw]
  repeat' (first
  |with_reducible (first|refine ai ?_|refine au rfl ?_|refine b6 ?_)
  |(with_reducible (first|(refine ah (λK hK=>?_);(first|refine lM ?_|refine lN ?_|refine uk ?_))|refine hqr _ ?_);(try simp only[SS,Nat.reduceEqDiff,Bool.not_false,lenS,xz,aQ,ak,aD,am,Nat.add_zero,h0,b7,hfl,h1,i1,i3]))
  |(with_reducible refine hK _ ?_;clear hK K))
  rw[hb]
 |some x=>
  simp only[Option.isSome] at i3;obtain⟨hx0,hx1⟩:=hE.rng _ _ hq;simp only[p3C] at i2;have hab:bu (aE f) l part at_ id=if x.1=part then decide (x.2<at_) else mz (aE f) x.1 part:=by unfold bu;rw[if_pos (by omega),hq];rfl
  by_cases hxp:x.1=part
  ·rw[if_pos hxp] at hab
   by_cases hxa:x.2<at_
   ·refine aL rfl Try.func104 xC (Nat.le_of_ble_eq_true rfl) (λQ hqr hqn=>?_)
    rw[show ∀a,cin (An.pure 104) a=a from λ_=>rfl];simp only[aO,Nat.reduceAdd,tw]
    repeat' (first
    |with_reducible (first|refine ai ?_|refine ar ?_|refine au rfl ?_|refine ax rfl ?_|refine b6 ?_)
    |(with_reducible (first|(refine ah (λK hK=>?_);(first|refine lM ?_|refine lN ?_|refine un ?_|refine uo ?_|refine Ev ?_))|refine hqr _ ?_);(try simp only[SS,Nat.reduceEqDiff,ap,Nat.reduceAdd,Bool.not_true,lenS,ay,xz,aQ,ak,aD,am,Nat.add_zero,h0,b7,hsetL,hfl,h1,i1,i2,i3,hxp,hxa]))
    |(with_reducible refine hK _ ?_;clear hK K))
    rw[hab,decide_eq_true hxa]
   ·have hxa':at_≤x.2:=by omega
    refine aL rfl Try.func104 xC (Nat.le_of_ble_eq_true rfl) (λQ hqr hqn=>?_);rw[show ∀a,cin (An.pure 104) a=a from λ_=>rfl];simp only[aO,Nat.reduceAdd,tw]
    repeat' (first
    |with_reducible (first|refine ai ?_|refine ar ?_|refine au rfl ?_|refine ax rfl ?_|refine b6 ?_)
    |(with_reducible (first|(refine ah (λK hK=>?_);(first|refine lM ?_|refine lN ?_|refine un ?_|refine uo ?_|refine Ev ?_))|refine hqr _ ?_);(try simp only[SS,Nat.reduceEqDiff,ap,Nat.reduceAdd,Bool.not_true,lenS,ay,xz,aQ,ak,aD,am,Nat.add_zero,h0,b7,hsetL,hfl,h1,i1,i2,i3,hxp,hxa]))
    |(with_reducible refine hK _ ?_;clear hK K))
    rw[hab,decide_eq_false hxa]
  ·rw[if_neg hxp] at hab
   have hne:kl (aE f)≠[]:=by
    intro h;have:=congrArg List.length h;simp[kl] at this;rw[this] at hpr;simp at hpr;omega
   have hsl:(aE f).length=f.parts.length:=fb f;have hu1:=hY (k:=.i64) (sz:=1) jy (by omega) hx0 (tab_row (g:=aE f) hx0 (by omega));have hu2:=hY (k:=.i64) (e:=bS) (sz:=1) (λ_=>rfl) (by omega) hpr.1 (FU (g:=aE f) (a:=x.1) hpr.1 hpr.2);rw[rowC_ne hne] at hfu;refine aL rfl Try.func104 xC (Nat.le_of_ble_eq_true rfl) (λQ hqr hqn=>?_);rw[show ∀a,cin (An.pure 104) a=a from λ_=>rfl];simp only[aO,Nat.reduceAdd,tw]
   repeat' (first
   |with_reducible (first|refine ai ?_|refine ar ?_|refine ax rfl ?_|refine aF ?_)
   |(with_reducible (first|(refine ah (λK hK=>?_);(first|refine lM ?_|refine lN ?_|refine un ?_|refine uo ?_|refine t104r6 ?_))|refine hqr _ ?_);(try simp only[SS,Nat.reduceEqDiff,ap,Nat.reduceAdd,dw,Bool.not_true,lenS,ay,xz,aQ,ak,aD,am,Nat.add_zero,h0,b7,hsetL,hfl,hfu,h1,i1,i2,i3,hxp,hu1,hu2,gq,bS]))
   |(with_reducible refine hK _ ?_;clear hK K))
   rw[hab]
theorem x76 (f:Cd) (l:List (Option (Int×Int))) (vs:CV) (nc np:Nat) (H:List HO) (hE:REnv f l vs nc np H) (part at_:Int) (hpart:part∈ord (aE f)) (va:CV) (ids:List Int) (hva:RdI H va ids) (hil:ids.length≤17592186044416) :
  FF 76 [.ptr (.g nc) 1 0,va,.int .i64 part,.int .i64 at_] H=some (.bool (ids.all (bu (aE f) l part at_)),H):=by
 have hA:∀(L:List (Nat×HO)) id,aB An FF 76 (some 23) 104 [.ptr (.g nc) 1 0,.int .i64 id,.int .i64 part,.int .i64 at_] ⟨L,H⟩=some (.bool (bu (aE f) l part at_ id),⟨L,H⟩):=λL id=>by
  rw[cf rfl rfl (x104 f l vs nc np H hE part at_ hpart id)];rfl
 refine aL rfl Try.func76 s76 (Nat.le_of_ble_eq_true rfl) (λQ hqr hqn=>?_);rw[show ∀a,cin (An.pure 76) a=a from λ_=>rfl];simp only[aO,Nat.reduceAdd,c76]
 repeat' (first
 |with_reducible (first|refine ai ?_|refine aj (id:=0) (λQ0 hn0 hx0 hr0 ho0=>?_))
 |(with_reducible (refine ah (λK hK=>?_);(first|refine t76r0 ?_|refine t76r1 ?_));(try simp only[SS,Nat.reduceEqDiff]))
 |(with_reducible refine hK _ ?_;clear hK K))
 refine aU (λk s=>∃(d t:List Int) (L:List (Nat×HO)),ids=d++t∧k=t.length∧d.all (bu (aE f) l part at_)=true ∧
  s=⟨[(0,.ptr (.g nc) 1 0),(1,va),(2,.int .i64 part),(3,.int .i64 at_),(9,.int .i64 d.length)],⟨L,H⟩⟩) _ ⟨[],ids,_,rfl,rfl,rfl,rfl⟩ ?_
 rintro k s ⟨d,t,L,h3,rfl,hd,rfl⟩ QL0 hnL0 hxL0 hrL0;have hlen:=congrArg List.length h3;simp only[List.length_append] at hlen;simp only[c76l0]
 cases t with
 |nil=>
  simp only[List.length_nil] at hlen;rw[List.append_nil] at h3
  repeat' (first
  |with_reducible (first|refine ai ?_|refine ax rfl ?_|refine aN ?_|refine aF ?_|refine hx0 _ ?_|refine hxL0 _ _ ?_)
  |(with_reducible (first|(refine ah (λK hK=>?_);(first|refine FC ?_|refine t76r6 ?_))|refine hqr _ ?_);(try simp only[SS,Nat.reduceEqDiff,lenS,r76,aQ,ak,aD,am,hva.len]))
  |(revert hK;intro hK;(first|refine And.intro ?_ ?_|intro _|omega|(with_reducible refine hK _ ?_;clear hK K))))
  rw[h3,hd]
 |cons id t=>
  simp only[List.length_cons] at hlen;have hidl:ids[d.length]?=some id:=by rw[h3];simp
  obtain⟨p,hp1,hp2⟩:=hva.at hidl (k:=.i64);have hw:IntKind.i64.wrap ((d.length:Int)+1)=d.length+1:=wI (by omega) (by omega);have hA:=λL=>hA L id
  cases ha:bu (aE f) l part at_ id with
  |true=>
   simp only[ha] at hA
   repeat' (first
   |with_reducible (first|refine ai ?_|refine ar ?_|refine au rfl ?_|refine bn rfl ?_|refine bx ?_|refine aj (id:=1) (λQ1 hn1 hx1 hr1 ho1=>?_)|refine hn1 _ ?_)
   |(with_reducible ((first|refine ah (λK hK=>?_)|refine aI (λK hK=>?_));(first|refine FC ?_|refine t76r4 ?_|refine t76r3 ?_));(try simp only[SS,Nat.reduceEqDiff,Bool.not_true,lenS,hva.len,hp1,hp2,hA,hw]))
   |(revert hK;intro hK;(first|refine And.intro ?_ ?_|intro _|omega|(with_reducible refine hK _ ?_;clear hK K))))
   exact hnL0 t.length _ (by simp) ⟨d++[id],t,L,by simp[h3],rfl,by simp[hd,ha],by simp⟩
  |false=>
   simp only[ha] at hA
   repeat' (first
   |with_reducible (first|refine ai ?_|refine ar ?_|refine au rfl ?_|refine bc rfl ?_|refine aF ?_|refine hr0 _ ?_|refine aj (id:=1) (λQ1 hn1 hx1 hr1 ho1=>?_)|refine hr1 _ ?_|refine hrL0 _ ?_)
   |(with_reducible (first|(refine ah (λK hK=>?_);(first|refine FC ?_|refine t76r4 ?_|refine t76r5 ?_))|refine hqr _ ?_);(try simp only[SS,Nat.reduceEqDiff,Bool.not_false,lenS,r76,aQ,ak,aD,am,hva.len,hp1,hp2,hA,hw]))
   |(revert hK;intro hK;(first|refine And.intro ?_ ?_|intro _|omega|(with_reducible refine hK _ ?_;clear hK K))))
   have:ids.all (bu (aE f) l part at_)=false:=by rw[h3];simp[ha]
   rw[this]
theorem EscI.arr {m:Mem}{j g vl:Nat}{l:List Int}(h:aK m.L j=some (.arr g 1 (l.flatMap aX) vl)):EscI m j (.ref (.l j) g 0 l.length) l:=by
 refine⟨sl aX l,bi m j (.arr g 1 (l.flatMap aX) (max vl (l.length*1))),?_,λH=>.inl rfl,rfl,λi hi=>by rw[ba,if_neg (Ne.symm hi)]⟩
 simp only[iC,esc,h,if_true,List.drop_zero,HO.seen,Nat.zero_add];rw[List.take_of_length_le (by rw[bC dB];exact Nat.le_refl _)];rfl
theorem k30 (n:Nd) (hl:n.args.length≤17592186044416) {fid:FuncId}{d:Tmp}{m:Mem}{K:CV×Mem→Prop}(hgl:(An.glob fid).contains d=false)
  (hK:∀v m',EscI m' (16*d) v (eF n)→m'.H=m.H→(∀i,i≠16*d→aK m'.L i=aK m.L i)→K (v,m')):Obt (aB An FF fid (some d) 30 [.agg (ndC n)] m) K:=by
 have hF:=x30 n hl
 by_cases h7:n.op=7
 ·have hu:eF n=n.args:=by unfold eF;rw[if_neg (by omega),if_neg (by omega),if_pos h7]
  rw[lm,if_pos h7] at hF;rw[hu] at hK;rw[ek hF rfl (by simp only[cans,aC,ndE.can]) rfl (by simp only[noGs,noG,ndE.noG,Bool.and_self]) (iT fY _),fO hgl,aJ];refine hK _ _ (EscI.arr (g:=bj m.L (16*d)) (vl:=0) (by rw[ba,if_pos rfl])) rfl λi hi=>by rw[ba,if_neg (Ne.symm hi)]
 ·rw[lm,if_neg h7] at hF
  exact gX hF rfl (by simp only[cans,aC,ndE.can]) rfl (by simp only[noGs,noG,ndE.noG,Bool.and_self]) fY hgl λv m' h1 h2 h3=>hK v m' h1.seen.escI h2 h3
theorem k29 (e:Tm) {fid:FuncId}{d:Tmp}{m:Mem}{K:CV×Mem→Prop}(hgl:(An.glob fid).contains d=false)
  (hK:∀v m',EscI m' (16*d) v (jC e)→m'.H=m.H→(∀i,i≠16*d→aK m'.L i=aK m.L i)→K (v,m')):Obt (aB An FF fid (some d) 29 [.agg (tmC e)] m) K:=
 gX (x29 e) rfl (by simp only[cans,aC,tmE.can]) rfl rfl fY hgl λv m' h1 h2 h3=>hK v m' h1.seen.escI h2 h3
theorem k76 (f:Cd) (l:List (Option (Int×Int))) (vs:CV) (nc np:Nat) (m:Mem) (hE:REnv f l vs nc np m.H) (part at_:Int) (hpart:part∈ord (aE f)) (v:CV) (j:Nat) (ids:List Int) (hv:EscI m j v ids) (hil:ids.length≤17592186044416) {fid:FuncId}{d:Tmp}{K:CV×Mem→Prop}
  (hK:∀m',m'.H=m.H→(∀i,i≠j→aK m'.L i=aK m.L i)→K (.bool (ids.all (bu (aE f) l part at_)),m')):Obt (aB An FF fid (some d) 76 [.ptr (.g nc) 1 0,v,.int .i64 part,.int .i64 at_] m) K:=by
 obtain⟨x,m1,h1,h2,h3,h4⟩:=hv;have hF:=x76 f l vs nc np m1.H (by rw[h3];exact hE) part at_ hpart x ids (h2 _) hil;have hx:bp m [.ptr (.g nc) 1 0,v,.int .i64 part,.int .i64 at_]=some ([.ptr (.g nc) 1 0,x,.int .i64 part,.int .i64 at_],m1):=
  ed (a:=[.ptr (.g nc) 1 0]) (cn (m:=m) rfl) (jI (post:=[.int .i64 part,.int .i64 at_]) rfl h1)
 rw[m9 rfl hx hF,aJ,eY];exact hK _ h3 h4
end Go.Cm
namespace Go.Cm
open Go.Proofs Go.Ir Go.Gr
theorem Et {l:List Int}{j:Nat}{a:Int}(ha:l[j]?=some a) (m:Mem):sJ 1 (sl aX l) (some (.int .i64 j)) (some (.int .i64 ((j:Int)+1))) none m=some (sl aX [a]):=by
 have hj:=(List.getElem?_eq_some_iff.1 ha).1;have h1:((j:Int)+1).toNat=j+1:=by omega
 have hb:fp l.length (some (.int .i64 j)) (some (.int .i64 ((j:Int)+1)))=some (j,j+1):=by
  simp only[fp,eH,Int.natCast_nonneg,if_true,Int.toNat_natCast,h1,if_pos (show(0:Int)≤(j:Int)+1 by omega)];rw[if_pos ⟨by omega,by omega⟩]
 have hcl:cK (.imm l.length (l.flatMap aX))=some l.length:=rfl;simp only[sJ,qN,sl,hcl,hb];have:=(hJ (e:=aX) (sz:=1) dB ha).1;rw[show j+1 - j=1 by omega,Nat.one_mul,this];rfl
set_option maxHeartbeats 2000000 in
theorem x50 (f:Cd) (l:List (Option (Int×Int))) (vs:CV) (nc np:Nat) (H:List HO) (hE:REnv f l vs nc np H) (hf:Sized f) (hw:bY f=true) (d t:List Pt) (p:Pt) (h3:f.parts=d++p::t) :
  FF 50 [.ptr (.g nc) 1 0,.int .i64 d.length] H=some (.bool (eg (aE f) l d.length p),H):=by
 have hfp:∀L,ld1 ⟨L,H⟩ (.ptr (.g nc) 1 0)=some (sl ptC f.parts):=λL=>by rw[ce];simp only[hE.ctx,cw];rfl
 have hsetL:∀(L:List (Nat×HO)) (H:List HO) j o,bi ⟨L,H⟩ j o=⟨cF L j o,H⟩:=λ_ _ _ _=>rfl;have hlen:=congrArg List.length h3;simp only[List.length_append,List.length_cons] at hlen;have hpi:f.parts[d.length]?=some p:=by rw[h3];simp
 have hpm:p∈f.parts:=List.mem_of_getElem? hpi;obtain⟨hphl,hphs⟩:=hf.phis p hpm;obtain⟨hndl,hnds⟩:=hf.nodes p hpm;have hprl:=hf.pred p hpm;have hfl:=hf.parts;have hdo:(d.length:Int)∈ord (aE f):=kY hw (by omega);have hAll:∀(L:List (Nat×HO)) (a part:Int),part∈ord (aE f)→aB An FF 50 (some 58) 76 [.ptr (.g nc) 1 0,sl aX [a],.int .i64 part,.int .i64 1073741824] ⟨L,H⟩=some (.bool (bu (aE f) l part eD a),⟨L,H⟩):=λL a part hp=>by
  have:=x76 f l vs nc np H hE part 1073741824 hp (sl aX [a]) [a] (.inl rfl) (by simp);simp only[List.all_cons,List.all_nil,Bool.and_true] at this;rw[cf rfl rfl this];rfl
 refine aL rfl Try.func50 s50 (Nat.le_of_ble_eq_true rfl) (λQ hqr hqn=>?_);rw[show ∀a,cin (An.pure 50) a=a from λ_=>rfl];simp only[aO,Nat.reduceAdd,c50]
 repeat' (first
 |with_reducible (first|refine ai ?_|refine aj (id:=0) (λQ0 hn0 hx0 hr0 ho0=>?_))
 |(with_reducible (refine ah (λK hK=>?_);(first|refine t50r0 ?_|refine t50r1 ?_|refine t50r2 ?_));(try simp only[SS,Nat.reduceEqDiff,ap,Nat.reduceAdd,ay,b7,hfp,aP,aM ptE.len (by omega) h3,ct,ptC,hsetL]))
 |(with_reducible refine hK _ ?_;clear hK K))
 obtain⟨g5,hg5⟩:∃g,bj [] 80=g:=⟨_,rfl⟩;rw[hg5];refine aU (λk s=>∃(d1 t1:List Ph) (L:List (Nat×HO)),p.phis=d1++t1∧k=t1.length∧(∀x∈d1,fl (aE f) l p x=true)∧aK L 80=some (.var g5 (ptC p) 0) ∧
  s=⟨[(0,.ptr (.g nc) 1 0),(1,.int .i64 d.length),(5,.ptr (.l 80) g5 0),(6,.int .i64 d1.length)],⟨L,H⟩⟩) _ ⟨[],p.phis,_,rfl,rfl,by simp,by simp[aq,ptC],rfl⟩ ?_
 rintro k s ⟨d1,t1,L1,h4,rfl,hd1,hL1,rfl⟩ QL1 hnL1 hxL1 hrL1;have hlen1:=congrArg List.length h4;simp only[List.length_append] at hlen1;simp only[c50l1]
 cases t1 with
 |nil=>
  simp only[List.length_nil] at hlen1;rw[List.append_nil] at h4;have hph:p.phis.all (fl (aE f) l p)=true:=by rw[h4,List.all_eq_true];exact hd1
  repeat' (first
  |with_reducible (first|refine ai ?_|refine ax rfl ?_|refine aN ?_|refine hx0 _ ?_|refine aj (id:=4) (λQ4 hn4 hx4 hr4 ho4=>?_)|refine hxL1 _ _ ?_)
  |(with_reducible (refine ah (λK hK=>?_);(first|refine Fe ?_|refine t50r12 ?_));(try simp only[SS,Nat.reduceEqDiff,lenS,hL1,ptC,aP]))
  |(revert hK;intro hK;(first|refine And.intro ?_ ?_|intro _|omega|(with_reducible refine hK _ ?_;clear hK K))))
  refine aU (λk s=>∃(d2 t2:List Nd) (L:List (Nat×HO)),p.nodes=d2++t2∧k=t2.length∧(∀i,i<d2.length→jD (aE f) l d.length p i=true)∧aK L 80=some (.var g5 (ptC p) 0) ∧
   s=⟨[(0,.ptr (.g nc) 1 0),(1,.int .i64 d.length),(5,.ptr (.l 80) g5 0),(8,.int .i64 d2.length)],⟨L,H⟩⟩) _ ⟨[],p.nodes,_,rfl,rfl,λi h=>by simp at h,hL1,rfl⟩ ?_
  rintro k s ⟨d2,t2,L2,h5,rfl,hd2,hL2,rfl⟩ QL2 hnL2 hxL2 hrL2;have hlen2:=congrArg List.length h5;simp only[List.length_append] at hlen2;simp only[c50l2]
  cases t2 with
  |nil=>
   simp only[List.length_nil] at hlen2;have hnd:(List.range p.nodes.length).all (jD (aE f) l d.length p)=true:=dZ λi hi=>hd2 i (by omega);have hpk:eg (aE f) l d.length p=(jC p.fin).all (bu (aE f) l d.length eD):=by rw[ep,hph,hnd];simp
   repeat' (first
   |with_reducible (first|refine ai ?_|refine ax rfl ?_|refine aN ?_|refine hx4 _ ?_|refine hxL2 _ _ ?_)
   |(with_reducible (refine ah (λK hK=>?_);(first|refine Fd ?_|refine t50r17 ?_));(try simp only[SS,Nat.reduceEqDiff,Nat.reduceAdd,lenS,hL2,ptC,aP]))
   |(revert hK;intro hK;(first|refine And.intro ?_ ?_|intro _|omega|(with_reducible refine hK _ ?_;clear hK K))))
   refine k29 p.fin rfl λv3 m3 hv3 hH3 hf3=>?_;refine k76 f l vs nc np m3 (by rw[hH3];exact hE) d.length 1073741824 hdo v3 _ (jC p.fin) hv3 (by have:=rM p.fin;omega) λm4 hH4 hf4=>?_;obtain⟨L4,H4⟩:=m4;simp only[hH3] at hH4;subst hH4;rw[show(1073741824:Int)=eD from rfl,←hpk];refine hK _ ?_;clear hK K
   repeat' (first
   |with_reducible refine aF ?_
   |(with_reducible refine hqr _ ?_;(try simp only[SS,r50,aQ,ak,aD,am])))
  |cons x t2=>
   simp only[List.length_cons] at hlen2;have hxi:p.nodes[d2.length]?=some x:=by rw[h5];simp
   have hxa:=(hnds x (List.mem_of_getElem? hxi)).1;have hw2:IntKind.i64.wrap ((d2.length:Int)+1)=((d2.length+1:Nat):Int):=by rw[wI (by omega) (by omega)];rfl
   have hul':(eF x).length≤17592186044416:=th x hxa;have hnk:jD (aE f) l d.length p d2.length=(eF x).all (bu (aE f) l d.length ((d2.length+1:Nat):Int)):=by unfold jD;rw[hxi]
   repeat' (first
   |with_reducible (first|refine ai ?_|refine ar ?_|refine au rfl ?_|refine aj (id:=5) (λQ5 hn5 hx5 hr5 ho5=>?_))
   |(with_reducible (refine ah (λK hK=>?_);(first|refine Fd ?_|refine t50r15 ?_));(try simp only[SS,Nat.reduceEqDiff,lenS,hL2,ptC,aP,aM ndE.len (by omega) h5,eR,ndC,hw2]))
   |(revert hK;intro hK;(first|refine And.intro ?_ ?_|intro _|omega|(with_reducible refine hK _ ?_;clear hK K))))
   refine k30 x hxa rfl λv3 m3 hv3 hH3 hf3=>?_;refine k76 f l vs nc np m3 (by rw[hH3];exact hE) d.length ((d2.length+1:Nat):Int) hdo v3 _ (eF x) hv3 hul' λm4 hH4 hf4=>?_;have h80:aK m4.L 80=some (.var g5 (ptC p) 0):=by rw[hf4 80 (by decide),hf3 80 (by decide)];exact hL2
   obtain⟨L4,H4⟩:=m4;simp only[hH3] at hH4;subst hH4;rw[←hnk]
   cases hpo:jD (aE f) l d.length p d2.length with
   |false=>
    simp only[fc,Bool.not_false];refine hK _ ?_;clear hK K
    repeat' (first
    |with_reducible (first|refine bc rfl ?_|refine aF ?_|refine hr4 _ ?_|refine hr5 _ ?_|refine hrL2 _ ?_)
    |(with_reducible (first|(refine ah (λK hK=>?_);refine t50r16 ?_)|refine hqr _ ?_);(try simp only[SS,r50,aQ,ak,aD,am]))
    |(with_reducible refine hK _ ?_;clear hK K))
    rw[ep,dO (k:=d2.length) (by omega) hpo];simp
   |true=>
    simp only[fc,Bool.not_true];refine hK _ ?_;clear hK K
    repeat' (first
    |with_reducible (first|refine bn rfl ?_|refine bx ?_|refine hn5 _ ?_)
    |(with_reducible (refine aI (λK hK=>?_);refine t50r14 ?_);(try simp only[SS,Nat.reduceEqDiff,hw2]))
    |(with_reducible refine hK _ ?_;clear hK K))
    rw[show((d2.length+1:Nat):Int)=((d2++[x]).length:Int) by simp];refine hnL2 t2.length _ (by simp) ⟨d2++[x],t2,L4,by simp[h5],rfl,λi hi=>?_,h80,rfl⟩
    by_cases hi2:i<d2.length
    ·exact hd2 i hi2
    ·have:i=d2.length:=by simp at hi;omega
     rw[this];exact hpo
 |cons x t1=>
  simp only[List.length_cons] at hlen1;have hxm:x∈p.phis:=by rw[h4];simp
  have hxs:=hphs x hxm;have hw1:IntKind.i64.wrap ((d1.length:Int)+1)=d1.length+1:=wI (by omega) (by omega);have hbad:fl (aE f) l p x=false→eg (aE f) l d.length p=false:=λh=>by
   rw[ep,List.all_eq_false.2 ⟨x,hxm,by rw[h];simp⟩];simp
  by_cases hxl:(x.src.length:Int)=p.pred.length
  ·have hxl':x.src.length=p.pred.length:=by omega
   repeat' (first
   |with_reducible (first|refine ai ?_|refine ar ?_|refine au rfl ?_|refine ax rfl ?_|refine aj (id:=1) (λQ1 hn1 hx1 hr1 ho1=>?_)|refine bl (id:=2) (λQ2 hn2 hx2 hr2 ho2=>?_))
   |(with_reducible (refine ah (λK hK=>?_);(first|refine Fe ?_|refine t50r5 ?_|refine t50r7 ?_));(try simp only[SS,Nat.reduceEqDiff,bL,dw,br,lenS,hL1,ptC,aP,aM phE.len (by omega) h4,phC,hxl]))
   |(revert hK;intro hK;(first|refine And.intro ?_ ?_|intro _|omega|(with_reducible refine hK _ ?_;clear hK K))))
   refine aU (λk s=>∃(j:Nat) (L:List (Nat×HO)),j≤p.pred.length∧k=p.pred.length - j∧(∀i,i<j→bu (aE f) l (p.pred.getD i 0) eD (x.src.getD i 0)=true)∧aK L 80=some (.var g5 (ptC p) 0) ∧
    s=⟨[(0,.ptr (.g nc) 1 0),(1,.int .i64 d.length),(5,.ptr (.l 80) g5 0),(6,.int .i64 d1.length),(7,.int .i64 j)],⟨L,H⟩⟩) _ ⟨0,_,Nat.zero_le _,rfl,λi h=>by omega,hL1,rfl⟩ ?_
   rintro k s ⟨j,L2,hj,rfl,hjj,hL2,rfl⟩ QL0 hnL0 hxL0 hrL0;simp only[c50l0]
   by_cases hjn:j=p.pred.length
   ·have hjn1:¬(j:Int)<p.pred.length:=by omega
    have hok:fl (aE f) l p x=true:=by
     unfold fl;rw[decide_eq_true hxl',Bool.true_and];exact dZ λi hi=>hjj i (by omega)
    repeat' (first
    |with_reducible (first|refine ai ?_|refine ax rfl ?_|refine aN ?_|refine hn1 _ ?_|refine hx2 _ ?_|refine hxL0 _ _ ?_)
    |(with_reducible ((first|refine ah (λK hK=>?_)|refine aI (λK hK=>?_));(first|refine Ff ?_|refine t50r4 ?_));(try simp only[SS,Nat.reduceEqDiff,lenS,hL2,ptC,aP,hjn1,hw1]))
    |(with_reducible refine hK _ ?_;clear hK K))
    exact hnL1 t1.length _ (by simp) ⟨d1++[x],t1,L2,by simp[h4],rfl,λy hy=>by
     rcases List.mem_append.1 hy with h|h
     ·exact hd1 y h
     ·rw[List.mem_singleton.1 h];exact hok,hL2,by simp⟩
   ·have hjlt:(j:Int)<p.pred.length:=by omega
    obtain⟨a,ha⟩:∃a,x.src[j]?=some a:=⟨_,List.getElem?_eq_getElem (by omega)⟩;obtain⟨b,hb⟩:∃b,p.pred[j]?=some b:=⟨_,List.getElem?_eq_getElem (by omega)⟩;have hbo:b∈ord (aE f):=oe hw hpi (List.mem_of_getElem? hb);have hA:=λL=>hAll L a b hbo;have hwj:IntKind.i64.wrap ((j:Int)+1)=(j:Int)+1:=wI (by omega) (by omega);obtain⟨q,hq1,hq2⟩:=(show RdI H (sl aX p.pred) p.pred from .inl rfl).at hb (k:=.i64);have hs1:=Et ha;have hgb:p.pred.getD j 0=b:=by rw[List.getD_eq_getElem?_getD,hb];rfl
    have hga:x.src.getD j 0=a:=by rw[List.getD_eq_getElem?_getD,ha];rfl
    cases hab:bu (aE f) l b eD a with
    |true=>
     simp only[hab] at hA
     repeat' (first
     |with_reducible (first|refine ai ?_|refine ar ?_|refine au rfl ?_|refine bn rfl ?_|refine bx ?_|refine aj (id:=3) (λQ3 hn3 hx3 hr3 ho3=>?_)|refine hn3 _ ?_)
     |(with_reducible ((first|refine ah (λK hK=>?_)|refine aI (λK hK=>?_));(first|refine Ff ?_|refine Fc ?_|refine t50r9 ?_));(try simp only[SS,Nat.reduceEqDiff,bL,dw,Bool.not_true,lenS,hL2,ptC,aP,aM phE.len (by omega) h4,phC,hjlt,hwj,hs1,hq1,hq2,hA]))
     |(with_reducible refine hK _ ?_;clear hK K))
     exact hnL0 (p.pred.length - (j+1)) _ (by omega) ⟨j+1,L2,by omega,rfl,λi hi=>by
      by_cases hij:i<j
      ·exact hjj i hij
      ·have:i=j:=by omega
       rw[this,hgb,hga];exact hab,hL2,rfl⟩
    |false=>
     simp only[hab] at hA
     repeat' (first
     |with_reducible (first|refine ai ?_|refine ar ?_|refine au rfl ?_|refine bc rfl ?_|refine aF ?_|refine hr0 _ ?_|refine hr1 _ ?_|refine hr2 _ ?_|refine aj (id:=3) (λQ3 hn3 hx3 hr3 ho3=>?_)|refine hr3 _ ?_|refine hrL0 _ ?_|refine hrL1 _ ?_)
     |(with_reducible (first|(refine ah (λK hK=>?_);(first|refine Ff ?_|refine Fc ?_|refine t50r11 ?_))|refine hqr _ ?_);(try simp only[SS,Nat.reduceEqDiff,bL,dw,Bool.not_false,lenS,r50,aQ,ak,aD,am,hL2,ptC,aP,aM phE.len (by omega) h4,phC,hjlt,hwj,hs1,hq1,hq2,hA]))
     |(with_reducible refine hK _ ?_;clear hK K))
     rw[hbad];unfold fl;rw[dO (k:=j) (by omega) (by rw[hgb,hga];exact hab),Bool.and_false]
  ·repeat' (first
   |with_reducible (first|refine ai ?_|refine ar ?_|refine au rfl ?_|refine b6 ?_|refine hr0 _ ?_|refine aj (id:=1) (λQ1 hn1 hx1 hr1 ho1=>?_)|refine hr1 _ ?_|refine hrL1 _ ?_)
   |(with_reducible (first|(refine ah (λK hK=>?_);(first|refine Fe ?_|refine t50r5 ?_|refine t50r6 ?_))|refine hqr _ ?_);(try simp only[SS,Nat.reduceEqDiff,bL,dw,br,lenS,r50,aQ,ak,aD,am,hL1,ptC,aP,aM phE.len (by omega) h4,phC,hxl]))
   |(revert hK;intro hK;(first|refine And.intro ?_ ?_|intro _|omega|(with_reducible refine hK _ ?_;clear hK K))))
   rw[hbad];unfold fl;rw[decide_eq_false (by omega),Bool.false_and]
end Go.Cm
