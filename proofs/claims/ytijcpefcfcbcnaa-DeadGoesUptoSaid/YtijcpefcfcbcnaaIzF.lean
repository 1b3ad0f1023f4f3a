import Derived.Test.YtijcpefcfcbcnaaIdA
import Derived.Test.YtijcpefcfcbcnaaIdD
set_option linter.unusedSimpArgs false
set_option linter.unusedVariables false
namespace Go.Cm
open Go.Proofs Go.Ir Go.Gr
def plC (p:Option (Int×Int)):List CV:=match p with
 |none=>[.int .i64 (-1),.int .i64 0]
 |some x=>[.int .i64 x.1,.int .i64 x.2]
theorem fg (p:Option (Int×Int)):(plC p).length=2:=by cases p<;>rfl
theorem n9 {l:List (Option (Int×Int))}:(l.flatMap plC).length=l.length*2:=bC fg l
theorem wl {α:Type}{e:α→List CV}(h2:∀a,(e a).length=2):∀(l:List α) (i:Nat) (x:α),i<l.length→ay (l.flatMap e) (i*2) (e x)=(l.set i x).flatMap e
 |[],i,x,h=>by simp at h
 |a::l,0,x,_=>by
  simp only[List.flatMap_cons,Nat.zero_mul,ay,List.take_zero,List.nil_append,Nat.zero_add,h2,List.set_cons_zero];rw[List.drop_append_of_le_length (by rw[h2];exact Nat.le_refl _),List.drop_of_length_le (by rw[h2];exact Nat.le_refl _),List.nil_append]
 |a::l,i+1,x,h=>by
  have ih:=wl h2 l i x (by simpa using h);simp only[List.flatMap_cons,List.set_cons_succ,←ih,ay,h2];have h3:(i+1)*2=(e a).length+i*2:=by rw[h2];omega
  have h4:(e a).length+i*2+2=(e a).length+(i*2+2):=by omega
  rw[h3,List.take_length_add_append,h4,List.drop_length_add_append];simp only[List.append_assoc]
theorem pl_at {H:List HO}{np:Nat}{l:List (Option (Int×Int))}(hnp:H[np]?=some (.arr 1 2 (l.flatMap plC) 0)) {id:Int}{p:Option (Int×Int)}(h0:0≤id) (hp:l[id.toNat]?=some p) :
  bd 2 (.ref (.g np) 1 0 l.length) (.int .i64 id)=some (.ptr (.g np) 1 (id.toNat*2))∧(∀L,ldA 2 ⟨L,H⟩ (.ptr (.g np) 1 (id.toNat*2))=some (.agg (plC p))):=by
 have hl:=(List.getElem?_eq_some_iff.1 hp).1
 refine⟨by rw[bD,if_pos ⟨h0,by omega⟩];simp,λL=>?_⟩
 rw[kL];have h1:=dA (e:=plC) (sz:=2) (off:=0) fg hp (by omega);have h2:=dA (e:=plC) (sz:=2) (off:=1) fg hp (by omega);simp only[hnp,fB];rw[if_pos (by rw[n9];omega)]
 congr 2
 refine List.ext_getElem? λi=>?_;rw[List.getElem?_take,List.getElem?_drop]
 by_cases h0:i=0
 ·subst h0;rw[if_pos (by omega),h1]
 ·by_cases h3:i=1
  ·subst h3;rw[if_pos (by omega),h2]
  ·rw[if_neg (by omega),List.getElem?_eq_none (by rw[fg];omega)]
theorem stX_two {H:List HO}{L:List (Nat×HO)}{np i:Nat}{l:List (Option (Int×Int))}{p:Option (Int×Int)}(hnp:H[np]?=some (.arr 1 2 (l.flatMap plC) 0)) (hi:i<l.length) :
  stX 2 ⟨L,H⟩ (.ptr (.g np) 1 (i*2)) (.agg (plC p))=some ⟨L,H.set np (.arr 1 2 ((l.set i p).flatMap plC) 0)⟩:=by
 have hc:ap (.agg (plC p))=some (plC p):=rfl;have hp:(plC p).all cz=true:=by cases p<;>rfl
 rw[gQ,hnp,hc,mO hp hnp,if_pos ⟨fg p,by rw[n9];omega,Nat.zero_le _⟩,wl fg l i p hi];rfl
theorem x89 (H:List HO) (nc np:Nat) (a b d:CV) (l:List (Option (Int×Int))) (id p at_:Int) (hnc:H[nc]?=some (.var 1 [a,b,.ref (.g np) 1 0 l.length,d] 0)) (hnp:H[np]?=some (.arr 1 2 (l.flatMap plC) 0))
  (hpos:∀(i:Nat) (x:Int×Int),l[i]?=some (some x)→0≤x.1) (hl:l.length≤1048576) :
  FF 89 [.ptr (.g nc) 1 0,.int .i64 id,.agg [.int .i64 p,.int .i64 at_]] H=some (match mk1 l id (p,at_) with|none=>(.bool false,H)|some l'=>(.bool true,H.set np (.arr 1 2 (l'.flatMap plC) 0))):=by
 have hfl:∀L,ld1 ⟨L,H⟩ (.ptr (.g nc) 1 2)=some (.ref (.g np) 1 0 l.length):=λL=>by rw[ce];simp only[hnc,cw];rfl
 by_cases h0:id<0
 ·have hm:mk1 l id (p,at_)=none:=by unfold mk1;rw[if_neg (by omega)]
  rw[hm];refine aL rfl Try.func89 s89 (Nat.le_of_ble_eq_true rfl) (λQ hqr hqn=>?_);rw[show ∀a,cin (An.pure 89) a=a from λ_=>rfl];simp only[aO,Nat.reduceAdd,c89]
  repeat' (first
  |with_reducible (first|refine ai ?_|refine au rfl ?_|refine b6 ?_)
  |(with_reducible (first|(refine ah (λK hK=>?_);(first|refine wG ?_|refine wH ?_|refine FG ?_))|refine hqr _ ?_);(try simp only[SS,Nat.reduceEqDiff,ap,lenS,r89,aQ,ak,aD,am,h0]))
  |(with_reducible refine hK _ ?_;clear hK K))
  all_goals first|rfl|trivial
 by_cases h1:(l.length:Int)≤id
 ·have hm:mk1 l id (p,at_)=none:=by unfold mk1;rw[if_neg];intro h;have:=(List.getElem?_eq_some_iff.1 h.2).1;omega
  rw[hm];have hsetL:∀L j o,bi ⟨L,H⟩ j o=⟨cF L j o,H⟩:=λ_ _ _=>rfl;refine aL rfl Try.func89 s89 (Nat.le_of_ble_eq_true rfl) (λQ hqr hqn=>?_);rw[show ∀a,cin (An.pure 89) a=a from λ_=>rfl];simp only[aO,Nat.reduceAdd,c89]
  repeat' (first
  |with_reducible (first|refine ai ?_|refine au rfl ?_|refine b6 ?_)
  |(with_reducible (first|(refine ah (λK hK=>?_);(first|refine wG ?_|refine wH ?_|refine FG ?_))|refine hqr _ ?_);(try simp only[SS,Nat.reduceEqDiff,ap,lenS,dy,bD,r89,aQ,ak,aD,am,h0,b7,hsetL,hfl,h1]))
  |(with_reducible refine hK _ ?_;clear hK K))
  all_goals first|rfl|trivial
 obtain⟨q,hq⟩:∃q,l[id.toNat]?=some q:=⟨_,List.getElem?_eq_getElem (by omega)⟩;obtain⟨i1,i2⟩:=pl_at hnp (by omega) hq;have i3:∀L,ld1 ⟨L,H⟩ (.ptr (.g np) 1 (id.toNat*2))=some (.int .i64 (match q with|none=>-1|some x=>x.1)):=λL=>by
  have h:=dA (e:=plC) (sz:=2) (off:=0) fg hq (by omega);rw[ce];simp only[hnp,bM];rw[Nat.add_zero] at h;rw[h];cases q<;>rfl
 have hsetL:∀L j o,bi ⟨L,H⟩ j o=⟨cF L j o,H⟩:=λ_ _ _=>rfl;have hid:id.toNat<l.length:=by omega
 cases q with
 |some x=>
  have hm:mk1 l id (p,at_)=none:=by unfold mk1;rw[if_neg];intro h;rw[hq] at h;cases h.2
  have hx:=hpos _ _ hq;rw[hm];refine aL rfl Try.func89 s89 (Nat.le_of_ble_eq_true rfl) (λQ hqr hqn=>?_);rw[show ∀a,cin (An.pure 89) a=a from λ_=>rfl];simp only[aO,Nat.reduceAdd,c89]
  repeat' (first
  |with_reducible (first|refine ai ?_|refine au rfl ?_|refine b6 ?_)
  |(with_reducible (first|(refine ah (λK hK=>?_);(first|refine wG ?_|refine wH ?_|refine FG ?_))|refine hqr _ ?_);(try simp only[SS,Nat.reduceEqDiff,ap,lenS,r89,aQ,ak,aD,am,Nat.add_zero,h0,b7,hsetL,hfl,h1,i1,i3,hx]))
  |(with_reducible refine hK _ ?_;clear hK K))
  all_goals first|rfl|trivial
 |none=>
  have hm:mk1 l id (p,at_)=some (l.set id.toNat (some (p,at_))):=by unfold mk1;rw[if_pos ⟨by omega,hq⟩]
  rw[hm];have hn:¬(0:Int) ≤ -1:=by omega
  have hst:=λL=>stX_two (L:=L) (p:=some (p,at_)) hnp hid;simp only[plC] at hst;refine aL rfl Try.func89 s89 (Nat.le_of_ble_eq_true rfl) (λQ hqr hqn=>?_);rw[show ∀a,cin (An.pure 89) a=a from λ_=>rfl];simp only[aO,Nat.reduceAdd,c89]
  repeat' (first
  |with_reducible (first|refine ai ?_|refine ar ?_|refine ax rfl ?_|refine aF ?_)
  |(with_reducible (first|(refine ah (λK hK=>?_);(first|refine wG ?_|refine wH ?_|refine t89r3 ?_|refine t89r4 ?_))|refine hqr _ ?_);(try simp only[true_implies,false_implies,not_false_eq_true,b9,if_true,if_false,Nat.reduceEqDiff,ap,aJ,dg,qO,qP,aq,Nat.reduceAdd,Nat.zero_add,ez,List.drop_zero,kM,eN,gU,qz,qy,Option.map_some,ic,gf,lenS,dU,fq,List.take_zero,List.take_succ_cons,List.length_cons,List.length_nil,true_and,Nat.le_refl,gi,if_false,if_true,tk_n,tk_c,gV_e,gW_e,r89,aQ,ak,aD,Option.bind_some,am,jx,gx,Nat.add_zero,h0,b7,hsetL,hfl,fq,h1,i1,i3,hn,hst]))
  |(with_reducible refine hK _ ?_;clear hK K))
structure CEnv (f:Cd) (l:List (Option (Int×Int))) (up:List Int) (nc np nu:Nat) (H:List HO):Prop where
 ctx:H[nc]?=some (.var 1 [sl ptC f.parts,.int .i64 f.values,.ref (.g np) 1 0 l.length,.ref (.g nu) 1 0 up.length] 0)
 pls:H[np]?=some (.arr 1 2 (l.flatMap plC) 0)
 ups:H[nu]?=some (.arr 1 1 (up.flatMap aX) 0)
 pos:∀(i:Nat) (x:Int×Int),l[i]?=some (some x)→0≤x.1
 small:l.length≤1048576
theorem x92 (f:Cd) (g:List (List Int)) (l:List (Option (Int×Int))) (up:List Int) (nc np nu:Nat) (H:List HO) (hE:CEnv f l up nc np nu H) (hok:IdomOK g up) (hul:up.length=g.length) (hgl:g.length≤1048576)
  (part at_:Int) (hpart:part∈ord g) (va:CV) (ids:List Int) (hva:RdI H va ids) (hil:ids.length≤17592186044416) :
  FF 92 [.ptr (.g nc) 1 0,.agg [.int .i64 part,.int .i64 at_],va] H=some (.bool (ids.all (bu g l part at_)),H):=by
 obtain⟨hI,hF⟩:=hok;have hV:=hI.toVal;have hch:∀x∈ord g,∀c,Ch (uf up) x c↔Dom g c x:=λx hx c=>hI.final hF hx;have hord:∀x∈ord g,0≤x∧x<g.length:=λx hx=>((cu g x).1 hx).range;have hfl:∀L,ld1 ⟨L,H⟩ (.ptr (.g nc) 1 2)=some (.ref (.g np) 1 0 l.length):=λL=>by rw[ce];simp only[hE.ctx,cw];rfl
 have hfu:∀L,ld1 ⟨L,H⟩ (.ptr (.g nc) 1 3)=some (.ref (.g nu) 1 0 up.length):=λL=>by rw[ce];simp only[hE.ctx,cw];rfl
 have hsetL:∀L j o,bi ⟨L,H⟩ j o=⟨cF L j o,H⟩:=λ_ _ _=>rfl;have hlsm:=hE.small;refine aL rfl Try.func92 s92 (Nat.le_of_ble_eq_true rfl) (λQ hqr hqn=>?_);rw[show ∀a,cin (An.pure 92) a=a from λ_=>rfl];simp only[aO,Nat.reduceAdd,c92]
 repeat' (first
 |with_reducible (first|refine ai ?_|refine aj (id:=0) (λQ0 hn0 hx0 hr0 ho0=>?_))
 |(with_reducible (refine ah (λK hK=>?_);(first|refine t92r0 ?_|refine t92r1 ?_));(try simp only[SS,Nat.reduceEqDiff,ap,lenS,hva.len]))
 |(with_reducible refine hK _ ?_;clear hK K))
 refine aU (λk s=>∃(d t:List Int) (g4:Nat) (L:List (Nat×HO)),ids=d++t∧k=t.length∧d.all (bu g l part at_)=true∧aK L 64=some (.var g4 [.int .i64 part,.int .i64 at_] 0) ∧
  s=⟨[(0,.ptr (.g nc) 1 0),(4,.ptr (.l 64) g4 0),(11,va),(12,.int .i64 ids.length),(13,.int .i64 d.length)],⟨L,H⟩⟩) _ ⟨[],ids,_,_,rfl,rfl,rfl,by simp[bi,aq],rfl⟩ ?_
 rintro k s ⟨d,t,g4,L,h3,rfl,hd,hL,rfl⟩ QL1 hnL1 hxL1 hrL1;have hlen:=congrArg List.length h3;simp only[List.length_append] at hlen;simp only[c92l1]
 cases t with
 |nil=>
  simp only[List.length_nil] at hlen;rw[List.append_nil] at h3
  repeat' (first
  |with_reducible (first|refine ax rfl ?_|refine aN ?_|refine aF ?_|refine hx0 _ ?_|refine hxL1 _ _ ?_)
  |(with_reducible (first|(refine ah (λK hK=>?_);(first|refine oO ?_|refine t92r16 ?_))|refine hqr _ ?_);(try simp only[SS,Nat.reduceEqDiff,r92,aQ,ak,aD,am]))
  |(revert hK;intro hK;(first|refine And.intro ?_ ?_|intro _|omega|(with_reducible refine hK _ ?_;clear hK K))))
  rw[h3,hd]
 |cons id t=>
  simp only[List.length_cons] at hlen;have hidl:ids[d.length]?=some id:=by rw[h3];simp
  obtain⟨p,hp1,hp2⟩:=hva.at hidl (k:=.i64);have hw:IntKind.i64.wrap ((d.length:Int)+1)=d.length+1:=wI (by omega) (by omega);have next:bu g l part at_ id=true→∀L',aK L' 64=some (.var g4 [.int .i64 part,.int .i64 at_] 0)→QL1 .normal ⟨[(0,.ptr (.g nc) 1 0),(4,.ptr (.l 64) g4 0),(11,va),(12,.int .i64 ids.length),(13,.int .i64 (d.length+1))],⟨L',H⟩⟩:=λha L' hL'=>
   hnL1 t.length _ (by simp) ⟨d++[id],t,g4,L',by simp[h3],rfl,by simp[hd,ha],hL',by simp⟩
  have hno:bu g l part at_ id=false→ids.all (bu g l part at_)=false:=λha=>by rw[h3];simp[ha]
  have l64:∀L',aK L' 64=some (.var g4 [.int .i64 part,.int .i64 at_] 0)→ld1 ⟨L',H⟩ (.ptr (.l 64) g4 0)=some (.int .i64 part)∧ld1 ⟨L',H⟩ (.ptr (.l 64) g4 1)=some (.int .i64 at_):=λL' h=>by
   constructor<;>(rw[eX];simp only[h,cw];rfl)
  by_cases h0:id<0
  ·have hb:bu g l part at_ id=false:=by unfold bu;rw[if_neg (by omega)]
   repeat' (first
   |with_reducible (first|refine ai ?_|refine ar ?_|refine au rfl ?_|refine b6 ?_|refine hr0 _ ?_|refine aj (id:=1) (λQ1 hn1 hx1 hr1 ho1=>?_)|refine hr1 _ ?_|refine hrL1 _ ?_)
   |(with_reducible (first|(refine ah (λK hK=>?_);(first|refine oO ?_|refine qf ?_|refine qg ?_|refine FQ ?_))|refine hqr _ ?_);(try simp only[SS,Nat.reduceEqDiff,lenS,r92,aQ,ak,aD,am,hp1,hp2,h0]))
   |(revert hK;intro hK;(first|refine And.intro ?_ ?_|intro _|omega|(with_reducible refine hK _ ?_;clear hK K))))
   rw[hno hb]
  by_cases h1:(l.length:Int)≤id
  ·have hb:bu g l part at_ id=false:=by unfold bu;rw[if_pos (by omega),List.getElem?_eq_none (by omega)]
   repeat' (first
   |with_reducible (first|refine ai ?_|refine ar ?_|refine au rfl ?_|refine b6 ?_|refine hr0 _ ?_|refine aj (id:=1) (λQ1 hn1 hx1 hr1 ho1=>?_)|refine hr1 _ ?_|refine hrL1 _ ?_)
   |(with_reducible (first|(refine ah (λK hK=>?_);(first|refine oO ?_|refine qf ?_|refine qg ?_|refine FQ ?_))|refine hqr _ ?_);(try simp only[SS,Nat.reduceEqDiff,lenS,dy,bD,r92,aQ,ak,aD,am,hp1,hp2,h0,b7,hsetL,hfl,h1]))
   |(revert hK;intro hK;(first|refine And.intro ?_ ?_|intro _|omega|(with_reducible refine hK _ ?_;clear hK K))))
   rw[hno hb]
  obtain⟨q,hq⟩:∃q,l[id.toNat]?=some q:=⟨_,List.getElem?_eq_getElem (by omega)⟩;obtain⟨i1,i2⟩:=pl_at hE.pls (by omega) hq;have i3:∀L,ld1 ⟨L,H⟩ (.ptr (.g np) 1 (id.toNat*2))=some (.int .i64 (match q with|none=>-1|some x=>x.1)):=λL=>by
   have h:=dA (e:=plC) (sz:=2) (off:=0) fg hq (by omega);rw[ce];simp only[hE.pls,bM];rw[Nat.add_zero] at h;rw[h];cases q<;>rfl
  cases q with
  |none=>
   have hb:bu g l part at_ id=false:=by unfold bu;rw[if_pos (by omega),hq]
   have hn:(-1:Int)<0:=by omega
   repeat' (first
   |with_reducible (first|refine ai ?_|refine ar ?_|refine au rfl ?_|refine b6 ?_|refine hr0 _ ?_|refine aj (id:=1) (λQ1 hn1 hx1 hr1 ho1=>?_)|refine hr1 _ ?_|refine hrL1 _ ?_)
   |(with_reducible (first|(refine ah (λK hK=>?_);(first|refine oO ?_|refine qf ?_|refine qg ?_|refine FQ ?_))|refine hqr _ ?_);(try simp only[SS,Nat.reduceEqDiff,lenS,r92,aQ,ak,aD,am,Nat.add_zero,hp1,hp2,h0,b7,hsetL,hfl,h1,i1,i3,hn]))
   |(revert hK;intro hK;(first|refine And.intro ?_ ?_|intro _|omega|(with_reducible refine hK _ ?_;clear hK K))))
   rw[hno hb]
  |some x=>
   have hx:=hE.pos _ _ hq;have hx':¬x.1<0:=by omega
   simp only[plC] at i2;have hab:bu g l part at_ id=if x.1=part then decide (x.2<at_) else mz g x.1 part:=by unfold bu;rw[if_pos (by omega),hq];rfl
   by_cases hxp:x.1=part
   ·rw[if_pos hxp] at hab
    by_cases hxa:at_≤x.2
    ·have hb:bu g l part at_ id=false:=by rw[hab];simp;omega
     repeat' (first
     |with_reducible (first|refine ai ?_|refine ar ?_|refine au rfl ?_|refine ax rfl ?_|refine b6 ?_|refine hr0 _ ?_|refine aj (id:=1) (λQ1 hn1 hx1 hr1 ho1=>?_)|refine hr1 _ ?_|refine hrL1 _ ?_)
     |(with_reducible (first|(refine ah (λK hK=>?_);(first|refine oO ?_|refine qf ?_|refine qg ?_|refine FR ?_|refine FS ?_|refine FT ?_|refine t92r9 ?_|refine t92r10 ?_))|refine hqr _ ?_);(try simp only[SS,Nat.reduceEqDiff,ap,Nat.reduceAdd,lenS,ay,r92,aQ,ak,aD,am,Nat.add_zero,hp1,hp2,h0,b7,hsetL,hfl,h1,i1,i2,i3,hx',hL,hxp,hxa]))
     |(revert hK;intro hK;(first|refine And.intro ?_ ?_|intro _|omega|(with_reducible refine hK _ ?_;clear hK K))))
     rw[hno hb]
    ·have hb:bu g l part at_ id=true:=by rw[hab];simp;omega
     repeat' (first
     |with_reducible (first|refine ai ?_|refine ar ?_|refine au rfl ?_|refine ax rfl ?_|refine aN ?_|refine aj (id:=1) (λQ1 hn1 hx1 hr1 ho1=>?_)|refine hx1 _ ?_)
     |(with_reducible ((first|refine ah (λK hK=>?_)|refine aI (λK hK=>?_));(first|refine oO ?_|refine qf ?_|refine qg ?_|refine FR ?_|refine FS ?_|refine FT ?_|refine t92r9 ?_|refine FP ?_));(try simp only[SS,Nat.reduceEqDiff,ap,Nat.reduceAdd,lenS,ay,Nat.add_zero,hp1,hp2,h0,b7,hsetL,hfl,h1,i1,i2,i3,hx',hL,hxp,hxa,hw]))
     |(revert hK;intro hK;(first|refine And.intro ?_ ?_|intro _|omega|(with_reducible refine hK _ ?_;clear hK K))))
     exact next hb _ (by simp[aq,hL])
   ·rw[if_neg hxp] at hab
    repeat' (first
    |with_reducible (first|refine ai ?_|refine ar ?_|refine au rfl ?_|refine ax rfl ?_|refine aj (id:=1) (λQ1 hn1 hx1 hr1 ho1=>?_)|refine aj (id:=2) (λQ2 hn2 hx2 hr2 ho2=>?_))
    |(with_reducible (refine ah (λK hK=>?_);(first|refine oO ?_|refine qf ?_|refine qg ?_|refine FR ?_|refine FS ?_|refine FT ?_));(try simp only[SS,Nat.reduceEqDiff,ap,Nat.reduceAdd,lenS,ay,Nat.add_zero,hp1,hp2,h0,b7,hsetL,hfl,h1,i1,i2,i3,hx',hL,hxp]))
    |(revert hK;intro hK;(first|refine And.intro ?_ ?_|intro _|omega|(with_reducible refine hK _ ?_;clear hK K))))
    refine aU (λk s=>∃(c:Int) (g9:Nat) (L:List (Nat×HO)),((c = -1∧¬Dom g x.1 part)∨(c∈ord g∧(Ch (uf up) c x.1↔Dom g x.1 part)))∧k=(if c = -1 then 0 else pl g c+1) ∧
     aK L 64=some (.var g4 [.int .i64 part,.int .i64 at_] 0)∧aK L 144=some (.var g9 [.int .i64 x.1,.int .i64 x.2] 0) ∧
     ∃sl,s=⟨sl,⟨L,H⟩⟩∧ac sl 0=.ptr (.g nc) 1 0∧ac sl 4=.ptr (.l 64) g4 0∧ac sl 9=.ptr (.l 144) g9 0∧ac sl 10=.int .i64 c∧ac sl 11=va∧ac sl 12=.int .i64 ids.length∧ac sl 13=.int .i64 d.length) _ ⟨part,_,_,.inr ⟨hpart,hch part hpart _⟩,rfl,by simp[aq,hL],by simp[aq],_,rfl,rfl,rfl,rfl,rfl,rfl,rfl,rfl⟩ ?_
    rintro k s ⟨c,g9,L2,hc,rfl,hL2,hL3,sl,rfl,t0,t4,t9,t10,t11,t12,t13⟩ QL0 hnL0 hxL0 hrL0;simp only[c92l0];rcases hc with⟨rfl,hnd⟩|⟨hco,hcd⟩
    ·have hn1:¬(0:Int) ≤ -1:=by omega
     have hn2:(-1:Int)<0:=by omega
     have hb:bu g l part at_ id=false:=by rw[hab,tO hnd]
     repeat' (first
     |with_reducible (first|refine ai ?_|refine ax rfl ?_|refine bc rfl ?_|refine aN ?_|refine aF ?_|refine hr0 _ ?_|refine hr1 _ ?_|refine hx2 _ ?_|refine hxL0 _ _ ?_|refine hrL1 _ ?_)
     |(with_reducible (first|(refine ah (λK hK=>?_);(first|refine uL ?_|refine FO ?_|refine t92r14 ?_))|refine hqr _ ?_);(try simp only[SS,Nat.reduceEqDiff,r92,aQ,ak,aD,am,t0,t4,t9,t10,t11,t12,t13,hn1,hn2]))
     |(with_reducible refine hK _ ?_;clear hK K))
     rw[hno hb]
    ·have hcr:=hord c hco
     have hc0:(0:Int)≤c:=by omega
     have hc1:¬c<0:=by omega
     by_cases hcx:c=x.1
     ·have hb:bu g l part at_ id=true:=by rw[hab];exact DT.2 (hcd.1 (by rw[hcx];exact .self _))
      repeat' (first
      |with_reducible (first|refine ai ?_|refine ax rfl ?_|refine bn rfl ?_|refine aN ?_|refine bx ?_|refine hn1 _ ?_|refine hx2 _ ?_|refine hxL0 _ _ ?_)
      |(with_reducible ((first|refine ah (λK hK=>?_)|refine aI (λK hK=>?_));(first|refine uL ?_|refine FO ?_|refine FP ?_));(try simp only[SS,Nat.reduceEqDiff,br,t0,t4,t9,t10,t11,t12,t13,hc0,hc1,hL3,hcx,hw]))
      |(revert hK;intro hK;(first|refine And.intro ?_ ?_|intro _|omega|(with_reducible refine hK _ ?_;clear hK K))))
      all_goals exact next hb _ hL2
     ·have hiu:bd 1 (.ref (.g nu) 1 0 up.length) (.int .i64 c)=some (.ptr (.g nu) 1 c.toNat):=by rw[bD,if_pos ⟨by omega,by omega⟩];simp
      have hlu:∀L,ld1 ⟨L,H⟩ (.ptr (.g nu) 1 c.toNat)=some (.int .i64 (uf up c)):=λL=>by
       rw[ce];simp only[hE.ups,bM,fX,uP hc0 (by omega:c<up.length),Option.map_some]
      repeat' (first
      |with_reducible (first|refine ai ?_|refine ar ?_|refine au rfl ?_|refine bl (id:=3) (λQ3 hn3 hx3 hr3 ho3=>?_)|refine hn3 _ ?_)
      |(with_reducible ((first|refine ah (λK hK=>?_)|refine aI (λK hK=>?_));(first|refine uL ?_|refine t92r12 ?_));(try simp only[SS,Nat.reduceEqDiff,br,t0,t4,t9,t10,t11,t12,t13,hc0,hL3,hcx,b7,hfu,hiu,hlu]))
      |(with_reducible refine hK _ ?_;clear hK K))
      refine hnL0 (if uf up c = -1 then 0 else pl g (uf up c)+1) _ ?_ ⟨uf up c,g9,L2,?_,rfl,hL2,hL3,_,rfl,rfl,rfl,rfl,rfl,rfl,rfl,rfl⟩
      ·have:¬c = -1:=by omega
       rw[if_neg this];split
       ·omega
       ·rename_i h;have:=(hV.up c h).2.2;omega
      ·by_cases h:uf up c = -1
       ·refine .inl ⟨h,λhdm=>?_⟩
        have:=hcd.2 hdm
        cases this with
        |self=>exact hcx rfl
        |step h1 _=>exact h1 h
       ·refine .inr ⟨(hV.up c h).2.1,⟨λh2=>hcd.1 (.step h h2),λhdm=>?_⟩⟩
        have:=hcd.2 hdm
        cases this with
        |self=>exact absurd rfl hcx
        |step _ h2=>exact h2
end Go.Cm
namespace Go.Cm
open Go.Proofs Go.Ir Go.Gr
theorem mM {l l':List (Option (Int×Int))}{id:Int}{p:Int×Int}(h:mk1 l id p=some l'):l'.length=l.length:=by
 unfold mk1 at h;split at h
 ·simp only[Option.some.injEq] at h;rw[←h,List.length_set]
 ·cases h
theorem wc {l l':List (Option (Int×Int))}{id:Int}{p:Int×Int}(h:mk1 l id p=some l') (hp:0≤p.1) (hl:∀(i:Nat) (x:Int×Int),l[i]?=some (some x)→0≤x.1):∀(i:Nat) (x:Int×Int),l'[i]?=some (some x)→0≤x.1:=by
 unfold mk1 at h;split at h
 ·simp only[Option.some.injEq] at h
  intro i x hx;rw[←h,List.getElem?_set] at hx
  split at hx
  ·split at hx
   ·simp only[Option.some.injEq] at hx;rw[←hx];exact hp
   ·cases hx
  ·exact hl i x hx
 ·cases h
structure Sized (f:Cd):Prop where
 parts:f.parts.length≤1048576
 pred:∀p∈f.parts,p.pred.length≤17592186044416
 phis:∀p∈f.parts,p.phis.length≤17592186044416∧∀x∈p.phis,x.src.length≤17592186044416
 nodes:∀p∈f.parts,p.nodes.length≤17592186044416∧∀n∈p.nodes,n.args.length≤17592186044416∧0≤n.imm
def lV (H:List HO) (v:CV) (why:Int):Prop:=∃(n:Nat) (i:Int),v=.iface 152 (.ptr (.g n) 1 0)∧H[n]?=some (.var 1 [.int .i64 i,.int .i64 why] 0)
theorem e7 {L:List (Nat×HO)}{H:List HO}{i w:Int}:iB (.agg [.int .i64 i,.int .i64 w]) ⟨L,H⟩=some (.ptr (.g H.length) 1 0,⟨L,H++[.var 1 [.int .i64 i,.int .i64 w] 0]⟩):=rfl
theorem er {z z':CV}{i w:Int}:(bg [z,z'] [(0,1,.int .i64 i),(1,1,.int .i64 w)]).map CV.agg=some (.agg [.int .i64 i,.int .i64 w]):=rfl
theorem stX_1g {m:Mem}{a g sz i:Nat}{v:CV}{cells:List CV}(hn:m.H[a]?=some (.arr g sz cells 0)) (h:i<cells.length) (hp:cz v=true) (hc:ap v=some [v]):stX 1 m (.ptr (.g a) g i) v=some ⟨m.L,m.H.set a (.arr g sz (cells.set i v) 0)⟩:=by
 rw[gQ,hn,hc,mO (by simp only[List.all_cons,List.all_nil,hp,Bool.and_self]) hn,if_pos ⟨rfl,by omega,by omega⟩,kg h];rfl
set_option maxHeartbeats 2000000 in
theorem x61 (H:List HO) (f:Cd) (nc:Nat) (hf:Sized f) (hv0:0≤f.values) (hv1:f.values≤65536) (hnc:H[nc]?=some (.var 1 [sl ptC f.parts,.int .i64 f.values,.nil,.nil] 0)) :
  ∃r,(∃v H',r=(v,H')∧(∀i,i<H.length→i≠nc→H'[i]?=H[i]?) ∧
   (match cq f with
    |some l=>v=.inil∧l.length=f.values.toNat∧H'[nc]?=some (.var 1 [sl ptC f.parts,.int .i64 f.values,.ref (.g H.length) 1 0 l.length,.nil] 0)∧H'[H.length]?=some (.arr 1 2 (l.flatMap plC) 0)∧(∀(i:Nat) (x:Int×Int),l[i]?=some (some x)→0≤x.1)
    |none=>lV H' v 2))∧FF 61 [.ptr (.g nc) 1 0] H=some r:=by
 obtain⟨n,hn⟩:∃n,n=f.values.toNat:=⟨_,rfl⟩;have hnv:f.values=(n:Int):=by omega
 rw[hnv] at hnc ⊢;have hncl:=(List.getElem?_eq_some_iff.1 hnc).1;have hmk:=λm=>wd (j:=256) (sz:=2) (b:=16) (z:=[.int .i64 0,.int .i64 0]) (k:=.i64) (n:=n) (m:=m) rfl (by omega) (by omega);have hfv:∀L,ld1 ⟨L,H⟩ (.ptr (.g nc) 1 1)=some (.int .i64 n):=λL=>by rw[ce];simp only[hnc,cw];rfl
 obtain⟨Hc,hHc⟩:∃Hc:List CV→List HO,Hc=λcs=>(H.set nc (.var 1 [sl ptC f.parts,.int .i64 n,.ref (.g H.length) 1 0 n,.nil] 0))++[.arr 1 2 cs 0]:=⟨_,rfl⟩;have hc1:∀cs,(Hc cs)[nc]?=some (.var 1 [sl ptC f.parts,.int .i64 n,.ref (.g H.length) 1 0 n,.nil] 0):=λcs=>by rw[hHc];simp only;rw[List.getElem?_append_left (by simpa using hncl),List.getElem?_set_self hncl]
 have hc2:∀cs,(Hc cs)[H.length]?=some (.arr 1 2 cs 0):=λcs=>by rw[hHc];simp
 have hc3:∀cs cs',(Hc cs).set H.length (.arr 1 2 cs' 0)=Hc cs':=λcs cs'=>by rw[hHc];simp only;rw[List.set_append_right _ _ (by simp)];simp
 have hc4:∀cs i,i<H.length→i≠nc→(Hc cs)[i]?=H[i]?:=λcs i hi hn=>by rw[hHc];simp only;rw[List.getElem?_append_left (by simpa using hi),List.getElem?_set_ne (Ne.symm hn)]
 have hcl:∀cs,(Hc cs).length=H.length+1:=λcs=>by rw[hHc];simp
 have hst:∀L,stX 1 ⟨L,H++[HO.arr 1 2 (dM n [.int .i64 0,.int .i64 0]) 0]⟩ (.ptr (.g nc) 1 2) (.ref (.g H.length) 1 0 n)=some ⟨L,Hc (dM n [.int .i64 0,.int .i64 0])⟩:=λL=>by
  have h1:(H++[HO.arr 1 2 (dM n [.int .i64 0,.int .i64 0]) 0])[nc]?=some (.var 1 [sl ptC f.parts,.int .i64 n,.nil,.nil] 0):=by rw[List.getElem?_append_left hncl,hnc]
  rw[gQ,h1,show ap (.ref (.g H.length) 1 0 n)=some [.ref (.g H.length) 1 0 n] from rfl,fD,if_pos ⟨rfl,by simp,Nat.zero_le _⟩,bF rfl];simp only[Option.map_some,jE,hHc];rw[List.set_append_left _ _ hncl];rfl
 have hfl:∀cs L,ld1 ⟨L,Hc cs⟩ (.ptr (.g nc) 1 2)=some (.ref (.g H.length) 1 0 n):=λcs L=>by rw[ce];simp only[hc1,cw];rfl
 have hfp:∀cs L,ld1 ⟨L,Hc cs⟩ (.ptr (.g nc) 1 0)=some (sl ptC f.parts):=λcs L=>by rw[ce];simp only[hc1,cw];rfl
 refine bA rfl Try.func61 s61 (Nat.le_of_ble_eq_true rfl) (λQ hqr hqn=>?_);rw[show ∀a,cin (An.pure 61) a=a from λ_=>rfl];simp only[aO,Nat.reduceAdd,c61]
 repeat' (first
 |with_reducible (first|refine ai ?_|refine aj (id:=0) (λQ0 hn0 hx0 hr0 ho0=>?_))
 |(with_reducible (refine ah (λK hK=>?_);(first|refine t61r0 ?_|refine t61r1 ?_|refine t61r2 ?_));(try simp only[SS,lenS,b7,hfv,hmk,hst,hfl]))
 |(with_reducible refine hK _ ?_;clear hK K))
 have hreps:∀m j:Nat,j<m→(dM m [CV.int .i64 0,.int .i64 0])[2*j]?=some (.int .i64 0)∧(dM m [CV.int .i64 0,.int .i64 0])[2*j+1]?=some (.int .i64 0):=by
  intro m
  induction m with
  |zero=>intro j hj;omega
  |succ m ih=>
   intro j hj
   cases j with
   |zero=>exact⟨rfl,rfl⟩
   |succ j=>
    have:=ih j (by omega);have e1:2*(j+1)=2*j+1+1:=by omega
    rw[e1];exact this
 have hrl:∀m:Nat,(dM m [CV.int .i64 0,.int .i64 0]).length=2*m:=by
  intro m
  induction m with
  |zero=>rfl
  |succ m ih=>simp only[dM,List.length_append,List.length_cons,List.length_nil,ih];omega
 refine aU (λk s=>∃(i:Nat) (c:List CV) (L:List (Nat×HO)),i≤n∧k=n - i∧c.length=2*n∧(∀j,j<n→c[2*j]?=some (.int .i64 (if j<i then -1 else 0))∧c[2*j+1]?=some (.int .i64 0)) ∧
  s=⟨[(0,.ptr (.g nc) 1 0),(23,.int .i64 n),(24,.int .i64 i)],⟨L,Hc c⟩⟩) _ ⟨0,_,_,Nat.zero_le _,rfl,hrl n,λj hj=>by simpa using hreps n j hj,rfl⟩ ?_
 rintro k s ⟨i,c,L,hi,rfl,hcl2,hcc,rfl⟩ QL0 hnL0 hxL0 hrL0;simp only[c61l0]
 by_cases hin:i=n
 ·subst hin
  have hcr:c=(List.replicate i none).flatMap plC:=by
   refine List.ext_getElem? λj=>?_
   by_cases hj:j<2*i
   ·obtain⟨q,hq⟩:∃q,j=2*q∨j=2*q+1:=⟨j / 2,by omega⟩
    have hqi:q<i:=by omega
    have hrep:(List.replicate i (none:Option (Int×Int)))[q]?=some none:=by rw[List.getElem?_replicate,if_pos hqi]
    rcases hq with rfl|rfl
    ·rw[(hcc q hqi).1,if_pos hqi]
     have:=dA (e:=plC) (sz:=2) (off:=0) fg hrep (by omega);rw[show 2*q=q*2+0 by omega,this];rfl
    ·rw[(hcc q hqi).2]
     have:=dA (e:=plC) (sz:=2) (off:=1) fg hrep (by omega);rw[show 2*q+1=q*2+1 by omega,this];rfl
   ·rw[List.getElem?_eq_none (by omega),List.getElem?_eq_none (by rw[n9,List.length_replicate];omega)]
  subst hcr;clear hcc hcl2 hnL0 hrL0
  repeat' (first
  |with_reducible (first|refine ai ?_|refine ax rfl ?_|refine aN ?_|refine hx0 _ ?_|refine aj (id:=2) (λQ2 hn2 hx2 hr2 ho2=>?_)|refine hxL0 _ _ ?_)
  |(with_reducible (refine ah (λK hK=>?_);(first|refine t61r3 ?_|refine t61r7 ?_));(try simp only[SS,Nat.reduceEqDiff,lenS,b7,hfp,aP]))
  |(revert hK;intro hK;(first|refine And.intro ?_ ?_|intro _|omega|(with_reducible refine hK _ ?_;clear hK K))))
  have hmake:∀(d:Tmp) (L:List (Nat×HO)) (l:List (Option (Int×Int))) (id p a:Int),l.length=i→(∀(i:Nat) (x:Int×Int),l[i]?=some (some x)→0≤x.1)→aB An FF 61 (some d) 89 [.ptr (.g nc) 1 0,.int .i64 id,.agg [.int .i64 p,.int .i64 a]] ⟨L,Hc (l.flatMap plC)⟩ =
    some (match mk1 l id (p,a) with|none=>(.bool false,⟨L,Hc (l.flatMap plC)⟩)|some l'=>(.bool true,⟨L,Hc (l'.flatMap plC)⟩)):=λd L l id p a hl hpos=>by
   have h1:=hc1 (l.flatMap plC);rw[←hl] at h1;have h:=x89 (Hc (l.flatMap plC)) nc H.length (sl ptC f.parts) (.int .i64 l.length) .nil l id p a h1 (hc2 _) hpos (by omega)
   cases hm:mk1 l id (p,a) with
   |none=>rw[hm] at h;rw[cf rfl rfl h];rfl
   |some l'=>rw[hm] at h;simp only[hc3] at h;rw[cf rfl rfl h];rfl
  have hsetL:∀(L:List (Nat×HO)) (H:List HO) j o,bi ⟨L,H⟩ j o=⟨cF L j o,H⟩:=λ_ _ _ _=>rfl;have hplaces:cq f=cJ 0 f.parts (List.replicate i none):=by rw[cq,←hn]
  refine aU (λk s=>∃(d t:List Pt) (l:List (Option (Int×Int))) (L:List (Nat×HO)),f.parts=d++t∧k=t.length∧cq f=cJ d.length t l∧l.length=i∧(∀(i:Nat) (x:Int×Int),l[i]?=some (some x)→0≤x.1) ∧
   s=⟨[(0,.ptr (.g nc) 1 0),(39,sl ptC f.parts),(40,.int .i64 f.parts.length),(41,.int .i64 d.length)],⟨L,Hc (l.flatMap plC)⟩⟩) _ ⟨[],f.parts,_,_,rfl,rfl,hplaces,by simp,λj x h=>by simp[List.getElem?_replicate] at h,rfl⟩ ?_
  rintro k s ⟨d,t,l,L2,h3,rfl,hpl,hll,hpos,rfl⟩ QL3 hnL3 hxL3 hrL3;have hlen:=congrArg List.length h3;simp only[List.length_append] at hlen;simp only[c61l3]
  cases t with
  |nil=>
   simp only[List.length_nil] at hlen
   repeat' (first
   |with_reducible (first|refine ax rfl ?_|refine aN ?_|refine aF ?_|refine hx2 _ ?_|refine hxL3 _ _ ?_)
   |(with_reducible (first|(refine ah (λK hK=>?_);(first|refine t61r8 ?_|refine t61r23 ?_))|refine hqr _ ?_);(try simp only[SS,Nat.reduceEqDiff,r61,aQ,ak,aD,am,lI]))
   |(revert hK;intro hK;(first|refine And.intro ?_ ?_|intro _|omega|(with_reducible refine hK _ ?_;clear hK K))))
   refine⟨_,_,⟨rfl,rfl⟩,λj h1 h2=>hc4 _ j h1 h2,?_⟩
   rw[hpl,cJ]
   exact⟨rfl,hll,by rw[hll];exact hc1 _,hc2 _,hpos⟩
  |cons p t=>
   simp only[List.length_cons] at hlen;have hpm:p∈f.parts:=by rw[h3];simp
   have hphl:=(hf.phis p hpm).1;have hndl:=(hf.nodes p hpm).1;have hfp:=hf.parts;have hw:IntKind.i64.wrap ((d.length:Int)+1)=d.length+1:=wI (by omega) (by omega)
   repeat' (first
   |with_reducible (first|refine ai ?_|refine ar ?_|refine au rfl ?_|refine aj (id:=3) (λQ3 hn3 hx3 hr3 ho3=>?_)|refine aj (id:=4) (λQ4 hn4 hx4 hr4 ho4=>?_))
   |(with_reducible (refine ah (λK hK=>?_);(first|refine t61r8 ?_|refine t61r9 ?_|refine t61r10 ?_));(try simp only[SS,Nat.reduceEqDiff,ap,aS,Nat.reduceAdd,lenS,ay,aM ptE.len (by omega) h3,ct,ptC,aP]))
   |(revert hK;intro hK;(first|refine And.intro ?_ ?_|intro _|omega|(with_reducible refine hK _ ?_;clear hK K))))
   refine aU (λk s=>∃(d1 t1:List Ph) (l:List (Option (Int×Int))) (g5:Nat) (L:List (Nat×HO)),p.phis=d1++t1∧k=t1.length∧cq f=((fZ d.length t1 l).bind (ck d.length 0 p.nodes)).bind (cJ (d.length+1) t)∧l.length=i∧(∀(i:Nat) (x:Int×Int),l[i]?=some (some x)→0≤x.1) ∧
    aK L 80=some (.var g5 (ptC p) 0)∧s=⟨[(0,.ptr (.g nc) 1 0),(4,.int .i64 d.length),(5,.ptr (.l 80) g5 0),(39,sl ptC f.parts),(40,.int .i64 f.parts.length),(41,.int .i64 d.length),(47,sl phC p.phis),(48,.int .i64 p.phis.length),(49,.int .i64 d1.length)],⟨L,Hc (l.flatMap plC)⟩⟩) _
    ⟨[],p.phis,l,_,_,rfl,rfl,hpl,hll,hpos,by simp[bi,aq,ptC],rfl⟩ ?_
   rintro k s ⟨d1,t1,l1,g5,L3,h4,rfl,hpl1,hll1,hpos1,hL3,rfl⟩ QL1 hnL1 hxL1 hrL1;have hlen1:=congrArg List.length h4;simp only[List.length_append] at hlen1;simp only[c61l1]
   cases t1 with
   |nil=>
    simp only[List.length_nil] at hlen1;rw[fZ,Option.bind_some] at hpl1
    repeat' (first
    |with_reducible (first|refine ax rfl ?_|refine aN ?_|refine hx4 _ ?_|refine bl (id:=6) (λQ6 hn6 hx6 hr6 ho6=>?_)|refine hxL1 _ _ ?_)
    |(with_reducible (refine ah (λK hK=>?_);(first|refine uA ?_|refine t61r16 ?_));(try simp only[SS,Nat.reduceEqDiff,lenS,hL3,ptC,aP]))
    |(revert hK;intro hK;(first|refine And.intro ?_ ?_|intro _|omega|(with_reducible refine hK _ ?_;clear hK K))))
    refine aU (λk s=>∃(d2 t2:List Nd) (l:List (Option (Int×Int))) (L:List (Nat×HO)),p.nodes=d2++t2∧k=t2.length∧cq f=(ck d.length d2.length t2 l).bind (cJ (d.length+1) t)∧l.length=i∧(∀(i:Nat) (x:Int×Int),l[i]?=some (some x)→0≤x.1) ∧
     s=⟨[(0,.ptr (.g nc) 1 0),(4,.int .i64 d.length),(39,sl ptC f.parts),(40,.int .i64 f.parts.length),(41,.int .i64 d.length),(66,sl ndC p.nodes),(67,.int .i64 p.nodes.length),(68,.int .i64 d2.length)],⟨L,Hc (l.flatMap plC)⟩⟩) _
     ⟨[],p.nodes,l1,_,rfl,rfl,hpl1,hll1,hpos1,rfl⟩ ?_
    rintro k s ⟨d2,t2,l2,L4,h5,rfl,hpl2,hll2,hpos2,rfl⟩ QL2 hnL2 hxL2 hrL2;have hlen2:=congrArg List.length h5;simp only[List.length_append] at hlen2;simp only[c61l2]
    cases t2 with
    |nil=>
     simp only[List.length_nil] at hlen2;rw[ck,Option.bind_some] at hpl2
     repeat' (first
     |with_reducible (first|refine ax rfl ?_|refine aN ?_|refine hn3 _ ?_|refine hx6 _ ?_|refine hxL2 _ _ ?_)
     |(with_reducible ((first|refine ah (λK hK=>?_)|refine aI (λK hK=>?_));(first|refine oM ?_|refine t61r22 ?_));(try simp only[SS,Nat.reduceEqDiff,hw]))
     |(revert hK;intro hK;(first|refine And.intro ?_ ?_|intro _|omega|(with_reducible refine hK _ ?_;clear hK K))))
     exact hnL3 t.length _ (by simp) ⟨d++[p],t,l2,L4,by simp[h3],rfl,by simpa using hpl2,hll2,hpos2,by simp⟩
    |cons x t2=>
     simp only[List.length_cons] at hlen2;have hxm:x∈p.nodes:=by rw[h5];simp
     obtain⟨hxa,hxi⟩:=(hf.nodes p hpm).2 x hxm;have hw2:IntKind.i64.wrap ((d2.length:Int)+1)=((d2.length+1:Nat):Int):=by rw[wI (by omega) (by omega)];rfl
     have hr:∀m,aB An FF 61 (some 74) 90 [.agg (ndC x)] m=some (.bool (bX x),m):=λm=>
      cr (x90 x hxi hxa) (λ_ _ _=>rfl) rfl (by simp only[cans,aC,ndE.can]) rfl (by simp only[noGs,noG,ndE.noG,Bool.and_self]) rfl
     simp only[ndC] at hr;rw[ck] at hpl2
     cases hok:bX x with
     |false=>
      rw[hok,if_neg (by decide)] at hpl2;rw[hok] at hr;have hnone:cq f=none:=hpl2
      repeat' (first
      |with_reducible (first|refine ar ?_|refine au rfl ?_|refine bc rfl ?_|refine aF ?_|refine hr2 _ ?_|refine hr3 _ ?_|refine hr6 _ ?_|refine aj (id:=7) (λQ7 hn7 hx7 hr7 ho7=>?_)|refine hr7 _ ?_|refine hrL2 _ ?_|refine hrL3 _ ?_)
      |(with_reducible (first|(refine ah (λK hK=>?_);(first|refine oM ?_|refine rh ?_|refine ri ?_|refine Fm ?_))|refine hqr _ ?_);(try simp only[SS,Nat.reduceEqDiff,ap,Nat.reduceAdd,bI,Bool.not_false,bg,ay,Nat.reduceLeDiff,r61,aQ,ak,aD,am,aM ndE.len (by omega) h5,eR,ndC,hsetL,hr,er,e7,cP]))
      |(revert hK;intro hK;(first|refine And.intro ?_ ?_|intro _|omega|(with_reducible refine hK _ ?_;clear hK K))))
      refine⟨_,_,⟨rfl,rfl⟩,λj h1 h2=>by rw[List.getElem?_append_left (by rw[hcl];omega)];exact hc4 _ j h1 h2,?_⟩
      rw[hnone]
      exact⟨_,d.length,rfl,by simp⟩
     |true=>
      rw[hok,if_pos rfl] at hpl2;rw[hok] at hr
      by_cases h6:x.op=6
      ·rw[if_pos h6] at hpl2
       rw[h6] at hr
       repeat' (first
       |with_reducible (first|refine ar ?_|refine au rfl ?_|refine bn rfl ?_|refine bx ?_|refine aj (id:=7) (λQ7 hn7 hx7 hr7 ho7=>?_)|refine hn7 _ ?_)
       |(with_reducible ((first|refine ah (λK hK=>?_)|refine aI (λK hK=>?_));(first|refine oM ?_|refine rh ?_|refine ri ?_|refine Fo ?_));(try simp only[SS,Nat.reduceEqDiff,ap,Nat.reduceAdd,br,Bool.not_true,bg,ay,Nat.reduceLeDiff,aM ndE.len (by omega) h5,eR,ndC,hsetL,hr,h6,hw2]))
       |(revert hK;intro hK;(first|refine And.intro ?_ ?_|intro _|omega|(with_reducible refine hK _ ?_;clear hK K))))
       rw[show((d2.length+1:Nat):Int)=((d2++[x]).length:Int) by simp];exact hnL2 t2.length _ (by simp) ⟨d2++[x],t2,l2,_,by simp[h5],rfl,by simpa using hpl2,hll2,hpos2,rfl⟩
      ·rw[if_neg h6] at hpl2
       have hm:=λL=>hmake 88 L l2 x.id d.length ((d2.length+1:Nat):Int) hll2 hpos2
       cases hmk2:mk1 l2 x.id (d.length,((d2.length+1:Nat):Int)) with
       |none=>
        rw[hmk2] at hpl2;simp only[hmk2] at hm;have hnone:cq f=none:=hpl2
        repeat' (first
        |with_reducible (first|refine ar ?_|refine au rfl ?_|refine bc rfl ?_|refine aF ?_|refine hr2 _ ?_|refine hr3 _ ?_|refine hr6 _ ?_|refine aj (id:=7) (λQ7 hn7 hx7 hr7 ho7=>?_)|refine hr7 _ ?_|refine hrL2 _ ?_|refine hrL3 _ ?_)
        |(with_reducible (first|(refine ah (λK hK=>?_);(first|refine oM ?_|refine rh ?_|refine ri ?_|refine Fm ?_))|refine hqr _ ?_);(try simp only[SS,Nat.reduceEqDiff,ap,Nat.reduceAdd,br,Bool.not_true,Bool.not_false,bg,ay,Nat.reduceLeDiff,r61,aQ,ak,aD,am,aM ndE.len (by omega) h5,eR,ndC,hsetL,hr,h6,hw2,hm,er,e7,cP]))
        |(revert hK;intro hK;(first|refine And.intro ?_ ?_|intro _|omega|(with_reducible refine hK _ ?_;clear hK K))))
        refine⟨_,_,⟨rfl,rfl⟩,λj h1 h2=>by rw[List.getElem?_append_left (by rw[hcl];omega)];exact hc4 _ j h1 h2,?_⟩
        rw[hnone]
        exact⟨_,d.length,rfl,by simp⟩
       |some l'=>
        rw[hmk2,Option.bind_some] at hpl2;simp only[hmk2] at hm
        repeat' (first
        |with_reducible (first|refine ar ?_|refine au rfl ?_|refine bn rfl ?_|refine bx ?_|refine aj (id:=7) (λQ7 hn7 hx7 hr7 ho7=>?_)|refine hn7 _ ?_)
        |(with_reducible ((first|refine ah (λK hK=>?_)|refine aI (λK hK=>?_));(first|refine oM ?_|refine rh ?_|refine ri ?_|refine Fo ?_));(try simp only[SS,Nat.reduceEqDiff,ap,Nat.reduceAdd,br,Bool.not_true,bg,ay,Nat.reduceLeDiff,aM ndE.len (by omega) h5,eR,ndC,hsetL,hr,h6,hw2,hm]))
        |(revert hK;intro hK;(first|refine And.intro ?_ ?_|intro _|omega|(with_reducible refine hK _ ?_;clear hK K))))
        rw[show((d2.length+1:Nat):Int)=((d2++[x]).length:Int) by simp];exact hnL2 t2.length _ (by simp) ⟨d2++[x],t2,l',_,by simp[h5],rfl,by simpa using hpl2,by rw[mM hmk2,hll2],wc hmk2 (by simp) hpos2,rfl⟩
   |cons x t1=>
    simp only[List.length_cons] at hlen1;have hw1:IntKind.i64.wrap ((d1.length:Int)+1)=d1.length+1:=wI (by omega) (by omega);have hm:=λL=>hmake 58 L l1 x.id d.length 0 hll1 hpos1;rw[fZ] at hpl1
    cases hmk1:mk1 l1 x.id (d.length,0) with
    |none=>
     rw[hmk1] at hpl1;simp only[hmk1] at hm;have hnone:cq f=none:=hpl1
     repeat' (first
     |with_reducible (first|refine ar ?_|refine au rfl ?_|refine bc rfl ?_|refine aF ?_|refine hr2 _ ?_|refine hr3 _ ?_|refine hr4 _ ?_|refine aj (id:=5) (λQ5 hn5 hx5 hr5 ho5=>?_)|refine hr5 _ ?_|refine hrL1 _ ?_|refine hrL3 _ ?_)
     |(with_reducible (first|(refine ah (λK hK=>?_);(first|refine uA ?_|refine Fk ?_|refine Fl ?_|refine t61r14 ?_))|refine hqr _ ?_);(try simp only[SS,Nat.reduceEqDiff,ap,Nat.reduceAdd,Bool.not_false,bg,ay,Nat.reduceLeDiff,r61,aQ,ak,aD,am,aM phE.len (by omega) h4,qG,phC,hsetL,hm,er,e7,cP]))
     |(revert hK;intro hK;(first|refine And.intro ?_ ?_|intro _|omega|(with_reducible refine hK _ ?_;clear hK K))))
     refine⟨_,_,⟨rfl,rfl⟩,λj h1 h2=>by rw[List.getElem?_append_left (by rw[hcl];omega)];exact hc4 _ j h1 h2,?_⟩
     rw[hnone]
     exact⟨_,d.length,rfl,by simp⟩
    |some l'=>
     rw[hmk1,Option.bind_some] at hpl1;simp only[hmk1] at hm
     repeat' (first
     |with_reducible (first|refine ar ?_|refine au rfl ?_|refine bn rfl ?_|refine bx ?_|refine aj (id:=5) (λQ5 hn5 hx5 hr5 ho5=>?_)|refine hn5 _ ?_)
     |(with_reducible ((first|refine ah (λK hK=>?_)|refine aI (λK hK=>?_));(first|refine uA ?_|refine Fk ?_|refine Fl ?_|refine t61r15 ?_));(try simp only[SS,Nat.reduceEqDiff,ap,Nat.reduceAdd,Bool.not_true,bg,ay,Nat.reduceLeDiff,aM phE.len (by omega) h4,qG,phC,hsetL,hm,hw1]))
     |(revert hK;intro hK;(first|refine And.intro ?_ ?_|intro _|omega|(with_reducible refine hK _ ?_;clear hK K))))
     rw[show((d1.length:Int)+1)=((d1++[x]).length:Int) by simp];exact hnL1 t1.length _ (by simp) ⟨d1++[x],t1,l',g5,_,by simp[h4],rfl,hpl1,by rw[mM hmk1,hll1],wc hmk1 (by simp) hpos1,by simp[aq,hL3],rfl⟩
 ·have hilt:(i:Int)<n:=by omega
  have hw:IntKind.i64.wrap ((i:Int)+1)=((i+1:Nat):Int):=by rw[wI (by omega) (by omega)];rfl
  have hix:bd 2 (.ref (.g H.length) 1 0 n) (.int .i64 i)=some (.ptr (.g H.length) 1 (i*2)):=by rw[bD,if_pos ⟨by omega,by omega⟩];simp
  have hs1:∀L,stX 1 ⟨L,Hc c⟩ (.ptr (.g H.length) 1 (i*2)) (.int .i64 (-1))=some ⟨L,Hc (c.set (i*2) (.int .i64 (-1)))⟩:=λL=>by
   rw[stX_1g (m:=⟨L,Hc c⟩) (hc2 c) (by omega) rfl rfl];simp only[hc3]
  repeat' (first
  |with_reducible (first|refine ar ?_|refine au rfl ?_|refine aj (id:=1) (λQ1 hn1 hx1 hr1 ho1=>?_)|refine hn1 _ ?_)
  |(with_reducible ((first|refine ah (λK hK=>?_)|refine aI (λK hK=>?_));(first|refine t61r3 ?_|refine t61r4 ?_|refine t61r5 ?_|refine t61r6 ?_));(try simp only[SS,Nat.reduceEqDiff,Nat.add_zero,hilt,b7,hfl,hix,hs1,hw]))
  |(with_reducible refine hK _ ?_;clear hK K))
  refine hnL0 (n - (i+1)) _ (by omega) ⟨i+1,_,L,by omega,rfl,by rw[List.length_set,hcl2],λj hj=>?_,rfl⟩;obtain⟨q1,q2⟩:=hcc j hj;constructor
  ·by_cases hji:j=i
   ·subst hji
    rw[show 2*j=j*2 by omega,List.getElem?_set_self (by omega),if_pos (by omega)]
   ·rw[List.getElem?_set_ne (by omega),q1]
    congr 2
    by_cases h:j<i
    ·rw[if_pos h,if_pos (by omega)]
    ·rw[if_neg h,if_neg (by omega)]
  ·rw[List.getElem?_set_ne (by omega),q2]
end Go.Cm
