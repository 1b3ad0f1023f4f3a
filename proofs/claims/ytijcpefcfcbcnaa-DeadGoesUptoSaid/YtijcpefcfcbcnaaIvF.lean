import Derived.Test.YtijcpefcfcbcnaaIvB
import Derived.Test.YtijcpefcfcbcnaaIeC
import Derived.Test.YtijcpefcfcbcnaaIrD
import Derived.Test.YtijcpefcfcbcnaaIvC
set_option linter.unusedSimpArgs false
set_option linter.unusedVariables false
namespace Go.Cm
open Go.Proofs Go.Ir Go.Gr
theorem x54 (n:Nd):FF 54 [.agg (ndC n)] []=some (.bool (ee n),[]):=by
 by_cases h6:n.op=6
 ·have h6':=eq_true h6
  refine aL rfl Try.func54 s54 (Nat.le_of_ble_eq_true rfl) (λQ hqr hqn=>?_);rw[bf (show An.pure 54=true from rfl) (by simp only[cans,aG,az,aC,aH,ndE.can])];simp only[aO,Nat.reduceAdd,c54]
  repeat' (first
  |with_reducible refine aF ?_
  |(with_reducible (first|(refine ah (λK hK=>?_);(first|refine J9 ?_|refine Ka ?_))|refine hqr _ ?_);(try simp only[SS,ap,bI,r54,aQ,ak,aD,am,ndC,h6']))
  |(with_reducible refine hK _ ?_;clear hK K))
  all_goals simp[ee,h6]
 by_cases h7:n.op=7
 ·have h7':=eq_true h7
  refine aL rfl Try.func54 s54 (Nat.le_of_ble_eq_true rfl) (λQ hqr hqn=>?_);rw[bf (show An.pure 54=true from rfl) (by simp only[cans,aG,az,aC,aH,ndE.can])];simp only[aO,Nat.reduceAdd,c54]
  repeat' (first
  |with_reducible refine aF ?_
  |(with_reducible (first|(refine ah (λK hK=>?_);(first|refine J9 ?_|refine Ka ?_))|refine hqr _ ?_);(try simp only[SS,ap,bI,r54,aQ,ak,aD,am,ndC,h6,h7']))
  |(with_reducible refine hK _ ?_;clear hK K))
  all_goals simp[ee,h7]
 by_cases h5:n.op=5
 ·have h5':=eq_true h5
  cases hg:n.grd
  all_goals
   refine aL rfl Try.func54 s54 (Nat.le_of_ble_eq_true rfl) (λQ hqr hqn=>?_);rw[bf (show An.pure 54=true from rfl) (by simp only[cans,aG,az,aC,aH,ndE.can])];simp only[aO,Nat.reduceAdd,c54]
   repeat' (first
   |with_reducible refine aF ?_
   |(with_reducible (first|(refine ah (λK hK=>?_);(first|refine J9 ?_|refine Ka ?_))|refine hqr _ ?_);(try simp only[SS,ap,bI,r54,aQ,ak,aD,am,ndC,h6,h7,h5',hg]))
   |(with_reducible refine hK _ ?_;clear hK K))
   all_goals simp[ee,h6,h7,h5,hg]
 ·refine aL rfl Try.func54 s54 (Nat.le_of_ble_eq_true rfl) (λQ hqr hqn=>?_)
  rw[bf (show An.pure 54=true from rfl) (by simp only[cans,aG,az,aC,aH,ndE.can])];simp only[aO,Nat.reduceAdd,c54]
  repeat' (first
  |with_reducible refine aF ?_
  |(with_reducible (first|(refine ah (λK hK=>?_);(first|refine J9 ?_|refine Ka ?_))|refine hqr _ ?_);(try simp only[SS,ap,bI,r54,aQ,ak,aD,am,ndC,h6,h7,h5]))
  |(with_reducible refine hK _ ?_;clear hK K))
  all_goals simp[ee,h6,h7,h5]
theorem k54 (n:Nd) {fid:FuncId}{d:Tmp}{m:Mem}:aB An FF fid (some d) 54 [.agg (ndC n)] m=some (.bool (ee n),m):=
 cr (x54 n) (λ_ _ _=>rfl) rfl (by simp only[cans,aC,ndE.can]) rfl (by simp only[noGs,noG,ndE.noG,Bool.and_self]) rfl
def f6 (c:List Bool) (ids:List Int):List Bool:=ids.foldl (λc id=>c.set id.toNat true) c
theorem JZ {c:List Bool}{ids:List Int}{x:Int}:f6 c (ids++[x])=(f6 c ids).set x.toNat true:=by simp[f6]
theorem JM (c:List Bool) (i:Nat):c.set i true=c∨fls (c.set i true)<fls c:=by
 by_cases hi:i<c.length
 ·obtain⟨b,hb⟩:∃b,c[i]?=some b:=⟨_,List.getElem?_eq_getElem hi⟩
  cases b with
  |true=>
   left;refine List.ext_getElem? λj=>?_
   rw[List.getElem?_set];split
   ·rename_i e;subst e;rw[hb]
   ·rfl
  |false=>right;have:=Io hb;omega
 ·left;exact List.set_eq_of_length_le (by omega)
theorem JQ {c:List Bool}:∀{ids:List Int},(f6 c ids).length=c.length:=by
 intro ids
 induction ids generalizing c with
 |nil=>rfl
 |cons x r ih=>show(f6 (c.set x.toNat true) r).length=_;rw[ih,List.length_set]
theorem JK:∀(ids:List Int) (c:List Bool),f6 c ids=c∨fls (f6 c ids)<fls c
 |[],c=>.inl rfl
 |x::r,c=>by
  show f6 (c.set x.toNat true) r=c∨fls (f6 (c.set x.toNat true) r)<fls c;rcases JM c x.toNat with h|h
  ·rw[h];exact JK r c
  ·rcases JK r (c.set x.toNat true) with h2|h2
   ·rw[h2];exact .inr h
   ·right;omega
theorem JW {c:List Bool}{i j:Nat}(h:c[i]?=some true):(c.set j true)[i]?=some true:=by
 rw[List.getElem?_set];split
 ·rw[if_pos (by have:=(List.getElem?_eq_some_iff.1 h).1;omega)]
 ·exact h
theorem JO:∀{ids:List Int}{c:List Bool}{i:Nat},c[i]?=some true→(f6 c ids)[i]?=some true
 |[],_,_,h=>h
 |x::r,c,i,h=>JO (ids:=r) (c:=c.set x.toNat true) (JW h)
theorem JR:∀{ids:List Int}{c:List Bool}{id:Int},id∈ids→id.toNat<c.length→(f6 c ids)[id.toNat]?=some true
 |[],_,_,h,_=>by cases h
 |x::r,c,id,h,hl=>by
  show(f6 (c.set x.toNat true) r)[id.toNat]?=_
  rcases List.mem_cons.1 h with rfl|h
  ·exact JO (by rw[List.getElem?_set_self hl])
  ·exact JR h (by rw[List.length_set];exact hl)
theorem JN:∀{ids:List Int}{c:List Bool}{i:Nat},(f6 c ids)[i]?=some true→c[i]?=some true∨∃id∈ids,id.toNat=i
 |[],_,_,h=>.inl h
 |x::r,c,i,h=>by
  rcases JN (ids:=r) (c:=c.set x.toNat true) h with h|⟨id,h1,h2⟩
  ·rw[List.getElem?_set] at h
   split at h
   ·rename_i e;exact .inr ⟨x,List.mem_cons_self ..,e⟩
   ·exact .inl h
  ·exact .inr ⟨id,List.mem_cons_of_mem _ h1,h2⟩
theorem x56 (c:List Bool) (v:CV) (ids:List Int) (hv:∀H,RdI H v ids) (hil:ids.length≤17592186044416) (hr:∀id∈ids,0≤id∧id<c.length) :
  FF 56 [.ref (.g 0) 1 0 c.length,v] [.arr 1 1 (c.flatMap bS) 0]=some (.bool (decide (fls (f6 c ids)<fls c)),[.arr 1 1 ((f6 c ids).flatMap bS) 0]):=by
 have hvl:=(hv []).len;refine aL rfl Try.func56 s56 (Nat.le_of_ble_eq_true rfl) (λQ hqr hqn=>?_);rw[show ∀a,cin (An.pure 56) a=a from λ_=>rfl];simp only[aO,Nat.reduceAdd,c56]
 repeat' (first
 |with_reducible (first|refine ai ?_|refine aj (id:=0) (λQ0 hn0 hx0 hr0 ho0=>?_))
 |(with_reducible (refine ah (λK hK=>?_);(first|refine t56r0 ?_|refine t56r1 ?_|refine t56r2 ?_));(try simp only[SS,Nat.reduceEqDiff]))
 |(with_reducible refine hK _ ?_;clear hK K))
 refine aU (λk s=>∃(d t:List Int) (L:List (Nat×HO)),ids=d++t∧k=t.length ∧
  s=⟨[(0,.ref (.g 0) 1 0 c.length),(1,v),(5,.bool (decide (fls (f6 c d)<fls c))),(6,.int .i64 d.length)],⟨L,[.arr 1 1 ((f6 c d).flatMap bS) 0]⟩⟩) _ ⟨[],ids,[],rfl,rfl,by simp[f6]⟩ ?_
 rintro k s ⟨d,t,L,h2,rfl,rfl⟩ QL0 hnL0 hxL0 hrL0;have hlen:=congrArg List.length h2;simp only[List.length_append] at hlen;simp only[c56l0]
 cases t with
 |nil=>
  simp only[List.length_nil] at hlen;rw[List.append_nil] at h2
  repeat' (first
  |with_reducible (first|refine ai ?_|refine ax rfl ?_|refine aN ?_|refine aF ?_|refine hx0 _ ?_|refine hxL0 _ _ ?_)
  |(with_reducible (first|(refine ah (λK hK=>?_);(first|refine Kb ?_|refine t56r7 ?_))|refine hqr _ ?_);(try simp only[SS,Nat.reduceEqDiff,lenS,r56,aQ,ak,aD,am,hvl]))
  |(revert hK;intro hK;(first|refine And.intro ?_ ?_|intro _|omega|(with_reducible refine hK _ ?_;clear hK K))))
  rw[h2];exact⟨rfl,rfl⟩
 |cons x t=>
  simp only[List.length_cons] at hlen;have hx:ids[d.length]?=some x:=by rw[h2];simp
  obtain⟨g1,g2⟩:=hr x (List.mem_of_getElem? hx);have hwd:IntKind.i64.wrap ((d.length:Int)+1)=d.length+1:=wI (by omega) (by omega);have hlt:((d.length:Nat):Int)<((ids.length:Nat):Int):=by omega
  obtain⟨cd,hcd⟩:∃cd,f6 c d=cd:=⟨_,rfl⟩;have hcl:cd.length=c.length:=by rw[←hcd];exact JQ
  have hix:bd 1 (.ref (.g 0) 1 0 c.length) (.int .i64 x)=some (.ptr (.g 0) 1 x.toNat):=by rw[bD,if_pos ⟨g1,by omega⟩];simp
  obtain⟨pt,p1,p2⟩:=(hv [HO.arr 1 1 (cd.flatMap bS) 0]).at hx (k:=.i64);have hst:∀L,stX 1 ⟨L,[HO.arr 1 1 (cd.flatMap bS) 0]⟩ (.ptr (.g 0) 1 x.toNat) (.bool true)=some ⟨L,[HO.arr 1 1 ((cd.set x.toNat true).flatMap bS) 0]⟩:=λL=>by
   have h0:([HO.arr 1 1 (cd.flatMap bS) 0]:List HO)[0]?=some (.arr 1 1 (cd.flatMap bS) 0):=rfl;rw[jz (m:=⟨L,_⟩) h0 (by rw[bC jl];omega) rfl rfl,ou];rfl
  have step:∀b,b=decide (fls (cd.set x.toNat true)<fls c)→QL0 .normal ⟨[(0,.ref (.g 0) 1 0 c.length),(1,v),(5,.bool b),(6,.int .i64 (d.length+1))],⟨L,[.arr 1 1 ((cd.set x.toNat true).flatMap bS) 0]⟩⟩:=λb hb=>by
   rw[show((d.length:Int)+1)=((d++[x]).length:Int) by simp];refine hnL0 t.length _ (by simp) ⟨d++[x],t,L,by simp[h2],rfl,?_⟩;rw[JZ,hcd,hb]
  rw[hcd]
  by_cases hb:fls cd<fls c
  ·have hb':decide (fls (cd.set x.toNat true)<fls c)=true:=decide_eq_true (by
    rcases JM cd x.toNat with h|h
    ·rw[h];exact hb
    ·omega)
   rw[decide_eq_true hb]
   repeat' (first
   |with_reducible (first|refine ai ?_|refine ar ?_|refine au rfl ?_|refine aj (id:=1) (λQ1 hn1 hx1 hr1 ho1=>?_)|refine hn1 _ ?_)
   |(with_reducible ((first|refine ah (λK hK=>?_)|refine aI (λK hK=>?_));(first|refine Kb ?_|refine Km ?_|refine Ko ?_|refine Kl ?_));(try simp only[SS,Nat.reduceEqDiff,lenS,hvl,hlt,p1,p2,hix,hst,hwd]))
   |(with_reducible refine hK _ ?_;clear hK K))
   exact step true hb'.symm
  ·rw[decide_eq_false hb]
   have hcc:cd=c:=by rcases JK d c with h|h;exact hcd.symm.trans h;rw[hcd] at h;exact absurd h hb
   obtain⟨y,hy⟩:∃y,cd[x.toNat]?=some y:=⟨_,List.getElem?_eq_getElem (by omega)⟩;have hld:∀L,ld1 ⟨L,[HO.arr 1 1 (cd.flatMap bS) 0]⟩ (.ptr (.g 0) 1 x.toNat)=some (.bool y):=λL=>by
    have h0:([HO.arr 1 1 (cd.flatMap bS) 0]:List HO)[0]?=some (.arr 1 1 (cd.flatMap bS) 0):=rfl;rw[ce,h0,bM,fI,hy];rfl
   cases y with
   |true=>
    repeat' (first
    |with_reducible (first|refine ai ?_|refine ar ?_|refine au rfl ?_|refine aj (id:=1) (λQ1 hn1 hx1 hr1 ho1=>?_)|refine hn1 _ ?_)
    |(with_reducible ((first|refine ah (λK hK=>?_)|refine aI (λK hK=>?_));(first|refine Kb ?_|refine Km ?_|refine Ko ?_|refine Kl ?_));(try simp only[SS,Nat.reduceEqDiff,Bool.not_true,lenS,hvl,hlt,p1,p2,hix,hst,hld,hwd]))
    |(with_reducible refine hK _ ?_;clear hK K))
    refine step false ?_;rcases JM cd x.toNat with h|h
    ·rw[h];exact(decide_eq_false hb).symm
    ·exfalso
     have:=JW (j:=x.toNat) hy;have h3:cd.set x.toNat true=cd:=by
      refine List.ext_getElem? λj=>?_;rw[List.getElem?_set];split
      ·rename_i e;subst e;rw[if_pos (by omega),hy]
      ·rfl
     rw[h3] at h;omega
   |false=>
    repeat' (first
    |with_reducible (first|refine ai ?_|refine ar ?_|refine au rfl ?_|refine aj (id:=1) (λQ1 hn1 hx1 hr1 ho1=>?_)|refine hn1 _ ?_)
    |(with_reducible ((first|refine ah (λK hK=>?_)|refine aI (λK hK=>?_));(first|refine Kb ?_|refine Km ?_|refine Ko ?_|refine Kl ?_));(try simp only[SS,Nat.reduceEqDiff,Bool.not_false,lenS,hvl,hlt,p1,p2,hix,hst,hld,hwd]))
    |(with_reducible refine hK _ ?_;clear hK K))
    refine step true ?_;have:=Io hy;rw[hcc] at this ⊢
    exact(decide_eq_true (by omega)).symm
theorem escI_sl {m:Mem}{j:Nat}{l:List Int}:EscI m j (Cm.sl aX l) l:=by
 have hx:bp m [Cm.sl aX l]=some ([Cm.sl aX l],m):=cn (m:=m) rfl
 exact⟨_,m,J8 rfl,λ_=>.inl rfl,rfl,λ_ _=>rfl⟩
theorem k56 (c:List Bool) {v:CV}{ids:List Int}{m:Mem}{j:Nat}(hE:EscI m j v ids) (hH:m.H=[.arr 1 1 (c.flatMap bS) 0]) (hil:ids.length≤17592186044416) (hr:∀id∈ids,0≤id∧id<c.length) {fid:FuncId}{d:Tmp}{K:CV×Mem→Prop}
  (hK:∀m',m'.H=[.arr 1 1 ((f6 c ids).flatMap bS) 0]→(∀i,i≠j→aK m'.L i=aK m.L i)→K (.bool (decide (fls (f6 c ids)<fls c)),m')):Obt (aB An FF fid (some d) 56 [.ref (.g 0) 1 0 c.length,v] m) K:=by
 obtain⟨x,m1,q1,q2,q3,q4⟩:=hE;have hF:=x56 c x ids q2 hil hr;have hx:bp m [.ref (.g 0) 1 0 c.length,v]=some ([.ref (.g 0) 1 0 c.length,x],m1):=
  G7 (J8 (m:=m) rfl) (G7 q1 rfl)
 rw[m9 rfl hx (by rw[q3,hH];exact hF),aJ];exact hK ⟨m1.L,_⟩ rfl q4
end Go.Cm
namespace Go.Cm
open Go.Proofs Go.Ir Go.Gr
theorem JY {x b:Bool}{m:Mem}:gdO (.bool x) false (some (CV.bool b,m)) (.tuple [],m)=some (if x=true then .tuple [] else .bool b,m):=by cases x<;>rfl
theorem JP {x b:Bool}:aT (.bool x) (.bool true) (if x=true then .tuple [] else .bool b)=some (.bool (x||b)):=by cases x<;>rfl
def Cl (c:List Bool) (ids:List Int):Prop:=∀id∈ids,c[id.toNat]?=some true
def ClN (c:List Bool) (n:Nd):Prop:=(ee n=true∨c[n.id.toNat]?=some true)→Cl c (eF n)
def ClP (c:List Bool) (x:Ph):Prop:=c[x.id.toNat]?=some true→Cl c x.src
def ClA (c:List Bool) (p:Pt):Prop:=Cl c (jC p.fin)∧(∀x∈p.phis,ClP c x)∧∀n∈p.nodes,ClN c n
structure Swp (f:Cd) (n:Nat) (c0:List Bool) (b:Bool) (c:List Bool) (P:Prop):Prop where
 len:c.length=n
 snd:∀i:Nat,c[i]?=some true→Need f i
 stp:(b=false∧c=c0∧P)∨(b=true∧fls c<fls c0)
section
variable {f:Cd}{n:Nat}{c0 c:List Bool}{b:Bool}{P Q:Prop}
theorem Swp.next (h:Swp f n c0 b c P) (hq:c=c0→P→Q):Swp f n c0 b c Q:=by
 refine⟨h.len,h.snd,?_⟩
 rcases h.stp with⟨h1,h2,h3⟩|h1
 ·exact .inl ⟨h1,h2,hq h2 h3⟩
 ·exact .inr h1
theorem Swp.mark (h:Swp f n c0 b c P) {ids:List Int}(hn:∀id∈ids,Need f id) (hr:∀id∈ids,0≤id∧id<c.length) (hq:P→Cl c0 ids→Q) :
  Swp f n c0 (decide (fls (f6 c ids)<fls c)||b) (f6 c ids) Q:=by
 refine⟨by rw[JQ];exact h.len,λi hi=>?_,?_⟩
 ·rcases JN hi with h1|⟨id,h1,h2⟩
  ·exact h.snd i h1
  ·have:=(hr id h1).1
   rw[show((i:Nat):Int)=id by omega];exact hn id h1
 ·rcases h.stp with⟨h1,h2,h3⟩|⟨h1,h2⟩
  ·rcases JK ids c with h4|h4
   ·refine .inl ⟨by rw[h4,h1,decide_eq_false (by omega)];rfl,h4.trans h2,hq h3 λid hid=>?_⟩
    have:=JR hid (c:=c) (by have:=hr id hid;omega);rw[h4,h2] at this;exact this
   ·exact .inr ⟨by rw[decide_eq_true h4];rfl,by rw[←h2];exact h4⟩
  ·refine .inr ⟨by rw[h1,Bool.or_true],?_⟩
   rcases JK ids c with h4|h4
   ·rw[h4];exact h2
   ·omega
theorem Cl_all (hfi:Fine f) (hcl:c.length=f.values.toNat) (hs:∀i:Nat,c[i]?=some true→Need f i) (h:∀p∈f.parts,ClA c p):c=G6 f:=by
 have full:∀id,Need f id→c[id.toNat]?=some true:=by
  intro id h1
  induction h1 with
  |base h1=>
   obtain⟨p,hp,h2⟩:=List.mem_flatMap.1 h1;rcases List.mem_append.1 h2 with h2|h2
   ·obtain⟨n,hn,h3⟩:=List.mem_flatMap.1 h2
    obtain⟨h4,h5⟩:=List.mem_filter.1 hn
    exact(h p hp).2.2 n h4 (.inl h5) _ h3
   ·exact(h p hp).1 _ h2
  |step h1 h2 ih=>
   obtain⟨v,h3,h4⟩:=Ij h2;obtain⟨p,hp,h5⟩:=List.mem_flatMap.1 h3;rcases List.mem_append.1 h5 with h5|h5
   ·obtain⟨x,hx,he⟩:=List.mem_map.1 h5
    simp only[Prod.mk.injEq] at he;obtain⟨rfl,rfl⟩:=he
    exact(h p hp).2.1 x hx ih _ h4
   ·obtain⟨n,hn,he⟩:=List.mem_map.1 h5
    simp only[Prod.mk.injEq] at he;obtain⟨rfl,rfl⟩:=he
    exact(h p hp).2.2 n (List.mem_filter.1 hn).1 (.inr ih) _ h4
 rw[G6];refine List.ext_getElem? λi=>?_
 by_cases hi:i<f.values.toNat
 ·rw[List.getElem?_map,List.getElem?_range hi]
  simp only[Option.map_some];have hci:c[i]?=some c[i]:=List.getElem?_eq_getElem (by omega);rw[hci]
  congr 1
  cases hb:c[i] with
  |true=>
   have:=hs i (by rw[hci,hb]);simp[F5,this]
  |false=>
   have:¬Need f i:=λh=>by
    have:=full _ h;rw[Int.toNat_natCast,hci,hb] at this;simp at this
   simp[F5,this]
 ·rw[List.getElem?_eq_none (by omega),List.getElem?_eq_none (by simp;omega)]
end
set_option maxHeartbeats 4000000 in
theorem x25 (f:Cd) (hf:Sized f) :
  FF 25 [.agg (aZ f)] []=some (if bG f=true then (.ref (.g 0) 1 0 f.values.toNat,[.arr 1 1 ((G6 f).flatMap bS) 0]) else (.nil,[])):=by
 have hkc:∀d m,aB An FF 25 (some d) 16 [.agg [sl ptC f.parts,.int .i64 f.values]] m=_:=λd m=>k16 f hf (fid:=25) (d:=d) (m:=m)
 cases hc:bG f with
 |false=>
  rw[hc,if_neg (by decide)] at hkc;rw[if_neg (by decide)];refine aL rfl Try.func25 s25 (Nat.le_of_ble_eq_true rfl) (λQ hqr hqn=>?_);rw[show ∀a,cin (An.pure 25) a=a from λ_=>rfl];simp only[aO,Nat.reduceAdd,c25]
  repeat' (first
  |with_reducible (first|refine ai ?_|refine au rfl ?_|refine b6 ?_)
  |(with_reducible (first|(refine ah (λK hK=>?_);(first|refine t25r0 ?_|refine t25r1 ?_|refine t25r2 ?_))|refine hqr _ ?_);(try simp only[SS,ap,Nat.reduceAdd,br,r25,aQ,ak,aD,am,eh,aZ,hkc]))
  |(revert hK;intro hK;(first|refine And.intro ?_ ?_|intro _|omega|(with_reducible refine hK _ ?_;clear hK K))))
 |true=>
  rw[hc,if_pos rfl] at hkc;rw[if_pos rfl];have hfi:=l6 hc;obtain⟨n,hn⟩:∃n:Nat,f.values=(n:Int):=⟨f.values.toNat,by have:=hfi.values.1;omega⟩;have hn1:n≤65536:=by have:=hfi.values.2;omega
  have hnt:f.values.toNat=n:=by omega
  have hpl:=hf.parts;have hmk:=λm=>wd (j:=240) (sz:=1) (b:=1) (z:=[.bool false]) (k:=.i64) (n:=n) (m:=m) rfl (by omega) (by omega);have hix:∀x:Int,0≤x→x<n→bd 1 (.ref (.g 0) 1 0 n) (.int .i64 x)=some (.ptr (.g 0) 1 x.toNat):=λx h0 h1=>by
   rw[bD,if_pos ⟨h0,by omega⟩];simp
  have hld:∀L (c:List Bool) (x:Int) y,c[x.toNat]?=some y→ld1 ⟨L,[HO.arr 1 1 (c.flatMap bS) 0]⟩ (.ptr (.g 0) 1 x.toNat)=some (.bool y):=λL c x y hy=>by
   have h0:([HO.arr 1 1 (c.flatMap bS) 0]:List HO)[0]?=some (.arr 1 1 (c.flatMap bS) 0):=rfl;rw[ce,h0,bM,fI,hy];rfl
  have hnr:∀{id:Int},Need f id→0≤id∧id<(n:Int):=λh=>by have:=h.lt hfi;omega
  have upn:∀{j:Int}{v:List Int},(j,v)∈GS f→Need f j→∀id∈v,Need f id:=λ{j v} hv hj id hid=>
   .step hj (by rw[Hn (by rw[H9];exact hfi.nodup) hv];exact hid)
  have hsetL:∀(L:List (Nat×HO)) (H:List HO) j o,bi ⟨L,H⟩ j o=⟨cF L j o,H⟩:=λ_ _ _ _=>rfl;rw[hn] at hkc;rw[hnt];refine aL rfl Try.func25 s25 (Nat.le_of_ble_eq_true rfl) (λQ hqr hqn=>?_);rw[show ∀a,cin (An.pure 25) a=a from λ_=>rfl];simp only[aO,Nat.reduceAdd,c25];rw[aZ,hn]
  repeat' (first
  |with_reducible (first|refine ai ?_|refine ar ?_|refine ax rfl ?_|refine bl (id:=0) (λQ0 hn0 hx0 hr0 ho0=>?_))
  |(with_reducible (refine ah (λK hK=>?_);(first|refine t25r0 ?_|refine t25r1 ?_|refine t25r3 ?_));(try simp only[SS,Nat.reduceEqDiff,ap,Nat.reduceAdd,br,hkc,hmk,jw]))
  |(with_reducible refine hK _ ?_;clear hK K))
  refine aU (λk s=>∃(c:List Bool) (g1:Nat) (L:List (Nat×HO)) (sl0:List (Nat×CV)),k=fls c∧c.length=n∧(∀i:Nat,c[i]?=some true→Need f i)∧aK L 16=some (.var g1 [sl ptC f.parts,.int .i64 n] 0) ∧
   s=⟨sl0,⟨L,[.arr 1 1 (c.flatMap bS) 0]⟩⟩∧ac sl0 1=.ptr (.l 16) g1 0∧ac sl0 3=.ref (.g 0) 1 0 n) _
   ⟨List.replicate n false,_,_,_,rfl,by simp,λi hi=>by rw[List.getElem?_replicate] at hi;split at hi<;>simp at hi,by simp[bi,aq],rfl,rfl,rfl⟩ ?_
  rintro k s ⟨c0,g1,L0,sl0,rfl,hcl0,hs0,hL0,rfl,hT1,hT3⟩ QL3 hnL3 hxL3 hrL3;simp only[c25l3]
  repeat' (first
  |with_reducible (first|refine ai ?_|refine bl (id:=1) (λQ1 hn1 hx1 hr1 ho1=>?_)|refine aj (id:=2) (λQ2 hn2 hx2 hr2 ho2=>?_))
  |(with_reducible (refine ah (λK hK=>?_);(first|refine t25r4 ?_|refine t25r5 ?_));(try simp only[SS,Nat.reduceEqDiff,hT1,hT3]))
  |(with_reducible refine hK _ ?_;clear hK K))
  refine aU (λk s=>∃(d t:List Pt) (c:List Bool) (b:Bool) (L:List (Nat×HO)),f.parts=d++t∧k=t.length∧Swp f n c0 b c (∀p∈d,ClA c0 p)∧aK L 16=some (.var g1 [sl ptC f.parts,.int .i64 n] 0) ∧
   s=⟨[(1,.ptr (.l 16) g1 0),(3,.ref (.g 0) 1 0 n),(4,.bool b),(5,.int .i64 d.length)],⟨L,[.arr 1 1 (c.flatMap bS) 0]⟩⟩) _
   ⟨[],f.parts,c0,false,L0,rfl,rfl,⟨hcl0,hs0,.inl ⟨rfl,rfl,by simp⟩⟩,hL0,rfl⟩ ?_
  rintro k s ⟨d,t,c,b,L,h2,rfl,hS,hL,rfl⟩ QL2 hnL2 hxL2 hrL2;have hlen:=congrArg List.length h2;simp only[List.length_append] at hlen;simp only[c25l2]
  cases t with
  |nil=>
   simp only[List.length_nil] at hlen;rw[List.append_nil] at h2;rw[←h2] at hS;rcases hS.stp with⟨rfl,hcc,hP⟩|⟨rfl,hlt⟩
   ·have hcn:=Cl_all hfi (by rw[hS.len,hnt]) hS.snd (by rw[hcc];exact hP)
    repeat' (first
    |with_reducible (first|refine ai ?_|refine ax rfl ?_|refine bc rfl ?_|refine aN ?_|refine aF ?_|refine hr0 _ ?_|refine hr1 _ ?_|refine hx2 _ ?_|refine hxL2 _ _ ?_|refine hrL3 _ ?_)
    |(with_reducible (first|(refine ah (λK hK=>?_);(first|refine Kk ?_|refine Kj ?_|refine t25r22 ?_))|refine hqr _ ?_);(try simp only[SS,Nat.reduceEqDiff,Bool.not_false,lenS,r25,aQ,ak,aD,am,lH,hL,aP]))
    |(revert hK;intro hK;(first|refine And.intro ?_ ?_|intro _|omega|(with_reducible refine hK _ ?_;clear hK K))))
    rw[hcn]
   ·repeat' (first
    |with_reducible (first|refine ai ?_|refine ax rfl ?_|refine bn rfl ?_|refine aN ?_|refine bx ?_|refine hn1 _ ?_|refine hx2 _ ?_|refine hxL2 _ _ ?_)
    |(with_reducible (refine ah (λK hK=>?_);(first|refine Kk ?_|refine Kj ?_));(try simp only[SS,Nat.reduceEqDiff,Bool.not_true,lenS,hL,aP]))
    |(revert hK;intro hK;(first|refine And.intro ?_ ?_|intro _|omega|(with_reducible refine hK _ ?_;clear hK K))))
    exact hnL3 _ _ hlt ⟨c,g1,L,_,rfl,hS.len,hS.snd,hL,rfl,rfl,rfl⟩
  |cons p t=>
   simp only[List.length_cons] at hlen;have hpm:p∈f.parts:=by rw[h2];simp
   obtain⟨hphl,hphs⟩:=hf.phis p hpm;obtain⟨hndl,hnds⟩:=hf.nodes p hpm;have hlt2:(d.length:Int)<f.parts.length:=by omega
   have hwd:IntKind.i64.wrap ((d.length:Int)+1)=d.length+1:=wI (by omega) (by omega);have hne:∀id∈jC p.fin,Need f id:=λid hid=>.base (List.mem_flatMap.2 ⟨p,hpm,List.mem_append_right _ hid⟩);have hcl:=hS.len
   repeat' (first
   |with_reducible (first|refine ai ?_|refine ar ?_|refine au rfl ?_|refine aj (id:=3) (λQ3 hn3 hx3 hr3 ho3=>?_))
   |(with_reducible (refine ah (λK hK=>?_);(first|refine Kk ?_|refine t25r8 ?_|refine t25r9 ?_));(try simp only[SS,Nat.reduceEqDiff,ap,aS,Nat.reduceAdd,lenS,ay,hL,aP,hlt2,aM ptE.len (by omega) h2,ct,ptC]))
   |(with_reducible refine hK _ ?_;clear hK K))
   obtain⟨g6,hg6⟩:∃g,bj L 96=g:=⟨_,rfl⟩;rw[hg6];refine k29 p.fin rfl λv3 m3 hv3 hH3 hf3=>?_;simp only[ik] at hH3;have hk:=λK=>k56 c hv3 hH3 (by have:=rM p.fin;omega) (λid hid=>by rw[hcl];exact hnr (hne id hid)) (fid:=25) (d:=32) (K:=K);rw[hcl] at hk;refine hk _ λm4 hH4 hf4=>?_;have hS1:=hS.mark (Q:=(∀q∈d,ClA c0 q)∧Cl c0 (jC p.fin)) hne (λid hid=>by rw[hcl];exact hnr (hne id hid)) λh1 h2=>⟨h1,h2⟩;simp only[JY,JP,aJ];have hfr:∀i,i≠496→i≠96→aK m4.L i=aK L i:=λi n1 n2=>by rw[hf4 i (by omega),hf3 i (by omega)];simp[bi,aq,Ne.symm n2]
   have h96:aK m4.L 96=some (.var g6 (ptC p) 0):=by rw[hf4 96 (by decide),hf3 96 (by decide)];simp[bi,aq,ptC]
   have h16:=(hfr 16 (by decide) (by decide)).trans hL;generalize (decide (fls (f6 c (jC p.fin))<fls c)||b)=b1 at hS1 ⊢;generalize f6 c (jC p.fin)=c1 at hS1 hH4;obtain⟨L4,H4⟩:=m4;simp only at hH4 h96 h16;subst hH4;refine hK _ ?_;clear hK K
   repeat' (first
   |with_reducible (first|refine ai ?_|refine aj (id:=4) (λQ4 hn4 hx4 hr4 ho4=>?_))
   |(with_reducible (refine ah (λK hK=>?_);refine t25r10 ?_);(try simp only[SS,Nat.reduceEqDiff]))
   |(with_reducible refine hK _ ?_;clear hK K))
   refine aU (λk s=>∃(d1 t1:List Ph) (c:List Bool) (b:Bool) (L:List (Nat×HO)),p.phis=d1++t1∧k=t1.length∧Swp f n c0 b c ((∀q∈d,ClA c0 q)∧Cl c0 (jC p.fin)∧∀x∈d1,ClP c0 x)∧aK L 16=some (.var g1 [sl ptC f.parts,.int .i64 n] 0)∧aK L 96=some (.var g6 (ptC p) 0) ∧
    s=⟨[(1,.ptr (.l 16) g1 0),(3,.ref (.g 0) 1 0 n),(4,.bool b),(5,.int .i64 d.length),(6,.ptr (.l 96) g6 0),(7,.int .i64 d1.length)],⟨L,[.arr 1 1 (c.flatMap bS) 0]⟩⟩) _
    ⟨[],p.phis,c1,b1,L4,rfl,rfl,hS1.next λ_ h=>⟨h.1,h.2,by simp⟩,h16,h96,rfl⟩ ?_
   rintro k s ⟨d1,t1,c2,b2,L5,h3,rfl,hS2,hL5,h965,rfl⟩ QL0 hnL0 hxL0 hrL0;have hlen1:=congrArg List.length h3;simp only[List.length_append] at hlen1;have hcl2:=hS2.len;simp only[c25l0]
   cases t1 with
   |cons x t1=>
    simp only[List.length_cons] at hlen1;have hxm:x∈p.phis:=by rw[h3];simp
    have hlt1:(d1.length:Int)<p.phis.length:=by omega
    have hw1:IntKind.i64.wrap ((d1.length:Int)+1)=d1.length+1:=wI (by omega) (by omega);have hxi:x.id∈f.parts.flatMap Hf:=List.mem_flatMap.2 ⟨p,hpm,List.mem_append_left _ (List.mem_map.2 ⟨x,hxm,rfl⟩)⟩;obtain⟨hx0,hx1⟩:=hfi.ids _ hxi;obtain⟨y,hy⟩:∃y,c2[x.id.toNat]?=some y:=⟨_,List.getElem?_eq_getElem (by omega)⟩;have hix1:=hix x.id hx0 (by omega);have hld1:=λL=>hld L c2 x.id y hy;have step:∀c' b' L',Swp f n c0 b' c' ((∀q∈d,ClA c0 q)∧Cl c0 (jC p.fin)∧∀z∈d1++[x],ClP c0 z)→aK L' 16=some (.var g1 [sl ptC f.parts,.int .i64 n] 0)→aK L' 96=some (.var g6 (ptC p) 0) →
      QL0 .normal ⟨[(1,.ptr (.l 16) g1 0),(3,.ref (.g 0) 1 0 n),(4,.bool b'),(5,.int .i64 d.length),(6,.ptr (.l 96) g6 0),(7,.int .i64 (d1.length+1))],⟨L',[.arr 1 1 (c'.flatMap bS) 0]⟩⟩:=λc' b' L' q1 q2 q3=>by
     rw[show((d1.length:Int)+1)=((d1++[x]).length:Int) by simp];exact hnL0 t1.length _ (by simp) ⟨d1++[x],t1,c',b',L',by simp[h3],rfl,q1,q2,q3,rfl⟩
    have snoc:(∀z∈d1,ClP c0 z)→ClP c0 x→∀z∈d1++[x],ClP c0 z:=λh1 h2 z hz=>by
     rcases List.mem_append.1 hz with hz|hz
     ·exact h1 z hz
     ·rw[List.mem_singleton.1 hz];exact h2
    cases y with
    |false=>
     repeat' (first
     |with_reducible (first|refine ai ?_|refine ar ?_|refine au rfl ?_|refine bn rfl ?_|refine bx ?_|refine aj (id:=5) (λQ5 hn5 hx5 hr5 ho5=>?_)|refine hn5 _ ?_)
     |(with_reducible ((first|refine ah (λK hK=>?_)|refine aI (λK hK=>?_));(first|refine J3 ?_|refine Kh ?_|refine Kg ?_));(try simp only[SS,Nat.reduceEqDiff,bL,dw,lenS,h965,ptC,aP,hlt1,aM phE.len (by omega) h3,phC,hix1,hld1,hw1]))
     |(with_reducible refine hK _ ?_;clear hK K))
     exact step c2 b2 L5 (hS2.next λe h=>⟨h.1,h.2.1,snoc h.2.2 λh3=>by rw[←e,hy] at h3;simp at h3⟩) hL5 h965
    |true=>
     have hxn:Need f x.id:=by have:=hS2.snd _ hy;rwa [show((x.id.toNat:Nat):Int)=x.id by omega] at this
     have hsn:∀id∈x.src,Need f id:=upn (List.mem_flatMap.2 ⟨p,hpm,List.mem_append_left _ (List.mem_map.2 ⟨x,hxm,rfl⟩)⟩) hxn
     repeat' (first
     |with_reducible (first|refine ai ?_|refine ar ?_|refine au rfl ?_|refine bc rfl ?_|refine aj (id:=5) (λQ5 hn5 hx5 hr5 ho5=>?_))
     |(with_reducible ((first|refine ah (λK hK=>?_)|refine aI (λK hK=>?_));(first|refine J3 ?_|refine Kh ?_|refine t25r14 ?_));(try simp only[SS,Nat.reduceEqDiff,bL,dw,lenS,h965,ptC,aP,hlt1,aM phE.len (by omega) h3,phC,hix1,hld1]))
     |(with_reducible refine hK _ ?_;clear hK K))
     have hk:=λK=>k56 c2 (m:=⟨L5,[.arr 1 1 (c2.flatMap bS) 0]⟩) (j:=0) (escI_sl (l:=x.src)) rfl (hphs x hxm) (λid hid=>by rw[hcl2];exact hnr (hsn id hid)) (fid:=25) (d:=59) (K:=K);rw[hcl2] at hk;refine hk _ λm4 hH4 hf4=>?_;have hS3:=hS2.mark (Q:=(∀q∈d,ClA c0 q)∧Cl c0 (jC p.fin)∧∀z∈d1++[x],ClP c0 z) hsn (λid hid=>by rw[hcl2];exact hnr (hsn id hid)) λh1 h2=>⟨h1.1,h1.2.1,snoc h1.2.2 λ_=>h2⟩;simp only[JY,JP,aJ];generalize (decide (fls (f6 c2 x.src)<fls c2)||b2)=b3 at hS3 ⊢;generalize f6 c2 x.src=c3 at hS3 hH4;obtain⟨L6,H6⟩:=m4;simp only at hH4 hf4;subst hH4;refine hK _ ?_;clear hK K
     repeat' (first
     |with_reducible refine hn5 _ ?_
     |(with_reducible (refine aI (λK hK=>?_);refine Kg ?_);(try simp only[SS,Nat.reduceEqDiff,hw1]))
     |(with_reducible refine hK _ ?_;clear hK K))
     exact step c3 b3 L6 hS3 (by rw[hf4 16 (by decide)];exact hL5) (by rw[hf4 96 (by decide)];exact h965)
   |nil=>
    simp only[List.length_nil] at hlen1;rw[List.append_nil] at h3;rw[←h3] at hS2
    repeat' (first
    |with_reducible (first|refine ai ?_|refine ax rfl ?_|refine aN ?_|refine hx4 _ ?_|refine bl (id:=6) (λQ6 hn6 hx6 hr6 ho6=>?_)|refine hxL0 _ _ ?_)
    |(with_reducible (refine ah (λK hK=>?_);(first|refine J3 ?_|refine t25r15 ?_));(try simp only[SS,Nat.reduceEqDiff,lenS,h965,ptC,aP]))
    |(revert hK;intro hK;(first|refine And.intro ?_ ?_|intro _|omega|(with_reducible refine hK _ ?_;clear hK K))))
    refine aU (λk s=>∃(d2 t2:List Nd) (c:List Bool) (b:Bool) (L:List (Nat×HO)),p.nodes=d2++t2∧k=t2.length∧Swp f n c0 b c ((∀q∈d,ClA c0 q)∧Cl c0 (jC p.fin)∧(∀x∈p.phis,ClP c0 x)∧∀x∈d2,ClN c0 x)∧aK L 16=some (.var g1 [sl ptC f.parts,.int .i64 n] 0)∧aK L 96=some (.var g6 (ptC p) 0) ∧
     s=⟨[(1,.ptr (.l 16) g1 0),(3,.ref (.g 0) 1 0 n),(4,.bool b),(5,.int .i64 d.length),(6,.ptr (.l 96) g6 0),(8,.int .i64 d2.length)],⟨L,[.arr 1 1 (c.flatMap bS) 0]⟩⟩) _
     ⟨[],p.nodes,c2,b2,L5,rfl,rfl,hS2.next λ_ h=>⟨h.1,h.2.1,h.2.2,by simp⟩,hL5,h965,rfl⟩ ?_
    rintro k s ⟨d2,t2,c4,b4,L7,h4,rfl,hS4,hL7,h967,rfl⟩ QL1 hnL1 hxL1 hrL1;have hlen2:=congrArg List.length h4;simp only[List.length_append] at hlen2;have hcl4:=hS4.len;simp only[c25l1]
    cases t2 with
    |nil=>
     simp only[List.length_nil] at hlen2;rw[List.append_nil] at h4;rw[←h4] at hS4
     repeat' (first
     |with_reducible (first|refine ai ?_|refine ax rfl ?_|refine aN ?_|refine hn3 _ ?_|refine hx6 _ ?_|refine hxL1 _ _ ?_)
     |(with_reducible ((first|refine ah (λK hK=>?_)|refine aI (λK hK=>?_));(first|refine JU ?_|refine t25r7 ?_));(try simp only[SS,Nat.reduceEqDiff,lenS,h967,ptC,aP,hwd]))
     |(revert hK;intro hK;(first|refine And.intro ?_ ?_|intro _|omega|(with_reducible refine hK _ ?_;clear hK K))))
     rw[show((d.length:Int)+1)=((d++[p]).length:Int) by simp];refine hnL2 t.length _ (by simp) ⟨d++[p],t,c4,b4,L7,by simp[h2],rfl,hS4.next λ_ h=>?_,hL7,rfl⟩;intro q hq;rcases List.mem_append.1 hq with hq|hq
     ·exact h.1 q hq
     ·rw[List.mem_singleton.1 hq];exact h.2
    |cons x t2=>
     simp only[List.length_cons] at hlen2;have hxm:x∈p.nodes:=by rw[h4];simp
     have hxa:=(hnds x hxm).1;have hlt3:(d2.length:Int)<p.nodes.length:=by omega
     have hw2:IntKind.i64.wrap ((d2.length:Int)+1)=d2.length+1:=wI (by omega) (by omega);have hks:=λd m=>k54 x (fid:=25) (d:=d) (m:=m);simp only[ndC] at hks;have step:∀c' b' L',Swp f n c0 b' c' ((∀q∈d,ClA c0 q)∧Cl c0 (jC p.fin)∧(∀x∈p.phis,ClP c0 x)∧∀z∈d2++[x],ClN c0 z)→aK L' 16=some (.var g1 [sl ptC f.parts,.int .i64 n] 0)→aK L' 96=some (.var g6 (ptC p) 0) →
       QL1 .normal ⟨[(1,.ptr (.l 16) g1 0),(3,.ref (.g 0) 1 0 n),(4,.bool b'),(5,.int .i64 d.length),(6,.ptr (.l 96) g6 0),(8,.int .i64 (d2.length+1))],⟨L',[.arr 1 1 (c'.flatMap bS) 0]⟩⟩:=λc' b' L' q1 q2 q3=>by
      rw[show((d2.length:Int)+1)=((d2++[x]).length:Int) by simp];exact hnL1 t2.length _ (by simp) ⟨d2++[x],t2,c',b',L',by simp[h4],rfl,q1,q2,q3,rfl⟩
     have snoc:(∀z∈d2,ClN c0 z)→ClN c0 x→∀z∈d2++[x],ClN c0 z:=λh1 h2 z hz=>by
      rcases List.mem_append.1 hz with hz|hz
      ·exact h1 z hz
      ·rw[List.mem_singleton.1 hz];exact h2
     have grow:(∀id∈eF x,Need f id)→∀(L9:List (Nat×HO)),aK L9 16=aK L7 16∧aK L9 96=aK L7 96→∀(K:CV×Mem→Prop),(∀b' c' L',Swp f n c0 b' c' ((∀q∈d,ClA c0 q)∧Cl c0 (jC p.fin)∧(∀x∈p.phis,ClP c0 x)∧∀z∈d2++[x],ClN c0 z)→aK L' 16=some (.var g1 [sl ptC f.parts,.int .i64 n] 0)→aK L' 96=some (.var g6 (ptC p) 0)→K (.bool b',⟨L',[.arr 1 1 (c'.flatMap bS) 0]⟩)) →
       Obt (aB An FF 25 (some 86) 30 [.agg (ndC x)] ⟨L9,[.arr 1 1 (c4.flatMap bS) 0]⟩) λa1=>Obt (aB An FF 25 (some 87) 56 [.ref (.g 0) 1 0 n,a1.1] a1.2) λa2=>Obt (gdO a2.1 false (some (.bool b4,a2.2)) (.tuple [],a2.2)) λa3=>Obt (aT a2.1 (.bool true) a3.1) λa4=>K (a4,a3.2):=λhun L9 h9 K hK=>by
      refine k30 x hxa rfl λv3 m3 hv3 hH3 hf3=>?_;simp only at hH3 hf3;have hk:=λK=>k56 c4 hv3 hH3 (th x hxa) (λid hid=>by rw[hcl4];exact hnr (hun id hid)) (fid:=25) (d:=87) (K:=K);rw[hcl4] at hk;refine hk _ λm4 hH4 hf4=>?_;have hS5:=hS4.mark (Q:=(∀q∈d,ClA c0 q)∧Cl c0 (jC p.fin)∧(∀x∈p.phis,ClP c0 x)∧∀z∈d2++[x],ClN c0 z) hun (λid hid=>by rw[hcl4];exact hnr (hun id hid)) λh1 h2=>⟨h1.1,h1.2.1,h1.2.2.1,snoc h1.2.2.2 λ_=>h2⟩;simp only[JY,JP,aJ];obtain⟨L8,H8⟩:=m4;simp only at hH4 hf4;subst hH4;refine hK _ _ L8 hS5 ?_ ?_
      ·rw[hf4 16 (by decide),hf3 16 (by decide),h9.1];exact hL7
      ·rw[hf4 96 (by decide),hf3 96 (by decide),h9.2];exact h967
     simp only[ndC] at grow
     cases hst:ee x with
     |true=>
      rw[hst] at hks;have hun:∀id∈eF x,Need f id:=λid hid=>.base (List.mem_flatMap.2 ⟨p,hpm,List.mem_append_left _ (List.mem_flatMap.2 ⟨x,List.mem_filter.2 ⟨hxm,hst⟩,hid⟩)⟩)
      repeat' (first
      |with_reducible (first|refine ai ?_|refine ar ?_|refine au rfl ?_|refine bc rfl ?_|refine aj (id:=7) (λQ7 hn7 hx7 hr7 ho7=>?_))
      |(with_reducible ((first|refine ah (λK hK=>?_)|refine aI (λK hK=>?_));(first|refine JU ?_|refine J5 ?_|refine J6 ?_|refine Ki ?_));(try simp only[SS,Nat.reduceEqDiff,ap,Nat.reduceAdd,lenS,ay,h967,ptC,aP,hlt3,aM ndE.len (by omega) h4,eR,ndC,hks,hsetL]))
      |(with_reducible refine hK _ ?_;clear hK K))
      refine grow hun _ ⟨by simp[aq],by simp[aq]⟩ (λy=>K ⟨[(1,.ptr (.l 16) g1 0),(3,.ref (.g 0) 1 0 n),(4,y.1),(5,.int .i64 d.length),(6,.ptr (.l 96) g6 0),(8,.int .i64 d2.length)],y.2⟩) λb' c' L' q1 q2 q3=>?_;refine hK _ ?_;clear hK K
      repeat' (first
      |with_reducible refine hn7 _ ?_
      |(with_reducible (refine aI (λK hK=>?_);refine J4 ?_);(try simp only[SS,Nat.reduceEqDiff,hw2]))
      |(with_reducible refine hK _ ?_;clear hK K))
      exact step c' b' L' q1 q2 q3
     |false=>
      rw[hst] at hks;have h6:¬x.op=6:=λh=>by simp[ee,h] at hst
      have hxi:x.id∈f.parts.flatMap Hf:=List.mem_flatMap.2 ⟨p,hpm,List.mem_append_right _ (List.mem_map.2 ⟨x,List.mem_filter.2 ⟨hxm,by simp[h6]⟩,rfl⟩)⟩;obtain⟨hx0,hx1⟩:=hfi.ids _ hxi;obtain⟨y,hy⟩:∃y,c4[x.id.toNat]?=some y:=⟨_,List.getElem?_eq_getElem (by omega)⟩;have hix1:=hix x.id hx0 (by omega);have hld1:=λL=>hld L c4 x.id y hy
      cases y with
      |false=>
       repeat' (first
       |with_reducible (first|refine ai ?_|refine ar ?_|refine au rfl ?_|refine bn rfl ?_|refine bx ?_|refine aj (id:=7) (λQ7 hn7 hx7 hr7 ho7=>?_)|refine hn7 _ ?_)
       |(with_reducible ((first|refine ah (λK hK=>?_)|refine aI (λK hK=>?_));(first|refine JU ?_|refine J5 ?_|refine J6 ?_|refine J4 ?_));(try simp only[SS,Nat.reduceEqDiff,ap,Nat.reduceAdd,lenS,ay,h967,ptC,aP,hlt3,aM ndE.len (by omega) h4,eR,ndC,hks,hsetL,hix1,hld1,hw2]))
       |(with_reducible refine hK _ ?_;clear hK K))
       exact step c4 b4 _ (hS4.next λe h=>⟨h.1,h.2.1,h.2.2.1,snoc h.2.2.2 λh3=>by rw[←e,hy,hst] at h3;simp at h3⟩) (by simp[aq,hL7]) (by simp[aq,h967])
      |true=>
       have hxn:Need f x.id:=by have:=hS4.snd _ hy;rwa [show((x.id.toNat:Nat):Int)=x.id by omega] at this
       have hun:∀id∈eF x,Need f id:=upn (List.mem_flatMap.2 ⟨p,hpm,List.mem_append_right _ (List.mem_map.2 ⟨x,List.mem_filter.2 ⟨hxm,by simp[h6]⟩,rfl⟩)⟩) hxn
       repeat' (first
       |with_reducible (first|refine ai ?_|refine ar ?_|refine au rfl ?_|refine bc rfl ?_|refine aj (id:=7) (λQ7 hn7 hx7 hr7 ho7=>?_))
       |(with_reducible ((first|refine ah (λK hK=>?_)|refine aI (λK hK=>?_));(first|refine JU ?_|refine J5 ?_|refine J6 ?_|refine Ki ?_));(try simp only[SS,Nat.reduceEqDiff,ap,Nat.reduceAdd,lenS,ay,h967,ptC,aP,hlt3,aM ndE.len (by omega) h4,eR,ndC,hks,hsetL,hix1,hld1]))
       |(with_reducible refine hK _ ?_;clear hK K))
       refine grow hun _ ⟨by simp[aq],by simp[aq]⟩ (λy=>K ⟨[(1,.ptr (.l 16) g1 0),(3,.ref (.g 0) 1 0 n),(4,y.1),(5,.int .i64 d.length),(6,.ptr (.l 96) g6 0),(8,.int .i64 d2.length)],y.2⟩) λb' c' L' q1 q2 q3=>?_;refine hK _ ?_;clear hK K
       repeat' (first
       |with_reducible refine hn7 _ ?_
       |(with_reducible (refine aI (λK hK=>?_);refine J4 ?_);(try simp only[SS,Nat.reduceEqDiff,hw2]))
       |(with_reducible refine hK _ ?_;clear hK K))
       exact step c' b' L' q1 q2 q3
end Go.Cm
namespace Go.Cm
open Go.Proofs Go.Ir Go.Gr
theorem Kc {d:Nat}{m:Mem}{x:Option (CV×Mem)}:qR [(true,d)] m x=x:=by
 unfold qR
 cases x with
 |none=>rfl
 |some y=>simp
theorem JV {α:Type}{e:α→List CV}{sz j d:Nat}{m:Mem}{v:CV}{l:List α}{β:Type}{x:Option β}(h:OwnE e sz m j v l) (hj:16*d≤j):qQ [(true,d)] v x=x:=by
 rcases h with⟨_,rfl⟩|⟨_,g,rfl,_⟩
 ·exact Gw
 ·rw[Gv,if_neg (by omega),Ea]
theorem k25 (f:Cd) (hf:Sized f) (hc:bG f=true) {fid:FuncId}{d:Tmp}{L:List (Nat×HO)}:aB An FF fid (some d) 25 [.agg [sl ptC f.parts,.int .i64 f.values]] ⟨L,[]⟩=some (.ref (.g 0) 1 0 f.values.toNat,⟨L,[.arr 1 1 ((G6 f).flatMap bS) 0]⟩):=by
 have h:=x25 f hf;rw[hc,if_pos rfl] at h;have:=cf (fid:=fid) (d:=d) (m:=⟨L,[]⟩) (args:=[.agg (aZ f)]) (A:=An) rfl rfl h;exact this
set_option maxHeartbeats 4000000 in
theorem x23 (f:Cd) (hf:Sized f) (hS:∀p∈f.parts,p.phis.length≤1048576∧p.nodes.length≤1048576) :
  ∃r,(∃H',r=(if bG f=true then CV.tuple [.agg [rowC ptR (F4 f).parts,.int .i64 f.values],.int .i64 0] else CV.tuple [.agg [.nil,.int .i64 0],.int .i64 160],H'))∧FF 23 [.agg (aZ f)] []=some r:=by
 have hkc:∀d m,aB An FF 23 (some d) 16 [.agg [sl ptC f.parts,.int .i64 f.values]] m=_:=λd m=>k16 f hf (fid:=23) (d:=d) (m:=m)
 cases hc:bG f with
 |false=>
  rw[hc,if_neg (by decide)] at hkc;refine bA rfl Try.func23 s23 (Nat.le_of_ble_eq_true rfl) (λQ hqr hqn=>?_);rw[bf (show An.pure 23=true from rfl) (by simp only[cans,aG,az,aC,aH,codeE.can])];simp only[aO,Nat.reduceAdd,c23]
  repeat' (first
  |with_reducible (first|refine ai ?_|refine au rfl ?_|refine b6 ?_)
  |(with_reducible (first|(refine ah (λK hK=>?_);(first|refine t23r0 ?_|refine t23r1 ?_|refine t23r2 ?_))|refine hqr _ ?_);(try simp only[SS,Nat.reduceEqDiff,ap,bv,aR,aS,Nat.reduceAdd,br,bg,ay,Bool.false_eq_true,r23,Hh,aQ,ak,aD,am,dD,gI,vV,bz,bW,aZ,hkc]))
  |(revert hK;intro hK;(first|refine And.intro ?_ ?_|intro _|omega|(with_reducible refine hK _ ?_;clear hK K))))
  all_goals exact⟨_,rfl⟩
 |true=>
  rw[hc,if_pos rfl] at hkc;have hfi:=l6 hc;obtain⟨n,hn⟩:∃n:Nat,f.values=(n:Int):=⟨f.values.toNat,by have:=hfi.values.1;omega⟩;have hn1:n≤65536:=by have:=hfi.values.2;omega
  have hnt:f.values.toNat=n:=by omega
  have hnl:(G6 f).length=n:=by simp[G6,hnt]
  have hcn:=λd L=>k25 f hf hc (fid:=23) (d:=d) (L:=L);rw[hnt] at hcn;have hsetL:∀(L:List (Nat×HO)) (H:List HO) j o,bi ⟨L,H⟩ j o=⟨cF L j o,H⟩:=λ_ _ _ _=>rfl;refine bA rfl Try.func23 s23 (Nat.le_of_ble_eq_true rfl) (λQ hqr hqn=>?_);rw[bf (show An.pure 23=true from rfl) (by simp only[cans,aG,az,aC,aH,codeE.can])];simp only[aO,Nat.reduceAdd,c23]
  repeat' (first
  |with_reducible (first|refine ai ?_|refine ar ?_|refine ax rfl ?_|refine aj (id:=0) (λQ0 hn0 hx0 hr0 ho0=>?_))
  |(with_reducible (refine ah (λK hK=>?_);(first|refine t23r0 ?_|refine t23r1 ?_|refine t23r3 ?_|refine t23r4 ?_|refine t23r5 ?_));(try simp only[SS,Nat.reduceEqDiff,ap,bv,eE,Nat.reduceAdd,br,dy,bg,ay,aZ,hsetL,hkc,hcn,aP]))
  |(with_reducible refine hK _ ?_;clear hK K))
  obtain⟨g1,hg1⟩:∃g,bj [] 16=g:=⟨_,rfl⟩;obtain⟨g2,hg2⟩:∃g,bj [] 32=g:=⟨_,rfl⟩;obtain⟨g5,hg5⟩:∃g,bj [] 80=g:=⟨_,rfl⟩;rw[hg1,hg2,hg5];have hpl:=hf.parts;refine aU (λk s=>∃(d t:List Pt) (vG:CV) (L:List (Nat×HO)),f.parts=d++t∧k=t.length∧(aK L 16=some (.var g1 [sl ptC f.parts,.int .i64 f.values] 0)∧aK L 32=some (.var g2 [.nil,.int .i64 0] 0)∧aK L 80=some (.var g5 [vG,.int .i64 f.values] 0)∧OwnE ptR 10 ⟨L,[.arr 1 1 ((G6 f).flatMap bS) 0]⟩ 1616 vG (d.map (Gj f))) ∧
   s=⟨[(1,.ptr (.l 16) g1 0),(2,.ptr (.l 32) g2 0),(4,.ref (.g 0) 1 0 n),(5,.ptr (.l 80) g5 0),(6,.int .i64 d.length)],⟨L,[.arr 1 1 ((G6 f).flatMap bS) 0]⟩⟩) _ ⟨[],f.parts,.nil,_,rfl,rfl,⟨by simp[aq],by simp[aq],by simp[aq],.inl ⟨rfl,rfl⟩⟩,rfl⟩ ?_
  rintro k s ⟨d,t,vG,L,h2,rfl,hBase,rfl⟩ QL2 hnL2 hxL2 hrL2;have hlen:=congrArg List.length h2;simp only[List.length_append] at hlen;simp only[c23l2];obtain⟨b1,b2,b3,b4⟩:=hBase;obtain⟨HH,hHH⟩:∃HH:List HO,HH=[.arr 1 1 ((G6 f).flatMap bS) 0]:=⟨_,rfl⟩;have hix:∀x:Int,0≤x→x<n→bd 1 (.ref (.g 0) 1 0 n) (.int .i64 x)=some (.ptr (.g 0) 1 x.toNat):=λx h0 h1=>by
   rw[bD,if_pos ⟨h0,by omega⟩];simp
  have hld:∀L (x:Int),0≤x→x<n→ld1 ⟨L,HH⟩ (.ptr (.g 0) 1 x.toNat)=some (.bool (F5 f x)):=λL x h0 h1=>by
   have h3:HH[0]?=some (.arr 1 1 ((G6 f).flatMap bS) 0):=by rw[hHH];rfl
   rw[ce,h3,bM,Ip hfi h0 (by omega)]
  rw[←hHH] at b4 hnL2 ⊢
  cases t with
  |nil=>
   simp only[List.length_nil] at hlen;rw[List.append_nil] at h2;rw[←h2] at b4
   repeat' (first
   |with_reducible (first|refine ai ?_|refine ax rfl ?_|refine aN ?_|refine aF ?_|refine hx0 _ ?_|refine hxL2 _ _ ?_)
   |(with_reducible (first|(refine ah (λK hK=>?_);(first|refine t23r6 ?_|refine t23r21 ?_))|refine hqr _ ?_);(try simp only[SS,Nat.reduceEqDiff,ap,Nat.reduceAdd,lenS,cD,ay,r23,Hh,aQ,ak,aD,am,dD,gI,bz,bW,b1,b2,b3,aP]))
   |(revert hK;intro hK;(first|refine And.intro ?_ ?_|intro _|omega|(with_reducible refine hK _ ?_;clear hK K))))
   have b5:OwnE ptR 10 (bi { L:=L,H:=HH } 32 (HO.var g2 [vG,CV.int IntKind.i64 f.values] 0)) 1616 vG (f.parts.map (Gj f)):=b4.keep (by simp[bi,aq]);obtain⟨m1,e1,e2⟩:=b5.seen.esc5 Iq;rw[e1,aJ]
   exact⟨_,rfl,rfl⟩
  |cons p t=>
   simp only[List.length_cons] at hlen;have hpm:p∈f.parts:=by rw[h2];simp
   obtain⟨hphl,hphs⟩:=hf.phis p hpm;obtain⟨hndl,hnds⟩:=hf.nodes p hpm;have hltd:(d.length:Int)<f.parts.length:=by omega
   have hwd:IntKind.i64.wrap ((d.length:Int)+1)=d.length+1:=wI (by omega) (by omega);obtain⟨Base,hBd⟩:∃Base:List (Nat×HO)→Prop,Base=λL=>(aK L 16=some (.var g1 [sl ptC f.parts,.int .i64 f.values] 0)∧aK L 32=some (.var g2 [.nil,.int .i64 0] 0)∧aK L 80=some (.var g5 [vG,.int .i64 f.values] 0)∧OwnE ptR 10 ⟨L,HH⟩ 1616 vG (d.map (Gj f))):=⟨_,rfl⟩;have hBk:∀{L L'},Base L→(∀i,i=16∨i=32∨i=80∨i=1616→aK L' i=aK L i)→Base L':=λ{L L'} h hk=>by
    rw[hBd] at h ⊢
    exact⟨by rw[hk 16 (by simp)];exact h.1,by rw[hk 32 (by simp)];exact h.2.1,by rw[hk 80 (by simp)];exact h.2.2.1,h.2.2.2.keep (hk 1616 (by simp))⟩
   have hB0:Base L:=by rw[hBd];exact⟨b1,b2,b3,b4⟩
   have hidp:∀id∈Hf p,0≤id∧id<f.values:=λid hid=>hfi.ids id (List.mem_flatMap.2 ⟨p,hpm,hid⟩);have hfill:bg [.nil,.nil,.nil,.int .i64 0,.int .i64 0,.bool false,.int .i64 0,.int .i64 0,.int .i64 0,.int .i64 0] [(0,1,sl aX p.pred),(3,7,.agg [.int .i64 p.fin.op,.int .i64 p.fin.cond,.bool p.fin.wide,.int .i64 p.fin.a,.int .i64 p.fin.b,.int .i64 p.fin.to,.int .i64 p.fin.els])] =
     some [sl aX p.pred,.nil,.nil,.int .i64 p.fin.op,.int .i64 p.fin.cond,.bool p.fin.wide,.int .i64 p.fin.a,.int .i64 p.fin.b,.int .i64 p.fin.to,.int .i64 p.fin.els]:=rfl
   repeat' (first
   |with_reducible (first|refine ai ?_|refine ar ?_|refine au rfl ?_|refine aj (id:=1) (λQ1 hn1 hx1 hr1 ho1=>?_)|refine aj (id:=2) (λQ2 hn2 hx2 hr2 ho2=>?_))
   |(with_reducible (refine ah (λK hK=>?_);(first|refine t23r6 ?_|refine t23r8 ?_|refine t23r9 ?_|refine t23r10 ?_));(try simp only[SS,Nat.reduceEqDiff,ap,bv,eE,Nat.reduceAdd,lenS,dy,ay,b1,aP,hltd,aM ptE.len (by omega) h2,ct,ptC,hsetL,hfill]))
   |(with_reducible refine hK _ ?_;clear hK K))
   obtain⟨g7,hg7⟩:∃g,bj L 112=g:=⟨_,rfl⟩;obtain⟨g8,hg8⟩:∃g,bj L 128=g:=⟨_,rfl⟩;rw[hg7,hg8];refine aU (λk s=>∃(d1 t1:List Ph) (vP:CV) (L:List (Nat×HO)),p.phis=d1++t1∧k=t1.length∧Base L∧aK L 112=some (.var g7 (ptC p) 0) ∧
    aK L 128=some (.var g8 [sl aX p.pred,vP,.nil,.int .i64 p.fin.op,.int .i64 p.fin.cond,.bool p.fin.wide,.int .i64 p.fin.a,.int .i64 p.fin.b,.int .i64 p.fin.to,.int .i64 p.fin.els] 0) ∧
    OwnE phC 2 ⟨L,HH⟩ 976 vP (d1.filter λx=>F5 f x.id) ∧
    s=⟨[(1,.ptr (.l 16) g1 0),(2,.ptr (.l 32) g2 0),(4,.ref (.g 0) 1 0 n),(5,.ptr (.l 80) g5 0),(6,.int .i64 d.length),(7,.ptr (.l 112) g7 0),(8,.ptr (.l 128) g8 0),(9,.int .i64 d1.length)],⟨L,HH⟩⟩) _
    ⟨[],p.phis,.nil,_,rfl,rfl,hBk hB0 (by rintro i (rfl|rfl|rfl|rfl)<;>simp[aq]),by simp[aq,ptC],by simp[aq],.inl ⟨rfl,rfl⟩,rfl⟩ ?_
   rintro k s ⟨d1,t1,vP,L1,h3,rfl,hB1,hL7,hL8,hO1,rfl⟩ QL0 hnL0 hxL0 hrL0;have hlen1:=congrArg List.length h3;simp only[List.length_append] at hlen1;simp only[c23l0]
   cases t1 with
   |cons x t1=>
    simp only[List.length_cons] at hlen1;have hlt1:(d1.length:Int)<p.phis.length:=by omega
    have hw1:IntKind.i64.wrap ((d1.length:Int)+1)=d1.length+1:=wI (by omega) (by omega);obtain⟨hx0,hx1⟩:=hidp x.id (List.mem_append_left _ (List.mem_map.2 ⟨x,by rw[h3];simp,rfl⟩));have hix1:=hix x.id hx0 (by omega);have hld1:=λL=>hld L x.id hx0 (by omega);have hnext:∀vP' L',Base L'→aK L' 112=some (.var g7 (ptC p) 0)→aK L' 128=some (.var g8 [sl aX p.pred,vP',.nil,.int .i64 p.fin.op,.int .i64 p.fin.cond,.bool p.fin.wide,.int .i64 p.fin.a,.int .i64 p.fin.b,.int .i64 p.fin.to,.int .i64 p.fin.els] 0) →
      OwnE phC 2 ⟨L',HH⟩ 976 vP' ((d1++[x]).filter λx=>F5 f x.id)→QL0 .normal ⟨[(1,.ptr (.l 16) g1 0),(2,.ptr (.l 32) g2 0),(4,.ref (.g 0) 1 0 n),(5,.ptr (.l 80) g5 0),(6,.int .i64 d.length),(7,.ptr (.l 112) g7 0),(8,.ptr (.l 128) g8 0),(9,.int .i64 (d1.length+1))],⟨L',HH⟩⟩:=λvP' L' q1 q2 q3 q4=>by
     rw[show((d1.length:Int)+1)=((d1++[x]).length:Int) by simp];exact hnL0 t1.length _ (by simp) ⟨d1++[x],t1,vP',L',by simp[h3],rfl,q1,q2,q3,q4,rfl⟩
    cases hb:F5 f x.id with
    |false=>
     rw[hb] at hld1
     repeat' (first
     |with_reducible (first|refine ai ?_|refine ar ?_|refine au rfl ?_|refine bn rfl ?_|refine bx ?_|refine aj (id:=3) (λQ3 hn3 hx3 hr3 ho3=>?_)|refine hn3 _ ?_)
     |(with_reducible ((first|refine ah (λK hK=>?_)|refine aI (λK hK=>?_));(first|refine J0 ?_|refine Ke ?_|refine Kd ?_));(try simp only[SS,Nat.reduceEqDiff,bL,dw,lenS,hL7,ptC,aP,hlt1,aM phE.len (by omega) h3,phC,hix1,hld1,hw1]))
     |(with_reducible refine hK _ ?_;clear hK K))
     refine hnext vP _ hB1 hL7 hL8 ?_;rw[List.filter_append];simp only[List.filter_cons,hb,Bool.false_eq_true,if_false,List.filter_nil,List.append_nil];exact hO1
    |true=>
     rw[hb] at hld1;have hof:∀m x,qQ [(true,54)] vP (qR [(true,54)] m x)=x:=λm x=>by rw[Kc,JV hO1 (by decide)]
     repeat' (first
     |with_reducible (first|refine ai ?_|refine ar ?_|refine au rfl ?_|refine bc rfl ?_|refine aj (id:=3) (λQ3 hn3 hx3 hr3 ho3=>?_))
     |(with_reducible ((first|refine ah (λK hK=>?_)|refine aI (λK hK=>?_));(first|refine J0 ?_|refine Ke ?_|refine t23r14 ?_));(try simp only[SS,Nat.reduceEqDiff,Nat.reduceMul,bL,dw,lenS,Nat.reduceLeDiff,uc,sa,Gs,decide_false,Bool.or_false,Bool.false_eq_true,hL7,hL8,ptC,aP,hlt1,aM phE.len (by omega) h3,phC,qG,hix1,hld1,hof,eC]))
     |(with_reducible refine hK _ ?_;clear hK K))
     have hf1:bg [CV.int IntKind.i64 0,CV.nil] [(0,2,CV.agg [CV.int IntKind.i64 x.id,sl aX x.src])]=some (phC x):=rfl;rw[Ia hf1 (cn rfl),aJ];simp only[hof];have hSp:=(hS p hpm).1;have hfl:=List.length_filter_le (λx=>F5 f x.id) d1;refine OwnE.app (l:=d1.filter λx=>F5 f x.id) (ys:=[x]) ?_ phE.len (by simp only[cU,ba,if_true,dz];rfl) rfl (by decide) (by simp only[List.length_singleton];omega) λv' m' r1 r2 r3=>?_
     ·exact hO1.keep (by simp[bi,aq])
     obtain⟨L',H'⟩:=m';simp only[ik] at r2;subst r2;rcases r1 with⟨h,_⟩|⟨hne,gv,rfl,hr1⟩
     ·simp at h
     have hk0:∀i,i≠976→i≠960→aK L' i=aK L1 i:=λi n1 n2=>by
      have:=r3 i n1;simp only at this;rw[this];simp[bi,aq,Ne.symm n2]
     have h128:=(hk0 128 (by decide) (by decide)).trans hL8;simp only[ap,h128,lj,List.length_singleton,List.length_cons,List.length_nil];rw[if_pos ⟨trivial,by decide,by decide⟩,aJ];refine hK _ ?_;clear hK K
     repeat' (first
     |with_reducible refine hn3 _ ?_
     |(with_reducible (refine aI (λK hK=>?_);refine Kd ?_);(try simp only[SS,Nat.reduceEqDiff,Nat.reduceAdd,ay,hw1,hsetL]))
     |(with_reducible refine hK _ ?_;clear hK K))
     refine hnext (.ref (.l 976) gv 0 ((d1.filter λx=>F5 f x.id)++[x]).length) _ (hBk hB1 (by rintro i (rfl|rfl|rfl|rfl)<;>(rw[aq,if_neg (by decide)];exact hk0 _ (by decide) (by decide)))) (by rw[aq,if_neg (by decide),hk0 112 (by decide) (by decide)];exact hL7) (by rw[aq,if_pos rfl]) ?_;rw[List.filter_append];simp only[List.filter_cons,hb,if_true,List.filter_nil];exact .inr ⟨hne,gv,rfl,by rw[aq,if_neg (by decide)];exact hr1⟩
   |nil=>
    simp only[List.length_nil] at hlen1;rw[List.append_nil] at h3;rw[←h3] at hO1;obtain⟨keepN,hkN⟩:∃keepN:Nd→Bool,keepN=λn=>ee n||F5 f n.id:=⟨_,rfl⟩
    repeat' (first
    |with_reducible (first|refine ai ?_|refine ax rfl ?_|refine aN ?_|refine hx2 _ ?_|refine aj (id:=4) (λQ4 hn4 hx4 hr4 ho4=>?_)|refine hxL0 _ _ ?_)
    |(with_reducible (refine ah (λK hK=>?_);(first|refine J0 ?_|refine t23r15 ?_));(try simp only[SS,Nat.reduceEqDiff,lenS,hL7,ptC,aP]))
    |(revert hK;intro hK;(first|refine And.intro ?_ ?_|intro _|omega|(with_reducible refine hK _ ?_;clear hK K))))
    refine aU (λk s=>∃(d2 t2:List Nd) (vN:CV) (L:List (Nat×HO)),p.nodes=d2++t2∧k=t2.length∧Base L∧aK L 112=some (.var g7 (ptC p) 0) ∧
     aK L 128=some (.var g8 [sl aX p.pred,vP,vN,.int .i64 p.fin.op,.int .i64 p.fin.cond,.bool p.fin.wide,.int .i64 p.fin.a,.int .i64 p.fin.b,.int .i64 p.fin.to,.int .i64 p.fin.els] 0) ∧
     OwnE phC 2 ⟨L,HH⟩ 976 vP (p.phis.filter λx=>F5 f x.id)∧OwnE ndC 12 ⟨L,HH⟩ 1520 vN (d2.filter keepN) ∧
     s=⟨[(1,.ptr (.l 16) g1 0),(2,.ptr (.l 32) g2 0),(4,.ref (.g 0) 1 0 n),(5,.ptr (.l 80) g5 0),(6,.int .i64 d.length),(7,.ptr (.l 112) g7 0),(8,.ptr (.l 128) g8 0),(10,.int .i64 d2.length)],⟨L,HH⟩⟩) _
     ⟨[],p.nodes,.nil,_,rfl,rfl,hB1,hL7,hL8,hO1,.inl ⟨rfl,rfl⟩,rfl⟩ ?_
    rintro k s ⟨d2,t2,vN,L2,h4,rfl,hB2,hL72,hQ2,hP2,hO2,rfl⟩ QL1 hnL1 hxL1 hrL1;have hlen2:=congrArg List.length h4;simp only[List.length_append] at hlen2;simp only[c23l1]
    cases t2 with
    |cons x t2=>
     simp only[List.length_cons] at hlen2;have hlt2:(d2.length:Int)<p.nodes.length:=by omega
     have hw2:IntKind.i64.wrap ((d2.length:Int)+1)=d2.length+1:=wI (by omega) (by omega);have hks:=λd m=>k54 x (fid:=23) (d:=d) (m:=m);simp only[ndC] at hks;have hnext:∀vN' L',Base L'→aK L' 112=some (.var g7 (ptC p) 0)→aK L' 128=some (.var g8 [sl aX p.pred,vP,vN',.int .i64 p.fin.op,.int .i64 p.fin.cond,.bool p.fin.wide,.int .i64 p.fin.a,.int .i64 p.fin.b,.int .i64 p.fin.to,.int .i64 p.fin.els] 0)→OwnE phC 2 ⟨L',HH⟩ 976 vP (p.phis.filter λx=>F5 f x.id)→OwnE ndC 12 ⟨L',HH⟩ 1520 vN' ((d2++[x]).filter keepN) →
       QL1 .normal ⟨[(1,.ptr (.l 16) g1 0),(2,.ptr (.l 32) g2 0),(4,.ref (.g 0) 1 0 n),(5,.ptr (.l 80) g5 0),(6,.int .i64 d.length),(7,.ptr (.l 112) g7 0),(8,.ptr (.l 128) g8 0),(10,.int .i64 (d2.length+1))],⟨L',HH⟩⟩:=λvN' L' q1 q2 q3 q4 q5=>by
      rw[show((d2.length:Int)+1)=((d2++[x]).length:Int) by simp];exact hnL1 t2.length _ (by simp) ⟨d2++[x],t2,vN',L',by simp[h4],rfl,q1,q2,q3,q4,q5,rfl⟩
     have happ:keepN x=true→∀(K:Mem→Prop),(∀vN' L',Base L'→aK L' 112=some (.var g7 (ptC p) 0)→aK L' 128=some (.var g8 [sl aX p.pred,vP,vN',.int .i64 p.fin.op,.int .i64 p.fin.cond,.bool p.fin.wide,.int .i64 p.fin.a,.int .i64 p.fin.b,.int .i64 p.fin.to,.int .i64 p.fin.els] 0)→OwnE phC 2 ⟨L',HH⟩ 976 vP (p.phis.filter λx=>F5 f x.id)→OwnE ndC 12 ⟨L',HH⟩ 1520 vN' ((d2++[x]).filter keepN)→K ⟨L',HH⟩) →
       Obt (be false 1504 12 1 [.int .i64 0,.int .i64 0,.int .i64 0,.bool false,.int .i64 0,.int .i64 0,.int .u64 0,.int .i64 0,.int .i64 0,.bool false,.nil,.int .i64 0] [(0,12,.agg (ndC x))] ⟨L2,HH⟩) λa3=>
        Obt (ej false 1520 12 112 vN a3.1 a3.2) λa4=>Obt (stV 1 a4.2 128 g8 2 (ap a4.1) (aK a4.2.L 128)) K:=λhk K hK=>by
      have hf1:bg [.int .i64 0,.int .i64 0,.int .i64 0,.bool false,.int .i64 0,.int .i64 0,.int .u64 0,.int .i64 0,.int .i64 0,.bool false,.nil,.int .i64 0] [(0,12,.agg (ndC x))]=some (ndC x):=rfl;rw[Ia hf1 (cn rfl),aJ];have hSp:=(hS p hpm).2;have hfl:=List.length_filter_le keepN d2;refine OwnE.app (l:=d2.filter keepN) (ys:=[x]) ?_ ndE.len (by simp only[cU,ba,if_true,dz];rfl) rfl (by decide) (by simp only[List.length_singleton];omega) λv' m' r1 r2 r3=>?_
      ·exact hO2.keep (by simp[bi,aq])
      obtain⟨L',H'⟩:=m';simp only[ik] at r2;subst r2;rcases r1 with⟨h,_⟩|⟨hne,gv,rfl,hr1⟩
      ·simp at h
      have hk0:∀i,i≠1520→i≠1504→aK L' i=aK L2 i:=λi n1 n2=>by
       have:=r3 i n1;simp only at this;rw[this];simp[bi,aq,Ne.symm n2]
      have h128:=(hk0 128 (by decide) (by decide)).trans hQ2;simp only[ap,h128,lj,List.length_singleton,List.length_cons,List.length_nil];rw[if_pos ⟨trivial,by decide,by decide⟩,aJ];refine hK (.ref (.l 1520) gv 0 (d2.filter keepN++[x]).length) _ (hBk hB2 (by rintro i (rfl|rfl|rfl|rfl)<;>(rw[aq,if_neg (by decide)];exact hk0 _ (by decide) (by decide)))) (by rw[aq,if_neg (by decide),hk0 112 (by decide) (by decide)];exact hL72) (by rw[aq,if_pos rfl];rfl) (hP2.keep (by rw[aq,if_neg (by decide)];exact hk0 _ (by decide) (by decide))) ?_;rw[List.filter_append];simp only[List.filter_cons,hk,if_true,List.filter_nil];exact .inr ⟨hne,gv,rfl,by rw[aq,if_neg (by decide)];exact hr1⟩
     have hof:∀m x,qQ [(true,88)] vN (qR [(true,88)] m x)=x:=λm x=>by rw[Kc,JV hO2 (by decide)]
     simp only[ndC] at happ
     cases hs:ee x with
     |true=>
      rw[hs] at hks;have hk:keepN x=true:=by rw[hkN];simp[hs]
      repeat' (first
      |with_reducible (first|refine ai ?_|refine ar ?_|refine au rfl ?_|refine bc rfl ?_|refine aj (id:=5) (λQ5 hn5 hx5 hr5 ho5=>?_))
      |(with_reducible ((first|refine ah (λK hK=>?_)|refine aI (λK hK=>?_));(first|refine JT ?_|refine J2 ?_|refine Kf ?_));(try simp only[SS,Nat.reduceEqDiff,Nat.reduceMul,lenS,Nat.reduceLeDiff,uc,sa,Gs,decide_false,Bool.or_false,Bool.false_eq_true,hL72,hQ2,ptC,aP,hlt2,aM ndE.len (by omega) h4,eR,ndC,hks,hof,eC]))
      |(with_reducible refine hK _ ?_;clear hK K))
      refine happ hk _ λvN' L' q1 q2 q3 q4 q5=>?_;refine hK _ ?_;clear hK K
      repeat' (first
      |with_reducible refine hn5 _ ?_
      |(with_reducible (refine aI (λK hK=>?_);refine J1 ?_);(try simp only[SS,Nat.reduceEqDiff,hw2]))
      |(with_reducible refine hK _ ?_;clear hK K))
      exact hnext vN' L' q1 q2 q3 q4 q5
     |false=>
      rw[hs] at hks;have h6:¬x.op=6:=λh=>by simp[ee,h] at hs
      obtain⟨hx0,hx1⟩:=hidp x.id (List.mem_append_right _ (List.mem_map.2 ⟨x,List.mem_filter.2 ⟨by rw[h4];simp,by simp[h6]⟩,rfl⟩));have hix1:=hix x.id hx0 (by omega);have hld1:=λL=>hld L x.id hx0 (by omega)
      cases hb:F5 f x.id with
      |true=>
       rw[hb] at hld1;have hk:keepN x=true:=by rw[hkN];simp[hb]
       repeat' (first
       |with_reducible (first|refine ai ?_|refine ar ?_|refine au rfl ?_|refine bc rfl ?_|refine aj (id:=5) (λQ5 hn5 hx5 hr5 ho5=>?_))
       |(with_reducible ((first|refine ah (λK hK=>?_)|refine aI (λK hK=>?_));(first|refine JT ?_|refine J2 ?_|refine Kf ?_));(try simp only[SS,Nat.reduceEqDiff,Nat.reduceMul,bL,dw,lenS,Nat.reduceLeDiff,uc,sa,Gs,decide_false,Bool.or_false,Bool.false_eq_true,hL72,hQ2,ptC,aP,hlt2,aM ndE.len (by omega) h4,eR,ndC,hks,hix1,hld1,hof,eC]))
       |(with_reducible refine hK _ ?_;clear hK K))
       refine happ hk _ λvN' L' q1 q2 q3 q4 q5=>?_;refine hK _ ?_;clear hK K
       repeat' (first
       |with_reducible refine hn5 _ ?_
       |(with_reducible (refine aI (λK hK=>?_);refine J1 ?_);(try simp only[SS,Nat.reduceEqDiff,hw2]))
       |(with_reducible refine hK _ ?_;clear hK K))
       exact hnext vN' L' q1 q2 q3 q4 q5
      |false=>
       rw[hb] at hld1;have hk:keepN x=false:=by rw[hkN];simp[hs,hb]
       repeat' (first
       |with_reducible (first|refine ai ?_|refine ar ?_|refine au rfl ?_|refine bn rfl ?_|refine bx ?_|refine aj (id:=5) (λQ5 hn5 hx5 hr5 ho5=>?_)|refine hn5 _ ?_)
       |(with_reducible ((first|refine ah (λK hK=>?_)|refine aI (λK hK=>?_));(first|refine JT ?_|refine J2 ?_|refine J1 ?_));(try simp only[SS,Nat.reduceEqDiff,bL,dw,lenS,hL72,ptC,aP,hlt2,aM ndE.len (by omega) h4,eR,ndC,hks,hix1,hld1,hw2]))
       |(with_reducible refine hK _ ?_;clear hK K))
       refine hnext vN _ hB2 hL72 hQ2 hP2 ?_;rw[List.filter_append];simp only[List.filter_cons,hk,Bool.false_eq_true,if_false,List.filter_nil,List.append_nil];exact hO2
    |nil=>
     simp only[List.length_nil] at hlen2;rw[List.append_nil] at h4;rw[←h4] at hO2;obtain⟨b1,b2,b3,b4⟩:aK L2 16=some (.var g1 [sl ptC f.parts,.int .i64 f.values] 0)∧aK L2 32=some (.var g2 [.nil,.int .i64 0] 0)∧aK L2 80=some (.var g5 [vG,.int .i64 f.values] 0)∧OwnE ptR 10 ⟨L2,HH⟩ 1616 vG (d.map (Gj f)):=by rw[hBd] at hB2;exact hB2
     repeat' (first
     |with_reducible (first|refine ai ?_|refine ax rfl ?_|refine aN ?_|refine hx4 _ ?_|refine hxL1 _ _ ?_)
     |(with_reducible ((first|refine ah (λK hK=>?_)|refine aI (λK hK=>?_));(first|refine JT ?_|refine t23r20 ?_));(try simp only[SS,Nat.reduceEqDiff,Nat.reduceAdd,lenS,b3,hL72,hQ2,ptC,aP,eC]))
     |(revert hK;intro hK;(first|refine And.intro ?_ ?_|intro _|omega|(with_reducible refine hK _ ?_;clear hK K))))
     obtain⟨m1,e1,e2,e3,_⟩:=hP2.seen.esc1 phE.len;have hN1:OwnE ndC 12 m1 1520 vN (p.nodes.filter keepN):=hO2.keep (by rw[e3 1520 (by decide)]);obtain⟨m2,f1,f2,f3,_⟩:=hN1.seen.esc1 ndE.len;have hfil:bg [.nil,.nil,.nil,.int .i64 0,.int .i64 0,.bool false,.int .i64 0,.int .i64 0,.int .i64 0,.int .i64 0] [(0,10,.agg [sl aX p.pred,vP,vN,.int .i64 p.fin.op,.int .i64 p.fin.cond,.bool p.fin.wide,.int .i64 p.fin.a,.int .i64 p.fin.b,.int .i64 p.fin.to,.int .i64 p.fin.els])]=some [sl aX p.pred,vP,vN,.int .i64 p.fin.op,.int .i64 p.fin.cond,.bool p.fin.wide,.int .i64 p.fin.a,.int .i64 p.fin.b,.int .i64 p.fin.to,.int .i64 p.fin.els]:=rfl;have hesc:bp ⟨L2,HH⟩ [sl aX p.pred,vP,vN,.int .i64 p.fin.op,.int .i64 p.fin.cond,.bool p.fin.wide,.int .i64 p.fin.a,.int .i64 p.fin.b,.int .i64 p.fin.to,.int .i64 p.fin.els]=some (ptR (Gj f p),m2):=by
      have hpost:bp m2 [.int .i64 p.fin.op,.int .i64 p.fin.cond,.bool p.fin.wide,.int .i64 p.fin.a,.int .i64 p.fin.b,.int .i64 p.fin.to,.int .i64 p.fin.els]=some ([.int .i64 p.fin.op,.int .i64 p.fin.cond,.bool p.fin.wide,.int .i64 p.fin.a,.int .i64 p.fin.b,.int .i64 p.fin.to,.int .i64 p.fin.els],m2):=cn rfl;have:=G7 (J8 (m:=⟨L2,HH⟩) (a:=sl aX p.pred) Im) (G7 e1 (G7 f1 hpost));rw[hkN] at this;exact this
     rw[Ia hfil hesc,aJ];have hfr:∀i,i≠976→i≠1520→aK m2.L i=aK L2 i:=λi n1 n2=>by rw[f3 i n2,e3 i n1]
     refine OwnE.app (l:=d.map (Gj f)) (ys:=[Gj f p]) ?_ Iq (by simp only[cU,ba,if_true,dz];rfl) rfl (by decide) (by simp only[List.length_singleton,List.length_map];omega) λv' m' r1 r2 r3=>?_
     ·exact b4.keep (by simp[bi,aq,hfr])
     obtain⟨L',H'⟩:=m';simp only[ik,f2,e2] at r2;subst r2;rcases r1 with⟨h,_⟩|⟨hne,gv,rfl,hr1⟩
     ·simp at h
     have hk0:∀i,i≠1616→i≠1600→i≠976→i≠1520→aK L' i=aK L2 i:=λi n1 n2 n3 n4=>by
      have:=r3 i n1;simp only at this;rw[this];simp[bi,aq,Ne.symm n2,hfr i n3 n4]
     have h80:aK L' 80=some (.var g5 [vG,.int .i64 f.values] 0):=by rw[hk0 80 (by decide) (by decide) (by decide) (by decide)];exact b3
     simp only[ap,h80,lj,List.length_singleton,List.length_cons,List.length_nil];rw[if_pos ⟨trivial,by decide,by decide⟩,aJ];refine hK _ ?_;clear hK K
     repeat' (first
     |with_reducible refine hn1 _ ?_
     |(with_reducible (refine aI (λK hK=>?_);refine t23r7 ?_);(try simp only[SS,Nat.reduceEqDiff,ay,hwd,hsetL]))
     |(with_reducible refine hK _ ?_;clear hK K))
     rw[show((d.length:Int)+1)=((d++[p]).length:Int) by simp];refine hnL2 t.length _ (by simp) ⟨d++[p],t,.ref (.l 1616) gv 0 (d.map (Gj f)++[Gj f p]).length,_,by simp[h2],rfl,⟨?_,?_,?_,?_⟩,by rw[hHH]⟩
     ·rw[aq,if_neg (by decide),hk0 16 (by decide) (by decide) (by decide) (by decide)];exact b1
     ·rw[aq,if_neg (by decide),hk0 32 (by decide) (by decide) (by decide) (by decide)];exact b2
     ·rw[aq,if_pos rfl]
     ·rw[List.map_append]
      exact .inr ⟨hne,gv,rfl,by rw[aq,if_neg (by decide)];exact hr1⟩
end Go.Cm
