import Derived.Test.YtjhndbgokapikaaFoU
import Derived.Test.YtjhndbgokapikaaFoN
set_option linter.unusedSimpArgs false
set_option linter.unusedVariables false
namespace Go.Cm
open Go.Proofs Go.Fl
open Classical in
noncomputable def vG (p:List In):List Bool:=(List.range (p.length+2)).map λi=>decide (Lead (gP p) i)
set_option maxHeartbeats 8000000 in
theorem x24 (p:List In) (h0:gW p=0):∃r,(∃H',r=(eA bS 1 (vG p),H'))∧FF 24 [sl inC p,sl aX (nI (bO (gP p)))] []=some r:=by
 have hg:Ok (gP p):=vE h0;obtain⟨hn1,hn2,_⟩:=nb h0;obtain⟨hrl,hll⟩:=nc h0;have hw2:IntKind.i64.wrap ((p.length:Int)+2)=((p.length+2:Nat):Int):=by rw[wI (by omega) (by omega)];omega
 have hmk:∀m,mkX false 208 1 1 [.bool false] (.int .i64 ((p.length+2:Nat):Int)) (.int .i64 ((p.length+2:Nat):Int)) m=some (.ref (.l 208) (bj m.L 208) 0 (p.length+2),bi m 208 (.arr (bj m.L 208) 1 ((List.replicate (p.length+2) false).flatMap bS) 0)):=λm=>by
  have:=we (j:=208) (sz:=1) (b:=1) (z:=[.bool false]) (k:=.i64) (n:=p.length+2) (m:=m) rfl (by omega) (by omega);rw[jw] at this;exact this
 have hsetL:∀(L:List (Nat×HO)) (H:List HO) i x,bi ⟨L,H⟩ i x=⟨gb L i x,H⟩:=λ_ _ _ _=>rfl;have hO0:OwnE bS 1 ⟨gb [] 208 (.arr (bj [] 208) 1 ((List.replicate (p.length+2) false).flatMap bS) 0),[]⟩ 208 (.ref (.l 208) (bj [] 208) 0 (p.length+2)) (List.replicate (p.length+2) false):=
  .inr ⟨λe=>by have:=congrArg List.length e;rw[List.length_replicate,List.length_nil] at this;omega,_,by simp;rfl,by simp[aq]⟩
 obtain⟨g0,q1,_,q3⟩:=hO0.ldB (i:=0) (b:=false) (by rw[List.getElem?_replicate];simp);obtain⟨m2,s1,s2,s3,_⟩:=q3 _ rfl true;have q1':bd 1 (.ref (.l 208) (bj [] 208) 0 (p.length+2)) (.int .i64 0)=some (.ptr (.l 208) g0 0):=q1;obtain⟨L2,H2⟩:=m2;simp only at s3;subst s3;refine bA rfl Try.func24 s24 (Nat.le_of_ble_eq_true rfl) (λQ hqr hqn=>?_);rw[bf (show An.pure 24=true from rfl) (by simp only[cans,aG,az,aC,aH,inE.can_sl,intE.can_sl])];simp only[aO,Nat.reduceAdd,c24]
 repeat' (first
 |with_reducible (first|refine ai ?_|refine aj (id:=0) (λQ0 hn0 hx0 hr0 ho0=>?_))
 |(with_reducible (refine ah (λK hK=>?_);(first|refine HC ?_|refine HD ?_|refine HF ?_|refine HG ?_));(try simp only[b9,if_true,if_false,Nat.reduceEqDiff,aJ,dg,Option.map_some,lenS,cK,if_false,if_true,aP,hw2,hmk,hsetL,q1',s1]))
 |(revert hK;intro hK;(with_reducible refine hK _ ?_;clear hK K)))
 refine aU (λk s=>∃(d t:List Nat) (B:List Bool) (vb:CV) (L:List (Nat×HO)),bO (gP p)=d++t∧k=t.length∧B.length=p.length+2∧(∀i,i<p.length+2→(B[i]?=some true↔(i=0∨∃x∈d,(gP p).jmp x=true∧i∈(gP p).succ x)))∧OwnE bS 1 ⟨L,[]⟩ 208 vb B ∧
   s=⟨[(0,sl inC p),(1,sl aX (nI (bO (gP p)))),(5,vb),(6,.int .i64 d.length)],⟨L,[]⟩⟩) _ ⟨[],_,_,_,L2,rfl,rfl,by rw[List.length_set,List.length_replicate],?_,s2,rfl⟩ ?_
 ·intro i hi
  rw[Mu (by rw[List.length_replicate];omega),List.getElem?_replicate,if_pos hi]
  by_cases e:0=i
  ·subst e;simp
  ·rw[if_neg e];simp;omega
 clear s1 s2 q1 q3 q1' hO0;rintro k s ⟨d,t,B,vb,L,h3,rfl,hBl,hBs,hB,rfl⟩ QL1 hnL1 hxL1 hrL1;have hlen:=congrArg List.length h3;simp only[List.length_append] at hlen;simp only[c24l1]
 cases t with
 |nil=>
  simp only[List.length_nil] at hlen;rw[List.append_nil] at h3;have hge:¬((d.length:Int)<(bO (gP p)).length):=by omega
  have hBL:B=vG p:=by
   refine List.ext_getElem? λi=>?_
   by_cases hi:i<p.length+2
   ·rw[vG,List.getElem?_map,List.getElem?_range hi,Option.map_some]
    have h4:=hBs i hi;have h5:B[i]?=some true↔Lead (gP p) i:=by
     rw[h4,←h3];constructor
     ·rintro(h|⟨x,h6,h7⟩)
      ·exact .inl h
      ·exact .inr ⟨x,(gc hg).1 h6,h7⟩
     ·rintro(h|⟨x,h6,h7⟩)
      ·exact .inl h
      ·exact .inr ⟨x,(gc hg).2 h6,h7⟩
    obtain⟨b,hb⟩:∃b,B[i]?=some b:=⟨_,List.getElem?_eq_getElem (by omega)⟩;rw[hb] at h5 ⊢
    cases b with
    |true=>simp[h5.1 rfl]
    |false=>simp[show ¬Lead (gP p) i from λh=>by have:=h5.2 h;simp at this]
   ·rw[List.getElem?_eq_none (by omega),List.getElem?_eq_none (by rw[vG,List.length_map,List.length_range];omega)]
  subst hBL
  repeat' (first
  |with_reducible (first|refine ai ?_|refine ax rfl ?_|refine aN ?_|refine aF ?_|refine hx0 _ ?_|refine hxL1 _ _ ?_)
  |(with_reducible (first|(refine ah (λK hK=>?_);(first|refine HI ?_|refine t24r12 ?_))|refine hqr _ ?_);(try simp only[true_implies,false_implies,not_false_eq_true,b9,if_true,if_false,Nat.reduceEqDiff,aJ,dg,eN,Option.map_some,lenS,dU,cD,true_and,if_false,if_true,r24,aQ,ak,aD,Option.bind_some,am,aV,Prod.mk.injEq,aP,d8,hge]))
  |(revert hK;intro hK;(with_reducible refine hK _ ?_;clear hK K)))
  refine hB.ret jl λm' hm'=>⟨_,rfl,rfl⟩
 |cons x t=>
  simp only[List.length_cons] at hlen;have hlt:(d.length:Int)<(bO (gP p)).length:=by omega
  have hw:IntKind.i64.wrap ((d.length:Int)+1)=d.length+1:=wI (by omega) (by omega);have hgx:(bO (gP p))[d.length]?=some x:=by rw[h3];simp
  have hix:=hY (k:=.i64) (i:=(d.length:Int)) dB (by omega:0<1) (by omega) (show(nI (bO (gP p)))[(d.length:Int).toNat]?=some (x:Int) by rw[Int.toNat_natCast,q5,hgx];rfl);have hxR:R (gP p) x:=(gc hg).1 (List.mem_of_getElem? hgx);have hxl:=hxR.live hg;have hxn:x<p.length:=hg.lt x hxl;obtain⟨ins,hins⟩:∃ins,p[x]?=some ins:=⟨_,List.getElem?_eq_getElem hxn⟩;have hixp:=hY (k:=.i64) (i:=(x:Int)) inE.len (by omega:0<6) (by omega) hins;have hjm:=Mq hins;have hwd:=PV hins;have kJ:∀t m,cd An FF 24 (some t) 26 [.agg [.int .i64 ins.op,.int .i64 ins.dst,.int .i64 ins.src,.int .i64 ins.off,.int .i64 ins.imm,.int .u64 ins.wide]] m=some (.bool (vo ins),m):=λt m=>k26;have kN:∀t m,cd An FF 24 (some t) 25 [sl inC p,.int .i64 x] m=some (.int .i64 ((x:Int)+wdI ins),m):=λt m=>k25 hn1 hins
  repeat' (first
  |with_reducible (first|refine ai ?_|refine ar ?_|refine au rfl ?_|refine aj (id:=1) (λQ1 hn1 hx1 hr1 ho1=>?_))
  |(with_reducible (refine ah (λK hK=>?_);(first|refine HI ?_|refine HK ?_|refine HL ?_));(try simp only[true_implies,false_implies,not_true_eq_false,b9,if_true,if_false,Nat.reduceEqDiff,aJ,dg,dw,eN,Option.map_some,lenS,List.nil_append,List.cons_append,and_true,if_false,if_true,aP,d8,hlt,hix,aX]))
  |(revert hK;intro hK;(with_reducible refine hK _ ?_;clear hK K)))
  refine k16 (by omega) rfl λvs m' hO hH' hf=>?_;rw[gV h0 hxl] at hO;refine hK _ ?_;clear hK K;obtain⟨L',H'⟩:=m';simp only at hH';subst hH';have hs2:((gP p).succ x).length≤2:=by
   have:=tG (p:=p) (i:=x);rw[gV h0 hxl,d8] at this;exact this
  repeat' (first
  |with_reducible refine bl (id:=2) (λQ2 hn2 hx2 hr2 ho2=>?_)
  |(with_reducible (refine ah (λK hK=>?_);refine t24r8 ?_);(try simp only[b9,if_true,if_false,Nat.reduceEqDiff,dg,if_false,if_true]))
  |(revert hK;intro hK;(with_reducible refine hK _ ?_;clear hK K)))
  refine aU (λk s=>∃(d' t':List Nat) (B':List Bool) (L:List (Nat×HO)),(gP p).succ x=d'++t'∧k=t'.length∧B'.length=p.length+2∧(∀i,i<p.length+2→(B'[i]?=some true↔(B[i]?=some true∨((gP p).jmp x=true∧i∈d'))))∧OwnE bS 1 ⟨L,[]⟩ 208 vb B'∧OwnE aX 1 ⟨L,[]⟩ 448 vs (nI ((gP p).succ x)) ∧
    s=⟨[(0,sl inC p),(1,sl aX (nI (bO (gP p)))),(5,vb),(6,.int .i64 d.length),(7,.int .i64 x),(8,vs),(9,.int .i64 d'.length)],⟨L,[]⟩⟩) _ ⟨[],_,B,L',rfl,rfl,hBl,by simp,hB.keep (hf 208 (by decide)),hO,rfl⟩ ?_
  clear hO hB;rintro k s ⟨d',t',B',L2,h4,rfl,hBl',hBs',hB,hO,rfl⟩ QL0 hnL0 hxL0 hrL0;have hlen':=congrArg List.length h4;simp only[List.length_append] at hlen';simp only[c24l0]
  cases t' with
  |nil=>
   simp only[List.length_nil] at hlen';rw[List.append_nil] at h4;have hge:¬((d'.length:Int)<((gP p).succ x).length):=by omega
   have e:((d.length:Int)+1)=((d++[x]).length:Int):=by simp
   repeat' (first
   |with_reducible (first|refine ai ?_|refine ax rfl ?_|refine aN ?_|refine hn1 _ ?_|refine hx2 _ ?_|refine hxL0 _ _ ?_)
   |(with_reducible ((first|refine ah (λK hK=>?_)|refine aI (λK hK=>?_));(first|refine HN ?_|refine HJ ?_));(try simp only[true_implies,false_implies,not_false_eq_true,b9,if_true,if_false,Nat.reduceEqDiff,aJ,dg,eN,Option.map_some,lenS,cK,true_and,if_false,if_true,hO.len,d8,hge,hw]))
   |(revert hK;intro hK;(with_reducible refine hK _ ?_;clear hK K)))
   rw[e];refine hnL1 t.length _ (by simp) ⟨d++[x],t,B',vb,L2,by simp[h3],rfl,hBl',λi hi=>?_,hB,rfl⟩;rw[hBs' i hi,hBs i hi,←h4];constructor
   ·rintro((h|⟨y,h5,h6⟩)|h)
    ·exact .inl h
    ·exact .inr ⟨y,List.mem_append_left _ h5,h6⟩
    ·exact .inr ⟨x,by simp,h⟩
   ·rintro(h|⟨y,h5,h6⟩)
    ·exact .inl (.inl h)
    ·rcases List.mem_append.1 h5 with h5|h5
     ·exact .inl (.inr ⟨y,h5,h6⟩)
     ·rw[List.mem_singleton.1 h5] at h6;exact .inr h6
  |cons y t'=>
   simp only[List.length_cons] at hlen';have hlt':(d'.length:Int)<((gP p).succ x).length:=by omega
   have hw':IntKind.i64.wrap ((d'.length:Int)+1)=d'.length+1:=wI (by omega) (by omega);have hget':(nI ((gP p).succ x))[d'.length]?=some (y:Int):=by rw[q5,h4];simp
   obtain⟨q',hq1',hq2'⟩:=hO.at hget' (k:=.i64);have hld':ld1 ⟨L2,[]⟩ q'=some (.int .i64 y):=hq2' _ rfl;have hys:y∈(gP p).succ x:=by rw[h4];simp
   have hyn:y<p.length:=hg.lt y (hg.nxt x y hxl hys);obtain⟨b,hb⟩:∃b,B'[y]?=some b:=⟨_,List.getElem?_eq_getElem (by omega)⟩;obtain⟨g,r1,r2,r3⟩:=hB.ldB hb;have hldb:=r2 ⟨L2,[]⟩ rfl;have e:((d'.length:Int)+1)=((d'++[y]).length:Int):=by simp
   have hnx:∀(b':Bool) (L3:List (Nat×HO)),(b'=true↔(b=true∨(gP p).jmp x=true))→OwnE bS 1 ⟨L3,[]⟩ 208 vb (B'.set y b')→OwnE aX 1 ⟨L3,[]⟩ 448 vs (nI ((gP p).succ x)) →
     QL0 .normal ⟨[(0,sl inC p),(1,sl aX (nI (bO (gP p)))),(5,vb),(6,.int .i64 d.length),(7,.int .i64 x),(8,vs),(9,.int .i64 ((d'.length:Int)+1))],⟨L3,[]⟩⟩:=λb' L3 hb' hB3 hO3=>by
    rw[e];refine hnL0 t'.length _ (by simp) ⟨d'++[y],t',B'.set y b',L3,by simp[h4],rfl,by rw[List.length_set,hBl'],λi hi=>?_,hB3,hO3,rfl⟩;rw[Mu (by omega)]
    by_cases ey:y=i
    ·subst ey
     rw[if_pos rfl,Option.some.injEq,hb'];have h5:=hBs' y hi;rw[hb,Option.some.injEq] at h5;rw[h5];simp only[List.mem_append,List.mem_singleton,or_true,and_true];constructor
     ·rintro((h|h)|h)
      ·exact .inl h
      ·exact .inr h.1
      ·exact .inr h
     ·rintro(h|h)
      ·exact .inl (.inl h)
      ·exact .inr h
    ·rw[if_neg ey,hBs' i hi]
     simp only[List.mem_append,List.mem_singleton];constructor
     ·rintro(h|h)
      ·exact .inl h
      ·exact .inr ⟨h.1,.inl h.2⟩
     ·rintro(h|⟨h,h6⟩)
      ·exact .inl h
      ·exact .inr ⟨h,h6.elim id λe=>absurd e.symm ey⟩
   cases b with
   |true=>
    obtain⟨m3,s1,s2,s3,s4⟩:=r3 ⟨L2,[]⟩ rfl true;obtain⟨L3,H3⟩:=m3;simp only at s3 s4;subst s3
    repeat' (first
    |with_reducible (first|refine ai ?_|refine ar ?_|refine au rfl ?_|refine aj (id:=3) (λQ3 hn3 hx3 hr3 ho3=>?_)|refine hn3 _ ?_)
    |(with_reducible ((first|refine ah (λK hK=>?_)|refine aI (λK hK=>?_));(first|refine HN ?_|refine Hk ?_|refine Hj ?_));(try simp only[true_implies,false_implies,not_true_eq_false,b9,if_true,if_false,Nat.reduceEqDiff,aJ,dg,eN,qz,Option.map_some,ic,lenS,cK,and_true,if_false,if_true,hO.len,d8,hlt',hq1',hld',r1,hldb,s1,hw']))
    |(revert hK;intro hK;(with_reducible refine hK _ ?_;clear hK K)))
    exact hnx true L3 (by simp) s2 (hO.keep (s4 448 (by decide)))
   |false=>
    cases hj:vo ins with
    |true=>
     rw[hj] at kJ;obtain⟨m3,s1,s2,s3,s4⟩:=r3 ⟨L2,[]⟩ rfl true;obtain⟨L3,H3⟩:=m3;simp only at s3 s4;subst s3
     repeat' (first
     |with_reducible (first|refine ai ?_|refine ar ?_|refine au rfl ?_|refine aj (id:=3) (λQ3 hn3 hx3 hr3 ho3=>?_)|refine hn3 _ ?_)
     |(with_reducible ((first|refine ah (λK hK=>?_)|refine aI (λK hK=>?_));(first|refine HN ?_|refine Hk ?_|refine Hj ?_));(try simp only[true_implies,false_implies,not_true_eq_false,b9,if_true,if_false,Nat.reduceEqDiff,aJ,dg,eN,qz,qy,Option.map_some,ic,gf,lenS,dU,cK,List.nil_append,List.cons_append,and_true,if_false,if_true,hO.len,d8,hlt',hq1',hld',r1,hldb,hixp,inC,d9,kJ,kB,s1,hw']))
     |(revert hK;intro hK;(with_reducible refine hK _ ?_;clear hK K)))
     exact hnx true L3 (by rw[hjm,hj];simp) s2 (hO.keep (s4 448 (by decide)))
    |false=>
     rw[hj] at kJ;have hyx:(y:Int)=(x:Int)+wdI ins:=by
      rcases hg.ord x hxl (by rw[hjm,hj]) with h5|h5
      ·rw[h5] at hys;cases hys
      ·rw[h5] at hys
       have:=List.mem_singleton.1 hys;omega
     obtain⟨m3,s1,s2,s3,s4⟩:=r3 ⟨L2,[]⟩ rfl false;obtain⟨L3,H3⟩:=m3;simp only at s3 s4;subst s3
     repeat' (first
     |with_reducible (first|refine ai ?_|refine ar ?_|refine au rfl ?_|refine aj (id:=3) (λQ3 hn3 hx3 hr3 ho3=>?_)|refine hn3 _ ?_)
     |(with_reducible ((first|refine ah (λK hK=>?_)|refine aI (λK hK=>?_));(first|refine HN ?_|refine Hk ?_|refine Hj ?_));(try simp only[true_implies,false_implies,not_true_eq_false,b9,if_true,if_false,Nat.reduceEqDiff,aJ,dg,eN,br,qy,Option.map_some,gf,lenS,dU,cK,List.nil_append,List.cons_append,and_true,if_false,if_true,hO.len,d8,hlt',hq1',hld',r1,hldb,hixp,inC,d9,kJ,kB,kN,Lw,←hyx,ne_eq,eq_self,s1,hw']))
     |(revert hK;intro hK;(with_reducible refine hK _ ?_;clear hK K)))
     exact hnx false L3 (by rw[hjm,hj];simp) s2 (hO.keep (s4 448 (by decide)))
end Go.Cm
namespace Go.Cm
open Go.Proofs Go.Fl
theorem k12 {p:List In}(hp:p.length≤9223372036854775807) (hwid:∀x∈p,Inw x) {fid:FuncId}{t:Tmp}{m:Mem}{K:CV×Mem→Prop}(hgl:(An.glob fid).contains t=false)
  (hK:∀v m',OwnE aX 1 m' (16*t) v (hC p)→m'.H=m.H→(∀i,i≠16*t→aK m'.L i=aK m.L i)→K (v,m')):Obt (cd An FF fid (some t) 12 [sl inC p] m) K:=by
 obtain⟨_,⟨H',rfl⟩,h⟩:=x12 p hp hwid;exact gX h rfl (by simp only[cans,inE.can_sl]) rfl (by simp only[noGs,inE.noG_sl,Bool.and_self]) intE.noG hgl hK
theorem k24 {p:List In}(h0:gW p=0) {m:Mem}{j:Nat}{vr:CV}(hr:OwnE aX 1 m j vr (nI (bO (gP p)))) {fid:FuncId}{t:Tmp}{K:CV×Mem→Prop}(hgl:(An.glob fid).contains t=false) (hj:j≠16*t)
  (hK:∀v m',OwnE bS 1 m' (16*t) v (vG p)→m'.H=m.H→OwnV aX 1 m' j vr (nI (bO (gP p)))→K (v,m')):Obt (cd An FF fid (some t) 24 [sl inC p,vr] m) K:=by
 obtain⟨_,⟨H',rfl⟩,h⟩:=x24 p h0;obtain⟨m1,e1,e2,_,e4⟩:=hr.seen.esc1 dB;refine rC (xs:=[sl inC p,MU aX (nI (bO (gP p)))]) h rfl (kG (pre:=[sl inC p]) rfl e1) (by simp only[cans,inE.can_sl,rD intE.can]) (by simp only[noGs,inE.noG_sl,kV intE.noG,Bool.and_self]) jk hgl λv m' hO hH hf=>?_;refine hK v m' hO (hH.elim id λh=>h.trans e2) ?_;rcases hf j hj with h1|h1
 ·exact hr.seen.keep h1
 ·exact e4.keep h1
theorem OwnV.ldI {m:Mem}{j:Nat}{v:CV}{l:List Int}(h:OwnV aX 1 m j v l) {a:Int}{i:Nat}(ha:l[i]?=some a) {k:IntKind}:∃p,bd 1 v (.int k i)=some p∧∀m':Mem,aK m'.L j=aK m.L j→ld1 m' p=some (.int .i64 a):=by
 obtain⟨g,vl,rfl,h2,_⟩:=h.at dB ha (k:=k);have hlt:=(List.getElem?_eq_some_iff.1 ha).1
 refine⟨.ptr (.l j) g i,?_,λm' hm=>?_⟩
 ·rw[bD,if_pos ⟨by omega,by simpa using hlt⟩];simp
 ·rw[eX,hm,h2,bM,fX,ha];rfl
theorem Me {p:List In}{i:Nat}(h:i<p.length+2):∃b,(vG p)[i]?=some b∧(b=true↔Lead (gP p) i):=by
 refine⟨_,by rw[vG,List.getElem?_map,List.getElem?_range h,Option.map_some],?_⟩
 simp
open Classical in
noncomputable def ldL (g:Gp) (d:List Nat):List Nat:=d.filter λi=>decide (Lead g i)
theorem ldL_all {g:Gp}:ldL g (bO g)=cj g:=rfl
theorem ldL_len {g:Gp}{d:List Nat}:(ldL g d).length≤d.length:=List.length_filter_le _ _
theorem ldL_yes {g:Gp}{d:List Nat}{x:Nat}(h:Lead g x):ldL g (d++[x])=ldL g d++[x]:=by
 rw[ldL,List.filter_append,List.filter_cons_of_pos (by simp[h]),List.filter_nil];rfl
theorem ldL_no {g:Gp}{d:List Nat}{x:Nat}(h:¬Lead g x):ldL g (d++[x])=ldL g d:=by
 rw[ldL,List.filter_append,List.filter_cons_of_neg (by simp[h]),List.filter_nil,List.append_nil];rfl
set_option maxHeartbeats 8000000 in
theorem rrow {p:List In}(h0:gW p=0) {H:List HO}{v vr vb jj:CV}{a:Nat}(ha:R (gP p) a) {L:List (Nat×HO)}{t la:Int}{g1:Nat}(h176:aK L 176=some (.var g1 [.int .i64 a,.int .i64 t,.int .i64 la,.nil,.nil] 0))
  (hb:OwnE bS 1 ⟨L,[]⟩ 464 vb (vG p)) (hr:OwnV aX 1 ⟨L,[]⟩ 416 vr (nI (bO (gP p)))) {Q:CE→TS→Prop}
  (hQ:∀L' vs,aK L' 176=some (.var g1 [.int .i64 a,.int .i64 (toF (gP p) a),.int .i64 (last (gP p) a),.nil,.nil] 0)→OwnE bS 1 ⟨L',[]⟩ 464 vb (vG p)→OwnV aX 1 ⟨L',[]⟩ 416 vr (nI (bO (gP p))) →
   Q (.exit 2) ⟨[(0,sl inC p),(6,vr),(7,vb),(8,v),(9,jj),(11,.ptr (.l 176) g1 0),(12,vs),(73,.bool true)],⟨L',H⟩⟩) :
  Tx Try.prog An FF 8 (.loop c8l0) ⟨[(0,sl inC p),(6,vr),(7,vb),(8,v),(9,jj),(10,.int .i64 a),(11,.ptr (.l 176) g1 0)],⟨L,H⟩⟩ Q:=by
 have hg:=vE h0;obtain⟨hn1,hn2,_⟩:=nb h0;have hal:=ha.live hg;have hsetL:∀(L:List (Nat×HO)) (H:List HO) i x,bi ⟨L,H⟩ i x=⟨gb L i x,H⟩:=λ_ _ _ _=>rfl;refine aU (λk s=>∃(i:Nat) (t la:Int) (L:List (Nat×HO)),Fl.Row (gP p) a i∧k=p.length - i∧aK L 176=some (.var g1 [.int .i64 a,.int .i64 t,.int .i64 la,.nil,.nil] 0)∧OwnE bS 1 ⟨L,[]⟩ 464 vb (vG p)∧OwnV aX 1 ⟨L,[]⟩ 416 vr (nI (bO (gP p))) ∧
   s=⟨[(0,sl inC p),(6,vr),(7,vb),(8,v),(9,jj),(10,.int .i64 i),(11,.ptr (.l 176) g1 0)],⟨L,H⟩⟩) _ ⟨a,t,la,L,.base,rfl,h176,hb,hr,rfl⟩ ?_
 clear h176 hb hr;rintro k s ⟨i,t,la,L,hrow,rfl,h176,hb,hr,rfl⟩ QL0 hnL0 hxL0 hrL0;have hil:=hrow.live hg hal;have hin:i<p.length:=hg.lt i hil;obtain⟨x,hx⟩:∃x,p[i]?=some x:=⟨_,List.getElem?_eq_getElem hin⟩;have hix:=hY (k:=.i64) (i:=(i:Int)) inE.len (by omega:0<6) (by omega) hx;have hjm:=Mq hx;have hwd:=PV hx;have kN:∀t m,cd An FF 8 (some t) 25 [sl inC p,.int .i64 i] m=some (.int .i64 ((i:Int)+wdI x),m):=λt m=>k25 hn1 hx;have kJ:∀t m,cd An FF 8 (some t) 26 [.agg [.int .i64 x.op,.int .i64 x.dst,.int .i64 x.src,.int .i64 x.off,.int .i64 x.imm,.int .u64 x.wide]] m=some (.bool (vo x),m):=λt m=>k26;simp only[c8l0]
 repeat' (first
 |with_reducible refine bl (id:=3) (λQ3 hn3 hx3 hr3 ho3=>?_)
 |(with_reducible (refine ah (λK hK=>?_);(first|refine t8r13 ?_|refine t8r14 ?_|refine t8r15 ?_));(try simp only[b9,if_true,if_false,Nat.reduceEqDiff,ap,aJ,dg,aq,Nat.reduceAdd,Nat.zero_add,cb,List.drop_zero,p6,lj,ay,List.take_zero,List.take_succ_cons,List.drop_succ_cons,List.nil_append,List.cons_append,List.length_cons,List.length_nil,Nat.reduceLeDiff,and_self,Nat.zero_le,if_false,if_true,h176,kN,Lw,hsetL]))
 |(revert hK;intro hK;(with_reducible refine hK _ ?_;clear hK K)))
 refine k16 (by omega) rfl λvs m' hO hH' hf=>?_;rw[gV h0 hil] at hO;have f176:=hf 176 (by decide);have f464:=hf 464 (by decide);have f416:=hf 416 (by decide);obtain⟨L',H'⟩:=m';simp only at hH' f176 f464 f416;subst hH';simp only[aq,Nat.reduceEqDiff,if_true,if_false] at f176 f464 f416;have hb':OwnE bS 1 ⟨L',[]⟩ 464 vb (vG p):=hb.keep f464;have hr':OwnV aX 1 ⟨L',[]⟩ 416 vr (nI (bO (gP p))):=hr.keep f416;refine hK _ ?_;clear hK K;have hdone:KK (gP p) i→aK L' 176=some (.var g1 [.int .i64 a,.int .i64 (toF (gP p) a),.int .i64 (last (gP p) a),.nil,.nil] 0):=λhs=>by
  have h1:=hrow.ends hg hal;rw[Ky hg hil hs] at h1;rw[f176,toF,←h1,←hwd];simp
 obtain⟨sc,hsc⟩:∃sc,sc=(gP p).succ i:=⟨_,rfl⟩;rw[←hsc] at hO;have hlen:=hO.len;rw[d8] at hlen
 by_cases h1:sc.length=1
 ·obtain⟨s,rfl⟩:∃s,sc=[s]:=by
   match sc,h1 with
   |[s],_=>exact⟨s,rfl⟩
  have h1':((List.length [s]:Nat):Int)=1:=rfl;obtain⟨q,hq1,hq2⟩:=hO.at (i:=0) (a:=(s:Int)) rfl (k:=.i64);have hq1':bd 1 vs (.int .i64 0)=some q:=hq1;have hld0:ld1 ⟨L',H'⟩ q=some (.int .i64 s):=hq2 _ rfl;have hsn:s<p.length:=hg.lt s (hg.nxt i s hil (by rw[←hsc];simp))
  cases hj:vo x with
  |true=>
   rw[hj] at kJ;have hd:=hdone (λh=>by rw[hjm,hj] at h;cases h.1)
   repeat' (first
   |with_reducible (first|refine ai ?_|refine au rfl ?_|refine aN ?_|refine ho3 _ _ (by decide) ?_|refine hxL0 _ _ ?_)
   |(with_reducible (refine ah (λK hK=>?_);refine NY ?_);(try simp only[b9,if_true,if_false,Nat.reduceEqDiff,aJ,dg,Nat.zero_add,br,qz,qy,Option.map_some,ic,gf,lenS,dU,List.nil_append,List.cons_append,List.length_cons,List.length_nil,if_false,if_true,hlen,h1',ne_eq,eq_self,hix,inC,d9,kJ,kB]))
   |(revert hK;intro hK;(first|refine And.intro ?_ ?_|intro _|omega|(with_reducible refine hK _ ?_;clear hK K))))
   exact hQ _ _ hd hb' hr'
  |false=>
   rw[hj] at kJ;obtain⟨b,hbb,hbl⟩:=Me (p:=p) (i:=s) (by omega);obtain⟨g,r1,r2,_⟩:=hb'.ldB hbb;have r2':ld1 ⟨L',H'⟩ (.ptr (.l 464) g s)=some (.bool b):=r2 _ rfl
   cases b with
   |true=>
    have hd:=hdone (λ⟨_,s',h2,h3⟩=>by
     rw[←hsc] at h2
     injection h2 with h2
     exact h3 (h2 ▸ hbl.1 rfl))
    repeat' (first
    |with_reducible (first|refine ai ?_|refine au rfl ?_|refine aN ?_|refine ho3 _ _ (by decide) ?_|refine hxL0 _ _ ?_)
    |(with_reducible (refine ah (λK hK=>?_);refine NY ?_);(try simp only[b9,if_true,if_false,Nat.reduceEqDiff,aJ,dg,Nat.zero_add,br,qz,qy,Option.map_some,ic,gf,lenS,dU,List.nil_append,List.cons_append,List.length_cons,List.length_nil,if_false,if_true,hlen,h1',ne_eq,eq_self,hix,inC,d9,kJ,kB,hq1',hld0,r1,r2']))
    |(revert hK;intro hK;(first|refine And.intro ?_ ?_|intro _|omega|(with_reducible refine hK _ ?_;clear hK K))))
    exact hQ _ _ hd hb' hr'
   |false=>
    have hns:¬KK (gP p) i:=λh=>h ⟨by rw[hjm,hj],s,hsc.symm,λh=>by have:=hbl.2 h;cases this⟩;obtain⟨_,h4,_⟩:=HH hg hil hns;rw[←hsc] at h4
    injection h4 with h4
    repeat' (first
    |with_reducible (first|refine ai ?_|refine ar ?_|refine ax rfl ?_|refine hn3 _ ?_)
    |(with_reducible ((first|refine ah (λK hK=>?_)|refine aI (λK hK=>?_));(first|refine NY ?_|refine t8r17 ?_));(try simp only[b9,if_true,if_false,Nat.reduceEqDiff,aJ,dg,Nat.zero_add,br,qz,qy,Option.map_some,ic,gf,lenS,dU,List.nil_append,List.cons_append,List.length_cons,List.length_nil,if_false,if_true,hlen,h1',ne_eq,eq_self,hix,inC,d9,kJ,kB,hq1',hld0,r1,r2']))
    |(revert hK;intro hK;(first|refine And.intro ?_ ?_|intro _|omega|(with_reducible refine hK _ ?_;clear hK K))))
    have hwp:1≤(gP p).wd i:=KJ hg hil;refine hnL0 (p.length - (i+(gP p).wd i)) _ (by omega) ⟨i+(gP p).wd i,i+wdI x,i,L',.step hrow hns,rfl,f176,hb',hr',?_⟩;rw[h4]
 ·have h1':¬((sc.length:Nat):Int)=1:=by omega
  have hd:=hdone (λ⟨_,s',h2,_⟩=>h1 (by rw[hsc,h2];rfl))
  repeat' (first
  |with_reducible (first|refine ai ?_|refine au rfl ?_|refine aN ?_|refine ho3 _ _ (by decide) ?_|refine hxL0 _ _ ?_)
  |(with_reducible (refine ah (λK hK=>?_);refine NY ?_);(try simp only[true_implies,false_implies,not_false_eq_true,b9,if_true,if_false,Nat.reduceEqDiff,aJ,dg,br,qz,qy,Option.map_some,ic,gf,lenS,dU,List.nil_append,List.cons_append,true_and,if_false,if_true,hlen,h1',ne_eq,eq_self,hix,inC,d9]))
  |(revert hK;intro hK;(with_reducible refine hK _ ?_;clear hK K)))
  exact hQ _ _ hd hb' hr'
set_option maxHeartbeats 8000000 in
theorem Ob {p:List In}(h0:gW p=0) {H0:List HO}{vr vb:CV}{L:List (Nat×HO)}(hb:OwnE bS 1 ⟨L,[]⟩ 464 vb (vG p)) (hr:OwnV aX 1 ⟨L,[]⟩ 416 vr (nI (bO (gP p)))) {Q:CE→TS→Prop}
  (hQ:∀L' H' v,BlksO H0.length H' v ((cj (gP p)).map (bk0 (gP p)))→H0.length≤H'.length→(∀i,i<H0.length→H'[i]?=H0[i]?) →
   Q (.exit 0) ⟨[(0,sl inC p),(6,vr),(7,vb),(8,v),(9,.int .i64 (bO (gP p)).length),(33,.bool false)],⟨L',H'⟩⟩) :
  Tx Try.prog An FF 8 (.loop c8l1) ⟨[(0,sl inC p),(6,vr),(7,vb),(8,.nil),(9,.int .i64 0)],⟨L,H0⟩⟩ Q:=by
 have hg:Ok (gP p):=vE h0;obtain⟨hn1,hn2,_⟩:=nb h0;obtain⟨hrl,_⟩:=nc h0;have hsetL:∀(L:List (Nat×HO)) (H:List HO) i x,bi ⟨L,H⟩ i x=⟨gb L i x,H⟩:=λ_ _ _ _=>rfl;refine aU (λk s=>∃(d t:List Nat) (v:CV) (L:List (Nat×HO)) (H:List HO),bO (gP p)=d++t∧k=t.length∧BlksO H0.length H v ((ldL (gP p) d).map (bk0 (gP p)))∧H0.length≤H.length∧(∀i,i<H0.length→H[i]?=H0[i]?)∧OwnE bS 1 ⟨L,[]⟩ 464 vb (vG p)∧OwnV aX 1 ⟨L,[]⟩ 416 vr (nI (bO (gP p))) ∧
   s=⟨[(0,sl inC p),(6,vr),(7,vb),(8,v),(9,.int .i64 d.length)],⟨L,H⟩⟩) _ ⟨[],bO (gP p),.nil,L,_,rfl,rfl,.inl ⟨rfl,rfl⟩,Nat.le_refl _,λ_ _=>rfl,hb,hr,rfl⟩ ?_
 clear hb hr;rintro k s ⟨d,t,v,L,H,h3,rfl,hB,hHl,hold,hb,hr,rfl⟩ QL1 hnL1 hxL1 hrL1;have hlen:=congrArg List.length h3;simp only[List.length_append] at hlen;have hrlen:lenS vr=some (.int .i64 (bO (gP p)).length):=by rw[lenS,hr.len,d8,Option.map_some]
 simp only[c8l1]
 cases t with
 |nil=>
  simp only[List.length_nil] at hlen;rw[List.append_nil] at h3;have hge:¬((d.length:Int)<(bO (gP p)).length):=by omega
  have e:d.length=(bO (gP p)).length:=by omega
  repeat' (first
  |with_reducible (first|refine ai ?_|refine ax rfl ?_|refine aN ?_|refine hxL1 _ _ ?_)
  |(with_reducible (refine ah (λK hK=>?_);refine t8r8 ?_);(try simp only[true_implies,false_implies,not_false_eq_true,b9,if_true,if_false,Nat.reduceEqDiff,aJ,dg,eN,Option.map_some,lenS,true_and,if_false,if_true,hr.len,d8,hge]))
  |(revert hK;intro hK;(with_reducible refine hK _ ?_;clear hK K)))
  rw[e];refine hQ L H v ?_ hHl hold;rw[←ldL_all,h3];exact hB
 |cons x t=>
  simp only[List.length_cons] at hlen;have hlt:(d.length:Int)<(bO (gP p)).length:=by omega
  have hw:IntKind.i64.wrap ((d.length:Int)+1)=d.length+1:=wI (by omega) (by omega);have e:((d.length:Int)+1)=((d++[x]).length:Int):=by simp
  have hget:(nI (bO (gP p)))[d.length]?=some (x:Int):=by rw[q5,h3];simp
  obtain⟨q,hq1,hq2⟩:=hr.ldI hget (k:=.i64);have hld:ld1 ⟨L,H⟩ q=some (.int .i64 x):=hq2 ⟨L,H⟩ rfl;have hxR:R (gP p) x:=(gc hg).1 (by rw[h3];simp);have hxn:x<p.length:=hg.lt x (hxR.live hg);obtain⟨b,hbb,hbl⟩:=Me (p:=p) (i:=x) (by omega);obtain⟨g,r1,r2,_⟩:=hb.ldB hbb;have r2':ld1 ⟨L,H⟩ (.ptr (.l 464) g x)=some (.bool b):=r2 _ rfl
  cases b with
  |false=>
   have hnl:¬Lead (gP p) x:=λh=>by have:=hbl.2 h;cases this
   repeat' (first
   |with_reducible (first|refine ai ?_|refine ar ?_|refine au rfl ?_|refine aN ?_|refine aj (id:=1) (λQ1 hn1 hx1 hr1 ho1=>?_)|refine hx1 _ ?_)
   |(with_reducible ((first|refine ah (λK hK=>?_)|refine aI (λK hK=>?_));(first|refine t8r8 ?_|refine t8r10 ?_|refine t8r11 ?_|refine t8r9 ?_));(try simp only[true_implies,false_implies,not_true_eq_false,b9,if_true,if_false,Nat.reduceEqDiff,aJ,dg,eN,fc,Option.map_some,Bool.not_false,lenS,cK,and_true,if_false,if_true,hr.len,d8,hlt,hq1,hld,r1,r2',hw]))
   |(revert hK;intro hK;(with_reducible refine hK _ ?_;clear hK K)))
   rw[e];exact hnL1 t.length _ (by simp) ⟨d++[x],t,v,L,H,by simp[h3],rfl,by rw[ldL_no hnl];exact hB,hHl,hold,hb,hr,rfl⟩
  |true=>
   have hxl:=hbl.1 rfl
   repeat' (first
   |with_reducible (first|refine ai ?_|refine ar ?_|refine au rfl ?_|refine ax rfl ?_|refine aj (id:=1) (λQ1 hn1 hx1 hr1 ho1=>?_)|refine aj (id:=2) (λQ2 hn2 hx2 hr2 ho2=>?_))
   |(with_reducible (refine ah (λK hK=>?_);(first|refine t8r8 ?_|refine t8r10 ?_|refine t8r11 ?_|refine t8r12 ?_));(try simp only[true_implies,false_implies,not_true_eq_false,b9,if_true,if_false,Nat.reduceEqDiff,ap,aJ,dg,qO,qP,aq,Nat.reduceAdd,Nat.zero_add,List.drop_zero,eN,fc,Option.map_some,Bool.not_true,lenS,bg,p6,lj,ay,List.take_zero,List.drop_succ_cons,List.drop_nil,List.nil_append,List.cons_append,List.append_nil,List.length_cons,List.length_nil,Nat.reduceLeDiff,and_self,and_true,Nat.le_refl,if_false,if_true,hr.len,d8,hlt,hq1,hld,r1,r2',hsetL]))
   |(revert hK;intro hK;(with_reducible refine hK _ ?_;clear hK K)))
   refine rrow h0 hxR (by simp[aq];exact⟨rfl,rfl⟩) (hb.keep (by simp[aq])) (hr.keep (by simp[aq])) λL' vs h176 hb2 hr2=>?_
   repeat' (first
   |with_reducible refine hx2 _ ?_
   |(with_reducible (refine aI (λK hK=>?_);refine t8r18 ?_);(try simp only[b9,if_true,if_false,Nat.reduceEqDiff,aJ,dg,Nat.reduceAdd,Nat.zero_add,List.drop_zero,kM,List.take_zero,List.take_succ_cons,List.length_cons,List.length_nil,Nat.le_refl,gi,if_false,if_true,h176,Om,hsetL])))
   have hfl:((ldL (gP p) d).map (bk0 (gP p))).length≤1000000:=by
    rw[List.length_map];have:=ldL_len (g:=gP p) (d:=d);omega
   obtain⟨v',H',e1,e2,e3,e4⟩:=hB.push hHl (L:=gb L' 1264 (.arr (bj L' 1264) 5 (bkC (bk0 (gP p) x)) 0)) (j:=1280) (jt:=1264) (gt:=bj L' 1264) (x:=bk0 (gP p) x) (by rw[aq,if_pos rfl]) hfl;simp only[bk0] at e1;rw[e1,aJ];refine hK _ ?_;clear hK K
   repeat' (first
   |with_reducible refine hn1 _ ?_
   |(with_reducible (refine aI (λK hK=>?_);refine t8r9 ?_);(try simp only[b9,if_true,if_false,Nat.reduceEqDiff,dg,cK,if_false,if_true,hw]))
   |(revert hK;intro hK;(with_reducible refine hK _ ?_;clear hK K)))
   rw[e];refine hnL1 t.length _ (by simp) ⟨d++[x],t,v',_,H',by simp[h3],rfl,?_,by omega,λi hi=>(e4 i hi).trans (hold i hi),?_,?_,rfl⟩
   ·rw[ldL_yes hxl,List.map_append]
    exact e2
   ·exact hb2.keep (by simp[aq])
   ·exact hr2.keep (by simp[aq])
end Go.Cm
namespace Go.Cm
open Go.Proofs Go.Fl
set_option maxHeartbeats 8000000 in
theorem Oc {p:List In}(h0:gW p=0) {b n gn k a:Nat}{H0 H:List HO}{l:List BkS}(ha:(cj (gP p))[k]?=some a) (hB:BI b n gn H0 H l (spA (gP p) k [])) (hh:l.map hdB=(cj (gP p)).map (hdF (gP p)))
  {vs:CV}{L:List (Nat×HO)}(hO:OwnE aX 1 ⟨L,[]⟩ 1488 vs (nI ((gP p).succ (last (gP p) a)))) {Q:CE→TS→Prop}
  (hQ:∀L' H' l',BI b n gn H0 H' l' (spA (gP p) (k+1) [])→l'.map hdB=(cj (gP p)).map (hdF (gP p)) →
   Q (.exit 6) ⟨[(0,sl inC p),(8,.ref (.g n) gn 0 (cj (gP p)).length),(13,.int .i64 k),(14,vs),(15,.int .i64 ((gP p).succ (last (gP p) a)).length),(97,.bool false)],⟨L',H'⟩⟩) :
  Tx Try.prog An FF 8 (.loop c8l2) ⟨[(0,sl inC p),(8,.ref (.g n) gn 0 (cj (gP p)).length),(13,.int .i64 k),(14,vs),(15,.int .i64 0)],⟨L,H⟩⟩ Q:=by
 have hg:Ok (gP p):=vE h0;obtain⟨hn1,hn2,_⟩:=nb h0;obtain⟨_,hLl⟩:=nc h0;have hsetL:∀(L:List (Nat×HO)) (H:List HO) i x,bi ⟨L,H⟩ i x=⟨gb L i x,H⟩:=λ_ _ _ _=>rfl;have hal:Lead (gP p) a:=(gB hg).1 (List.mem_of_getElem? ha);have hs2:∀x,((gP p).succ x).length≤2:=λx=>by
  show((it jB wrI p x).map Int.toNat).length≤2
  rw[List.length_map];exact tG (p:=p) (i:=x)
 have hkl:=(List.getElem?_eq_some_iff.1 ha).1;refine aU (λm s=>∃(d t:List Nat) (L:List (Nat×HO)) (H:List HO) (l:List BkS),(gP p).succ (last (gP p) a)=d++t∧m=t.length∧BI b n gn H0 H l (spA (gP p) k (dd [] (d.map (fk (gP p)))))∧l.map hdB=(cj (gP p)).map (hdF (gP p))∧OwnE aX 1 ⟨L,[]⟩ 1488 vs (nI ((gP p).succ (last (gP p) a))) ∧
   s=⟨[(0,sl inC p),(8,.ref (.g n) gn 0 (cj (gP p)).length),(13,.int .i64 k),(14,vs),(15,.int .i64 d.length)],⟨L,H⟩⟩) _ ⟨[],_,L,H,l,rfl,rfl,hB,hh,hO,rfl⟩ ?_
 clear hO hB hh;rintro m s ⟨d,t,L,H,l,h3,rfl,hB,hh,hO,rfl⟩ QL3 hnL3 hxL3 hrL3;have hlen:=congrArg List.length h3;simp only[List.length_append] at hlen;have hll:l.length=(cj (gP p)).length:=by have:=congrArg List.length hh;rw[List.length_map,List.length_map] at this;exact this
 simp only[c8l2]
 cases t with
 |nil=>
  simp only[List.length_nil] at hlen;rw[List.append_nil] at h3;have hge:¬((d.length:Int)<((gP p).succ (last (gP p) a)).length):=by omega
  have e:d.length=((gP p).succ (last (gP p) a)).length:=by omega
  repeat' (first
  |with_reducible (first|refine ai ?_|refine ax rfl ?_|refine aN ?_|refine hxL3 _ _ ?_)
  |(with_reducible (refine ah (λK hK=>?_);refine Rb ?_);(try simp only[true_implies,false_implies,not_false_eq_true,b9,if_true,if_false,Nat.reduceEqDiff,aJ,dg,eN,Option.map_some,lenS,true_and,if_false,if_true,hO.len,d8,hge]))
  |(revert hK;intro hK;(with_reducible refine hK _ ?_;clear hK K)))
  rw[e];refine hQ L H l ?_ hh;rw[←MW ha];rw[←h3] at hB;exact hB
 |cons y t=>
  simp only[List.length_cons] at hlen;have hlt:(d.length:Int)<((gP p).succ (last (gP p) a)).length:=by omega
  have hsl2:=hs2 (last (gP p) a);have hw:IntKind.i64.wrap ((d.length:Int)+1)=d.length+1:=wI (by omega) (by omega);have ed:((d.length:Int)+1)=((d++[y]).length:Int):=by simp
  have hget:(nI ((gP p).succ (last (gP p) a)))[d.length]?=some (y:Int):=by rw[q5,h3];simp
  obtain⟨q,hq1,hq2⟩:=hO.at hget (k:=.i64);have hld:∀H,ld1 ⟨L,H⟩ q=some (.int .i64 y):=λH=>hq2 ⟨L,H⟩ rfl;have hyL:Lead (gP p) y:=LQ hg hal (by rw[h3];simp);obtain⟨kt,hkt,hky⟩:=KU hg hyL;have hktl:kt<(cj (gP p)).length:=(List.getElem?_eq_some_iff.1 hky).1;obtain⟨D,hD⟩:∃D,D=dd [] (d.map (fk (gP p))):=⟨_,rfl⟩;have hDl:D.length≤2:=by
   have h:=Lc (r:=d.map (fk (gP p))) (S:=[]);have:=hs2 (last (gP p) a);rw[←hD,List.length_map,List.length_nil] at h;omega
  have hdd:dd [] ((d++[y]).map (fk (gP p)))=dd D [(kt:Int)]:=by rw[List.map_append,Kx,←hD,List.map_cons,hkt];rfl
  rw[←hD] at hB;have kF:∀t,cd An FF 8 (some t) 14 [.ref (.g n) gn 0 (cj (gP p)).length,.int .i64 y] ⟨L,H⟩=some (.int .i64 kt,⟨L,H⟩):=λt=>by
   have:=k14 (fid:=8) (t:=t) (L:=L) (x:=(y:Int)) hB.blks (by omega);rw[hll,LH hh,hkt] at this;exact this
  obtain⟨x,hx⟩:∃x,l[k]?=some x:=⟨_,List.getElem?_eq_getElem (by omega)⟩;obtain⟨_,_,hve,hix,_,_,hl1⟩:=hB.blks.at hx (k:=.i64);simp only[CV.ref.injEq,Key.g.injEq] at hve;obtain⟨rfl,rfl,_,_⟩:=hve;rw[hll] at hix;have hsv:=hl1 3 x.sv (by decide) rfl;have hsl:=Lz (k:=k) (j:=k) (D:=D) (c:=false) hDl hs2;have kC:∀t L,cd An FF 8 (some t) 27 [x.sv,.int .i64 kt] ⟨L,H⟩=some (.bool (decide ((kt:Int)∈D)),⟨L,H⟩):=λt L=>by
   have:=k27 (fid:=8) (t:=t) (L:=L) (x:=(kt:Int)) (hB.ref hx false) (by omega);rw[spA_D] at this;exact this
  by_cases hin:(kt:Int)∈D
  ·rw[decide_eq_true hin] at kC
   repeat' (first
   |with_reducible (first|refine ai ?_|refine ar ?_|refine au rfl ?_|refine d7 rfl ?_|refine bx ?_|refine aj (id:=7) (λQ7 hn7 hx7 hr7 ho7=>?_)|refine hn7 _ ?_)
   |(with_reducible ((first|refine ah (λK hK=>?_)|refine aI (λK hK=>?_));(first|refine Rb ?_|refine t8r26 ?_|refine t8r27 ?_|refine t8r25 ?_));(try simp only[true_implies,false_implies,not_true_eq_false,b9,if_true,if_false,Nat.reduceEqDiff,aJ,dg,cb,eN,fc,Option.map_some,Bool.not_true,lenS,cK,and_true,if_false,if_true,hO.len,d8,hlt,hq1,hld,kF,hix,hsv,kC,hw]))
   |(revert hK;intro hK;(with_reducible refine hK _ ?_;clear hK K)))
   rw[ed];refine hnL3 t.length _ (by simp) ⟨d++[y],t,L,_,l,by simp[h3],rfl,?_,hh,hO,rfl⟩;rw[hdd,MX hin];exact hB
  ·rw[decide_eq_false hin] at kC
   repeat' (first
   |with_reducible (first|refine ai ?_|refine ar ?_|refine au rfl ?_|refine bc rfl ?_|refine aj (id:=7) (λQ7 hn7 hx7 hr7 ho7=>?_))
   |(with_reducible (refine ah (λK hK=>?_);(first|refine Rb ?_|refine t8r26 ?_|refine t8r27 ?_|refine t8r28 ?_));(try simp only[true_implies,false_implies,not_true_eq_false,b9,if_true,if_false,Nat.reduceEqDiff,aJ,dg,cb,eN,fc,Option.map_some,Bool.not_false,lenS,and_true,if_false,if_true,hO.len,d8,hlt,hq1,hld,kF,hix,hsv,kC,gG,hsetL]))
   |(revert hK;intro hK;(with_reducible refine hK _ ?_;clear hK K)))
   obtain⟨w1,H2,H3,e1,e2,hB2⟩:=hB.step (c:=false) hx kt (gt:=bj L 1952) (jj:=1968) (jt:=1952) (L:=gb L 1952 (.arr (bj L 1952) 1 [.int .i64 kt] 0)) (by rw[aq,if_pos rfl]) (Nat.le_trans (Nat.succ_le_succ hsl) (by omega));have e1':ej true 1968 1 8 x.sv (.ref (.l 1952) (bj L 1952) 0 1) ⟨gb L 1952 (.arr (bj L 1952) 1 [.int .i64 kt] 0),H⟩=some (w1,⟨gb L 1952 (.arr (bj L 1952) 1 [.int .i64 kt] 0),H2⟩):=e1;have e2':stX 1 ⟨gb L 1952 (.arr (bj L 1952) 1 [.int .i64 kt] 0),H2⟩ (.ptr (.g n) gn (k*5+3)) w1=some ⟨gb L 1952 (.arr (bj L 1952) 1 [.int .i64 kt] 0),H3⟩:=e2;rw[e1',aJ];simp only[e2',aJ];refine hK _ ?_;clear hK K e1 e1' e2 e2';obtain⟨l2,hl2⟩:∃l2,l2=l.set k (upB x false w1):=⟨_,rfl⟩;have hh2:l2.map hdB=(cj (gP p)).map (hdF (gP p)):=by rw[hl2,Mr hx,hh]
   rw[←hl2] at hB2;have hll2:l2.length=(cj (gP p)).length:=by have:=congrArg List.length hh2;rw[List.length_map,List.length_map] at this;exact this
   obtain⟨x2,hx2⟩:∃x2,l2[kt]?=some x2:=⟨_,List.getElem?_eq_getElem (by omega)⟩;obtain⟨_,_,hve,hix2,_,_,hl12⟩:=hB2.blks.at hx2 (k:=.i64);simp only[CV.ref.injEq,Key.g.injEq] at hve;obtain⟨rfl,rfl,_,_⟩:=hve;rw[hll2] at hix2;have hpv:=hl12 4 x2.pv (by decide) rfl;obtain⟨L2,hL2⟩:∃L2,L2=gb L 1952 (.arr (bj L 1952) 1 [.int .i64 (kt:Int)] 0):=⟨_,rfl⟩;have hO2:OwnE aX 1 ⟨L2,[]⟩ 1488 vs (nI ((gP p).succ (last (gP p) a))):=hO.keep (by rw[hL2,aq,if_neg (by decide)]);rw[←hL2]
   repeat' (first
   |(with_reducible (refine aI (λK hK=>?_);refine t8r29 ?_);(try simp only[b9,if_true,if_false,Nat.reduceEqDiff,aJ,dg,cb,if_false,if_true,hix2,hpv,gG,hsetL])))
   have hsl3:=Lz (g:=gP p) (k:=k) (j:=kt) (D:=D) (c:=true) hDl hs2;obtain⟨w2,H4,H5,e1,e2,hB3⟩:=hB2.step (c:=true) hx2 k (gt:=bj L2 2144) (jj:=2160) (jt:=2144) (L:=gb L2 2144 (.arr (bj L2 2144) 1 [.int .i64 k] 0)) (by rw[aq,if_pos rfl]) (by simp;omega);have e1':ej true 2160 1 8 x2.pv (.ref (.l 2144) (bj L2 2144) 0 1) ⟨gb L2 2144 (.arr (bj L2 2144) 1 [.int .i64 k] 0),H3⟩=some (w2,⟨gb L2 2144 (.arr (bj L2 2144) 1 [.int .i64 k] 0),H4⟩):=e1;have e2':stX 1 ⟨gb L2 2144 (.arr (bj L2 2144) 1 [.int .i64 k] 0),H4⟩ (.ptr (.g n) gn (kt*5+4)) w2=some ⟨gb L2 2144 (.arr (bj L2 2144) 1 [.int .i64 k] 0),H5⟩:=e2;rw[e1',aJ];simp only[e2',aJ];refine hK _ ?_;clear hK K e1 e1' e2 e2'
   repeat' (first
   |with_reducible refine hn7 _ ?_
   |(with_reducible (refine aI (λK hK=>?_);refine t8r25 ?_);(try simp only[b9,if_true,if_false,Nat.reduceEqDiff,dg,cK,if_false,if_true,hw]))
   |(revert hK;intro hK;(with_reducible refine hK _ ?_;clear hK K)))
   have e:=NL (g:=gP p) (k:=k) (kt:=kt) (D:=D) hin hkl;rw[ed];refine hnL3 t.length _ (by simp) ⟨d++[y],t,_,H5,l2.set kt (upB x2 true w2),by simp[h3],rfl,?_,by rw[Mr hx2,hh2],?_,rfl⟩
   ·rw[hdd,show dd D [(kt:Int)]=D++[(kt:Int)] by simp[dd,hin],←e]
    exact hB3
   ·exact hO2.keep (by rw[aq,if_neg (by decide)])
theorem x8_bad (p:List In) (hp:p.length≤9223372036854775807) (hwid:∀x∈p,Inw x) (H0:List HO) (h0:¬gW p=0):FF 8 [sl inC p] H0=some (.tuple [.nil,.int .i64 (gW p)],H0):=by
 obtain⟨ci,kC⟩:=k23 (p:=p) (by omega) hwid;refine aL rfl Try.func8 s8 (Nat.le_of_ble_eq_true rfl) (λQ hqr hqn=>?_);rw[show ∀a,cin (An.pure 8) a=a from λ_=>rfl];simp only[aO,Nat.reduceAdd,c8]
 repeat' (first
 |with_reducible (first|refine ai ?_|refine au rfl ?_|refine b6 ?_)
 |(with_reducible (first|(refine ah (λK hK=>?_);(first|refine t8r0 ?_|refine t8r1 ?_|refine t8r2 ?_|refine t8r3 ?_))|refine hqr _ ?_);(try simp only[true_implies,false_implies,not_false_eq_true,b9,if_true,if_false,Nat.reduceEqDiff,aJ,dg,List.getElem?_cons_zero,List.getElem?_cons_succ,br,Option.map_some,dT,true_and,if_false,if_true,r8,aQ,ak,aD,Option.bind_some,am,bz,eh,bW,kC,h0,ne_eq]))
 |(revert hK;intro hK;(with_reducible refine hK _ ?_;clear hK K)))
set_option maxHeartbeats 16000000 in
theorem x8 (p:List In) (hp:p.length≤9223372036854775807) (hwid:∀x∈p,Inw x) (H0:List HO) (h0:gW p=0) :
  ∃r,(∃H' l n gn,r=(CV.tuple [.ref (.g n) gn 0 l.length,.int .i64 0],H')∧BI H0.length n gn H0 H' l (spA (gP p) (cj (gP p)).length [])∧l.map hdB=(cj (gP p)).map (hdF (gP p)))∧FF 8 [sl inC p] H0=some r:=by
 obtain⟨ci,kC⟩:=k23 (p:=p) (by omega) hwid;rw[h0] at kC;have hg:Ok (gP p):=vE h0;obtain⟨hn1,hn2,_⟩:=nb h0;have hre:hC p=nI (bO (gP p)):=by rw[hC,if_pos h0]
 obtain⟨hrl,hLl⟩:=nc h0;refine bA rfl Try.func8 s8 (Nat.le_of_ble_eq_true rfl) (λQ hqr hqn=>?_);rw[show ∀a,cin (An.pure 8) a=a from λ_=>rfl];simp only[aO,Nat.reduceAdd,c8]
 repeat' (first
 |with_reducible (first|refine ai ?_|refine ar ?_|refine ax rfl ?_)
 |(with_reducible (refine ah (λK hK=>?_);(first|refine t8r0 ?_|refine t8r1 ?_|refine t8r2 ?_|refine t8r4 ?_));(try simp only[true_implies,false_implies,not_true_eq_false,b9,if_true,if_false,Nat.reduceEqDiff,aJ,dg,List.getElem?_cons_zero,List.getElem?_cons_succ,br,dT,and_true,if_false,if_true,kC,ne_eq,eq_self]))
 |(revert hK;intro hK;(with_reducible refine hK _ ?_;clear hK K)))
 refine k12 (by omega) hwid rfl λv7 m7 hO7 hH7 _=>?_;rw[hre] at hO7;refine hK _ ?_;clear hK K;obtain⟨L7,H7⟩:=m7;simp only at hH7;subst hH7
 repeat' (first
 |(with_reducible (refine ah (λK hK=>?_);refine t8r5 ?_);(try simp only[b9,if_true,if_false,Nat.reduceEqDiff,dg,if_false,if_true])))
 refine k24 h0 (j:=416) hO7 rfl (by decide) λvb m8 hb hH8 hr=>?_;refine hK _ ?_;clear hK K;obtain⟨L8,H8⟩:=m8;simp only at hH8;subst hH8
 repeat' (first
 |with_reducible (first|refine ai ?_|refine aj (id:=0) (λQ0 hn0 hx0 hr0 ho0=>?_))
 |(with_reducible (refine ah (λK hK=>?_);(first|refine t8r6 ?_|refine t8r7 ?_));(try simp only[b9,if_true,if_false,Nat.reduceEqDiff,dg,if_false,if_true]))
 |(revert hK;intro hK;(with_reducible refine hK _ ?_;clear hK K)))
 refine Ob h0 (hb.keep rfl) (hr.keep rfl) λL' H' v hB _ hold=>?_;have h0L:0∈cj (gP p):=(gB hg).2 (.inl rfl);have hB1:∃n gn,v=.ref (.g n) gn 0 (cj (gP p)).length∧BI H8.length n gn H8 H' ((cj (gP p)).map (bk0 (gP p))) (spA (gP p) 0 []):=by
  rcases hB with⟨h1,_⟩|⟨n,gn,h1,h2,h3⟩
  ·rw[List.map_eq_nil_iff] at h1
   rw[h1] at h0L;cases h0L
  ·have hn:∀(j:Nat) (c:Bool) (x:BkS),((cj (gP p)).map (bk0 (gP p)))[j]?=some x→sel x c=.nil:=λj c x hx=>by
    rw[List.getElem?_map,Option.map_eq_some_iff] at hx;obtain⟨a,_,rfl⟩:=hx
    cases c<;>rfl
   refine⟨n,gn,by rw[h2,List.length_map],h1,h3,λj c x hx=>.inl ⟨hn j c x hx,?_⟩,λj c x j' c' x' m g g' k k' hx _ hs _=>(by rw[hn j c x hx] at hs;cases hs),hold⟩
   cases c with
   |true=>simp[spA,tp]
   |false=>simp[spA]
 clear hB;obtain⟨n,gn,rfl,hB⟩:=hB1;have hh:((cj (gP p)).map (bk0 (gP p))).map hdB=(cj (gP p)).map (hdF (gP p)):=by rw[List.map_map];rfl
 repeat' (first
 |with_reducible (first|refine ai ?_|refine hx0 _ ?_|refine aj (id:=4) (λQ4 hn4 hx4 hr4 ho4=>?_))
 |(with_reducible (refine ah (λK hK=>?_);refine t8r19 ?_);(try simp only[b9,if_true,if_false,Nat.reduceEqDiff,dg,if_false,if_true]))
 |(revert hK;intro hK;(with_reducible refine hK _ ?_;clear hK K)))
 refine aU (λm s=>∃(k:Nat) (L:List (Nat×HO)) (H:List HO) (l:List BkS),k≤(cj (gP p)).length∧m=(cj (gP p)).length - k∧BI H8.length n gn H8 H l (spA (gP p) k [])∧l.map hdB=(cj (gP p)).map (hdF (gP p)) ∧
   s=⟨[(0,sl inC p),(8,.ref (.g n) gn 0 (cj (gP p)).length),(13,.int .i64 k)],⟨L,H⟩⟩) _ ⟨0,L',H',_,Nat.zero_le _,rfl,hB,hh,rfl⟩ ?_
 clear hB hh hold;rintro m s ⟨k,L,H,l,hk,rfl,hB,hh,rfl⟩ QL3 hnL3 hxL3 hrL3;have hll:l.length=(cj (gP p)).length:=by have:=congrArg List.length hh;rw[List.length_map,List.length_map] at this;exact this
 simp only[c8l3]
 by_cases hlt:k<(cj (gP p)).length
 ·have hlt':(k:Int)<(cj (gP p)).length:=by omega
  have hw:IntKind.i64.wrap ((k:Int)+1)=k+1:=wI (by omega) (by omega);obtain⟨a,ha⟩:∃a,(cj (gP p))[k]?=some a:=⟨_,List.getElem?_eq_getElem hlt⟩;obtain⟨x,hx⟩:∃x,l[k]?=some x:=⟨_,List.getElem?_eq_getElem (by omega)⟩;have hxa:x.la=last (gP p) a:=by
   have h5:=congrArg (·[k]?) hh;simp only[List.getElem?_map,hx,ha,Option.map_some,Option.some.injEq,hdB,hdF,Prod.mk.injEq] at h5;exact h5.2.2
  obtain⟨_,_,hve,hix,_,_,hl1⟩:=hB.blks.at hx (k:=.i64);simp only[CV.ref.injEq,Key.g.injEq] at hve;obtain⟨rfl,rfl,_,_⟩:=hve;rw[hll] at hix;have hla:=hl1 2 (.int .i64 x.la) (by decide) rfl;rw[hxa] at hla;have hal:Lead (gP p) a:=(gB hg).1 (List.mem_of_getElem? ha);have hll2:=(pz hg (hal.r.live hg)).live hg (hal.r.live hg)
  repeat' (first
  |with_reducible (first|refine ai ?_|refine ar ?_|refine au rfl ?_|refine aj (id:=5) (λQ5 hn5 hx5 hr5 ho5=>?_))
  |(with_reducible (refine ah (λK hK=>?_);(first|refine t8r20 ?_|refine t8r22 ?_));(try simp only[true_implies,false_implies,not_true_eq_false,b9,if_true,if_false,Nat.reduceEqDiff,aJ,dg,cb,eN,Option.map_some,lenS,fq,and_true,if_false,if_true,fq,hlt',hix,hla]))
  |(revert hK;intro hK;(with_reducible refine hK _ ?_;clear hK K)))
  refine k16 (by omega) rfl λvs m' hOs hH' hf=>?_;rw[gV h0 hll2] at hOs;refine hK _ ?_;clear hK K;obtain⟨L2,H2⟩:=m';simp only at hH';subst hH'
  repeat' (first
  |with_reducible refine bl (id:=6) (λQ6 hn6 hx6 hr6 ho6=>?_)
  |(with_reducible (refine ah (λK hK=>?_);refine t8r23 ?_);(try simp only[b9,if_true,if_false,Nat.reduceEqDiff,dg,if_false,if_true]))
  |(revert hK;intro hK;(with_reducible refine hK _ ?_;clear hK K)))
  refine Oc h0 ha hB hh (hOs.keep rfl) λL3 H3 l3 hB3 hh3=>?_
  repeat' (first
  |with_reducible (first|refine hn5 _ ?_|refine hx6 _ ?_)
  |(with_reducible (refine aI (λK hK=>?_);refine t8r21 ?_);(try simp only[b9,if_true,if_false,Nat.reduceEqDiff,dg,cK,if_false,if_true,hw]))
  |(revert hK;intro hK;(with_reducible refine hK _ ?_;clear hK K)))
  have e:((k:Int)+1)=((k+1:Nat):Int):=by omega
  rw[e];exact hnL3 ((cj (gP p)).length - (k+1)) _ (by omega) ⟨k+1,L3,H3,l3,by omega,rfl,hB3,hh3,rfl⟩
 ·have e:k=(cj (gP p)).length:=by omega
  have hge:¬((k:Int)<(cj (gP p)).length):=by omega
  subst e
  repeat' (first
  |with_reducible (first|refine ai ?_|refine ax rfl ?_|refine aN ?_|refine aF ?_|refine hx4 _ ?_|refine hxL3 _ _ ?_)
  |(with_reducible (first|(refine ah (λK hK=>?_);(first|refine t8r20 ?_|refine t8r30 ?_))|refine hqr _ ?_);(try simp only[true_implies,false_implies,not_false_eq_true,b9,if_true,if_false,Nat.reduceEqDiff,aJ,dg,eN,Option.map_some,lenS,fq,true_and,if_false,if_true,r8,aQ,ak,aD,Option.bind_some,am,lH,bz,bW,Prod.mk.injEq,fq,hge]))
  |(revert hK;intro hK;(with_reducible refine hK _ ?_;clear hK K)))
  exact⟨_,l,n,gn,by rw[hll];exact⟨rfl,rfl⟩,hB,hh⟩
theorem k8 {p:List In}(hp:p.length≤9223372036854775807) (hwid:∀x∈p,Inw x) (h0:gW p=0) (H0:List HO):∃v H' l,FB p H' v l∧(∀i,i<H0.length→H'[i]?=H0[i]?)∧∀(fid:FuncId) (t:Tmp) L,cd An FF fid (some t) 8 [sl inC p] ⟨L,H0⟩=some (.tuple [v,.int .i64 0],⟨L,H'⟩):=by
 obtain⟨_,⟨H',l,n,gn,rfl,hB,hh⟩,h⟩:=x8 p hp hwid H0 h0
 refine⟨_,H',l,⟨hB.blks,hh,λj x c hx=>hB.ref hx c,hB.esc⟩,hB.old,λfid t L=>?_⟩
 have:=cf (A:=An) (F:=FF) (fid:=fid) (d:=t) (f:=8) (args:=[sl inC p]) (m:=⟨L,H0⟩) rfl (by simp only[List.all_cons,List.all_nil];rfl) h;rw[this];rfl
theorem k8_bad {p:List In}(hp:p.length≤9223372036854775807) (hwid:∀x∈p,Inw x) (h0:¬gW p=0) {fid:FuncId}{t:Tmp}{m:Mem}:cd An FF fid (some t) 8 [sl inC p] m=some (.tuple [.nil,.int .i64 (gW p)],m):=by
 have:=cf (A:=An) (F:=FF) (fid:=fid) (d:=t) (f:=8) (args:=[sl inC p]) (m:=m) rfl (by simp only[List.all_cons,List.all_nil];rfl) (x8_bad p hp hwid m.H h0);rw[this];rfl
end Go.Cm
namespace Go.Cm
open Go.Proofs Go.Fl
theorem Mo {l:List Int}{x:Int}(hn:l.Nodup) (h:x∈l):Nl l x=1:=by
 rw[Nl,hn.count,if_pos h];rfl
theorem Mp {p:List In}{a:Nat}:(KI (gP p) a).length≤2:=by
 have h:=Lc (r:=toL (gP p) a) (S:=[]);have h2:(toL (gP p) a).length=((gP p).succ (last (gP p) a)).length:=List.length_map ..;have h3:((gP p).succ (last (gP p) a)).length≤2:=by
  show((it jB wrI p (last (gP p) a)).map Int.toNat).length≤2
  rw[List.length_map];exact tG (p:=p) (i:=last (gP p) a)
 exact Nat.le_trans h (by rw[List.length_nil];omega)
set_option maxHeartbeats 8000000 in
theorem x5 (p:List In) (hp:p.length≤9223372036854775807):∃r,(∃H',r=(CV.bool true,H'))∧FF 5 [sl inC p] []=some r:=by
 by_cases h0:gW p=0
 ·have hg:Ok (gP p):=vE h0
  obtain⟨hn1,hn2,_⟩:=nb h0;obtain⟨hrl,hll⟩:=nc h0;obtain⟨v,H,l,hF,_,k7⟩:=k7 hp h0 [];refine bA rfl Try.func5 s5 (Nat.le_of_ble_eq_true rfl) (λQ hqr hqn=>?_);rw[bf (show An.pure 5=true from rfl) (by simp only[cans,aG,az,aC,aH,inE.can_sl])];simp only[aO,Nat.reduceAdd,c5]
  repeat' (first
  |with_reducible (first|refine ai ?_|refine ar ?_|refine ax rfl ?_|refine aj (id:=0) (λQ0 hn0 hx0 hr0 ho0=>?_))
  |(with_reducible (refine ah (λK hK=>?_);(first|refine t5r0 ?_|refine t5r1 ?_|refine t5r2 ?_|refine t5r4 ?_));(try simp only[true_implies,false_implies,not_true_eq_false,b9,if_true,if_false,Nat.reduceEqDiff,aJ,dg,List.getElem?_cons_zero,List.getElem?_cons_succ,br,dT,and_true,if_false,if_true,k7,ne_eq,eq_self]))
  |(revert hK;intro hK;(with_reducible refine hK _ ?_;clear hK K)))
  refine aU (λm s=>∃(k:Nat) (L:List (Nat×HO)) (H:List HO),FB p H v l∧k≤(cj (gP p)).length∧m=(cj (gP p)).length - k∧s=⟨[(0,sl inC p),(3,v),(5,.int .i64 k)],⟨L,H⟩⟩) _ ⟨0,_,H,hF,Nat.zero_le _,rfl,rfl⟩ ?_;clear hF;rintro m s ⟨k,L,H,hF,hk,rfl,rfl⟩ QL2 hnL2 hxL2 hrL2;simp only[c5l2]
  by_cases hkN:k<(cj (gP p)).length
  ·have hlt':(k:Int)<(cj (gP p)).length:=by omega
   have hw':IntKind.i64.wrap ((k:Int)+1)=k+1:=wI (by omega) (by omega);have ek:((k:Int)+1)=((k+1:Nat):Int):=by omega
   obtain⟨a,ha⟩:∃a,(cj (gP p))[k]?=some a:=⟨_,List.getElem?_eq_getElem hkN⟩;have haL:Lead (gP p) a:=(gB hg).1 (List.mem_of_getElem? ha);have hal:=haL.r.live hg;have hlal:=(pz hg hal).live hg hal;have hlp:last (gP p) a<p.length:=hg.lt _ hlal;have hnx:∀L' H',FB p H' v l→QL2 .normal ⟨[(0,sl inC p),(3,v),(5,.int .i64 ((k:Int)+1))],⟨L',H'⟩⟩:=λL' H' hF'=>by
    rw[ek];exact hnL2 ((cj (gP p)).length - (k+1)) _ (by omega) ⟨k+1,L',H',hF',by omega,rfl,rfl⟩
   obtain⟨n,gn,sv,pv,hix,l0,l1,l2,l3,l4,hsv,hpv⟩:=hF.at ha
   repeat' (first
   |with_reducible (first|refine ai ?_|refine ar ?_|refine au rfl ?_|refine aj (id:=1) (λQ1 hn1 hx1 hr1 ho1=>?_))
   |(with_reducible (refine ah (λK hK=>?_);(first|refine t5r5 ?_|refine t5r7 ?_));(try simp only[true_implies,false_implies,not_true_eq_false,b9,if_true,if_false,Nat.reduceEqDiff,aJ,dg,cb,eN,Option.map_some,lenS,and_true,if_false,if_true,hF.clen,hlt',hix,l2]))
   |(revert hK;intro hK;(with_reducible refine hK _ ?_;clear hK K)))
   refine k16 (by omega) rfl λvs m' hO hH' hf=>?_;rw[gV h0 hlal] at hO;refine hK _ ?_;clear hK K;obtain⟨L',H'⟩:=m';simp only at hH';subst hH'
   repeat' (first
   |with_reducible (first|refine ai ?_|refine aj (id:=2) (λQ2 hn2 hx2 hr2 ho2=>?_))
   |(with_reducible (refine ah (λK hK=>?_);refine t5r8 ?_);(try simp only[b9,if_true,if_false,Nat.reduceEqDiff,dg,if_false,if_true]))
   |(revert hK;intro hK;(with_reducible refine hK _ ?_;clear hK K)))
   refine aU (λm s=>∃(d t:List Nat) (L:List (Nat×HO)) (H:List HO),(gP p).succ (last (gP p) a)=d++t∧m=t.length∧FB p H v l∧OwnE aX 1 ⟨L,[]⟩ 496 vs (nI ((gP p).succ (last (gP p) a))) ∧
     s=⟨[(0,sl inC p),(3,v),(5,.int .i64 k),(6,vs),(7,.int .i64 d.length)],⟨L,H⟩⟩) _ ⟨[],_,L',_,rfl,rfl,hF,hO.keep rfl,rfl⟩ ?_
   clear hO hF hf hix l0 l1 l2 l3 l4 hsv hpv;rintro m s ⟨d,t,L2,H2,h3,rfl,hF,hO,rfl⟩ QL0 hnL0 hxL0 hrL0;have hlen:=congrArg List.length h3;simp only[List.length_append] at hlen;have hs2:((gP p).succ (last (gP p) a)).length≤2:=by
    have:=tG (p:=p) (i:=last (gP p) a);rw[gV h0 hlal,d8] at this;exact this
   simp only[c5l0]
   cases t with
   |cons y t=>
    simp only[List.length_cons] at hlen;have hlt:(d.length:Int)<((gP p).succ (last (gP p) a)).length:=by omega
    have hw:IntKind.i64.wrap ((d.length:Int)+1)=d.length+1:=wI (by omega) (by omega);have hget:(nI ((gP p).succ (last (gP p) a)))[d.length]?=some (y:Int):=by rw[q5,h3];simp
    obtain⟨q,hq1,hq2⟩:=hO.at hget (k:=.i64);have hld:∀H,ld1 ⟨L2,H⟩ q=some (.int .i64 y):=λH=>hq2 ⟨L2,H⟩ rfl;have hys:y∈(gP p).succ (last (gP p) a):=by rw[h3];simp
    have hyL:Lead (gP p) y:=LQ hg haL hys;obtain⟨kt,hkt,hky⟩:=KU hg hyL;have kF:∀t,cd An FF 5 (some t) 13 [v,.int .i64 y] ⟨L2,H2⟩=some (.int .i64 kt,⟨L2,H2++[.var 1 [.int .i64 y] 0]⟩):=λt=>by
     have:=k13 (fid:=5) (t:=t) (L:=L2) (x:=(y:Int)) hF.blks hF.esc (by rw[hF.len];omega);rw[LH hF.hd,hkt] at this;exact this
    have hF2:=hF.app (E:=[HO.var 1 [.int .i64 y] 0]);obtain⟨n,gn,sv,pv,hix,l0,l1,l2,l3,l4,hsv,hpv⟩:=hF2.at ha;obtain⟨n',gn',sv',pv',hix',l0',l1',l2',l3',l4',hsv',hpv'⟩:=hF2.at hky;have hin:(kt:Int)∈KI (gP p) a:=PU.2 (.inr (by rw[toL,List.mem_map];exact⟨y,hys,hkt⟩));have c1:=Mo (KR List.nodup_nil) hin;have hpm:(k:Int)∈tp (gP p) kt 0 (cj (gP p)):=Qd.2 ⟨k,a,ha,by simp,hin⟩;have c2:=Mo Nq hpm;have hdl:=Mp (p:=p) (a:=a);have hpl:=Kp (g:=gP p) (t:=(kt:Int)) (l:=cj (gP p)) (k:=0);have kc1:∀t L,cd An FF 5 (some t) 17 [sv,.int .i64 kt] ⟨L,H2++[.var 1 [.int .i64 y] 0]⟩=some (.int .i64 1,⟨L,H2++[.var 1 [.int .i64 y] 0]⟩):=λt L=>by
     rw[k17 hsv (by omega),show Nl (KI (gP p) a) kt=1 from c1]
    have kc2:∀t L,cd An FF 5 (some t) 17 [pv',.int .i64 k] ⟨L,H2++[.var 1 [.int .i64 y] 0]⟩=some (.int .i64 1,⟨L,H2++[.var 1 [.int .i64 y] 0]⟩):=λt L=>by
     rw[k17 hpv' (by omega),c2]
    have hk0:¬((kt:Int)<0):=by omega
    repeat' (first
    |with_reducible (first|refine ai ?_|refine ar ?_|refine au rfl ?_|refine d7 rfl ?_|refine bx ?_|refine aj (id:=3) (λQ3 hn3 hx3 hr3 ho3=>?_)|refine hn3 _ ?_)
    |(with_reducible ((first|refine ah (λK hK=>?_)|refine aI (λK hK=>?_));(first|refine t5r9 ?_|refine t5r11 ?_|refine t5r12 ?_|refine t5r10 ?_));(try simp only[true_implies,false_implies,not_true_eq_false,not_false_eq_true,b9,if_true,if_false,Nat.reduceEqDiff,aJ,dg,cb,eN,br,qz,qy,Option.map_some,ic,gf,lenS,dU,cK,and_true,true_and,if_false,if_true,hO.len,d8,hlt,hq1,hld,kF,hk0,hix,hix',l0',l3,l4',Nat.add_zero,ne_eq,eq_self,kc1,kc2,hw]))
    |(revert hK;intro hK;(with_reducible refine hK _ ?_;clear hK K)))
    exact hnL0 t.length _ (by simp) ⟨d++[y],t,L2,_,by simp[h3],rfl,hF2,hO,by simp⟩
   |nil=>
    simp only[List.length_nil] at hlen;have hge:¬((d.length:Int)<((gP p).succ (last (gP p) a)).length):=by omega
    repeat' (first
    |with_reducible (first|refine ai ?_|refine ax rfl ?_|refine aN ?_|refine hx2 _ ?_|refine bl (id:=4) (λQ4 hn4 hx4 hr4 ho4=>?_)|refine hxL0 _ _ ?_)
    |(with_reducible (refine ah (λK hK=>?_);(first|refine t5r9 ?_|refine t5r14 ?_));(try simp only[true_implies,false_implies,not_false_eq_true,b9,if_true,if_false,Nat.reduceEqDiff,aJ,dg,eN,Option.map_some,lenS,true_and,if_false,if_true,hO.len,d8,hge]))
    |(revert hK;intro hK;(with_reducible refine hK _ ?_;clear hK K)))
    obtain⟨n,gn,sv,pv,hix,l0,l1,l2,l3,l4,hsv,hpv⟩:=hF.at ha;obtain⟨P,hP⟩:∃P,P=tp (gP p) k 0 (cj (gP p)):=⟨_,rfl⟩;have hPl:P.length≤4096:=by
     have:=Kp (g:=gP p) (t:=(k:Int)) (l:=cj (gP p)) (k:=0);rw[hP];omega
    have hPs:P.Pairwise (· < ·):=by rw[hP];exact(Ms (g:=gP p) (t:=(k:Int)) (l:=cj (gP p)) (k:=0)).1
    rw[←hP] at hpv;refine aU (λm s=>∃(d t:List Int),P=d++t∧m=t.length∧s=⟨[(0,sl inC p),(3,v),(5,.int .i64 k),(9,.int .i64 d.length)],⟨L2,H2⟩⟩) _ ⟨[],P,rfl,rfl,rfl⟩ ?_;rintro m s ⟨d',t',h4,rfl,rfl⟩ QL1 hnL1 hxL1 hrL1;have hlen':=congrArg List.length h4;simp only[List.length_append] at hlen';simp only[c5l1]
    cases t' with
    |nil=>
     simp only[List.length_nil] at hlen';have hge':¬((d'.length:Int)<P.length):=by omega
     repeat' (first
     |with_reducible (first|refine ai ?_|refine ax rfl ?_|refine aN ?_|refine hn1 _ ?_|refine hx4 _ ?_|refine hxL1 _ _ ?_)
     |(with_reducible ((first|refine ah (λK hK=>?_)|refine aI (λK hK=>?_));(first|refine Q8 ?_|refine t5r6 ?_));(try simp only[true_implies,false_implies,not_false_eq_true,b9,if_true,if_false,Nat.reduceEqDiff,aJ,dg,cb,eN,lenS,dU,cK,true_and,if_false,if_true,hix,l4,hpv.len,hge',hw']))
     |(revert hK;intro hK;(with_reducible refine hK _ ?_;clear hK K)))
     exact hnx _ _ hF
    |cons y t'=>
     simp only[List.length_cons] at hlen';have hlt:(d'.length:Int)<P.length:=by omega
     have hw:IntKind.i64.wrap ((d'.length:Int)+1)=d'.length+1:=wI (by omega) (by omega);have hget:P[d'.length]?=some y:=by rw[h4];simp
     obtain⟨q,hq1,hq2⟩:=hpv.at hget (k:=.i64);have hyP:y∈tp (gP p) k 0 (cj (gP p)):=by rw[←hP,h4];simp
     obtain⟨j,b,hj,hyj,hkb⟩:=Qd.1 hyP;rw[Nat.zero_add] at hyj;subst hyj;have hjN:=(List.getElem?_eq_some_iff.1 hj).1;obtain⟨n',gn',sv',pv',hix',l0',l1',l2',l3',l4',hsv',hpv'⟩:=hF.at hj;have c1:=Mo (KR List.nodup_nil) hkb;have hdl:=Mp (p:=p) (a:=b);have kc1:∀t L,cd An FF 5 (some t) 17 [sv',.int .i64 k] ⟨L,H2⟩=some (.int .i64 1,⟨L,H2⟩):=λt L=>by
      rw[k17 hsv' (by omega),show Nl (KI (gP p) b) k=1 from c1]
     have hj0:¬((j:Int)<0):=by omega
     have hj1:¬(((cj (gP p)).length:Int)≤j):=by omega
     have e:((d'.length:Int)+1)=((d'++[(j:Int)]).length:Int):=by simp
     have hn1':QL1 .normal ⟨[(0,sl inC p),(3,v),(5,.int .i64 k),(9,.int .i64 ((d'.length:Int)+1))],⟨L2,H2⟩⟩:=by
      rw[e];exact hnL1 t'.length _ (by simp) ⟨d'++[(j:Int)],t',by simp[h4],rfl,rfl⟩
     by_cases hz:d'.length=0
     ·have hz':¬(0:Int)<(d'.length:Int):=by omega
      repeat' (first
      |with_reducible (first|refine ai ?_|refine ar ?_|refine au rfl ?_|refine d7 rfl ?_|refine bx ?_|refine aj (id:=5) (λQ5 hn5 hx5 hr5 ho5=>?_)|refine hn5 _ ?_)
      |(with_reducible ((first|refine ah (λK hK=>?_)|refine aI (λK hK=>?_));(first|refine Q8 ?_|refine t5r17 ?_|refine t5r18 ?_|refine t5r16 ?_));(try simp only[true_implies,false_implies,not_true_eq_false,not_false_eq_true,b9,if_true,if_false,Nat.reduceEqDiff,aJ,dg,cb,eN,bq,gU,br,nL,qz,qy,lw,bI,ic,gf,lenS,dU,cK,fe,and_true,true_and,if_false,if_true,hix,l4,hpv.len,hlt,hq1,hq2,hj0,hF.clen,ge_iff_le,hj1,hix',l3',kc1,ne_eq,eq_self,gt_iff_lt,hz',hw]))
      |(revert hK;intro hK;(with_reducible refine hK _ ?_;clear hK K)))
      all_goals exact hn1'
     ·have hz':(0:Int)<(d'.length:Int):=by omega
      obtain⟨z,hz2⟩:∃z,P[d'.length - 1]?=some z:=⟨_,List.getElem?_eq_getElem (by omega)⟩;obtain⟨q',hq1',hq2'⟩:=hpv.at hz2 (k:=.i64);rw[show((d'.length - 1:Nat):Int)=(d'.length:Int) - 1 by omega] at hq1';have hwm:IntKind.i64.wrap ((d'.length:Int) - 1)=d'.length - 1:=wI (by omega) (by omega);have hlz:z<(j:Int):=by
       obtain⟨u1,u2⟩:=List.getElem?_eq_some_iff.1 hz2;obtain⟨u3,u4⟩:=List.getElem?_eq_some_iff.1 hget;rw[←u2,←u4];exact List.pairwise_iff_getElem.1 hPs _ _ u1 u3 (by omega)
      have hle:¬((j:Int)≤z):=by omega
      repeat' (first
      |with_reducible (first|refine ai ?_|refine ar ?_|refine au rfl ?_|refine d7 rfl ?_|refine bx ?_|refine aj (id:=5) (λQ5 hn5 hx5 hr5 ho5=>?_)|refine hn5 _ ?_)
      |(with_reducible ((first|refine ah (λK hK=>?_)|refine aI (λK hK=>?_));(first|refine Q8 ?_|refine t5r17 ?_|refine t5r18 ?_|refine t5r16 ?_));(try simp only[true_implies,false_implies,not_true_eq_false,not_false_eq_true,b9,if_true,if_false,Nat.reduceEqDiff,aJ,dg,cb,eN,cB,bq,gU,br,nL,qz,qy,lw,bI,ic,gf,lenS,dU,cK,fe,and_true,true_and,if_false,if_true,hix,l4,hpv.len,hlt,hq1,hq2,hj0,hF.clen,ge_iff_le,hj1,hix',l3',kc1,ne_eq,eq_self,gt_iff_lt,hz',hwm,hq1',hq2',hle,hw]))
      |(revert hK;intro hK;(with_reducible refine hK _ ?_;clear hK K)))
      all_goals exact hn1'
  ·have hge':¬((k:Int)<(cj (gP p)).length):=by omega
   repeat' (first
   |with_reducible (first|refine ai ?_|refine ax rfl ?_|refine aN ?_|refine aF ?_|refine hx0 _ ?_|refine hxL2 _ _ ?_)
   |(with_reducible (first|(refine ah (λK hK=>?_);(first|refine t5r5 ?_|refine t5r20 ?_))|refine hqr _ ?_);(try simp only[true_implies,false_implies,not_false_eq_true,b9,if_true,if_false,Nat.reduceEqDiff,aJ,dg,eN,Option.map_some,lenS,true_and,if_false,if_true,r5,aQ,ak,aD,Option.bind_some,am,jx,aV,Prod.mk.injEq,hF.clen,hge',k15]))
   |(revert hK;intro hK;(with_reducible refine hK _ ?_;clear hK K)))
   all_goals exact⟨_,rfl⟩
 ·have k7:=λt m=>Nn hp h0 (fid:=5) (t:=t) (m:=m)
  refine bA rfl Try.func5 s5 (Nat.le_of_ble_eq_true rfl) (λQ hqr hqn=>?_);rw[bf (show An.pure 5=true from rfl) (by simp only[cans,aG,az,aC,aH,inE.can_sl])];simp only[aO,Nat.reduceAdd,c5]
  repeat' (first
  |with_reducible (first|refine ai ?_|refine au rfl ?_|refine b6 ?_)
  |(with_reducible (first|(refine ah (λK hK=>?_);(first|refine t5r0 ?_|refine t5r1 ?_|refine t5r2 ?_|refine t5r3 ?_))|refine hqr _ ?_);(try simp only[true_implies,false_implies,not_false_eq_true,b9,if_true,if_false,Nat.reduceEqDiff,aJ,dg,List.getElem?_cons_zero,List.getElem?_cons_succ,br,Option.map_some,dT,true_and,if_false,if_true,r5,aQ,ak,aD,Option.bind_some,am,jx,aV,Prod.mk.injEq,k7,h0,ne_eq,k15]))
  |(revert hK;intro hK;(with_reducible refine hK _ ?_;clear hK K)))
  all_goals exact⟨_,rfl⟩
end Go.Cm
