import Derived.Test.YtjhndbgokapikaaFoG
set_option linter.unusedSimpArgs false
set_option linter.unusedVariables false
namespace Go.Cm
open Go.Proofs Go.Fl
theorem BI.weak {b n gn:Nat}{HX H0 H:List HO}{l:List BkS}{sp:Nat→Bool→List Int}(h:BI (b+1) n gn HX H l sp) (hx:∀i,i<b→HX[i]?=H0[i]?):BI b n gn H0 H l sp where
 bn:=by have:=h.bn;omega
 out:=h.out
 row j c x hj:=by
  rcases h.row j c x hj with h1|⟨m,g,h1,h2,h3⟩
  ·exact .inl h1
  ·exact .inr ⟨m,g,h1,by omega,h3⟩
 apart:=h.apart
 old i hi:=(h.old i (by omega)).trans (hx i hi)
theorem k18 {p:List In}(hp:p.length≤9223372036854775807):∃ci,∀(fid:FuncId) (t:Tmp) (m:Mem),cd An FF fid (some t) 18 [sl inC p] m=some (.tuple [.int .i64 ci,.int .i64 (gW p)],m):=by
 obtain⟨_,⟨ci,H0,rfl⟩,hc⟩:=x18 p hp
 exact⟨ci,λ_ _ _=>cr hc (λ_ _ _=>rfl) rfl (by simp only[cans,inE.can_sl]) rfl (by simp only[noGs,inE.noG_sl,Bool.and_self]) rfl⟩
theorem k11 {p:List In}(hp:p.length≤9223372036854775807) {fid:FuncId}{t:Tmp}{m:Mem}{K:CV×Mem→Prop}(hgl:(An.glob fid).contains t=false)
  (hK:∀v m',OwnE aX 1 m' (16*t) v (hC p)→m'.H=m.H→(∀i,i≠16*t→aK m'.L i=aK m.L i)→K (v,m')):Obt (cd An FF fid (some t) 11 [sl inC p] m) K:=by
 obtain⟨_,⟨H',rfl⟩,h⟩:=x11 p hp;exact gX h rfl (by simp only[cans,inE.can_sl]) rfl (by simp only[noGs,inE.noG_sl,Bool.and_self]) intE.noG hgl hK
theorem x7_bad (p:List In) (hp:p.length≤9223372036854775807) (H0:List HO) (h0:¬gW p=0):FF 7 [sl inC p] H0=some (.tuple [.nil,.int .i64 (gW p)],H0):=by
 obtain⟨ci,kC⟩:=k18 (p:=p) (by omega);refine aL rfl Try.func7 s7 (Nat.le_of_ble_eq_true rfl) (λQ hqr hqn=>?_);rw[show ∀a,cin (An.pure 7) a=a from λ_=>rfl];simp only[aO,Nat.reduceAdd,c7]
 repeat' (first
 |with_reducible (first|refine ai ?_|refine au rfl ?_|refine b6 ?_)
 |(with_reducible (first|(refine ah (λK hK=>?_);(first|refine t7r0 ?_|refine t7r1 ?_|refine t7r2 ?_|refine t7r3 ?_))|refine hqr _ ?_);(try simp only[true_implies,false_implies,not_false_eq_true,b9,if_true,if_false,Nat.reduceEqDiff,aJ,dg,List.getElem?_cons_zero,List.getElem?_cons_succ,br,Option.map_some,dT,true_and,if_false,if_true,r7,aQ,ak,aD,Option.bind_some,am,bz,eh,bW,kC,h0,ne_eq]))
 |(revert hK;intro hK;(with_reducible refine hK _ ?_;clear hK K)))
set_option maxHeartbeats 8000000 in
theorem Oj {p:List In}(h0:gW p=0) {H0:List HO}{S:List Nat}(hS:∀x,x∈S↔Lead (gP p) x) {v7:CV}{L:List (Nat×HO)}(hO:OwnE aX 1 ⟨L,[]⟩ 480 v7 (nI (bO (gP p)))) {Q:CE→TS→Prop}
  (hQ:∀L' H' v,BlksO (H0.length+1) H' v ((cj (gP p)).map (bk0 (gP p)))→H0.length+1≤H'.length→(∀i,i<H0.length+1→H'[i]?=(H0++[HO.map 1 (esI .i64 (esB S))])[i]?) →
   Q (.exit 4) ⟨[(0,sl inC p),(6,.map (.g H0.length) 1),(12,v),(54,v7),(55,.int .i64 (bO (gP p)).length),(56,.int .i64 (bO (gP p)).length),(57,.bool false)],⟨L',H'⟩⟩) :
  Tx Try.prog An FF 7 (.loop c7l2) ⟨[(0,sl inC p),(6,.map (.g H0.length) 1),(12,.nil),(54,v7),(55,.int .i64 (bO (gP p)).length),(56,.int .i64 0)],⟨L,H0++[HO.map 1 (esI .i64 (esB S))]⟩⟩ Q:=by
 have hg:Ok (gP p):=vE h0;obtain⟨hn1,hn2,_⟩:=nb h0;have hrl:(bO (gP p)).length≤4096:=Nat.le_trans (List.length_filter_le _ _) (by rw[List.length_range];exact hn1);have hsetL:∀(L:List (Nat×HO)) (H:List HO) i x,bi ⟨L,H⟩ i x=⟨gb L i x,H⟩:=λ_ _ _ _=>rfl;have hlead:cj (gP p)=(bO (gP p)).filter λx=>decide (x∈S):=by
  unfold cj;refine List.filter_congr λx _=>?_;exact decide_eq_decide.2 (hS x).symm
 refine aU (λk s=>∃(d t:List Nat) (v:CV) (L:List (Nat×HO)) (H:List HO),bO (gP p)=d++t∧k=t.length∧BlksO (H0.length+1) H v ((d.filter λx=>decide (x∈S)).map (bk0 (gP p)))∧H0.length+1≤H.length∧(∀i,i<H0.length+1→H[i]?=(H0++[HO.map 1 (esI .i64 (esB S))])[i]?)∧OwnE aX 1 ⟨L,[]⟩ 480 v7 (nI (bO (gP p))) ∧
   s=⟨[(0,sl inC p),(6,.map (.g H0.length) 1),(12,v),(54,v7),(55,.int .i64 (bO (gP p)).length),(56,.int .i64 d.length)],⟨L,H⟩⟩) _ ⟨[],bO (gP p),.nil,L,_,rfl,rfl,.inl ⟨rfl,rfl⟩,by simp,λ_ _=>rfl,hO,rfl⟩ ?_
 clear hO;rintro k s ⟨d,t,v,L,H,h3,rfl,hB,hHl,hold,hO,rfl⟩ QL2 hnL2 hxL2 hrL2;have hlen:=congrArg List.length h3;simp only[List.length_append] at hlen;simp only[c7l2]
 cases t with
 |nil=>
  simp only[List.length_nil] at hlen;rw[List.append_nil] at h3;have hge:¬((d.length:Int)<(bO (gP p)).length):=by omega
  have e:d.length=(bO (gP p)).length:=by omega
  repeat' (first
  |with_reducible (first|refine ax rfl ?_|refine aN ?_|refine hxL2 _ _ ?_)
  |(with_reducible (refine ah (λK hK=>?_);refine Q9 ?_);(try simp only[true_implies,false_implies,not_false_eq_true,b9,if_true,if_false,Nat.reduceEqDiff,dg,eN,true_and,if_false,if_true,hge]))
  |(revert hK;intro hK;(with_reducible refine hK _ ?_;clear hK K)))
  rw[e];refine hQ L H v ?_ hHl hold;rw[hlead,h3];exact hB
 |cons x t=>
  simp only[List.length_cons] at hlen;have hlt:(d.length:Int)<(bO (gP p)).length:=by omega
  have hw:IntKind.i64.wrap ((d.length:Int)+1)=d.length+1:=wI (by omega) (by omega);have hget:(nI (bO (gP p)))[d.length]?=some (x:Int):=by rw[q5,h3];simp
  obtain⟨q,hq1,hq2⟩:=hO.at hget (k:=.i64);have hld:∀H,ld1 ⟨L,H⟩ q=some (.int .i64 x):=λH=>hq2 ⟨L,H⟩ rfl;have hxR:R (gP p) x:=(gc hg).1 (by rw[h3];simp);have hmap:H[H0.length]?=some (HO.map 1 (esI .i64 (esB S))):=by rw[hold _ (by omega),nM];rfl
  have hlk:gK Try.prog 3 (.bool false) (.map (.g H0.length) 1) (.int .i64 x) false ⟨L,H⟩=some (.bool (decide (x∈S))):=by
   rw[fK Try.underlying3 (jq (m:=⟨L,H⟩) (a:=H0.length) (g:=1) hmap)];simp only[Bool.false_eq_true,if_false,Nk]
  by_cases hx:x∈S
  ·rw[decide_eq_true hx] at hlk
   have hr:=x21 p h0 S hS H H0.length hmap x hxR;have kR:∀L,cd An FF 7 (some 67) 21 [sl inC p,.map (.g H0.length) 1,.int .i64 x] ⟨L,H⟩=some (.agg [.int .i64 x,.int .i64 (toF (gP p) x),.int .i64 (Fl.last (gP p) x),.nil,.nil],⟨L,H⟩):=λL=>by
    rw[cf (A:=An) (F:=FF) (fid:=7) (d:=67) (m:=⟨L,H⟩) rfl rfl hr];rfl
   repeat' (first
   |with_reducible (first|refine ar ?_|refine au rfl ?_|refine bc rfl ?_|refine aj (id:=5) (λQ5 hn5 hx5 hr5 ho5=>?_))
   |(with_reducible ((first|refine ah (λK hK=>?_)|refine aI (λK hK=>?_));(first|refine Q9 ?_|refine t7r19 ?_|refine t7r20 ?_|refine t7r21 ?_));(try simp only[true_implies,false_implies,not_true_eq_false,b9,if_true,if_false,Nat.reduceEqDiff,aJ,dg,Nat.reduceAdd,Nat.zero_add,eN,List.length_cons,List.length_nil,and_true,if_false,if_true,hlt,hq1,hld,hlk,kR,Om,hsetL]))
   |(revert hK;intro hK;(with_reducible refine hK _ ?_;clear hK K)))
   have hfl:((d.filter λx=>decide (x∈S)).map (bk0 (gP p))).length≤1000000:=by
    rw[List.length_map];have:=List.length_filter_le (λx=>decide (x∈S)) d;omega
   obtain⟨v',H',e1,e2,e3,e4⟩:=hB.push hHl (L:=gb L 1088 (.arr (bj L 1088) 5 (bkC (bk0 (gP p) x)) 0)) (j:=1104) (jt:=1088) (gt:=bj L 1088) (x:=bk0 (gP p) x) (by rw[aq,if_pos rfl]) hfl;simp only[bk0] at e1;rw[e1,aJ];refine hK _ ?_;clear hK K
   repeat' (first
   |with_reducible refine hn5 _ ?_
   |(with_reducible (refine aI (λK hK=>?_);refine t7r22 ?_);(try simp only[b9,if_true,if_false,Nat.reduceEqDiff,dg,cK,if_false,if_true,hw]))
   |(revert hK;intro hK;(with_reducible refine hK _ ?_;clear hK K)))
   refine hnL2 t.length _ (by simp) ⟨d++[x],t,v',_,H',by simp[h3],rfl,?_,by omega,λi hi=>(e4 i hi).trans (hold i hi),?_,by simp;rfl⟩
   ·rw[List.filter_append,List.filter_cons_of_pos (by simp[hx]),List.filter_nil,List.map_append]
    exact e2
   ·exact hO.keep (by simp[aq])
  ·rw[decide_eq_false hx] at hlk
   repeat' (first
   |with_reducible (first|refine ar ?_|refine au rfl ?_|refine d7 rfl ?_|refine bx ?_|refine aj (id:=5) (λQ5 hn5 hx5 hr5 ho5=>?_)|refine hn5 _ ?_)
   |(with_reducible ((first|refine ah (λK hK=>?_)|refine aI (λK hK=>?_));(first|refine Q9 ?_|refine t7r19 ?_|refine t7r20 ?_|refine t7r22 ?_));(try simp only[true_implies,false_implies,not_true_eq_false,b9,if_true,if_false,Nat.reduceEqDiff,aJ,dg,eN,cK,and_true,if_false,if_true,hlt,hq1,hld,hlk,hw]))
   |(revert hK;intro hK;(with_reducible refine hK _ ?_;clear hK K)))
   exact hnL2 t.length _ (by simp) ⟨d++[x],t,v,L,H,by simp[h3],rfl,by rw[List.filter_append,List.filter_cons_of_neg (by simp[hx]),List.filter_nil,List.append_nil];exact hB,hHl,hold,hO,by simp⟩
theorem Mr {l:List BkS}{j:Nat}{x:BkS}(hj:l[j]?=some x) (c:Bool) (w:CV):(l.set j (upB x c w)).map hdB=l.map hdB:=by
 refine List.ext_getElem? λi=>?_;rw[List.getElem?_map,List.getElem?_map,List.getElem?_set]
 by_cases e:j=i
 ·subst e
  rw[if_pos rfl,if_pos (List.getElem?_eq_some_iff.1 hj).1,hj,Option.map_some,Option.map_some,hd_upB]
 ·rw[if_neg e]
theorem spA_D {g:Gp}{k:Nat}{D:List Int}:spA g k D k false=D:=by simp[spA]
theorem Lz {g:Gp}{k j:Nat}{D:List Int}{c:Bool}(hD:D.length≤2) (hg:∀a,(g.succ a).length≤2):(spA g k D j c).length≤(cj g).length+2:=by
 unfold spA;split
 ·have h1:=Kp (g:=g) (t:=(j:Int)) (l:=(cj g).take k) (k:=0)
  have h2:((cj g).take k).length≤(cj g).length:=by rw[List.length_take];omega
  rw[List.length_append]
  split<;>simp<;>omega
 ·split
  ·split
   ·rename_i a _
    have h:=Lc (r:=toL g a) (S:=[]);have:=hg (last g a);have h2:(toL g a).length=(g.succ (last g a)).length:=List.length_map ..;exact Nat.le_trans h (by rw[List.length_nil];omega)
   ·simp
  ·split
   ·omega
   ·simp
set_option maxHeartbeats 8000000 in
theorem Ol {p:List In}(h0:gW p=0) {b n gn k a:Nat}{H0 H:List HO}{l:List BkS}(ha:(cj (gP p))[k]?=some a) (hB:BI b n gn H0 H l (spA (gP p) k [])) (hh:l.map hdB=(cj (gP p)).map (hdF (gP p)))
  {vs:CV}{L:List (Nat×HO)}(hO:OwnE aX 1 ⟨L,[]⟩ 1312 vs (nI ((gP p).succ (last (gP p) a)))) {Q:CE→TS→Prop}
  (hQ:∀L' H' l',BI b n gn H0 H' l' (spA (gP p) (k+1) [])→l'.map hdB=(cj (gP p)).map (hdF (gP p)) →
   Q (.exit 8) ⟨[(0,sl inC p),(12,.ref (.g n) gn 0 (cj (gP p)).length),(15,.int .i64 k),(72,.int .i64 (cj (gP p)).length),(73,.int .i64 k),(82,vs),(83,.int .i64 ((gP p).succ (last (gP p) a)).length),(84,.int .i64 ((gP p).succ (last (gP p) a)).length),(85,.bool false)],⟨L',H'⟩⟩) :
  Tx Try.prog An FF 7 (.loop c7l3) ⟨[(0,sl inC p),(12,.ref (.g n) gn 0 (cj (gP p)).length),(15,.int .i64 k),(72,.int .i64 (cj (gP p)).length),(73,.int .i64 k),(82,vs),(83,.int .i64 ((gP p).succ (last (gP p) a)).length),(84,.int .i64 0)],⟨L,H⟩⟩ Q:=by
 have hg:Ok (gP p):=vE h0;obtain⟨hn1,hn2,_⟩:=nb h0;have hLl:(cj (gP p)).length≤4096:=Nat.le_trans (List.length_filter_le _ _) (Nat.le_trans (List.length_filter_le _ _) (by rw[List.length_range];exact hn1));have hsetL:∀(L:List (Nat×HO)) (H:List HO) i x,bi ⟨L,H⟩ i x=⟨gb L i x,H⟩:=λ_ _ _ _=>rfl;have hal:Lead (gP p) a:=(gB hg).1 (List.mem_of_getElem? ha);have hs2:∀x,((gP p).succ x).length≤2:=λx=>by
  show((it jB wrI p x).map Int.toNat).length≤2
  rw[List.length_map];exact tG (p:=p) (i:=x)
 have hkl:=(List.getElem?_eq_some_iff.1 ha).1;refine aU (λm s=>∃(d t:List Nat) (L:List (Nat×HO)) (H:List HO) (l:List BkS),(gP p).succ (last (gP p) a)=d++t∧m=t.length∧BI b n gn H0 H l (spA (gP p) k (dd [] (d.map (fk (gP p)))))∧l.map hdB=(cj (gP p)).map (hdF (gP p))∧OwnE aX 1 ⟨L,[]⟩ 1312 vs (nI ((gP p).succ (last (gP p) a))) ∧
   s=⟨[(0,sl inC p),(12,.ref (.g n) gn 0 (cj (gP p)).length),(15,.int .i64 k),(72,.int .i64 (cj (gP p)).length),(73,.int .i64 k),(82,vs),(83,.int .i64 ((gP p).succ (last (gP p) a)).length),(84,.int .i64 d.length)],⟨L,H⟩⟩) _ ⟨[],_,L,H,l,rfl,rfl,hB,hh,hO,rfl⟩ ?_
 clear hO hB hh;rintro m s ⟨d,t,L,H,l,h3,rfl,hB,hh,hO,rfl⟩ QL3 hnL3 hxL3 hrL3;have hlen:=congrArg List.length h3;simp only[List.length_append] at hlen;have hll:l.length=(cj (gP p)).length:=by have:=congrArg List.length hh;rw[List.length_map,List.length_map] at this;exact this
 simp only[c7l3]
 cases t with
 |nil=>
  simp only[List.length_nil] at hlen;rw[List.append_nil] at h3;have hge:¬((d.length:Int)<((gP p).succ (last (gP p) a)).length):=by omega
  have e:d.length=((gP p).succ (last (gP p) a)).length:=by omega
  repeat' (first
  |with_reducible (first|refine ax rfl ?_|refine aN ?_|refine hxL3 _ _ ?_)
  |(with_reducible (refine ah (λK hK=>?_);refine Ra ?_);(try simp only[true_implies,false_implies,not_false_eq_true,b9,if_true,if_false,Nat.reduceEqDiff,dg,eN,true_and,if_false,if_true,hge]))
  |(revert hK;intro hK;(with_reducible refine hK _ ?_;clear hK K)))
  rw[e];refine hQ L H l ?_ hh;rw[←MW ha];rw[←h3] at hB;exact hB
 |cons y t=>
  simp only[List.length_cons] at hlen;have hlt:(d.length:Int)<((gP p).succ (last (gP p) a)).length:=by omega
  have hsl2:=hs2 (last (gP p) a);have hw:IntKind.i64.wrap ((d.length:Int)+1)=d.length+1:=wI (by omega) (by omega);have hget:(nI ((gP p).succ (last (gP p) a)))[d.length]?=some (y:Int):=by rw[q5,h3];simp
  obtain⟨q,hq1,hq2⟩:=hO.at hget (k:=.i64);have hld:∀H,ld1 ⟨L,H⟩ q=some (.int .i64 y):=λH=>hq2 ⟨L,H⟩ rfl;have hyL:Lead (gP p) y:=LQ hg hal (by rw[h3];simp);obtain⟨kt,hkt,hky⟩:=KU hg hyL;have hktl:kt<(cj (gP p)).length:=(List.getElem?_eq_some_iff.1 hky).1;obtain⟨D,hD⟩:∃D,D=dd [] (d.map (fk (gP p))):=⟨_,rfl⟩;have hDl:D.length≤2:=by
   have h:=Lc (r:=d.map (fk (gP p))) (S:=[]);have:=hs2 (last (gP p) a);rw[←hD,List.length_map,List.length_nil] at h;omega
  have hdd:dd [] ((d++[y]).map (fk (gP p)))=dd D [(kt:Int)]:=by rw[List.map_append,Kx,←hD,List.map_cons,hkt];rfl
  rw[←hD] at hB;have kF:∀t,cd An FF 7 (some t) 13 [.ref (.g n) gn 0 (cj (gP p)).length,.int .i64 y] ⟨L,H⟩=some (.int .i64 kt,⟨L,H++[.var 1 [.int .i64 y] 0]⟩):=λt=>by
   have:=k13 (fid:=7) (t:=t) (L:=L) (x:=(y:Int)) hB.blks hB.esc (by omega);rw[hll,LH hh,hkt] at this;exact this
  have hB1:=hB.more [HO.var 1 [.int .i64 y] 0];obtain⟨x,hx⟩:∃x,l[k]?=some x:=⟨_,List.getElem?_eq_getElem (by omega)⟩;obtain⟨_,_,hve,hix,_,_,hl1⟩:=hB1.blks.at hx (k:=.i64);simp only[CV.ref.injEq,Key.g.injEq] at hve;obtain⟨rfl,rfl,_,_⟩:=hve;rw[hll] at hix;have hsv:=hl1 3 x.sv (by decide) rfl;have hsl:=Lz (k:=k) (j:=k) (D:=D) (c:=false) hDl hs2;have kC:∀t L,cd An FF 7 (some t) 22 [x.sv,.int .i64 kt] ⟨L,H++[.var 1 [.int .i64 y] 0]⟩=some (.bool (decide ((kt:Int)∈D)),⟨L,H++[.var 1 [.int .i64 y] 0]⟩):=λt L=>by
   have:=k22 (fid:=7) (t:=t) (L:=L) (x:=(kt:Int)) (hB1.ref hx false) (by omega);rw[spA_D] at this;exact this
  by_cases hin:(kt:Int)∈D
  ·rw[decide_eq_true hin] at kC
   repeat' (first
   |with_reducible (first|refine ar ?_|refine au rfl ?_|refine d7 rfl ?_|refine bx ?_|refine aj (id:=9) (λQ9 hn9 hx9 hr9 ho9=>?_)|refine hn9 _ ?_)
   |(with_reducible ((first|refine ah (λK hK=>?_)|refine aI (λK hK=>?_));(first|refine Ra ?_|refine t7r28 ?_|refine t7r29 ?_|refine t7r30 ?_|refine t7r33 ?_));(try simp only[true_implies,false_implies,not_true_eq_false,b9,if_true,if_false,Nat.reduceEqDiff,aJ,dg,cb,eN,fc,Bool.not_true,cK,and_true,if_false,if_true,hlt,hq1,hld,kF,hix,hsv,kC,hw]))
   |(revert hK;intro hK;(with_reducible refine hK _ ?_;clear hK K)))
   refine hnL3 t.length _ (by simp) ⟨d++[y],t,L,_,l,by simp[h3],rfl,?_,hh,hO,by simp;rfl⟩;rw[hdd,MX hin];exact hB1
  ·rw[decide_eq_false hin] at kC
   repeat' (first
   |with_reducible (first|refine ar ?_|refine au rfl ?_|refine bc rfl ?_|refine aj (id:=9) (λQ9 hn9 hx9 hr9 ho9=>?_))
   |(with_reducible (refine ah (λK hK=>?_);(first|refine Ra ?_|refine t7r28 ?_|refine t7r29 ?_|refine t7r30 ?_|refine t7r31 ?_));(try simp only[true_implies,false_implies,not_true_eq_false,b9,if_true,if_false,Nat.reduceEqDiff,aJ,dg,cb,eN,fc,Bool.not_false,and_true,if_false,if_true,hlt,hq1,hld,kF,hix,hsv,kC,gG,hsetL]))
   |(revert hK;intro hK;(with_reducible refine hK _ ?_;clear hK K)))
   obtain⟨w1,H2,H3,e1,e2,hB2⟩:=hB1.step (c:=false) hx kt (gt:=bj L 1712) (jj:=1728) (jt:=1712) (L:=gb L 1712 (.arr (bj L 1712) 1 [.int .i64 kt] 0)) (by rw[aq,if_pos rfl]) (Nat.le_trans (Nat.succ_le_succ hsl) (by omega));have e1':ej true 1728 1 8 x.sv (.ref (.l 1712) (bj L 1712) 0 1) ⟨gb L 1712 (.arr (bj L 1712) 1 [.int .i64 kt] 0),H++[.var 1 [.int .i64 y] 0]⟩=some (w1,⟨gb L 1712 (.arr (bj L 1712) 1 [.int .i64 kt] 0),H2⟩):=e1;have e2':stX 1 ⟨gb L 1712 (.arr (bj L 1712) 1 [.int .i64 kt] 0),H2⟩ (.ptr (.g n) gn (k*5+3)) w1=some ⟨gb L 1712 (.arr (bj L 1712) 1 [.int .i64 kt] 0),H3⟩:=e2;rw[e1',aJ];simp only[e2',aJ];refine hK _ ?_;clear hK K e1 e1' e2 e2';obtain⟨l2,hl2⟩:∃l2,l2=l.set k (upB x false w1):=⟨_,rfl⟩;have hh2:l2.map hdB=(cj (gP p)).map (hdF (gP p)):=by rw[hl2,Mr hx,hh]
   rw[←hl2] at hB2;have hll2:l2.length=(cj (gP p)).length:=by have:=congrArg List.length hh2;rw[List.length_map,List.length_map] at this;exact this
   obtain⟨x2,hx2⟩:∃x2,l2[kt]?=some x2:=⟨_,List.getElem?_eq_getElem (by omega)⟩;obtain⟨_,_,hve,hix2,_,_,hl12⟩:=hB2.blks.at hx2 (k:=.i64);simp only[CV.ref.injEq,Key.g.injEq] at hve;obtain⟨rfl,rfl,_,_⟩:=hve;rw[hll2] at hix2;have hpv:=hl12 4 x2.pv (by decide) rfl;obtain⟨L2,hL2⟩:∃L2,L2=gb L 1712 (.arr (bj L 1712) 1 [.int .i64 (kt:Int)] 0):=⟨_,rfl⟩;have hO2:OwnE aX 1 ⟨L2,[]⟩ 1312 vs (nI ((gP p).succ (last (gP p) a))):=hO.keep (by rw[hL2,aq,if_neg (by decide)]);rw[←hL2]
   repeat' (first
   |(with_reducible (refine aI (λK hK=>?_);refine t7r32 ?_);(try simp only[b9,if_true,if_false,Nat.reduceEqDiff,aJ,dg,cb,if_false,if_true,hix2,hpv,gG,hsetL])))
   have hsl3:=Lz (g:=gP p) (k:=k) (j:=kt) (D:=D) (c:=true) hDl hs2;obtain⟨w2,H4,H5,e1,e2,hB3⟩:=hB2.step (c:=true) hx2 k (gt:=bj L2 1904) (jj:=1920) (jt:=1904) (L:=gb L2 1904 (.arr (bj L2 1904) 1 [.int .i64 k] 0)) (by rw[aq,if_pos rfl]) (by simp;omega);have e1':ej true 1920 1 8 x2.pv (.ref (.l 1904) (bj L2 1904) 0 1) ⟨gb L2 1904 (.arr (bj L2 1904) 1 [.int .i64 k] 0),H3⟩=some (w2,⟨gb L2 1904 (.arr (bj L2 1904) 1 [.int .i64 k] 0),H4⟩):=e1;have e2':stX 1 ⟨gb L2 1904 (.arr (bj L2 1904) 1 [.int .i64 k] 0),H4⟩ (.ptr (.g n) gn (kt*5+4)) w2=some ⟨gb L2 1904 (.arr (bj L2 1904) 1 [.int .i64 k] 0),H5⟩:=e2;rw[e1',aJ];simp only[e2',aJ];refine hK _ ?_;clear hK K e1 e1' e2 e2'
   repeat' (first
   |with_reducible refine hn9 _ ?_
   |(with_reducible (refine aI (λK hK=>?_);refine t7r33 ?_);(try simp only[b9,if_true,if_false,Nat.reduceEqDiff,dg,cK,if_false,if_true,hw]))
   |(revert hK;intro hK;(with_reducible refine hK _ ?_;clear hK K)))
   have e:=NL (g:=gP p) (k:=k) (kt:=kt) (D:=D) hin hkl;refine hnL3 t.length _ (by simp) ⟨d++[y],t,_,H5,l2.set kt (upB x2 true w2),by simp[h3],rfl,?_,by rw[Mr hx2,hh2],?_,by simp;rfl⟩
   ·rw[hdd,show dd D [(kt:Int)]=D++[(kt:Int)] by simp[dd,hin],←e]
    exact hB3
   ·exact hO2.keep (by rw[aq,if_neg (by decide)])
set_option maxHeartbeats 16000000 in
theorem x7 (p:List In) (hp:p.length≤9223372036854775807) (H0:List HO) (h0:gW p=0) :
  ∃r,(∃H' l n gn,r=(CV.tuple [.ref (.g n) gn 0 l.length,.int .i64 0],H')∧BI H0.length n gn H0 H' l (spA (gP p) (cj (gP p)).length [])∧l.map hdB=(cj (gP p)).map (hdF (gP p)))∧FF 7 [sl inC p] H0=some r:=by
 obtain⟨ci,kC⟩:=k18 (p:=p) (by omega);rw[h0] at kC;have hg:Ok (gP p):=vE h0;obtain⟨hn1,hn2,_⟩:=nb h0;have hre:hC p=nI (bO (gP p)):=by rw[hC,if_pos h0]
 have hrl:(bO (gP p)).length≤4096:=Nat.le_trans (List.length_filter_le _ _) (by rw[List.length_range];exact hn1);have hm0:∀L,mB Try.prog 3 (.map (.g H0.length) 1) (.int .i64 0) (.bool true) ⟨L,H0++[.map 1 []]⟩=some ⟨L,H0++[.map 1 (esI .i64 (esB [0]))]⟩:=λL=>by
  have:=NJ (S:=[]) (s:=0) (H0:=H0) (L:=L);exact this
 have hsetL:∀(L:List (Nat×HO)) (H:List HO) i x,bi ⟨L,H⟩ i x=⟨gb L i x,H⟩:=λ_ _ _ _=>rfl;refine bA rfl Try.func7 s7 (Nat.le_of_ble_eq_true rfl) (λQ hqr hqn=>?_);rw[show ∀a,cin (An.pure 7) a=a from λ_=>rfl];simp only[aO,Nat.reduceAdd,c7]
 repeat' (first
 |with_reducible (first|refine ai ?_|refine ar ?_|refine ax rfl ?_)
 |(with_reducible (refine ah (λK hK=>?_);(first|refine t7r0 ?_|refine t7r1 ?_|refine t7r2 ?_|refine t7r4 ?_|refine t7r5 ?_));(try simp only[true_implies,false_implies,not_true_eq_false,b9,if_true,if_false,Nat.reduceEqDiff,aJ,dg,List.getElem?_cons_zero,List.getElem?_cons_succ,br,dT,and_true,if_false,if_true,kC,ne_eq,eq_self,iL,iJ,hm0]))
 |(revert hK;intro hK;(with_reducible refine hK _ ?_;clear hK K)))
 refine k11 (by omega) rfl λv7 m7 hO7 hH7 _=>?_;rw[hre] at hO7;refine hK _ ?_;clear hK K;obtain⟨L7,H7⟩:=m7;simp only at hH7;subst hH7
 repeat' (first
 |with_reducible (first|refine ai ?_|refine aj (id:=0) (λQ0 hn0 hx0 hr0 ho0=>?_))
 |(with_reducible (refine ah (λK hK=>?_);refine t7r6 ?_);(try simp only[b9,if_true,if_false,Nat.reduceEqDiff,aJ,dg,Option.map_some,lenS,if_false,if_true,hO7.len,d8]))
 |(revert hK;intro hK;(with_reducible refine hK _ ?_;clear hK K)))
 refine aU (λk s=>∃(d t S:List Nat) (L:List (Nat×HO)),bO (gP p)=d++t∧k=t.length∧(∀s,s∈S↔s=0∨∃x∈d,(gP p).jmp x=true∧s∈(gP p).succ x)∧OwnE aX 1 ⟨L,[]⟩ 480 v7 (nI (bO (gP p))) ∧
   s=⟨[(0,sl inC p),(6,.map (.g H0.length) 1),(7,v7),(31,v7),(32,.int .i64 (bO (gP p)).length),(33,.int .i64 d.length)],⟨L,H0++[.map 1 (esI .i64 (esB S))]⟩⟩) _ ⟨[],bO (gP p),[0],L7,rfl,rfl,by simp,hO7.keep rfl,rfl⟩ ?_
 clear hO7;rintro k s ⟨d,t,S,L,h3,rfl,hS,hO,rfl⟩ QL1 hnL1 hxL1 hrL1;have hlen:=congrArg List.length h3;simp only[List.length_append] at hlen;simp only[c7l1]
 cases t with
 |cons x t=>
  simp only[List.length_cons] at hlen;have hlt:(d.length:Int)<(bO (gP p)).length:=by omega
  have hw:IntKind.i64.wrap ((d.length:Int)+1)=d.length+1:=wI (by omega) (by omega);have hget:(nI (bO (gP p)))[d.length]?=some (x:Int):=by rw[q5,h3];simp
  obtain⟨q,hq1,hq2⟩:=hO.at hget (k:=.i64);have hld:∀H,ld1 ⟨L,H⟩ q=some (.int .i64 x):=λH=>hq2 ⟨L,H⟩ rfl;have hxR:R (gP p) x:=(gc hg).1 (by rw[h3];simp);have hxl:=hxR.live hg;have hxn:x<p.length:=hg.lt x hxl;obtain⟨ix,hix0⟩:∃ix,p[x]?=some ix:=⟨_,List.getElem?_eq_getElem hxn⟩;have hix:=hY (k:=.i64) (i:=(x:Int)) inE.len (by omega:0<6) (by omega) hix0;have hjm:=Mq hix0;have kJ:∀t m,cd An FF 7 (some t) 19 [.agg [.int .i64 ix.op,.int .i64 ix.dst,.int .i64 ix.src,.int .i64 ix.off,.int .i64 ix.imm,.int .u64 ix.wide]] m=some (.bool (vo ix),m):=λt m=>k19;have hnext:∀(S':List Nat) L',(∀s,s∈S'↔s∈S∨((gP p).jmp x=true∧s∈(gP p).succ x))→OwnE aX 1 ⟨L',[]⟩ 480 v7 (nI (bO (gP p))) →
    QL1 .normal ⟨[(0,sl inC p),(6,.map (.g H0.length) 1),(7,v7),(31,v7),(32,.int .i64 (bO (gP p)).length),(33,.int .i64 ((d.length:Int)+1))],⟨L',H0++[.map 1 (esI .i64 (esB S'))]⟩⟩:=λS' L' h1 h2=>by
   have e:((d.length:Int)+1)=((d++[x]).length:Int):=by simp
   rw[e];refine hnL1 t.length _ (by simp) ⟨d++[x],t,S',L',by simp[h3],rfl,λs=>?_,h2,rfl⟩;rw[h1,hS];constructor
   ·rintro((h|⟨y,h4,h5⟩)|h)
    ·exact .inl h
    ·exact .inr ⟨y,List.mem_append_left _ h4,h5⟩
    ·exact .inr ⟨x,by simp,h⟩
   ·rintro(h|⟨y,h4,h5⟩)
    ·exact .inl (.inl h)
    ·rcases List.mem_append.1 h4 with h4|h4
     ·exact .inl (.inr ⟨y,h4,h5⟩)
     ·rw[List.mem_singleton.1 h4] at h5;exact .inr h5
  cases hj:vo ix with
  |false=>
   rw[hj] at kJ
   repeat' (first
   |with_reducible (first|refine ar ?_|refine au rfl ?_|refine d7 rfl ?_|refine bx ?_|refine aj (id:=1) (λQ1 hn1 hx1 hr1 ho1=>?_)|refine hn1 _ ?_)
   |(with_reducible ((first|refine ah (λK hK=>?_)|refine aI (λK hK=>?_));(first|refine t7r7 ?_|refine t7r8 ?_|refine t7r9 ?_|refine t7r15 ?_));(try simp only[true_implies,false_implies,not_true_eq_false,b9,if_true,if_false,Nat.reduceEqDiff,aJ,dg,eN,cK,List.nil_append,List.cons_append,and_true,if_false,if_true,hlt,hq1,hld,hix,inC,d9,kJ,hw]))
   |(revert hK;intro hK;(with_reducible refine hK _ ?_;clear hK K)))
   exact hnext S L (λs=>⟨.inl,λh=>h.elim id λh=>by rw[hjm,hj] at h;cases h.1⟩) hO
  |true=>
   rw[hj] at kJ
   repeat' (first
   |with_reducible (first|refine ar ?_|refine au rfl ?_|refine bc rfl ?_|refine aj (id:=1) (λQ1 hn1 hx1 hr1 ho1=>?_))
   |(with_reducible (refine ah (λK hK=>?_);(first|refine t7r7 ?_|refine t7r8 ?_|refine t7r9 ?_|refine t7r10 ?_));(try simp only[true_implies,false_implies,not_true_eq_false,b9,if_true,if_false,Nat.reduceEqDiff,aJ,dg,eN,lenS,dU,List.nil_append,List.cons_append,and_true,if_false,if_true,hlt,hq1,hld,hix,inC,d9,kJ]))
   |(revert hK;intro hK;(with_reducible refine hK _ ?_;clear hK K)))
   refine k20 (by omega) rfl λvs m' hOs hH' hf=>?_;rw[gV h0 hxl] at hOs;simp only[hOs.len,d8,lenS,Option.map_some,aJ];refine hK _ ?_;clear hK K;obtain⟨L',H'⟩:=m';simp only at hH';subst hH';have hs2:((gP p).succ x).length≤2:=by
    have:=tG (p:=p) (i:=x);rw[gV h0 hxl,d8] at this;exact this
   have hO2:=hO.keep (m':=⟨L',[]⟩) (hf 480 (by decide))
   repeat' (first
   |with_reducible refine bl (id:=2) (λQ2 hn2 hx2 hr2 ho2=>?_))
   refine aU (λk s=>∃(d' t' S':List Nat) (L:List (Nat×HO)),(gP p).succ x=d'++t'∧k=t'.length∧(∀s,s∈S'↔s∈S∨s∈d')∧OwnE aX 1 ⟨L,[]⟩ 480 v7 (nI (bO (gP p)))∧OwnE aX 1 ⟨L,[]⟩ 704 vs (nI ((gP p).succ x)) ∧
     s=⟨[(0,sl inC p),(6,.map (.g H0.length) 1),(7,v7),(31,v7),(32,.int .i64 (bO (gP p)).length),(33,.int .i64 d.length),(44,vs),(45,.int .i64 ((gP p).succ x).length),(46,.int .i64 d'.length)],⟨L,H0++[.map 1 (esI .i64 (esB S'))]⟩⟩) _ ⟨[],(gP p).succ x,S,L',rfl,rfl,by simp,hO2,hOs.keep rfl,rfl⟩ ?_
   clear hO2 hOs;rintro k s ⟨d',t',S',L2,h4,rfl,hS',hO2,hOs,rfl⟩ QL0 hnL0 hxL0 hrL0;have hlen':=congrArg List.length h4;simp only[List.length_append] at hlen';simp only[c7l0]
   cases t' with
   |nil=>
    simp only[List.length_nil] at hlen';rw[List.append_nil] at h4;have hge:¬((d'.length:Int)<((gP p).succ x).length):=by omega
    repeat' (first
    |with_reducible (first|refine ax rfl ?_|refine aN ?_|refine hn1 _ ?_|refine hx2 _ ?_|refine hxL0 _ _ ?_)
    |(with_reducible ((first|refine ah (λK hK=>?_)|refine aI (λK hK=>?_));(first|refine t7r11 ?_|refine t7r15 ?_));(try simp only[true_implies,false_implies,not_false_eq_true,b9,if_true,if_false,Nat.reduceEqDiff,dg,eN,cK,true_and,if_false,if_true,hge,hw]))
    |(revert hK;intro hK;(with_reducible refine hK _ ?_;clear hK K)))
    exact hnext S' L2 (λs=>by rw[hS',hjm,hj,h4];simp) hO2
   |cons y t'=>
    simp only[List.length_cons] at hlen';have hlt':(d'.length:Int)<((gP p).succ x).length:=by omega
    have hw':IntKind.i64.wrap ((d'.length:Int)+1)=d'.length+1:=wI (by omega) (by omega);have hget':(nI ((gP p).succ x))[d'.length]?=some (y:Int):=by rw[q5,h4];simp
    obtain⟨q',hq1',hq2'⟩:=hOs.at hget' (k:=.i64);have hld':∀H,ld1 ⟨L2,H⟩ q'=some (.int .i64 y):=λH=>hq2' ⟨L2,H⟩ rfl;have hmu:=NJ (S:=S') (s:=y) (H0:=H0) (L:=L2)
    repeat' (first
    |with_reducible (first|refine ar ?_|refine au rfl ?_|refine aj (id:=3) (λQ3 hn3 hx3 hr3 ho3=>?_)|refine hn3 _ ?_)
    |(with_reducible ((first|refine ah (λK hK=>?_)|refine aI (λK hK=>?_));(first|refine t7r11 ?_|refine t7r12 ?_|refine t7r13 ?_|refine t7r14 ?_));(try simp only[true_implies,false_implies,not_true_eq_false,b9,if_true,if_false,Nat.reduceEqDiff,aJ,dg,eN,cK,and_true,if_false,if_true,hlt',hq1',hld',hmu,hw']))
    |(revert hK;intro hK;(with_reducible refine hK _ ?_;clear hK K)))
    exact hnL0 t'.length _ (by simp) ⟨d'++[y],t',N6 S' y,L2,by simp[h4],rfl,λs=>by rw[P6,hS'];simp[or_assoc],hO2,hOs,by simp⟩
 |nil=>
  simp only[List.length_nil] at hlen;rw[List.append_nil] at h3;have hge:¬((d.length:Int)<(bO (gP p)).length):=by omega
  have hSL:∀s,s∈S↔Lead (gP p) s:=λs=>by
   rw[hS,←h3];constructor
   ·rintro(h|⟨x,h4,h5⟩)
    ·exact .inl h
    ·exact .inr ⟨x,(gc hg).1 h4,h5⟩
   ·rintro(h|⟨x,h4,h5⟩)
    ·exact .inl h
    ·exact .inr ⟨x,(gc hg).2 h4,h5⟩
  clear hS;have hrl2:d.length=(bO (gP p)).length:=by omega
  repeat' (first
  |with_reducible (first|refine ai ?_|refine ax rfl ?_|refine aN ?_|refine hx0 _ ?_|refine aj (id:=4) (λQ4 hn4 hx4 hr4 ho4=>?_)|refine hxL1 _ _ ?_)
  |(with_reducible (refine ah (λK hK=>?_);(first|refine t7r7 ?_|refine t7r16 ?_|refine t7r17 ?_));(try simp only[true_implies,false_implies,not_false_eq_true,b9,if_true,if_false,Nat.reduceEqDiff,aJ,dg,eN,Option.map_some,lenS,true_and,if_false,if_true,hge,hO.len,d8]))
  |(revert hK;intro hK;(with_reducible refine hK _ ?_;clear hK K)))
  have hLl:(cj (gP p)).length≤4096:=Nat.le_trans (List.length_filter_le _ _) hrl;refine Oj h0 hSL hO λL' H' v hB _ hold=>?_;have h0L:0∈cj (gP p):=(gB hg).2 (.inl rfl);have hB1:∃n gn,v=.ref (.g n) gn 0 (cj (gP p)).length∧BI (H0.length+1) n gn (H0++[HO.map 1 (esI .i64 (esB S))]) H' ((cj (gP p)).map (bk0 (gP p))) (spA (gP p) 0 []):=by
   rcases hB with⟨h1,_⟩|⟨n,gn,h1,h2,h3⟩
   ·rw[List.map_eq_nil_iff] at h1
    rw[h1] at h0L;cases h0L
   ·have hn:∀(j:Nat) (c:Bool) (x:BkS),((cj (gP p)).map (bk0 (gP p)))[j]?=some x→sel x c=.nil:=λj c x hx=>by
     rw[List.getElem?_map,Option.map_eq_some_iff] at hx;obtain⟨a,_,rfl⟩:=hx
     cases c<;>rfl
    refine⟨n,gn,by rw[h2,List.length_map],h1,h3,λj c x hx=>.inl ⟨hn j c x hx,?_⟩,λj c x j' c' x' m g g' k k' hx _ hs _=>(by rw[hn j c x hx] at hs;cases hs),hold⟩
    cases c with
    |true=>simp[spA,tp]
    |false=>simp[spA]
  clear hB;obtain⟨n,gn,rfl,hB⟩:=hB1;have hh:((cj (gP p)).map (bk0 (gP p))).map hdB=(cj (gP p)).map (hdF (gP p)):=by rw[List.map_map];rfl
  repeat' (first
  |with_reducible (first|refine ai ?_|refine hx4 _ ?_|refine aj (id:=6) (λQ6 hn6 hx6 hr6 ho6=>?_))
  |(with_reducible (refine ah (λK hK=>?_);refine t7r23 ?_);(try simp only[b9,if_true,if_false,Nat.reduceEqDiff,aJ,dg,Option.map_some,lenS,fq,if_false,if_true,fq]))
  |(revert hK;intro hK;(with_reducible refine hK _ ?_;clear hK K)))
  refine aU (λm s=>∃(k:Nat) (L:List (Nat×HO)) (H:List HO) (l:List BkS),k≤(cj (gP p)).length∧m=(cj (gP p)).length - k∧BI (H0.length+1) n gn (H0++[HO.map 1 (esI .i64 (esB S))]) H l (spA (gP p) k [])∧l.map hdB=(cj (gP p)).map (hdF (gP p)) ∧
    s=⟨[(0,sl inC p),(12,.ref (.g n) gn 0 (cj (gP p)).length),(72,.int .i64 (cj (gP p)).length),(73,.int .i64 k)],⟨L,H⟩⟩) _ ⟨0,L',H',_,Nat.zero_le _,rfl,hB,hh,rfl⟩ ?_
  clear hB hh hold;rintro m s ⟨k,L,H,l,hk,rfl,hB,hh,rfl⟩ QL4 hnL4 hxL4 hrL4;have hll:l.length=(cj (gP p)).length:=by have:=congrArg List.length hh;rw[List.length_map,List.length_map] at this;exact this
  simp only[c7l4]
  by_cases hlt:k<(cj (gP p)).length
  ·have hlt':(k:Int)<(cj (gP p)).length:=by omega
   have hw:IntKind.i64.wrap ((k:Int)+1)=k+1:=wI (by omega) (by omega);obtain⟨a,ha⟩:∃a,(cj (gP p))[k]?=some a:=⟨_,List.getElem?_eq_getElem hlt⟩;obtain⟨x,hx⟩:∃x,l[k]?=some x:=⟨_,List.getElem?_eq_getElem (by omega)⟩;have hxa:x.la=last (gP p) a:=by
    have h5:=congrArg (·[k]?) hh;simp only[List.getElem?_map,hx,ha,Option.map_some,Option.some.injEq,hdB,hdF,Prod.mk.injEq] at h5;exact h5.2.2
   obtain⟨_,_,hve,hix,_,_,hl1⟩:=hB.blks.at hx (k:=.i64);simp only[CV.ref.injEq,Key.g.injEq] at hve;obtain⟨rfl,rfl,_,_⟩:=hve;rw[hll] at hix;have hla:=hl1 2 (.int .i64 x.la) (by decide) rfl;rw[hxa] at hla;have hal:Lead (gP p) a:=(gB hg).1 (List.mem_of_getElem? ha);have hll2:=(pz hg (hal.r.live hg)).live hg (hal.r.live hg)
   repeat' (first
   |with_reducible (first|refine ar ?_|refine au rfl ?_|refine aj (id:=7) (λQ7 hn7 hx7 hr7 ho7=>?_))
   |(with_reducible (refine ah (λK hK=>?_);(first|refine t7r24 ?_|refine t7r25 ?_|refine t7r26 ?_));(try simp only[true_implies,false_implies,not_true_eq_false,b9,if_true,if_false,Nat.reduceEqDiff,aJ,dg,cb,eN,lenS,dU,and_true,if_false,if_true,hlt',hix,hla]))
   |(revert hK;intro hK;(with_reducible refine hK _ ?_;clear hK K)))
   refine k20 (by omega) rfl λvs m' hOs hH' hf=>?_;rw[gV h0 hll2] at hOs;simp only[hOs.len,d8,lenS,Option.map_some,aJ];refine hK _ ?_;clear hK K;obtain⟨L2,H2⟩:=m';simp only at hH';subst hH'
   repeat' (first
   |with_reducible refine bl (id:=8) (λQ8 hn8 hx8 hr8 ho8=>?_))
   refine Ol h0 ha hB hh (hOs.keep rfl) λL3 H3 l3 hB3 hh3=>?_
   repeat' (first
   |with_reducible (first|refine hn7 _ ?_|refine hx8 _ ?_)
   |(with_reducible (refine aI (λK hK=>?_);refine t7r34 ?_);(try simp only[b9,if_true,if_false,Nat.reduceEqDiff,dg,cK,if_false,if_true,hw]))
   |(revert hK;intro hK;(with_reducible refine hK _ ?_;clear hK K)))
   have e:((k:Int)+1)=((k+1:Nat):Int):=by omega
   rw[e];exact hnL4 ((cj (gP p)).length - (k+1)) _ (by omega) ⟨k+1,L3,H3,l3,by omega,rfl,hB3,hh3,rfl⟩
  ·have e:k=(cj (gP p)).length:=by omega
   have hge:¬((k:Int)<(cj (gP p)).length):=by omega
   subst e
   repeat' (first
   |with_reducible (first|refine ax rfl ?_|refine aN ?_|refine aF ?_|refine hx6 _ ?_|refine hxL4 _ _ ?_)
   |(with_reducible (first|(refine ah (λK hK=>?_);(first|refine t7r24 ?_|refine t7r35 ?_))|refine hqr _ ?_);(try simp only[true_implies,false_implies,not_false_eq_true,b9,if_true,if_false,Nat.reduceEqDiff,aJ,dg,eN,Option.map_some,true_and,if_false,if_true,r7,aQ,ak,aD,Option.bind_some,am,lH,bz,bW,Prod.mk.injEq,hge]))
   |(revert hK;intro hK;(with_reducible refine hK _ ?_;clear hK K)))
   exact⟨_,l,n,gn,by rw[hll];exact⟨rfl,rfl⟩,hB.weak λi hi=>List.getElem?_append_left hi,hh⟩
end Go.Cm
namespace Go.Cm
open Go.Proofs Go.Fl
structure FB (p:List In) (H:List HO) (v:CV) (l:List BkS):Prop where
 blks:Blks H v l
 hd:l.map hdB=(cj (gP p)).map (hdF (gP p))
 row:∀(j:Nat) (x:BkS) (c:Bool),l[j]?=some x→RdI H (sel x c) (spA (gP p) (cj (gP p)).length [] j c)
 esc:∀x∈l,Esc x
theorem RdI.app {H E:List HO}{v:CV}{l:List Int}(h:RdI H v l):RdI (H++E) v l:=by
 rcases h with h|h|⟨n,gn,vl,h1,h2⟩
 ·exact .inl h
 ·exact .inr (.inl h)
 ·exact .inr (.inr ⟨n,gn,vl,h1,by rw[List.getElem?_append_left (List.getElem?_eq_some_iff.1 h2).1,h2]⟩)
theorem FB.app {p:List In}{H E:List HO}{v:CV}{l:List BkS}(h:FB p H v l):FB p (H++E) v l:=
 ⟨h.blks.app,h.hd,λj x c hx=>(h.row j x c hx).app,h.esc⟩
theorem FB.len {p:List In}{H:List HO}{v:CV}{l:List BkS}(h:FB p H v l):l.length=(cj (gP p)).length:=by
 have:=congrArg List.length h.hd;rw[List.length_map,List.length_map] at this;exact this
theorem FB.clen {p:List In}{H:List HO}{v:CV}{l:List BkS}(h:FB p H v l):Cm.clen v=some (cj (gP p)).length:=by rw[h.blks.len,h.len]
theorem FB.at {p:List In}{H:List HO}{v:CV}{l:List BkS}(h:FB p H v l) {k a:Nat}(ha:(cj (gP p))[k]?=some a):∃n gn sv pv,bd 5 v (.int .i64 k)=some (.ptr (.g n) gn (k*5)) ∧
  (∀L,ld1 ⟨L,H⟩ (.ptr (.g n) gn (k*5))=some (.int .i64 a))∧(∀L,ld1 ⟨L,H⟩ (.ptr (.g n) gn (k*5+1))=some (.int .i64 (toF (gP p) a)))∧(∀L,ld1 ⟨L,H⟩ (.ptr (.g n) gn (k*5+2))=some (.int .i64 (Fl.last (gP p) a))) ∧
  (∀L,ld1 ⟨L,H⟩ (.ptr (.g n) gn (k*5+3))=some sv)∧(∀L,ld1 ⟨L,H⟩ (.ptr (.g n) gn (k*5+4))=some pv)∧RdI H sv (KI (gP p) a)∧RdI H pv (tp (gP p) k 0 (cj (gP p))):=by
 have hk:=(List.getElem?_eq_some_iff.1 ha).1;obtain⟨x,hx⟩:∃x,l[k]?=some x:=⟨_,List.getElem?_eq_getElem (by rw[h.len];exact hk)⟩;have h5:=congrArg (·[k]?) h.hd;simp only[List.getElem?_map,hx,ha,Option.map_some,Option.some.injEq,hdB,hdF,Prod.mk.injEq] at h5;obtain⟨h1,h2,h3⟩:=h5;obtain⟨n,gn,_,hix,_,_,hl⟩:=h.blks.at hx (k:=.i64);have r1:=h.row k x false hx;have r2:=h.row k x true hx;have e1:spA (gP p) (cj (gP p)).length [] k false=KI (gP p) a:=by
  unfold spA;rw[if_neg (by decide),if_pos hk,ha]
 have e2:spA (gP p) (cj (gP p)).length [] k true=tp (gP p) k 0 (cj (gP p)):=by simp[spA]
 rw[e1] at r1;rw[e2] at r2
 exact⟨n,gn,x.sv,x.pv,hix,λL=>by rw[←h1];exact hl 0 _ (by decide) rfl L,λL=>by rw[←h2];exact hl 1 _ (by decide) rfl L,λL=>by rw[←h3];exact hl 2 _ (by decide) rfl L,hl 3 _ (by decide) rfl,hl 4 _ (by decide) rfl,r1,r2⟩
theorem k7 {p:List In}(hp:p.length≤9223372036854775807) (h0:gW p=0) (H0:List HO):∃v H' l,FB p H' v l∧(∀i,i<H0.length→H'[i]?=H0[i]?)∧∀(fid:FuncId) (t:Tmp) L,cd An FF fid (some t) 7 [sl inC p] ⟨L,H0⟩=some (.tuple [v,.int .i64 0],⟨L,H'⟩):=by
 obtain⟨_,⟨H',l,n,gn,rfl,hB,hh⟩,h⟩:=x7 p hp H0 h0
 refine⟨_,H',l,⟨hB.blks,hh,λj x c hx=>hB.ref hx c,hB.esc⟩,hB.old,λfid t L=>?_⟩
 have:=cf (A:=An) (F:=FF) (fid:=fid) (d:=t) (f:=7) (args:=[sl inC p]) (m:=⟨L,H0⟩) rfl (by simp only[List.all_cons,List.all_nil];rfl) h;rw[this];rfl
theorem Nn {p:List In}(hp:p.length≤9223372036854775807) (h0:¬gW p=0) {fid:FuncId}{t:Tmp}{m:Mem}:cd An FF fid (some t) 7 [sl inC p] m=some (.tuple [.nil,.int .i64 (gW p)],m):=by
 have:=cf (A:=An) (F:=FF) (fid:=fid) (d:=t) (f:=7) (args:=[sl inC p]) (m:=m) rfl (by simp only[List.all_cons,List.all_nil];rfl) (x7_bad p hp m.H h0);rw[this];rfl
theorem nc {p:List In}(h0:gW p=0):(bO (gP p)).length≤4096∧(cj (gP p)).length≤4096:=by
 obtain⟨hn1,_,_⟩:=nb h0;have hrl:(bO (gP p)).length≤4096:=Nat.le_trans (List.length_filter_le _ _) (by rw[List.length_range];exact hn1)
 exact⟨hrl,Nat.le_trans (List.length_filter_le _ _) hrl⟩
theorem Mh {l:List Nat}(h:l.Pairwise (· < ·)) {i j a b:Nat}(ha:l[i]?=some a) (hb:l[j]?=some b) (hij:i<j):a<b:=by
 obtain⟨h1,h2⟩:=List.getElem?_eq_some_iff.1 ha;obtain⟨h3,h4⟩:=List.getElem?_eq_some_iff.1 hb;rw[←h2,←h4];exact List.pairwise_iff_getElem.1 h i j h1 h3 hij
set_option maxHeartbeats 8000000 in
theorem x4 (p:List In) (hp:p.length≤9223372036854775807):∃r,(∃H',r=(CV.bool true,H'))∧FF 4 [sl inC p] []=some r:=by
 by_cases h0:gW p=0
 ·have hg:Ok (gP p):=vE h0
  obtain⟨hrl,hll⟩:=nc h0;have hre:hC p=nI (bO (gP p)):=by rw[hC,if_pos h0]
  obtain⟨v,H,l,hF,_,k7⟩:=k7 hp h0 [];refine bA rfl Try.func4 s4 (Nat.le_of_ble_eq_true rfl) (λQ hqr hqn=>?_);rw[bf (show An.pure 4=true from rfl) (by simp only[cans,aG,az,aC,aH,inE.can_sl])];simp only[aO,Nat.reduceAdd,c4]
  repeat' (first
  |(with_reducible (refine ah (λK hK=>?_);(first|refine t4r0 ?_|refine t4r1 ?_|refine t4r2 ?_));(try simp only[b9,if_true,if_false,Nat.reduceEqDiff,aJ,dg,List.getElem?_cons_zero,List.getElem?_cons_succ,dT,if_false,if_true,k7]))
  |(revert hK;intro hK;(with_reducible refine hK _ ?_;clear hK K)))
  refine k11 (by omega) rfl λvr m7 hO7 hH7 _=>?_;rw[hre] at hO7;refine hK _ ?_;clear hK K;obtain⟨L7,H7⟩:=m7;simp only at hH7;subst hH7
  repeat' (first
  |with_reducible (first|refine ai ?_|refine ar ?_|refine ax rfl ?_|refine aj (id:=0) (λQ0 hn0 hx0 hr0 ho0=>?_))
  |(with_reducible (refine ah (λK hK=>?_);(first|refine t4r3 ?_|refine t4r5 ?_));(try simp only[true_implies,false_implies,not_true_eq_false,b9,if_true,if_false,Nat.reduceEqDiff,dg,br,and_true,if_false,if_true,ne_eq,eq_self]))
  |(revert hK;intro hK;(with_reducible refine hK _ ?_;clear hK K)))
  refine aU (λm s=>∃(d t:List Nat),bO (gP p)=d++t∧m=t.length∧s=⟨[(3,v),(5,vr),(6,.int .i64 d.length)],⟨L7,H7⟩⟩) _ ⟨[],_,rfl,rfl,rfl⟩ ?_;rintro m s ⟨d,t,h3,rfl,rfl⟩ QL1 hnL1 hxL1 hrL1;have hlen:=congrArg List.length h3;simp only[List.length_append] at hlen;simp only[c4l1]
  cases t with
  |cons x t=>
   simp only[List.length_cons] at hlen;have hlt:(d.length:Int)<(bO (gP p)).length:=by omega
   have hw:IntKind.i64.wrap ((d.length:Int)+1)=d.length+1:=wI (by omega) (by omega);have hgx:(bO (gP p))[d.length]?=some x:=by rw[h3];simp
   have hget:(nI (bO (gP p)))[d.length]?=some (x:Int):=by rw[q5,hgx];rfl
   obtain⟨q,hq1,hq2⟩:=hO7.at hget (k:=.i64);have hld:ld1 ⟨L7,H7⟩ q=some (.int .i64 x):=hq2 _ rfl;have hxR:R (gP p) x:=(gc hg).1 (List.mem_of_getElem? hgx);obtain⟨a,haL,ha1,ha2⟩:=cover2 hg hxR;obtain⟨kx,hkx,hka⟩:=KU hg haL;have hkl:kx<(cj (gP p)).length:=(List.getElem?_eq_some_iff.1 hka).1;have hdec:∀k b,(cj (gP p))[k]?=some b→b≤x→x<toF (gP p) b→k=kx:=λk b hb h1 h2=>by
    have:=only hg haL ((gB hg).1 (List.mem_of_getElem? hb)) ha1 ha2 h1 h2;subst this;have h3:=fk_at hg hb;omega
   repeat' (first
   |with_reducible (first|refine ai ?_|refine ar ?_|refine au rfl ?_|refine aj (id:=1) (λQ1 hn1 hx1 hr1 ho1=>?_)|refine aj (id:=2) (λQ2 hn2 hx2 hr2 ho2=>?_))
   |(with_reducible (refine ah (λK hK=>?_);(first|refine t4r6 ?_|refine t4r8 ?_|refine t4r9 ?_));(try simp only[true_implies,false_implies,not_true_eq_false,b9,if_true,if_false,Nat.reduceEqDiff,aJ,dg,eN,Option.map_some,lenS,and_true,if_false,if_true,hlt,hO7.len,d8]))
   |(revert hK;intro hK;(with_reducible refine hK _ ?_;clear hK K)))
   refine aU (λm s=>∃(k:Nat) (nv:Int),k≤(cj (gP p)).length∧m=(cj (gP p)).length - k∧nv=(if kx<k then 1 else 0)∧s=⟨[(3,v),(5,vr),(6,.int .i64 d.length),(7,.int .i64 nv),(8,.int .i64 k)],⟨L7,H7⟩⟩) _ ⟨0,0,Nat.zero_le _,rfl,by simp,rfl⟩ ?_;rintro m s ⟨k,nv,hk,rfl,hnv,rfl⟩ QL0 hnL0 hxL0 hrL0;simp only[c4l0]
   by_cases hkN:k<(cj (gP p)).length
   ·have hlt':(k:Int)<(cj (gP p)).length:=by omega
    have hw':IntKind.i64.wrap ((k:Int)+1)=k+1:=wI (by omega) (by omega);have ek:((k:Int)+1)=((k+1:Nat):Int):=by omega
    obtain⟨b,hb⟩:∃b,(cj (gP p))[k]?=some b:=⟨_,List.getElem?_eq_getElem hkN⟩;obtain⟨n,gn,sv,pv,hix,l0,l1,l2,_,_,_,_⟩:=hF.at hb
    by_cases hkk:k=kx
    ·subst hkk
     rw[hka] at hb;simp only[Option.some.injEq] at hb;subst hb;have c1:(a:Int)≤x:=by omega
     have c2:(x:Int)<toF (gP p) a:=by omega
     rw[if_neg (Nat.lt_irrefl _)] at hnv;subst hnv;have h01:IntKind.i64.wrap (0+1)=1:=rfl
     repeat' (first
     |with_reducible (first|refine ai ?_|refine ar ?_|refine au rfl ?_|refine bc rfl ?_|refine aj (id:=3) (λQ3 hn3 hx3 hr3 ho3=>?_)|refine hn3 _ ?_)
     |(with_reducible ((first|refine ah (λK hK=>?_)|refine aI (λK hK=>?_));(first|refine Nd ?_|refine QU ?_|refine t4r13 ?_|refine QT ?_));(try simp only[true_implies,false_implies,not_true_eq_false,b9,if_true,if_false,Nat.reduceEqDiff,aJ,dg,cb,eN,cB,nL,lw,Option.map_some,ic,gf,lenS,dU,cK,and_true,if_false,if_true,hF.clen,hlt',hix,l0,l1,Nat.add_zero,hq1,hld,c1,c2,h01,hw']))
     |(revert hK;intro hK;(with_reducible refine hK _ ?_;clear hK K)))
     rw[ek];exact hnL0 ((cj (gP p)).length - (k+1)) _ (by omega) ⟨k+1,1,by omega,rfl,by rw[if_pos (by omega)],rfl⟩
    ·have hnv':nv=(if kx<k+1 then 1 else 0):=by
      rw[hnv]
      by_cases h:kx<k
      ·rw[if_pos h,if_pos (by omega)]
      ·rw[if_neg h,if_neg (by omega)]
     by_cases c1:(b:Int)≤x
     ·have c2:¬(x:Int)<toF (gP p) b:=λh=>hkk (hdec k b hb (by omega) (by omega))
      repeat' (first
      |with_reducible (first|refine ai ?_|refine ar ?_|refine au rfl ?_|refine d7 rfl ?_|refine bx ?_|refine aj (id:=3) (λQ3 hn3 hx3 hr3 ho3=>?_)|refine hn3 _ ?_)
      |(with_reducible ((first|refine ah (λK hK=>?_)|refine aI (λK hK=>?_));(first|refine Nd ?_|refine QU ?_|refine QT ?_));(try simp only[true_implies,false_implies,not_true_eq_false,not_false_eq_true,b9,if_true,if_false,Nat.reduceEqDiff,aJ,dg,cb,eN,cB,nL,lw,Option.map_some,ic,gf,lenS,dU,cK,and_true,true_and,if_false,if_true,hF.clen,hlt',hix,l0,l1,Nat.add_zero,hq1,hld,c1,c2,hw']))
      |(revert hK;intro hK;(with_reducible refine hK _ ?_;clear hK K)))
      rw[ek];exact hnL0 ((cj (gP p)).length - (k+1)) _ (by omega) ⟨k+1,nv,by omega,rfl,hnv',rfl⟩
     ·repeat' (first
      |with_reducible (first|refine ai ?_|refine ar ?_|refine au rfl ?_|refine d7 rfl ?_|refine bx ?_|refine aj (id:=3) (λQ3 hn3 hx3 hr3 ho3=>?_)|refine hn3 _ ?_)
      |(with_reducible ((first|refine ah (λK hK=>?_)|refine aI (λK hK=>?_));(first|refine Nd ?_|refine QU ?_|refine QT ?_));(try simp only[true_implies,false_implies,not_true_eq_false,not_false_eq_true,b9,if_true,if_false,Nat.reduceEqDiff,aJ,dg,cb,eN,cB,nL,lw,Option.map_some,ic,gf,lenS,dU,cK,and_true,true_and,if_false,if_true,hF.clen,hlt',hix,l0,Nat.add_zero,hq1,hld,c1,hw']))
      |(revert hK;intro hK;(with_reducible refine hK _ ?_;clear hK K)))
      rw[ek];exact hnL0 ((cj (gP p)).length - (k+1)) _ (by omega) ⟨k+1,nv,by omega,rfl,hnv',rfl⟩
   ·have hge:¬((k:Int)<(cj (gP p)).length):=by omega
    have hn1:nv=1:=by rw[hnv,if_pos (by omega)]
    subst hn1;have e:((d.length:Int)+1)=((d++[x]).length:Int):=by simp
    have hnx:QL1 .normal ⟨[(3,v),(5,vr),(6,.int .i64 ((d.length:Int)+1))],⟨L7,H7⟩⟩:=by
     rw[e];exact hnL1 t.length _ (by simp) ⟨d++[x],t,by simp[h3],rfl,rfl⟩
    by_cases hz:d.length=0
    ·have hz':¬(0:Int)<(d.length:Int):=by omega
     repeat' (first
     |with_reducible (first|refine ai ?_|refine ax rfl ?_|refine d7 rfl ?_|refine aN ?_|refine bx ?_|refine hn1 _ ?_|refine hx2 _ ?_|refine hxL0 _ _ ?_)
     |(with_reducible ((first|refine ah (λK hK=>?_)|refine aI (λK hK=>?_));(first|refine Nd ?_|refine t4r14 ?_|refine t4r7 ?_));(try simp only[true_implies,false_implies,not_true_eq_false,not_false_eq_true,b9,if_true,if_false,Nat.reduceEqDiff,aJ,dg,eN,bq,br,nL,qz,qy,lw,bI,Option.map_some,ic,gf,lenS,dU,cK,fe,and_true,true_and,if_false,if_true,hF.clen,hge,ne_eq,eq_self,gt_iff_lt,hz',hw]))
     |(revert hK;intro hK;(with_reducible refine hK _ ?_;clear hK K)))
     all_goals exact hnx
    ·have hz':(0:Int)<(d.length:Int):=by omega
     obtain⟨y,hy⟩:∃y,(bO (gP p))[d.length - 1]?=some y:=⟨_,List.getElem?_eq_getElem (by omega)⟩;obtain⟨q',hq1',hq2'⟩:=hO7.at (a:=(y:Int)) (i:=d.length - 1) (by rw[q5,hy];rfl) (k:=.i64);rw[show((d.length - 1:Nat):Int)=(d.length:Int) - 1 by omega] at hq1';have hld':ld1 ⟨L7,H7⟩ q'=some (.int .i64 y):=hq2' _ rfl;have hwm:IntKind.i64.wrap ((d.length:Int) - 1)=d.length - 1:=wI (by omega) (by omega);have hyx:=Mh vp hy hgx (by omega);have hle:¬((x:Int)≤y):=by omega
     repeat' (first
     |with_reducible (first|refine ai ?_|refine ax rfl ?_|refine d7 rfl ?_|refine aN ?_|refine bx ?_|refine hn1 _ ?_|refine hx2 _ ?_|refine hxL0 _ _ ?_)
     |(with_reducible ((first|refine ah (λK hK=>?_)|refine aI (λK hK=>?_));(first|refine Nd ?_|refine t4r14 ?_|refine t4r7 ?_));(try simp only[true_implies,false_implies,not_true_eq_false,not_false_eq_true,b9,if_true,if_false,Nat.reduceEqDiff,aJ,dg,eN,cB,bq,br,nL,qz,qy,lw,bI,Option.map_some,ic,gf,lenS,dU,cK,fe,and_true,true_and,if_false,if_true,hF.clen,hge,ne_eq,eq_self,gt_iff_lt,hz',hq1,hld,hwm,hq1',hld',hle,hw]))
     |(revert hK;intro hK;(with_reducible refine hK _ ?_;clear hK K)))
     all_goals exact hnx
  |nil=>
   simp only[List.length_nil] at hlen;have hge:¬((d.length:Int)<(bO (gP p)).length):=by omega
   have hpos:(0:Int)<(bO (gP p)).length:=by
    have:0∈bO (gP p):=(gc hg).2 .zero;have:=List.length_pos_of_mem this;omega
   repeat' (first
   |with_reducible (first|refine ai ?_|refine ax rfl ?_|refine aN ?_|refine hx0 _ ?_|refine aj (id:=4) (λQ4 hn4 hx4 hr4 ho4=>?_)|refine hxL1 _ _ ?_)
   |(with_reducible (refine ah (λK hK=>?_);(first|refine t4r6 ?_|refine t4r16 ?_));(try simp only[true_implies,false_implies,not_false_eq_true,b9,if_true,if_false,Nat.reduceEqDiff,aJ,dg,eN,Option.map_some,lenS,true_and,if_false,if_true,hge,hO7.len,d8]))
   |(revert hK;intro hK;(with_reducible refine hK _ ?_;clear hK K)))
   refine aU (λm s=>∃k:Nat,k≤(cj (gP p)).length∧m=(cj (gP p)).length - k∧s=⟨[(3,v),(5,vr),(9,.int .i64 k)],⟨L7,H7⟩⟩) _ ⟨0,Nat.zero_le _,rfl,rfl⟩ ?_;rintro m s ⟨k,hk,rfl,rfl⟩ QL3 hnL3 hxL3 hrL3;simp only[c4l3]
   by_cases hkN:k<(cj (gP p)).length
   ·have hlt':(k:Int)<(cj (gP p)).length:=by omega
    have hw':IntKind.i64.wrap ((k:Int)+1)=k+1:=wI (by omega) (by omega);have ek:((k:Int)+1)=((k+1:Nat):Int):=by omega
    obtain⟨b,hb⟩:∃b,(cj (gP p))[k]?=some b:=⟨_,List.getElem?_eq_getElem hkN⟩;obtain⟨n,gn,sv,pv,hix,l0,l1,l2,_,_,_,_⟩:=hF.at hb;have hbR:b∈bO (gP p):=(gc hg).2 ((gB hg).1 (List.mem_of_getElem? hb)).r
    repeat' (first
    |with_reducible (first|refine ai ?_|refine ar ?_|refine au rfl ?_|refine aj (id:=5) (λQ5 hn5 hx5 hr5 ho5=>?_)|refine aj (id:=6) (λQ6 hn6 hx6 hr6 ho6=>?_))
    |(with_reducible (refine ah (λK hK=>?_);(first|refine t4r17 ?_|refine t4r19 ?_|refine t4r20 ?_));(try simp only[true_implies,false_implies,not_true_eq_false,b9,if_true,if_false,Nat.reduceEqDiff,aJ,dg,eN,Option.map_some,lenS,and_true,if_false,if_true,hF.clen,hlt']))
    |(revert hK;intro hK;(with_reducible refine hK _ ?_;clear hK K)))
    refine aU (λm s=>∃(d t:List Nat),bO (gP p)=d++t∧m=t.length∧s=⟨[(3,v),(5,vr),(9,.int .i64 k),(10,.bool (decide (b∈d))),(11,.int .i64 d.length)],⟨L7,H7⟩⟩) _ ⟨[],_,rfl,rfl,by simp⟩ ?_;rintro m s ⟨d,t,h3,rfl,rfl⟩ QL2 hnL2 hxL2 hrL2;have hlen:=congrArg List.length h3;simp only[List.length_append] at hlen;simp only[c4l2]
    cases t with
    |cons x t=>
     simp only[List.length_cons] at hlen;have hlt:(d.length:Int)<(bO (gP p)).length:=by omega
     have hw:IntKind.i64.wrap ((d.length:Int)+1)=d.length+1:=wI (by omega) (by omega);have hget:(nI (bO (gP p)))[d.length]?=some (x:Int):=by rw[q5,h3];simp
     obtain⟨q,hq1,hq2⟩:=hO7.at hget (k:=.i64);have hld:ld1 ⟨L7,H7⟩ q=some (.int .i64 x):=hq2 _ rfl;have e:((d.length:Int)+1)=((d++[x]).length:Int):=by simp
     have hnx:∀c,c=decide (b∈d++[x])→QL2 .normal ⟨[(3,v),(5,vr),(9,.int .i64 k),(10,.bool c),(11,.int .i64 ((d.length:Int)+1))],⟨L7,H7⟩⟩:=λc hc=>by
      rw[e,hc];exact hnL2 t.length _ (by simp) ⟨d++[x],t,by simp[h3],rfl,rfl⟩
     by_cases hbd:b∈d
     ·rw[decide_eq_true hbd]
      repeat' (first
      |with_reducible (first|refine ai ?_|refine ar ?_|refine au rfl ?_|refine aj (id:=7) (λQ7 hn7 hx7 hr7 ho7=>?_)|refine hn7 _ ?_)
      |(with_reducible ((first|refine ah (λK hK=>?_)|refine aI (λK hK=>?_));(first|refine Nf ?_|refine QW ?_|refine QV ?_));(try simp only[true_implies,false_implies,not_true_eq_false,b9,if_true,if_false,Nat.reduceEqDiff,aJ,dg,eN,qz,Option.map_some,ic,lenS,cK,and_true,if_false,if_true,hlt,hO7.len,d8,hw]))
      |(revert hK;intro hK;(with_reducible refine hK _ ?_;clear hK K)))
      exact hnx _ (by simp[hbd])
     ·rw[decide_eq_false hbd]
      by_cases hbx:(x:Int)=b
      ·repeat' (first
       |with_reducible (first|refine ai ?_|refine ar ?_|refine au rfl ?_|refine aj (id:=7) (λQ7 hn7 hx7 hr7 ho7=>?_)|refine hn7 _ ?_)
       |(with_reducible ((first|refine ah (λK hK=>?_)|refine aI (λK hK=>?_));(first|refine Nf ?_|refine QW ?_|refine QV ?_));(try simp only[true_implies,false_implies,not_true_eq_false,b9,if_true,if_false,Nat.reduceEqDiff,aJ,dg,cb,eN,gT,qy,Option.map_some,gf,lenS,dU,cK,and_true,if_false,if_true,hlt,hO7.len,d8,hq1,hld,hix,l0,Nat.add_zero,hbx,hw]))
       |(revert hK;intro hK;(with_reducible refine hK _ ?_;clear hK K)))
       all_goals exact hnx _ (by rw[show x=b by omega];simp)
      ·repeat' (first
       |with_reducible (first|refine ai ?_|refine ar ?_|refine au rfl ?_|refine aj (id:=7) (λQ7 hn7 hx7 hr7 ho7=>?_)|refine hn7 _ ?_)
       |(with_reducible ((first|refine ah (λK hK=>?_)|refine aI (λK hK=>?_));(first|refine Nf ?_|refine QW ?_|refine QV ?_));(try simp only[true_implies,false_implies,not_true_eq_false,not_false_eq_true,b9,if_true,if_false,Nat.reduceEqDiff,aJ,dg,cb,eN,gT,qy,Option.map_some,gf,lenS,dU,cK,and_true,true_and,if_false,if_true,hlt,hO7.len,d8,hq1,hld,hix,l0,Nat.add_zero,hbx,hw]))
       |(revert hK;intro hK;(with_reducible refine hK _ ?_;clear hK K)))
       all_goals exact hnx _ (by simp[hbd];omega)
    |nil=>
     simp only[List.length_nil] at hlen;rw[List.append_nil] at h3;have hge2:¬((d.length:Int)<(bO (gP p)).length):=by omega
     rw[←h3,decide_eq_true hbR];have hnx:QL3 .normal ⟨[(3,v),(5,vr),(9,.int .i64 ((k:Int)+1))],⟨L7,H7⟩⟩:=by
      rw[ek];exact hnL3 ((cj (gP p)).length - (k+1)) _ (by omega) ⟨k+1,by omega,rfl,rfl⟩
     by_cases hz:k=0
     ·have hz':¬(0:Int)<(k:Int):=by omega
      repeat' (first
      |with_reducible (first|refine ai ?_|refine ax rfl ?_|refine d7 rfl ?_|refine aN ?_|refine bx ?_|refine hn5 _ ?_|refine hx6 _ ?_|refine hxL2 _ _ ?_)
      |(with_reducible ((first|refine ah (λK hK=>?_)|refine aI (λK hK=>?_));(first|refine Nf ?_|refine t4r24 ?_|refine t4r18 ?_));(try simp only[true_implies,false_implies,not_false_eq_true,b9,if_true,if_false,Nat.reduceEqDiff,aJ,dg,eN,bq,fc,nL,qy,lw,Option.map_some,ic,gf,Bool.not_true,lenS,dU,cK,fe,true_and,if_false,if_true,h3 ▸ hge2,hO7.len,d8,gt_iff_lt,hz',hw',Int.lt_irrefl]))
      |(revert hK;intro hK;(with_reducible refine hK _ ?_;clear hK K)))
      all_goals exact hnx
     ·have hz':(0:Int)<(k:Int):=by omega
      obtain⟨c,hc⟩:∃c,(cj (gP p))[k - 1]?=some c:=⟨_,List.getElem?_eq_getElem (by omega)⟩;obtain⟨n',gn',_,_,hix',_,l1',_⟩:=hF.at hc;rw[show((k - 1:Nat):Int)=(k:Int) - 1 by omega] at hix';have hwm:IntKind.i64.wrap ((k:Int) - 1)=k - 1:=wI (by omega) (by omega);have hcb:=Mh leadL_sorted hc hb (by omega);have hap:=apart hg ((gB hg).1 (List.mem_of_getElem? hc)) ((gB hg).1 (List.mem_of_getElem? hb)) hcb;have hle:¬((b:Int)<toF (gP p) c):=by omega
      repeat' (first
      |with_reducible (first|refine ai ?_|refine ax rfl ?_|refine d7 rfl ?_|refine aN ?_|refine bx ?_|refine hn5 _ ?_|refine hx6 _ ?_|refine hxL2 _ _ ?_)
      |(with_reducible ((first|refine ah (λK hK=>?_)|refine aI (λK hK=>?_));(first|refine Nf ?_|refine t4r24 ?_|refine t4r18 ?_));(try simp only[true_implies,false_implies,not_true_eq_false,not_false_eq_true,b9,if_true,if_false,Nat.reduceEqDiff,aJ,dg,cb,eN,bq,fc,nL,qy,lw,Option.map_some,ic,gf,Bool.not_true,lenS,dU,cK,fe,and_true,true_and,if_false,if_true,h3 ▸ hge2,hO7.len,d8,gt_iff_lt,hz',hix,l0,Nat.add_zero,hwm,hix',l1',hle,hw',Int.lt_irrefl]))
      |(revert hK;intro hK;(with_reducible refine hK _ ?_;clear hK K)))
      all_goals exact hnx
   ·have hge':¬((k:Int)<(cj (gP p)).length):=by omega
    repeat' (first
    |with_reducible (first|refine ai ?_|refine ax rfl ?_|refine aN ?_|refine aF ?_|refine hx4 _ ?_|refine hxL3 _ _ ?_)
    |(with_reducible (first|(refine ah (λK hK=>?_);(first|refine t4r17 ?_|refine t4r26 ?_))|refine hqr _ ?_);(try simp only[true_implies,false_implies,not_true_eq_false,not_false_eq_true,b9,if_true,if_false,Nat.reduceEqDiff,aJ,dg,eN,bq,nL,lw,Option.map_some,ic,gf,lenS,and_true,true_and,if_false,if_true,r4,aQ,ak,aD,Option.bind_some,am,jx,aV,Prod.mk.injEq,hF.clen,hge',hO7.len,d8,gt_iff_lt,hpos,k15]))
    |(revert hK;intro hK;(with_reducible refine hK _ ?_;clear hK K)))
    all_goals exact⟨_,rfl⟩
 ·have hre:hC p=[]:=by rw[hC,if_neg h0]
  have k7:=λt m=>Nn hp h0 (fid:=4) (t:=t) (m:=m);refine bA rfl Try.func4 s4 (Nat.le_of_ble_eq_true rfl) (λQ hqr hqn=>?_);rw[bf (show An.pure 4=true from rfl) (by simp only[cans,aG,az,aC,aH,inE.can_sl])];simp only[aO,Nat.reduceAdd,c4]
  repeat' (first
  |(with_reducible (refine ah (λK hK=>?_);(first|refine t4r0 ?_|refine t4r1 ?_|refine t4r2 ?_));(try simp only[b9,if_true,if_false,Nat.reduceEqDiff,aJ,dg,List.getElem?_cons_zero,List.getElem?_cons_succ,dT,if_false,if_true,k7]))
  |(revert hK;intro hK;(with_reducible refine hK _ ?_;clear hK K)))
  refine k11 (by omega) rfl λvr m7 hO7 hH7 _=>?_;rw[hre] at hO7;refine hK _ ?_;clear hK K;have hlr:=hO7.len;simp only[List.length_nil] at hlr;have h00:IntKind.i64.wrap (((0:Nat):Int)+((0:Nat):Int))=0:=rfl
  repeat' (first
  |with_reducible (first|refine ai ?_|refine au rfl ?_|refine b6 ?_)
  |(with_reducible (first|(refine ah (λK hK=>?_);(first|refine t4r3 ?_|refine t4r4 ?_))|refine hqr _ ?_);(try simp only[true_implies,false_implies,not_true_eq_false,not_false_eq_true,b9,if_true,if_false,Nat.reduceEqDiff,aJ,dg,gT,br,nL,lw,Option.map_some,ic,gf,lenS,cK,Gk,and_true,true_and,if_false,if_true,r4,aQ,ak,aD,Option.bind_some,am,jx,aV,Prod.mk.injEq,h0,ne_eq,hlr,Gk,h00,k15]))
  |(revert hK;intro hK;(with_reducible refine hK _ ?_;clear hK K)))
  all_goals exact⟨_,rfl⟩
end Go.Cm
