import Derived.Test.YtijcpefcfcbcnaaIvB
set_option linter.unusedSimpArgs false
set_option linter.unusedVariables false
namespace Go.Cm
open Go.Proofs Go.Ir Go.Gr
def ptR (p:Pt):List CV:=[sl aX p.pred,rowC phC p.phis,rowC ndC p.nodes,.int .i64 p.fin.op,.int .i64 p.fin.cond,.bool p.fin.wide,.int .i64 p.fin.a,.int .i64 p.fin.b,.int .i64 p.fin.to,.int .i64 p.fin.els]
theorem Iq (p:Pt):(ptR p).length=10:=rfl
theorem ptR_can (p:Pt):cans (ptR p)=ptC p:=by simp only[ptR,ptC,cans,aG,az,intE.can_sl,rD phE.can,rD ndE.can]
theorem ptR_N (p:Pt):noGs (ptR p)=true:=by simp only[ptR,noGs,eo,kT,intE.noG_sl,kV phE.noG,kV ndE.noG,Bool.and_self]
theorem Ip {f:Cd}(hfi:Fine f) {id:Int}(h0:0≤id) (h1:id<f.values):((G6 f).flatMap bS)[id.toNat]?=some (.bool (F5 f id)):=by
 rw[fI,G6,List.getElem?_map,List.getElem?_range (by omega)]
 simp only[Option.map_some]
 rw[show((id.toNat:Nat):Int)=id by omega]
set_option maxHeartbeats 4000000 in
theorem x22 (f:Cd) (hf:Sized f) (hS:∀ p ∈ f.parts,p.phis.length≤1048576∧p.nodes.length≤1048576) (hB:∀ x ∈ GS f,x.2.length≤1048576) (hw:(F0 f).length≤8388608) :
  ∃ r,(∃ H',r=(if bG f=true then CV.tuple [.agg [rowC ptR (F4 f).parts,.int .i64 f.values],.int .i64 0] else CV.tuple [.agg [.nil,.int .i64 0],.int .i64 160],H'))∧FF 22 [.agg (aZ f)] []=some r:=by
 have hkc:∀ d m,aB An FF 22 (some d) 36 [.agg [sl ptC f.parts,.int .i64 f.values]] m=_:=fun d m=>k36 f hf (fid:=22) (d:=d) (m:=m)
 cases hc:bG f with
 |false=>
  rw[hc,if_neg (by decide)] at hkc
  refine bA rfl Try.func22 s22 (Nat.le_of_ble_eq_true rfl) (fun Q hqr hqn=>?_)
  rw[bf (show An.pure 22=true from rfl) (by simp only[cans,aG,az,aC,aH,codeE.can])]
  simp only[aO,Nat.reduceAdd,c22]
  repeat' (first
  |with_reducible (first|refine ai ?_|refine ar ?_|refine au rfl ?_|refine ax rfl ?_|refine Gp rfl (fun _=>?_) (fun _=>?_)|refine bc rfl ?_|refine bn rfl ?_|refine Gz rfl (fun _=>?_) (fun _=>?_)|refine b6 ?_|refine aN ?_|refine aF ?_|refine Js ?_|refine bx ?_|refine aj (id:=0) (fun Q0 hn0 hx0 hr0 ho0=>?_)|refine bl (id:=0) (fun Q0 hn0 hx0 hr0 ho0=>?_)|refine hn0 _ ?_|refine hx0 _ ?_|refine hr0 _ ?_|refine ho0 _ _ (by decide) ?_|refine aj (id:=1) (fun Q1 hn1 hx1 hr1 ho1=>?_)|refine bl (id:=1) (fun Q1 hn1 hx1 hr1 ho1=>?_)|refine hn1 _ ?_|refine hx1 _ ?_|refine hr1 _ ?_|refine ho1 _ _ (by decide) ?_|refine aj (id:=2) (fun Q2 hn2 hx2 hr2 ho2=>?_)|refine bl (id:=2) (fun Q2 hn2 hx2 hr2 ho2=>?_)|refine hn2 _ ?_|refine hx2 _ ?_|refine hr2 _ ?_|refine ho2 _ _ (by decide) ?_|refine aj (id:=3) (fun Q3 hn3 hx3 hr3 ho3=>?_)|refine bl (id:=3) (fun Q3 hn3 hx3 hr3 ho3=>?_)|refine hn3 _ ?_|refine hx3 _ ?_|refine hr3 _ ?_|refine ho3 _ _ (by decide) ?_|refine aj (id:=4) (fun Q4 hn4 hx4 hr4 ho4=>?_)|refine bl (id:=4) (fun Q4 hn4 hx4 hr4 ho4=>?_)|refine hn4 _ ?_|refine hx4 _ ?_|refine hr4 _ ?_|refine ho4 _ _ (by decide) ?_|refine aj (id:=5) (fun Q5 hn5 hx5 hr5 ho5=>?_)|refine bl (id:=5) (fun Q5 hn5 hx5 hr5 ho5=>?_)|refine hn5 _ ?_|refine hx5 _ ?_|refine hr5 _ ?_|refine ho5 _ _ (by decide) ?_|refine hxL0 _ _ ?_|refine hrL0 _ ?_|refine hxL1 _ _ ?_|refine hrL1 _ ?_|refine hxL2 _ _ ?_|refine hrL2 _ ?_)
  |(with_reducible (first|((first|refine ah (fun K hK=>?_)|refine aI (fun K hK=>?_));(first|refine GT ?_|refine GU ?_|refine GV ?_|refine GW ?_|refine GX ?_|refine GY ?_|refine GZ ?_|refine G0 ?_|refine G1 ?_|refine G2 ?_|refine GB ?_|refine GC ?_|refine GD ?_|refine GE ?_|refine GF ?_|refine GG ?_|refine GH ?_|refine GI ?_|refine GJ ?_|refine GK ?_|refine GL ?_|refine GM ?_|refine GN ?_|refine GO ?_|refine GP ?_))|refine hqr _ ?_|refine hqn _ ?_);(try simp only[SS,Nat.reduceEqDiff,ap,Gf,Gh,Gi,Gg,dj,ef,bv,nN,Gq,aR,eE,aS,Nat.reduceMul,Nat.reduceAdd,bL,dw,bM,cB,bq,br,bI,fE,F7,jj,Bool.not_true,Bool.not_false,lenS,fe,F8,Ga,Gb,uR,Gn,Ge,q9,Gc,Gd,F9,F6,gE,dT,cD,dy,fP,iD,ea,eG,cU,dz,q7,Gk,bD,bg,cd,bF,List.all_append,q6,ay,Nat.reduceLeDiff,Nat.zero_le,fB,cz,List.all_cons,List.all_nil,Bool.and_self,Bool.true_and,Bool.and_true,Ea,Gu,Gw,Gv,Gm,Gt,uc,sa,Gs,Gl,xL,decide_false,decide_true,Bool.false_or,Bool.true_or,Bool.or_false,Bool.or_true,Bool.false_eq_true,r22,Hh,aQ,ak,aD,am,dD,gI,nH,vV,GA,Gy,dq,bV,lH,xA,F2,Nat.zero_sub,Nat.sub_self,bz,eh,Ek,lI,F3,ro,bW,CV.int.injEq,aZ,hkc]))
  |(revert hK;intro hK;(first|refine And.intro ?_ ?_|(refine fun(h:(_:Bool)=_)=>?_;subst h)|intro _|omega|(with_reducible refine hK _ ?_;clear hK K))))
  all_goals exact⟨_,rfl⟩
 |true=>
  rw[hc,if_pos rfl] at hkc
  have hfi:=l6 hc
  obtain⟨n,hn⟩:∃ n:Nat,f.values=(n:Int):=⟨f.values.toNat,by have:=hfi.values.1;omega⟩
  have hn1:n≤65536:=by have:=hfi.values.2;omega
  have hnt:f.values.toNat=n:=by omega
  obtain⟨_,⟨H',rfl⟩,hne⟩:=x24 f hf hB hw
  rw[hc,if_pos rfl] at hne
  have hnl:(G6 f).length=n:=by simp[G6,hnt]
  have hcn:∀ m,aB An FF 22 (some 21) 24 [.agg [sl ptC f.parts,.int .i64 f.values]] m=some (.ref (.l 336) (bj m.L 336) 0 n,bi m 336 (.arr (bj m.L 336) 1 ((G6 f).flatMap bS) 0)):=fun m=>by
   have:=ek (fid:=22) (d:=21) (m:=m) (args:=[.agg (aZ f)]) hne rfl (by simp only[cans,aC,codeE.can]) rfl (by simp only[noGs,noG,codeE.noG,Bool.and_self]) (iT jk _)
   rw[fO (show(An.glob 22).contains 21=false from rfl),hnl] at this
   exact this
  have hsetL:∀ (L:List (Nat×HO)) (H:List HO) j o,bi ⟨L,H⟩ j o=⟨cF L j o,H⟩:=fun _ _ _ _=>rfl
  refine bA rfl Try.func22 s22 (Nat.le_of_ble_eq_true rfl) (fun Q hqr hqn=>?_)
  rw[bf (show An.pure 22=true from rfl) (by simp only[cans,aG,az,aC,aH,codeE.can])]
  simp only[aO,Nat.reduceAdd,c22]
  repeat' (first
  |with_reducible (first|refine ai ?_|refine ar ?_|refine au rfl ?_|refine ax rfl ?_|refine Gp rfl (fun _=>?_) (fun _=>?_)|refine bc rfl ?_|refine bn rfl ?_|refine Gz rfl (fun _=>?_) (fun _=>?_)|refine b6 ?_|refine aN ?_|refine aF ?_|refine Js ?_|refine bx ?_|refine aj (id:=0) (fun Q0 hn0 hx0 hr0 ho0=>?_)|refine bl (id:=0) (fun Q0 hn0 hx0 hr0 ho0=>?_)|refine hn0 _ ?_|refine hx0 _ ?_|refine hr0 _ ?_|refine ho0 _ _ (by decide) ?_|refine aj (id:=1) (fun Q1 hn1 hx1 hr1 ho1=>?_)|refine bl (id:=1) (fun Q1 hn1 hx1 hr1 ho1=>?_)|refine hn1 _ ?_|refine hx1 _ ?_|refine hr1 _ ?_|refine ho1 _ _ (by decide) ?_|refine aj (id:=2) (fun Q2 hn2 hx2 hr2 ho2=>?_)|refine bl (id:=2) (fun Q2 hn2 hx2 hr2 ho2=>?_)|refine hn2 _ ?_|refine hx2 _ ?_|refine hr2 _ ?_|refine ho2 _ _ (by decide) ?_|refine aj (id:=3) (fun Q3 hn3 hx3 hr3 ho3=>?_)|refine bl (id:=3) (fun Q3 hn3 hx3 hr3 ho3=>?_)|refine hn3 _ ?_|refine hx3 _ ?_|refine hr3 _ ?_|refine ho3 _ _ (by decide) ?_|refine aj (id:=4) (fun Q4 hn4 hx4 hr4 ho4=>?_)|refine bl (id:=4) (fun Q4 hn4 hx4 hr4 ho4=>?_)|refine hn4 _ ?_|refine hx4 _ ?_|refine hr4 _ ?_|refine ho4 _ _ (by decide) ?_|refine aj (id:=5) (fun Q5 hn5 hx5 hr5 ho5=>?_)|refine bl (id:=5) (fun Q5 hn5 hx5 hr5 ho5=>?_)|refine hn5 _ ?_|refine hx5 _ ?_|refine hr5 _ ?_|refine ho5 _ _ (by decide) ?_|refine hxL0 _ _ ?_|refine hrL0 _ ?_|refine hxL1 _ _ ?_|refine hrL1 _ ?_|refine hxL2 _ _ ?_|refine hrL2 _ ?_)
  |(with_reducible (first|((first|refine ah (fun K hK=>?_)|refine aI (fun K hK=>?_));(first|refine GT ?_|refine GU ?_|refine GV ?_|refine GW ?_|refine GX ?_|refine GY ?_|refine GZ ?_|refine G0 ?_|refine G1 ?_|refine G2 ?_|refine GB ?_|refine GC ?_|refine GD ?_|refine GE ?_|refine GF ?_|refine GG ?_|refine GH ?_|refine GI ?_|refine GJ ?_|refine GK ?_|refine GL ?_|refine GM ?_|refine GN ?_|refine GO ?_|refine GP ?_))|refine hqr _ ?_|refine hqn _ ?_);(try simp only[SS,Nat.reduceEqDiff,ap,Gf,Gh,Gi,Gg,dj,ef,bv,nN,Gq,aR,eE,aS,Nat.reduceMul,Nat.reduceAdd,bL,dw,bM,cB,bq,br,bI,fE,F7,jj,Bool.not_true,Bool.not_false,lenS,fe,F8,Ga,Gb,uR,Gn,Ge,q9,Gc,Gd,F9,F6,gE,dT,cD,dy,fP,iD,ea,eG,cU,dz,q7,Gk,bD,bg,cd,bF,List.all_append,q6,ay,Nat.reduceLeDiff,Nat.zero_le,fB,cz,List.all_cons,List.all_nil,Bool.and_self,Bool.true_and,Bool.and_true,Ea,Gu,Gw,Gv,Gm,Gt,uc,sa,Gs,Gl,xL,decide_false,decide_true,Bool.false_or,Bool.true_or,Bool.or_false,Bool.or_true,Bool.false_eq_true,r22,Hh,aQ,ak,aD,am,dD,gI,nH,vV,GA,Gy,dq,bV,lH,xA,F2,Nat.zero_sub,Nat.sub_self,bz,eh,Ek,lI,F3,ro,bW,CV.int.injEq,aZ,hkc,hcn,hsetL,aP]))
  |(revert hK;intro hK;(first|refine And.intro ?_ ?_|(refine fun(h:(_:Bool)=_)=>?_;subst h)|intro _|omega|(with_reducible refine hK _ ?_;clear hK K))))
  obtain⟨g2,hg2⟩:∃ g,bj [] 32=g:=⟨_,rfl⟩
  obtain⟨gn,hgn⟩:∃ g,bj [] 336=g:=⟨_,rfl⟩
  obtain⟨g6,hg6⟩:∃ g,bj [] 96=g:=⟨_,rfl⟩
  rw[hg2,hgn,hg6]
  refine aU (fun k s=>∃ (d t:List Pt) (vG:CV) (L:List (Nat×HO)),f.parts=d++t∧k=t.length∧(aK L 32=some (.var g2 [.nil,.int .i64 0] 0)∧aK L 336=some (.arr gn 1 ((G6 f).flatMap bS) 0)∧aK L 96=some (.var g6 [vG,.int .i64 f.values] 0)∧OwnE ptR 10 ⟨L,[]⟩ 1328 vG (d.map (Gj f))) ∧
   s=⟨[(2,.ptr (.l 32) g2 0),(5,.ref (.l 336) gn 0 n),(6,.ptr (.l 96) g6 0),(26,sl ptC f.parts),(27,.int .i64 f.parts.length),(28,.int .i64 d.length)],⟨L,[]⟩⟩) _ ⟨[],f.parts,.nil,_,rfl,rfl,⟨by simp[aq],by simp[aq],by simp[aq],.inl ⟨rfl,rfl⟩⟩,rfl⟩ ?_
  rintro k s ⟨d,t,vG,L,h2,rfl,hBase,rfl⟩ QL2 hnL2 hxL2 hrL2
  have hlen:=congrArg List.length h2
  simp only[List.length_append] at hlen
  have hpl:=hf.parts
  simp only[c22l2]
  cases t with
  |nil=>
   simp only[List.length_nil] at hlen
   rw[List.append_nil] at h2
   obtain⟨b1,b2,b3,b4⟩:=hBase
   rw[←h2] at b4
   repeat' (first
   |with_reducible (first|refine ai ?_|refine ar ?_|refine au rfl ?_|refine ax rfl ?_|refine Gp rfl (fun _=>?_) (fun _=>?_)|refine bc rfl ?_|refine bn rfl ?_|refine Gz rfl (fun _=>?_) (fun _=>?_)|refine b6 ?_|refine aN ?_|refine aF ?_|refine Js ?_|refine bx ?_|refine aj (id:=0) (fun Q0 hn0 hx0 hr0 ho0=>?_)|refine bl (id:=0) (fun Q0 hn0 hx0 hr0 ho0=>?_)|refine hn0 _ ?_|refine hx0 _ ?_|refine hr0 _ ?_|refine ho0 _ _ (by decide) ?_|refine aj (id:=1) (fun Q1 hn1 hx1 hr1 ho1=>?_)|refine bl (id:=1) (fun Q1 hn1 hx1 hr1 ho1=>?_)|refine hn1 _ ?_|refine hx1 _ ?_|refine hr1 _ ?_|refine ho1 _ _ (by decide) ?_|refine aj (id:=2) (fun Q2 hn2 hx2 hr2 ho2=>?_)|refine bl (id:=2) (fun Q2 hn2 hx2 hr2 ho2=>?_)|refine hn2 _ ?_|refine hx2 _ ?_|refine hr2 _ ?_|refine ho2 _ _ (by decide) ?_|refine aj (id:=3) (fun Q3 hn3 hx3 hr3 ho3=>?_)|refine bl (id:=3) (fun Q3 hn3 hx3 hr3 ho3=>?_)|refine hn3 _ ?_|refine hx3 _ ?_|refine hr3 _ ?_|refine ho3 _ _ (by decide) ?_|refine aj (id:=4) (fun Q4 hn4 hx4 hr4 ho4=>?_)|refine bl (id:=4) (fun Q4 hn4 hx4 hr4 ho4=>?_)|refine hn4 _ ?_|refine hx4 _ ?_|refine hr4 _ ?_|refine ho4 _ _ (by decide) ?_|refine aj (id:=5) (fun Q5 hn5 hx5 hr5 ho5=>?_)|refine bl (id:=5) (fun Q5 hn5 hx5 hr5 ho5=>?_)|refine hn5 _ ?_|refine hx5 _ ?_|refine hr5 _ ?_|refine ho5 _ _ (by decide) ?_|refine hxL0 _ _ ?_|refine hrL0 _ ?_|refine hxL1 _ _ ?_|refine hrL1 _ ?_|refine hxL2 _ _ ?_|refine hrL2 _ ?_)
   |(with_reducible (first|((first|refine ah (fun K hK=>?_)|refine aI (fun K hK=>?_));(first|refine GT ?_|refine GU ?_|refine GV ?_|refine GW ?_|refine GX ?_|refine GY ?_|refine GZ ?_|refine G0 ?_|refine G1 ?_|refine G2 ?_|refine GB ?_|refine GC ?_|refine GD ?_|refine GE ?_|refine GF ?_|refine GG ?_|refine GH ?_|refine GI ?_|refine GJ ?_|refine GK ?_|refine GL ?_|refine GM ?_|refine GN ?_|refine GO ?_|refine GP ?_))|refine hqr _ ?_|refine hqn _ ?_);(try simp only[SS,Nat.reduceEqDiff,ap,Gf,Gh,Gi,Gg,dj,ef,bv,nN,Gq,aR,eE,aS,Nat.reduceMul,Nat.reduceAdd,bL,dw,bM,cB,bq,br,bI,fE,F7,jj,Bool.not_true,Bool.not_false,lenS,fe,F8,Ga,Gb,uR,Gn,Ge,q9,Gc,Gd,F9,F6,gE,dT,cD,dy,fP,iD,ea,eG,cU,dz,q7,Gk,bD,bg,cd,bF,List.all_append,q6,ay,Nat.reduceLeDiff,Nat.zero_le,fB,cz,List.all_cons,List.all_nil,Bool.and_self,Bool.true_and,Bool.and_true,Ea,Gu,Gw,Gv,Gm,Gt,uc,sa,Gs,Gl,xL,decide_false,decide_true,Bool.false_or,Bool.true_or,Bool.or_false,Bool.or_true,Bool.false_eq_true,r22,Hh,aQ,ak,aD,am,dD,gI,nH,vV,GA,Gy,dq,bV,lH,xA,F2,Nat.zero_sub,Nat.sub_self,bz,eh,Ek,lI,F3,ro,bW,CV.int.injEq,b1,b3]))
   |(revert hK;intro hK;(first|refine And.intro ?_ ?_|(refine fun(h:(_:Bool)=_)=>?_;subst h)|intro _|omega|(with_reducible refine hK _ ?_;clear hK K))))
   have b5:OwnE ptR 10 (bi { L:=L,H:=[] } 32 (HO.var g2 [vG,CV.int IntKind.i64 f.values] 0)) 1328 vG (f.parts.map (Gj f)):=b4.keep (by simp[bi,aq])
   obtain⟨m1,e1,e2⟩:=b5.seen.esc5 Iq
   rw[e1,aJ]
   exact⟨_,rfl,rfl⟩
  |cons p t=>
   simp only[List.length_cons] at hlen
   have hpm:p ∈ f.parts:=by rw[h2];simp
   obtain⟨hphl,hphs⟩:=hf.phis p hpm
   obtain⟨hndl,hnds⟩:=hf.nodes p hpm
   have hwd:IntKind.i64.wrap ((d.length:Int)+1)=d.length+1:=wI (by omega) (by omega)
   obtain⟨Base,hBd⟩:∃ Base:List (Nat×HO)→Prop,Base=fun L=>(aK L 32=some (.var g2 [.nil,.int .i64 0] 0)∧aK L 336=some (.arr gn 1 ((G6 f).flatMap bS) 0)∧aK L 96=some (.var g6 [vG,.int .i64 f.values] 0)∧OwnE ptR 10 ⟨L,[]⟩ 1328 vG (d.map (Gj f))):=⟨_,rfl⟩
   have hBk:∀ {L L'},Base L→(∀ i,i=32∨i=336∨i=96∨i=1328→aK L' i=aK L i)→Base L':=fun {L L'} h hk=>by
    rw[hBd] at h ⊢
    exact⟨by rw[hk 32 (by simp)];exact h.1,by rw[hk 336 (by simp)];exact h.2.1,by rw[hk 96 (by simp)];exact h.2.2.1,h.2.2.2.keep (hk 1328 (by simp))⟩
   have hB0:Base L:=by rw[hBd];exact hBase
   have hidp:∀ id ∈ Hf p,0≤id∧id<f.values:=fun id hid=>hfi.ids id (List.mem_flatMap.2 ⟨p,hpm,hid⟩)
   have hfill:bg [.nil,.nil,.nil,.int .i64 0,.int .i64 0,.bool false,.int .i64 0,.int .i64 0,.int .i64 0,.int .i64 0] [(0,1,sl aX p.pred),(3,7,.agg [.int .i64 p.fin.op,.int .i64 p.fin.cond,.bool p.fin.wide,.int .i64 p.fin.a,.int .i64 p.fin.b,.int .i64 p.fin.to,.int .i64 p.fin.els])] =
     some [sl aX p.pred,.nil,.nil,.int .i64 p.fin.op,.int .i64 p.fin.cond,.bool p.fin.wide,.int .i64 p.fin.a,.int .i64 p.fin.b,.int .i64 p.fin.to,.int .i64 p.fin.els]:=rfl
   repeat' (first
   |with_reducible (first|refine ai ?_|refine ar ?_|refine au rfl ?_|refine ax rfl ?_|refine Gp rfl (fun _=>?_) (fun _=>?_)|refine bc rfl ?_|refine bn rfl ?_|refine Gz rfl (fun _=>?_) (fun _=>?_)|refine b6 ?_|refine aN ?_|refine aF ?_|refine Js ?_|refine bx ?_|refine aj (id:=0) (fun Q0 hn0 hx0 hr0 ho0=>?_)|refine bl (id:=0) (fun Q0 hn0 hx0 hr0 ho0=>?_)|refine hn0 _ ?_|refine hx0 _ ?_|refine hr0 _ ?_|refine ho0 _ _ (by decide) ?_|refine aj (id:=1) (fun Q1 hn1 hx1 hr1 ho1=>?_)|refine bl (id:=1) (fun Q1 hn1 hx1 hr1 ho1=>?_)|refine hn1 _ ?_|refine hx1 _ ?_|refine hr1 _ ?_|refine ho1 _ _ (by decide) ?_|refine aj (id:=2) (fun Q2 hn2 hx2 hr2 ho2=>?_)|refine bl (id:=2) (fun Q2 hn2 hx2 hr2 ho2=>?_)|refine hn2 _ ?_|refine hx2 _ ?_|refine hr2 _ ?_|refine ho2 _ _ (by decide) ?_|refine aj (id:=3) (fun Q3 hn3 hx3 hr3 ho3=>?_)|refine bl (id:=3) (fun Q3 hn3 hx3 hr3 ho3=>?_)|refine hn3 _ ?_|refine hx3 _ ?_|refine hr3 _ ?_|refine ho3 _ _ (by decide) ?_|refine aj (id:=4) (fun Q4 hn4 hx4 hr4 ho4=>?_)|refine bl (id:=4) (fun Q4 hn4 hx4 hr4 ho4=>?_)|refine hn4 _ ?_|refine hx4 _ ?_|refine hr4 _ ?_|refine ho4 _ _ (by decide) ?_|refine aj (id:=5) (fun Q5 hn5 hx5 hr5 ho5=>?_)|refine bl (id:=5) (fun Q5 hn5 hx5 hr5 ho5=>?_)|refine hn5 _ ?_|refine hx5 _ ?_|refine hr5 _ ?_|refine ho5 _ _ (by decide) ?_|refine hxL0 _ _ ?_|refine hrL0 _ ?_|refine hxL1 _ _ ?_|refine hrL1 _ ?_|refine hxL2 _ _ ?_|refine hrL2 _ ?_)
   |(with_reducible (first|((first|refine ah (fun K hK=>?_)|refine aI (fun K hK=>?_));(first|refine GT ?_|refine GU ?_|refine GV ?_|refine GW ?_|refine GX ?_|refine GY ?_|refine GZ ?_|refine G0 ?_|refine G1 ?_|refine G2 ?_|refine GB ?_|refine GC ?_|refine GD ?_|refine GE ?_|refine GF ?_|refine GG ?_|refine GH ?_|refine GI ?_|refine GJ ?_|refine GK ?_|refine GL ?_|refine GM ?_|refine GN ?_|refine GO ?_|refine GP ?_))|refine hqr _ ?_|refine hqn _ ?_);(try simp only[SS,Nat.reduceEqDiff,ap,Gf,Gh,Gi,Gg,dj,ef,bv,nN,Gq,aR,eE,aS,Nat.reduceMul,Nat.reduceAdd,bL,dw,bM,cB,bq,br,bI,fE,F7,jj,Bool.not_true,Bool.not_false,lenS,fe,F8,Ga,Gb,uR,Gn,Ge,q9,Gc,Gd,F9,F6,gE,dT,cD,dy,fP,iD,ea,eG,cU,dz,q7,Gk,bD,cd,bF,List.all_append,q6,ay,Nat.reduceLeDiff,Nat.zero_le,fB,cz,List.all_cons,List.all_nil,Bool.and_self,Bool.true_and,Bool.and_true,Ea,Gu,Gw,Gv,Gm,Gt,uc,sa,Gs,Gl,xL,decide_false,decide_true,Bool.false_or,Bool.true_or,Bool.or_false,Bool.or_true,Bool.false_eq_true,r22,Hh,aQ,ak,aD,am,dD,gI,nH,vV,GA,Gy,dq,bV,lH,xA,F2,Nat.zero_sub,Nat.sub_self,bz,eh,Ek,lI,F3,ro,bW,CV.int.injEq,aM ptE.len (by omega) h2,ct,ptC,hsetL,aP,hfill]))
   |(revert hK;intro hK;(first|refine And.intro ?_ ?_|(refine fun(h:(_:Bool)=_)=>?_;subst h)|intro _|omega|(with_reducible refine hK _ ?_;clear hK K))))
   obtain⟨g8,hg8⟩:∃ g,bj L 128=g:=⟨_,rfl⟩
   obtain⟨g9,hg9⟩:∃ g,bj L 144=g:=⟨_,rfl⟩
   rw[hg8,hg9]
   refine aU (fun k s=>∃ (d1 t1:List Ph) (vP:CV) (L:List (Nat×HO)),p.phis=d1++t1∧k=t1.length∧Base L∧aK L 128=some (.var g8 (ptC p) 0) ∧
    aK L 144=some (.var g9 [sl aX p.pred,vP,.nil,.int .i64 p.fin.op,.int .i64 p.fin.cond,.bool p.fin.wide,.int .i64 p.fin.a,.int .i64 p.fin.b,.int .i64 p.fin.to,.int .i64 p.fin.els] 0) ∧
    OwnE phC 2 ⟨L,[]⟩ 848 vP (d1.filter fun x=>F5 f x.id) ∧
    s=⟨[(2,.ptr (.l 32) g2 0),(5,.ref (.l 336) gn 0 n),(6,.ptr (.l 96) g6 0),(8,.ptr (.l 128) g8 0),(9,.ptr (.l 144) g9 0),(26,sl ptC f.parts),(27,.int .i64 f.parts.length),(28,.int .i64 d.length),(38,sl phC p.phis),(39,.int .i64 p.phis.length),(40,.int .i64 d1.length)],⟨L,[]⟩⟩) _
    ⟨[],p.phis,.nil,_,rfl,rfl,hBk hB0 (by rintro i (rfl|rfl|rfl|rfl)<;>simp[aq]),by simp[aq,ptC],by simp[aq],.inl ⟨rfl,rfl⟩,rfl⟩ ?_
   rintro k s ⟨d1,t1,vP,L1,h3,rfl,hB1,hL8,hL9,hO1,rfl⟩ QL0 hnL0 hxL0 hrL0
   have hlen1:=congrArg List.length h3
   simp only[List.length_append] at hlen1
   simp only[c22l0]
   cases t1 with
   |cons x t1=>
    simp only[List.length_cons] at hlen1
    have hw1:IntKind.i64.wrap ((d1.length:Int)+1)=d1.length+1:=wI (by omega) (by omega)
    obtain⟨hx0,hx1⟩:=hidp x.id (List.mem_append_left _ (List.mem_map.2 ⟨x,by rw[h3];simp,rfl⟩))
    have hnx:=Ip hfi hx0 hx1
    have hix:bd 1 (.ref (.l 336) gn 0 n) (.int .i64 x.id)=some (.ptr (.l 336) gn x.id.toNat):=by rw[bD,if_pos ⟨hx0,by omega⟩];simp
    have h336:aK L1 336=some (.arr gn 1 ((G6 f).flatMap bS) 0):=by rw[hBd] at hB1;exact hB1.2.1
    have hnext:∀ vP' L',Base L'→aK L' 128=some (.var g8 (ptC p) 0)→aK L' 144=some (.var g9 [sl aX p.pred,vP',.nil,.int .i64 p.fin.op,.int .i64 p.fin.cond,.bool p.fin.wide,.int .i64 p.fin.a,.int .i64 p.fin.b,.int .i64 p.fin.to,.int .i64 p.fin.els] 0) →
      OwnE phC 2 ⟨L',[]⟩ 848 vP' ((d1++[x]).filter fun x=>F5 f x.id)→QL0 .normal ⟨[(2,.ptr (.l 32) g2 0),(5,.ref (.l 336) gn 0 n),(6,.ptr (.l 96) g6 0),(8,.ptr (.l 128) g8 0),(9,.ptr (.l 144) g9 0),(26,sl ptC f.parts),(27,.int .i64 f.parts.length),(28,.int .i64 d.length),(38,sl phC p.phis),(39,.int .i64 p.phis.length),(40,.int .i64 (d1.length+1))],⟨L',[]⟩⟩:=fun vP' L' q1 q2 q3 q4=>by
     rw[show((d1.length:Int)+1)=((d1++[x]).length:Int) by simp]
     exact hnL0 t1.length _ (by simp) ⟨d1++[x],t1,vP',L',by simp[h3],rfl,q1,q2,q3,q4,rfl⟩
    cases hb:F5 f x.id with
    |false=>
     rw[hb] at hnx
     repeat' (first
     |with_reducible (first|refine ai ?_|refine ar ?_|refine au rfl ?_|refine ax rfl ?_|refine Gp rfl (fun _=>?_) (fun _=>?_)|refine bc rfl ?_|refine bn rfl ?_|refine Gz rfl (fun _=>?_) (fun _=>?_)|refine b6 ?_|refine aN ?_|refine aF ?_|refine Js ?_|refine bx ?_|refine aj (id:=0) (fun Q0 hn0 hx0 hr0 ho0=>?_)|refine bl (id:=0) (fun Q0 hn0 hx0 hr0 ho0=>?_)|refine hn0 _ ?_|refine hx0 _ ?_|refine hr0 _ ?_|refine ho0 _ _ (by decide) ?_|refine aj (id:=1) (fun Q1 hn1 hx1 hr1 ho1=>?_)|refine bl (id:=1) (fun Q1 hn1 hx1 hr1 ho1=>?_)|refine hn1 _ ?_|refine hx1 _ ?_|refine hr1 _ ?_|refine ho1 _ _ (by decide) ?_|refine aj (id:=2) (fun Q2 hn2 hx2 hr2 ho2=>?_)|refine bl (id:=2) (fun Q2 hn2 hx2 hr2 ho2=>?_)|refine hn2 _ ?_|refine hx2 _ ?_|refine hr2 _ ?_|refine ho2 _ _ (by decide) ?_|refine aj (id:=3) (fun Q3 hn3 hx3 hr3 ho3=>?_)|refine bl (id:=3) (fun Q3 hn3 hx3 hr3 ho3=>?_)|refine hn3 _ ?_|refine hx3 _ ?_|refine hr3 _ ?_|refine ho3 _ _ (by decide) ?_|refine aj (id:=4) (fun Q4 hn4 hx4 hr4 ho4=>?_)|refine bl (id:=4) (fun Q4 hn4 hx4 hr4 ho4=>?_)|refine hn4 _ ?_|refine hx4 _ ?_|refine hr4 _ ?_|refine ho4 _ _ (by decide) ?_|refine aj (id:=5) (fun Q5 hn5 hx5 hr5 ho5=>?_)|refine bl (id:=5) (fun Q5 hn5 hx5 hr5 ho5=>?_)|refine hn5 _ ?_|refine hx5 _ ?_|refine hr5 _ ?_|refine ho5 _ _ (by decide) ?_|refine hxL0 _ _ ?_|refine hrL0 _ ?_|refine hxL1 _ _ ?_|refine hrL1 _ ?_|refine hxL2 _ _ ?_|refine hrL2 _ ?_)
     |(with_reducible (first|((first|refine ah (fun K hK=>?_)|refine aI (fun K hK=>?_));(first|refine GT ?_|refine GU ?_|refine GV ?_|refine GW ?_|refine GX ?_|refine GY ?_|refine GZ ?_|refine G0 ?_|refine G1 ?_|refine G2 ?_|refine GB ?_|refine GC ?_|refine GD ?_|refine GE ?_|refine GF ?_|refine GG ?_|refine GH ?_|refine GI ?_|refine GJ ?_|refine GK ?_|refine GL ?_|refine GM ?_|refine GN ?_|refine GO ?_|refine GP ?_))|refine hqr _ ?_|refine hqn _ ?_);(try simp only[SS,Nat.reduceEqDiff,ap,Gf,Gh,Gi,Gg,dj,ef,bv,nN,Gq,aR,eE,aS,Nat.reduceMul,Nat.reduceAdd,bL,dw,bM,cB,bq,br,bI,fE,F7,jj,Bool.not_true,Bool.not_false,lenS,fe,F8,Ga,Gb,uR,Gn,Ge,q9,Gc,Gd,F9,F6,gE,dT,cD,dy,fP,iD,ea,eG,cU,dz,q7,Gk,bD,bg,cd,bF,List.all_append,q6,ay,Nat.reduceLeDiff,Nat.zero_le,fB,cz,List.all_cons,List.all_nil,Bool.and_self,Bool.true_and,Bool.and_true,Ea,Gu,Gw,Gv,Gm,Gt,uc,sa,Gs,Gl,xL,decide_false,decide_true,Bool.false_or,Bool.true_or,Bool.or_false,Bool.or_true,Bool.false_eq_true,r22,Hh,aQ,ak,aD,am,dD,gI,nH,vV,GA,Gy,dq,bV,lH,xA,F2,Nat.zero_sub,Nat.sub_self,bz,eh,Ek,lI,F3,ro,bW,CV.int.injEq,aM phE.len (by omega) h3,qG,phC,hsetL,hix,h336,hnx,hw1]))
     |(revert hK;intro hK;(first|refine And.intro ?_ ?_|(refine fun(h:(_:Bool)=_)=>?_;subst h)|intro _|omega|(with_reducible refine hK _ ?_;clear hK K))))
     refine hnext vP _ (hBk hB1 (by rintro i (rfl|rfl|rfl|rfl)<;>simp[aq])) (by simp[aq,hL8]) (by simp[aq,hL9]) ?_
     rw[List.filter_append]
     simp only[List.filter_cons,hb,Bool.false_eq_true,if_false,List.filter_nil,List.append_nil]
     exact hO1.keep (by simp[aq])
    |true=>
     rw[hb] at hnx
     repeat' (first
     |with_reducible (first|refine ai ?_|refine ar ?_|refine au rfl ?_|refine ax rfl ?_|refine Gp rfl (fun _=>?_) (fun _=>?_)|refine bc rfl ?_|refine bn rfl ?_|refine Gz rfl (fun _=>?_) (fun _=>?_)|refine b6 ?_|refine aN ?_|refine aF ?_|refine Js ?_|refine bx ?_|refine aj (id:=0) (fun Q0 hn0 hx0 hr0 ho0=>?_)|refine bl (id:=0) (fun Q0 hn0 hx0 hr0 ho0=>?_)|refine hn0 _ ?_|refine hx0 _ ?_|refine hr0 _ ?_|refine ho0 _ _ (by decide) ?_|refine aj (id:=1) (fun Q1 hn1 hx1 hr1 ho1=>?_)|refine bl (id:=1) (fun Q1 hn1 hx1 hr1 ho1=>?_)|refine hn1 _ ?_|refine hx1 _ ?_|refine hr1 _ ?_|refine ho1 _ _ (by decide) ?_|refine aj (id:=2) (fun Q2 hn2 hx2 hr2 ho2=>?_)|refine bl (id:=2) (fun Q2 hn2 hx2 hr2 ho2=>?_)|refine hn2 _ ?_|refine hx2 _ ?_|refine hr2 _ ?_|refine ho2 _ _ (by decide) ?_|refine aj (id:=3) (fun Q3 hn3 hx3 hr3 ho3=>?_)|refine bl (id:=3) (fun Q3 hn3 hx3 hr3 ho3=>?_)|refine hn3 _ ?_|refine hx3 _ ?_|refine hr3 _ ?_|refine ho3 _ _ (by decide) ?_|refine aj (id:=4) (fun Q4 hn4 hx4 hr4 ho4=>?_)|refine bl (id:=4) (fun Q4 hn4 hx4 hr4 ho4=>?_)|refine hn4 _ ?_|refine hx4 _ ?_|refine hr4 _ ?_|refine ho4 _ _ (by decide) ?_|refine aj (id:=5) (fun Q5 hn5 hx5 hr5 ho5=>?_)|refine bl (id:=5) (fun Q5 hn5 hx5 hr5 ho5=>?_)|refine hn5 _ ?_|refine hx5 _ ?_|refine hr5 _ ?_|refine ho5 _ _ (by decide) ?_|refine hxL0 _ _ ?_|refine hrL0 _ ?_|refine hxL1 _ _ ?_|refine hrL1 _ ?_|refine hxL2 _ _ ?_|refine hrL2 _ ?_)
     |(with_reducible (first|((first|refine ah (fun K hK=>?_)|refine aI (fun K hK=>?_));(first|refine GT ?_|refine GU ?_|refine GV ?_|refine GW ?_|refine GX ?_|refine GY ?_|refine GZ ?_|refine G0 ?_|refine G1 ?_|refine G2 ?_|refine GB ?_|refine GC ?_|refine GD ?_|refine GE ?_|refine GF ?_|refine GG ?_|refine GH ?_|refine GI ?_|refine GJ ?_|refine GK ?_|refine GL ?_|refine GM ?_|refine GN ?_|refine GO ?_|refine GP ?_))|refine hqr _ ?_|refine hqn _ ?_);(try simp only[SS,Nat.reduceEqDiff,ap,Gf,Gh,Gi,Gg,dj,ef,bv,nN,Gq,aR,eE,aS,Nat.reduceMul,Nat.reduceAdd,bL,dw,bM,cB,bq,br,bI,fE,F7,jj,Bool.not_true,Bool.not_false,lenS,fe,F8,Ga,Gb,uR,Gn,Ge,q9,Gc,Gd,F9,F6,gE,dT,cD,dy,fP,iD,ea,eG,cU,dz,q7,Gk,bD,bF,List.all_append,q6,ay,Nat.reduceLeDiff,Nat.zero_le,fB,cz,List.all_cons,List.all_nil,Bool.and_self,Bool.true_and,Bool.and_true,Ea,Gu,Gw,Gv,Gm,Gt,uc,sa,Gs,Gl,xL,decide_false,decide_true,Bool.false_or,Bool.true_or,Bool.or_false,Bool.or_true,Bool.false_eq_true,r22,Hh,aQ,ak,aD,am,dD,gI,nH,vV,GA,Gy,dq,bV,lH,xA,F2,Nat.zero_sub,Nat.sub_self,bz,eh,Ek,lI,F3,ro,bW,CV.int.injEq,aM phE.len (by omega) h3,qG,phC,hsetL,hix,h336,hnx,hL9]))
     |(revert hK;intro hK;(first|refine And.intro ?_ ?_|(refine fun(h:(_:Bool)=_)=>?_;subst h)|intro _|omega|(with_reducible refine hK _ ?_;clear hK K))))
     have hf1:bg [CV.int IntKind.i64 0,CV.nil] [(0,2,CV.agg [CV.int IntKind.i64 x.id,sl aX x.src])]=some (phC x):=rfl
     rw[Ia hf1 (cn rfl),aJ]
     have hSp:=(hS p hpm).1
     have hfl:=List.length_filter_le (fun x=>F5 f x.id) d1
     refine OwnE.app (l:=d1.filter fun x=>F5 f x.id) (ys:=[x]) ?_ phE.len (by simp only[cU,ba,if_true,dz];rfl) rfl (by decide) (by simp only[List.length_singleton];omega) fun v' m' r1 r2 r3=>?_
     ·exact hO1.keep (by simp[bi,aq])
     obtain⟨L',H'⟩:=m'
     simp only[ik] at r2
     subst r2
     rcases r1 with⟨h,_⟩|⟨hne,gv,rfl,hr1⟩
     ·simp at h
     have h144:aK L' 144=some (.var g9 [sl aX p.pred,vP,.nil,.int .i64 p.fin.op,.int .i64 p.fin.cond,.bool p.fin.wide,.int .i64 p.fin.a,.int .i64 p.fin.b,.int .i64 p.fin.to,.int .i64 p.fin.els] 0):=by
      have:=r3 144 (by decide)
      simp only at this
      rw[this];simp[bi,aq,hL9]
     simp only[h144,lj,List.length_singleton,List.length_cons,List.length_nil]
     rw[if_pos ⟨trivial,by decide,by decide⟩,aJ]
     refine hK _ ?_
     clear hK K
     repeat' (first
     |with_reducible (first|refine ai ?_|refine ar ?_|refine au rfl ?_|refine ax rfl ?_|refine Gp rfl (fun _=>?_) (fun _=>?_)|refine bc rfl ?_|refine bn rfl ?_|refine Gz rfl (fun _=>?_) (fun _=>?_)|refine b6 ?_|refine aN ?_|refine aF ?_|refine Js ?_|refine bx ?_|refine aj (id:=0) (fun Q0 hn0 hx0 hr0 ho0=>?_)|refine bl (id:=0) (fun Q0 hn0 hx0 hr0 ho0=>?_)|refine hn0 _ ?_|refine hx0 _ ?_|refine hr0 _ ?_|refine ho0 _ _ (by decide) ?_|refine aj (id:=1) (fun Q1 hn1 hx1 hr1 ho1=>?_)|refine bl (id:=1) (fun Q1 hn1 hx1 hr1 ho1=>?_)|refine hn1 _ ?_|refine hx1 _ ?_|refine hr1 _ ?_|refine ho1 _ _ (by decide) ?_|refine aj (id:=2) (fun Q2 hn2 hx2 hr2 ho2=>?_)|refine bl (id:=2) (fun Q2 hn2 hx2 hr2 ho2=>?_)|refine hn2 _ ?_|refine hx2 _ ?_|refine hr2 _ ?_|refine ho2 _ _ (by decide) ?_|refine aj (id:=3) (fun Q3 hn3 hx3 hr3 ho3=>?_)|refine bl (id:=3) (fun Q3 hn3 hx3 hr3 ho3=>?_)|refine hn3 _ ?_|refine hx3 _ ?_|refine hr3 _ ?_|refine ho3 _ _ (by decide) ?_|refine aj (id:=4) (fun Q4 hn4 hx4 hr4 ho4=>?_)|refine bl (id:=4) (fun Q4 hn4 hx4 hr4 ho4=>?_)|refine hn4 _ ?_|refine hx4 _ ?_|refine hr4 _ ?_|refine ho4 _ _ (by decide) ?_|refine aj (id:=5) (fun Q5 hn5 hx5 hr5 ho5=>?_)|refine bl (id:=5) (fun Q5 hn5 hx5 hr5 ho5=>?_)|refine hn5 _ ?_|refine hx5 _ ?_|refine hr5 _ ?_|refine ho5 _ _ (by decide) ?_|refine hxL0 _ _ ?_|refine hrL0 _ ?_|refine hxL1 _ _ ?_|refine hrL1 _ ?_|refine hxL2 _ _ ?_|refine hrL2 _ ?_)
     |(with_reducible (first|((first|refine ah (fun K hK=>?_)|refine aI (fun K hK=>?_));(first|refine GT ?_|refine GU ?_|refine GV ?_|refine GW ?_|refine GX ?_|refine GY ?_|refine GZ ?_|refine G0 ?_|refine G1 ?_|refine G2 ?_|refine GB ?_|refine GC ?_|refine GD ?_|refine GE ?_|refine GF ?_|refine GG ?_|refine GH ?_|refine GI ?_|refine GJ ?_|refine GK ?_|refine GL ?_|refine GM ?_|refine GN ?_|refine GO ?_|refine GP ?_))|refine hqr _ ?_|refine hqn _ ?_);(try simp only[SS,Nat.reduceEqDiff,ap,Gf,Gh,Gi,Gg,dj,ef,bv,nN,Gq,aR,eE,aS,Nat.reduceMul,Nat.reduceAdd,bL,dw,bM,cB,bq,br,bI,fE,F7,jj,Bool.not_true,Bool.not_false,lenS,fe,F8,Ga,Gb,uR,Gn,Ge,q9,Gc,Gd,F9,F6,gE,dT,cD,dy,fP,iD,ea,eG,cU,dz,q7,Gk,bD,bg,cd,bF,List.all_append,q6,ay,Nat.reduceLeDiff,Nat.zero_le,fB,cz,List.all_cons,List.all_nil,Bool.and_self,Bool.true_and,Bool.and_true,Ea,Gu,Gw,Gv,Gm,Gt,uc,sa,Gs,Gl,xL,decide_false,decide_true,Bool.false_or,Bool.true_or,Bool.or_false,Bool.or_true,Bool.false_eq_true,r22,Hh,aQ,ak,aD,am,dD,gI,nH,vV,GA,Gy,dq,bV,lH,xA,F2,Nat.zero_sub,Nat.sub_self,bz,eh,Ek,lI,F3,ro,bW,CV.int.injEq,hw1,hsetL]))
     |(revert hK;intro hK;(first|refine And.intro ?_ ?_|(refine fun(h:(_:Bool)=_)=>?_;subst h)|intro _|omega|(with_reducible refine hK _ ?_;clear hK K))))
     have hkp:∀ i,i≠848→i≠832→i≠176→i≠144→aK (cF L' 144 (.var g9 [sl aX p.pred,.ref (.l 848) gv 0 ((d1.filter fun x=>F5 f x.id)++[x]).length,.nil,.int .i64 p.fin.op,.int .i64 p.fin.cond,.bool p.fin.wide,.int .i64 p.fin.a,.int .i64 p.fin.b,.int .i64 p.fin.to,.int .i64 p.fin.els] 0)) i=aK L1 i:=fun i n1 n2 n3 n4=>by
      have:=r3 i n1
      simp only at this
      rw[aq,if_neg (Ne.symm n4),this]
      simp[bi,aq,Ne.symm n2,Ne.symm n3]
     refine hnext (.ref (.l 848) gv 0 ((d1.filter fun x=>F5 f x.id)++[x]).length) _ (hBk hB1 (by rintro i (rfl|rfl|rfl|rfl)<;>exact hkp _ (by decide) (by decide) (by decide) (by decide))) (by rw[hkp 128 (by decide) (by decide) (by decide) (by decide)];exact hL8) (by simp[aq]) ?_
     rw[List.filter_append]
     simp only[List.filter_cons,hb,if_true,List.filter_nil]
     exact .inr ⟨hne,gv,rfl,by rw[aq,if_neg (by decide)];exact hr1⟩
   |nil=>
    simp only[List.length_nil] at hlen1
    rw[List.append_nil] at h3
    rw[←h3] at hO1
    obtain⟨keepN,hkN⟩:∃ keepN:Nd→Bool,keepN=fun n=>ee n||F5 f n.id:=⟨_,rfl⟩
    repeat' (first
    |with_reducible (first|refine ai ?_|refine ar ?_|refine au rfl ?_|refine ax rfl ?_|refine Gp rfl (fun _=>?_) (fun _=>?_)|refine bc rfl ?_|refine bn rfl ?_|refine Gz rfl (fun _=>?_) (fun _=>?_)|refine b6 ?_|refine aN ?_|refine aF ?_|refine Js ?_|refine bx ?_|refine aj (id:=0) (fun Q0 hn0 hx0 hr0 ho0=>?_)|refine bl (id:=0) (fun Q0 hn0 hx0 hr0 ho0=>?_)|refine hn0 _ ?_|refine hx0 _ ?_|refine hr0 _ ?_|refine ho0 _ _ (by decide) ?_|refine aj (id:=1) (fun Q1 hn1 hx1 hr1 ho1=>?_)|refine bl (id:=1) (fun Q1 hn1 hx1 hr1 ho1=>?_)|refine hn1 _ ?_|refine hx1 _ ?_|refine hr1 _ ?_|refine ho1 _ _ (by decide) ?_|refine aj (id:=2) (fun Q2 hn2 hx2 hr2 ho2=>?_)|refine bl (id:=2) (fun Q2 hn2 hx2 hr2 ho2=>?_)|refine hn2 _ ?_|refine hx2 _ ?_|refine hr2 _ ?_|refine ho2 _ _ (by decide) ?_|refine aj (id:=3) (fun Q3 hn3 hx3 hr3 ho3=>?_)|refine bl (id:=3) (fun Q3 hn3 hx3 hr3 ho3=>?_)|refine hn3 _ ?_|refine hx3 _ ?_|refine hr3 _ ?_|refine ho3 _ _ (by decide) ?_|refine aj (id:=4) (fun Q4 hn4 hx4 hr4 ho4=>?_)|refine bl (id:=4) (fun Q4 hn4 hx4 hr4 ho4=>?_)|refine hn4 _ ?_|refine hx4 _ ?_|refine hr4 _ ?_|refine ho4 _ _ (by decide) ?_|refine aj (id:=5) (fun Q5 hn5 hx5 hr5 ho5=>?_)|refine bl (id:=5) (fun Q5 hn5 hx5 hr5 ho5=>?_)|refine hn5 _ ?_|refine hx5 _ ?_|refine hr5 _ ?_|refine ho5 _ _ (by decide) ?_|refine hxL0 _ _ ?_|refine hrL0 _ ?_|refine hxL1 _ _ ?_|refine hrL1 _ ?_|refine hxL2 _ _ ?_|refine hrL2 _ ?_)
    |(with_reducible (first|((first|refine ah (fun K hK=>?_)|refine aI (fun K hK=>?_));(first|refine GT ?_|refine GU ?_|refine GV ?_|refine GW ?_|refine GX ?_|refine GY ?_|refine GZ ?_|refine G0 ?_|refine G1 ?_|refine G2 ?_|refine GB ?_|refine GC ?_|refine GD ?_|refine GE ?_|refine GF ?_|refine GG ?_|refine GH ?_|refine GI ?_|refine GJ ?_|refine GK ?_|refine GL ?_|refine GM ?_|refine GN ?_|refine GO ?_|refine GP ?_))|refine hqr _ ?_|refine hqn _ ?_);(try simp only[SS,Nat.reduceEqDiff,ap,Gf,Gh,Gi,Gg,dj,ef,bv,nN,Gq,aR,eE,aS,Nat.reduceMul,Nat.reduceAdd,bL,dw,bM,cB,bq,br,bI,fE,F7,jj,Bool.not_true,Bool.not_false,lenS,fe,F8,Ga,Gb,uR,Gn,Ge,q9,Gc,Gd,F9,F6,gE,dT,cD,dy,fP,iD,ea,eG,cU,dz,q7,Gk,bD,bg,cd,bF,List.all_append,q6,ay,Nat.reduceLeDiff,Nat.zero_le,fB,cz,List.all_cons,List.all_nil,Bool.and_self,Bool.true_and,Bool.and_true,Ea,Gu,Gw,Gv,Gm,Gt,uc,sa,Gs,Gl,xL,decide_false,decide_true,Bool.false_or,Bool.true_or,Bool.or_false,Bool.or_true,Bool.false_eq_true,r22,Hh,aQ,ak,aD,am,dD,gI,nH,vV,GA,Gy,dq,bV,lH,xA,F2,Nat.zero_sub,Nat.sub_self,bz,eh,Ek,lI,F3,ro,bW,CV.int.injEq,hL8,ptC,aP]))
    |(revert hK;intro hK;(first|refine And.intro ?_ ?_|(refine fun(h:(_:Bool)=_)=>?_;subst h)|intro _|omega|(with_reducible refine hK _ ?_;clear hK K))))
    refine aU (fun k s=>∃ (d2 t2:List Nd) (vN:CV) (L:List (Nat×HO)),p.nodes=d2++t2∧k=t2.length∧Base L ∧
     aK L 144=some (.var g9 [sl aX p.pred,vP,vN,.int .i64 p.fin.op,.int .i64 p.fin.cond,.bool p.fin.wide,.int .i64 p.fin.a,.int .i64 p.fin.b,.int .i64 p.fin.to,.int .i64 p.fin.els] 0) ∧
     OwnE phC 2 ⟨L,[]⟩ 848 vP (p.phis.filter fun x=>F5 f x.id)∧OwnE ndC 12 ⟨L,[]⟩ 1216 vN (d2.filter keepN) ∧
     s=⟨[(2,.ptr (.l 32) g2 0),(5,.ref (.l 336) gn 0 n),(6,.ptr (.l 96) g6 0),(9,.ptr (.l 144) g9 0),(26,sl ptC f.parts),(27,.int .i64 f.parts.length),(28,.int .i64 d.length),(57,sl ndC p.nodes),(58,.int .i64 p.nodes.length),(59,.int .i64 d2.length)],⟨L,[]⟩⟩) _
     ⟨[],p.nodes,.nil,_,rfl,rfl,hB1,hL9,hO1,.inl ⟨rfl,rfl⟩,rfl⟩ ?_
    rintro k s ⟨d2,t2,vN,L2,h4,rfl,hB2,hQ2,hP2,hO2,rfl⟩ QL1 hnL1 hxL1 hrL1
    have hlen2:=congrArg List.length h4
    simp only[List.length_append] at hlen2
    simp only[c22l1]
    cases t2 with
    |cons x t2=>
     simp only[List.length_cons] at hlen2
     have hw2:IntKind.i64.wrap ((d2.length:Int)+1)=d2.length+1:=wI (by omega) (by omega)
     have hks:=fun d m=>k53 x (fid:=22) (d:=d) (m:=m)
     simp only[ndC] at hks
     have h336:aK L2 336=some (.arr gn 1 ((G6 f).flatMap bS) 0):=by rw[hBd] at hB2;exact hB2.2.1
     have hnext:∀ vN' L',Base L'→aK L' 144=some (.var g9 [sl aX p.pred,vP,vN',.int .i64 p.fin.op,.int .i64 p.fin.cond,.bool p.fin.wide,.int .i64 p.fin.a,.int .i64 p.fin.b,.int .i64 p.fin.to,.int .i64 p.fin.els] 0)→OwnE phC 2 ⟨L',[]⟩ 848 vP (p.phis.filter fun x=>F5 f x.id)→OwnE ndC 12 ⟨L',[]⟩ 1216 vN' ((d2++[x]).filter keepN) →
       QL1 .normal ⟨[(2,.ptr (.l 32) g2 0),(5,.ref (.l 336) gn 0 n),(6,.ptr (.l 96) g6 0),(9,.ptr (.l 144) g9 0),(26,sl ptC f.parts),(27,.int .i64 f.parts.length),(28,.int .i64 d.length),(57,sl ndC p.nodes),(58,.int .i64 p.nodes.length),(59,.int .i64 (d2.length+1))],⟨L',[]⟩⟩:=fun vN' L' q1 q2 q3 q4=>by
      rw[show((d2.length:Int)+1)=((d2++[x]).length:Int) by simp]
      exact hnL1 t2.length _ (by simp) ⟨d2++[x],t2,vN',L',by simp[h4],rfl,q1,q2,q3,q4,rfl⟩
     have hgrow:∀ g20 L3,(∀ i,i≠208→aK L3 i=aK L2 i)→aK L3 208=some (.var g20 (ndC x) 0)→keepN x=true→∀ K:CV×Mem→Prop,True:=fun _ _ _ _ _ _=>trivial
     have happ:keepN x=true→∀ (L3:List (Nat×HO)) (K:Mem→Prop),(∀ i,i≠208→aK L3 i=aK L2 i)→(∀ vN' L',Base L'→aK L' 144=some (.var g9 [sl aX p.pred,vP,vN',.int .i64 p.fin.op,.int .i64 p.fin.cond,.bool p.fin.wide,.int .i64 p.fin.a,.int .i64 p.fin.b,.int .i64 p.fin.to,.int .i64 p.fin.els] 0)→OwnE phC 2 ⟨L',[]⟩ 848 vP (p.phis.filter fun x=>F5 f x.id)→OwnE ndC 12 ⟨L',[]⟩ 1216 vN' ((d2++[x]).filter keepN)→K ⟨L',[]⟩) →
       Obt (cd false 1200 12 1 [.int .i64 0,.int .i64 0,.int .i64 0,.bool false,.int .i64 0,.int .i64 0,.int .u64 0,.int .i64 0,.int .i64 0,.bool false,.nil,.int .i64 0] [(0,12,.agg (ndC x))] ⟨L3,[]⟩) fun a3=>
        Obt (ej false 1216 12 112 vN a3.1 a3.2) fun a4=>Obt (stV 1 a4.2 144 g9 2 (ap a4.1) (aK a4.2.L 144)) K:=fun hk L3 K hL3 hK=>by
      have hf1:bg [.int .i64 0,.int .i64 0,.int .i64 0,.bool false,.int .i64 0,.int .i64 0,.int .u64 0,.int .i64 0,.int .i64 0,.bool false,.nil,.int .i64 0] [(0,12,.agg (ndC x))]=some (ndC x):=rfl
      rw[Ia hf1 (cn rfl),aJ]
      have hSp:=(hS p hpm).2
      have hfl:=List.length_filter_le keepN d2
      refine OwnE.app (l:=d2.filter keepN) (ys:=[x]) ?_ ndE.len (by simp only[cU,ba,if_true,dz];rfl) rfl (by decide) (by simp only[List.length_singleton];omega) fun v' m' r1 r2 r3=>?_
      ·exact hO2.keep (by simp[bi,aq,hL3])
      obtain⟨L',H'⟩:=m'
      simp only[ik] at r2
      subst r2
      rcases r1 with⟨h,_⟩|⟨hne,gv,rfl,hr1⟩
      ·simp at h
      have hk0:∀ i,i≠1216→i≠1200→i≠208→aK L' i=aK L2 i:=fun i n1 n2 n3=>by
       have:=r3 i n1
       simp only at this
       rw[this];simp[bi,aq,Ne.symm n2,hL3 i n3]
      have h144:aK L' 144=some (.var g9 [sl aX p.pred,vP,vN,.int .i64 p.fin.op,.int .i64 p.fin.cond,.bool p.fin.wide,.int .i64 p.fin.a,.int .i64 p.fin.b,.int .i64 p.fin.to,.int .i64 p.fin.els] 0):=by rw[hk0 144 (by decide) (by decide) (by decide)];exact hQ2
      simp only[ap,h144,lj,List.length_singleton,List.length_cons,List.length_nil]
      rw[if_pos ⟨trivial,by decide,by decide⟩,aJ]
      refine hK (.ref (.l 1216) gv 0 (d2.filter keepN++[x]).length) _ (hBk hB2 (by rintro i (rfl|rfl|rfl|rfl)<;>(rw[aq,if_neg (by decide)];exact hk0 _ (by decide) (by decide) (by decide)))) (by rw[aq,if_pos rfl];rfl) (hP2.keep (by rw[aq,if_neg (by decide)];exact hk0 _ (by decide) (by decide) (by decide))) ?_
      rw[List.filter_append]
      simp only[List.filter_cons,hk,if_true,List.filter_nil]
      exact .inr ⟨hne,gv,rfl,by rw[aq,if_neg (by decide)];exact hr1⟩
     cases hs:ee x with
     |true=>
      rw[hs] at hks
      have hk:keepN x=true:=by rw[hkN];simp[hs]
      repeat' (first
      |with_reducible (first|refine ai ?_|refine ar ?_|refine au rfl ?_|refine ax rfl ?_|refine Gp rfl (fun _=>?_) (fun _=>?_)|refine bc rfl ?_|refine bn rfl ?_|refine Gz rfl (fun _=>?_) (fun _=>?_)|refine b6 ?_|refine aN ?_|refine aF ?_|refine Js ?_|refine bx ?_|refine aj (id:=0) (fun Q0 hn0 hx0 hr0 ho0=>?_)|refine bl (id:=0) (fun Q0 hn0 hx0 hr0 ho0=>?_)|refine hn0 _ ?_|refine hx0 _ ?_|refine hr0 _ ?_|refine ho0 _ _ (by decide) ?_|refine aj (id:=1) (fun Q1 hn1 hx1 hr1 ho1=>?_)|refine bl (id:=1) (fun Q1 hn1 hx1 hr1 ho1=>?_)|refine hn1 _ ?_|refine hx1 _ ?_|refine hr1 _ ?_|refine ho1 _ _ (by decide) ?_|refine aj (id:=2) (fun Q2 hn2 hx2 hr2 ho2=>?_)|refine bl (id:=2) (fun Q2 hn2 hx2 hr2 ho2=>?_)|refine hn2 _ ?_|refine hx2 _ ?_|refine hr2 _ ?_|refine ho2 _ _ (by decide) ?_|refine aj (id:=3) (fun Q3 hn3 hx3 hr3 ho3=>?_)|refine bl (id:=3) (fun Q3 hn3 hx3 hr3 ho3=>?_)|refine hn3 _ ?_|refine hx3 _ ?_|refine hr3 _ ?_|refine ho3 _ _ (by decide) ?_|refine aj (id:=4) (fun Q4 hn4 hx4 hr4 ho4=>?_)|refine bl (id:=4) (fun Q4 hn4 hx4 hr4 ho4=>?_)|refine hn4 _ ?_|refine hx4 _ ?_|refine hr4 _ ?_|refine ho4 _ _ (by decide) ?_|refine aj (id:=5) (fun Q5 hn5 hx5 hr5 ho5=>?_)|refine bl (id:=5) (fun Q5 hn5 hx5 hr5 ho5=>?_)|refine hn5 _ ?_|refine hx5 _ ?_|refine hr5 _ ?_|refine ho5 _ _ (by decide) ?_|refine hxL0 _ _ ?_|refine hrL0 _ ?_|refine hxL1 _ _ ?_|refine hrL1 _ ?_|refine hxL2 _ _ ?_|refine hrL2 _ ?_)
      |(with_reducible (first|((first|refine ah (fun K hK=>?_)|refine aI (fun K hK=>?_));(first|refine GT ?_|refine GU ?_|refine GV ?_|refine GW ?_|refine GX ?_|refine GY ?_|refine GZ ?_|refine G0 ?_|refine G1 ?_|refine G2 ?_|refine GB ?_|refine GC ?_|refine GD ?_|refine GE ?_|refine GF ?_|refine GG ?_|refine GH ?_|refine GI ?_|refine GJ ?_|refine GK ?_|refine GL ?_|refine GM ?_|refine GN ?_|refine GO ?_|refine GP ?_))|refine hqr _ ?_|refine hqn _ ?_);(try simp only[SS,Nat.reduceEqDiff,ap,Gf,Gh,Gi,Gg,dj,ef,bv,nN,Gq,aR,eE,aS,Nat.reduceMul,Nat.reduceAdd,bL,dw,bM,cB,bq,br,bI,fE,F7,jj,Bool.not_true,Bool.not_false,lenS,fe,F8,Ga,Gb,uR,Gn,Ge,q9,Gc,Gd,F9,F6,gE,dT,cD,dy,fP,iD,ea,eG,cU,dz,q7,Gk,bD,bF,List.all_append,q6,ay,Nat.reduceLeDiff,Nat.zero_le,fB,cz,List.all_cons,List.all_nil,Bool.and_self,Bool.true_and,Bool.and_true,Ea,Gu,Gw,Gv,Gm,Gt,uc,sa,Gs,Gl,xL,decide_false,decide_true,Bool.false_or,Bool.true_or,Bool.or_false,Bool.or_true,Bool.false_eq_true,r22,Hh,aQ,ak,aD,am,dD,gI,nH,vV,GA,Gy,dq,bV,lH,xA,F2,Nat.zero_sub,Nat.sub_self,bz,eh,Ek,lI,F3,ro,bW,CV.int.injEq,aM ndE.len (by omega) h4,eR,ndC,hsetL,hks,hQ2]))
      |(revert hK;intro hK;(first|refine And.intro ?_ ?_|(refine fun(h:(_:Bool)=_)=>?_;subst h)|intro _|omega|(with_reducible refine hK _ ?_;clear hK K))))
      refine happ hk _ _ (fun i hi=>by simp[aq,Ne.symm hi]) fun vN' L' q1 q2 q3 q4=>?_
      refine hK _ ?_
      clear hK K
      repeat' (first
      |with_reducible (first|refine ai ?_|refine ar ?_|refine au rfl ?_|refine ax rfl ?_|refine Gp rfl (fun _=>?_) (fun _=>?_)|refine bc rfl ?_|refine bn rfl ?_|refine Gz rfl (fun _=>?_) (fun _=>?_)|refine b6 ?_|refine aN ?_|refine aF ?_|refine Js ?_|refine bx ?_|refine aj (id:=0) (fun Q0 hn0 hx0 hr0 ho0=>?_)|refine bl (id:=0) (fun Q0 hn0 hx0 hr0 ho0=>?_)|refine hn0 _ ?_|refine hx0 _ ?_|refine hr0 _ ?_|refine ho0 _ _ (by decide) ?_|refine aj (id:=1) (fun Q1 hn1 hx1 hr1 ho1=>?_)|refine bl (id:=1) (fun Q1 hn1 hx1 hr1 ho1=>?_)|refine hn1 _ ?_|refine hx1 _ ?_|refine hr1 _ ?_|refine ho1 _ _ (by decide) ?_|refine aj (id:=2) (fun Q2 hn2 hx2 hr2 ho2=>?_)|refine bl (id:=2) (fun Q2 hn2 hx2 hr2 ho2=>?_)|refine hn2 _ ?_|refine hx2 _ ?_|refine hr2 _ ?_|refine ho2 _ _ (by decide) ?_|refine aj (id:=3) (fun Q3 hn3 hx3 hr3 ho3=>?_)|refine bl (id:=3) (fun Q3 hn3 hx3 hr3 ho3=>?_)|refine hn3 _ ?_|refine hx3 _ ?_|refine hr3 _ ?_|refine ho3 _ _ (by decide) ?_|refine aj (id:=4) (fun Q4 hn4 hx4 hr4 ho4=>?_)|refine bl (id:=4) (fun Q4 hn4 hx4 hr4 ho4=>?_)|refine hn4 _ ?_|refine hx4 _ ?_|refine hr4 _ ?_|refine ho4 _ _ (by decide) ?_|refine aj (id:=5) (fun Q5 hn5 hx5 hr5 ho5=>?_)|refine bl (id:=5) (fun Q5 hn5 hx5 hr5 ho5=>?_)|refine hn5 _ ?_|refine hx5 _ ?_|refine hr5 _ ?_|refine ho5 _ _ (by decide) ?_|refine hxL0 _ _ ?_|refine hrL0 _ ?_|refine hxL1 _ _ ?_|refine hrL1 _ ?_|refine hxL2 _ _ ?_|refine hrL2 _ ?_)
      |(with_reducible (first|((first|refine ah (fun K hK=>?_)|refine aI (fun K hK=>?_));(first|refine GT ?_|refine GU ?_|refine GV ?_|refine GW ?_|refine GX ?_|refine GY ?_|refine GZ ?_|refine G0 ?_|refine G1 ?_|refine G2 ?_|refine GB ?_|refine GC ?_|refine GD ?_|refine GE ?_|refine GF ?_|refine GG ?_|refine GH ?_|refine GI ?_|refine GJ ?_|refine GK ?_|refine GL ?_|refine GM ?_|refine GN ?_|refine GO ?_|refine GP ?_))|refine hqr _ ?_|refine hqn _ ?_);(try simp only[SS,Nat.reduceEqDiff,ap,Gf,Gh,Gi,Gg,dj,ef,bv,nN,Gq,aR,eE,aS,Nat.reduceMul,Nat.reduceAdd,bL,dw,bM,cB,bq,br,bI,fE,F7,jj,Bool.not_true,Bool.not_false,lenS,fe,F8,Ga,Gb,uR,Gn,Ge,q9,Gc,Gd,F9,F6,gE,dT,cD,dy,fP,iD,ea,eG,cU,dz,q7,Gk,bD,bg,cd,bF,List.all_append,q6,ay,Nat.reduceLeDiff,Nat.zero_le,fB,cz,List.all_cons,List.all_nil,Bool.and_self,Bool.true_and,Bool.and_true,Ea,Gu,Gw,Gv,Gm,Gt,uc,sa,Gs,Gl,xL,decide_false,decide_true,Bool.false_or,Bool.true_or,Bool.or_false,Bool.or_true,Bool.false_eq_true,r22,Hh,aQ,ak,aD,am,dD,gI,nH,vV,GA,Gy,dq,bV,lH,xA,F2,Nat.zero_sub,Nat.sub_self,bz,eh,Ek,lI,F3,ro,bW,CV.int.injEq,hw2]))
      |(revert hK;intro hK;(first|refine And.intro ?_ ?_|(refine fun(h:(_:Bool)=_)=>?_;subst h)|intro _|omega|(with_reducible refine hK _ ?_;clear hK K))))
      exact hnext vN' L' q1 q2 q3 q4
     |false=>
      rw[hs] at hks
      have h6:¬ x.op=6:=fun h=>by simp[ee,h] at hs
      obtain⟨hx0,hx1⟩:=hidp x.id (List.mem_append_right _ (List.mem_map.2 ⟨x,List.mem_filter.2 ⟨by rw[h4];simp,by simp[h6]⟩,rfl⟩))
      have hnx:=Ip hfi hx0 hx1
      have hix:bd 1 (.ref (.l 336) gn 0 n) (.int .i64 x.id)=some (.ptr (.l 336) gn x.id.toNat):=by rw[bD,if_pos ⟨hx0,by omega⟩];simp
      cases hb:F5 f x.id with
      |true=>
       rw[hb] at hnx
       have hk:keepN x=true:=by rw[hkN];simp[hb]
       repeat' (first
       |with_reducible (first|refine ai ?_|refine ar ?_|refine au rfl ?_|refine ax rfl ?_|refine Gp rfl (fun _=>?_) (fun _=>?_)|refine bc rfl ?_|refine bn rfl ?_|refine Gz rfl (fun _=>?_) (fun _=>?_)|refine b6 ?_|refine aN ?_|refine aF ?_|refine Js ?_|refine bx ?_|refine aj (id:=0) (fun Q0 hn0 hx0 hr0 ho0=>?_)|refine bl (id:=0) (fun Q0 hn0 hx0 hr0 ho0=>?_)|refine hn0 _ ?_|refine hx0 _ ?_|refine hr0 _ ?_|refine ho0 _ _ (by decide) ?_|refine aj (id:=1) (fun Q1 hn1 hx1 hr1 ho1=>?_)|refine bl (id:=1) (fun Q1 hn1 hx1 hr1 ho1=>?_)|refine hn1 _ ?_|refine hx1 _ ?_|refine hr1 _ ?_|refine ho1 _ _ (by decide) ?_|refine aj (id:=2) (fun Q2 hn2 hx2 hr2 ho2=>?_)|refine bl (id:=2) (fun Q2 hn2 hx2 hr2 ho2=>?_)|refine hn2 _ ?_|refine hx2 _ ?_|refine hr2 _ ?_|refine ho2 _ _ (by decide) ?_|refine aj (id:=3) (fun Q3 hn3 hx3 hr3 ho3=>?_)|refine bl (id:=3) (fun Q3 hn3 hx3 hr3 ho3=>?_)|refine hn3 _ ?_|refine hx3 _ ?_|refine hr3 _ ?_|refine ho3 _ _ (by decide) ?_|refine aj (id:=4) (fun Q4 hn4 hx4 hr4 ho4=>?_)|refine bl (id:=4) (fun Q4 hn4 hx4 hr4 ho4=>?_)|refine hn4 _ ?_|refine hx4 _ ?_|refine hr4 _ ?_|refine ho4 _ _ (by decide) ?_|refine aj (id:=5) (fun Q5 hn5 hx5 hr5 ho5=>?_)|refine bl (id:=5) (fun Q5 hn5 hx5 hr5 ho5=>?_)|refine hn5 _ ?_|refine hx5 _ ?_|refine hr5 _ ?_|refine ho5 _ _ (by decide) ?_|refine hxL0 _ _ ?_|refine hrL0 _ ?_|refine hxL1 _ _ ?_|refine hrL1 _ ?_|refine hxL2 _ _ ?_|refine hrL2 _ ?_)
       |(with_reducible (first|((first|refine ah (fun K hK=>?_)|refine aI (fun K hK=>?_));(first|refine GT ?_|refine GU ?_|refine GV ?_|refine GW ?_|refine GX ?_|refine GY ?_|refine GZ ?_|refine G0 ?_|refine G1 ?_|refine G2 ?_|refine GB ?_|refine GC ?_|refine GD ?_|refine GE ?_|refine GF ?_|refine GG ?_|refine GH ?_|refine GI ?_|refine GJ ?_|refine GK ?_|refine GL ?_|refine GM ?_|refine GN ?_|refine GO ?_|refine GP ?_))|refine hqr _ ?_|refine hqn _ ?_);(try simp only[SS,Nat.reduceEqDiff,ap,Gf,Gh,Gi,Gg,dj,ef,bv,nN,Gq,aR,eE,aS,Nat.reduceMul,Nat.reduceAdd,bL,dw,bM,cB,bq,br,bI,fE,F7,jj,Bool.not_true,Bool.not_false,lenS,fe,F8,Ga,Gb,uR,Gn,Ge,q9,Gc,Gd,F9,F6,gE,dT,cD,dy,fP,iD,ea,eG,cU,dz,q7,Gk,bD,bF,List.all_append,q6,ay,Nat.reduceLeDiff,Nat.zero_le,fB,cz,List.all_cons,List.all_nil,Bool.and_self,Bool.true_and,Bool.and_true,Ea,Gu,Gw,Gv,Gm,Gt,uc,sa,Gs,Gl,xL,decide_false,decide_true,Bool.false_or,Bool.true_or,Bool.or_false,Bool.or_true,Bool.false_eq_true,r22,Hh,aQ,ak,aD,am,dD,gI,nH,vV,GA,Gy,dq,bV,lH,xA,F2,Nat.zero_sub,Nat.sub_self,bz,eh,Ek,lI,F3,ro,bW,CV.int.injEq,aM ndE.len (by omega) h4,eR,ndC,hsetL,hks,hix,h336,hnx,hQ2]))
       |(revert hK;intro hK;(first|refine And.intro ?_ ?_|(refine fun(h:(_:Bool)=_)=>?_;subst h)|intro _|omega|(with_reducible refine hK _ ?_;clear hK K))))
       refine happ hk _ _ (fun i hi=>by simp[aq,Ne.symm hi]) fun vN' L' q1 q2 q3 q4=>?_
       refine hK _ ?_
       clear hK K
       repeat' (first
       |with_reducible (first|refine ai ?_|refine ar ?_|refine au rfl ?_|refine ax rfl ?_|refine Gp rfl (fun _=>?_) (fun _=>?_)|refine bc rfl ?_|refine bn rfl ?_|refine Gz rfl (fun _=>?_) (fun _=>?_)|refine b6 ?_|refine aN ?_|refine aF ?_|refine Js ?_|refine bx ?_|refine aj (id:=0) (fun Q0 hn0 hx0 hr0 ho0=>?_)|refine bl (id:=0) (fun Q0 hn0 hx0 hr0 ho0=>?_)|refine hn0 _ ?_|refine hx0 _ ?_|refine hr0 _ ?_|refine ho0 _ _ (by decide) ?_|refine aj (id:=1) (fun Q1 hn1 hx1 hr1 ho1=>?_)|refine bl (id:=1) (fun Q1 hn1 hx1 hr1 ho1=>?_)|refine hn1 _ ?_|refine hx1 _ ?_|refine hr1 _ ?_|refine ho1 _ _ (by decide) ?_|refine aj (id:=2) (fun Q2 hn2 hx2 hr2 ho2=>?_)|refine bl (id:=2) (fun Q2 hn2 hx2 hr2 ho2=>?_)|refine hn2 _ ?_|refine hx2 _ ?_|refine hr2 _ ?_|refine ho2 _ _ (by decide) ?_|refine aj (id:=3) (fun Q3 hn3 hx3 hr3 ho3=>?_)|refine bl (id:=3) (fun Q3 hn3 hx3 hr3 ho3=>?_)|refine hn3 _ ?_|refine hx3 _ ?_|refine hr3 _ ?_|refine ho3 _ _ (by decide) ?_|refine aj (id:=4) (fun Q4 hn4 hx4 hr4 ho4=>?_)|refine bl (id:=4) (fun Q4 hn4 hx4 hr4 ho4=>?_)|refine hn4 _ ?_|refine hx4 _ ?_|refine hr4 _ ?_|refine ho4 _ _ (by decide) ?_|refine aj (id:=5) (fun Q5 hn5 hx5 hr5 ho5=>?_)|refine bl (id:=5) (fun Q5 hn5 hx5 hr5 ho5=>?_)|refine hn5 _ ?_|refine hx5 _ ?_|refine hr5 _ ?_|refine ho5 _ _ (by decide) ?_|refine hxL0 _ _ ?_|refine hrL0 _ ?_|refine hxL1 _ _ ?_|refine hrL1 _ ?_|refine hxL2 _ _ ?_|refine hrL2 _ ?_)
       |(with_reducible (first|((first|refine ah (fun K hK=>?_)|refine aI (fun K hK=>?_));(first|refine GT ?_|refine GU ?_|refine GV ?_|refine GW ?_|refine GX ?_|refine GY ?_|refine GZ ?_|refine G0 ?_|refine G1 ?_|refine G2 ?_|refine GB ?_|refine GC ?_|refine GD ?_|refine GE ?_|refine GF ?_|refine GG ?_|refine GH ?_|refine GI ?_|refine GJ ?_|refine GK ?_|refine GL ?_|refine GM ?_|refine GN ?_|refine GO ?_|refine GP ?_))|refine hqr _ ?_|refine hqn _ ?_);(try simp only[SS,Nat.reduceEqDiff,ap,Gf,Gh,Gi,Gg,dj,ef,bv,nN,Gq,aR,eE,aS,Nat.reduceMul,Nat.reduceAdd,bL,dw,bM,cB,bq,br,bI,fE,F7,jj,Bool.not_true,Bool.not_false,lenS,fe,F8,Ga,Gb,uR,Gn,Ge,q9,Gc,Gd,F9,F6,gE,dT,cD,dy,fP,iD,ea,eG,cU,dz,q7,Gk,bD,bg,cd,bF,List.all_append,q6,ay,Nat.reduceLeDiff,Nat.zero_le,fB,cz,List.all_cons,List.all_nil,Bool.and_self,Bool.true_and,Bool.and_true,Ea,Gu,Gw,Gv,Gm,Gt,uc,sa,Gs,Gl,xL,decide_false,decide_true,Bool.false_or,Bool.true_or,Bool.or_false,Bool.or_true,Bool.false_eq_true,r22,Hh,aQ,ak,aD,am,dD,gI,nH,vV,GA,Gy,dq,bV,lH,xA,F2,Nat.zero_sub,Nat.sub_self,bz,eh,Ek,lI,F3,ro,bW,CV.int.injEq,hw2]))
       |(revert hK;intro hK;(first|refine And.intro ?_ ?_|(refine fun(h:(_:Bool)=_)=>?_;subst h)|intro _|omega|(with_reducible refine hK _ ?_;clear hK K))))
       exact hnext vN' L' q1 q2 q3 q4
      |false=>
       rw[hb] at hnx
       have hk:keepN x=false:=by rw[hkN];simp[hs,hb]
       repeat' (first
       |with_reducible (first|refine ai ?_|refine ar ?_|refine au rfl ?_|refine ax rfl ?_|refine Gp rfl (fun _=>?_) (fun _=>?_)|refine bc rfl ?_|refine bn rfl ?_|refine Gz rfl (fun _=>?_) (fun _=>?_)|refine b6 ?_|refine aN ?_|refine aF ?_|refine Js ?_|refine bx ?_|refine aj (id:=0) (fun Q0 hn0 hx0 hr0 ho0=>?_)|refine bl (id:=0) (fun Q0 hn0 hx0 hr0 ho0=>?_)|refine hn0 _ ?_|refine hx0 _ ?_|refine hr0 _ ?_|refine ho0 _ _ (by decide) ?_|refine aj (id:=1) (fun Q1 hn1 hx1 hr1 ho1=>?_)|refine bl (id:=1) (fun Q1 hn1 hx1 hr1 ho1=>?_)|refine hn1 _ ?_|refine hx1 _ ?_|refine hr1 _ ?_|refine ho1 _ _ (by decide) ?_|refine aj (id:=2) (fun Q2 hn2 hx2 hr2 ho2=>?_)|refine bl (id:=2) (fun Q2 hn2 hx2 hr2 ho2=>?_)|refine hn2 _ ?_|refine hx2 _ ?_|refine hr2 _ ?_|refine ho2 _ _ (by decide) ?_|refine aj (id:=3) (fun Q3 hn3 hx3 hr3 ho3=>?_)|refine bl (id:=3) (fun Q3 hn3 hx3 hr3 ho3=>?_)|refine hn3 _ ?_|refine hx3 _ ?_|refine hr3 _ ?_|refine ho3 _ _ (by decide) ?_|refine aj (id:=4) (fun Q4 hn4 hx4 hr4 ho4=>?_)|refine bl (id:=4) (fun Q4 hn4 hx4 hr4 ho4=>?_)|refine hn4 _ ?_|refine hx4 _ ?_|refine hr4 _ ?_|refine ho4 _ _ (by decide) ?_|refine aj (id:=5) (fun Q5 hn5 hx5 hr5 ho5=>?_)|refine bl (id:=5) (fun Q5 hn5 hx5 hr5 ho5=>?_)|refine hn5 _ ?_|refine hx5 _ ?_|refine hr5 _ ?_|refine ho5 _ _ (by decide) ?_|refine hxL0 _ _ ?_|refine hrL0 _ ?_|refine hxL1 _ _ ?_|refine hrL1 _ ?_|refine hxL2 _ _ ?_|refine hrL2 _ ?_)
       |(with_reducible (first|((first|refine ah (fun K hK=>?_)|refine aI (fun K hK=>?_));(first|refine GT ?_|refine GU ?_|refine GV ?_|refine GW ?_|refine GX ?_|refine GY ?_|refine GZ ?_|refine G0 ?_|refine G1 ?_|refine G2 ?_|refine GB ?_|refine GC ?_|refine GD ?_|refine GE ?_|refine GF ?_|refine GG ?_|refine GH ?_|refine GI ?_|refine GJ ?_|refine GK ?_|refine GL ?_|refine GM ?_|refine GN ?_|refine GO ?_|refine GP ?_))|refine hqr _ ?_|refine hqn _ ?_);(try simp only[SS,Nat.reduceEqDiff,ap,Gf,Gh,Gi,Gg,dj,ef,bv,nN,Gq,aR,eE,aS,Nat.reduceMul,Nat.reduceAdd,bL,dw,bM,cB,bq,br,bI,fE,F7,jj,Bool.not_true,Bool.not_false,lenS,fe,F8,Ga,Gb,uR,Gn,Ge,q9,Gc,Gd,F9,F6,gE,dT,cD,dy,fP,iD,ea,eG,cU,dz,q7,Gk,bD,bg,cd,bF,List.all_append,q6,ay,Nat.reduceLeDiff,Nat.zero_le,fB,cz,List.all_cons,List.all_nil,Bool.and_self,Bool.true_and,Bool.and_true,Ea,Gu,Gw,Gv,Gm,Gt,uc,sa,Gs,Gl,xL,decide_false,decide_true,Bool.false_or,Bool.true_or,Bool.or_false,Bool.or_true,Bool.false_eq_true,r22,Hh,aQ,ak,aD,am,dD,gI,nH,vV,GA,Gy,dq,bV,lH,xA,F2,Nat.zero_sub,Nat.sub_self,bz,eh,Ek,lI,F3,ro,bW,CV.int.injEq,aM ndE.len (by omega) h4,eR,ndC,hsetL,hks,hix,h336,hnx,hw2]))
       |(revert hK;intro hK;(first|refine And.intro ?_ ?_|(refine fun(h:(_:Bool)=_)=>?_;subst h)|intro _|omega|(with_reducible refine hK _ ?_;clear hK K))))
       refine hnext vN _ (hBk hB2 (by rintro i (rfl|rfl|rfl|rfl)<;>simp[aq])) (by simp[aq,hQ2]) (hP2.keep (by simp[aq])) ?_
       rw[List.filter_append]
       simp only[List.filter_cons,hk,Bool.false_eq_true,if_false,List.filter_nil,List.append_nil]
       exact hO2.keep (by simp[aq])
    |nil=>
     simp only[List.length_nil] at hlen2
     rw[List.append_nil] at h4
     rw[←h4] at hO2
     obtain⟨b1,b2,b3,b4⟩:aK L2 32=some (.var g2 [.nil,.int .i64 0] 0)∧aK L2 336=some (.arr gn 1 ((G6 f).flatMap bS) 0)∧aK L2 96=some (.var g6 [vG,.int .i64 f.values] 0)∧OwnE ptR 10 ⟨L2,[]⟩ 1328 vG (d.map (Gj f)):=by rw[hBd] at hB2;exact hB2
     repeat' (first
     |with_reducible (first|refine ai ?_|refine ar ?_|refine au rfl ?_|refine ax rfl ?_|refine Gp rfl (fun _=>?_) (fun _=>?_)|refine bc rfl ?_|refine bn rfl ?_|refine Gz rfl (fun _=>?_) (fun _=>?_)|refine b6 ?_|refine aN ?_|refine aF ?_|refine Js ?_|refine bx ?_|refine aj (id:=0) (fun Q0 hn0 hx0 hr0 ho0=>?_)|refine bl (id:=0) (fun Q0 hn0 hx0 hr0 ho0=>?_)|refine hn0 _ ?_|refine hx0 _ ?_|refine hr0 _ ?_|refine ho0 _ _ (by decide) ?_|refine aj (id:=1) (fun Q1 hn1 hx1 hr1 ho1=>?_)|refine bl (id:=1) (fun Q1 hn1 hx1 hr1 ho1=>?_)|refine hn1 _ ?_|refine hx1 _ ?_|refine hr1 _ ?_|refine ho1 _ _ (by decide) ?_|refine aj (id:=2) (fun Q2 hn2 hx2 hr2 ho2=>?_)|refine bl (id:=2) (fun Q2 hn2 hx2 hr2 ho2=>?_)|refine hn2 _ ?_|refine hx2 _ ?_|refine hr2 _ ?_|refine ho2 _ _ (by decide) ?_|refine aj (id:=3) (fun Q3 hn3 hx3 hr3 ho3=>?_)|refine bl (id:=3) (fun Q3 hn3 hx3 hr3 ho3=>?_)|refine hn3 _ ?_|refine hx3 _ ?_|refine hr3 _ ?_|refine ho3 _ _ (by decide) ?_|refine aj (id:=4) (fun Q4 hn4 hx4 hr4 ho4=>?_)|refine bl (id:=4) (fun Q4 hn4 hx4 hr4 ho4=>?_)|refine hn4 _ ?_|refine hx4 _ ?_|refine hr4 _ ?_|refine ho4 _ _ (by decide) ?_|refine aj (id:=5) (fun Q5 hn5 hx5 hr5 ho5=>?_)|refine bl (id:=5) (fun Q5 hn5 hx5 hr5 ho5=>?_)|refine hn5 _ ?_|refine hx5 _ ?_|refine hr5 _ ?_|refine ho5 _ _ (by decide) ?_|refine hxL0 _ _ ?_|refine hrL0 _ ?_|refine hxL1 _ _ ?_|refine hrL1 _ ?_|refine hxL2 _ _ ?_|refine hrL2 _ ?_)
     |(with_reducible (first|((first|refine ah (fun K hK=>?_)|refine aI (fun K hK=>?_));(first|refine GT ?_|refine GU ?_|refine GV ?_|refine GW ?_|refine GX ?_|refine GY ?_|refine GZ ?_|refine G0 ?_|refine G1 ?_|refine G2 ?_|refine GB ?_|refine GC ?_|refine GD ?_|refine GE ?_|refine GF ?_|refine GG ?_|refine GH ?_|refine GI ?_|refine GJ ?_|refine GK ?_|refine GL ?_|refine GM ?_|refine GN ?_|refine GO ?_|refine GP ?_))|refine hqr _ ?_|refine hqn _ ?_);(try simp only[SS,Nat.reduceEqDiff,ap,Gf,Gh,Gi,Gg,dj,ef,bv,nN,Gq,aR,eE,aS,Nat.reduceMul,Nat.reduceAdd,bL,dw,bM,cB,bq,br,bI,fE,F7,jj,Bool.not_true,Bool.not_false,lenS,fe,F8,Ga,Gb,uR,Gn,Ge,q9,Gc,Gd,F9,F6,gE,dT,cD,dy,fP,iD,ea,eG,cU,dz,q7,Gk,bD,bF,List.all_append,q6,ay,Nat.reduceLeDiff,Nat.zero_le,fB,cz,List.all_cons,List.all_nil,Bool.and_self,Bool.true_and,Bool.and_true,Ea,Gu,Gw,Gv,Gm,Gt,uc,sa,Gs,Gl,xL,decide_false,decide_true,Bool.false_or,Bool.true_or,Bool.or_false,Bool.or_true,Bool.false_eq_true,r22,Hh,aQ,ak,aD,am,dD,gI,nH,vV,GA,Gy,dq,bV,lH,xA,F2,Nat.zero_sub,Nat.sub_self,bz,eh,Ek,lI,F3,ro,bW,CV.int.injEq,b3,hQ2]))
     |(revert hK;intro hK;(first|refine And.intro ?_ ?_|(refine fun(h:(_:Bool)=_)=>?_;subst h)|intro _|omega|(with_reducible refine hK _ ?_;clear hK K))))
     obtain⟨m1,e1,e2,e3,_⟩:=hP2.seen.esc1 phE.len
     have hN1:OwnE ndC 12 m1 1216 vN (p.nodes.filter keepN):=hO2.keep (by rw[e3 1216 (by decide)])
     obtain⟨m2,f1,f2,f3,_⟩:=hN1.seen.esc1 ndE.len
     have hfil:bg [.nil,.nil,.nil,.int .i64 0,.int .i64 0,.bool false,.int .i64 0,.int .i64 0,.int .i64 0,.int .i64 0] [(0,10,.agg [sl aX p.pred,vP,vN,.int .i64 p.fin.op,.int .i64 p.fin.cond,.bool p.fin.wide,.int .i64 p.fin.a,.int .i64 p.fin.b,.int .i64 p.fin.to,.int .i64 p.fin.els])]=some [sl aX p.pred,vP,vN,.int .i64 p.fin.op,.int .i64 p.fin.cond,.bool p.fin.wide,.int .i64 p.fin.a,.int .i64 p.fin.b,.int .i64 p.fin.to,.int .i64 p.fin.els]:=rfl
     have hesc:bp ⟨L2,[]⟩ [sl aX p.pred,vP,vN,.int .i64 p.fin.op,.int .i64 p.fin.cond,.bool p.fin.wide,.int .i64 p.fin.a,.int .i64 p.fin.b,.int .i64 p.fin.to,.int .i64 p.fin.els]=some (ptR (Gj f p),m2):=by
      have hpost:bp m2 [.int .i64 p.fin.op,.int .i64 p.fin.cond,.bool p.fin.wide,.int .i64 p.fin.a,.int .i64 p.fin.b,.int .i64 p.fin.to,.int .i64 p.fin.els]=some ([.int .i64 p.fin.op,.int .i64 p.fin.cond,.bool p.fin.wide,.int .i64 p.fin.a,.int .i64 p.fin.b,.int .i64 p.fin.to,.int .i64 p.fin.els],m2):=cn rfl
      have:=G7 (esc_Q (m:=⟨L2,[]⟩) (a:=sl aX p.pred) Im) (G7 e1 (G7 f1 hpost))
      rw[hkN] at this
      exact this
     rw[Ia hfil hesc,aJ]
     have hfr:∀ i,i≠848→i≠1216→aK m2.L i=aK L2 i:=fun i n1 n2=>by rw[f3 i n2,e3 i n1]
     refine OwnE.app (l:=d.map (Gj f)) (ys:=[Gj f p]) ?_ Iq (by simp only[cU,ba,if_true,dz];rfl) rfl (by decide) (by simp only[List.length_singleton,List.length_map];omega) fun v' m' r1 r2 r3=>?_
     ·exact b4.keep (by simp[bi,aq,hfr])
     obtain⟨L',H'⟩:=m'
     simp only[ik,f2,e2] at r2
     subst r2
     rcases r1 with⟨h,_⟩|⟨hne,gv,rfl,hr1⟩
     ·simp at h
     have hk0:∀ i,i≠1328→i≠1312→i≠848→i≠1216→aK L' i=aK L2 i:=fun i n1 n2 n3 n4=>by
      have:=r3 i n1
      simp only at this
      rw[this];simp[bi,aq,Ne.symm n2,hfr i n3 n4]
     have h96:aK L' 96=some (.var g6 [vG,.int .i64 f.values] 0):=by rw[hk0 96 (by decide) (by decide) (by decide) (by decide)];exact b3
     simp only[h96,lj,List.length_singleton,List.length_cons,List.length_nil]
     rw[if_pos ⟨trivial,by decide,by decide⟩,aJ]
     refine hK _ ?_
     clear hK K
     repeat' (first
     |with_reducible (first|refine ai ?_|refine ar ?_|refine au rfl ?_|refine ax rfl ?_|refine Gp rfl (fun _=>?_) (fun _=>?_)|refine bc rfl ?_|refine bn rfl ?_|refine Gz rfl (fun _=>?_) (fun _=>?_)|refine b6 ?_|refine aN ?_|refine aF ?_|refine Js ?_|refine bx ?_|refine aj (id:=0) (fun Q0 hn0 hx0 hr0 ho0=>?_)|refine bl (id:=0) (fun Q0 hn0 hx0 hr0 ho0=>?_)|refine hn0 _ ?_|refine hx0 _ ?_|refine hr0 _ ?_|refine ho0 _ _ (by decide) ?_|refine aj (id:=1) (fun Q1 hn1 hx1 hr1 ho1=>?_)|refine bl (id:=1) (fun Q1 hn1 hx1 hr1 ho1=>?_)|refine hn1 _ ?_|refine hx1 _ ?_|refine hr1 _ ?_|refine ho1 _ _ (by decide) ?_|refine aj (id:=2) (fun Q2 hn2 hx2 hr2 ho2=>?_)|refine bl (id:=2) (fun Q2 hn2 hx2 hr2 ho2=>?_)|refine hn2 _ ?_|refine hx2 _ ?_|refine hr2 _ ?_|refine ho2 _ _ (by decide) ?_|refine aj (id:=3) (fun Q3 hn3 hx3 hr3 ho3=>?_)|refine bl (id:=3) (fun Q3 hn3 hx3 hr3 ho3=>?_)|refine hn3 _ ?_|refine hx3 _ ?_|refine hr3 _ ?_|refine ho3 _ _ (by decide) ?_|refine aj (id:=4) (fun Q4 hn4 hx4 hr4 ho4=>?_)|refine bl (id:=4) (fun Q4 hn4 hx4 hr4 ho4=>?_)|refine hn4 _ ?_|refine hx4 _ ?_|refine hr4 _ ?_|refine ho4 _ _ (by decide) ?_|refine aj (id:=5) (fun Q5 hn5 hx5 hr5 ho5=>?_)|refine bl (id:=5) (fun Q5 hn5 hx5 hr5 ho5=>?_)|refine hn5 _ ?_|refine hx5 _ ?_|refine hr5 _ ?_|refine ho5 _ _ (by decide) ?_|refine hxL0 _ _ ?_|refine hrL0 _ ?_|refine hxL1 _ _ ?_|refine hrL1 _ ?_|refine hxL2 _ _ ?_|refine hrL2 _ ?_)
     |(with_reducible (first|((first|refine ah (fun K hK=>?_)|refine aI (fun K hK=>?_));(first|refine GT ?_|refine GU ?_|refine GV ?_|refine GW ?_|refine GX ?_|refine GY ?_|refine GZ ?_|refine G0 ?_|refine G1 ?_|refine G2 ?_|refine GB ?_|refine GC ?_|refine GD ?_|refine GE ?_|refine GF ?_|refine GG ?_|refine GH ?_|refine GI ?_|refine GJ ?_|refine GK ?_|refine GL ?_|refine GM ?_|refine GN ?_|refine GO ?_|refine GP ?_))|refine hqr _ ?_|refine hqn _ ?_);(try simp only[SS,Nat.reduceEqDiff,ap,Gf,Gh,Gi,Gg,dj,ef,bv,nN,Gq,aR,eE,aS,Nat.reduceMul,Nat.reduceAdd,bL,dw,bM,cB,bq,br,bI,fE,F7,jj,Bool.not_true,Bool.not_false,lenS,fe,F8,Ga,Gb,uR,Gn,Ge,q9,Gc,Gd,F9,F6,gE,dT,cD,dy,fP,iD,ea,eG,cU,dz,q7,Gk,bD,bg,cd,bF,List.all_append,q6,ay,Nat.reduceLeDiff,Nat.zero_le,fB,cz,List.all_cons,List.all_nil,Bool.and_self,Bool.true_and,Bool.and_true,Ea,Gu,Gw,Gv,Gm,Gt,uc,sa,Gs,Gl,xL,decide_false,decide_true,Bool.false_or,Bool.true_or,Bool.or_false,Bool.or_true,Bool.false_eq_true,r22,Hh,aQ,ak,aD,am,dD,gI,nH,vV,GA,Gy,dq,bV,lH,xA,F2,Nat.zero_sub,Nat.sub_self,bz,eh,Ek,lI,F3,ro,bW,CV.int.injEq,hwd,hsetL]))
     |(revert hK;intro hK;(first|refine And.intro ?_ ?_|(refine fun(h:(_:Bool)=_)=>?_;subst h)|intro _|omega|(with_reducible refine hK _ ?_;clear hK K))))
     rw[show((d.length:Int)+1)=((d++[p]).length:Int) by simp]
     refine hnL2 t.length _ (by simp) ⟨d++[p],t,.ref (.l 1328) gv 0 (d.map (Gj f)++[Gj f p]).length,_,by simp[h2],rfl,⟨?_,?_,?_,?_⟩,rfl⟩
     ·rw[aq,if_neg (by decide),hk0 32 (by decide) (by decide) (by decide) (by decide)];exact b1
     ·rw[aq,if_neg (by decide),hk0 336 (by decide) (by decide) (by decide) (by decide)];exact b2
     ·rw[aq,if_pos rfl]
     ·rw[List.map_append]
      exact .inr ⟨hne,gv,rfl,by rw[aq,if_neg (by decide)];exact hr1⟩
end Go.Cm
