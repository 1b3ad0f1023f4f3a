import Derived.Test.YtjhndbgokapikaaFoX
import Derived.Test.YtjhndbgokapikaaFoK
import Derived.Test.YtjhndbgokapikaaCxH
set_option linter.unusedSimpArgs false
set_option linter.unusedVariables false
namespace Go.Cm
open Go.Proofs Go.Fl
theorem RdI.old {H H':List HO}{v:CV}{l:List Int}(h:RdI H v l) (ho:∀i,i<H.length→H'[i]?=H[i]?):RdI H' v l:=by
 rcases h with h|h|⟨n,gn,vl,h1,h2⟩
 ·exact .inl h
 ·exact .inr (.inl h)
 ·exact .inr (.inr ⟨n,gn,vl,h1,by rw[ho n (List.getElem?_eq_some_iff.1 h2).1,h2]⟩)
theorem Blks.old {H H':List HO}{v:CV}{l:List BkS}(h:Blks H v l) (ho:∀i,i<H.length→H'[i]?=H[i]?):Blks H' v l:=by
 rcases h with h|⟨n,gn,h1,h2⟩
 ·exact .inl h
 ·exact .inr ⟨n,gn,h1,by rw[ho n (List.getElem?_eq_some_iff.1 h2).1,h2]⟩
theorem FB.old {p:List In}{H H':List HO}{v:CV}{l:List BkS}(h:FB p H v l) (ho:∀i,i<H.length→H'[i]?=H[i]?):FB p H' v l:=
 ⟨h.blks.old ho,h.hd,λj x c hx=>(h.row j x c hx).old ho,h.esc⟩
theorem x9_nil (H:List HO):FF 9 [.nil,.nil] H=some (.bool true,H):=by
 refine aL rfl Try.func9 s9 (Nat.le_of_ble_eq_true rfl) (λQ hqr hqn=>?_);rw[show ∀a,cin (An.pure 9) a=a from λ_=>rfl];simp only[aO,Nat.reduceAdd,c9]
 repeat' (first
 |with_reducible (first|refine ai ?_|refine ar ?_|refine ax rfl ?_|refine aj (id:=0) (λQ0 hn0 hx0 hr0 ho0=>?_))
 |(with_reducible (refine ah (λK hK=>?_);(first|refine t9r0 ?_|refine t9r1 ?_|refine t9r3 ?_));(try simp only[true_implies,false_implies,not_true_eq_false,b9,if_true,if_false,Nat.reduceEqDiff,aJ,dg,br,Option.map_some,lenS,Gk,and_true,if_false,if_true,Gk,ne_eq,eq_self]))
 |(revert hK;intro hK;(with_reducible refine hK _ ?_;clear hK K)))
 refine aU (λk s=>k=0∧s=⟨[(0,.nil),(1,.nil),(5,.int .i64 0)],⟨[],H⟩⟩) _ ⟨rfl,rfl⟩ ?_;rintro k s ⟨rfl,rfl⟩ QL0 hnL0 hxL0 hrL0;have hge:¬(((0:Nat):Int)<((0:Nat):Int)):=by omega
 have hge':¬((0:Int)<((0:Nat):Int)):=by omega
 simp only[c9l0]
 repeat' (first
 |with_reducible (first|refine ai ?_|refine ax rfl ?_|refine aN ?_|refine aF ?_|refine hx0 _ ?_|refine hxL0 _ _ ?_)
 |(with_reducible (first|(refine ah (λK hK=>?_);(first|refine t9r4 ?_|refine t9r8 ?_))|refine hqr _ ?_);(try simp only[true_implies,false_implies,not_false_eq_true,b9,if_true,if_false,Nat.reduceEqDiff,aJ,dg,eN,Option.map_some,lenS,Gk,true_and,if_false,if_true,r9,aQ,ak,aD,Option.bind_some,am,jx,aV,Gk,hge,hge',Int.natCast_zero,Int.lt_irrefl]))
 |(revert hK;intro hK;(with_reducible refine hK _ ?_;clear hK K)))
set_option maxHeartbeats 8000000 in
theorem x9 {p:List In}(h0:gW p=0) (H:List HO) (v w:CV) (la lb:List BkS) (ha:FB p H v la) (hb:FB p H w lb):FF 9 [v,w] H=some (.bool true,H):=by
 obtain⟨_,hll⟩:=nc h0;refine aL rfl Try.func9 s9 (Nat.le_of_ble_eq_true rfl) (λQ hqr hqn=>?_);rw[show ∀a,cin (An.pure 9) a=a from λ_=>rfl];simp only[aO,Nat.reduceAdd,c9]
 repeat' (first
 |with_reducible (first|refine ai ?_|refine ar ?_|refine ax rfl ?_|refine aj (id:=0) (λQ0 hn0 hx0 hr0 ho0=>?_))
 |(with_reducible (refine ah (λK hK=>?_);(first|refine t9r0 ?_|refine t9r1 ?_|refine t9r3 ?_));(try simp only[true_implies,false_implies,not_true_eq_false,b9,if_true,if_false,Nat.reduceEqDiff,aJ,dg,br,Option.map_some,lenS,and_true,if_false,if_true,ha.clen,hb.clen,ne_eq,eq_self]))
 |(revert hK;intro hK;(with_reducible refine hK _ ?_;clear hK K)))
 refine aU (λm s=>∃k:Nat,k≤(cj (gP p)).length∧m=(cj (gP p)).length - k∧s=⟨[(0,v),(1,w),(5,.int .i64 k)],⟨[],H⟩⟩) _ ⟨0,Nat.zero_le _,rfl,rfl⟩ ?_;rintro m s ⟨k,hk,rfl,rfl⟩ QL0 hnL0 hxL0 hrL0;simp only[c9l0]
 by_cases hkN:k<(cj (gP p)).length
 ·have hlt':(k:Int)<(cj (gP p)).length:=by omega
  have hw':IntKind.i64.wrap ((k:Int)+1)=k+1:=wI (by omega) (by omega);have ek:((k:Int)+1)=((k+1:Nat):Int):=by omega
  obtain⟨a,hka⟩:∃a,(cj (gP p))[k]?=some a:=⟨_,List.getElem?_eq_getElem hkN⟩;obtain⟨n,gn,sv,pv,hix,l0,l1,l2,l3,l4,hsv,hpv⟩:=ha.at hka;obtain⟨n',gn',sv',pv',hix',l0',l1',l2',l3',l4',hsv',hpv'⟩:=hb.at hka;have hdl:=Mp (p:=p) (a:=a);have hpl:=Kp (g:=gP p) (t:=(k:Int)) (l:=cj (gP p)) (k:=0);have kI:∀t L,cd An FF 9 (some t) 10 [sv,sv'] ⟨L,H⟩=some (.bool true,⟨L,H⟩):=λt L=>k10 hsv hsv' (by omega);have kI2:∀t L,cd An FF 9 (some t) 10 [pv,pv'] ⟨L,H⟩=some (.bool true,⟨L,H⟩):=λt L=>k10 hpv hpv' (by omega)
  repeat' (first
  |with_reducible (first|refine ai ?_|refine ar ?_|refine au rfl ?_|refine d7 rfl ?_|refine bx ?_|refine aj (id:=1) (λQ1 hn1 hx1 hr1 ho1=>?_)|refine hn1 _ ?_)
  |(with_reducible ((first|refine ah (λK hK=>?_)|refine aI (λK hK=>?_));(first|refine t9r4 ?_|refine t9r6 ?_|refine t9r5 ?_));(try simp only[true_implies,false_implies,not_true_eq_false,b9,if_true,if_false,Nat.reduceEqDiff,aJ,dg,cb,eN,br,fc,qz,qy,Option.map_some,ic,gf,Bool.not_true,lenS,dU,cK,and_true,if_false,if_true,ha.clen,hlt',hix,hix',l0,l1,l2,l3,l4,l0',l1',l2',l3',l4',Nat.add_zero,ne_eq,eq_self,kI,kI2,hw']))
  |(revert hK;intro hK;(with_reducible refine hK _ ?_;clear hK K)))
  rw[ek];exact hnL0 ((cj (gP p)).length - (k+1)) _ (by omega) ⟨k+1,by omega,rfl,rfl⟩
 ·have hge:¬((k:Int)<(cj (gP p)).length):=by omega
  repeat' (first
  |with_reducible (first|refine ai ?_|refine ax rfl ?_|refine aN ?_|refine aF ?_|refine hx0 _ ?_|refine hxL0 _ _ ?_)
  |(with_reducible (first|(refine ah (λK hK=>?_);(first|refine t9r4 ?_|refine t9r8 ?_))|refine hqr _ ?_);(try simp only[true_implies,false_implies,not_false_eq_true,b9,if_true,if_false,Nat.reduceEqDiff,aJ,dg,eN,Option.map_some,lenS,true_and,if_false,if_true,r9,aQ,ak,aD,Option.bind_some,am,jx,aV,ha.clen,hge]))
  |(revert hK;intro hK;(with_reducible refine hK _ ?_;clear hK K)))
theorem kIO {m:Mem}{ja jb:Nat}{va vb:CV}{l:List Int}(ha:OwnE aX 1 m ja va l) (hb:OwnE aX 1 m jb vb l) (hj:ja≠jb) (hl:l.length≤4294967296) {fid:FuncId}:∃m2,m2.H=m.H∧∀t:Tmp,cd An FF fid (some t) 10 [va,vb] m=some (.bool true,m2):=by
 obtain⟨m1,e1,e2,e3,_⟩:=ha.seen.esc1 dB;obtain⟨m2,e4,e5,_,_⟩:=(hb.seen.keep (m':=m1) (e3 jb hj.symm)).esc1 dB
 refine⟨m2,e5.trans e2,λt=>?_⟩
 rw[m9 rfl (xs:=[MU aX l,MU aX l]) (m1:=m2) (by simp only[bp,am,e1,e4,Option.bind_some,Option.map_some]) (x10 m2.H _ _ l xM xM hl),eY]
theorem Nr {p:List In}:(hC p).length≤4096:=by
 by_cases h0:gW p=0
 ·rw[hC,if_pos h0,d8];exact(nc h0).1
 ·rw[hC,if_neg h0];exact Nat.zero_le _
set_option maxHeartbeats 8000000 in
theorem x3_of {p:List In}{i:Int}(hp:p.length≤9223372036854775807) (hwid:∀x∈p,Inw x) {va vb:CV}{H1 H2:List HO}{e:Int}{lb:List BkS}
  (k7:∀(t:Tmp) L,cd An FF 3 (some t) 7 [sl inC p] ⟨L,[]⟩=some (.tuple [va,.int .i64 e],⟨L,H1⟩))
  (k8:∀(t:Tmp) L,cd An FF 3 (some t) 8 [sl inC p] ⟨L,H1⟩=some (.tuple [vb,.int .i64 e],⟨L,H2⟩))
  (k9:∀(t:Tmp) L,cd An FF 3 (some t) 9 [va,vb] ⟨L,H2⟩=some (.bool true,⟨L,H2⟩))
  (hb:Blks H2 vb lb) (he:∀x∈lb,Esc x) (hl:lb.length≤1000000):∃r,(∃H',r=(CV.bool true,H'))∧FF 3 [sl inC p,.int .i64 i] []=some r:=by
 have hri:=Nr (p:=p);have kF:∀t L,cd An FF 3 (some t) 13 [vb,.int .i64 i] ⟨L,H2⟩=some (.int .i64 (ns i lb),⟨L,H2++[.var 1 [.int .i64 i] 0]⟩):=λt L=>k13 hb he (by omega);have kF2:∀t L,cd An FF 3 (some t) 14 [vb,.int .i64 i] ⟨L,H2++[.var 1 [.int .i64 i] 0]⟩=some (.int .i64 (ns i lb),⟨L,H2++[.var 1 [.int .i64 i] 0]⟩):=λt L=>k14 hb.app (by omega);refine bA rfl Try.func3 s3 (Nat.le_of_ble_eq_true rfl) (λQ hqr hqn=>?_);rw[bf (show An.pure 3=true from rfl) (by simp only[cans,aG,az,aC,aH,inE.can_sl])];simp only[aO,Nat.reduceAdd,c3]
 repeat' (first
 |(with_reducible (refine ah (λK hK=>?_);(first|refine t3r0 ?_|refine t3r1 ?_|refine t3r2 ?_|refine t3r3 ?_));(try simp only[true_implies,false_implies,not_true_eq_false,b9,if_true,if_false,Nat.reduceEqDiff,aJ,dg,List.getElem?_cons_zero,List.getElem?_cons_succ,gT,nL,lw,ic,gf,dU,dT,and_true,if_false,if_true,k7,k8,k9,eq_self]))
 |(revert hK;intro hK;(with_reducible refine hK _ ?_;clear hK K)))
 refine k11 (by omega) rfl λv1 m1 hO1 hH1 _=>?_
 dsimp only
 refine k12 (by omega) hwid rfl λv2 m2 hO2 hH2 hf=>?_
 dsimp only
 obtain⟨m3,hH3,kI⟩:=kIO (fid:=3) (hO1.keep (hf 464 (by decide))) hO2 (by decide) (by omega);have hH:=hH3.trans (hH2.trans hH1);obtain⟨L3,H3⟩:=m3;simp only at hH;subst hH;simp only[kI,aJ,nL,Option.map_some,kF,kF2,dU,gT,eq_self,decide_true,ic,k15,true_implies,not_true_eq_false,false_implies,and_true];refine hK _ ?_;clear hK K
 repeat' (first
 |with_reducible refine aF ?_
 |(with_reducible refine hqr _ ?_;(try simp only[b9,if_true,aJ,Option.map_some,true_and,if_true,r3,aQ,ak,aD,Option.bind_some,am,jx,aV,Prod.mk.injEq])))
 all_goals exact⟨_,rfl⟩
theorem x3 (p:List In) (i:Int) (hp:p.length≤9223372036854775807) (hwid:∀x∈p,Inw x):∃r,(∃H',r=(CV.bool true,H'))∧FF 3 [sl inC p,.int .i64 i] []=some r:=by
 by_cases h0:gW p=0
 ·obtain⟨va,H1,la,hFa,_,k7⟩:=k7 hp h0 []
  obtain⟨vb,H2,lb,hFb,hold,k8⟩:=k8 hp hwid h0 H1;have hFa2:=hFa.old hold;have k9:∀(t:Tmp) L,cd An FF 3 (some t) 9 [va,vb] ⟨L,H2⟩=some (.bool true,⟨L,H2⟩):=λt L=>by
   rw[cf (A:=An) (F:=FF) (fid:=3) (d:=t) (m:=⟨L,H2⟩) rfl (by simp only[List.all_cons,List.all_nil,hFa2.blks.esc,hFb.blks.esc];rfl) (x9 h0 H2 va vb la lb hFa2 hFb),eY]
  exact x3_of hp hwid (λt L=>k7 _ t L) (λt L=>k8 _ t L) k9 hFb.blks hFb.esc (by have:=(nc h0).2;rw[hFb.len];omega)
 ·have k9:∀(t:Tmp) L,cd An FF 3 (some t) 9 [.nil,.nil] ⟨L,[]⟩=some (.bool true,⟨L,[]⟩):=λt L=>by
   rw[cf (A:=An) (F:=FF) (fid:=3) (d:=t) (m:=⟨L,[]⟩) rfl rfl (x9_nil []),eY]
  exact x3_of (lb:=[]) hp hwid (λt L=>Nn hp h0) (λt L=>k8_bad hp hwid h0) k9 (.inl ⟨rfl,rfl⟩) (λx h=>by cases h) (Nat.zero_le _)
end Go.Cm
namespace Go.Cm
open Go.Proofs Go.Fl
set_option maxRecDepth 100000 in
theorem ins_of {n:Nat}{d:D}(h:D.ok Try.prog (n+2) 47 d):∃x:In,d.cells=inC x∧Inw x:=by
 obtain⟨ds,rfl,h1⟩:=eL (ts:=[3,3,3,3,3,45]) Try.underlying47 (by kernel_rfl) h;obtain⟨d1,r1,rfl,k1,h1⟩:=bm h1;obtain⟨d2,r2,rfl,k2,h1⟩:=bm h1;obtain⟨d3,r3,rfl,k3,h1⟩:=bm h1;obtain⟨d4,r4,rfl,k4,h1⟩:=bm h1;obtain⟨d5,r5,rfl,k5,h1⟩:=bm h1;obtain⟨d6,r6,rfl,k6,h1⟩:=bm h1
 obtain rfl:=fA h1
 obtain⟨x1,rfl,_⟩:=dp Try.underlying3 k1;obtain⟨x2,rfl,_⟩:=dp Try.underlying3 k2;obtain⟨x3,rfl,_⟩:=dp Try.underlying3 k3;obtain⟨x4,rfl,_⟩:=dp Try.underlying3 k4;obtain⟨x5,rfl,_⟩:=dp Try.underlying3 k5;obtain⟨x6,rfl,w⟩:=ok_u64 Try.underlying45 k6;have w1:=w.1;have w2:=w.2
 exact⟨⟨x1,x2,x3,x4,x5,x6⟩,rfl,w1,by show x6<18446744073709551616;omega⟩
set_option maxRecDepth 100000 in
theorem prog_of {n:Nat}{d:D}(h:D.ok Try.prog (n+3) 22 d):∃p:List In,d.cv=sl inC p∧p.length≤9223372036854775807∧∀x∈p,Inw x:=by
 obtain⟨l,_,e2,w2⟩:=sK (e:=inC) (W:=Inw) Try.underlying22 (λx hx=>ins_of (n:=n) hx) h
 exact⟨l,e2,w2.1,w2.2⟩
end Go.Cm
