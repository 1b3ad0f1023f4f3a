import Derived.Test.YtjhndbgokapikaaFoR
set_option linter.unusedSimpArgs false
set_option linter.unusedVariables false
namespace Go.Cm
open Go.Proofs Go.Fl
theorem k39 {x:In}(hw:Inw x) {fid:FuncId}{d:Tmp}{m:Mem}:cd An FF fid (some d) 39 [.agg (inC x)] m=some (.bool (ga x),m):=by
 rw[←insR_eq hw];exact cr (x39 x) (λ_ _ _=>rfl) rfl (by simp only[cans,aC,inE.can]) rfl rfl rfl
set_option maxHeartbeats 4000000 in
theorem inner23 {p:List In}{i:Nat}(hp:p.length≤4096) {v:CV}{L':List (Nat×HO)}(hO:OwnE aX 1 ⟨L',[]⟩ 880 v (np p i)) {Q':CE→TS→Prop}
  (hx:(np p i).all (goB p)=true→∀L'' v',Q' (.exit 2) ⟨[(0,sl inC p),(4,.int .i64 i),(5,v'),(6,.int .i64 (np p i).length),(59,.bool false)],⟨L'',[]⟩⟩)
  (hr:(np p i).all (goB p)=false→∀L'',Q' .ret ⟨[(2,.int .i64 i),(3,.int .i64 40)],⟨L'',[]⟩⟩) :
  Tx Try.prog An FF 23 (.loop NG) ⟨[(0,sl inC p),(4,.int .i64 i),(5,v),(6,.int .i64 0)],⟨L',[]⟩⟩ Q':=by
 have hSl:=tG (p:=p) (i:=(i:Int));obtain⟨S,hS⟩:∃S,S=np p i:=⟨_,rfl⟩;rw[←hS] at hO hx hr hSl;clear hS;have kH:∀i t m,cd An FF 23 (some t) 32 [sl inC p,.int .i64 i] m=some (.bool (gv p i),m):=λi t m=>k32 (by omega);refine aU (λk s=>∃(dn td:List Int) (L:List (Nat×HO)),S=dn++td∧k=td.length∧dn.all (goB p)=true∧OwnE aX 1 ⟨L,[]⟩ 880 v S ∧
   s=⟨[(0,sl inC p),(4,.int .i64 i),(5,v),(6,.int .i64 dn.length)],⟨L,[]⟩⟩) _ ⟨[],S,_,rfl,rfl,rfl,hO,rfl⟩ ?_
 clear hO;rintro k s ⟨dn,td,L,h3,rfl,hg,hO,rfl⟩ QL0 hnL0 hxL0 hrL0;have hlen:=congrArg List.length h3;simp only[List.length_append] at hlen;simp only[NG]
 cases td with
 |nil=>
  simp only[List.length_nil] at hlen;rw[List.append_nil] at h3;have hge:¬((dn.length:Int)<S.length):=by omega
  have e:dn.length=S.length:=by omega
  repeat' (first
  |with_reducible (first|refine ai ?_|refine ax rfl ?_|refine aN ?_|refine hxL0 _ _ ?_)
  |(with_reducible (refine ah (λK hK=>?_);refine Ke ?_);(try simp only[true_implies,false_implies,not_false_eq_true,b9,if_true,if_false,Nat.reduceEqDiff,aJ,dg,eN,Option.map_some,lenS,true_and,if_false,if_true,hO.len,hge]))
  |(revert hK;intro hK;(with_reducible refine hK _ ?_;clear hK K)))
  rw[e];exact hx (by rw[h3];exact hg) _ _
 |cons y td=>
  simp only[List.length_cons] at hlen;have hlt:(dn.length:Int)<S.length:=by omega
  have hw:IntKind.i64.wrap ((dn.length:Int)+1)=dn.length+1:=wI (by omega) (by omega);have hget:S[dn.length]?=some y:=by rw[h3];simp
  obtain⟨q,hq1,hq2⟩:=hO.at hget (k:=.i64);have hld:ld1 ⟨L,[]⟩ q=some (.int .i64 y):=hq2 _ rfl;have hbad:goB p y=false→S.all (goB p)=false:=λh=>by rw[h3,List.all_append,List.all_cons,h,Bool.false_and,Bool.and_false]
  by_cases g1:y<0
  ·have hb:=hr (hbad (by rw[goB,decide_eq_false (by omega)];rfl))
   repeat' (first
   |with_reducible (first|refine ai ?_|refine ar ?_|refine au rfl ?_|refine bc rfl ?_|refine aF ?_|refine aj (id:=3) (λQ3 hn3 hx3 hr3 ho3=>?_)|refine hr3 _ ?_|refine hrL0 _ ?_)
   |(with_reducible (refine ah (λK hK=>?_);(first|refine Ke ?_|refine Mz ?_|refine JT ?_));(try simp only[true_implies,false_implies,not_true_eq_false,b9,if_true,if_false,Nat.reduceEqDiff,aJ,dg,eN,gU,qz,qy,Option.map_some,ic,gf,lenS,dU,and_true,if_false,if_true,hO.len,aP,hlt,hq1,hld,g1]))
   |(revert hK;intro hK;(with_reducible refine hK _ ?_;clear hK K)))
   all_goals exact hb _
  by_cases g2:(p.length:Int)≤y
  ·have hb:=hr (hbad (by rw[goB,decide_eq_false (p:=y<p.length) (by omega),Bool.false_and,Bool.and_false]))
   repeat' (first
   |with_reducible (first|refine ai ?_|refine ar ?_|refine au rfl ?_|refine bc rfl ?_|refine aF ?_|refine aj (id:=3) (λQ3 hn3 hx3 hr3 ho3=>?_)|refine hr3 _ ?_|refine hrL0 _ ?_)
   |(with_reducible (refine ah (λK hK=>?_);(first|refine Ke ?_|refine Mz ?_|refine JT ?_));(try simp only[true_implies,false_implies,not_true_eq_false,not_false_eq_true,b9,if_true,if_false,Nat.reduceEqDiff,aJ,dg,eN,gU,qz,qy,Option.map_some,ic,gf,lenS,dU,and_true,true_and,if_false,if_true,hO.len,aP,hlt,hq1,hld,g1,g2,ge_iff_le]))
   |(revert hK;intro hK;(with_reducible refine hK _ ?_;clear hK K)))
   all_goals exact hb _
  have kHy:=kH y
  cases hh:gv p y with
  |true=>
   rw[hh] at kHy;have hb:=hr (hbad (by rw[goB,hh,Bool.not_true,Bool.and_false,Bool.and_false]))
   repeat' (first
   |with_reducible (first|refine ai ?_|refine ar ?_|refine au rfl ?_|refine bc rfl ?_|refine aF ?_|refine aj (id:=3) (λQ3 hn3 hx3 hr3 ho3=>?_)|refine hr3 _ ?_|refine hrL0 _ ?_)
   |(with_reducible (refine ah (λK hK=>?_);(first|refine Ke ?_|refine Mz ?_|refine JT ?_));(try simp only[true_implies,false_implies,not_true_eq_false,not_false_eq_true,b9,if_true,if_false,Nat.reduceEqDiff,aJ,dg,eN,gU,qz,qy,Option.map_some,ic,gf,lenS,dU,and_true,true_and,if_false,if_true,hO.len,aP,hlt,hq1,hld,g1,g2,ge_iff_le,kHy]))
   |(revert hK;intro hK;(with_reducible refine hK _ ?_;clear hK K)))
   all_goals exact hb _
  |false=>
   rw[hh] at kHy;have hgo:goB p y=true:=by rw[goB,hh,decide_eq_true (by omega),decide_eq_true (by omega)];rfl
   repeat' (first
   |with_reducible (first|refine ai ?_|refine ar ?_|refine au rfl ?_|refine d7 rfl ?_|refine bx ?_|refine aj (id:=3) (λQ3 hn3 hx3 hr3 ho3=>?_)|refine hn3 _ ?_)
   |(with_reducible ((first|refine ah (λK hK=>?_)|refine aI (λK hK=>?_));(first|refine Ke ?_|refine Mz ?_|refine t23r14 ?_));(try simp only[true_implies,false_implies,not_true_eq_false,not_false_eq_true,b9,if_true,if_false,Nat.reduceEqDiff,aJ,dg,eN,gU,qz,qy,Option.map_some,ic,gf,lenS,dU,cK,and_true,true_and,if_false,if_true,hO.len,aP,hlt,hq1,hld,g1,g2,ge_iff_le,kHy,hw]))
   |(revert hK;intro hK;(with_reducible refine hK _ ?_;clear hK K)))
   have e:((dn.length:Int)+1)=((dn++[y]).length:Int):=by simp
   rw[e];exact hnL0 td.length _ (by simp) ⟨dn++[y],td,L,by simp[h3],rfl,by rw[List.all_append,hg];simp[hgo],hO,rfl⟩
set_option maxHeartbeats 8000000 in
theorem x23 (p:List In) (hp:p.length≤9223372036854775807) (hwid:∀x∈p,Inw x):∃r,(∃i H',r=(CV.tuple [.int .i64 i,.int .i64 (gW p)],H'))∧FF 23 [sl inC p] []=some r:=by
 by_cases h1:(4096:Int)<p.length
 ·have he:gW p=31:=by show vi jB wrI ga p=_;unfold vi;rw[if_pos (by omega)]
  rw[he];refine bA rfl Try.func23 s23 (Nat.le_of_ble_eq_true rfl) (λQ hqr hqn=>?_);rw[bf (show An.pure 23=true from rfl) (by simp only[cans,aG,az,aC,aH,inE.can_sl])];simp only[aO,Nat.reduceAdd,c23]
  repeat' (first
  |with_reducible (first|refine ai ?_|refine au rfl ?_|refine b6 ?_)
  |(with_reducible (first|(refine ah (λK hK=>?_);(first|refine Qv ?_|refine Qw ?_|refine t23r2 ?_))|refine hqr _ ?_);(try simp only[true_implies,false_implies,not_true_eq_false,b9,if_true,if_false,Nat.reduceEqDiff,aJ,dg,bq,Option.map_some,lenS,and_true,if_false,if_true,r23,aQ,ak,aD,Option.bind_some,am,bz,bW,Prod.mk.injEq,aP,h1,gt_iff_lt]))
  |(revert hK;intro hK;(with_reducible refine hK _ ?_;clear hK K)))
  all_goals first|exact⟨_,_,rfl,rfl⟩|exact⟨_,_,rfl⟩
 by_cases h2:(p.length:Int)=0
 ·have he:gW p=40:=by show vi jB wrI ga p=_;unfold vi;rw[if_neg (by omega),if_pos (by omega)]
  rw[he];refine bA rfl Try.func23 s23 (Nat.le_of_ble_eq_true rfl) (λQ hqr hqn=>?_);rw[bf (show An.pure 23=true from rfl) (by simp only[cans,aG,az,aC,aH,inE.can_sl])];simp only[aO,Nat.reduceAdd,c23]
  repeat' (first
  |with_reducible (first|refine ai ?_|refine ar ?_|refine au rfl ?_|refine ax rfl ?_|refine b6 ?_)
  |(with_reducible (first|(refine ah (λK hK=>?_);(first|refine Qv ?_|refine Qw ?_|refine t23r3 ?_|refine t23r4 ?_))|refine hqr _ ?_);(try simp only[true_implies,false_implies,not_true_eq_false,b9,if_true,if_false,Nat.reduceEqDiff,aJ,dg,bq,gT,Option.map_some,lenS,and_true,if_false,if_true,r23,aQ,ak,aD,Option.bind_some,am,bz,bW,Prod.mk.injEq,aP,h2,gt_iff_lt]))
  |(revert hK;intro hK;(first|refine And.intro ?_ ?_|intro _|omega|(with_reducible refine hK _ ?_;clear hK K))))
  all_goals first|exact⟨_,_,rfl,rfl⟩|exact⟨_,_,rfl⟩
 have hbad:hU jB wrI ga p 0 p=false→gW p=40:=λh=>by
  show vi jB wrI ga p=_;unfold vi;rw[if_neg (by omega),if_neg (by omega),if_neg (by rw[h];decide)]
 have hgood:hU jB wrI ga p 0 p=true→gW p=0:=λh=>by
  show vi jB wrI ga p=_;unfold vi;rw[if_neg (by omega),if_neg (by omega),if_pos h]
 have kH:∀i t m,cd An FF 23 (some t) 32 [sl inC p,.int .i64 i] m=some (.bool (gv p i),m):=λi t m=>k32 (by omega);refine bA rfl Try.func23 s23 (Nat.le_of_ble_eq_true rfl) (λQ hqr hqn=>?_);rw[bf (show An.pure 23=true from rfl) (by simp only[cans,aG,az,aC,aH,inE.can_sl])];simp only[aO,Nat.reduceAdd,c23]
 repeat' (first
 |with_reducible (first|refine ai ?_|refine ar ?_|refine ax rfl ?_|refine aj (id:=0) (λQ0 hn0 hx0 hr0 ho0=>?_))
 |(with_reducible (refine ah (λK hK=>?_);(first|refine Qv ?_|refine Qw ?_|refine t23r3 ?_|refine t23r5 ?_));(try simp only[true_implies,false_implies,not_false_eq_true,b9,if_true,if_false,Nat.reduceEqDiff,aJ,dg,bq,gT,Option.map_some,lenS,true_and,if_false,if_true,aP,h1,h2,gt_iff_lt]))
 |(revert hK;intro hK;(with_reducible refine hK _ ?_;clear hK K)))
 refine aU (λk s=>∃(dn td:List In) (L:List (Nat×HO)) (ts:List (Nat×CV)),p=dn++td∧k=td.length∧hU jB wrI ga p 0 p=hU jB wrI ga p dn.length td ∧
   ac ts 0=sl inC p∧ac ts 4=.int .i64 dn.length∧s=⟨ts,⟨L,[]⟩⟩) _ ⟨[],p,_,_,rfl,rfl,rfl,rfl,rfl,rfl⟩ ?_
 rintro k s ⟨dn,td,L,ts,h3,rfl,hc,t0,t4,rfl⟩ QL1 hnL1 hxL1 hrL1;have hlen:=congrArg List.length h3;simp only[List.length_append] at hlen;simp only[c23l1]
 cases td with
 |nil=>
  simp only[List.length_nil] at hlen;have hge:¬((dn.length:Int)<p.length):=by omega
  have he:=hgood hc
  repeat' (first
  |with_reducible (first|refine ai ?_|refine ax rfl ?_|refine aN ?_|refine aF ?_|refine hx0 _ ?_|refine hxL1 _ _ ?_)
  |(with_reducible (first|(refine ah (λK hK=>?_);(first|refine LX ?_|refine J1 ?_))|refine hqr _ ?_);(try simp only[true_implies,false_implies,not_false_eq_true,b9,if_true,if_false,Nat.reduceEqDiff,aJ,dg,eN,Option.map_some,lenS,true_and,if_false,if_true,r23,aQ,ak,aD,Option.bind_some,am,bz,bW,Prod.mk.injEq,t0,t4,aP,hge,he]))
  |(revert hK;intro hK;(with_reducible refine hK _ ?_;clear hK K)))
  all_goals first|exact⟨_,_,rfl,rfl⟩|exact⟨_,_,rfl⟩
 |cons x td=>
  simp only[List.length_cons] at hlen;have hlt:(dn.length:Int)<p.length:=by omega
  have hw:IntKind.i64.wrap ((dn.length:Int)+1)=dn.length+1:=wI (by omega) (by omega);have hix:=aM (k:=.i64) inE.len (by omega:0<6) h3;have hc2:hU jB wrI ga p dn.length (x::td)=(H6 jB wrI ga p dn.length x&&hU jB wrI ga p (dn.length+1) td):=rfl;have hbad2:H6 jB wrI ga p dn.length x=false→gW p=40:=λh=>hbad (by rw[hc,hc2,h];rfl);have hnext:H6 jB wrI ga p dn.length x=true→∀ts' L',ac ts' 0=sl inC p→ac ts' 4=.int .i64 ((dn.length:Int)+1)→QL1 .normal ⟨ts',⟨L',[]⟩⟩:=λh ts' L' q0 q4=>by
   have e:((dn.length:Int)+1)=((dn++[x]).length:Int):=by simp
   rw[e] at q4;exact hnL1 td.length _ (by simp) ⟨dn++[x],td,L',ts',by simp[h3],rfl,by rw[hc,hc2,h,Bool.true_and];simp,q0,q4,rfl⟩
  have hwx:=hwid x (by rw[h3];simp);have kI:∀t m,cd An FF 23 (some t) 39 [.agg [.int .i64 x.op,.int .i64 x.dst,.int .i64 x.src,.int .i64 x.off,.int .i64 x.imm,.int .u64 x.wide]] m=some (.bool (ga x),m):=λt m=>k39 hwx;obtain⟨hh,ehh⟩:∃hh,hh=gv p dn.length:=⟨_,rfl⟩;have kH1:=kH dn.length;rw[←ehh] at kH1
  cases hh with
  |true=>
   have hok:H6 jB wrI ga p dn.length x=true:=by rw[H6,←ehh];rfl
   repeat' (first
   |with_reducible (first|refine ai ?_|refine ar ?_|refine au rfl ?_|refine aN ?_|refine aj (id:=1) (λQ1 hn1 hx1 hr1 ho1=>?_)|refine hx1 _ ?_)
   |(with_reducible ((first|refine ah (λK hK=>?_)|refine aI (λK hK=>?_));(first|refine LX ?_|refine Ml ?_|refine Qy ?_));(try simp only[true_implies,false_implies,not_true_eq_false,b9,if_true,if_false,Nat.reduceEqDiff,aJ,dg,eN,Option.map_some,lenS,cK,and_true,if_false,if_true,t0,t4,aP,hlt,hix,inC,d9,kH1,hw]))
   |(revert hK;intro hK;(with_reducible refine hK _ ?_;clear hK K)))
   all_goals exact hnext hok _ _ rfl rfl
  |false=>
   have hok:H6 jB wrI ga p dn.length x=(ga x&&(Ni p dn.length x&&(np p dn.length).all (goB p))):=by rw[H6,←ehh];rfl
   rw[hok] at hbad2 hnext;clear hok hc2
   cases hI:ga x with
   |false=>
    rw[hI] at kI hbad2;have he:=hbad2 rfl
    repeat' (first
    |with_reducible (first|refine ai ?_|refine ar ?_|refine au rfl ?_|refine ax rfl ?_|refine b6 ?_|refine hr0 _ ?_|refine aj (id:=1) (λQ1 hn1 hx1 hr1 ho1=>?_)|refine hr1 _ ?_|refine hrL1 _ ?_)
    |(with_reducible (first|(refine ah (λK hK=>?_);(first|refine LX ?_|refine Ml ?_|refine M8 ?_|refine Ny ?_))|refine hqr _ ?_);(try simp only[true_implies,false_implies,not_true_eq_false,b9,if_true,if_false,Nat.reduceEqDiff,aJ,dg,eN,fc,qz,bI,Option.map_some,ic,Bool.not_false,lenS,bg,List.nil_append,List.cons_append,and_true,if_false,if_true,r23,aQ,ak,aD,Option.bind_some,am,bz,bW,Prod.mk.injEq,t0,t4,aP,hlt,hix,inC,d9,kH1,kI,he]))
    |(revert hK;intro hK;(with_reducible refine hK _ ?_;clear hK K)))
    all_goals first|exact⟨_,_,rfl,rfl⟩|exact⟨_,_,rfl⟩
   |true=>
    rw[hI] at kI hbad2 hnext;have hin:Ni p dn.length x=true→∀(v:CV) (L':List (Nat×HO)) (Q':CE→TS→Prop),OwnE aX 1 ⟨L',[]⟩ 880 v (np p dn.length) →
      (∀L'' v',(∀ts' L3,ac ts' 0=sl inC p→ac ts' 4=.int .i64 ((dn.length:Int)+1)→QL1 .normal ⟨ts',⟨L3,[]⟩⟩)→Q' (.exit 2) ⟨[(0,sl inC p),(4,.int .i64 dn.length),(5,v'),(6,.int .i64 (np p dn.length).length),(59,.bool false)],⟨L'',[]⟩⟩) →
      (∀L'',gW p=40→Q' .ret ⟨[(2,.int .i64 dn.length),(3,.int .i64 40)],⟨L'',[]⟩⟩) →
      Tx Try.prog An FF 23 (.loop NG) ⟨[(0,sl inC p),(4,.int .i64 dn.length),(5,v),(6,.int .i64 0)],⟨L',[]⟩⟩ Q':=by
     intro hT v L' Q' hO hx hr;rw[hT,Bool.true_and,Bool.true_and] at hbad2 hnext;exact inner23 (by omega) hO (λh L'' v'=>hx L'' v' (hnext h)) (λh L''=>hr L'' (hbad2 h))
    by_cases h24:x.op=24
    ·rw[h24] at kI
     by_cases hend:(p.length:Int)≤(dn.length:Int)+1
     ·have he:=hbad2 (by
       rw[KA,h24,List.getElem?_eq_none (by omega)];rfl)
      repeat' (first
      |with_reducible (first|refine ai ?_|refine ar ?_|refine au rfl ?_|refine ax rfl ?_|refine b6 ?_|refine hr0 _ ?_|refine aj (id:=1) (λQ1 hn1 hx1 hr1 ho1=>?_)|refine hr1 _ ?_|refine hrL1 _ ?_)
      |(with_reducible (first|(refine ah (λK hK=>?_);(first|refine LX ?_|refine Ml ?_|refine M8 ?_|refine Ny ?_))|refine hqr _ ?_);(try simp only[true_implies,false_implies,not_true_eq_false,b9,if_true,if_false,Nat.reduceEqDiff,aJ,dg,bL,List.drop_zero,dw,eN,gU,gT,fc,nL,qz,qy,lw,bI,Option.map_some,ic,gf,Bool.not_true,lenS,dU,cK,bg,List.nil_append,List.cons_append,and_true,if_false,if_true,r23,aQ,ak,aD,Option.bind_some,am,bz,bW,Prod.mk.injEq,t0,t4,aP,hlt,hix,inC,d9,kH1,kI,he,h24,hw,hend,ge_iff_le]))
      |(revert hK;intro hK;(with_reducible refine hK _ ?_;clear hK K)))
      all_goals first|exact⟨_,_,rfl,rfl⟩|exact⟨_,_,rfl⟩
     ·obtain⟨y,hy⟩:∃y,p[dn.length+1]?=some y:=⟨_,List.getElem?_eq_getElem (by omega)⟩
      have hiy:=hY (k:=.i64) (i:=(dn.length:Int)+1) inE.len (by omega:0<6) (by omega) (by rw[show((dn.length:Int)+1).toNat=dn.length+1 by omega];exact hy);have hty:Ni p dn.length x=zIn y:=by rw[KA,h24,hy];rfl
      have hnq:=λa b=>PX y (a:=a) (b:=b)
      cases hz:zIn y with
      |false=>
       rw[hz] at hnq;have he:=hbad2 (by rw[hty,hz];rfl)
       repeat' (first
       |with_reducible (first|refine ai ?_|refine ar ?_|refine au rfl ?_|refine ax rfl ?_|refine b6 ?_|refine hr0 _ ?_|refine aj (id:=1) (λQ1 hn1 hx1 hr1 ho1=>?_)|refine hr1 _ ?_|refine hrL1 _ ?_)
       |(with_reducible (first|(refine ah (λK hK=>?_);(first|refine LX ?_|refine Ml ?_|refine M8 ?_|refine Ny ?_))|refine hqr _ ?_);(try simp only[true_implies,false_implies,not_true_eq_false,not_false_eq_true,b9,if_true,if_false,Nat.reduceEqDiff,aJ,dg,bL,List.drop_zero,dw,eN,gU,gT,fc,nL,qz,qy,lw,bI,Option.map_some,ic,gf,Bool.not_true,Bool.not_false,lenS,dU,cK,bg,List.nil_append,List.cons_append,and_true,true_and,if_false,if_true,r23,aQ,ak,aD,Option.bind_some,am,bz,bW,Prod.mk.injEq,t0,t4,aP,hlt,hix,inC,d9,kH1,kI,he,h24,hw,hend,hiy,hnq,ge_iff_le]))
       |(revert hK;intro hK;(with_reducible refine hK _ ?_;clear hK K)))
       all_goals first|exact⟨_,_,rfl,rfl⟩|exact⟨_,_,rfl⟩
      |true=>
       rw[hz] at hnq
       repeat' (first
       |with_reducible (first|refine ai ?_|refine ar ?_|refine au rfl ?_|refine ax rfl ?_|refine aj (id:=1) (λQ1 hn1 hx1 hr1 ho1=>?_))
       |(with_reducible (refine ah (λK hK=>?_);(first|refine LX ?_|refine Ml ?_|refine M8 ?_|refine J0 ?_));(try simp only[true_implies,false_implies,not_true_eq_false,not_false_eq_true,b9,if_true,if_false,Nat.reduceEqDiff,aJ,dg,bL,List.drop_zero,dw,eN,gU,gT,fc,nL,qz,qy,lw,bI,Option.map_some,ic,gf,Bool.not_true,lenS,dU,cK,bg,List.nil_append,List.cons_append,and_true,true_and,if_false,if_true,t0,t4,aP,hlt,hix,inC,d9,kH1,kI,h24,hw,hend,hiy,hnq,ge_iff_le]))
       |(revert hK;intro hK;(with_reducible refine hK _ ?_;clear hK K)))
       refine k16 (by omega) rfl λv m' hO hH' _=>?_;refine hK _ ?_;clear hK K;obtain⟨L',H'⟩:=m';simp only at hH';subst hH'
       repeat' (first
       |with_reducible refine bl (id:=2) (λQ2 hn2 hx2 hr2 ho2=>?_)
       |(with_reducible (refine ah (λK hK=>?_);refine Kd ?_);(try simp only[b9,if_true,if_false,Nat.reduceEqDiff,dg,if_false,if_true]))
       |(revert hK;intro hK;(with_reducible refine hK _ ?_;clear hK K)))
       refine hin (by rw[hty,hz]) _ _ _ hO ?_ ?_
       ·intro L'' v' hn
        repeat' (first
        |with_reducible (first|refine hn1 _ ?_|refine hx2 _ ?_)
        |(with_reducible (refine aI (λK hK=>?_);refine Qy ?_);(try simp only[b9,if_true,if_false,Nat.reduceEqDiff,dg,cK,if_false,if_true,hw]))
        |(revert hK;intro hK;(with_reducible refine hK _ ?_;clear hK K)))
        exact hn _ _ rfl rfl
       ·intro L'' he
        repeat' (first
        |with_reducible (first|refine hr0 _ ?_|refine hr1 _ ?_|refine hr2 _ ?_|refine hrL1 _ ?_)
        |(with_reducible refine hqr _ ?_;(try simp only[b9,if_true,if_false,Nat.reduceEqDiff,aJ,Option.map_some,if_false,if_true,r23,aQ,ak,aD,Option.bind_some,am,bz,bW,Prod.mk.injEq,he])))
        first|exact⟨_,_,rfl,rfl⟩|exact⟨_,_,rfl⟩
    ·repeat' (first
     |with_reducible (first|refine ai ?_|refine ar ?_|refine au rfl ?_|refine ax rfl ?_|refine aj (id:=1) (λQ1 hn1 hx1 hr1 ho1=>?_))
     |(with_reducible (refine ah (λK hK=>?_);(first|refine LX ?_|refine Ml ?_|refine M8 ?_|refine J0 ?_));(try simp only[true_implies,false_implies,not_true_eq_false,not_false_eq_true,b9,if_true,if_false,Nat.reduceEqDiff,aJ,dg,bL,List.drop_zero,dw,eN,gU,gT,fc,nL,qz,qy,lw,bI,Option.map_some,ic,gf,Bool.not_true,lenS,dU,cK,bg,List.nil_append,List.cons_append,and_true,true_and,if_false,if_true,t0,t4,aP,hlt,hix,inC,d9,kH1,kI,h24,hw]))
     |(revert hK;intro hK;(with_reducible refine hK _ ?_;clear hK K)))
     refine k16 (by omega) rfl λv m' hO hH' _=>?_;refine hK _ ?_;clear hK K;obtain⟨L',H'⟩:=m';simp only at hH';subst hH'
     repeat' (first
     |with_reducible refine bl (id:=2) (λQ2 hn2 hx2 hr2 ho2=>?_)
     |(with_reducible (refine ah (λK hK=>?_);refine Kd ?_);(try simp only[b9,if_true,if_false,Nat.reduceEqDiff,dg,if_false,if_true]))
     |(revert hK;intro hK;(with_reducible refine hK _ ?_;clear hK K)))
     refine hin (by rw[KA,decide_eq_true h24];rfl) _ _ _ hO ?_ ?_
     ·intro L'' v' hn
      repeat' (first
      |with_reducible (first|refine hn1 _ ?_|refine hx2 _ ?_)
      |(with_reducible (refine aI (λK hK=>?_);refine Qy ?_);(try simp only[b9,if_true,if_false,Nat.reduceEqDiff,dg,cK,if_false,if_true,hw]))
      |(revert hK;intro hK;(with_reducible refine hK _ ?_;clear hK K)))
      exact hn _ _ rfl rfl
     ·intro L'' he
      repeat' (first
      |with_reducible (first|refine hr0 _ ?_|refine hr1 _ ?_|refine hr2 _ ?_|refine hrL1 _ ?_)
      |(with_reducible refine hqr _ ?_;(try simp only[b9,if_true,if_false,Nat.reduceEqDiff,aJ,Option.map_some,if_false,if_true,r23,aQ,ak,aD,Option.bind_some,am,bz,bW,Prod.mk.injEq,he])))
      first|exact⟨_,_,rfl,rfl⟩|exact⟨_,_,rfl⟩
theorem k23 {p:List In}(hp:p.length≤9223372036854775807) (hwid:∀x∈p,Inw x):∃ci,∀(fid:FuncId) (t:Tmp) (m:Mem),cd An FF fid (some t) 23 [sl inC p] m=some (.tuple [.int .i64 ci,.int .i64 (gW p)],m):=by
 obtain⟨_,⟨ci,H0,rfl⟩,hc⟩:=x23 p hp hwid
 exact⟨ci,λ_ _ _=>cr hc (λ_ _ _=>rfl) rfl (by simp only[cans,inE.can_sl]) rfl (by simp only[noGs,inE.noG_sl,Bool.and_self]) rfl⟩
end Go.Cm
namespace Go.Cm
open Go.Proofs Go.Fl
theorem x27 (H:List HO) (v:CV) (l:List Int) (x:Int) (hv:RdI H v l) (hl:l.length≤4294967296):FF 27 [v,.int .i64 x] H=some (.bool (decide (x∈l)),H):=by
 refine aL rfl Try.func27 s27 (Nat.le_of_ble_eq_true rfl) (λQ hqr hqn=>?_);rw[show ∀a,cin (An.pure 27) a=a from λ_=>rfl];simp only[aO,Nat.reduceAdd,c27]
 repeat' (first
 |with_reducible (first|refine ai ?_|refine aj (id:=0) (λQ0 hn0 hx0 hr0 ho0=>?_))
 |(with_reducible (refine ah (λK hK=>?_);(first|refine t27r0 ?_|refine t27r1 ?_));(try simp only[b9,if_true,if_false,Nat.reduceEqDiff,dg,if_false,if_true,hv.len]))
 |(revert hK;intro hK;(with_reducible refine hK _ ?_;clear hK K)))
 refine aU (λk s=>∃(d t:List Int),l=d++t∧k=t.length∧x∉d∧s=⟨[(0,v),(1,.int .i64 x),(5,.int .i64 d.length)],⟨[],H⟩⟩) _ ⟨[],l,rfl,rfl,by simp,rfl⟩ ?_;rintro k s ⟨d,t,h3,rfl,hd,rfl⟩ QL0 hnL0 hxL0 hrL0;have hlen:=congrArg List.length h3;simp only[List.length_append] at hlen;simp only[c27l0]
 cases t with
 |nil=>
  simp only[List.length_nil] at hlen;rw[List.append_nil] at h3;have hge:¬((d.length:Int)<l.length):=by omega
  have he:decide (x∈l)=false:=decide_eq_false (by rw[h3];exact hd)
  repeat' (first
  |with_reducible (first|refine ai ?_|refine ax rfl ?_|refine aN ?_|refine aF ?_|refine hx0 _ ?_|refine hxL0 _ _ ?_)
  |(with_reducible (first|(refine ah (λK hK=>?_);(first|refine Qz ?_|refine t27r6 ?_))|refine hqr _ ?_);(try simp only[true_implies,false_implies,not_false_eq_true,b9,if_true,if_false,Nat.reduceEqDiff,aJ,dg,eN,Option.map_some,lenS,true_and,if_false,if_true,r27,aQ,ak,aD,Option.bind_some,am,jx,aV,hv.len,hge,he]))
  |(revert hK;intro hK;(with_reducible refine hK _ ?_;clear hK K)))
 |cons a t=>
  simp only[List.length_cons] at hlen;have hlt:(d.length:Int)<l.length:=by omega
  have hal:l[d.length]?=some a:=by rw[h3];simp
  obtain⟨p,hp1,hp2⟩:=hv.at hal (k:=.i64);have hw:IntKind.i64.wrap ((d.length:Int)+1)=d.length+1:=wI (by omega) (by omega)
  by_cases hax:a=x
  ·have he:decide (x∈l)=true:=decide_eq_true (by rw[h3,hax];simp)
   repeat' (first
   |with_reducible (first|refine ai ?_|refine ar ?_|refine au rfl ?_|refine bc rfl ?_|refine aF ?_|refine hr0 _ ?_|refine aj (id:=1) (λQ1 hn1 hx1 hr1 ho1=>?_)|refine hr1 _ ?_|refine hrL0 _ ?_)
   |(with_reducible (first|(refine ah (λK hK=>?_);(first|refine Qz ?_|refine t27r4 ?_|refine t27r5 ?_))|refine hqr _ ?_);(try simp only[true_implies,false_implies,not_true_eq_false,b9,if_true,if_false,Nat.reduceEqDiff,aJ,dg,eN,gT,Option.map_some,lenS,and_true,if_false,if_true,r27,aQ,ak,aD,Option.bind_some,am,jx,aV,hv.len,hlt,hp1,hp2,hax,eq_self,he]))
   |(revert hK;intro hK;(with_reducible refine hK _ ?_;clear hK K)))
  ·repeat' (first
   |with_reducible (first|refine ai ?_|refine ar ?_|refine au rfl ?_|refine d7 rfl ?_|refine bx ?_|refine aj (id:=1) (λQ1 hn1 hx1 hr1 ho1=>?_)|refine hn1 _ ?_)
   |(with_reducible ((first|refine ah (λK hK=>?_)|refine aI (λK hK=>?_));(first|refine Qz ?_|refine t27r4 ?_|refine t27r3 ?_));(try simp only[true_implies,false_implies,not_true_eq_false,not_false_eq_true,b9,if_true,if_false,Nat.reduceEqDiff,aJ,dg,eN,gT,Option.map_some,lenS,cK,and_true,true_and,if_false,if_true,hv.len,hlt,hp1,hp2,hax,hw]))
   |(revert hK;intro hK;(with_reducible refine hK _ ?_;clear hK K)))
   exact hnL0 t.length _ (by simp) ⟨d++[a],t,by simp[h3],rfl,by simp[hd];exact λe=>hax e.symm,by simp⟩
theorem k27 {H:List HO}{v:CV}{l:List Int}(hv:RdI H v l) (hl:l.length≤4294967296) {x:Int}{fid:FuncId}{t:Tmp}{L:List (Nat×HO)}:cd An FF fid (some t) 27 [v,.int .i64 x] ⟨L,H⟩=some (.bool (decide (x∈l)),⟨L,H⟩):=by
 rw[cf (A:=An) (F:=FF) (fid:=fid) (d:=t) (m:=⟨L,H⟩) rfl (by simp only[List.all_cons,hv.esc];rfl) (x27 H v l x hv hl),eY]
theorem x25 {p:List In}{i:Nat}{x:In}(hp:p.length≤4096) (hx:p[i]?=some x):FF 25 [sl inC p,.int .i64 i] []=some (.int .i64 ((i:Int)+wdI x),[]):=by
 have hi:=(List.getElem?_eq_some_iff.1 hx).1;have hix:=hY (k:=.i64) (i:=(i:Int)) inE.len (by omega:0<6) (by omega) hx;have w1:IntKind.i64.wrap ((i:Int)+1)=i+1:=wI (by omega) (by omega);have w2:IntKind.i64.wrap ((i:Int)+2)=i+2:=wI (by omega) (by omega)
 by_cases h:x.op=24
 ·rw[wdI,if_pos h]
  refine aL rfl Try.func25 s25 (Nat.le_of_ble_eq_true rfl) (λQ hqr hqn=>?_);rw[bf (show An.pure 25=true from rfl) (by simp only[cans,aG,az,aC,aH,inE.can_sl])];simp only[aO,Nat.reduceAdd,c25]
  repeat' (first
  |with_reducible (first|refine ai ?_|refine au rfl ?_|refine b6 ?_)
  |(with_reducible (first|(refine ah (λK hK=>?_);(first|refine t25r0 ?_|refine t25r1 ?_|refine t25r2 ?_))|refine hqr _ ?_);(try simp only[true_implies,false_implies,not_true_eq_false,b9,if_true,if_false,Nat.reduceEqDiff,aJ,dg,bL,List.drop_zero,dw,gT,Option.map_some,cK,List.nil_append,List.cons_append,and_true,if_false,if_true,r25,aQ,ak,aD,Option.bind_some,am,bz,aV,hix,inC,h,w2]))
  |(revert hK;intro hK;(with_reducible refine hK _ ?_;clear hK K)))
 ·rw[wdI,if_neg h]
  refine aL rfl Try.func25 s25 (Nat.le_of_ble_eq_true rfl) (λQ hqr hqn=>?_);rw[bf (show An.pure 25=true from rfl) (by simp only[cans,aG,az,aC,aH,inE.can_sl])];simp only[aO,Nat.reduceAdd,c25]
  repeat' (first
  |with_reducible (first|refine ai ?_|refine ar ?_|refine ax rfl ?_|refine aF ?_)
  |(with_reducible (first|(refine ah (λK hK=>?_);(first|refine t25r0 ?_|refine t25r1 ?_|refine t25r3 ?_))|refine hqr _ ?_);(try simp only[true_implies,false_implies,not_false_eq_true,b9,if_true,if_false,Nat.reduceEqDiff,aJ,dg,bL,List.drop_zero,dw,gT,Option.map_some,cK,List.nil_append,List.cons_append,true_and,if_false,if_true,r25,aQ,ak,aD,Option.bind_some,am,bz,aV,hix,inC,h,w1]))
  |(revert hK;intro hK;(with_reducible refine hK _ ?_;clear hK K)))
theorem k25 {p:List In}{i:Nat}{x:In}(hp:p.length≤4096) (hx:p[i]?=some x) {fid:FuncId}{d:Tmp}{m:Mem}:cd An FF fid (some d) 25 [sl inC p,.int .i64 i] m=some (.int .i64 ((i:Int)+wdI x),m):=
 cr (x25 hp hx) (λ_ _ _=>rfl) rfl (by simp only[cans,aG,inE.can_sl]) rfl (by simp only[noGs,eo,inE.noG_sl,Bool.and_self]) rfl
theorem x26 (x:In):FF 26 [.agg (inC x)] []=some (.bool (vo x),[]):=by
 obtain⟨_,⟨ja,jb,rfl⟩,h⟩:=x33 x.op;have kJ:∀t m,cd An FF 26 (some t) 33 [.int .i64 x.op] m=some (.tuple [.int .i64 ja,.bool jb,.bool (jB x.op)],m):=λt m=>cr h (λ_ _ _=>rfl) rfl rfl rfl rfl rfl
 cases hJ:jB x.op with
 |true=>
  rw[hJ] at kJ;rw[show vo x=true by simp[vo,hJ]];refine aL rfl Try.func26 s26 (Nat.le_of_ble_eq_true rfl) (λQ hqr hqn=>?_);rw[bf (show An.pure 26=true from rfl) (by simp only[cans,aG,az,aC,aH,aC,inE.can])];simp only[aO,Nat.reduceAdd,c26]
  repeat' (first
  |with_reducible refine aF ?_
  |(with_reducible (first|(refine ah (λK hK=>?_);(first|refine t26r0 ?_|refine t26r1 ?_|refine t26r2 ?_))|refine hqr _ ?_);(try simp only[b9,if_true,if_false,Nat.reduceEqDiff,ap,aJ,dg,qO,qP,ba,ik,Nat.zero_add,cb,eX,cw,List.getElem?_cons_zero,List.getElem?_cons_succ,qz,Option.map_some,ic,dT,if_false,if_true,r26,aQ,ak,aD,Option.bind_some,am,jx,aV,inC,kJ]))
  |(revert hK;intro hK;(with_reducible refine hK _ ?_;clear hK K)))
 |false=>
  rw[hJ] at kJ;rw[show vo x=decide (x.op=5) by simp[vo,hJ]];refine aL rfl Try.func26 s26 (Nat.le_of_ble_eq_true rfl) (λQ hqr hqn=>?_);rw[bf (show An.pure 26=true from rfl) (by simp only[cans,aG,az,aC,aH,aC,inE.can])];simp only[aO,Nat.reduceAdd,c26]
  repeat' (first
  |with_reducible refine aF ?_
  |(with_reducible (first|(refine ah (λK hK=>?_);(first|refine t26r0 ?_|refine t26r1 ?_|refine t26r2 ?_))|refine hqr _ ?_);(try simp only[b9,if_true,if_false,Nat.reduceEqDiff,ap,aJ,dg,qO,qP,ba,ik,Nat.zero_add,cb,eX,cw,List.getElem?_cons_zero,List.getElem?_cons_succ,gT,qy,Option.map_some,gf,dU,dT,and_true,if_false,if_true,r26,aQ,ak,aD,Option.bind_some,am,jx,aV,Prod.mk.injEq,CV.bool.injEq,inC,kJ]))
  |(revert hK;intro hK;(first|refine And.intro ?_ ?_|intro _|(with_reducible refine hK _ ?_;clear hK K))))
  all_goals first|rfl|simp_all
theorem k26 {x:In}{fid:FuncId}{d:Tmp}{m:Mem}:cd An FF fid (some d) 26 [.agg (inC x)] m=some (.bool (vo x),m):=
 cr (x26 x) (λ_ _ _=>rfl) rfl (by simp only[cans,aC,inE.can]) rfl rfl rfl
theorem x14 (H:List HO) (v:CV) (l:List BkS) (hv:Blks H v l) (hl:l.length≤1000000) (x:Int):FF 14 [v,.int .i64 x] H=some (.int .i64 (ns x l),H):=by
 refine aL rfl Try.func14 s14 (Nat.le_of_ble_eq_true rfl) (λQ hqr hqn=>?_);rw[show ∀a,cin (An.pure 14) a=a from λ_=>rfl];simp only[aO,Nat.reduceAdd,c14]
 repeat' (first
 |with_reducible (first|refine ai ?_|refine aj (id:=0) (λQ0 hn0 hx0 hr0 ho0=>?_))
 |(with_reducible (refine ah (λK hK=>?_);(first|refine t14r0 ?_|refine t14r1 ?_));(try simp only[b9,if_true,if_false,Nat.reduceEqDiff,dg,if_false,if_true]))
 |(revert hK;intro hK;(with_reducible refine hK _ ?_;clear hK K)))
 refine aU (λk' s=>∃(d t:List BkS) (L:List (Nat×HO)),l=d++t∧k'=t.length∧(∀b∈d,¬(b.fr≤x∧x<b.to))∧s=⟨[(0,v),(1,.int .i64 x),(5,.int .i64 d.length)],⟨L,H⟩⟩) _ ⟨[],l,_,rfl,rfl,(λb h=>by cases h),rfl⟩ ?_;rintro k' s ⟨d,t,L,h3,rfl,hd,rfl⟩ QL0 hnL0 hxL0 hrL0;have hlen:=congrArg List.length h3;simp only[List.length_append] at hlen;simp only[c14l0]
 cases t with
 |nil=>
  simp only[List.length_nil] at hlen;rw[List.append_nil] at h3;have hge:¬((d.length:Int)<l.length):=by omega
  have he:ns x l = -1:=KG (by rw[h3];exact hd)
  repeat' (first
  |with_reducible (first|refine ai ?_|refine ax rfl ?_|refine aN ?_|refine aF ?_|refine hx0 _ ?_|refine hxL0 _ _ ?_)
  |(with_reducible (first|(refine ah (λK hK=>?_);(first|refine NM ?_|refine t14r6 ?_))|refine hqr _ ?_);(try simp only[true_implies,false_implies,not_false_eq_true,b9,if_true,if_false,Nat.reduceEqDiff,aJ,dg,eN,Option.map_some,lenS,true_and,if_false,if_true,r14,aQ,ak,aD,Option.bind_some,am,bz,aV,hv.len,hge,he]))
  |(revert hK;intro hK;(with_reducible refine hK _ ?_;clear hK K)))
 |cons b t=>
  simp only[List.length_cons] at hlen;have hlt:(d.length:Int)<l.length:=by omega
  have hget:l[d.length]?=some b:=by rw[h3];simp
  obtain⟨n,gn,hve,hix,hH,hlA,hl1⟩:=hv.at hget (k:=.i64);have hw:IntKind.i64.wrap ((d.length:Int)+1)=d.length+1:=wI (by omega) (by omega);have f0:=hl1 0 (.int .i64 b.fr) (by decide) rfl;have f1:=hl1 1 (.int .i64 b.to) (by decide) rfl;rw[Nat.add_zero] at f0;have hn:¬(b.fr≤x∧x<b.to)→QL0 .normal ⟨[(0,v),(1,.int .i64 x),(5,.int .i64 ((d.length:Int)+1))],⟨L,H⟩⟩:=λhc=>
   hnL0 t.length _ (by simp) ⟨d++[b],t,L,by simp[h3],rfl,λc hc2=>by
    rcases List.mem_append.1 hc2 with h|h
    ·exact hd c h
    ·rw[List.mem_singleton.1 h];exact hc,by simp⟩
  by_cases h1:b.fr≤x
  ·by_cases h2:x<b.to
   ·have he:ns x l=d.length:=by rw[h3];exact LG hd ⟨h1,h2⟩
    repeat' (first
    |with_reducible (first|refine ai ?_|refine ar ?_|refine au rfl ?_|refine bc rfl ?_|refine aF ?_|refine hr0 _ ?_|refine aj (id:=1) (λQ1 hn1 hx1 hr1 ho1=>?_)|refine hr1 _ ?_|refine hrL0 _ ?_)
    |(with_reducible (first|(refine ah (λK hK=>?_);(first|refine NM ?_|refine Ql ?_|refine t14r5 ?_))|refine hqr _ ?_);(try simp only[true_implies,false_implies,not_true_eq_false,b9,if_true,if_false,Nat.reduceEqDiff,aJ,dg,cb,eN,cB,nL,lw,Option.map_some,ic,gf,lenS,dU,and_true,if_false,if_true,r14,aQ,ak,aD,Option.bind_some,am,bz,aV,hv.len,hlt,hix,f0,f1,Nat.add_zero,h1,h2,he]))
    |(revert hK;intro hK;(with_reducible refine hK _ ?_;clear hK K)))
   ·repeat' (first
    |with_reducible (first|refine ai ?_|refine ar ?_|refine au rfl ?_|refine d7 rfl ?_|refine bx ?_|refine aj (id:=1) (λQ1 hn1 hx1 hr1 ho1=>?_)|refine hn1 _ ?_)
    |(with_reducible ((first|refine ah (λK hK=>?_)|refine aI (λK hK=>?_));(first|refine NM ?_|refine Ql ?_|refine t14r3 ?_));(try simp only[true_implies,false_implies,not_true_eq_false,not_false_eq_true,b9,if_true,if_false,Nat.reduceEqDiff,aJ,dg,cb,eN,cB,nL,lw,Option.map_some,ic,gf,lenS,dU,cK,and_true,true_and,if_false,if_true,hv.len,hlt,hix,f0,f1,Nat.add_zero,h1,h2,hw]))
    |(revert hK;intro hK;(with_reducible refine hK _ ?_;clear hK K)))
    exact hn (λh=>h2 h.2)
  ·repeat' (first
   |with_reducible (first|refine ai ?_|refine ar ?_|refine au rfl ?_|refine d7 rfl ?_|refine bx ?_|refine aj (id:=1) (λQ1 hn1 hx1 hr1 ho1=>?_)|refine hn1 _ ?_)
   |(with_reducible ((first|refine ah (λK hK=>?_)|refine aI (λK hK=>?_));(first|refine NM ?_|refine Ql ?_|refine t14r3 ?_));(try simp only[true_implies,false_implies,not_true_eq_false,not_false_eq_true,b9,if_true,if_false,Nat.reduceEqDiff,aJ,dg,cb,eN,cB,nL,lw,Option.map_some,ic,gf,lenS,dU,cK,and_true,true_and,if_false,if_true,hv.len,hlt,hix,f0,Nat.add_zero,h1,hw]))
   |(revert hK;intro hK;(with_reducible refine hK _ ?_;clear hK K)))
   exact hn (λh=>h1 h.1)
theorem k14 {H:List HO}{v:CV}{l:List BkS}(hv:Blks H v l) (hl:l.length≤1000000) {x:Int}{fid:FuncId}{t:Tmp}{L:List (Nat×HO)} :
  cd An FF fid (some t) 14 [v,.int .i64 x] ⟨L,H⟩=some (.int .i64 (ns x l),⟨L,H⟩):=by
 rw[cf (A:=An) (F:=FF) (fid:=fid) (d:=t) (m:=⟨L,H⟩) rfl (by simp only[List.all_cons,List.all_nil,hv.esc];rfl) (x14 H v l hv hl x)];rfl
theorem x10 (H:List HO) (v w:CV) (l:List Int) (hv:RdI H v l) (hw:RdI H w l) (hl:l.length≤4294967296):FF 10 [v,w] H=some (.bool true,H):=by
 refine aL rfl Try.func10 s10 (Nat.le_of_ble_eq_true rfl) (λQ hqr hqn=>?_);rw[show ∀a,cin (An.pure 10) a=a from λ_=>rfl];simp only[aO,Nat.reduceAdd,c10]
 repeat' (first
 |with_reducible (first|refine ai ?_|refine ar ?_|refine ax rfl ?_|refine aj (id:=0) (λQ0 hn0 hx0 hr0 ho0=>?_))
 |(with_reducible (refine ah (λK hK=>?_);(first|refine t10r0 ?_|refine t10r1 ?_|refine t10r3 ?_));(try simp only[true_implies,false_implies,not_true_eq_false,b9,if_true,if_false,Nat.reduceEqDiff,aJ,dg,br,Option.map_some,lenS,and_true,if_false,if_true,hv.len,hw.len,ne_eq,eq_self]))
 |(revert hK;intro hK;(with_reducible refine hK _ ?_;clear hK K)))
 refine aU (λk s=>∃(d t:List Int),l=d++t∧k=t.length∧s=⟨[(0,v),(1,w),(5,.int .i64 d.length)],⟨[],H⟩⟩) _ ⟨[],l,rfl,rfl,rfl⟩ ?_;rintro k s ⟨d,t,h3,rfl,rfl⟩ QL0 hnL0 hxL0 hrL0;have hlen:=congrArg List.length h3;simp only[List.length_append] at hlen;simp only[c10l0]
 cases t with
 |nil=>
  simp only[List.length_nil] at hlen;have hge:¬((d.length:Int)<l.length):=by omega
  repeat' (first
  |with_reducible (first|refine ai ?_|refine ax rfl ?_|refine aN ?_|refine aF ?_|refine hx0 _ ?_|refine hxL0 _ _ ?_)
  |(with_reducible (first|(refine ah (λK hK=>?_);(first|refine t10r4 ?_|refine t10r8 ?_))|refine hqr _ ?_);(try simp only[true_implies,false_implies,not_false_eq_true,b9,if_true,if_false,Nat.reduceEqDiff,aJ,dg,eN,Option.map_some,lenS,true_and,if_false,if_true,r10,aQ,ak,aD,Option.bind_some,am,jx,aV,hv.len,hge]))
  |(revert hK;intro hK;(with_reducible refine hK _ ?_;clear hK K)))
 |cons a t=>
  simp only[List.length_cons] at hlen;have hlt:(d.length:Int)<l.length:=by omega
  have hal:l[d.length]?=some a:=by rw[h3];simp
  obtain⟨p,hp1,hp2⟩:=hv.at hal (k:=.i64);obtain⟨p',hp1',hp2'⟩:=hw.at hal (k:=.i64);have hwr:IntKind.i64.wrap ((d.length:Int)+1)=d.length+1:=wI (by omega) (by omega)
  repeat' (first
  |with_reducible (first|refine ai ?_|refine ar ?_|refine au rfl ?_|refine d7 rfl ?_|refine bx ?_|refine aj (id:=1) (λQ1 hn1 hx1 hr1 ho1=>?_)|refine hn1 _ ?_)
  |(with_reducible ((first|refine ah (λK hK=>?_)|refine aI (λK hK=>?_));(first|refine t10r4 ?_|refine t10r6 ?_|refine t10r5 ?_));(try simp only[true_implies,false_implies,not_true_eq_false,b9,if_true,if_false,Nat.reduceEqDiff,aJ,dg,eN,br,Option.map_some,lenS,cK,and_true,if_false,if_true,hv.len,hlt,hp1,hp2,hp1',hp2',ne_eq,eq_self,hwr]))
  |(revert hK;intro hK;(with_reducible refine hK _ ?_;clear hK K)))
  exact hnL0 t.length _ (by simp) ⟨d++[a],t,by simp[h3],rfl,by simp⟩
theorem k10 {H:List HO}{v w:CV}{l:List Int}(hv:RdI H v l) (hw:RdI H w l) (hl:l.length≤4294967296) {fid:FuncId}{t:Tmp}{L:List (Nat×HO)}:cd An FF fid (some t) 10 [v,w] ⟨L,H⟩=some (.bool true,⟨L,H⟩):=by
 rw[cf (A:=An) (F:=FF) (fid:=fid) (d:=t) (m:=⟨L,H⟩) rfl (by simp only[List.all_cons,hv.esc,hw.esc];rfl) (x10 H v w l hv hw hl),eY]
end Go.Cm
namespace Go.Cm
open Go.Proofs Go.Fl
theorem kB {b:Bool}{m:Mem}:Cm.chk true (some (.bool b,m))=some (.bool b,m):=rfl
def cF:List Bool→Nat
 |[]=>0
 |b::l=>(if b then 0 else 1)+cF l
theorem PT:∀{B:List Bool}{i:Nat},B[i]?=some false→cF (B.set i true)+1=cF B
 |[],i,h=>by simp at h
 |b::B,0,h=>by
  simp only[List.getElem?_cons_zero,Option.some.injEq] at h;subst h;simp only[List.set_cons_zero,cF,if_true,Bool.false_eq_true,if_false];omega
 |b::B,i+1,h=>by
  have:=PT (B:=B) (i:=i) (by simpa using h);simp only[List.set_cons_succ,cF];omega
theorem cF_rep {n:Nat}:cF (List.replicate n false)=n:=by
 induction n with
 |zero=>rfl
 |succ n ih=>rw[List.replicate_succ];simp only[cF,Bool.false_eq_true,if_false,ih];omega
theorem Mu {B:List Bool}{i j:Nat}{b:Bool}(h:i<B.length):(B.set i b)[j]?=if i=j then some b else B[j]?:=by
 rw[List.getElem?_set]
 by_cases e:i=j
 ·subst e;simp[h]
 ·rw[if_neg e,if_neg e]
theorem OwnE.ldB {m:Mem}{j:Nat}{v:CV}{B:List Bool}(h:OwnE bS 1 m j v B) {i:Nat}{b:Bool}(hi:B[i]?=some b):∃g,bd 1 v (.int .i64 i)=some (.ptr (.l j) g i)∧(∀m':Mem,aK m'.L j=aK m.L j→ld1 m' (.ptr (.l j) g i)=some (.bool b)) ∧
  ∀(m':Mem),aK m'.L j=aK m.L j→∀b',∃m2,stX 1 m' (.ptr (.l j) g i) (.bool b')=some m2∧OwnE bS 1 m2 j v (B.set i b')∧m2.H=m'.H∧∀k,k≠j→aK m2.L k=aK m'.L k:=by
 obtain⟨g,rfl,hL,hlt⟩:=h.get hi
 refine⟨g,by rw[bD,if_pos ⟨by omega,by omega⟩];simp,λm' hm=>?_,λm' hm b'=>?_⟩
 ·rw[eX,hm,hL]
  simp only[bM,if_true,fI,hi,Option.map_some]
 ·refine⟨bi m' j (.arr g 1 ((B.set i b').flatMap bS) 0),?_,.inr ⟨λe=>?_,g,by simp,by rw[ba,if_pos rfl]⟩,rfl,λk hk=>by rw[ba,if_neg (Ne.symm hk)]⟩
  ·rw[lK (cells:=B.flatMap bS) (by rw[hm,hL]) (by rw[P2];exact hlt) rfl rfl,ou]
  ·have:=congrArg List.length e
   rw[List.length_set,List.length_nil] at this;omega
set_option maxHeartbeats 8000000 in
theorem x12 (p:List In) (hp:p.length≤9223372036854775807) (hwid:∀x∈p,Inw x):∃r,(∃H',r=(eA aX 1 (hC p),H'))∧FF 12 [sl inC p] []=some r:=by
 obtain⟨ci,kC⟩:=k23 hp hwid
 by_cases h0:gW p=0
 ·have he:hC p=nI (bO (gP p)):=by rw[hC,if_pos h0]
  have hg:Ok (gP p):=vE h0;obtain⟨hn1,hn2,_⟩:=nb h0;rw[he];rw[h0] at kC;have hmk:∀m,mkX false 304 1 1 [.bool false] (.int .i64 p.length) (.int .i64 p.length) m=some (.ref (.l 304) (bj m.L 304) 0 p.length,bi m 304 (.arr (bj m.L 304) 1 ((List.replicate p.length false).flatMap bS) 0)):=λm=>by
   have:=we (j:=304) (sz:=1) (b:=1) (z:=[.bool false]) (k:=.i64) (n:=p.length) (m:=m) rfl (by omega) (by omega);rw[jw] at this;exact this
  have hsetL:∀(L:List (Nat×HO)) (H:List HO) i x,bi ⟨L,H⟩ i x=⟨gb L i x,H⟩:=λ_ _ _ _=>rfl;refine bA rfl Try.func12 s12 (Nat.le_of_ble_eq_true rfl) (λQ hqr hqn=>?_);rw[bf (show An.pure 12=true from rfl) (by simp only[cans,aG,az,aC,aH,inE.can_sl])];simp only[aO,Nat.reduceAdd,c12]
  repeat' (first
  |with_reducible (first|refine ai ?_|refine ar ?_|refine ax rfl ?_|refine aj (id:=0) (λQ0 hn0 hx0 hr0 ho0=>?_))
  |(with_reducible (refine ah (λK hK=>?_);(first|refine t12r0 ?_|refine t12r1 ?_|refine t12r2 ?_|refine t12r4 ?_|refine t12r5 ?_));(try simp only[true_implies,false_implies,not_true_eq_false,b9,if_true,if_false,Nat.reduceEqDiff,aJ,dg,nN,eE,List.getElem?_cons_zero,List.getElem?_cons_succ,br,Option.map_some,lenS,dT,and_true,if_false,if_true,kC,ne_eq,eq_self,aP,hmk,hsetL,gG]))
  |(revert hK;intro hK;(with_reducible refine hK _ ?_;clear hK K)))
  refine aU (λk s=>∃(B:List Bool) (T:List Nat) (vb v:CV) (L:List (Nat×HO)) (ts:List (Nat×CV)),B.length=p.length∧(∀x,B[x]?=some true→R (gP p) x)∧(∀x∈T,R (gP p) x)∧(B[0]?=some true∨0∈T)∧(∀x,B[x]?=some true→∀y∈(gP p).succ x,B[y]?=some true∨y∈T)∧k=3*cF B+T.length∧T.length+3*cF B≤30000∧OwnE bS 1 ⟨L,[]⟩ 304 vb B∧Slc ⟨L,[]⟩ 320 v (nI T) ∧
    ac ts 0=sl inC p∧ac ts 5=vb∧ac ts 6=v∧s=⟨ts,⟨L,[]⟩⟩) _ ⟨List.replicate p.length false,[0],.ref (.l 304) (bj [] 304) 0 p.length,.ref (.l 320) (bj [] 320) 0 1,_,_,by simp,?_,(λx h=>by rw[List.mem_singleton.1 h];exact .zero),.inr (by simp),?_,rfl,by rw[cF_rep];simp only[List.length_singleton];omega,?_,?_,rfl,rfl,rfl,rfl⟩ ?_
  ·intro x h
   rw[List.getElem?_replicate] at h
   split at h<;>simp at h
  ·intro x h
   rw[List.getElem?_replicate] at h
   split at h<;>simp at h
  ·exact .inr ⟨λe=>by have:=congrArg List.length e;rw[List.length_replicate,List.length_nil] at this;omega,_,by simp;rfl,by simp[aq]⟩
  ·exact⟨_,[],[],rfl,by simp[aq];rfl⟩
  rintro k s ⟨B,T,vb,v,L,ts,hBl,i2,i3,i4,i5,rfl,i6,hB,hS,g0,g5,g6,rfl⟩ QL0 hnL0 hxL0 hrL0;simp only[c12l0];have hlen:=hS.len;rw[d8] at hlen
  by_cases hT:T=[]
  ·subst hT
   have h0B:B[0]?=some true:=i4.elim id λh=>by cases h
   have hall:∀x,B[x]?=some true↔R (gP p) x:=λx=>by
    refine⟨i2 x,λh=>?_⟩
    induction h with
    |zero=>exact h0B
    |step _ hs ih=>exact(i5 _ ih _ hs).elim id λh=>by cases h
   clear i2 i3 i4 i5 i6 hS
   repeat' (first
   |with_reducible (first|refine ai ?_|refine ax rfl ?_|refine aN ?_|refine hx0 _ ?_|refine aj (id:=2) (λQ2 hn2 hx2 hr2 ho2=>?_)|refine hxL0 _ _ ?_)
   |(with_reducible (refine ah (λK hK=>?_);(first|refine Qk ?_|refine t12r12 ?_|refine t12r13 ?_));(try simp only[true_implies,false_implies,not_false_eq_true,b9,if_true,if_false,Nat.reduceEqDiff,aJ,dg,bq,Option.map_some,lenS,List.length_nil,true_and,if_false,if_true,g0,g5,g6,hlen,List.length_nil,Int.natCast_zero,gt_iff_lt,Int.lt_irrefl]))
   |(revert hK;intro hK;(with_reducible refine hK _ ?_;clear hK K)))
   refine aU (λk s=>∃(i:Nat) (o:CV) (L:List (Nat×HO)),i≤p.length∧k=p.length - i∧OwnE bS 1 ⟨L,[]⟩ 304 vb B∧OwnE aX 1 ⟨L,[]⟩ 976 o (nI ((List.range i).filter λx=>decide (B[x]?=some true))) ∧
     s=⟨[(0,sl inC p),(5,vb),(8,o),(9,.int .i64 i)],⟨L,[]⟩⟩) _ ⟨0,.nil,L,Nat.zero_le _,rfl,hB,.inl ⟨rfl,rfl⟩,rfl⟩ ?_
   clear hB;rintro k s ⟨i,o,L,hi,rfl,hB,hO,rfl⟩ QL1 hnL1 hxL1 hrL1;simp only[c12l1]
   by_cases hlt:i<p.length
   ·have hlt':(i:Int)<p.length:=by omega
    have hw:IntKind.i64.wrap ((i:Int)+1)=i+1:=wI (by omega) (by omega);have ei:((i:Int)+1)=((i+1:Nat):Int):=by omega
    obtain⟨b,hb⟩:∃b,B[i]?=some b:=⟨_,List.getElem?_eq_getElem (by omega)⟩;obtain⟨g,q1,q2,_⟩:=hB.ldB hb;have hld:=q2 ⟨L,[]⟩ rfl
    cases b with
    |false=>
     repeat' (first
     |with_reducible (first|refine ai ?_|refine ar ?_|refine au rfl ?_|refine d7 rfl ?_|refine bx ?_|refine aj (id:=3) (λQ3 hn3 hx3 hr3 ho3=>?_)|refine hn3 _ ?_)
     |(with_reducible ((first|refine ah (λK hK=>?_)|refine aI (λK hK=>?_));(first|refine Nu ?_|refine Qj ?_|refine Qi ?_));(try simp only[true_implies,false_implies,not_true_eq_false,b9,if_true,if_false,Nat.reduceEqDiff,aJ,dg,eN,Option.map_some,lenS,cK,and_true,if_false,if_true,aP,hlt',q1,hld,hw]))
     |(revert hK;intro hK;(with_reducible refine hK _ ?_;clear hK K)))
     rw[ei];refine hnL1 (p.length - (i+1)) _ (by omega) ⟨i+1,o,L,by omega,rfl,hB,?_,rfl⟩;rw[List.range_succ,List.filter_append,List.filter_cons_of_neg (by rw[hb];simp),List.filter_nil,List.append_nil];exact hO
    |true=>
     have hol:(nI ((List.range i).filter λx=>decide (B[x]?=some true))).length≤4096:=by
      rw[d8];have:=List.length_filter_le (λx=>decide (B[x]?=some true)) (List.range i);rw[List.length_range] at this;omega
     repeat' (first
     |with_reducible (first|refine ai ?_|refine ar ?_|refine au rfl ?_|refine bc rfl ?_|refine aj (id:=3) (λQ3 hn3 hx3 hr3 ho3=>?_))
     |(with_reducible ((first|refine ah (λK hK=>?_)|refine aI (λK hK=>?_));(first|refine Nu ?_|refine Qj ?_|refine t12r17 ?_));(try simp only[true_implies,false_implies,not_true_eq_false,b9,if_true,if_false,Nat.reduceEqDiff,aJ,dg,eN,Option.map_some,lenS,and_true,if_false,if_true,aP,hlt',q1,hld,gG,hsetL]))
     |(revert hK;intro hK;(with_reducible refine hK _ ?_;clear hK K)))
     refine OwnE.app (l:=nI ((List.range i).filter λx=>decide (B[x]?=some true))) (ys:=[(i:Int)]) (hO.keep (by rw[aq,if_neg (by decide)])) dB (by simp only[cU,aq,if_true,dz];rfl) rfl (by decide) (by simp only[List.length_singleton];omega) λv' m' r1 r2 r3=>?_;refine hK _ ?_;clear hK K;obtain⟨L',H'⟩:=m';simp only at r2;subst r2
     repeat' (first
     |with_reducible refine hn3 _ ?_
     |(with_reducible (refine aI (λK hK=>?_);refine Qi ?_);(try simp only[b9,if_true,if_false,Nat.reduceEqDiff,dg,cK,if_false,if_true,hw]))
     |(revert hK;intro hK;(with_reducible refine hK _ ?_;clear hK K)))
     rw[ei];refine hnL1 (p.length - (i+1)) _ (by omega) ⟨i+1,v',L',by omega,rfl,hB.keep ((r3 304 (by decide)).trans (by rw[aq,if_neg (by decide)])),?_,rfl⟩;rw[List.range_succ,List.filter_append,List.filter_cons_of_pos (by rw[hb];simp),List.filter_nil,show nI ((List.range i).filter (λx=>decide (B[x]?=some true))++[i])=nI ((List.range i).filter λx=>decide (B[x]?=some true))++[(i:Int)] from List.map_append ..];exact r1
   ·have e:i=p.length:=by omega
    subst e;have hge:¬((p.length:Int)<p.length):=by omega
    have hfl:((List.range p.length).filter λx=>decide (B[x]?=some true))=bO (gP p):=by
     unfold bO;refine List.filter_congr λx _=>?_;exact decide_eq_decide.2 (hall x)
    rw[hfl] at hO
    repeat' (first
    |with_reducible (first|refine ai ?_|refine ax rfl ?_|refine aN ?_|refine aF ?_|refine hx2 _ ?_|refine hxL1 _ _ ?_)
    |(with_reducible (first|(refine ah (λK hK=>?_);(first|refine Nu ?_|refine t12r18 ?_))|refine hqr _ ?_);(try simp only[true_implies,false_implies,not_false_eq_true,b9,if_true,if_false,Nat.reduceEqDiff,aJ,dg,eN,Option.map_some,lenS,dU,cD,true_and,if_false,if_true,r12,aQ,ak,aD,Option.bind_some,am,aV,Prod.mk.injEq,aP,hge]))
    |(revert hK;intro hK;(with_reducible refine hK _ ?_;clear hK K)))
    refine hO.ret dB λm' hm'=>⟨_,rfl,rfl⟩
  ·obtain⟨T',x,rfl⟩:∃T' x,T=T'++[x]:=⟨T.dropLast,T.getLast hT,(List.dropLast_concat_getLast hT).symm⟩
   have hx:=i3 x (by simp);have hxl:=hx.live hg;have hxn:x<p.length:=hg.lt x hxl;have hTn:nI (T'++[x])=nI T'++[(x:Int)]:=List.map_append ..;rw[hTn] at hS;simp only[List.length_append,List.length_singleton] at hlen i6;have hpos:(0:Int)<((T'.length+1:Nat):Int):=by omega
   have hwm:IntKind.i64.wrap (((T'.length+1:Nat):Int) - 1)=(T'.length:Nat):=by rw[wI (by omega) (by omega)];omega
   obtain⟨q,hq1,hq2⟩:=hS.at (i:=T'.length) (a:=(x:Int)) (by rw[List.getElem?_append_right (by rw[d8];exact Nat.le_refl _),d8,Nat.sub_self];rfl) (k:=.i64);have hld:ld1 ⟨L,[]⟩ q=some (.int .i64 x):=hq2 _ rfl;obtain⟨v',hv1,hv2⟩:=hS.init rfl;rw[d8] at hv1;obtain⟨b,hb⟩:∃b,B[x]?=some b:=⟨_,List.getElem?_eq_getElem (by omega)⟩;obtain⟨g,r1,r2,r3⟩:=hB.ldB hb;have hldb:=r2 ⟨L,[]⟩ rfl
   cases b with
   |true=>
    repeat' (first
    |with_reducible (first|refine ai ?_|refine ar ?_|refine au rfl ?_|refine d7 rfl ?_|refine bx ?_|refine bl (id:=1) (λQ1 hn1 hx1 hr1 ho1=>?_)|refine hn1 _ ?_)
    |(with_reducible (refine ah (λK hK=>?_);(first|refine Qk ?_|refine t12r7 ?_|refine t12r8 ?_|refine t12r9 ?_));(try simp only[true_implies,false_implies,not_true_eq_false,b9,if_true,if_false,Nat.reduceEqDiff,aJ,dg,bq,fc,Option.map_some,Bool.not_true,lenS,fe,and_true,if_false,if_true,g0,g5,g6,hlen,gt_iff_lt,hpos,hwm,hq1,hld,hv1,r1,hldb]))
    |(revert hK;intro hK;(with_reducible refine hK _ ?_;clear hK K)))
    refine hnL0 (3*cF B+T'.length) _ (by simp) ⟨B,T',vb,v',L,_,hBl,i2,λy hy=>i3 y (List.mem_append_left _ hy),?_,λy hy z hz=>?_,rfl,by omega,hB,hv2,rfl,rfl,rfl,rfl⟩
    ·rcases i4 with h|h
     ·exact .inl h
     ·rcases List.mem_append.1 h with h|h
      ·exact .inr h
      ·rw[List.mem_singleton.1 h];exact .inl hb
    ·rcases i5 y hy z hz with h|h
     ·exact .inl h
     ·rcases List.mem_append.1 h with h|h
      ·exact .inr h
      ·rw[List.mem_singleton.1 h];exact .inl hb
   |false=>
    obtain⟨m2,s1,s2,s3,s4⟩:=r3 ⟨L,[]⟩ rfl true
    repeat' (first
    |with_reducible (first|refine ai ?_|refine ar ?_|refine au rfl ?_|refine bc rfl ?_|refine bl (id:=1) (λQ1 hn1 hx1 hr1 ho1=>?_))
    |(with_reducible ((first|refine ah (λK hK=>?_)|refine aI (λK hK=>?_));(first|refine Qk ?_|refine t12r7 ?_|refine t12r8 ?_|refine t12r9 ?_|refine t12r10 ?_|refine t12r11 ?_));(try simp only[true_implies,false_implies,not_true_eq_false,b9,if_true,if_false,Nat.reduceEqDiff,aJ,dg,bq,fc,Option.map_some,Bool.not_false,lenS,fe,and_true,if_false,if_true,g0,g5,g6,hlen,gt_iff_lt,hpos,hwm,hq1,hld,hv1,r1,hldb,s1]))
    |(revert hK;intro hK;(with_reducible refine hK _ ?_;clear hK K)))
    refine k16 (by omega) rfl λvs m' hO hH' hf=>?_;rw[gV h0 hxl] at hO;have hs2:((gP p).succ x).length≤2:=by
     have:=tG (p:=p) (i:=x);rw[gV h0 hxl,d8] at this;exact this
    have hcf:=PT hb;refine Slc.app (l:=nI T') (ys:=nI ((gP p).succ x)) (hv2.keep (m':=m') ((hf 320 (by decide)).trans (s4 320 (by decide)))) (hO.content dB) hO.len (by decide) (by rw[d8,d8];omega) λv2 m3 hS2 hH2 hf3=>?_;refine hK _ ?_;clear hK K;obtain⟨L2,H2⟩:=m3;simp only at hH2;rw[hH',s3] at hH2;simp only at hH2;subst hH2;have hB2:OwnE bS 1 ⟨L2,[]⟩ 304 vb (B.set x true):=s2.keep ((hf3 304 (by decide)).trans (hf 304 (by decide)));have hBx:x<B.length:=by omega
    have hget:∀y,(B.set x true)[y]?=if x=y then some true else B[y]?:=λy=>Mu hBx
    repeat' (first
    |with_reducible refine hn1 _ ?_)
    refine hnL0 (3*cF (B.set x true)+(T'++(gP p).succ x).length) _ (by simp only[List.length_append,List.length_singleton];omega) ⟨B.set x true,T'++(gP p).succ x,vb,v2,L2,_,by rw[List.length_set,hBl],?_,?_,?_,?_,rfl,by simp only[List.length_append];omega,hB2,by rw[show nI (T'++(gP p).succ x)=nI T'++nI ((gP p).succ x) from List.map_append ..];exact hS2,rfl,rfl,rfl,rfl⟩
    ·intro y hy
     rw[hget] at hy
     split at hy
     ·rename_i e;exact e ▸ hx
     ·exact i2 y hy
    ·intro y hy
     rcases List.mem_append.1 hy with hy|hy
     ·exact i3 y (List.mem_append_left _ hy)
     ·exact .step hx hy
    ·rw[hget]
     by_cases e:x=0
     ·rw[if_pos e];exact .inl rfl
     ·rw[if_neg e]
      rcases i4 with h|h
      ·exact .inl h
      ·rcases List.mem_append.1 h with h|h
       ·exact .inr (List.mem_append_left _ h)
       ·exact absurd (List.mem_singleton.1 h).symm e
    ·intro y hy z hz
     rw[hget] at hy ⊢
     by_cases ez:x=z
     ·rw[if_pos ez];exact .inl rfl
     ·rw[if_neg ez]
      split at hy
      ·rename_i e
       subst e;exact .inr (List.mem_append_right _ hz)
      ·rcases i5 y hy z hz with h|h
       ·exact .inl h
       ·rcases List.mem_append.1 h with h|h
        ·exact .inr (List.mem_append_left _ h)
        ·exact absurd (List.mem_singleton.1 h).symm ez
 ·have he:hC p=[]:=by rw[hC,if_neg h0]
  rw[he];refine bA rfl Try.func12 s12 (Nat.le_of_ble_eq_true rfl) (λQ hqr hqn=>?_);rw[bf (show An.pure 12=true from rfl) (by simp only[cans,aG,az,aC,aH,inE.can_sl])];simp only[aO,Nat.reduceAdd,c12]
  repeat' (first
  |with_reducible (first|refine ai ?_|refine au rfl ?_|refine b6 ?_)
  |(with_reducible (first|(refine ah (λK hK=>?_);(first|refine t12r0 ?_|refine t12r1 ?_|refine t12r2 ?_|refine t12r3 ?_))|refine hqr _ ?_);(try simp only[true_implies,false_implies,not_false_eq_true,b9,if_true,if_false,Nat.reduceEqDiff,aJ,dg,List.getElem?_cons_zero,List.getElem?_cons_succ,br,Option.map_some,dT,true_and,if_false,if_true,r12,aQ,ak,aD,Option.bind_some,am,eh,aV,Prod.mk.injEq,kC,h0,ne_eq]))
  |(revert hK;intro hK;(with_reducible refine hK _ ?_;clear hK K)))
  all_goals exact⟨_,rfl,rfl⟩
end Go.Cm
