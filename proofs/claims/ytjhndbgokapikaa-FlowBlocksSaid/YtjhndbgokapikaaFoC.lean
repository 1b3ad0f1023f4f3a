import Derived.Test.YtjhndbgokapikaaFoB
set_option linter.unusedSimpArgs false
set_option linter.unusedVariables false
namespace Go.Cm
open Go.Proofs Go.Fl
theorem x50 (x:In):FF 50 [.agg (inC x)] []=some (.bool (qu x),[]):=by
 have n1:∀{t:Tmp}{m:Mem}{j g:Nat},aK m.L j=some (.arr g 1 [.int .i64 x.off] 0)→cd An FF 50 (some t) 48 [.ref (.l j) g 0 1] m=some (.bool (decide (x.off=0)),m):=k48_1
 by_cases h0:x.off=0
 ·by_cases h1:IntKind.u32.wrap x.wide=IntKind.u32.wrap x.imm
  ·by_cases h2:x.src=1
   ·have he:qu x=(inB x.imm 0 7&&decide (hiW x.wide=0)):=by simp[qu,h0,h1,h2]
    obtain⟨c,hc⟩:∃c,c=inB x.imm 0 7:=⟨_,rfl⟩;have k2:∀t m,cd An FF 50 (some t) 49 [.int .i64 x.imm,.int .i64 0,.int .i64 7] m=some (.bool c,m):=λt m=>by rw[hc,k49]
    rw[he,←hc]
    cases c with
    |false=>
     refine aL rfl Try.func50 s50 (Nat.le_of_ble_eq_true rfl) (λQ hqr hqn=>?_);rw[bf (show An.pure 50=true from rfl) (by simp only[cans,aG,az,aC,aH,aC,inE.can])];simp only[aO,Nat.reduceAdd,c50]
     repeat' (first
     |with_reducible (first|refine bc rfl ?_|refine d7 rfl ?_|refine aF ?_|refine aj (id:=0) (λQ0 hn0 hx0 hr0 ho0=>?_)|refine hr0 _ ?_)
     |(with_reducible (first|(refine ah (λK hK=>?_);(first|refine Ng ?_|refine Nh ?_|refine Fe ?_|refine t50r4 ?_))|refine hqr _ ?_);(try simp only[true_implies,false_implies,not_true_eq_false,b9,if_true,if_false,Nat.reduceEqDiff,ap,aJ,dg,qO,qP,dj,ef,bv,aR,ba,ik,Nat.zero_add,cb,eX,cw,List.getElem?_cons_zero,List.getElem?_cons_succ,gT,br,fc,qy,lw,Option.map_some,gf,Bool.not_true,dU,gE,cD,bg,be,bF,ay,List.take_zero,List.drop_succ_cons,List.drop_nil,List.nil_append,List.append_nil,List.length_cons,List.length_nil,and_true,Nat.le_refl,cz,List.all_cons,List.all_nil,Bool.and_self,decide_true,if_false,if_true,r50,aQ,ak,aD,Option.bind_some,am,jx,aV,Prod.mk.injEq,CV.bool.injEq,inC,n1,eq_true h0,h1,eq_true h2,k2,ne_eq]))
     |(revert hK;intro hK;(with_reducible refine hK _ ?_;clear hK K)))
     all_goals first|rfl|simp_all
    |true=>
     refine aL rfl Try.func50 s50 (Nat.le_of_ble_eq_true rfl) (λQ hqr hqn=>?_);rw[bf (show An.pure 50=true from rfl) (by simp only[cans,aG,az,aC,aH,aC,inE.can])];simp only[aO,Nat.reduceAdd,c50]
     repeat' (first
     |with_reducible (first|refine bc rfl ?_|refine d7 rfl ?_|refine aF ?_|refine aj (id:=0) (λQ0 hn0 hx0 hr0 ho0=>?_)|refine hr0 _ ?_)
     |(with_reducible (first|(refine ah (λK hK=>?_);(first|refine Ng ?_|refine Nh ?_|refine Fe ?_|refine t50r4 ?_))|refine hqr _ ?_);(try simp only[true_implies,false_implies,not_true_eq_false,b9,if_true,if_false,Nat.reduceEqDiff,ap,aJ,dg,qO,qP,dj,ef,bv,aR,ba,ik,Nat.zero_add,cb,eX,cw,List.getElem?_cons_zero,List.getElem?_cons_succ,gT,br,fc,nL,qy,Option.map_some,ic,gf,Bool.not_true,dU,Gd,gE,cD,bg,be,bF,ay,List.take_zero,List.drop_succ_cons,List.drop_nil,List.nil_append,List.append_nil,List.length_cons,List.length_nil,and_true,Nat.le_refl,cz,List.all_cons,List.all_nil,Bool.and_self,Bool.true_and,decide_true,if_false,if_true,r50,aQ,ak,aD,Option.bind_some,am,jx,aV,Prod.mk.injEq,CV.bool.injEq,inC,n1,eq_true h0,h1,eq_true h2,k2,ne_eq]))
     |(revert hK;intro hK;(first|refine And.intro ?_ ?_|intro _|omega|(with_reducible refine hK _ ?_;clear hK K))))
     all_goals first|rfl|simp_all [hiW,IntKind.bits]
   ·have he:qu x=decide (x.src=0):=by simp[qu,h0,h1,h2]
    rw[he];refine aL rfl Try.func50 s50 (Nat.le_of_ble_eq_true rfl) (λQ hqr hqn=>?_);rw[bf (show An.pure 50=true from rfl) (by simp only[cans,aG,az,aC,aH,aC,inE.can])];simp only[aO,Nat.reduceAdd,c50]
    repeat' (first
    |with_reducible (first|refine d7 rfl ?_|refine aF ?_|refine bx ?_|refine aj (id:=0) (λQ0 hn0 hx0 hr0 ho0=>?_)|refine hn0 _ ?_)
    |(with_reducible (first|(refine ah (λK hK=>?_);(first|refine Ng ?_|refine Nh ?_|refine Fe ?_|refine t50r5 ?_))|refine hqr _ ?_);(try simp only[true_implies,false_implies,not_true_eq_false,not_false_eq_true,b9,if_true,if_false,Nat.reduceEqDiff,ap,aJ,dg,qO,qP,dj,ef,bv,aR,ba,ik,Nat.zero_add,cb,eX,cw,List.getElem?_cons_zero,List.getElem?_cons_succ,gT,br,fc,qy,Option.map_some,gf,Bool.not_true,dU,gE,cD,bg,be,bF,ay,List.take_zero,List.drop_succ_cons,List.drop_nil,List.nil_append,List.append_nil,List.length_cons,List.length_nil,and_true,true_and,Nat.le_refl,cz,List.all_cons,List.all_nil,Bool.and_self,decide_true,if_false,if_true,r50,aQ,ak,aD,Option.bind_some,am,jx,aV,Prod.mk.injEq,CV.bool.injEq,inC,n1,eq_true h0,h1,h2,ne_eq]))
    |(revert hK;intro hK;(first|refine And.intro ?_ ?_|intro _|(with_reducible refine hK _ ?_;clear hK K))))
    all_goals first|rfl|simp_all
  ·have he:qu x=false:=by simp[qu,h1]
   rw[he];refine aL rfl Try.func50 s50 (Nat.le_of_ble_eq_true rfl) (λQ hqr hqn=>?_);rw[bf (show An.pure 50=true from rfl) (by simp only[cans,aG,az,aC,aH,aC,inE.can])];simp only[aO,Nat.reduceAdd,c50]
   repeat' (first
   |with_reducible (first|refine bc rfl ?_|refine aF ?_|refine aj (id:=0) (λQ0 hn0 hx0 hr0 ho0=>?_)|refine hr0 _ ?_)
   |(with_reducible (first|(refine ah (λK hK=>?_);(first|refine Ng ?_|refine Nh ?_|refine t50r2 ?_))|refine hqr _ ?_);(try simp only[true_implies,false_implies,not_false_eq_true,b9,if_true,if_false,Nat.reduceEqDiff,ap,aJ,dg,qO,qP,dj,ef,bv,aR,ba,ik,Nat.zero_add,cb,eX,cw,List.getElem?_cons_zero,List.getElem?_cons_succ,br,fc,qy,Option.map_some,gf,Bool.not_true,dU,gE,cD,bg,be,bF,ay,List.take_zero,List.drop_succ_cons,List.drop_nil,List.nil_append,List.append_nil,List.length_cons,List.length_nil,and_true,true_and,Nat.le_refl,cz,List.all_cons,List.all_nil,Bool.and_self,decide_true,if_false,if_true,r50,aQ,ak,aD,Option.bind_some,am,jx,aV,inC,n1,eq_true h0,h1,ne_eq]))
   |(revert hK;intro hK;(with_reducible refine hK _ ?_;clear hK K)))
   all_goals first|rfl|simp_all
 ·have he:qu x=false:=by simp[qu,h0]
  rw[he];refine aL rfl Try.func50 s50 (Nat.le_of_ble_eq_true rfl) (λQ hqr hqn=>?_);rw[bf (show An.pure 50=true from rfl) (by simp only[cans,aG,az,aC,aH,aC,inE.can])];simp only[aO,Nat.reduceAdd,c50]
  repeat' (first
  |with_reducible (first|refine bc rfl ?_|refine aF ?_|refine aj (id:=0) (λQ0 hn0 hx0 hr0 ho0=>?_)|refine hr0 _ ?_)
  |(with_reducible (first|(refine ah (λK hK=>?_);(first|refine Ng ?_|refine Nh ?_|refine t50r2 ?_))|refine hqr _ ?_);(try simp only[b9,if_true,if_false,Nat.reduceEqDiff,ap,aJ,dg,qO,qP,dj,ef,bv,aR,ba,ik,Nat.zero_add,cb,eX,cw,List.getElem?_cons_zero,List.getElem?_cons_succ,fc,qz,Option.map_some,ic,Bool.not_false,dU,cD,bg,be,bF,ay,List.take_zero,List.drop_succ_cons,List.drop_nil,List.nil_append,List.append_nil,List.length_cons,List.length_nil,and_true,Nat.le_refl,cz,List.all_cons,List.all_nil,Bool.and_self,decide_false,if_false,if_true,r50,aQ,ak,aD,Option.bind_some,am,jx,aV,inC,n1,h0,ne_eq]))
  |(revert hK;intro hK;(with_reducible refine hK _ ?_;clear hK K)))
  all_goals first|rfl|simp_all
theorem k50 {x:In}{fid:FuncId}{d:Tmp}{m:Mem}:cd An FF fid (some d) 50 [.agg (inC x)] m=some (.bool (qu x),m):=
 cr (x50 x) (λ_ _ _=>rfl) rfl (by simp only[cans,aC,inE.can]) rfl rfl rfl
theorem cls24:cls 24=0:=by decide
set_option maxHeartbeats 8000000 in
theorem x35 (x:In):FF 35 [.agg (inC x)] []=some (.bool (ga x),[]):=by
 obtain⟨ja,jb,hj⟩:=PZ x.op;obtain⟨J,hJ⟩:∃J,J=jB x.op:=⟨_,rfl⟩;have kJ:∀t m,cd An FF 35 (some t) 36 [.int .i64 x.op] m=some (.tuple [.int .i64 ja,.bool jb,.bool J],m):=λt m=>by
  rw[hJ,←hj];have h:=x36 x.op;rw[hj] at h ⊢;exact cr h (λ_ _ _=>rfl) rfl rfl rfl rfl rfl
 obtain⟨A,hA⟩:∃A,A=aB x.op:=⟨_,rfl⟩;obtain⟨aa,ab,kA,hAt⟩:∃aa ab,(∀t m,cd An FF 35 (some t) 43 [.int .i64 x.op] m=some (.tuple [.int .i64 aa,.bool ab,.bool A],m))∧(A=true→Hp x aa ab=Hp x (hi x.op) (decide (cls x.op=7))):=by
  have h:=x43 x.op;rw[hA]
  by_cases hA':aB x.op=true
  ·rw[aT,if_pos hA'] at h
   exact⟨_,_,λt m=>by rw[hA'];exact cr h (λ_ _ _=>rfl) rfl rfl rfl rfl rfl,λ_=>rfl⟩
  ·rw[aT,if_neg hA'] at h
   exact⟨0,false,λt m=>by rw[show aB x.op=false by simpa using hA'];exact cr h (λ_ _ _=>rfl) rfl rfl rfl rfl rfl,λh=>absurd h hA'⟩
 have n1:∀(a:Int) {t:Tmp}{m:Mem}{j g:Nat},aK m.L j=some (.arr g 1 [.int .i64 a] 0)→cd An FF 35 (some t) 48 [.ref (.l j) g 0 1] m=some (.bool (decide (a=0)),m):=λa=>k48_1;have n1a:=@n1 x.src;have n1b:=@n1 x.imm;have n3:∀(a b c:Int) {t:Tmp}{m:Mem}{j g:Nat},aK m.L j=some (.arr g 1 [.int .i64 a,.int .i64 b,.int .i64 c] 0)→cd An FF 35 (some t) 48 [.ref (.l j) g 0 3] m=some (.bool (zB [a,b,c]),m):=λa b c=>k48_3;have n3a:=@n3 x.dst x.src x.imm;have n3b:=@n3 x.dst x.src x.off;have n4:∀{t:Tmp}{m:Mem}{j g:Nat},aK m.L j=some (.arr g 1 [.int .i64 x.dst,.int .i64 x.src,.int .i64 x.off,.int .i64 x.imm] 0)→cd An FF 35 (some t) 48 [.ref (.l j) g 0 4] m=some (.bool (zB [x.dst,x.src,x.off,x.imm]),m):=k48_4;have kC:∀t m,cd An FF 35 (some t) 44 [.int .i64 x.op] m=some (.int .i64 (cls x.op),m):=λt m=>k44;have kS:∀t m,cd An FF 35 (some t) 51 [.int .i64 x.op] m=some (.int .i64 (szO x.op),m):=λt m=>k51;have kO:∀t m,cd An FF 35 (some t) 47 [.agg [.int .i64 x.op,.int .i64 x.dst,.int .i64 x.src,.int .i64 x.off,.int .i64 x.imm,.int .u64 x.wide]] m=some (.bool (tQ x),m):=λt m=>k47;have kT:∀t m,cd An FF 35 (some t) 50 [.agg [.int .i64 x.op,.int .i64 x.dst,.int .i64 x.src,.int .i64 x.off,.int .i64 x.imm,.int .u64 x.wide]] m=some (.bool (qu x),m):=λt m=>k50;have kL:∀t m,cd An FF 35 (some t) 46 [.agg [.int .i64 x.op,.int .i64 x.dst,.int .i64 x.src,.int .i64 x.off,.int .i64 x.imm,.int .u64 x.wide],.int .i64 aa,.bool ab] m=some (.bool (Hp x aa ab),m):=λt m=>k46
 have kF:∀d t m,cd An FF 35 (some t) 45 [.agg [.int .i64 x.op,.int .i64 x.dst,.int .i64 x.src,.int .i64 x.off,.int .i64 x.imm,.int .u64 x.wide],.int .i64 d] m=some (.bool (KB x d),m):=λd t m=>k45;have kW:∀t m,cd An FF 35 (some t) 49 [.int .i64 x.imm,.int .i64 1,.int .i64 5] m=some (.bool (inB x.imm 1 5),m):=λt m=>k49;have w9:IntKind.i64.wrap (10 - 1)=9:=rfl;obtain⟨F,hF⟩:∃F,F=KB x (Hs x):=⟨_,rfl⟩;have hins:ga x=if F=false∨(x.op≠24∧x.wide≠0) then false
   else if A=true then Hp x (hi x.op) (decide (cls x.op=7))
   else if J=true then tQ x
   else if x.op=5 then zB [x.dst,x.src,x.imm]
   else if x.op=133 then zB [x.dst,x.src,x.off]&&inB x.imm 1 5
   else if x.op=149 then zB [x.dst,x.src,x.off,x.imm]
   else if x.op=24 then qu x
   else if szO x.op=0 then false
   else if cls x.op=2 then decide (x.src=0)
   else decide (x.imm=0):=by rw[hF,hA,hJ];rfl
 have hdst:Hs x=if A=true∨cls x.op=1∨x.op=24 then 9 else 10:=by rw[hA];rfl
 clear hJ hj
 by_cases h24:x.op=24
 ·have h1:¬cls x.op=1:=by rw[h24,cls24];decide
  cases A with
  |true=>
   have hAt:=hAt rfl;have hd:Hs x=9:=by rw[hdst];simp
   rw[hd] at hF;have kf:=kF 9;rw[←hF] at kf;clear kF hF
   cases F with
   |false=>
    rw[show ga x=false from by rw[hins];simp];refine aL rfl Try.func35 s35 (Nat.le_of_ble_eq_true rfl) (λQ hqr hqn=>?_);rw[bf (show An.pure 35=true from rfl) (by simp only[cans,aG,az,aC,aH,aC,inE.can])];simp only[aO,Nat.reduceAdd,c35]
    repeat' (first
    |with_reducible (first|refine ai ?_|refine au rfl ?_|refine b6 ?_)
    |(with_reducible (first|(refine ah (λK hK=>?_);(first|refine ld ?_|refine lf ?_|refine lp ?_|refine l5 ?_|refine mo ?_|refine p3 ?_|refine ms ?_|refine Lt ?_))|refine hqr _ ?_);(try simp only[b9,if_true,if_false,Nat.reduceEqDiff,ap,aJ,dg,qO,qP,ba,ik,Nat.reduceAdd,Nat.zero_add,cb,List.drop_zero,eX,kM,cw,List.getElem?_cons_zero,List.getElem?_cons_succ,fc,qz,bI,Option.map_some,ic,Bool.not_false,fe,dT,List.take_zero,List.take_succ_cons,List.length_cons,List.length_nil,Nat.le_refl,gi,if_false,if_true,r35,aQ,ak,aD,Option.bind_some,am,jx,aV,inC,kJ,kA,kC,ne_eq,eq_true h24,kf,w9]))
    |(revert hK;intro hK;(with_reducible refine hK _ ?_;clear hK K)))
    all_goals first|rfl|simp_all
   |true=>
    rw[show ga x=Hp x (hi x.op) (decide (cls x.op=7)) from by rw[hins];simp[h24]];refine aL rfl Try.func35 s35 (Nat.le_of_ble_eq_true rfl) (λQ hqr hqn=>?_);rw[bf (show An.pure 35=true from rfl) (by simp only[cans,aG,az,aC,aH,aC,inE.can])];simp only[aO,Nat.reduceAdd,c35]
    repeat' (first
    |with_reducible (first|refine ai ?_|refine ar ?_|refine au rfl ?_|refine ax rfl ?_|refine bc rfl ?_|refine aF ?_|refine aj (id:=0) (λQ0 hn0 hx0 hr0 ho0=>?_)|refine hr0 _ ?_)
    |(with_reducible (first|(refine ah (λK hK=>?_);(first|refine ld ?_|refine lf ?_|refine lp ?_|refine l5 ?_|refine mo ?_|refine p3 ?_|refine ms ?_|refine oh ?_|refine t35r9 ?_))|refine hqr _ ?_);(try simp only[true_implies,false_implies,not_true_eq_false,b9,if_true,if_false,Nat.reduceEqDiff,ap,aJ,dg,qO,qP,ba,ik,Nat.reduceAdd,Nat.zero_add,cb,List.drop_zero,eX,kM,cw,List.getElem?_cons_zero,List.getElem?_cons_succ,br,fc,nL,qz,qy,lw,Option.map_some,ic,gf,Bool.not_true,dU,fe,dT,List.take_zero,List.take_succ_cons,List.length_cons,List.length_nil,and_true,Nat.le_refl,gi,if_false,if_true,r35,aQ,ak,aD,Option.bind_some,am,jx,aV,inC,kJ,kA,kC,ne_eq,eq_true h24,kf,w9,kL,hAt]))
    |(revert hK;intro hK;(with_reducible refine hK _ ?_;clear hK K)))
    all_goals first|rfl|simp_all
  |false=>
   have hd:Hs x=9:=by rw[hdst];simp[h24]
   rw[hd] at hF;have kf:=kF 9;rw[←hF] at kf;clear kF hF
   cases F with
   |false=>
    rw[show ga x=false from by rw[hins];simp];refine aL rfl Try.func35 s35 (Nat.le_of_ble_eq_true rfl) (λQ hqr hqn=>?_);rw[bf (show An.pure 35=true from rfl) (by simp only[cans,aG,az,aC,aH,aC,inE.can])];simp only[aO,Nat.reduceAdd,c35]
    repeat' (first
    |with_reducible (first|refine ai ?_|refine au rfl ?_|refine b6 ?_)
    |(with_reducible (first|(refine ah (λK hK=>?_);(first|refine ld ?_|refine lf ?_|refine lp ?_|refine l5 ?_|refine mo ?_|refine p3 ?_|refine ms ?_|refine Lt ?_))|refine hqr _ ?_);(try simp only[true_implies,false_implies,not_true_eq_false,not_false_eq_true,b9,if_true,if_false,Nat.reduceEqDiff,ap,aJ,dg,qO,qP,ba,ik,Nat.reduceAdd,Nat.zero_add,cb,List.drop_zero,eX,kM,cw,List.getElem?_cons_zero,List.getElem?_cons_succ,gT,fc,qz,qy,bI,Option.map_some,ic,gf,Bool.not_false,dU,fe,dT,List.take_zero,List.take_succ_cons,List.length_cons,List.length_nil,and_true,true_and,Nat.le_refl,gi,if_false,if_true,r35,aQ,ak,aD,Option.bind_some,am,jx,aV,inC,kJ,kA,kC,ne_eq,eq_true h24,h1,kf,w9]))
    |(revert hK;intro hK;(with_reducible refine hK _ ?_;clear hK K)))
    all_goals first|rfl|simp_all
   |true=>
    cases J with
    |true=>
     rw[show ga x=tQ x from by rw[hins];simp[h24,h1]];refine aL rfl Try.func35 s35 (Nat.le_of_ble_eq_true rfl) (λQ hqr hqn=>?_);rw[bf (show An.pure 35=true from rfl) (by simp only[cans,aG,az,aC,aH,aC,inE.can])];simp only[aO,Nat.reduceAdd,c35]
     repeat' (first
     |with_reducible (first|refine ai ?_|refine ar ?_|refine au rfl ?_|refine ax rfl ?_|refine bc rfl ?_|refine d7 rfl ?_|refine aF ?_|refine aj (id:=0) (λQ0 hn0 hx0 hr0 ho0=>?_)|refine hr0 _ ?_)
     |(with_reducible (first|(refine ah (λK hK=>?_);(first|refine ld ?_|refine lf ?_|refine lp ?_|refine l5 ?_|refine mo ?_|refine p3 ?_|refine ms ?_|refine oh ?_|refine nh ?_|refine Nz ?_))|refine hqr _ ?_);(try simp only[true_implies,false_implies,not_true_eq_false,not_false_eq_true,b9,if_true,if_false,Nat.reduceEqDiff,ap,aJ,dg,qO,qP,ba,ik,Nat.reduceAdd,Nat.zero_add,cb,List.drop_zero,eX,kM,cw,List.getElem?_cons_zero,List.getElem?_cons_succ,gT,br,fc,nL,qz,qy,lw,Option.map_some,ic,gf,Bool.not_true,dU,fe,dT,List.take_zero,List.take_succ_cons,List.length_cons,List.length_nil,and_true,true_and,Nat.le_refl,gi,if_false,if_true,r35,aQ,ak,aD,Option.bind_some,am,jx,aV,inC,kJ,kA,kC,ne_eq,eq_true h24,h1,kf,w9,kO]))
     |(revert hK;intro hK;(with_reducible refine hK _ ?_;clear hK K)))
     all_goals first|rfl|simp_all
    |false=>
     rw[show ga x=qu x from by rw[hins];simp[h24,h1]];refine aL rfl Try.func35 s35 (Nat.le_of_ble_eq_true rfl) (λQ hqr hqn=>?_);rw[bf (show An.pure 35=true from rfl) (by simp only[cans,aG,az,aC,aH,aC,inE.can])];simp only[aO,Nat.reduceAdd,c35]
     repeat' (first
     |with_reducible (first|refine ai ?_|refine ar ?_|refine au rfl ?_|refine ax rfl ?_|refine bc rfl ?_|refine d7 rfl ?_|refine aF ?_|refine aj (id:=0) (λQ0 hn0 hx0 hr0 ho0=>?_)|refine hr0 _ ?_)
     |(with_reducible (first|(refine ah (λK hK=>?_);(first|refine ld ?_|refine lf ?_|refine lp ?_|refine l5 ?_|refine mo ?_|refine p3 ?_|refine ms ?_|refine oh ?_|refine nh ?_|refine nW ?_|refine ra ?_|refine Ks ?_|refine Li ?_|refine t35r19 ?_))|refine hqr _ ?_);(try simp only[true_implies,false_implies,not_true_eq_false,not_false_eq_true,b9,if_true,if_false,Nat.reduceEqDiff,ap,aJ,dg,qO,qP,ba,ik,Nat.reduceAdd,Nat.zero_add,cb,List.drop_zero,eX,kM,cw,List.getElem?_cons_zero,List.getElem?_cons_succ,gT,br,fc,nL,qz,qy,lw,Option.map_some,ic,gf,Bool.not_true,dU,fe,dT,List.take_zero,List.take_succ_cons,List.length_cons,List.length_nil,and_true,true_and,Nat.le_refl,gi,if_false,if_true,r35,aQ,ak,aD,Option.bind_some,am,jx,aV,inC,kJ,kA,kC,ne_eq,eq_true h24,h1,kf,w9,kT]))
     |(revert hK;intro hK;(first|refine And.intro ?_ ?_|intro _|omega|(with_reducible refine hK _ ?_;clear hK K))))
     all_goals first|rfl|simp_all
 ·cases A with
  |true=>
   have hAt:=hAt rfl;have hd:Hs x=9:=by rw[hdst];simp
   rw[hd] at hF;have kf:=kF 9;rw[←hF] at kf;clear kF hF
   cases F with
   |false=>
    rw[show ga x=false from by rw[hins];simp];refine aL rfl Try.func35 s35 (Nat.le_of_ble_eq_true rfl) (λQ hqr hqn=>?_);rw[bf (show An.pure 35=true from rfl) (by simp only[cans,aG,az,aC,aH,aC,inE.can])];simp only[aO,Nat.reduceAdd,c35]
    repeat' (first
    |with_reducible (first|refine ai ?_|refine au rfl ?_|refine b6 ?_)
    |(with_reducible (first|(refine ah (λK hK=>?_);(first|refine ld ?_|refine lf ?_|refine lp ?_|refine l5 ?_|refine mo ?_|refine p3 ?_|refine ms ?_|refine Lt ?_))|refine hqr _ ?_);(try simp only[b9,if_true,if_false,Nat.reduceEqDiff,ap,aJ,dg,qO,qP,ba,ik,Nat.reduceAdd,Nat.zero_add,cb,List.drop_zero,eX,kM,cw,List.getElem?_cons_zero,List.getElem?_cons_succ,fc,qz,bI,Option.map_some,ic,Bool.not_false,fe,dT,List.take_zero,List.take_succ_cons,List.length_cons,List.length_nil,Nat.le_refl,gi,if_false,if_true,r35,aQ,ak,aD,Option.bind_some,am,jx,aV,inC,kJ,kA,kC,ne_eq,h24,kf,w9]))
    |(revert hK;intro hK;(with_reducible refine hK _ ?_;clear hK K)))
    all_goals first|rfl|simp_all
   |true=>
    by_cases hw:x.wide=0
    ·skip
     rw[show ga x=Hp x (hi x.op) (decide (cls x.op=7)) from by rw[hins];simp[hw]];refine aL rfl Try.func35 s35 (Nat.le_of_ble_eq_true rfl) (λQ hqr hqn=>?_);rw[bf (show An.pure 35=true from rfl) (by simp only[cans,aG,az,aC,aH,aC,inE.can])];simp only[aO,Nat.reduceAdd,c35]
     repeat' (first
     |with_reducible (first|refine ai ?_|refine ar ?_|refine au rfl ?_|refine ax rfl ?_|refine bc rfl ?_|refine aF ?_|refine aj (id:=0) (λQ0 hn0 hx0 hr0 ho0=>?_)|refine hr0 _ ?_)
     |(with_reducible (first|(refine ah (λK hK=>?_);(first|refine ld ?_|refine lf ?_|refine lp ?_|refine l5 ?_|refine mo ?_|refine p3 ?_|refine ms ?_|refine oh ?_|refine t35r9 ?_))|refine hqr _ ?_);(try simp only[true_implies,false_implies,not_true_eq_false,not_false_eq_true,b9,if_true,if_false,Nat.reduceEqDiff,ap,aJ,dg,qO,qP,ba,ik,Nat.reduceAdd,Nat.zero_add,cb,List.drop_zero,eX,kM,cw,List.getElem?_cons_zero,List.getElem?_cons_succ,br,fc,nL,qz,qy,lw,Option.map_some,ic,gf,Bool.not_true,dU,fe,dT,List.take_zero,List.take_succ_cons,List.length_cons,List.length_nil,and_true,true_and,Nat.le_refl,gi,if_false,if_true,r35,aQ,ak,aD,Option.bind_some,am,jx,aV,inC,kJ,kA,kC,ne_eq,h24,kf,w9,eq_true hw,kL,hAt]))
     |(revert hK;intro hK;(with_reducible refine hK _ ?_;clear hK K)))
     all_goals first|rfl|simp_all
    ·skip
     rw[show ga x=false from by rw[hins];simp[hw,h24]];refine aL rfl Try.func35 s35 (Nat.le_of_ble_eq_true rfl) (λQ hqr hqn=>?_);rw[bf (show An.pure 35=true from rfl) (by simp only[cans,aG,az,aC,aH,aC,inE.can])];simp only[aO,Nat.reduceAdd,c35]
     repeat' (first
     |with_reducible (first|refine ai ?_|refine au rfl ?_|refine b6 ?_)
     |(with_reducible (first|(refine ah (λK hK=>?_);(first|refine ld ?_|refine lf ?_|refine lp ?_|refine l5 ?_|refine mo ?_|refine p3 ?_|refine ms ?_|refine Lt ?_))|refine hqr _ ?_);(try simp only[true_implies,false_implies,not_false_eq_true,b9,if_true,if_false,Nat.reduceEqDiff,ap,aJ,dg,qO,qP,ba,ik,Nat.reduceAdd,Nat.zero_add,cb,List.drop_zero,eX,kM,cw,List.getElem?_cons_zero,List.getElem?_cons_succ,br,fc,nL,qz,qy,lw,Option.map_some,ic,gf,Bool.not_true,dU,fe,dT,List.take_zero,List.take_succ_cons,List.length_cons,List.length_nil,true_and,Nat.le_refl,gi,if_false,if_true,r35,aQ,ak,aD,Option.bind_some,am,jx,aV,inC,kJ,kA,kC,ne_eq,h24,kf,w9,hw]))
     |(revert hK;intro hK;(with_reducible refine hK _ ?_;clear hK K)))
     all_goals first|rfl|simp_all
  |false=>
   by_cases h1:cls x.op=1
   ·skip
    have hd:Hs x=9:=by rw[hdst];simp[h1]
    rw[hd] at hF;have kf:=kF 9;rw[←hF] at kf;clear kF hF
    cases F with
    |false=>
     rw[show ga x=false from by rw[hins];simp];refine aL rfl Try.func35 s35 (Nat.le_of_ble_eq_true rfl) (λQ hqr hqn=>?_);rw[bf (show An.pure 35=true from rfl) (by simp only[cans,aG,az,aC,aH,aC,inE.can])];simp only[aO,Nat.reduceAdd,c35]
     repeat' (first
     |with_reducible (first|refine ai ?_|refine au rfl ?_|refine b6 ?_)
     |(with_reducible (first|(refine ah (λK hK=>?_);(first|refine ld ?_|refine lf ?_|refine lp ?_|refine l5 ?_|refine mo ?_|refine p3 ?_|refine ms ?_|refine Lt ?_))|refine hqr _ ?_);(try simp only[true_implies,false_implies,not_true_eq_false,not_false_eq_true,b9,if_true,if_false,Nat.reduceEqDiff,ap,aJ,dg,qO,qP,ba,ik,Nat.reduceAdd,Nat.zero_add,cb,List.drop_zero,eX,kM,cw,List.getElem?_cons_zero,List.getElem?_cons_succ,gT,fc,qz,qy,bI,Option.map_some,ic,gf,Bool.not_false,dU,fe,dT,List.take_zero,List.take_succ_cons,List.length_cons,List.length_nil,and_true,true_and,Nat.le_refl,gi,if_false,if_true,r35,aQ,ak,aD,Option.bind_some,am,jx,aV,inC,kJ,kA,kC,ne_eq,h24,h1,kf,w9]))
     |(revert hK;intro hK;(with_reducible refine hK _ ?_;clear hK K)))
     all_goals first|rfl|simp_all
    |true=>
     by_cases hw:x.wide=0
     ·skip
      cases J with
      |true=>
       rw[show ga x=tQ x from by rw[hins];simp[h24,h1,hw]];refine aL rfl Try.func35 s35 (Nat.le_of_ble_eq_true rfl) (λQ hqr hqn=>?_);rw[bf (show An.pure 35=true from rfl) (by simp only[cans,aG,az,aC,aH,aC,inE.can])];simp only[aO,Nat.reduceAdd,c35]
       repeat' (first
       |with_reducible (first|refine ai ?_|refine ar ?_|refine au rfl ?_|refine ax rfl ?_|refine bc rfl ?_|refine d7 rfl ?_|refine aF ?_|refine aj (id:=0) (λQ0 hn0 hx0 hr0 ho0=>?_)|refine hr0 _ ?_)
       |(with_reducible (first|(refine ah (λK hK=>?_);(first|refine ld ?_|refine lf ?_|refine lp ?_|refine l5 ?_|refine mo ?_|refine p3 ?_|refine ms ?_|refine oh ?_|refine nh ?_|refine Nz ?_))|refine hqr _ ?_);(try simp only[true_implies,false_implies,not_true_eq_false,not_false_eq_true,b9,if_true,if_false,Nat.reduceEqDiff,ap,aJ,dg,qO,qP,ba,ik,Nat.reduceAdd,Nat.zero_add,cb,List.drop_zero,eX,kM,cw,List.getElem?_cons_zero,List.getElem?_cons_succ,gT,br,fc,nL,qz,qy,lw,Option.map_some,ic,gf,Bool.not_true,dU,fe,dT,List.take_zero,List.take_succ_cons,List.length_cons,List.length_nil,and_true,true_and,Nat.le_refl,gi,if_false,if_true,r35,aQ,ak,aD,Option.bind_some,am,jx,aV,inC,kJ,kA,kC,ne_eq,h24,h1,kf,w9,eq_true hw,kO]))
       |(revert hK;intro hK;(with_reducible refine hK _ ?_;clear hK K)))
       all_goals first|rfl|simp_all
      |false=>
       by_cases h5:x.op=5
       ·skip
        rw[show ga x=zB [x.dst,x.src,x.imm] from by rw[hins];simp[h24,h1,hw,h5]];refine aL rfl Try.func35 s35 (Nat.le_of_ble_eq_true rfl) (λQ hqr hqn=>?_);rw[bf (show An.pure 35=true from rfl) (by simp only[cans,aG,az,aC,aH,aC,inE.can])];simp only[aO,Nat.reduceAdd,c35]
        repeat' (first
        |with_reducible (first|refine ai ?_|refine ar ?_|refine au rfl ?_|refine ax rfl ?_|refine bc rfl ?_|refine d7 rfl ?_|refine aF ?_|refine aj (id:=0) (λQ0 hn0 hx0 hr0 ho0=>?_)|refine hr0 _ ?_)
        |(with_reducible (first|(refine ah (λK hK=>?_);(first|refine ld ?_|refine lf ?_|refine lp ?_|refine l5 ?_|refine mo ?_|refine p3 ?_|refine ms ?_|refine oh ?_|refine nh ?_|refine nW ?_|refine QH ?_))|refine hqr _ ?_);(try simp only[true_implies,false_implies,not_true_eq_false,not_false_eq_true,b9,if_true,if_false,Nat.reduceEqDiff,ap,aJ,dg,qO,qP,dj,ef,bv,aR,ba,ik,Nat.reduceAdd,Nat.zero_add,cb,List.drop_zero,eX,kM,cw,List.getElem?_cons_zero,List.getElem?_cons_succ,gT,br,fc,nL,qz,qy,lw,Option.map_some,ic,gf,Bool.not_true,dU,fe,dT,cD,bg,be,bF,ay,List.take_zero,List.take_succ_cons,List.drop_succ_cons,List.drop_nil,List.nil_append,List.cons_append,List.length_cons,List.length_nil,Nat.reduceLeDiff,and_true,true_and,Nat.le_refl,gi,cz,List.all_cons,List.all_nil,Bool.and_self,if_false,if_true,r35,aQ,ak,aD,Option.bind_some,am,jx,aV,inC,kJ,kA,kC,ne_eq,h24,h1,kf,w9,eq_true hw,eq_true h5,n3a,n3b]))
        |(revert hK;intro hK;(with_reducible refine hK _ ?_;clear hK K)))
        all_goals first|rfl|simp_all
       by_cases h133:x.op=133
       ·cases hz:zB [x.dst,x.src,x.off] with
        |false=>
         rw[show ga x=false from by rw[hins];simp[h24,h1,hw,h133,hz]];refine aL rfl Try.func35 s35 (Nat.le_of_ble_eq_true rfl) (λQ hqr hqn=>?_);rw[bf (show An.pure 35=true from rfl) (by simp only[cans,aG,az,aC,aH,aC,inE.can])];simp only[aO,Nat.reduceAdd,c35]
         repeat' (first
         |with_reducible (first|refine ai ?_|refine ar ?_|refine au rfl ?_|refine ax rfl ?_|refine bc rfl ?_|refine d7 rfl ?_|refine aF ?_|refine aj (id:=0) (λQ0 hn0 hx0 hr0 ho0=>?_)|refine hr0 _ ?_)
         |(with_reducible (first|(refine ah (λK hK=>?_);(first|refine ld ?_|refine lf ?_|refine lp ?_|refine l5 ?_|refine mo ?_|refine p3 ?_|refine ms ?_|refine oh ?_|refine nh ?_|refine nW ?_|refine ra ?_|refine MA ?_))|refine hqr _ ?_);(try simp only[true_implies,false_implies,not_true_eq_false,not_false_eq_true,b9,if_true,if_false,Nat.reduceEqDiff,ap,aJ,dg,qO,qP,dj,ef,bv,aR,ba,ik,Nat.reduceAdd,Nat.zero_add,cb,List.drop_zero,eX,kM,cw,List.getElem?_cons_zero,List.getElem?_cons_succ,gT,br,fc,nL,qz,qy,lw,Option.map_some,ic,gf,Bool.not_true,dU,fe,dT,cD,bg,be,bF,ay,List.take_zero,List.take_succ_cons,List.drop_succ_cons,List.drop_nil,List.nil_append,List.cons_append,List.length_cons,List.length_nil,Nat.reduceLeDiff,and_true,true_and,Nat.le_refl,gi,cz,List.all_cons,List.all_nil,Bool.and_self,if_false,if_true,r35,aQ,ak,aD,Option.bind_some,am,jx,aV,inC,kJ,kA,kC,ne_eq,h24,h1,kf,w9,eq_true hw,h5,eq_true h133,n3a,n3b,hz]))
         |(revert hK;intro hK;(with_reducible refine hK _ ?_;clear hK K)))
         all_goals first|rfl|simp_all
        |true=>
         rw[show ga x=inB x.imm 1 5 from by rw[hins];simp[h24,h1,hw,h133,hz]];refine aL rfl Try.func35 s35 (Nat.le_of_ble_eq_true rfl) (λQ hqr hqn=>?_);rw[bf (show An.pure 35=true from rfl) (by simp only[cans,aG,az,aC,aH,aC,inE.can])];simp only[aO,Nat.reduceAdd,c35]
         repeat' (first
         |with_reducible (first|refine ai ?_|refine ar ?_|refine au rfl ?_|refine ax rfl ?_|refine bc rfl ?_|refine d7 rfl ?_|refine aF ?_|refine aj (id:=0) (λQ0 hn0 hx0 hr0 ho0=>?_)|refine hr0 _ ?_)
         |(with_reducible (first|(refine ah (λK hK=>?_);(first|refine ld ?_|refine lf ?_|refine lp ?_|refine l5 ?_|refine mo ?_|refine p3 ?_|refine ms ?_|refine oh ?_|refine nh ?_|refine nW ?_|refine ra ?_|refine MA ?_))|refine hqr _ ?_);(try simp only[true_implies,false_implies,not_true_eq_false,not_false_eq_true,b9,if_true,if_false,Nat.reduceEqDiff,ap,aJ,dg,qO,qP,dj,ef,bv,aR,ba,ik,Nat.reduceAdd,Nat.zero_add,cb,List.drop_zero,eX,kM,cw,List.getElem?_cons_zero,List.getElem?_cons_succ,gT,br,fc,nL,qz,qy,lw,Option.map_some,ic,gf,Bool.not_true,dU,fe,dT,cD,bg,be,bF,ay,List.take_zero,List.take_succ_cons,List.drop_succ_cons,List.drop_nil,List.nil_append,List.cons_append,List.length_cons,List.length_nil,Nat.reduceLeDiff,and_true,true_and,Nat.le_refl,gi,cz,List.all_cons,List.all_nil,Bool.and_self,if_false,if_true,r35,aQ,ak,aD,Option.bind_some,am,jx,aV,inC,kJ,kA,kC,ne_eq,h24,h1,kf,w9,eq_true hw,h5,eq_true h133,n3a,n3b,hz,kW]))
         |(revert hK;intro hK;(with_reducible refine hK _ ?_;clear hK K)))
         all_goals first|rfl|simp_all
       by_cases h149:x.op=149
       ·skip
        rw[show ga x=zB [x.dst,x.src,x.off,x.imm] from by rw[hins];simp[h24,h1,hw,h149]];refine aL rfl Try.func35 s35 (Nat.le_of_ble_eq_true rfl) (λQ hqr hqn=>?_);rw[bf (show An.pure 35=true from rfl) (by simp only[cans,aG,az,aC,aH,aC,inE.can])];simp only[aO,Nat.reduceAdd,c35]
        repeat' (first
        |with_reducible (first|refine ai ?_|refine ar ?_|refine au rfl ?_|refine ax rfl ?_|refine bc rfl ?_|refine d7 rfl ?_|refine aF ?_|refine aj (id:=0) (λQ0 hn0 hx0 hr0 ho0=>?_)|refine hr0 _ ?_)
        |(with_reducible (first|(refine ah (λK hK=>?_);(first|refine ld ?_|refine lf ?_|refine lp ?_|refine l5 ?_|refine mo ?_|refine p3 ?_|refine ms ?_|refine oh ?_|refine nh ?_|refine nW ?_|refine ra ?_|refine Ks ?_|refine QI ?_))|refine hqr _ ?_);(try simp only[true_implies,false_implies,not_true_eq_false,not_false_eq_true,b9,if_true,if_false,Nat.reduceEqDiff,ap,aJ,dg,qO,qP,dj,ef,bv,aR,ba,ik,Nat.reduceAdd,Nat.zero_add,cb,List.drop_zero,eX,kM,cw,List.getElem?_cons_zero,List.getElem?_cons_succ,gT,br,fc,nL,qz,qy,lw,Option.map_some,ic,gf,Bool.not_true,dU,fe,dT,cD,bg,be,bF,ay,List.take_zero,List.take_succ_cons,List.drop_succ_cons,List.drop_nil,List.nil_append,List.cons_append,List.length_cons,List.length_nil,Nat.reduceLeDiff,and_true,true_and,Nat.le_refl,gi,cz,List.all_cons,List.all_nil,Bool.and_self,if_false,if_true,r35,aQ,ak,aD,Option.bind_some,am,jx,aV,inC,kJ,kA,kC,ne_eq,h24,h1,kf,w9,eq_true hw,h5,h133,eq_true h149,n4]))
        |(revert hK;intro hK;(with_reducible refine hK _ ?_;clear hK K)))
        all_goals first|rfl|simp_all
       by_cases hs:szO x.op=0
       ·skip
        rw[show ga x=false from by rw[hins];simp[h24,h1,hw,h5,h133,h149,hs]];refine aL rfl Try.func35 s35 (Nat.le_of_ble_eq_true rfl) (λQ hqr hqn=>?_);rw[bf (show An.pure 35=true from rfl) (by simp only[cans,aG,az,aC,aH,aC,inE.can])];simp only[aO,Nat.reduceAdd,c35]
        repeat' (first
        |with_reducible (first|refine ai ?_|refine ar ?_|refine au rfl ?_|refine ax rfl ?_|refine bc rfl ?_|refine d7 rfl ?_|refine aF ?_|refine aj (id:=0) (λQ0 hn0 hx0 hr0 ho0=>?_)|refine hr0 _ ?_)
        |(with_reducible (first|(refine ah (λK hK=>?_);(first|refine ld ?_|refine lf ?_|refine lp ?_|refine l5 ?_|refine mo ?_|refine p3 ?_|refine ms ?_|refine oh ?_|refine nh ?_|refine nW ?_|refine ra ?_|refine Ks ?_|refine Li ?_|refine LY ?_|refine QJ ?_))|refine hqr _ ?_);(try simp only[true_implies,false_implies,not_true_eq_false,not_false_eq_true,b9,if_true,if_false,Nat.reduceEqDiff,ap,aJ,dg,qO,qP,ba,ik,Nat.reduceAdd,Nat.zero_add,cb,List.drop_zero,eX,kM,cw,List.getElem?_cons_zero,List.getElem?_cons_succ,gT,br,fc,nL,qz,qy,lw,Option.map_some,ic,gf,Bool.not_true,dU,fe,dT,List.take_zero,List.take_succ_cons,List.length_cons,List.length_nil,and_true,true_and,Nat.le_refl,gi,if_false,if_true,r35,aQ,ak,aD,Option.bind_some,am,jx,aV,inC,kJ,kA,kC,ne_eq,h24,h1,kf,w9,eq_true hw,h5,h133,h149,kS,hs]))
        |(revert hK;intro hK;(with_reducible refine hK _ ?_;clear hK K)))
        all_goals first|rfl|simp_all
       rw[show ga x=decide (x.imm=0) from by rw[hins];simp[h24,h1,hw,h5,h133,h149,hs]];refine aL rfl Try.func35 s35 (Nat.le_of_ble_eq_true rfl) (λQ hqr hqn=>?_);rw[bf (show An.pure 35=true from rfl) (by simp only[cans,aG,az,aC,aH,aC,inE.can])];simp only[aO,Nat.reduceAdd,c35]
       repeat' (first
       |with_reducible (first|refine ai ?_|refine ar ?_|refine au rfl ?_|refine ax rfl ?_|refine d7 rfl ?_|refine aF ?_|refine bx ?_|refine aj (id:=0) (λQ0 hn0 hx0 hr0 ho0=>?_)|refine hn0 _ ?_)
       |(with_reducible (first|(refine ah (λK hK=>?_);(first|refine ld ?_|refine lf ?_|refine lp ?_|refine l5 ?_|refine mo ?_|refine p3 ?_|refine ms ?_|refine oh ?_|refine nh ?_|refine nW ?_|refine ra ?_|refine Ks ?_|refine Li ?_|refine LY ?_|refine NA ?_|refine QK ?_))|refine hqr _ ?_);(try simp only[true_implies,false_implies,not_true_eq_false,not_false_eq_true,b9,if_true,if_false,Nat.reduceEqDiff,ap,aJ,dg,qO,qP,dj,ef,bv,aR,ba,ik,Nat.reduceAdd,Nat.zero_add,cb,List.drop_zero,eX,kM,cw,List.getElem?_cons_zero,List.getElem?_cons_succ,gT,br,fc,nL,qz,qy,lw,Option.map_some,ic,gf,Bool.not_true,dU,fe,dT,cD,bg,be,bF,ay,List.take_zero,List.take_succ_cons,List.drop_succ_cons,List.drop_nil,List.nil_append,List.append_nil,List.length_cons,List.length_nil,and_true,true_and,Nat.le_refl,gi,cz,List.all_cons,List.all_nil,Bool.and_self,if_false,if_true,r35,aQ,ak,aD,Option.bind_some,am,jx,aV,inC,kJ,kA,kC,ne_eq,h24,h1,kf,w9,eq_true hw,h5,h133,h149,kS,hs,n1a,n1b]))
       |(revert hK;intro hK;(first|refine And.intro ?_ ?_|intro _|omega|(with_reducible refine hK _ ?_;clear hK K))))
       all_goals first|rfl|simp_all
     ·skip
      rw[show ga x=false from by rw[hins];simp[hw,h24]];refine aL rfl Try.func35 s35 (Nat.le_of_ble_eq_true rfl) (λQ hqr hqn=>?_);rw[bf (show An.pure 35=true from rfl) (by simp only[cans,aG,az,aC,aH,aC,inE.can])];simp only[aO,Nat.reduceAdd,c35]
      repeat' (first
      |with_reducible (first|refine ai ?_|refine au rfl ?_|refine b6 ?_)
      |(with_reducible (first|(refine ah (λK hK=>?_);(first|refine ld ?_|refine lf ?_|refine lp ?_|refine l5 ?_|refine mo ?_|refine p3 ?_|refine ms ?_|refine Lt ?_))|refine hqr _ ?_);(try simp only[true_implies,false_implies,not_true_eq_false,not_false_eq_true,b9,if_true,if_false,Nat.reduceEqDiff,ap,aJ,dg,qO,qP,ba,ik,Nat.reduceAdd,Nat.zero_add,cb,List.drop_zero,eX,kM,cw,List.getElem?_cons_zero,List.getElem?_cons_succ,gT,br,fc,nL,qz,qy,lw,Option.map_some,ic,gf,Bool.not_true,dU,fe,dT,List.take_zero,List.take_succ_cons,List.length_cons,List.length_nil,and_true,true_and,Nat.le_refl,gi,if_false,if_true,r35,aQ,ak,aD,Option.bind_some,am,jx,aV,inC,kJ,kA,kC,ne_eq,h24,h1,kf,w9,hw]))
      |(revert hK;intro hK;(with_reducible refine hK _ ?_;clear hK K)))
      all_goals first|rfl|simp_all
   ·skip
    have hd:Hs x=10:=by rw[hdst];simp[h1,h24]
    rw[hd] at hF;have kf:=kF 10;rw[←hF] at kf;clear kF hF
    cases F with
    |false=>
     rw[show ga x=false from by rw[hins];simp];refine aL rfl Try.func35 s35 (Nat.le_of_ble_eq_true rfl) (λQ hqr hqn=>?_);rw[bf (show An.pure 35=true from rfl) (by simp only[cans,aG,az,aC,aH,aC,inE.can])];simp only[aO,Nat.reduceAdd,c35]
     repeat' (first
     |with_reducible (first|refine ai ?_|refine ar ?_|refine au rfl ?_|refine ax rfl ?_|refine b6 ?_)
     |(with_reducible (first|(refine ah (λK hK=>?_);(first|refine ld ?_|refine lf ?_|refine lp ?_|refine l5 ?_|refine mo ?_|refine ms ?_|refine Lt ?_))|refine hqr _ ?_);(try simp only[true_implies,false_implies,not_false_eq_true,b9,if_true,if_false,Nat.reduceEqDiff,ap,aJ,dg,qO,qP,ba,ik,Nat.reduceAdd,Nat.zero_add,cb,List.drop_zero,eX,kM,cw,List.getElem?_cons_zero,List.getElem?_cons_succ,gT,fc,qz,qy,bI,Option.map_some,ic,gf,Bool.not_false,dU,dT,List.take_zero,List.take_succ_cons,List.length_cons,List.length_nil,true_and,Nat.le_refl,gi,if_false,if_true,r35,aQ,ak,aD,Option.bind_some,am,jx,aV,inC,kJ,kA,kC,ne_eq,h24,h1,kf,w9]))
     |(revert hK;intro hK;(with_reducible refine hK _ ?_;clear hK K)))
     all_goals first|rfl|simp_all
    |true=>
     by_cases hw:x.wide=0
     ·skip
      cases J with
      |true=>
       rw[show ga x=tQ x from by rw[hins];simp[h24,h1,hw]];refine aL rfl Try.func35 s35 (Nat.le_of_ble_eq_true rfl) (λQ hqr hqn=>?_);rw[bf (show An.pure 35=true from rfl) (by simp only[cans,aG,az,aC,aH,aC,inE.can])];simp only[aO,Nat.reduceAdd,c35]
       repeat' (first
       |with_reducible (first|refine ai ?_|refine ar ?_|refine ax rfl ?_|refine bc rfl ?_|refine d7 rfl ?_|refine aF ?_|refine aj (id:=0) (λQ0 hn0 hx0 hr0 ho0=>?_)|refine hr0 _ ?_)
       |(with_reducible (first|(refine ah (λK hK=>?_);(first|refine ld ?_|refine lf ?_|refine lp ?_|refine l5 ?_|refine mo ?_|refine ms ?_|refine oh ?_|refine nh ?_|refine Nz ?_))|refine hqr _ ?_);(try simp only[true_implies,false_implies,not_true_eq_false,not_false_eq_true,b9,if_true,if_false,Nat.reduceEqDiff,ap,aJ,dg,qO,qP,ba,ik,Nat.reduceAdd,Nat.zero_add,cb,List.drop_zero,eX,kM,cw,List.getElem?_cons_zero,List.getElem?_cons_succ,gT,br,fc,nL,qz,qy,lw,Option.map_some,ic,gf,Bool.not_true,dU,dT,List.take_zero,List.take_succ_cons,List.length_cons,List.length_nil,and_true,true_and,Nat.le_refl,gi,if_false,if_true,r35,aQ,ak,aD,Option.bind_some,am,jx,aV,inC,kJ,kA,kC,ne_eq,h24,h1,kf,w9,eq_true hw,kO]))
       |(revert hK;intro hK;(with_reducible refine hK _ ?_;clear hK K)))
       all_goals first|rfl|simp_all
      |false=>
       by_cases h5:x.op=5
       ·skip
        rw[show ga x=zB [x.dst,x.src,x.imm] from by rw[hins];simp[h24,h1,hw,h5]];refine aL rfl Try.func35 s35 (Nat.le_of_ble_eq_true rfl) (λQ hqr hqn=>?_);rw[bf (show An.pure 35=true from rfl) (by simp only[cans,aG,az,aC,aH,aC,inE.can])];simp only[aO,Nat.reduceAdd,c35]
        repeat' (first
        |with_reducible (first|refine ai ?_|refine ar ?_|refine ax rfl ?_|refine bc rfl ?_|refine d7 rfl ?_|refine aF ?_|refine aj (id:=0) (λQ0 hn0 hx0 hr0 ho0=>?_)|refine hr0 _ ?_)
        |(with_reducible (first|(refine ah (λK hK=>?_);(first|refine ld ?_|refine lf ?_|refine lp ?_|refine l5 ?_|refine mo ?_|refine ms ?_|refine oh ?_|refine nh ?_|refine nW ?_|refine QH ?_))|refine hqr _ ?_);(try simp only[true_implies,false_implies,not_true_eq_false,not_false_eq_true,b9,if_true,if_false,Nat.reduceEqDiff,ap,aJ,dg,qO,qP,dj,ef,bv,aR,ba,ik,Nat.reduceAdd,Nat.zero_add,cb,List.drop_zero,eX,kM,cw,List.getElem?_cons_zero,List.getElem?_cons_succ,gT,br,fc,nL,qz,qy,lw,Option.map_some,ic,gf,Bool.not_true,dU,dT,cD,bg,be,bF,ay,List.take_zero,List.take_succ_cons,List.drop_succ_cons,List.drop_nil,List.nil_append,List.cons_append,List.length_cons,List.length_nil,Nat.reduceLeDiff,and_true,true_and,Nat.le_refl,gi,cz,List.all_cons,List.all_nil,Bool.and_self,if_false,if_true,r35,aQ,ak,aD,Option.bind_some,am,jx,aV,inC,kJ,kA,kC,ne_eq,h24,h1,kf,w9,eq_true hw,eq_true h5,n3a,n3b]))
        |(revert hK;intro hK;(with_reducible refine hK _ ?_;clear hK K)))
        all_goals first|rfl|simp_all
       by_cases h133:x.op=133
       ·cases hz:zB [x.dst,x.src,x.off] with
        |false=>
         rw[show ga x=false from by rw[hins];simp[h24,h1,hw,h133,hz]];refine aL rfl Try.func35 s35 (Nat.le_of_ble_eq_true rfl) (λQ hqr hqn=>?_);rw[bf (show An.pure 35=true from rfl) (by simp only[cans,aG,az,aC,aH,aC,inE.can])];simp only[aO,Nat.reduceAdd,c35]
         repeat' (first
         |with_reducible (first|refine ai ?_|refine ar ?_|refine ax rfl ?_|refine bc rfl ?_|refine d7 rfl ?_|refine aF ?_|refine aj (id:=0) (λQ0 hn0 hx0 hr0 ho0=>?_)|refine hr0 _ ?_)
         |(with_reducible (first|(refine ah (λK hK=>?_);(first|refine ld ?_|refine lf ?_|refine lp ?_|refine l5 ?_|refine mo ?_|refine ms ?_|refine oh ?_|refine nh ?_|refine nW ?_|refine ra ?_|refine MA ?_))|refine hqr _ ?_);(try simp only[true_implies,false_implies,not_true_eq_false,not_false_eq_true,b9,if_true,if_false,Nat.reduceEqDiff,ap,aJ,dg,qO,qP,dj,ef,bv,aR,ba,ik,Nat.reduceAdd,Nat.zero_add,cb,List.drop_zero,eX,kM,cw,List.getElem?_cons_zero,List.getElem?_cons_succ,gT,br,fc,nL,qz,qy,lw,Option.map_some,ic,gf,Bool.not_true,dU,dT,cD,bg,be,bF,ay,List.take_zero,List.take_succ_cons,List.drop_succ_cons,List.drop_nil,List.nil_append,List.cons_append,List.length_cons,List.length_nil,Nat.reduceLeDiff,and_true,true_and,Nat.le_refl,gi,cz,List.all_cons,List.all_nil,Bool.and_self,if_false,if_true,r35,aQ,ak,aD,Option.bind_some,am,jx,aV,inC,kJ,kA,kC,ne_eq,h24,h1,kf,w9,eq_true hw,h5,eq_true h133,n3a,n3b,hz]))
         |(revert hK;intro hK;(with_reducible refine hK _ ?_;clear hK K)))
         all_goals first|rfl|simp_all
        |true=>
         rw[show ga x=inB x.imm 1 5 from by rw[hins];simp[h24,h1,hw,h133,hz]];refine aL rfl Try.func35 s35 (Nat.le_of_ble_eq_true rfl) (λQ hqr hqn=>?_);rw[bf (show An.pure 35=true from rfl) (by simp only[cans,aG,az,aC,aH,aC,inE.can])];simp only[aO,Nat.reduceAdd,c35]
         repeat' (first
         |with_reducible (first|refine ai ?_|refine ar ?_|refine ax rfl ?_|refine bc rfl ?_|refine d7 rfl ?_|refine aF ?_|refine aj (id:=0) (λQ0 hn0 hx0 hr0 ho0=>?_)|refine hr0 _ ?_)
         |(with_reducible (first|(refine ah (λK hK=>?_);(first|refine ld ?_|refine lf ?_|refine lp ?_|refine l5 ?_|refine mo ?_|refine ms ?_|refine oh ?_|refine nh ?_|refine nW ?_|refine ra ?_|refine MA ?_))|refine hqr _ ?_);(try simp only[true_implies,false_implies,not_true_eq_false,not_false_eq_true,b9,if_true,if_false,Nat.reduceEqDiff,ap,aJ,dg,qO,qP,dj,ef,bv,aR,ba,ik,Nat.reduceAdd,Nat.zero_add,cb,List.drop_zero,eX,kM,cw,List.getElem?_cons_zero,List.getElem?_cons_succ,gT,br,fc,nL,qz,qy,lw,Option.map_some,ic,gf,Bool.not_true,dU,dT,cD,bg,be,bF,ay,List.take_zero,List.take_succ_cons,List.drop_succ_cons,List.drop_nil,List.nil_append,List.cons_append,List.length_cons,List.length_nil,Nat.reduceLeDiff,and_true,true_and,Nat.le_refl,gi,cz,List.all_cons,List.all_nil,Bool.and_self,if_false,if_true,r35,aQ,ak,aD,Option.bind_some,am,jx,aV,inC,kJ,kA,kC,ne_eq,h24,h1,kf,w9,eq_true hw,h5,eq_true h133,n3a,n3b,hz,kW]))
         |(revert hK;intro hK;(with_reducible refine hK _ ?_;clear hK K)))
         all_goals first|rfl|simp_all
       by_cases h149:x.op=149
       ·skip
        rw[show ga x=zB [x.dst,x.src,x.off,x.imm] from by rw[hins];simp[h24,h1,hw,h149]];refine aL rfl Try.func35 s35 (Nat.le_of_ble_eq_true rfl) (λQ hqr hqn=>?_);rw[bf (show An.pure 35=true from rfl) (by simp only[cans,aG,az,aC,aH,aC,inE.can])];simp only[aO,Nat.reduceAdd,c35]
        repeat' (first
        |with_reducible (first|refine ai ?_|refine ar ?_|refine ax rfl ?_|refine bc rfl ?_|refine d7 rfl ?_|refine aF ?_|refine aj (id:=0) (λQ0 hn0 hx0 hr0 ho0=>?_)|refine hr0 _ ?_)
        |(with_reducible (first|(refine ah (λK hK=>?_);(first|refine ld ?_|refine lf ?_|refine lp ?_|refine l5 ?_|refine mo ?_|refine ms ?_|refine oh ?_|refine nh ?_|refine nW ?_|refine ra ?_|refine Ks ?_|refine QI ?_))|refine hqr _ ?_);(try simp only[true_implies,false_implies,not_true_eq_false,not_false_eq_true,b9,if_true,if_false,Nat.reduceEqDiff,ap,aJ,dg,qO,qP,dj,ef,bv,aR,ba,ik,Nat.reduceAdd,Nat.zero_add,cb,List.drop_zero,eX,kM,cw,List.getElem?_cons_zero,List.getElem?_cons_succ,gT,br,fc,nL,qz,qy,lw,Option.map_some,ic,gf,Bool.not_true,dU,dT,cD,bg,be,bF,ay,List.take_zero,List.take_succ_cons,List.drop_succ_cons,List.drop_nil,List.nil_append,List.cons_append,List.length_cons,List.length_nil,Nat.reduceLeDiff,and_true,true_and,Nat.le_refl,gi,cz,List.all_cons,List.all_nil,Bool.and_self,if_false,if_true,r35,aQ,ak,aD,Option.bind_some,am,jx,aV,inC,kJ,kA,kC,ne_eq,h24,h1,kf,w9,eq_true hw,h5,h133,eq_true h149,n4]))
        |(revert hK;intro hK;(with_reducible refine hK _ ?_;clear hK K)))
        all_goals first|rfl|simp_all
       by_cases hs:szO x.op=0
       ·skip
        rw[show ga x=false from by rw[hins];simp[h24,h1,hw,h5,h133,h149,hs]];refine aL rfl Try.func35 s35 (Nat.le_of_ble_eq_true rfl) (λQ hqr hqn=>?_);rw[bf (show An.pure 35=true from rfl) (by simp only[cans,aG,az,aC,aH,aC,inE.can])];simp only[aO,Nat.reduceAdd,c35]
        repeat' (first
        |with_reducible (first|refine ai ?_|refine ar ?_|refine ax rfl ?_|refine bc rfl ?_|refine d7 rfl ?_|refine aF ?_|refine aj (id:=0) (λQ0 hn0 hx0 hr0 ho0=>?_)|refine hr0 _ ?_)
        |(with_reducible (first|(refine ah (λK hK=>?_);(first|refine ld ?_|refine lf ?_|refine lp ?_|refine l5 ?_|refine mo ?_|refine ms ?_|refine oh ?_|refine nh ?_|refine nW ?_|refine ra ?_|refine Ks ?_|refine Li ?_|refine LY ?_|refine QJ ?_))|refine hqr _ ?_);(try simp only[true_implies,false_implies,not_true_eq_false,not_false_eq_true,b9,if_true,if_false,Nat.reduceEqDiff,ap,aJ,dg,qO,qP,ba,ik,Nat.reduceAdd,Nat.zero_add,cb,List.drop_zero,eX,kM,cw,List.getElem?_cons_zero,List.getElem?_cons_succ,gT,br,fc,nL,qz,qy,lw,Option.map_some,ic,gf,Bool.not_true,dU,dT,List.take_zero,List.take_succ_cons,List.length_cons,List.length_nil,and_true,true_and,Nat.le_refl,gi,if_false,if_true,r35,aQ,ak,aD,Option.bind_some,am,jx,aV,inC,kJ,kA,kC,ne_eq,h24,h1,kf,w9,eq_true hw,h5,h133,h149,kS,hs]))
        |(revert hK;intro hK;(with_reducible refine hK _ ?_;clear hK K)))
        all_goals first|rfl|simp_all
       by_cases h2:cls x.op=2
       ·skip
        rw[show ga x=decide (x.src=0) from by rw[hins];simp[h24,h1,hw,h5,h133,h149,hs,h2]];refine aL rfl Try.func35 s35 (Nat.le_of_ble_eq_true rfl) (λQ hqr hqn=>?_);rw[bf (show An.pure 35=true from rfl) (by simp only[cans,aG,az,aC,aH,aC,inE.can])];simp only[aO,Nat.reduceAdd,c35]
        repeat' (first
        |with_reducible (first|refine ai ?_|refine ar ?_|refine ax rfl ?_|refine bc rfl ?_|refine d7 rfl ?_|refine aF ?_|refine aj (id:=0) (λQ0 hn0 hx0 hr0 ho0=>?_)|refine hr0 _ ?_)
        |(with_reducible (first|(refine ah (λK hK=>?_);(first|refine ld ?_|refine lf ?_|refine lp ?_|refine l5 ?_|refine mo ?_|refine ms ?_|refine oh ?_|refine nh ?_|refine nW ?_|refine ra ?_|refine Ks ?_|refine Li ?_|refine LY ?_|refine NA ?_|refine t35r23 ?_))|refine hqr _ ?_);(try simp only[true_implies,false_implies,not_true_eq_false,not_false_eq_true,b9,if_true,if_false,Nat.reduceEqDiff,ap,aJ,dg,qO,qP,dj,ef,bv,aR,ba,ik,Nat.reduceAdd,Nat.zero_add,cb,List.drop_zero,eX,kM,cw,List.getElem?_cons_zero,List.getElem?_cons_succ,gT,br,fc,nL,qz,qy,lw,Option.map_some,ic,gf,Bool.not_true,dU,dT,cD,bg,be,bF,ay,List.take_zero,List.take_succ_cons,List.drop_succ_cons,List.drop_nil,List.nil_append,List.append_nil,List.length_cons,List.length_nil,and_true,true_and,Nat.le_refl,gi,cz,List.all_cons,List.all_nil,Bool.and_self,if_false,if_true,r35,aQ,ak,aD,Option.bind_some,am,jx,aV,inC,kJ,kA,kC,ne_eq,h24,h1,kf,w9,eq_true hw,h5,h133,h149,kS,hs,h2,n1a,n1b]))
        |(revert hK;intro hK;(first|refine And.intro ?_ ?_|intro _|omega|(with_reducible refine hK _ ?_;clear hK K))))
        all_goals first|rfl|simp_all
       rw[show ga x=decide (x.imm=0) from by rw[hins];simp[h24,h1,hw,h5,h133,h149,hs,h2]];refine aL rfl Try.func35 s35 (Nat.le_of_ble_eq_true rfl) (λQ hqr hqn=>?_);rw[bf (show An.pure 35=true from rfl) (by simp only[cans,aG,az,aC,aH,aC,inE.can])];simp only[aO,Nat.reduceAdd,c35]
       repeat' (first
       |with_reducible (first|refine ai ?_|refine ar ?_|refine ax rfl ?_|refine d7 rfl ?_|refine aF ?_|refine bx ?_|refine aj (id:=0) (λQ0 hn0 hx0 hr0 ho0=>?_)|refine hn0 _ ?_)
       |(with_reducible (first|(refine ah (λK hK=>?_);(first|refine ld ?_|refine lf ?_|refine lp ?_|refine l5 ?_|refine mo ?_|refine ms ?_|refine oh ?_|refine nh ?_|refine nW ?_|refine ra ?_|refine Ks ?_|refine Li ?_|refine LY ?_|refine NA ?_|refine QK ?_))|refine hqr _ ?_);(try simp only[true_implies,false_implies,not_true_eq_false,not_false_eq_true,b9,if_true,if_false,Nat.reduceEqDiff,ap,aJ,dg,qO,qP,dj,ef,bv,aR,ba,ik,Nat.reduceAdd,Nat.zero_add,cb,List.drop_zero,eX,kM,cw,List.getElem?_cons_zero,List.getElem?_cons_succ,gT,br,fc,nL,qz,qy,lw,Option.map_some,ic,gf,Bool.not_true,dU,dT,cD,bg,be,bF,ay,List.take_zero,List.take_succ_cons,List.drop_succ_cons,List.drop_nil,List.nil_append,List.append_nil,List.length_cons,List.length_nil,and_true,true_and,Nat.le_refl,gi,cz,List.all_cons,List.all_nil,Bool.and_self,if_false,if_true,r35,aQ,ak,aD,Option.bind_some,am,jx,aV,inC,kJ,kA,kC,ne_eq,h24,h1,kf,w9,eq_true hw,h5,h133,h149,kS,hs,h2,n1a,n1b]))
       |(revert hK;intro hK;(with_reducible refine hK _ ?_;clear hK K)))
       all_goals first|rfl|simp_all
     ·skip
      rw[show ga x=false from by rw[hins];simp[hw,h24]];refine aL rfl Try.func35 s35 (Nat.le_of_ble_eq_true rfl) (λQ hqr hqn=>?_);rw[bf (show An.pure 35=true from rfl) (by simp only[cans,aG,az,aC,aH,aC,inE.can])];simp only[aO,Nat.reduceAdd,c35]
      repeat' (first
      |with_reducible (first|refine ai ?_|refine ar ?_|refine au rfl ?_|refine ax rfl ?_|refine b6 ?_)
      |(with_reducible (first|(refine ah (λK hK=>?_);(first|refine ld ?_|refine lf ?_|refine lp ?_|refine l5 ?_|refine mo ?_|refine ms ?_|refine Lt ?_))|refine hqr _ ?_);(try simp only[true_implies,false_implies,not_false_eq_true,b9,if_true,if_false,Nat.reduceEqDiff,ap,aJ,dg,qO,qP,ba,ik,Nat.reduceAdd,Nat.zero_add,cb,List.drop_zero,eX,kM,cw,List.getElem?_cons_zero,List.getElem?_cons_succ,gT,br,fc,nL,qz,qy,lw,Option.map_some,ic,gf,Bool.not_true,dU,dT,List.take_zero,List.take_succ_cons,List.length_cons,List.length_nil,true_and,Nat.le_refl,gi,if_false,if_true,r35,aQ,ak,aD,Option.bind_some,am,jx,aV,inC,kJ,kA,kC,ne_eq,h24,h1,kf,w9,hw]))
      |(revert hK;intro hK;(with_reducible refine hK _ ?_;clear hK K)))
      all_goals first|rfl|simp_all
theorem k35 {x:In}{fid:FuncId}{d:Tmp}{m:Mem}:cd An FF fid (some d) 35 [.agg (inC x)] m=some (.bool (ga x),m):=
 cr (x35 x) (λ_ _ _=>rfl) rfl (by simp only[cans,aC,inE.can]) rfl rfl rfl
end Go.Cm
