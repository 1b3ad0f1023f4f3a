import Derived.Test.YtjhndbgokapikaaFoA
set_option linter.unusedSimpArgs false
set_option linter.unusedVariables false
namespace Go.Cm
open Go.Proofs Go.Fl
theorem x49 (n a b:Int):FF 49 [.int .i64 n,.int .i64 a,.int .i64 b] []=some (.bool (inB n a b),[]):=by
 unfold inB
 by_cases h0:a≤n
 ·by_cases h1:n≤b
  ·refine aL rfl Try.func49 s49 (Nat.le_of_ble_eq_true rfl) (λQ hqr hqn=>?_)
   rw[bf (show An.pure 49=true from rfl) (by simp only[cans,aG,az,aC,aH])];simp only[aO,Nat.reduceAdd,c49]
   repeat' (first
   |with_reducible refine aF ?_
   |(with_reducible (first|(refine ah (λK hK=>?_);(first|refine QR ?_|refine QS ?_))|refine hqr _ ?_);(try simp only[true_implies,false_implies,not_true_eq_false,b9,if_true,if_false,Nat.reduceEqDiff,aJ,dg,cB,gU,nL,lw,Option.map_some,ic,gf,dU,and_self,and_true,decide_true,if_false,if_true,r49,aQ,ak,aD,Option.bind_some,am,jx,aV,h0,h1,ge_iff_le]))
   |(revert hK;intro hK;(with_reducible refine hK _ ?_;clear hK K)))
   all_goals first|rfl|simp_all
  ·refine aL rfl Try.func49 s49 (Nat.le_of_ble_eq_true rfl) (λQ hqr hqn=>?_)
   rw[bf (show An.pure 49=true from rfl) (by simp only[cans,aG,az,aC,aH])];simp only[aO,Nat.reduceAdd,c49]
   repeat' (first
   |with_reducible refine aF ?_
   |(with_reducible (first|(refine ah (λK hK=>?_);(first|refine QR ?_|refine QS ?_))|refine hqr _ ?_);(try simp only[true_implies,false_implies,not_true_eq_false,not_false_eq_true,b9,if_true,if_false,Nat.reduceEqDiff,aJ,dg,cB,gU,nL,lw,Option.map_some,ic,gf,dU,and_true,true_and,decide_false,if_false,if_true,r49,aQ,ak,aD,Option.bind_some,am,jx,aV,h0,h1,ge_iff_le]))
   |(revert hK;intro hK;(with_reducible refine hK _ ?_;clear hK K)))
   all_goals first|rfl|simp_all
 ·refine aL rfl Try.func49 s49 (Nat.le_of_ble_eq_true rfl) (λQ hqr hqn=>?_)
  rw[bf (show An.pure 49=true from rfl) (by simp only[cans,aG,az,aC,aH])];simp only[aO,Nat.reduceAdd,c49]
  repeat' (first
  |with_reducible refine aF ?_
  |(with_reducible (first|(refine ah (λK hK=>?_);(first|refine QR ?_|refine QS ?_))|refine hqr _ ?_);(try simp only[true_implies,false_implies,not_false_eq_true,b9,if_true,if_false,Nat.reduceEqDiff,aJ,dg,cB,gU,nL,lw,Option.map_some,ic,gf,dU,and_true,true_and,if_false,if_true,r49,aQ,ak,aD,Option.bind_some,am,jx,aV,Prod.mk.injEq,CV.bool.injEq,h0,ge_iff_le]))
  |(revert hK;intro hK;(with_reducible refine hK _ ?_;clear hK K)))
  all_goals first|rfl|simp_all
theorem k49 {n a b:Int}{fid:FuncId}{d:Tmp}{m:Mem}:cd An FF fid (some d) 49 [.int .i64 n,.int .i64 a,.int .i64 b] m=some (.bool (inB n a b),m):=
 cr (x49 n a b) (λ_ _ _=>rfl) rfl rfl rfl rfl rfl
def zB (l:List Int):Bool:=l.all λn=>decide (n=0)
theorem x48 (l:List Int) (hl:l.length≤1000):FF 48 [sl aX l] []=some (.bool (zB l),[]):=by
 refine aL rfl Try.func48 s48 (Nat.le_of_ble_eq_true rfl) (λQ hqr hqn=>?_);rw[bf (show An.pure 48=true from rfl) (by simp only[cans,aG,az,aC,aH,intE.can_sl])];simp only[aO,Nat.reduceAdd,c48]
 repeat' (first
 |with_reducible (first|refine ai ?_|refine aj (id:=0) (λQ0 hn0 hx0 hr0 ho0=>?_))
 |(with_reducible (refine ah (λK hK=>?_);(first|refine t48r0 ?_|refine t48r1 ?_));(try simp only[b9,if_true,aJ,dg,Option.map_some,lenS,if_true,aP]))
 |(revert hK;intro hK;(with_reducible refine hK _ ?_;clear hK K)))
 refine aU (λk s=>∃(dn td:List Int) (L:List (Nat×HO)),l=dn++td∧k=td.length∧zB dn=true∧s=⟨[(5,sl aX l),(6,.int .i64 l.length),(7,.int .i64 dn.length)],⟨L,[]⟩⟩) _ ⟨[],l,_,rfl,rfl,rfl,rfl⟩ ?_;rintro k s ⟨dn,td,L,h2,rfl,hz,rfl⟩ QL0 hnL0 hxL0 hrL0;have hlen:=congrArg List.length h2;simp only[List.length_append] at hlen;simp only[c48l0]
 cases td with
 |nil=>
  simp only[List.length_nil] at hlen;rw[List.append_nil] at h2;have hge:¬((dn.length:Int)<l.length):=by omega
  have he:zB l=true:=by rw[h2];exact hz
  repeat' (first
  |with_reducible (first|refine ax rfl ?_|refine aN ?_|refine aF ?_|refine hx0 _ ?_|refine hxL0 _ _ ?_)
  |(with_reducible (first|(refine ah (λK hK=>?_);(first|refine QQ ?_|refine E8 ?_))|refine hqr _ ?_);(try simp only[true_implies,false_implies,not_false_eq_true,b9,if_true,if_false,Nat.reduceEqDiff,aJ,dg,eN,Option.map_some,true_and,if_false,if_true,r48,aQ,ak,aD,Option.bind_some,am,jx,aV,hge,he]))
  |(revert hK;intro hK;(with_reducible refine hK _ ?_;clear hK K)))
  all_goals first|rfl|simp_all
 |cons a td=>
  simp only[List.length_cons] at hlen;have hlt:(dn.length:Int)<l.length:=by omega
  have hw:IntKind.i64.wrap ((dn.length:Int)+1)=dn.length+1:=wI (by omega) (by omega)
  by_cases ha:a=0
  ·repeat' (first
   |with_reducible (first|refine ar ?_|refine au rfl ?_|refine d7 rfl ?_|refine bx ?_|refine aj (id:=1) (λQ1 hn1 hx1 hr1 ho1=>?_)|refine hn1 _ ?_)
   |(with_reducible ((first|refine ah (λK hK=>?_)|refine aI (λK hK=>?_));(first|refine QQ ?_|refine t48r3 ?_|refine t48r4 ?_|refine t48r6 ?_));(try simp only[true_implies,false_implies,not_true_eq_false,b9,if_true,if_false,Nat.reduceEqDiff,aJ,dg,dw,eN,br,cK,List.nil_append,List.cons_append,and_true,if_false,if_true,hlt,aM dB (by omega) h2,aX,ha,hw,ne_eq]))
   |(revert hK;intro hK;(with_reducible refine hK _ ?_;clear hK K)))
   exact hnL0 td.length _ (by simp) ⟨dn++[a],td,L,by simp[h2],rfl,by simp only[zB,List.all_append] at hz ⊢;simp[hz,ha],by simp⟩
  ·have he:zB l=false:=by rw[h2,zB,List.all_append,List.all_cons,decide_eq_false ha,Bool.false_and,Bool.and_false]
   repeat' (first
   |with_reducible (first|refine ar ?_|refine au rfl ?_|refine bc rfl ?_|refine aF ?_|refine hr0 _ ?_|refine aj (id:=1) (λQ1 hn1 hx1 hr1 ho1=>?_)|refine hr1 _ ?_|refine hrL0 _ ?_)
   |(with_reducible (first|(refine ah (λK hK=>?_);(first|refine QQ ?_|refine t48r3 ?_|refine t48r4 ?_|refine t48r5 ?_))|refine hqr _ ?_);(try simp only[true_implies,false_implies,not_true_eq_false,not_false_eq_true,b9,if_true,if_false,Nat.reduceEqDiff,aJ,dg,dw,eN,br,Option.map_some,List.nil_append,List.cons_append,and_true,true_and,if_false,if_true,r48,aQ,ak,aD,Option.bind_some,am,jx,aV,hlt,aM dB (by omega) h2,aX,ha,he,ne_eq]))
   |(revert hK;intro hK;(with_reducible refine hK _ ?_;clear hK K)))
   all_goals first|rfl|simp_all
theorem k48 {l:List Int}{fid:FuncId}{t:Tmp}{m:Mem}{j g:Nat}(hne:l≠[]) (hl:l.length≤1000) (h:aK m.L j=some (.arr g 1 (l.flatMap aX) 0)) :
  cd An FF fid (some t) 48 [.ref (.l j) g 0 l.length] m=some (.bool (zB l),m):=by
 have hO:OwnE aX 1 m j (.ref (.l j) g 0 l.length) l:=.inr ⟨hne,g,rfl,h⟩;obtain⟨m1,h1,_,_,_⟩:=hO.seen.esc1 dB;rw[na (x48 l hl) rfl (dh h1) (by simp only[cans,rD intE.can]) (by simp only[noGs,kV intE.noG,Bool.and_self]) rfl];rfl
theorem k48_1 {a:Int}{fid:FuncId}{t:Tmp}{m:Mem}{j g:Nat}(h:aK m.L j=some (.arr g 1 [.int .i64 a] 0)):cd An FF fid (some t) 48 [.ref (.l j) g 0 1] m=some (.bool (decide (a=0)),m):=by
 rw[show decide (a=0)=zB [a] by simp[zB]];exact k48 (l:=[a]) (by simp) (by simp) h
theorem k48_3 {a b c:Int}{fid:FuncId}{t:Tmp}{m:Mem}{j g:Nat}(h:aK m.L j=some (.arr g 1 [.int .i64 a,.int .i64 b,.int .i64 c] 0)):cd An FF fid (some t) 48 [.ref (.l j) g 0 3] m=some (.bool (zB [a,b,c]),m):=
 k48 (l:=[a,b,c]) (by simp) (by simp) h
theorem k48_4 {a b c d:Int}{fid:FuncId}{t:Tmp}{m:Mem}{j g:Nat}(h:aK m.L j=some (.arr g 1 [.int .i64 a,.int .i64 b,.int .i64 c,.int .i64 d] 0)):cd An FF fid (some t) 48 [.ref (.l j) g 0 4] m=some (.bool (zB [a,b,c,d]),m):=
 k48 (l:=[a,b,c,d]) (by simp) (by simp) h
theorem x45 (x:In) (d:Int):FF 45 [.agg (inC x),.int .i64 d] []=some (.bool (KB x d),[]):=by
 obtain⟨b1,e1⟩:∃b,b=inB x.dst 0 d:=⟨_,rfl⟩;obtain⟨b2,e2⟩:∃b,b=inB x.src 0 10:=⟨_,rfl⟩;obtain⟨b3,e3⟩:∃b,b=inB x.off (-32768) 32767:=⟨_,rfl⟩;obtain⟨b4,e4⟩:∃b,b=inB x.imm (-2147483648) 2147483647:=⟨_,rfl⟩;have he:KB x d=(b1&&(b2&&(b3&&b4))):=by rw[e1,e2,e3,e4];rfl
 have k1:∀t m,cd An FF 45 (some t) 49 [.int .i64 x.dst,.int .i64 0,.int .i64 d] m=some (.bool b1,m):=λt m=>by rw[e1,k49]
 have k2:∀t m,cd An FF 45 (some t) 49 [.int .i64 x.src,.int .i64 0,.int .i64 10] m=some (.bool b2,m):=λt m=>by rw[e2,k49]
 have k3:∀t m,cd An FF 45 (some t) 49 [.int .i64 x.off,.int .i64 (-32768),.int .i64 32767] m=some (.bool b3,m):=λt m=>by rw[e3,k49]
 have k4:∀t m,cd An FF 45 (some t) 49 [.int .i64 x.imm,.int .i64 (-2147483648),.int .i64 2147483647] m=some (.bool b4,m):=λt m=>by rw[e4,k49]
 rw[he];clear he e1 e2 e3 e4
 cases b1 with
 |false=>
  refine aL rfl Try.func45 s45 (Nat.le_of_ble_eq_true rfl) (λQ hqr hqn=>?_);rw[bf (show An.pure 45=true from rfl) (by simp only[cans,aG,az,aC,aH,aC,inE.can])];simp only[aO,Nat.reduceAdd,c45]
  repeat' (first
  |with_reducible refine aF ?_
  |(with_reducible (first|(refine ah (λK hK=>?_);(first|refine NT ?_|refine NU ?_))|refine hqr _ ?_);(try simp only[b9,if_true,if_false,Nat.reduceEqDiff,ap,aJ,dg,qO,qP,ba,ik,Nat.zero_add,cb,eX,cw,List.getElem?_cons_zero,List.getElem?_cons_succ,lw,Option.map_some,gf,and_true,if_false,if_true,r45,aQ,ak,aD,Option.bind_some,am,jx,aV,Prod.mk.injEq,CV.bool.injEq,inC,k1]))
  |(revert hK;intro hK;(with_reducible refine hK _ ?_;clear hK K)))
  all_goals first|rfl|simp_all
 |true=>
  cases b2 with
  |false=>
   refine aL rfl Try.func45 s45 (Nat.le_of_ble_eq_true rfl) (λQ hqr hqn=>?_);rw[bf (show An.pure 45=true from rfl) (by simp only[cans,aG,az,aC,aH,aC,inE.can])];simp only[aO,Nat.reduceAdd,c45]
   repeat' (first
   |with_reducible refine aF ?_
   |(with_reducible (first|(refine ah (λK hK=>?_);(first|refine NT ?_|refine NU ?_))|refine hqr _ ?_);(try simp only[b9,if_true,if_false,Nat.reduceEqDiff,ap,aJ,dg,qO,qP,ba,ik,Nat.zero_add,cb,eX,cw,List.getElem?_cons_zero,List.getElem?_cons_succ,nL,lw,Option.map_some,ic,gf,dU,and_true,Bool.true_and,if_false,if_true,r45,aQ,ak,aD,Option.bind_some,am,jx,aV,Prod.mk.injEq,CV.bool.injEq,inC,k1,k2]))
   |(revert hK;intro hK;(with_reducible refine hK _ ?_;clear hK K)))
   all_goals first|rfl|simp_all
  |true=>
   cases b3 with
   |false=>
    refine aL rfl Try.func45 s45 (Nat.le_of_ble_eq_true rfl) (λQ hqr hqn=>?_);rw[bf (show An.pure 45=true from rfl) (by simp only[cans,aG,az,aC,aH,aC,inE.can])];simp only[aO,Nat.reduceAdd,c45]
    repeat' (first
    |with_reducible refine aF ?_
    |(with_reducible (first|(refine ah (λK hK=>?_);(first|refine NT ?_|refine NU ?_))|refine hqr _ ?_);(try simp only[b9,if_true,if_false,Nat.reduceEqDiff,ap,aJ,dg,qO,qP,ba,ik,Nat.zero_add,cb,eX,cw,List.getElem?_cons_zero,List.getElem?_cons_succ,nL,lw,Option.map_some,ic,gf,dU,and_true,Bool.true_and,if_false,if_true,r45,aQ,ak,aD,Option.bind_some,am,jx,aV,Prod.mk.injEq,CV.bool.injEq,inC,k1,k2,k3]))
    |(revert hK;intro hK;(with_reducible refine hK _ ?_;clear hK K)))
    all_goals first|rfl|simp_all
   |true=>
    refine aL rfl Try.func45 s45 (Nat.le_of_ble_eq_true rfl) (λQ hqr hqn=>?_);rw[bf (show An.pure 45=true from rfl) (by simp only[cans,aG,az,aC,aH,aC,inE.can])];simp only[aO,Nat.reduceAdd,c45]
    repeat' (first
    |with_reducible refine aF ?_
    |(with_reducible (first|(refine ah (λK hK=>?_);(first|refine NT ?_|refine NU ?_))|refine hqr _ ?_);(try simp only[b9,if_true,if_false,Nat.reduceEqDiff,ap,aJ,dg,qO,qP,ba,ik,Nat.zero_add,cb,eX,cw,List.getElem?_cons_zero,List.getElem?_cons_succ,nL,Option.map_some,ic,dU,Bool.true_and,if_false,if_true,r45,aQ,ak,aD,Option.bind_some,am,jx,aV,inC,k1,k2,k3,k4]))
    |(revert hK;intro hK;(with_reducible refine hK _ ?_;clear hK K)))
    all_goals first|rfl|simp_all
theorem k45 {x:In}{dd:Int}{fid:FuncId}{d:Tmp}{m:Mem}:cd An FF fid (some d) 45 [.agg (inC x),.int .i64 dd] m=some (.bool (KB x dd),m):=
 cr (x45 x dd) (λ_ _ _=>rfl) rfl (by simp only[cans,aC,aG,inE.can]) rfl rfl rfl
theorem x47 (x:In):FF 47 [.agg (inC x)] []=some (.bool (tQ x),[]):=by
 by_cases h:(0:Int)<lY .and .i64 x.op 8
 ·have he:tQ x=decide (x.imm=0):=by simp only[tQ,rb,h,if_true]
  rw[he];refine aL rfl Try.func47 s47 (Nat.le_of_ble_eq_true rfl) (λQ hqr hqn=>?_);rw[bf (show An.pure 47=true from rfl) (by simp only[cans,aG,az,aC,aH,aC,inE.can])];simp only[aO,Nat.reduceAdd,c47]
  repeat' (first
  |with_reducible (first|refine ai ?_|refine au rfl ?_|refine b6 ?_)
  |(with_reducible (first|(refine ah (λK hK=>?_);(first|refine t47r0 ?_|refine t47r1 ?_|refine t47r2 ?_))|refine hqr _ ?_);(try simp only[true_implies,false_implies,not_true_eq_false,b9,if_true,if_false,Nat.reduceEqDiff,ap,aJ,dg,qO,qP,ba,ik,Nat.zero_add,cb,eX,cw,List.getElem?_cons_zero,List.getElem?_cons_succ,bq,gT,Option.map_some,uR,and_true,if_false,if_true,r47,aQ,ak,aD,Option.bind_some,am,jx,aV,Prod.mk.injEq,CV.bool.injEq,inC,h,gt_iff_lt]))
  |(revert hK;intro hK;(first|refine And.intro ?_ ?_|intro _|(with_reducible refine hK _ ?_;clear hK K))))
  all_goals first|rfl|simp_all
 ·have he:tQ x=decide (x.src=0):=by simp only[tQ,rb,h,if_false]
  rw[he];refine aL rfl Try.func47 s47 (Nat.le_of_ble_eq_true rfl) (λQ hqr hqn=>?_);rw[bf (show An.pure 47=true from rfl) (by simp only[cans,aG,az,aC,aH,aC,inE.can])];simp only[aO,Nat.reduceAdd,c47]
  repeat' (first
  |with_reducible (first|refine ai ?_|refine ar ?_|refine ax rfl ?_|refine aF ?_)
  |(with_reducible (first|(refine ah (λK hK=>?_);(first|refine t47r0 ?_|refine t47r1 ?_|refine p8 ?_))|refine hqr _ ?_);(try simp only[true_implies,false_implies,not_false_eq_true,b9,if_true,if_false,Nat.reduceEqDiff,ap,aJ,dg,qO,qP,ba,ik,Nat.zero_add,cb,eX,cw,List.getElem?_cons_zero,List.getElem?_cons_succ,bq,gT,Option.map_some,uR,and_true,true_and,if_false,if_true,r47,aQ,ak,aD,Option.bind_some,am,jx,aV,Prod.mk.injEq,CV.bool.injEq,inC,h,gt_iff_lt]))
  |(revert hK;intro hK;(first|refine And.intro ?_ ?_|intro _|(with_reducible refine hK _ ?_;clear hK K))))
  all_goals first|rfl|simp_all
theorem k47 {x:In}{fid:FuncId}{d:Tmp}{m:Mem}:cd An FF fid (some d) 47 [.agg (inC x)] m=some (.bool (tQ x),m):=
 cr (x47 x) (λ_ _ _=>rfl) rfl (by simp only[cans,aC,inE.can]) rfl rfl rfl
set_option maxHeartbeats 4000000 in
theorem x51 (op:Int):FF 51 [.int .i64 op] []=some (.int .i64 (szO op),[]):=by
 by_cases h:cls op=1∨cls op=2∨cls op=3
 ·obtain⟨z,hz⟩:∃z,z=lY .andNot .i64 op 7:=⟨_,rfl⟩
  have he:szO op=szB z:=by rw[szO,if_pos h,hz]
  rw[he];have hh:(cls op=1∧¬cls op=2)∨(¬cls op=1∧cls op=2)∨(¬cls op=1∧¬cls op=2∧cls op=3):=by omega
  by_cases z1:z=96
  ·rcases hh with⟨h1,h2⟩|⟨h1,h2⟩|⟨h1,h2,h3⟩
   ·refine aL rfl Try.func51 s51 (Nat.le_of_ble_eq_true rfl) (λQ hqr hqn=>?_)
    rw[bf (show An.pure 51=true from rfl) (by simp only[cans,aG,az,aC,aH])];simp only[aO,Nat.reduceAdd,c51]
    repeat' (first
    |with_reducible (first|refine ai ?_|refine au rfl ?_|refine bc rfl ?_|refine aN ?_|refine aF ?_|refine aj (id:=0) (λQ0 hn0 hx0 hr0 ho0=>?_)|refine hr0 _ ?_|refine aj (id:=3) (λQ3 hn3 hx3 hr3 ho3=>?_)|refine hn3 _ ?_|refine bl (id:=2) (λQ2 hn2 hx2 hr2 ho2=>?_)|refine hn2 _ ?_|refine bl (id:=1) (λQ1 hn1 hx1 hr1 ho1=>?_)|refine hx1 _ ?_|refine aj (id:=4) (λQ4 hn4 hx4 hr4 ho4=>?_)|refine hr4 _ ?_)
    |(with_reducible (first|(refine ah (λK hK=>?_);(first|refine wy ?_|refine wz ?_|refine wA ?_|refine tT ?_|refine uf ?_|refine QX ?_))|refine hqr _ ?_);(try simp only[true_implies,false_implies,not_true_eq_false,b9,if_true,if_false,Nat.reduceEqDiff,aJ,dg,gT,Option.map_some,q9,and_true,if_false,if_true,r51,aQ,ak,aD,Option.bind_some,am,bz,aV,k44,h1,h2,←hz,z1,szB]))
    |(revert hK;intro hK;(with_reducible refine hK _ ?_;clear hK K)))
    all_goals first|rfl|simp_all
   ·refine aL rfl Try.func51 s51 (Nat.le_of_ble_eq_true rfl) (λQ hqr hqn=>?_)
    rw[bf (show An.pure 51=true from rfl) (by simp only[cans,aG,az,aC,aH])];simp only[aO,Nat.reduceAdd,c51]
    repeat' (first
    |with_reducible (first|refine ai ?_|refine ar ?_|refine au rfl ?_|refine ax rfl ?_|refine bc rfl ?_|refine aN ?_|refine aF ?_|refine aj (id:=0) (λQ0 hn0 hx0 hr0 ho0=>?_)|refine hr0 _ ?_|refine aj (id:=3) (λQ3 hn3 hx3 hr3 ho3=>?_)|refine hn3 _ ?_|refine bl (id:=2) (λQ2 hn2 hx2 hr2 ho2=>?_)|refine hx2 _ ?_|refine bl (id:=1) (λQ1 hn1 hx1 hr1 ho1=>?_)|refine ho1 _ _ (by decide) ?_|refine aj (id:=4) (λQ4 hn4 hx4 hr4 ho4=>?_)|refine hr4 _ ?_)
    |(with_reducible (first|(refine ah (λK hK=>?_);(first|refine wy ?_|refine wz ?_|refine wA ?_|refine Ku ?_|refine tT ?_|refine uf ?_|refine QX ?_))|refine hqr _ ?_);(try simp only[true_implies,false_implies,not_true_eq_false,b9,if_true,if_false,Nat.reduceEqDiff,aJ,dg,gT,Option.map_some,q9,and_true,if_false,if_true,r51,aQ,ak,aD,Option.bind_some,am,bz,aV,k44,h1,h2,←hz,z1,szB]))
    |(revert hK;intro hK;(first|refine And.intro ?_ ?_|intro _|omega|(with_reducible refine hK _ ?_;clear hK K))))
    all_goals first|rfl|simp_all
   ·refine aL rfl Try.func51 s51 (Nat.le_of_ble_eq_true rfl) (λQ hqr hqn=>?_)
    rw[bf (show An.pure 51=true from rfl) (by simp only[cans,aG,az,aC,aH])];simp only[aO,Nat.reduceAdd,c51]
    repeat' (first
    |with_reducible (first|refine ai ?_|refine ar ?_|refine au rfl ?_|refine ax rfl ?_|refine bc rfl ?_|refine aN ?_|refine aF ?_|refine aj (id:=0) (λQ0 hn0 hx0 hr0 ho0=>?_)|refine hr0 _ ?_|refine aj (id:=3) (λQ3 hn3 hx3 hr3 ho3=>?_)|refine hx3 _ ?_|refine bl (id:=2) (λQ2 hn2 hx2 hr2 ho2=>?_)|refine ho2 _ _ (by decide) ?_|refine bl (id:=1) (λQ1 hn1 hx1 hr1 ho1=>?_)|refine ho1 _ _ (by decide) ?_|refine aj (id:=4) (λQ4 hn4 hx4 hr4 ho4=>?_)|refine hr4 _ ?_)
    |(with_reducible (first|(refine ah (λK hK=>?_);(first|refine wy ?_|refine wz ?_|refine wA ?_|refine Ku ?_|refine Fg ?_|refine tT ?_|refine uf ?_|refine QX ?_))|refine hqr _ ?_);(try simp only[true_implies,false_implies,not_true_eq_false,b9,if_true,if_false,Nat.reduceEqDiff,aJ,dg,gT,Option.map_some,q9,and_true,if_false,if_true,r51,aQ,ak,aD,Option.bind_some,am,bz,aV,k44,h1,h2,h3,←hz,z1,szB]))
    |(revert hK;intro hK;(first|refine And.intro ?_ ?_|intro _|omega|(with_reducible refine hK _ ?_;clear hK K))))
    all_goals first|rfl|simp_all
  by_cases z2:z=104
  ·rcases hh with⟨h1,h2⟩|⟨h1,h2⟩|⟨h1,h2,h3⟩
   ·refine aL rfl Try.func51 s51 (Nat.le_of_ble_eq_true rfl) (λQ hqr hqn=>?_)
    rw[bf (show An.pure 51=true from rfl) (by simp only[cans,aG,az,aC,aH])];simp only[aO,Nat.reduceAdd,c51]
    repeat' (first
    |with_reducible (first|refine ai ?_|refine au rfl ?_|refine bc rfl ?_|refine d7 rfl ?_|refine aN ?_|refine aF ?_|refine aj (id:=0) (λQ0 hn0 hx0 hr0 ho0=>?_)|refine hr0 _ ?_|refine aj (id:=3) (λQ3 hn3 hx3 hr3 ho3=>?_)|refine hn3 _ ?_|refine bl (id:=2) (λQ2 hn2 hx2 hr2 ho2=>?_)|refine hn2 _ ?_|refine bl (id:=1) (λQ1 hn1 hx1 hr1 ho1=>?_)|refine hx1 _ ?_|refine aj (id:=4) (λQ4 hn4 hx4 hr4 ho4=>?_)|refine hr4 _ ?_)
    |(with_reducible (first|(refine ah (λK hK=>?_);(first|refine wy ?_|refine wz ?_|refine wA ?_|refine tT ?_|refine uf ?_|refine Ch ?_|refine QY ?_))|refine hqr _ ?_);(try simp only[true_implies,false_implies,not_true_eq_false,b9,if_true,if_false,Nat.reduceEqDiff,aJ,dg,gT,Option.map_some,q9,and_true,true_and,if_false,if_true,r51,aQ,ak,aD,Option.bind_some,am,bz,aV,Prod.mk.injEq,CV.int.injEq,k44,h1,h2,←hz,z2,szB]))
    |(revert hK;intro hK;(first|refine And.intro ?_ ?_|intro _|omega|(with_reducible refine hK _ ?_;clear hK K))))
    all_goals first|rfl|simp_all
   ·refine aL rfl Try.func51 s51 (Nat.le_of_ble_eq_true rfl) (λQ hqr hqn=>?_)
    rw[bf (show An.pure 51=true from rfl) (by simp only[cans,aG,az,aC,aH])];simp only[aO,Nat.reduceAdd,c51]
    repeat' (first
    |with_reducible (first|refine ai ?_|refine ar ?_|refine au rfl ?_|refine ax rfl ?_|refine bc rfl ?_|refine d7 rfl ?_|refine aN ?_|refine aF ?_|refine aj (id:=0) (λQ0 hn0 hx0 hr0 ho0=>?_)|refine hr0 _ ?_|refine aj (id:=3) (λQ3 hn3 hx3 hr3 ho3=>?_)|refine hn3 _ ?_|refine bl (id:=2) (λQ2 hn2 hx2 hr2 ho2=>?_)|refine hx2 _ ?_|refine bl (id:=1) (λQ1 hn1 hx1 hr1 ho1=>?_)|refine ho1 _ _ (by decide) ?_|refine aj (id:=4) (λQ4 hn4 hx4 hr4 ho4=>?_)|refine hr4 _ ?_)
    |(with_reducible (first|(refine ah (λK hK=>?_);(first|refine wy ?_|refine wz ?_|refine wA ?_|refine Ku ?_|refine tT ?_|refine uf ?_|refine Ch ?_|refine QY ?_))|refine hqr _ ?_);(try simp only[true_implies,false_implies,not_true_eq_false,b9,if_true,if_false,Nat.reduceEqDiff,aJ,dg,gT,Option.map_some,q9,and_true,true_and,if_false,if_true,r51,aQ,ak,aD,Option.bind_some,am,bz,aV,Prod.mk.injEq,CV.int.injEq,k44,h1,h2,←hz,z2,szB]))
    |(revert hK;intro hK;(first|refine And.intro ?_ ?_|intro _|omega|(with_reducible refine hK _ ?_;clear hK K))))
    all_goals first|rfl|simp_all
   ·refine aL rfl Try.func51 s51 (Nat.le_of_ble_eq_true rfl) (λQ hqr hqn=>?_)
    rw[bf (show An.pure 51=true from rfl) (by simp only[cans,aG,az,aC,aH])];simp only[aO,Nat.reduceAdd,c51]
    repeat' (first
    |with_reducible (first|refine ai ?_|refine ar ?_|refine au rfl ?_|refine ax rfl ?_|refine bc rfl ?_|refine d7 rfl ?_|refine aN ?_|refine aF ?_|refine aj (id:=0) (λQ0 hn0 hx0 hr0 ho0=>?_)|refine hr0 _ ?_|refine aj (id:=3) (λQ3 hn3 hx3 hr3 ho3=>?_)|refine hx3 _ ?_|refine bl (id:=2) (λQ2 hn2 hx2 hr2 ho2=>?_)|refine ho2 _ _ (by decide) ?_|refine bl (id:=1) (λQ1 hn1 hx1 hr1 ho1=>?_)|refine ho1 _ _ (by decide) ?_|refine aj (id:=4) (λQ4 hn4 hx4 hr4 ho4=>?_)|refine hr4 _ ?_)
    |(with_reducible (first|(refine ah (λK hK=>?_);(first|refine wy ?_|refine wz ?_|refine wA ?_|refine Ku ?_|refine Fg ?_|refine tT ?_|refine uf ?_|refine Ch ?_|refine QY ?_))|refine hqr _ ?_);(try simp only[true_implies,false_implies,not_true_eq_false,b9,if_true,if_false,Nat.reduceEqDiff,aJ,dg,gT,Option.map_some,q9,and_true,true_and,if_false,if_true,r51,aQ,ak,aD,Option.bind_some,am,bz,aV,Prod.mk.injEq,CV.int.injEq,k44,h1,h2,h3,←hz,z2,szB]))
    |(revert hK;intro hK;(first|refine And.intro ?_ ?_|intro _|omega|(with_reducible refine hK _ ?_;clear hK K))))
    all_goals first|rfl|simp_all
  by_cases z3:z=112
  ·rcases hh with⟨h1,h2⟩|⟨h1,h2⟩|⟨h1,h2,h3⟩
   ·refine aL rfl Try.func51 s51 (Nat.le_of_ble_eq_true rfl) (λQ hqr hqn=>?_)
    rw[bf (show An.pure 51=true from rfl) (by simp only[cans,aG,az,aC,aH])];simp only[aO,Nat.reduceAdd,c51]
    repeat' (first
    |with_reducible (first|refine ai ?_|refine au rfl ?_|refine bc rfl ?_|refine d7 rfl ?_|refine aN ?_|refine aF ?_|refine aj (id:=0) (λQ0 hn0 hx0 hr0 ho0=>?_)|refine hr0 _ ?_|refine aj (id:=3) (λQ3 hn3 hx3 hr3 ho3=>?_)|refine hn3 _ ?_|refine bl (id:=2) (λQ2 hn2 hx2 hr2 ho2=>?_)|refine hn2 _ ?_|refine bl (id:=1) (λQ1 hn1 hx1 hr1 ho1=>?_)|refine hx1 _ ?_|refine aj (id:=4) (λQ4 hn4 hx4 hr4 ho4=>?_)|refine hr4 _ ?_)
    |(with_reducible (first|(refine ah (λK hK=>?_);(first|refine wy ?_|refine wz ?_|refine wA ?_|refine tT ?_|refine uf ?_|refine Ch ?_|refine B0 ?_|refine NC ?_))|refine hqr _ ?_);(try simp only[true_implies,false_implies,not_true_eq_false,b9,if_true,if_false,Nat.reduceEqDiff,aJ,dg,gT,Option.map_some,q9,and_true,true_and,if_false,if_true,r51,aQ,ak,aD,Option.bind_some,am,bz,aV,Prod.mk.injEq,CV.int.injEq,k44,h1,h2,←hz,z3,szB]))
    |(revert hK;intro hK;(first|refine And.intro ?_ ?_|intro _|omega|(with_reducible refine hK _ ?_;clear hK K))))
    all_goals first|rfl|simp_all
   ·refine aL rfl Try.func51 s51 (Nat.le_of_ble_eq_true rfl) (λQ hqr hqn=>?_)
    rw[bf (show An.pure 51=true from rfl) (by simp only[cans,aG,az,aC,aH])];simp only[aO,Nat.reduceAdd,c51]
    repeat' (first
    |with_reducible (first|refine ai ?_|refine ar ?_|refine au rfl ?_|refine ax rfl ?_|refine bc rfl ?_|refine d7 rfl ?_|refine aN ?_|refine aF ?_|refine aj (id:=0) (λQ0 hn0 hx0 hr0 ho0=>?_)|refine hr0 _ ?_|refine aj (id:=3) (λQ3 hn3 hx3 hr3 ho3=>?_)|refine hn3 _ ?_|refine bl (id:=2) (λQ2 hn2 hx2 hr2 ho2=>?_)|refine hx2 _ ?_|refine bl (id:=1) (λQ1 hn1 hx1 hr1 ho1=>?_)|refine ho1 _ _ (by decide) ?_|refine aj (id:=4) (λQ4 hn4 hx4 hr4 ho4=>?_)|refine hr4 _ ?_)
    |(with_reducible (first|(refine ah (λK hK=>?_);(first|refine wy ?_|refine wz ?_|refine wA ?_|refine Ku ?_|refine tT ?_|refine uf ?_|refine Ch ?_|refine B0 ?_|refine NC ?_))|refine hqr _ ?_);(try simp only[true_implies,false_implies,not_true_eq_false,b9,if_true,if_false,Nat.reduceEqDiff,aJ,dg,gT,Option.map_some,q9,and_true,true_and,if_false,if_true,r51,aQ,ak,aD,Option.bind_some,am,bz,aV,Prod.mk.injEq,CV.int.injEq,k44,h1,h2,←hz,z3,szB]))
    |(revert hK;intro hK;(first|refine And.intro ?_ ?_|intro _|omega|(with_reducible refine hK _ ?_;clear hK K))))
    all_goals first|rfl|simp_all
   ·refine aL rfl Try.func51 s51 (Nat.le_of_ble_eq_true rfl) (λQ hqr hqn=>?_)
    rw[bf (show An.pure 51=true from rfl) (by simp only[cans,aG,az,aC,aH])];simp only[aO,Nat.reduceAdd,c51]
    repeat' (first
    |with_reducible (first|refine ai ?_|refine ar ?_|refine au rfl ?_|refine ax rfl ?_|refine bc rfl ?_|refine d7 rfl ?_|refine aN ?_|refine aF ?_|refine aj (id:=0) (λQ0 hn0 hx0 hr0 ho0=>?_)|refine hr0 _ ?_|refine aj (id:=3) (λQ3 hn3 hx3 hr3 ho3=>?_)|refine hx3 _ ?_|refine bl (id:=2) (λQ2 hn2 hx2 hr2 ho2=>?_)|refine ho2 _ _ (by decide) ?_|refine bl (id:=1) (λQ1 hn1 hx1 hr1 ho1=>?_)|refine ho1 _ _ (by decide) ?_|refine aj (id:=4) (λQ4 hn4 hx4 hr4 ho4=>?_)|refine hr4 _ ?_)
    |(with_reducible (first|(refine ah (λK hK=>?_);(first|refine wy ?_|refine wz ?_|refine wA ?_|refine Ku ?_|refine Fg ?_|refine tT ?_|refine uf ?_|refine Ch ?_|refine B0 ?_|refine NC ?_))|refine hqr _ ?_);(try simp only[true_implies,false_implies,not_true_eq_false,b9,if_true,if_false,Nat.reduceEqDiff,aJ,dg,gT,Option.map_some,q9,and_true,true_and,if_false,if_true,r51,aQ,ak,aD,Option.bind_some,am,bz,aV,Prod.mk.injEq,CV.int.injEq,k44,h1,h2,h3,←hz,z3,szB]))
    |(revert hK;intro hK;(first|refine And.intro ?_ ?_|intro _|omega|(with_reducible refine hK _ ?_;clear hK K))))
    all_goals first|rfl|simp_all
  by_cases z4:z=120
  ·rcases hh with⟨h1,h2⟩|⟨h1,h2⟩|⟨h1,h2,h3⟩
   ·refine aL rfl Try.func51 s51 (Nat.le_of_ble_eq_true rfl) (λQ hqr hqn=>?_)
    rw[bf (show An.pure 51=true from rfl) (by simp only[cans,aG,az,aC,aH])];simp only[aO,Nat.reduceAdd,c51]
    repeat' (first
    |with_reducible (first|refine ai ?_|refine au rfl ?_|refine bc rfl ?_|refine d7 rfl ?_|refine aN ?_|refine aF ?_|refine aj (id:=0) (λQ0 hn0 hx0 hr0 ho0=>?_)|refine hr0 _ ?_|refine aj (id:=3) (λQ3 hn3 hx3 hr3 ho3=>?_)|refine hn3 _ ?_|refine bl (id:=2) (λQ2 hn2 hx2 hr2 ho2=>?_)|refine hn2 _ ?_|refine bl (id:=1) (λQ1 hn1 hx1 hr1 ho1=>?_)|refine hx1 _ ?_|refine aj (id:=4) (λQ4 hn4 hx4 hr4 ho4=>?_)|refine hr4 _ ?_)
    |(with_reducible (first|(refine ah (λK hK=>?_);(first|refine wy ?_|refine wz ?_|refine wA ?_|refine tT ?_|refine uf ?_|refine Ch ?_|refine B0 ?_|refine Lk ?_|refine ND ?_))|refine hqr _ ?_);(try simp only[true_implies,false_implies,not_true_eq_false,b9,if_true,if_false,Nat.reduceEqDiff,aJ,dg,gT,Option.map_some,q9,and_true,true_and,if_false,if_true,r51,aQ,ak,aD,Option.bind_some,am,bz,aV,Prod.mk.injEq,CV.int.injEq,k44,h1,h2,←hz,z4,szB]))
    |(revert hK;intro hK;(first|refine And.intro ?_ ?_|intro _|omega|(with_reducible refine hK _ ?_;clear hK K))))
    all_goals first|rfl|simp_all
   ·refine aL rfl Try.func51 s51 (Nat.le_of_ble_eq_true rfl) (λQ hqr hqn=>?_)
    rw[bf (show An.pure 51=true from rfl) (by simp only[cans,aG,az,aC,aH])];simp only[aO,Nat.reduceAdd,c51]
    repeat' (first
    |with_reducible (first|refine ai ?_|refine ar ?_|refine au rfl ?_|refine ax rfl ?_|refine bc rfl ?_|refine d7 rfl ?_|refine aN ?_|refine aF ?_|refine aj (id:=0) (λQ0 hn0 hx0 hr0 ho0=>?_)|refine hr0 _ ?_|refine aj (id:=3) (λQ3 hn3 hx3 hr3 ho3=>?_)|refine hn3 _ ?_|refine bl (id:=2) (λQ2 hn2 hx2 hr2 ho2=>?_)|refine hx2 _ ?_|refine bl (id:=1) (λQ1 hn1 hx1 hr1 ho1=>?_)|refine ho1 _ _ (by decide) ?_|refine aj (id:=4) (λQ4 hn4 hx4 hr4 ho4=>?_)|refine hr4 _ ?_)
    |(with_reducible (first|(refine ah (λK hK=>?_);(first|refine wy ?_|refine wz ?_|refine wA ?_|refine Ku ?_|refine tT ?_|refine uf ?_|refine Ch ?_|refine B0 ?_|refine Lk ?_|refine ND ?_))|refine hqr _ ?_);(try simp only[true_implies,false_implies,not_true_eq_false,b9,if_true,if_false,Nat.reduceEqDiff,aJ,dg,gT,Option.map_some,q9,and_true,true_and,if_false,if_true,r51,aQ,ak,aD,Option.bind_some,am,bz,aV,Prod.mk.injEq,CV.int.injEq,k44,h1,h2,←hz,z4,szB]))
    |(revert hK;intro hK;(first|refine And.intro ?_ ?_|intro _|omega|(with_reducible refine hK _ ?_;clear hK K))))
    all_goals first|rfl|simp_all
   ·refine aL rfl Try.func51 s51 (Nat.le_of_ble_eq_true rfl) (λQ hqr hqn=>?_)
    rw[bf (show An.pure 51=true from rfl) (by simp only[cans,aG,az,aC,aH])];simp only[aO,Nat.reduceAdd,c51]
    repeat' (first
    |with_reducible (first|refine ai ?_|refine ar ?_|refine au rfl ?_|refine ax rfl ?_|refine bc rfl ?_|refine d7 rfl ?_|refine aN ?_|refine aF ?_|refine aj (id:=0) (λQ0 hn0 hx0 hr0 ho0=>?_)|refine hr0 _ ?_|refine aj (id:=3) (λQ3 hn3 hx3 hr3 ho3=>?_)|refine hx3 _ ?_|refine bl (id:=2) (λQ2 hn2 hx2 hr2 ho2=>?_)|refine ho2 _ _ (by decide) ?_|refine bl (id:=1) (λQ1 hn1 hx1 hr1 ho1=>?_)|refine ho1 _ _ (by decide) ?_|refine aj (id:=4) (λQ4 hn4 hx4 hr4 ho4=>?_)|refine hr4 _ ?_)
    |(with_reducible (first|(refine ah (λK hK=>?_);(first|refine wy ?_|refine wz ?_|refine wA ?_|refine Ku ?_|refine Fg ?_|refine tT ?_|refine uf ?_|refine Ch ?_|refine B0 ?_|refine Lk ?_|refine ND ?_))|refine hqr _ ?_);(try simp only[true_implies,false_implies,not_true_eq_false,b9,if_true,if_false,Nat.reduceEqDiff,aJ,dg,gT,Option.map_some,q9,and_true,true_and,if_false,if_true,r51,aQ,ak,aD,Option.bind_some,am,bz,aV,Prod.mk.injEq,CV.int.injEq,k44,h1,h2,h3,←hz,z4,szB]))
    |(revert hK;intro hK;(first|refine And.intro ?_ ?_|intro _|omega|(with_reducible refine hK _ ?_;clear hK K))))
    all_goals first|rfl|simp_all
  rcases hh with⟨h1,h2⟩|⟨h1,h2⟩|⟨h1,h2,h3⟩
  ·refine aL rfl Try.func51 s51 (Nat.le_of_ble_eq_true rfl) (λQ hqr hqn=>?_)
   rw[bf (show An.pure 51=true from rfl) (by simp only[cans,aG,az,aC,aH])];simp only[aO,Nat.reduceAdd,c51]
   repeat' (first
   |with_reducible (first|refine ai ?_|refine au rfl ?_|refine d7 rfl ?_|refine aN ?_|refine aF ?_|refine Js ?_|refine bx ?_|refine aj (id:=0) (λQ0 hn0 hx0 hr0 ho0=>?_)|refine hx0 _ ?_|refine aj (id:=3) (λQ3 hn3 hx3 hr3 ho3=>?_)|refine hn3 _ ?_|refine bl (id:=2) (λQ2 hn2 hx2 hr2 ho2=>?_)|refine hn2 _ ?_|refine bl (id:=1) (λQ1 hn1 hx1 hr1 ho1=>?_)|refine hx1 _ ?_|refine aj (id:=4) (λQ4 hn4 hx4 hr4 ho4=>?_)|refine hn4 _ ?_)
   |(with_reducible (first|(refine ah (λK hK=>?_);(first|refine wy ?_|refine wz ?_|refine wA ?_|refine tT ?_|refine uf ?_|refine Ch ?_|refine B0 ?_|refine Lk ?_|refine MC ?_))|refine hqr _ ?_);(try simp only[true_implies,false_implies,not_true_eq_false,not_false_eq_true,b9,if_true,if_false,Nat.reduceEqDiff,aJ,dg,gT,Option.map_some,q9,and_true,true_and,if_false,if_true,r51,aQ,ak,aD,Option.bind_some,am,bz,aV,k44,h1,h2,←hz,z1,z2,z3,z4,szB]))
   |(revert hK;intro hK;(with_reducible refine hK _ ?_;clear hK K)))
   all_goals first|rfl|simp_all
  ·refine aL rfl Try.func51 s51 (Nat.le_of_ble_eq_true rfl) (λQ hqr hqn=>?_)
   rw[bf (show An.pure 51=true from rfl) (by simp only[cans,aG,az,aC,aH])];simp only[aO,Nat.reduceAdd,c51]
   repeat' (first
   |with_reducible (first|refine ai ?_|refine ar ?_|refine au rfl ?_|refine ax rfl ?_|refine d7 rfl ?_|refine aN ?_|refine aF ?_|refine Js ?_|refine bx ?_|refine aj (id:=0) (λQ0 hn0 hx0 hr0 ho0=>?_)|refine hx0 _ ?_|refine aj (id:=3) (λQ3 hn3 hx3 hr3 ho3=>?_)|refine hn3 _ ?_|refine bl (id:=2) (λQ2 hn2 hx2 hr2 ho2=>?_)|refine hx2 _ ?_|refine bl (id:=1) (λQ1 hn1 hx1 hr1 ho1=>?_)|refine ho1 _ _ (by decide) ?_|refine aj (id:=4) (λQ4 hn4 hx4 hr4 ho4=>?_)|refine hn4 _ ?_)
   |(with_reducible (first|(refine ah (λK hK=>?_);(first|refine wy ?_|refine wz ?_|refine wA ?_|refine Ku ?_|refine tT ?_|refine uf ?_|refine Ch ?_|refine B0 ?_|refine Lk ?_|refine MC ?_))|refine hqr _ ?_);(try simp only[true_implies,false_implies,not_true_eq_false,not_false_eq_true,b9,if_true,if_false,Nat.reduceEqDiff,aJ,dg,gT,Option.map_some,q9,and_true,true_and,if_false,if_true,r51,aQ,ak,aD,Option.bind_some,am,bz,aV,k44,h1,h2,←hz,z1,z2,z3,z4,szB]))
   |(revert hK;intro hK;(first|refine And.intro ?_ ?_|intro _|omega|(with_reducible refine hK _ ?_;clear hK K))))
   all_goals first|rfl|simp_all
  ·refine aL rfl Try.func51 s51 (Nat.le_of_ble_eq_true rfl) (λQ hqr hqn=>?_)
   rw[bf (show An.pure 51=true from rfl) (by simp only[cans,aG,az,aC,aH])];simp only[aO,Nat.reduceAdd,c51]
   repeat' (first
   |with_reducible (first|refine ai ?_|refine ar ?_|refine au rfl ?_|refine ax rfl ?_|refine d7 rfl ?_|refine aN ?_|refine aF ?_|refine Js ?_|refine bx ?_|refine aj (id:=0) (λQ0 hn0 hx0 hr0 ho0=>?_)|refine hx0 _ ?_|refine aj (id:=3) (λQ3 hn3 hx3 hr3 ho3=>?_)|refine hx3 _ ?_|refine bl (id:=2) (λQ2 hn2 hx2 hr2 ho2=>?_)|refine ho2 _ _ (by decide) ?_|refine bl (id:=1) (λQ1 hn1 hx1 hr1 ho1=>?_)|refine ho1 _ _ (by decide) ?_|refine aj (id:=4) (λQ4 hn4 hx4 hr4 ho4=>?_)|refine hn4 _ ?_)
   |(with_reducible (first|(refine ah (λK hK=>?_);(first|refine wy ?_|refine wz ?_|refine wA ?_|refine Ku ?_|refine Fg ?_|refine tT ?_|refine uf ?_|refine Ch ?_|refine B0 ?_|refine Lk ?_|refine MC ?_))|refine hqr _ ?_);(try simp only[true_implies,false_implies,not_true_eq_false,not_false_eq_true,b9,if_true,if_false,Nat.reduceEqDiff,aJ,dg,gT,Option.map_some,q9,and_true,true_and,if_false,if_true,r51,aQ,ak,aD,Option.bind_some,am,bz,aV,k44,h1,h2,h3,←hz,z1,z2,z3,z4,szB]))
   |(revert hK;intro hK;(first|refine And.intro ?_ ?_|intro _|omega|(with_reducible refine hK _ ?_;clear hK K))))
   all_goals first|rfl|simp_all
 ·have he:szO op=0:=by rw[szO,if_neg h]
  have h1:¬cls op=1:=λe=>h (.inl e);have h2:¬cls op=2:=λe=>h (.inr (.inl e));have h3:¬cls op=3:=λe=>h (.inr (.inr e));rw[he];refine aL rfl Try.func51 s51 (Nat.le_of_ble_eq_true rfl) (λQ hqr hqn=>?_);rw[bf (show An.pure 51=true from rfl) (by simp only[cans,aG,az,aC,aH])];simp only[aO,Nat.reduceAdd,c51]
  repeat' (first
  |with_reducible (first|refine ai ?_|refine ar ?_|refine ax rfl ?_|refine aF ?_|refine Js ?_|refine aj (id:=0) (λQ0 hn0 hx0 hr0 ho0=>?_)|refine hx0 _ ?_|refine aj (id:=3) (λQ3 hn3 hx3 hr3 ho3=>?_)|refine ho3 _ _ (by decide) ?_|refine bl (id:=2) (λQ2 hn2 hx2 hr2 ho2=>?_)|refine ho2 _ _ (by decide) ?_|refine bl (id:=1) (λQ1 hn1 hx1 hr1 ho1=>?_)|refine ho1 _ _ (by decide) ?_)
  |(with_reducible (first|(refine ah (λK hK=>?_);(first|refine wy ?_|refine wz ?_|refine wA ?_|refine Ku ?_|refine Fg ?_|refine MC ?_))|refine hqr _ ?_);(try simp only[true_implies,false_implies,not_false_eq_true,b9,if_true,if_false,Nat.reduceEqDiff,aJ,dg,gT,Option.map_some,true_and,if_false,if_true,r51,aQ,ak,aD,Option.bind_some,am,bz,aV,k44,h1,h2,h3]))
  |(revert hK;intro hK;(with_reducible refine hK _ ?_;clear hK K)))
  all_goals first|rfl|simp_all
theorem k51 {op:Int}{fid:FuncId}{d:Tmp}{m:Mem}:cd An FF fid (some d) 51 [.int .i64 op] m=some (.int .i64 (szO op),m):=
 cr (x51 op) (λ_ _ _=>rfl) rfl rfl rfl rfl rfl
set_option maxHeartbeats 4000000 in
theorem x46 (x:In) (o:Int) (w:Bool):FF 46 [.agg (inC x),.int .i64 o,.bool w] []=some (.bool (Hp x o w),[]):=by
 obtain⟨b,hb⟩:∃b,b=tQ x:=⟨_,rfl⟩;have k1:∀t m,cd An FF 46 (some t) 47 [.agg [.int .i64 x.op,.int .i64 x.dst,.int .i64 x.src,.int .i64 x.off,.int .i64 x.imm,.int .u64 x.wide]] m=some (.bool b,m):=λt m=>by rw[hb];exact k47
 cases b with
 |false=>
  have he:Hp x o w=false:=by simp[Hp,←hb]
  rw[he];refine aL rfl Try.func46 s46 (Nat.le_of_ble_eq_true rfl) (λQ hqr hqn=>?_);rw[bf (show An.pure 46=true from rfl) (by simp only[cans,aG,az,aC,aH,aC,inE.can])];simp only[aO,Nat.reduceAdd,c46]
  repeat' (first
  |with_reducible (first|refine ai ?_|refine au rfl ?_|refine b6 ?_)
  |(with_reducible (first|(refine ah (λK hK=>?_);(first|refine sb ?_|refine ti ?_|refine t46r2 ?_))|refine hqr _ ?_);(try simp only[b9,if_true,if_false,Nat.reduceEqDiff,ap,aJ,dg,qO,qP,ba,ik,Nat.reduceAdd,Nat.zero_add,cb,List.drop_zero,kM,fc,qz,Option.map_some,ic,Bool.not_false,List.take_zero,List.take_succ_cons,List.length_cons,List.length_nil,Nat.le_refl,gi,if_false,if_true,r46,aQ,ak,aD,Option.bind_some,am,jx,aV,inC,k1]))
  |(revert hK;intro hK;(with_reducible refine hK _ ?_;clear hK K)))
  all_goals first|rfl|simp_all
 |true=>
  by_cases h0:x.off=0
  ·rw[h0] at k1
   have he:Hp x o w=if o=128 then decide (x.imm=0) else if o=96∨o=112∨o=192 then (w&&(decide (x.imm≤63)&&decide (0≤x.imm)))||inB x.imm 0 31 else true:=by
    unfold Hp;rw[if_neg (by rw[←hb];simp[h0])]
   rw[he]
   by_cases o1:o=128
   ·refine aL rfl Try.func46 s46 (Nat.le_of_ble_eq_true rfl) (λQ hqr hqn=>?_)
    rw[bf (show An.pure 46=true from rfl) (by simp only[cans,aG,az,aC,aH,aC,inE.can])];simp only[aO,Nat.reduceAdd,c46]
    repeat' (first
    |with_reducible (first|refine ai ?_|refine ar ?_|refine ax rfl ?_|refine bc rfl ?_|refine aF ?_|refine aj (id:=0) (λQ0 hn0 hx0 hr0 ho0=>?_)|refine hr0 _ ?_)
    |(with_reducible (first|(refine ah (λK hK=>?_);(first|refine sb ?_|refine ti ?_|refine ww ?_|refine EV ?_|refine EW ?_))|refine hqr _ ?_);(try simp only[true_implies,false_implies,not_true_eq_false,b9,if_true,if_false,Nat.reduceEqDiff,ap,aJ,dg,qO,qP,ba,ik,Nat.reduceAdd,Nat.zero_add,cb,List.drop_zero,eX,kM,cw,List.getElem?_cons_zero,List.getElem?_cons_succ,gT,br,fc,qy,Option.map_some,gf,Bool.not_true,dU,List.take_zero,List.take_succ_cons,List.length_cons,List.length_nil,and_true,Nat.le_refl,gi,if_false,if_true,r46,aQ,ak,aD,Option.bind_some,am,jx,aV,Prod.mk.injEq,CV.bool.injEq,inC,k1,h0,ne_eq,o1]))
    |(revert hK;intro hK;(first|refine And.intro ?_ ?_|intro _|(with_reducible refine hK _ ?_;clear hK K))))
    all_goals first|rfl|simp_all
   ·by_cases os:o=96∨o=112∨o=192
    ·obtain⟨c,hc⟩:∃c,c=inB x.imm 0 31:=⟨_,rfl⟩
     have k2:∀t m,cd An FF 46 (some t) 49 [.int .i64 x.imm,.int .i64 0,.int .i64 31] m=some (.bool c,m):=λt m=>by rw[hc,k49]
     rw[if_neg o1,if_pos os,←hc];have hh:(o=96)∨(¬o=96∧o=112)∨(¬o=96∧¬o=112∧o=192):=by omega
     cases w with
     |false=>
      rcases hh with h1|⟨h1,h2⟩|⟨h1,h2,h3⟩
      ·refine aL rfl Try.func46 s46 (Nat.le_of_ble_eq_true rfl) (λQ hqr hqn=>?_)
       rw[bf (show An.pure 46=true from rfl) (by simp only[cans,aG,az,aC,aH,aC,inE.can])];simp only[aO,Nat.reduceAdd,c46]
       repeat' (first
       |with_reducible (first|refine ai ?_|refine ar ?_|refine au rfl ?_|refine ax rfl ?_|refine bc rfl ?_|refine d7 rfl ?_|refine aF ?_|refine aj (id:=0) (λQ0 hn0 hx0 hr0 ho0=>?_)|refine hr0 _ ?_)
       |(with_reducible (first|(refine ah (λK hK=>?_);(first|refine sb ?_|refine ti ?_|refine ww ?_|refine EV ?_|refine EX ?_|refine EZ ?_))|refine hqr _ ?_);(try simp only[true_implies,false_implies,not_true_eq_false,b9,if_true,if_false,Nat.reduceEqDiff,ap,aJ,dg,qO,qP,ba,ik,Nat.reduceAdd,Nat.zero_add,cb,List.drop_zero,eX,kM,cw,List.getElem?_cons_zero,List.getElem?_cons_succ,gT,br,fc,qy,lw,Option.map_some,gf,Bool.not_true,dU,List.take_zero,List.take_succ_cons,List.length_cons,List.length_nil,and_true,Nat.le_refl,gi,if_false,if_true,r46,aQ,ak,aD,Option.bind_some,am,jx,aV,Prod.mk.injEq,CV.bool.injEq,inC,k1,k2,h0,ne_eq,o1,h1]))
       |(revert hK;intro hK;(first|refine And.intro ?_ ?_|intro _|omega|(with_reducible refine hK _ ?_;clear hK K))))
       all_goals first|rfl|simp_all
      ·refine aL rfl Try.func46 s46 (Nat.le_of_ble_eq_true rfl) (λQ hqr hqn=>?_)
       rw[bf (show An.pure 46=true from rfl) (by simp only[cans,aG,az,aC,aH,aC,inE.can])];simp only[aO,Nat.reduceAdd,c46]
       repeat' (first
       |with_reducible (first|refine ai ?_|refine ar ?_|refine au rfl ?_|refine ax rfl ?_|refine bc rfl ?_|refine d7 rfl ?_|refine aF ?_|refine aj (id:=0) (λQ0 hn0 hx0 hr0 ho0=>?_)|refine hr0 _ ?_)
       |(with_reducible (first|(refine ah (λK hK=>?_);(first|refine sb ?_|refine ti ?_|refine ww ?_|refine EV ?_|refine EX ?_|refine EY ?_|refine EZ ?_))|refine hqr _ ?_);(try simp only[true_implies,false_implies,not_true_eq_false,b9,if_true,if_false,Nat.reduceEqDiff,ap,aJ,dg,qO,qP,ba,ik,Nat.reduceAdd,Nat.zero_add,cb,List.drop_zero,eX,kM,cw,List.getElem?_cons_zero,List.getElem?_cons_succ,gT,br,fc,qy,lw,Option.map_some,gf,Bool.not_true,dU,List.take_zero,List.take_succ_cons,List.length_cons,List.length_nil,and_true,Nat.le_refl,gi,if_false,if_true,r46,aQ,ak,aD,Option.bind_some,am,jx,aV,Prod.mk.injEq,CV.bool.injEq,inC,k1,k2,h0,ne_eq,o1,h1,h2]))
       |(revert hK;intro hK;(first|refine And.intro ?_ ?_|intro _|omega|(with_reducible refine hK _ ?_;clear hK K))))
       all_goals first|rfl|simp_all
      ·refine aL rfl Try.func46 s46 (Nat.le_of_ble_eq_true rfl) (λQ hqr hqn=>?_)
       rw[bf (show An.pure 46=true from rfl) (by simp only[cans,aG,az,aC,aH,aC,inE.can])];simp only[aO,Nat.reduceAdd,c46]
       repeat' (first
       |with_reducible (first|refine ai ?_|refine ar ?_|refine ax rfl ?_|refine bc rfl ?_|refine d7 rfl ?_|refine aF ?_|refine aj (id:=0) (λQ0 hn0 hx0 hr0 ho0=>?_)|refine hr0 _ ?_)
       |(with_reducible (first|(refine ah (λK hK=>?_);(first|refine sb ?_|refine ti ?_|refine ww ?_|refine EV ?_|refine EX ?_|refine EY ?_|refine Nc ?_|refine EZ ?_))|refine hqr _ ?_);(try simp only[true_implies,false_implies,not_true_eq_false,b9,if_true,if_false,Nat.reduceEqDiff,ap,aJ,dg,qO,qP,ba,ik,Nat.reduceAdd,Nat.zero_add,cb,List.drop_zero,eX,kM,cw,List.getElem?_cons_zero,List.getElem?_cons_succ,gT,br,fc,qy,lw,Option.map_some,gf,Bool.not_true,dU,List.take_zero,List.take_succ_cons,List.length_cons,List.length_nil,and_true,Nat.le_refl,gi,if_false,if_true,r46,aQ,ak,aD,Option.bind_some,am,jx,aV,Prod.mk.injEq,CV.bool.injEq,inC,k1,k2,h0,ne_eq,o1,h1,h2,h3]))
       |(revert hK;intro hK;(first|refine And.intro ?_ ?_|intro _|omega|(with_reducible refine hK _ ?_;clear hK K))))
       all_goals first|rfl|simp_all
     |true=>
      by_cases i1:x.imm≤63
      ·by_cases i2:0≤x.imm
       ·rcases hh with h1|⟨h1,h2⟩|⟨h1,h2,h3⟩
        ·refine aL rfl Try.func46 s46 (Nat.le_of_ble_eq_true rfl) (λQ hqr hqn=>?_)
         rw[bf (show An.pure 46=true from rfl) (by simp only[cans,aG,az,aC,aH,aC,inE.can])];simp only[aO,Nat.reduceAdd,c46]
         repeat' (first
         |with_reducible (first|refine ai ?_|refine ar ?_|refine au rfl ?_|refine ax rfl ?_|refine bc rfl ?_|refine d7 rfl ?_|refine aF ?_|refine aj (id:=0) (λQ0 hn0 hx0 hr0 ho0=>?_)|refine hr0 _ ?_)
         |(with_reducible (first|(refine ah (λK hK=>?_);(first|refine sb ?_|refine ti ?_|refine ww ?_|refine EV ?_|refine EX ?_|refine EZ ?_))|refine hqr _ ?_);(try simp only[true_implies,false_implies,not_true_eq_false,b9,if_true,if_false,Nat.reduceEqDiff,ap,aJ,dg,qO,qP,ba,ik,Nat.reduceAdd,Nat.zero_add,cb,List.drop_zero,eX,kM,cw,List.getElem?_cons_zero,List.getElem?_cons_succ,cB,gU,gT,br,fc,nL,qz,qy,lw,Option.map_some,ic,gf,Bool.not_true,dU,List.take_zero,List.take_succ_cons,List.length_cons,List.length_nil,and_true,Nat.le_refl,gi,Bool.and_self,decide_true,Bool.true_or,if_false,if_true,r46,aQ,ak,aD,Option.bind_some,am,jx,aV,inC,k1,k2,h0,ne_eq,o1,h1,i1,i2,ge_iff_le]))
         |(revert hK;intro hK;(first|refine And.intro ?_ ?_|intro _|omega|(with_reducible refine hK _ ?_;clear hK K))))
         all_goals first|rfl|simp_all
        ·refine aL rfl Try.func46 s46 (Nat.le_of_ble_eq_true rfl) (λQ hqr hqn=>?_)
         rw[bf (show An.pure 46=true from rfl) (by simp only[cans,aG,az,aC,aH,aC,inE.can])];simp only[aO,Nat.reduceAdd,c46]
         repeat' (first
         |with_reducible (first|refine ai ?_|refine ar ?_|refine au rfl ?_|refine ax rfl ?_|refine bc rfl ?_|refine d7 rfl ?_|refine aF ?_|refine aj (id:=0) (λQ0 hn0 hx0 hr0 ho0=>?_)|refine hr0 _ ?_)
         |(with_reducible (first|(refine ah (λK hK=>?_);(first|refine sb ?_|refine ti ?_|refine ww ?_|refine EV ?_|refine EX ?_|refine EY ?_|refine EZ ?_))|refine hqr _ ?_);(try simp only[true_implies,false_implies,not_true_eq_false,b9,if_true,if_false,Nat.reduceEqDiff,ap,aJ,dg,qO,qP,ba,ik,Nat.reduceAdd,Nat.zero_add,cb,List.drop_zero,eX,kM,cw,List.getElem?_cons_zero,List.getElem?_cons_succ,cB,gU,gT,br,fc,nL,qz,qy,lw,Option.map_some,ic,gf,Bool.not_true,dU,List.take_zero,List.take_succ_cons,List.length_cons,List.length_nil,and_true,Nat.le_refl,gi,Bool.and_self,decide_true,Bool.true_or,if_false,if_true,r46,aQ,ak,aD,Option.bind_some,am,jx,aV,inC,k1,k2,h0,ne_eq,o1,h1,h2,i1,i2,ge_iff_le]))
         |(revert hK;intro hK;(first|refine And.intro ?_ ?_|intro _|omega|(with_reducible refine hK _ ?_;clear hK K))))
         all_goals first|rfl|simp_all
        ·refine aL rfl Try.func46 s46 (Nat.le_of_ble_eq_true rfl) (λQ hqr hqn=>?_)
         rw[bf (show An.pure 46=true from rfl) (by simp only[cans,aG,az,aC,aH,aC,inE.can])];simp only[aO,Nat.reduceAdd,c46]
         repeat' (first
         |with_reducible (first|refine ai ?_|refine ar ?_|refine ax rfl ?_|refine bc rfl ?_|refine d7 rfl ?_|refine aF ?_|refine aj (id:=0) (λQ0 hn0 hx0 hr0 ho0=>?_)|refine hr0 _ ?_)
         |(with_reducible (first|(refine ah (λK hK=>?_);(first|refine sb ?_|refine ti ?_|refine ww ?_|refine EV ?_|refine EX ?_|refine EY ?_|refine Nc ?_|refine EZ ?_))|refine hqr _ ?_);(try simp only[true_implies,false_implies,not_true_eq_false,b9,if_true,if_false,Nat.reduceEqDiff,ap,aJ,dg,qO,qP,ba,ik,Nat.reduceAdd,Nat.zero_add,cb,List.drop_zero,eX,kM,cw,List.getElem?_cons_zero,List.getElem?_cons_succ,cB,gU,gT,br,fc,nL,qz,qy,lw,Option.map_some,ic,gf,Bool.not_true,dU,List.take_zero,List.take_succ_cons,List.length_cons,List.length_nil,and_true,Nat.le_refl,gi,Bool.and_self,decide_true,Bool.true_or,if_false,if_true,r46,aQ,ak,aD,Option.bind_some,am,jx,aV,inC,k1,k2,h0,ne_eq,o1,h1,h2,h3,i1,i2,ge_iff_le]))
         |(revert hK;intro hK;(first|refine And.intro ?_ ?_|intro _|omega|(with_reducible refine hK _ ?_;clear hK K))))
         all_goals first|rfl|simp_all
       ·rcases hh with h1|⟨h1,h2⟩|⟨h1,h2,h3⟩
        ·refine aL rfl Try.func46 s46 (Nat.le_of_ble_eq_true rfl) (λQ hqr hqn=>?_)
         rw[bf (show An.pure 46=true from rfl) (by simp only[cans,aG,az,aC,aH,aC,inE.can])];simp only[aO,Nat.reduceAdd,c46]
         repeat' (first
         |with_reducible (first|refine ai ?_|refine ar ?_|refine au rfl ?_|refine ax rfl ?_|refine bc rfl ?_|refine d7 rfl ?_|refine aF ?_|refine aj (id:=0) (λQ0 hn0 hx0 hr0 ho0=>?_)|refine hr0 _ ?_)
         |(with_reducible (first|(refine ah (λK hK=>?_);(first|refine sb ?_|refine ti ?_|refine ww ?_|refine EV ?_|refine EX ?_|refine EZ ?_))|refine hqr _ ?_);(try simp only[true_implies,false_implies,not_true_eq_false,not_false_eq_true,b9,if_true,if_false,Nat.reduceEqDiff,ap,aJ,dg,qO,qP,ba,ik,Nat.reduceAdd,Nat.zero_add,cb,List.drop_zero,eX,kM,cw,List.getElem?_cons_zero,List.getElem?_cons_succ,cB,gU,gT,br,fc,nL,qz,qy,lw,Option.map_some,ic,gf,Bool.not_true,dU,List.take_zero,List.take_succ_cons,List.length_cons,List.length_nil,and_true,true_and,Nat.le_refl,gi,Bool.true_and,decide_false,decide_true,Bool.false_or,if_false,if_true,r46,aQ,ak,aD,Option.bind_some,am,jx,aV,inC,k1,k2,h0,ne_eq,o1,h1,i1,i2,ge_iff_le]))
         |(revert hK;intro hK;(first|refine And.intro ?_ ?_|intro _|omega|(with_reducible refine hK _ ?_;clear hK K))))
         all_goals first|rfl|simp_all
        ·refine aL rfl Try.func46 s46 (Nat.le_of_ble_eq_true rfl) (λQ hqr hqn=>?_)
         rw[bf (show An.pure 46=true from rfl) (by simp only[cans,aG,az,aC,aH,aC,inE.can])];simp only[aO,Nat.reduceAdd,c46]
         repeat' (first
         |with_reducible (first|refine ai ?_|refine ar ?_|refine au rfl ?_|refine ax rfl ?_|refine bc rfl ?_|refine d7 rfl ?_|refine aF ?_|refine aj (id:=0) (λQ0 hn0 hx0 hr0 ho0=>?_)|refine hr0 _ ?_)
         |(with_reducible (first|(refine ah (λK hK=>?_);(first|refine sb ?_|refine ti ?_|refine ww ?_|refine EV ?_|refine EX ?_|refine EY ?_|refine EZ ?_))|refine hqr _ ?_);(try simp only[true_implies,false_implies,not_true_eq_false,not_false_eq_true,b9,if_true,if_false,Nat.reduceEqDiff,ap,aJ,dg,qO,qP,ba,ik,Nat.reduceAdd,Nat.zero_add,cb,List.drop_zero,eX,kM,cw,List.getElem?_cons_zero,List.getElem?_cons_succ,cB,gU,gT,br,fc,nL,qz,qy,lw,Option.map_some,ic,gf,Bool.not_true,dU,List.take_zero,List.take_succ_cons,List.length_cons,List.length_nil,and_true,true_and,Nat.le_refl,gi,Bool.true_and,decide_false,decide_true,Bool.false_or,if_false,if_true,r46,aQ,ak,aD,Option.bind_some,am,jx,aV,inC,k1,k2,h0,ne_eq,o1,h1,h2,i1,i2,ge_iff_le]))
         |(revert hK;intro hK;(first|refine And.intro ?_ ?_|intro _|omega|(with_reducible refine hK _ ?_;clear hK K))))
         all_goals first|rfl|simp_all
        ·refine aL rfl Try.func46 s46 (Nat.le_of_ble_eq_true rfl) (λQ hqr hqn=>?_)
         rw[bf (show An.pure 46=true from rfl) (by simp only[cans,aG,az,aC,aH,aC,inE.can])];simp only[aO,Nat.reduceAdd,c46]
         repeat' (first
         |with_reducible (first|refine ai ?_|refine ar ?_|refine ax rfl ?_|refine bc rfl ?_|refine d7 rfl ?_|refine aF ?_|refine aj (id:=0) (λQ0 hn0 hx0 hr0 ho0=>?_)|refine hr0 _ ?_)
         |(with_reducible (first|(refine ah (λK hK=>?_);(first|refine sb ?_|refine ti ?_|refine ww ?_|refine EV ?_|refine EX ?_|refine EY ?_|refine Nc ?_|refine EZ ?_))|refine hqr _ ?_);(try simp only[true_implies,false_implies,not_true_eq_false,not_false_eq_true,b9,if_true,if_false,Nat.reduceEqDiff,ap,aJ,dg,qO,qP,ba,ik,Nat.reduceAdd,Nat.zero_add,cb,List.drop_zero,eX,kM,cw,List.getElem?_cons_zero,List.getElem?_cons_succ,cB,gU,gT,br,fc,nL,qz,qy,lw,Option.map_some,ic,gf,Bool.not_true,dU,List.take_zero,List.take_succ_cons,List.length_cons,List.length_nil,and_true,true_and,Nat.le_refl,gi,Bool.true_and,decide_false,decide_true,Bool.false_or,if_false,if_true,r46,aQ,ak,aD,Option.bind_some,am,jx,aV,inC,k1,k2,h0,ne_eq,o1,h1,h2,h3,i1,i2,ge_iff_le]))
         |(revert hK;intro hK;(first|refine And.intro ?_ ?_|intro _|omega|(with_reducible refine hK _ ?_;clear hK K))))
         all_goals first|rfl|simp_all
      ·rcases hh with h1|⟨h1,h2⟩|⟨h1,h2,h3⟩
       ·refine aL rfl Try.func46 s46 (Nat.le_of_ble_eq_true rfl) (λQ hqr hqn=>?_)
        rw[bf (show An.pure 46=true from rfl) (by simp only[cans,aG,az,aC,aH,aC,inE.can])];simp only[aO,Nat.reduceAdd,c46]
        repeat' (first
        |with_reducible (first|refine ai ?_|refine ar ?_|refine au rfl ?_|refine ax rfl ?_|refine bc rfl ?_|refine d7 rfl ?_|refine aF ?_|refine aj (id:=0) (λQ0 hn0 hx0 hr0 ho0=>?_)|refine hr0 _ ?_)
        |(with_reducible (first|(refine ah (λK hK=>?_);(first|refine sb ?_|refine ti ?_|refine ww ?_|refine EV ?_|refine EX ?_|refine EZ ?_))|refine hqr _ ?_);(try simp only[true_implies,false_implies,not_true_eq_false,not_false_eq_true,b9,if_true,if_false,Nat.reduceEqDiff,ap,aJ,dg,qO,qP,ba,ik,Nat.reduceAdd,Nat.zero_add,cb,List.drop_zero,eX,kM,cw,List.getElem?_cons_zero,List.getElem?_cons_succ,cB,gU,gT,br,fc,nL,qz,qy,lw,Option.map_some,ic,gf,Bool.not_true,dU,List.take_zero,List.take_succ_cons,List.length_cons,List.length_nil,and_true,true_and,Nat.le_refl,gi,Bool.true_and,decide_false,if_false,if_true,r46,aQ,ak,aD,Option.bind_some,am,jx,aV,Prod.mk.injEq,CV.bool.injEq,inC,k1,k2,h0,ne_eq,o1,h1,i1]))
        |(revert hK;intro hK;(first|refine And.intro ?_ ?_|intro _|omega|(with_reducible refine hK _ ?_;clear hK K))))
        all_goals first|rfl|simp_all
       ·refine aL rfl Try.func46 s46 (Nat.le_of_ble_eq_true rfl) (λQ hqr hqn=>?_)
        rw[bf (show An.pure 46=true from rfl) (by simp only[cans,aG,az,aC,aH,aC,inE.can])];simp only[aO,Nat.reduceAdd,c46]
        repeat' (first
        |with_reducible (first|refine ai ?_|refine ar ?_|refine au rfl ?_|refine ax rfl ?_|refine bc rfl ?_|refine d7 rfl ?_|refine aF ?_|refine aj (id:=0) (λQ0 hn0 hx0 hr0 ho0=>?_)|refine hr0 _ ?_)
        |(with_reducible (first|(refine ah (λK hK=>?_);(first|refine sb ?_|refine ti ?_|refine ww ?_|refine EV ?_|refine EX ?_|refine EY ?_|refine EZ ?_))|refine hqr _ ?_);(try simp only[true_implies,false_implies,not_true_eq_false,not_false_eq_true,b9,if_true,if_false,Nat.reduceEqDiff,ap,aJ,dg,qO,qP,ba,ik,Nat.reduceAdd,Nat.zero_add,cb,List.drop_zero,eX,kM,cw,List.getElem?_cons_zero,List.getElem?_cons_succ,cB,gU,gT,br,fc,nL,qz,qy,lw,Option.map_some,ic,gf,Bool.not_true,dU,List.take_zero,List.take_succ_cons,List.length_cons,List.length_nil,and_true,true_and,Nat.le_refl,gi,Bool.true_and,decide_false,if_false,if_true,r46,aQ,ak,aD,Option.bind_some,am,jx,aV,Prod.mk.injEq,CV.bool.injEq,inC,k1,k2,h0,ne_eq,o1,h1,h2,i1]))
        |(revert hK;intro hK;(first|refine And.intro ?_ ?_|intro _|omega|(with_reducible refine hK _ ?_;clear hK K))))
        all_goals first|rfl|simp_all
       ·refine aL rfl Try.func46 s46 (Nat.le_of_ble_eq_true rfl) (λQ hqr hqn=>?_)
        rw[bf (show An.pure 46=true from rfl) (by simp only[cans,aG,az,aC,aH,aC,inE.can])];simp only[aO,Nat.reduceAdd,c46]
        repeat' (first
        |with_reducible (first|refine ai ?_|refine ar ?_|refine ax rfl ?_|refine bc rfl ?_|refine d7 rfl ?_|refine aF ?_|refine aj (id:=0) (λQ0 hn0 hx0 hr0 ho0=>?_)|refine hr0 _ ?_)
        |(with_reducible (first|(refine ah (λK hK=>?_);(first|refine sb ?_|refine ti ?_|refine ww ?_|refine EV ?_|refine EX ?_|refine EY ?_|refine Nc ?_|refine EZ ?_))|refine hqr _ ?_);(try simp only[true_implies,false_implies,not_true_eq_false,not_false_eq_true,b9,if_true,if_false,Nat.reduceEqDiff,ap,aJ,dg,qO,qP,ba,ik,Nat.reduceAdd,Nat.zero_add,cb,List.drop_zero,eX,kM,cw,List.getElem?_cons_zero,List.getElem?_cons_succ,cB,gU,gT,br,fc,nL,qz,qy,lw,Option.map_some,ic,gf,Bool.not_true,dU,List.take_zero,List.take_succ_cons,List.length_cons,List.length_nil,and_true,true_and,Nat.le_refl,gi,Bool.true_and,decide_false,if_false,if_true,r46,aQ,ak,aD,Option.bind_some,am,jx,aV,Prod.mk.injEq,CV.bool.injEq,inC,k1,k2,h0,ne_eq,o1,h1,h2,h3,i1]))
        |(revert hK;intro hK;(first|refine And.intro ?_ ?_|intro _|omega|(with_reducible refine hK _ ?_;clear hK K))))
        all_goals first|rfl|simp_all
    ·have h1:¬o=96:=λe=>os (.inl e)
     have h2:¬o=112:=λe=>os (.inr (.inl e));have h3:¬o=192:=λe=>os (.inr (.inr e));rw[if_neg o1,if_neg os];refine aL rfl Try.func46 s46 (Nat.le_of_ble_eq_true rfl) (λQ hqr hqn=>?_);rw[bf (show An.pure 46=true from rfl) (by simp only[cans,aG,az,aC,aH,aC,inE.can])];simp only[aO,Nat.reduceAdd,c46]
     repeat' (first
     |with_reducible (first|refine ai ?_|refine ar ?_|refine ax rfl ?_|refine d7 rfl ?_|refine aF ?_|refine bx ?_|refine aj (id:=0) (λQ0 hn0 hx0 hr0 ho0=>?_)|refine hn0 _ ?_)
     |(with_reducible (first|(refine ah (λK hK=>?_);(first|refine sb ?_|refine ti ?_|refine ww ?_|refine EV ?_|refine EX ?_|refine EY ?_|refine Nc ?_|refine t46r10 ?_))|refine hqr _ ?_);(try simp only[true_implies,false_implies,not_true_eq_false,not_false_eq_true,b9,if_true,if_false,Nat.reduceEqDiff,ap,aJ,dg,qO,qP,ba,ik,Nat.reduceAdd,Nat.zero_add,cb,List.drop_zero,eX,kM,cw,List.getElem?_cons_zero,List.getElem?_cons_succ,gT,br,fc,qy,Option.map_some,gf,Bool.not_true,dU,List.take_zero,List.take_succ_cons,List.length_cons,List.length_nil,and_true,true_and,Nat.le_refl,gi,if_false,if_true,r46,aQ,ak,aD,Option.bind_some,am,jx,aV,inC,k1,h0,ne_eq,o1,h1,h2,h3]))
     |(revert hK;intro hK;(with_reducible refine hK _ ?_;clear hK K)))
     all_goals first|rfl|simp_all
  ·have he:Hp x o w=false:=by simp[Hp,h0]
   rw[he];refine aL rfl Try.func46 s46 (Nat.le_of_ble_eq_true rfl) (λQ hqr hqn=>?_);rw[bf (show An.pure 46=true from rfl) (by simp only[cans,aG,az,aC,aH,aC,inE.can])];simp only[aO,Nat.reduceAdd,c46]
   repeat' (first
   |with_reducible (first|refine ai ?_|refine au rfl ?_|refine b6 ?_)
   |(with_reducible (first|(refine ah (λK hK=>?_);(first|refine sb ?_|refine ti ?_|refine t46r2 ?_))|refine hqr _ ?_);(try simp only[true_implies,false_implies,not_false_eq_true,b9,if_true,if_false,Nat.reduceEqDiff,ap,aJ,dg,qO,qP,ba,ik,Nat.reduceAdd,Nat.zero_add,cb,List.drop_zero,eX,kM,cw,List.getElem?_cons_zero,List.getElem?_cons_succ,br,fc,qy,Option.map_some,gf,Bool.not_true,dU,List.take_zero,List.take_succ_cons,List.length_cons,List.length_nil,true_and,Nat.le_refl,gi,if_false,if_true,r46,aQ,ak,aD,Option.bind_some,am,jx,aV,inC,k1,h0,ne_eq]))
   |(revert hK;intro hK;(with_reducible refine hK _ ?_;clear hK K)))
   all_goals first|rfl|simp_all
theorem k46 {x:In}{o:Int}{w:Bool}{fid:FuncId}{d:Tmp}{m:Mem}:cd An FF fid (some d) 46 [.agg (inC x),.int .i64 o,.bool w] m=some (.bool (Hp x o w),m):=
 cr (x46 x o w) (λ_ _ _=>rfl) rfl (by simp only[cans,aC,aG,az,inE.can]) rfl rfl rfl
end Go.Cm
