import Derived.Test.YtijcpefcfcbcnaaCxD
import Derived.Test.YtijcpefcfcbcnaaCxH
import Derived.Test.YtijcpefcfcbcnaaIyG
import Derived.Test.YtijcpefcfcbcnaaIzA
set_option linter.unusedSimpArgs false
set_option linter.unusedVariables false
namespace Go.Cm
open Go.Proofs
theorem areaE:Enc dc 2:=⟨fun _=>rfl,fun _=>rfl,fun _=>rfl,fun _=>rfl⟩
theorem layE:Enc cX 3:=⟨fun _=>rfl,fun l=>by simp only[cX,dc,cans,aG,az,areaE.can_sl,List.cons_append,List.nil_append],fun l=>iQ l,fun _=>rfl⟩
theorem factE:Enc cx 4:=⟨fun _=>rfl,fun _=>rfl,fun _=>rfl,fun _=>rfl⟩
theorem x105 (l:Lay):FF 105 [.agg (cX l)] []=some (.int .i64 (if eK l then 0 else 22),[]):=by
 refine aL rfl Try.func105 s105 (Nat.le_of_ble_eq_true rfl) (fun Q hqr hqn=>?_)
 rw[bf (show An.pure 105=true from rfl) (by simp only[cans,aG,az,aC,aH,layE.can,factE.can])]
 simp only[aO,Nat.reduceAdd,c105]
 repeat' (first
 |with_reducible (first|refine ai ?_|refine ar ?_|refine au rfl ?_|refine ax rfl ?_|refine be ?_|refine aj (id:=0) (fun Q0 hn0 hx0 hr0 ho0=>?_))
 |(with_reducible (first|(refine ah (fun K hK=>?_);(first|refine t105r0 ?_|refine t105r1 ?_|refine t105r2 ?_|refine t105r3 ?_))|refine hqr _ ?_);(try simp only[SS,Nat.reduceEqDiff,ap,bq,lenS,r105,aQ,ak,aD,am,bz,CV.int.injEq,tX,tY,jV,aP]))
 |(revert hK;intro hK;(first|refine And.intro ?_ ?_|intro _|(with_reducible refine hK _ ?_;clear hK K))))
 case refine_1=>rw[if_neg];intro h;have:=h.1;omega
 case refine_2.refine_1=>rw[if_neg];intro h;have:=h.2.1;omega
 case refine_2.refine_2.refine_1=>rw[if_neg];intro h;have:=h.2.2.1;omega
 refine aU (fun n s=>∃ d r m,l.maps=d++r∧(∀ a ∈ d,n7 a)∧n=r.length∧s=⟨[(22,sl dc l.maps),(23,.int .i64 l.maps.length),(24,.int .i64 d.length)],m⟩∧m.H=[]) _ ⟨[],l.maps,_,rfl,by simp,rfl,rfl,rfl⟩ ?_
 rintro n s ⟨d,r,m,h1,h2,rfl,rfl,hH⟩ QL0 hnL0 hxL0 hrL0
 have hlen:=congrArg List.length h1
 simp only[List.length_append] at hlen
 cases r with
 |nil=>
  simp only[List.length_nil] at hlen
  simp only[tz]
  repeat' (first
  |with_reducible (first|refine ax rfl ?_|refine aN ?_|refine aF ?_|refine hx0 _ ?_|refine hxL0 _ _ ?_)
  |(with_reducible (first|(refine ah (fun K hK=>?_);(first|refine Ew ?_|refine t105r9 ?_))|refine hqr _ ?_);(try simp only[SS,Nat.reduceEqDiff,r105,aQ,ak,aD,am,bz,CV.int.injEq]))
  |(revert hK;intro hK;(first|refine And.intro ?_ ?_|intro _|omega|(with_reducible refine hK _ ?_;clear hK K))))
  refine⟨?_,hH⟩
  rw[if_pos]
  exact⟨by omega,by omega,by omega,by rw[h1,List.append_nil];exact h2⟩
 |cons a r=>
  simp only[List.length_cons] at hlen
  simp only[tz]
  have ha:a ∈ l.maps:=by rw[h1];simp
  have hw:IntKind.i64.wrap ((d.length:Int)+1)=d.length+1:=wI (by omega) (by omega)
  repeat' (first
  |with_reducible (first|refine ar ?_|refine au rfl ?_|refine bc rfl ?_|refine bn rfl ?_|refine aF ?_|refine bx ?_|refine hr0 _ ?_|refine aj (id:=1) (fun Q1 hn1 hx1 hr1 ho1=>?_)|refine hn1 _ ?_|refine hr1 _ ?_|refine hrL0 _ ?_)
  |(with_reducible (first|((first|refine ah (fun K hK=>?_)|refine aI (fun K hK=>?_));(first|refine Ew ?_|refine t105r5 ?_|refine t105r6 ?_|refine t105r7 ?_|refine t105r8 ?_))|refine hqr _ ?_);(try simp only[SS,Nat.reduceEqDiff,ap,aS,Nat.reduceAdd,bq,ay,r105,aQ,ak,aD,am,bz,CV.int.injEq,hw,aM cS (by omega) h1,wa (cS a),cS,areaC_0,areaC_1]))
  |(revert hK;intro hK;(first|refine And.intro ?_ ?_|intro _|omega|(with_reducible refine hK _ ?_;clear hK K))))
  ·refine⟨?_,hH⟩
   rw[if_neg];intro h;have:=(h.2.2.2 a ha).1;omega
  ·refine⟨?_,hH⟩
   rw[if_neg];intro h;have:=(h.2.2.2 a ha).2;omega
  ·refine hnL0 r.length _ (by simp) ⟨d++[a],r,bi m 64 (.var (bj m.L 64) (dc a) 0),by simp[h1],?_,rfl,by simp,hH⟩
   intro b hb
   rcases List.mem_append.1 hb with hb|hb
   ·exact h2 b hb
   ·rw[List.mem_singleton.1 hb];exact⟨by omega,by omega⟩
theorem k105 (l:Lay) {fid:FuncId}{d:Tmp}{m:Mem}:aB An FF fid (some d) 105 [.agg (cX l)] m=some (.int .i64 (if eK l then 0 else 22),m):=by
 rw[el (x105 l) rfl (by simp only[List.all_cons,List.all_nil,fV,jW,Bool.and_self]) (by simp only[noGs,iQ,Bool.and_self]) rfl];rfl
theorem x77 (l:Lay):FF 77 [.agg (cX l)] []=some (if eK l then .own (eZ l).length 2 ((eZ l).flatMap dc) 0 else .nil,[]):=by
 refine aL rfl Try.func77 s77 (Nat.le_of_ble_eq_true rfl) (fun Q hqr hqn=>?_)
 rw[bf (show An.pure 77=true from rfl) (by simp only[cans,aG,az,aC,aH,layE.can,factE.can])]
 simp only[aO,Nat.reduceAdd,c77]
 repeat' (first
 |with_reducible (first|refine ai ?_|refine ar ?_|refine au rfl ?_|refine ax rfl ?_|refine be ?_|refine aF ?_)
 |(with_reducible (first|(refine ah (fun K hK=>?_);(first|refine t77r0 ?_|refine t77r1 ?_|refine t77r2 ?_|refine t77r3 ?_))|refine hqr _ ?_);(try simp only[SS,Nat.reduceEqDiff,ap,dj,ef,bv,aR,aS,Nat.reduceMul,Nat.reduceAdd,br,cD,dy,fP,ea,bg,cd,bF,ay,Nat.reduceLeDiff,Nat.zero_le,cz,List.all_cons,List.all_nil,Bool.and_self,r77,aQ,ak,aD,am,dq,bV,Nat.sub_self,eh,tX,tY,jV,aP,bR,cY,mG,k105,sc,dc,tK cS]))
 |(revert hK;intro hK;(first|refine And.intro ?_ ?_|intro _|(with_reducible refine hK _ ?_;clear hK K))))
 case refine_1.refine_1 h=>
  have hok:eK l:=by
   by_cases hk:eK l
   ·exact hk
   ·rw[if_neg hk] at h;cases h
  exact dI (by omega) (by have:=hok.2.2.1;omega)
 case refine_1.refine_2 h=>
  have hok:eK l:=by
   by_cases hk:eK l
   ·exact hk
   ·rw[if_neg hk] at h;cases h
  rw[if_pos hok]
  have h1:(eZ l).length=2+l.maps.length:=by simp only[eZ,List.length_cons];omega
  have h2:(eZ l).flatMap dc=CV.int IntKind.i64 l.ctx.size::CV.bool l.ctx.write::CV.int IntKind.i64 512::CV.bool true::List.flatMap dc l.maps:=rfl
  rw[←h2,←h1,own_all cS rfl]
 case refine_2 h=>
  have hok:¬ eK l:=by
   intro hk;rw[if_pos hk] at h;exact h rfl
  rw[if_neg hok]
theorem k77 (l:Lay) {m:Mem}:aB An FF 51 (some 8) 77 [.agg (cX l)] m=some (if eK l then (.ref (.l 128) (bj m.L 128) 0 (eZ l).length,bi m 128 (.arr (bj m.L 128) 2 ((eZ l).flatMap dc) 0)) else (.nil,m)):=by
 rw[el (x77 l) rfl (by simp only[List.all_cons,List.all_nil,fV,jW,Bool.and_self]) (by simp only[noGs,iQ,Bool.and_self]) (by split;exact eJ vc _;rfl)]
 split
 ·exact congrArg some po
 ·rfl
def ey (l:Lay) (r:Int):CV:=match df l r with|some a=>.tuple [.agg (dc a),.bool true]|none=>.tuple [.agg [.int .i64 0,.bool false],.bool false]
theorem x51 (l:Lay) (r:Int) (h0:-9223372036854775808≤r) (h1:r≤9223372036854775807):FF 51 [.agg (cX l),.int .i64 r] []=some (ey l r,[]):=by
 refine aL rfl Try.func51 s51 (Nat.le_of_ble_eq_true rfl) (fun Q hqr hqn=>?_)
 rw[bf (show An.pure 51=true from rfl) (by simp only[cans,aG,az,aC,aH,layE.can,factE.can])]
 simp only[aO,Nat.reduceAdd,c51]
 by_cases hk:eK l∧1≤r
 ·obtain⟨hk,hr⟩:=hk
  have hw:IntKind.i64.wrap (r - 1)=r - 1:=wI (by omega) (by omega)
  cases ha:(eZ l)[(r - 1).toNat]? with
  |some a=>
   have hlt:=(List.getElem?_eq_some_iff.1 ha).1
   obtain⟨f1,f2⟩:=hJ (e:=dc) cS ha
   have hv:df l r=some a:=by simp only[df,hk,hr,and_self,if_true,ha]
   simp only[ey,hv] at hqr hqn
   repeat' (first
   |with_reducible (first|refine ai ?_|refine au rfl ?_|refine be ?_)
   |(with_reducible (first|(refine ah (fun K hK=>?_);(first|refine wy ?_|refine wz ?_|refine wA ?_|refine t51r3 ?_))|refine hqr _ ?_);(try simp only[SS,Nat.reduceEqDiff,ap,bv,aR,Nat.reduceAdd,cB,lenS,fe,dy,bD,ay,fB,r51,oW,aQ,ak,aD,am,bW,bR,cY,k77,hk,cS,hw,f1,mG,ke]))
   |(revert hK;intro hK;(first|refine And.intro ?_ ?_|intro _|omega|(with_reducible refine hK _ ?_;clear hK K))))
  |none=>
   have hge:=List.getElem?_eq_none_iff.1 ha
   have hv:df l r=none:=by simp only[df,hk,hr,and_self,if_true,ha]
   simp only[ey,hv] at hqr hqn
   repeat' (first
   |with_reducible (first|refine ai ?_|refine ar ?_|refine ax rfl ?_|refine aF ?_)
   |(with_reducible (first|(refine ah (fun K hK=>?_);(first|refine wy ?_|refine wz ?_|refine wA ?_|refine Fg ?_))|refine hqr _ ?_);(try simp only[SS,Nat.reduceEqDiff,ap,bv,aR,Nat.reduceAdd,cB,lenS,bg,ay,r51,oW,aQ,ak,aD,am,dD,gI,nH,bW,bR,cY,k77,hk,cS,hw]))
   |(revert hK;intro hK;(first|refine And.intro ?_ ?_|intro _|omega|(with_reducible refine hK _ ?_;clear hK K))))
 ·have hv:df l r=none:=by simp only[df,hk,if_false]
  simp only[ey,hv] at hqr hqn
  by_cases hk':eK l
  ·have hr:¬ 1≤r:=fun h=>hk ⟨hk',h⟩
   repeat' (first
   |with_reducible (first|refine ai ?_|refine ar ?_|refine ax rfl ?_|refine aF ?_)
   |(with_reducible (first|(refine ah (fun K hK=>?_);(first|refine wy ?_|refine wz ?_|refine wA ?_|refine Fg ?_))|refine hqr _ ?_);(try simp only[SS,Nat.reduceEqDiff,ap,bv,aR,Nat.reduceAdd,cB,lenS,bg,ay,r51,oW,aQ,ak,aD,am,dD,gI,nH,bW,bR,cY,k77,hk']))
   |(revert hK;intro hK;(first|refine And.intro ?_ ?_|intro _|omega|(with_reducible refine hK _ ?_;clear hK K))))
  ·repeat' (first
   |with_reducible (first|refine ai ?_|refine ar ?_|refine ax rfl ?_|refine aF ?_)
   |(with_reducible (first|(refine ah (fun K hK=>?_);(first|refine wy ?_|refine wz ?_|refine wA ?_|refine Fg ?_))|refine hqr _ ?_);(try simp only[SS,Nat.reduceEqDiff,ap,bv,aR,aS,Nat.reduceAdd,cB,lenS,clen_n,bg,ay,r51,oW,aQ,ak,aD,am,dD,gI,nH,bW,bR,cY,k77,hk']))
   |(revert hK;intro hK;(first|refine And.intro ?_ ?_|intro _|omega|(with_reducible refine hK _ ?_;clear hK K))))
theorem x78 (l:Lay):FF 78 [.agg (cX l)] []=some (.int .i64 (if eK l then 0 else 22),[]):=by
 refine aL rfl Try.func78 s78 (Nat.le_of_ble_eq_true rfl) (fun Q hqr hqn=>?_)
 rw[bf (show An.pure 78=true from rfl) (by simp only[cans,aG,az,aC,aH,layE.can,factE.can])]
 simp only[aO,Nat.reduceAdd,c78]
 repeat' (first
 |with_reducible (first|refine ai ?_|refine ar ?_|refine au rfl ?_|refine ax rfl ?_|refine be ?_|refine aj (id:=0) (fun Q0 hn0 hx0 hr0 ho0=>?_))
 |(with_reducible (first|(refine ah (fun K hK=>?_);(first|refine t78r0 ?_|refine t78r1 ?_|refine t78r2 ?_|refine t78r3 ?_))|refine hqr _ ?_);(try simp only[SS,Nat.reduceEqDiff,ap,bq,lenS,r78,aQ,ak,aD,am,bz,CV.int.injEq,tX,tY,jV,aP]))
 |(revert hK;intro hK;(first|refine And.intro ?_ ?_|intro _|(with_reducible refine hK _ ?_;clear hK K))))
 case refine_1=>rw[if_neg];intro h;have:=h.1;omega
 case refine_2.refine_1=>rw[if_neg];intro h;have:=h.2.1;omega
 case refine_2.refine_2.refine_1=>rw[if_neg];intro h;have:=h.2.2.1;omega
 refine aU (fun n s=>∃ d r m g,l.maps=d++r∧(∀ a ∈ d,n7 a)∧n=r.length∧s=⟨[(1,.ptr (.l 16) g 0),(3,.int .i64 d.length)],m⟩∧m.H=[]∧aK m.L 16=some (.var g (cX l) 0)) _ ⟨[],l.maps,_,_,rfl,by simp,rfl,rfl,rfl,rfl⟩ ?_
 rintro n s ⟨d,r,m,g,h1,h2,rfl,rfl,hH,hg⟩ QL0 hnL0 hxL0 hrL0
 have hlen:=congrArg List.length h1
 simp only[List.length_append] at hlen
 cases r with
 |nil=>
  simp only[List.length_nil] at hlen
  simp only[CY]
  repeat' (first
  |with_reducible (first|refine ai ?_|refine ax rfl ?_|refine aN ?_|refine aF ?_|refine hx0 _ ?_|refine hxL0 _ _ ?_)
  |(with_reducible (first|(refine ah (fun K hK=>?_);(first|refine t78r4 ?_|refine t78r8 ?_))|refine hqr _ ?_);(try simp only[SS,Nat.reduceEqDiff,lenS,r78,aQ,ak,aD,am,bz,CV.int.injEq,hg,jV,aP]))
  |(revert hK;intro hK;(first|refine And.intro ?_ ?_|intro _|omega|(with_reducible refine hK _ ?_;clear hK K))))
  refine⟨?_,hH⟩
  rw[if_pos]
  exact⟨by omega,by omega,by omega,by rw[h1,List.append_nil];exact h2⟩
 |cons a r=>
  simp only[List.length_cons] at hlen
  simp only[CY]
  have ha:a ∈ l.maps:=by rw[h1];simp
  have hw:IntKind.i64.wrap ((d.length:Int)+1)=d.length+1:=wI (by omega) (by omega)
  repeat' (first
  |with_reducible (first|refine ai ?_|refine ar ?_|refine au rfl ?_|refine bc rfl ?_|refine bn rfl ?_|refine aF ?_|refine bx ?_|refine hr0 _ ?_|refine aj (id:=1) (fun Q1 hn1 hx1 hr1 ho1=>?_)|refine hn1 _ ?_|refine hr1 _ ?_|refine hrL0 _ ?_)
  |(with_reducible (first|((first|refine ah (fun K hK=>?_)|refine aI (fun K hK=>?_));(first|refine t78r4 ?_|refine t78r6 ?_|refine t78r7 ?_|refine t78r5 ?_))|refine hqr _ ?_);(try simp only[SS,Nat.reduceEqDiff,bL,dw,bq,lenS,r78,aQ,ak,aD,am,bz,CV.int.injEq,hg,jV,aP,hw,aM cS (by omega) h1,dc]))
  |(revert hK;intro hK;(first|refine And.intro ?_ ?_|intro _|omega|(with_reducible refine hK _ ?_;clear hK K))))
  ·refine⟨?_,hH⟩
   rw[if_neg];intro h;have:=(h.2.2.2 a ha).1;omega
  ·refine⟨?_,hH⟩
   rw[if_neg];intro h;have:=(h.2.2.2 a ha).2;omega
  ·refine hnL0 r.length _ (by simp) ⟨d++[a],r,m,g,by simp[h1],?_,rfl,by simp,hH,hg⟩
   intro b hb
   rcases List.mem_append.1 hb with hb|hb
   ·exact h2 b hb
   ·rw[List.mem_singleton.1 hb];exact⟨by omega,by omega⟩
theorem k78 (l:Lay) {fid:FuncId}{d:Tmp}{m:Mem}:aB An FF fid (some d) 78 [.agg (cX l)] m=some (.int .i64 (if eK l then 0 else 22),m):=by
 rw[el (x78 l) rfl (by simp only[List.all_cons,List.all_nil,fV,jW,Bool.and_self]) (by simp only[noGs,iQ,Bool.and_self]) rfl];rfl
theorem xY {l:Lay}(h:eK l):df l 1=some l.ctx:=by simp[df,h,eZ]
theorem xZ {l:Lay}(h:eK l):df l 2=some ⟨512,true⟩:=by simp[df,h,eZ]
theorem ya {l:Lay}{r:Int}(h:eK l) (hr:3≤r):df l r=l.maps[(r - 3).toNat]?:=by
 have:(r - 1).toNat=(r - 3).toNat+1+1:=by omega
 have h1:1≤r:=by omega
 simp only[df,h,h1,and_self,if_true,eZ,this,List.getElem?_cons_succ]
theorem x52 (l:Lay) (r:Int) (h0:-9223372036854775808≤r) (h1:r≤9223372036854775807):FF 52 [.agg (cX l),.int .i64 r] []=some (ey l r,[]):=by
 refine aL rfl Try.func52 s52 (Nat.le_of_ble_eq_true rfl) (fun Q hqr hqn=>?_)
 rw[bf (show An.pure 52=true from rfl) (by simp only[cans,aG,az,aC,aH,layE.can,factE.can])]
 simp only[aO,Nat.reduceAdd,c52]
 by_cases hk:eK l
 ·by_cases hr:3≤r
  ·have hw:IntKind.i64.wrap (r - 3)=r - 3:=wI (by omega) (by omega)
   have hs:=ya hk hr
   have hb:=hk.2.2.1
   have hw2:IntKind.i64.wrap (3+(l.maps.length:Int))=3+l.maps.length:=wI (by omega) (by omega)
   cases ha:l.maps[(r - 3).toNat]? with
   |some a=>
    have hlt:=(List.getElem?_eq_some_iff.1 ha).1
    simp only[ey,hs,ha] at hqr hqn
    repeat' (first
    |with_reducible (first|refine ai ?_|refine ar ?_|refine ax rfl ?_|refine bc rfl ?_|refine bn rfl ?_|refine aF ?_|refine aj (id:=0) (fun Q0 hn0 hx0 hr0 ho0=>?_)|refine hr0 _ ?_)
    |(with_reducible (first|(refine ah (fun K hK=>?_);(first|refine p9 ?_|refine qa ?_|refine sY ?_|refine wB ?_|refine Fh ?_|refine t52r8 ?_))|refine hqr _ ?_);(try simp only[SS,Nat.reduceEqDiff,ap,bv,aR,aS,Nat.reduceAdd,br,lenS,fe,ay,r52,oW,aQ,ak,aD,am,bW,bR,cY,k78,hk,cS,hw,hw2,jV,aP,hY cS (by omega) (show 0≤r - 3 by omega) ha,wa (cS a),mG,ke]))
    |(revert hK;intro hK;(first|refine And.intro ?_ ?_|intro _|omega|(with_reducible refine hK _ ?_;clear hK K))))
   |none=>
    have hge:=List.getElem?_eq_none_iff.1 ha
    simp only[ey,hs,ha] at hqr hqn
    repeat' (first
    |with_reducible (first|refine ai ?_|refine ar ?_|refine ax rfl ?_|refine bn rfl ?_|refine aF ?_|refine bx ?_|refine aj (id:=0) (fun Q0 hn0 hx0 hr0 ho0=>?_)|refine hn0 _ ?_)
    |(with_reducible (first|(refine ah (fun K hK=>?_);(first|refine p9 ?_|refine qa ?_|refine sY ?_|refine wB ?_|refine Fh ?_|refine t52r9 ?_))|refine hqr _ ?_);(try simp only[SS,Nat.reduceEqDiff,ap,bv,aR,aS,Nat.reduceAdd,br,lenS,bg,ay,r52,oW,aQ,ak,aD,am,dD,gI,nH,bW,bR,cY,k78,hk,hw2,jV,aP]))
    |(revert hK;intro hK;(first|refine And.intro ?_ ?_|intro _|omega|(with_reducible refine hK _ ?_;clear hK K))))
  ·by_cases h1:r=1
   ·subst h1
    simp only[ey,xY hk] at hqr hqn
    repeat' (first
    |with_reducible (first|refine ai ?_|refine ar ?_|refine ax rfl ?_|refine bc rfl ?_|refine aF ?_|refine aj (id:=0) (fun Q0 hn0 hx0 hr0 ho0=>?_)|refine hr0 _ ?_)
    |(with_reducible (first|(refine ah (fun K hK=>?_);(first|refine p9 ?_|refine qa ?_|refine sY ?_|refine t52r4 ?_))|refine hqr _ ?_);(try simp only[SS,Nat.reduceEqDiff,ap,bv,aR,aS,Nat.reduceAdd,br,ay,Nat.reduceLeDiff,r52,oW,aQ,ak,aD,am,bW,bR,cY,k78,hk,cS,mG,ke,sc]))
    |(revert hK;intro hK;(with_reducible refine hK _ ?_;clear hK K)))
   ·by_cases h2:r=2
    ·subst h2
     simp only[ey,xZ hk] at hqr hqn
     repeat' (first
     |with_reducible (first|refine ai ?_|refine ar ?_|refine ax rfl ?_|refine bc rfl ?_|refine bn rfl ?_|refine aF ?_|refine aj (id:=0) (fun Q0 hn0 hx0 hr0 ho0=>?_)|refine hr0 _ ?_)
     |(with_reducible (first|(refine ah (fun K hK=>?_);(first|refine p9 ?_|refine qa ?_|refine sY ?_|refine wB ?_|refine t52r6 ?_))|refine hqr _ ?_);(try simp only[SS,Nat.reduceEqDiff,ap,bv,aR,aS,Nat.reduceAdd,br,bg,ay,Nat.reduceLeDiff,r52,oW,aQ,ak,aD,am,dD,gI,nH,bW,bR,cY,k78,hk]))
     |(revert hK;intro hK;(first|refine And.intro ?_ ?_|intro _|omega|(with_reducible refine hK _ ?_;clear hK K))))
     rfl
    ·have hn:df l r=none:=by
      have:¬ 1≤r:=by omega
      simp only[df,this,and_false,if_false]
     simp only[ey,hn] at hqr hqn
     repeat' (first
     |with_reducible (first|refine ai ?_|refine ar ?_|refine ax rfl ?_|refine bn rfl ?_|refine aF ?_|refine bx ?_|refine aj (id:=0) (fun Q0 hn0 hx0 hr0 ho0=>?_)|refine hn0 _ ?_)
     |(with_reducible (first|(refine ah (fun K hK=>?_);(first|refine p9 ?_|refine qa ?_|refine sY ?_|refine wB ?_|refine Fh ?_|refine t52r9 ?_))|refine hqr _ ?_);(try simp only[SS,Nat.reduceEqDiff,ap,bv,aR,aS,Nat.reduceAdd,br,lenS,bg,ay,r52,oW,aQ,ak,aD,am,dD,gI,nH,bW,bR,cY,k78,hk]))
     |(revert hK;intro hK;(first|refine And.intro ?_ ?_|intro _|omega|(with_reducible refine hK _ ?_;clear hK K))))
 ·have hn:df l r=none:=by simp only[df,hk,false_and,if_false]
  simp only[ey,hn] at hqr hqn
  repeat' (first
  |with_reducible (first|refine ai ?_|refine au rfl ?_|refine be ?_)
  |(with_reducible (first|(refine ah (fun K hK=>?_);(first|refine p9 ?_|refine qa ?_|refine t52r2 ?_))|refine hqr _ ?_);(try simp only[SS,Nat.reduceEqDiff,ap,bv,aR,aS,Nat.reduceAdd,br,bg,ay,r52,oW,aQ,ak,aD,am,dD,gI,nH,bW,bR,cY,k78,hk]))
  |(revert hK;intro hK;(first|refine And.intro ?_ ?_|intro _|omega|(with_reducible refine hK _ ?_;clear hK K))))
theorem k52 (l:Lay) (r:Int) {fid:FuncId}{d:Tmp}{m:Mem}(h0:-9223372036854775808≤r) (h1:r≤9223372036854775807):aB An FF fid (some d) 52 [.agg (cX l),.int .i64 r] m=some (ey l r,m):=by
 rw[el (x52 l r h0 h1) rfl (by simp only[List.all_cons,List.all_nil,fV,jW,Bool.and_self,fW]) (by simp only[noGs,iQ,Bool.and_self,eo]) (by unfold ey;split<;>rfl)]
 unfold ey
 split<;>exact congrArg some (fk rfl)
theorem k51 (l:Lay) (r:Int) {fid:FuncId}{d:Tmp}{m:Mem}(h0:-9223372036854775808≤r) (h1:r≤9223372036854775807):aB An FF fid (some d) 51 [.agg (cX l),.int .i64 r] m=some (ey l r,m):=by
 rw[el (x51 l r h0 h1) rfl (by simp only[List.all_cons,List.all_nil,fV,jW,Bool.and_self,fW]) (by simp only[noGs,iQ,Bool.and_self,eo]) (by unfold ey;split<;>rfl)]
 unfold ey
 split<;>exact congrArg some (fk rfl)
theorem lX {l:Lay}{r:Int}{a:Area}(h:df l r=some a):0≤a.size∧a.size≤4096:=by
 unfold df at h
 split at h
 ·rename_i hc
  have hm:=List.mem_of_getElem? h
  simp only[eZ,List.mem_cons] at hm
  rcases hm with rfl|rfl|hm
  ·exact⟨hc.1.1,hc.1.2.1⟩
  ·decide
  ·have:=hc.1.2.2.2 a hm
   exact⟨by have:=this.1;omega,this.2⟩
 ·cases h
def fh (l:Lay) (f:Fact) (n:Int) (w:Bool):Bool:=
 match df l f.region with
 |none=>false
 |some a=>f.seen&&decide (1≤n∧n≤a.size)&&(!w||a.write)&&decide (0≤f.low∧f.low≤f.high∧f.high≤a.size - n)
theorem x18 (l:Lay) (f:Fact) (hf:f.wf) (n:Int) (w:Bool):FF 18 [.agg (cX l),.agg (cx f),.int .i64 n,.bool w] []=some (.bool (fh l f n w),[]):=by
 refine aL rfl Try.func18 s18 (Nat.le_of_ble_eq_true rfl) (fun Q hqr hqn=>?_)
 rw[bf (show An.pure 18=true from rfl) (by simp only[cans,aG,az,aC,aH,layE.can,factE.can])]
 simp only[aO,Nat.reduceAdd,c18]
 have hr0:=hf.1.1
 have hr1:=hf.1.2
 cases ha:df l f.region with
 |none=>
  simp only[fh,ha] at hqr hqn
  repeat' (first
  |with_reducible (first|refine ai ?_|refine au rfl ?_|refine be ?_)
  |(with_reducible (first|(refine ah (fun K hK=>?_);(first|refine t18r0 ?_|refine t18r1 ?_|refine t18r2 ?_|refine t18r3 ?_))|refine hqr _ ?_);(try simp only[SS,Nat.reduceEqDiff,ap,bv,aR,aS,Nat.reduceAdd,bI,Bool.not_false,dT,ay,r18,aQ,ak,aD,am,bR,cY,eI,mI,k51 l f.region hr0 hr1,ey,ha]))
  |(revert hK;intro hK;(with_reducible refine hK _ ?_;clear hK K)))
 |some a=>
  simp only[fh,ha] at hqr hqn
  have hsz:=lX ha
  have hw:1≤n∧n≤a.size→IntKind.i64.wrap (a.size - n)=a.size - n:=fun h=>wI (by omega) (by omega)
  cases hs:f.seen<;>cases w<;>cases hwr:a.write
  all_goals
   repeat' (first
   |with_reducible (first|refine ai ?_|refine ar ?_|refine au rfl ?_|refine ax rfl ?_|refine be ?_|refine aF ?_)
   |(with_reducible (first|(refine ah (fun K hK=>?_);(first|refine t18r0 ?_|refine t18r1 ?_|refine t18r2 ?_|refine t18r3 ?_|refine t18r4 ?_))|refine hqr _ ?_);(try simp only[SS,Nat.reduceEqDiff,ap,bv,aR,aS,Nat.reduceAdd,cB,bq,bI,Bool.not_true,Bool.not_false,fe,dT,ay,Bool.true_and,Bool.and_true,Bool.or_false,Bool.or_true,r18,aQ,ak,aD,am,bR,cY,eI,qt,mI,vY,vZ,k51 l f.region hr0 hr1,ey,ha,dc,hs,hwr]))
   |(revert hK;intro hK;(first|refine And.intro ?_ ?_|intro _|(with_reducible refine hK _ ?_;clear hK K))))
  all_goals (first|rfl|(simp<;>omega)|skip)
theorem k18 (l:Lay) (f:Fact) (hf:f.wf) (n:Int) (w:Bool) {fid:FuncId}{d:Tmp}{m:Mem}:aB An FF fid (some d) 18 [.agg (cX l),.agg (cx f),.int .i64 n,.bool w] m=some (.bool (fh l f n w),m):=by
 rw[el (x18 l f hf n w) rfl (by simp only[List.all_cons,List.all_nil,fV,jW,v6,Bool.and_self,fW,pJ]) (by simp only[noGs,iQ,v4,Bool.and_self,eo,kT]) rfl,eY]
end Go.Cm
