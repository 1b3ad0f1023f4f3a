import Derived.Test.YtijcpefcfcbcnaaIzA
import Derived.Test.YtijcpefcfcbcnaaIdA
set_option linter.unusedSimpArgs false
set_option linter.unusedVariables false
namespace Go.Cm
open Go.Proofs Go.Ir
def gz {α:Type}(e:α→List CV) (sz:Nat) (l:List α):CV:=if l.isEmpty then .imm 0 [] else .own l.length sz (l.flatMap e) 0
theorem ib {α:Type}{e:α→List CV}{sz:Nat}(h:∀ a,noGs (e a)=true) (l:List α):noG (gz e sz l)=true:=by
 cases l with
 |nil=>rfl
 |cons a l=>exact eJ h _
def dV (l:List Int):List CV:=[rowC aX l]
theorem dE (l:List Int):(dV l).length=1:=rfl
theorem ij (l:List Int):noGs (dV l)=true:=by simp only[dV,noGs,kV fY,Bool.and_self]
theorem xB (l:List Int):cans (dV l)=[sl aX l]:=by simp only[dV,cans,rD intE.can]
theorem jQ (g:List (List Int)):can (rowC dV g)=fo g:=rD xB g
theorem eqNil (n:Nat) (c:CV) (cs:List CV) (x y:Operand):aw Try.prog .eql 51 x y (.imm (n+1) (c::cs)) .nil=some (.bool false):=by
 simp only[aw,eqC,ceq,Try.underlying51,Option.map_some]
theorem x106 (l:List Int) (hl:l.length≤17592186044416):FF 106 [sl aX l] []=some (gz aX 1 l,[]):=by
 cases l with
 |nil=>exact xK.2 ⟨1,rfl⟩
 |cons a l=>
  simp only[List.length_cons] at hl
  refine aL rfl Try.func106 s106 (Nat.le_of_ble_eq_true rfl) (fun Q hqr hqn=>?_)
  rw[bf (show An.pure 106=true from rfl) (by simp only[cans,aG,az,aC,aH,intE.can_sl])]
  simp only[aO,Nat.reduceAdd,c106]
  simp only[sl,List.length_cons,List.flatMap_cons,aX,List.cons_append,List.nil_append]
  have hq:=fun x y=>eqNil l.length (.int .i64 a) (l.flatMap aX) x y
  have hs':cN 8 (l.length+1)=true:=f0 (by omega) (by omega)
  have hcl:(CV.int .i64 a::l.flatMap aX).length=(l.length+1)*1:=by simp only[List.length_cons,dL];omega
  have he:∀ m,bp m []=some ([],m):=fun _=>rfl
  have hct:∀ m,content m 1 (.imm (l.length+1) (CV.int .i64 a::l.flatMap aX))=some (CV.int .i64 a::l.flatMap aX):=fun m=>by simp only[content,hcl,if_true]
  repeat' (first
  |with_reducible (first|refine ai ?_|refine ar ?_|refine ax rfl ?_|refine aF ?_)
  |(with_reducible (first|(refine ah (fun K hK=>?_);(first|refine t106r0 ?_|refine t106r1 ?_|refine t106r3 ?_))|refine hqr _ ?_);(try simp only[SS,Nat.reduceEqDiff,dj,ef,aS,Nat.reduceMul,dy,fP,ea,bg,cd,r106,aQ,ak,aD,am,dq,bV,Nat.sub_self,hq,he,hct,nr]))
  |(revert hK;intro hK;(first|refine And.intro ?_ ?_|omega|(with_reducible refine hK _ ?_;clear hK K))))
  all_goals first|exact hs'|skip
  ·rw[List.take_of_length_le (by omega)];rfl
theorem k87 (e:Tm) {fid:FuncId}{d:Tmp}{m:Mem}{K:CV×Mem→Prop}(hgl:(An.glob fid).contains d=false)
  (hK:∀ v m',OwnE aX 1 m' (16*d) v (cE e)→m'.H=m.H→(∀ i,i≠16*d→aK m'.L i=aK m.L i)→K (v,m')):Obt (aB An FF fid (some d) 87 [.agg (tmC e)] m) K:=by
 rw[ek (x87 e) rfl (by simp only[cans,aC,tmE.can]) rfl rfl (intE.noG_own _),aJ]
 obtain⟨v,m',h1,h2,h3,h4⟩:=gW (e:=aX) (sz:=1) (m:=m) (l:=cE e) (d:=d) hgl
 rw[h1]
 exact hK v m' h2 h3 h4
theorem js (e:Tm):(cE e).length≤2:=by
 unfold cE;split
 ·simp
 ·split<;>simp
theorem x66 (f:Cd) (hf:f.parts.length≤1048576):∃ r,(∃ H',r=(eA dV 1 (aE f),H'))∧FF 66 [.agg (aZ f)] []=some r:=by
 refine bA rfl Try.func66 s66 (Nat.le_of_ble_eq_true rfl) (fun Q hqr hqn=>?_)
 rw[bf (show An.pure 66=true from rfl) (by simp only[cans,aG,az,aC,aH,codeE.can])]
 simp only[aO,Nat.reduceAdd,c66]
 repeat' (first
 |with_reducible (first|refine ai ?_|refine aj (id:=0) (fun Q0 hn0 hx0 hr0 ho0=>?_))
 |(with_reducible (refine ah (fun K hK=>?_);(first|refine t66r0 ?_|refine t66r1 ?_|refine t66r2 ?_));(try simp only[SS,Nat.reduceEqDiff,ap,lenS,aZ,aP]))
 |(revert hK;intro hK;(with_reducible refine hK _ ?_;clear hK K)))
 refine aU (fun n s=>∃ (d t:List Pt) (v:CV) (L:List (Nat×HO)),f.parts=d++t∧n=t.length∧s=⟨[(3,v),(7,sl ptC f.parts),(8,.int .i64 f.parts.length),(9,.int .i64 d.length)],⟨L,[]⟩⟩∧OwnE dV 1 ⟨L,[]⟩ 288 v (d.map fun p=>cE p.fin)) _ ⟨[],f.parts,.nil,_,rfl,rfl,rfl,.nil⟩ ?_
 rintro n s ⟨d,t,v,L,h2,rfl,rfl,hO⟩ QL0 hnL0 hxL0 hrL0
 have hlen:=congrArg List.length h2
 simp only[List.length_append] at hlen
 simp only[c66l0]
 cases t with
 |nil=>
  simp only[List.length_nil] at hlen
  rw[List.append_nil] at h2
  repeat' (first
  |with_reducible (first|refine ax rfl ?_|refine aN ?_|refine aF ?_|refine hx0 _ ?_|refine hxL0 _ _ ?_)
  |(with_reducible (first|(refine ah (fun K hK=>?_);(first|refine t66r3 ?_|refine t66r7 ?_))|refine hqr _ ?_);(try simp only[SS,Nat.reduceEqDiff,cD,r66,aQ,ak,aD,am]))
  |(revert hK;intro hK;(first|refine And.intro ?_ ?_|intro _|omega|(with_reducible refine hK _ ?_;clear hK K))))
  have:(d.map fun p=>cE p.fin)=aE f:=by rw[aE,h2]
  rw[this] at hO
  refine hO.ret dE fun m' hm'=>?_
  simp only[gx,Option.map_some,aJ]
  first|exact⟨_,rfl,rfl⟩|exact⟨_,trivial,rfl⟩
 |cons p t=>
  simp only[List.length_cons] at hlen
  have hw:IntKind.i64.wrap ((d.length:Int)+1)=d.length+1:=wI (by omega) (by omega)
  repeat' (first
  |with_reducible (first|refine ar ?_|refine au rfl ?_|refine aj (id:=1) (fun Q1 hn1 hx1 hr1 ho1=>?_))
  |(with_reducible ((first|refine ah (fun K hK=>?_)|refine aI (fun K hK=>?_));(first|refine t66r3 ?_|refine t66r4 ?_|refine t66r5 ?_));(try simp only[SS,Nat.reduceEqDiff,ap,aS,Nat.reduceAdd,ay,hw,aM ptE.len (by omega) h2,ct,ptC]))
  |(revert hK;intro hK;(first|refine And.intro ?_ ?_|intro _|omega|(with_reducible refine hK _ ?_;clear hK K))))
  refine k87 p.fin rfl fun v1 m1 hO1 hH1 hf1=>?_
  refine rB (s:=272) hO1.seen intE.len (fun m2 q1 q2 q3 q4=>?_) (by decide)
  have hO2:OwnE dV 1 m2 288 v (d.map fun p=>cE p.fin):=hO.keep (by rw[q3 288 (by decide) (by decide),hf1 288 (by decide)];simp[bi,aq])
  refine hO2.app (ys:=[cE p.fin]) dE (by simp only[cU,q1,dz];rfl) rfl (by decide) (by simp;omega) fun v' m' hO' hH' hf'=>?_
  refine hK _ ?_
  clear hK K
  obtain⟨L3,H3⟩:=m'
  simp only[q2,hH1] at hH'
  simp only[bi] at hH'
  subst hH'
  repeat' (first
  |with_reducible refine hn1 _ ?_
  |(with_reducible (refine aI (fun K hK=>?_);refine t66r6 ?_);(try simp only[SS,Nat.reduceEqDiff,hw]))
  |(revert hK;intro hK;(with_reducible refine hK _ ?_;clear hK K)))
  refine hnL0 t.length _ (by simp) ⟨d++[p],t,v',L3,by simp[h2],rfl,by simp,by simpa using hO'⟩
def ln (n:Nd):CV:=if n.op=7 then gz aX 1 n.args else eA aX 1 (eF n)
theorem x79 (n:Nd) (hl:n.args.length≤17592186044416):FF 79 [.agg (ndC n)] []=some (ln n,[]):=by
 have hk:∀ m,aB An FF 79 (some 22) 106 [sl aX n.args] m=some (adopt false 22 (gz aX 1 n.args) m):=fun m=>
  ek (x106 n.args hl) rfl (by simp only[cans,intE.can_sl]) rfl (by simp only[noGs,intE.noG_sl,Bool.and_self]) (ib fY _)
 by_cases h4:n.op=4
 ·refine aL rfl Try.func79 s79 (Nat.le_of_ble_eq_true rfl) (fun Q hqr hqn=>?_)
  rw[bf (show An.pure 79=true from rfl) (by simp only[cans,aG,az,aC,aH,ndE.can])]
  simp only[aO,Nat.reduceAdd,c79]
  repeat' (first
  |with_reducible (first|refine ai ?_|refine ar ?_|refine au rfl ?_|refine bc rfl ?_|refine aF ?_|refine aj (id:=0) (fun Q0 hn0 hx0 hr0 ho0=>?_)|refine hr0 _ ?_)
  |(with_reducible (first|(refine ah (fun K hK=>?_);(first|refine qc ?_|refine qd ?_|refine qe ?_|refine t79r4 ?_))|refine hqr _ ?_);(try simp only[SS,Nat.reduceEqDiff,ap,dj,ef,bv,aR,aS,Nat.reduceMul,Nat.reduceAdd,cD,bg,cd,bF,ay,Nat.reduceLeDiff,cz,List.all_cons,List.all_nil,Bool.and_self,r79,aQ,ak,aD,am,dq,bV,Nat.sub_self,ndC,h4]))
  |(revert hK;intro hK;(with_reducible refine hK _ ?_;clear hK K)))
  all_goals simp[ln,eF,h4,eA,aX]
 by_cases h6:n.op=6
 ·refine aL rfl Try.func79 s79 (Nat.le_of_ble_eq_true rfl) (fun Q hqr hqn=>?_)
  rw[bf (show An.pure 79=true from rfl) (by simp only[cans,aG,az,aC,aH,ndE.can])]
  simp only[aO,Nat.reduceAdd,c79]
  repeat' (first
  |with_reducible (first|refine ai ?_|refine ax rfl ?_|refine bc rfl ?_|refine aF ?_|refine aj (id:=0) (fun Q0 hn0 hx0 hr0 ho0=>?_)|refine hr0 _ ?_)
  |(with_reducible (first|(refine ah (fun K hK=>?_);(first|refine qc ?_|refine qd ?_|refine qe ?_|refine te ?_|refine t79r4 ?_))|refine hqr _ ?_);(try simp only[SS,Nat.reduceEqDiff,ap,dj,ef,bv,aR,aS,Nat.reduceMul,Nat.reduceAdd,cD,bg,cd,bF,ay,Nat.reduceLeDiff,cz,List.all_cons,List.all_nil,Bool.and_self,r79,aQ,ak,aD,am,dq,bV,Nat.sub_self,ndC,h6]))
  |(revert hK;intro hK;(first|refine And.intro ?_ ?_|intro _|omega|(with_reducible refine hK _ ?_;clear hK K))))
  all_goals simp[ln,eF,h6,eA,aX]
 by_cases h5:n.op=5
 ·refine aL rfl Try.func79 s79 (Nat.le_of_ble_eq_true rfl) (fun Q hqr hqn=>?_)
  rw[bf (show An.pure 79=true from rfl) (by simp only[cans,aG,az,aC,aH,ndE.can])]
  simp only[aO,Nat.reduceAdd,c79]
  repeat' (first
  |with_reducible (first|refine ai ?_|refine ax rfl ?_|refine bc rfl ?_|refine bn rfl ?_|refine aF ?_|refine aj (id:=0) (fun Q0 hn0 hx0 hr0 ho0=>?_)|refine hr0 _ ?_)
  |(with_reducible (first|(refine ah (fun K hK=>?_);(first|refine qc ?_|refine qd ?_|refine qe ?_|refine te ?_|refine wF ?_|refine t79r6 ?_))|refine hqr _ ?_);(try simp only[SS,Nat.reduceEqDiff,ap,dj,ef,bv,aR,aS,Nat.reduceMul,cD,bg,cd,bF,ay,cz,List.all_cons,List.all_nil,Bool.and_self,r79,aQ,ak,aD,am,dq,bV,Nat.sub_self,ndC,h5]))
  |(revert hK;intro hK;(first|refine And.intro ?_ ?_|intro _|omega|(with_reducible refine hK _ ?_;clear hK K))))
  all_goals simp[ln,eF,h5,eA,aX]
 by_cases h7:n.op=7
 ·have hu:ln n=gz aX 1 n.args:=by rw[ln,if_pos h7]
  rw[hu]
  cases ha:n.args with
  |nil=>
   rw[ha] at hk
   have hk:∀ m,aB An FF 79 (some 22) 106 [sl aX []] m=some (.imm 0 [],m):=hk
   refine aL rfl Try.func79 s79 (Nat.le_of_ble_eq_true rfl) (fun Q hqr hqn=>?_)
   rw[bf (show An.pure 79=true from rfl) (by simp only[cans,aG,az,aC,aH,ndE.can])]
   simp only[aO,Nat.reduceAdd,c79]
   repeat' (first
   |with_reducible (first|refine ai ?_|refine ax rfl ?_|refine bc rfl ?_|refine bn rfl ?_|refine aF ?_|refine aj (id:=0) (fun Q0 hn0 hx0 hr0 ho0=>?_)|refine hr0 _ ?_)
   |(with_reducible (first|(refine ah (fun K hK=>?_);(first|refine qc ?_|refine qd ?_|refine qe ?_|refine te ?_|refine wF ?_|refine FD ?_|refine t79r8 ?_))|refine hqr _ ?_);(try simp only[SS,Nat.reduceEqDiff,ap,r79,aQ,ak,aD,am,Ek,ndC,h7,ha,hk]))
   |(revert hK;intro hK;(first|refine And.intro ?_ ?_|intro _|omega|(with_reducible refine hK _ ?_;clear hK K))))
   all_goals first|rfl|simp[gz]
  |cons a l=>
   rw[ha] at hk
   have hk:∀ m,aB An FF 79 (some 22) 106 [sl aX (a::l)] m=some (.ref (.l 352) (bj m.L 352) 0 (l.length+1),bi m 352 (.arr (bj m.L 352) 1 ((a::l).flatMap aX) 0)):=hk
   refine aL rfl Try.func79 s79 (Nat.le_of_ble_eq_true rfl) (fun Q hqr hqn=>?_)
   rw[bf (show An.pure 79=true from rfl) (by simp only[cans,aG,az,aC,aH,ndE.can])]
   simp only[aO,Nat.reduceAdd,c79]
   repeat' (first
   |with_reducible (first|refine ai ?_|refine ax rfl ?_|refine bc rfl ?_|refine bn rfl ?_|refine aF ?_|refine aj (id:=0) (fun Q0 hn0 hx0 hr0 ho0=>?_)|refine hr0 _ ?_)
   |(with_reducible (first|(refine ah (fun K hK=>?_);(first|refine qc ?_|refine qd ?_|refine qe ?_|refine te ?_|refine wF ?_|refine FD ?_|refine t79r8 ?_))|refine hqr _ ?_);(try simp only[SS,Nat.reduceEqDiff,ap,bv,aR,aS,r79,aQ,ak,aD,am,dq,bV,Nat.sub_self,ndC,h7,ha,hk]))
   |(revert hK;intro hK;(first|refine And.intro ?_ ?_|intro _|omega|(with_reducible refine hK _ ?_;clear hK K))))
   all_goals (rw[List.take_of_length_le (by rw[dL];simp)];rfl)
 ·refine aL rfl Try.func79 s79 (Nat.le_of_ble_eq_true rfl) (fun Q hqr hqn=>?_)
  rw[bf (show An.pure 79=true from rfl) (by simp only[cans,aG,az,aC,aH,ndE.can])]
  simp only[aO,Nat.reduceAdd,c79]
  repeat' (first
  |with_reducible (first|refine ai ?_|refine ax rfl ?_|refine bn rfl ?_|refine aF ?_|refine bx ?_|refine aj (id:=0) (fun Q0 hn0 hx0 hr0 ho0=>?_)|refine hn0 _ ?_)
  |(with_reducible (first|(refine ah (fun K hK=>?_);(first|refine qc ?_|refine qd ?_|refine qe ?_|refine te ?_|refine wF ?_|refine FD ?_|refine t79r9 ?_))|refine hqr _ ?_);(try simp only[SS,Nat.reduceEqDiff,ap,r79,aQ,ak,aD,am,eh,ndC,h4,h5,h6,h7]))
  |(revert hK;intro hK;(with_reducible refine hK _ ?_;clear hK K)))
  all_goals simp[ln,eF,h4,h5,h6,h7,eA]
theorem x88 (H:List HO) (va vb:CV) (a b:List Int) (ha:RdI H va a) (hb:RdI H vb b) (hal:a.length≤17592186044416):FF 88 [va,vb] H=some (.bool (decide (a=b)),H):=by
 refine aL rfl Try.func88 s88 (Nat.le_of_ble_eq_true rfl) (fun Q hqr hqn=>?_)
 rw[show ∀ a,cin (An.pure 88) a=a from fun _=>rfl]
 simp only[aO,Nat.reduceAdd,c88]
 by_cases hl:a.length=b.length
 ·have hlb:cK vb=some a.length:=by rw[hb.len,hl]
  repeat' (first
  |with_reducible (first|refine ai ?_|refine ar ?_|refine ax rfl ?_|refine aj (id:=0) (fun Q0 hn0 hx0 hr0 ho0=>?_))
  |(with_reducible (refine ah (fun K hK=>?_);(first|refine t88r0 ?_|refine t88r1 ?_|refine t88r3 ?_));(try simp only[SS,Nat.reduceEqDiff,br,lenS,ha.len,hlb]))
  |(revert hK;intro hK;(with_reducible refine hK _ ?_;clear hK K)))
  refine aU (fun k s=>∃ (i:Nat) (L:List (Nat×HO)),i≤a.length∧a.take i=b.take i∧k=a.length - i∧s=⟨[(0,va),(1,vb),(12,.int .i64 a.length),(13,.int .i64 i)],⟨L,H⟩⟩) _ ⟨0,_,Nat.zero_le _,rfl,rfl,rfl⟩ ?_
  rintro k s ⟨i,L,hi,hp,rfl,rfl⟩ QL0 hnL0 hxL0 hrL0
  simp only[c88l0]
  by_cases hig:i=a.length
  ·subst hig
   have he:a=b:=by rw[List.take_of_length_le (Nat.le_refl _),List.take_of_length_le (by omega)] at hp;exact hp
   repeat' (first
   |with_reducible (first|refine ax rfl ?_|refine aN ?_|refine aF ?_|refine hx0 _ ?_|refine hxL0 _ _ ?_)
   |(with_reducible (first|(refine ah (fun K hK=>?_);(first|refine FE ?_|refine t88r9 ?_))|refine hqr _ ?_);(try simp only[SS,Nat.reduceEqDiff,r88,aQ,ak,aD,am,ha.len]))
   |(revert hK;intro hK;(first|refine And.intro ?_ ?_|intro _|omega|(with_reducible refine hK _ ?_;clear hK K))))
   simp[he]
  ·have hia:(i:Int)<a.length:=by omega
   have ga:a[i]?=some a[i]:=List.getElem?_eq_getElem (by omega)
   have gb:b[i]?=some b[i]:=List.getElem?_eq_getElem (by omega)
   obtain⟨p,hp1,hp2⟩:=ha.at ga (k:=.i64)
   obtain⟨q,hq1,hq2⟩:=hb.at gb (k:=.i64)
   have hw:IntKind.i64.wrap ((i:Int)+1)=((i+1:Nat):Int):=by rw[wI (by omega) (by omega)];rfl
   by_cases he:a[i]=b[i]
   ·repeat' (first
    |with_reducible (first|refine ar ?_|refine au rfl ?_|refine bn rfl ?_|refine bx ?_|refine aj (id:=1) (fun Q1 hn1 hx1 hr1 ho1=>?_)|refine hn1 _ ?_)
    |(with_reducible ((first|refine ah (fun K hK=>?_)|refine aI (fun K hK=>?_));(first|refine FE ?_|refine t88r5 ?_|refine t88r6 ?_|refine t88r8 ?_));(try simp only[SS,Nat.reduceEqDiff,br,ha.len,hia,hp1,hp2,hq1,hq2,he,hw]))
    |(revert hK;intro hK;(with_reducible refine hK _ ?_;clear hK K)))
    refine hnL0 (a.length - (i+1)) _ (by omega) ⟨i+1,L,by omega,?_,rfl,rfl⟩
    rw[List.take_add_one,List.take_add_one,hp,ga,gb,he]
   ·have hne:a≠b:=fun h=>he (by subst h;rfl)
    repeat' (first
    |with_reducible (first|refine ar ?_|refine au rfl ?_|refine bc rfl ?_|refine aF ?_|refine hr0 _ ?_|refine aj (id:=1) (fun Q1 hn1 hx1 hr1 ho1=>?_)|refine hr1 _ ?_|refine hrL0 _ ?_)
    |(with_reducible (first|(refine ah (fun K hK=>?_);(first|refine FE ?_|refine t88r5 ?_|refine t88r6 ?_|refine t88r7 ?_))|refine hqr _ ?_);(try simp only[SS,Nat.reduceEqDiff,br,r88,aQ,ak,aD,am,ha.len,hia,hp1,hp2,hq1,hq2,he,hw]))
    |(revert hK;intro hK;(with_reducible refine hK _ ?_;clear hK K)))
    simp[hne]
 ·have hne:a≠b:=fun h=>hl (by rw[h])
  have hl2:¬ ((a.length:Int)=b.length):=by omega
  repeat' (first
  |with_reducible (first|refine ai ?_|refine au rfl ?_|refine be ?_)
  |(with_reducible (first|(refine ah (fun K hK=>?_);(first|refine t88r0 ?_|refine t88r1 ?_|refine t88r2 ?_))|refine hqr _ ?_);(try simp only[SS,Nat.reduceEqDiff,br,lenS,r88,aQ,ak,aD,am,ha.len,hb.len,hl2]))
  |(revert hK;intro hK;(with_reducible refine hK _ ?_;clear hK K)))
  simp[hne]
end Go.Cm
