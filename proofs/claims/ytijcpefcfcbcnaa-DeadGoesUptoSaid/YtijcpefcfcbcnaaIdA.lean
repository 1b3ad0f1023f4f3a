import Derived.Test.YtijcpefcfcbcnaaGrB
import Derived.Test.YtijcpefcfcbcnaaIyD
import Derived.Test.YtijcpefcfcbcnaaIzB
set_option linter.unusedSimpArgs false
set_option linter.unusedVariables false
namespace Go.Cm
open Go.Proofs Go.Gr
theorem fH (g:List (List Int)):can (fo g)=fo g:=rowE.can_sl g
theorem rE:∀(cs:List CV) (i:Nat),(cans cs)[i]?=(cs[i]?).map can
 |[],_=>rfl
 |_::_,0=>rfl
 |_::cs,i+1=>by simpa[cans] using rE cs i
theorem IsRows.can {v:CV}{g:List (List Int)}(h:IsRows v g):can v=fo g:=by
 obtain⟨cs,rfl,h1,h2,h3⟩:=h.ex;have:cans cs=g.flatMap λr=>[sl aX r]:=by
  refine List.ext_getElem? λi=>?_;rw[rE]
  by_cases hi:i<g.length
  ·obtain⟨w,hw,hw2⟩:=h2 i g[i] (List.getElem?_eq_getElem hi)
   rw[hw];have h4:=dA (e:=λr:List Int=>[sl aX r]) (sz:=1) (off:=0) (λ_=>rfl) (List.getElem?_eq_getElem hi) (by omega);rw[Nat.mul_one,Nat.add_zero] at h4;rw[h4];rcases hw2 with rfl|⟨hr,rfl⟩
   ·simp only[Option.map_some,intE.can_sl];rfl
   ·rw[hr];rfl
  ·rw[List.getElem?_eq_none (by omega),List.getElem?_eq_none (by rw[bC (sz:=1) (λ_=>rfl)];omega)];rfl
 simp only[Cm.can,this,fo,sl]
theorem ko {k:FuncId}{v:CV}{g:List (List Int)}{rest:List CV}{H:List HO}(hp:An.pure k=true) (h:IsRows v g):FF k (v::rest) H=FF k (fo g::cans rest) H:=by
 refine(tj (P:=Try.prog) (A:=An) (E:=EE)).trans ?_
 rw[hp];show FF k (cans (v::rest)) H=_;simp only[cans,h.can]
def Sm (g:List (List Int)):Prop:=g.length≤1048576∧∀r∈g,r.length≤17592186044416
theorem x135 (g:List (List Int)) (hg:Sm g) (gv:CV) (hgv:IsRows gv g) (x:Int) (h0:0≤x) (h1:x<g.length):FF 135 [gv,.int .i64 x] []=some (eA aX 1 (ins g x),[]):=by
 rw[ko (show An.pure 135=true from rfl) hgv];simp only[cans,aG,az];clear hgv gv;have hgv:=IsRows.of g;have hcv:=fH g;generalize fo g=gv at hgv hcv ⊢;obtain⟨r,hr⟩:∃r,g[x.toNat]?=some r:=⟨_,List.getElem?_eq_getElem (by omega)⟩;have hrl:=hg.2 r (List.mem_of_getElem? hr);have hins:ins g x=r.filter λ(y:Int)=>decide (0≤y∧y<g.length):=by
  simp only[ins,List.getD_eq_getElem?_getD,hr,Option.getD_some]
 obtain⟨w,tl,hw1,hw2⟩:=hgv.idx h0 hr (k:=.i64);refine aL rfl Try.func135 s135 (Nat.le_of_ble_eq_true rfl) (λQ hqr hqn=>?_);rw[bf (show An.pure 135=true from rfl) (by simp only[cans,aG,az,aC,aH,hcv])];simp only[aO,Nat.reduceAdd,c135]
 repeat' (first
 |with_reducible (first|refine ai ?_|refine aj (id:=0) (λQ0 hn0 hx0 hr0 ho0=>?_))
 |(with_reducible (refine ah (λK hK=>?_);(first|refine t135r0 ?_|refine t135r1 ?_|refine t135r2 ?_));(try simp only[SS,Nat.reduceEqDiff,dw,lenS,hw1,(hw2 []).len]))
 |(with_reducible refine hK _ ?_;clear hK K))
 refine aU (λn s=>∃d t v m,r=d++t∧n=t.length∧s=⟨[(0,gv),(5,v),(11,w),(12,.int .i64 r.length),(13,.int .i64 d.length)],m⟩∧m.H=[]∧OwnE aX 1 m 448 v (d.filter λ(y:Int)=>decide (0≤y∧y<g.length))) _ ⟨[],r,.nil,_,rfl,rfl,rfl,rfl,.nil⟩ ?_;rintro n s ⟨d,t,v,m,h2,rfl,rfl,hH,hO⟩ QL0 hnL0 hxL0 hrL0;have hlen:=congrArg List.length h2;simp only[List.length_append] at hlen
 cases t with
 |nil=>
  simp only[List.length_nil] at hlen;simp only[tE]
  repeat' (first
  |with_reducible (first|refine ax rfl ?_|refine aN ?_|refine aF ?_|refine hx0 _ ?_|refine hxL0 _ _ ?_)
  |(with_reducible (first|(refine ah (λK hK=>?_);(first|refine EL ?_|refine t135r8 ?_))|refine hqr _ ?_);(try simp only[SS,Nat.reduceEqDiff,cD,r135,aQ,ak,aD,am]))
  |(revert hK;intro hK;(first|refine And.intro ?_ ?_|intro _|omega|(with_reducible refine hK _ ?_;clear hK K))))
  rw[List.append_nil] at h2;subst h2;refine hO.ret dB λm' hm'=>?_;simp only[gx,Option.map_some,aJ,hins,hm',hH,and_self]
 |cons a t=>
  simp only[List.length_cons] at hlen;simp only[tE];have hw:IntKind.i64.wrap ((d.length:Int)+1)=d.length+1:=wI (by omega) (by omega);have hrd:r[d.length]?=some a:=by rw[h2];simp
  obtain⟨ML,MH⟩:=m;simp only at hH;subst hH;obtain⟨p,hp1,hp2⟩:=(hw2 []).at hrd (k:=.i64)
  repeat' (first
  |with_reducible (first|refine ar ?_|refine au rfl ?_|refine bc rfl ?_|refine bn rfl ?_|refine bx ?_|refine aj (id:=1) (λQ1 hn1 hx1 hr1 ho1=>?_)|refine hn1 _ ?_)
  |(with_reducible ((first|refine ah (λK hK=>?_)|refine aI (λK hK=>?_));(first|refine EL ?_|refine t135r4 ?_|refine t135r5 ?_|refine t135r6 ?_|refine EM ?_));(try simp only[SS,Nat.reduceEqDiff,ap,dj,ef,lenS,bg,be,bF,ay,cz,List.all_cons,List.all_nil,Bool.and_self,hp1,hp2,hw,hgv.len]))
  |(revert hK;intro hK;(first|refine And.intro ?_ ?_|intro _|omega|(with_reducible refine hK _ ?_;clear hK K))))
  ·have hfl:=List.length_filter_le (λ(y:Int)=>decide (0≤y∧y<g.length)) d
   refine(hO.keepS (i:=432) (by decide)).app8 (ys:=[a]) dB (by simp only[cU,ba,if_true,dz];rfl) rfl (by decide) (by simp only[List.length_cons,List.length_nil];omega) λv' m' hO' hH' hf=>?_
   refine hK _ ?_;clear hK K
   repeat' (first
   |with_reducible refine hn1 _ ?_
   |(with_reducible (refine aI (λK hK=>?_);refine EM ?_);(try simp only[SS,Nat.reduceEqDiff,hw]))
   |(with_reducible refine hK _ ?_;clear hK K))
   refine hnL0 t.length _ (by simp) ⟨d++[a],t,v',m',by simp[h2],rfl,by simp,by rw[hH',ik],?_⟩;rw[List.filter_append,List.filter_cons_of_pos (by simp;omega)];exact hO'
  all_goals
   refine hnL0 t.length _ (by simp) ⟨d++[a],t,v,⟨ML,[]⟩,by simp[h2],rfl,by simp,rfl,?_⟩;rw[List.filter_append,List.filter_cons_of_neg (by simp;omega),List.filter_nil,List.append_nil];exact hO
theorem k135 (g:List (List Int)) (hg:Sm g) (gv:CV) (hgv:IsRows gv g) (x:Int) (h0:0≤x) (h1:x<g.length) {fid:FuncId}{d:Tmp}{m:Mem}{K:CV×Mem→Prop}(hgl:(An.glob fid).contains d=false)
  (hK:∀v m',OwnE aX 1 m' (16*d) v (ins g x)→m'.H=m.H→(∀i,i≠16*d→aK m'.L i=aK m.L i)→K (v,m')):Obt (aB An FF fid (some d) 135 [gv,.int .i64 x] m) K:=by
 rw[el (x135 g hg gv hgv x h0 h1) rfl (by simp only[List.all_cons,List.all_nil,dQ hgv.esc,fW,Bool.and_self]) (by simp only[noGs,hgv.noG,eo,Bool.and_self]) (kU fY _),aJ];obtain⟨v,m',h1,h2,h3,h4⟩:=Jz (e:=aX) (sz:=1) (m:=m) (l:=ins g x) (d:=d) hgl;rw[h1];exact hK v m' h2 h3 h4
end Go.Cm
namespace Go.Cm
open Go.Proofs Go.Ir
def gz {α:Type}(e:α→List CV) (sz:Nat) (l:List α):CV:=if l.isEmpty then .imm 0 [] else .own l.length sz (l.flatMap e) 0
theorem ib {α:Type}{e:α→List CV}{sz:Nat}(h:∀a,noGs (e a)=true) (l:List α):noG (gz e sz l)=true:=by
 cases l with
 |nil=>rfl
 |cons a l=>exact eJ h _
def dV (l:List Int):List CV:=[rowC aX l]
theorem dE (l:List Int):(dV l).length=1:=rfl
theorem ij (l:List Int):noGs (dV l)=true:=by simp only[dV,noGs,kV fY,Bool.and_self]
theorem xB (l:List Int):cans (dV l)=[sl aX l]:=by simp only[dV,cans,rD intE.can]
theorem jQ (g:List (List Int)):can (rowC dV g)=fo g:=rD xB g
theorem eqNil (n:Nat) (c:CV) (cs:List CV) (x y:Operand):aw Try.prog .eql 51 x y (.imm (n+1) (c::cs)) .nil=some (.bool false):=by
 simp only[aw,eqC,ceq,Try.underlying51,Option.map_some]
theorem x106 (l:List Int) (hl:l.length≤17592186044416):FF 106 [sl aX l] []=some (gz aX 1 l,[]):=by
 cases l with
 |nil=>exact xK.2 ⟨1,rfl⟩
 |cons a l=>
  simp only[List.length_cons] at hl;refine aL rfl Try.func106 s106 (Nat.le_of_ble_eq_true rfl) (λQ hqr hqn=>?_);rw[bf (show An.pure 106=true from rfl) (by simp only[cans,aG,az,aC,aH,intE.can_sl])];simp only[aO,Nat.reduceAdd,c106];simp only[sl,List.length_cons,List.flatMap_cons,aX,List.cons_append,List.nil_append];have hq:=λx y=>eqNil l.length (.int .i64 a) (l.flatMap aX) x y;have hs':cN 8 (l.length+1)=true:=f0 (by omega) (by omega);have hcl:(CV.int .i64 a::l.flatMap aX).length=(l.length+1)*1:=by simp only[List.length_cons,dL];omega
  have he:∀m,bp m []=some ([],m):=λ_=>rfl;have hct:∀m,content m 1 (.imm (l.length+1) (CV.int .i64 a::l.flatMap aX))=some (CV.int .i64 a::l.flatMap aX):=λm=>by simp only[content,hcl,if_true]
  repeat' (first
  |with_reducible (first|refine ai ?_|refine ar ?_|refine ax rfl ?_|refine aF ?_)
  |(with_reducible (first|(refine ah (λK hK=>?_);(first|refine t106r0 ?_|refine t106r1 ?_|refine t106r3 ?_))|refine hqr _ ?_);(try simp only[SS,Nat.reduceEqDiff,dj,ef,aS,Nat.reduceMul,dy,fP,ea,bg,be,r106,aQ,ak,aD,am,dq,bV,Nat.sub_self,hq,he,hct,nr]))
  |(revert hK;intro hK;(first|refine And.intro ?_ ?_|omega|(with_reducible refine hK _ ?_;clear hK K))))
  all_goals first|exact hs'|skip
  ·rw[List.take_of_length_le (by omega)];rfl
theorem k87 (e:Tm) {fid:FuncId}{d:Tmp}{m:Mem}{K:CV×Mem→Prop}(hgl:(An.glob fid).contains d=false)
  (hK:∀v m',OwnE aX 1 m' (16*d) v (cE e)→m'.H=m.H→(∀i,i≠16*d→aK m'.L i=aK m.L i)→K (v,m')):Obt (aB An FF fid (some d) 87 [.agg (tmC e)] m) K:=by
 rw[ek (x87 e) rfl (by simp only[cans,aC,tmE.can]) rfl rfl (intE.noG_own _),aJ];obtain⟨v,m',h1,h2,h3,h4⟩:=Jz (e:=aX) (sz:=1) (m:=m) (l:=cE e) (d:=d) hgl;rw[h1];exact hK v m' h2 h3 h4
theorem He (e:Tm):(cE e).length≤2:=by
 unfold cE;split
 ·simp
 ·split<;>simp
theorem x66 (f:Cd) (hf:f.parts.length≤1048576):∃r,(∃H',r=(eA dV 1 (aE f),H'))∧FF 66 [.agg (aZ f)] []=some r:=by
 refine bA rfl Try.func66 s66 (Nat.le_of_ble_eq_true rfl) (λQ hqr hqn=>?_);rw[bf (show An.pure 66=true from rfl) (by simp only[cans,aG,az,aC,aH,codeE.can])];simp only[aO,Nat.reduceAdd,c66]
 repeat' (first
 |with_reducible (first|refine ai ?_|refine aj (id:=0) (λQ0 hn0 hx0 hr0 ho0=>?_))
 |(with_reducible (refine ah (λK hK=>?_);(first|refine t66r0 ?_|refine t66r1 ?_|refine t66r2 ?_));(try simp only[SS,Nat.reduceEqDiff,ap,lenS,aZ,aP]))
 |(with_reducible refine hK _ ?_;clear hK K))
 refine aU (λn s=>∃(d t:List Pt) (v:CV) (L:List (Nat×HO)),f.parts=d++t∧n=t.length∧s=⟨[(3,v),(7,sl ptC f.parts),(8,.int .i64 f.parts.length),(9,.int .i64 d.length)],⟨L,[]⟩⟩∧OwnE dV 1 ⟨L,[]⟩ 288 v (d.map λp=>cE p.fin)) _ ⟨[],f.parts,.nil,_,rfl,rfl,rfl,.nil⟩ ?_;rintro n s ⟨d,t,v,L,h2,rfl,rfl,hO⟩ QL0 hnL0 hxL0 hrL0;have hlen:=congrArg List.length h2;simp only[List.length_append] at hlen;simp only[c66l0]
 cases t with
 |nil=>
  simp only[List.length_nil] at hlen;rw[List.append_nil] at h2
  repeat' (first
  |with_reducible (first|refine ax rfl ?_|refine aN ?_|refine aF ?_|refine hx0 _ ?_|refine hxL0 _ _ ?_)
  |(with_reducible (first|(refine ah (λK hK=>?_);(first|refine t66r3 ?_|refine t66r7 ?_))|refine hqr _ ?_);(try simp only[SS,Nat.reduceEqDiff,cD,r66,aQ,ak,aD,am]))
  |(revert hK;intro hK;(first|refine And.intro ?_ ?_|intro _|omega|(with_reducible refine hK _ ?_;clear hK K))))
  have:(d.map λp=>cE p.fin)=aE f:=by rw[aE,h2]
  rw[this] at hO;refine hO.ret dE λm' hm'=>?_;simp only[gx,Option.map_some,aJ]
  first|exact⟨_,rfl,rfl⟩|exact⟨_,trivial,rfl⟩
 |cons p t=>
  simp only[List.length_cons] at hlen;have hw:IntKind.i64.wrap ((d.length:Int)+1)=d.length+1:=wI (by omega) (by omega)
  repeat' (first
  |with_reducible (first|refine ar ?_|refine au rfl ?_|refine aj (id:=1) (λQ1 hn1 hx1 hr1 ho1=>?_))
  |(with_reducible ((first|refine ah (λK hK=>?_)|refine aI (λK hK=>?_));(first|refine t66r3 ?_|refine t66r4 ?_|refine t66r5 ?_));(try simp only[SS,Nat.reduceEqDiff,ap,aS,Nat.reduceAdd,ay,hw,aM ptE.len (by omega) h2,ct,ptC]))
  |(revert hK;intro hK;(first|refine And.intro ?_ ?_|intro _|omega|(with_reducible refine hK _ ?_;clear hK K))))
  refine k87 p.fin rfl λv1 m1 hO1 hH1 hf1=>?_;refine rB (s:=272) hO1.seen intE.len (λm2 q1 q2 q3 q4=>?_) (by decide);have hO2:OwnE dV 1 m2 288 v (d.map λp=>cE p.fin):=hO.keep (by rw[q3 288 (by decide) (by decide),hf1 288 (by decide)];simp[bi,aq]);refine hO2.app (ys:=[cE p.fin]) dE (by simp only[cU,q1,dz];rfl) rfl (by decide) (by simp;omega) λv' m' hO' hH' hf'=>?_;refine hK _ ?_;clear hK K;obtain⟨L3,H3⟩:=m';simp only[q2,hH1] at hH';simp only[bi] at hH';subst hH'
  repeat' (first
  |with_reducible refine hn1 _ ?_
  |(with_reducible (refine aI (λK hK=>?_);refine t66r6 ?_);(try simp only[SS,Nat.reduceEqDiff,hw]))
  |(with_reducible refine hK _ ?_;clear hK K))
  refine hnL0 t.length _ (by simp) ⟨d++[p],t,v',L3,by simp[h2],rfl,by simp,by simpa using hO'⟩
def ln (n:Nd):CV:=if n.op=7 then gz aX 1 n.args else eA aX 1 (eF n)
theorem x79 (n:Nd) (hl:n.args.length≤17592186044416):FF 79 [.agg (ndC n)] []=some (ln n,[]):=by
 have hk:∀m,aB An FF 79 (some 22) 106 [sl aX n.args] m=some (adopt false 22 (gz aX 1 n.args) m):=λm=>
  ek (x106 n.args hl) rfl (by simp only[cans,intE.can_sl]) rfl (by simp only[noGs,intE.noG_sl,Bool.and_self]) (ib fY _)
 by_cases h4:n.op=4
 ·refine aL rfl Try.func79 s79 (Nat.le_of_ble_eq_true rfl) (λQ hqr hqn=>?_)
  rw[bf (show An.pure 79=true from rfl) (by simp only[cans,aG,az,aC,aH,ndE.can])];simp only[aO,Nat.reduceAdd,c79]
  repeat' (first
  |with_reducible (first|refine ai ?_|refine ar ?_|refine au rfl ?_|refine bc rfl ?_|refine aF ?_|refine aj (id:=0) (λQ0 hn0 hx0 hr0 ho0=>?_)|refine hr0 _ ?_)
  |(with_reducible (first|(refine ah (λK hK=>?_);(first|refine qc ?_|refine qd ?_|refine qe ?_|refine t79r4 ?_))|refine hqr _ ?_);(try simp only[SS,Nat.reduceEqDiff,ap,dj,ef,bv,aR,aS,Nat.reduceMul,Nat.reduceAdd,cD,bg,be,bF,ay,Nat.reduceLeDiff,cz,List.all_cons,List.all_nil,Bool.and_self,r79,aQ,ak,aD,am,dq,bV,Nat.sub_self,ndC,h4]))
  |(with_reducible refine hK _ ?_;clear hK K))
  all_goals simp[ln,eF,h4,eA,aX]
 by_cases h6:n.op=6
 ·refine aL rfl Try.func79 s79 (Nat.le_of_ble_eq_true rfl) (λQ hqr hqn=>?_)
  rw[bf (show An.pure 79=true from rfl) (by simp only[cans,aG,az,aC,aH,ndE.can])];simp only[aO,Nat.reduceAdd,c79]
  repeat' (first
  |with_reducible (first|refine ai ?_|refine ax rfl ?_|refine bc rfl ?_|refine aF ?_|refine aj (id:=0) (λQ0 hn0 hx0 hr0 ho0=>?_)|refine hr0 _ ?_)
  |(with_reducible (first|(refine ah (λK hK=>?_);(first|refine qc ?_|refine qd ?_|refine qe ?_|refine te ?_|refine t79r4 ?_))|refine hqr _ ?_);(try simp only[SS,Nat.reduceEqDiff,ap,dj,ef,bv,aR,aS,Nat.reduceMul,Nat.reduceAdd,cD,bg,be,bF,ay,Nat.reduceLeDiff,cz,List.all_cons,List.all_nil,Bool.and_self,r79,aQ,ak,aD,am,dq,bV,Nat.sub_self,ndC,h6]))
  |(revert hK;intro hK;(first|refine And.intro ?_ ?_|intro _|omega|(with_reducible refine hK _ ?_;clear hK K))))
  all_goals simp[ln,eF,h6,eA,aX]
 by_cases h5:n.op=5
 ·refine aL rfl Try.func79 s79 (Nat.le_of_ble_eq_true rfl) (λQ hqr hqn=>?_)
  rw[bf (show An.pure 79=true from rfl) (by simp only[cans,aG,az,aC,aH,ndE.can])];simp only[aO,Nat.reduceAdd,c79]
  repeat' (first
  |with_reducible (first|refine ai ?_|refine ax rfl ?_|refine bc rfl ?_|refine bn rfl ?_|refine aF ?_|refine aj (id:=0) (λQ0 hn0 hx0 hr0 ho0=>?_)|refine hr0 _ ?_)
  |(with_reducible (first|(refine ah (λK hK=>?_);(first|refine qc ?_|refine qd ?_|refine qe ?_|refine te ?_|refine wF ?_|refine t79r6 ?_))|refine hqr _ ?_);(try simp only[SS,Nat.reduceEqDiff,ap,dj,ef,bv,aR,aS,Nat.reduceMul,cD,bg,be,bF,ay,cz,List.all_cons,List.all_nil,Bool.and_self,r79,aQ,ak,aD,am,dq,bV,Nat.sub_self,ndC,h5]))
  |(revert hK;intro hK;(first|refine And.intro ?_ ?_|intro _|omega|(with_reducible refine hK _ ?_;clear hK K))))
  all_goals simp[ln,eF,h5,eA,aX]
 by_cases h7:n.op=7
 ·have hu:ln n=gz aX 1 n.args:=by rw[ln,if_pos h7]
  rw[hu]
  cases ha:n.args with
  |nil=>
   rw[ha] at hk;have hk:∀m,aB An FF 79 (some 22) 106 [sl aX []] m=some (.imm 0 [],m):=hk;refine aL rfl Try.func79 s79 (Nat.le_of_ble_eq_true rfl) (λQ hqr hqn=>?_);rw[bf (show An.pure 79=true from rfl) (by simp only[cans,aG,az,aC,aH,ndE.can])];simp only[aO,Nat.reduceAdd,c79]
   repeat' (first
   |with_reducible (first|refine ai ?_|refine ax rfl ?_|refine bc rfl ?_|refine bn rfl ?_|refine aF ?_|refine aj (id:=0) (λQ0 hn0 hx0 hr0 ho0=>?_)|refine hr0 _ ?_)
   |(with_reducible (first|(refine ah (λK hK=>?_);(first|refine qc ?_|refine qd ?_|refine qe ?_|refine te ?_|refine wF ?_|refine FD ?_|refine t79r8 ?_))|refine hqr _ ?_);(try simp only[SS,Nat.reduceEqDiff,ap,r79,aQ,ak,aD,am,Ek,ndC,h7,ha,hk]))
   |(revert hK;intro hK;(first|refine And.intro ?_ ?_|intro _|omega|(with_reducible refine hK _ ?_;clear hK K))))
   all_goals first|rfl|simp[gz]
  |cons a l=>
   rw[ha] at hk;have hk:∀m,aB An FF 79 (some 22) 106 [sl aX (a::l)] m=some (.ref (.l 352) (bj m.L 352) 0 (l.length+1),bi m 352 (.arr (bj m.L 352) 1 ((a::l).flatMap aX) 0)):=hk;refine aL rfl Try.func79 s79 (Nat.le_of_ble_eq_true rfl) (λQ hqr hqn=>?_);rw[bf (show An.pure 79=true from rfl) (by simp only[cans,aG,az,aC,aH,ndE.can])];simp only[aO,Nat.reduceAdd,c79]
   repeat' (first
   |with_reducible (first|refine ai ?_|refine ax rfl ?_|refine bc rfl ?_|refine bn rfl ?_|refine aF ?_|refine aj (id:=0) (λQ0 hn0 hx0 hr0 ho0=>?_)|refine hr0 _ ?_)
   |(with_reducible (first|(refine ah (λK hK=>?_);(first|refine qc ?_|refine qd ?_|refine qe ?_|refine te ?_|refine wF ?_|refine FD ?_|refine t79r8 ?_))|refine hqr _ ?_);(try simp only[SS,Nat.reduceEqDiff,ap,bv,aR,aS,r79,aQ,ak,aD,am,dq,bV,Nat.sub_self,ndC,h7,ha,hk]))
   |(revert hK;intro hK;(first|refine And.intro ?_ ?_|intro _|omega|(with_reducible refine hK _ ?_;clear hK K))))
   all_goals (rw[List.take_of_length_le (by rw[dL];simp)];rfl)
 ·refine aL rfl Try.func79 s79 (Nat.le_of_ble_eq_true rfl) (λQ hqr hqn=>?_)
  rw[bf (show An.pure 79=true from rfl) (by simp only[cans,aG,az,aC,aH,ndE.can])];simp only[aO,Nat.reduceAdd,c79]
  repeat' (first
  |with_reducible (first|refine ai ?_|refine ax rfl ?_|refine bn rfl ?_|refine aF ?_|refine bx ?_|refine aj (id:=0) (λQ0 hn0 hx0 hr0 ho0=>?_)|refine hn0 _ ?_)
  |(with_reducible (first|(refine ah (λK hK=>?_);(first|refine qc ?_|refine qd ?_|refine qe ?_|refine te ?_|refine wF ?_|refine FD ?_|refine t79r9 ?_))|refine hqr _ ?_);(try simp only[SS,Nat.reduceEqDiff,ap,r79,aQ,ak,aD,am,eh,ndC,h4,h5,h6,h7]))
  |(with_reducible refine hK _ ?_;clear hK K))
  all_goals simp[ln,eF,h4,h5,h6,h7,eA]
theorem x88 (H:List HO) (va vb:CV) (a b:List Int) (ha:RdI H va a) (hb:RdI H vb b) (hal:a.length≤17592186044416):FF 88 [va,vb] H=some (.bool (decide (a=b)),H):=by
 refine aL rfl Try.func88 s88 (Nat.le_of_ble_eq_true rfl) (λQ hqr hqn=>?_);rw[show ∀a,cin (An.pure 88) a=a from λ_=>rfl];simp only[aO,Nat.reduceAdd,c88]
 by_cases hl:a.length=b.length
 ·have hlb:cK vb=some a.length:=by rw[hb.len,hl]
  repeat' (first
  |with_reducible (first|refine ai ?_|refine ar ?_|refine ax rfl ?_|refine aj (id:=0) (λQ0 hn0 hx0 hr0 ho0=>?_))
  |(with_reducible (refine ah (λK hK=>?_);(first|refine t88r0 ?_|refine t88r1 ?_|refine t88r3 ?_));(try simp only[SS,Nat.reduceEqDiff,br,lenS,ha.len,hlb]))
  |(with_reducible refine hK _ ?_;clear hK K))
  refine aU (λk s=>∃(i:Nat) (L:List (Nat×HO)),i≤a.length∧a.take i=b.take i∧k=a.length - i∧s=⟨[(0,va),(1,vb),(12,.int .i64 a.length),(13,.int .i64 i)],⟨L,H⟩⟩) _ ⟨0,_,Nat.zero_le _,rfl,rfl,rfl⟩ ?_;rintro k s ⟨i,L,hi,hp,rfl,rfl⟩ QL0 hnL0 hxL0 hrL0;simp only[c88l0]
  by_cases hig:i=a.length
  ·subst hig
   have he:a=b:=by rw[List.take_of_length_le (Nat.le_refl _),List.take_of_length_le (by omega)] at hp;exact hp
   repeat' (first
   |with_reducible (first|refine ax rfl ?_|refine aN ?_|refine aF ?_|refine hx0 _ ?_|refine hxL0 _ _ ?_)
   |(with_reducible (first|(refine ah (λK hK=>?_);(first|refine FE ?_|refine t88r9 ?_))|refine hqr _ ?_);(try simp only[SS,Nat.reduceEqDiff,r88,aQ,ak,aD,am,ha.len]))
   |(revert hK;intro hK;(first|refine And.intro ?_ ?_|intro _|omega|(with_reducible refine hK _ ?_;clear hK K))))
   simp[he]
  ·have hia:(i:Int)<a.length:=by omega
   have ga:a[i]?=some a[i]:=List.getElem?_eq_getElem (by omega);have gb:b[i]?=some b[i]:=List.getElem?_eq_getElem (by omega);obtain⟨p,hp1,hp2⟩:=ha.at ga (k:=.i64);obtain⟨q,hq1,hq2⟩:=hb.at gb (k:=.i64);have hw:IntKind.i64.wrap ((i:Int)+1)=((i+1:Nat):Int):=by rw[wI (by omega) (by omega)];rfl
   by_cases he:a[i]=b[i]
   ·repeat' (first
    |with_reducible (first|refine ar ?_|refine au rfl ?_|refine bn rfl ?_|refine bx ?_|refine aj (id:=1) (λQ1 hn1 hx1 hr1 ho1=>?_)|refine hn1 _ ?_)
    |(with_reducible ((first|refine ah (λK hK=>?_)|refine aI (λK hK=>?_));(first|refine FE ?_|refine t88r5 ?_|refine t88r6 ?_|refine t88r8 ?_));(try simp only[SS,Nat.reduceEqDiff,br,ha.len,hia,hp1,hp2,hq1,hq2,he,hw]))
    |(with_reducible refine hK _ ?_;clear hK K))
    refine hnL0 (a.length - (i+1)) _ (by omega) ⟨i+1,L,by omega,?_,rfl,rfl⟩;rw[List.take_add_one,List.take_add_one,hp,ga,gb,he]
   ·have hne:a≠b:=λh=>he (by subst h;rfl)
    repeat' (first
    |with_reducible (first|refine ar ?_|refine au rfl ?_|refine bc rfl ?_|refine aF ?_|refine hr0 _ ?_|refine aj (id:=1) (λQ1 hn1 hx1 hr1 ho1=>?_)|refine hr1 _ ?_|refine hrL0 _ ?_)
    |(with_reducible (first|(refine ah (λK hK=>?_);(first|refine FE ?_|refine t88r5 ?_|refine t88r6 ?_|refine t88r7 ?_))|refine hqr _ ?_);(try simp only[SS,Nat.reduceEqDiff,br,r88,aQ,ak,aD,am,ha.len,hia,hp1,hp2,hq1,hq2,he,hw]))
    |(with_reducible refine hK _ ?_;clear hK K))
    simp[hne]
 ·have hne:a≠b:=λh=>hl (by rw[h])
  have hl2:¬((a.length:Int)=b.length):=by omega
  repeat' (first
  |with_reducible (first|refine ai ?_|refine au rfl ?_|refine b6 ?_)
  |(with_reducible (first|(refine ah (λK hK=>?_);(first|refine t88r0 ?_|refine t88r1 ?_|refine t88r2 ?_))|refine hqr _ ?_);(try simp only[SS,Nat.reduceEqDiff,br,lenS,r88,aQ,ak,aD,am,ha.len,hb.len,hl2]))
  |(with_reducible refine hK _ ?_;clear hK K))
  simp[hne]
end Go.Cm
namespace Go.Cm
open Go.Proofs Go.Gr
def jM (b:Nat) (left:List Int):CV:=if left=[] then .nil else .ref (.g (b+5)) left.length 0 left.length
def sd (left:List Int):List HO:=if left=[] then [] else [.arr left.length 1 (left.flatMap aX) 0]
def dn (gv:CV) (b:Nat) (met left:List Int):List HO:=
 .var 1 [gv] 0::.map 1 (esI .i64 (met.map λx=>(x,.bool true)))::.var 1 [.map (.g (b+1)) 1] 0::.var 1 [jM b left] 0 ::
  .var 1 [.func (.func 134) [] [.ptr (.g (b+2)) 1 0,.ptr (.g b) 1 0,.ptr (.g (b+4)) 1 0,.ptr (.g (b+3)) 1 0]] 0::sd left
def m6 (b:Nat) (x:Int):List CV:=[.int .i64 x,.ptr (.g (b+2)) 1 0,.ptr (.g b) 1 0,.ptr (.g (b+4)) 1 0,.ptr (.g (b+3)) 1 0]
theorem ve (b:Nat) (x:Int):(m6 b x).all eV=true:=rfl
theorem xp (gv:CV) (H0:List HO) {met left:List Int}{x:Int}{gt:Nat}{m:Mem}(hm:m.H=H0++dn gv H0.length met left) (ht:aK m.L 432=some (.arr gt 1 [.int .i64 x] 0)) (hl:left.length+1≤4294967296) :
  ∃v H2,ej true 448 1 8 (jM H0.length left) (.ref (.l 432) gt 0 1) m=some (v,⟨m.L,H2⟩)∧stX 1 ⟨m.L,H2⟩ (.ptr (.g (H0.length+3)) 1 0) v=some ⟨m.L,H0++dn gv H0.length met (left++[x])⟩:=by
 have hc:content m 1 (.ref (.l 432) gt 0 1)=some [.int .i64 x]:=by rw[cU,ht,dz];rfl
 obtain⟨ML,MH⟩:=m;simp only at hm;subst hm
 by_cases h0:left=[]
 ·subst h0
  refine⟨.ref (.g (H0.length+5)) 1 0 1,H0++(dn gv H0.length met []++[.arr 1 1 [.int .i64 x] 0]),?_,?_⟩
  ·simp only[jM,if_true,iD,hc,fq]
   rw[eG (by decide),if_pos (dI (by decide) (by decide))];have hlen:(H0++dn gv H0.length met []).length=H0.length+5:=by simp[dn,sd]
   simp only[pS,pR,List.append_assoc,hlen]
  ·have e3:(dn gv H0.length met []++[.arr 1 1 [.int .i64 x] 0])[3]?=some (.var 1 [.nil] 0):=rfl
   simp only[gQ,gA,e3,ap,fD,List.length_cons,List.length_nil];rw[if_pos (by decide),bF rfl];simp only[Option.map_some,jE,ot];rfl
 ·have hv:jM H0.length left=.ref (.g (H0.length+5)) left.length 0 left.length:=by simp only[jM,h0,if_false]
  have e5:(dn gv H0.length met left)[5]?=some (.arr left.length 1 (left.flatMap aX) 0):=by
   simp only[dn,sd,h0,if_false,List.getElem?_cons_succ,List.getElem?_cons_zero]
  have htk:(left.flatMap aX).take (left.length*1)=left.flatMap aX:=List.take_of_length_le (by rw[bC dB];exact Nat.le_refl _)
  refine⟨.ref (.g (H0.length+5)) (left.length+1) 0 (left.length+1),H0++(dn gv H0.length met left).set 5 (.arr (left.length+1) 1 (left.flatMap aX++[.int .i64 x]) 0),?_,?_⟩
  ·simp only[hv,tt,hc,fq,gA,e5]
   rw[if_pos ⟨trivial,trivial,by omega,dI (by decide) hl⟩];simp only[jE,ot,List.drop_zero,htk,Nat.zero_sub]
  ·have e3:∀o,((dn gv H0.length met left).set 5 o)[3]?=some (.var 1 [jM H0.length left] 0):=λ_=>rfl
   simp only[gQ,gA,e3,ap,fD,List.length_cons,List.length_nil];rw[if_pos (by decide),bF rfl];simp only[Option.map_some,jE,ot,ay,List.take_zero,List.nil_append,List.length_cons,List.length_nil,Nat.zero_add,List.drop_succ_cons,List.drop_zero,List.append_nil]
   congr 3
   simp[dn,jM,sd,h0,aX]
theorem x134 (g:List (List Int)) (hg:Sm g) (gv:CV) (hgv:IsRows gv g) (H0:List HO):∀(k:Nat) (x:Int) (met left:List Int),0≤x→x<g.length→iz g met<k→(da g k x (met,left)).2.length≤1048576 →
  FF 134 (m6 H0.length x) (H0++dn gv H0.length met left)=some (.tuple [],H0++dn gv H0.length (da g k x (met,left)).1 (da g k x (met,left)).2)
 |0,_,_,_,_,_,h,_=>by omega
 |k+1,x,met,left,h0,h1,hk,hfin=>by
  by_cases hx:x∈met
  ·simp only[da,hx,if_true] at hfin ⊢
   have hl:∀L,fx ⟨L,H0++dn gv H0.length met left⟩ (.map (.g (H0.length+1)) 1)=some (esI .i64 (met.map λx=>(x,.bool true))):=λL=>jq (by simp only[gA,dn,List.getElem?_cons_succ,List.getElem?_cons_zero]);have hlk:=λL z ok=>fK (t:=3) (a:=x) (z:=z) (ok:=ok) Try.underlying3 (hl L);have e2:(dn gv H0.length met left)[2]?=some (.var 1 [.map (.g (H0.length+1)) 1] 0):=rfl;refine aL rfl Try.func134 s134 (Nat.le_of_ble_eq_true rfl) (λQ hqr hqn=>?_);rw[show ∀a,cin (An.pure 134) a=a from λ_=>rfl];simp only[aO,Nat.reduceAdd,c134];simp only[m6,aO,Nat.reduceAdd]
   repeat' (first
   |with_reducible (first|refine ai ?_|refine au rfl ?_|refine b6 ?_)
   |(with_reducible (first|(refine ah (λK hK=>?_);refine EJ ?_)|refine hqr _ ?_);(try simp only[SS,Nat.reduceEqDiff,Bool.false_eq_true,r134,aQ,ak,am,ro,ce,gA,e2,hlk,xV hx,Option.getD_some]))
   |(with_reducible refine hK _ ?_;clear hK K))
  ·have hvis:da g (k+1) x (met,left)=(((ins g x).foldl (λs y=>da g k y s) (met++[x],left)).1,((ins g x).foldl (λs y=>da g k y s) (met++[x],left)).2++[x]):=by simp only[da,hx,if_false]
   rw[hvis] at hfin ⊢;simp only[List.length_append,List.length_cons,List.length_nil] at hfin;have hal:al (met.map λx=>(x,CV.bool true)) x=none:=al_map (f:=λy=>y) λy hy e=>hx (by rw[←e];exact hy);have hl:∀L,fx ⟨L,H0++dn gv H0.length met left⟩ (.map (.g (H0.length+1)) 1)=some (esI .i64 (met.map λx=>(x,.bool true))):=λL=>jq (by simp only[gA,dn,List.getElem?_cons_succ,List.getElem?_cons_zero]);have hlk:=λL z ok=>fK (t:=3) (a:=x) (z:=z) (ok:=ok) Try.underlying3 (hl L);have hm:∀L,mB Try.prog 3 (.map (.g (H0.length+1)) 1) (.int .i64 x) (.bool true) ⟨L,H0++dn gv H0.length met left⟩=some ⟨L,H0++dn gv H0.length (met++[x]) left⟩:=by
    intro L;rw[kR (l:=met.map λx=>(x,.bool true)) Try.underlying3 rfl (by simp only[Mem.get,gA,dn,List.getElem?_cons_succ,List.getElem?_cons_zero])];simp only[Mem.set,ot,yc hal,dn,List.set_cons_succ,List.set_cons_zero,List.map_append,List.map_cons,List.map_nil]
   have q0:∀m l,(dn gv H0.length m l)[0]?=some (.var 1 [gv] 0):=λ_ _=>rfl;have q2:∀m l,(dn gv H0.length m l)[2]?=some (.var 1 [.map (.g (H0.length+1)) 1] 0):=λ_ _=>rfl;have q3:∀m l,(dn gv H0.length m l)[3]?=some (.var 1 [jM H0.length l] 0):=λ_ _=>rfl;have q4:∀m l,(dn gv H0.length m l)[4]?=some (.var 1 [.func (.func 134) [] [.ptr (.g (H0.length+2)) 1 0,.ptr (.g H0.length) 1 0,.ptr (.g (H0.length+4)) 1 0,.ptr (.g (H0.length+3)) 1 0]] 0):=λ_ _=>rfl;refine aL rfl Try.func134 s134 (Nat.le_of_ble_eq_true rfl) (λQ hqr hqn=>?_);rw[show ∀a,cin (An.pure 134) a=a from λ_=>rfl];simp only[aO,Nat.reduceAdd,c134];simp only[m6,aO,Nat.reduceAdd]
   repeat' (first
   |with_reducible (first|refine ai ?_|refine ar ?_|refine ax rfl ?_)
   |(with_reducible (refine ah (λK hK=>?_);(first|refine EJ ?_|refine t134r1 ?_|refine t134r2 ?_));(try simp only[SS,Nat.reduceEqDiff,lenS,Bool.false_eq_true,ce,gA,nM,q0,q2,hlk,hal,hm,Option.getD_none]))
   |(with_reducible refine hK _ ?_;clear hK K))
   refine k135 g hg gv hgv x h0 h1 rfl λv m' hO hH' hf=>?_;simp only[hO.len,aJ];refine hK _ ?_;clear hK K
   repeat' (first
   |with_reducible refine aj (id:=0) (λQ0 hn0 hx0 hr0 ho0=>?_))
   obtain⟨ML',MH'⟩:=m';simp only at hH';subst hH';have hun:=tg h0 h1 hx;have hfd:∀d t,ins g x=d++t→iz g (d.foldl (λs y=>da g k y s) (met++[x],left)).1<k∧(d.foldl (λs y=>da g k y s) (met++[x],left)).2.length≤((ins g x).foldl (λs y=>da g k y s) (met++[x],left)).2.length:=by
    intro d t hdt;obtain⟨M,N,hv⟩:=qv g k d (met++[x],left) (λy hy=>fJ (x:=x) (by rw[hdt];exact List.mem_append_left _ hy)) (by simp only;omega);have h4:iz g (d.foldl (λs y=>da g k y s) (met++[x],left)).1<k:=by
     rw[hv.met];have:=oQ g (met++[x]) M;simp only;omega
    refine⟨h4,?_⟩
    rw[hdt,List.foldl_append];obtain⟨M2,N2,hv2⟩:=qv g k t _ (λy hy=>fJ (x:=x) (by rw[hdt];exact List.mem_append_right _ hy)) h4;exact hv2.len_le
   refine aU (λn s=>∃d t ML st,ins g x=d++t∧n=t.length∧st=d.foldl (λs y=>da g k y s) (met++[x],left) ∧
    s=⟨[(0,.int .i64 x),(3,.ptr (.g (H0.length+4)) 1 0),(4,.ptr (.g (H0.length+3)) 1 0),(15,v),(16,.int .i64 (ins g x).length),(17,.int .i64 d.length)],⟨ML,H0++dn gv H0.length st.1 st.2⟩⟩ ∧
    OwnE aX 1 ⟨ML,H0++dn gv H0.length st.1 st.2⟩ 240 v (ins g x)) _ ⟨[],ins g x,ML',_,rfl,rfl,rfl,rfl,hO⟩ ?_
   rintro n s ⟨d,t,ML,st,h2,rfl,h3,rfl,hO2⟩ QL0 hnL0 hxL0 hrL0;have hlen:=congrArg List.length h2;simp only[List.length_append] at hlen;have hr2:=hg.2;obtain⟨f1,f2⟩:=hfd d t h2;rw[←h3] at f1 f2;obtain⟨sm,sl⟩:=st;simp only at f1 f2
   cases t with
   |nil=>
    simp only[List.length_nil] at hlen;rw[List.append_nil] at h2;rw[h2,←h3] at hfin hqr hqn;simp only[tD]
    repeat' (first
    |with_reducible (first|refine ax rfl ?_|refine aN ?_|refine hx0 _ ?_|refine hxL0 _ _ ?_)
    |(with_reducible ((first|refine ah (λK hK=>?_)|refine aI (λK hK=>?_));(first|refine EK ?_|refine t134r7 ?_));(try simp only[SS,Nat.reduceEqDiff,ap,dj,ef,bg,be,bF,ay,cz,List.all_cons,List.all_nil,Bool.and_self,ce,gA,q3]))
    |(revert hK;intro hK;(first|refine And.intro ?_ ?_|intro _|omega|(with_reducible refine hK _ ?_;clear hK K))))
    simp only at hfin;obtain⟨v2,H2,a1,a2⟩:=xp gv H0 (met:=sm) (left:=sl) (x:=x) (gt:=bj ML 432) (m:=bi ⟨ML,H0++dn gv H0.length sm sl⟩ 432 (.arr (bj ML 432) 1 [.int .i64 x] 0)) rfl (by rw[ba,if_pos rfl]) (by omega);simp only[a1,aJ,a2];refine hK _ ?_;clear hK K
    repeat' (first
    |(with_reducible refine hqn _ ?_;(try simp only[SS,r134,aQ,ak,am,ro])))
   |cons a t=>
    simp only[List.length_cons] at hlen;have hil:(ins g x).length≤17592186044416:=by
     unfold ins;refine Nat.le_trans (List.length_filter_le _ _) ?_;rw[List.getD_eq_getElem?_getD,List.getElem?_eq_getElem (show x.toNat<g.length by omega),Option.getD_some];exact hr2 _ (List.getElem_mem _)
    have ha:(ins g x)[d.length]?=some a:=by rw[h2];simp
    have har:=fJ (g:=g) (x:=x) (List.mem_of_getElem? ha);obtain⟨p,hp1,hp2⟩:=hO2.at ha (k:=.i64);have hw:IntKind.i64.wrap ((d.length:Int)+1)=d.length+1:=wI (by omega) (by omega);have hst:da g k a (sm,sl)=(d++[a]).foldl (λs y=>da g k y s) (met++[x],left):=by rw[List.foldl_append,←h3];rfl
    have h5:=(hfd (d++[a]) t (by rw[h2];simp)).2;rw[←hst] at h5;have ih:=x134 g hg gv hgv H0 k a sm sl har.1 har.2 f1 (by omega);have hcall:aB An FF 134 (some 23) 134 (m6 H0.length a) ⟨ML,H0++dn gv H0.length sm sl⟩=some (.tuple [],⟨ML,H0++dn gv H0.length (da g k a (sm,sl)).1 (da g k a (sm,sl)).2⟩):=by rw[cf rfl (ve _ _) ih,fk rfl]
    simp only[m6] at hcall;simp only[tD]
    repeat' (first
    |with_reducible (first|refine ar ?_|refine au rfl ?_|refine aj (id:=1) (λQ1 hn1 hx1 hr1 ho1=>?_)|refine hn1 _ ?_)
    |(with_reducible ((first|refine ah (λK hK=>?_)|refine aI (λK hK=>?_));(first|refine EK ?_|refine t134r4 ?_|refine t134r5 ?_|refine t134r6 ?_));(try simp only[SS,Nat.reduceEqDiff,ce,gA,q4,hp1,hp2,dK,hcall,hw]))
    |(revert hK;intro hK;(first|refine And.intro ?_ ?_|intro _|omega|(with_reducible refine hK _ ?_;clear hK K))))
    refine hnL0 t.length _ (by simp) ⟨d++[a],t,ML,_,by simp[h2],rfl,hst,by simp,hO2.keep rfl⟩
end Go.Cm
namespace Go.Cm
open Go.Proofs Go.Gr
theorem x136 (H:List HO) (n gn:Nat) (l:List Int) (hH:H[n]?=some (.arr gn 1 (l.flatMap aX) 0)) (hl:l.length≤4294967296) :
  FF 136 [.ref (.g n) gn 0 l.length] H=some (.tuple [],H.set n (.arr gn 1 (l.reverse.flatMap aX) 0)):=by
 have hn:=(List.getElem?_eq_some_iff.1 hH).1;have hw0:IntKind.i64.wrap ((l.length:Int) - 1)=l.length - 1:=wI (by omega) (by omega);refine aL rfl Try.func136 s136 (Nat.le_of_ble_eq_true rfl) (λQ hqr hqn=>?_);rw[show ∀a,cin (An.pure 136) a=a from λ_=>rfl];simp only[aO,Nat.reduceAdd,c136]
 repeat' (first
 |with_reducible refine bl (id:=0) (λQ0 hn0 hx0 hr0 ho0=>?_)
 |(with_reducible (refine ah (λK hK=>?_);refine t136r0 ?_);(try simp only[SS,lenS,fe,hw0]))
 |(with_reducible refine hK _ ?_;clear hK K))
 refine aU (λk s=>∃(i:Nat) (c:List Int),2*i≤l.length∧k=l.length - i∧c.length=l.length∧(∀j,c[j]?=if j<l.length∧(j<i∨l.length≤j+i) then l[l.length - 1 - j]? else l[j]?) ∧
  s=⟨[(0,.ref (.g n) gn 0 l.length),(2,.int .i64 i),(3,.int .i64 ((l.length:Int) - 1 - i))],⟨[],H.set n (.arr gn 1 (c.flatMap aX) 0)⟩⟩) _ ⟨0,l,by omega,rfl,rfl,λj=>?_,?_⟩ ?_
 ·split
  ·rename_i h;omega
  ·rfl
 ·have:H.set n (.arr gn 1 (l.flatMap aX) 0)=H:=by
   obtain⟨h1,h2⟩:=List.getElem?_eq_some_iff.1 hH;rw[←h2];exact List.set_getElem_self h1
  rw[this];simp
 rintro k s ⟨i,c,hi,rfl,hc,hcj,rfl⟩ QL0 hnL0 hxL0 hrL0
 by_cases hij:(i:Int)<(l.length:Int) - 1 - i
 ·obtain⟨ci,hci⟩:∃x,c[i]?=some x:=⟨_,List.getElem?_eq_getElem (by omega)⟩
  obtain⟨cj,hcj2⟩:∃x,c[l.length - 1 - i]?=some x:=⟨_,List.getElem?_eq_getElem (by omega)⟩;have e0:((l.length:Int) - 1 - i).toNat=l.length - 1 - i:=by omega
  have a1:bd 1 (.ref (.g n) gn 0 l.length) (.int .i64 ((l.length:Int) - 1 - i))=some (.ptr (.g n) gn (l.length - 1 - i)):=by
   rw[bD,if_pos ⟨by omega,by omega⟩,e0];simp
  have a2:bd 1 (.ref (.g n) gn 0 l.length) (.int .i64 i)=some (.ptr (.g n) gn i):=by
   rw[bD,if_pos ⟨by omega,by omega⟩];simp
  have hset:∀o:HO,(H.set n o)[n]?=some o:=λo=>List.getElem?_set_self hn;have hw1:IntKind.i64.wrap ((i:Int)+1)=i+1:=wI (by omega) (by omega);have hw2:IntKind.i64.wrap ((l.length:Int) - 1 - i - 1)=(l.length:Int) - 1 - i - 1:=wI (by omega) (by omega);have s1:stX 1 ⟨[],H.set n (.arr gn 1 (c.flatMap aX) 0)⟩ (.ptr (.g n) gn i) (.int .i64 cj)=some ⟨[],H.set n (.arr gn 1 ((c.set i cj).flatMap aX) 0)⟩:=by
   rw[jz (hset _) (by rw[dL];omega) rfl rfl,mN,List.set_set]
  have s2:stX 1 ⟨[],H.set n (.arr gn 1 ((c.set i cj).flatMap aX) 0)⟩ (.ptr (.g n) gn (l.length - 1 - i)) (.int .i64 ci)=some ⟨[],H.set n (.arr gn 1 (((c.set i cj).set (l.length - 1 - i) ci).flatMap aX) 0)⟩:=by
   rw[jz (hset _) (by rw[dL,List.length_set];omega) rfl rfl,mN,List.set_set]
  simp only[tF]
  repeat' (first
  |with_reducible (first|refine ai ?_|refine ar ?_|refine au rfl ?_|refine aj (id:=1) (λQ1 hn1 hx1 hr1 ho1=>?_)|refine hn1 _ ?_)
  |(with_reducible ((first|refine ah (λK hK=>?_)|refine aI (λK hK=>?_));(first|refine EN ?_|refine t136r3 ?_|refine t136r2 ?_));(try simp only[SS,Nat.reduceEqDiff,bM,fe,a1,a2,ce,hset,fX,hci,hcj2,s1,s2,hw1,hw2]))
  |(revert hK;intro hK;(first|refine And.intro ?_ ?_|intro _|omega|(with_reducible refine hK _ ?_;clear hK K))))
  refine hnL0 (l.length - (i+1)) _ (by omega) ⟨i+1,(c.set i cj).set (l.length - 1 - i) ci,by omega,rfl,by simp[hc],λj=>?_,?_⟩
  ·rw[List.getElem?_set,List.getElem?_set]
   have hi1:=hcj i;have hj1:=hcj (l.length - 1 - i);rw[if_neg (by omega)] at hi1 hj1;rw[hci] at hi1;rw[hcj2] at hj1
   by_cases h1:l.length - 1 - i=j
   ·subst h1
    rw[if_pos rfl,if_pos (by simp only[List.length_set];omega),if_pos (by omega)];rw[show l.length - 1 - (l.length - 1 - i)=i by omega,hi1]
   ·rw[if_neg h1]
    by_cases h2:i=j
    ·subst h2
     rw[if_pos rfl,if_pos (by omega),if_pos (by omega),hj1]
    ·rw[if_neg h2,hcj j]
     by_cases h3:j<l.length∧(j<i∨l.length≤j+i)
     ·rw[if_pos h3,if_pos (by omega)]
     ·rw[if_neg h3,if_neg (by omega)]
  ·have:((i+1:Nat):Int)=(i:Int)+1:=by omega
   rw[this,show(l.length:Int) - 1 - (i+1)=l.length - 1 - i - 1 by omega]
 ·simp only[tF]
  repeat' (first
  |with_reducible (first|refine ai ?_|refine ax rfl ?_|refine aN ?_|refine hx0 _ ?_|refine hxL0 _ _ ?_)
  |(with_reducible (first|(refine ah (λK hK=>?_);refine EN ?_)|refine hqn _ ?_);(try simp only[SS,Nat.reduceEqDiff,r136,aQ,ak,am,ro]))
  |(revert hK;intro hK;(first|refine And.intro ?_ ?_|intro _|omega|(with_reducible refine hK _ ?_;clear hK K))))
  have:c=l.reverse:=by
   refine List.ext_getElem? λj=>?_;rw[hcj j]
   by_cases hj:j<l.length
   ·rw[List.getElem?_reverse hj]
    by_cases h3:j<i∨l.length≤j+i
    ·rw[if_pos ⟨hj,h3⟩]
    ·rw[if_neg (λh=>h3 h.2),show l.length - 1 - j=j by omega]
   ·rw[if_neg (λh=>hj h.1),List.getElem?_eq_none (by omega),List.getElem?_eq_none (by simp;omega)]
  rw[this]
theorem x112 (g:List (List Int)) (hg:Sm g) (gv:CV) (hgv:IsRows gv g) (H0:List HO):∃v T,FF 112 [gv] H0=some (v,H0++T)∧RefG (H0++T) v (ord g):=by
 by_cases h0:g=[]
 ·subst h0
  refine⟨.nil,[.var 1 [gv] 0],?_,.inl ⟨rfl,rfl⟩⟩
  refine aL rfl Try.func112 s112 (Nat.le_of_ble_eq_true rfl) (λQ hqr hqn=>?_);rw[show ∀a,cin (An.pure 112) a=a from λ_=>rfl];simp only[aO,Nat.reduceAdd,c112]
  repeat' (first
  |with_reducible (first|refine ai ?_|refine au rfl ?_|refine b6 ?_)
  |(with_reducible (first|(refine ah (λK hK=>?_);(first|refine Ex ?_|refine Ey ?_|refine t112r2 ?_))|refine hqr _ ?_);(try simp only[SS,lenS,r112,aQ,ak,aD,am,eh,ce,kL,gA,nM,ot,p4,iK,iM,iI,iN,iL,iJ,pR,pS,jE,gQ,fD,List.append_assoc,List.length_append,List.set_cons_succ,List.set_cons_zero,cn,eV,mmX,dK,ye (x:=gv) hgv.cells hgv.esc,hgv.len]))
  |(revert hK;intro hK;(first|refine And.intro ?_ ?_|intro _|omega|(with_reducible refine hK _ ?_;clear hK K))))
 ·obtain⟨M,N,hv,ho⟩:=qT g h0
  have hlen:0<g.length:=List.length_pos_iff.2 h0;have hvis:(da g (g.length+1) 0 ([],[])).2=N:=by rw[hv.left];simp
  have hN:N=(ord g).reverse:=by rw[ho,List.reverse_reverse]
  have hNl:N.length≤1048576:=by rw[hN,List.length_reverse];have:=qS g;have:=hg.1;omega
  have hN0:N≠[]:=by
   obtain⟨r,hr⟩:=iV h0;rw[hN,hr];simp
  have hwalk:=x134 g hg gv hgv H0 (g.length+1) 0 [] [] (Int.le_refl _) (by omega) (by have:=ql g;omega) (by rw[hvis];exact hNl);have hc:aB An FF 112 (some 12) 134 (m6 H0.length 0) ⟨[],H0++dn gv H0.length [] []⟩=some (.tuple [],⟨[],H0++dn gv H0.length (da g (g.length+1) 0 ([],[])).1 N⟩):=by
   rw[cf rfl (ve _ _) hwalk,fk rfl,hvis]
  generalize (da g (g.length+1) 0 ([],[])).1=met at hc;have e5:(dn gv H0.length met N)[5]?=some (.arr N.length 1 (N.flatMap aX) 0):=by
   simp only[dn,sd,hN0,if_false,List.getElem?_cons_succ,List.getElem?_cons_zero]
  have hrev:=x136 (H0++dn gv H0.length met N) (H0.length+5) N.length N (by rw[gA,e5]) (by omega);have hc2:aB An FF 112 (some 14) 136 [.ref (.g (H0.length+5)) N.length 0 N.length] ⟨[],H0++dn gv H0.length met N⟩=some (.tuple [],⟨[],(H0++dn gv H0.length met N).set (H0.length+5) (.arr N.length 1 (N.reverse.flatMap aX) 0)⟩):=by
   rw[cf rfl rfl hrev,fk rfl]
  have e3:(dn gv H0.length met N)[3]?=some (.var 1 [.ref (.g (H0.length+5)) N.length 0 N.length] 0):=by
   simp only[dn,jM,hN0,if_false,List.getElem?_cons_succ,List.getElem?_cons_zero]
  have e3':∀o,((dn gv H0.length met N).set 5 o)[3]?=some (.var 1 [.ref (.g (H0.length+5)) N.length 0 N.length] 0):=λo=>by
   simp only[dn,jM,hN0,if_false,List.set_cons_succ,List.getElem?_cons_succ,List.getElem?_cons_zero]
  refine⟨.ref (.g (H0.length+5)) N.length 0 N.length,(dn gv H0.length met N).set 5 (.arr N.length 1 (N.reverse.flatMap aX) 0),?_,.inr ⟨H0.length+5,N.length,0,?_,?_⟩⟩
  ·refine aL rfl Try.func112 s112 (Nat.le_of_ble_eq_true rfl) (λQ hqr hqn=>?_)
   rw[show ∀a,cin (An.pure 112) a=a from λ_=>rfl];simp only[aO,Nat.reduceAdd,c112]
   repeat' (first
   |with_reducible (first|refine ai ?_|refine ar ?_|refine ax rfl ?_)
   |(with_reducible (refine ah (λK hK=>?_);(first|refine Ex ?_|refine Ey ?_|refine t112r3 ?_|refine t112r4 ?_|refine t112r5 ?_|refine t112r6 ?_|refine t112r7 ?_));(try simp only[SS,Nat.reduceEqDiff,ap,Nat.reduceAdd,lenS,bF,ay,cz,List.all_cons,List.all_nil,Bool.and_self,ce,kL,gA,nM,ot,p4,iK,iM,iI,iN,iL,iJ,pR,pS,jE,gQ,fD,List.append_assoc,List.length_append,List.set_cons_succ,List.set_cons_zero,cn,eV,mmX,dK,ye (x:=gv) hgv.cells hgv.esc,hgv.len]))
   |(revert hK;intro hK;(first|refine And.intro ?_ ?_|intro _|omega|(with_reducible refine hK _ ?_;clear hK K))))
   refine mQ hc ?_;refine hK _ ?_;clear hK K
   repeat' (first
   |with_reducible refine aF ?_
   |(with_reducible (first|(refine ah (λK hK=>?_);(first|refine t112r8 ?_|refine t112r9 ?_))|refine hqr _ ?_);(try simp only[SS,r112,aQ,ak,aD,am,lH,ce,gA,e3,e3',hc2,ot]))
   |(with_reducible refine hK _ ?_;clear hK K))
  ·simp only[ho,List.length_reverse]
  ·rw[gA,←ho,List.getElem?_set_self]
   exact(List.getElem?_eq_some_iff.1 e5).1
def bO (g:List (List Int)):List Bool:=(List.range g.length).map λ(i:Nat)=>decide ((i:Int)∈ord g)
theorem x84 (g:List (List Int)) (hg:Sm g) (gv:CV) (hgv:IsRows gv g):∃H',FF 84 [gv] []=some (mC bS 1 (bO g),H'):=by
 rw[ko (show An.pure 84=true from rfl) hgv];simp only[cans,aG,az];clear hgv gv;have hgv:=IsRows.of g;have hcv:=fH g;generalize fo g=gv at hgv hcv ⊢;obtain⟨v,T,h1,h2⟩:=x112 g hg gv hgv [];simp only[List.nil_append] at h1 h2
 refine⟨T,?_⟩
 have hol:=qS g;have hgl:=hg.1;have hmk:=λm=>we (j:=128) (sz:=1) (b:=1) (z:=[.bool false]) (k:=.i64) (n:=g.length) (m:=m) rfl (by omega) (by omega);have hc:∀L,aB An FF 84 (some 10) 112 [gv] ⟨L,[]⟩=some (v,⟨L,T⟩):=by
  intro L;rw[cf rfl (by simp only[List.all_cons,List.all_nil,dQ hgv.esc,Bool.and_self]) h1];rcases h2 with⟨_,rfl⟩|⟨n,gn,vl,rfl,_⟩<;>rfl
 have hsetL:∀j o,bi ⟨[],[]⟩ j o=⟨cF [] j o,[]⟩:=λ_ _=>rfl;refine aL rfl Try.func84 s84 (Nat.le_of_ble_eq_true rfl) (λQ hqr hqn=>?_);rw[bf (show An.pure 84=true from rfl) (by simp only[cans,aG,az,aC,aH,hcv])];simp only[aO,Nat.reduceAdd,c84]
 repeat' (first
 |with_reducible (first|refine ai ?_|refine aj (id:=0) (λQ0 hn0 hx0 hr0 ho0=>?_))
 |(with_reducible (refine ah (λK hK=>?_);(first|refine t84r0 ?_|refine t84r1 ?_|refine t84r2 ?_));(try simp only[SS,Nat.reduceEqDiff,lenS,hgv.len,hmk,hsetL,hc,h2.len,jw]))
 |(with_reducible refine hK _ ?_;clear hK K))
 refine aU (λk s=>∃(d t:List Int) (c:List Bool) (gn:Nat) (ML:List (Nat×HO)),ord g=d++t∧k=t.length∧c.length=g.length∧(∀j:Nat,j<g.length→c[j]?=some (decide ((j:Int)∈d))) ∧
  s=⟨[(3,.ref (.l 128) gn 0 g.length),(10,v),(11,.int .i64 (ord g).length),(12,.int .i64 d.length)],⟨ML,T⟩⟩∧aK ML 128=some (.arr gn 1 (c.flatMap bS) 0)) _ ⟨[],ord g,List.replicate g.length false,_,_,rfl,rfl,by simp,λj hj=>by simp[hj],rfl,rfl⟩ ?_
 rintro k s ⟨d,t,c,gn,ML,h3,rfl,hc1,hc2,rfl,hML⟩ QL0 hnL0 hxL0 hrL0;have hlen:=congrArg List.length h3;simp only[List.length_append] at hlen
 cases t with
 |nil=>
  simp only[List.length_nil] at hlen;simp only[CZ]
  repeat' (first
  |with_reducible (first|refine ax rfl ?_|refine aN ?_|refine aF ?_|refine hx0 _ ?_|refine hxL0 _ _ ?_)
  |(with_reducible (first|(refine ah (λK hK=>?_);(first|refine t84r3 ?_|refine t84r7 ?_))|refine hqr _ ?_);(try simp only[SS,Nat.reduceEqDiff,r84,aQ,ak,aD,am,dq,bV,Nat.sub_self,hML]))
  |(revert hK;intro hK;(first|refine And.intro ?_ ?_|intro _|omega|(with_reducible refine hK _ ?_;clear hK K))))
  rw[List.append_nil] at h3;have hcr:c=bO g:=by
   refine List.ext_getElem? λj=>?_
   by_cases hj:j<g.length
   ·rw[hc2 j hj,bO,List.getElem?_map,List.getElem?_range hj,h3];rfl
   ·rw[List.getElem?_eq_none (by omega),List.getElem?_eq_none (by simp[bO];omega)]
  have hrl:(bO g).length=g.length:=by simp[bO]
  rw[hcr];rw[mC,hrl,List.take_of_length_le (by rw[bC jl,hrl];omega)]
 |cons a t=>
  simp only[List.length_cons] at hlen;have hal:(ord g)[d.length]?=some a:=by rw[h3];simp
  have har:=((cu g a).1 (List.mem_of_getElem? hal)).range;obtain⟨p,hp1,hp2⟩:=h2.at hal (k:=.i64);have hw:IntKind.i64.wrap ((d.length:Int)+1)=d.length+1:=wI (by omega) (by omega);have hi:bd 1 (.ref (.l 128) gn 0 g.length) (.int .i64 a)=some (.ptr (.l 128) gn a.toNat):=by
   rw[bD,if_pos ⟨har.1,by omega⟩];simp
  have hs:stX 1 ⟨ML,T⟩ (.ptr (.l 128) gn a.toNat) (.bool true)=some ⟨cF ML 128 (.arr gn 1 ((c.set a.toNat true).flatMap bS) 0),T⟩:=by
   rw[lK (by exact hML) (by rw[kN];omega) rfl rfl,ou];rfl
  simp only[CZ]
  repeat' (first
  |with_reducible (first|refine ar ?_|refine au rfl ?_|refine aj (id:=1) (λQ1 hn1 hx1 hr1 ho1=>?_)|refine hn1 _ ?_)
  |(with_reducible ((first|refine ah (λK hK=>?_)|refine aI (λK hK=>?_));(first|refine t84r3 ?_|refine t84r4 ?_|refine t84r5 ?_|refine t84r6 ?_));(try simp only[SS,Nat.reduceEqDiff,hp1,hp2,hi,hs,hw]))
  |(revert hK;intro hK;(first|refine And.intro ?_ ?_|intro _|omega|(with_reducible refine hK _ ?_;clear hK K))))
  refine hnL0 t.length _ (by simp) ⟨d++[a],t,c.set a.toNat true,gn,cF ML 128 (.arr gn 1 ((c.set a.toNat true).flatMap bS) 0),by simp[h3],rfl,by simp[hc1],λj hj=>?_,by simp,by rw[aq,if_pos rfl]⟩;rw[List.getElem?_set]
  by_cases hja:a.toNat=j
  ·rw[if_pos hja,if_pos (by omega)]
   have:(j:Int)=a:=by omega
   simp[this]
  ·rw[if_neg hja,hc2 j hj]
   have:¬(j:Int)=a:=by omega
   simp[this]
end Go.Cm
