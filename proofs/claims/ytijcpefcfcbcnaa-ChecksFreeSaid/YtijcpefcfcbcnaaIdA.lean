import Derived.Test.YtijcpefcfcbcnaaGrA
import Derived.Test.YtijcpefcfcbcnaaIyD
import Derived.Test.YtijcpefcfcbcnaaIzA
set_option linter.unusedSimpArgs false
set_option linter.unusedVariables false
namespace Go.Cm
open Go.Proofs Go.Gr
theorem fH (g:List (List Int)):can (fo g)=fo g:=rowE.can_sl g
theorem rE:∀ (cs:List CV) (i:Nat),(cans cs)[i]?=(cs[i]?).map can
 |[],_=>rfl
 |_::_,0=>rfl
 |_::cs,i+1=>by simpa[cans] using rE cs i
theorem IsRows.can {v:CV}{g:List (List Int)}(h:IsRows v g):can v=fo g:=by
 obtain⟨cs,rfl,h1,h2,h3⟩:=h.ex
 have:cans cs=g.flatMap fun r=>[sl aX r]:=by
  refine List.ext_getElem? fun i=>?_
  rw[rE]
  by_cases hi:i<g.length
  ·obtain⟨w,hw,hw2⟩:=h2 i g[i] (List.getElem?_eq_getElem hi)
   rw[hw]
   have h4:=dA (e:=fun r:List Int=>[sl aX r]) (sz:=1) (off:=0) (fun _=>rfl) (List.getElem?_eq_getElem hi) (by omega)
   rw[Nat.mul_one,Nat.add_zero] at h4
   rw[h4]
   rcases hw2 with rfl|⟨hr,rfl⟩
   ·simp only[Option.map_some,intE.can_sl];rfl
   ·rw[hr];rfl
  ·rw[List.getElem?_eq_none (by omega),List.getElem?_eq_none (by rw[bC (sz:=1) (fun _=>rfl)];omega)];rfl
 simp only[Cm.can,this,fo,sl]
theorem ko {k:FuncId}{v:CV}{g:List (List Int)}{rest:List CV}{H:List HO}(hp:An.pure k=true) (h:IsRows v g):FF k (v::rest) H=FF k (fo g::cans rest) H:=by
 refine(tj (P:=Try.prog) (A:=An) (E:=EE)).trans ?_
 rw[hp]
 show FF k (cans (v::rest)) H=_
 simp only[cans,h.can]
def Sm (g:List (List Int)):Prop:=g.length≤1048576∧∀ r ∈ g,r.length≤17592186044416
theorem x135 (g:List (List Int)) (hg:Sm g) (gv:CV) (hgv:IsRows gv g) (x:Int) (h0:0≤x) (h1:x<g.length):FF 135 [gv,.int .i64 x] []=some (eA aX 1 (ins g x),[]):=by
 rw[ko (show An.pure 135=true from rfl) hgv]
 simp only[cans,aG,az]
 clear hgv gv
 have hgv:=IsRows.of g
 have hcv:=fH g
 generalize fo g=gv at hgv hcv ⊢
 obtain⟨r,hr⟩:∃ r,g[x.toNat]?=some r:=⟨_,List.getElem?_eq_getElem (by omega)⟩
 have hrl:=hg.2 r (List.mem_of_getElem? hr)
 have hins:ins g x=r.filter fun(y:Int)=>decide (0≤y∧y<g.length):=by
  simp only[ins,List.getD_eq_getElem?_getD,hr,Option.getD_some]
 obtain⟨w,tl,hw1,hw2⟩:=hgv.idx h0 hr (k:=.i64)
 refine aL rfl Try.func135 s135 (Nat.le_of_ble_eq_true rfl) (fun Q hqr hqn=>?_)
 rw[bf (show An.pure 135=true from rfl) (by simp only[cans,aG,az,aC,aH,hcv])]
 simp only[aO,Nat.reduceAdd,c135]
 repeat' (first
 |with_reducible (first|refine ai ?_|refine aj (id:=0) (fun Q0 hn0 hx0 hr0 ho0=>?_))
 |(with_reducible (refine ah (fun K hK=>?_);(first|refine t135r0 ?_|refine t135r1 ?_|refine t135r2 ?_));(try simp only[SS,Nat.reduceEqDiff,dw,lenS,hw1,(hw2 []).len]))
 |(revert hK;intro hK;(with_reducible refine hK _ ?_;clear hK K)))
 refine aU (fun n s=>∃ d t v m,r=d++t∧n=t.length∧s=⟨[(0,gv),(5,v),(11,w),(12,.int .i64 r.length),(13,.int .i64 d.length)],m⟩∧m.H=[]∧OwnE aX 1 m 448 v (d.filter fun(y:Int)=>decide (0≤y∧y<g.length))) _ ⟨[],r,.nil,_,rfl,rfl,rfl,rfl,.nil⟩ ?_
 rintro n s ⟨d,t,v,m,h2,rfl,rfl,hH,hO⟩ QL0 hnL0 hxL0 hrL0
 have hlen:=congrArg List.length h2
 simp only[List.length_append] at hlen
 cases t with
 |nil=>
  simp only[List.length_nil] at hlen
  simp only[tE]
  repeat' (first
  |with_reducible (first|refine ax rfl ?_|refine aN ?_|refine aF ?_|refine hx0 _ ?_|refine hxL0 _ _ ?_)
  |(with_reducible (first|(refine ah (fun K hK=>?_);(first|refine EL ?_|refine t135r8 ?_))|refine hqr _ ?_);(try simp only[SS,Nat.reduceEqDiff,cD,r135,aQ,ak,aD,am]))
  |(revert hK;intro hK;(first|refine And.intro ?_ ?_|intro _|omega|(with_reducible refine hK _ ?_;clear hK K))))
  rw[List.append_nil] at h2
  subst h2
  refine hO.ret dB fun m' hm'=>?_
  simp only[gx,Option.map_some,aJ,hins,hm',hH,and_self]
 |cons a t=>
  simp only[List.length_cons] at hlen
  simp only[tE]
  have hw:IntKind.i64.wrap ((d.length:Int)+1)=d.length+1:=wI (by omega) (by omega)
  have hrd:r[d.length]?=some a:=by rw[h2];simp
  obtain⟨ML,MH⟩:=m
  simp only at hH
  subst hH
  obtain⟨p,hp1,hp2⟩:=(hw2 []).at hrd (k:=.i64)
  repeat' (first
  |with_reducible (first|refine ar ?_|refine au rfl ?_|refine bc rfl ?_|refine bn rfl ?_|refine bx ?_|refine aj (id:=1) (fun Q1 hn1 hx1 hr1 ho1=>?_)|refine hn1 _ ?_)
  |(with_reducible ((first|refine ah (fun K hK=>?_)|refine aI (fun K hK=>?_));(first|refine EL ?_|refine t135r4 ?_|refine t135r5 ?_|refine t135r6 ?_|refine EM ?_));(try simp only[SS,Nat.reduceEqDiff,ap,dj,ef,lenS,bg,cd,bF,ay,cz,List.all_cons,List.all_nil,Bool.and_self,hp1,hp2,hw,hgv.len]))
  |(revert hK;intro hK;(first|refine And.intro ?_ ?_|intro _|omega|(with_reducible refine hK _ ?_;clear hK K))))
  ·have hfl:=List.length_filter_le (fun(y:Int)=>decide (0≤y∧y<g.length)) d
   refine(hO.keepS (i:=432) (by decide)).app8 (ys:=[a]) dB (by simp only[cU,ba,if_true,dz];rfl) rfl (by decide) (by simp only[List.length_cons,List.length_nil];omega) fun v' m' hO' hH' hf=>?_
   refine hK _ ?_
   clear hK K
   repeat' (first
   |with_reducible refine hn1 _ ?_
   |(with_reducible (refine aI (fun K hK=>?_);refine EM ?_);(try simp only[SS,Nat.reduceEqDiff,hw]))
   |(revert hK;intro hK;(with_reducible refine hK _ ?_;clear hK K)))
   refine hnL0 t.length _ (by simp) ⟨d++[a],t,v',m',by simp[h2],rfl,by simp,by rw[hH',ik],?_⟩
   rw[List.filter_append,List.filter_cons_of_pos (by simp;omega)]
   exact hO'
  all_goals
   refine hnL0 t.length _ (by simp) ⟨d++[a],t,v,⟨ML,[]⟩,by simp[h2],rfl,by simp,rfl,?_⟩
   rw[List.filter_append,List.filter_cons_of_neg (by simp;omega),List.filter_nil,List.append_nil]
   exact hO
theorem k135 (g:List (List Int)) (hg:Sm g) (gv:CV) (hgv:IsRows gv g) (x:Int) (h0:0≤x) (h1:x<g.length) {fid:FuncId}{d:Tmp}{m:Mem}{K:CV×Mem→Prop}(hgl:(An.glob fid).contains d=false)
  (hK:∀ v m',OwnE aX 1 m' (16*d) v (ins g x)→m'.H=m.H→(∀ i,i≠16*d→aK m'.L i=aK m.L i)→K (v,m')):Obt (aB An FF fid (some d) 135 [gv,.int .i64 x] m) K:=by
 rw[el (x135 g hg gv hgv x h0 h1) rfl (by simp only[List.all_cons,List.all_nil,dQ hgv.esc,fW,Bool.and_self]) (by simp only[noGs,hgv.noG,eo,Bool.and_self]) (kU fY _),aJ]
 obtain⟨v,m',h1,h2,h3,h4⟩:=gW (e:=aX) (sz:=1) (m:=m) (l:=ins g x) (d:=d) hgl
 rw[h1]
 exact hK v m' h2 h3 h4
end Go.Cm
