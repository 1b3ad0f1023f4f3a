import Derived.Test.YtijcpefcfcbcnaaIvA
import Derived.Test.YtijcpefcfcbcnaaIxA
import Derived.Test.YtijcpefcfcbcnaaCxH
set_option linter.unusedSimpArgs false
set_option linter.unusedVariables false
namespace Go.Cm
open Go.Proofs Go.Ir Go.Gr
theorem slcX_m {m:Mem}{j gn n k:Nat}{cs:List CV}{vl:Nat}(hm:aK m.L j=some (.arr gn 1 cs vl)) (hk:k≤n):sJ 1 (.ref (.l j) gn 0 n) none (some (.int .i64 k)) none m=some (.ref (.l j) gn 0 k):=by
 have hb:fp n none (some (.int .i64 k))=some (0,k):=by simp[fp,eH,hk]
 simp only[sJ,qN,cK,hb,Mem.get,hm,and_self,if_true,Nat.zero_mul,Nat.zero_add,Nat.sub_zero]
def OwnP (js:List Nat) (m:Mem) (v:CV) (l:List Int):Prop:=(l=[]∧v=.nil)∨∃j∈js,∃g cs,v=.ref (.l j) g 0 l.length∧aK m.L j=some (.arr g 1 cs 0)∧cs.take l.length=l.flatMap aX
theorem OwnE.own {j:Nat}{js:List Nat}(hj:j∈js) {m:Mem}{v:CV}{l:List Int}(h:OwnE aX 1 m j v l):OwnP js m v l:=by
 rcases h with h|⟨_,g,h1,h2⟩
 ·exact .inl h
 ·exact .inr ⟨j,hj,g,_,h1,h2,by rw[List.take_of_length_le (by rw[dL];exact Nat.le_refl _)]⟩
theorem OwnP.len {js:List Nat}{m:Mem}{v:CV}{l:List Int}(h:OwnP js m v l):cK v=some l.length:=by
 rcases h with⟨rfl,rfl⟩|⟨j,_,g,cs,rfl,_⟩<;>rfl
theorem OwnP.keep {js:List Nat}{m m':Mem}{v:CV}{l:List Int}(h:OwnP js m v l) (hm:∀j∈js,aK m'.L j=aK m.L j):OwnP js m' v l:=by
 rcases h with h|⟨j,hj,g,cs,h1,h2,h3⟩
 ·exact .inl h
 ·exact .inr ⟨j,hj,g,cs,h1,by rw[hm j hj];exact h2,h3⟩
theorem OwnP.last {js:List Nat}{m:Mem}{v:CV}{l:List Int}{a:Int}(h:OwnP js m v (l++[a])) :
  ∃pt v',bd 1 v (.int .i64 l.length)=some pt∧ld1 m pt=some (.int .i64 a)∧sJ 1 v none (some (.int .i64 l.length)) none m=some v'∧OwnP js m v' l:=by
 rcases h with⟨h,_⟩|⟨j,hj,g,cs,rfl,h2,h3⟩
 ·simp at h
 ·have hll:(l++[a]).length=l.length+1:=by simp
  rw[hll] at h3;have hcs:cs[l.length]?=some (.int .i64 a):=by
   have:=congrArg (λx=>x[l.length]?) h3;simp only[List.getElem?_take,if_pos (Nat.lt_succ_self l.length)] at this;rw[this,fX];simp
  refine⟨.ptr (.l j) g l.length,.ref (.l j) g 0 l.length,?_,?_,?_,.inr ⟨j,hj,g,cs,rfl,h2,?_⟩⟩
  ·rw[bD,if_pos ⟨by omega,by omega⟩];simp
  ·rw[eX,h2,bM,hcs]
  ·rw[hll];exact slcX_m h2 (by omega)
  ·have:=congrArg (List.take l.length) h3
   rw[List.take_take,Nat.min_eq_left (by omega)] at this;rw[this,List.flatMap_append,List.take_left' (by rw[dL])]
theorem OwnP.app {js:List Nat}{m:Mem}{v:CV}{l ys:List Int}(h:OwnP js m v l) {j b:Nat}{x:CV}{K:CV×Mem→Prop}(hj:j∈js) (hx:Cm.content m 1 x=some (ys.flatMap aX)) (hn:cK x=some ys.length)
  (hb:b≤8) (hl:l.length+ys.length≤17592186044416) (hK:∀v' m',OwnP js m' v' (l++ys)→m'.H=m.H→(∀i,i∉js→aK m'.L i=aK m.L i)→K (v',m')):Obt (ej false j 1 b v x m) K:=by
 rcases h with⟨rfl,rfl⟩|⟨j0,hj0,g,cs,rfl,h2,h3⟩
 ·exact OwnE.app8 (.inl ⟨rfl,rfl⟩) dB hx hn hb hl λv' m' h1 h2 h3=>hK v' m' (h1.own hj) h2 λi hi=>h3 i λe=>hi (e ▸ hj)
 ·have hsm:cN b (l.length+ys.length)=true:=by
   unfold cN sh;simp only[decide_eq_true_eq,Bool.and_eq_true]
   refine⟨by omega,by omega,?_⟩
   calc (l.length+ys.length)*b≤17592186044416*8:=Nat.mul_le_mul hl hb
    _≤140737488355328:=by decide
  rw[fP,hx,hn,h2,ea,if_pos ⟨by omega,hsm⟩,aJ];refine hK _ _ (.inr ⟨j0,hj0,g+1,_,by rw[List.length_append],by rw[ba,if_pos rfl],?_⟩) rfl λi hi=>by
   have:j0≠i:=λe=>hi (e ▸ hj0);rw[ba,if_neg this]
  simp only[List.drop_zero,Nat.mul_one,h3];rw[List.flatMap_append,List.take_of_length_le (by rw[List.length_append,dL,dL,List.length_append];omega)]
theorem RdI.con {v:CV}{l:List Int}(h:∀H,RdI H v l) (m:Mem):content m 1 v=some (l.flatMap aX)∧cK v=some l.length:=by
 refine⟨?_,(h []).len⟩
 rcases h [] with rfl|⟨rfl,rfl⟩|⟨n,g,vl,rfl,h2⟩
 ·exact tK dB
 ·rfl
 ·simp at h2
def fls (c:List Bool):Nat:=(c.filter λb=>!b).length
theorem Io:∀{c:List Bool}{i:Nat},c[i]?=some false→fls (c.set i true)+1=fls c
 |[],i,h=>by simp at h
 |b::c,0,h=>by
  simp only[List.getElem?_cons_zero,Option.some.injEq] at h;subst h;simp[fls]
 |b::c,i+1,h=>by
  simp only[List.getElem?_cons_succ] at h;have:=Io h
  cases b<;>simp only[fls,List.set_cons_succ,List.filter_cons,Bool.not_true,Bool.not_false,if_true,Bool.false_eq_true,if_false,List.length_cons] at this ⊢<;>omega
theorem fls_le (c:List Bool):fls c≤c.length:=List.length_filter_le _ _
set_option maxHeartbeats 2000000 in
theorem x24 (f:Cd) (hf:Sized f) (hB:∀x∈GS f,x.2.length≤1048576) (hw:(F0 f).length≤8388608) :
  ∃r,(∃H',r=((if bG f=true then mC bS 1 (G6 f) else CV.nil),H'))∧FF 24 [.agg (aZ f)] []=some r:=by
 have hkc:∀d m,aB An FF 24 (some d) 36 [.agg [sl ptC f.parts,.int .i64 f.values]] m=_:=λd m=>k36 f hf (fid:=24) (d:=d) (m:=m)
 cases hc:bG f with
 |false=>
  rw[hc,if_neg (by decide)] at hkc;refine bA rfl Try.func24 s24 (Nat.le_of_ble_eq_true rfl) (λQ hqr hqn=>?_);rw[bf (show An.pure 24=true from rfl) (by simp only[cans,aG,az,aC,aH,codeE.can])];simp only[aO,Nat.reduceAdd,c24]
  repeat' (first
  |with_reducible (first|refine ai ?_|refine ar ?_|refine au rfl ?_|refine ax rfl ?_|refine Gp rfl (λ_=>?_) (λ_=>?_)|refine bc rfl ?_|refine bn rfl ?_|refine Gz rfl (λ_=>?_) (λ_=>?_)|refine b6 ?_|refine aN ?_|refine aF ?_|refine Js ?_|refine bx ?_|refine aj (id:=0) (λQ0 hn0 hx0 hr0 ho0=>?_)|refine bl (id:=0) (λQ0 hn0 hx0 hr0 ho0=>?_)|refine hn0 _ ?_|refine hx0 _ ?_|refine hr0 _ ?_|refine ho0 _ _ (by decide) ?_|refine aj (id:=1) (λQ1 hn1 hx1 hr1 ho1=>?_)|refine bl (id:=1) (λQ1 hn1 hx1 hr1 ho1=>?_)|refine hn1 _ ?_|refine hx1 _ ?_|refine hr1 _ ?_|refine ho1 _ _ (by decide) ?_|refine hxL0 _ _ ?_|refine hrL0 _ ?_)
  |(with_reducible (first|((first|refine ah (λK hK=>?_)|refine aI (λK hK=>?_));(first|refine HC ?_|refine HD ?_|refine HF ?_|refine HG ?_|refine HI ?_|refine HJ ?_|refine HK ?_|refine HL ?_|refine HM ?_|refine HN ?_|refine Hj ?_|refine Hk ?_))|refine hqr _ ?_|refine hqn _ ?_);(try simp only[SS,Nat.reduceEqDiff,ap,Gf,Gh,Gi,Gg,dj,ef,bv,nN,Gq,aR,eE,aS,Nat.reduceMul,Nat.reduceAdd,bL,dw,bM,cB,bq,br,bI,fE,F7,jj,Bool.not_true,Bool.not_false,lenS,fe,F8,Ga,Gb,uR,Gn,Ge,q9,Gc,Gd,F9,F6,gE,dT,cD,dy,fP,iD,ea,eG,cU,dz,q7,Gk,bD,bg,be,bF,List.all_append,q6,ay,Nat.reduceLeDiff,Nat.zero_le,fB,cz,List.all_cons,List.all_nil,Bool.and_self,Bool.true_and,Bool.and_true,Ea,Gu,Gw,Gv,Gm,Gt,uc,sa,Gs,Gl,xL,decide_false,decide_true,Bool.false_or,Bool.true_or,Bool.or_false,Bool.or_true,Bool.false_eq_true,r24,aQ,ak,aD,am,dD,gI,nH,vV,GA,Gy,dq,bV,lH,xA,F2,Nat.zero_sub,Nat.sub_self,bz,eh,Ek,lI,F3,ro,bW,CV.int.injEq,aZ,hkc]))
  |(revert hK;intro hK;(first|refine And.intro ?_ ?_|(refine λ(h:(_:Bool)=_)=>?_;subst h)|intro _|omega|(with_reducible refine hK _ ?_;clear hK K))))
  exact⟨_,rfl⟩
 |true=>
  rw[hc,if_pos rfl] at hkc;have hfi:=l6 hc;obtain⟨n,hn⟩:∃n:Nat,f.values=(n:Int):=⟨f.values.toNat,by have:=hfi.values.1;omega⟩;have hn1:n≤65536:=by have:=hfi.values.2;omega
  have hnt:f.values.toNat=n:=by omega
  obtain⟨_,⟨l,rfl,hM⟩,hwa⟩:=x55 f hf (by omega) [];simp only[List.nil_append,List.length_nil] at hwa;have hmk:=λm=>we (j:=192) (sz:=1) (b:=1) (z:=[.bool false]) (k:=.i64) (n:=n) (m:=m) rfl (by omega) (by omega);have hca:∀L,aB An FF 24 (some 15) 55 [.agg [sl ptC f.parts,.int .i64 n]] ⟨L,[]⟩=some (adopt false 15 (.tuple [.map (.g 0) 1,eA aX 1 (F0 f)]) ⟨L,[.map 1 (esI .i64 l)]⟩):=λL=>by
   have:(CV.agg (aZ f))=.agg [sl ptC f.parts,.int .i64 n]:=by rw[aZ,hn]
   rw[←this,cf rfl rfl hwa];rfl
  have had:∀L,∃v L',adopt false 15 (.tuple [.map (.g 0) 1,eA aX 1 (F0 f)]) ⟨L,[.map 1 (esI .i64 l)]⟩=(.tuple [.map (.g 0) 1,v],⟨L',[.map 1 (esI .i64 l)]⟩)∧OwnP [242,704] ⟨L',[.map 1 (esI .i64 l)]⟩ v (F0 f)∧∀i,i≠242→aK L' i=aK L i:=λL=>by
   by_cases hwn:F0 f=[]
   ·exact⟨.nil,L,by rw[hwn];rfl,.inl ⟨hwn,rfl⟩,λ_ _=>rfl⟩
   ·refine⟨.ref (.l 242) (bj L 242) 0 (F0 f).length,cF L 242 (.arr (bj L 242) 1 ((F0 f).flatMap aX) 0),by rw[eA,if_neg hwn];rfl,.inr ⟨242,by simp,bj L 242,(F0 f).flatMap aX,rfl,by simp[aq],?_⟩,λi hi=>by simp[aq,Ne.symm hi]⟩
    rw[List.take_of_length_le (by rw[dL];exact Nat.le_refl _)]
  have hsetL:∀(L:List (Nat×HO)) (H:List HO) j o,bi ⟨L,H⟩ j o=⟨cF L j o,H⟩:=λ_ _ _ _=>rfl;rw[hn] at hkc;refine bA rfl Try.func24 s24 (Nat.le_of_ble_eq_true rfl) (λQ hqr hqn=>?_);rw[bf (show An.pure 24=true from rfl) (by simp only[cans,aG,az,aC,aH,codeE.can])];simp only[aO,Nat.reduceAdd,c24];rw[aZ,hn]
  repeat' (first
  |with_reducible (first|refine ai ?_|refine ar ?_|refine au rfl ?_|refine ax rfl ?_|refine Gp rfl (λ_=>?_) (λ_=>?_)|refine bc rfl ?_|refine bn rfl ?_|refine Gz rfl (λ_=>?_) (λ_=>?_)|refine b6 ?_|refine aN ?_|refine aF ?_|refine Js ?_|refine bx ?_|refine aj (id:=0) (λQ0 hn0 hx0 hr0 ho0=>?_)|refine bl (id:=0) (λQ0 hn0 hx0 hr0 ho0=>?_)|refine hn0 _ ?_|refine hx0 _ ?_|refine hr0 _ ?_|refine ho0 _ _ (by decide) ?_|refine aj (id:=1) (λQ1 hn1 hx1 hr1 ho1=>?_)|refine bl (id:=1) (λQ1 hn1 hx1 hr1 ho1=>?_)|refine hn1 _ ?_|refine hx1 _ ?_|refine hr1 _ ?_|refine ho1 _ _ (by decide) ?_|refine hxL0 _ _ ?_|refine hrL0 _ ?_)
  |(with_reducible (first|((first|refine ah (λK hK=>?_)|refine aI (λK hK=>?_));(first|refine HC ?_|refine HD ?_|refine HF ?_|refine HG ?_|refine HI ?_|refine HJ ?_|refine HK ?_|refine HL ?_|refine HM ?_|refine HN ?_|refine Hj ?_|refine Hk ?_))|refine hqr _ ?_|refine hqn _ ?_);(try simp only[SS,Nat.reduceEqDiff,ap,Gf,Gh,Gi,Gg,dj,ef,bv,nN,Gq,aR,eE,aS,Nat.reduceMul,Nat.reduceAdd,bL,dw,bM,cB,bq,br,bI,fE,F7,jj,Bool.not_true,Bool.not_false,lenS,fe,F8,Ga,Gb,uR,Gn,Ge,q9,Gc,Gd,F9,F6,gE,dT,cD,dy,fP,iD,ea,eG,cU,dz,q7,Gk,bD,bg,be,bF,List.all_append,q6,ay,Nat.reduceLeDiff,Nat.zero_le,fB,cz,List.all_cons,List.all_nil,Bool.and_self,Bool.true_and,Bool.and_true,Ea,Gu,Gw,Gv,Gm,Gt,uc,sa,Gs,Gl,xL,decide_false,decide_true,Bool.false_or,Bool.true_or,Bool.or_false,Bool.or_true,Bool.false_eq_true,r24,aQ,ak,aD,am,dD,gI,nH,vV,GA,Gy,dq,bV,lH,xA,F2,Nat.zero_sub,Nat.sub_self,bz,eh,Ek,lI,F3,ro,bW,CV.int.injEq,hkc,hmk,hsetL]))
  |(revert hK;intro hK;(first|refine And.intro ?_ ?_|(refine λ(h:(_:Bool)=_)=>?_;subst h)|intro _|omega|(with_reducible refine hK _ ?_;clear hK K))))
  rw[hca];obtain⟨v0,L0,e0,hO0,hk0⟩:=had (cF (cF [] 16 (HO.var (bj [] 16) [sl ptC f.parts,CV.int IntKind.i64 ↑n] 0)) 192 (HO.arr (bj [] 192) 1 (dM n [CV.bool false]) 0));rw[e0,aJ];simp only[dT,cV,List.getElem?_cons_zero,List.getElem?_cons_succ,aJ];refine hK _ ?_;clear hK K;have h192:aK L0 192=some (.arr (bj [] 192) 1 ((List.replicate n false).flatMap bS) 0):=by
   rw[hk0 192 (by decide),←jw];simp[aq]
  generalize bj [] 192=gn at h192;obtain⟨Hm,hHm⟩:∃Hm:List HO,Hm=[.map 1 (esI .i64 l)]:=⟨_,rfl⟩;rw[←hHm] at hO0 ⊢;have hlk:=λL (a:Int)=>fK (P:=Try.prog) (t:=3) (a:=a) (z:=.nil) (ok:=false) Try.underlying3 (jq (m:=⟨L,Hm⟩) (a:=0) (g:=1) (l:=esI .i64 l) (by rw[hHm];rfl));have hix:∀x:Int,0≤x→x<n→bd 1 (.ref (.l 192) gn 0 n) (.int .i64 x)=some (.ptr (.l 192) gn x.toNat):=λx h0 h1=>by
   rw[bD,if_pos ⟨h0,by omega⟩];simp
  repeat' (first
  |with_reducible (first|refine ai ?_|refine ar ?_|refine au rfl ?_|refine ax rfl ?_|refine Gp rfl (λ_=>?_) (λ_=>?_)|refine bc rfl ?_|refine bn rfl ?_|refine Gz rfl (λ_=>?_) (λ_=>?_)|refine b6 ?_|refine aN ?_|refine aF ?_|refine Js ?_|refine bx ?_|refine aj (id:=0) (λQ0 hn0 hx0 hr0 ho0=>?_)|refine bl (id:=0) (λQ0 hn0 hx0 hr0 ho0=>?_)|refine hn0 _ ?_|refine hx0 _ ?_|refine hr0 _ ?_|refine ho0 _ _ (by decide) ?_|refine aj (id:=1) (λQ1 hn1 hx1 hr1 ho1=>?_)|refine bl (id:=1) (λQ1 hn1 hx1 hr1 ho1=>?_)|refine hn1 _ ?_|refine hx1 _ ?_|refine hr1 _ ?_|refine ho1 _ _ (by decide) ?_|refine hxL0 _ _ ?_|refine hrL0 _ ?_)
  |(with_reducible (first|((first|refine ah (λK hK=>?_)|refine aI (λK hK=>?_));(first|refine HC ?_|refine HD ?_|refine HF ?_|refine HG ?_|refine HI ?_|refine HJ ?_|refine HK ?_|refine HL ?_|refine HM ?_|refine HN ?_|refine Hj ?_|refine Hk ?_))|refine hqr _ ?_|refine hqn _ ?_);(try simp only[SS,Nat.reduceEqDiff,ap,Gf,Gh,Gi,Gg,dj,ef,bv,nN,Gq,aR,eE,aS,Nat.reduceMul,Nat.reduceAdd,bL,dw,bM,cB,bq,br,bI,fE,F7,jj,Bool.not_true,Bool.not_false,lenS,fe,F8,Ga,Gb,uR,Gn,Ge,q9,Gc,Gd,F9,F6,gE,dT,cD,dy,fP,iD,ea,eG,cU,dz,q7,Gk,bD,bg,be,bF,List.all_append,q6,ay,Nat.reduceLeDiff,Nat.zero_le,fB,cz,List.all_cons,List.all_nil,Bool.and_self,Bool.true_and,Bool.and_true,Ea,Gu,Gw,Gv,Gm,Gt,uc,sa,Gs,Gl,xL,decide_false,decide_true,Bool.false_or,Bool.true_or,Bool.or_false,Bool.or_true,Bool.false_eq_true,r24,aQ,ak,aD,am,dD,gI,nH,vV,GA,Gy,dq,bV,lH,xA,F2,Nat.zero_sub,Nat.sub_self,bz,eh,Ek,lI,F3,ro,bW,CV.int.injEq]))
  |(revert hK;intro hK;(first|refine And.intro ?_ ?_|(refine λ(h:(_:Bool)=_)=>?_;subst h)|intro _|omega|(with_reducible refine hK _ ?_;clear hK K))))
  refine aU (λk s=>∃(c:List Bool) (todo:List Int) (v:CV) (L:List (Nat×HO)) (sl:List (Nat×CV)),k=todo.length+1048576*fls c∧k≤(F0 f).length+1048576*n∧c.length=n∧(∀i:Nat,c[i]?=some true→Need f i)∧(∀id∈todo,Need f id) ∧
    (∀id∈F0 f,id∈todo∨c[id.toNat]?=some true)∧(∀i:Nat,c[i]?=some true→∀b∈byL (GS f) i,b∈todo∨c[b.toNat]?=some true) ∧
    aK L 192=some (.arr gn 1 (c.flatMap bS) 0)∧OwnP [242,704] ⟨L,Hm⟩ v todo ∧
    s=⟨sl,⟨L,Hm⟩⟩∧ac sl 3=.ref (.l 192) gn 0 n∧ac sl 4=.map (.g 0) 1∧ac sl 5=v) _
   ⟨List.replicate n false,F0 f,v0,L0,_,rfl,by have:=fls_le (List.replicate n false);rw[List.length_replicate] at this;have:=Nat.mul_le_mul_left 1048576 this;omega,by simp,λi hi=>by
    rw[List.getElem?_replicate] at hi;split at hi<;>simp at hi,λid hid=>.base hid,λid hid=>.inl hid,λi hi=>by
    rw[List.getElem?_replicate] at hi;split at hi<;>simp at hi,h192,hO0,rfl,rfl,rfl,rfl⟩ ?_
  rintro k s ⟨c,todo,v,L,sl0,rfl,hkM,hcl,hs1,hs2,hs3,hs4,hL,hO,rfl,hS3,hS4,hS5⟩ QL0 hnL0 hxL0 hrL0;simp only[c24l0];rcases List.eq_nil_or_concat todo with rfl|⟨td,a,rfl⟩
  ·have hlen:=hO.len
   have hcn:c=G6 f:=by
    rw[G6,hnt];refine List.ext_getElem? λi=>?_
    by_cases hi:i<n
    ·rw[List.getElem?_map,List.getElem?_range hi]
     simp only[Option.map_some];have hci:c[i]?=some c[i]:=List.getElem?_eq_getElem (by omega);rw[hci]
     congr 1
     have full:∀id,Need f id→c[id.toNat]?=some true:=by
      intro id h
      induction h with
      |base h=>rcases hs3 _ h with h|h;cases h;exact h
      |step h h2 ih=>
       rename_i i b;have h0:=h.lt hfi;have e:((i.toNat:Nat):Int)=i:=by omega
       rcases hs4 i.toNat ih b (by rw[e];exact h2) with h|h
       ·cases h
       ·exact h
     cases hb:c[i] with
     |true=>
      have:=hs1 i (by rw[hci,hb]);simp[F5,this]
     |false=>
      have:¬Need f i:=λh=>by
       have:=full _ h;rw[Int.toNat_natCast,hci,hb] at this;simp at this
      simp[F5,this]
    ·rw[List.getElem?_eq_none (by omega),List.getElem?_eq_none (by simp;omega)]
   simp only[List.length_nil] at hlen;have hng:¬(0:Int)<((0:Nat):Int):=by decide
   subst hcn
   repeat' (first
   |with_reducible (first|refine ai ?_|refine ar ?_|refine au rfl ?_|refine ax rfl ?_|refine Gp rfl (λ_=>?_) (λ_=>?_)|refine bc rfl ?_|refine bn rfl ?_|refine Gz rfl (λ_=>?_) (λ_=>?_)|refine b6 ?_|refine aN ?_|refine aF ?_|refine Js ?_|refine bx ?_|refine aj (id:=0) (λQ0 hn0 hx0 hr0 ho0=>?_)|refine bl (id:=0) (λQ0 hn0 hx0 hr0 ho0=>?_)|refine hn0 _ ?_|refine hx0 _ ?_|refine hr0 _ ?_|refine ho0 _ _ (by decide) ?_|refine aj (id:=1) (λQ1 hn1 hx1 hr1 ho1=>?_)|refine bl (id:=1) (λQ1 hn1 hx1 hr1 ho1=>?_)|refine hn1 _ ?_|refine hx1 _ ?_|refine hr1 _ ?_|refine ho1 _ _ (by decide) ?_|refine hxL0 _ _ ?_|refine hrL0 _ ?_)
   |(with_reducible (first|((first|refine ah (λK hK=>?_)|refine aI (λK hK=>?_));(first|refine HC ?_|refine HD ?_|refine HF ?_|refine HG ?_|refine HI ?_|refine HJ ?_|refine HK ?_|refine HL ?_|refine HM ?_|refine HN ?_|refine Hj ?_|refine Hk ?_))|refine hqr _ ?_|refine hqn _ ?_);(try simp only[SS,Nat.reduceEqDiff,ap,Gf,Gh,Gi,Gg,dj,ef,bv,nN,Gq,aR,eE,aS,Nat.reduceMul,Nat.reduceAdd,bL,dw,bM,cB,bq,br,bI,fE,F7,jj,Bool.not_true,Bool.not_false,lenS,fe,F8,Ga,Gb,uR,Gn,Ge,q9,Gc,Gd,F9,F6,gE,dT,cD,dy,fP,iD,ea,eG,cU,dz,q7,Gk,bD,bg,be,bF,List.all_append,q6,ay,Nat.reduceLeDiff,Nat.zero_le,fB,cz,List.all_cons,List.all_nil,Bool.and_self,Bool.true_and,Bool.and_true,Ea,Gu,Gw,Gv,Gm,Gt,uc,sa,Gs,Gl,xL,decide_false,decide_true,Bool.false_or,Bool.true_or,Bool.or_false,Bool.or_true,Bool.false_eq_true,r24,aQ,ak,aD,am,dD,gI,nH,vV,GA,Gy,dq,bV,lH,xA,F2,Nat.zero_sub,Nat.sub_self,bz,eh,Ek,lI,F3,ro,bW,CV.int.injEq,hlen,hng,hL,hS3,hS4,hS5]))
   |(revert hK;intro hK;(first|refine And.intro ?_ ?_|(refine λ(h:(_:Bool)=_)=>?_;subst h)|intro _|omega|(with_reducible refine hK _ ?_;clear hK K))))
   refine⟨_,?_,rfl⟩
   rw[Nat.mul_one,List.take_of_length_le (by rw[bC jl];omega),mC,hcl]
  ·simp only[List.concat_eq_append] at *
   have hlen:=hO.len;obtain⟨pt,v1,p1,p2,p3,hO1⟩:=hO.last;have hll:(td++[a]).length=td.length+1:=by simp
   rw[hll] at hlen;have hnd:=hs2 a (by simp);have hal:=hnd.lt hfi;have hg1:(0:Int)<((td.length+1:Nat):Int):=by omega
   have hw1:IntKind.i64.wrap (((td.length+1:Nat):Int) - 1)=((td.length:Nat):Int):=by
    rw[wI (by omega) (by omega)];omega
   have hix1:=hix a hal.1 (by omega);obtain⟨b,hb⟩:∃b,c[a.toNat]?=some b:=⟨_,List.getElem?_eq_getElem (by omega)⟩;have hcb:(c.flatMap bS)[a.toNat]?=some (.bool b):=by rw[fI,hb];rfl
   cases b with
   |true=>
    repeat' (first
    |with_reducible (first|refine ai ?_|refine ar ?_|refine au rfl ?_|refine ax rfl ?_|refine Gp rfl (λ_=>?_) (λ_=>?_)|refine bc rfl ?_|refine bn rfl ?_|refine Gz rfl (λ_=>?_) (λ_=>?_)|refine b6 ?_|refine aN ?_|refine aF ?_|refine Js ?_|refine bx ?_|refine aj (id:=0) (λQ0 hn0 hx0 hr0 ho0=>?_)|refine bl (id:=0) (λQ0 hn0 hx0 hr0 ho0=>?_)|refine hn0 _ ?_|refine hx0 _ ?_|refine hr0 _ ?_|refine ho0 _ _ (by decide) ?_|refine aj (id:=1) (λQ1 hn1 hx1 hr1 ho1=>?_)|refine bl (id:=1) (λQ1 hn1 hx1 hr1 ho1=>?_)|refine hn1 _ ?_|refine hx1 _ ?_|refine hr1 _ ?_|refine ho1 _ _ (by decide) ?_|refine hxL0 _ _ ?_|refine hrL0 _ ?_)
    |(with_reducible (first|((first|refine ah (λK hK=>?_)|refine aI (λK hK=>?_));(first|refine HC ?_|refine HD ?_|refine HF ?_|refine HG ?_|refine HI ?_|refine HJ ?_|refine HK ?_|refine HL ?_|refine HM ?_|refine HN ?_|refine Hj ?_|refine Hk ?_))|refine hqr _ ?_|refine hqn _ ?_);(try simp only[SS,Nat.reduceEqDiff,ap,Gf,Gh,Gi,Gg,dj,ef,bv,nN,Gq,aR,eE,aS,Nat.reduceMul,Nat.reduceAdd,bL,dw,bM,cB,bq,br,bI,fE,F7,jj,Bool.not_true,Bool.not_false,lenS,fe,F8,Ga,Gb,uR,Gn,Ge,q9,Gc,Gd,F9,F6,gE,dT,cD,dy,fP,iD,ea,eG,cU,dz,q7,Gk,bD,bg,be,bF,List.all_append,q6,ay,Nat.reduceLeDiff,Nat.zero_le,fB,cz,List.all_cons,List.all_nil,Bool.and_self,Bool.true_and,Bool.and_true,Ea,Gu,Gw,Gv,Gm,Gt,uc,sa,Gs,Gl,xL,decide_false,decide_true,Bool.false_or,Bool.true_or,Bool.or_false,Bool.or_true,Bool.false_eq_true,r24,aQ,ak,aD,am,dD,gI,nH,vV,GA,Gy,dq,bV,lH,xA,F2,Nat.zero_sub,Nat.sub_self,bz,eh,Ek,lI,F3,ro,bW,CV.int.injEq,hlen,hg1,hw1,p1,p2,p3,hix1,hL,hcb,hS3,hS4,hS5]))
    |(revert hK;intro hK;(first|refine And.intro ?_ ?_|(refine λ(h:(_:Bool)=_)=>?_;subst h)|intro _|omega|(with_reducible refine hK _ ?_;clear hK K))))
    refine hnL0 (td.length+1048576*fls c) _ (by rw[hll];omega) ⟨c,td,v1,L,_,rfl,by rw[hll] at hkM;omega,hcl,hs1,λid h=>hs2 id (by simp[h]),λid h=>?_,λi h b hb2=>?_,hL,hO1,rfl,rfl,rfl,rfl⟩
    ·rcases hs3 id h with h2|h2
     ·rcases List.mem_append.1 h2 with h3|h3
      ·exact .inl h3
      ·simp only[List.mem_singleton] at h3;rw[h3];exact .inr hb
     ·exact .inr h2
    ·rcases hs4 i h b hb2 with h2|h2
     ·rcases List.mem_append.1 h2 with h3|h3
      ·exact .inl h3
      ·simp only[List.mem_singleton] at h3;rw[h3];exact .inr hb
     ·exact .inr h2
   |false=>
    have hsp:List.take a.toNat (c.flatMap bS)++CV.bool true::List.drop (a.toNat+1) (c.flatMap bS)=(c.set a.toNat true).flatMap bS:=by
     have:=gd (e:=bS) (sz:=1) (new:=[.bool true]) (off:=0) jl hb (a':=true) rfl (by decide);simpa[ay] using this
    have hbl:(c.flatMap bS).length=n:=by rw[bC jl,hcl,Nat.mul_one]
    have hfs:=Io hb;obtain⟨x,hxl,hxr⟩:∃x,(al l a).getD .nil=x∧∀H,RdI H x (byL (GS f) a):=by
     rcases hM a with⟨h1,h2,_⟩|⟨v,h1,h2⟩
     ·exact⟨.nil,by rw[h1];rfl,λH=>by rw[h2];exact .inr (.inl ⟨rfl,rfl⟩)⟩
     ·exact⟨v,by rw[h1];rfl,h2⟩
    have hyl:(byL (GS f) a).length≤1048576:=byL_len hB
    repeat' (first
    |with_reducible (first|refine ai ?_|refine ar ?_|refine au rfl ?_|refine ax rfl ?_|refine Gp rfl (λ_=>?_) (λ_=>?_)|refine bc rfl ?_|refine bn rfl ?_|refine Gz rfl (λ_=>?_) (λ_=>?_)|refine b6 ?_|refine aN ?_|refine aF ?_|refine Js ?_|refine bx ?_|refine aj (id:=0) (λQ0 hn0 hx0 hr0 ho0=>?_)|refine bl (id:=0) (λQ0 hn0 hx0 hr0 ho0=>?_)|refine hn0 _ ?_|refine hx0 _ ?_|refine hr0 _ ?_|refine ho0 _ _ (by decide) ?_|refine aj (id:=1) (λQ1 hn1 hx1 hr1 ho1=>?_)|refine bl (id:=1) (λQ1 hn1 hx1 hr1 ho1=>?_)|refine hn1 _ ?_|refine hx1 _ ?_|refine hr1 _ ?_|refine ho1 _ _ (by decide) ?_|refine hxL0 _ _ ?_|refine hrL0 _ ?_)
    |(with_reducible (first|((first|refine ah (λK hK=>?_)|refine aI (λK hK=>?_));(first|refine HC ?_|refine HD ?_|refine HF ?_|refine HG ?_|refine HI ?_|refine HJ ?_|refine HK ?_|refine HL ?_|refine HM ?_|refine HN ?_|refine Hj ?_|refine Hk ?_))|refine hqr _ ?_|refine hqn _ ?_);(try simp only[SS,Nat.reduceEqDiff,ap,Gf,Gh,Gi,Gg,dj,ef,bv,nN,Gq,aR,eE,aS,Nat.reduceMul,Nat.reduceAdd,bL,dw,bM,cB,bq,br,bI,fE,F7,jj,Bool.not_true,Bool.not_false,lenS,fe,F8,Ga,Gb,uR,Gn,Ge,q9,Gc,Gd,F9,F6,gE,dT,cD,dy,fP,iD,ea,eG,cU,dz,q7,Gk,bD,bg,be,bF,List.all_append,q6,ay,Nat.reduceLeDiff,Nat.zero_le,fB,cz,List.all_cons,List.all_nil,Bool.and_self,Bool.true_and,Bool.and_true,Ea,Gu,Gw,Gv,Gm,Gt,uc,sa,Gs,Gl,xL,decide_false,decide_true,Bool.false_or,Bool.true_or,Bool.or_false,Bool.or_true,Bool.false_eq_true,r24,aQ,ak,aD,am,dD,gI,nH,vV,GA,Gy,dq,bV,lH,xA,F2,Nat.zero_sub,Nat.sub_self,bz,eh,Ek,lI,F3,ro,bW,CV.int.injEq,hlen,hg1,hw1,p1,p2,p3,hix1,hL,hcb,hS3,hS4,hS5]))
    |(revert hK;intro hK;(first|refine And.intro ?_ ?_|(refine λ(h:(_:Bool)=_)=>?_;subst h)|intro _|omega|(with_reducible refine hK _ ?_;clear hK K))))
    rw[hsp];simp only[bi];rw[hlk,aJ];rw[if_neg (by decide),hxl];have hkeep:OwnP [242,704] ⟨cF L 192 (HO.arr gn 1 (List.flatMap bS (c.set a.toNat true)) 0),Hm⟩ v1 td:=hO1.keep λj hj=>by simp at hj;rcases hj with rfl|rfl<;>simp[aq]
    rw[hll] at hkM;refine hkeep.app (j:=704) (by simp) (RdI.con hxr _).1 (RdI.con hxr ⟨[],[]⟩).2 (by decide) (by omega) λv' m' r1 r2 r3=>?_;obtain⟨L',H'⟩:=m';simp only at r2;subst r2;refine hK _ ?_;clear hK K
    repeat' (first
    |with_reducible (first|refine ai ?_|refine ar ?_|refine au rfl ?_|refine ax rfl ?_|refine Gp rfl (λ_=>?_) (λ_=>?_)|refine bc rfl ?_|refine bn rfl ?_|refine Gz rfl (λ_=>?_) (λ_=>?_)|refine b6 ?_|refine aN ?_|refine aF ?_|refine Js ?_|refine bx ?_|refine aj (id:=0) (λQ0 hn0 hx0 hr0 ho0=>?_)|refine bl (id:=0) (λQ0 hn0 hx0 hr0 ho0=>?_)|refine hn0 _ ?_|refine hx0 _ ?_|refine hr0 _ ?_|refine ho0 _ _ (by decide) ?_|refine aj (id:=1) (λQ1 hn1 hx1 hr1 ho1=>?_)|refine bl (id:=1) (λQ1 hn1 hx1 hr1 ho1=>?_)|refine hn1 _ ?_|refine hx1 _ ?_|refine hr1 _ ?_|refine ho1 _ _ (by decide) ?_|refine hxL0 _ _ ?_|refine hrL0 _ ?_)
    |(with_reducible (first|((first|refine ah (λK hK=>?_)|refine aI (λK hK=>?_));(first|refine HC ?_|refine HD ?_|refine HF ?_|refine HG ?_|refine HI ?_|refine HJ ?_|refine HK ?_|refine HL ?_|refine HM ?_|refine HN ?_|refine Hj ?_|refine Hk ?_))|refine hqr _ ?_|refine hqn _ ?_);(try simp only[SS,Nat.reduceEqDiff,ap,Gf,Gh,Gi,Gg,dj,ef,bv,nN,Gq,aR,eE,aS,Nat.reduceMul,Nat.reduceAdd,bL,dw,bM,cB,bq,br,bI,fE,F7,jj,Bool.not_true,Bool.not_false,lenS,fe,F8,Ga,Gb,uR,Gn,Ge,q9,Gc,Gd,F9,F6,gE,dT,cD,dy,fP,iD,ea,eG,cU,dz,q7,Gk,bD,bg,be,bF,List.all_append,q6,ay,Nat.reduceLeDiff,Nat.zero_le,fB,cz,List.all_cons,List.all_nil,Bool.and_self,Bool.true_and,Bool.and_true,Ea,Gu,Gw,Gv,Gm,Gt,uc,sa,Gs,Gl,xL,decide_false,decide_true,Bool.false_or,Bool.true_or,Bool.or_false,Bool.or_true,Bool.false_eq_true,r24,aQ,ak,aD,am,dD,gI,nH,vV,GA,Gy,dq,bV,lH,xA,F2,Nat.zero_sub,Nat.sub_self,bz,eh,Ek,lI,F3,ro,bW,CV.int.injEq]))
    |(revert hK;intro hK;(first|refine And.intro ?_ ?_|(refine λ(h:(_:Bool)=_)=>?_;subst h)|intro _|omega|(with_reducible refine hK _ ?_;clear hK K))))
    have hset:∀i:Nat,(c.set a.toNat true)[i]?=some true↔i=a.toNat∨c[i]?=some true:=λi=>by
     rw[List.getElem?_set]
     by_cases e:a.toNat=i
     ·subst e;simp;omega
     ·rw[if_neg e]
      constructor
      ·exact .inr
      ·rintro(h|h)
       ·exact absurd h.symm e
       ·exact h
    have h192':aK L' 192=some (.arr gn 1 ((c.set a.toNat true).flatMap bS) 0):=by
     have:=r3 192 (by simp);simp only at this;rw[this];simp[aq]
    refine hnL0 ((td++byL (GS f) a).length+1048576*fls (c.set a.toNat true)) _ (by rw[hll,List.length_append];omega)
     ⟨c.set a.toNat true,td++byL (GS f) a,v',L',_,rfl,by rw[List.length_append];omega,by rw[List.length_set,hcl],λi hi=>?_,λid hid=>?_,λid hid=>?_,λi hi b hb2=>?_,h192',r1,rfl,rfl,rfl,rfl⟩
    ·rcases (hset i).1 hi with rfl|h
     ·rw[show((a.toNat:Nat):Int)=a by omega];exact hnd
     ·exact hs1 i h
    ·rcases List.mem_append.1 hid with h|h
     ·exact hs2 id (by simp[h])
     ·exact .step hnd h
    ·rcases hs3 id hid with h2|h2
     ·rcases List.mem_append.1 h2 with h3|h3
      ·exact .inl (List.mem_append_left _ h3)
      ·simp only[List.mem_singleton] at h3;rw[h3];exact .inr ((hset _).2 (.inl rfl))
     ·exact .inr ((hset _).2 (.inr h2))
    ·rcases (hset i).1 hi with rfl|h
     ·rw[show((a.toNat:Nat):Int)=a by omega] at hb2
      exact .inl (List.mem_append_right _ hb2)
     ·rcases hs4 i h b hb2 with h2|h2
      ·rcases List.mem_append.1 h2 with h3|h3
       ·exact .inl (List.mem_append_left _ h3)
       ·simp only[List.mem_singleton] at h3;rw[h3];exact .inr ((hset _).2 (.inl rfl))
      ·exact .inr ((hset _).2 (.inr h2))
end Go.Cm
namespace Go.Cm
theorem G7 {a x:CV}{r xs:List CV}{m m1 m2:Mem}(h:esc iC a m=some (x,m1)) (h2:bp m1 r=some (xs,m2)):bp m (a::r)=some (x::xs,m2):=by
 unfold bp at h2 ⊢;simp only[am,h,Option.bind_some,h2,Option.map_some]
theorem J8 {a:CV}{m:Mem}(h:eV a=true):esc iC a m=some (a,m):=by
 have:=cn (m:=m) (cs:=[a]) (by simp[h]);unfold bp at this;simp only[am,Option.bind_eq_some_iff,Option.map_some] at this;obtain⟨⟨y1,y2⟩,hy,h2⟩:=this;simp only[Option.some.injEq,Prod.mk.injEq,List.cons.injEq,and_true] at h2;rw[hy,h2.1,h2.2]
theorem Ia {j sz n:Nat}{z cs xs:List CV}{ps:List (Nat×Nat×CV)}{m m1:Mem}(hf:bg z ps=some cs) (he:bp m cs=some (xs,m1)) :
  be false j sz n z ps m=some (.ref (.l j) (bj m1.L j) 0 n,bi m1 j (.arr (bj m1.L j) sz xs 0)):=by
 unfold be;rw[hf];simp only[Option.bind_some,he,Option.map_some];rfl
theorem OwnV.esc5 {α:Type}{e:α→List CV}{sz j:Nat}{m:Mem}{v:CV}{l:List α}(h:OwnV e sz m j v l) (hs:∀a,(e a).length=sz):∃m1,esc 5 v m=some (rowC e l,m1)∧m1.H=m.H:=by
 rcases h with⟨rfl,rfl⟩|⟨hne,g,vl,rfl,h1,_⟩
 ·exact⟨m,rfl,rfl⟩
 ·refine⟨bi m j (.arr g sz (l.flatMap e) (max vl (l.length*sz))),?_,rfl⟩
  have hr:rowC e l=.imm l.length (l.flatMap e):=by
   cases l with
   |nil=>exact absurd rfl hne
   |cons a l=>rfl
  simp only[esc,h1,if_true,List.drop_zero,HO.seen,Nat.zero_add,hr];rw[List.take_of_length_le (by rw[bC hs];exact Nat.le_refl _)];rfl
end Go.Cm
