import Derived.Test.YtijcpefcfcbcnaaIdA
import Derived.Test.YtijcpefcfcbcnaaIyE
import Derived.Test.YtijcpefcfcbcnaaIdD
set_option linter.unusedSimpArgs false
set_option linter.unusedVariables false
namespace Go.Cm
open Go.Proofs Go.Gr
open Classical in
noncomputable def avL (g:List (List Int)) (w:Int):List Bool:=(List.range g.length).map λ(i:Nat)=>decide (Av g w (i:Int))
def um (g:List (List Int)) (M:List Int):Nat:=((List.range g.length).map λ(i:Nat)=>if (i:Int)∈M then 0 else (g.getD i []).length).sum
theorem sum_one {l:List Nat}(hl:l.Nodup) {i:Nat}(hi:i∈l) {f f':Nat→Nat}(h1:∀j,j≠i→f' j=f j) (h2:f' i=0):(l.map f').sum+f i=(l.map f).sum:=by
 induction l with
 |nil=>cases hi
 |cons a l ih=>
  simp only[List.map_cons,List.sum_cons];rw[List.nodup_cons] at hl;rcases List.mem_cons.1 hi with rfl|hi'
  ·have:l.map f'=l.map f:=List.map_congr_left λj hj=>h1 j λe=>hl.1 (e ▸ hj)
   rw[this,h2];omega
  ·have hne:a≠i:=λe=>hl.1 (e ▸ hi')
   have:=ih hl.2 hi';rw[h1 a hne];omega
theorem um_cons {g:List (List Int)}{M:List Int}{x:Int}{r:List Int}(h0:0≤x) (hr:g[x.toNat]?=some r) (hx:x∉M):um g (x::M)+r.length=um g M:=by
 have hlt:=(List.getElem?_eq_some_iff.1 hr).1;have hxn:((x.toNat:Nat):Int)=x:=by omega
 have:=sum_one (l:=List.range g.length) List.nodup_range (i:=x.toNat) (by simpa using hlt) (f:=λ(i:Nat)=>if (i:Int)∈M then 0 else (g.getD i []).length) (f':=λ(i:Nat)=>if (i:Int)∈x::M then 0 else (g.getD i []).length)
  (λj hj=>by
   have:((j:Int)∈x::M)↔(j:Int)∈M:=by
    simp only[List.mem_cons]
    exact⟨λh=>h.elim (λh=>absurd (by omega) hj) id,.inr⟩
   simp only[this]) (by simp[hxn])
 simp only[hxn,hx,if_false,List.getD_eq_getElem?_getD,hr,Option.getD_some] at this;exact this
theorem slcX_l {m:Mem}{j gn n k:Nat}{cs:List CV}{vl:Nat}(hm:aK m.L j=some (.arr gn 1 cs vl)) (hk:k≤n):sJ 1 (.ref (.l j) gn 0 n) none (some (.int .i64 k)) none m=some (.ref (.l j) gn 0 k):=by
 have hb:fp n none (some (.int .i64 k))=some (0,k):=by simp[fp,eH,hk]
 simp only[sJ,qN,cK,hb,Mem.get,hm,and_self,if_true,Nat.zero_mul,Nat.zero_add,Nat.sub_zero]
def goB (g:List (List Int)) (w y:Int):Bool:=decide (0≤y∧y<g.length∧y≠w)
theorem v9 {g:List (List Int)}{w x y:Int}{r:List Int}(hr:g[x.toNat]?=some r):(y∈ins g x∧y≠w)↔y∈r.filter (goB g w):=by
 simp only[ins,List.getD_eq_getElem?_getD,hr,Option.getD_some,List.mem_filter,goB,decide_eq_true_eq]
 exact⟨λh=>⟨h.1.1,h.1.2.1,h.1.2.2,h.2⟩,λh=>⟨⟨h.1,h.2.1,h.2.2.1⟩,h.2.2.2⟩⟩
theorem av_none {g:List (List Int)}{w:Int}(hw0:g=[]∨w=0):∀x,¬Av g w x:=by
 intro x h
 induction h with
 |zero h1 h2=>
  rcases hw0 with h3|h3
  ·exact h1 h3
  ·exact h2 h3
 |step _ _ _ ih=>exact ih
theorem mH {g:List (List Int)}{w:Int}:(avL g w).length=g.length:=by simp[avL]
theorem yd {g:List (List Int)}{w:Int}{c:List Bool}{M:List Int}(h1:c.length=g.length) (h2:∀j:Nat,j<g.length→c[j]?=some (decide ((j:Int)∈M))) (h3:∀j:Nat,j<g.length→((j:Int)∈M↔Av g w j)):c=avL g w:=by
 refine List.ext_getElem? λj=>?_
 by_cases hj:j<g.length
 ·have:=h3 j hj
  rw[h2 j hj,avL,List.getElem?_map,List.getElem?_range hj];simp[this]
 ·rw[List.getElem?_eq_none (by omega),List.getElem?_eq_none (by rw[mH];omega)]
theorem x75 (g:List (List Int)) (hg:Sm g) (ht:um g []≤17179869184) (gv:CV) (hgv:IsRows gv g) (w:Int):∃r,(∃H',r=(mC bS 1 (avL g w),H'))∧FF 75 [gv,.int .i64 w] []=some r:=by
 rw[ko (show An.pure 75=true from rfl) hgv];simp only[cans,aG,az];clear hgv gv;have hgv:=IsRows.of g;have hcv:=fH g;generalize fo g=gv at hgv hcv ⊢;have hgl:=hg.1;have hmk:=λm=>we (j:=192) (sz:=1) (b:=1) (z:=[.bool false]) (k:=.i64) (n:=g.length) (m:=m) rfl (by omega) (by omega);have hrep:∀j:Nat,j<g.length→(List.replicate g.length false)[j]?=some (decide ((j:Int)∈([]:List Int))):=λj hj=>by simp[hj]
 have fin:∀c:List Bool,c=avL g w→CV.own g.length 1 (List.take (g.length*1) (c.flatMap bS)) 0=mC bS 1 (avL g w):=λc hc=>by
  rw[hc,mC,mH,List.take_of_length_le (by rw[bC jl,mH];omega)]
 by_cases hg0:g=[]
 ·subst hg0
  have hmk0:∀m,mkX false 192 1 1 [.bool false] (.int .i64 0) (.int .i64 0) m=some (.ref (.l 192) (bj m.L 192) 0 0,bi m 192 (.arr (bj m.L 192) 1 (dM 0 [.bool false]) 0)):=λm=>we (n:=0) rfl (by omega) (by omega);have hclen:cK gv=some 0:=hgv.len;have hav:mC bS 1 (avL [] w)=.own 0 1 [] 0:=rfl;rw[hav];refine bA rfl Try.func75 s75 (Nat.le_of_ble_eq_true rfl) (λQ hqr hqn=>?_);rw[bf (show An.pure 75=true from rfl) (by simp only[cans,aG,az,aC,aH,hcv])];simp only[aO,Nat.reduceAdd,c75]
  repeat' (first
  |with_reducible (first|refine ai ?_|refine au rfl ?_|refine b6 ?_)
  |(with_reducible (first|(refine ah (λK hK=>?_);(first|refine Fu ?_|refine Fv ?_|refine FA ?_|refine t75r3 ?_))|refine hqr _ ?_);(try simp only[SS,Nat.reduceEqDiff,aS,lenS,r75,aQ,ak,aD,am,dq,bV,Nat.sub_self,hclen,hmk0,Int.natCast_zero,Nat.zero_mul]))
  |(with_reducible refine hK _ ?_;clear hK K))
  all_goals exact⟨_,rfl⟩
 ·have hlen:0<g.length:=List.length_pos_iff.2 hg0
  have hl0:¬(g.length:Int)=0:=by omega
  by_cases hw0:w=0
  ·have hav:=yd (w:=w) (c:=List.replicate g.length false) (by simp) hrep λj hj=>⟨λh=>by simp at h,λh=>absurd h (av_none (.inr hw0) _)⟩
   subst hw0;refine bA rfl Try.func75 s75 (Nat.le_of_ble_eq_true rfl) (λQ hqr hqn=>?_);rw[bf (show An.pure 75=true from rfl) (by simp only[cans,aG,az,aC,aH,hcv])];simp only[aO,Nat.reduceAdd,c75]
   repeat' (first
   |with_reducible (first|refine ai ?_|refine au rfl ?_|refine b6 ?_)
   |(with_reducible (first|(refine ah (λK hK=>?_);(first|refine Fu ?_|refine Fv ?_|refine FA ?_|refine t75r3 ?_))|refine hqr _ ?_);(try simp only[SS,Nat.reduceEqDiff,aS,lenS,r75,aQ,ak,aD,am,dq,bV,Nat.sub_self,hgv.len,hmk,hl0,jw]))
   |(with_reducible refine hK _ ?_;clear hK K))
   exact⟨_,by rw[fin _ hav],rfl⟩
  ·refine bA rfl Try.func75 s75 (Nat.le_of_ble_eq_true rfl) (λQ hqr hqn=>?_)
   rw[bf (show An.pure 75=true from rfl) (by simp only[cans,aG,az,aC,aH,hcv])];simp only[aO,Nat.reduceAdd,c75]
   repeat' (first
   |with_reducible (first|refine ai ?_|refine ar ?_|refine ax rfl ?_|refine aj (id:=0) (λQ0 hn0 hx0 hr0 ho0=>?_))
   |(with_reducible (refine ah (λK hK=>?_);(first|refine Fu ?_|refine Fv ?_|refine FA ?_|refine t75r4 ?_));(try simp only[SS,Nat.reduceEqDiff,ap,dj,ef,nN,aR,lenS,bg,be,bF,ay,cz,List.all_cons,List.all_nil,Bool.and_self,hgv.len,hmk,hl0,hw0,jw]))
   |(with_reducible refine hK _ ?_;clear hK K))
   refine aU (λk s=>∃(M todo:List Int) (c:List Bool) (gn gc:Nat) (cs:List CV) (L:List (Nat×HO)) (sl:List (Nat×CV)),
    s=⟨sl,⟨L,[]⟩⟩∧k=um g M+todo.length∧um g M+todo.length≤um g []+1 ∧
    aK L 192=some (.arr gc 1 (c.flatMap bS) 0)∧c.length=g.length∧(∀j:Nat,j<g.length→c[j]?=some (decide ((j:Int)∈M))) ∧
    aK L 336=some (.arr gn 1 cs 0)∧cs.take todo.length=todo.flatMap aX ∧
    (∀x∈M,Av g w x)∧(∀x∈todo,Av g w x)∧(∀x∈M,∀y∈ins g x,y≠w→y∈M∨y∈todo)∧(0∈M∨0∈todo) ∧
    ac sl 0=gv∧ac sl 1=.int .i64 w∧ac sl 5=.ref (.l 192) gc 0 g.length∧ac sl 6=.ref (.l 336) gn 0 todo.length) _
    ⟨[],[0],List.replicate g.length false,bj [] 336,bj [] 192,[.int .i64 0],_,_,rfl,rfl,by simp,by simp[bi,aq],by simp,hrep,by simp[bi,aq],rfl,by simp,?_,by simp,by simp,rfl,rfl,rfl,rfl⟩ ?_
   ·intro x hx
    rw[List.mem_singleton] at hx;subst hx;exact .zero hg0 hw0
   rintro k s ⟨M,todo,c,gn,gc,cs,L,sl,rfl,rfl,hbd,hL1,hcl,hcM,hL2,hcs,hM,hT,hcl2,h0,t0,t1,t5,t6⟩ QL1 hnL1 hxL1 hrL1;have hum:um g M≤um g []+1:=by omega
   simp only[c75l1];rcases List.eq_nil_or_concat todo with htd|⟨todo,x,htd⟩
   ·subst htd
    have hav:=yd (w:=w) hcl hcM λj hj=>⟨hM _,λh=>by
     have key:∀x,Av g w x→x∈M:=by
      intro x hx
      induction hx with
      |zero _ _=>exact h0.elim id λh=>by simp at h
      |step _ hy hne ih=>exact(hcl2 _ ih _ hy hne).elim id λh=>by simp at h
     exact key _ h⟩
    simp only[List.length_nil] at t6
    repeat' (first
    |with_reducible (first|refine ai ?_|refine ax rfl ?_|refine aN ?_|refine aF ?_|refine hx0 _ ?_|refine hxL1 _ _ ?_)
    |(with_reducible (first|(refine ah (λK hK=>?_);(first|refine FB ?_|refine t75r16 ?_))|refine hqr _ ?_);(try simp only[SS,Nat.reduceEqDiff,bq,lenS,r75,aQ,ak,aD,am,dq,bV,Nat.sub_self,hgv.len,t0,t1,t5,t6,hL1,Int.natCast_zero]))
    |(revert hK;intro hK;(first|refine And.intro ?_ ?_|intro _|omega|(with_reducible refine hK _ ?_;clear hK K))))
    exact⟨_,by rw[fin _ hav],rfl⟩
   ·rw[List.concat_eq_append] at htd
    subst htd;have hxA:=hT x (by simp);have hxr:=hxA.rch.range;have hxn:((x.toNat:Nat):Int)=x:=by omega
    obtain⟨r,hr⟩:∃r,g[x.toNat]?=some r:=⟨_,List.getElem?_eq_getElem (by omega)⟩;have hrl:=hg.2 r (List.mem_of_getElem? hr);simp only[List.length_append,List.length_singleton] at hbd t6 hcs;have hpos:(0:Int)<((todo.length+1:Nat):Int):=by omega
    have hwm:IntKind.i64.wrap (((todo.length+1:Nat):Int) - 1)=todo.length:=by rw[wI (by omega) (by omega)];omega
    have hi1:bd 1 (.ref (.l 336) gn 0 (todo.length+1)) (.int .i64 todo.length)=some (.ptr (.l 336) gn todo.length):=by
     rw[bD,if_pos ⟨by omega,by omega⟩];simp
    have hcx:cs[todo.length]?=some (.int .i64 x):=by
     have:=congrArg (λl=>l[todo.length]?) hcs;simp only[List.getElem?_take,Nat.lt_succ_self,if_true,List.flatMap_append] at this;rw[this,List.getElem?_append_right (by rw[dL];exact Nat.le_refl _),dL,Nat.sub_self];rfl
    have hcs':cs.take todo.length=todo.flatMap aX:=by
     have:=congrArg (List.take todo.length) hcs;rw[List.take_take,Nat.min_eq_left (by omega),List.flatMap_append,List.take_append_of_le_length (by rw[dL];exact Nat.le_refl _),List.take_of_length_le (l:=todo.flatMap aX) (by rw[dL];exact Nat.le_refl _)] at this;exact this
    have hld1:ld1 ⟨L,[]⟩ (.ptr (.l 336) gn todo.length)=some (.int .i64 x):=by
     rw[eX];simp only[hL2,bM,hcx]
    have hsl:=slcX_l (m:=⟨L,[]⟩) (n:=todo.length+1) (k:=todo.length) hL2 (by omega);have hi2:bd 1 (.ref (.l 192) gc 0 g.length) (.int .i64 x)=some (.ptr (.l 192) gc x.toNat):=by
     rw[bD,if_pos ⟨hxr.1,by omega⟩];simp
    have hld2:ld1 ⟨L,[]⟩ (.ptr (.l 192) gc x.toNat)=some (.bool (decide (x∈M))):=by
     rw[eX];simp only[hL1,bM,fI,hcM x.toNat (by omega),hxn];rfl
    by_cases hxM:x∈M
    ·simp only[hxM,decide_true] at hld2
     repeat' (first
     |with_reducible (first|refine ai ?_|refine ar ?_|refine au rfl ?_|refine aN ?_|refine bl (id:=1) (λQ1 hn1 hx1 hr1 ho1=>?_)|refine hx1 _ ?_)
     |(with_reducible (refine ah (λK hK=>?_);(first|refine FB ?_|refine t75r6 ?_|refine t75r7 ?_|refine t75r8 ?_));(try simp only[SS,Nat.reduceEqDiff,bq,lenS,fe,hgv.len,t0,t1,t5,t6,hpos,hwm,hi1,hld1,hsl,hi2,hld2]))
     |(with_reducible refine hK _ ?_;clear hK K))
     refine hnL1 (um g M+todo.length) _ (by simp) ⟨M,todo,c,gn,gc,cs,L,_,rfl,rfl,by omega,hL1,hcl,hcM,hL2,hcs',hM,λy hy=>hT y (by simp[hy]),λz hz y hy hne=>?_,?_,rfl,rfl,rfl,rfl⟩
     ·rcases hcl2 z hz y hy hne with h|h
      ·exact .inl h
      ·rcases List.mem_append.1 h with h|h
       ·exact .inr h
       ·rw[List.mem_singleton] at h;exact .inl (h ▸ hxM)
     ·rcases h0 with h|h
      ·exact .inl h
      ·rcases List.mem_append.1 h with h|h
       ·exact .inr h
       ·rw[List.mem_singleton] at h;exact .inl (h ▸ hxM)
    ·simp only[hxM,decide_false] at hld2
     have hst:stX 1 ⟨L,[]⟩ (.ptr (.l 192) gc x.toNat) (.bool true)=some ⟨cF L 192 (.arr gc 1 ((c.set x.toNat true).flatMap bS) 0),[]⟩:=by
      rw[lK hL1 (by rw[kN];omega) rfl rfl,ou];rfl
     have humx:=um_cons hxr.1 hr hxM;obtain⟨wv,tl,hw1,hw2⟩:=hgv.idx hxr.1 hr (k:=.i64)
     repeat' (first
     |with_reducible (first|refine ai ?_|refine ar ?_|refine au rfl ?_|refine ax rfl ?_|refine bl (id:=1) (λQ1 hn1 hx1 hr1 ho1=>?_)|refine bl (id:=2) (λQ2 hn2 hx2 hr2 ho2=>?_))
     |(with_reducible (refine ah (λK hK=>?_);(first|refine FB ?_|refine t75r6 ?_|refine t75r7 ?_|refine t75r8 ?_|refine t75r9 ?_|refine t75r10 ?_));(try simp only[SS,Nat.reduceEqDiff,bq,lenS,fe,hgv.len,t0,t1,t5,t6,hpos,hwm,hi1,hld1,hsl,hi2,hld2,hst]))
     |(with_reducible refine hK _ ?_;clear hK K))
     refine aU (λk s=>∃(d t:List Int) (gn':Nat) (cs':List CV) (L':List (Nat×HO)),r=d++t∧k=t.length ∧
      s=⟨[(0,gv),(1,.int .i64 w),(5,.ref (.l 192) gc 0 g.length),(6,.ref (.l 336) gn' 0 (todo++d.filter (goB g w)).length),(7,.int .i64 x),(8,.int .i64 d.length)],⟨L',[]⟩⟩ ∧
      aK L' 192=some (.arr gc 1 ((c.set x.toNat true).flatMap bS) 0)∧aK L' 336=some (.arr gn' 1 cs' 0)∧cs'.take (todo++d.filter (goB g w)).length=(todo++d.filter (goB g w)).flatMap aX) _
      ⟨[],r,gn,cs,cF L 192 (.arr gc 1 ((c.set x.toNat true).flatMap bS) 0),rfl,rfl,by simp,by simp[aq],by simp[aq,hL2],by simpa using hcs'⟩ ?_
     rintro k s ⟨d,t,gn',cs',L',h2,rfl,rfl,hL1',hL2',hcs2⟩ QL0 hnL0 hxL0 hrL0;have hlen':=congrArg List.length h2;simp only[List.length_append] at hlen';simp only[c75l0]
     cases t with
     |nil=>
      simp only[List.length_nil] at hlen';rw[List.append_nil] at h2
      repeat' (first
      |with_reducible (first|refine ai ?_|refine ax rfl ?_|refine aN ?_|refine hn1 _ ?_|refine hx2 _ ?_|refine hxL0 _ _ ?_)
      |(with_reducible (refine ah (λK hK=>?_);refine uD ?_);(try simp only[SS,Nat.reduceEqDiff,dw,lenS,hw1,(hw2 []).len]))
      |(revert hK;intro hK;(first|refine And.intro ?_ ?_|intro _|omega|(with_reducible refine hK _ ?_;clear hK K))))
      refine hnL1 (um g (x::M)+(todo++d.filter (goB g w)).length) _ ?_ ⟨x::M,todo++d.filter (goB g w),c.set x.toNat true,gn',gc,cs',L',_,rfl,rfl,?_,hL1',by rw[List.length_set,hcl],λj hj=>?_,hL2',hcs2,?_,?_,?_,?_,rfl,rfl,rfl,rfl⟩
      ·have hfl:=List.length_filter_le (goB g w) d
       simp only[List.length_append,List.length_singleton];rw[←h2] at hfl ⊢;omega
      ·have hfl:=List.length_filter_le (goB g w) d
       simp only[List.length_append];rw[←h2] at hfl ⊢;omega
      ·by_cases hja:x.toNat=j
       ·subst hja
        rw[List.getElem?_set_self (by omega),hxn];simp
       ·rw[List.getElem?_set_ne hja,hcM j hj]
        have:((j:Int)∈x::M)↔(j:Int)∈M:=by
         simp only[List.mem_cons]
         exact⟨λh=>h.elim (λh=>absurd (by omega) hja) id,.inr⟩
        simp only[this]
      ·intro y hy
       rcases List.mem_cons.1 hy with rfl|hy
       ·exact hxA
       ·exact hM y hy
      ·intro y hy
       rcases List.mem_append.1 hy with hy|hy
       ·exact hT y (by simp[hy])
       ·rw[←h2] at hy
        obtain⟨h5,h6⟩:=(v9 hr).2 hy;exact .step hxA h5 h6
      ·intro z hz y hy hne
       rcases List.mem_cons.1 hz with rfl|hz
       ·exact .inr (List.mem_append_right _ (by rw[←h2];exact(v9 hr).1 ⟨hy,hne⟩))
       ·rcases hcl2 z hz y hy hne with h|h
        ·exact .inl (List.mem_cons_of_mem _ h)
        ·rcases List.mem_append.1 h with h|h
         ·exact .inr (List.mem_append_left _ h)
         ·rw[List.mem_singleton] at h;exact .inl (h ▸ List.mem_cons_self)
      ·rcases h0 with h|h
       ·exact .inl (List.mem_cons_of_mem _ h)
       ·rcases List.mem_append.1 h with h|h
        ·exact .inr (List.mem_append_left _ h)
        ·rw[List.mem_singleton] at h;exact .inl (h ▸ List.mem_cons_self)
     |cons a t=>
      simp only[List.length_cons] at hlen';have hal:r[d.length]?=some a:=by rw[h2];simp
      obtain⟨p,hp1,hp2⟩:=(hw2 []).at hal (k:=.i64);have hw':IntKind.i64.wrap ((d.length:Int)+1)=d.length+1:=wI (by omega) (by omega);have hfl:=List.length_filter_le (goB g w) d
      by_cases hgo:0≤a∧a<g.length∧a≠w
      ·obtain⟨g1,g2,g3⟩:=hgo
       have hgt:goB g w a=true:=by simp[goB,g1,g2,g3]
       have hfe:todo++(d++[a]).filter (goB g w)=(todo++d.filter (goB g w))++[a]:=by
        rw[List.filter_append,List.filter_cons_of_pos hgt,List.filter_nil,List.append_assoc]
       have hsb:cN 8 ((todo++d.filter (goB g w)).length+1)=true:=f0 (by omega) (by rw[List.length_append];omega)
       repeat' (first
       |with_reducible (first|refine ai ?_|refine ar ?_|refine au rfl ?_|refine bc rfl ?_|refine aj (id:=3) (λQ3 hn3 hx3 hr3 ho3=>?_)|refine hn3 _ ?_)
       |(with_reducible ((first|refine ah (λK hK=>?_)|refine aI (λK hK=>?_));(first|refine uD ?_|refine Fy ?_|refine Fz ?_|refine t75r15 ?_|refine Fx ?_));(try simp only[SS,Nat.reduceEqDiff,ap,dj,ef,Nat.reduceMul,dw,br,lenS,fP,ea,cU,dz,bg,be,bF,ay,Nat.zero_le,cz,List.all_cons,List.all_nil,Bool.and_self,Nat.sub_self,hw1,(hw2 []).len,hp1,hp2,hgv.len,g1,g2,g3,hL2',hsb,hw']))
       |(revert hK;intro hK;(first|refine And.intro ?_ ?_|intro _|omega|(with_reducible refine hK _ ?_;clear hK K))))
       refine hnL0 t.length _ (by simp) ⟨d++[a],t,gn'+1,cs'.take ((todo++d.filter (goB g w)).length*1)++[.int .i64 a],
        cF (cF L' 1184 (.arr (bj L' 1184) 1 [.int .i64 a] 0)) 336 (.arr (gn'+1) 1 (cs'.take ((todo++d.filter (goB g w)).length*1)++[.int .i64 a]) 0),by simp[h2],rfl,?_,by simp[aq,hL1'],by simp[aq],?_⟩
       ·simp only[hfe,List.length_append,List.length_singleton];rfl
       ·have hn:(cs'.take (todo++d.filter (goB g w)).length).length=(todo++d.filter (goB g w)).length:=by rw[hcs2,dL]
        rw[hfe,Nat.mul_one,List.take_of_length_le (by rw[List.length_append,hn,List.length_append (bs:=[a])];exact Nat.le_refl _),hcs2];simp only[List.flatMap_append];rfl
      ·have hgt:¬goB g w a=true:=by simpa[goB] using hgo
       have hfe:(d++[a]).filter (goB g w)=d.filter (goB g w):=by
        rw[List.filter_append,List.filter_cons_of_neg hgt,List.filter_nil,List.append_nil]
       by_cases g1:0≤a<;>by_cases g2:a<g.length<;>by_cases g3:a=w
       all_goals first
        |(exfalso;exact hgo ⟨g1,g2,g3⟩)
        |skip
       all_goals
        repeat' (first
        |with_reducible (first|refine ai ?_|refine ar ?_|refine au rfl ?_|refine bn rfl ?_|refine bx ?_|refine aj (id:=3) (λQ3 hn3 hx3 hr3 ho3=>?_)|refine hn3 _ ?_)
        |(with_reducible ((first|refine ah (λK hK=>?_)|refine aI (λK hK=>?_));(first|refine uD ?_|refine Fy ?_|refine Fz ?_|refine Fx ?_));(try simp only[SS,Nat.reduceEqDiff,dw,br,lenS,hw1,(hw2 []).len,hp1,hp2,hgv.len,g1,g2,g3,hw']))
        |(revert hK;intro hK;(first|refine And.intro ?_ ?_|intro _|omega|(with_reducible refine hK _ ?_;clear hK K))))
        all_goals refine hnL0 t.length _ (by simp) ⟨d++[a],t,gn',cs',L',by simp[h2],rfl,by rw[hfe];simp,hL1',hL2',by rw[hfe];exact hcs2⟩
end Go.Cm
namespace Go.Cm
open Go.Proofs Go.Gr
theorem Ef {g:List (List Int)}:avL g (-1)=bO g:=by
 have key:∀x,Av g (-1) x↔x∈ord g:=by
  intro x;rw[cu]
  refine⟨λh=>h.rch,λh=>?_⟩
  induction h with
  |zero h=>exact .zero h (by omega)
  |step hx h ih=>exact .step ih h (by have:=fJ h;omega)
 unfold avL bO;refine List.map_congr_left λi _=>?_;simp only[key]
theorem x72 (g:List (List Int)) (hg:Sm g) (ht:um g []≤17179869184) (gv:CV) (hgv:IsRows gv g):∃r,(∃H',r=(mC bS 1 (bO g),H'))∧FF 72 [gv] []=some r:=by
 rw[ko (show An.pure 72=true from rfl) hgv];simp only[cans,aG,az];clear hgv gv;have hgv:=IsRows.of g;have hcv:=fH g;generalize fo g=gv at hgv hcv ⊢;obtain⟨_,⟨H',rfl⟩,h⟩:=x75 g hg ht gv hgv (-1);rw[Ef] at h;have hl:(bO g).length=g.length:=by simp[bO]
 have hk:∀m,aB An FF 72 (some 4) 75 [gv,.int .i64 (-1)] m=some (.ref (.l (16*4)) (bj m.L (16*4)) 0 g.length,bi m (16*4) (.arr (bj m.L (16*4)) 1 ((bO g).flatMap bS) 0)):=λm=>by
  rw[el h rfl (by simp only[List.all_cons,List.all_nil,dQ hgv.esc,fW,Bool.and_self]) (by simp only[noGs,hgv.noG,eo,Bool.and_self]) (iT jk _),fO (show(An.glob 72).contains 4=false from rfl),hl]
 refine bA rfl Try.func72 s72 (Nat.le_of_ble_eq_true rfl) (λQ hqr hqn=>?_);rw[bf (show An.pure 72=true from rfl) (by simp only[cans,aG,az,aC,aH,hcv])];simp only[aO,Nat.reduceAdd,c72]
 repeat' (first
 |with_reducible refine aF ?_
 |(with_reducible (first|(refine ah (λK hK=>?_);(first|refine t72r0 ?_|refine t72r1 ?_))|refine hqr _ ?_);(try simp only[SS,aS,Nat.reduceMul,r72,aQ,ak,aD,am,dq,bV,Nat.sub_self,hk]))
 |(with_reducible refine hK _ ?_;clear hK K))
 exact⟨_,by rw[mC,hl,List.take_of_length_le (by rw[bC jl,hl];omega)],rfl⟩
noncomputable def km (g:List (List Int)) (a:Int):List Bool:=(List.range g.length).map λ(b:Nat)=>mz g a (b:Int)
noncomputable def kl (g:List (List Int)):List (List Bool):=(List.range g.length).map λ(a:Nat)=>km g (a:Int)
def gq (r:List Bool):List CV:=[sl bS r]
theorem jy (r:List Bool):(gq r).length=1:=rfl
theorem rowBC_N (r:List Bool):noGs (gq r)=true:=by simp only[gq,noGs,noG_sl jk,Bool.and_self]
open Classical in
noncomputable def avB (g:List (List Int)) (w x:Int):Bool:=decide (Av g w x)
theorem avL_get {g:List (List Int)}{w:Int}{b:Nat}(hb:b<g.length):(avL g w)[b]?=some (avB g w b):=by
 rw[avL,List.getElem?_map,List.getElem?_range hb];rfl
theorem dom_av {g:List (List Int)}{a b:Int}:mz g a b=(decide (a∈ord g)&&decide (b∈ord g)&&(decide (a=b) || !avB g a b)):=by
 have h:Dom g a b↔a∈ord g∧b∈ord g∧(a=b∨¬Av g a b):=by
  rw[cu,cu];constructor
  ·intro h;exact⟨h.1,h.2.1,.inr h.2.2⟩
  ·rintro⟨h1,h2,h3|h3⟩
   ·subst h3;exact Dom.self h1
   ·exact⟨h1,h2,h3⟩
 rw[Bool.eq_iff_iff,DT,h];simp only[Bool.and_eq_true,Bool.or_eq_true,decide_eq_true_eq,Bool.not_eq_true',avB,decide_eq_false_iff_not,and_assoc]
theorem x49 (g:List (List Int)) (hg:Sm g) (ht:um g []≤17179869184) (gv:CV) (hgv:IsRows gv g):∃r,(∃H',r=(eA gq 1 (kl g),H'))∧FF 49 [gv] []=some r:=by
 rw[ko (show An.pure 49=true from rfl) hgv];simp only[cans,aG,az];clear hgv gv;have hgv:=IsRows.of g;have hcv:=fH g;generalize fo g=gv at hgv hcv ⊢;have hgl:=hg.1;have hl:(bO g).length=g.length:=by simp[bO]
 have hk1:∀m,aB An FF 49 (some 10) 72 [gv] m=some (.ref (.l (16*10)) (bj m.L (16*10)) 0 g.length,bi m (16*10) (.arr (bj m.L (16*10)) 1 ((bO g).flatMap bS) 0)):=λm=>by
  obtain⟨_,⟨H',rfl⟩,h⟩:=x72 g hg ht _ hgv;rw[el h rfl (by simp only[List.all_cons,List.all_nil,dQ hgv.esc,Bool.and_self]) (by simp only[noGs,hgv.noG,Bool.and_self]) (iT jk _),fO (show(An.glob 49).contains 10=false from rfl),hl]
 have hk2:∀m w,aB An FF 49 (some 19) 75 [gv,.int .i64 w] m=some (.ref (.l (16*19)) (bj m.L (16*19)) 0 g.length,bi m (16*19) (.arr (bj m.L (16*19)) 1 ((avL g w).flatMap bS) 0)):=λm w=>by
  obtain⟨_,⟨H',rfl⟩,h⟩:=x75 g hg ht _ hgv w;rw[el h rfl (by simp only[List.all_cons,List.all_nil,dQ hgv.esc,fW,Bool.and_self]) (by simp only[noGs,hgv.noG,eo,Bool.and_self]) (iT jk _),fO (show(An.glob 49).contains 19=false from rfl),mH]
 have hmk:=λm=>we (j:=352) (sz:=1) (b:=1) (z:=[.bool false]) (k:=.i64) (n:=g.length) (m:=m) rfl (by omega) (by omega);refine bA rfl Try.func49 s49 (Nat.le_of_ble_eq_true rfl) (λQ hqr hqn=>?_);rw[bf (show An.pure 49=true from rfl) (by simp only[cans,aG,az,aC,aH,hcv])];simp only[aO,Nat.reduceAdd,c49]
 repeat' (first
 |with_reducible (first|refine ai ?_|refine aj (id:=0) (λQ0 hn0 hx0 hr0 ho0=>?_))
 |(with_reducible (refine ah (λK hK=>?_);(first|refine t49r0 ?_|refine t49r1 ?_|refine t49r2 ?_|refine t49r3 ?_));(try simp only[SS,Nat.reduceEqDiff,Nat.reduceMul,hgv.len,hk1]))
 |(with_reducible refine hK _ ?_;clear hK K))
 refine aU (λk s=>∃(i:Nat) (v:CV) (gr:Nat) (L:List (Nat×HO)),i≤g.length∧k=g.length - i∧s=⟨[(0,gv),(3,.ref (.l 160) gr 0 g.length),(4,v),(5,.int .i64 i)],⟨L,[]⟩⟩ ∧
  aK L 160=some (.arr gr 1 ((bO g).flatMap bS) 0)∧OwnE gq 1 ⟨L,[]⟩ 912 v ((kl g).take i)) _ ⟨0,.nil,_,_,Nat.zero_le _,rfl,rfl,by simp[bi,aq],.nil⟩ ?_
 rintro k s ⟨i,v,gr,L,hi,rfl,rfl,hL1,hO⟩ QL1 hnL1 hxL1 hrL1;simp only[c49l1]
 by_cases hig:i=g.length
 ·subst hig
  repeat' (first
  |with_reducible (first|refine ai ?_|refine ax rfl ?_|refine aN ?_|refine aF ?_|refine hx0 _ ?_|refine hxL1 _ _ ?_)
  |(with_reducible (first|(refine ah (λK hK=>?_);(first|refine t49r4 ?_|refine t49r13 ?_))|refine hqr _ ?_);(try simp only[SS,Nat.reduceEqDiff,lenS,cD,r49,aQ,ak,aD,am,hgv.len]))
  |(revert hK;intro hK;(first|refine And.intro ?_ ?_|intro _|omega|(with_reducible refine hK _ ?_;clear hK K))))
  have htl:(kl g).take g.length=kl g:=List.take_of_length_le (by simp[kl]);rw[htl] at hO;refine hO.ret jy λm' hm'=>?_;simp only[gx,Option.map_some,aJ]
  first|exact⟨_,trivial,rfl⟩|simp
 ·have hilt:(i:Int)<g.length:=by omega
  repeat' (first
  |with_reducible (first|refine ai ?_|refine ar ?_|refine au rfl ?_|refine aj (id:=1) (λQ1 hn1 hx1 hr1 ho1=>?_)|refine aj (id:=2) (λQ2 hn2 hx2 hr2 ho2=>?_))
  |(with_reducible (refine ah (λK hK=>?_);(first|refine t49r4 ?_|refine t49r6 ?_|refine t49r7 ?_|refine t49r8 ?_));(try simp only[SS,Nat.reduceEqDiff,nN,aR,Nat.reduceMul,lenS,hgv.len,hilt,hk2,hmk]))
  |(with_reducible refine hK _ ?_;clear hK K))
  refine aU (λk s=>∃(b:Nat) (c:List Bool) (g6 g7:Nat) (L:List (Nat×HO)),b≤g.length∧k=g.length - b∧c.length=g.length∧(∀j:Nat,j<g.length→c[j]?=some (decide (j<b)&&mz g i j)) ∧
   s=⟨[(0,gv),(3,.ref (.l 160) gr 0 g.length),(4,v),(5,.int .i64 i),(6,.ref (.l 304) g6 0 g.length),(7,.ref (.l 352) g7 0 g.length),(8,.int .i64 b)],⟨L,[]⟩⟩ ∧
   aK L 160=some (.arr gr 1 ((bO g).flatMap bS) 0)∧aK L 304=some (.arr g6 1 ((avL g i).flatMap bS) 0)∧aK L 352=some (.arr g7 1 (c.flatMap bS) 0)∧OwnE gq 1 ⟨L,[]⟩ 912 v ((kl g).take i)) _
   ⟨0,List.replicate g.length false,_,_,_,Nat.zero_le _,rfl,by simp,λj hj=>by simp[hj],rfl,by simp[bi,aq,hL1],by simp[bi,aq],by simp[bi,aq,jw],(hO.keepS (by decide)).keepS (by decide)⟩ ?_
  rintro k s ⟨b,c,g6,g7,L2,hb,rfl,hcl,hcc,rfl,m1,m2,m3,hO2⟩ QL0 hnL0 hxL0 hrL0;simp only[c49l0];have hwi:IntKind.i64.wrap ((i:Int)+1)=((i+1:Nat):Int):=by rw[wI (by omega) (by omega)];rfl
  by_cases hbg:b=g.length
  ·subst hbg
   have hcr:c=km g i:=by
    refine List.ext_getElem? λj=>?_
    by_cases hj:j<g.length
    ·rw[hcc j hj,km,List.getElem?_map,List.getElem?_range hj];simp[hj]
    ·rw[List.getElem?_eq_none (by omega),List.getElem?_eq_none (by simp[km];omega)]
   have hesc:=esc_own (m:=⟨L2,[]⟩) (args:=[]) (len:=g.length) m3 (by rw[kN,hcl];omega) rfl;have hfill:bg [.nil] [(0,1,.ref (.l 352) g7 0 g.length)]=some [.ref (.l 352) g7 0 g.length]:=rfl
   repeat' (first
   |with_reducible (first|refine ai ?_|refine ax rfl ?_|refine aN ?_|refine hx2 _ ?_|refine hxL0 _ _ ?_)
   |(with_reducible ((first|refine ah (λK hK=>?_)|refine aI (λK hK=>?_));(first|refine Fb ?_|refine t49r12 ?_));(try simp only[SS,Nat.reduceEqDiff,ap,dj,ef,nN,aR,lenS,bg,be,ay,hgv.len,hfill,hesc]))
   |(revert hK;intro hK;(first|refine And.intro ?_ ?_|intro _|omega|(with_reducible refine hK _ ?_;clear hK K))))
   refine((hO2.keepS (i:=352) (by decide)).keepS (i:=896) (by decide)).app (ys:=[c]) jy (by simp only[cU,ba,if_true,dz,List.flatMap_cons,List.flatMap_nil,gq,sl,hcl];rfl) rfl (by decide) (by simp only[List.length_cons,List.length_nil,List.length_take];omega) λv' m' hO' hH' hf=>?_
   refine hK _ ?_;clear hK K;obtain⟨L3,H3⟩:=m';simp only at hH';subst hH'
   repeat' (first
   |with_reducible refine hn1 _ ?_
   |(with_reducible (refine aI (λK hK=>?_);refine t49r5 ?_);(try simp only[SS,Nat.reduceEqDiff,hwi]))
   |(with_reducible refine hK _ ?_;clear hK K))
   refine hnL1 (g.length - (i+1)) _ (by omega) ⟨i+1,v',gr,L3,by omega,rfl,rfl,?_,?_⟩
   ·rw[hf 160 (by decide)];simp[bi,aq,m1]
   ·have hti:(kl g)[i]?=some c:=by rw[kl,List.getElem?_map,List.getElem?_range (by omega),hcr];rfl
    rw[List.take_add_one,hti];exact hO'
  ·have hblt:(b:Int)<g.length:=by omega
   have hix:∀j gn (x:Nat),x<g.length→bd 1 (.ref (.l j) gn 0 g.length) (.int .i64 x)=some (.ptr (.l j) gn x):=λj gn x h1=>by
    rw[bD,if_pos ⟨by omega,by omega⟩];simp
   have hib:=λj gn=>hix j gn b (by omega);have hii:=λj gn=>hix j gn i (by omega);have hwb:IntKind.i64.wrap ((b:Int)+1)=((b+1:Nat):Int):=by rw[wI (by omega) (by omega)];rfl
   have hra:=oj (g:=g) (x:=(i:Int)) (by omega) hilt;have hrb:=oj (g:=g) (x:=(b:Int)) (by omega) hblt;rw[Int.toNat_natCast] at hra hrb;have hav:=avL_get (g:=g) (w:=(i:Int)) (b:=b) (by omega);have hd:=dom_av (g:=g) (a:=(i:Int)) (b:=(b:Int));have l1:ld1 ⟨L2,[]⟩ (.ptr (.l 160) gr i)=some (.bool (decide ((i:Int)∈ord g))):=by rw[eX];simp only[m1,bM,fI,hra];rfl
   have l2:ld1 ⟨L2,[]⟩ (.ptr (.l 160) gr b)=some (.bool (decide ((b:Int)∈ord g))):=by rw[eX];simp only[m1,bM,fI,hrb];rfl
   have l3:ld1 ⟨L2,[]⟩ (.ptr (.l 304) g6 b)=some (.bool (avB g i b)):=by rw[eX];simp only[m2,bM,fI,hav];rfl
   have hstx:∀x:Bool,stX 1 ⟨L2,[]⟩ (.ptr (.l 352) g7 b) (.bool x)=some ⟨cF L2 352 (.arr g7 1 ((c.set b x).flatMap bS) 0),[]⟩:=λx=>by
    rw[lK m3 (by rw[kN];omega) rfl rfl,ou];rfl
   have hstv:∀x:Bool,stV 1 ⟨L2,[]⟩ 352 g7 b (some [.bool x]) (aK L2 352)=some ⟨cF L2 352 (.arr g7 1 ((c.set b x).flatMap bS) 0),[]⟩:=λx=>by
    have:=hstx x;rw[p6] at this;exact this
   have done:QL0 .normal ⟨[(0,gv),(3,.ref (.l 160) gr 0 g.length),(4,v),(5,.int .i64 i),(6,.ref (.l 304) g6 0 g.length),(7,.ref (.l 352) g7 0 g.length),(8,.int .i64 ((b+1:Nat):Int))],⟨cF L2 352 (.arr g7 1 ((c.set b (mz g i b)).flatMap bS) 0),[]⟩⟩:=by
    refine hnL0 (g.length - (b+1)) _ (by omega) ⟨b+1,c.set b (mz g i b),g6,g7,_,by omega,rfl,by rw[List.length_set,hcl],λj hj=>?_,rfl,by simp[aq,m1],by simp[aq,m2],by simp[aq],hO2.keep (by simp[aq])⟩
    by_cases hjb:b=j
    ·subst hjb
     rw[List.getElem?_set_self (by omega)];simp
    ·rw[List.getElem?_set_ne hjb,hcc j hj]
     have:decide (j<b+1)=decide (j<b):=by
      by_cases h:j<b
      ·simp[h,show j<b+1 from by omega]
      ·simp[h,show ¬j<b+1 from by omega]
     rw[this]
   rw[hd] at done
   by_cases hib2:(i:Int)=b
   ·have hib3:i=b:=by omega
    subst hib3;generalize (decide ((i:Int)∈ord g))=ra at l1 l2 done;generalize avB g (i:Int) (i:Int)=av at l3 done
    cases ra<;>cases av
    all_goals
     simp only[eq_self,decide_true,decide_false,Bool.and_true,Bool.and_false,Bool.false_and,Bool.true_and,Bool.or_true,Bool.or_false,Bool.not_true,Bool.not_false,Bool.true_or,Bool.false_or] at done
     repeat' (first
     |with_reducible (first|refine ai ?_|refine ar ?_|refine au rfl ?_|refine aj (id:=3) (λQ3 hn3 hx3 hr3 ho3=>?_)|refine hn3 _ ?_)
     |(with_reducible ((first|refine ah (λK hK=>?_)|refine aI (λK hK=>?_));(first|refine Fb ?_|refine Fa ?_|refine E9 ?_));(try simp only[SS,Nat.reduceEqDiff,ap,bI,Bool.not_true,Bool.not_false,lenS,hgv.len,hblt,hib,l1,l3,hstv,hwb]))
     |(with_reducible refine hK _ ?_;clear hK K))
     all_goals exact done
   ·generalize (decide ((i:Int)∈ord g))=ra at l1 done
    generalize (decide ((b:Int)∈ord g))=rb at l2 done;generalize avB g (i:Int) (b:Int)=av at l3 done
    cases ra<;>cases rb<;>cases av
    all_goals
     simp only[hib2,decide_true,decide_false,Bool.and_true,Bool.and_false,Bool.false_and,Bool.true_and,Bool.or_true,Bool.or_false,Bool.not_true,Bool.not_false,Bool.true_or,Bool.false_or] at done
     repeat' (first
     |with_reducible (first|refine ai ?_|refine ar ?_|refine au rfl ?_|refine aj (id:=3) (λQ3 hn3 hx3 hr3 ho3=>?_)|refine hn3 _ ?_)
     |(with_reducible ((first|refine ah (λK hK=>?_)|refine aI (λK hK=>?_));(first|refine Fb ?_|refine Fa ?_|refine E9 ?_));(try simp only[SS,Nat.reduceEqDiff,ap,bI,Bool.not_true,Bool.not_false,lenS,hgv.len,hblt,hib,hii,l1,l2,l3,hstv,hib2,hwb]))
     |(with_reducible refine hK _ ?_;clear hK K))
     all_goals exact done
end Go.Cm
