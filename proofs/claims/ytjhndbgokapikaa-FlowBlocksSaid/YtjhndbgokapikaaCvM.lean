import Derived.Test.YtjhndbgokapikaaCvI
set_option linter.unusedSimpArgs false
set_option linter.unusedVariables false
namespace Go.Cm
section
variable {K:KM}{Q:PM}{P:Program}{w w':World}{m:Mem}
theorem Av {e:TypeId}{n:Nat}(h:Lq P e n=true):∃i,P.info? e=some i∧i.bytes≤1024∧n≤70368744177664∧n*i.bytes≤140737488355328:=by
 unfold Lq oP at h
 cases hi:P.info? e with
 |none=>simp[hi] at h
 |some i=>simp[hi,sh] at h;exact⟨i,rfl,by simpa using h.1,of_decide_eq_true h.2.1,h.2.2⟩
theorem vP {w:World}{g:Nat}{cur cur':Array Value}{t:TypeId}(h:w.heap[g]?=some (.cells cur t (0,0))):(w.setRow g cur').heap[g]?=some (.cells cur' t (0,0)):=setRow_heap w g cur cur' t (0,0) h
theorem sF {w:World}{g:Nat}{cur cur':Array Value}{t:TypeId}(h:w.heap[g]?=some (.cells cur t (0,0))):Kept w (w.setRow g cur'):=by
 refine⟨rfl,rfl,λa _=>?_,by simp[World.setRow]⟩
 by_cases ha:a.block=g
 ·subst ha
  simp only[World.frozen?,vP (cur':=cur') h,h]
 ·simp only[World.frozen?]
  rw[setRow_other w g a.block cur' ha]
theorem mj {w:World}{g:Nat}{cur':Array Value}:(w.setRow g cur').heap.size=w.heap.size:=by simp[World.setRow]
theorem xU {M:MM}{loc:Bool}{cs:List CV}{vs:List Value}(hall:cs.all bE=true) (h:Vs K M Q loc cs vs):∀v∈vs,v.oneCell'=true:=by
 intro v hv;obtain⟨i,hi⟩:=List.getElem?_of_mem hv;have hlt:i<cs.length:=by have:=(List.getElem?_eq_some_iff.1 hi).1;rw[bT h] at this;exact this
 obtain⟨u,h1,h2⟩:=dX h (List.getElem?_eq_getElem hlt);rw[hi] at h1;simp only[Option.some.injEq] at h1;subst h1;exact D4 (List.all_eq_true.1 hall _ (List.getElem_mem hlt)) h2
theorem mu (hR:MR K m.get Q w) {k:Key}{x y:HO}(hx:m.get k=some x) (hxm:x.isMap=false) {q:Pl}(hq:Q k=some q) {base' off:Nat}
  (hgn:x.gn<y.gn∨(y=x.withCells y.cells∧base'=q.base∧y.cells.length=x.cells.length)) (hym:y.isMap=false) {vs:List Value}(hone:∀v∈vs,v.oneCell'=true)
  (hoff:q.base+x.vl≤off) (hfit:off+vs.length≤q.bsz) (hb:base'+y.cells.length≤q.bsz) (hvl:q.base+x.vl≤base'+y.vl)
  (hflag:en k x=en k y)
  (hrow:∀(i:Nat) (c:CV),y.cells[i]?=some c→bE c=true ∧
   ((∃j v,base'+i=off+j∧vs[j]?=some v∧V K m.get Q (en k y) c v)∨(¬(off≤base'+i∧base'+i<off+vs.length)∧∃i',x.cells[i']?=some c∧q.base+i'=base'+i)))
  (hyv:x.gn<y.gn→∀g cs vl,y≠.var g cs vl:=by intro h g cs vl e;first|(cases e;done)|(subst e;simp_all [HO.withCells];done)|omega) :
  ∃w',(storeCells ⟨q.blk,off,none⟩ vs).run P w=.ok () w'∧Trans K m Q w K (m.set k y) (bB Q k (some ⟨q.blk,base',q.bsz⟩)) w':=by
 have hok:=hR.objs k x hx q hq;have hcell:CellsOK K m.get Q w (en k x) x.cells x.vl q:=by cases x<;>simp_all [HO.isMap]
 obtain⟨⟨es,t,h1,h2,h3⟩,h4,h5⟩:=hcell;have hst:=run_storeCells_at P q.blk off t vs 0 es w h1 (by omega) hone;simp only[Nat.add_zero] at hst
 refine⟨_,hst,?_⟩
 generalize hnew:(es.toList.take off++vs++es.toList.drop (off+vs.length)).toArray=es' at *;have hsz':es'.size=es.size:=by
  subst hnew;simp only[List.size_toArray,List.length_append,List.length_take,List.length_drop,Array.length_toList];omega
 have hget':∀i,es'[i]?=if off≤i∧i<off+vs.length then vs[i - off]? else es[i]?:=by
  intro i;subst hnew;simp only[List.getElem?_toArray]
  by_cases ha:i<off
  ·rw[if_neg (by omega),List.append_assoc,List.getElem?_append_left (by simp;omega),List.getElem?_take,if_pos ha,Array.getElem?_toList]
  ·by_cases hb':i<off+vs.length
   ·rw[if_pos (by omega),List.append_assoc,List.getElem?_append_right (by simp;omega),List.getElem?_append_left (by simp;omega)]
    congr 1;simp;omega
   ·rw[if_neg (by omega),List.getElem?_append_right (by simp;omega),List.getElem?_drop,Array.getElem?_toList]
    congr 1;simp;omega
 have hheap:=vP (cur':=es') h1;have hgen:∀z,m.get k=some z→z.gn≤y.gn∧(z.gn=y.gn→wN z y (Q k) (some ⟨q.blk,base',q.bsz⟩)):=by
  intro z hz;rw[hx] at hz;simp only[Option.some.injEq] at hz;subst hz;rcases hgn with hlt|⟨he,hb',hl⟩
  ·exact⟨Nat.le_of_lt hlt,λhe=>absurd he (Nat.ne_of_lt hlt)⟩
  ·have hg:x.gn=y.gn:=by rw[he];cases x<;>rfl
   refine⟨by omega,λ_=>⟨λp hp=>by rw[hq] at hp;simp only[Option.some.injEq] at hp;subst hp;subst hb';rfl,λg sz cs vl hh=>?_⟩⟩
   subst hh
   exact⟨y.cells,vl,by rw[he];simp[HO.withCells,HO.cells],by simpa[HO.cells] using Nat.le_of_eq hl.symm⟩
 have hG:Grow true m.get Q (upd m.get k y) (bB Q k (some ⟨q.blk,base',q.bsz⟩)):=Grow.upd hgen;have hothers:∀b,b≠q.blk→(w.setRow q.blk es').heap[b]?=w.heap[b]?:=λb hb=>setRow_other w q.blk b es' (λe=>hb e);have hmr:MR K (upd m.get k y) (bB Q k (some ⟨q.blk,base',q.bsz⟩)) (w.setRow q.blk es'):=by
  refine hR.write hq rfl hgen hothers mj (λo v hv=>?_) ?_ (λg cs vl e=>by
   rcases hgn with hlt|⟨he,hb',_⟩
   ·exact absurd e (hyv hlt g cs vl)
   ·rw[hb']
    have:∃g' cs' vl',x=.var g' cs' vl':=by
     generalize y.cells=yc at he;rw[e] at he
     cases x with
     |var g' cs' vl'=>exact⟨_,_,_,rfl⟩
     |arr _ _ _ _=>exact absurd he (by simp[HO.withCells])
     |map _ _=>exact absurd he (by simp[HO.withCells])
    obtain⟨g',cs',vl',rfl⟩:=this;exact hR.v0 _ _ _ _ _ hx hq)
  ·have hcur:=hR.stab _ _ _ hv
   rw[gM h1] at hcur;rw[gM hheap,hget' o];have:o<q.base+x.vl:=by
    rcases Nat.lt_or_ge o (q.base+x.vl) with h|h
    ·exact h
    ·rw[h5 o h] at hv;cases hv
   rw[if_neg (by omega)];exact hcur
  ·intro p hp
   simp only[bB,if_true,Option.some.injEq] at hp;subst hp;have hres:CellsOK K (upd m.get k y) (bB Q k (some ⟨q.blk,base',q.bsz⟩)) (w.setRow q.blk es') (en k y) y.cells y.vl ⟨q.blk,base',q.bsz⟩:=by
    refine⟨⟨es',t,hheap,by simp only[];omega,λi c hc=>?_⟩,hb,λo ho=>h5 o (by simp only[] at ho;omega)⟩
    obtain⟨hl,hr⟩:=hrow i c hc
    refine⟨hl,?_⟩
    have up:∀v,V K m.get Q (en k y) c v→V K (upd m.get k y) (bB Q k (some ⟨q.blk,base',q.bsz⟩)) (en k y) c v:=by
     intro v hv;refine V_mono (λ_ _ _ h=>h) hG.sub (λh=>h) ?_ c v hv
     cases en k y
     ·exact hG.sub
     ·exact hG
    rcases hr with⟨j,v,he,hv,hVv⟩|⟨hn,i',hi',he⟩
    ·refine⟨v,?_,up v hVv⟩
     have hj:j<vs.length:=(List.getElem?_eq_some_iff.1 hv).1;simp only[];rw[hget',if_pos (by omega),show base'+i - off=j from by omega];exact hv
    ·obtain⟨_,v,hv,hVv⟩:=h3 i' c hi'
     refine⟨v,?_,up v (by rw[←hflag];exact hVv)⟩
     simp only[];rw[hget',if_neg hn,←he];exact hv
   cases y<;>first|exact hres|simp[HO.isMap] at hym
 refine⟨?_,λ_ _ _ h=>h,?_,by rw[mj];exact Nat.le_refl _,λb _ hne=>hothers b λhe=>hne k q hq he.symm,λ_ _ _ h=>.inl h,λk' p hp=>?_,sF h1⟩
 ·rw[bQ m k y x hx];exact hmr
 ·rw[bQ m k y x hx];exact hG
 ·simp only[bB] at hp
  split at hp
  ·rename_i he;subst he
   simp only[Option.some.injEq] at hp;subst hp;exact .inl ⟨q,hq,rfl⟩
  ·exact .inl ⟨p,hp,rfl⟩
end
end Go.Cm
namespace Go.Cm
section
variable {K:KM}{Q:PM}{P:Program}{w w':World}{m:Mem}
theorem KL {ts:Array TypeId}{ty t u e e':TypeId}{sz:Nat}(h0:ts[0]?=some t) (h1:ts[1]?=some u) (ht:P.underlying t=some (.slice e)) (hu:P.underlying u=some (.slice e'))
  (hs:bK P e=some sz) {base a:Option Addr}{sLen sCap n c:Nat}{news:List Value}(hnew:(Builtin.firstCells sz n (.slice a n c)).run P w=.ok news.toArray w) (h:sLen+n≤sCap) :
  (Builtin.append_ ts ty #[.slice base sLen sCap,.slice a n c]).run P w=match base with
   |some b=>((storeCells (b.add (sLen*sz)) news).run P w).andThen λ_ w'=>.ok (.slice base (sLen+n) sCap) w'
   |none=>.ok (.slice base (sLen+n) sCap) w:=by
 have hsz:=co (w:=w) hs
 cases base<;>simp[Builtin.append_,h0,h1,aY ht,aY hu,hsz,Builtin.lenOf,h,hnew]
theorem kw {ts:Array TypeId}{ty t u e e':TypeId}{sz:Nat}(h0:ts[0]?=some t) (h1:ts[1]?=some u) (ht:P.underlying t=some (.slice e)) (hu:P.underlying u=some (.slice e'))
  (hs:bK P e=some sz) {i:TypeInfo}(hi:P.info? e=some i) {z:Value}(hz:i.zero=some z) {base a:Option Addr}{sLen sCap n c:Nat}{news olds:List Value}(hnew:∀w',w'.heap=w.heap→(Builtin.firstCells sz n (.slice a n c)).run P w'=.ok news.toArray w')
  (hold:∀w',w'.heap=w.heap→(Builtin.firstCells sz sLen (.slice base sLen sCap)).run P w'=.ok olds.toArray w') (h:sCap<sLen+n) (hsmall:sLen+n≤70368744177664) (hb:(sLen+n)*i.bytes≤140737488355328) :
  ∃w',(Builtin.append_ ts ty #[.slice base sLen sCap,.slice a n c]).run P w=.ok (.slice (some ⟨w.heap.size,0,none⟩) (sLen+n) (grownCap w (sLen+n) sCap e)) w' ∧
   Pushed w w' (.cells (olds.toArray++news.toArray++Builtin.zeroCells z.cells (grownCap w (sLen+n) sCap e - (sLen+n))) e (0,0)):=by
 have hsz:∀w',(sizeOf e).run P w'=.ok sz w':=λw'=>co hs;have hn:¬(sLen+n≤sCap):=by omega
 have h63':¬(9223372036854775807<((sLen:Int)+(n:Int))):=by omega
 have hnext:=nextslicecap_le h;have h48':¬(281474976710656<Builtin.nextslicecap (sLen+n) sCap*i.bytes):=by
  have h1:Builtin.nextslicecap (sLen+n) sCap*i.bytes≤(2*(sLen+n))*i.bytes:=Nat.mul_le_mul (by omega) (Nat.le_refl _);rw[Nat.mul_assoc] at h1;omega
 have hf:=hnew w.drew rfl;have hfo:=hold w.drew rfl
 refine⟨w.drew.alloc (.cells (olds.toArray++news.toArray++Builtin.zeroCells z.cells (grownCap w (sLen+n) sCap e - (sLen+n))) e),?_,rfl,rfl,rfl⟩
 simp[Builtin.append_,h0,h1,aY ht,aY hu,hsz,Builtin.lenOf,hn,typeInfo,zeroValue,hi,hz,h63',h48',Question.forced,newRow,grownCap,hf,hfo]
 congr 2
 apply Array.ext'
 simp[List.append_assoc]
theorem rF (hR:MR K m.get Q w) {glob:Bool}{j:Nat}{e e' t u ty:TypeId}{ts:Array TypeId}{s x c:CV}{m':Mem}{sv xv:Value}
  (h0:ts[0]?=some t) (h1:ts[1]?=some u) (ht:P.underlying t=some (.slice e)) (hu:P.underlying u=some (.slice e'))
  (hs:Vt K m Q s sv) (hx:Vt K m Q x xv) (h:ky P glob j e s x m=some (c,m')) :
  ∃Q' w' r,(Builtin.append_ ts ty #[sv,xv]).run P w=.ok r w'∧Trans K m Q w K m' Q' w'∧Vt K m' Q' c r:=by
 unfold ky at h
 split at h
 ·rename_i sz z hsz hz
  split at h
  ·simp at h
  ·rename_i hzs
   simp only[not_or,Decidable.not_not] at hzs
   split at h
   ·rename_i ys n hys hn
    obtain⟨news,a,c0,rfl,hVn,halln,hlenn,hfc⟩:=iG (P:=P) hR hx hys hn;have hfc':∀w',w'.heap=w.heap→(Builtin.firstCells sz n (.slice a n c0)).run P w'=.ok news.toArray w':=λw' hw=>by
     have:=hfc w' hw n (Nat.le_refl _)
     rwa [List.take_of_length_le (by omega)] at this
    obtain⟨zv,hz1,hz2,hz3,i,hi,hiz⟩:=js (K:=K) (M:=m.get) (Q:=Q) (w:=w) (loc:=false) hz;have hzlen:zv.cells.size=sz:=by have:=bT hz3;simp only[Array.length_toList] at this;omega
    split at h
    · -- nothing so far
     simp only[Vt,V] at hs;subst hs
     split at h
     ·rename_i hn0
      subst hn0;simp only[Option.some.injEq,Prod.mk.injEq] at h;obtain⟨rfl,rfl⟩:=h
      refine⟨Q,w,.slice none 0 0,?_,Trans.refl hR,by simp[Vt,V]⟩
      rw[KL h0 h1 ht hu hsz (hfc' w rfl) (by omega)]
     ·rename_i hn0
      split at h
      ·rename_i hsm
       obtain⟨i',hi',_,hsmall,hb⟩:=Av hsm;rw[hi] at hi';simp only[Option.some.injEq] at hi';subst hi';simp only[Option.some.injEq,Prod.mk.injEq] at h;obtain⟨rfl,rfl⟩:=h;obtain⟨w',hrun,hheap⟩:=kw (ty:=ty) h0 h1 ht hu hsz hi hiz (base:=none) (sLen:=0) (sCap:=0) (olds:=[]) hfc' (λw' _=>by simp[Builtin.firstCells]) (by omega) (by omega) (by rw[Nat.zero_add];exact hb);obtain⟨Q',hT,hq⟩:=lA hR glob j (λg=>.arr g sz ys 0) (λ_=>rfl) (λ_=>rfl) (λ_=>rfl) (cs:=ys) (λ_=>rfl) halln false (by simp) hVn (λi v hv=>by
        rw[Array.getElem?_append_left (by simp;exact(List.getElem?_eq_some_iff.1 hv).1)];simpa using hv) hheap
       refine⟨Q',w',_,hrun,hT,?_⟩
       obtain⟨hget,_⟩:=fN m glob j (λg=>HO.arr g sz ys 0) (λ_=>rfl);have hge:=grownCap_ge w (0+n) 0 e;have hlen:=bT hVn;have hcap:grownCap w (0+n) 0 e*sz=n*sz+(grownCap w (0+n) 0 e - (0+n))*sz:=by
        rw[←Nat.add_mul];congr 1;omega
       have e0:(0+n)*sz=n*sz:=by rw[Nat.zero_add]
       have hk2:(m.add glob j λg=>HO.arr g sz ys 0).2.2.get (m.add glob j λg=>HO.arr g sz ys 0).1=some (.arr (m.add glob j λg=>HO.arr g sz ys 0).2.1 sz ys 0):=by rw[hget];simp[upd]
       have:=Kz (K:=K) (Q':=Q') hk2 hq (len:=0+n) (cap:=grownCap w (0+n) 0 e) hge (by
        simp only[Array.size_append,List.size_toArray,size_zeroCells,hzlen,List.length_nil];omega) (by omega)
       simpa using this
      ·simp at h
    ·rename_i k gn off len
     split at h
     ·rename_i g s' cs vl hget
      split at h
      ·rename_i hcond
       obtain⟨rfl,rfl,hvl,hsm⟩:=hcond;simp only[Option.some.injEq,Prod.mk.injEq] at h;obtain⟨rfl,rfl⟩:=h;obtain⟨i',hi',_,hsmall,hb⟩:=Av hsm;rw[hi] at hi';simp only[Option.some.injEq] at hi';subst hi';obtain⟨olds,ob,cap,hsv,hVo,hallo,hleno,hfo⟩:=iG (P:=P) (sz:=s') (n:=len) (ys:=(cs.drop off).take (len*s')) hR hs (by simp[content,hget]) (by simp[clen]);have hfo':∀w',w'.heap=w.heap→(Builtin.firstCells s' len (.slice ob len cap)).run P w'=.ok olds.toArray w':=λw' hw=>by
        have:=hfo w' hw len (Nat.le_refl _);rw[hsv] at this
        rwa [List.take_of_length_le (by omega)] at this
       have hs':=hs;simp only[Vt,V] at hs';obtain⟨hk,y,a',cap',hy,_,hv',hcap',_,hra⟩:=hs';rw[hsv] at hv';simp only[Value.slice.injEq] at hv';obtain⟨rfl,_,rfl⟩:=hv';rw[hget] at hy;simp only[Option.some.injEq] at hy;subst hy;obtain⟨sz',cs',vl',he,hra⟩:=hra rfl;simp only[HO.arr.injEq] at he;obtain⟨_,rfl,rfl,rfl⟩:=he;subst hsv;have hlena:=bT hVo;have hlenb:=bT hVn;have hget2:∀y0,m.get k=some y0→y0.gn<(HO.arr (g+1) s' ((cs.drop off).take (len*s')++ys) (vl - off)).gn:=by
        intro y0 hy0;rw[hget] at hy0;simp only[Option.some.injEq] at hy0;subst hy0;exact Nat.lt_succ_self g
       have hflag:∀gg cc vv,en k (.arr gg s' cc vv)=false:=by intro gg cc vv;cases k<;>rfl
       by_cases hroom:len+n≤cap
       ·have hpl:=KL (ty:=ty) h0 h1 ht hu hsz (base:=ob) (sLen:=len) (sCap:=cap) (hfc' w rfl) hroom
        rcases hra with hc0|⟨q,hq,rfl,hb1,hb2⟩
        · -- no room at all, nothing to do
         have hl0:len=0:=by omega
         have hn0:n=0:=by omega
         subst hl0 hn0 hc0;have hnil:ys=[]:=List.eq_nil_of_length_eq_zero (by omega);have hnn:news=[]:=List.eq_nil_of_length_eq_zero (by omega);subst hnil hnn;have hT:Trans K m Q w K (m.set k (.arr (g+1) s' ((cs.drop off).take (0*s')++[]) (vl - off))) (bB Q k none) w:=by
          have hmv:=hR.move (k:=k) (x:=.arr (g+1) s' ((cs.drop off).take (0*s')++[]) (vl - off)) (q:=none) (w':=w) hget2 (λ_ _=>rfl) (Nat.le_refl _) (by simp) (by
           intro q hq;simp[bB] at hq)
          refine⟨by rw[bQ m k _ _ hget];exact hmv,λ_ _ _ h=>h,by
           rw[bQ m k _ _ hget];exact Grow.upd λy hy=>⟨Nat.le_of_lt (hget2 y hy),λhe=>absurd he (Nat.ne_of_lt (hget2 y hy))⟩,Nat.le_refl _,λ_ _ _=>rfl,λ_ _ _ h=>.inl h,λk' p hp=>?_,Kept.refl w⟩
          simp only[bB] at hp
          split at hp
          ·simp at hp
          ·exact .inl ⟨p,hp,rfl⟩
         refine⟨_,w,.slice ob 0 0,?_,hT,?_⟩
         ·rw[hpl]
          cases ob<;>simp[storeCells]
         ·simp only[Vt,V]
          refine⟨hk,_,ob,0,by rw[bQ m k _ _ hget];unfold upd;rw[if_pos rfl],Nat.le_refl _,rfl,Nat.le_refl _,.inl rfl,λ_=>⟨_,_,_,rfl,.inl rfl⟩⟩
        ·have hstep:(len+n)*s'≤cap*s':=Nat.mul_le_mul_right _ hroom
         rw[Nat.add_mul] at hstep;have hvl':q.base+vl≤q.base+off+len*s':=by omega
         obtain⟨w',hst,hT⟩:=mu (P:=P) hR hget rfl hq (y:=.arr (g+1) s' ((cs.drop off).take (len*s')++ys) (vl - off)) (base':=q.base+off) (off:=q.base+off+len*s') (vs:=news) (.inl (Nat.lt_succ_self g)) rfl
          (xU halln hVn) (by simpa[HO.vl] using hvl') (by omega) (by simp only[HO.cells,List.length_append];omega) (by simp only[HO.vl];omega) (by rw[hflag,hflag]) (by
           intro i c hc;simp only[HO.cells] at hc ⊢;rw[hflag]
           by_cases hi1:i<len*s'
           ·rw[List.getElem?_append_left (by omega)] at hc
            refine⟨List.all_eq_true.1 hallo c (List.mem_of_getElem? hc),.inr ⟨by omega,off+i,?_,by omega⟩⟩
            rw[List.getElem?_take] at hc
            split at hc
            ·rwa [List.getElem?_drop] at hc
            ·omega
           ·rw[List.getElem?_append_right (by omega)] at hc
            obtain⟨v,hv,hVv⟩:=dX hVn hc
            exact⟨List.all_eq_true.1 halln c (List.mem_of_getElem? hc),.inl ⟨i - len*s',v,by omega,by rw[show i - len*s'=i - ((cs.drop off).take (len*s')).length from by omega];exact hv,hVv⟩⟩)
         refine⟨_,w',.slice (some ⟨q.blk,q.base+off,none⟩) (len+n) cap,?_,hT,?_⟩
         ·rw[hpl]
          simp only[dY];rw[hst];rfl
         ·have:=Kz (K:=K) (Q':=bB Q k (some ⟨q.blk,q.base+off,q.bsz⟩)) (m'':=m.set k (.arr (g+1) s' ((cs.drop off).take (len*s')++ys) (vl - off))) (key:=k) (by rw[bQ m k _ _ hget];unfold upd;rw[if_pos rfl]) (q:=⟨q.blk,q.base+off,q.bsz⟩) (by simp[bB]) (len:=len+n) (cap:=cap) hroom (by simpa using hb1) (by
           rw[Nat.add_mul,List.length_append];omega)
          exact this
       ·obtain⟨w',hrun,hheap⟩:=kw (ty:=ty) h0 h1 ht hu hsz hi hiz (base:=ob) (sLen:=len) (sCap:=cap) (olds:=olds) hfc' hfo' (by omega) (by omega) hb
        have hge:=grownCap_ge w (len+n) cap e;have hcap:grownCap w (len+n) cap e*s'=(len+n)*s'+(grownCap w (len+n) cap e - (len+n))*s':=by
         rw[←Nat.add_mul];congr 1;omega
        generalize hes:olds.toArray++news.toArray++Builtin.zeroCells zv.cells (grownCap w (len+n) cap e - (len+n))=es at *;have hessz:es.size=len*s'+n*s'+(grownCap w (len+n) cap e - (len+n))*s':=by
         subst hes;simp only[Array.size_append,List.size_toArray,size_zeroCells,hzlen];omega
        have hpre:∀(i:Nat) (v:Value),(olds++news)[i]?=some v→es[i]?=some v:=by
         intro i v hv;subst hes;have hlt:=(List.getElem?_eq_some_iff.1 hv).1;rw[Array.getElem?_append_left (by simpa using hlt)];simpa using hv
        have hold:∀b,b<w.heap.size→w'.heap[b]?=w.heap[b]?:=λb hb=>by rw[hheap.1,Array.getElem?_push];rw[if_neg (by omega)]
        have hsz':w'.heap.size=w.heap.size+1:=by rw[hheap.1];simp
        generalize hy:HO.arr (g+1) s' ((cs.drop off).take (len*s')++ys) (vl - off)=y at *;have hG:Grow true m.get Q (upd m.get k y) (bB Q k (some ⟨w.heap.size,0,es.size⟩)):=
         Grow.upd λz hz=>⟨Nat.le_of_lt (hget2 z hz),λhe=>absurd he (Nat.ne_of_lt (hget2 z hz))⟩
        have hmv:=hR.move (k:=k) (x:=y) (q:=some ⟨w.heap.size,0,es.size⟩) (w':=w') hget2 hold (by omega) (λp hp=>by
          simp only[Option.some.injEq] at hp;subst hp;exact⟨Nat.le_refl _,by show w.heap.size<w'.heap.size;omega⟩) (by
         intro p hp;simp only[bB,if_true,Option.some.injEq] at hp;subst hp;subst hy
         refine(show CellsOK _ _ _ _ _ _ _ _ from⟨⟨es,e,by rw[hheap.1];simp,rfl,λi c hc=>?_⟩,?_,λo _=>?_⟩)
         ·simp only[HO.cells] at hc
          have hc':((cs.drop off).take (len*s')++ys)[i]?=some c:=hc;obtain⟨v,hv,hVv⟩:=dX (gF hVo hVn) hc'
          refine⟨?_,v,by simpa using hpre i v hv,?_⟩
          ·have hall:((cs.drop off).take (len*s')++ys).all bE=true:=by rw[List.all_append,hallo,halln];rfl
           exact List.all_eq_true.1 hall c (List.mem_of_getElem? hc')
          ·exact V_mono (λ_ _ _ h=>h) hG.sub (by rw[hflag];simp) (by exact hG.sub) c v hVv
         ·simp only[HO.cells,List.length_append];omega
         ·cases hk':K w.heap.size o with
          |none=>rfl
          |some v=>
           have:=World.block_lt_of_cell? _ _ (hR.stab _ _ _ hk');simp at this)
        have hT:Trans K m Q w K (m.set k y) (bB Q k (some ⟨w.heap.size,0,es.size⟩)) w':=by
         refine⟨by rw[bQ m k _ _ hget];exact hmv,λ_ _ _ h=>h,by rw[bQ m k _ _ hget];exact hG,by omega,λb hb _=>hold b hb,λ_ _ _ h=>.inl h,λk' p hp=>?_,hheap.kept (.inl ⟨_,_,rfl⟩)⟩
         simp only[bB] at hp
         split at hp
         ·rename_i he;subst he
          simp only[Option.some.injEq] at hp;subst hp;exact .inr ⟨Nat.le_refl _,λh hh=>⟨y,by rw[bQ m k _ _ hget];simp[upd],hget2 h hh⟩⟩
         ·exact .inl ⟨p,hp,rfl⟩
        refine⟨_,w',_,hrun,hT,?_⟩
        subst hy;have:=Kz (K:=K) (Q':=bB Q k (some ⟨w.heap.size,0,es.size⟩)) (m'':=m.set k (.arr (g+1) s' ((cs.drop off).take (len*s')++ys) (vl - off))) (key:=k) (by rw[bQ m k _ _ hget];unfold upd;rw[if_pos rfl]) (q:=⟨w.heap.size,0,es.size⟩) (by simp[bB]) (len:=len+n) (cap:=grownCap w (len+n) cap e) hge (by
         simp only[];rw[hcap,hessz,Nat.add_mul];omega) (by rw[Nat.add_mul,List.length_append];omega)
        exact this
      ·simp at h
     ·simp at h
    ·simp at h
   ·simp at h
 ·simp at h
end
end Go.Cm
namespace Go.Cm
section
variable {K:KM}{Q:PM}{P:Program}{w w':World}{m:Mem}
theorem Vs_take {M:MM}{loc:Bool}{cs:List CV}{vs:List Value}(h:Vs K M Q loc cs vs) (n:Nat):Vs K M Q loc (cs.take n) (vs.take n):=by
 refine pi (by simp[bT h]) λi c hc=>?_;rw[List.getElem?_take] at hc
 split at hc
 ·rename_i hi
  obtain⟨v,h1,h2⟩:=dX h hc
  exact⟨v,by rw[List.getElem?_take,if_pos hi];exact h1,h2⟩
 ·simp at hc
theorem fC (hR:MR K m.get Q w) {k:Key}{x:HO}(hx:m.get k=some x) (hxm:x.isMap=false) {q:Pl}(hq:Q k=some q) {off:Nat}{cs:List CV}{vs:List Value}
  (hall:cs.all bE=true) (hV:Vs K m.get Q (en k x) cs vs) (hvl:x.vl≤off) (hfit:off+cs.length≤x.cells.length) :
  ∃w' Q',(storeCells ⟨q.blk,q.base+off,none⟩ vs).run P w=.ok () w'∧Trans K m Q w K (m.set k (x.withCells (ay x.cells off cs))) Q' w':=by
 have hok:=hR.objs k x hx q hq;have hcell:CellsOK K m.get Q w (en k x) x.cells x.vl q:=by cases x<;>simp_all [HO.isMap]
 have hlen:=bT hV;have hwc:(x.withCells (ay x.cells off cs)).cells=ay x.cells off cs:=by cases x<;>simp_all [HO.withCells,HO.cells,HO.isMap]
 have hwv:(x.withCells (ay x.cells off cs)).vl=x.vl:=by cases x<;>rfl
 have hwm:(x.withCells (ay x.cells off cs)).isMap=false:=by cases x<;>simp_all [HO.withCells,HO.isMap]
 have hwf:en k x=en k (x.withCells (ay x.cells off cs)):=by cases x<;>cases k<;>rfl
 obtain⟨w',h1,h2⟩:=mu (P:=P) hR hx hxm hq (y:=x.withCells (ay x.cells off cs)) (base':=q.base) (off:=q.base+off) (vs:=vs)
  (.inr ⟨by rw[hwc],rfl,by rw[hwc,ff hfit]⟩) hwm (xU hall hV) (by omega) (by have:=hcell.fits;omega) (by rw[hwc,ff hfit];exact hcell.fits) (by rw[hwv];exact Nat.le_refl _) hwf (by
   intro i c hc;rw[hwc,iq hfit] at hc;rw[←hwf]
   split at hc
   ·rename_i hi
    obtain⟨v,hv,hVv⟩:=dX hV hc
    exact⟨List.all_eq_true.1 hall c (List.mem_of_getElem? hc),.inl ⟨i - off,v,by omega,hv,hVv⟩⟩
   ·rename_i hi
    obtain⟨es,t,_,_,h3⟩:=hcell.row
    exact⟨(h3 i c hc).1,.inr ⟨by omega,i,hc,rfl⟩⟩)
  (λh=>absurd h (by cases x<;>exact Nat.lt_irrefl _))
 exact⟨w',_,h1,h2⟩
theorem sx {k:Key}{gn off:Nat}{h:HO}{v:Value}(hp:Vt K m Q (.ptr k gn off) v) (hget:m.get k=some h) (hg:h.gn=gn) :
  ∃q,Q k=some q∧v=.pointer (some ⟨q.blk,q.base+off,none⟩):=by
 simp only[Vt,V] at hp;obtain⟨_,y,a,hy,_,rfl,hr⟩:=hp;rw[hget] at hy;simp only[Option.some.injEq] at hy;subst hy;obtain⟨q,hq,rfl⟩:=hr hg.symm
 exact⟨q,hq,rfl⟩
theorem eb (hR:MR K m.get Q w) {cs cs':List CV}{vs:List Value}{m':Mem}(hV:Vs K m.get Q true cs vs) (h:bp m cs=some (cs',m')) :
  ∃K',Look K m K' m' Q w∧Vs K' m'.get Q false cs' vs∧(cs.all bE=true→cs'.all bE=true)∧cs'.length=cs.length:=
 e8 (vW (K:=K) iC) cs cs' K m m' vs hR hV h
theorem qr (hR:MR K m.get Q w) {p:CV}{cs:List CV}{v:Value}{vs:List Value}{m':Mem}(hp:Vt K m Q p v) (hall:cs.all bE=true) (hV:Vs K m.get Q true cs vs) (h:fT m p cs=some m') :
  ∃b o K' Q' w',v=.pointer (some ⟨b,o,none⟩)∧(storeCells ⟨b,o,none⟩ vs).run P w=.ok () w'∧Trans K m Q w K' m' Q' w':=by
 unfold fT at h
 split at h
 ·rename_i k gn off
  split at h
  ·rename_i g cells vl hget
   split at h
   ·rename_i hc
    obtain⟨rfl,hfit,hvl⟩:=hc;obtain⟨q,hq,rfl⟩:=sx hp hget rfl
    cases k with
    |l j=>
     simp only[Option.some.injEq] at h;subst h;obtain⟨w',Q',h1,h2⟩:=fC (P:=P) hR hget rfl hq hall (by simpa[en] using hV) hvl hfit
     exact⟨_,_,K,Q',w',rfl,h1,h2⟩
    |g n=>
     simp only[Option.map_eq_some_iff] at h;obtain⟨⟨cs',m1⟩,he,rfl⟩:=h;obtain⟨K1,hl,hV1,hall1,hlen1⟩:=eb hR hV he;have hget1:m1.get (.g n)=some (.var g cells vl):=by
      simp only[Mem.get] at hget ⊢;rw[hl.hh];exact hget
     obtain⟨w',Q',h1,h2⟩:=fC (P:=P) hl.mr hget1 rfl hq (hall1 hall) (by simpa[en] using hV1) hvl (by simp only[HO.cells];omega)
     exact⟨_,_,K1,Q',w',rfl,h1,hl.toTrans.trans h2⟩
   ·simp at h
  ·rename_i g sz cells vl hget
   split at h
   ·rename_i hc
    obtain⟨rfl,hfit,hvl⟩:=hc;obtain⟨q,hq,rfl⟩:=sx hp hget rfl
    cases he:bp m cs with
    |none=>simp[he] at h
    |some r=>
     obtain⟨cs',m1⟩:=r;simp only[he,Option.bind_some] at h;obtain⟨K1,hl,hV1,hall1,hlen1⟩:=eb hR hV he;obtain⟨nn,hnn⟩:=hl.keep _ _ hget
     split at h
     ·rename_i g' sz' cells' vl' hget1
      rw[hget1] at hnn;simp only[HO.seen,Option.some.injEq,HO.arr.injEq] at hnn;obtain⟨rfl,rfl,rfl,rfl⟩:=hnn
      split at h
      ·rename_i hc2
       simp only[Option.some.injEq] at h;subst h;have hfl:en k (.arr g' sz' cells' (max vl nn))=false:=by cases k<;>rfl
       obtain⟨w',Q',h1,h2⟩:=fC (P:=P) hl.mr hget1 rfl hq (hall1 hall) (by rw[hfl];exact hV1) hc2.2 (by simp only[HO.cells];omega)
       exact⟨_,_,K1,Q',w',rfl,h1,hl.toTrans.trans h2⟩
      ·simp at h
     ·simp at h
   ·simp at h
  ·simp at h
 ·simp at h
theorem tM (hR:MR K m.get Q w) {t:TypeId}{p c:CV}{v u:Value}{m':Mem}(hp:Vt K m Q p v) (hc:Vt K m Q c u) (h:ls P m t p c=some m') :
  ∃K' Q' w',(Instr.storeAt t v u).run P w=.ok () w'∧Trans K m Q w K' m' Q' w':=by
 unfold ls at h
 split at h
 ·rename_i n cs hs hcc
  split at h
  ·rename_i hlen
   obtain⟨hall,hV⟩:=iE hcc hc;obtain⟨b,o,K',Q',w',rfl,h1,h2⟩:=qr (P:=P) hR hp hall hV h;have hsz:=bT hV;simp only[Array.length_toList] at hsz
   refine⟨K',Q',w',?_,h2⟩
   simp only[Instr.storeAt,Instr.sureAddr,storeVar,Sem.run_bind,Sem.run_pure,Result.andThen_ok,co hs];rw[if_neg (by omega)];simpa using h1
  ·simp at h
 ·simp at h
theorem wZ (hR:MR K m.get Q w) {e t ty:TypeId}{ts:Array TypeId}{d x c:CV}{dv xv:Value}{m':Mem}(h0:ts[0]?=some t) (ht:P.underlying t=some (.slice e))
  (hd:Vt K m Q d dv) (hx:Vt K m Q x xv) (h:vT P e d x m=some (c,m')) :
  ∃Q' w' r,(Builtin.copy_ ts ty #[dv,xv]).run P w=.ok r w'∧Trans K m Q w K m' Q' w'∧Vt K m' Q' c r:=by
 unfold vT at h
 split at h
 ·rename_i sz hs
  split at h
  ·rename_i ys n dl hys hn hdl
   obtain⟨news,a,c0,rfl,hVn,halln,hlenn,hfc⟩:=iG (P:=P) hR hx hys hn;obtain⟨ad,capd,rfl,hcapd⟩:=LE hd hdl;have hf:=hfc w rfl (min n dl) (Nat.min_le_left _ _);have hsz:=co (w:=w) hs;simp only[] at h
   split at h
   ·rename_i hc0
    simp only[Option.some.injEq,Prod.mk.injEq] at h;obtain⟨rfl,rfl⟩:=h
    refine⟨Q,w,.int .i64 0,?_,Trans.refl hR,by simp[Vt,V]⟩
    rw[hc0] at hf;have hmin:Nat.min n dl=0:=hc0
    cases ad<;>simp[Builtin.copy_,h0,aY ht,Builtin.lenOf,hmin,hsz,hf,goInt,storeCells]
   ·rename_i hc0
    split at h
    ·rename_i k gn off len
     split at h
     ·rename_i g s' cs vl hget
      split at h
      ·rename_i hc
       obtain⟨rfl,rfl,hvl⟩:=hc;simp only[Option.some.injEq,Prod.mk.injEq] at h;obtain⟨rfl,rfl⟩:=h;simp only[clen,Option.some.injEq] at hdl;subst hdl;have hd':=hd;simp only[Vt,V] at hd';obtain⟨hk,y,a',cap',hy,_,hv',hcap',_,hra⟩:=hd';simp only[Value.slice.injEq] at hv';obtain⟨rfl,_,rfl⟩:=hv';rw[hget] at hy;simp only[Option.some.injEq] at hy;subst hy;obtain⟨sz',cs',vl',he,hra⟩:=hra rfl;simp only[HO.arr.injEq] at he;obtain⟨_,rfl,rfl,rfl⟩:=he;rcases hra with hz|⟨q,hq,rfl,hb1,hb2⟩
       ·omega
       ·have hfl:en k (.arr g s' cs vl)=false:=by cases k<;>rfl
        have hle:min n len*s'≤len*s':=Nat.mul_le_mul_right _ (Nat.min_le_right _ _);obtain⟨w',Q',h1,h2⟩:=fC (P:=P) hR hget rfl hq (off:=off) (cs:=ys.take (min n len*s')) (vs:=news.take (min n len*s'))
         (List.all_eq_true.2 λc hc=>List.all_eq_true.1 halln c (List.mem_of_mem_take hc)) (by rw[hfl];exact Vs_take hVn _) hvl (by simp only[HO.cells,List.length_take];omega)
        refine⟨Q',w',.int .i64 (min n len:Nat),?_,h2,by simp[Vt,V]⟩
        simp[Builtin.copy_,h0,aY ht,Builtin.lenOf,hsz,show Nat.min n len=min n len from rfl,hf,h1,goInt]
      ·simp at h
     ·simp at h
    ·simp at h
  ·simp at h
 ·simp at h
theorem Eg {n:Nat}{z:List CV}{i:Nat}(hz:0<z.length):(dM n z)[i]?=if i<n*z.length then z[i % z.length]? else none:=by
 induction n generalizing i with
 |zero=>simp[dM]
 |succ n ih=>
  simp only[dM]
  by_cases hi:i<z.length
  ·rw[List.getElem?_append_left hi,Nat.mod_eq_of_lt hi,if_pos (by rw[Nat.succ_mul];omega)]
  ·rw[List.getElem?_append_right (by omega),ih]
   have hm:(i - z.length) % z.length=i % z.length:=by
    rw[Nat.mod_eq_sub_mod (by omega:i≥z.length)]
   rw[hm,Nat.succ_mul]
   by_cases hlt:i - z.length<n*z.length
   ·rw[if_pos hlt,if_pos (by omega)]
   ·rw[if_neg hlt,if_neg (by omega)]
theorem gj {n:Nat}{z:List CV}:(dM n z).length=n*z.length:=by
 induction n with
 |zero=>simp[dM]
 |succ n ih=>simp[dM,ih,Nat.succ_mul];omega
theorem sy {n:Nat}{z:List CV}(h:z.all bE=true):(dM n z).all bE=true:=by
 induction n with
 |zero=>simp[dM]
 |succ n ih=>simp only[dM,List.all_append,h,ih,Bool.and_self]
theorem uX {M:MM}{loc:Bool}{n sz:Nat}{z:List CV}{zv:Array Value}(hz:z.length=sz) (h:Vs K M Q loc z zv.toList) :
  Vs K M Q loc (dM n z) ((Array.range (n*sz)).map (zv[· % zv.size]!)).toList:=by
 have hlen:=bT h;simp only[Array.length_toList] at hlen;refine pi (by simp[gj,hz]) λi c hc=>?_;have hlt:i<(dM n z).length:=(List.getElem?_eq_some_iff.1 hc).1;rw[gj] at hlt;have hpos:0<z.length:=by
  rcases Nat.eq_zero_or_pos z.length with h0|h0
  ·rw[h0] at hlt;omega
  ·exact h0
 rw[Eg hpos,if_pos hlt] at hc;obtain⟨v,h1,h2⟩:=dX h hc
 refine⟨v,?_,h2⟩
 simp only[Array.getElem?_toList] at h1 ⊢;rw[Array.getElem?_map,Array.getElem?_range,if_pos (by rw[←hz];exact hlt)];simp only[Option.map_some,Option.some.injEq];rw[←hz,←hlen] at *;have hb:i % zv.size<zv.size:=Nat.mod_lt _ (by omega);rw[Array.getElem?_eq_getElem hb] at h1;simp only[Option.some.injEq] at h1;rw[getElem!_pos zv _ hb];exact h1
theorem jr (hR:MR K m.get Q w) {k:Key}{g:Nat}{es es':List (CV×CV)}(hx:m.get k=some (.map g es)) {q:Pl}(hq:Q k=some q) {xs':Array MapEntry}{clk':Nat}
  (hsz:xs'.size=es'.length) (hrows:∀(i:Nat) (e:CV×CV),es'[i]?=some e→∃x,xs'[i]?=some x∧ji K m.get Q e x) (hlt:q.blk<w.heap.size) (hnc:∀o,K q.blk o=none)
  (hold:∃xs clk,w.heap[q.blk]?=some (.map xs clk)) (hst:MapKept.Stamped xs' clk') :
  Trans K m Q w K (m.set k (.map g es')) Q { w with heap:=w.heap.setIfInBounds q.blk (.map xs' clk') }:=by
 have hothers:∀b,b≠q.blk→(w.heap.setIfInBounds q.blk (Obj.map xs' clk'))[b]?=w.heap[b]?:=λb hb=>by
  rw[Array.getElem?_setIfInBounds_ne (Ne.symm hb)]
 have hsame:(bB Q k (some q))=Q:=by
  funext k';simp only[bB];split
  ·rename_i he;subst he;exact hq.symm
  ·rfl
 have hgen:∀y,m.get k=some y→y.gn≤(HO.map g es').gn∧(y.gn=(HO.map g es').gn→wN y (HO.map g es') (Q k) (some q)):=by
  intro y hy;rw[hx] at hy;simp only[Option.some.injEq] at hy;subst hy
  exact⟨Nat.le_refl _,λ_=>⟨λp hp=>by rw[hq] at hp;exact hp,λ_ _ _ _ h=>by cases h⟩⟩
 have hG:Grow true m.get Q (upd m.get k (.map g es')) Q:=by
  have:=Grow.upd (M:=m.get) (P:=Q) (k:=k) (h:=.map g es') (q:=some q) hgen
  rwa [hsame] at this
 have hmr:=hR.write (w':={ w with heap:=w.heap.setIfInBounds q.blk (.map xs' clk') }) hq (q':=q) rfl hgen hothers (by simp) (λo v hv=>by rw[hnc o] at hv;cases hv) (by
  rw[hsame];intro p hp;rw[hq] at hp;simp only[Option.some.injEq] at hp;subst hp
  refine⟨xs',clk',by simp[hlt],hsz,λi e he=>?_,hst⟩
  obtain⟨x,h1,h2,h3⟩:=hrows i e he
  exact⟨x,h1,V_mono (λ_ _ _ h=>h) hG.sub (λh=>h) hG.sub _ _ h2,V_mono (λ_ _ _ h=>h) hG.sub (λh=>h) hG.sub _ _ h3⟩)
 rw[hsame] at hmr
 refine⟨by rw[bQ m k _ _ hx];exact hmr,λ_ _ _ h=>h,by rw[bQ m k _ _ hx];exact hG,by simp,λb _ hne=>hothers b λhe=>hne k q hq he.symm,λ_ _ _ h=>.inl h,λk' p hp=>.inl ⟨p,hp,rfl⟩,rfl,rfl,λa _=>?_,by simp⟩
 obtain⟨xs,clk,hold⟩:=hold
 by_cases ha:a.block=q.blk
 ·have e1:(w.heap.setIfInBounds q.blk (Obj.map xs' clk'))[a.block]?=some (Obj.map xs' clk'):=by rw[ha];simp[hlt]
  have e2:w.heap[a.block]?=some (Obj.map xs clk):=by rw[ha];exact hold
  simp only[World.frozen?,e1,e2]
 ·simp only[World.frozen?]
  rw[hothers a.block ha]
end
end Go.Cm
namespace Go.Cm
section
variable {K:KM}{Q:PM}{P:Program}{w w':World}{m:Mem}
theorem tI {t:TypeId}{k:CV}:∀(es:List (CV×CV)) (i0 i:Nat) (c:CV),gH P t k es i0=some (some (i,c))→i0≤i∧∃e,es[i - i0]?=some e∧ceq P 20 t k e.1=some true:=by
 intro es
 induction es with
 |nil=>intro i0 i c h;simp[gH] at h
 |cons e es ih=>
  intro i0 i c h;simp only[gH] at h
  cases hc:ceq P 20 t k e.1 with
  |none=>simp[hc] at h
  |some b=>
   simp only[hc] at h
   cases b with
   |true=>
    simp only[Option.some.injEq,Prod.mk.injEq] at h;obtain⟨rfl,_⟩:=h
    exact⟨Nat.le_refl _,e,by simp,hc⟩
   |false=>
    simp only[] at h;obtain⟨h1,e',h2,h3⟩:=ih (i0+1) i c h
    exact⟨by omega,e',by rw[show i - i0=i - (i0+1)+1 from by omega];simpa using h2,h3⟩
theorem sE {t:TypeId}(ht:b8 P t=true) {a b:CV}{x y:Value}{l1 l2:Bool}{M:MM}(ha:V K M Q l1 a x) (hb:V K M Q l2 b y) (h:ceq P 20 t a b=some true):Instr.sameBits 10000 y x=true:=by
 unfold b8 at ht;unfold ceq at h
 split at ht<;>simp only[Bool.false_eq_true] at ht
 ·rename_i hu
  rw[hu] at h;simp only[] at h
  split at h
  ·simp only[V] at ha hb;subst ha hb
   split at h
   ·rename_i he;subst he
    simp at h;subst h;simp[Instr.sameBits]
   ·simp at h
  ·simp at h
 ·rename_i hu
  rw[hu] at h;simp only[] at h
  split at h
  ·simp only[V] at ha hb;subst ha hb
   simp at h;subst h;simp[Instr.sameBits]
  ·simp at h
theorem N0 {t:TypeId}{k:CV}:∀(es:List (CV×CV)) (i0:Nat),gH P t k es i0=some none→∀(j:Nat) (e:CV×CV),es[j]?=some e→ceq P 20 t k e.1=some false:=by
 intro es
 induction es with
 |nil=>intro i0 _ j e h;simp at h
 |cons e0 es ih=>
  intro i0 h j e hj;simp only[gH] at h
  cases hc:ceq P 20 t k e0.1 with
  |none=>simp[hc] at h
  |some b=>
   simp only[hc] at h
   cases b with
   |true=>simp at h
   |false=>
    cases j with
    |zero=>simp only[List.getElem?_cons_zero,Option.some.injEq] at hj;subst hj;exact hc
    |succ j=>exact ih (i0+1) h j e (by simpa using hj)
theorem P1 {t:TypeId}(ht:b8 P t=true) {a b:CV}{x y:Value}{l1 l2:Bool}{M M2:MM}{Q2:PM}(ha:V K M Q l1 a x) (hb:V K M2 Q2 l2 b y) (h:ceq P 20 t a b=some true):y=x:=by
 unfold b8 at ht;unfold ceq at h
 split at ht<;>simp only[Bool.false_eq_true] at ht
 ·rename_i hu
  rw[hu] at h;simp only[] at h
  split at h
  ·simp only[V] at ha hb;subst ha hb
   split at h
   ·rename_i he;subst he
    simp at h;subst h;rfl
   ·simp at h
  ·simp at h
 ·rename_i hu
  rw[hu] at h;simp only[] at h
  split at h
  ·simp only[V] at ha hb;subst ha hb
   simp at h;subst h;rfl
  ·simp at h
theorem MP {t:TypeId}(ht:b8 P t=true) {a b:CV}{x y:Value}{l1 l2:Bool}{M M2:MM}{Q2:PM}(ha:V K M Q l1 a x) (hb:V K M2 Q2 l2 b y) (h:ceq P 20 t a b=some false):y≠x:=by
 unfold b8 at ht;unfold ceq at h
 split at ht<;>simp only[Bool.false_eq_true] at ht
 ·rename_i hu
  rw[hu] at h;simp only[] at h
  split at h
  ·simp only[V] at ha hb;subst ha hb
   split at h
   ·rename_i he;subst he
    simp at h;intro hc
    injection hc with _ hc
    exact h hc.symm
   ·simp at h
  ·simp at h
 ·rename_i hu
  rw[hu] at h;simp only[] at h
  split at h
  ·simp only[V] at ha hb;subst ha hb
   simp at h;intro hc
   injection hc with hc
   exact h hc.symm
  ·simp at h
theorem eS {r:Nat}{xs:Array MapEntry}{clk:Nat}{o:Obj}(h:w.heap[r]?=some (.map xs clk)):(setObj r o).run P w=.ok () { w with heap:=w.heap.setIfInBounds r o }:=by
 simp[setObj,Sem.run,h]
theorem isKey_V {loc:Bool}{M:MM}{c:CV}{v:Value}(hk:rZ c=true) (h:V K M Q loc c v):∀{K':KM}{M':MM}{Q':PM}{loc':Bool},V K' M' Q' loc' c v:=by
 intro K' M' Q' loc'
 cases c<;>simp only[rZ,Bool.false_eq_true] at hk
 ·simpa[V] using h
 ·simpa[V] using h
theorem sf (hR:MR K m.get Q w) {k:Key}{g:Nat}{es:List (CV×CV)}{v:Value}(hv:Vt K m Q (.map k g) v) (hget:m.get k=some (.map g es)) :
  ∃q xs clk,Q k=some q∧v=.map (some q.blk)∧w.heap[q.blk]?=some (.map xs clk)∧xs.size=es.length∧(∀(i:Nat) (e:CV×CV),es[i]?=some e→∃x,xs[i]?=some x∧ji K m.get Q e x) ∧
   MapKept.Stamped xs clk∧q.blk<w.heap.size∧∀o,K q.blk o=none:=by
 simp only[Vt,V] at hv;obtain⟨_,x,r,hx,_,rfl,hc⟩:=hv;rw[hget] at hx;simp only[Option.some.injEq] at hx;subst hx;obtain⟨q,hq,rfl⟩:=hc rfl;obtain⟨xs,clk,h1,h2,h3,h4⟩:=hR.objs _ _ hget q hq
 refine⟨q,xs,clk,hq,rfl,h1,h2,h3,h4,(hR.dom k q hq).2,λo=>?_⟩
 cases hk:K q.blk o with
 |none=>rfl
 |some v=>
  have:=hR.stab _ _ _ hk;simp[World.cell?,h1] at this
theorem pQ (hR:MR K m.get Q w) {t:TypeId}{x k v c:CV}{xv kv vv:Value}{m':Mem}(hx:Vt K m Q x xv) (hk:Vt K m Q k kv) (hv:Vt K m Q v vv) (h:cval.mapUp P m t x k v=some (c,m')) :
  ∃K' w',(Instr.mapUpdate t xv kv vv).run P w=.ok () w'∧Trans K m Q w K' m' Q w'∧c=.dead:=by
 unfold cval.mapUp at h
 split at h
 ·rename_i kt et key gn ht
  cases he:bp m [v] with
  |none=>simp[he] at h
  |some r=>
   obtain⟨l,m1⟩:=r;simp only[he,Option.bind_some] at h;obtain⟨K1,hl,hV1,-,hlen⟩:=eb hR (vs:=[vv]) (by simp only[Vs];exact⟨vv,[],rfl,hv,rfl⟩) he
   split at h
   ·rename_i g es v' hget
    split at h
    ·rename_i hc
     obtain⟨rfl,hp,hik⟩:=hc;have hx1:=hl.V (loc:=true) hx;obtain⟨q,xs,clk,hq,rfl,hheap,hsz,hrows,hstm,hlt,hnc⟩:=sf hl.mr hx1 hget;simp only[Vs] at hV1;obtain⟨vv',_,hvv,hVv,_⟩:=hV1;simp only[List.cons.injEq] at hvv;obtain⟨rfl,_⟩:=hvv;have hu:=lg ht;obtain⟨d,hd⟩:∃d,P.underlying kt=some d:=by
      unfold b8 at hp;split at hp<;>first|exact⟨_,by assumption⟩|simp at hp
     have hkf:V K1 m1.get Q false k kv:=isKey_V hik hk
     cases hck:gH P kt k es 0 with
     |none=>simp[hck] at h
     |some r=>
      obtain⟨r',hr1,hr2⟩:=nq (M:=m1.get) (Q:=Q) (K:=K1) hp hd hkf es xs.toList 0 r (by simpa using hsz) (by simpa using hrows) hck;have hfind:(Instr.findKey kt kv xs.toList).run P w=.ok r' w:=by simp[Instr.findKey,aY hd,hr1]
      simp only[hck] at h
      cases r with
      |some p=>
       obtain⟨i,c0⟩:=p
       cases r' with
       |none=>simp at hr2
       |some p'=>
        obtain⟨i',v0⟩:=p';obtain⟨rfl,_,_,hlt'⟩:=hr2;simp only[Option.some.injEq,Prod.mk.injEq] at h;obtain⟨rfl,rfl⟩:=h;obtain⟨_,e,hee,hce⟩:=tI es 0 i c0 hck;simp only[Nat.sub_zero] at hee;obtain⟨xe,hxe,hxk,_⟩:=hrows i e hee;have hsb:=sE (P:=P) hp hkf hxk hce
        refine⟨K1,_,?_,(hl.toTrans).trans (jr hl.mr hget hq (xs':=xs.modify i λe=>{ e with key:=kv,val:=vv }) (clk':=clk) (by simp[hsz]) (λj e' hj=>?_) hlt hnc ⟨_,_,hheap⟩ (MapKept.stamped_modify hstm i _ (λ_ _=>rfl) λe0 _ he0=>?_)),rfl⟩
        ·simp only[Instr.mapUpdate,Sem.run_bind,aY hu,Result.andThen_ok,dG hheap,em hp,hfind]
         simp only[hxe,Option.map_some,Option.getD_some,Instr.keyThatStays,hsb,if_true,Sem.run_pure,Result.andThen_ok,eS hheap]
        ·rw[List.getElem?_set] at hj
         split at hj
         ·rename_i hij
          subst hij;have hj':(k,v')=e':=by
           rw[if_pos (by omega)] at hj;simpa using hj
          subst hj'
          exact⟨{ xe with key:=kv,val:=vv },by rw[Array.getElem?_modify,if_pos rfl,hxe];rfl,hkf,hVv⟩
         ·rename_i hij
          obtain⟨x2,h1,h2⟩:=hrows j e' hj
          exact⟨x2,by rw[Array.getElem?_modify,if_neg hij];exact h1,h2⟩
        ·rw[hxe] at he0
         simp only[Option.some.injEq] at he0;subst he0
         exact(P1 hp hkf hxk hce).symm
      |none=>
       cases r' with
       |some p'=>simp at hr2
       |none=>
        simp only[Option.some.injEq,Prod.mk.injEq] at h;obtain⟨rfl,rfl⟩:=h
        refine⟨K1,_,?_,(hl.toTrans).trans (jr hl.mr hget hq (xs':=xs.push { key:=kv,val:=vv,born:=clk }) (clk':=clk+1) (by simp[hsz]) (λj e' hj=>?_) hlt hnc ⟨_,_,hheap⟩ (MapKept.stamped_push hstm λx0 hx0=>?_)),rfl⟩
        ·simp only[Instr.mapUpdate,Sem.run_bind,aY hu,Result.andThen_ok,dG hheap,em hp,hfind,eS hheap]
        ·rw[List.getElem?_append] at hj
         split at hj
         ·rename_i hjl
          obtain⟨x2,h1,h2⟩:=hrows j e' hj
          exact⟨x2,by rw[Array.getElem?_push,if_neg (by omega)];exact h1,h2⟩
         ·rename_i hjl
          have hj0:j=es.length:=by
           have:=(List.getElem?_eq_some_iff.1 hj).1;simp at this;omega
          subst hj0;simp at hj;subst hj
          exact⟨{ key:=kv,val:=vv,born:=clk },by rw[Array.getElem?_push,if_pos hsz.symm],hkf,hVv⟩
        ·obtain⟨j,hj⟩:=List.getElem?_of_mem hx0
         have hjl:j<xs.size:=by have:=(List.getElem?_eq_some_iff.1 hj).1;simpa using this
         obtain⟨e0,he0⟩:∃e0,es[j]?=some e0:=⟨_,List.getElem?_eq_getElem (by omega)⟩;obtain⟨x1,hx1,hV0,_⟩:=hrows j e0 he0;rw[Array.getElem?_toList] at hj;rw[hj] at hx1;simp only[Option.some.injEq] at hx1;subst hx1;exact MP hp hkf hV0 (N0 es 0 hck j e0 he0)
    ·simp at h
   ·simp at h
 ·simp at h
theorem tN (hR:MR K m.get Q w) {ts:Array TypeId}{t ty kt et:TypeId}{k:CV}{key:Key}{g:Nat}{es:List (CV×CV)}{xv kv:Value}{c:CV}{m':Mem}(h0:ts[0]?=some t) (ht:jg P t=some (kt,et))
  (hx:Vt K m Q (.map key g) xv) (hk:Vt K m Q k kv) (hget:m.get key=some (.map g es)) (hp:b8 P kt=true)
  (h:(match gH P kt k es 0 with
       |some (some (i,_))=>some (CV.tuple [],m.set key (.map g (es.eraseIdx i)))
       |some none=>some (.tuple [],m.set key (.map g es))
       |none=>none)=some (c,m')) :
  ∃w',(Builtin.delete_ ts ty #[xv,kv]).run P w=.ok (.tuple #[]) w'∧Trans K m Q w K m' Q w'∧c=.tuple []:=by
 obtain⟨q,xs,clk,hq,rfl,hheap,hsz,hrows,hstm,hlt,hnc⟩:=sf hR hx hget;have hu:=lg ht;obtain⟨d,hd⟩:∃d,P.underlying kt=some d:=by
  unfold b8 at hp;split at hp<;>first|exact⟨_,by assumption⟩|simp at hp
 cases hck:gH P kt k es 0 with
 |none=>simp[hck] at h
 |some r=>
  obtain⟨r',hr1,hr2⟩:=nq (M:=m.get) (Q:=Q) (K:=K) hp hd hk es xs.toList 0 r (by simpa using hsz) (by simpa using hrows) hck;have hfind:(Instr.findKey kt kv xs.toList).run P w=.ok r' w:=by simp[Instr.findKey,aY hd,hr1]
  simp only[hck] at h
  cases r with
  |some p=>
   obtain⟨i,c0⟩:=p
   cases r' with
   |none=>simp at hr2
   |some p'=>
    obtain⟨i',v0⟩:=p';obtain⟨rfl,_,_,hlt'⟩:=hr2;simp only[Option.some.injEq,Prod.mk.injEq] at h;obtain⟨rfl,rfl⟩:=h
    refine⟨_,?_,jr hR hget hq (xs':=xs.eraseIdxIfInBounds i) (clk':=clk) ?_ (λj e' hj=>?_) hlt hnc ⟨_,_,hheap⟩ (MapKept.stamped_erase hstm i),rfl⟩
    ·simp[Builtin.delete_,h0,aY hu,dG hheap,em hp,hfind,eS hheap]
    ·have:i<xs.size:=by omega
     have e2:i<es.length:=by omega
     simp only[Array.eraseIdxIfInBounds,this,dite_true,Array.size_eraseIdx,List.length_eraseIdx,e2,if_true];omega
    ·have hi:i<xs.size:=by omega
     have e1:(xs.eraseIdxIfInBounds i)[j]?=if j<i then xs[j]? else xs[j+1]?:=by
      simp only[Array.eraseIdxIfInBounds,hi,dite_true];rw[Array.getElem?_eraseIdx]
     rw[List.getElem?_eraseIdx] at hj;rw[e1]
     split at hj
     ·rename_i hji
      rw[if_pos hji];exact hrows j e' hj
     ·rename_i hji
      rw[if_neg hji];exact hrows (j+1) e' hj
  |none=>
   cases r' with
   |some p'=>simp at hr2
   |none=>
    simp only[Option.some.injEq,Prod.mk.injEq] at h;obtain⟨rfl,rfl⟩:=h
    refine⟨_,?_,jr hR hget hq (xs':=xs) (clk':=clk) hsz hrows hlt hnc ⟨_,_,hheap⟩ hstm,rfl⟩
    simp[Builtin.delete_,h0,aY hu,dG hheap,em hp,hfind,eS hheap]
end
end Go.Cm
