import Derived.Test.YtjhndbgokapikaaCxH
import Derived.Test.YtjhndbgokapikaaCwA
import Derived.Shelf.SlIterI.Nil
import Derived.Maps.OwnSet
set_option linter.unusedSimpArgs false
set_option linter.unusedVariables false
namespace Go.Cm
end Go.Cm
namespace Go.Cm
open Go.Maps Go.RowKit
open Go.WideElems (Fit rd rg)
section
variable {K:KM}{Q:PM}{P:Program}{w w':World}{m:Mem}
theorem v8 (H:List HO):Mem.get ⟨[],H⟩=gm H:=by
 funext k
 cases k with
 |l j=>rfl
 |g n=>rfl
theorem rt (hR:MR K m.get Q w) (hB:Below w.heap.size w w'):Trans K m Q w K m Q w':=by
 have hb:∀{b o:Nat}{v:Value},w.cell? ⟨b,o,none⟩=some v→b<w.heap.size:=λ{b o v} h=>by
  unfold World.cell? at h
  cases hx:w.heap[b]? with
  |none=>simp[hx] at h
  |some _=>exact(Array.getElem?_eq_some_iff.1 hx).1
 refine⟨hR.apart (λ_ _ _ h=>h) (λb o v hv=>?_) (λ_ _ _ _ h=>h) (λb hb=>hB.block b hb) hB.size,λ_ _ _ h=>h,Grow.refl _ _ _,hB.size,λb hb _=>hB.block b hb,λ_ _ _ h=>.inl h,λk q h=>.inl ⟨q,h,rfl⟩,hB.os,hB.output,λa ha=>?_,hB.size⟩
 ·have:=hR.stab b o v hv
  rw[←this];exact cQ (hB.block b (hb this))
 ·simp only[World.frozen?,hB.block a.block ha]
def KD:List (CV×CV)→Option (List Int)
 |[]=>some []
 |(.int .i64 x,_)::r=>if (Lit.int .i64 x).wf then (KD r).map (x::·) else none
 |_=>none
theorem Md:∀{es:List (CV×CV)}{ks:List Int},KD es=some ks→ks.length=es.length∧∀(i:Nat) (e:CV×CV),es[i]?=some e→∃x,ks[i]?=some x∧e.1=.int .i64 x∧(Lit.int .i64 x).wf=true
 |[],ks,h=>by
  simp only[KD,Option.some.injEq] at h;subst h
  exact⟨rfl,λi e he=>by simp at he⟩
 |e::es,ks,h=>by
  unfold KD at h
  split at h
  ·rename_i h0;cases h0
  ·rename_i x c r h0
   injection h0 with h1 h2
   subst h1 h2
   split at h
   ·rename_i hw
    rw[Option.map_eq_some_iff] at h;obtain⟨l',h3,rfl⟩:=h;obtain⟨h4,h5⟩:=Md h3
    refine⟨by simp[h4],λi e he=>?_⟩
    cases i with
    |zero=>
     simp only[List.getElem?_cons_zero,Option.some.injEq] at he;subst he
     exact⟨x,rfl,rfl,hw⟩
    |succ i=>exact h5 i e (by simpa using he)
   ·cases h
  ·cases h
def Kq (l:List Int):List Int:=l.mergeSort λx y=>decide (x≤y)
def KY (ks:List Int):CV:=if ks=[] then .nil else .own ks.length 1 ((Kq ks).flatMap aX) 0
def RU:Value→Option (DataW Unit×List MemPlace):=λ_=>some (.nil,[])
theorem N8 {tk:TypeId}(hk:P.underlying tk=some (.int .i64)) {xs:Array MapEntry}{ks:List Int}(hl:ks.length=xs.size)
  (hx:∀(i:Nat) (x:MapEntry),xs[i]?=some x→∃z,ks[i]?=some z∧x.key=.int .i64 z∧(Lit.int .i64 z).wf=true) :
  (∀x∈xs.toList,∃y,rd P tk RU x=some y)∧(intKeys (DataW.map ((xs.toList.map (rg P tk RU)).foldr DataW.insert []))).Perm ks:=by
 have hr:∀(i:Nat) (x:MapEntry),xs[i]?=some x→∃z,ks[i]?=some z∧rd P tk RU x=some (.int .i64 z,.nil):=λi x hi=>by
  obtain⟨z,h1,h2,h3⟩:=hx i x hi
  refine⟨z,h1,?_⟩
  simp only[rd,h2,Go.Maps.keyOf_int_mk hk h3,RU,Option.bind_some,Option.map_some]
 refine⟨λx h=>?_,?_⟩
 ·obtain⟨i,hi⟩:=List.getElem?_of_mem h
  rw[Array.getElem?_toList] at hi;obtain⟨z,_,h2⟩:=hr i x hi
  exact⟨_,h2⟩
 ·simp only[intKeys]
  refine((WideShapes.sorted_perm _).map _).trans (List.Perm.of_eq ?_)
  refine List.ext_getElem? λi=>?_;simp only[List.getElem?_map,Array.getElem?_toList]
  cases hi:xs[i]? with
  |none=>
   have:xs.size≤i:=by simpa using hi
   simp[hl,this]
  |some x=>
   obtain⟨z,h1,h2⟩:=hr i x hi;rw[h1];simp[rg,h2];rfl
end
end Go.Cm
namespace Go.Cm
open Go.Maps Go.RowKit
open Go.WideElems (Fit rd rg)
theorem Nt {P:Program}{f g tk:Nat}(hf:∃fn,P.funcs[f]?=some fn∧fn.body.isSome=true) (hk:P.underlying tk=some (.int .i64))
  (hL:∀(x b nn:Nat) (D0:DataW Unit) (R:Value→Option (DataW Unit×List MemPlace)) (w:World),x<w.heap.size→w.cell? ⟨x,0,none⟩=some (.map (some b))→w.ownsMap P tk R b nn D0→Maps.size D0≤maxLen→Maps.size D0*8≤140737488355328 →
   Calls P f #[.func (.func g) #[] #[.pointer (some ⟨x,0,none⟩)]] w λe w'=>∃(v:Value) (ss:List Int),e=.returned v∧ss.Perm (intKeys D0) ∧
    w'.ownsRow w.heap.size tk 1 v ss.length ((ss.mergeSort (λx y=>decide (x≤y))).map encZ)∧(v=.slice none 0 0↔ss=[])∧Below w.heap.size w w')
  {n gn x gx:Nat}{es:List (CV×CV)}{ks:List Int}{H:List HO}(hH:H[n]?=some (.map gn es)) {vl:Nat}(hX:H[x]?=some (.var gx [.map (.g n) gn] vl)) (hks:KD es=some ks) (hlen:es.length≤1000000) :
  SimAt P f [.func (.func g) [] [.ptr (.g x) gx 0]] H (KY ks) H:=by
 refine⟨hf,λK Q w vs hR hV=>?_⟩
 have hgx:gm H (.g x)=some (.var gx [.map (.g n) gn] vl):=hX;have hgn:gm H (.g n)=some (.map gn es):=hH;simp only[Vs,V] at hV;obtain⟨v,r,hvs,⟨xa,ya,rfl,hxa,v2,r2,hya,⟨_,h,a,hh,_,rfl,hc⟩,hr2⟩,hr⟩:=hV;subst hr hr2;rw[hgx] at hh;simp only[Option.some.injEq] at hh;subst hh;obtain⟨q,hq,rfl⟩:=hc rfl;have hb0:q.base=0:=hR.v0 _ _ _ _ _ hgx hq;obtain⟨⟨cells,ty,c1,c2,c3⟩,c4,c5⟩:=hR.objs (.g x) _ hgx q hq;obtain⟨_,mv,hmv,hV⟩:=c3 0 (.map (.g n) gn) rfl;simp only[en,V] at hV;obtain⟨_,h,b,hh,_,rfl,hc⟩:=hV;rw[hgn] at hh;simp only[Option.some.injEq] at hh;subst hh;obtain⟨q2,hq2,rfl⟩:=hc rfl;obtain⟨xs,clk,h1,h2,h3,h4⟩:=hR.objs (.g n) _ hgn q2 hq2
 obtain rfl:xa=#[]:=by cases xa;simpa using hxa
 obtain rfl:ya=#[.pointer (some ⟨q.blk,q.base+0,none⟩)]:=by cases ya;simpa using hya
 obtain rfl:vs=#[.func (.func g) #[] #[.pointer (some ⟨q.blk,q.base+0,none⟩)]]:=by cases vs;simpa using hvs
 rw[hb0] at hmv ⊢;have hcell:w.cell? ⟨q.blk,0,none⟩=some (.map (some q2.blk)):=by
  unfold World.cell?;rw[c1];simpa using hmv
 obtain⟨hkl,hkg⟩:=Md hks;obtain⟨hrd,hperm⟩:=N8 (P:=P) hk (xs:=xs) (ks:=ks) (by omega) (λi x hi=>by
  have hi':i<es.length:=by have:=(Array.getElem?_eq_some_iff.1 hi).1;omega
  obtain⟨x',hx',hE,_⟩:=h3 i _ (List.getElem?_eq_getElem hi');rw[hi] at hx';simp only[Option.some.injEq] at hx';subst hx';obtain⟨z,hz1,hz2,hz3⟩:=hkg i _ (List.getElem?_eq_getElem hi');rw[hz2] at hE;simp only[V] at hE
  exact⟨z,hz1,hE,hz3⟩)
 have hsz:Maps.size (DataW.map ((xs.toList.map (rg P tk RU)).foldr DataW.insert []))=xs.size:=by simp[Maps.size,length_sorted]
 have hmx:(1000000:Nat)≤maxLen:=by decide
 have hown:w.ownsMap P tk RU q2.blk xs.size (DataW.map ((xs.toList.map (rg P tk RU)).foldr DataW.insert [])):=⟨xs,clk,h1,⟨by omega,h4,hrd⟩,Nat.le_refl _,rfl⟩
 refine(hL q.blk q2.blk _ _ _ w (hR.dom _ _ hq).2 hcell hown (by omega) (by omega)).mono ?_
 rintro e w' ⟨v,ss,rfl,hp,hrow,hnil,hB⟩;have hps:ss.Perm ks:=hp.trans hperm;have hsort:(ss.mergeSort λx y=>decide (x≤y))=Kq ks:=mergeSort_of_perm_i hps;have hsl:ss.length=ks.length:=hps.length_eq;rw[hsort,hsl] at hrow;have hR':MR K (Mem.get ⟨[],H⟩) Q w:=by rw[v8];exact hR
 have hT:=rt (m:=⟨[],H⟩) hR' hB;obtain⟨t1,t2,t3,t4,t5,t6,t7,t8⟩:=hT;rw[v8] at t1 t3 t7
 refine⟨v,K,Q,rfl,t1,⟨t5,t4,t2,t6,t3.sub,t7,t8⟩,?_⟩
 have hSl:(Kq ks).length=ks.length:=List.length_mergeSort _
 by_cases hk0:ks=[]
 ·have hs0:ss=[]:=List.eq_nil_of_length_eq_zero (by rw[hsl,hk0];rfl)
  rw[KY,if_pos hk0]
  exact⟨none,rfl,by simp only[V];exact hnil.2 hs0⟩
 ·rw[KY,if_neg hk0]
  rcases hrow.2 with⟨_,h0⟩|⟨g,cap,cur,rfl,hbase,hgb,r1,r2,r3,r4⟩
  ·exact absurd (List.eq_nil_of_length_eq_zero h0) hk0
  ·refine⟨some g,.inr ⟨⟨g,0,cap⟩,cap,rfl,hbase,λk p hkp hpe=>?_,rfl,r1,by simp,by rw[dL,hSl];omega,⟨cur,tk,hgb,by simpa using r3,λi c hc=>?_⟩,?_,λo ho=>?_⟩⟩
   ·have:=(hR.dom k p hkp).2
    simp only[] at hpe;omega
   ·rw[fX] at hc
    cases hx:(Kq ks)[i]? with
    |none=>rw[hx] at hc;simp at hc
    |some x=>
     rw[hx] at hc;simp only[Option.map_some,Option.some.injEq] at hc;subst hc
     refine⟨rfl,.int .i64 x,?_,by simp only[V]⟩
     have hi:i<ks.length:=by have:=(List.getElem?_eq_some_iff.1 hx).1;omega
     have e1:=congrArg (·[i]?) r4;simp only[List.getElem?_map,hx,Option.map_some,Nat.mul_one] at e1;rw[List.getElem?_take,if_pos hi,Array.getElem?_toList] at e1;simpa[encZ] using e1
   ·show 0+((Kq ks).flatMap aX).length≤cap
    rw[dL,hSl];omega
   ·cases hko:K g o with
    |none=>rfl
    |some v=>
     have:=hR.stab _ _ _ hko;have hlt:g<w.heap.size:=by
      unfold World.cell? at this
      cases hx:w.heap[g]? with
      |none=>simp[hx] at this
      |some _=>exact(Array.getElem?_eq_some_iff.1 hx).1
     omega
end Go.Cm
