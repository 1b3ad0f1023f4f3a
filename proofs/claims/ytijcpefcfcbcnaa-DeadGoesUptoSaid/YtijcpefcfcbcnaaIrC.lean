import Derived.Test.YtijcpefcfcbcnaaGrB
set_option linter.unusedSimpArgs false
set_option linter.unusedVariables false
namespace Go.Ir
open Go.Gr
def ee (n:Nd):Bool:=decide (n.op=6)||decide (n.op=7)||(decide (n.op=5)&&n.grd)
def bB (p:Pt):List (Int×List Int):=p.phis.map (λx=>(x.id,x.src))++(p.nodes.filter λn=>!decide (n.op=6)).map λn=>(n.id,eF n)
def GS (f:Cd):List (Int×List Int):=f.parts.flatMap bB
def byL:List (Int×List Int)→Int→List Int
 |[],_=>[]
 |x::r,a=>if r.any (λy=>y.1==a) then byL r a else if x.1=a then x.2 else []
theorem Ib {l:List (Int×List Int)}{a b:Int}{v:List Int}:byL (l++[(a,v)]) b=if a=b then v else byL l b:=by
 induction l with
 |nil=>simp[byL]
 |cons x r ih=>
  simp only[List.cons_append,byL,ih,List.any_append,List.any_cons,List.any_nil,Bool.or_false]
  by_cases h:a=b
  ·simp[h]
  ·have h2:(a==b)=false:=beq_false_of_ne h
   simp only[h2,Bool.or_false,if_neg h]
theorem Ij {l:List (Int×List Int)}{a b:Int}(h:b∈byL l a):∃v,(a,v)∈l∧b∈v:=by
 induction l with
 |nil=>simp[byL] at h
 |cons x r ih=>
  simp only[byL] at h
  split at h
  ·obtain⟨v,h1,h2⟩:=ih h
   exact⟨v,List.mem_cons_of_mem _ h1,h2⟩
  ·split at h
   ·rename_i hx
    subst hx
    exact⟨x.2,List.mem_cons_self,h⟩
   ·simp at h
theorem byL_len {l:List (Int×List Int)}{a:Int}{B:Nat}(h:∀x∈l,x.2.length≤B):(byL l a).length≤B:=by
 induction l with
 |nil=>simp[byL]
 |cons x r ih=>
  simp only[byL];split
  ·exact ih λy hy=>h y (List.mem_cons_of_mem _ hy)
  ·split
   ·exact h x List.mem_cons_self
   ·simp
def Gx (p:Pt):List Int:=(p.nodes.filter ee).flatMap eF++jC p.fin
def F0 (f:Cd):List Int:=f.parts.flatMap Gx
inductive Need (f:Cd):Int→Prop where
 |base {id:Int}(h:id∈F0 f):Need f id
 |step {i id:Int}(h:Need f i) (h2:id∈byL (GS f) i):Need f id
open Classical in
noncomputable def F5 (f:Cd) (id:Int):Bool:=decide (Need f id)
noncomputable def G6 (f:Cd):List Bool:=(List.range f.values.toNat).map λ(i:Nat)=>F5 f i
noncomputable def Gj (f:Cd) (p:Pt):Pt:=⟨p.pred,p.phis.filter λx=>F5 f x.id,p.nodes.filter λn=>ee n||F5 f n.id,p.fin⟩
noncomputable def F4 (f:Cd):Cd:=⟨f.parts.map (Gj f),f.values⟩
def Hf (p:Pt):List Int:=p.phis.map (·.id)++(p.nodes.filter λn=>!decide (n.op=6)).map (·.id)
def Made (ids:List Int) (l l':List (Option (Int×Int))):Prop:=
 l'.length=l.length∧ids.Nodup∧(∀id∈ids,0≤id∧id<l.length∧l[id.toNat]?=some none∧∃x,l'[id.toNat]?=some (some x)) ∧
 ∀i:Nat,(i:Int)∉ids→l'[i]?=l[i]?
theorem Made.nil {l:List (Option (Int×Int))}:Made [] l l:=⟨rfl,List.nodup_nil,by simp,λ_ _=>rfl⟩
theorem Made.append {a b:List Int}{l l1 l2:List (Option (Int×Int))}(h1:Made a l l1) (h2:Made b l1 l2):Made (a++b) l l2:=by
 obtain⟨a1,a2,a3,a4⟩:=h1;obtain⟨b1,b2,b3,b4⟩:=h2;have hdis:∀x∈a,x∉b:=λx hx hb=>by
  obtain⟨_,_,_,y,hy⟩:=a3 x hx;obtain⟨_,_,hn,_⟩:=b3 x hb;rw[hn] at hy;simp at hy
 have hn0:∀x:Int,0≤x→((x.toNat:Nat):Int)=x:=λx hx=>by omega
 refine⟨by omega,List.nodup_append.2 ⟨a2,b2,λx hx y hy e=>hdis x hx (e ▸ hy)⟩,λid hid=>?_,λi hi=>?_⟩
 ·rcases List.mem_append.1 hid with h|h
  ·obtain⟨c1,c2,c3,c4⟩:=a3 id h
   refine⟨c1,c2,c3,?_⟩
   rw[b4 id.toNat (by rw[hn0 id c1];exact hdis id h)];exact c4
  ·obtain⟨c1,c2,c3,c4⟩:=b3 id h
   refine⟨c1,by omega,?_,c4⟩
   rw[←a4 id.toNat (by rw[hn0 id c1];exact λha=>hdis id ha h)];exact c3
 ·simp only[List.mem_append,not_or] at hi
  rw[b4 i hi.2,a4 i hi.1]
theorem sg {l l':List (Option (Int×Int))}{id:Int}{p:Int×Int}(h:mk1 l id p=some l'):Made [id] l l':=by
 unfold mk1 at h
 split at h
 ·rename_i hc
  simp only[Option.some.injEq] at h;have hlt:=(List.getElem?_eq_some_iff.1 hc.2).1;subst h
  refine⟨by simp,by simp,λx hx=>?_,λi hi=>?_⟩
  ·simp only[List.mem_singleton] at hx
   subst hx
   exact⟨hc.1,by omega,hc.2,p,by rw[List.getElem?_set_self hlt]⟩
  ·simp only[List.mem_singleton] at hi
   rw[List.getElem?_set_ne (by omega)]
 ·cases h
theorem mh {i:Int}:∀{ps:List Ph}{l l':List (Option (Int×Int))},fZ i ps l=some l'→Made (ps.map (·.id)) l l'
 |[],l,l',h=>by simp only[fZ,Option.some.injEq] at h;subst h;exact Made.nil
 |x::r,l,l',h=>by
  simp only[fZ,Option.bind_eq_some_iff] at h;obtain⟨l1,h1,h2⟩:=h
  exact(sg h1).append (mh h2)
theorem ia {i:Int}:∀{ns:List Nd}{k:Nat}{l l':List (Option (Int×Int))},ck i k ns l=some l'→Made ((ns.filter λn=>!decide (n.op=6)).map (·.id)) l l'
 |[],k,l,l',h=>by simp only[ck,Option.some.injEq] at h;subst h;exact Made.nil
 |n::r,k,l,l',h=>by
  simp only[ck] at h
  split at h
  ·split at h
   ·rename_i h6
    have:=ia h;simpa[h6] using this
   ·rename_i h6
    simp only[Option.bind_eq_some_iff] at h;obtain⟨l1,h1,h2⟩:=h;have:=(sg h1).append (ia h2);simpa[h6] using this
  ·cases h
theorem kQ:∀{ps:List Pt}{i:Nat}{l l':List (Option (Int×Int))},cJ i ps l=some l'→Made (ps.flatMap Hf) l l'
 |[],i,l,l',h=>by simp only[cJ,Option.some.injEq] at h;subst h;exact Made.nil
 |p::r,i,l,l',h=>by
  simp only[cJ,Option.bind_eq_some_iff] at h;obtain⟨l2,⟨l1,h1,h2⟩,h3⟩:=h
  exact((mh h1).append (ia h2)).append (kQ h3)
structure Fine (f:Cd):Prop where
 values:0≤f.values∧f.values≤65536
 parts:1≤f.parts.length∧f.parts.length≤8192
 nodup:(f.parts.flatMap Hf).Nodup
 ids:∀id∈f.parts.flatMap Hf,0≤id∧id<f.values
 want:∀id∈F0 f,0≤id∧id<f.values
 upd:∀x∈GS f,∀id∈x.2,0≤id∧id<f.values
theorem lr {g:List (List Int)}{l:List (Option (Int×Int))}{part at_ id:Int}(h:bu g l part at_ id=true):0≤id∧id<l.length:=by
 unfold bu at h
 split at h
 ·rename_i h0
  split at h
  ·rename_i x hx
   have:=(List.getElem?_eq_some_iff.1 hx).1;omega
  ·cases h
 ·cases h
theorem l6 {f:Cd}(h:bG f=true):Fine f:=by
 simp only[bG,Bool.and_eq_true,decide_eq_true_eq] at h;obtain⟨⟨⟨⟨⟨h1,h2⟩,h3⟩,h4⟩,h5⟩,h6⟩:=h
 split at h6
 case h_2=>cases h6
 rename_i l hl;have hm:=kQ (ps:=f.parts) (i:=0) (l:=List.replicate f.values.toNat none) (l':=l) hl;obtain⟨m1,m2,m3,_⟩:=hm;rw[List.length_replicate] at m1 m3;have hll:(l.length:Int)=f.values:=by omega
 have hpart:∀p∈f.parts,(∀x∈p.phis,∀id∈x.src,0≤id∧id<f.values)∧(∀n∈p.nodes,∀id∈eF n,0≤id∧id<f.values)∧∀id∈jC p.fin,0≤id∧id<f.values:=by
  intro p hp;obtain⟨i,hi⟩:=List.getElem?_of_mem hp;have hlt:=(List.getElem?_eq_some_iff.1 hi).1;unfold ew at h6;rw[List.all_eq_true] at h6;have h7:=h6 i (List.mem_range.2 hlt);rw[hi] at h7;simp only[eg,Bool.and_eq_true,List.all_eq_true,List.mem_range,decide_eq_true_eq] at h7;obtain⟨⟨h8,h9⟩,h10⟩:=h7
  refine⟨λx hx id hid=>?_,λn hn id hid=>?_,λid hid=>?_⟩
  ·obtain⟨k,hk⟩:=List.getElem?_of_mem hid
   have hkl:=(List.getElem?_eq_some_iff.1 hk).1;have:=lr ((h8 x hx).2 k hkl);rw[List.getD_eq_getElem?_getD,hk,Option.getD_some,hll] at this;exact this
  ·obtain⟨k,hk⟩:=List.getElem?_of_mem hn
   have hkl:=(List.getElem?_eq_some_iff.1 hk).1;have:=h9 k hkl;rw[hk] at this;simp only[List.all_eq_true] at this;have:=lr (this id hid);rw[hll] at this;exact this
  ·have:=lr (h10 id hid)
   rw[hll] at this;exact this
 refine⟨⟨h3,h4⟩,⟨h1,h2⟩,m2,λid hid=>?_,λid hid=>?_,λx hx id hid=>?_⟩
 ·obtain⟨a,b,_⟩:=m3 id hid
  omega
 ·simp only[F0,List.mem_flatMap,Gx,List.mem_append,List.mem_filter] at hid
  obtain⟨p,hp,⟨n,⟨hn,_⟩,hid⟩|hid⟩:=hid
  ·exact(hpart p hp).2.1 n hn id hid
  ·exact(hpart p hp).2.2 id hid
 ·simp only[GS,List.mem_flatMap,bB,List.mem_append,List.mem_map,List.mem_filter] at hx
  obtain⟨p,hp,⟨y,hy,rfl⟩|⟨n,⟨hn,_⟩,rfl⟩⟩:=hx
  ·exact(hpart p hp).1 y hy id hid
  ·exact(hpart p hp).2.1 n hn id hid
theorem Need.lt {f:Cd}(hf:Fine f) {id:Int}(h:Need f id):0≤id∧id<f.values:=by
 cases h with
 |base h=>exact hf.want id h
 |step h h2=>
  obtain⟨v,h3,h4⟩:=Ij h2;exact hf.upd _ h3 id h4
end Go.Ir
