import Derived.Test.YtijcpefcfcbcnaaIrC
set_option linter.unusedSimpArgs false
set_option linter.unusedVariables false
namespace Go.Ir
open Go.Gr
theorem Hi {α:Type}{q:α→Bool}:∀ {l:List α}{k:Nat}{a:α},(l.filter q)[k]?=some a→∃ j:Nat,l[j]?=some a∧q a=true∧((l.take j).filter q).length=k
 |[],k,a,h=>by simp at h
 |b::l,k,a,h=>by
  cases hb:q b with
  |false=>
   rw[List.filter_cons_of_neg (by simp[hb])] at h
   obtain⟨j,h1,h2,h3⟩:=Hi h
   exact⟨j+1,by simpa using h1,h2,by rw[List.take_succ_cons,List.filter_cons_of_neg (by simp[hb])];exact h3⟩
  |true=>
   rw[List.filter_cons_of_pos hb] at h
   cases k with
   |zero=>
    simp only[List.getElem?_cons_zero,Option.some.injEq] at h
    subst h
    exact⟨0,rfl,hb,rfl⟩
   |succ k=>
    simp only[List.getElem?_cons_succ] at h
    obtain⟨j,h1,h2,h3⟩:=Hi h
    exact⟨j+1,by simpa using h1,h2,by rw[List.take_succ_cons,List.filter_cons_of_pos hb,List.length_cons,h3]⟩
theorem HR {α:Type}{q:α→Bool}:∀ {l:List α}{j:Nat}{a:α},l[j]?=some a→q a=true→(l.filter q)[((l.take j).filter q).length]?=some a
 |[],j,a,h,_=>by simp at h
 |b::l,0,a,h,hq=>by
  simp only[List.getElem?_cons_zero,Option.some.injEq] at h
  subst h
  rw[List.filter_cons_of_pos hq];rfl
 |b::l,j+1,a,h,hq=>by
  simp only[List.getElem?_cons_succ] at h
  have ih:=HR h hq
  cases hb:q b with
  |false=>rw[List.take_succ_cons,List.filter_cons_of_neg (by simp[hb]),List.filter_cons_of_neg (by simp[hb])];exact ih
  |true=>rw[List.take_succ_cons,List.filter_cons_of_pos hb,List.filter_cons_of_pos hb,List.length_cons,List.getElem?_cons_succ];exact ih
theorem Iy {α:Type}{q:α→Bool}{l:List α}{j k:Nat}{a:α}(h:l[j]?=some a) (hq:q a=true) (hjk:j<k):((l.take j).filter q).length<((l.take k).filter q).length:=by
 have hlt:=(List.getElem?_eq_some_iff.1 h).1
 have h1:=(List.take_append_drop j (l.take k)).symm
 rw[List.take_take,Nat.min_eq_left (by omega)] at h1
 have h2:a ∈ (l.take k).drop j:=by
  refine List.mem_of_getElem? (i:=0) ?_
  rw[List.getElem?_drop,List.getElem?_take,if_pos (by omega),Nat.add_zero];exact h
 rw[h1,List.filter_append,List.length_append]
 have:a ∈ ((l.take k).drop j).filter q:=List.mem_filter.2 ⟨h2,hq⟩
 have:=List.length_pos_of_mem this
 omega
theorem Ix {α:Type}{q:α→Bool}{l:List α}{j:Nat}:((l.take j).filter q).length≤j:=by
 have h1:=List.length_filter_le q (l.take j)
 have h2:=List.length_take_le j l
 omega
theorem Jf {l l':List (Option (Int×Int))}{id:Int}{p:Int×Int}(h:mk1 l id p=some l'):l'[id.toNat]?=some (some p):=by
 unfold mk1 at h
 split at h
 ·rename_i hc
  simp only[Option.some.injEq] at h
  subst h
  rw[List.getElem?_set_self (List.getElem?_eq_some_iff.1 hc.2).1]
 ·cases h
theorem Made.keep {ids:List Int}{l l':List (Option (Int×Int))}(h:Made ids l l') {i:Nat}{x:Int×Int}(hi:l[i]?=some (some x)):l'[i]?=some (some x):=by
 rw[h.2.2.2 i fun hm=>?_];exact hi
 obtain⟨_,_,h3,_⟩:=h.2.2.1 _ hm
 rw[Int.toNat_natCast,hi] at h3;simp at h3
theorem HS {i:Int}:∀ {ps:List Ph}{l l':List (Option (Int×Int))},fZ i ps l=some l'→∀ x ∈ ps,l'[x.id.toNat]?=some (some (i,0))
 |[],_,_,_,x,hx=>by cases hx
 |y::r,l,l',h,x,hx=>by
  simp only[fZ,Option.bind_eq_some_iff] at h
  obtain⟨l1,h1,h2⟩:=h
  rcases List.mem_cons.1 hx with rfl|hx
  ·exact(mh h2).keep (Jf h1)
  ·exact HS h2 x hx
theorem Hy {i:Int}:∀ {ns:List Nd}{k:Nat}{l l':List (Option (Int×Int))},ck i k ns l=some l'→∀ (j:Nat) (n:Nd),ns[j]?=some n→bX n=true∧(¬ n.op=6→l'[n.id.toNat]?=some (some (i,((k+j+1:Nat):Int))))
 |[],_,_,_,_,j,n,hj=>by simp at hj
 |y::r,k,l,l',h,j,n,hj=>by
  simp only[ck] at h
  split at h
  case isFalse=>cases h
  rename_i hok
  cases j with
  |zero=>
   simp only[List.getElem?_cons_zero,Option.some.injEq] at hj
   subst hj
   refine⟨hok,fun h6=>?_⟩
   rw[if_neg h6] at h
   simp only[Option.bind_eq_some_iff] at h
   obtain⟨l1,h1,h2⟩:=h
   exact(ia h2).keep (Jf h1)
  |succ j=>
   simp only[List.getElem?_cons_succ] at hj
   have key:∀ l1,ck i (k+1) r l1=some l'→bX n=true∧(¬ n.op=6→l'[n.id.toNat]?=some (some (i,((k+(j+1)+1:Nat):Int)))):=fun l1 h2=>by
    have:=Hy h2 j n hj
    rw[show k+1+j+1=k+(j+1)+1 by omega] at this
    exact this
   split at h
   ·exact key _ h
   ·simp only[Option.bind_eq_some_iff] at h
    obtain⟨l1,_,h2⟩:=h
    exact key _ h2
theorem Hb:∀ {ps:List Pt}{i0:Nat}{l l':List (Option (Int×Int))},cJ i0 ps l=some l'→∀ (i:Nat) (p:Pt),ps[i]?=some p →
  (∀ x ∈ p.phis,l'[x.id.toNat]?=some (some (((i0+i:Nat):Int),0)))∧∀ (k:Nat) (n:Nd),p.nodes[k]?=some n→bX n=true∧(¬ n.op=6→l'[n.id.toNat]?=some (some (((i0+i:Nat):Int),((k+1:Nat):Int))))
 |[],_,_,_,_,i,p,hp=>by simp at hp
 |q::r,i0,l,l',h,i,p,hp=>by
  simp only[cJ,Option.bind_eq_some_iff] at h
  obtain⟨l2,⟨l1,h1,h2⟩,h3⟩:=h
  cases i with
  |zero=>
   simp only[List.getElem?_cons_zero,Option.some.injEq] at hp
   subst hp
   refine⟨fun x hx=>(kQ h3).keep ((ia h2).keep (HS h1 x hx)),fun k n hn=>?_⟩
   obtain⟨a,b⟩:=Hy h2 k n hn
   refine⟨a,fun h6=>(kQ h3).keep ?_⟩
   have:=b h6
   rw[Nat.zero_add] at this
   exact this
  |succ i=>
   simp only[List.getElem?_cons_succ] at hp
   have:=Hb h3 i p hp
   rw[show i0+1+i=i0+(i+1) by omega] at this
   exact this
def Free (ids:List Int) (l:List (Option (Int×Int))):Prop:=ids.Nodup∧∀ id ∈ ids,0≤id∧l[id.toNat]?=some none
theorem Free.next {a b:List Int}{l l1:List (Option (Int×Int))}(h:Free (a++b) l) (hm:Made a l l1):Free b l1:=by
 obtain⟨h1,h2⟩:=h
 rw[List.nodup_append] at h1
 refine⟨h1.2.1,fun id hid=>?_⟩
 obtain⟨h3,h4⟩:=h2 id (List.mem_append_right _ hid)
 refine⟨h3,?_⟩
 rw[hm.2.2.2 id.toNat fun h=>?_];exact h4
 rw[show((id.toNat:Nat):Int)=id by omega] at h
 exact h1.2.2 id h id hid rfl
theorem Free.left {a b:List Int}{l:List (Option (Int×Int))}(h:Free (a++b) l):Free a l:=
 ⟨(List.nodup_append.1 h.1).1,fun id hid=>h.2 id (List.mem_append_left _ hid)⟩
theorem HY {l:List (Option (Int×Int))}{id:Int}{p:Int×Int}(h:Free [id] l):∃ l',mk1 l id p=some l':=by
 obtain⟨h1,h2⟩:=h.2 id (by simp)
 exact⟨_,by rw[mk1,if_pos ⟨h1,h2⟩]⟩
theorem Ho {i:Int}:∀ {ps:List Ph}{l:List (Option (Int×Int))},Free (ps.map (·.id)) l→∃ l',fZ i ps l=some l'
 |[],l,_=>⟨l,rfl⟩
 |x::r,l,h=>by
  rw[List.map_cons,←List.singleton_append] at h
  obtain⟨l1,h1⟩:=HY (p:=(i,0)) h.left
  obtain⟨l2,h2⟩:=Ho (i:=i) (h.next (sg h1))
  exact⟨l2,by simp only[fZ,h1,Option.bind_some,h2]⟩
theorem Ha {i:Int}:∀ {ns:List Nd}{k:Nat}{l:List (Option (Int×Int))},(∀ n ∈ ns,bX n=true)→Free ((ns.filter fun n=>!decide (n.op=6)).map (·.id)) l→∃ l',ck i k ns l=some l'
 |[],_,l,_,_=>⟨l,rfl⟩
 |n::r,k,l,hok,h=>by
  have hok':∀ m ∈ r,bX m=true:=fun m hm=>hok m (List.mem_cons_of_mem _ hm)
  have h0:=hok n (List.mem_cons_self ..)
  by_cases h6:n.op=6
  ·rw[List.filter_cons_of_neg (by simp[h6])] at h
   obtain⟨l2,h2⟩:=Ha (i:=i) (k:=k+1) hok' h
   exact⟨l2,by rw[ck,if_pos h0,if_pos h6];exact h2⟩
  ·rw[List.filter_cons_of_pos (by simp[h6]),List.map_cons,←List.singleton_append] at h
   obtain⟨l1,h1⟩:=HY (p:=(i,((k+1:Nat):Int))) h.left
   obtain⟨l2,h2⟩:=Ha (i:=i) (k:=k+1) hok' (h.next (sg h1))
   exact⟨l2,by rw[ck,if_pos h0,if_neg h6,h1];exact h2⟩
theorem Hl:∀ {ps:List Pt}{i:Nat}{l:List (Option (Int×Int))},(∀ p ∈ ps,∀ n ∈ p.nodes,bX n=true)→Free (ps.flatMap Hf) l→∃ l',cJ i ps l=some l'
 |[],_,l,_,_=>⟨l,rfl⟩
 |p::r,i,l,hok,h=>by
  rw[List.flatMap_cons,Hf,List.append_assoc] at h
  obtain⟨l1,h1⟩:=Ho (i:=(i:Int)) h.left
  have h':=h.next (mh h1)
  obtain⟨l2,h2⟩:=Ha (i:=(i:Int)) (k:=0) (hok p (List.mem_cons_self ..)) h'.left
  obtain⟨l3,h3⟩:=Hl (i:=i+1) (fun q hq=>hok q (List.mem_cons_of_mem _ hq)) (h'.next (ia h2))
  exact⟨l3,by simp only[cJ,h1,Option.bind_some,h2,h3]⟩
theorem Hn:∀ {l:List (Int×List Int)}{a:Int}{v:List Int},(l.map (·.1)).Nodup→(a,v) ∈ l→byL l a=v
 |[],_,_,_,h=>by cases h
 |x::r,a,v,hn,h=>by
  rw[List.map_cons,List.nodup_cons] at hn
  simp only[byL]
  rcases List.mem_cons.1 h with rfl|h
  ·rw[if_neg,if_pos rfl]
   intro h2
   simp only[List.any_eq_true,beq_iff_eq] at h2
   obtain⟨y,hy,he⟩:=h2
   exact hn.1 (List.mem_map.2 ⟨y,hy,he⟩)
  ·have:r.any (fun y=>y.1==a)=true:=by
    simp only[List.any_eq_true,beq_iff_eq]
    exact⟨_,h,rfl⟩
   rw[if_pos this]
   exact Hn hn.2 h
theorem upd_ids (p:Pt):(bB p).map (·.1)=Hf p:=by
 simp[bB,Hf,List.map_map,Function.comp_def]
theorem H9 (f:Cd):(GS f).map (·.1)=f.parts.flatMap Hf:=by
 unfold GS
 induction f.parts with
 |nil=>rfl
 |cons p r ih=>rw[List.flatMap_cons,List.map_append,ih,upd_ids,List.flatMap_cons]
section
variable {f:Cd}
theorem G5 {p:Pt}(h:p ∈ (F4 f).parts):∃ q ∈ f.parts,p=Gj f q:=by
 obtain⟨q,hq,rfl⟩:=List.mem_map.1 h
 exact⟨q,hq,rfl⟩
theorem Jd (p:Pt):(Hf (Gj f p)).Sublist (Hf p):=
 List.Sublist.append (List.filter_sublist.map _) ((List.filter_sublist.filter _).map _)
theorem ids_dead_all:((F4 f).parts.flatMap Hf).Sublist (f.parts.flatMap Hf):=by
 have key:∀ ps:List Pt,((ps.map (Gj f)).flatMap Hf).Sublist (ps.flatMap Hf):=by
  intro ps
  induction ps with
  |nil=>exact List.Sublist.refl _
  |cons p r ih=>rw[List.map_cons,List.flatMap_cons,List.flatMap_cons];exact(Jd p).append ih
 exact key f.parts
theorem HU:F0 (F4 f)=F0 f:=by
 have h1:∀ p,Gx (Gj f p)=Gx p:=fun p=>by
  simp only[Gx,Gj,List.filter_filter]
  rw[show(fun(n:Nd)=>ee n&&(ee n||F5 f n.id))=ee from funext fun n=>by cases ee n<;>simp]
 simp only[F0,F4,List.flatMap_map,h1]
theorem Jo {i:Int}{v:List Int}(h:(i,v) ∈ GS f) (hn:Need f i):(i,v) ∈ GS (F4 f):=by
 have hb:F5 f i=true:=by simpa[F5] using hn
 simp only[GS,List.mem_flatMap,bB,List.mem_append,List.mem_map,List.mem_filter] at h ⊢
 obtain⟨p,hp,⟨y,hy,he⟩|⟨n,⟨hn1,hn2⟩,he⟩⟩:=h
 ·refine⟨Gj f p,List.mem_map.2 ⟨p,hp,rfl⟩,.inl ⟨y,List.mem_filter.2 ⟨hy,?_⟩,he⟩⟩
  simp only[Prod.mk.injEq] at he
  rw[he.1];exact hb
 ·refine⟨Gj f p,List.mem_map.2 ⟨p,hp,rfl⟩,.inr ⟨n,⟨List.mem_filter.2 ⟨hn1,?_⟩,hn2⟩,he⟩⟩
  simp only[Prod.mk.injEq] at he
  rw[he.1,hb,Bool.or_true]
theorem IB (hf:Fine f) {id:Int}(h:Need f id):Need (F4 f) id:=by
 induction h with
 |base h=>exact .base (by rw[HU];exact h)
 |step h1 h2 ih=>
  obtain⟨v,h3,h4⟩:=Ij h2
  refine .step ih ?_
  rw[Hn (by rw[H9];exact ids_dead_all.nodup hf.nodup) (Jo h3 h1)]
  exact h4
theorem Ic (hf:Fine f):F4 (F4 f)=F4 f:=by
 have hb:∀ id,F5 f id=true→F5 (F4 f) id=true:=fun id h=>by
  have:Need f id:=by simpa[F5] using h
  simpa[F5] using IB hf this
 have h1:∀ p,Gj (F4 f) (Gj f p)=Gj f p:=fun p=>by
  have a1:((p.phis.filter fun x=>F5 f x.id).filter fun x=>F5 (F4 f) x.id)=p.phis.filter fun x=>F5 f x.id:=
   List.filter_eq_self.2 fun x hx=>hb _ (List.mem_filter.1 hx).2
  have a2:((p.nodes.filter fun n=>ee n||F5 f n.id).filter fun n=>ee n||F5 (F4 f) n.id)=p.nodes.filter fun n=>ee n||F5 f n.id:=
   List.filter_eq_self.2 fun n hn=>by
    have:=(List.mem_filter.1 hn).2
    cases hs:ee n with
    |true=>rfl
    |false=>
     rw[hs,Bool.false_or] at this
     rw[Bool.false_or];exact hb _ this
  show(⟨p.pred,(p.phis.filter fun x=>F5 f x.id).filter fun x=>F5 (F4 f) x.id,(p.nodes.filter fun n=>ee n||F5 f n.id).filter fun n=>ee n||F5 (F4 f) n.id,p.fin⟩:Pt)=_
  rw[a1,a2];rfl
 show(⟨(f.parts.map (Gj f)).map (Gj (F4 f)),f.values⟩:Cd)=⟨f.parts.map (Gj f),f.values⟩
 rw[List.map_map]
 exact congrArg (fun x=>Cd.mk x f.values) (List.map_congr_left fun p _=>h1 p)
theorem Hg {l l':List (Option (Int×Int))}(hl:cq f=some l) (hl':cq (F4 f)=some l') {g:List (List Int)}{part a a' id:Int}(hn:Need f id) (h:bu g l part a id=true) (h0:0<a→0<a')
  (hm:∀ (i:Nat) (p:Pt) (k:Nat) (n:Nd),(i:Int)=part→f.parts[i]?=some p→p.nodes[k]?=some n→(ee n||F5 f n.id)=true→((k+1:Nat):Int)<a→((((p.nodes.take k).filter fun n=>ee n||F5 f n.id).length+1:Nat):Int)<a'):bu g l' part a' id=true:=by
 have hb:F5 f id=true:=by simpa[F5] using hn
 have hmd:=kQ (ps:=f.parts) (i:=0) (l:=List.replicate f.values.toNat none) (l':=l) hl
 unfold bu at h ⊢
 split at h
 case isFalse=>cases h
 rename_i hid
 rw[if_pos hid]
 have hidn:((id.toNat:Nat):Int)=id:=by omega
 split at h
 case h_2=>cases h
 rename_i x hx
 have hmem:id ∈ f.parts.flatMap Hf:=by
  refine Classical.byContradiction fun hc=>?_
  have:=hmd.2.2.2 id.toNat (by rw[hidn];exact hc)
  rw[hx,List.getElem?_replicate] at this
  split at this<;>simp at this
 obtain⟨p,hp,hip⟩:=List.mem_flatMap.1 hmem
 obtain⟨i,hi⟩:=List.getElem?_of_mem hp
 have hi':(F4 f).parts[i]?=some (Gj f p):=by simp only[F4,List.getElem?_map,hi,Option.map_some]
 have A:=Hb (ps:=f.parts) (i0:=0) hl i p hi
 have A':=Hb (ps:=(F4 f).parts) (i0:=0) hl' i (Gj f p) hi'
 rw[Nat.zero_add] at A A'
 rcases List.mem_append.1 hip with hip|hip
 ·obtain⟨y,hy,rfl⟩:=List.mem_map.1 hip
  have e1:=A.1 y hy
  rw[hx] at e1
  simp only[Option.some.injEq] at e1
  subst e1
  rw[A'.1 y (List.mem_filter.2 ⟨hy,hb⟩)]
  simp only at h ⊢
  split at h
  ·rename_i he
   rw[if_pos he]
   exact decide_eq_true (h0 (of_decide_eq_true h))
  ·rename_i he
   rw[if_neg he];exact h
 ·obtain⟨n,hnm,rfl⟩:=List.mem_map.1 hip
  obtain⟨hn1,hn2⟩:=List.mem_filter.1 hnm
  have h6:¬ n.op=6:=by simpa using hn2
  obtain⟨k,hk⟩:=List.getElem?_of_mem hn1
  have e1:=(A.2 k n hk).2 h6
  rw[hx] at e1
  simp only[Option.some.injEq] at e1
  subst e1
  have hkp:(ee n||F5 f n.id)=true:=by rw[hb,Bool.or_true]
  rw[(A'.2 _ n (HR hk hkp)).2 h6]
  simp only at h ⊢
  split at h
  ·rename_i he
   rw[if_pos he]
   exact decide_eq_true (hm i p k n he hi hk hkp (of_decide_eq_true h))
  ·rename_i he
   rw[if_neg he];exact h
theorem HA:aE (F4 f)=aE f:=by
 simp only[aE,F4,List.map_map];rfl
theorem HW (h:bG f=true):bG (F4 f)=true:=by
 have hf:=l6 h
 simp only[bG,Bool.and_eq_true,decide_eq_true_eq] at h
 obtain⟨⟨⟨⟨⟨h1,h2⟩,h3⟩,h4⟩,h5⟩,h6⟩:=h
 split at h6
 case h_2=>cases h6
 rename_i l hl
 have hlen:(F4 f).parts.length=f.parts.length:=by simp[F4]
 have hw:bY (F4 f)=bY f:=by
  unfold bY
  rw[HA,hlen]
  simp only[F4,List.all_map,List.map_map]
  rfl
 obtain⟨l',hl'⟩:∃ l',cq (F4 f)=some l':=by
  refine Hl (fun p hp n hn=>?_) ⟨ids_dead_all.nodup hf.nodup,fun id hid=>?_⟩
  ·obtain⟨q,hq,rfl⟩:=G5 hp
   obtain⟨i,hi⟩:=List.getElem?_of_mem hq
   obtain⟨k,hk⟩:=List.getElem?_of_mem (List.mem_filter.1 hn).1
   exact((Hb (ps:=f.parts) (i0:=0) hl i q hi).2 k n hk).1
  ·obtain⟨a,b⟩:=hf.ids id (ids_dead_all.subset hid)
   refine⟨a,?_⟩
   have hv:(F4 f).values=f.values:=rfl
   rw[List.getElem?_replicate,if_pos (by rw[hv];omega)]
 have hu:ew (F4 f) l'=true:=by
  unfold ew at h6 ⊢
  rw[List.all_eq_true] at h6 ⊢
  intro i hi
  rw[hlen] at hi
  have h7:=h6 i hi
  obtain⟨p,hp⟩:∃ p,f.parts[i]?=some p:=⟨_,List.getElem?_eq_getElem (List.mem_range.1 hi)⟩
  have hp':(F4 f).parts[i]?=some (Gj f p):=by simp only[F4,List.getElem?_map,hp,Option.map_some]
  have hpm:=List.mem_of_getElem? hp
  rw[hp] at h7
  rw[hp',HA]
  simp only[eg,Bool.and_eq_true,List.all_eq_true,List.mem_range,decide_eq_true_eq] at h7 ⊢
  obtain⟨⟨h8,h9⟩,h10⟩:=h7
  have upn:∀ {j:Int}{v:List Int},(j,v) ∈ GS f→Need f j→∀ id ∈ v,Need f id:=fun {j v} hv hj id hid=>
   .step hj (by rw[Hn (by rw[H9];exact hf.nodup) hv];exact hid)
  have far:∀ (i:Nat) (q:Pt) (k:Nat) (n:Nd) (part:Int),(i:Int)=part→f.parts[i]?=some q→q.nodes[k]?=some n→(ee n||F5 f n.id)=true→((k+1:Nat):Int)<eD→((((q.nodes.take k).filter fun n=>ee n||F5 f n.id).length+1:Nat):Int)<eD:=fun i q k n part _ _ _ _ hlt=>by
   have:=Ix (q:=fun n=>ee n||F5 f n.id) (l:=q.nodes) (j:=k)
   omega
  refine⟨⟨fun x hx=>?_,fun k' hk'=>?_⟩,fun id hid=>?_⟩
  ·obtain⟨hx1,hx2⟩:=List.mem_filter.1 hx
   obtain⟨a1,a2⟩:=h8 x hx1
   refine⟨a1,fun k hk=>Hg hl hl' ?_ (a2 k hk) id fun i q k n e=>far i q k n _ e⟩
   have hxn:Need f x.id:=by simpa[F5] using hx2
   refine upn (List.mem_flatMap.2 ⟨p,hpm,List.mem_append_left _ (List.mem_map.2 ⟨x,hx1,rfl⟩)⟩) hxn _ ?_
   rw[List.getD_eq_getElem?_getD,List.getElem?_eq_getElem hk,Option.getD_some]
   exact List.getElem_mem _
  ·obtain⟨n,hn⟩:∃ n,(Gj f p).nodes[k']?=some n:=⟨_,List.getElem?_eq_getElem hk'⟩
   rw[hn]
   simp only[List.all_eq_true]
   intro id hid
   obtain⟨k,hk1,hk2,hk3⟩:=Hi hn
   have h11:=h9 k (List.getElem?_eq_some_iff.1 hk1).1
   rw[hk1] at h11
   simp only[List.all_eq_true] at h11
   have hnm:=List.mem_of_getElem? hk1
   have hid':Need f id:=by
    cases hs:ee n with
    |true=>exact .base (List.mem_flatMap.2 ⟨p,hpm,List.mem_append_left _ (List.mem_flatMap.2 ⟨n,List.mem_filter.2 ⟨hnm,hs⟩,hid⟩)⟩)
    |false=>
     rw[hs,Bool.false_or] at hk2
     have h6:¬ n.op=6:=fun h=>by simp[ee,h] at hs
     exact upn (List.mem_flatMap.2 ⟨p,hpm,List.mem_append_right _ (List.mem_map.2 ⟨n,List.mem_filter.2 ⟨hnm,by simp[h6]⟩,rfl⟩)⟩) (by simpa[F5] using hk2) _ hid
   refine Hg hl hl' hid' (h11 id hid) (fun _=>by omega) fun i2 q j m e hq hj hm hlt=>?_
   have:i2=i:=by omega
   subst this
   rw[hp] at hq
   simp only[Option.some.injEq] at hq
   subst hq
   have:=Iy (q:=fun n=>ee n||F5 f n.id) (k:=k) hj hm (by omega)
   omega
  ·exact Hg hl hl' (.base (List.mem_flatMap.2 ⟨p,hpm,List.mem_append_right _ hid⟩)) (h10 id hid) (fun h=>h) fun i q k n e=>far i q k n _ e
 have hv:(F4 f).values=f.values:=rfl
 unfold bG
 rw[hlen,hv,hw,h5,hl',decide_eq_true h1,decide_eq_true h2,decide_eq_true h3,decide_eq_true h4]
 simpa using hu
end
end Go.Ir
