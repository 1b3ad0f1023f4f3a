import Derived.Test.YtijcpefcfcbcnaaIrC
set_option linter.unusedSimpArgs false
set_option linter.unusedVariables false
namespace Go.Ir
open Go.Gr
theorem Made.keep {ids:List Int}{l l':List (Option (Int×Int))}(h:Made ids l l') {i:Nat}{x:Int×Int}(hi:l[i]?=some (some x)):l'[i]?=some (some x):=by
 rw[h.2.2.2 i λhm=>?_];exact hi;obtain⟨_,_,h3,_⟩:=h.2.2.1 _ hm;rw[Int.toNat_natCast,hi] at h3;simp at h3
def Free (ids:List Int) (l:List (Option (Int×Int))):Prop:=ids.Nodup∧∀id∈ids,0≤id∧l[id.toNat]?=some none
theorem Free.next {a b:List Int}{l l1:List (Option (Int×Int))}(h:Free (a++b) l) (hm:Made a l l1):Free b l1:=by
 obtain⟨h1,h2⟩:=h;rw[List.nodup_append] at h1
 refine⟨h1.2.1,λid hid=>?_⟩
 obtain⟨h3,h4⟩:=h2 id (List.mem_append_right _ hid)
 refine⟨h3,?_⟩
 rw[hm.2.2.2 id.toNat λh=>?_];exact h4;rw[show((id.toNat:Nat):Int)=id by omega] at h;exact h1.2.2 id h id hid rfl
theorem Free.left {a b:List Int}{l:List (Option (Int×Int))}(h:Free (a++b) l):Free a l:=
 ⟨(List.nodup_append.1 h.1).1,λid hid=>h.2 id (List.mem_append_left _ hid)⟩
theorem Hn:∀{l:List (Int×List Int)}{a:Int}{v:List Int},(l.map (·.1)).Nodup→(a,v)∈l→byL l a=v
 |[],_,_,_,h=>by cases h
 |x::r,a,v,hn,h=>by
  rw[List.map_cons,List.nodup_cons] at hn;simp only[byL];rcases List.mem_cons.1 h with rfl|h
  ·rw[if_neg,if_pos rfl]
   intro h2;simp only[List.any_eq_true,beq_iff_eq] at h2;obtain⟨y,hy,he⟩:=h2;exact hn.1 (List.mem_map.2 ⟨y,hy,he⟩)
  ·have:r.any (λy=>y.1==a)=true:=by
    simp only[List.any_eq_true,beq_iff_eq]
    exact⟨_,h,rfl⟩
   rw[if_pos this];exact Hn hn.2 h
theorem upd_ids (p:Pt):(bB p).map (·.1)=Hf p:=by
 simp[bB,Hf,List.map_map,Function.comp_def]
theorem H9 (f:Cd):(GS f).map (·.1)=f.parts.flatMap Hf:=by
 unfold GS
 induction f.parts with
 |nil=>rfl
 |cons p r ih=>rw[List.flatMap_cons,List.map_append,ih,upd_ids,List.flatMap_cons]
section
variable {f:Cd}
theorem G5 {p:Pt}(h:p∈(F4 f).parts):∃q∈f.parts,p=Gj f q:=by
 obtain⟨q,hq,rfl⟩:=List.mem_map.1 h
 exact⟨q,hq,rfl⟩
end
end Go.Ir
