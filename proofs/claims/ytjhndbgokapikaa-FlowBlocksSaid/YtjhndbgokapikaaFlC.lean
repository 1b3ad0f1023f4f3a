import Derived.Test.YtjhndbgokapikaaFpD
import Derived.Test.YtjhndbgokapikaaCvA
set_option linter.unusedSimpArgs false
set_option linter.unusedVariables false
namespace Go.Fl
def dd:List Int→List Int→List Int
 |S,[]=>S
 |S,t::r=>if t∈S then dd S r else dd (S++[t]) r
theorem PU {x:Int}:∀{r S:List Int},x∈dd S r↔x∈S∨x∈r
 |[],S=>by simp[dd]
 |t::r,S=>by
  unfold dd;split
  ·rename_i h
   rw[PU];constructor
   ·rintro(h|h)
    ·exact .inl h
    ·exact .inr (List.mem_cons_of_mem _ h)
   ·rintro(h2|h2)
    ·exact .inl h2
    ·rcases List.mem_cons.1 h2 with rfl|h2
     ·exact .inl h
     ·exact .inr h2
  ·rw[PU]
   simp only[List.mem_append,List.mem_singleton,List.mem_cons,List.not_mem_nil,or_false]
   exact⟨λh=>h.elim (λh=>h.elim .inl λh=>.inr (.inl h)) λh=>.inr (.inr h),λh=>h.elim (λh=>.inl (.inl h)) λh=>h.elim (λh=>.inl (.inr h)) .inr⟩
theorem KR:∀{r S:List Int},S.Nodup→(dd S r).Nodup
 |[],S,h=>h
 |t::r,S,h=>by
  unfold dd;split
  ·exact KR h
  ·rename_i h2
   exact KR (List.nodup_append.2 ⟨h,by simp,λa ha b hb=>by
    rw[List.mem_singleton] at hb;subst hb;exact λe=>h2 (e ▸ ha)⟩)
theorem Kx:∀{a b S:List Int},dd S (a++b)=dd (dd S a) b
 |[],_,_=>rfl
 |t::a,b,S=>by
  simp only[List.cons_append,dd];split
  ·exact Kx
  ·exact Kx
theorem Lc:∀{r S:List Int},(dd S r).length≤S.length+r.length
 |[],S=>by simp[dd]
 |t::r,S=>by
  unfold dd;split
  ·have:=Lc (r:=r) (S:=S);simp only[List.length_cons];omega
  ·have:=Lc (r:=r) (S:=S++[t]);simp only[List.length_append,List.length_cons,List.length_nil] at this ⊢;omega
noncomputable def fk (g:Gp) (s:Nat):Int:=match HE g s (cj g) with
 |some k=>k
 |none=>-1
noncomputable def toL (g:Gp) (a:Nat):List Int:=(g.succ (last g a)).map (fk g)
noncomputable def KI (g:Gp) (a:Nat):List Int:=dd [] (toL g a)
noncomputable def tp (g:Gp) (t:Int):Nat→List Nat→List Int
 |_,[]=>[]
 |k,a::l=>if t∈KI g a then (k:Int)::tp g t (k+1) l else tp g t (k+1) l
section
variable {g:Gp}{a b x s k:Nat}{t:Int}
theorem Lh {l:List Nat}{k:Nat}:tp g t k (b::l)=if t∈KI g b then (k:Int)::tp g t (k+1) l else tp g t (k+1) l:=rfl
theorem Qd:∀{l:List Nat}{k:Nat}{x:Int},x∈tp g t k l↔∃j a,l[j]?=some a∧x=((k+j:Nat):Int)∧t∈KI g a
 |[],k,x=>by simp[tp]
 |b::l,k,x=>by
  have ih:=Qd (l:=l) (k:=k+1) (x:=x);have hstep:(∃j a,(b::l)[j]?=some a∧x=((k+j:Nat):Int)∧t∈KI g a)↔(x=(k:Int)∧t∈KI g b)∨∃j a,l[j]?=some a∧x=((k+1+j:Nat):Int)∧t∈KI g a:=by
   constructor
   ·rintro⟨j,a,h1,h2,h3⟩
    cases j with
    |zero=>simp only[List.getElem?_cons_zero,Option.some.injEq] at h1;subst h1;exact .inl ⟨by simpa using h2,h3⟩
    |succ j=>exact .inr ⟨j,a,by simpa using h1,by rw[h2];omega,h3⟩
   ·rintro(⟨h1,h2⟩|⟨j,a,h1,h2,h3⟩)
    ·exact⟨0,b,rfl,by simpa using h1,h2⟩
    ·exact⟨j+1,a,by simpa using h1,by rw[h2];omega,h3⟩
  rw[hstep,←ih,Lh];split
  ·rename_i h
   rw[List.mem_cons]
   exact⟨λh2=>h2.elim (λh2=>.inl ⟨h2,h⟩) .inr,λh2=>h2.elim (λh2=>.inl h2.1) .inr⟩
  ·rename_i h
   exact⟨.inr,λh2=>h2.elim (λh2=>absurd h2.2 h) id⟩
theorem Ms:∀{l:List Nat}{k:Nat},(tp g t k l).Pairwise (· < ·)∧∀x∈tp g t k l,(k:Int)≤x
 |[],k=>⟨List.Pairwise.nil,λx h=>by cases h⟩
 |b::l,k=>by
  obtain⟨h1,h2⟩:=Ms (l:=l) (k:=k+1);rw[Lh];split
  ·refine⟨List.pairwise_cons.2 ⟨λx hx=>by have:=h2 x hx;omega,h1⟩,λx hx=>?_⟩
   rcases List.mem_cons.1 hx with rfl|hx
   ·exact Int.le_refl _
   ·have:=h2 x hx;omega
  ·exact⟨h1,λx hx=>by have:=h2 x hx;omega⟩
theorem Mg:∀{l:List Nat}{k:Nat},tp g t k (l++[a])=tp g t k l++if t∈KI g a then [((k+l.length:Nat):Int)] else []
 |[],k=>by simp[tp]
 |b::l,k=>by
  have ih:=Mg (l:=l) (k:=k+1);simp only[List.cons_append,tp,ih,List.length_cons];rw[show k+1+l.length=k+(l.length+1) by omega]
  split<;>rfl
theorem Kp:∀{l:List Nat}{k:Nat},(tp g t k l).length≤l.length
 |[],k=>by simp[tp]
 |b::l,k=>by
  have ih:=Kp (l:=l) (k:=k+1);rw[Lh]
  split<;>simp only[List.length_cons]<;>omega
theorem Nq {l:List Nat}{k:Nat}:(tp g t k l).Nodup:=(Ms (l:=l) (k:=k)).1.imp λh=>by omega
theorem KU (hg:Ok g) (h:Lead g s):∃k:Nat,fk g s=k∧(cj g)[k]?=some s:=by
 obtain⟨k,h1,h2⟩:=N3 hg h
 exact⟨k,by rw[fk,h1],h2⟩
theorem fk_at (hg:Ok g) (h:(cj g)[k]?=some s):fk g s=k:=by
 obtain⟨j,h1,h2⟩:=KU hg ((gB hg).1 (List.mem_of_getElem? h));have hn:(cj g).Nodup:=leadL_sorted.imp λh=>by omega
 obtain⟨h3,h4⟩:=List.getElem?_eq_some_iff.1 h;obtain⟨h5,h6⟩:=List.getElem?_eq_some_iff.1 h2;have:=(List.getElem_inj hn).1 (h4.trans h6.symm);rw[h1,this]
end
end Go.Fl
namespace Go.Gr
def ins (g:List (List Int)) (x:Int):List Int:=(g.getD x.toNat []).filter λy=>decide (0≤y∧y<g.length)
theorem fJ {g:List (List Int)}{x y:Int}(h:y∈ins g x):0≤y∧y<g.length:=by
 simpa[ins] using(List.mem_filter.1 h).2
inductive From (g:List (List Int)) (ys:List Int):Int→Prop
 |base {y:Int}(h:y∈ys):From g ys y
 |step {x y:Int}(hx:From g ys x) (h:y∈ins g x):From g ys y
inductive Rch (g:List (List Int)):Int→Prop
 |zero (h:g≠[]):Rch g 0
 |step {x y:Int}(hx:Rch g x) (h:y∈ins g x):Rch g y
theorem Rch.range {g:List (List Int)}{x:Int}(h:Rch g x):0≤x∧x<g.length:=by
 cases h with
 |zero h=>have:0<g.length:=List.length_pos_iff.2 h;omega
 |step _ h=>exact fJ h
theorem From.mono {g:List (List Int)}{ys zs:List Int}(h:∀y∈ys,From g zs y) {x:Int}(hx:From g ys x):From g zs x:=by
 induction hx with
 |base hy=>exact h _ hy
 |step _ h2 ih=>exact .step ih h2
abbrev St:=List Int×List Int
def da (g:List (List Int)):Nat→Int→St→St
 |0,_,s=>s
 |k+1,x,s=>
  if x∈s.1 then s
  else
   let s':=(ins g x).foldl (λs y=>da g k y s) (s.1++[x],s.2)
   (s'.1,s'.2++[x])
theorem jS {p q:Nat→Bool}{i:Nat}:∀{l:List Nat},i∈l→(∀j,q j=true→p j=true)→p i=true→q i=false→l.countP q<l.countP p
 |[],hi,_,_,_=>by cases hi
 |x::l,hi,hpq,hp,hq=>by
  have hle:∀l:List Nat,l.countP q≤l.countP p:=λl=>List.countP_mono_left λj _ h=>hpq j h;rcases List.mem_cons.1 hi with rfl|hi
  ·rw[List.countP_cons_of_pos hp,List.countP_cons_of_neg (by rw[hq];simp)]
   have:=hle l;omega
  ·have ih:=jS hi hpq hp hq
   by_cases hx:q x=true
   ·rw[List.countP_cons_of_pos hx,List.countP_cons_of_pos (hpq x hx)];omega
   ·rw[List.countP_cons_of_neg hx]
    by_cases hx2:p x=true
    ·rw[List.countP_cons_of_pos hx2];omega
    ·rw[List.countP_cons_of_neg hx2];exact ih
structure VOK (g:List (List Int)) (ys:List Int) (s s':St) (M N:List Int):Prop where
 met:s'.1=s.1++M
 left:s'.2=s.2++N
 same:∀z,z∈M↔z∈N
 new:∀z∈N,z∉s.1
 nodup:N.Nodup
 closed:∀z∈N,∀y∈ins g z,y∈s'.1
 par:∀a z b,N=a++z::b→z∈ys∨∃y∈b,z∈ins g y
 frm:∀z∈N,From g ys z
 all:∀y∈ys,y∈s'.1
theorem VOK.nil {g:List (List Int)}{s:St}:VOK g [] s s [] []:=
 ⟨by simp,by simp,by simp,by simp,by simp,by simp,by simp,by simp,by simp⟩
theorem VOK.cons {g:List (List Int)}{y:Int}{ys:List Int}{s s1 s2:St}{M1 N1 M2 N2:List Int}(h1:VOK g [y] s s1 M1 N1) (h2:VOK g ys s1 s2 M2 N2):VOK g (y::ys) s s2 (M1++M2) (N1++N2) where
 met:=by rw[h2.met,h1.met,List.append_assoc]
 left:=by rw[h2.left,h1.left,List.append_assoc]
 same:=λz=>by simp only[List.mem_append,h1.same,h2.same]
 new:=λz hz hs=>by
  rcases List.mem_append.1 hz with hz|hz
  ·exact h1.new z hz hs
  ·exact h2.new z hz (by rw[h1.met];exact List.mem_append_left _ hs)
 nodup:=by
  rw[List.nodup_append]
  refine⟨h1.nodup,h2.nodup,λa ha b hb hab=>?_⟩
  subst hab;exact h2.new a hb (by rw[h1.met];exact List.mem_append_right _ ((h1.same a).2 ha))
 closed:=λz hz x hx=>by
  rcases List.mem_append.1 hz with hz|hz
  ·rw[h2.met];exact List.mem_append_left _ (h1.closed z hz x hx)
  ·exact h2.closed z hz x hx
 par:=λa z b hab=>by
  rcases List.append_eq_append_iff.1 hab with⟨c,hc1,hc2⟩|⟨c,hc1,hc2⟩
  · -- N1 ++ c = a, N2 = c ++ z :: b
   rcases h2.par c z b hc2 with h|h
   ·exact .inl (List.mem_cons_of_mem _ h)
   ·exact .inr h
  · -- N1 = a ++ c, c ++ N2 = z :: b
   cases c with
   |nil=>
    simp only[List.nil_append] at hc2;rcases h2.par [] z b (by rw[←hc2];rfl) with h|h
    ·exact .inl (List.mem_cons_of_mem _ h)
    ·exact .inr h
   |cons w c=>
    simp only[List.cons_append,List.cons.injEq] at hc2;obtain⟨rfl,rfl⟩:=hc2;rcases h1.par a z c hc1 with h|⟨x,hx,h⟩
    ·exact .inl (by rw[List.mem_singleton.1 h];exact List.mem_cons_self)
    ·exact .inr ⟨x,List.mem_append_left _ hx,h⟩
 frm:=λz hz=>by
  rcases List.mem_append.1 hz with hz|hz
  ·exact From.mono (λw hw=>.base (by rw[List.mem_singleton.1 hw];exact List.mem_cons_self)) (h1.frm z hz)
  ·exact From.mono (λw hw=>.base (List.mem_cons_of_mem _ hw)) (h2.frm z hz)
 all:=λx hx=>by
  rcases List.mem_cons.1 hx with rfl|hx
  ·rw[h2.met];exact List.mem_append_left _ (h1.all _ List.mem_cons_self)
  ·exact h2.all x hx
def ord (g:List (List Int)):List Int:=if g=[] then [] else (da g (g.length+1) 0 ([],[])).2.reverse
end Go.Gr
