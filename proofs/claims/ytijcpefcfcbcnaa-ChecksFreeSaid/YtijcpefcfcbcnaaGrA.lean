import Derived.Test.YtijcpefcfcbcnaaCvA
set_option linter.unusedSimpArgs false
set_option linter.unusedVariables false
namespace Go.Gr
def ins (g:List (List Int)) (x:Int):List Int:=(g.getD x.toNat []).filter fun y=>decide (0≤y∧y<g.length)
theorem fJ {g:List (List Int)}{x y:Int}(h:y ∈ ins g x):0≤y∧y<g.length:=by
 simpa[ins] using(List.mem_filter.1 h).2
inductive From (g:List (List Int)) (ys:List Int):Int→Prop
 |base {y:Int}(h:y ∈ ys):From g ys y
 |step {x y:Int}(hx:From g ys x) (h:y ∈ ins g x):From g ys y
inductive Rch (g:List (List Int)):Int→Prop
 |zero (h:g≠[]):Rch g 0
 |step {x y:Int}(hx:Rch g x) (h:y ∈ ins g x):Rch g y
theorem Rch.range {g:List (List Int)}{x:Int}(h:Rch g x):0≤x∧x<g.length:=by
 cases h with
 |zero h=>have:0<g.length:=List.length_pos_iff.2 h;omega
 |step _ h=>exact fJ h
theorem Rch.of_from {g:List (List Int)}(hg:g≠[]) {x:Int}(h:From g [0] x):Rch g x:=by
 induction h with
 |base h=>rw[List.mem_singleton.1 h];exact .zero hg
 |step _ h ih=>exact .step ih h
theorem From.mono {g:List (List Int)}{ys zs:List Int}(h:∀ y ∈ ys,From g zs y) {x:Int}(hx:From g ys x):From g zs x:=by
 induction hx with
 |base hy=>exact h _ hy
 |step _ h2 ih=>exact .step ih h2
abbrev St:=List Int×List Int
def da (g:List (List Int)):Nat→Int→St→St
 |0,_,s=>s
 |k+1,x,s=>
  if x ∈ s.1 then s
  else
   let s':=(ins g x).foldl (fun s y=>da g k y s) (s.1++[x],s.2)
   (s'.1,s'.2++[x])
def iz (g:List (List Int)) (met:List Int):Nat:=(List.range g.length).countP fun(i:Nat)=>!(met.contains (i:Int))
theorem jS {p q:Nat→Bool}{i:Nat}:∀ {l:List Nat},i ∈ l→(∀ j,q j=true→p j=true)→p i=true→q i=false→l.countP q<l.countP p
 |[],hi,_,_,_=>by cases hi
 |x::l,hi,hpq,hp,hq=>by
  have hle:∀ l:List Nat,l.countP q≤l.countP p:=fun l=>List.countP_mono_left fun j _ h=>hpq j h
  rcases List.mem_cons.1 hi with rfl|hi
  ·rw[List.countP_cons_of_pos hp,List.countP_cons_of_neg (by rw[hq];simp)]
   have:=hle l;omega
  ·have ih:=jS hi hpq hp hq
   by_cases hx:q x=true
   ·rw[List.countP_cons_of_pos hx,List.countP_cons_of_pos (hpq x hx)];omega
   ·rw[List.countP_cons_of_neg hx]
    by_cases hx2:p x=true
    ·rw[List.countP_cons_of_pos hx2];omega
    ·rw[List.countP_cons_of_neg hx2];exact ih
theorem oQ (g:List (List Int)) (met M:List Int):iz g (met++M)≤iz g met:=by
 refine List.countP_mono_left fun j _ h=>?_
 simp at h ⊢
 exact h.1
theorem tg {g:List (List Int)}{met:List Int}{x:Int}(h0:0≤x) (h1:x<g.length) (hx:x ∉ met):iz g (met++[x])<iz g met:=by
 have hx':((x.toNat:Nat):Int)=x:=by omega
 refine jS (i:=x.toNat) (List.mem_range.2 (by omega)) (fun j h=>?_) ?_ ?_
 ·simp at h ⊢;exact h.1
 ·simp[hx',hx]
 ·simp[hx']
structure VOK (g:List (List Int)) (ys:List Int) (s s':St) (M N:List Int):Prop where
 met:s'.1=s.1++M
 left:s'.2=s.2++N
 same:∀ z,z ∈ M↔z ∈ N
 new:∀ z ∈ N,z ∉ s.1
 nodup:N.Nodup
 closed:∀ z ∈ N,∀ y ∈ ins g z,y ∈ s'.1
 par:∀ a z b,N=a++z::b→z ∈ ys∨∃ y ∈ b,z ∈ ins g y
 frm:∀ z ∈ N,From g ys z
 all:∀ y ∈ ys,y ∈ s'.1
theorem VOK.nil {g:List (List Int)}{s:St}:VOK g [] s s [] []:=
 ⟨by simp,by simp,by simp,by simp,by simp,by simp,by simp,by simp,by simp⟩
theorem VOK.cons {g:List (List Int)}{y:Int}{ys:List Int}{s s1 s2:St}{M1 N1 M2 N2:List Int}(h1:VOK g [y] s s1 M1 N1) (h2:VOK g ys s1 s2 M2 N2):VOK g (y::ys) s s2 (M1++M2) (N1++N2) where
 met:=by rw[h2.met,h1.met,List.append_assoc]
 left:=by rw[h2.left,h1.left,List.append_assoc]
 same:=fun z=>by simp only[List.mem_append,h1.same,h2.same]
 new:=fun z hz hs=>by
  rcases List.mem_append.1 hz with hz|hz
  ·exact h1.new z hz hs
  ·exact h2.new z hz (by rw[h1.met];exact List.mem_append_left _ hs)
 nodup:=by
  rw[List.nodup_append]
  refine⟨h1.nodup,h2.nodup,fun a ha b hb hab=>?_⟩
  subst hab
  exact h2.new a hb (by rw[h1.met];exact List.mem_append_right _ ((h1.same a).2 ha))
 closed:=fun z hz x hx=>by
  rcases List.mem_append.1 hz with hz|hz
  ·rw[h2.met];exact List.mem_append_left _ (h1.closed z hz x hx)
  ·exact h2.closed z hz x hx
 par:=fun a z b hab=>by
  rcases List.append_eq_append_iff.1 hab with⟨c,hc1,hc2⟩|⟨c,hc1,hc2⟩
  · -- N1 ++ c = a, N2 = c ++ z :: b
   rcases h2.par c z b hc2 with h|h
   ·exact .inl (List.mem_cons_of_mem _ h)
   ·exact .inr h
  · -- N1 = a ++ c, c ++ N2 = z :: b
   cases c with
   |nil=>
    simp only[List.nil_append] at hc2
    rcases h2.par [] z b (by rw[←hc2];rfl) with h|h
    ·exact .inl (List.mem_cons_of_mem _ h)
    ·exact .inr h
   |cons w c=>
    simp only[List.cons_append,List.cons.injEq] at hc2
    obtain⟨rfl,rfl⟩:=hc2
    rcases h1.par a z c hc1 with h|⟨x,hx,h⟩
    ·exact .inl (by rw[List.mem_singleton.1 h];exact List.mem_cons_self)
    ·exact .inr ⟨x,List.mem_append_left _ hx,h⟩
 frm:=fun z hz=>by
  rcases List.mem_append.1 hz with hz|hz
  ·exact From.mono (fun w hw=>.base (by rw[List.mem_singleton.1 hw];exact List.mem_cons_self)) (h1.frm z hz)
  ·exact From.mono (fun w hw=>.base (List.mem_cons_of_mem _ hw)) (h2.frm z hz)
 all:=fun x hx=>by
  rcases List.mem_cons.1 hx with rfl|hx
  ·rw[h2.met];exact List.mem_append_left _ (h1.all _ List.mem_cons_self)
  ·exact h2.all x hx
theorem VOK.close {g:List (List Int)}{x:Int}{s s':St}{M N:List Int}(hx:x ∉ s.1) (h:VOK g (ins g x) (s.1++[x],s.2) s' M N):VOK g [x] s (s'.1,s'.2++[x]) (x::M) (N++[x]) where
 met:=by simp only[h.met,List.append_assoc,List.cons_append,List.nil_append]
 left:=by simp only[h.left,List.append_assoc]
 same:=fun z=>by simp only[List.mem_cons,List.mem_append,h.same,List.not_mem_nil,or_false];exact Or.comm
 new:=fun z hz hs=>by
  rcases List.mem_append.1 hz with hz|hz
  ·exact h.new z hz (List.mem_append_left _ hs)
  ·rw[List.mem_singleton.1 hz] at hs;exact hx hs
 nodup:=by
  rw[List.nodup_append]
  refine⟨h.nodup,by simp,fun a ha b hb hab=>?_⟩
  subst hab
  exact h.new a ha (List.mem_append_right _ hb)
 closed:=fun z hz y hy=>by
  rcases List.mem_append.1 hz with hz|hz
  ·exact h.closed z hz y hy
  ·rw[List.mem_singleton.1 hz] at hy;exact h.all y hy
 par:=fun a z b hab=>by
  rcases List.eq_nil_or_concat b with rfl|⟨b',w,rfl⟩
  ·have:=List.append_inj_right' hab rfl
   simp only[List.cons.injEq,and_true] at this
   exact .inl (by rw[this];exact List.mem_cons_self)
  ·have hab':N++[x]=(a++z::b')++[w]:=by rw[hab];simp
   have h1:=List.append_inj_right' hab' rfl
   have h2:=List.append_inj_left' hab' rfl
   simp only[List.cons.injEq,and_true] at h1
   subst h1
   right
   rcases h.par a z b' h2 with h3|⟨y,hy,h3⟩
   ·exact⟨x,by simp,h3⟩
   ·exact⟨y,by simp[hy],h3⟩
 frm:=fun z hz=>by
  rcases List.mem_append.1 hz with hz|hz
  ·exact From.mono (fun w hw=>.step (.base (List.mem_cons_self)) hw) (h.frm z hz)
  ·rw[List.mem_singleton.1 hz];exact .base List.mem_cons_self
 all:=fun y hy=>by
  rw[List.mem_singleton.1 hy]
  simp only[h.met]
  simp
theorem oR (g:List (List Int)):∀ (k:Nat) (x:Int) (s:St),0≤x→x<g.length→iz g s.1<k→∃ M N,VOK g [x] s (da g k x s) M N
 |0,_,_,_,_,h=>by omega
 |k+1,x,s,h0,h1,hk=>by
  simp only[da]
  by_cases hx:x ∈ s.1
  ·simp only[hx,if_true]
   exact⟨[],[],by simp,by simp,by simp,by simp,by simp,by simp,by simp,by simp,fun y hy=>by rw[List.mem_singleton.1 hy];exact hx⟩
  ·simp only[hx,if_false]
   have key:∀ (ys:List Int) (s:St),(∀ y ∈ ys,0≤y∧y<g.length)→iz g s.1<k→∃ M N,VOK g ys s (ys.foldl (fun s y=>da g k y s) s) M N:=by
    intro ys
    induction ys with
    |nil=>intro s _ _;exact⟨[],[],VOK.nil⟩
    |cons y ys ih=>
     intro s hy hs
     obtain⟨M1,N1,h2⟩:=oR g k y s (hy y List.mem_cons_self).1 (hy y List.mem_cons_self).2 hs
     obtain⟨M2,N2,h3⟩:=ih (da g k y s) (fun z hz=>hy z (List.mem_cons_of_mem _ hz)) (by rw[h2.met];have:=oQ g s.1 M1;omega)
     exact⟨_,_,h2.cons h3⟩
   obtain⟨M,N,h2⟩:=key (ins g x) (s.1++[x],s.2) (fun y hy=>fJ hy) (by have:=tg h0 h1 hx;simp only;omega)
   exact⟨_,_,h2.close hx⟩
theorem VOK.len_le {g:List (List Int)}{ys:List Int}{s s':St}{M N:List Int}(h:VOK g ys s s' M N):s.2.length≤s'.2.length:=by
 rw[h.left,List.length_append];omega
theorem qv (g:List (List Int)) (k:Nat):∀ (ys:List Int) (s:St),(∀ y ∈ ys,0≤y∧y<g.length)→iz g s.1<k→∃ M N,VOK g ys s (ys.foldl (fun s y=>da g k y s) s) M N
 |[],s,_,_=>⟨[],[],VOK.nil⟩
 |y::ys,s,hy,hs=>by
  obtain⟨M1,N1,h2⟩:=oR g k y s (hy y List.mem_cons_self).1 (hy y List.mem_cons_self).2 hs
  obtain⟨M2,N2,h3⟩:=qv g k ys (da g k y s) (fun z hz=>hy z (List.mem_cons_of_mem _ hz)) (by rw[h2.met];have:=oQ g s.1 M1;omega)
  exact⟨_,_,h2.cons h3⟩
def ord (g:List (List Int)):List Int:=if g=[] then [] else (da g (g.length+1) 0 ([],[])).2.reverse
theorem ql (g:List (List Int)):iz g []≤g.length:=by
 simp[iz]
theorem qT (g:List (List Int)) (hg:g≠[]):∃ M N,VOK g [0] ([],[]) (da g (g.length+1) 0 ([],[])) M N∧ord g=N.reverse:=by
 have h0:0<g.length:=List.length_pos_iff.2 hg
 obtain⟨M,N,h⟩:=oR g (g.length+1) 0 ([],[]) (Int.le_refl _) (by omega) (by have:=ql g;simp only;omega)
 refine⟨M,N,h,?_⟩
 have:(da g (g.length+1) 0 ([],[])).2=N:=by rw[h.left];simp
 simp only[ord,if_neg hg,this]
theorem cu (g:List (List Int)) (z:Int):z ∈ ord g↔Rch g z:=by
 by_cases hg:g=[]
 ·subst hg
  simp only[ord,if_true,List.not_mem_nil,false_iff]
  intro h
  have:=h.range
  simp at this;omega
 ·obtain⟨M,N,h,ho⟩:=qT g hg
  rw[ho,List.mem_reverse]
  constructor
  ·intro hz;exact Rch.of_from hg (h.frm z hz)
  ·intro hz
   have hm:∀ z,z ∈ (da g (g.length+1) 0 ([],[])).1↔z ∈ N:=fun z=>by rw[h.met];simpa using h.same z
   induction hz with
   |zero _=>exact(hm 0).1 (h.all 0 (by simp))
   |step _ hy ih=>exact(hm _).1 (h.closed _ ih _ hy)
theorem lD (g:List (List Int)):(ord g).Nodup:=by
 by_cases hg:g=[]
 ·simp[ord,hg]
 ·obtain⟨M,N,h,ho⟩:=qT g hg
  rw[ho];unfold List.Nodup;rw[List.pairwise_reverse];exact List.Pairwise.imp (fun h=>h.symm) h.nodup
theorem wh {g:List (List Int)}{a b:List Int}{z:Int}(h:ord g=a++z::b):(z=0∧a=[])∨∃ y ∈ a,z ∈ ins g y:=by
 by_cases hg:g=[]
 ·simp[ord,hg] at h
 ·obtain⟨M,N,hv,ho⟩:=qT g hg
  rw[ho] at h
  have h':N=b.reverse++z::a.reverse:=by
   have:=congrArg List.reverse h
   simpa using this
  have h0:(0:Int) ∈ N:=(hv.same 0).1 (by have:=hv.all 0 (by simp);rw[hv.met] at this;simpa using this)
  rcases hv.par _ _ _ h' with h1|⟨y,hy,h1⟩
  ·rw[List.mem_singleton] at h1
   subst h1
   cases ha:a with
   |nil=>exact .inl ⟨rfl,rfl⟩
   |cons c a'=>
    have hlast:∃ N' w,N=N'++[w]:=by
     rcases List.eq_nil_or_concat N with e|⟨N',w,e⟩
     ·rw[e] at h0;cases h0
     ·exact⟨N',w,by simpa using e⟩
    obtain⟨N',w,hw⟩:=hlast
    rcases hv.par N' w [] hw with h2|⟨y,hy,_⟩
    ·rw[List.mem_singleton] at h2
     subst h2
     exfalso
     have hnd:=hv.nodup
     rw[hw] at hnd h'
     rw[ha] at h'
     simp only[List.reverse_cons] at h'
     have h3:N'++[0]=(b.reverse++0::a'.reverse)++[c]:=by rw[h'];simp
     have h4:=List.append_inj_left' h3 rfl
     rw[List.nodup_append] at hnd
     exact hnd.2.2 0 (by rw[h4];simp) 0 (by simp) rfl
    ·cases hy
  ·exact .inr ⟨y,by simpa using hy,h1⟩
theorem pT {n:Nat}:∀ {l:List Int},l.Nodup→(∀ x ∈ l,0≤x∧x<n)→l.length≤(List.range n).countP fun(i:Nat)=>l.contains (i:Int)
 |[],_,_=>Nat.zero_le _
 |x::l,hd,hr=>by
  have h1:=pT (List.nodup_cons.1 hd).2 fun y hy=>hr y (List.mem_cons_of_mem _ hy)
  have hx:=hr x List.mem_cons_self
  have hx':((x.toNat:Nat):Int)=x:=by omega
  have h2:(List.range n).countP (fun(i:Nat)=>l.contains (i:Int))<(List.range n).countP fun(i:Nat)=>(x::l).contains (i:Int):=by
   refine jS (i:=x.toNat) (List.mem_range.2 (by omega)) (fun j h=>?_) ?_ ?_
   ·simp at h ⊢;exact .inr h
   ·simp[hx']
   ·have:=(List.nodup_cons.1 hd).1
    simp[hx',this]
  simp only[List.length_cons];omega
theorem qS (g:List (List Int)):(ord g).length≤g.length:=by
 have h:=pT (n:=g.length) (lD g) fun x hx=>((cu g x).1 hx).range
 have h2:=List.countP_le_length (p:=fun(i:Nat)=>(ord g).contains (i:Int)) (l:=List.range g.length)
 rw[List.length_range] at h2
 omega
theorem iV {g:List (List Int)}(hg:g≠[]):∃ r,ord g=0::r:=by
 have h0:(0:Int) ∈ ord g:=(cu g 0).2 (.zero hg)
 cases ho:ord g with
 |nil=>rw[ho] at h0;cases h0
 |cons z r=>
  rcases wh (a:=[]) (by rw[ho];rfl) with⟨h,_⟩|⟨y,hy,_⟩
  ·exact⟨r,by rw[h]⟩
  ·cases hy
end Go.Gr
namespace Go.Gr
inductive Av (g:List (List Int)) (c:Int):Int→Prop
 |zero (h:g≠[]) (hc:c≠0):Av g c 0
 |step {x y:Int}(hx:Av g c x) (h:y ∈ ins g x) (hc:y≠c):Av g c y
theorem Av.rch {g:List (List Int)}{c x:Int}(h:Av g c x):Rch g x:=by
 induction h with
 |zero h _=>exact .zero h
 |step _ h _ ih=>exact .step ih h
theorem Av.ne {g:List (List Int)}{c x:Int}(h:Av g c x):x≠c:=by
 cases h with
 |zero _ h=>exact h.symm
 |step _ _ h=>exact h
def Dom (g:List (List Int)) (d x:Int):Prop:=Rch g d∧Rch g x∧¬ Av g d x
theorem Dom.self {g:List (List Int)}{x:Int}(h:Rch g x):Dom g x x:=⟨h,h,fun ha=>ha.ne rfl⟩
theorem Dom.pred {g:List (List Int)}{d x y:Int}(h:Dom g d x) (hne:d≠x) (hy:Rch g y) (he:x ∈ ins g y):Dom g d y:=
 ⟨h.1,hy,fun ha=>h.2.2 (.step ha he hne.symm)⟩
theorem Dom.zero {g:List (List Int)}{d:Int}(h:Dom g d 0):d=0:=by
 by_cases hd:d=0
 ·exact hd
 ·exfalso
  refine h.2.2 (.zero ?_ hd)
  intro hg
  have:=h.1.range
  rw[hg] at this;simp at this;omega
section
variable (g:List (List Int))
def pl (x:Int):Nat:=(ord g).idxOf x
def prd (x:Int):List Int:=(ord g).filter fun y=>decide (x ∈ ins g y)
end
section
variable {g:List (List Int)}
theorem mem_prd {x y:Int}:y ∈ prd g x↔y ∈ ord g∧x ∈ ins g y:=by simp[prd]
theorem oc {x:Int}(h:x ∈ ord g):pl g x<(ord g).length:=List.idxOf_lt_length_of_mem h
theorem oa {x:Int}(h:x ∈ ord g):(ord g)[pl g x]?=some x:=by
 have:=List.getElem?_eq_getElem (oc h)
 rw[this]
 congr 1
 exact List.getElem_idxOf (oc h)
theorem qU {x y:Int}(hx:x ∈ ord g) (hy:y ∈ ord g) (h:pl g x=pl g y):x=y:=by
 have h1:=oa hx
 have h2:=oa hy
 rw[h,h2] at h1
 exact(Option.some.inj h1).symm
theorem lE {i:Nat}{x:Int}(h:(ord g)[i]?=some x):pl g x=i∧x ∈ ord g:=by
 have hm:=List.mem_of_getElem? h
 refine⟨?_,hm⟩
 have h1:=oa hm
 obtain⟨hi,_⟩:=List.getElem?_eq_some_iff.1 h
 exact(List.getElem?_inj (oc hm) (lD g)).1 (by rw[h1,h])
theorem pV {x:Int}(hx:x ∈ ord g) (h0:x≠0):∃ y ∈ prd g x,pl g y<pl g x:=by
 have hg:=oa hx
 obtain⟨hi,hge⟩:=List.getElem?_eq_some_iff.1 hg
 have hs:ord g=(ord g).take (pl g x)++x::(ord g).drop (pl g x+1):=by
  conv=>lhs;rw[←List.take_append_drop (pl g x) (ord g),List.drop_eq_getElem_cons hi,hge]
 rcases wh hs with⟨h,_⟩|⟨y,hy,h⟩
 ·exact absurd h h0
 ·obtain⟨j,hj⟩:=List.getElem?_of_mem hy
  rw[List.getElem?_take] at hj
  split at hj
  ·rename_i hlt
   obtain⟨h1,h2⟩:=lE hj
   exact⟨y,mem_prd.2 ⟨h2,h⟩,by omega⟩
  ·cases hj
inductive Ch (u:Int→Int):Int→Int→Prop
 |self (x:Int):Ch u x x
 |step {x c:Int}(hx:u x ≠ -1) (h:Ch u (u x) c):Ch u x c
theorem Ch.trans {u:Int→Int}{a b c:Int}(h:Ch u a b) (h2:Ch u b c):Ch u a c:=by
 induction h with
 |self x=>exact h2
 |step hx _ ih=>exact .step hx (ih h2)
theorem Ch.linear {u:Int→Int}{x a b:Int}(ha:Ch u x a) (hb:Ch u x b):Ch u a b∨Ch u b a:=by
 induction ha with
 |self x=>exact .inl hb
 |step hx h ih=>
  cases hb with
  |self=>exact .inr (.step hx h)
  |step _ hb=>exact ih hb
structure Val (g:List (List Int)) (u:Int→Int):Prop where
 ne:g≠[]
 up:∀ x,u x ≠ -1→x ∈ ord g∧u x ∈ ord g∧pl g (u x)<pl g x
 zero:u 0 = -1
 set:∀ x,u x ≠ -1→u x=0∨u (u x) ≠ -1
def Set (u:Int→Int) (x:Int):Prop:=x=0∨u x ≠ -1
theorem Val.mem {u:Int→Int}(h:Val g u) {x:Int}(hx:Set u x):x ∈ ord g:=by
 rcases hx with rfl|hx
 ·exact(cu g 0).2 (.zero h.ne)
 ·exact(h.up x hx).1
theorem Val.setUp {u:Int→Int}(h:Val g u) {x c:Int}(hx:Set u x) (hc:Ch u x c):Set u c:=by
 induction hc with
 |self x=>exact hx
 |step hx' _ ih=>exact ih (h.set _ hx')
theorem Val.le {u:Int→Int}(h:Val g u) {x c:Int}(hc:Ch u x c):c=x∨pl g c<pl g x:=by
 induction hc with
 |self x=>exact .inl rfl
 |step hx _ ih=>
  have:=(h.up _ hx).2.2
  rcases ih with rfl|ih
  ·exact .inr this
  ·exact .inr (by omega)
theorem Val.le' {u:Int→Int}(h:Val g u) {x c:Int}(hc:Ch u x c):pl g c≤pl g x:=by
 rcases h.le hc with rfl|h
 ·exact Nat.le_refl _
 ·omega
theorem Val.above {u:Int→Int}(h:Val g u) {x a b:Int}(hx:Set u x) (ha:Ch u x a) (hb:Ch u x b) (hlt:pl g b≤pl g a):Ch u a b:=by
 rcases ha.linear hb with h1|h1
 ·exact h1
 ·have:=h.le' h1
  have he:=qU (h.mem (h.setUp hx ha)) (h.mem (h.setUp hx hb)) (by omega)
  rw[he];exact .self _
inductive Pth (g:List (List Int)) (p:Nat) (x:Int):Int→Prop
 |self:Pth g p x x
 |step {y z:Int}(h:Pth g p x y) (he:z ∈ ins g y) (hp:p<pl g z):Pth g p x z
theorem Pth.weaken {p q:Nat}{x z:Int}(h:Pth g p x z) (hq:q≤p):Pth g q x z:=by
 induction h with
 |self=>exact .self
 |step _ he hp ih=>exact .step ih he (by omega)
theorem Pth.trans {p:Nat}{x y z:Int}(h:Pth g p x y) (h2:Pth g p y z):Pth g p x z:=by
 induction h2 with
 |self=>exact h
 |step _ he hp ih=>exact .step ih he hp
theorem Pth.av {p:Nat}{d x z:Int}(h:Pth g p x z) (hd:pl g d≤p) (hx:Av g d x):Av g d z:=by
 induction h with
 |self=>exact hx
 |step _ he hp ih=>exact .step ih he (fun e=>by rw[e] at hp;omega)
structure Inv (g:List (List Int)) (u:Int→Int) (i:Nat):Prop extends Val g u where
 pre:∀ x ∈ ord g,pl g x<i→Set u x
 dom:∀ x,Set u x→∀ d,Dom g d x→Ch u x d
 way:∀ x,u x ≠ -1→Pth g (pl g (u x)) (u x) x
 all:∀ x,u x ≠ -1→∀ e,(∀ y ∈ prd g x,Set u y→Ch u y e)→Ch u (u x) e
 some:∀ x,u x ≠ -1→∃ y ∈ prd g x,pl g y<pl g x∧Set u y∧∀ w,(i≤pl g w∨pl g x<i)→Ch u (u x) w→Ch u y w
theorem Inv.start (hg:g≠[]):Inv g (fun _=>-1) 1 where
 ne:=hg
 up:=fun x h=>absurd rfl h
 zero:=rfl
 set:=fun x h=>absurd rfl h
 pre:=fun x hx h=>by
  obtain⟨r,hr⟩:=iV hg
  have h0:pl g x=0:=by omega
  have:=oa hx
  rw[h0,hr] at this
  simp at this
  exact .inl this.symm
 dom:=fun x hx d hd=>by
  rcases hx with rfl|hx
  ·rw[hd.zero];exact .self _
  ·exact absurd rfl hx
 way:=fun x h=>absurd rfl h
 all:=fun x h=>absurd rfl h
 some:=fun x h=>absurd rfl h
theorem Inv.again {u:Int→Int}(h:Inv g u (ord g).length):Inv g u 1:=
 { h with
  pre:=fun x hx _=>h.pre x hx (oc hx)
  some:=fun x hx=>by
   obtain⟨y,h1,h2,h3,h4⟩:=h.some x hx
   exact⟨y,h1,h2,h3,fun w _ hw=>h4 w (.inr (oc (h.up x hx).1)) hw⟩ }
theorem Inv.path {u:Int→Int}{i:Nat}(h:Inv g u i) {z x:Int}(hc:Ch u z x):Pth g (pl g x) x z:=by
 induction hc with
 |self x=>exact .self
 |step hx hc ih=>exact ih.trans ((h.way _ hx).weaken (h.toVal.le' hc))
def upd (u:Int→Int) (x m:Int):Int→Int:=fun z=>if z=x then m else u z
theorem dP {u:Int→Int}{x m:Int}:upd u x m x=m:=by simp[upd]
theorem dS {u:Int→Int}{x m z:Int}(h:z≠x):upd u x m z=u z:=by simp[upd,h]
structure Meets (g:List (List Int)) (u:Int→Int) (x m:Int):Prop where
 set:Set u m
 iff:∀ c,Ch u m c↔∀ y ∈ prd g x,Set u y→Ch u y c
section
variable {u:Int→Int}{x m:Int}
theorem Ch.upd_off {z c:Int}(hz:¬ Ch u z x) (h:Ch u z c):Ch (upd u x m) z c:=by
 induction h with
 |self z=>exact .self z
 |step hz' h ih=>
  rename_i z c
  have hne:z≠x:=fun e=>hz (by rw[e];exact .self _)
  refine .step (by rw[dS hne];exact hz') ?_
  rw[dS hne]
  exact ih fun h2=>hz (.step hz' h2)
theorem Ch.of_upd_off {z c:Int}(hz:¬ Ch u z x) (h:Ch (upd u x m) z c):Ch u z c:=by
 induction h with
 |self z=>exact .self z
 |step hz' h ih=>
  rename_i z c
  have hne:z≠x:=fun e=>hz (by rw[e];exact .self _)
  rw[dS hne] at hz' h ih
  exact .step hz' (ih fun h2=>hz (.step hz' h2))
theorem Ch.upd_low (hV:Val g u) {z c:Int}(h:Ch u z c) (hp:pl g x≤pl g c) (hxm:x ∈ ord g) (hcm:c ∈ ord g):Ch (upd u x m) z c:=by
 induction h with
 |self z=>exact .self z
 |step hz' h ih=>
  rename_i z c
  by_cases hne:z=x
  ·subst hne
   have:=(hV.up _ hz').2.2
   have:=hV.le' h
   omega
  ·refine .step (by rw[dS hne];exact hz') ?_
   rw[dS hne]
   exact ih hp hcm
end
theorem Inv.meet_ahead {u:Int→Int}{i:Nat}{x m:Int}(h:Inv g u i) (hx:x ∈ ord g) (h0:x≠0) (hi:pl g x≤i) (hm:Meets g u x m) :
  pl g m<pl g x∧∃ y ∈ prd g x,pl g y<pl g x∧Set u y:=by
 obtain⟨y,hy,hlt⟩:=pV hx h0
 have hs:=h.pre y (mem_prd.1 hy).1 (by omega)
 have:=(hm.iff m).1 (.self _) y hy hs
 have:=h.toVal.le' this
 exact⟨by omega,y,hy,hlt,hs⟩
theorem Inv.step {u:Int→Int}{x m:Int}(h:Inv g u (pl g x)) (hx:x ∈ ord g) (h0:x≠0) (hm:Meets g u x m):Inv g (upd u x m) (pl g x+1):=by
 obtain⟨hlt,y0,hy0,hylt,hys⟩:=h.meet_ahead hx h0 (Nat.le_refl _) hm
 have hV:=h.toVal
 have hmo:m ∈ ord g:=hV.mem hm.set
 have hmn:m ≠ -1:=by
  have:=((cu g m).1 hmo).range;omega
 have hxm:∀ {z:Int},pl g z<pl g x→¬ Ch u z x:=fun hz hc=>by have:=hV.le' hc;omega
 have L4:∀ c,Ch (upd u x m) m c↔Ch u m c:=fun c=>⟨Ch.of_upd_off (hxm hlt),Ch.upd_off (hxm hlt)⟩
 have hV':Val g (upd u x m):=by
  refine⟨h.ne,fun z hz=>?_,by rw[dS (Ne.symm h0)];exact h.zero,fun z hz=>?_⟩
  ·by_cases he:z=x
   ·subst he;rw[dP];exact⟨hx,hmo,hlt⟩
   ·rw[dS he] at hz ⊢;exact h.up z hz
  ·by_cases he:z=x
   ·subst he
    rw[dP]
    rcases hm.set with h1|h1
    ·exact .inl h1
    ·right
     by_cases hmx:m=z
     ·rw[hmx] at hlt;omega
     ·rw[dS hmx];exact h1
   ·rw[dS he] at hz ⊢
    rcases h.set z hz with h1|h1
    ·exact .inl h1
    ·right
     by_cases hmx:u z=x
     ·rw[hmx,dP];exact hmn
     ·rw[dS hmx];exact h1
 have hset:∀ {z:Int},Set u z→Set (upd u x m) z:=by
  intro z hz
  rcases hz with rfl|hz
  ·exact .inl rfl
  ·right
   by_cases he:z=x
   ·subst he;rw[dP];exact hmn
   ·rw[dS he];exact hz
 have hset':∀ {z:Int},z≠x→Set (upd u x m) z→Set u z:=by
  intro z he hz
  rcases hz with rfl|hz
  ·exact .inl rfl
  ·rw[dS he] at hz;exact .inr hz
 have hxs:Set (upd u x m) x:=.inr (by rw[dP];exact hmn)
 have L1:∀ {z c:Int},Set u z→Ch (upd u x m) z c→Ch u z c:=by
  intro z c hz hc
  induction hc with
  |self z=>exact .self z
  |step hz' hc ih=>
   rename_i z c
   by_cases he:z=x
   ·subst he
    rcases hz with hz|hz
    ·exact absurd hz h0
    ·rw[dP] at hc
     have:=(L4 c).1 hc
     exact .step hz (h.all z hz c ((hm.iff c).1 this))
   ·rw[dS he] at hz' hc ih
    exact .step hz' (ih (h.set z hz'))
 have L2:∀ {z c:Int},Set u z→Ch u z c→pl g x≤pl g c→Ch (upd u x m) z c:=fun hz hc hp=>Ch.upd_low hV hc hp hx (hV.mem (hV.setUp hz hc))
 have domx:∀ d,Dom g d x→Ch (upd u x m) x d:=by
  intro d hd
  by_cases he:d=x
  ·rw[he];exact .self _
  ·refine .step (by rw[dP];exact hmn) ?_
   rw[dP]
   refine(L4 d).2 ((hm.iff d).2 fun y hy hs=>h.dom y hs d (hd.pred he ((cu g y).1 (mem_prd.1 hy).1) (mem_prd.1 hy).2))
 refine { toVal:=hV',pre:=?_,dom:=?_,way:=?_,all:=?_,some:=?_ }
 ·intro z hz hp
  by_cases he:z=x
  ·rw[he];exact hxs
  ·refine hset (h.pre z hz ?_)
   rcases Nat.lt_or_ge (pl g z) (pl g x) with h1|h1
   ·exact h1
   ·exact absurd (qU hz hx (by omega)) he
 ·intro z hz d hd
  by_cases he:z=x
  ·subst he;exact domx d hd
  ·have hzs:=hset' he hz
   have hc:=h.dom z hzs d hd
   by_cases hzx:Ch u z x
   ·rcases Nat.lt_or_ge (pl g d) (pl g x) with h1|h1
    · -- d dominates x, too
     have hdx:Dom g d x:=by
      refine⟨hd.1,(cu g x).1 hx,fun ha=>hd.2.2 ((h.path hzx).av (by omega) ha)⟩
     exact(L2 hzs hzx (Nat.le_refl _)).trans (domx d hdx)
    ·exact L2 hzs hc h1
   ·exact Ch.upd_off hzx hc
 ·intro z hz
  by_cases he:z=x
  ·subst he
   rw[dP]
   refine .step (h.path ((hm.iff m).1 (.self _) y0 hy0 hys)) (mem_prd.1 hy0).2 hlt
  ·rw[dS he] at hz ⊢;exact h.way z hz
 ·intro z hz e hall
  by_cases he:z=x
  ·subst he
   rw[dP]
   refine(L4 e).2 ((hm.iff e).2 fun y hy hs=>L1 hs (hall y hy (hset hs)))
  ·rw[dS he] at hz ⊢
   have hus:Set u (u z):=h.set z hz
   have hc:=h.all z hz e fun y hy hs=>L1 hs (hall y hy (hset hs))
   by_cases hzx:Ch u (u z) x
   ·rcases Nat.lt_or_ge (pl g e) (pl g x) with h1|h1
    ·obtain⟨y,hy,_,hs,hw⟩:=h.some z hz
     have hyx:=hw x (.inl (Nat.le_refl _)) hzx
     have h2:=hV'.above (hset hs) (L2 hs hyx (Nat.le_refl _)) (hall y hy (hset hs)) (by omega)
     exact(L2 hus hzx (Nat.le_refl _)).trans h2
    ·exact L2 hus hc h1
   ·exact Ch.upd_off hzx hc
 ·intro z hz
  by_cases he:z=x
  ·subst he
   refine⟨y0,hy0,hylt,hset hys,fun w _ hw=>?_⟩
   rw[dP] at hw
   exact Ch.upd_off (hxm hylt) ((hm.iff w).1 ((L4 w).1 hw) y0 hy0 hys)
  ·rw[dS he] at hz
   obtain⟨y,hy,h1,hs,hw⟩:=h.some z hz
   refine⟨y,hy,h1,hset hs,fun w hwi hc=>?_⟩
   rw[dS he] at hc
   have hus:Set u (u z):=h.set z hz
   have hc':=L1 hus hc
   rcases Nat.lt_or_ge (pl g z) (pl g x) with h2|h2
   ·exact Ch.upd_off (hxm (by omega)) (hw w (.inr h2) hc')
   ·have h3:pl g x<pl g z:=by
     rcases Nat.lt_or_ge (pl g x) (pl g z) with h4|h4
     ·exact h4
     ·exact absurd (qU (h.up z hz).1 hx (by omega)) he
    have h4:pl g x+1≤pl g w:=by omega
    exact L2 hs (hw w (.inl (by omega)) hc') (by omega)
def sh (g:List (List Int)) (u:Int→Int):Nat:=((ord g).map fun x=>if u x = -1 then (ord g).length else pl g (u x)).sum
theorem most_lt {u:Int→Int}{x m:Int}(h:Inv g u (pl g x)) (hx:x ∈ ord g) (h0:x≠0) (hm:Meets g u x m) (hne:m≠u x):sh g (upd u x m)<sh g u:=by
 obtain⟨hlt,_⟩:=h.meet_ahead hx h0 (Nat.le_refl _) hm
 have hmo:m ∈ ord g:=h.toVal.mem hm.set
 have hmn:m ≠ -1:=by have:=((cu g m).1 hmo).range;omega
 have hsm:(if m = -1 then (ord g).length else pl g m)<(if u x = -1 then (ord g).length else pl g (u x)):=by
  rw[if_neg hmn]
  by_cases hu:u x = -1
  ·rw[if_pos hu];exact oc hmo
  ·rw[if_neg hu]
   have hc:=h.all x hu m ((hm.iff m).1 (.self _))
   rcases h.toVal.le hc with h1|h1
   ·exact absurd h1 hne
   ·exact h1
 have key:∀ l:List Int,(∀ z ∈ l,z ∈ ord g)→(l.map fun z=>if upd u x m z = -1 then (ord g).length else pl g (upd u x m z)).sum≤(l.map fun z=>if u z = -1 then (ord g).length else pl g (u z)).sum ∧
   (x ∈ l→(l.map fun z=>if upd u x m z = -1 then (ord g).length else pl g (upd u x m z)).sum<(l.map fun z=>if u z = -1 then (ord g).length else pl g (u z)).sum):=by
  intro l
  induction l with
  |nil=>intro _;exact⟨Nat.le_refl _,fun h=>by cases h⟩
  |cons z l ih=>
   intro hl
   obtain⟨i1,i2⟩:=ih fun w hw=>hl w (List.mem_cons_of_mem _ hw)
   simp only[List.map_cons,List.sum_cons]
   by_cases he:z=x
   ·subst he
    rw[dP]
    exact⟨by omega,fun _=>by omega⟩
   ·rw[dS he]
    refine⟨by omega,fun hm=>?_⟩
    rcases List.mem_cons.1 hm with h1|h1
    ·exact absurd h1.symm he
    ·have:=i2 h1;omega
 exact(key (ord g) fun z hz=>hz).2 hx
theorem upd_same {u:Int→Int}{x:Int}:upd u x (u x)=u:=by
 funext z
 unfold upd
 split
 ·rename_i h;rw[h]
 ·rfl
theorem Inv.final {u:Int→Int}(h:Inv g u (ord g).length) (hf:∀ x ∈ ord g,x≠0→Meets g u x (u x)) {x c:Int}(hx:x ∈ ord g):Ch u x c↔Dom g c x:=by
 have hs:∀ z ∈ ord g,Set u z:=fun z hz=>h.pre z hz (oc hz)
 constructor
 ·intro hc
  have hco:=h.toVal.mem (h.toVal.setUp (hs x hx) hc)
  refine⟨(cu g c).1 hco,(cu g x).1 hx,fun ha=>?_⟩
  clear hx
  induction ha with
  |zero hg h0=>
   cases hc with
   |self=>exact h0 rfl
   |step h1 _=>exact h1 h.zero
  |step hy he hne ih=>
   rename_i y z
   have hyo:=(cu g y).2 hy.rch
   have hzo:z ∈ ord g:=(cu g z).2 (.step hy.rch he)
   cases hc with
   |self=>exact hne rfl
   |step h1 hc=>
    have hz0:z≠0:=fun e=>by rw[e] at h1;exact h1 h.zero
    exact ih ((hf z hzo hz0).iff c |>.1 hc y (mem_prd.2 ⟨hyo,he⟩) (hs y hyo))
 ·exact fun hd=>h.dom x (hs x hx) c hd
end
end Go.Gr
