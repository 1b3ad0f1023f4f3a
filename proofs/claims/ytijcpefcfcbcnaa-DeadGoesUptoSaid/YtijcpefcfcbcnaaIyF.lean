import Derived.WalkKit
import Derived.Deep.LoopGhost
import Derived.Lib.Walk
import Derived.Lib.SliceRun
import Derived.Test.YtijcpefcfcbcnaaIyA
import Derived.Test.YtijcpefcfcbcnaaCxL
import Derived.Test.YtijcpefcfcbcnaaCvA
set_option linter.unusedSimpArgs false
set_option linter.unusedVariables false
namespace Go.Proofs
open Go.RowKit Go.Lib Go.Cm
theorem oX (n c:Nat) (w:World):Calls Try.prog 106 #[.slice none n c] w λe w'=>e=.returned (.slice none 0 0)∧w'=w:=by
 have q:∀(w:World) (a:Option Addr) (n c n' c':Nat),(binOp .eql 51 (.slice a n c) (.slice none n' c')).run Try.prog w=.ok (.bool a.isNone) w:=λw a n c n' c'=>Lib.run_eql_slice_nil w _ _ a n c n' c' Try.underlying51
 go_enter Try.func106,Try.ntmps106
 go_wp2
 go_ret
 exact⟨rfl,rfl⟩
set_option maxRecDepth 100000 in
theorem ny (a:Addr) (c:Nat) (w:World) :
  Calls Try.prog 106 #[.slice (some a) 0 c] w λe w'=>∃v',e=.returned v'∧(∃a,v'=.slice a 0 0)∧Below w.heap.size w w':=by
 have t22:=Try.underlying51;have q22:∀(w:World) (a:Option Addr) (n c n' c':Nat),(binOp .eql 51 (.slice a n c) (.slice none n' c')).run Try.prog w=.ok (.bool a.isNone) w:=λw a n c n' c'=>Lib.run_eql_slice_nil w _ _ a n c n' c' Try.underlying51;have u22:∀w,Sem.run Try.prog (underlying 51) w=.ok (TypeDesc.slice 3) w:=run_underlying t22;have mg:Try.prog.follows .mixedOrders=true:=Go.Cm.mg
 go_enter Try.func106,Try.ntmps106
 go_wp2
 go_ret
 exact⟨_,rfl,⟨_,rfl⟩,(Below.refl _ w).alloc (Nat.le_refl _) _⟩
theorem nx (H:List HO):SimAt Try.prog 106 [.imm 0 []] H (.imm 0 []) H:=by
 refine⟨⟨_,Try.func106,by kernel_rfl⟩,λK Q w vs hR hV=>?_⟩
 simp only[Vs,V] at hV;obtain⟨v,r,hvs,⟨_,a,cap,rfl,_,_⟩,hr⟩:=hV;subst hr
 obtain rfl:vs=#[.slice a 0 cap]:=by cases vs;simpa using hvs
 refine lq hR ?_;have hRV:∀(a:Option Addr) (n:Nat) (Q:PM) (w0 w':World),RV K (gm H) Q w0 w' (.imm 0 []) (.slice a 0 n):=λa n Q w0 w'=>⟨none,rfl,rfl,a,n,rfl,Nat.zero_le _,.inl rfl⟩
 cases a with
 |none=>
  refine(oX 0 cap w).mono ?_
  rintro e w' ⟨rfl,rfl⟩
  exact⟨_,rfl,Below.refl _ _,λQ w0 w'=>hRV none 0 Q w0 w'⟩
 |some a=>
  refine(ny a cap w).mono ?_
  rintro e w' ⟨v',rfl,⟨a',rfl⟩,hB⟩
  exact⟨_,rfl,hB,λQ w0 w'=>hRV a' 0 Q w0 w'⟩
theorem qp (n c:Nat) (w:World):Calls Try.prog 42 #[.slice none n c] w λe w'=>e=.returned (.slice none 0 0)∧w'=w:=by
 have q:∀(w:World) (a:Option Addr) (n c n' c':Nat),(binOp .eql 27 (.slice a n c) (.slice none n' c')).run Try.prog w=.ok (.bool a.isNone) w:=λw a n c n' c'=>Lib.run_eql_slice_nil w _ _ a n c n' c' Try.underlying27
 go_enter Try.func42,Try.ntmps42
 go_wp2
 go_ret
 exact⟨rfl,rfl⟩
set_option maxRecDepth 100000 in
theorem pb (a:Addr) (c:Nat) (w:World) :
  Calls Try.prog 42 #[.slice (some a) 0 c] w λe w'=>∃v',e=.returned v'∧(∃a,v'=.slice a 0 0)∧Below w.heap.size w w':=by
 have t22:=Try.underlying27;have q22:∀(w:World) (a:Option Addr) (n c n' c':Nat),(binOp .eql 27 (.slice a n c) (.slice none n' c')).run Try.prog w=.ok (.bool a.isNone) w:=λw a n c n' c'=>Lib.run_eql_slice_nil w _ _ a n c n' c' Try.underlying27;have u22:∀w,Sem.run Try.prog (underlying 27) w=.ok (TypeDesc.slice 58) w:=run_underlying t22;have mg:Try.prog.follows .mixedOrders=true:=Go.Cm.mg
 go_enter Try.func42,Try.ntmps42
 go_wp2
 go_ret
 exact⟨_,rfl,⟨_,rfl⟩,(Below.refl _ w).alloc (Nat.le_refl _) _⟩
theorem oY (H:List HO):SimAt Try.prog 42 [.imm 0 []] H (.imm 0 []) H:=by
 refine⟨⟨_,Try.func42,by kernel_rfl⟩,λK Q w vs hR hV=>?_⟩
 simp only[Vs,V] at hV;obtain⟨v,r,hvs,⟨_,a,cap,rfl,_,_⟩,hr⟩:=hV;subst hr
 obtain rfl:vs=#[.slice a 0 cap]:=by cases vs;simpa using hvs
 refine lq hR ?_;have hRV:∀(a:Option Addr) (n:Nat) (Q:PM) (w0 w':World),RV K (gm H) Q w0 w' (.imm 0 []) (.slice a 0 n):=λa n Q w0 w'=>⟨none,rfl,rfl,a,n,rfl,Nat.zero_le _,.inl rfl⟩
 cases a with
 |none=>
  refine(qp 0 cap w).mono ?_
  rintro e w' ⟨rfl,rfl⟩
  exact⟨_,rfl,Below.refl _ _,λQ w0 w'=>hRV none 0 Q w0 w'⟩
 |some a=>
  refine(pb a cap w).mono ?_
  rintro e w' ⟨v',rfl,⟨a',rfl⟩,hB⟩
  exact⟨_,rfl,hB,λQ w0 w'=>hRV a' 0 Q w0 w'⟩
theorem qq (n c:Nat) (w:World):Calls Try.prog 43 #[.slice none n c] w λe w'=>e=.returned (.slice none 0 0)∧w'=w:=by
 have q:∀(w:World) (a:Option Addr) (n c n' c':Nat),(binOp .eql 53 (.slice a n c) (.slice none n' c')).run Try.prog w=.ok (.bool a.isNone) w:=λw a n c n' c'=>Lib.run_eql_slice_nil w _ _ a n c n' c' Try.underlying53
 go_enter Try.func43,Try.ntmps43
 go_wp2
 go_ret
 exact⟨rfl,rfl⟩
set_option maxRecDepth 100000 in
theorem pc (a:Addr) (c:Nat) (w:World) :
  Calls Try.prog 43 #[.slice (some a) 0 c] w λe w'=>∃v',e=.returned v'∧(∃a,v'=.slice a 0 0)∧Below w.heap.size w w':=by
 have t22:=Try.underlying53;have q22:∀(w:World) (a:Option Addr) (n c n' c':Nat),(binOp .eql 53 (.slice a n c) (.slice none n' c')).run Try.prog w=.ok (.bool a.isNone) w:=λw a n c n' c'=>Lib.run_eql_slice_nil w _ _ a n c n' c' Try.underlying53;have u22:∀w,Sem.run Try.prog (underlying 53) w=.ok (TypeDesc.slice 67) w:=run_underlying t22;have mg:Try.prog.follows .mixedOrders=true:=Go.Cm.mg
 go_enter Try.func43,Try.ntmps43
 go_wp2
 go_ret
 exact⟨_,rfl,⟨_,rfl⟩,(Below.refl _ w).alloc (Nat.le_refl _) _⟩
theorem oZ (H:List HO):SimAt Try.prog 43 [.imm 0 []] H (.imm 0 []) H:=by
 refine⟨⟨_,Try.func43,by kernel_rfl⟩,λK Q w vs hR hV=>?_⟩
 simp only[Vs,V] at hV;obtain⟨v,r,hvs,⟨_,a,cap,rfl,_,_⟩,hr⟩:=hV;subst hr
 obtain rfl:vs=#[.slice a 0 cap]:=by cases vs;simpa using hvs
 refine lq hR ?_;have hRV:∀(a:Option Addr) (n:Nat) (Q:PM) (w0 w':World),RV K (gm H) Q w0 w' (.imm 0 []) (.slice a 0 n):=λa n Q w0 w'=>⟨none,rfl,rfl,a,n,rfl,Nat.zero_le _,.inl rfl⟩
 cases a with
 |none=>
  refine(qq 0 cap w).mono ?_
  rintro e w' ⟨rfl,rfl⟩
  exact⟨_,rfl,Below.refl _ _,λQ w0 w'=>hRV none 0 Q w0 w'⟩
 |some a=>
  refine(pc a cap w).mono ?_
  rintro e w' ⟨v',rfl,⟨a',rfl⟩,hB⟩
  exact⟨_,rfl,hB,λQ w0 w'=>hRV a' 0 Q w0 w'⟩
end Go.Proofs
namespace Go.Gr
def ins (g:List (List Int)) (x:Int):List Int:=(g.getD x.toNat []).filter λy=>decide (0≤y∧y<g.length)
theorem fJ {g:List (List Int)}{x y:Int}(h:y∈ins g x):0≤y∧y<g.length:=by
 simpa[ins] using(List.mem_filter.1 h).2
inductive From (g:List (List Int)) (ys:List Int):Int→Prop
 |base {y:Int}(h:y∈ys):From g ys y
 |step {x y:Int}(hx:From g ys x) (h:y∈ins g x):From g ys y
inductive Rch (g:List (List Int)):Int→Prop
 |zero (h:g≠[]):Rch g 0
 |step {x y:Int}(hx:Rch g x) (h:y∈ins g x):Rch g y
theorem Rch.range {g:List (List Int)}{x:Int}(h:Rch g x):0≤x∧x<g.length:=by
 cases h with
 |zero h=>have:0<g.length:=List.length_pos_iff.2 h;omega
 |step _ h=>exact fJ h
theorem Rch.of_from {g:List (List Int)}(hg:g≠[]) {x:Int}(h:From g [0] x):Rch g x:=by
 induction h with
 |base h=>rw[List.mem_singleton.1 h];exact .zero hg
 |step _ h ih=>exact .step ih h
theorem From.mono {g:List (List Int)}{ys zs:List Int}(h:∀y∈ys,From g zs y) {x:Int}(hx:From g ys x):From g zs x:=by
 induction hx with
 |base hy=>exact h _ hy
 |step _ h2 ih=>exact .step ih h2
abbrev St:=List Int×List Int
def da (g:List (List Int)):Nat→Int→St→St
 |0,_,s=>s
 |k+1,x,s=>
  if x∈s.1 then s
  else
   let s':=(ins g x).foldl (λs y=>da g k y s) (s.1++[x],s.2)
   (s'.1,s'.2++[x])
def iz (g:List (List Int)) (met:List Int):Nat:=(List.range g.length).countP λ(i:Nat)=>!(met.contains (i:Int))
theorem jS {p q:Nat→Bool}{i:Nat}:∀{l:List Nat},i∈l→(∀j,q j=true→p j=true)→p i=true→q i=false→l.countP q<l.countP p
 |[],hi,_,_,_=>by cases hi
 |x::l,hi,hpq,hp,hq=>by
  have hle:∀l:List Nat,l.countP q≤l.countP p:=λl=>List.countP_mono_left λj _ h=>hpq j h;rcases List.mem_cons.1 hi with rfl|hi
  ·rw[List.countP_cons_of_pos hp,List.countP_cons_of_neg (by rw[hq];simp)]
   have:=hle l;omega
  ·have ih:=jS hi hpq hp hq
   by_cases hx:q x=true
   ·rw[List.countP_cons_of_pos hx,List.countP_cons_of_pos (hpq x hx)];omega
   ·rw[List.countP_cons_of_neg hx]
    by_cases hx2:p x=true
    ·rw[List.countP_cons_of_pos hx2];omega
    ·rw[List.countP_cons_of_neg hx2];exact ih
theorem oQ (g:List (List Int)) (met M:List Int):iz g (met++M)≤iz g met:=by
 refine List.countP_mono_left λj _ h=>?_;simp at h ⊢;exact h.1
theorem tg {g:List (List Int)}{met:List Int}{x:Int}(h0:0≤x) (h1:x<g.length) (hx:x∉met):iz g (met++[x])<iz g met:=by
 have hx':((x.toNat:Nat):Int)=x:=by omega
 refine jS (i:=x.toNat) (List.mem_range.2 (by omega)) (λj h=>?_) ?_ ?_
 ·simp at h ⊢;exact h.1
 ·simp[hx',hx]
 ·simp[hx']
structure VOK (g:List (List Int)) (ys:List Int) (s s':St) (M N:List Int):Prop where
 met:s'.1=s.1++M
 left:s'.2=s.2++N
 same:∀z,z∈M↔z∈N
 new:∀z∈N,z∉s.1
 nodup:N.Nodup
 closed:∀z∈N,∀y∈ins g z,y∈s'.1
 par:∀a z b,N=a++z::b→z∈ys∨∃y∈b,z∈ins g y
 frm:∀z∈N,From g ys z
 all:∀y∈ys,y∈s'.1
theorem VOK.nil {g:List (List Int)}{s:St}:VOK g [] s s [] []:=
 ⟨by simp,by simp,by simp,by simp,by simp,by simp,by simp,by simp,by simp⟩
theorem VOK.cons {g:List (List Int)}{y:Int}{ys:List Int}{s s1 s2:St}{M1 N1 M2 N2:List Int}(h1:VOK g [y] s s1 M1 N1) (h2:VOK g ys s1 s2 M2 N2):VOK g (y::ys) s s2 (M1++M2) (N1++N2) where
 met:=by rw[h2.met,h1.met,List.append_assoc]
 left:=by rw[h2.left,h1.left,List.append_assoc]
 same:=λz=>by simp only[List.mem_append,h1.same,h2.same]
 new:=λz hz hs=>by
  rcases List.mem_append.1 hz with hz|hz
  ·exact h1.new z hz hs
  ·exact h2.new z hz (by rw[h1.met];exact List.mem_append_left _ hs)
 nodup:=by
  rw[List.nodup_append]
  refine⟨h1.nodup,h2.nodup,λa ha b hb hab=>?_⟩
  subst hab;exact h2.new a hb (by rw[h1.met];exact List.mem_append_right _ ((h1.same a).2 ha))
 closed:=λz hz x hx=>by
  rcases List.mem_append.1 hz with hz|hz
  ·rw[h2.met];exact List.mem_append_left _ (h1.closed z hz x hx)
  ·exact h2.closed z hz x hx
 par:=λa z b hab=>by
  rcases List.append_eq_append_iff.1 hab with⟨c,hc1,hc2⟩|⟨c,hc1,hc2⟩
  · -- N1 ++ c = a, N2 = c ++ z :: b
   rcases h2.par c z b hc2 with h|h
   ·exact .inl (List.mem_cons_of_mem _ h)
   ·exact .inr h
  · -- N1 = a ++ c, c ++ N2 = z :: b
   cases c with
   |nil=>
    simp only[List.nil_append] at hc2;rcases h2.par [] z b (by rw[←hc2];rfl) with h|h
    ·exact .inl (List.mem_cons_of_mem _ h)
    ·exact .inr h
   |cons w c=>
    simp only[List.cons_append,List.cons.injEq] at hc2;obtain⟨rfl,rfl⟩:=hc2;rcases h1.par a z c hc1 with h|⟨x,hx,h⟩
    ·exact .inl (by rw[List.mem_singleton.1 h];exact List.mem_cons_self)
    ·exact .inr ⟨x,List.mem_append_left _ hx,h⟩
 frm:=λz hz=>by
  rcases List.mem_append.1 hz with hz|hz
  ·exact From.mono (λw hw=>.base (by rw[List.mem_singleton.1 hw];exact List.mem_cons_self)) (h1.frm z hz)
  ·exact From.mono (λw hw=>.base (List.mem_cons_of_mem _ hw)) (h2.frm z hz)
 all:=λx hx=>by
  rcases List.mem_cons.1 hx with rfl|hx
  ·rw[h2.met];exact List.mem_append_left _ (h1.all _ List.mem_cons_self)
  ·exact h2.all x hx
theorem VOK.close {g:List (List Int)}{x:Int}{s s':St}{M N:List Int}(hx:x∉s.1) (h:VOK g (ins g x) (s.1++[x],s.2) s' M N):VOK g [x] s (s'.1,s'.2++[x]) (x::M) (N++[x]) where
 met:=by simp only[h.met,List.append_assoc,List.cons_append,List.nil_append]
 left:=by simp only[h.left,List.append_assoc]
 same:=λz=>by simp only[List.mem_cons,List.mem_append,h.same,List.not_mem_nil,or_false];exact Or.comm
 new:=λz hz hs=>by
  rcases List.mem_append.1 hz with hz|hz
  ·exact h.new z hz (List.mem_append_left _ hs)
  ·rw[List.mem_singleton.1 hz] at hs;exact hx hs
 nodup:=by
  rw[List.nodup_append]
  refine⟨h.nodup,by simp,λa ha b hb hab=>?_⟩
  subst hab;exact h.new a ha (List.mem_append_right _ hb)
 closed:=λz hz y hy=>by
  rcases List.mem_append.1 hz with hz|hz
  ·exact h.closed z hz y hy
  ·rw[List.mem_singleton.1 hz] at hy;exact h.all y hy
 par:=λa z b hab=>by
  rcases List.eq_nil_or_concat b with rfl|⟨b',w,rfl⟩
  ·have:=List.append_inj_right' hab rfl
   simp only[List.cons.injEq,and_true] at this;exact .inl (by rw[this];exact List.mem_cons_self)
  ·have hab':N++[x]=(a++z::b')++[w]:=by rw[hab];simp
   have h1:=List.append_inj_right' hab' rfl;have h2:=List.append_inj_left' hab' rfl;simp only[List.cons.injEq,and_true] at h1;subst h1;right;rcases h.par a z b' h2 with h3|⟨y,hy,h3⟩
   ·exact⟨x,by simp,h3⟩
   ·exact⟨y,by simp[hy],h3⟩
 frm:=λz hz=>by
  rcases List.mem_append.1 hz with hz|hz
  ·exact From.mono (λw hw=>.step (.base (List.mem_cons_self)) hw) (h.frm z hz)
  ·rw[List.mem_singleton.1 hz];exact .base List.mem_cons_self
 all:=λy hy=>by
  rw[List.mem_singleton.1 hy];simp only[h.met];simp
theorem oR (g:List (List Int)):∀(k:Nat) (x:Int) (s:St),0≤x→x<g.length→iz g s.1<k→∃M N,VOK g [x] s (da g k x s) M N
 |0,_,_,_,_,h=>by omega
 |k+1,x,s,h0,h1,hk=>by
  simp only[da]
  by_cases hx:x∈s.1
  ·simp only[hx,if_true]
   exact⟨[],[],by simp,by simp,by simp,by simp,by simp,by simp,by simp,by simp,λy hy=>by rw[List.mem_singleton.1 hy];exact hx⟩
  ·simp only[hx,if_false]
   have key:∀(ys:List Int) (s:St),(∀y∈ys,0≤y∧y<g.length)→iz g s.1<k→∃M N,VOK g ys s (ys.foldl (λs y=>da g k y s) s) M N:=by
    intro ys
    induction ys with
    |nil=>intro s _ _;exact⟨[],[],VOK.nil⟩
    |cons y ys ih=>
     intro s hy hs;obtain⟨M1,N1,h2⟩:=oR g k y s (hy y List.mem_cons_self).1 (hy y List.mem_cons_self).2 hs;obtain⟨M2,N2,h3⟩:=ih (da g k y s) (λz hz=>hy z (List.mem_cons_of_mem _ hz)) (by rw[h2.met];have:=oQ g s.1 M1;omega)
     exact⟨_,_,h2.cons h3⟩
   obtain⟨M,N,h2⟩:=key (ins g x) (s.1++[x],s.2) (λy hy=>fJ hy) (by have:=tg h0 h1 hx;simp only;omega)
   exact⟨_,_,h2.close hx⟩
theorem VOK.len_le {g:List (List Int)}{ys:List Int}{s s':St}{M N:List Int}(h:VOK g ys s s' M N):s.2.length≤s'.2.length:=by
 rw[h.left,List.length_append];omega
theorem qv (g:List (List Int)) (k:Nat):∀(ys:List Int) (s:St),(∀y∈ys,0≤y∧y<g.length)→iz g s.1<k→∃M N,VOK g ys s (ys.foldl (λs y=>da g k y s) s) M N
 |[],s,_,_=>⟨[],[],VOK.nil⟩
 |y::ys,s,hy,hs=>by
  obtain⟨M1,N1,h2⟩:=oR g k y s (hy y List.mem_cons_self).1 (hy y List.mem_cons_self).2 hs;obtain⟨M2,N2,h3⟩:=qv g k ys (da g k y s) (λz hz=>hy z (List.mem_cons_of_mem _ hz)) (by rw[h2.met];have:=oQ g s.1 M1;omega)
  exact⟨_,_,h2.cons h3⟩
def ord (g:List (List Int)):List Int:=if g=[] then [] else (da g (g.length+1) 0 ([],[])).2.reverse
theorem ql (g:List (List Int)):iz g []≤g.length:=by
 simp[iz]
theorem qT (g:List (List Int)) (hg:g≠[]):∃M N,VOK g [0] ([],[]) (da g (g.length+1) 0 ([],[])) M N∧ord g=N.reverse:=by
 have h0:0<g.length:=List.length_pos_iff.2 hg;obtain⟨M,N,h⟩:=oR g (g.length+1) 0 ([],[]) (Int.le_refl _) (by omega) (by have:=ql g;simp only;omega)
 refine⟨M,N,h,?_⟩
 have:(da g (g.length+1) 0 ([],[])).2=N:=by rw[h.left];simp
 simp only[ord,if_neg hg,this]
theorem cu (g:List (List Int)) (z:Int):z∈ord g↔Rch g z:=by
 by_cases hg:g=[]
 ·subst hg
  simp only[ord,if_true,List.not_mem_nil,false_iff];intro h;have:=h.range;simp at this;omega
 ·obtain⟨M,N,h,ho⟩:=qT g hg
  rw[ho,List.mem_reverse];constructor
  ·intro hz;exact Rch.of_from hg (h.frm z hz)
  ·intro hz
   have hm:∀z,z∈(da g (g.length+1) 0 ([],[])).1↔z∈N:=λz=>by rw[h.met];simpa using h.same z
   induction hz with
   |zero _=>exact(hm 0).1 (h.all 0 (by simp))
   |step _ hy ih=>exact(hm _).1 (h.closed _ ih _ hy)
theorem lD (g:List (List Int)):(ord g).Nodup:=by
 by_cases hg:g=[]
 ·simp[ord,hg]
 ·obtain⟨M,N,h,ho⟩:=qT g hg
  rw[ho];unfold List.Nodup;rw[List.pairwise_reverse];exact List.Pairwise.imp (λh=>h.symm) h.nodup
theorem wh {g:List (List Int)}{a b:List Int}{z:Int}(h:ord g=a++z::b):(z=0∧a=[])∨∃y∈a,z∈ins g y:=by
 by_cases hg:g=[]
 ·simp[ord,hg] at h
 ·obtain⟨M,N,hv,ho⟩:=qT g hg
  rw[ho] at h;have h':N=b.reverse++z::a.reverse:=by
   have:=congrArg List.reverse h;simpa using this
  have h0:(0:Int)∈N:=(hv.same 0).1 (by have:=hv.all 0 (by simp);rw[hv.met] at this;simpa using this);rcases hv.par _ _ _ h' with h1|⟨y,hy,h1⟩
  ·rw[List.mem_singleton] at h1
   subst h1
   cases ha:a with
   |nil=>exact .inl ⟨rfl,rfl⟩
   |cons c a'=>
    have hlast:∃N' w,N=N'++[w]:=by
     rcases List.eq_nil_or_concat N with e|⟨N',w,e⟩
     ·rw[e] at h0;cases h0
     ·exact⟨N',w,by simpa using e⟩
    obtain⟨N',w,hw⟩:=hlast;rcases hv.par N' w [] hw with h2|⟨y,hy,_⟩
    ·rw[List.mem_singleton] at h2
     subst h2;exfalso;have hnd:=hv.nodup;rw[hw] at hnd h';rw[ha] at h';simp only[List.reverse_cons] at h';have h3:N'++[0]=(b.reverse++0::a'.reverse)++[c]:=by rw[h'];simp
     have h4:=List.append_inj_left' h3 rfl;rw[List.nodup_append] at hnd;exact hnd.2.2 0 (by rw[h4];simp) 0 (by simp) rfl
    ·cases hy
  ·exact .inr ⟨y,by simpa using hy,h1⟩
theorem pT {n:Nat}:∀{l:List Int},l.Nodup→(∀x∈l,0≤x∧x<n)→l.length≤(List.range n).countP λ(i:Nat)=>l.contains (i:Int)
 |[],_,_=>Nat.zero_le _
 |x::l,hd,hr=>by
  have h1:=pT (List.nodup_cons.1 hd).2 λy hy=>hr y (List.mem_cons_of_mem _ hy);have hx:=hr x List.mem_cons_self;have hx':((x.toNat:Nat):Int)=x:=by omega
  have h2:(List.range n).countP (λ(i:Nat)=>l.contains (i:Int))<(List.range n).countP λ(i:Nat)=>(x::l).contains (i:Int):=by
   refine jS (i:=x.toNat) (List.mem_range.2 (by omega)) (λj h=>?_) ?_ ?_
   ·simp at h ⊢;exact .inr h
   ·simp[hx']
   ·have:=(List.nodup_cons.1 hd).1
    simp[hx',this]
  simp only[List.length_cons];omega
theorem qS (g:List (List Int)):(ord g).length≤g.length:=by
 have h:=pT (n:=g.length) (lD g) λx hx=>((cu g x).1 hx).range;have h2:=List.countP_le_length (p:=λ(i:Nat)=>(ord g).contains (i:Int)) (l:=List.range g.length);rw[List.length_range] at h2;omega
theorem iV {g:List (List Int)}(hg:g≠[]):∃r,ord g=0::r:=by
 have h0:(0:Int)∈ord g:=(cu g 0).2 (.zero hg)
 cases ho:ord g with
 |nil=>rw[ho] at h0;cases h0
 |cons z r=>
  rcases wh (a:=[]) (by rw[ho];rfl) with⟨h,_⟩|⟨y,hy,_⟩
  ·exact⟨r,by rw[h]⟩
  ·cases hy
end Go.Gr
