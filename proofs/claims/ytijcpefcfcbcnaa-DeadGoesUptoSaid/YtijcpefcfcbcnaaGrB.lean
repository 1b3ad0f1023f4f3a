import Derived.Test.YtijcpefcfcbcnaaIyF
import Derived.Test.YtijcpefcfcbcnaaCxH
import Derived.Test.YtijcpefcfcbcnaaIyA
import Derived.Test.YtijcpefcfcbcnaaIyB
set_option linter.unusedSimpArgs false
set_option linter.unusedVariables false
namespace Go.Gr
inductive Av (g:List (List Int)) (c:Int):Int→Prop
 |zero (h:g≠[]) (hc:c≠0):Av g c 0
 |step {x y:Int}(hx:Av g c x) (h:y∈ins g x) (hc:y≠c):Av g c y
theorem Av.rch {g:List (List Int)}{c x:Int}(h:Av g c x):Rch g x:=by
 induction h with
 |zero h _=>exact .zero h
 |step _ h _ ih=>exact .step ih h
theorem Av.ne {g:List (List Int)}{c x:Int}(h:Av g c x):x≠c:=by
 cases h with
 |zero _ h=>exact h.symm
 |step _ _ h=>exact h
def Dom (g:List (List Int)) (d x:Int):Prop:=Rch g d∧Rch g x∧¬Av g d x
theorem Dom.self {g:List (List Int)}{x:Int}(h:Rch g x):Dom g x x:=⟨h,h,λha=>ha.ne rfl⟩
theorem Dom.pred {g:List (List Int)}{d x y:Int}(h:Dom g d x) (hne:d≠x) (hy:Rch g y) (he:x∈ins g y):Dom g d y:=
 ⟨h.1,hy,λha=>h.2.2 (.step ha he hne.symm)⟩
theorem Dom.zero {g:List (List Int)}{d:Int}(h:Dom g d 0):d=0:=by
 by_cases hd:d=0
 ·exact hd
 ·exfalso
  refine h.2.2 (.zero ?_ hd);intro hg;have:=h.1.range;rw[hg] at this;simp at this;omega
section
variable (g:List (List Int))
def pl (x:Int):Nat:=(ord g).idxOf x
def prd (x:Int):List Int:=(ord g).filter λy=>decide (x∈ins g y)
end
section
variable {g:List (List Int)}
theorem mem_prd {x y:Int}:y∈prd g x↔y∈ord g∧x∈ins g y:=by simp[prd]
theorem oc {x:Int}(h:x∈ord g):pl g x<(ord g).length:=List.idxOf_lt_length_of_mem h
theorem oa {x:Int}(h:x∈ord g):(ord g)[pl g x]?=some x:=by
 have:=List.getElem?_eq_getElem (oc h);rw[this]
 congr 1
 exact List.getElem_idxOf (oc h)
theorem qU {x y:Int}(hx:x∈ord g) (hy:y∈ord g) (h:pl g x=pl g y):x=y:=by
 have h1:=oa hx;have h2:=oa hy;rw[h,h2] at h1
 exact(Option.some.inj h1).symm
theorem lE {i:Nat}{x:Int}(h:(ord g)[i]?=some x):pl g x=i∧x∈ord g:=by
 have hm:=List.mem_of_getElem? h
 refine⟨?_,hm⟩
 have h1:=oa hm;obtain⟨hi,_⟩:=List.getElem?_eq_some_iff.1 h
 exact(List.getElem?_inj (oc hm) (lD g)).1 (by rw[h1,h])
theorem pV {x:Int}(hx:x∈ord g) (h0:x≠0):∃y∈prd g x,pl g y<pl g x:=by
 have hg:=oa hx;obtain⟨hi,hge⟩:=List.getElem?_eq_some_iff.1 hg;have hs:ord g=(ord g).take (pl g x)++x::(ord g).drop (pl g x+1):=by
  conv=>lhs;rw[←List.take_append_drop (pl g x) (ord g),List.drop_eq_getElem_cons hi,hge]
 rcases wh hs with⟨h,_⟩|⟨y,hy,h⟩
 ·exact absurd h h0
 ·obtain⟨j,hj⟩:=List.getElem?_of_mem hy
  rw[List.getElem?_take] at hj
  split at hj
  ·rename_i hlt
   obtain⟨h1,h2⟩:=lE hj
   exact⟨y,mem_prd.2 ⟨h2,h⟩,by omega⟩
  ·cases hj
inductive Ch (u:Int→Int):Int→Int→Prop
 |self (x:Int):Ch u x x
 |step {x c:Int}(hx:u x ≠ -1) (h:Ch u (u x) c):Ch u x c
theorem Ch.trans {u:Int→Int}{a b c:Int}(h:Ch u a b) (h2:Ch u b c):Ch u a c:=by
 induction h with
 |self x=>exact h2
 |step hx _ ih=>exact .step hx (ih h2)
theorem Ch.linear {u:Int→Int}{x a b:Int}(ha:Ch u x a) (hb:Ch u x b):Ch u a b∨Ch u b a:=by
 induction ha with
 |self x=>exact .inl hb
 |step hx h ih=>
  cases hb with
  |self=>exact .inr (.step hx h)
  |step _ hb=>exact ih hb
structure Val (g:List (List Int)) (u:Int→Int):Prop where
 ne:g≠[]
 up:∀x,u x ≠ -1→x∈ord g∧u x∈ord g∧pl g (u x)<pl g x
 zero:u 0 = -1
 set:∀x,u x ≠ -1→u x=0∨u (u x) ≠ -1
def Set (u:Int→Int) (x:Int):Prop:=x=0∨u x ≠ -1
theorem Val.mem {u:Int→Int}(h:Val g u) {x:Int}(hx:Set u x):x∈ord g:=by
 rcases hx with rfl|hx
 ·exact(cu g 0).2 (.zero h.ne)
 ·exact(h.up x hx).1
theorem Val.setUp {u:Int→Int}(h:Val g u) {x c:Int}(hx:Set u x) (hc:Ch u x c):Set u c:=by
 induction hc with
 |self x=>exact hx
 |step hx' _ ih=>exact ih (h.set _ hx')
theorem Val.le {u:Int→Int}(h:Val g u) {x c:Int}(hc:Ch u x c):c=x∨pl g c<pl g x:=by
 induction hc with
 |self x=>exact .inl rfl
 |step hx _ ih=>
  have:=(h.up _ hx).2.2;rcases ih with rfl|ih
  ·exact .inr this
  ·exact .inr (by omega)
theorem Val.le' {u:Int→Int}(h:Val g u) {x c:Int}(hc:Ch u x c):pl g c≤pl g x:=by
 rcases h.le hc with rfl|h
 ·exact Nat.le_refl _
 ·omega
theorem Val.above {u:Int→Int}(h:Val g u) {x a b:Int}(hx:Set u x) (ha:Ch u x a) (hb:Ch u x b) (hlt:pl g b≤pl g a):Ch u a b:=by
 rcases ha.linear hb with h1|h1
 ·exact h1
 ·have:=h.le' h1
  have he:=qU (h.mem (h.setUp hx ha)) (h.mem (h.setUp hx hb)) (by omega);rw[he];exact .self _
inductive Pth (g:List (List Int)) (p:Nat) (x:Int):Int→Prop
 |self:Pth g p x x
 |step {y z:Int}(h:Pth g p x y) (he:z∈ins g y) (hp:p<pl g z):Pth g p x z
theorem Pth.weaken {p q:Nat}{x z:Int}(h:Pth g p x z) (hq:q≤p):Pth g q x z:=by
 induction h with
 |self=>exact .self
 |step _ he hp ih=>exact .step ih he (by omega)
theorem Pth.trans {p:Nat}{x y z:Int}(h:Pth g p x y) (h2:Pth g p y z):Pth g p x z:=by
 induction h2 with
 |self=>exact h
 |step _ he hp ih=>exact .step ih he hp
theorem Pth.av {p:Nat}{d x z:Int}(h:Pth g p x z) (hd:pl g d≤p) (hx:Av g d x):Av g d z:=by
 induction h with
 |self=>exact hx
 |step _ he hp ih=>exact .step ih he (λe=>by rw[e] at hp;omega)
structure Inv (g:List (List Int)) (u:Int→Int) (i:Nat):Prop extends Val g u where
 pre:∀x∈ord g,pl g x<i→Set u x
 dom:∀x,Set u x→∀d,Dom g d x→Ch u x d
 way:∀x,u x ≠ -1→Pth g (pl g (u x)) (u x) x
 all:∀x,u x ≠ -1→∀e,(∀y∈prd g x,Set u y→Ch u y e)→Ch u (u x) e
 some:∀x,u x ≠ -1→∃y∈prd g x,pl g y<pl g x∧Set u y∧∀w,(i≤pl g w∨pl g x<i)→Ch u (u x) w→Ch u y w
theorem Inv.start (hg:g≠[]):Inv g (λ_=>-1) 1 where
 ne:=hg
 up:=λx h=>absurd rfl h
 zero:=rfl
 set:=λx h=>absurd rfl h
 pre:=λx hx h=>by
  obtain⟨r,hr⟩:=iV hg;have h0:pl g x=0:=by omega
  have:=oa hx;rw[h0,hr] at this;simp at this;exact .inl this.symm
 dom:=λx hx d hd=>by
  rcases hx with rfl|hx
  ·rw[hd.zero];exact .self _
  ·exact absurd rfl hx
 way:=λx h=>absurd rfl h
 all:=λx h=>absurd rfl h
 some:=λx h=>absurd rfl h
theorem Inv.again {u:Int→Int}(h:Inv g u (ord g).length):Inv g u 1:=
 { h with
  pre:=λx hx _=>h.pre x hx (oc hx)
  some:=λx hx=>by
   obtain⟨y,h1,h2,h3,h4⟩:=h.some x hx
   exact⟨y,h1,h2,h3,λw _ hw=>h4 w (.inr (oc (h.up x hx).1)) hw⟩ }
theorem Inv.path {u:Int→Int}{i:Nat}(h:Inv g u i) {z x:Int}(hc:Ch u z x):Pth g (pl g x) x z:=by
 induction hc with
 |self x=>exact .self
 |step hx hc ih=>exact ih.trans ((h.way _ hx).weaken (h.toVal.le' hc))
def upd (u:Int→Int) (x m:Int):Int→Int:=λz=>if z=x then m else u z
theorem dP {u:Int→Int}{x m:Int}:upd u x m x=m:=by simp[upd]
theorem dS {u:Int→Int}{x m z:Int}(h:z≠x):upd u x m z=u z:=by simp[upd,h]
structure Meets (g:List (List Int)) (u:Int→Int) (x m:Int):Prop where
 set:Set u m
 iff:∀c,Ch u m c↔∀y∈prd g x,Set u y→Ch u y c
section
variable {u:Int→Int}{x m:Int}
theorem Ch.upd_off {z c:Int}(hz:¬Ch u z x) (h:Ch u z c):Ch (upd u x m) z c:=by
 induction h with
 |self z=>exact .self z
 |step hz' h ih=>
  rename_i z c;have hne:z≠x:=λe=>hz (by rw[e];exact .self _);refine .step (by rw[dS hne];exact hz') ?_;rw[dS hne];exact ih λh2=>hz (.step hz' h2)
theorem Ch.of_upd_off {z c:Int}(hz:¬Ch u z x) (h:Ch (upd u x m) z c):Ch u z c:=by
 induction h with
 |self z=>exact .self z
 |step hz' h ih=>
  rename_i z c;have hne:z≠x:=λe=>hz (by rw[e];exact .self _);rw[dS hne] at hz' h ih;exact .step hz' (ih λh2=>hz (.step hz' h2))
theorem Ch.upd_low (hV:Val g u) {z c:Int}(h:Ch u z c) (hp:pl g x≤pl g c) (hxm:x∈ord g) (hcm:c∈ord g):Ch (upd u x m) z c:=by
 induction h with
 |self z=>exact .self z
 |step hz' h ih=>
  rename_i z c
  by_cases hne:z=x
  ·subst hne
   have:=(hV.up _ hz').2.2;have:=hV.le' h;omega
  ·refine .step (by rw[dS hne];exact hz') ?_
   rw[dS hne];exact ih hp hcm
end
theorem Inv.meet_ahead {u:Int→Int}{i:Nat}{x m:Int}(h:Inv g u i) (hx:x∈ord g) (h0:x≠0) (hi:pl g x≤i) (hm:Meets g u x m) :
  pl g m<pl g x∧∃y∈prd g x,pl g y<pl g x∧Set u y:=by
 obtain⟨y,hy,hlt⟩:=pV hx h0;have hs:=h.pre y (mem_prd.1 hy).1 (by omega);have:=(hm.iff m).1 (.self _) y hy hs;have:=h.toVal.le' this
 exact⟨by omega,y,hy,hlt,hs⟩
theorem Inv.step {u:Int→Int}{x m:Int}(h:Inv g u (pl g x)) (hx:x∈ord g) (h0:x≠0) (hm:Meets g u x m):Inv g (upd u x m) (pl g x+1):=by
 obtain⟨hlt,y0,hy0,hylt,hys⟩:=h.meet_ahead hx h0 (Nat.le_refl _) hm;have hV:=h.toVal;have hmo:m∈ord g:=hV.mem hm.set;have hmn:m ≠ -1:=by
  have:=((cu g m).1 hmo).range;omega
 have hxm:∀{z:Int},pl g z<pl g x→¬Ch u z x:=λhz hc=>by have:=hV.le' hc;omega
 have L4:∀c,Ch (upd u x m) m c↔Ch u m c:=λc=>⟨Ch.of_upd_off (hxm hlt),Ch.upd_off (hxm hlt)⟩;have hV':Val g (upd u x m):=by
  refine⟨h.ne,λz hz=>?_,by rw[dS (Ne.symm h0)];exact h.zero,λz hz=>?_⟩
  ·by_cases he:z=x
   ·subst he;rw[dP];exact⟨hx,hmo,hlt⟩
   ·rw[dS he] at hz ⊢;exact h.up z hz
  ·by_cases he:z=x
   ·subst he
    rw[dP];rcases hm.set with h1|h1
    ·exact .inl h1
    ·right
     by_cases hmx:m=z
     ·rw[hmx] at hlt;omega
     ·rw[dS hmx];exact h1
   ·rw[dS he] at hz ⊢
    rcases h.set z hz with h1|h1
    ·exact .inl h1
    ·right
     by_cases hmx:u z=x
     ·rw[hmx,dP];exact hmn
     ·rw[dS hmx];exact h1
 have hset:∀{z:Int},Set u z→Set (upd u x m) z:=by
  intro z hz;rcases hz with rfl|hz
  ·exact .inl rfl
  ·right
   by_cases he:z=x
   ·subst he;rw[dP];exact hmn
   ·rw[dS he];exact hz
 have hset':∀{z:Int},z≠x→Set (upd u x m) z→Set u z:=by
  intro z he hz;rcases hz with rfl|hz
  ·exact .inl rfl
  ·rw[dS he] at hz;exact .inr hz
 have hxs:Set (upd u x m) x:=.inr (by rw[dP];exact hmn);have L1:∀{z c:Int},Set u z→Ch (upd u x m) z c→Ch u z c:=by
  intro z c hz hc
  induction hc with
  |self z=>exact .self z
  |step hz' hc ih=>
   rename_i z c
   by_cases he:z=x
   ·subst he
    rcases hz with hz|hz
    ·exact absurd hz h0
    ·rw[dP] at hc
     have:=(L4 c).1 hc;exact .step hz (h.all z hz c ((hm.iff c).1 this))
   ·rw[dS he] at hz' hc ih
    exact .step hz' (ih (h.set z hz'))
 have L2:∀{z c:Int},Set u z→Ch u z c→pl g x≤pl g c→Ch (upd u x m) z c:=λhz hc hp=>Ch.upd_low hV hc hp hx (hV.mem (hV.setUp hz hc));have domx:∀d,Dom g d x→Ch (upd u x m) x d:=by
  intro d hd
  by_cases he:d=x
  ·rw[he];exact .self _
  ·refine .step (by rw[dP];exact hmn) ?_
   rw[dP]
   refine(L4 d).2 ((hm.iff d).2 λy hy hs=>h.dom y hs d (hd.pred he ((cu g y).1 (mem_prd.1 hy).1) (mem_prd.1 hy).2))
 refine { toVal:=hV',pre:=?_,dom:=?_,way:=?_,all:=?_,some:=?_ }
 ·intro z hz hp
  by_cases he:z=x
  ·rw[he];exact hxs
  ·refine hset (h.pre z hz ?_)
   rcases Nat.lt_or_ge (pl g z) (pl g x) with h1|h1
   ·exact h1
   ·exact absurd (qU hz hx (by omega)) he
 ·intro z hz d hd
  by_cases he:z=x
  ·subst he;exact domx d hd
  ·have hzs:=hset' he hz
   have hc:=h.dom z hzs d hd
   by_cases hzx:Ch u z x
   ·rcases Nat.lt_or_ge (pl g d) (pl g x) with h1|h1
    · -- d dominates x, too
     have hdx:Dom g d x:=by
      refine⟨hd.1,(cu g x).1 hx,λha=>hd.2.2 ((h.path hzx).av (by omega) ha)⟩
     exact(L2 hzs hzx (Nat.le_refl _)).trans (domx d hdx)
    ·exact L2 hzs hc h1
   ·exact Ch.upd_off hzx hc
 ·intro z hz
  by_cases he:z=x
  ·subst he
   rw[dP];refine .step (h.path ((hm.iff m).1 (.self _) y0 hy0 hys)) (mem_prd.1 hy0).2 hlt
  ·rw[dS he] at hz ⊢;exact h.way z hz
 ·intro z hz e hall
  by_cases he:z=x
  ·subst he
   rw[dP]
   refine(L4 e).2 ((hm.iff e).2 λy hy hs=>L1 hs (hall y hy (hset hs)))
  ·rw[dS he] at hz ⊢
   have hus:Set u (u z):=h.set z hz;have hc:=h.all z hz e λy hy hs=>L1 hs (hall y hy (hset hs))
   by_cases hzx:Ch u (u z) x
   ·rcases Nat.lt_or_ge (pl g e) (pl g x) with h1|h1
    ·obtain⟨y,hy,_,hs,hw⟩:=h.some z hz
     have hyx:=hw x (.inl (Nat.le_refl _)) hzx;have h2:=hV'.above (hset hs) (L2 hs hyx (Nat.le_refl _)) (hall y hy (hset hs)) (by omega)
     exact(L2 hus hzx (Nat.le_refl _)).trans h2
    ·exact L2 hus hc h1
   ·exact Ch.upd_off hzx hc
 ·intro z hz
  by_cases he:z=x
  ·subst he
   refine⟨y0,hy0,hylt,hset hys,λw _ hw=>?_⟩
   rw[dP] at hw;exact Ch.upd_off (hxm hylt) ((hm.iff w).1 ((L4 w).1 hw) y0 hy0 hys)
  ·rw[dS he] at hz
   obtain⟨y,hy,h1,hs,hw⟩:=h.some z hz
   refine⟨y,hy,h1,hset hs,λw hwi hc=>?_⟩
   rw[dS he] at hc;have hus:Set u (u z):=h.set z hz;have hc':=L1 hus hc;rcases Nat.lt_or_ge (pl g z) (pl g x) with h2|h2
   ·exact Ch.upd_off (hxm (by omega)) (hw w (.inr h2) hc')
   ·have h3:pl g x<pl g z:=by
     rcases Nat.lt_or_ge (pl g x) (pl g z) with h4|h4
     ·exact h4
     ·exact absurd (qU (h.up z hz).1 hx (by omega)) he
    have h4:pl g x+1≤pl g w:=by omega
    exact L2 hs (hw w (.inl (by omega)) hc') (by omega)
def sh (g:List (List Int)) (u:Int→Int):Nat:=((ord g).map λx=>if u x = -1 then (ord g).length else pl g (u x)).sum
theorem most_lt {u:Int→Int}{x m:Int}(h:Inv g u (pl g x)) (hx:x∈ord g) (h0:x≠0) (hm:Meets g u x m) (hne:m≠u x):sh g (upd u x m)<sh g u:=by
 obtain⟨hlt,_⟩:=h.meet_ahead hx h0 (Nat.le_refl _) hm;have hmo:m∈ord g:=h.toVal.mem hm.set;have hmn:m ≠ -1:=by have:=((cu g m).1 hmo).range;omega
 have hsm:(if m = -1 then (ord g).length else pl g m)<(if u x = -1 then (ord g).length else pl g (u x)):=by
  rw[if_neg hmn]
  by_cases hu:u x = -1
  ·rw[if_pos hu];exact oc hmo
  ·rw[if_neg hu]
   have hc:=h.all x hu m ((hm.iff m).1 (.self _));rcases h.toVal.le hc with h1|h1
   ·exact absurd h1 hne
   ·exact h1
 have key:∀l:List Int,(∀z∈l,z∈ord g)→(l.map λz=>if upd u x m z = -1 then (ord g).length else pl g (upd u x m z)).sum≤(l.map λz=>if u z = -1 then (ord g).length else pl g (u z)).sum ∧
   (x∈l→(l.map λz=>if upd u x m z = -1 then (ord g).length else pl g (upd u x m z)).sum<(l.map λz=>if u z = -1 then (ord g).length else pl g (u z)).sum):=by
  intro l
  induction l with
  |nil=>intro _;exact⟨Nat.le_refl _,λh=>by cases h⟩
  |cons z l ih=>
   intro hl;obtain⟨i1,i2⟩:=ih λw hw=>hl w (List.mem_cons_of_mem _ hw);simp only[List.map_cons,List.sum_cons]
   by_cases he:z=x
   ·subst he
    rw[dP]
    exact⟨by omega,λ_=>by omega⟩
   ·rw[dS he]
    refine⟨by omega,λhm=>?_⟩
    rcases List.mem_cons.1 hm with h1|h1
    ·exact absurd h1.symm he
    ·have:=i2 h1;omega
 exact(key (ord g) λz hz=>hz).2 hx
theorem upd_same {u:Int→Int}{x:Int}:upd u x (u x)=u:=by
 funext z
 unfold upd;split
 ·rename_i h;rw[h]
 ·rfl
theorem Inv.final {u:Int→Int}(h:Inv g u (ord g).length) (hf:∀x∈ord g,x≠0→Meets g u x (u x)) {x c:Int}(hx:x∈ord g):Ch u x c↔Dom g c x:=by
 have hs:∀z∈ord g,Set u z:=λz hz=>h.pre z hz (oc hz);constructor
 ·intro hc
  have hco:=h.toVal.mem (h.toVal.setUp (hs x hx) hc)
  refine⟨(cu g c).1 hco,(cu g x).1 hx,λha=>?_⟩
  clear hx
  induction ha with
  |zero hg h0=>
   cases hc with
   |self=>exact h0 rfl
   |step h1 _=>exact h1 h.zero
  |step hy he hne ih=>
   rename_i y z;have hyo:=(cu g y).2 hy.rch;have hzo:z∈ord g:=(cu g z).2 (.step hy.rch he)
   cases hc with
   |self=>exact hne rfl
   |step h1 hc=>
    have hz0:z≠0:=λe=>by rw[e] at h1;exact h1 h.zero
    exact ih ((hf z hzo hz0).iff c |>.1 hc y (mem_prd.2 ⟨hyo,he⟩) (hs y hyo))
 ·exact λhd=>h.dom x (hs x hx) c hd
end
end Go.Gr
namespace Go.Ir
open Go.Gr
structure Nd where
 op:Int
 id:Int
 alu:Int
 wide:Bool
 a:Int
 b:Int
 imm:Int
 size:Int
 off:Int
 grd:Bool
 args:List Int
 at_:Int
structure Ph where
 id:Int
 src:List Int
structure Tm where
 op:Int
 cond:Int
 wide:Bool
 a:Int
 b:Int
 to:Int
 els:Int
structure Pt where
 pred:List Int
 phis:List Ph
 nodes:List Nd
 fin:Tm
structure Cd where
 parts:List Pt
 values:Int
def cE (e:Tm):List Int:=if e.op=1 then [e.to] else if e.op=2 then [e.to,e.els] else []
def aE (f:Cd):List (List Int):=f.parts.map λp=>cE p.fin
def eF (n:Nd):List Int:=if n.op=4∨n.op=6 then [n.a,n.b] else if n.op=5 then [n.a] else if n.op=7 then n.args else []
def jC (e:Tm):List Int:=if e.op=3 then [e.a] else if e.op=2 then [e.a,e.b] else []
def ku (op:Int):Bool:=[0,16,32,48,64,80,96,112,128,144,160,176,192].contains op
def cL (op:Int):Bool:=[16,32,48,64,80,96,112,160,176,192,208].contains op
def dN (n:Int):Bool:=[1,2,4,8].contains n
def bZ (n:Int):Option Nat:=if n=1 then some 0 else if n=2 then some 1 else if n=3 then some 2 else if n=4 then some 2 else if n=5 then some 3 else none
def bX (n:Nd):Bool:=
 if n.op=1∨n.op=2∨n.op=3 then true else if n.op=4 then ku n.alu
 else if n.op=5 then dN n.size&&decide (-32768≤n.off∧n.off≤32767)
 else if n.op=6 then dN n.size&&decide (-32768≤n.off∧n.off≤32767)&&decide (n.id = -1)
 else if n.op=7 then decide (bZ n.imm=some n.args.length) else false
def bP (s:List (List Int)) (b:Int) (n:Nat):List Int:=(List.range n).flatMap λ(a:Nat)=>((s.getD a []).filter λy=>decide (y=b)).map λ_=>(a:Int)
def ip (n:Nat) (e:Tm):Bool:=decide (1≤e.op)&&decide (e.op≤3)&&(decide (e.op≠2)||(cL e.cond&&decide (e.to≠e.els)))&&(cE e).all λy=>decide (0≤y∧y<n)
def bY (f:Cd):Bool:=
 (f.parts.all λp=>ip f.parts.length p.fin)&&((List.range f.parts.length).all λb=>decide ((b:Int)∈ord (aE f))&&decide (bP (aE f) b f.parts.length=(f.parts.map (·.pred)).getD b [])) &&
 decide (((f.parts.map (·.pred)).getD 0 [])=[])
def mk1 (l:List (Option (Int×Int))) (id:Int) (p:Int×Int):Option (List (Option (Int×Int))):=
 if 0≤id∧l[id.toNat]?=some none then some (l.set id.toNat (some p)) else none
def fZ (i:Int):List Ph→List (Option (Int×Int))→Option (List (Option (Int×Int)))
 |[],l=>some l
 |x::r,l=>(mk1 l x.id (i,0)).bind (fZ i r)
def ck (i:Int):Nat→List Nd→List (Option (Int×Int))→Option (List (Option (Int×Int)))
 |_,[],l=>some l
 |k,n::r,l=>if bX n=true then if n.op=6 then ck i (k+1) r l else (mk1 l n.id (i,((k+1:Nat):Int))).bind (ck i (k+1) r) else none
def cJ:Nat→List Pt→List (Option (Int×Int))→Option (List (Option (Int×Int)))
 |_,[],l=>some l
 |i,p::r,l=>((fZ i p.phis l).bind (ck i 0 p.nodes)).bind (cJ (i+1) r)
def cq (f:Cd):Option (List (Option (Int×Int))):=cJ 0 f.parts (List.replicate f.values.toNat none)
open Classical in
noncomputable def bu (g:List (List Int)) (l:List (Option (Int×Int))) (part at_ id:Int):Bool:=
 if 0≤id then match l[id.toNat]? with
  |some (some x)=>if x.1=part then decide (x.2<at_) else decide (Dom g x.1 part)
  |_=>false
 else false
def eD:Int:=1073741824
noncomputable def eg (g:List (List Int)) (l:List (Option (Int×Int))) (i:Int) (p:Pt):Bool:=
 (p.phis.all λx=>decide (x.src.length=p.pred.length)&&(List.range x.src.length).all λk=>bu g l (p.pred.getD k 0) eD (x.src.getD k 0)) &&
 ((List.range p.nodes.length).all λ(k:Nat)=>match p.nodes[k]? with|some n=>(eF n).all (bu g l i ((k+1:Nat):Int))|none=>true) &&
 (jC p.fin).all (bu g l i eD)
noncomputable def ew (f:Cd) (l:List (Option (Int×Int))):Bool:=(List.range f.parts.length).all λ(i:Nat)=>match f.parts[i]? with|some p=>eg (aE f) l (i:Int) p|none=>true
noncomputable def bG (f:Cd):Bool:=
 decide (1≤f.parts.length)&&decide (f.parts.length≤8192)&&decide (0≤f.values)&&decide (f.values≤65536)&&bY f&&match cq f with|some l=>ew f l|none=>false
end Go.Ir
namespace Go.Cm
open Go.Proofs Go.Ir
def ndC (n:Nd):List CV:=[.int .i64 n.op,.int .i64 n.id,.int .i64 n.alu,.bool n.wide,.int .i64 n.a,.int .i64 n.b,.int .u64 n.imm,.int .i64 n.size,.int .i64 n.off,.bool n.grd,sl aX n.args,.int .i64 n.at_]
def phC (x:Ph):List CV:=[.int .i64 x.id,sl aX x.src]
def tmC (e:Tm):List CV:=[.int .i64 e.op,.int .i64 e.cond,.bool e.wide,.int .i64 e.a,.int .i64 e.b,.int .i64 e.to,.int .i64 e.els]
def ptC (p:Pt):List CV:=[sl aX p.pred,sl phC p.phis,sl ndC p.nodes,.int .i64 p.fin.op,.int .i64 p.fin.cond,.bool p.fin.wide,.int .i64 p.fin.a,.int .i64 p.fin.b,.int .i64 p.fin.to,.int .i64 p.fin.els]
def aZ (f:Cd):List CV:=[sl ptC f.parts,.int .i64 f.values]
theorem ndE:Enc ndC 12:=⟨λ_=>rfl,λn=>by simp only[ndC,cans,aG,az,intE.can_sl],λn=>by simp only[ndC,noGs,eo,kT,intE.noG_sl,Bool.and_self],λ_=>rfl⟩
theorem phE:Enc phC 2:=⟨λ_=>rfl,λn=>by simp only[phC,cans,aG,intE.can_sl],λn=>by simp only[phC,noGs,eo,intE.noG_sl,Bool.and_self],λ_=>rfl⟩
theorem tmE:Enc tmC 7:=⟨λ_=>rfl,λ_=>rfl,λ_=>rfl,λ_=>rfl⟩
theorem ptE:Enc ptC 10:=⟨λ_=>rfl,λn=>by simp only[ptC,cans,aG,az,intE.can_sl,phE.can_sl,ndE.can_sl],λn=>by simp only[ptC,noGs,eo,kT,intE.noG_sl,phE.noG_sl,ndE.noG_sl,Bool.and_self],λ_=>rfl⟩
theorem codeE:Enc aZ 2:=⟨λ_=>rfl,λn=>by simp only[aZ,cans,aG,ptE.can_sl],λn=>by simp only[aZ,noGs,eo,ptE.noG_sl,Bool.and_self],λ_=>rfl⟩
def nw (args:List CV) (H:List HO):Option (CV×List HO):=match args,H with
 |[.imm 0 []],[]=>some (.imm 0 [],[])
 |_,_=>none
theorem jR {k:FuncId}{E:aW}(hE:Sim Try.prog E) (h:SimAt Try.prog k [.imm 0 []] [] (.imm 0 []) []):Sim Try.prog (tab k nw E):=by
 refine qZ ?_ hE;intro args H r H' hc;unfold nw at hc
 split at hc
 ·simp only[Option.some.injEq,Prod.mk.injEq] at hc
  obtain⟨rfl,rfl⟩:=hc;exact h
 ·cases hc
def BB:aW:=tab 106 nw (tab 42 nw (tab 43 nw (tab 63 isF tab0)))
theorem xI:Sim Try.prog BB:=jR (jR (jR isF_sim (oZ [])) (oY [])) (nx [])
def xX:Ann:={ glob:=λ_=>List.range 300 }
noncomputable def hx20:Option (CV×List HO):=kz Try.prog xX BB 60 13 [] []
noncomputable def hx19:Option (CV×List HO):=kz Try.prog xX BB 60 21 [] []
noncomputable def hx18:Option (CV×List HO):=kz Try.prog xX BB 60 32 [] []
noncomputable def hx16:Option (CV×List HO):=kz Try.prog xX BB 60 37 [] []
def mi (h:Option (CV×List HO)):List CV→List HO→Option (CV×List HO):=λa H=>match a,H with|[],[]=>h|_,_=>none
noncomputable def EE:aW:=tab 13 (mi hx20) (tab 21 (mi hx19) (tab 32 (mi hx18) (tab 37 (mi hx16) BB)))
theorem ju {k:FuncId}{E:aW}(hE:Sim Try.prog E):Sim Try.prog (tab k (mi (kz Try.prog xX BB 60 k [] [])) E):=by
 refine qZ ?_ hE;intro args H r H' h;unfold mi at h
 split at h
 ·exact wY xI Ee mg 60 _ _ _ _ _ h
 ·cases h
theorem EE_sim:Sim Try.prog EE:=ju (ju (ju (ju xI)))
noncomputable abbrev FF:aW:=Fw Try.prog An EE
theorem x87 (e:Tm):FF 87 [.agg (tmC e)] []=some (eA aX 1 (cE e),[]):=by
 refine aL rfl Try.func87 s87 (Nat.le_of_ble_eq_true rfl) (λQ hqr hqn=>?_);rw[bf (show An.pure 87=true from rfl) (by simp only[cans,aG,az,aC,aH,tmE.can])];simp only[aO,Nat.reduceAdd,c87]
 repeat' (first
 |with_reducible (first|refine ai ?_|refine bc rfl ?_|refine bn rfl ?_|refine aF ?_|refine bx ?_|refine aj (id:=0) (λQ0 hn0 hx0 hr0 ho0=>?_)|refine hn0 _ ?_|refine hr0 _ ?_)
 |(with_reducible (first|(refine ah (λK hK=>?_);(first|refine t87r0 ?_|refine t87r1 ?_|refine t87r2 ?_|refine t87r3 ?_|refine t87r4 ?_|refine t87r5 ?_|refine t87r6 ?_))|refine hqr _ ?_);(try simp only[SS,Nat.reduceEqDiff,ap,dj,ef,bv,aR,aS,Nat.reduceMul,Nat.reduceAdd,cD,bg,be,bF,ay,Nat.reduceLeDiff,cz,List.all_cons,List.all_nil,Bool.and_self,r87,aQ,ak,aD,am,dq,bV,Nat.sub_self,eh,tmC]))
 |(revert hK;intro hK;(first|refine And.intro ?_ ?_|intro _|(with_reducible refine hK _ ?_;clear hK K))))
 all_goals simp_all [cE,eA,aX]
theorem x93 (e:Tm):FF 93 [.agg (tmC e)] []=some (eA aX 1 (jC e),[]):=by
 refine aL rfl Try.func93 s93 (Nat.le_of_ble_eq_true rfl) (λQ hqr hqn=>?_);rw[bf (show An.pure 93=true from rfl) (by simp only[cans,aG,az,aC,aH,tmE.can])];simp only[aO,Nat.reduceAdd,c93]
 repeat' (first
 |with_reducible (first|refine ai ?_|refine bc rfl ?_|refine bn rfl ?_|refine aF ?_|refine bx ?_|refine aj (id:=0) (λQ0 hn0 hx0 hr0 ho0=>?_)|refine hn0 _ ?_|refine hr0 _ ?_)
 |(with_reducible (first|(refine ah (λK hK=>?_);(first|refine t93r0 ?_|refine t93r1 ?_|refine t93r2 ?_|refine t93r3 ?_|refine t93r4 ?_|refine t93r5 ?_|refine t93r6 ?_))|refine hqr _ ?_);(try simp only[SS,Nat.reduceEqDiff,ap,dj,ef,bv,aR,aS,Nat.reduceMul,Nat.reduceAdd,cD,bg,be,bF,ay,Nat.reduceLeDiff,cz,List.all_cons,List.all_nil,Bool.and_self,r93,aQ,ak,aD,am,dq,bV,Nat.sub_self,eh,tmC]))
 |(revert hK;intro hK;(first|refine And.intro ?_ ?_|intro _|(with_reducible refine hK _ ?_;clear hK K))))
 all_goals simp_all [jC,eA,aX]
end Go.Cm
