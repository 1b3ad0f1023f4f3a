import Derived.Test.YtjhndbgokapikaaCxM
import Derived.Test.YtjhndbgokapikaaFpC
import Derived.Test.YtjhndbgokapikaaFpE
import Derived.Test.YtjhndbgokapikaaCvA
set_option linter.unusedSimpArgs false
set_option linter.unusedVariables false
namespace Go.Cm
open Go.Proofs
theorem Oe:Sim Try.prog E1:=by
 refine qZ ?_ Nj;intro args H r H' h;unfold NK at h
 split at h
 ·rename_i hc
  simp only[Bool.and_eq_true,List.isEmpty_iff] at hc;obtain⟨h1,h2⟩:=hc;have h3:=beqs_eq _ _ h1;subst h2 h3;rw[←is18_of Qf] at h;exact wY Nj Ee mixed 60 _ _ _ _ _ h
 ·cases h
theorem E2_sim:Sim Try.prog E2:=by
 refine qZ ?_ Oe;intro args H r H' h;unfold NK at h
 split at h
 ·rename_i hc
  simp only[Bool.and_eq_true,List.isEmpty_iff] at hc;obtain⟨h1,h2⟩:=hc;have h3:=beqs_eq _ _ h1;subst h2 h3;rw[←is11_of Qe] at h;exact wY Oe Ee mixed 60 _ _ _ _ _ h
 ·cases h
theorem EE_sim:Sim Try.prog EE:=by
 refine qZ ?_ Nj;intro args H r H' h;unfold mi at h
 split at h
 ·exact wY E2_sim Ee mixed 60 _ _ _ _ _ h
 ·cases h
theorem Of {P:Program}{A:Ann}{E:aW}{f:FuncId}{args:List CV}{H:List HO}{r:CV×List HO}(h:E f (cin (A.pure f) args) H=some r):Fw P A E f args H=some r:=
 xK.2 ⟨1,by simp only[dW,h]⟩
theorem only14:EE 15 [] []=mi hx14 [] []:=by simp only[EE,tab,if_true]
theorem MT (h:Option (CV×List HO)):mi h [] []=h:=rfl
theorem x15:∃H',FF 15 [] []=some (.bool true,H'):=⟨_,Of ((only14.trans (MT _)).trans (PY N4))⟩
theorem k15 {fid:FuncId}{d:Tmp}{m:Mem}:cd An FF fid (some d) 15 [] m=some (.bool true,m):=by
 obtain⟨H',h⟩:=x15;rw[Mn h rfl rfl rfl rfl rfl,eY]
theorem x28 {x gx n gn:Nat}{vl:Nat}{es:List (CV×CV)}{ks:List Int}{H:List HO}(hX:H[x]?=some (.var gx [.map (.g n) gn] vl)) (hH:H[n]?=some (.map gn es)) (hk:KD es=some ks) (hl:es.length≤1000000) :
  FF 28 [.func (.func 42) [] [.ptr (.g x) gx 0]] H=some (KY ks,H):=by
 refine Of ?_;rw[show cin (An.pure 28) [.func (.func 42) [] [.ptr (.g x) gx 0]]=[.func (.func 42) [] [.ptr (.g x) gx 0]] from rfl];simp only[EE,EL,tab,Nat.reduceEqDiff,if_true,if_false];exact Ns hX hH hk hl
end Go.Cm
namespace Go.Fl
structure Gp where
 n:Nat
 succ:Nat→List Nat
 jmp:Nat→Bool
 wd:Nat→Nat
 live:Nat→Prop
structure Ok (g:Gp):Prop where
 zero:g.live 0
 lt:∀i,g.live i→i<g.n
 nxt:∀i s,g.live i→s∈g.succ i→g.live s
 wide:∀i,g.live i→g.wd i=1∨(g.wd i=2∧¬g.live (i+1))
 ord:∀i,g.live i→g.jmp i=false→g.succ i=[]∨g.succ i=[i+g.wd i]
inductive R (g:Gp):Nat→Prop
 |zero:R g 0
 |step {i s:Nat}(h:R g i) (hs:s∈g.succ i):R g s
def Lead (g:Gp) (i:Nat):Prop:=i=0∨∃x,R g x∧g.jmp x=true∧i∈g.succ x
def KK (g:Gp) (i:Nat):Prop:=¬(g.jmp i=false∧∃s,g.succ i=[s]∧¬Lead g s)
open Classical in
noncomputable def LM (g:Gp):Nat→Nat→Nat
 |0,i=>i
 |k+1,i=>if KK g i then i else LM g k (i+g.wd i)
noncomputable def last (g:Gp) (i:Nat):Nat:=LM g g.n i
noncomputable def toF (g:Gp) (i:Nat):Nat:=last g i+g.wd (last g i)
inductive Row (g:Gp) (a:Nat):Nat→Prop
 |base:Row g a a
 |step {i:Nat}(h:Row g a i) (hs:¬KK g i):Row g a (i+g.wd i)
section
variable {g:Gp}{i a b x s k:Nat}
theorem R.live (hg:Ok g) (h:R g i):g.live i:=by
 induction h with
 |zero=>exact hg.zero
 |step _ hs ih=>exact hg.nxt _ _ ih hs
theorem Lead.r (h:Lead g i):R g i:=by
 rcases h with rfl|⟨x,h1,_,h2⟩
 ·exact .zero
 ·exact .step h1 h2
theorem KJ (hg:Ok g) (h:g.live i):1≤g.wd i:=by
 rcases hg.wide i h with h|h<;>omega
theorem HH (hg:Ok g) (hl:g.live i) (h:¬KK g i):g.jmp i=false∧g.succ i=[i+g.wd i]∧¬Lead g (i+g.wd i):=by
 obtain⟨h1,s,h2,h3⟩:=Classical.not_not.1 h;rcases hg.ord i hl h1 with h4|h4
 ·rw[h4] at h2;cases h2
 ·rw[h4] at h2
  injection h2 with h2
  exact⟨h1,h4,h2 ▸ h3⟩
theorem vN (hg:Ok g) (hl:g.live i) (h:¬KK g i):g.live (i+g.wd i):=by
 obtain⟨_,h2,_⟩:=HH hg hl h;exact hg.nxt i _ hl (by rw[h2];exact List.mem_singleton_self _)
theorem LN (hg:Ok g):∀(k k' i:Nat),g.live i→g.n≤k+i→g.n≤k'+i→LM g k i=LM g k' i
 |0,_,i,hl,hk,_=>by have:=hg.lt i hl;omega
 |_+1,0,i,hl,_,hk=>by have:=hg.lt i hl;omega
 |k+1,k'+1,i,hl,h1,h2=>by
  unfold LM;split
  ·rfl
  ·rename_i hs
   have:=KJ hg hl;exact LN hg k k' _ (vN hg hl hs) (by omega) (by omega)
theorem Ky (hg:Ok g) (hl:g.live i) (h:KK g i):last g i=i:=by
 have:=hg.lt i hl;rw[last,show g.n=(g.n - 1)+1 by omega,LM,if_pos h]
theorem Lg (hg:Ok g) (hl:g.live i) (h:¬KK g i):last g i=last g (i+g.wd i):=by
 have:=hg.lt i hl;have:=KJ hg hl;rw[last,show g.n=(g.n - 1)+1 by omega,LM,if_neg h];exact LN hg _ _ _ (vN hg hl h) (by omega) (by omega)
theorem Row.live (hg:Ok g) (ha:g.live a) (h:Row g a i):g.live i:=by
 induction h with
 |base=>exact ha
 |step _ hs ih=>exact vN hg ih hs
theorem Row.ends (hg:Ok g) (ha:g.live a) (h:Row g a i):last g i=last g a:=by
 induction h with
 |base=>rfl
 |step hr hs ih=>rw[←ih,Lg hg (hr.live hg ha) hs]
theorem Row.r (hg:Ok g) (ha:R g a) (h:Row g a i):R g i:=by
 induction h with
 |base=>exact ha
 |step hr hs ih=>
  obtain⟨_,h2,_⟩:=HH hg (ih.live hg) hs;exact .step ih (by rw[h2];exact List.mem_singleton_self _)
theorem Row.no_lead (hg:Ok g) (ha:g.live a) (h:Row g a i) (hi:i≠a):¬Lead g i:=by
 cases h with
 |base=>exact absurd rfl hi
 |step hr hs=>exact(HH hg (hr.live hg ha) hs).2.2
theorem Row.trans (h:Row g a b) (h2:Row g b i):Row g a i:=by
 induction h2 with
 |base=>exact h
 |step _ hs ih=>exact .step ih hs
theorem Row.le (h:Row g a i):a≤i:=by
 induction h with
 |base=>exact Nat.le_refl _
 |step _ _ ih=>omega
theorem LO (hg:Ok g):∀(k a:Nat),g.live a→g.n≤k+a→Row g a (last g a)∧KK g (last g a)
 |0,a,ha,hk=>by have:=hg.lt a ha;omega
 |k+1,a,ha,hk=>by
  by_cases hs:KK g a
  ·rw[Ky hg ha hs];exact⟨.base,hs⟩
  ·have:=KJ hg ha
   obtain⟨h1,h2⟩:=LO hg k _ (vN hg ha hs) (by omega);rw[Lg hg ha hs]
   exact⟨(Row.step .base hs).trans h1,h2⟩
theorem pz (hg:Ok g) (ha:g.live a):Row g a (last g a):=(LO hg g.n a ha (by omega)).1
theorem Od (hg:Ok g) (ha:g.live a):KK g (last g a):=(LO hg g.n a ha (by omega)).2
theorem Row.le_last (hg:Ok g) (ha:g.live a) (h:Row g a i):i≤last g a:=by
 rw[←h.ends hg ha]
 exact(pz hg (h.live hg ha)).le
theorem Rc (hg:Ok g) (ha:g.live a):last g a<toF g a:=by
 have:=KJ hg ((pz hg ha).live hg ha);unfold toF;omega
theorem NE (hg:Ok g):∀(k a x:Nat),g.live a→g.n≤k+a→g.live x→a≤x→x<toF g a→Row g a x
 |0,a,x,ha,hk,_,_,_=>by have:=hg.lt a ha;omega
 |k+1,a,x,ha,hk,hx,h1,h2=>by
  by_cases he:x=a
  ·subst he;exact .base
  have hge:a+g.wd a≤x:=by
   rcases hg.wide a ha with h|⟨h,h3⟩
   ·omega
   ·have:x≠a+1:=λe=>h3 (e ▸ hx)
    omega
  by_cases hs:KK g a
  ·rw[toF,Ky hg ha hs] at h2;omega
  ·have hp:=KJ hg ha
   rw[toF,Lg hg ha hs] at h2
   exact(Row.step .base hs).trans (NE hg k _ x (vN hg ha hs) (by omega) hx hge h2)
theorem inside (hg:Ok g) (ha:g.live a) (hx:g.live x) (h1:a≤x) (h2:x<toF g a):Row g a x:=NE hg g.n a x ha (by omega) hx h1 h2
theorem cover (hg:Ok g) (h:R g x):∃a,Lead g a∧Row g a x:=by
 induction h with
 |zero=>exact⟨0,.inl rfl,.base⟩
 |step hr hs ih=>
  rename_i i s
  by_cases hl:Lead g s
  ·exact⟨s,hl,.base⟩
  ·obtain⟨a,h1,h2⟩:=ih
   have hj:g.jmp i=false:=by
    cases hj:g.jmp i with
    |false=>rfl
    |true=>exact absurd (.inr ⟨i,hr,hj,hs⟩) hl
   rcases hg.ord i (hr.live hg) hj with h4|h4
   ·rw[h4] at hs;cases hs
   ·rw[h4] at hs
    have hs:=List.mem_singleton.1 hs;subst hs
    exact⟨a,h1,.step h2 λh=>h ⟨hj,_,h4,hl⟩⟩
theorem apart (hg:Ok g) (ha:Lead g a) (hb:Lead g b) (h:a<b):toF g a≤b:=by
 by_cases h2:toF g a≤b
 ·exact h2
 ·have:=inside hg (ha.r.live hg) (hb.r.live hg) (Nat.le_of_lt h) (by omega)
  exact absurd hb (this.no_lead hg (ha.r.live hg) (by omega))
theorem only(hg:Ok g) (ha:Lead g a) (hb:Lead g b) (h1:a≤x) (h2:x<toF g a) (h3:b≤x) (h4:x<toF g b):a=b:=by
 rcases Nat.lt_trichotomy a b with h|h|h
 ·have:=apart hg ha hb h;omega
 ·exact h
 ·have:=apart hg hb ha h;omega
theorem cover2 (hg:Ok g) (h:R g x):∃a,Lead g a∧a≤x∧x<toF g a:=by
 obtain⟨a,h1,h2⟩:=cover hg h;have ha:=h1.r.live hg;have:=h2.le_last hg ha;have:=Rc hg ha
 exact⟨a,h1,h2.le,by omega⟩
theorem LQ (hg:Ok g) (ha:Lead g a) (hs:s∈g.succ (last g a)):Lead g s:=by
 have hl:=ha.r.live hg;have hr:=(pz hg hl).r hg ha.r;have h:=Od hg hl
 cases hj:g.jmp (last g a) with
 |true=>exact .inr ⟨_,hr,hj,hs⟩
 |false=>
  by_cases hL:Lead g s
  ·exact hL
  ·rcases hg.ord _ (hr.live hg) hj with h4|h4
   ·rw[h4] at hs;cases hs
   ·rw[h4] at hs
    have hs:=List.mem_singleton.1 hs;subst hs;exact absurd ⟨hj,_,h4,hL⟩ h
end
open Classical in
noncomputable def bO (g:Gp):List Nat:=(List.range g.n).filter λi=>decide (R g i)
open Classical in
noncomputable def cj (g:Gp):List Nat:=(bO g).filter λi=>decide (Lead g i)
section
variable {g:Gp}{i a b x s k:Nat}
theorem gc (hg:Ok g):i∈bO g↔R g i:=by
 simp only[bO,List.mem_filter,List.mem_range,decide_eq_true_eq]
 exact⟨λh=>h.2,λh=>⟨hg.lt i (h.live hg),h⟩⟩
theorem gB (hg:Ok g):i∈cj g↔Lead g i:=by
 simp only[cj,List.mem_filter,gc hg,decide_eq_true_eq]
 exact⟨λh=>h.2,λh=>⟨h.r,h⟩⟩
theorem vp:(bO g).Pairwise (· < ·):=List.Pairwise.sublist List.filter_sublist List.pairwise_lt_range
theorem leadL_sorted:(cj g).Pairwise (· < ·):=List.Pairwise.sublist List.filter_sublist vp
noncomputable def HE (g:Gp) (x:Nat):List Nat→Option Nat
 |[]=>none
 |a::l=>if a≤x∧x<toF g a then some 0 else (HE g x l).map (·+1)
theorem LJ:∀{l:List Nat}{k:Nat},HE g x l=some k→∃a,l[k]?=some a∧a≤x∧x<toF g a
 |[],k,h=>by cases h
 |a::l,k,h=>by
  unfold HE at h
  split at h
  ·rename_i hc
   injection h with h;subst h
   exact⟨a,rfl,hc.1,hc.2⟩
  ·rw[Option.map_eq_some_iff] at h
   obtain⟨j,h1,rfl⟩:=h;obtain⟨b,h2⟩:=LJ h1
   exact⟨b,by simpa using h2⟩
theorem LI:∀{l:List Nat},HE g x l=none→∀a∈l,¬(a≤x∧x<toF g a)
 |[],_,a,ha=>by cases ha
 |b::l,h,a,ha=>by
  unfold HE at h
  split at h
  ·cases h
  ·rename_i hc
   rcases List.mem_cons.1 ha with rfl|ha
   ·exact hc
   ·exact LI (by simpa using h) a ha
theorem N3 (hg:Ok g) (h:Lead g s):∃k,HE g s (cj g)=some k∧(cj g)[k]?=some s:=by
 have hl:=h.r.live hg
 cases hf:HE g s (cj g) with
 |none=>
  have h1:=(pz hg hl).le;have h2:=Rc hg hl;exact absurd ⟨Nat.le_refl _,by omega⟩ (LI hf s ((gB hg).2 h))
 |some k=>
  obtain⟨a,h1,h2,h3⟩:=LJ hf;have ha:=(gB hg).1 (List.mem_of_getElem? h1);have h4:=(pz hg hl).le;have h5:=Rc hg hl;have:=only hg ha h h2 h3 (Nat.le_refl _) (by omega);subst this
  exact⟨k,rfl,h1⟩
end
end Go.Fl
namespace Go.Fl
structure In where
 op:Int
 dst:Int
 src:Int
 off:Int
 imm:Int
 wide:Int
def mR (p:List In):Nat→Nat
 |0=>0
 |i+1=>match p[i]? with
  |some x=>if x.op=24 then mR p i+1 else 0
  |none=>0
def MO (p:List In) (i:Nat):Bool:=decide (mR p i % 2=1)
def gv (p:List In) (i:Int):Bool:=decide (1≤i∧i<p.length)&&MO p i.toNat
theorem vf {p:List In}{i:Nat}{x:In}(h:p[i]?=some x):mR p (i+1)=if x.op=24 then mR p i+1 else 0:=by
 simp only[mR,h]
section
variable (jmp:Int→Bool) (wr:Int→Int) (ins:In→Bool)
def it (p:List In) (i:Int):List Int:=
 if i<0∨p.length≤i∨gv p i=true then [] else
  match p[i.toNat]? with
  |none=>[]
  |some x=>if x.op=149 then [] else if x.op=5 then [wr (i+1+x.off)] else if jmp x.op=true then [i+1,wr (i+1+x.off)] else if x.op=24 then [i+2] else [i+1]
def Ni (p:List In) (i:Nat) (x:In):Bool:=decide (x.op≠24)||(match p[i+1]? with
 |some y=>decide (y.op=0∧y.dst=0∧y.src=0∧y.off=0∧y.imm=0∧y.wide=0)
 |none=>false)
def goB (p:List In) (s:Int):Bool:=decide (0≤s)&&(decide (s<p.length) && !gv p s)
def H6 (p:List In) (i:Nat) (x:In):Bool:=gv p i||(ins x&&(Ni p i x&&(it jmp wr p i).all (goB p)))
def hU (p:List In):Nat→List In→Bool
 |_,[]=>true
 |i,x::l=>H6 jmp wr ins p i x&&hU p (i+1) l
def vi (p:List In):Int:=if 4096<p.length then 31 else if p.length=0 then 40 else if hU jmp wr ins p 0 p=true then 0 else 40
def gr (p:List In):Gp where
 n:=p.length
 succ i:=(it jmp wr p i).map Int.toNat
 jmp i:=match p[i]? with
  |some x=>jmp x.op||decide (x.op=5)
  |none=>false
 wd i:=match p[i]? with
  |some x=>if x.op=24 then 2 else 1
  |none=>1
 live i:=i<p.length∧gv p i=false
variable {jmp wr ins}
theorem LD {p:List In}:∀{l:List In}{i k:Nat}{x:In},hU jmp wr ins p i l=true→l[k]?=some x→H6 jmp wr ins p (i+k) x=true
 |[],_,_,_,_,h=>by simp at h
 |y::l,i,0,x,h,hx=>by
  simp only[hU,Bool.and_eq_true] at h;simp only[List.getElem?_cons_zero,Option.some.injEq] at hx;subst hx;exact h.1
 |y::l,i,k+1,x,h,hx=>by
  simp only[hU,Bool.and_eq_true] at h;have:=LD (k:=k) h.2 (by simpa using hx)
  rwa [show i+(k+1)=i+1+k by omega]
theorem nb {p:List In}(h:vi jmp wr ins p=0):p.length≤4096∧0<p.length∧hU jmp wr ins p 0 p=true:=by
 unfold vi at h
 split at h
 ·omega
 ·split at h
  ·omega
  ·split at h
   ·rename_i h3;exact⟨by omega,by omega,h3⟩
   ·omega
theorem Mi {p:List In}(h:vi jmp wr ins p=0) {i:Nat}(hi:(gr jmp wr p).live i) {s:Int}(hs:s∈it jmp wr p i):0≤s∧s<p.length∧gv p s=false:=by
 obtain⟨_,_,h3⟩:=nb h;obtain⟨h4,h5⟩:=hi;have h6:=LD h3 (List.getElem?_eq_getElem h4);rw[Nat.zero_add,H6,h5,Bool.false_or,Bool.and_eq_true,Bool.and_eq_true,List.all_eq_true] at h6;have h7:=h6.2.2 s hs;simp only[goB,Bool.and_eq_true,decide_eq_true_eq,Bool.not_eq_true'] at h7
 exact⟨h7.1,h7.2.1,h7.2.2⟩
theorem Mb {p:List In}{i:Nat}(h:i<p.length):gv p i=MO p i:=by
 unfold gv
 cases i with
 |zero=>simp[MO,mR]
 |succ i=>
  rw[decide_eq_true ⟨by omega,by omega⟩,Bool.true_and];rfl
theorem vE {p:List In}(h:vi jmp wr ins p=0):Ok (gr jmp wr p) where
 zero:=⟨(nb h).2.1,by rw[show((0:Nat):Int)=0 from rfl];simp[gv]⟩
 lt _ h:=h.1
 nxt i s hi hs:=by
  simp only[gr,List.mem_map] at hs;obtain⟨y,h1,rfl⟩:=hs;obtain⟨h2,h3,h4⟩:=Mi h hi h1
  refine⟨by show y.toNat<p.length;omega,?_⟩
  rw[show((y.toNat:Nat):Int)=y by omega];exact h4
 wide i hi:=by
  have hlt:i<p.length:=hi.1;have hx:=List.getElem?_eq_getElem hlt;simp only[gr,hx]
  by_cases h24:p[i].op=24
  ·right
   rw[if_pos h24]
   refine⟨rfl,λh2=>?_⟩
   obtain⟨h3,h4⟩:=h2;have h5:=hi.2;rw[Mb h3] at h4;rw[Mb hi.1] at h5;rw[MO,vf hx,if_pos h24,decide_eq_false_iff_not] at h4;rw[MO,decide_eq_false_iff_not] at h5;omega
  ·left;rw[if_neg h24]
 ord i hi hj:=by
  obtain⟨h1,h2⟩:=hi;have hx:=List.getElem?_eq_getElem h1;simp only[gr,hx,Bool.or_eq_false_iff,decide_eq_false_iff_not] at hj ⊢;have hn:¬((i:Int)<0∨(p.length:Int)≤i∨gv p i=true):=by
   rw[h2]
   rintro(h|h|h)
   ·omega
   ·omega
   ·cases h
  simp only[it];rw[if_neg hn];simp only[Int.toNat_natCast,hx];split
  ·left;rfl
  ·rw[if_neg hj.2,if_neg (by rw[hj.1];decide)]
   split
   ·right;simp only[List.map_cons,List.map_nil];congr 1
   ·right;simp only[List.map_cons,List.map_nil];congr 1
end
end Go.Fl
namespace Go.Fl
open Go.Cm (lY)
def ku (op:Int):Bool:=[0,16,32,48,64,80,96,112,128,144,160,176,192].contains op
def cL (op:Int):Bool:=[16,32,48,64,80,96,112,160,176,192,208].contains op
def cls (op:Int):Int:=if op<0∨255<op then -1 else lY .and .i64 op 7
def hi (op:Int):Int:=lY .and .i64 op 240
def rb (op:Int):Int:=lY .and .i64 op 8
def jB (op:Int):Bool:=(decide (cls op=5)||decide (cls op=6))&&cL (hi op)
def aB (op:Int):Bool:=(decide (cls op=4)||decide (cls op=7))&&(ku (hi op) && !(decide (hi op=128)&&decide (0<rb op)))
def szB (z:Int):Int:=if z=96 then 4 else if z=104 then 2 else if z=112 then 1 else if z=120 then 8 else 0
def szO (op:Int):Int:=if cls op=1∨cls op=2∨cls op=3 then szB (lY .andNot .i64 op 7) else 0
def inB (n a b:Int):Bool:=decide (a≤n∧n≤b)
def KB (x:In) (d:Int):Bool:=inB x.dst 0 d&&(inB x.src 0 10&&(inB x.off (-32768) 32767&&inB x.imm (-2147483648) 2147483647))
def tQ (x:In):Bool:=if 0<rb x.op then decide (x.imm=0) else decide (x.src=0)
def Hp (x:In) (o:Int) (w:Bool):Bool:=
 if tQ x=false∨x.off≠0 then false else if o=128 then decide (x.imm=0) else if o=96∨o=112∨o=192 then (w&&(decide (x.imm≤63)&&decide (0≤x.imm)))||inB x.imm 0 31 else true
def hiW (w:Int):Int:=w.fdiv (2 ^ 32)
def qu (x:In):Bool:=
 if x.off≠0∨IntKind.u32.wrap x.wide≠IntKind.u32.wrap x.imm then false else if x.src=1 then inB x.imm 0 7&&decide (hiW x.wide=0) else decide (x.src=0)
def Hs (x:In):Int:=if aB x.op=true∨cls x.op=1∨x.op=24 then 9 else 10
def ga (x:In):Bool:=
 if KB x (Hs x)=false∨(x.op≠24∧x.wide≠0) then false
 else if aB x.op=true then Hp x (hi x.op) (decide (cls x.op=7))
 else if jB x.op=true then tQ x
 else if x.op=5 then [x.dst,x.src,x.imm].all λn=>decide (n=0)
 else if x.op=133 then ([x.dst,x.src,x.off].all λn=>decide (n=0))&&inB x.imm 1 5
 else if x.op=149 then [x.dst,x.src,x.off,x.imm].all λn=>decide (n=0)
 else if x.op=24 then qu x
 else if szO x.op=0 then false
 else if cls x.op=2 then decide (x.src=0)
 else decide (x.imm=0)
abbrev wrI:Int→Int:=IntKind.i64.wrap
abbrev np:=it jB wrI
abbrev gW:=vi jB wrI ga
abbrev gP:=gr jB wrI
def Inw (x:In):Prop:=0≤x.wide∧x.wide<18446744073709551616
end Go.Fl
