import Derived.Test.YtjhndbgokapikaaCxM
import Derived.Test.YtjhndbgokapikaaFpA
import Derived.Test.YtjhndbgokapikaaFyA
import Derived.KernelRfl
set_option linter.unusedSimpArgs false
set_option linter.unusedVariables false
namespace Go.Cm
open Go.Proofs
def N5 (x:Int):List Int→List Int
 |[]=>[x]
 |y::l=>if x≤y then x::y::l else y::N5 x l
def Lf:List Int→List Int
 |[]=>[]
 |x::l=>N5 x (Lf l)
theorem Le {x:Int}:∀l:List Int,(N5 x l).Perm (x::l)
 |[]=>List.Perm.refl _
 |y::l=>by
  unfold N5;split
  ·exact List.Perm.refl _
  ·exact((Le l).cons y).trans (List.Perm.swap x y l)
theorem Lo:∀l:List Int,(Lf l).Perm l
 |[]=>List.Perm.refl _
 |x::l=>(Le _).trans ((Lo l).cons x)
theorem Ln {x:Int}:∀{l:List Int},l.Pairwise (·≤·)→(N5 x l).Pairwise (·≤·)
 |[],_=>List.pairwise_singleton _ _
 |y::l,h=>by
  obtain⟨h1,h2⟩:=List.pairwise_cons.1 h;unfold N5;split
  ·rename_i hx
   exact List.pairwise_cons.2 ⟨λa ha=>by
    rcases List.mem_cons.1 ha with rfl|ha
    ·exact hx
    ·exact Int.le_trans hx (h1 a ha),h⟩
  ·refine List.pairwise_cons.2 ⟨λa ha=>?_,Ln h2⟩
   rcases List.mem_cons.1 ((Le l).mem_iff.1 ha) with rfl|ha
   ·omega
   ·exact h1 a ha
theorem KC:∀l:List Int,(Lf l).Pairwise (·≤·)
 |[]=>List.Pairwise.nil
 |_::l=>Ln (KC l)
theorem N7 (l:List Int):Lf l=Kq l:=by
 rw[show Kq l=(Lf l).mergeSort λx y=>decide (x≤y) from(Go.mergeSort_of_perm_i (Lo l)).symm]
 refine(List.mergeSort_of_pairwise ?_).symm
 exact(KC l).imp λh=>by simpa using h
def P3 (ks:List Int):CV:=if ks=[] then .nil else .own ks.length 1 ((Lf ks).flatMap aX) 0
theorem MQ (ks:List Int):P3 ks=KY ks:=by rw[P3,KY,N7]
def Ly (args:List CV) (H:List HO):Option (CV×List HO):=
 match args with
 |[.func (.func 42) [] [.ptr (.g x) gx 0]]=>
  match H[x]? with
  |some (.var g' [.map (.g n) gn] _)=>
   match H[n]? with
   |some (.map g es)=>
    match KD es with
    |some ks=>if g'=gx∧g=gn∧es.length≤1000000 then some (P3 ks,H) else none
    |none=>none
   |_=>none
  |_=>none
 |_=>none
def EL:aW:=tab 28 Ly tab0
theorem Nj:Sim Try.prog EL:=by
 refine qZ ?_ (Es _);intro args H r H' h;unfold Ly at h
 split at h
 ·split at h
  ·rename_i hX
   split at h
   ·rename_i hH
    split at h
    ·rename_i hk
     split at h
     ·rename_i hg
      obtain⟨rfl,rfl,hg⟩:=hg;simp only[Option.some.injEq,Prod.mk.injEq] at h;obtain⟨rfl,rfl⟩:=h;rw[MQ];exact Nt ⟨_,Try.func28,by kernel_rfl⟩ (by kernel_rfl) Try.sorted hH hX hk hg
     ·cases h
    ·cases h
   ·cases h
  ·cases h
 ·cases h
theorem Ns {x gx n gn:Nat}{vl:Nat}{es:List (CV×CV)}{ks:List Int}{H:List HO}(hX:H[x]?=some (.var gx [.map (.g n) gn] vl)) (hH:H[n]?=some (.map gn es)) (hk:KD es=some ks) (hl:es.length≤1000000) :
  Ly [.func (.func 42) [] [.ptr (.g x) gx 0]] H=some (KY ks,H):=by
 unfold Ly;simp only[hX,hH,hk,hl,and_self,if_true,MQ]
def NI (o f i:Int):List CV:=[.int .i64 o,.int .i64 0,.int .i64 0,.int .i64 f,.int .i64 i,.int .u64 0]
def pV:CV:=.imm 4 (NI 183 0 0++NI 21 1 0++NI 183 0 1++NI 149 0 0)
def NK (x:List CV) (h:Option (CV×List HO)):List CV→List HO→Option (CV×List HO):=λa H=>if (beqs a x&&H.isEmpty)=true then h else none
def v18:Option (CV×List HO):=some (.tuple [.int .i64 0,.int .i64 0],[])
noncomputable def run18:Option (CV×List HO):=kz Try.prog An EL 60 18 [pV] []
noncomputable def E1:aW:=tab 18 (NK [pV] v18) EL
noncomputable def run11:Option (CV×List HO):=kz Try.prog An E1 60 11 [pV] []
def is18:Option (CV×List HO)→Bool
 |some (.tuple [.int .i64 0,.int .i64 0],[])=>true
 |_=>false
def is11:Option (CV×List HO)→Bool
 |some (.own 4 1 [.int .i64 0,.int .i64 1,.int .i64 2,.int .i64 3] 0,_)=>true
 |_=>false
theorem is18_of {x:Option (CV×List HO)}(h:is18 x=true):x=v18:=by
 unfold is18 at h
 split at h
 ·rfl
 ·cases h
def hOf:Option (CV×List HO)→List HO
 |some (_,H)=>H
 |none=>[]
theorem is11_of {x:Option (CV×List HO)}(h:is11 x=true):x=some (.own 4 1 [.int .i64 0,.int .i64 1,.int .i64 2,.int .i64 3] 0,hOf x):=by
 unfold is11 at h
 split at h
 ·rfl
 ·cases h
noncomputable def E2:aW:=tab 11 (NK [pV] (some (.own 4 1 [.int .i64 0,.int .i64 1,.int .i64 2,.int .i64 3] 0,hOf run11))) E1
noncomputable def hx14:Option (CV×List HO):=kz Try.prog An E2 60 15 [] []
def mi (h:Option (CV×List HO)):List CV→List HO→Option (CV×List HO):=λa H=>match a,H with|[],[]=>h|_,_=>none
def LL:Option (CV×List HO)→Bool
 |some (.bool true,_)=>true
 |_=>false
theorem PY {x:Option (CV×List HO)}(h:LL x=true):x=some (.bool true,hOf x):=by
 unfold LL at h
 split at h
 ·rfl
 ·cases h
noncomputable def EE:aW:=tab 15 (mi hx14) EL
noncomputable abbrev FF:aW:=Fw Try.prog An EE
end Go.Cm
