import Derived.WalkKit
import Derived.Deep.LoopGhost
import Derived.Lib.Walk
import Derived.Lib.SliceRun
import Derived.Test.YtijcpefcfcbcnaaIyA
import Derived.Test.YtijcpefcfcbcnaaCxL
set_option linter.unusedSimpArgs false
set_option linter.unusedVariables false
namespace Go.Proofs
open Go.RowKit Go.Lib Go.Cm
theorem oX (n c:Nat) (w:World):Calls Try.prog 106 #[.slice none n c] w fun e w'=>e=.returned (.slice none 0 0)∧w'=w:=by
 have q:∀ (w:World) (a:Option Addr) (n c n' c':Nat),(binOp .eql 51 (.slice a n c) (.slice none n' c')).run Try.prog w=.ok (.bool a.isNone) w:=fun w a n c n' c'=>Lib.run_eql_slice_nil w _ _ a n c n' c' Try.underlying51
 go_enter Try.func106,Try.ntmps106
 go_wp2
 go_ret
 exact⟨rfl,rfl⟩
set_option maxRecDepth 100000 in
theorem ny (a:Addr) (c:Nat) (w:World) :
  Calls Try.prog 106 #[.slice (some a) 0 c] w fun e w'=>∃ v',e=.returned v'∧(∃ a,v'=.slice a 0 0)∧Below w.heap.size w w':=by
 have t22:=Try.underlying51
 have q22:∀ (w:World) (a:Option Addr) (n c n' c':Nat),(binOp .eql 51 (.slice a n c) (.slice none n' c')).run Try.prog w=.ok (.bool a.isNone) w:=fun w a n c n' c'=>Lib.run_eql_slice_nil w _ _ a n c n' c' Try.underlying51
 have u22:∀ w,Sem.run Try.prog (underlying 51) w=.ok (TypeDesc.slice 3) w:=run_underlying t22
 have mg:Try.prog.follows .mixedOrders=true:=Go.Cm.mg
 go_enter Try.func106,Try.ntmps106
 go_wp2
 go_ret
 exact⟨_,rfl,⟨_,rfl⟩,(Below.refl _ w).alloc (Nat.le_refl _) _⟩
theorem nx (H:List HO):SimAt Try.prog 106 [.imm 0 []] H (.imm 0 []) H:=by
 refine⟨⟨_,Try.func106,by kernel_rfl⟩,fun K Q w vs hR hV=>?_⟩
 simp only[Vs,V] at hV
 obtain⟨v,r,hvs,⟨_,a,cap,rfl,_,_⟩,hr⟩:=hV
 subst hr
 obtain rfl:vs=#[.slice a 0 cap]:=by cases vs;simpa using hvs
 refine lq hR ?_
 have hRV:∀ (a:Option Addr) (n:Nat) (Q:PM) (w0 w':World),RV K (gm H) Q w0 w' (.imm 0 []) (.slice a 0 n):=fun a n Q w0 w'=>⟨none,rfl,rfl,a,n,rfl,Nat.zero_le _,.inl rfl⟩
 cases a with
 |none=>
  refine(oX 0 cap w).mono ?_
  rintro e w' ⟨rfl,rfl⟩
  exact⟨_,rfl,Below.refl _ _,fun Q w0 w'=>hRV none 0 Q w0 w'⟩
 |some a=>
  refine(ny a cap w).mono ?_
  rintro e w' ⟨v',rfl,⟨a',rfl⟩,hB⟩
  exact⟨_,rfl,hB,fun Q w0 w'=>hRV a' 0 Q w0 w'⟩
theorem qp (n c:Nat) (w:World):Calls Try.prog 42 #[.slice none n c] w fun e w'=>e=.returned (.slice none 0 0)∧w'=w:=by
 have q:∀ (w:World) (a:Option Addr) (n c n' c':Nat),(binOp .eql 27 (.slice a n c) (.slice none n' c')).run Try.prog w=.ok (.bool a.isNone) w:=fun w a n c n' c'=>Lib.run_eql_slice_nil w _ _ a n c n' c' Try.underlying27
 go_enter Try.func42,Try.ntmps42
 go_wp2
 go_ret
 exact⟨rfl,rfl⟩
set_option maxRecDepth 100000 in
theorem pb (a:Addr) (c:Nat) (w:World) :
  Calls Try.prog 42 #[.slice (some a) 0 c] w fun e w'=>∃ v',e=.returned v'∧(∃ a,v'=.slice a 0 0)∧Below w.heap.size w w':=by
 have t22:=Try.underlying27
 have q22:∀ (w:World) (a:Option Addr) (n c n' c':Nat),(binOp .eql 27 (.slice a n c) (.slice none n' c')).run Try.prog w=.ok (.bool a.isNone) w:=fun w a n c n' c'=>Lib.run_eql_slice_nil w _ _ a n c n' c' Try.underlying27
 have u22:∀ w,Sem.run Try.prog (underlying 27) w=.ok (TypeDesc.slice 58) w:=run_underlying t22
 have mg:Try.prog.follows .mixedOrders=true:=Go.Cm.mg
 go_enter Try.func42,Try.ntmps42
 go_wp2
 go_ret
 exact⟨_,rfl,⟨_,rfl⟩,(Below.refl _ w).alloc (Nat.le_refl _) _⟩
theorem oY (H:List HO):SimAt Try.prog 42 [.imm 0 []] H (.imm 0 []) H:=by
 refine⟨⟨_,Try.func42,by kernel_rfl⟩,fun K Q w vs hR hV=>?_⟩
 simp only[Vs,V] at hV
 obtain⟨v,r,hvs,⟨_,a,cap,rfl,_,_⟩,hr⟩:=hV
 subst hr
 obtain rfl:vs=#[.slice a 0 cap]:=by cases vs;simpa using hvs
 refine lq hR ?_
 have hRV:∀ (a:Option Addr) (n:Nat) (Q:PM) (w0 w':World),RV K (gm H) Q w0 w' (.imm 0 []) (.slice a 0 n):=fun a n Q w0 w'=>⟨none,rfl,rfl,a,n,rfl,Nat.zero_le _,.inl rfl⟩
 cases a with
 |none=>
  refine(qp 0 cap w).mono ?_
  rintro e w' ⟨rfl,rfl⟩
  exact⟨_,rfl,Below.refl _ _,fun Q w0 w'=>hRV none 0 Q w0 w'⟩
 |some a=>
  refine(pb a cap w).mono ?_
  rintro e w' ⟨v',rfl,⟨a',rfl⟩,hB⟩
  exact⟨_,rfl,hB,fun Q w0 w'=>hRV a' 0 Q w0 w'⟩
theorem qq (n c:Nat) (w:World):Calls Try.prog 43 #[.slice none n c] w fun e w'=>e=.returned (.slice none 0 0)∧w'=w:=by
 have q:∀ (w:World) (a:Option Addr) (n c n' c':Nat),(binOp .eql 53 (.slice a n c) (.slice none n' c')).run Try.prog w=.ok (.bool a.isNone) w:=fun w a n c n' c'=>Lib.run_eql_slice_nil w _ _ a n c n' c' Try.underlying53
 go_enter Try.func43,Try.ntmps43
 go_wp2
 go_ret
 exact⟨rfl,rfl⟩
set_option maxRecDepth 100000 in
theorem pc (a:Addr) (c:Nat) (w:World) :
  Calls Try.prog 43 #[.slice (some a) 0 c] w fun e w'=>∃ v',e=.returned v'∧(∃ a,v'=.slice a 0 0)∧Below w.heap.size w w':=by
 have t22:=Try.underlying53
 have q22:∀ (w:World) (a:Option Addr) (n c n' c':Nat),(binOp .eql 53 (.slice a n c) (.slice none n' c')).run Try.prog w=.ok (.bool a.isNone) w:=fun w a n c n' c'=>Lib.run_eql_slice_nil w _ _ a n c n' c' Try.underlying53
 have u22:∀ w,Sem.run Try.prog (underlying 53) w=.ok (TypeDesc.slice 67) w:=run_underlying t22
 have mg:Try.prog.follows .mixedOrders=true:=Go.Cm.mg
 go_enter Try.func43,Try.ntmps43
 go_wp2
 go_ret
 exact⟨_,rfl,⟨_,rfl⟩,(Below.refl _ w).alloc (Nat.le_refl _) _⟩
theorem oZ (H:List HO):SimAt Try.prog 43 [.imm 0 []] H (.imm 0 []) H:=by
 refine⟨⟨_,Try.func43,by kernel_rfl⟩,fun K Q w vs hR hV=>?_⟩
 simp only[Vs,V] at hV
 obtain⟨v,r,hvs,⟨_,a,cap,rfl,_,_⟩,hr⟩:=hV
 subst hr
 obtain rfl:vs=#[.slice a 0 cap]:=by cases vs;simpa using hvs
 refine lq hR ?_
 have hRV:∀ (a:Option Addr) (n:Nat) (Q:PM) (w0 w':World),RV K (gm H) Q w0 w' (.imm 0 []) (.slice a 0 n):=fun a n Q w0 w'=>⟨none,rfl,rfl,a,n,rfl,Nat.zero_le _,.inl rfl⟩
 cases a with
 |none=>
  refine(qq 0 cap w).mono ?_
  rintro e w' ⟨rfl,rfl⟩
  exact⟨_,rfl,Below.refl _ _,fun Q w0 w'=>hRV none 0 Q w0 w'⟩
 |some a=>
  refine(pc a cap w).mono ?_
  rintro e w' ⟨v',rfl,⟨a',rfl⟩,hB⟩
  exact⟨_,rfl,hB,fun Q w0 w'=>hRV a' 0 Q w0 w'⟩
end Go.Proofs
