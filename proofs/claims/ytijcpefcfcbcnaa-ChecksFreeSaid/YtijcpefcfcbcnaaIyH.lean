import Derived.Test.YtijcpefcfcbcnaaIyG
set_option linter.unusedSimpArgs false
set_option linter.unusedVariables false
namespace Go.Cm
open Go.Proofs
variable {F:aW}{L:List (Nat×CV)}{m:Mem}{Q:CE→TS→Prop}
noncomputable section
def c42r0:=rg 42 Try.f42 0
def c42r1:=rg 42 Try.f42 1
def c42r2:=rg 42 Try.f42 2
def c42r3:=rg 42 Try.f42 3
def c42:SC:=
 (.seq (.reg false (some [0]) c42r0) (.seq (.seq (.reg false (some [0,4]) c42r1) (.cond (.tmp 4) (.seq (.reg false (some [2]) c42r2) .ret) .nop)) (.seq (.reg false (some [2]) c42r3) .ret)))
theorem s42:Try.f42.body.bind (bh Try.prog An 42 Try.f42.ntmps)=some c42:=by kernel_rfl
theorem g42:An.glob 42=[]:=rfl
theorem r42:Try.f42.results.toList=[(.tmp 2)]:=by kernel_rfl
theorem t42r0 (h:Q .normal ⟨[(0,(ac L 0))],m⟩):Rg F 42 [0] c42r0 L m Q:=ae (by kernel_rfl) h
theorem t42r1 (h:Obt (aw Try.prog .eql 27 (.tmp 3) (.const (.slice none 0 0)) (ac L 0) .nil) fun a0=>Q .normal ⟨[(0,(ac L 0)),(4,a0)],m⟩):Rg F 42 [0,4] c42r1 L m Q:=ae (by kernel_rfl) h
theorem t42r3 (h:Obt (cd false 80 10 0 [] [] m) fun a0=>Obt (ej false 112 10 128 a0.1 (ac L 0) a0.2) fun a1=>Q .normal ⟨[(2,a1.1)],a1.2⟩):Rg F 42 [2] c42r3 L m Q:=ae (by kernel_rfl) h
def c43r0:=rg 43 Try.f43 0
def c43r1:=rg 43 Try.f43 1
def c43r2:=rg 43 Try.f43 2
def c43r3:=rg 43 Try.f43 3
def c43:SC:=
 (.seq (.reg false (some [0]) c43r0) (.seq (.seq (.reg false (some [0,4]) c43r1) (.cond (.tmp 4) (.seq (.reg false (some [2]) c43r2) .ret) .nop)) (.seq (.reg false (some [2]) c43r3) .ret)))
theorem s43:Try.f43.body.bind (bh Try.prog An 43 Try.f43.ntmps)=some c43:=by kernel_rfl
theorem g43:An.glob 43=[]:=rfl
theorem r43:Try.f43.results.toList=[(.tmp 2)]:=by kernel_rfl
theorem t43r0 (h:Q .normal ⟨[(0,(ac L 0))],m⟩):Rg F 43 [0] c43r0 L m Q:=ae (by kernel_rfl) h
theorem t43r1 (h:Obt (aw Try.prog .eql 53 (.tmp 3) (.const (.slice none 0 0)) (ac L 0) .nil) fun a0=>Q .normal ⟨[(0,(ac L 0)),(4,a0)],m⟩):Rg F 43 [0,4] c43r1 L m Q:=ae (by kernel_rfl) h
theorem t43r3 (h:Obt (cd false 80 12 0 [] [] m) fun a0=>Obt (ej false 112 12 112 a0.1 (ac L 0) a0.2) fun a1=>Q .normal ⟨[(2,a1.1)],a1.2⟩):Rg F 43 [2] c43r3 L m Q:=ae (by kernel_rfl) h
end
end Go.Cm
