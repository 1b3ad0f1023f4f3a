import Derived.Test.YtijcpefcfcbcnaaIyA
set_option linter.unusedSimpArgs false
set_option linter.unusedVariables false
namespace Go.Cm
open Go.Proofs
variable {F:aW}{L:List (Nat×CV)}{m:Mem}{Q:CE→TS→Prop}
noncomputable section
abbrev JA:=rg 135 Try.f135
def tE:SC:=
 (.seq (.reg false (some [0,5,11,12,13,14]) (JA 3)) (.seq (.cond (.tmp 14) .nop (.exit 0)) (.seq (.block 1 (.seq (.reg false (some [0,5,7,11,12,13]) (JA 4)) (.seq (.reg false (some [0,5,7,11,12,13,24]) (JA 5)) (.cond (.tmp 24) (.reg false (some [0,5,11,12,13]) (JA 6)) .nop)))) (.reg false (some [0,5,11,12,13]) (JA 7)))))
def c135:SC:=
 (.seq (.reg false (some [0,1]) (JA 0)) (.seq (.reg false (some [0,1,5]) (JA 1)) (.seq (.seq (.reg false (some [0,5,11,12,13]) (JA 2)) (.block 0 (.loop tE))) (.seq (.reg false (some [4]) (JA 8)) .ret))))
theorem s135:Try.f135.body.bind (bh Try.prog An 135 Try.f135.ntmps)=some c135:=by kernel_rfl
theorem g135:An.glob 135=[]:=rfl
theorem r135:Try.f135.results.toList=[(.tmp 4)]:=by kernel_rfl
theorem t135r0 (h:Q .normal ⟨tk L [0,1] [],m⟩):Rg F 135 [0,1] (JA 0) L m Q:=Tq h
theorem t135r1 (h:Q .normal ⟨tk L [0,1] [(5,.nil)],m⟩):Rg F 135 [0,1,5] (JA 1) L m Q:=Tq h
theorem t135r2 (h:Obt (bd 1 (ac L 0) (ac L 1)) λa0=>Obt (ld1 m a0) λa1=>Obt (lenS a1) λa2=>Q .normal ⟨tk L [0,5] [(11,a1),(12,a2),(13,(.int .i64 0))],m⟩):Rg F 135 [0,5,11,12,13] (JA 2) L m Q:=Tq h
theorem EL (h:Obt (aw Try.prog .lss 3 (.tmp 13) (.tmp 12) (ac L 13) (ac L 12)) λa0=>Q .normal ⟨tk L [0,5,11,12,13] [(14,a0)],m⟩):Rg F 135 [0,5,11,12,13,14] (JA 3) L m Q:=Tq h
theorem t135r4 (h:Obt (bd 1 (ac L 11) (ac L 13)) λa0=>Obt (ld1 m a0) λa1=>Q .normal ⟨tk L [0,5] ((7,a1)::tk L [11,12,13] []),m⟩):Rg F 135 [0,5,7,11,12,13] (JA 4) L m Q:=Tq h
theorem t135r5 (h:Obt (aw Try.prog .geq 3 (.tmp 17) (.const (.int .i64 0)) (ac L 7) (.int .i64 0)) λa0=>Obt (gW a0 true (ac L 7) m) λa1=>Obt (gW a0 true (ac L 0) a1.2) λa2=>Obt (gV a0 true (lenS a2.1) a2.2) λa3=>Obt (gV a0 true (aw Try.prog .lss 3 (.tmp 20) (.tmp 22) a1.1 a3.1) a3.2) λa4=>Obt (aT a0 a4.1 (.bool false)) λa5=>Q .normal ⟨tk L [0,5,7,11,12,13] [(24,a5)],a4.2⟩):Rg F 135 [0,5,7,11,12,13,24] (JA 5) L m Q:=Tq h
theorem t135r6 (h:Obt (be false 432 1 1 [.int .i64 0] [(0,1,(ac L 7))] m) λa0=>Obt (ej false 448 1 8 (ac L 5) a0.1 a0.2) λa1=>Q .normal ⟨tk L [0] ((5,a1.1)::tk L [11,12,13] []),a1.2⟩):Rg F 135 [0,5,11,12,13] (JA 6) L m Q:=Tq h
theorem EM (h:Obt (aw Try.prog .add 3 (.tmp 13) (.const (.int .i64 1)) (ac L 13) (.int .i64 1)) λa0=>Q .normal ⟨tk L [0,5,11,12] [(13,a0)],m⟩):Rg F 135 [0,5,11,12,13] (JA 7) L m Q:=Tq h
theorem t135r8 (h:Q .normal ⟨[(4,(ac L 5))],m⟩):Rg F 135 [4] (JA 8) L m Q:=Tq h
abbrev JD:=rg 134 Try.f134
def tD:SC:=
 (.seq (.reg false (some [0,3,4,15,16,17,18]) (JD 3)) (.seq (.cond (.tmp 18) .nop (.exit 0)) (.seq (.block 1 (.seq (.reg false (some [0,3,4,7,15,16,17]) (JD 4)) (.reg false (some [0,3,4,15,16,17]) (JD 5)))) (.reg false (some [0,3,4,15,16,17]) (JD 6)))))
def c134:SC:=
 (.seq (.seq (.reg false (some [0,1,2,3,4,10]) (JD 0)) (.cond (.tmp 10) .ret .nop)) (.seq (.reg false (some [0,2,3,4]) (JD 1)) (.seq (.seq (.reg false (some [0,3,4,15,16,17]) (JD 2)) (.block 0 (.loop tD))) (.reg false (some []) (JD 7)))))
theorem s134:Try.f134.body.bind (bh Try.prog An 134 Try.f134.ntmps)=some c134:=by kernel_rfl
theorem g134:An.glob 134=[28]:=rfl
theorem r134:Try.f134.results.toList=[]:=by kernel_rfl
theorem EJ (h:Obt (ld1 m (ac L 1)) λa0=>Obt (gK Try.prog 3 (.bool false) a0 (ac L 0) false m) λa1=>Q .normal ⟨tk L [0,1,2,3,4] [(10,a1)],m⟩):Rg F 134 [0,1,2,3,4,10] (JD 0) L m Q:=Tq h
theorem t134r1 (h:Obt (ld1 m (ac L 1)) λa0=>Obt (mB Try.prog 3 a0 (ac L 0) (.bool true) m) λa1=>Q .normal ⟨tk L [0,2,3,4] [],a1⟩):Rg F 134 [0,2,3,4] (JD 1) L m Q:=Tq h
theorem t134r2 (h:Obt (ld1 m (ac L 2)) λa0=>Obt (aB An F 134 (some 15) 135 [a0,(ac L 0)] m) λa1=>Obt (lenS a1.1) λa2=>Q .normal ⟨tk L [0,3,4] [(15,a1.1),(16,a2),(17,(.int .i64 0))],a1.2⟩):Rg F 134 [0,3,4,15,16,17] (JD 2) L m Q:=Tq h
theorem EK (h:Obt (aw Try.prog .lss 3 (.tmp 17) (.tmp 16) (ac L 17) (ac L 16)) λa0=>Q .normal ⟨tk L [0,3,4,15,16,17] [(18,a0)],m⟩):Rg F 134 [0,3,4,15,16,17,18] (JD 3) L m Q:=Tq h
theorem t134r4 (h:Obt (bd 1 (ac L 15) (ac L 17)) λa0=>Obt (ld1 m a0) λa1=>Q .normal ⟨tk L [0,3,4] ((7,a1)::tk L [15,16,17] []),m⟩):Rg F 134 [0,3,4,7,15,16,17] (JD 4) L m Q:=Tq h
theorem t134r5 (h:Obt (ld1 m (ac L 3)) λa0=>Obt (dx An F 134 (some 23) a0 [(ac L 7)] m) λa1=>Q .normal ⟨tk L [0,3,4,15,16,17] [],a1.2⟩):Rg F 134 [0,3,4,15,16,17] (JD 5) L m Q:=Tq h
theorem t134r6 (h:Obt (aw Try.prog .add 3 (.tmp 17) (.const (.int .i64 1)) (ac L 17) (.int .i64 1)) λa0=>Q .normal ⟨tk L [0,3,4,15,16] [(17,a0)],m⟩):Rg F 134 [0,3,4,15,16,17] (JD 6) L m Q:=Tq h
theorem t134r7 (h:Obt (ld1 m (ac L 4)) λa0=>Obt (be false 432 1 1 [.int .i64 0] [(0,1,(ac L 0))] m) λa1=>Obt (ej true 448 1 8 a0 a1.1 a1.2) λa2=>Obt (stX 1 a2.2 (ac L 4) a2.1) λa3=>Q .normal ⟨[],a3⟩):Rg F 134 [] (JD 7) L m Q:=Tq h
abbrev JG:=rg 136 Try.f136
def tF:SC:=
 (.seq (.seq (.reg false (some [0,2,3,9]) (JG 1)) (.cond (.tmp 9) .nop (.exit 0))) (.seq (.block 1 (.reg true (some [0,2,3]) (JG 3))) (.reg false (some [0,2,3]) (JG 2))))
def c136:SC:=
 (.seq (.reg false (some [0,2,3]) (JG 0)) (.block 0 (.loop tF)))
theorem s136:Try.f136.body.bind (bh Try.prog An 136 Try.f136.ntmps)=some c136:=by kernel_rfl
theorem g136:An.glob 136=[]:=rfl
theorem r136:Try.f136.results.toList=[]:=by kernel_rfl
theorem t136r0 (h:Obt (lenS (ac L 0)) λa0=>Obt (aw Try.prog .sub 3 (.tmp 5) (.const (.int .i64 1)) a0 (.int .i64 1)) λa1=>Q .normal ⟨tk L [0] [(2,(.int .i64 0)),(3,a1)],m⟩):Rg F 136 [0,2,3] (JG 0) L m Q:=Tq h
theorem EN (h:Obt (aw Try.prog .lss 3 (.tmp 7) (.tmp 8) (ac L 2) (ac L 3)) λa0=>Q .normal ⟨tk L [0,2,3] [(9,a0)],m⟩):Rg F 136 [0,2,3,9] (JG 1) L m Q:=Tq h
theorem t136r3 (h:Obt (bd 1 (ac L 0) (ac L 3)) λa0=>Obt (ld1 m a0) λa1=>Obt (bd 1 (ac L 0) (ac L 2)) λa2=>Obt (ld1 m a2) λa3=>Obt (bd 1 (ac L 0) (ac L 2)) λa4=>Obt (stX 1 m a4 a1) λa5=>Obt (bd 1 (ac L 0) (ac L 3)) λa6=>Obt (stX 1 a5 a6 a3) λa7=>Q .normal ⟨tk L [0,2,3] [],a7⟩):Rt F 136 [0,2,3] (JG 3) L m Q:=Tq h
theorem t136r2 (h:Obt (aw Try.prog .add 3 (.tmp 10) (.const (.int .i64 1)) (ac L 2) (.int .i64 1)) λa0=>Obt (aw Try.prog .sub 3 (.tmp 12) (.const (.int .i64 1)) (ac L 3) (.int .i64 1)) λa1=>Q .normal ⟨tk L [0] [(2,a0),(3,a1)],m⟩):Rg F 136 [0,2,3] (JG 2) L m Q:=Tq h
abbrev Jy:=rg 112 Try.f112
def c112:SC:=
 (.seq (.reg false (some [1]) (Jy 0)) (.seq (.seq (.reg false (some [1,8]) (Jy 1)) (.cond (.tmp 8) (.seq (.reg false (some [2]) (Jy 2)) .ret) .nop)) (.seq (.reg false (some [1,3]) (Jy 3)) (.seq (.reg false (some [1,3,4]) (Jy 4)) (.seq (.reg false (some [1,3,4,5]) (Jy 5)) (.seq (.reg false (some [4,5]) (Jy 6)) (.seq (.reg false (some [4]) (Jy 7)) (.seq (.reg false (some [4]) (Jy 8)) (.seq (.reg false (some [2]) (Jy 9)) .ret)))))))))
theorem s112:Try.f112.body.bind (bh Try.prog An 112 Try.f112.ntmps)=some c112:=by kernel_rfl
theorem g112:An.glob 112=[1,9,3,4,5]:=rfl
theorem r112:Try.f112.results.toList=[(.tmp 2)]:=by kernel_rfl
theorem Ex (h:Obt (iB (ac L 0) m) λa0=>Q .normal ⟨[(1,a0.1)],a0.2⟩):Rg F 112 [1] (Jy 0) L m Q:=Tq h
theorem Ey (h:Obt (ld1 m (ac L 1)) λa0=>Obt (lenS a0) λa1=>Obt (aw Try.prog .eql 3 (.tmp 7) (.const (.int .i64 0)) a1 (.int .i64 0)) λa2=>Q .normal ⟨tk L [1] [(8,a2)],m⟩):Rg F 112 [1,8] (Jy 1) L m Q:=Tq h
theorem t112r2 (h:Q .normal ⟨[(2,.nil)],m⟩):Rg F 112 [2] (Jy 2) L m Q:=Tq h
theorem t112r3 (h:Obt (stX 1 (ir (jJ m) [.mnil]) (eP (jJ m)) (md m)) λa0=>Q .normal ⟨tk L [1] [(3,(eP (jJ m)))],a0⟩):Rg F 112 [1,3] (Jy 3) L m Q:=Tq h
theorem t112r4 (h:Q .normal ⟨tk L [1,3] [(4,(eP m))],(ir m [.nil])⟩):Rg F 112 [1,3,4] (Jy 4) L m Q:=Tq h
theorem t112r5 (h:Q .normal ⟨tk L [1,3,4] [(5,(eP m))],(ir m [.nilf])⟩):Rg F 112 [1,3,4,5] (Jy 5) L m Q:=Tq h
theorem t112r6 (h:Obt (stX 1 m (ac L 5) (.func (.func 134) [] [(ac L 3),(ac L 1),(ac L 5),(ac L 4)])) λa0=>Q .normal ⟨tk L [4,5] [],a0⟩):Rg F 112 [4,5] (Jy 6) L m Q:=Tq h
theorem t112r7 (h:Obt (ld1 m (ac L 5)) λa0=>Obt (dx An F 112 (some 12) a0 [(.int .i64 0)] m) λa1=>Q .normal ⟨tk L [4] [],a1.2⟩):Rg F 112 [4] (Jy 7) L m Q:=Tq h
theorem t112r8 (h:Obt (ld1 m (ac L 4)) λa0=>Obt (aB An F 112 (some 14) 136 [a0] m) λa1=>Q .normal ⟨tk L [4] [],a1.2⟩):Rg F 112 [4] (Jy 8) L m Q:=Tq h
theorem t112r9 (h:Obt (ld1 m (ac L 4)) λa0=>Q .normal ⟨[(2,a0)],m⟩):Rg F 112 [2] (Jy 9) L m Q:=Tq h
abbrev R84:=rg 84 Try.f84
def CZ:SC:=
 (.seq (.reg false (some [3,10,11,12,13]) (R84 3)) (.seq (.cond (.tmp 13) .nop (.exit 0)) (.seq (.block 1 (.seq (.reg false (some [3,5,10,11,12]) (R84 4)) (.reg false (some [3,10,11,12]) (R84 5)))) (.reg false (some [3,10,11,12]) (R84 6)))))
def c84:SC:=
 (.seq (.reg false (some [0]) (R84 0)) (.seq (.reg false (some [0,3]) (R84 1)) (.seq (.seq (.reg false (some [3,10,11,12]) (R84 2)) (.block 0 (.loop CZ))) (.seq (.reg false (some [2]) (R84 7)) .ret))))
theorem s84:Try.f84.body.bind (bh Try.prog An 84 Try.f84.ntmps)=some c84:=by kernel_rfl
theorem g84:An.glob 84=[]:=rfl
theorem r84:Try.f84.results.toList=[(.tmp 2)]:=by kernel_rfl
theorem t84r0 (h:Q .normal ⟨tk L [0] [],m⟩):Rg F 84 [0] (R84 0) L m Q:=Tq h
theorem t84r1 (h:Obt (lenS (ac L 0)) λa0=>Obt (mkX false 128 1 1 [.bool false] a0 a0 m) λa1=>Q .normal ⟨tk L [0] [(3,a1.1)],a1.2⟩):Rg F 84 [0,3] (R84 1) L m Q:=Tq h
theorem t84r2 (h:Obt (aB An F 84 (some 10) 112 [(ac L 0)] m) λa0=>Obt (lenS a0.1) λa1=>Q .normal ⟨tk L [3] [(10,a0.1),(11,a1),(12,(.int .i64 0))],a0.2⟩):Rg F 84 [3,10,11,12] (R84 2) L m Q:=Tq h
theorem t84r3 (h:Obt (aw Try.prog .lss 3 (.tmp 12) (.tmp 11) (ac L 12) (ac L 11)) λa0=>Q .normal ⟨tk L [3,10,11,12] [(13,a0)],m⟩):Rg F 84 [3,10,11,12,13] (R84 3) L m Q:=Tq h
theorem t84r4 (h:Obt (bd 1 (ac L 10) (ac L 12)) λa0=>Obt (ld1 m a0) λa1=>Q .normal ⟨tk L [3] ((5,a1)::tk L [10,11,12] []),m⟩):Rg F 84 [3,5,10,11,12] (R84 4) L m Q:=Tq h
theorem t84r5 (h:Obt (bd 1 (ac L 3) (ac L 5)) λa0=>Obt (stX 1 m a0 (.bool true)) λa1=>Q .normal ⟨tk L [3,10,11,12] [],a1⟩):Rg F 84 [3,10,11,12] (R84 5) L m Q:=Tq h
theorem t84r6 (h:Obt (aw Try.prog .add 3 (.tmp 12) (.const (.int .i64 1)) (ac L 12) (.int .i64 1)) λa0=>Q .normal ⟨tk L [3,10,11] [(12,a0)],m⟩):Rg F 84 [3,10,11,12] (R84 6) L m Q:=Tq h
theorem t84r7 (h:Q .normal ⟨[(2,(ac L 3))],m⟩):Rg F 84 [2] (R84 7) L m Q:=Tq h
abbrev JC:=rg 113 Try.f113
def tA:SC:=
 (.seq (.reg false (some [0,1,7,8,9]) (JC 2)) (.seq (.cond (.tmp 9) .nop (.exit 0)) (.seq (.block 1 (.seq (.reg false (some [0,1,5,7,8]) (JC 3)) (.seq (.reg false (some [0,1,5,7,8,16]) (JC 4)) (.cond (.tmp 16) (.seq (.reg false (some [4]) (JC 5)) .ret) .nop)))) (.reg false (some [0,1,7,8]) (JC 6)))))
def c113:SC:=
 (.seq (.reg false (some [0,1]) (JC 0)) (.seq (.seq (.reg false (some [0,1,7,8]) (JC 1)) (.block 0 (.loop tA))) (.seq (.reg false (some [4]) (JC 7)) .ret)))
theorem s113:Try.f113.body.bind (bh Try.prog An 113 Try.f113.ntmps)=some c113:=by kernel_rfl
theorem g113:An.glob 113=[]:=rfl
theorem r113:Try.f113.results.toList=[(.tmp 4)]:=by kernel_rfl
theorem t113r0 (h:Q .normal ⟨tk L [0,1] [],m⟩):Rg F 113 [0,1] (JC 0) L m Q:=Tq h
theorem t113r1 (h:Obt (lenS (ac L 0)) λa0=>Q .normal ⟨tk L [0,1] [(7,a0),(8,(.int .i64 0))],m⟩):Rg F 113 [0,1,7,8] (JC 1) L m Q:=Tq h
theorem Ez (h:Obt (aw Try.prog .lss 3 (.tmp 8) (.tmp 7) (ac L 8) (ac L 7)) λa0=>Q .normal ⟨tk L [0,1,7,8] [(9,a0)],m⟩):Rg F 113 [0,1,7,8,9] (JC 2) L m Q:=Tq h
theorem t113r3 (h:Q .normal ⟨tk L [0,1] ((5,(ac L 8))::tk L [7,8] []),m⟩):Rg F 113 [0,1,5,7,8] (JC 3) L m Q:=Tq h
theorem t113r4 (h:Obt (bd 1 (ac L 0) (ac L 5)) λa0=>Obt (ld1 m a0) λa1=>Obt (aw Try.prog .eql 3 (.tmp 11) (.tmp 15) (ac L 1) a1) λa2=>Q .normal ⟨tk L [0,1,5,7,8] [(16,a2)],m⟩):Rg F 113 [0,1,5,7,8,16] (JC 4) L m Q:=Tq h
theorem t113r5 (h:Q .normal ⟨[(4,(ac L 5))],m⟩):Rg F 113 [4] (JC 5) L m Q:=Tq h
theorem t113r6 (h:Obt (aw Try.prog .add 3 (.tmp 8) (.const (.int .i64 1)) (ac L 8) (.int .i64 1)) λa0=>Q .normal ⟨tk L [0,1,7] [(8,a0)],m⟩):Rg F 113 [0,1,7,8] (JC 6) L m Q:=Tq h
theorem t113r7 (h:Q .normal ⟨[(4,(.int .i64 (-1)))],m⟩):Rg F 113 [4] (JC 7) L m Q:=Tq h
abbrev R85:=rg 85 Try.f85
def c85:SC:=
 (.seq (.reg false (some [0,1]) (R85 0)) (.seq (.reg false (some [4]) (R85 1)) .ret))
theorem s85:Try.f85.body.bind (bh Try.prog An 85 Try.f85.ntmps)=some c85:=by kernel_rfl
theorem g85:An.glob 85=[]:=rfl
theorem r85:Try.f85.results.toList=[(.tmp 4)]:=by kernel_rfl
theorem t85r0 (h:Q .normal ⟨tk L [0,1] [],m⟩):Rg F 85 [0,1] (R85 0) L m Q:=Tq h
theorem t85r1 (h:Obt (aB An F 85 (some 7) 113 [(ac L 0),(ac L 1)] m) λa0=>Obt (aw Try.prog .geq 3 (.tmp 7) (.const (.int .i64 0)) a0.1 (.int .i64 0)) λa1=>Q .normal ⟨[(4,a1)],a0.2⟩):Rg F 85 [4] (R85 1) L m Q:=Tq h
abbrev Jw:=rg 119 Try.f119
def tB:SC:=
 (.seq (.reg false (some [0,5,7,11,12,13,19,20,21,22]) (Jw 6)) (.seq (.cond (.tmp 22) .nop (.exit 2)) (.seq (.block 3 (.seq (.reg false (some [0,5,7,9,11,12,13,19,20,21]) (Jw 7)) (.seq (.reg false (some [0,5,7,9,11,12,13,19,20,21,30]) (Jw 8)) (.cond (.tmp 30) (.reg false (some [0,5,7,11,12,13,19,20,21]) (Jw 9)) .nop)))) (.reg false (some [0,5,7,11,12,13,19,20,21]) (Jw 10)))))
def tC:SC:=
 (.seq (.reg false (some [0,5,11,12,13,14]) (Jw 3)) (.seq (.cond (.tmp 14) .nop (.exit 0)) (.seq (.block 1 (.seq (.reg false (some [0,5,7,11,12,13]) (Jw 4)) (.seq (.reg false (some [0,5,7,11,12,13,19,20,21]) (Jw 5)) (.block 2 (.loop tB))))) (.reg false (some [0,5,11,12,13]) (Jw 11)))))
def c119:SC:=
 (.seq (.reg false (some [0,1]) (Jw 0)) (.seq (.reg false (some [0,1,5]) (Jw 1)) (.seq (.seq (.reg false (some [0,5,11,12,13]) (Jw 2)) (.block 0 (.loop tC))) (.seq (.reg false (some [4]) (Jw 12)) .ret))))
theorem s119:Try.f119.body.bind (bh Try.prog An 119 Try.f119.ntmps)=some c119:=by kernel_rfl
theorem g119:An.glob 119=[10,38]:=rfl
theorem r119:Try.f119.results.toList=[(.tmp 4)]:=by kernel_rfl
theorem t119r0 (h:Q .normal ⟨tk L [0,1] [],m⟩):Rg F 119 [0,1] (Jw 0) L m Q:=Tq h
theorem t119r1 (h:Q .normal ⟨tk L [0,1] [(5,(md m))],(jJ m)⟩):Rg F 119 [0,1,5] (Jw 1) L m Q:=Tq h
theorem t119r2 (h:Obt (lenS (ac L 1)) λa0=>Q .normal ⟨tk L [0,5] [(11,(ac L 1)),(12,a0),(13,(.int .i64 0))],m⟩):Rg F 119 [0,5,11,12,13] (Jw 2) L m Q:=Tq h
theorem EC (h:Obt (aw Try.prog .lss 3 (.tmp 13) (.tmp 12) (ac L 13) (ac L 12)) λa0=>Q .normal ⟨tk L [0,5,11,12,13] [(14,a0)],m⟩):Rg F 119 [0,5,11,12,13,14] (Jw 3) L m Q:=Tq h
theorem t119r4 (h:Obt (bd 1 (ac L 11) (ac L 13)) λa0=>Obt (ld1 m a0) λa1=>Q .normal ⟨tk L [0,5] ((7,a1)::tk L [11,12,13] []),m⟩):Rg F 119 [0,5,7,11,12,13] (Jw 4) L m Q:=Tq h
theorem t119r5 (h:Obt (aB An F 119 (some 19) 135 [(ac L 0),(ac L 7)] m) λa0=>Obt (lenS a0.1) λa1=>Q .normal ⟨tk L [0,5,7,11,12,13] [(19,a0.1),(20,a1),(21,(.int .i64 0))],a0.2⟩):Rg F 119 [0,5,7,11,12,13,19,20,21] (Jw 5) L m Q:=Tq h
theorem uq (h:Obt (aw Try.prog .lss 3 (.tmp 21) (.tmp 20) (ac L 21) (ac L 20)) λa0=>Q .normal ⟨tk L [0,5,7,11,12,13,19,20,21] [(22,a0)],m⟩):Rg F 119 [0,5,7,11,12,13,19,20,21,22] (Jw 6) L m Q:=Tq h
theorem ED (h:Obt (bd 1 (ac L 19) (ac L 21)) λa0=>Obt (ld1 m a0) λa1=>Q .normal ⟨tk L [0,5,7] ((9,a1)::tk L [11,12,13,19,20,21] []),m⟩):Rg F 119 [0,5,7,9,11,12,13,19,20,21] (Jw 7) L m Q:=Tq h
theorem EF (h:Obt (gK Try.prog 3 (.nil) (ac L 5) (ac L 9) false m) λa0=>Obt (aB An F 119 (some 29) 85 [a0,(ac L 7)] m) λa1=>Obt (cun .not a1.1) λa2=>Q .normal ⟨tk L [0,5,7,9,11,12,13,19,20,21] [(30,a2)],a1.2⟩):Rg F 119 [0,5,7,9,11,12,13,19,20,21,30] (Jw 8) L m Q:=Tq h
theorem t119r9 (h:Obt (gK Try.prog 3 (.nil) (ac L 5) (ac L 9) false m) λa0=>Obt (be false 592 1 1 [.int .i64 0] [(0,1,(ac L 7))] m) λa1=>Obt (ej true 608 1 8 a0 a1.1 a1.2) λa2=>Obt (mB Try.prog 3 (ac L 5) (ac L 9) a2.1 a2.2) λa3=>Q .normal ⟨tk L [0,5,7,11,12,13,19,20,21] [],a3⟩):Rg F 119 [0,5,7,11,12,13,19,20,21] (Jw 9) L m Q:=Tq h
theorem wn (h:Obt (aw Try.prog .add 3 (.tmp 21) (.const (.int .i64 1)) (ac L 21) (.int .i64 1)) λa0=>Q .normal ⟨tk L [0,5,7,11,12,13,19,20] [(21,a0)],m⟩):Rg F 119 [0,5,7,11,12,13,19,20,21] (Jw 10) L m Q:=Tq h
theorem t119r11 (h:Obt (aw Try.prog .add 3 (.tmp 13) (.const (.int .i64 1)) (ac L 13) (.int .i64 1)) λa0=>Q .normal ⟨tk L [0,5,11,12] [(13,a0)],m⟩):Rg F 119 [0,5,11,12,13] (Jw 11) L m Q:=Tq h
theorem t119r12 (h:Q .normal ⟨[(4,(ac L 5))],m⟩):Rg F 119 [4] (Jw 12) L m Q:=Tq h
abbrev JF:=rg 120 Try.f120
def zC:SC:=
 (.seq (.seq (.reg false (some [0,1,2,3,16]) (JF 2)) (.cond (.tmp 16) .nop (.exit 2))) (.block 3 (.reg false (some [0,1,2,3]) (JF 3))))
def zD:SC:=
 (.seq (.seq (.reg false (some [0,1,2,3,27]) (JF 4)) (.cond (.tmp 27) .nop (.exit 4))) (.block 5 (.reg false (some [0,1,2,3]) (JF 5))))
def zE:SC:=
 (.seq (.seq (.reg false (some [0,1,2,3,9]) (JF 1)) (.cond (.tmp 9) .nop (.exit 0))) (.block 1 (.seq (.block 2 (.loop zC)) (.block 4 (.loop zD)))))
def c120:SC:=
 (.seq (.reg false (some [0,1,2,3]) (JF 0)) (.seq (.block 0 (.loop zE)) (.seq (.reg false (some [6]) (JF 6)) .ret)))
theorem s120:Try.f120.body.bind (bh Try.prog An 120 Try.f120.ntmps)=some c120:=by kernel_rfl
theorem g120:An.glob 120=[]:=rfl
theorem r120:Try.f120.results.toList=[(.tmp 6)]:=by kernel_rfl
theorem t120r0 (h:Q .normal ⟨tk L [0,1,2,3] [],m⟩):Rg F 120 [0,1,2,3] (JF 0) L m Q:=Tq h
theorem EG (h:Obt (aw Try.prog .neq 3 (.tmp 7) (.tmp 8) (ac L 0) (ac L 1)) λa0=>Q .normal ⟨tk L [0,1,2,3] [(9,a0)],m⟩):Rg F 120 [0,1,2,3,9] (JF 1) L m Q:=Tq h
theorem EH (h:Obt (ld1 m (ac L 2)) λa0=>Obt (gK Try.prog 3 (.int .i64 0) a0 (ac L 0) false m) λa1=>Obt (ld1 m (ac L 2)) λa2=>Obt (gK Try.prog 3 (.int .i64 0) a2 (ac L 1) false m) λa3=>Obt (aw Try.prog .gtr 3 (.tmp 12) (.tmp 15) a1 a3) λa4=>Q .normal ⟨tk L [0,1,2,3] [(16,a4)],m⟩):Rg F 120 [0,1,2,3,16] (JF 2) L m Q:=Tq h
theorem t120r3 (h:Obt (ld1 m (ac L 3)) λa0=>Obt (bd 1 a0 (ac L 0)) λa1=>Obt (ld1 m a1) λa2=>Q .normal ⟨(0,a2)::tk L [1,2,3] [],m⟩):Rg F 120 [0,1,2,3] (JF 3) L m Q:=Tq h
theorem EI (h:Obt (ld1 m (ac L 2)) λa0=>Obt (gK Try.prog 3 (.int .i64 0) a0 (ac L 1) false m) λa1=>Obt (ld1 m (ac L 2)) λa2=>Obt (gK Try.prog 3 (.int .i64 0) a2 (ac L 0) false m) λa3=>Obt (aw Try.prog .gtr 3 (.tmp 23) (.tmp 26) a1 a3) λa4=>Q .normal ⟨tk L [0,1,2,3] [(27,a4)],m⟩):Rg F 120 [0,1,2,3,27] (JF 4) L m Q:=Tq h
theorem t120r5 (h:Obt (ld1 m (ac L 3)) λa0=>Obt (bd 1 a0 (ac L 1)) λa1=>Obt (ld1 m a1) λa2=>Q .normal ⟨tk L [0] ((1,a2)::tk L [2,3] []),m⟩):Rg F 120 [0,1,2,3] (JF 5) L m Q:=Tq h
theorem t120r6 (h:Q .normal ⟨[(6,(ac L 0))],m⟩):Rg F 120 [6] (JF 6) L m Q:=Tq h
abbrev R91:=rg 91 Try.f91
def Df:SC:=
 (.seq (.reg false (some [0,3,4,5,26,27,28]) (R91 5)) (.seq (.cond (.tmp 28) .nop (.exit 0)) (.seq (.block 1 (.seq (.reg false (some [0,3,4,5,6,26,27]) (R91 6)) (.reg false (some [0,3,4,5,26,27]) (R91 7)))) (.reg false (some [0,3,4,5,26,27]) (R91 8)))))
def Dg:SC:=
 (.seq (.reg false (some [0,3,4,5,34,35,36,37]) (R91 10)) (.seq (.cond (.tmp 37) .nop (.exit 2)) (.seq (.block 3 (.seq (.reg false (some [0,3,4,5,7,8,34,35,36]) (R91 11)) (.reg false (some [0,3,4,5,34,35,36]) (R91 12)))) (.reg false (some [0,3,4,5,34,35,36]) (R91 13)))))
def c91l2:SC:=
 (.seq (.reg false (some [3,5,9,10,11,13,14,50,51,52,61,62,63,64]) (R91 25)) (.seq (.cond (.tmp 64) .nop (.exit 8)) (.seq (.block 9 (.seq (.reg false (some [3,5,9,10,11,13,14,16,50,51,52,61,62,63]) (R91 26)) (.seq (.seq (.reg false (some [3,5,9,10,11,13,14,16,50,51,52,61,62,63,78]) (R91 27)) (.cond (.tmp 78) (.exit 9) .nop)) (.seq (.reg false (some [3,5,9,10,11,13,14,16,50,51,52,61,62,63,80]) (R91 28)) (.cond (.tmp 80) (.reg false (some [3,5,9,10,11,13,14,50,51,52,61,62,63]) (R91 29)) (.reg false (some [3,5,9,10,11,13,14,50,51,52,61,62,63]) (R91 30))))))) (.reg false (some [3,5,9,10,11,13,14,50,51,52,61,62,63]) (R91 31)))))
def c91l3:SC:=
 (.seq (.reg false (some [3,5,9,10,11,50,51,52,53]) (R91 20)) (.seq (.cond (.tmp 53) .nop (.exit 6)) (.seq (.block 7 (.seq (.reg false (some [3,5,9,10,11,12,13,50,51,52]) (R91 21)) (.seq (.seq (.reg false (some [3,5,9,10,11,13,50,51,52,58]) (R91 22)) (.cond (.tmp 58) (.exit 7) .nop)) (.seq (.reg false (some [3,5,9,10,11,13,14,50,51,52]) (R91 23)) (.seq (.seq (.reg false (some [3,5,9,10,11,13,14,50,51,52,61,62,63]) (R91 24)) (.block 8 (.loop c91l2))) (.seq (.reg false (some [3,5,9,10,11,13,14,50,51,52]) (R91 32)) (.reg false (some [3,5,9,10,11,50,51,52]) (R91 33)))))))) (.reg false (some [3,5,9,10,11,50,51,52]) (R91 34)))))
def c91l4:SC:=
 (.seq (.seq (.reg false (some [3,5,9,10,49]) (R91 17)) (.cond (.tmp 49) .nop (.exit 4))) (.block 5 (.seq (.reg false (some [3,5,9,10,11]) (R91 18)) (.seq (.reg false (some [3,5,9,10,11,50,51,52]) (R91 19)) (.block 6 (.loop c91l3))))))
def c91:SC:=
 (.seq (.reg false (some [0]) (R91 0)) (.seq (.reg false (some [0,3]) (R91 1)) (.seq (.reg false (some [0,3,4]) (R91 2)) (.seq (.reg false (some [0,3,4,5]) (R91 3)) (.seq (.seq (.reg false (some [0,3,4,5,26,27]) (R91 4)) (.block 0 (.loop Df))) (.seq (.seq (.reg false (some [0,3,4,5,34,35,36]) (R91 9)) (.block 2 (.loop Dg))) (.seq (.reg false (some [3,4,5,9]) (R91 14)) (.seq (.reg false (some [3,5,9,10]) (R91 15)) (.seq (.seq (.reg false (some [3,5,9,10,11]) (R91 16)) (.block 4 (.loop c91l4))) (.seq (.reg false (some [2]) (R91 35)) .ret))))))))))
theorem s91:Try.f91.body.bind (bh Try.prog An 91 Try.f91.ntmps)=some c91:=by kernel_rfl
theorem g91:An.glob 91=[21,4,24,5]:=rfl
theorem r91:Try.f91.results.toList=[(.tmp 2)]:=by kernel_rfl
theorem t91r0 (h:Q .normal ⟨tk L [0] [],m⟩):Rg F 91 [0] (R91 0) L m Q:=Tq h
theorem t91r1 (h:Obt (aB An F 91 (some 18) 112 [(ac L 0)] m) λa0=>Q .normal ⟨tk L [0] [(3,a0.1)],a0.2⟩):Rg F 91 [0,3] (R91 1) L m Q:=Tq h
theorem t91r2 (h:Obt (lenS (ac L 3)) λa0=>Obt (mmX true 336 a0 m) λa1=>Obt (stX 1 (ir a1.2 [.mnil]) (eP a1.2) a1.1) λa2=>Q .normal ⟨tk L [0,3] [(4,(eP a1.2))],a2⟩):Rg F 91 [0,3,4] (R91 2) L m Q:=Tq h
theorem t91r3 (h:Obt (lenS (ac L 0)) λa0=>Obt (mkX true 384 1 8 [.int .i64 0] a0 a0 m) λa1=>Obt (stX 1 (ir a1.2 [.nil]) (eP a1.2) a1.1) λa2=>Q .normal ⟨tk L [0,3,4] [(5,(eP a1.2))],a2⟩):Rg F 91 [0,3,4,5] (R91 3) L m Q:=Tq h
theorem t91r4 (h:Obt (ld1 m (ac L 5)) λa0=>Obt (lenS a0) λa1=>Q .normal ⟨tk L [0,3,4,5] [(26,a1),(27,(.int .i64 0))],m⟩):Rg F 91 [0,3,4,5,26,27] (R91 4) L m Q:=Tq h
theorem t91r5 (h:Obt (aw Try.prog .lss 3 (.tmp 27) (.tmp 26) (ac L 27) (ac L 26)) λa0=>Q .normal ⟨tk L [0,3,4,5,26,27] [(28,a0)],m⟩):Rg F 91 [0,3,4,5,26,27,28] (R91 5) L m Q:=Tq h
theorem t91r6 (h:Q .normal ⟨tk L [0,3,4,5] ((6,(ac L 27))::tk L [26,27] []),m⟩):Rg F 91 [0,3,4,5,6,26,27] (R91 6) L m Q:=Tq h
theorem t91r7 (h:Obt (ld1 m (ac L 5)) λa0=>Obt (bd 1 a0 (ac L 6)) λa1=>Obt (stX 1 m a1 (.int .i64 (-1))) λa2=>Q .normal ⟨tk L [0,3,4,5,26,27] [],a2⟩):Rg F 91 [0,3,4,5,26,27] (R91 7) L m Q:=Tq h
theorem t91r8 (h:Obt (aw Try.prog .add 3 (.tmp 27) (.const (.int .i64 1)) (ac L 27) (.int .i64 1)) λa0=>Q .normal ⟨tk L [0,3,4,5,26] [(27,a0)],m⟩):Rg F 91 [0,3,4,5,26,27] (R91 8) L m Q:=Tq h
theorem t91r9 (h:Obt (lenS (ac L 3)) λa0=>Q .normal ⟨tk L [0,3,4,5] [(34,(ac L 3)),(35,a0),(36,(.int .i64 0))],m⟩):Rg F 91 [0,3,4,5,34,35,36] (R91 9) L m Q:=Tq h
theorem FI (h:Obt (aw Try.prog .lss 3 (.tmp 36) (.tmp 35) (ac L 36) (ac L 35)) λa0=>Q .normal ⟨tk L [0,3,4,5,34,35,36] [(37,a0)],m⟩):Rg F 91 [0,3,4,5,34,35,36,37] (R91 10) L m Q:=Tq h
theorem t91r11 (h:Obt (bd 1 (ac L 34) (ac L 36)) λa0=>Obt (ld1 m a0) λa1=>Q .normal ⟨tk L [0,3,4,5] ((7,(ac L 36))::(8,a1)::tk L [34,35,36] []),m⟩):Rg F 91 [0,3,4,5,7,8,34,35,36] (R91 11) L m Q:=Tq h
theorem t91r12 (h:Obt (ld1 m (ac L 4)) λa0=>Obt (mB Try.prog 3 a0 (ac L 8) (ac L 7) m) λa1=>Q .normal ⟨tk L [0,3,4,5,34,35,36] [],a1⟩):Rg F 91 [0,3,4,5,34,35,36] (R91 12) L m Q:=Tq h
theorem t91r13 (h:Obt (aw Try.prog .add 3 (.tmp 36) (.const (.int .i64 1)) (ac L 36) (.int .i64 1)) λa0=>Q .normal ⟨tk L [0,3,4,5,34,35] [(36,a0)],m⟩):Rg F 91 [0,3,4,5,34,35,36] (R91 13) L m Q:=Tq h
theorem t91r14 (h:Obt (aB An F 91 (some 47) 119 [(ac L 0),(ac L 3)] m) λa0=>Q .normal ⟨tk L [3,4,5] [(9,a0.1)],a0.2⟩):Rg F 91 [3,4,5,9] (R91 14) L m Q:=Tq h
theorem t91r15 (h:Q .normal ⟨tk L [3,5,9] [(10,(.func (.func 120) [] [(ac L 4),(ac L 5)]))],m⟩):Rg F 91 [3,5,9,10] (R91 15) L m Q:=Tq h
theorem t91r16 (h:Q .normal ⟨tk L [3,5,9,10] [(11,(.bool true))],m⟩):Rg F 91 [3,5,9,10,11] (R91 16) L m Q:=Tq h
theorem FJ (h:Q .normal ⟨tk L [3,5,9,10] [(49,(ac L 11))],m⟩):Rg F 91 [3,5,9,10,49] (R91 17) L m Q:=Tq h
theorem t91r18 (h:Q .normal ⟨tk L [3,5,9,10] [(11,(.bool false))],m⟩):Rg F 91 [3,5,9,10,11] (R91 18) L m Q:=Tq h
theorem t91r19 (h:Obt (lenS (ac L 3)) λa0=>Q .normal ⟨tk L [3,5,9,10,11] [(50,(ac L 3)),(51,a0),(52,(.int .i64 0))],m⟩):Rg F 91 [3,5,9,10,11,50,51,52] (R91 19) L m Q:=Tq h
theorem uH (h:Obt (aw Try.prog .lss 3 (.tmp 52) (.tmp 51) (ac L 52) (ac L 51)) λa0=>Q .normal ⟨tk L [3,5,9,10,11,50,51,52] [(53,a0)],m⟩):Rg F 91 [3,5,9,10,11,50,51,52,53] (R91 20) L m Q:=Tq h
theorem FK (h:Obt (bd 1 (ac L 50) (ac L 52)) λa0=>Obt (ld1 m a0) λa1=>Q .normal ⟨tk L [3,5,9,10,11] ((12,(ac L 52))::(13,a1)::tk L [50,51,52] []),m⟩):Rg F 91 [3,5,9,10,11,12,13,50,51,52] (R91 21) L m Q:=Tq h
theorem FL (h:Obt (aw Try.prog .eql 3 (.tmp 57) (.const (.int .i64 0)) (ac L 12) (.int .i64 0)) λa0=>Q .normal ⟨tk L [3,5,9,10,11,13,50,51,52] [(58,a0)],m⟩):Rg F 91 [3,5,9,10,11,13,50,51,52,58] (R91 22) L m Q:=Tq h
theorem t91r23 (h:Q .normal ⟨tk L [3,5,9,10,11,13] ((14,(.int .i64 (-1)))::tk L [50,51,52] []),m⟩):Rg F 91 [3,5,9,10,11,13,14,50,51,52] (R91 23) L m Q:=Tq h
theorem t91r24 (h:Obt (gK Try.prog 3 (.nil) (ac L 9) (ac L 13) false m) λa0=>Obt (lenS a0) λa1=>Q .normal ⟨tk L [3,5,9,10,11,13,14,50,51,52] [(61,a0),(62,a1),(63,(.int .i64 0))],m⟩):Rg F 91 [3,5,9,10,11,13,14,50,51,52,61,62,63] (R91 24) L m Q:=Tq h
theorem uI (h:Obt (aw Try.prog .lss 3 (.tmp 63) (.tmp 62) (ac L 63) (ac L 62)) λa0=>Q .normal ⟨tk L [3,5,9,10,11,13,14,50,51,52,61,62,63] [(64,a0)],m⟩):Rg F 91 [3,5,9,10,11,13,14,50,51,52,61,62,63,64] (R91 25) L m Q:=Tq h
theorem t91r26 (h:Obt (bd 1 (ac L 61) (ac L 63)) λa0=>Obt (ld1 m a0) λa1=>Q .normal ⟨tk L [3,5,9,10,11,13,14] ((16,a1)::tk L [50,51,52,61,62,63] []),m⟩):Rg F 91 [3,5,9,10,11,13,14,16,50,51,52,61,62,63] (R91 26) L m Q:=Tq h
theorem t91r27 (h:Obt (bd 1 (ac L 3) (.int .i64 0)) λa0=>Obt (ld1 m a0) λa1=>Obt (aw Try.prog .neq 3 (.tmp 67) (.tmp 70) (ac L 16) a1) λa2=>Obt (gV a2 true (ld1 m (ac L 5)) m) λa3=>Obt (gW a2 true (ac L 16) a3.2) λa4=>Obt (gV a2 true (bd 1 a3.1 a4.1) a4.2) λa5=>Obt (gV a2 true (ld1 a5.2 a5.1) a5.2) λa6=>Obt (gV a2 true (aw Try.prog .lss 3 (.tmp 76) (.const (.int .i64 0)) a6.1 (.int .i64 0)) a6.2) λa7=>Obt (aT a2 a7.1 (.bool false)) λa8=>Q .normal ⟨tk L [3,5,9,10,11,13,14,16,50,51,52,61,62,63] [(78,a8)],a7.2⟩):Rg F 91 [3,5,9,10,11,13,14,16,50,51,52,61,62,63,78] (R91 27) L m Q:=Tq h
theorem t91r28 (h:Obt (aw Try.prog .lss 3 (.tmp 79) (.const (.int .i64 0)) (ac L 14) (.int .i64 0)) λa0=>Q .normal ⟨tk L [3,5,9,10,11,13,14,16,50,51,52,61,62,63] [(80,a0)],m⟩):Rg F 91 [3,5,9,10,11,13,14,16,50,51,52,61,62,63,80] (R91 28) L m Q:=Tq h
theorem t91r29 (h:Q .normal ⟨tk L [3,5,9,10,11,13] ((14,(ac L 16))::tk L [50,51,52,61,62,63] []),m⟩):Rg F 91 [3,5,9,10,11,13,14,50,51,52,61,62,63] (R91 29) L m Q:=Tq h
theorem t91r30 (h:Obt (dx An F 91 (some 85) (ac L 10) [(ac L 14),(ac L 16)] m) λa0=>Q .normal ⟨tk L [3,5,9,10,11,13] ((14,a0.1)::tk L [50,51,52,61,62,63] []),a0.2⟩):Rg F 91 [3,5,9,10,11,13,14,50,51,52,61,62,63] (R91 30) L m Q:=Tq h
theorem uJ (h:Obt (aw Try.prog .add 3 (.tmp 63) (.const (.int .i64 1)) (ac L 63) (.int .i64 1)) λa0=>Q .normal ⟨tk L [3,5,9,10,11,13,14,50,51,52,61,62] [(63,a0)],m⟩):Rg F 91 [3,5,9,10,11,13,14,50,51,52,61,62,63] (R91 31) L m Q:=Tq h
theorem FM (h:Obt (gW (ac L 11) false (ac L 14) m) λa0=>Obt (gV (ac L 11) false (ld1 a0.2 (ac L 5)) a0.2) λa1=>Obt (gW (ac L 11) false (ac L 13) a1.2) λa2=>Obt (gV (ac L 11) false (bd 1 a1.1 a2.1) a2.2) λa3=>Obt (gV (ac L 11) false (ld1 a3.2 a3.1) a3.2) λa4=>Obt (gV (ac L 11) false (aw Try.prog .neq 3 (.tmp 89) (.tmp 93) a0.1 a4.1) a4.2) λa5=>Obt (aT (ac L 11) (.bool true) a5.1) λa6=>Q .normal ⟨tk L [3,5,9,10] ((11,a6)::tk L [13,14,50,51,52] []),a5.2⟩):Rg F 91 [3,5,9,10,11,13,14,50,51,52] (R91 32) L m Q:=Tq h
theorem FN (h:Obt (ld1 m (ac L 5)) λa0=>Obt (bd 1 a0 (ac L 13)) λa1=>Obt (stX 1 m a1 (ac L 14)) λa2=>Q .normal ⟨tk L [3,5,9,10,11,50,51,52] [],a2⟩):Rg F 91 [3,5,9,10,11,50,51,52] (R91 33) L m Q:=Tq h
theorem uK (h:Obt (aw Try.prog .add 3 (.tmp 52) (.const (.int .i64 1)) (ac L 52) (.int .i64 1)) λa0=>Q .normal ⟨tk L [3,5,9,10,11,50,51] [(52,a0)],m⟩):Rg F 91 [3,5,9,10,11,50,51,52] (R91 34) L m Q:=Tq h
theorem t91r35 (h:Obt (ld1 m (ac L 5)) λa0=>Q .normal ⟨[(2,a0)],m⟩):Rg F 91 [2] (R91 35) L m Q:=Tq h
end
end Go.Cm
