import Derived.Test.YtijcpefcfcbcnaaIyA
set_option linter.unusedSimpArgs false
set_option linter.unusedVariables false
namespace Go.Cm
open Go.Proofs
variable {F:aW}{L:List (Nat×CV)}{m:Mem}{Q:CE→TS→Prop}
noncomputable section
def zU:=rg 135 Try.f135 0
def zV:=rg 135 Try.f135 1
def zW:=rg 135 Try.f135 2
def zX:=rg 135 Try.f135 3
def zY:=rg 135 Try.f135 4
def zZ:=rg 135 Try.f135 5
def z1:=rg 135 Try.f135 6
def z2:=rg 135 Try.f135 7
def tE:SC:=
 (.seq (.reg false (some [0,5,11,12,13,14]) zX) (.seq (.cond (.tmp 14) .nop (.exit 0)) (.seq (.block 1 (.seq (.reg false (some [0,5,7,11,12,13]) zY) (.seq (.reg false (some [0,5,7,11,12,13,24]) zZ) (.cond (.tmp 24) (.reg false (some [0,5,11,12,13]) z1) .nop)))) (.reg false (some [0,5,11,12,13]) z2))))
def z3:=rg 135 Try.f135 8
def c135:SC:=
 (.seq (.reg false (some [0,1]) zU) (.seq (.reg false (some [0,1,5]) zV) (.seq (.seq (.reg false (some [0,5,11,12,13]) zW) (.block 0 (.loop tE))) (.seq (.reg false (some [4]) z3) .ret))))
theorem s135:Try.f135.body.bind (bh Try.prog An 135 Try.f135.ntmps)=some c135:=by kernel_rfl
theorem g135:An.glob 135=[]:=rfl
theorem r135:Try.f135.results.toList=[(.tmp 4)]:=by kernel_rfl
theorem t135r0 (h:Q .normal ⟨[(0,(ac L 0)),(1,(ac L 1))],m⟩):Rg F 135 [0,1] zU L m Q:=ae (by kernel_rfl) h
theorem t135r1 (h:Q .normal ⟨[(0,(ac L 0)),(1,(ac L 1)),(5,.nil)],m⟩):Rg F 135 [0,1,5] zV L m Q:=ae (by kernel_rfl) h
theorem t135r2 (h:Obt (bd 1 (ac L 0) (ac L 1)) fun a0=>Obt (ld1 m a0) fun a1=>Obt (lenS a1) fun a2=>Q .normal ⟨[(0,(ac L 0)),(5,(ac L 5)),(11,a1),(12,a2),(13,(.int .i64 0))],m⟩):Rg F 135 [0,5,11,12,13] zW L m Q:=ae (by kernel_rfl) h
theorem EL (h:Obt (aw Try.prog .lss 3 (.tmp 13) (.tmp 12) (ac L 13) (ac L 12)) fun a0=>Q .normal ⟨[(0,(ac L 0)),(5,(ac L 5)),(11,(ac L 11)),(12,(ac L 12)),(13,(ac L 13)),(14,a0)],m⟩):Rg F 135 [0,5,11,12,13,14] zX L m Q:=ae (by kernel_rfl) h
theorem t135r4 (h:Obt (bd 1 (ac L 11) (ac L 13)) fun a0=>Obt (ld1 m a0) fun a1=>Q .normal ⟨[(0,(ac L 0)),(5,(ac L 5)),(7,a1),(11,(ac L 11)),(12,(ac L 12)),(13,(ac L 13))],m⟩):Rg F 135 [0,5,7,11,12,13] zY L m Q:=ae (by kernel_rfl) h
theorem t135r5 (h:Obt (aw Try.prog .geq 3 (.tmp 17) (.const (.int .i64 0)) (ac L 7) (.int .i64 0)) fun a0=>Obt (gdO a0 true (some ((ac L 7),m)) (.tuple [],m)) fun a1=>Obt (gdO a0 true (some ((ac L 0),a1.2)) (.tuple [],a1.2)) fun a2=>Obt (gdO a0 true ((lenS a2.1).map fun v=>(v,a2.2)) (.tuple [],a2.2)) fun a3=>Obt (gdO a0 true ((aw Try.prog .lss 3 (.tmp 20) (.tmp 22) a1.1 a3.1).map fun v=>(v,a3.2)) (.tuple [],a3.2)) fun a4=>Obt (aT a0 a4.1 (.bool false)) fun a5=>Q .normal ⟨[(0,(ac L 0)),(5,(ac L 5)),(7,(ac L 7)),(11,(ac L 11)),(12,(ac L 12)),(13,(ac L 13)),(24,a5)],a4.2⟩):Rg F 135 [0,5,7,11,12,13,24] zZ L m Q:=ae (by kernel_rfl) h
theorem t135r6 (h:Obt (cd false 432 1 1 [.int .i64 0] [(0,1,(ac L 7))] m) fun a0=>Obt (ej false 448 1 8 (ac L 5) a0.1 a0.2) fun a1=>Q .normal ⟨[(0,(ac L 0)),(5,a1.1),(11,(ac L 11)),(12,(ac L 12)),(13,(ac L 13))],a1.2⟩):Rg F 135 [0,5,11,12,13] z1 L m Q:=ae (by kernel_rfl) h
theorem EM (h:Obt (aw Try.prog .add 3 (.tmp 13) (.const (.int .i64 1)) (ac L 13) (.int .i64 1)) fun a0=>Q .normal ⟨[(0,(ac L 0)),(5,(ac L 5)),(11,(ac L 11)),(12,(ac L 12)),(13,a0)],m⟩):Rg F 135 [0,5,11,12,13] z2 L m Q:=ae (by kernel_rfl) h
theorem t135r8 (h:Q .normal ⟨[(4,(ac L 5))],m⟩):Rg F 135 [4] z3 L m Q:=ae (by kernel_rfl) h
def zM:=rg 134 Try.f134 0
def zN:=rg 134 Try.f134 1
def zO:=rg 134 Try.f134 2
def zP:=rg 134 Try.f134 3
def zQ:=rg 134 Try.f134 4
def zR:=rg 134 Try.f134 5
def zS:=rg 134 Try.f134 6
def tD:SC:=
 (.seq (.reg false (some [0,3,4,15,16,17,18]) zP) (.seq (.cond (.tmp 18) .nop (.exit 0)) (.seq (.block 1 (.seq (.reg false (some [0,3,4,7,15,16,17]) zQ) (.reg false (some [0,3,4,15,16,17]) zR))) (.reg false (some [0,3,4,15,16,17]) zS))))
def zT:=rg 134 Try.f134 7
def c134:SC:=
 (.seq (.seq (.reg false (some [0,1,2,3,4,10]) zM) (.cond (.tmp 10) .ret .nop)) (.seq (.reg false (some [0,2,3,4]) zN) (.seq (.seq (.reg false (some [0,3,4,15,16,17]) zO) (.block 0 (.loop tD))) (.reg false (some []) zT))))
theorem s134:Try.f134.body.bind (bh Try.prog An 134 Try.f134.ntmps)=some c134:=by kernel_rfl
theorem g134:An.glob 134=[28]:=rfl
theorem r134:Try.f134.results.toList=[]:=by kernel_rfl
theorem EJ (h:Obt (ld1 m (ac L 1)) fun a0=>Obt (gK Try.prog 3 (.bool false) a0 (ac L 0) false m) fun a1=>Q .normal ⟨[(0,(ac L 0)),(1,(ac L 1)),(2,(ac L 2)),(3,(ac L 3)),(4,(ac L 4)),(10,a1)],m⟩):Rg F 134 [0,1,2,3,4,10] zM L m Q:=ae (by kernel_rfl) h
theorem t134r1 (h:Obt (ld1 m (ac L 1)) fun a0=>Obt (mB Try.prog 3 a0 (ac L 0) (.bool true) m) fun a1=>Q .normal ⟨[(0,(ac L 0)),(2,(ac L 2)),(3,(ac L 3)),(4,(ac L 4))],a1⟩):Rg F 134 [0,2,3,4] zN L m Q:=ae (by kernel_rfl) h
theorem t134r2 (h:Obt (ld1 m (ac L 2)) fun a0=>Obt (aB An F 134 (some 15) 135 [a0,(ac L 0)] m) fun a1=>Obt (lenS a1.1) fun a2=>Q .normal ⟨[(0,(ac L 0)),(3,(ac L 3)),(4,(ac L 4)),(15,a1.1),(16,a2),(17,(.int .i64 0))],a1.2⟩):Rg F 134 [0,3,4,15,16,17] zO L m Q:=ae (by kernel_rfl) h
theorem EK (h:Obt (aw Try.prog .lss 3 (.tmp 17) (.tmp 16) (ac L 17) (ac L 16)) fun a0=>Q .normal ⟨[(0,(ac L 0)),(3,(ac L 3)),(4,(ac L 4)),(15,(ac L 15)),(16,(ac L 16)),(17,(ac L 17)),(18,a0)],m⟩):Rg F 134 [0,3,4,15,16,17,18] zP L m Q:=ae (by kernel_rfl) h
theorem t134r4 (h:Obt (bd 1 (ac L 15) (ac L 17)) fun a0=>Obt (ld1 m a0) fun a1=>Q .normal ⟨[(0,(ac L 0)),(3,(ac L 3)),(4,(ac L 4)),(7,a1),(15,(ac L 15)),(16,(ac L 16)),(17,(ac L 17))],m⟩):Rg F 134 [0,3,4,7,15,16,17] zQ L m Q:=ae (by kernel_rfl) h
theorem t134r5 (h:Obt (ld1 m (ac L 3)) fun a0=>Obt (dx An F 134 (some 23) a0 [(ac L 7)] m) fun a1=>Q .normal ⟨[(0,(ac L 0)),(3,(ac L 3)),(4,(ac L 4)),(15,(ac L 15)),(16,(ac L 16)),(17,(ac L 17))],a1.2⟩):Rg F 134 [0,3,4,15,16,17] zR L m Q:=ae (by kernel_rfl) h
theorem t134r6 (h:Obt (aw Try.prog .add 3 (.tmp 17) (.const (.int .i64 1)) (ac L 17) (.int .i64 1)) fun a0=>Q .normal ⟨[(0,(ac L 0)),(3,(ac L 3)),(4,(ac L 4)),(15,(ac L 15)),(16,(ac L 16)),(17,a0)],m⟩):Rg F 134 [0,3,4,15,16,17] zS L m Q:=ae (by kernel_rfl) h
theorem t134r7 (h:Obt (ld1 m (ac L 4)) fun a0=>Obt (cd false 432 1 1 [.int .i64 0] [(0,1,(ac L 0))] m) fun a1=>Obt (ej true 448 1 8 a0 a1.1 a1.2) fun a2=>Obt (stX 1 a2.2 (ac L 4) a2.1) fun a3=>Q .normal ⟨[],a3⟩):Rg F 134 [] zT L m Q:=ae (by kernel_rfl) h
def z4:=rg 136 Try.f136 0
def z5:=rg 136 Try.f136 1
def z7:=rg 136 Try.f136 3
def z6:=rg 136 Try.f136 2
def tF:SC:=
 (.seq (.seq (.reg false (some [0,2,3,9]) z5) (.cond (.tmp 9) .nop (.exit 0))) (.seq (.block 1 (.reg true (some [0,2,3]) z7)) (.reg false (some [0,2,3]) z6)))
def c136:SC:=
 (.seq (.reg false (some [0,2,3]) z4) (.block 0 (.loop tF)))
theorem s136:Try.f136.body.bind (bh Try.prog An 136 Try.f136.ntmps)=some c136:=by kernel_rfl
theorem g136:An.glob 136=[]:=rfl
theorem r136:Try.f136.results.toList=[]:=by kernel_rfl
theorem t136r0 (h:Obt (lenS (ac L 0)) fun a0=>Obt (aw Try.prog .sub 3 (.tmp 5) (.const (.int .i64 1)) a0 (.int .i64 1)) fun a1=>Q .normal ⟨[(0,(ac L 0)),(2,(.int .i64 0)),(3,a1)],m⟩):Rg F 136 [0,2,3] z4 L m Q:=ae (by kernel_rfl) h
theorem EN (h:Obt (aw Try.prog .lss 3 (.tmp 7) (.tmp 8) (ac L 2) (ac L 3)) fun a0=>Q .normal ⟨[(0,(ac L 0)),(2,(ac L 2)),(3,(ac L 3)),(9,a0)],m⟩):Rg F 136 [0,2,3,9] z5 L m Q:=ae (by kernel_rfl) h
theorem t136r3 (h:Obt (bd 1 (ac L 0) (ac L 3)) fun a0=>Obt (ld1 m a0) fun a1=>Obt (bd 1 (ac L 0) (ac L 2)) fun a2=>Obt (ld1 m a2) fun a3=>Obt (bd 1 (ac L 0) (ac L 2)) fun a4=>Obt (stX 1 m a4 a1) fun a5=>Obt (bd 1 (ac L 0) (ac L 3)) fun a6=>Obt (stX 1 a5 a6 a3) fun a7=>Q .normal ⟨[(0,(ac L 0)),(2,(ac L 2)),(3,(ac L 3))],a7⟩):Rt F 136 [0,2,3] z7 L m Q:=ae (by kernel_rfl) h
theorem t136r2 (h:Obt (aw Try.prog .add 3 (.tmp 10) (.const (.int .i64 1)) (ac L 2) (.int .i64 1)) fun a0=>Obt (aw Try.prog .sub 3 (.tmp 12) (.const (.int .i64 1)) (ac L 3) (.int .i64 1)) fun a1=>Q .normal ⟨[(0,(ac L 0)),(2,a0),(3,a1)],m⟩):Rg F 136 [0,2,3] z6 L m Q:=ae (by kernel_rfl) h
def yQ:=rg 112 Try.f112 0
def yR:=rg 112 Try.f112 1
def yS:=rg 112 Try.f112 2
def yT:=rg 112 Try.f112 3
def yU:=rg 112 Try.f112 4
def yV:=rg 112 Try.f112 5
def yW:=rg 112 Try.f112 6
def yX:=rg 112 Try.f112 7
def yY:=rg 112 Try.f112 8
def yZ:=rg 112 Try.f112 9
def c112:SC:=
 (.seq (.reg false (some [1]) yQ) (.seq (.seq (.reg false (some [1,8]) yR) (.cond (.tmp 8) (.seq (.reg false (some [2]) yS) .ret) .nop)) (.seq (.reg false (some [1,3]) yT) (.seq (.reg false (some [1,3,4]) yU) (.seq (.reg false (some [1,3,4,5]) yV) (.seq (.reg false (some [4,5]) yW) (.seq (.reg false (some [4]) yX) (.seq (.reg false (some [4]) yY) (.seq (.reg false (some [2]) yZ) .ret)))))))))
theorem s112:Try.f112.body.bind (bh Try.prog An 112 Try.f112.ntmps)=some c112:=by kernel_rfl
theorem g112:An.glob 112=[1,9,3,4,5]:=rfl
theorem r112:Try.f112.results.toList=[(.tmp 2)]:=by kernel_rfl
theorem Ex (h:Obt (iB (ac L 0) m) fun a0=>Q .normal ⟨[(1,a0.1)],a0.2⟩):Rg F 112 [1] yQ L m Q:=ae (by kernel_rfl) h
theorem Ey (h:Obt (ld1 m (ac L 1)) fun a0=>Obt (lenS a0) fun a1=>Obt (aw Try.prog .eql 3 (.tmp 7) (.const (.int .i64 0)) a1 (.int .i64 0)) fun a2=>Q .normal ⟨[(1,(ac L 1)),(8,a2)],m⟩):Rg F 112 [1,8] yR L m Q:=ae (by kernel_rfl) h
theorem t112r2 (h:Q .normal ⟨[(2,.nil)],m⟩):Rg F 112 [2] yS L m Q:=ae (by kernel_rfl) h
theorem t112r3 (h:Obt (stX 1 (ir (jJ m) [.mnil]) (eP (jJ m)) (md m)) fun a0=>Q .normal ⟨[(1,(ac L 1)),(3,(eP (jJ m)))],a0⟩):Rg F 112 [1,3] yT L m Q:=ae (by kernel_rfl) h
theorem t112r4 (h:Q .normal ⟨[(1,(ac L 1)),(3,(ac L 3)),(4,(eP m))],(ir m [.nil])⟩):Rg F 112 [1,3,4] yU L m Q:=ae (by kernel_rfl) h
theorem t112r5 (h:Q .normal ⟨[(1,(ac L 1)),(3,(ac L 3)),(4,(ac L 4)),(5,(eP m))],(ir m [.nilf])⟩):Rg F 112 [1,3,4,5] yV L m Q:=ae (by kernel_rfl) h
theorem t112r6 (h:Obt (stX 1 m (ac L 5) (.func (.func 134) [] [(ac L 3),(ac L 1),(ac L 5),(ac L 4)])) fun a0=>Q .normal ⟨[(4,(ac L 4)),(5,(ac L 5))],a0⟩):Rg F 112 [4,5] yW L m Q:=ae (by kernel_rfl) h
theorem t112r7 (h:Obt (ld1 m (ac L 5)) fun a0=>Obt (dx An F 112 (some 12) a0 [(.int .i64 0)] m) fun a1=>Q .normal ⟨[(4,(ac L 4))],a1.2⟩):Rg F 112 [4] yX L m Q:=ae (by kernel_rfl) h
theorem t112r8 (h:Obt (ld1 m (ac L 4)) fun a0=>Obt (aB An F 112 (some 14) 136 [a0] m) fun a1=>Q .normal ⟨[(4,(ac L 4))],a1.2⟩):Rg F 112 [4] yY L m Q:=ae (by kernel_rfl) h
theorem t112r9 (h:Obt (ld1 m (ac L 4)) fun a0=>Q .normal ⟨[(2,a0)],m⟩):Rg F 112 [2] yZ L m Q:=ae (by kernel_rfl) h
def c84r0:=rg 84 Try.f84 0
def c84r1:=rg 84 Try.f84 1
def c84r2:=rg 84 Try.f84 2
def c84r3:=rg 84 Try.f84 3
def c84r4:=rg 84 Try.f84 4
def c84r5:=rg 84 Try.f84 5
def c84r6:=rg 84 Try.f84 6
def CZ:SC:=
 (.seq (.reg false (some [3,10,11,12,13]) c84r3) (.seq (.cond (.tmp 13) .nop (.exit 0)) (.seq (.block 1 (.seq (.reg false (some [3,5,10,11,12]) c84r4) (.reg false (some [3,10,11,12]) c84r5))) (.reg false (some [3,10,11,12]) c84r6))))
def c84r7:=rg 84 Try.f84 7
def c84:SC:=
 (.seq (.reg false (some [0]) c84r0) (.seq (.reg false (some [0,3]) c84r1) (.seq (.seq (.reg false (some [3,10,11,12]) c84r2) (.block 0 (.loop CZ))) (.seq (.reg false (some [2]) c84r7) .ret))))
theorem s84:Try.f84.body.bind (bh Try.prog An 84 Try.f84.ntmps)=some c84:=by kernel_rfl
theorem g84:An.glob 84=[]:=rfl
theorem r84:Try.f84.results.toList=[(.tmp 2)]:=by kernel_rfl
theorem t84r0 (h:Q .normal ⟨[(0,(ac L 0))],m⟩):Rg F 84 [0] c84r0 L m Q:=ae (by kernel_rfl) h
theorem t84r1 (h:Obt (lenS (ac L 0)) fun a0=>Obt (mkX false 128 1 1 [.bool false] a0 a0 m) fun a1=>Q .normal ⟨[(0,(ac L 0)),(3,a1.1)],a1.2⟩):Rg F 84 [0,3] c84r1 L m Q:=ae (by kernel_rfl) h
theorem t84r2 (h:Obt (aB An F 84 (some 10) 112 [(ac L 0)] m) fun a0=>Obt (lenS a0.1) fun a1=>Q .normal ⟨[(3,(ac L 3)),(10,a0.1),(11,a1),(12,(.int .i64 0))],a0.2⟩):Rg F 84 [3,10,11,12] c84r2 L m Q:=ae (by kernel_rfl) h
theorem t84r3 (h:Obt (aw Try.prog .lss 3 (.tmp 12) (.tmp 11) (ac L 12) (ac L 11)) fun a0=>Q .normal ⟨[(3,(ac L 3)),(10,(ac L 10)),(11,(ac L 11)),(12,(ac L 12)),(13,a0)],m⟩):Rg F 84 [3,10,11,12,13] c84r3 L m Q:=ae (by kernel_rfl) h
theorem t84r4 (h:Obt (bd 1 (ac L 10) (ac L 12)) fun a0=>Obt (ld1 m a0) fun a1=>Q .normal ⟨[(3,(ac L 3)),(5,a1),(10,(ac L 10)),(11,(ac L 11)),(12,(ac L 12))],m⟩):Rg F 84 [3,5,10,11,12] c84r4 L m Q:=ae (by kernel_rfl) h
theorem t84r5 (h:Obt (bd 1 (ac L 3) (ac L 5)) fun a0=>Obt (stX 1 m a0 (.bool true)) fun a1=>Q .normal ⟨[(3,(ac L 3)),(10,(ac L 10)),(11,(ac L 11)),(12,(ac L 12))],a1⟩):Rg F 84 [3,10,11,12] c84r5 L m Q:=ae (by kernel_rfl) h
theorem t84r6 (h:Obt (aw Try.prog .add 3 (.tmp 12) (.const (.int .i64 1)) (ac L 12) (.int .i64 1)) fun a0=>Q .normal ⟨[(3,(ac L 3)),(10,(ac L 10)),(11,(ac L 11)),(12,a0)],m⟩):Rg F 84 [3,10,11,12] c84r6 L m Q:=ae (by kernel_rfl) h
theorem t84r7 (h:Q .normal ⟨[(2,(ac L 3))],m⟩):Rg F 84 [2] c84r7 L m Q:=ae (by kernel_rfl) h
def y1:=rg 113 Try.f113 0
def y2:=rg 113 Try.f113 1
def y3:=rg 113 Try.f113 2
def y4:=rg 113 Try.f113 3
def y5:=rg 113 Try.f113 4
def y6:=rg 113 Try.f113 5
def y7:=rg 113 Try.f113 6
def tA:SC:=
 (.seq (.reg false (some [0,1,7,8,9]) y3) (.seq (.cond (.tmp 9) .nop (.exit 0)) (.seq (.block 1 (.seq (.reg false (some [0,1,5,7,8]) y4) (.seq (.reg false (some [0,1,5,7,8,16]) y5) (.cond (.tmp 16) (.seq (.reg false (some [4]) y6) .ret) .nop)))) (.reg false (some [0,1,7,8]) y7))))
def y8:=rg 113 Try.f113 7
def c113:SC:=
 (.seq (.reg false (some [0,1]) y1) (.seq (.seq (.reg false (some [0,1,7,8]) y2) (.block 0 (.loop tA))) (.seq (.reg false (some [4]) y8) .ret)))
theorem s113:Try.f113.body.bind (bh Try.prog An 113 Try.f113.ntmps)=some c113:=by kernel_rfl
theorem g113:An.glob 113=[]:=rfl
theorem r113:Try.f113.results.toList=[(.tmp 4)]:=by kernel_rfl
theorem t113r0 (h:Q .normal ⟨[(0,(ac L 0)),(1,(ac L 1))],m⟩):Rg F 113 [0,1] y1 L m Q:=ae (by kernel_rfl) h
theorem t113r1 (h:Obt (lenS (ac L 0)) fun a0=>Q .normal ⟨[(0,(ac L 0)),(1,(ac L 1)),(7,a0),(8,(.int .i64 0))],m⟩):Rg F 113 [0,1,7,8] y2 L m Q:=ae (by kernel_rfl) h
theorem Ez (h:Obt (aw Try.prog .lss 3 (.tmp 8) (.tmp 7) (ac L 8) (ac L 7)) fun a0=>Q .normal ⟨[(0,(ac L 0)),(1,(ac L 1)),(7,(ac L 7)),(8,(ac L 8)),(9,a0)],m⟩):Rg F 113 [0,1,7,8,9] y3 L m Q:=ae (by kernel_rfl) h
theorem t113r3 (h:Q .normal ⟨[(0,(ac L 0)),(1,(ac L 1)),(5,(ac L 8)),(7,(ac L 7)),(8,(ac L 8))],m⟩):Rg F 113 [0,1,5,7,8] y4 L m Q:=ae (by kernel_rfl) h
theorem t113r4 (h:Obt (bd 1 (ac L 0) (ac L 5)) fun a0=>Obt (ld1 m a0) fun a1=>Obt (aw Try.prog .eql 3 (.tmp 11) (.tmp 15) (ac L 1) a1) fun a2=>Q .normal ⟨[(0,(ac L 0)),(1,(ac L 1)),(5,(ac L 5)),(7,(ac L 7)),(8,(ac L 8)),(16,a2)],m⟩):Rg F 113 [0,1,5,7,8,16] y5 L m Q:=ae (by kernel_rfl) h
theorem t113r5 (h:Q .normal ⟨[(4,(ac L 5))],m⟩):Rg F 113 [4] y6 L m Q:=ae (by kernel_rfl) h
theorem t113r6 (h:Obt (aw Try.prog .add 3 (.tmp 8) (.const (.int .i64 1)) (ac L 8) (.int .i64 1)) fun a0=>Q .normal ⟨[(0,(ac L 0)),(1,(ac L 1)),(7,(ac L 7)),(8,a0)],m⟩):Rg F 113 [0,1,7,8] y7 L m Q:=ae (by kernel_rfl) h
theorem t113r7 (h:Q .normal ⟨[(4,(.int .i64 (-1)))],m⟩):Rg F 113 [4] y8 L m Q:=ae (by kernel_rfl) h
def c85r0:=rg 85 Try.f85 0
def c85r1:=rg 85 Try.f85 1
def c85:SC:=
 (.seq (.reg false (some [0,1]) c85r0) (.seq (.reg false (some [4]) c85r1) .ret))
theorem s85:Try.f85.body.bind (bh Try.prog An 85 Try.f85.ntmps)=some c85:=by kernel_rfl
theorem g85:An.glob 85=[]:=rfl
theorem r85:Try.f85.results.toList=[(.tmp 4)]:=by kernel_rfl
theorem t85r0 (h:Q .normal ⟨[(0,(ac L 0)),(1,(ac L 1))],m⟩):Rg F 85 [0,1] c85r0 L m Q:=ae (by kernel_rfl) h
theorem t85r1 (h:Obt (aB An F 85 (some 7) 113 [(ac L 0),(ac L 1)] m) fun a0=>Obt (aw Try.prog .geq 3 (.tmp 7) (.const (.int .i64 0)) a0.1 (.int .i64 0)) fun a1=>Q .normal ⟨[(4,a1)],a0.2⟩):Rg F 85 [4] c85r1 L m Q:=ae (by kernel_rfl) h
def zq:=rg 119 Try.f119 0
def zr:=rg 119 Try.f119 1
def zt:=rg 119 Try.f119 2
def zu:=rg 119 Try.f119 3
def zw:=rg 119 Try.f119 4
def zx:=rg 119 Try.f119 5
def zy:=rg 119 Try.f119 6
def zz:=rg 119 Try.f119 7
def zA:=rg 119 Try.f119 8
def zB:=rg 119 Try.f119 9
def vK:=rg 119 Try.f119 10
def tB:SC:=
 (.seq (.reg false (some [0,5,7,11,12,13,19,20,21,22]) zy) (.seq (.cond (.tmp 22) .nop (.exit 2)) (.seq (.block 3 (.seq (.reg false (some [0,5,7,9,11,12,13,19,20,21]) zz) (.seq (.reg false (some [0,5,7,9,11,12,13,19,20,21,30]) zA) (.cond (.tmp 30) (.reg false (some [0,5,7,11,12,13,19,20,21]) zB) .nop)))) (.reg false (some [0,5,7,11,12,13,19,20,21]) vK))))
def vL:=rg 119 Try.f119 11
def tC:SC:=
 (.seq (.reg false (some [0,5,11,12,13,14]) zu) (.seq (.cond (.tmp 14) .nop (.exit 0)) (.seq (.block 1 (.seq (.reg false (some [0,5,7,11,12,13]) zw) (.seq (.reg false (some [0,5,7,11,12,13,19,20,21]) zx) (.block 2 (.loop tB))))) (.reg false (some [0,5,11,12,13]) vL))))
def vM:=rg 119 Try.f119 12
def c119:SC:=
 (.seq (.reg false (some [0,1]) zq) (.seq (.reg false (some [0,1,5]) zr) (.seq (.seq (.reg false (some [0,5,11,12,13]) zt) (.block 0 (.loop tC))) (.seq (.reg false (some [4]) vM) .ret))))
theorem s119:Try.f119.body.bind (bh Try.prog An 119 Try.f119.ntmps)=some c119:=by kernel_rfl
theorem g119:An.glob 119=[10,38]:=rfl
theorem r119:Try.f119.results.toList=[(.tmp 4)]:=by kernel_rfl
theorem t119r0 (h:Q .normal ⟨[(0,(ac L 0)),(1,(ac L 1))],m⟩):Rg F 119 [0,1] zq L m Q:=ae (by kernel_rfl) h
theorem t119r1 (h:Q .normal ⟨[(0,(ac L 0)),(1,(ac L 1)),(5,(md m))],(jJ m)⟩):Rg F 119 [0,1,5] zr L m Q:=ae (by kernel_rfl) h
theorem t119r2 (h:Obt (lenS (ac L 1)) fun a0=>Q .normal ⟨[(0,(ac L 0)),(5,(ac L 5)),(11,(ac L 1)),(12,a0),(13,(.int .i64 0))],m⟩):Rg F 119 [0,5,11,12,13] zt L m Q:=ae (by kernel_rfl) h
theorem EC (h:Obt (aw Try.prog .lss 3 (.tmp 13) (.tmp 12) (ac L 13) (ac L 12)) fun a0=>Q .normal ⟨[(0,(ac L 0)),(5,(ac L 5)),(11,(ac L 11)),(12,(ac L 12)),(13,(ac L 13)),(14,a0)],m⟩):Rg F 119 [0,5,11,12,13,14] zu L m Q:=ae (by kernel_rfl) h
theorem t119r4 (h:Obt (bd 1 (ac L 11) (ac L 13)) fun a0=>Obt (ld1 m a0) fun a1=>Q .normal ⟨[(0,(ac L 0)),(5,(ac L 5)),(7,a1),(11,(ac L 11)),(12,(ac L 12)),(13,(ac L 13))],m⟩):Rg F 119 [0,5,7,11,12,13] zw L m Q:=ae (by kernel_rfl) h
theorem t119r5 (h:Obt (aB An F 119 (some 19) 135 [(ac L 0),(ac L 7)] m) fun a0=>Obt (lenS a0.1) fun a1=>Q .normal ⟨[(0,(ac L 0)),(5,(ac L 5)),(7,(ac L 7)),(11,(ac L 11)),(12,(ac L 12)),(13,(ac L 13)),(19,a0.1),(20,a1),(21,(.int .i64 0))],a0.2⟩):Rg F 119 [0,5,7,11,12,13,19,20,21] zx L m Q:=ae (by kernel_rfl) h
theorem uq (h:Obt (aw Try.prog .lss 3 (.tmp 21) (.tmp 20) (ac L 21) (ac L 20)) fun a0=>Q .normal ⟨[(0,(ac L 0)),(5,(ac L 5)),(7,(ac L 7)),(11,(ac L 11)),(12,(ac L 12)),(13,(ac L 13)),(19,(ac L 19)),(20,(ac L 20)),(21,(ac L 21)),(22,a0)],m⟩):Rg F 119 [0,5,7,11,12,13,19,20,21,22] zy L m Q:=ae (by kernel_rfl) h
theorem ED (h:Obt (bd 1 (ac L 19) (ac L 21)) fun a0=>Obt (ld1 m a0) fun a1=>Q .normal ⟨[(0,(ac L 0)),(5,(ac L 5)),(7,(ac L 7)),(9,a1),(11,(ac L 11)),(12,(ac L 12)),(13,(ac L 13)),(19,(ac L 19)),(20,(ac L 20)),(21,(ac L 21))],m⟩):Rg F 119 [0,5,7,9,11,12,13,19,20,21] zz L m Q:=ae (by kernel_rfl) h
theorem EF (h:Obt (gK Try.prog 3 (.nil) (ac L 5) (ac L 9) false m) fun a0=>Obt (aB An F 119 (some 29) 85 [a0,(ac L 7)] m) fun a1=>Obt (cun .not a1.1) fun a2=>Q .normal ⟨[(0,(ac L 0)),(5,(ac L 5)),(7,(ac L 7)),(9,(ac L 9)),(11,(ac L 11)),(12,(ac L 12)),(13,(ac L 13)),(19,(ac L 19)),(20,(ac L 20)),(21,(ac L 21)),(30,a2)],a1.2⟩):Rg F 119 [0,5,7,9,11,12,13,19,20,21,30] zA L m Q:=ae (by kernel_rfl) h
theorem t119r9 (h:Obt (gK Try.prog 3 (.nil) (ac L 5) (ac L 9) false m) fun a0=>Obt (cd false 592 1 1 [.int .i64 0] [(0,1,(ac L 7))] m) fun a1=>Obt (ej true 608 1 8 a0 a1.1 a1.2) fun a2=>Obt (mB Try.prog 3 (ac L 5) (ac L 9) a2.1 a2.2) fun a3=>Q .normal ⟨[(0,(ac L 0)),(5,(ac L 5)),(7,(ac L 7)),(11,(ac L 11)),(12,(ac L 12)),(13,(ac L 13)),(19,(ac L 19)),(20,(ac L 20)),(21,(ac L 21))],a3⟩):Rg F 119 [0,5,7,11,12,13,19,20,21] zB L m Q:=ae (by kernel_rfl) h
theorem wn (h:Obt (aw Try.prog .add 3 (.tmp 21) (.const (.int .i64 1)) (ac L 21) (.int .i64 1)) fun a0=>Q .normal ⟨[(0,(ac L 0)),(5,(ac L 5)),(7,(ac L 7)),(11,(ac L 11)),(12,(ac L 12)),(13,(ac L 13)),(19,(ac L 19)),(20,(ac L 20)),(21,a0)],m⟩):Rg F 119 [0,5,7,11,12,13,19,20,21] vK L m Q:=ae (by kernel_rfl) h
theorem t119r11 (h:Obt (aw Try.prog .add 3 (.tmp 13) (.const (.int .i64 1)) (ac L 13) (.int .i64 1)) fun a0=>Q .normal ⟨[(0,(ac L 0)),(5,(ac L 5)),(11,(ac L 11)),(12,(ac L 12)),(13,a0)],m⟩):Rg F 119 [0,5,11,12,13] vL L m Q:=ae (by kernel_rfl) h
theorem t119r12 (h:Q .normal ⟨[(4,(ac L 5))],m⟩):Rg F 119 [4] vM L m Q:=ae (by kernel_rfl) h
def zF:=rg 120 Try.f120 0
def zG:=rg 120 Try.f120 1
def zH:=rg 120 Try.f120 2
def zI:=rg 120 Try.f120 3
def zC:SC:=
 (.seq (.seq (.reg false (some [0,1,2,3,16]) zH) (.cond (.tmp 16) .nop (.exit 2))) (.block 3 (.reg false (some [0,1,2,3]) zI)))
def zJ:=rg 120 Try.f120 4
def zK:=rg 120 Try.f120 5
def zD:SC:=
 (.seq (.seq (.reg false (some [0,1,2,3,27]) zJ) (.cond (.tmp 27) .nop (.exit 4))) (.block 5 (.reg false (some [0,1,2,3]) zK)))
def zE:SC:=
 (.seq (.seq (.reg false (some [0,1,2,3,9]) zG) (.cond (.tmp 9) .nop (.exit 0))) (.block 1 (.seq (.block 2 (.loop zC)) (.block 4 (.loop zD)))))
def zL:=rg 120 Try.f120 6
def c120:SC:=
 (.seq (.reg false (some [0,1,2,3]) zF) (.seq (.block 0 (.loop zE)) (.seq (.reg false (some [6]) zL) .ret)))
theorem s120:Try.f120.body.bind (bh Try.prog An 120 Try.f120.ntmps)=some c120:=by kernel_rfl
theorem g120:An.glob 120=[]:=rfl
theorem r120:Try.f120.results.toList=[(.tmp 6)]:=by kernel_rfl
theorem t120r0 (h:Q .normal ⟨[(0,(ac L 0)),(1,(ac L 1)),(2,(ac L 2)),(3,(ac L 3))],m⟩):Rg F 120 [0,1,2,3] zF L m Q:=ae (by kernel_rfl) h
theorem EG (h:Obt (aw Try.prog .neq 3 (.tmp 7) (.tmp 8) (ac L 0) (ac L 1)) fun a0=>Q .normal ⟨[(0,(ac L 0)),(1,(ac L 1)),(2,(ac L 2)),(3,(ac L 3)),(9,a0)],m⟩):Rg F 120 [0,1,2,3,9] zG L m Q:=ae (by kernel_rfl) h
theorem EH (h:Obt (ld1 m (ac L 2)) fun a0=>Obt (gK Try.prog 3 (.int .i64 0) a0 (ac L 0) false m) fun a1=>Obt (ld1 m (ac L 2)) fun a2=>Obt (gK Try.prog 3 (.int .i64 0) a2 (ac L 1) false m) fun a3=>Obt (aw Try.prog .gtr 3 (.tmp 12) (.tmp 15) a1 a3) fun a4=>Q .normal ⟨[(0,(ac L 0)),(1,(ac L 1)),(2,(ac L 2)),(3,(ac L 3)),(16,a4)],m⟩):Rg F 120 [0,1,2,3,16] zH L m Q:=ae (by kernel_rfl) h
theorem t120r3 (h:Obt (ld1 m (ac L 3)) fun a0=>Obt (bd 1 a0 (ac L 0)) fun a1=>Obt (ld1 m a1) fun a2=>Q .normal ⟨[(0,a2),(1,(ac L 1)),(2,(ac L 2)),(3,(ac L 3))],m⟩):Rg F 120 [0,1,2,3] zI L m Q:=ae (by kernel_rfl) h
theorem EI (h:Obt (ld1 m (ac L 2)) fun a0=>Obt (gK Try.prog 3 (.int .i64 0) a0 (ac L 1) false m) fun a1=>Obt (ld1 m (ac L 2)) fun a2=>Obt (gK Try.prog 3 (.int .i64 0) a2 (ac L 0) false m) fun a3=>Obt (aw Try.prog .gtr 3 (.tmp 23) (.tmp 26) a1 a3) fun a4=>Q .normal ⟨[(0,(ac L 0)),(1,(ac L 1)),(2,(ac L 2)),(3,(ac L 3)),(27,a4)],m⟩):Rg F 120 [0,1,2,3,27] zJ L m Q:=ae (by kernel_rfl) h
theorem t120r5 (h:Obt (ld1 m (ac L 3)) fun a0=>Obt (bd 1 a0 (ac L 1)) fun a1=>Obt (ld1 m a1) fun a2=>Q .normal ⟨[(0,(ac L 0)),(1,a2),(2,(ac L 2)),(3,(ac L 3))],m⟩):Rg F 120 [0,1,2,3] zK L m Q:=ae (by kernel_rfl) h
theorem t120r6 (h:Q .normal ⟨[(6,(ac L 0))],m⟩):Rg F 120 [6] zL L m Q:=ae (by kernel_rfl) h
def c91r0:=rg 91 Try.f91 0
def c91r1:=rg 91 Try.f91 1
def c91r2:=rg 91 Try.f91 2
def c91r3:=rg 91 Try.f91 3
def c91r4:=rg 91 Try.f91 4
def c91r5:=rg 91 Try.f91 5
def c91r6:=rg 91 Try.f91 6
def c91r7:=rg 91 Try.f91 7
def c91r8:=rg 91 Try.f91 8
def Df:SC:=
 (.seq (.reg false (some [0,3,4,5,26,27,28]) c91r5) (.seq (.cond (.tmp 28) .nop (.exit 0)) (.seq (.block 1 (.seq (.reg false (some [0,3,4,5,6,26,27]) c91r6) (.reg false (some [0,3,4,5,26,27]) c91r7))) (.reg false (some [0,3,4,5,26,27]) c91r8))))
def c91r9:=rg 91 Try.f91 9
def Dh:=rg 91 Try.f91 10
def Di:=rg 91 Try.f91 11
def Dj:=rg 91 Try.f91 12
def Dk:=rg 91 Try.f91 13
def Dg:SC:=
 (.seq (.reg false (some [0,3,4,5,34,35,36,37]) Dh) (.seq (.cond (.tmp 37) .nop (.exit 2)) (.seq (.block 3 (.seq (.reg false (some [0,3,4,5,7,8,34,35,36]) Di) (.reg false (some [0,3,4,5,34,35,36]) Dj))) (.reg false (some [0,3,4,5,34,35,36]) Dk))))
def Dl:=rg 91 Try.f91 14
def Dm:=rg 91 Try.f91 15
def Dn:=rg 91 Try.f91 16
def Do:=rg 91 Try.f91 17
def Dp:=rg 91 Try.f91 18
def Dq:=rg 91 Try.f91 19
def Dr:=rg 91 Try.f91 20
def Ds:=rg 91 Try.f91 21
def Dt:=rg 91 Try.f91 22
def Du:=rg 91 Try.f91 23
def Dv:=rg 91 Try.f91 24
def Dw:=rg 91 Try.f91 25
def Dx:=rg 91 Try.f91 26
def Dy:=rg 91 Try.f91 27
def Dz:=rg 91 Try.f91 28
def DA:=rg 91 Try.f91 29
def DB:=rg 91 Try.f91 30
def DC:=rg 91 Try.f91 31
def c91l2:SC:=
 (.seq (.reg false (some [3,5,9,10,11,13,14,50,51,52,61,62,63,64]) Dw) (.seq (.cond (.tmp 64) .nop (.exit 8)) (.seq (.block 9 (.seq (.reg false (some [3,5,9,10,11,13,14,16,50,51,52,61,62,63]) Dx) (.seq (.seq (.reg false (some [3,5,9,10,11,13,14,16,50,51,52,61,62,63,78]) Dy) (.cond (.tmp 78) (.exit 9) .nop)) (.seq (.reg false (some [3,5,9,10,11,13,14,16,50,51,52,61,62,63,80]) Dz) (.cond (.tmp 80) (.reg false (some [3,5,9,10,11,13,14,50,51,52,61,62,63]) DA) (.reg false (some [3,5,9,10,11,13,14,50,51,52,61,62,63]) DB)))))) (.reg false (some [3,5,9,10,11,13,14,50,51,52,61,62,63]) DC))))
def DD:=rg 91 Try.f91 32
def DE:=rg 91 Try.f91 33
def DF:=rg 91 Try.f91 34
def c91l3:SC:=
 (.seq (.reg false (some [3,5,9,10,11,50,51,52,53]) Dr) (.seq (.cond (.tmp 53) .nop (.exit 6)) (.seq (.block 7 (.seq (.reg false (some [3,5,9,10,11,12,13,50,51,52]) Ds) (.seq (.seq (.reg false (some [3,5,9,10,11,13,50,51,52,58]) Dt) (.cond (.tmp 58) (.exit 7) .nop)) (.seq (.reg false (some [3,5,9,10,11,13,14,50,51,52]) Du) (.seq (.seq (.reg false (some [3,5,9,10,11,13,14,50,51,52,61,62,63]) Dv) (.block 8 (.loop c91l2))) (.seq (.reg false (some [3,5,9,10,11,13,14,50,51,52]) DD) (.reg false (some [3,5,9,10,11,50,51,52]) DE))))))) (.reg false (some [3,5,9,10,11,50,51,52]) DF))))
def c91l4:SC:=
 (.seq (.seq (.reg false (some [3,5,9,10,49]) Do) (.cond (.tmp 49) .nop (.exit 4))) (.block 5 (.seq (.reg false (some [3,5,9,10,11]) Dp) (.seq (.reg false (some [3,5,9,10,11,50,51,52]) Dq) (.block 6 (.loop c91l3))))))
def DG:=rg 91 Try.f91 35
def c91:SC:=
 (.seq (.reg false (some [0]) c91r0) (.seq (.reg false (some [0,3]) c91r1) (.seq (.reg false (some [0,3,4]) c91r2) (.seq (.reg false (some [0,3,4,5]) c91r3) (.seq (.seq (.reg false (some [0,3,4,5,26,27]) c91r4) (.block 0 (.loop Df))) (.seq (.seq (.reg false (some [0,3,4,5,34,35,36]) c91r9) (.block 2 (.loop Dg))) (.seq (.reg false (some [3,4,5,9]) Dl) (.seq (.reg false (some [3,5,9,10]) Dm) (.seq (.seq (.reg false (some [3,5,9,10,11]) Dn) (.block 4 (.loop c91l4))) (.seq (.reg false (some [2]) DG) .ret))))))))))
theorem s91:Try.f91.body.bind (bh Try.prog An 91 Try.f91.ntmps)=some c91:=by kernel_rfl
theorem g91:An.glob 91=[21,4,24,5]:=rfl
theorem r91:Try.f91.results.toList=[(.tmp 2)]:=by kernel_rfl
theorem t91r0 (h:Q .normal ⟨[(0,(ac L 0))],m⟩):Rg F 91 [0] c91r0 L m Q:=ae (by kernel_rfl) h
theorem t91r1 (h:Obt (aB An F 91 (some 18) 112 [(ac L 0)] m) fun a0=>Q .normal ⟨[(0,(ac L 0)),(3,a0.1)],a0.2⟩):Rg F 91 [0,3] c91r1 L m Q:=ae (by kernel_rfl) h
theorem t91r2 (h:Obt (lenS (ac L 3)) fun a0=>Obt (mmX true 336 a0 m) fun a1=>Obt (stX 1 (ir a1.2 [.mnil]) (eP a1.2) a1.1) fun a2=>Q .normal ⟨[(0,(ac L 0)),(3,(ac L 3)),(4,(eP a1.2))],a2⟩):Rg F 91 [0,3,4] c91r2 L m Q:=ae (by kernel_rfl) h
theorem t91r3 (h:Obt (lenS (ac L 0)) fun a0=>Obt (mkX true 384 1 8 [.int .i64 0] a0 a0 m) fun a1=>Obt (stX 1 (ir a1.2 [.nil]) (eP a1.2) a1.1) fun a2=>Q .normal ⟨[(0,(ac L 0)),(3,(ac L 3)),(4,(ac L 4)),(5,(eP a1.2))],a2⟩):Rg F 91 [0,3,4,5] c91r3 L m Q:=ae (by kernel_rfl) h
theorem t91r4 (h:Obt (ld1 m (ac L 5)) fun a0=>Obt (lenS a0) fun a1=>Q .normal ⟨[(0,(ac L 0)),(3,(ac L 3)),(4,(ac L 4)),(5,(ac L 5)),(26,a1),(27,(.int .i64 0))],m⟩):Rg F 91 [0,3,4,5,26,27] c91r4 L m Q:=ae (by kernel_rfl) h
theorem t91r5 (h:Obt (aw Try.prog .lss 3 (.tmp 27) (.tmp 26) (ac L 27) (ac L 26)) fun a0=>Q .normal ⟨[(0,(ac L 0)),(3,(ac L 3)),(4,(ac L 4)),(5,(ac L 5)),(26,(ac L 26)),(27,(ac L 27)),(28,a0)],m⟩):Rg F 91 [0,3,4,5,26,27,28] c91r5 L m Q:=ae (by kernel_rfl) h
theorem t91r6 (h:Q .normal ⟨[(0,(ac L 0)),(3,(ac L 3)),(4,(ac L 4)),(5,(ac L 5)),(6,(ac L 27)),(26,(ac L 26)),(27,(ac L 27))],m⟩):Rg F 91 [0,3,4,5,6,26,27] c91r6 L m Q:=ae (by kernel_rfl) h
theorem t91r7 (h:Obt (ld1 m (ac L 5)) fun a0=>Obt (bd 1 a0 (ac L 6)) fun a1=>Obt (stX 1 m a1 (.int .i64 (-1))) fun a2=>Q .normal ⟨[(0,(ac L 0)),(3,(ac L 3)),(4,(ac L 4)),(5,(ac L 5)),(26,(ac L 26)),(27,(ac L 27))],a2⟩):Rg F 91 [0,3,4,5,26,27] c91r7 L m Q:=ae (by kernel_rfl) h
theorem t91r8 (h:Obt (aw Try.prog .add 3 (.tmp 27) (.const (.int .i64 1)) (ac L 27) (.int .i64 1)) fun a0=>Q .normal ⟨[(0,(ac L 0)),(3,(ac L 3)),(4,(ac L 4)),(5,(ac L 5)),(26,(ac L 26)),(27,a0)],m⟩):Rg F 91 [0,3,4,5,26,27] c91r8 L m Q:=ae (by kernel_rfl) h
theorem t91r9 (h:Obt (lenS (ac L 3)) fun a0=>Q .normal ⟨[(0,(ac L 0)),(3,(ac L 3)),(4,(ac L 4)),(5,(ac L 5)),(34,(ac L 3)),(35,a0),(36,(.int .i64 0))],m⟩):Rg F 91 [0,3,4,5,34,35,36] c91r9 L m Q:=ae (by kernel_rfl) h
theorem FI (h:Obt (aw Try.prog .lss 3 (.tmp 36) (.tmp 35) (ac L 36) (ac L 35)) fun a0=>Q .normal ⟨[(0,(ac L 0)),(3,(ac L 3)),(4,(ac L 4)),(5,(ac L 5)),(34,(ac L 34)),(35,(ac L 35)),(36,(ac L 36)),(37,a0)],m⟩):Rg F 91 [0,3,4,5,34,35,36,37] Dh L m Q:=ae (by kernel_rfl) h
theorem t91r11 (h:Obt (bd 1 (ac L 34) (ac L 36)) fun a0=>Obt (ld1 m a0) fun a1=>Q .normal ⟨[(0,(ac L 0)),(3,(ac L 3)),(4,(ac L 4)),(5,(ac L 5)),(7,(ac L 36)),(8,a1),(34,(ac L 34)),(35,(ac L 35)),(36,(ac L 36))],m⟩):Rg F 91 [0,3,4,5,7,8,34,35,36] Di L m Q:=ae (by kernel_rfl) h
theorem t91r12 (h:Obt (ld1 m (ac L 4)) fun a0=>Obt (mB Try.prog 3 a0 (ac L 8) (ac L 7) m) fun a1=>Q .normal ⟨[(0,(ac L 0)),(3,(ac L 3)),(4,(ac L 4)),(5,(ac L 5)),(34,(ac L 34)),(35,(ac L 35)),(36,(ac L 36))],a1⟩):Rg F 91 [0,3,4,5,34,35,36] Dj L m Q:=ae (by kernel_rfl) h
theorem t91r13 (h:Obt (aw Try.prog .add 3 (.tmp 36) (.const (.int .i64 1)) (ac L 36) (.int .i64 1)) fun a0=>Q .normal ⟨[(0,(ac L 0)),(3,(ac L 3)),(4,(ac L 4)),(5,(ac L 5)),(34,(ac L 34)),(35,(ac L 35)),(36,a0)],m⟩):Rg F 91 [0,3,4,5,34,35,36] Dk L m Q:=ae (by kernel_rfl) h
theorem t91r14 (h:Obt (aB An F 91 (some 47) 119 [(ac L 0),(ac L 3)] m) fun a0=>Q .normal ⟨[(3,(ac L 3)),(4,(ac L 4)),(5,(ac L 5)),(9,a0.1)],a0.2⟩):Rg F 91 [3,4,5,9] Dl L m Q:=ae (by kernel_rfl) h
theorem t91r15 (h:Q .normal ⟨[(3,(ac L 3)),(5,(ac L 5)),(9,(ac L 9)),(10,(.func (.func 120) [] [(ac L 4),(ac L 5)]))],m⟩):Rg F 91 [3,5,9,10] Dm L m Q:=ae (by kernel_rfl) h
theorem t91r16 (h:Q .normal ⟨[(3,(ac L 3)),(5,(ac L 5)),(9,(ac L 9)),(10,(ac L 10)),(11,(.bool true))],m⟩):Rg F 91 [3,5,9,10,11] Dn L m Q:=ae (by kernel_rfl) h
theorem FJ (h:Q .normal ⟨[(3,(ac L 3)),(5,(ac L 5)),(9,(ac L 9)),(10,(ac L 10)),(49,(ac L 11))],m⟩):Rg F 91 [3,5,9,10,49] Do L m Q:=ae (by kernel_rfl) h
theorem t91r18 (h:Q .normal ⟨[(3,(ac L 3)),(5,(ac L 5)),(9,(ac L 9)),(10,(ac L 10)),(11,(.bool false))],m⟩):Rg F 91 [3,5,9,10,11] Dp L m Q:=ae (by kernel_rfl) h
theorem t91r19 (h:Obt (lenS (ac L 3)) fun a0=>Q .normal ⟨[(3,(ac L 3)),(5,(ac L 5)),(9,(ac L 9)),(10,(ac L 10)),(11,(ac L 11)),(50,(ac L 3)),(51,a0),(52,(.int .i64 0))],m⟩):Rg F 91 [3,5,9,10,11,50,51,52] Dq L m Q:=ae (by kernel_rfl) h
theorem uH (h:Obt (aw Try.prog .lss 3 (.tmp 52) (.tmp 51) (ac L 52) (ac L 51)) fun a0=>Q .normal ⟨[(3,(ac L 3)),(5,(ac L 5)),(9,(ac L 9)),(10,(ac L 10)),(11,(ac L 11)),(50,(ac L 50)),(51,(ac L 51)),(52,(ac L 52)),(53,a0)],m⟩):Rg F 91 [3,5,9,10,11,50,51,52,53] Dr L m Q:=ae (by kernel_rfl) h
theorem FK (h:Obt (bd 1 (ac L 50) (ac L 52)) fun a0=>Obt (ld1 m a0) fun a1=>Q .normal ⟨[(3,(ac L 3)),(5,(ac L 5)),(9,(ac L 9)),(10,(ac L 10)),(11,(ac L 11)),(12,(ac L 52)),(13,a1),(50,(ac L 50)),(51,(ac L 51)),(52,(ac L 52))],m⟩):Rg F 91 [3,5,9,10,11,12,13,50,51,52] Ds L m Q:=ae (by kernel_rfl) h
theorem FL (h:Obt (aw Try.prog .eql 3 (.tmp 57) (.const (.int .i64 0)) (ac L 12) (.int .i64 0)) fun a0=>Q .normal ⟨[(3,(ac L 3)),(5,(ac L 5)),(9,(ac L 9)),(10,(ac L 10)),(11,(ac L 11)),(13,(ac L 13)),(50,(ac L 50)),(51,(ac L 51)),(52,(ac L 52)),(58,a0)],m⟩):Rg F 91 [3,5,9,10,11,13,50,51,52,58] Dt L m Q:=ae (by kernel_rfl) h
theorem t91r23 (h:Q .normal ⟨[(3,(ac L 3)),(5,(ac L 5)),(9,(ac L 9)),(10,(ac L 10)),(11,(ac L 11)),(13,(ac L 13)),(14,(.int .i64 (-1))),(50,(ac L 50)),(51,(ac L 51)),(52,(ac L 52))],m⟩):Rg F 91 [3,5,9,10,11,13,14,50,51,52] Du L m Q:=ae (by kernel_rfl) h
theorem t91r24 (h:Obt (gK Try.prog 3 (.nil) (ac L 9) (ac L 13) false m) fun a0=>Obt (lenS a0) fun a1=>Q .normal ⟨[(3,(ac L 3)),(5,(ac L 5)),(9,(ac L 9)),(10,(ac L 10)),(11,(ac L 11)),(13,(ac L 13)),(14,(ac L 14)),(50,(ac L 50)),(51,(ac L 51)),(52,(ac L 52)),(61,a0),(62,a1),(63,(.int .i64 0))],m⟩):Rg F 91 [3,5,9,10,11,13,14,50,51,52,61,62,63] Dv L m Q:=ae (by kernel_rfl) h
theorem uI (h:Obt (aw Try.prog .lss 3 (.tmp 63) (.tmp 62) (ac L 63) (ac L 62)) fun a0=>Q .normal ⟨[(3,(ac L 3)),(5,(ac L 5)),(9,(ac L 9)),(10,(ac L 10)),(11,(ac L 11)),(13,(ac L 13)),(14,(ac L 14)),(50,(ac L 50)),(51,(ac L 51)),(52,(ac L 52)),(61,(ac L 61)),(62,(ac L 62)),(63,(ac L 63)),(64,a0)],m⟩):Rg F 91 [3,5,9,10,11,13,14,50,51,52,61,62,63,64] Dw L m Q:=ae (by kernel_rfl) h
theorem t91r26 (h:Obt (bd 1 (ac L 61) (ac L 63)) fun a0=>Obt (ld1 m a0) fun a1=>Q .normal ⟨[(3,(ac L 3)),(5,(ac L 5)),(9,(ac L 9)),(10,(ac L 10)),(11,(ac L 11)),(13,(ac L 13)),(14,(ac L 14)),(16,a1),(50,(ac L 50)),(51,(ac L 51)),(52,(ac L 52)),(61,(ac L 61)),(62,(ac L 62)),(63,(ac L 63))],m⟩):Rg F 91 [3,5,9,10,11,13,14,16,50,51,52,61,62,63] Dx L m Q:=ae (by kernel_rfl) h
theorem t91r27 (h:Obt (bd 1 (ac L 3) (.int .i64 0)) fun a0=>Obt (ld1 m a0) fun a1=>Obt (aw Try.prog .neq 3 (.tmp 67) (.tmp 70) (ac L 16) a1) fun a2=>Obt (gdO a2 true ((ld1 m (ac L 5)).map fun v=>(v,m)) (.tuple [],m)) fun a3=>Obt (gdO a2 true (some ((ac L 16),a3.2)) (.tuple [],a3.2)) fun a4=>Obt (gdO a2 true ((bd 1 a3.1 a4.1).map fun v=>(v,a4.2)) (.tuple [],a4.2)) fun a5=>Obt (gdO a2 true ((ld1 a5.2 a5.1).map fun v=>(v,a5.2)) (.tuple [],a5.2)) fun a6=>Obt (gdO a2 true ((aw Try.prog .lss 3 (.tmp 76) (.const (.int .i64 0)) a6.1 (.int .i64 0)).map fun v=>(v,a6.2)) (.tuple [],a6.2)) fun a7=>Obt (aT a2 a7.1 (.bool false)) fun a8=>Q .normal ⟨[(3,(ac L 3)),(5,(ac L 5)),(9,(ac L 9)),(10,(ac L 10)),(11,(ac L 11)),(13,(ac L 13)),(14,(ac L 14)),(16,(ac L 16)),(50,(ac L 50)),(51,(ac L 51)),(52,(ac L 52)),(61,(ac L 61)),(62,(ac L 62)),(63,(ac L 63)),(78,a8)],a7.2⟩):Rg F 91 [3,5,9,10,11,13,14,16,50,51,52,61,62,63,78] Dy L m Q:=ae (by kernel_rfl) h
theorem t91r28 (h:Obt (aw Try.prog .lss 3 (.tmp 79) (.const (.int .i64 0)) (ac L 14) (.int .i64 0)) fun a0=>Q .normal ⟨[(3,(ac L 3)),(5,(ac L 5)),(9,(ac L 9)),(10,(ac L 10)),(11,(ac L 11)),(13,(ac L 13)),(14,(ac L 14)),(16,(ac L 16)),(50,(ac L 50)),(51,(ac L 51)),(52,(ac L 52)),(61,(ac L 61)),(62,(ac L 62)),(63,(ac L 63)),(80,a0)],m⟩):Rg F 91 [3,5,9,10,11,13,14,16,50,51,52,61,62,63,80] Dz L m Q:=ae (by kernel_rfl) h
theorem t91r29 (h:Q .normal ⟨[(3,(ac L 3)),(5,(ac L 5)),(9,(ac L 9)),(10,(ac L 10)),(11,(ac L 11)),(13,(ac L 13)),(14,(ac L 16)),(50,(ac L 50)),(51,(ac L 51)),(52,(ac L 52)),(61,(ac L 61)),(62,(ac L 62)),(63,(ac L 63))],m⟩):Rg F 91 [3,5,9,10,11,13,14,50,51,52,61,62,63] DA L m Q:=ae (by kernel_rfl) h
theorem t91r30 (h:Obt (dx An F 91 (some 85) (ac L 10) [(ac L 14),(ac L 16)] m) fun a0=>Q .normal ⟨[(3,(ac L 3)),(5,(ac L 5)),(9,(ac L 9)),(10,(ac L 10)),(11,(ac L 11)),(13,(ac L 13)),(14,a0.1),(50,(ac L 50)),(51,(ac L 51)),(52,(ac L 52)),(61,(ac L 61)),(62,(ac L 62)),(63,(ac L 63))],a0.2⟩):Rg F 91 [3,5,9,10,11,13,14,50,51,52,61,62,63] DB L m Q:=ae (by kernel_rfl) h
theorem uJ (h:Obt (aw Try.prog .add 3 (.tmp 63) (.const (.int .i64 1)) (ac L 63) (.int .i64 1)) fun a0=>Q .normal ⟨[(3,(ac L 3)),(5,(ac L 5)),(9,(ac L 9)),(10,(ac L 10)),(11,(ac L 11)),(13,(ac L 13)),(14,(ac L 14)),(50,(ac L 50)),(51,(ac L 51)),(52,(ac L 52)),(61,(ac L 61)),(62,(ac L 62)),(63,a0)],m⟩):Rg F 91 [3,5,9,10,11,13,14,50,51,52,61,62,63] DC L m Q:=ae (by kernel_rfl) h
theorem FM (h:Obt (gdO (ac L 11) false (some ((ac L 14),m)) (.tuple [],m)) fun a0=>Obt (gdO (ac L 11) false ((ld1 a0.2 (ac L 5)).map fun v=>(v,a0.2)) (.tuple [],a0.2)) fun a1=>Obt (gdO (ac L 11) false (some ((ac L 13),a1.2)) (.tuple [],a1.2)) fun a2=>Obt (gdO (ac L 11) false ((bd 1 a1.1 a2.1).map fun v=>(v,a2.2)) (.tuple [],a2.2)) fun a3=>Obt (gdO (ac L 11) false ((ld1 a3.2 a3.1).map fun v=>(v,a3.2)) (.tuple [],a3.2)) fun a4=>Obt (gdO (ac L 11) false ((aw Try.prog .neq 3 (.tmp 89) (.tmp 93) a0.1 a4.1).map fun v=>(v,a4.2)) (.tuple [],a4.2)) fun a5=>Obt (aT (ac L 11) (.bool true) a5.1) fun a6=>Q .normal ⟨[(3,(ac L 3)),(5,(ac L 5)),(9,(ac L 9)),(10,(ac L 10)),(11,a6),(13,(ac L 13)),(14,(ac L 14)),(50,(ac L 50)),(51,(ac L 51)),(52,(ac L 52))],a5.2⟩):Rg F 91 [3,5,9,10,11,13,14,50,51,52] DD L m Q:=ae (by kernel_rfl) h
theorem FN (h:Obt (ld1 m (ac L 5)) fun a0=>Obt (bd 1 a0 (ac L 13)) fun a1=>Obt (stX 1 m a1 (ac L 14)) fun a2=>Q .normal ⟨[(3,(ac L 3)),(5,(ac L 5)),(9,(ac L 9)),(10,(ac L 10)),(11,(ac L 11)),(50,(ac L 50)),(51,(ac L 51)),(52,(ac L 52))],a2⟩):Rg F 91 [3,5,9,10,11,50,51,52] DE L m Q:=ae (by kernel_rfl) h
theorem uK (h:Obt (aw Try.prog .add 3 (.tmp 52) (.const (.int .i64 1)) (ac L 52) (.int .i64 1)) fun a0=>Q .normal ⟨[(3,(ac L 3)),(5,(ac L 5)),(9,(ac L 9)),(10,(ac L 10)),(11,(ac L 11)),(50,(ac L 50)),(51,(ac L 51)),(52,a0)],m⟩):Rg F 91 [3,5,9,10,11,50,51,52] DF L m Q:=ae (by kernel_rfl) h
theorem t91r35 (h:Obt (ld1 m (ac L 5)) fun a0=>Q .normal ⟨[(2,a0)],m⟩):Rg F 91 [2] DG L m Q:=ae (by kernel_rfl) h
end
end Go.Cm
