import Derived.Test.YtijcpefcfcbcnaaIyD
set_option linter.unusedSimpArgs false
set_option linter.unusedVariables false
namespace Go.Cm
open Go.Proofs
variable {F:aW}{L:List (Nat×CV)}{m:Mem}{Q:CE→TS→Prop}
noncomputable section
def c75r0:=rg 75 Try.f75 0
def c75r1:=rg 75 Try.f75 1
def c75r2:=rg 75 Try.f75 2
def c75r3:=rg 75 Try.f75 3
def c75r4:=rg 75 Try.f75 4
def c75r5:=rg 75 Try.f75 5
def c75r6:=rg 75 Try.f75 6
def c75r7:=rg 75 Try.f75 7
def c75r8:=rg 75 Try.f75 8
def c75r9:=rg 75 Try.f75 9
def CP:=rg 75 Try.f75 10
def CQ:=rg 75 Try.f75 11
def CT:=rg 75 Try.f75 13
def CU:=rg 75 Try.f75 14
def CW:=rg 75 Try.f75 15
def CR:=rg 75 Try.f75 12
def c75l0:SC:=
 (.seq (.seq (.reg false (some [0,1,5,6,7,8,49]) CQ) (.cond (.tmp 49) .nop (.exit 2))) (.seq (.block 3 (.seq (.reg false (some [0,1,5,6,7,8,9]) CT) (.seq (.reg false (some [0,1,5,6,7,8,9,71]) CU) (.cond (.tmp 71) (.reg false (some [0,1,5,6,7,8]) CW) .nop)))) (.reg false (some [0,1,5,6,7,8]) CR)))
def c75l1:SC:=
 (.seq (.seq (.reg false (some [0,1,5,6,24]) c75r5) (.cond (.tmp 24) .nop (.exit 0))) (.block 1 (.seq (.reg false (some [0,1,5,6,7]) c75r6) (.seq (.reg false (some [0,1,5,6,7]) c75r7) (.seq (.seq (.reg false (some [0,1,5,6,7,39]) c75r8) (.cond (.tmp 39) (.exit 1) .nop)) (.seq (.reg false (some [0,1,5,6,7]) c75r9) (.seq (.reg false (some [0,1,5,6,7,8]) CP) (.block 2 (.loop c75l0)))))))))
def CX:=rg 75 Try.f75 16
def c75:SC:=
 (.seq (.reg false (some [0,1]) c75r0) (.seq (.reg false (some [0,1,5]) c75r1) (.seq (.seq (.reg false (some [0,1,5,19]) c75r2) (.cond (.tmp 19) (.seq (.reg false (some [4]) c75r3) .ret) .nop)) (.seq (.reg false (some [0,1,5,6]) c75r4) (.seq (.block 0 (.loop c75l1)) (.seq (.reg false (some [4]) CX) .ret))))))
theorem s75:Try.f75.body.bind (bh Try.prog An 75 Try.f75.ntmps)=some c75:=by kernel_rfl
theorem g75:An.glob 75=[]:=rfl
theorem r75:Try.f75.results.toList=[(.tmp 4)]:=by kernel_rfl
theorem Fu (h:Q .normal ⟨[(0,(ac L 0)),(1,(ac L 1))],m⟩):Rg F 75 [0,1] c75r0 L m Q:=ae (by kernel_rfl) h
theorem Fv (h:Obt (lenS (ac L 0)) fun a0=>Obt (mkX false 192 1 1 [.bool false] a0 a0 m) fun a1=>Q .normal ⟨[(0,(ac L 0)),(1,(ac L 1)),(5,a1.1)],a1.2⟩):Rg F 75 [0,1,5] c75r1 L m Q:=ae (by kernel_rfl) h
theorem FA (h:Obt (lenS (ac L 0)) fun a0=>Obt (aw Try.prog .eql 3 (.tmp 14) (.const (.int .i64 0)) a0 (.int .i64 0)) fun a1=>Obt (gdO a1 false (some ((ac L 1),m)) (.tuple [],m)) fun a2=>Obt (gdO a1 false ((aw Try.prog .eql 3 (.tmp 17) (.const (.int .i64 0)) a2.1 (.int .i64 0)).map fun v=>(v,a2.2)) (.tuple [],a2.2)) fun a3=>Obt (aT a1 (.bool true) a3.1) fun a4=>Q .normal ⟨[(0,(ac L 0)),(1,(ac L 1)),(5,(ac L 5)),(19,a4)],a3.2⟩):Rg F 75 [0,1,5,19] c75r2 L m Q:=ae (by kernel_rfl) h
theorem t75r3 (h:Q .normal ⟨[(4,(ac L 5))],m⟩):Rg F 75 [4] c75r3 L m Q:=ae (by kernel_rfl) h
theorem t75r4 (h:Obt (cd false 336 1 1 [.int .i64 0] [(0,1,(.int .i64 0))] m) fun a0=>Q .normal ⟨[(0,(ac L 0)),(1,(ac L 1)),(5,(ac L 5)),(6,a0.1)],a0.2⟩):Rg F 75 [0,1,5,6] c75r4 L m Q:=ae (by kernel_rfl) h
theorem FB (h:Obt (lenS (ac L 6)) fun a0=>Obt (aw Try.prog .gtr 3 (.tmp 23) (.const (.int .i64 0)) a0 (.int .i64 0)) fun a1=>Q .normal ⟨[(0,(ac L 0)),(1,(ac L 1)),(5,(ac L 5)),(6,(ac L 6)),(24,a1)],m⟩):Rg F 75 [0,1,5,6,24] c75r5 L m Q:=ae (by kernel_rfl) h
theorem t75r6 (h:Obt (lenS (ac L 6)) fun a0=>Obt (aw Try.prog .sub 3 (.tmp 27) (.const (.int .i64 1)) a0 (.int .i64 1)) fun a1=>Obt (bd 1 (ac L 6) a1) fun a2=>Obt (ld1 m a2) fun a3=>Q .normal ⟨[(0,(ac L 0)),(1,(ac L 1)),(5,(ac L 5)),(6,(ac L 6)),(7,a3)],m⟩):Rg F 75 [0,1,5,6,7] c75r6 L m Q:=ae (by kernel_rfl) h
theorem t75r7 (h:Obt (lenS (ac L 6)) fun a0=>Obt (aw Try.prog .sub 3 (.tmp 33) (.const (.int .i64 1)) a0 (.int .i64 1)) fun a1=>Obt (sJ 1 (ac L 6) none (some a1) none m) fun a2=>Q .normal ⟨[(0,(ac L 0)),(1,(ac L 1)),(5,(ac L 5)),(6,a2),(7,(ac L 7))],m⟩):Rg F 75 [0,1,5,6,7] c75r7 L m Q:=ae (by kernel_rfl) h
theorem t75r8 (h:Obt (bd 1 (ac L 5) (ac L 7)) fun a0=>Obt (ld1 m a0) fun a1=>Q .normal ⟨[(0,(ac L 0)),(1,(ac L 1)),(5,(ac L 5)),(6,(ac L 6)),(7,(ac L 7)),(39,a1)],m⟩):Rg F 75 [0,1,5,6,7,39] c75r8 L m Q:=ae (by kernel_rfl) h
theorem t75r9 (h:Obt (bd 1 (ac L 5) (ac L 7)) fun a0=>Obt (stX 1 m a0 (.bool true)) fun a1=>Q .normal ⟨[(0,(ac L 0)),(1,(ac L 1)),(5,(ac L 5)),(6,(ac L 6)),(7,(ac L 7))],a1⟩):Rg F 75 [0,1,5,6,7] c75r9 L m Q:=ae (by kernel_rfl) h
theorem t75r10 (h:Q .normal ⟨[(0,(ac L 0)),(1,(ac L 1)),(5,(ac L 5)),(6,(ac L 6)),(7,(ac L 7)),(8,(.int .i64 0))],m⟩):Rg F 75 [0,1,5,6,7,8] CP L m Q:=ae (by kernel_rfl) h
theorem uD (h:Obt (bd 1 (ac L 0) (ac L 7)) fun a0=>Obt (ld1 m a0) fun a1=>Obt (lenS a1) fun a2=>Obt (aw Try.prog .lss 3 (.tmp 43) (.tmp 48) (ac L 8) a2) fun a3=>Q .normal ⟨[(0,(ac L 0)),(1,(ac L 1)),(5,(ac L 5)),(6,(ac L 6)),(7,(ac L 7)),(8,(ac L 8)),(49,a3)],m⟩):Rg F 75 [0,1,5,6,7,8,49] CQ L m Q:=ae (by kernel_rfl) h
theorem Fy (h:Obt (bd 1 (ac L 0) (ac L 7)) fun a0=>Obt (ld1 m a0) fun a1=>Obt (bd 1 a1 (ac L 8)) fun a2=>Obt (ld1 m a2) fun a3=>Q .normal ⟨[(0,(ac L 0)),(1,(ac L 1)),(5,(ac L 5)),(6,(ac L 6)),(7,(ac L 7)),(8,(ac L 8)),(9,a3)],m⟩):Rg F 75 [0,1,5,6,7,8,9] CT L m Q:=ae (by kernel_rfl) h
theorem Fz (h:Obt (aw Try.prog .geq 3 (.tmp 59) (.const (.int .i64 0)) (ac L 9) (.int .i64 0)) fun a0=>Obt (gdO a0 true (some ((ac L 9),m)) (.tuple [],m)) fun a1=>Obt (gdO a0 true (some ((ac L 0),a1.2)) (.tuple [],a1.2)) fun a2=>Obt (gdO a0 true ((lenS a2.1).map fun v=>(v,a2.2)) (.tuple [],a2.2)) fun a3=>Obt (gdO a0 true ((aw Try.prog .lss 3 (.tmp 62) (.tmp 64) a1.1 a3.1).map fun v=>(v,a3.2)) (.tuple [],a3.2)) fun a4=>Obt (aT a0 a4.1 (.bool false)) fun a5=>Obt (gdO a5 true (some ((ac L 9),a4.2)) (.tuple [],a4.2)) fun a6=>Obt (gdO a5 true (some ((ac L 1),a6.2)) (.tuple [],a6.2)) fun a7=>Obt (gdO a5 true ((aw Try.prog .neq 3 (.tmp 68) (.tmp 69) a6.1 a7.1).map fun v=>(v,a7.2)) (.tuple [],a7.2)) fun a8=>Obt (aT a5 a8.1 (.bool false)) fun a9=>Q .normal ⟨[(0,(ac L 0)),(1,(ac L 1)),(5,(ac L 5)),(6,(ac L 6)),(7,(ac L 7)),(8,(ac L 8)),(9,(ac L 9)),(71,a9)],a8.2⟩):Rg F 75 [0,1,5,6,7,8,9,71] CU L m Q:=ae (by kernel_rfl) h
theorem t75r15 (h:Obt (cd false 1184 1 1 [.int .i64 0] [(0,1,(ac L 9))] m) fun a0=>Obt (ej false 1200 1 8 (ac L 6) a0.1 a0.2) fun a1=>Q .normal ⟨[(0,(ac L 0)),(1,(ac L 1)),(5,(ac L 5)),(6,a1.1),(7,(ac L 7)),(8,(ac L 8))],a1.2⟩):Rg F 75 [0,1,5,6,7,8] CW L m Q:=ae (by kernel_rfl) h
theorem Fx (h:Obt (aw Try.prog .add 3 (.tmp 50) (.const (.int .i64 1)) (ac L 8) (.int .i64 1)) fun a0=>Q .normal ⟨[(0,(ac L 0)),(1,(ac L 1)),(5,(ac L 5)),(6,(ac L 6)),(7,(ac L 7)),(8,a0)],m⟩):Rg F 75 [0,1,5,6,7,8] CR L m Q:=ae (by kernel_rfl) h
theorem t75r16 (h:Q .normal ⟨[(4,(ac L 5))],m⟩):Rg F 75 [4] CX L m Q:=ae (by kernel_rfl) h
def c72r0:=rg 72 Try.f72 0
def c72r1:=rg 72 Try.f72 1
def c72:SC:=
 (.seq (.reg false (some [0]) c72r0) (.seq (.reg false (some [2]) c72r1) .ret))
theorem s72:Try.f72.body.bind (bh Try.prog An 72 Try.f72.ntmps)=some c72:=by kernel_rfl
theorem g72:An.glob 72=[]:=rfl
theorem r72:Try.f72.results.toList=[(.tmp 2)]:=by kernel_rfl
theorem t72r0 (h:Q .normal ⟨[(0,(ac L 0))],m⟩):Rg F 72 [0] c72r0 L m Q:=ae (by kernel_rfl) h
theorem t72r1 (h:Obt (aB An F 72 (some 4) 75 [(ac L 0),(.int .i64 (-1))] m) fun a0=>Q .normal ⟨[(2,a0.1)],a0.2⟩):Rg F 72 [2] c72r1 L m Q:=ae (by kernel_rfl) h
def c49r0:=rg 49 Try.f49 0
def c49r1:=rg 49 Try.f49 1
def c49r2:=rg 49 Try.f49 2
def c49r3:=rg 49 Try.f49 3
def c49r4:=rg 49 Try.f49 4
def c49r6:=rg 49 Try.f49 6
def c49r7:=rg 49 Try.f49 7
def c49r8:=rg 49 Try.f49 8
def c49r9:=rg 49 Try.f49 9
def Br:=rg 49 Try.f49 11
def Bq:=rg 49 Try.f49 10
def c49l0:SC:=
 (.seq (.seq (.reg false (some [0,3,4,5,6,7,8,26]) c49r9) (.cond (.tmp 26) .nop (.exit 2))) (.seq (.block 3 (.reg false (some [0,3,4,5,6,7,8]) Br)) (.reg false (some [0,3,4,5,6,7,8]) Bq)))
def Bs:=rg 49 Try.f49 12
def c49r5:=rg 49 Try.f49 5
def c49l1:SC:=
 (.seq (.seq (.reg false (some [0,3,4,5,14]) c49r4) (.cond (.tmp 14) .nop (.exit 0))) (.seq (.block 1 (.seq (.reg false (some [0,3,4,5,6]) c49r6) (.seq (.reg false (some [0,3,4,5,6,7]) c49r7) (.seq (.seq (.reg false (some [0,3,4,5,6,7,8]) c49r8) (.block 2 (.loop c49l0))) (.reg false (some [0,3,4,5]) Bs))))) (.reg false (some [0,3,4,5]) c49r5)))
def Bt:=rg 49 Try.f49 13
def c49:SC:=
 (.seq (.reg false (some [0]) c49r0) (.seq (.reg false (some [0,3]) c49r1) (.seq (.reg false (some [0,3,4]) c49r2) (.seq (.seq (.reg false (some [0,3,4,5]) c49r3) (.block 0 (.loop c49l1))) (.seq (.reg false (some [2]) Bt) .ret)))))
theorem s49:Try.f49.body.bind (bh Try.prog An 49 Try.f49.ntmps)=some c49:=by kernel_rfl
theorem g49:An.glob 49=[]:=rfl
theorem r49:Try.f49.results.toList=[(.tmp 2)]:=by kernel_rfl
theorem t49r0 (h:Q .normal ⟨[(0,(ac L 0))],m⟩):Rg F 49 [0] c49r0 L m Q:=ae (by kernel_rfl) h
theorem t49r1 (h:Obt (aB An F 49 (some 10) 72 [(ac L 0)] m) fun a0=>Q .normal ⟨[(0,(ac L 0)),(3,a0.1)],a0.2⟩):Rg F 49 [0,3] c49r1 L m Q:=ae (by kernel_rfl) h
theorem t49r2 (h:Q .normal ⟨[(0,(ac L 0)),(3,(ac L 3)),(4,.nil)],m⟩):Rg F 49 [0,3,4] c49r2 L m Q:=ae (by kernel_rfl) h
theorem t49r3 (h:Q .normal ⟨[(0,(ac L 0)),(3,(ac L 3)),(4,(ac L 4)),(5,(.int .i64 0))],m⟩):Rg F 49 [0,3,4,5] c49r3 L m Q:=ae (by kernel_rfl) h
theorem t49r4 (h:Obt (lenS (ac L 0)) fun a0=>Obt (aw Try.prog .lss 3 (.tmp 11) (.tmp 13) (ac L 5) a0) fun a1=>Q .normal ⟨[(0,(ac L 0)),(3,(ac L 3)),(4,(ac L 4)),(5,(ac L 5)),(14,a1)],m⟩):Rg F 49 [0,3,4,5,14] c49r4 L m Q:=ae (by kernel_rfl) h
theorem t49r6 (h:Obt (aB An F 49 (some 19) 75 [(ac L 0),(ac L 5)] m) fun a0=>Q .normal ⟨[(0,(ac L 0)),(3,(ac L 3)),(4,(ac L 4)),(5,(ac L 5)),(6,a0.1)],a0.2⟩):Rg F 49 [0,3,4,5,6] c49r6 L m Q:=ae (by kernel_rfl) h
theorem t49r7 (h:Obt (lenS (ac L 0)) fun a0=>Obt (mkX false 352 1 1 [.bool false] a0 a0 m) fun a1=>Q .normal ⟨[(0,(ac L 0)),(3,(ac L 3)),(4,(ac L 4)),(5,(ac L 5)),(6,(ac L 6)),(7,a1.1)],a1.2⟩):Rg F 49 [0,3,4,5,6,7] c49r7 L m Q:=ae (by kernel_rfl) h
theorem t49r8 (h:Q .normal ⟨[(0,(ac L 0)),(3,(ac L 3)),(4,(ac L 4)),(5,(ac L 5)),(6,(ac L 6)),(7,(ac L 7)),(8,(.int .i64 0))],m⟩):Rg F 49 [0,3,4,5,6,7,8] c49r8 L m Q:=ae (by kernel_rfl) h
theorem Fb (h:Obt (lenS (ac L 0)) fun a0=>Obt (aw Try.prog .lss 3 (.tmp 23) (.tmp 25) (ac L 8) a0) fun a1=>Q .normal ⟨[(0,(ac L 0)),(3,(ac L 3)),(4,(ac L 4)),(5,(ac L 5)),(6,(ac L 6)),(7,(ac L 7)),(8,(ac L 8)),(26,a1)],m⟩):Rg F 49 [0,3,4,5,6,7,8,26] c49r9 L m Q:=ae (by kernel_rfl) h
theorem Fa (h:Obt (bd 1 (ac L 3) (ac L 5)) fun a0=>Obt (ld1 m a0) fun a1=>Obt (gdO a1 true (some ((ac L 3),m)) (.tuple [],m)) fun a2=>Obt (gdO a1 true (some ((ac L 8),a2.2)) (.tuple [],a2.2)) fun a3=>Obt (gdO a1 true ((bd 1 a2.1 a3.1).map fun v=>(v,a3.2)) (.tuple [],a3.2)) fun a4=>Obt (gdO a1 true ((ld1 a4.2 a4.1).map fun v=>(v,a4.2)) (.tuple [],a4.2)) fun a5=>Obt (aT a1 a5.1 (.bool false)) fun a6=>Obt (gdO a6 true (some ((ac L 5),a5.2)) (.tuple [],a5.2)) fun a7=>Obt (gdO a6 true (some ((ac L 8),a7.2)) (.tuple [],a7.2)) fun a8=>Obt (gdO a6 true ((aw Try.prog .eql 3 (.tmp 42) (.tmp 43) a7.1 a8.1).map fun v=>(v,a8.2)) (.tuple [],a8.2)) fun a9=>Obt (gdO a6 true (some (a9.1,a9.2)) (.tuple [],a9.2)) fun a10=>Obt (gdO a10.1 false (some ((ac L 6),a10.2)) (.tuple [],a10.2)) fun a11=>Obt (gdO a10.1 false (some ((ac L 8),a11.2)) (.tuple [],a11.2)) fun a12=>Obt (gdO a10.1 false ((bd 1 a11.1 a12.1).map fun v=>(v,a12.2)) (.tuple [],a12.2)) fun a13=>Obt (gdO a10.1 false ((ld1 a13.2 a13.1).map fun v=>(v,a13.2)) (.tuple [],a13.2)) fun a14=>Obt (gdO a10.1 false ((cun .not a14.1).map fun v=>(v,a14.2)) (.tuple [],a14.2)) fun a15=>Obt (gdO a6 true ((aT a10.1 (.bool true) a15.1).map fun v=>(v,a15.2)) (.tuple [],a15.2)) fun a16=>Obt (aT a6 a16.1 (.bool false)) fun a17=>Obt (bd 1 (ac L 7) (ac L 8)) fun a18=>Obt (stX 1 a16.2 a18 a17) fun a19=>Q .normal ⟨[(0,(ac L 0)),(3,(ac L 3)),(4,(ac L 4)),(5,(ac L 5)),(6,(ac L 6)),(7,(ac L 7)),(8,(ac L 8))],a19⟩):Rg F 49 [0,3,4,5,6,7,8] Br L m Q:=ae (by kernel_rfl) h
theorem E9 (h:Obt (aw Try.prog .add 3 (.tmp 27) (.const (.int .i64 1)) (ac L 8) (.int .i64 1)) fun a0=>Q .normal ⟨[(0,(ac L 0)),(3,(ac L 3)),(4,(ac L 4)),(5,(ac L 5)),(6,(ac L 6)),(7,(ac L 7)),(8,a0)],m⟩):Rg F 49 [0,3,4,5,6,7,8] Bq L m Q:=ae (by kernel_rfl) h
theorem t49r12 (h:Obt (cd false 896 1 1 [.nil] [(0,1,(ac L 7))] m) fun a0=>Obt (ej false 912 1 24 (ac L 4) a0.1 a0.2) fun a1=>Q .normal ⟨[(0,(ac L 0)),(3,(ac L 3)),(4,a1.1),(5,(ac L 5))],a1.2⟩):Rg F 49 [0,3,4,5] Bs L m Q:=ae (by kernel_rfl) h
theorem t49r5 (h:Obt (aw Try.prog .add 3 (.tmp 15) (.const (.int .i64 1)) (ac L 5) (.int .i64 1)) fun a0=>Q .normal ⟨[(0,(ac L 0)),(3,(ac L 3)),(4,(ac L 4)),(5,a0)],m⟩):Rg F 49 [0,3,4,5] c49r5 L m Q:=ae (by kernel_rfl) h
theorem t49r13 (h:Q .normal ⟨[(2,(ac L 4))],m⟩):Rg F 49 [2] Bt L m Q:=ae (by kernel_rfl) h
def c44r0:=rg 44 Try.f44 0
def c44r1:=rg 44 Try.f44 1
def c44r2:=rg 44 Try.f44 2
def c44r3:=rg 44 Try.f44 3
def c44r4:=rg 44 Try.f44 4
def c44r6:=rg 44 Try.f44 6
def c44r7:=rg 44 Try.f44 7
def c44r5:=rg 44 Try.f44 5
def c44l0:SC:=
 (.seq (.seq (.reg false (some [0,1,5,14]) c44r4) (.cond (.tmp 14) .nop (.exit 0))) (.seq (.block 1 (.seq (.reg true (some [0,1,5,25]) c44r6) (.cond (.tmp 25) (.seq (.reg false (some [4]) c44r7) .ret) .nop))) (.reg false (some [0,1,5]) c44r5)))
def c44r8:=rg 44 Try.f44 8
def c44:SC:=
 (.seq (.reg false (some [0,1]) c44r0) (.seq (.seq (.reg false (some [0,1,10]) c44r1) (.cond (.tmp 10) (.seq (.reg false (some [4]) c44r2) .ret) .nop)) (.seq (.seq (.reg false (some [0,1,5]) c44r3) (.block 0 (.loop c44l0))) (.seq (.reg false (some [4]) c44r8) .ret))))
theorem s44:Try.f44.body.bind (bh Try.prog An 44 Try.f44.ntmps)=some c44:=by kernel_rfl
theorem g44:An.glob 44=[]:=rfl
theorem r44:Try.f44.results.toList=[(.tmp 4)]:=by kernel_rfl
theorem t44r0 (h:Q .normal ⟨[(0,(ac L 0)),(1,(ac L 1))],m⟩):Rg F 44 [0,1] c44r0 L m Q:=ae (by kernel_rfl) h
theorem t44r1 (h:Obt (lenS (ac L 0)) fun a0=>Obt (lenS (ac L 1)) fun a1=>Obt (aw Try.prog .neq 3 (.tmp 7) (.tmp 9) a0 a1) fun a2=>Q .normal ⟨[(0,(ac L 0)),(1,(ac L 1)),(10,a2)],m⟩):Rg F 44 [0,1,10] c44r1 L m Q:=ae (by kernel_rfl) h
theorem t44r2 (h:Q .normal ⟨[(4,(.bool false))],m⟩):Rg F 44 [4] c44r2 L m Q:=ae (by kernel_rfl) h
theorem t44r3 (h:Q .normal ⟨[(0,(ac L 0)),(1,(ac L 1)),(5,(.int .i64 0))],m⟩):Rg F 44 [0,1,5] c44r3 L m Q:=ae (by kernel_rfl) h
theorem EU (h:Obt (lenS (ac L 0)) fun a0=>Obt (aw Try.prog .lss 3 (.tmp 11) (.tmp 13) (ac L 5) a0) fun a1=>Q .normal ⟨[(0,(ac L 0)),(1,(ac L 1)),(5,(ac L 5)),(14,a1)],m⟩):Rg F 44 [0,1,5,14] c44r4 L m Q:=ae (by kernel_rfl) h
theorem t44r6 (h:Obt (bd 1 (ac L 0) (ac L 5)) fun a0=>Obt (ld1 m a0) fun a1=>Obt (bd 1 (ac L 1) (ac L 5)) fun a2=>Obt (ld1 m a2) fun a3=>Obt (aw Try.prog .neq 3 (.tmp 20) (.tmp 24) a1 a3) fun a4=>Q .normal ⟨[(0,(ac L 0)),(1,(ac L 1)),(5,(ac L 5)),(25,a4)],m⟩):Rt F 44 [0,1,5,25] c44r6 L m Q:=ae (by kernel_rfl) h
theorem t44r7 (h:Q .normal ⟨[(4,(.bool false))],m⟩):Rg F 44 [4] c44r7 L m Q:=ae (by kernel_rfl) h
theorem t44r5 (h:Obt (aw Try.prog .add 3 (.tmp 15) (.const (.int .i64 1)) (ac L 5) (.int .i64 1)) fun a0=>Q .normal ⟨[(0,(ac L 0)),(1,(ac L 1)),(5,a0)],m⟩):Rg F 44 [0,1,5] c44r5 L m Q:=ae (by kernel_rfl) h
theorem t44r8 (h:Q .normal ⟨[(4,(.bool true))],m⟩):Rg F 44 [4] c44r8 L m Q:=ae (by kernel_rfl) h
def c46r0:=rg 46 Try.f46 0
def c46r1:=rg 46 Try.f46 1
def c46r2:=rg 46 Try.f46 2
def c46r3:=rg 46 Try.f46 3
def c46r5:=rg 46 Try.f46 5
def c46r6:=rg 46 Try.f46 6
def c46r7:=rg 46 Try.f46 7
def c46r8:=rg 46 Try.f46 8
def c46r9:=rg 46 Try.f46 9
def AW:=rg 46 Try.f46 10
def AX:=rg 46 Try.f46 11
def c46r4:=rg 46 Try.f46 4
def c46l0:SC:=
 (.seq (.seq (.reg false (some [1,3,4,11]) c46r3) (.cond (.tmp 11) .nop (.exit 0))) (.seq (.block 1 (.seq (.reg false (some [1,3,4,5]) c46r5) (.seq (.reg false (some [1,3,4,5,6]) c46r6) (.seq (.seq (.reg false (some [1,3,4,5,6,27]) c46r7) (.cond (.tmp 27) (.reg false (some [1,3,4,5,6]) c46r8) .nop)) (.seq (.seq (.reg false (some [1,3,4,5,6,35]) c46r9) (.cond (.tmp 35) (.reg false (some [1,3,4,5]) AW) .nop)) (.reg false (some [1,3,4]) AX)))))) (.reg false (some [1,3,4]) c46r4)))
def AY:=rg 46 Try.f46 12
def c46:SC:=
 (.seq (.reg false (some [1]) c46r0) (.seq (.reg false (some [1,3]) c46r1) (.seq (.seq (.reg false (some [1,3,4]) c46r2) (.block 0 (.loop c46l0))) (.seq (.reg false (some [2]) AY) .ret))))
theorem s46:Try.f46.body.bind (bh Try.prog An 46 Try.f46.ntmps)=some c46:=by kernel_rfl
theorem g46:An.glob 46=[]:=rfl
theorem r46:Try.f46.results.toList=[(.tmp 2)]:=by kernel_rfl
theorem t46r0 (h:Obt (ap (ac L 0)) fun a0=>Q .normal ⟨[(1,(bo m 16))],(bw m 16 a0)⟩):Rg F 46 [1] c46r0 L m Q:=ae (by kernel_rfl) h
theorem t46r1 (h:Q .normal ⟨[(1,(ac L 1)),(3,.nil)],m⟩):Rg F 46 [1,3] c46r1 L m Q:=ae (by kernel_rfl) h
theorem t46r2 (h:Q .normal ⟨[(1,(ac L 1)),(3,(ac L 3)),(4,(.int .i64 0))],m⟩):Rg F 46 [1,3,4] c46r2 L m Q:=ae (by kernel_rfl) h
theorem ww (h:Obt (aA 0 (ac L 1)) fun a0=>Obt (ld1 m a0) fun a1=>Obt (lenS a1) fun a2=>Obt (aw Try.prog .lss 3 (.tmp 7) (.tmp 10) (ac L 4) a2) fun a3=>Q .normal ⟨[(1,(ac L 1)),(3,(ac L 3)),(4,(ac L 4)),(11,a3)],m⟩):Rg F 46 [1,3,4,11] c46r3 L m Q:=ae (by kernel_rfl) h
theorem EW (h:Q .normal ⟨[(1,(ac L 1)),(3,(ac L 3)),(4,(ac L 4)),(5,.nil)],m⟩):Rg F 46 [1,3,4,5] c46r5 L m Q:=ae (by kernel_rfl) h
theorem EX (h:Obt (aA 0 (ac L 1)) fun a0=>Obt (ld1 m a0) fun a1=>Obt (bd 10 a1 (ac L 4)) fun a2=>Obt (aA 3 a2) fun a3=>Obt (ldA 7 m a3) fun a4=>Obt (stX 7 (bw m 96 [.int .i64 0,.int .i64 0,.bool false,.int .i64 0,.int .i64 0,.int .i64 0,.int .i64 0]) (bo m 96) a4) fun a5=>Q .normal ⟨[(1,(ac L 1)),(3,(ac L 3)),(4,(ac L 4)),(5,(ac L 5)),(6,(bo m 96))],a5⟩):Rg F 46 [1,3,4,5,6] c46r6 L m Q:=ae (by kernel_rfl) h
theorem EY (h:Obt (aA 0 (ac L 6)) fun a0=>Obt (ld1 m a0) fun a1=>Obt (aw Try.prog .eql 54 (.tmp 21) (.const (.int .i64 1)) a1 (.int .i64 1)) fun a2=>Obt (gdO a2 false ((aA 0 (ac L 6)).map fun v=>(v,m)) (.tuple [],m)) fun a3=>Obt (gdO a2 false ((ld1 a3.2 a3.1).map fun v=>(v,a3.2)) (.tuple [],a3.2)) fun a4=>Obt (gdO a2 false ((aw Try.prog .eql 54 (.tmp 25) (.const (.int .i64 2)) a4.1 (.int .i64 2)).map fun v=>(v,a4.2)) (.tuple [],a4.2)) fun a5=>Obt (aT a2 (.bool true) a5.1) fun a6=>Q .normal ⟨[(1,(ac L 1)),(3,(ac L 3)),(4,(ac L 4)),(5,(ac L 5)),(6,(ac L 6)),(27,a6)],a5.2⟩):Rg F 46 [1,3,4,5,6,27] c46r7 L m Q:=ae (by kernel_rfl) h
theorem t46r8 (h:Obt (aA 5 (ac L 6)) fun a0=>Obt (ld1 m a0) fun a1=>Obt (cd false 496 1 1 [.int .i64 0] [(0,1,a1)] m) fun a2=>Obt (ej false 512 1 8 (ac L 5) a2.1 a2.2) fun a3=>Q .normal ⟨[(1,(ac L 1)),(3,(ac L 3)),(4,(ac L 4)),(5,a3.1),(6,(ac L 6))],a3.2⟩):Rg F 46 [1,3,4,5,6] c46r8 L m Q:=ae (by kernel_rfl) h
theorem EZ (h:Obt (aA 0 (ac L 6)) fun a0=>Obt (ld1 m a0) fun a1=>Obt (aw Try.prog .eql 54 (.tmp 34) (.const (.int .i64 2)) a1 (.int .i64 2)) fun a2=>Q .normal ⟨[(1,(ac L 1)),(3,(ac L 3)),(4,(ac L 4)),(5,(ac L 5)),(6,(ac L 6)),(35,a2)],m⟩):Rg F 46 [1,3,4,5,6,35] c46r9 L m Q:=ae (by kernel_rfl) h
theorem t46r10 (h:Obt (aA 6 (ac L 6)) fun a0=>Obt (ld1 m a0) fun a1=>Obt (cd false 624 1 1 [.int .i64 0] [(0,1,a1)] m) fun a2=>Obt (ej false 640 1 8 (ac L 5) a2.1 a2.2) fun a3=>Q .normal ⟨[(1,(ac L 1)),(3,(ac L 3)),(4,(ac L 4)),(5,a3.1)],a3.2⟩):Rg F 46 [1,3,4,5] AW L m Q:=ae (by kernel_rfl) h
theorem ut (h:Obt (cd false 688 1 1 [.nil] [(0,1,(ac L 5))] m) fun a0=>Obt (ej false 704 1 24 (ac L 3) a0.1 a0.2) fun a1=>Q .normal ⟨[(1,(ac L 1)),(3,a1.1),(4,(ac L 4))],a1.2⟩):Rg F 46 [1,3,4] AX L m Q:=ae (by kernel_rfl) h
theorem EV (h:Obt (aw Try.prog .add 3 (.tmp 12) (.const (.int .i64 1)) (ac L 4) (.int .i64 1)) fun a0=>Q .normal ⟨[(1,(ac L 1)),(3,(ac L 3)),(4,a0)],m⟩):Rg F 46 [1,3,4] c46r4 L m Q:=ae (by kernel_rfl) h
theorem t46r12 (h:Q .normal ⟨[(2,(ac L 3))],m⟩):Rg F 46 [2] AY L m Q:=ae (by kernel_rfl) h
def c47r0:=rg 47 Try.f47 0
def c47r1:=rg 47 Try.f47 1
def c47r2:=rg 47 Try.f47 2
def c47r3:=rg 47 Try.f47 3
def c47r5:=rg 47 Try.f47 5
def c47r6:=rg 47 Try.f47 6
def c47r7:=rg 47 Try.f47 7
def c47r8:=rg 47 Try.f47 8
def c47r9:=rg 47 Try.f47 9
def AZ:=rg 47 Try.f47 10
def A1:=rg 47 Try.f47 12
def A2:=rg 47 Try.f47 13
def A0:=rg 47 Try.f47 11
def c47l0:SC:=
 (.seq (.seq (.reg false (some [1,2,5,6,10,66]) AZ) (.cond (.tmp 66) .nop (.exit 2))) (.seq (.block 3 (.seq (.reg false (some [1,2,5,6,10,87]) A1) (.cond (.tmp 87) (.seq (.reg false (some [4]) A2) .ret) .nop))) (.reg false (some [1,2,5,6,10]) A0)))
def c47r4:=rg 47 Try.f47 4
def c47l1:SC:=
 (.seq (.seq (.reg false (some [1,2,5,6,21]) c47r3) (.cond (.tmp 21) .nop (.exit 0))) (.seq (.block 1 (.seq (.reg false (some [1,2,5,6,7]) c47r5) (.seq (.reg false (some [1,2,5,6,7,9]) c47r6) (.seq (.seq (.reg false (some [1,2,5,6,59]) c47r7) (.cond (.tmp 59) (.seq (.reg false (some [4]) c47r8) .ret) .nop)) (.seq (.reg false (some [1,2,5,6,10]) c47r9) (.block 2 (.loop c47l0))))))) (.reg false (some [1,2,5,6]) c47r4)))
def A3:=rg 47 Try.f47 14
def A4:=rg 47 Try.f47 15
def A5:=rg 47 Try.f47 16
def A7:=rg 47 Try.f47 18
def A8:=rg 47 Try.f47 19
def A9:=rg 47 Try.f47 20
def Bb:=rg 47 Try.f47 22
def Bc:=rg 47 Try.f47 23
def Be:=rg 47 Try.f47 25
def Bf:=rg 47 Try.f47 26
def Bd:=rg 47 Try.f47 24
def c47l2:SC:=
 (.seq (.seq (.reg false (some [1,2,5,11,12,13,14,15,106]) Bc) (.cond (.tmp 106) .nop (.exit 8))) (.seq (.block 9 (.seq (.reg false (some [1,2,5,11,12,13,14,15,117]) Be) (.cond (.tmp 117) (.reg false (some [1,2,5,11,12,13,14,15]) Bf) .nop))) (.reg false (some [1,2,5,11,12,13,14,15]) Bd)))
def Ba:=rg 47 Try.f47 21
def c47l3:SC:=
 (.seq (.seq (.reg false (some [1,2,5,11,12,13,14,97]) A9) (.cond (.tmp 97) .nop (.exit 6))) (.seq (.block 7 (.seq (.reg false (some [1,2,5,11,12,13,14,15]) Bb) (.block 8 (.loop c47l2)))) (.reg false (some [1,2,5,11,12,13,14]) Ba)))
def Bg:=rg 47 Try.f47 27
def Bh:=rg 47 Try.f47 28
def A6:=rg 47 Try.f47 17
def c47l4:SC:=
 (.seq (.seq (.reg false (some [1,2,5,11,12,92]) A5) (.cond (.tmp 92) .nop (.exit 4))) (.seq (.block 5 (.seq (.reg false (some [1,2,5,11,12,13]) A7) (.seq (.seq (.reg false (some [1,2,5,11,12,13,14]) A8) (.block 6 (.loop c47l3))) (.seq (.reg false (some [1,2,5,11,12,137]) Bg) (.cond (.tmp 137) (.seq (.reg false (some [4]) Bh) .ret) .nop))))) (.reg false (some [1,2,5,11,12]) A6)))
def Bi:=rg 47 Try.f47 29
def c47:SC:=
 (.seq (.reg false (some [1,2]) c47r0) (.seq (.reg false (some [1,2,5]) c47r1) (.seq (.seq (.reg false (some [1,2,5,6]) c47r2) (.block 0 (.loop c47l1))) (.seq (.reg false (some [1,2,5,11]) A3) (.seq (.seq (.reg false (some [1,2,5,11,12]) A4) (.block 4 (.loop c47l4))) (.seq (.reg false (some [4]) Bi) .ret))))))
theorem s47:Try.f47.body.bind (bh Try.prog An 47 Try.f47.ntmps)=some c47:=by kernel_rfl
theorem g47:An.glob 47=[]:=rfl
theorem r47:Try.f47.results.toList=[(.tmp 4)]:=by kernel_rfl
theorem t47r0 (h:Obt (ap (ac L 0)) fun a0=>Q .normal ⟨[(1,(ac L 1)),(2,(bo m 32))],(bw m 32 a0)⟩):Rg F 47 [1,2] c47r0 L m Q:=ae (by kernel_rfl) h
theorem t47r1 (h:Obt (aA 0 (ac L 2)) fun a0=>Obt (ld1 m a0) fun a1=>Obt (lenS a1) fun a2=>Q .normal ⟨[(1,(ac L 1)),(2,(ac L 2)),(5,a2)],m⟩):Rg F 47 [1,2,5] c47r1 L m Q:=ae (by kernel_rfl) h
theorem t47r2 (h:Q .normal ⟨[(1,(ac L 1)),(2,(ac L 2)),(5,(ac L 5)),(6,(.int .i64 0))],m⟩):Rg F 47 [1,2,5,6] c47r2 L m Q:=ae (by kernel_rfl) h
theorem p8 (h:Obt (aw Try.prog .lss 3 (.tmp 19) (.tmp 20) (ac L 6) (ac L 5)) fun a0=>Q .normal ⟨[(1,(ac L 1)),(2,(ac L 2)),(5,(ac L 5)),(6,(ac L 6)),(21,a0)],m⟩):Rg F 47 [1,2,5,6,21] c47r3 L m Q:=ae (by kernel_rfl) h
theorem sV (h:Obt (aA 0 (ac L 2)) fun a0=>Obt (ld1 m a0) fun a1=>Obt (bd 10 a1 (ac L 6)) fun a2=>Obt (aA 3 a2) fun a3=>Obt (ldA 7 m a3) fun a4=>Obt (stX 7 (bw m 112 [.int .i64 0,.int .i64 0,.bool false,.int .i64 0,.int .i64 0,.int .i64 0,.int .i64 0]) (bo m 112) a4) fun a5=>Q .normal ⟨[(1,(ac L 1)),(2,(ac L 2)),(5,(ac L 5)),(6,(ac L 6)),(7,(bo m 112))],a5⟩):Rg F 47 [1,2,5,6,7] c47r5 L m Q:=ae (by kernel_rfl) h
theorem sW (h:Obt (aA 1 (ac L 7)) fun a0=>Obt (ld1 m a0) fun a1=>Obt (aB An F 47 (some 33) 71 [a1,(.int .u64 0),(.int .u64 0),(.bool true)] m) fun a2=>Obt (cV 0 a2.1) fun a3=>Obt (cV 1 a2.1) fun a4=>Q .normal ⟨[(1,(ac L 1)),(2,(ac L 2)),(5,(ac L 5)),(6,(ac L 6)),(7,(ac L 7)),(9,a4)],a2.2⟩):Rg F 47 [1,2,5,6,7,9] c47r6 L m Q:=ae (by kernel_rfl) h
theorem sX (h:Obt (aA 0 (ac L 7)) fun a0=>Obt (ld1 m a0) fun a1=>Obt (aw Try.prog .lss 54 (.tmp 37) (.const (.int .i64 1)) a1 (.int .i64 1)) fun a2=>Obt (gdO a2 false ((aA 0 (ac L 7)).map fun v=>(v,m)) (.tuple [],m)) fun a3=>Obt (gdO a2 false ((ld1 a3.2 a3.1).map fun v=>(v,a3.2)) (.tuple [],a3.2)) fun a4=>Obt (gdO a2 false ((aw Try.prog .gtr 54 (.tmp 41) (.const (.int .i64 3)) a4.1 (.int .i64 3)).map fun v=>(v,a4.2)) (.tuple [],a4.2)) fun a5=>Obt (aT a2 (.bool true) a5.1) fun a6=>Obt (gdO a6 false ((aA 0 (ac L 7)).map fun v=>(v,a5.2)) (.tuple [],a5.2)) fun a7=>Obt (gdO a6 false ((ld1 a7.2 a7.1).map fun v=>(v,a7.2)) (.tuple [],a7.2)) fun a8=>Obt (gdO a6 false ((aw Try.prog .eql 54 (.tmp 46) (.const (.int .i64 2)) a8.1 (.int .i64 2)).map fun v=>(v,a8.2)) (.tuple [],a8.2)) fun a9=>Obt (gdO a6 false (some (a9.1,a9.2)) (.tuple [],a9.2)) fun a10=>Obt (gdO a10.1 true (some ((ac L 9),a10.2)) (.tuple [],a10.2)) fun a11=>Obt (gdO a10.1 true ((cun .not a11.1).map fun v=>(v,a11.2)) (.tuple [],a11.2)) fun a12=>Obt (gdO a10.1 true (some (a12.1,a12.2)) (.tuple [],a12.2)) fun a13=>Obt (gdO a13.1 false ((aA 5 (ac L 7)).map fun v=>(v,a13.2)) (.tuple [],a13.2)) fun a14=>Obt (gdO a13.1 false ((ld1 a14.2 a14.1).map fun v=>(v,a14.2)) (.tuple [],a14.2)) fun a15=>Obt (gdO a13.1 false ((aA 6 (ac L 7)).map fun v=>(v,a15.2)) (.tuple [],a15.2)) fun a16=>Obt (gdO a13.1 false ((ld1 a16.2 a16.1).map fun v=>(v,a16.2)) (.tuple [],a16.2)) fun a17=>Obt (gdO a13.1 false ((aw Try.prog .eql 3 (.tmp 53) (.tmp 55) a15.1 a17.1).map fun v=>(v,a17.2)) (.tuple [],a17.2)) fun a18=>Obt (gdO a10.1 true ((aT a13.1 (.bool true) a18.1).map fun v=>(v,a18.2)) (.tuple [],a18.2)) fun a19=>Obt (gdO a6 false ((aT a10.1 a19.1 (.bool false)).map fun v=>(v,a19.2)) (.tuple [],a19.2)) fun a20=>Obt (aT a6 (.bool true) a20.1) fun a21=>Q .normal ⟨[(1,(ac L 1)),(2,(ac L 2)),(5,(ac L 5)),(6,(ac L 6)),(59,a21)],a20.2⟩):Rg F 47 [1,2,5,6,59] c47r7 L m Q:=ae (by kernel_rfl) h
theorem wx (h:Q .normal ⟨[(4,(.bool false))],m⟩):Rg F 47 [4] c47r8 L m Q:=ae (by kernel_rfl) h
theorem t47r9 (h:Q .normal ⟨[(1,(ac L 1)),(2,(ac L 2)),(5,(ac L 5)),(6,(ac L 6)),(10,(.int .i64 0))],m⟩):Rg F 47 [1,2,5,6,10] c47r9 L m Q:=ae (by kernel_rfl) h
theorem rc (h:Obt (bd 1 (ac L 1) (ac L 6)) fun a0=>Obt (ld1 m a0) fun a1=>Obt (lenS a1) fun a2=>Obt (aw Try.prog .lss 3 (.tmp 60) (.tmp 65) (ac L 10) a2) fun a3=>Q .normal ⟨[(1,(ac L 1)),(2,(ac L 2)),(5,(ac L 5)),(6,(ac L 6)),(10,(ac L 10)),(66,a3)],m⟩):Rg F 47 [1,2,5,6,10,66] AZ L m Q:=ae (by kernel_rfl) h
theorem uu (h:Obt (bd 1 (ac L 1) (ac L 6)) fun a0=>Obt (ld1 m a0) fun a1=>Obt (bd 1 a1 (ac L 10)) fun a2=>Obt (ld1 m a2) fun a3=>Obt (aw Try.prog .lss 3 (.tmp 75) (.const (.int .i64 0)) a3 (.int .i64 0)) fun a4=>Obt (gdO a4 false (some ((ac L 1),m)) (.tuple [],m)) fun a5=>Obt (gdO a4 false (some ((ac L 6),a5.2)) (.tuple [],a5.2)) fun a6=>Obt (gdO a4 false ((bd 1 a5.1 a6.1).map fun v=>(v,a6.2)) (.tuple [],a6.2)) fun a7=>Obt (gdO a4 false ((ld1 a7.2 a7.1).map fun v=>(v,a7.2)) (.tuple [],a7.2)) fun a8=>Obt (gdO a4 false (some ((ac L 10),a8.2)) (.tuple [],a8.2)) fun a9=>Obt (gdO a4 false ((bd 1 a8.1 a9.1).map fun v=>(v,a9.2)) (.tuple [],a9.2)) fun a10=>Obt (gdO a4 false ((ld1 a10.2 a10.1).map fun v=>(v,a10.2)) (.tuple [],a10.2)) fun a11=>Obt (gdO a4 false (some ((ac L 5),a11.2)) (.tuple [],a11.2)) fun a12=>Obt (gdO a4 false ((aw Try.prog .geq 3 (.tmp 84) (.tmp 85) a11.1 a12.1).map fun v=>(v,a12.2)) (.tuple [],a12.2)) fun a13=>Obt (aT a4 (.bool true) a13.1) fun a14=>Q .normal ⟨[(1,(ac L 1)),(2,(ac L 2)),(5,(ac L 5)),(6,(ac L 6)),(10,(ac L 10)),(87,a14)],a13.2⟩):Rg F 47 [1,2,5,6,10,87] A1 L m Q:=ae (by kernel_rfl) h
theorem E0 (h:Q .normal ⟨[(4,(.bool false))],m⟩):Rg F 47 [4] A2 L m Q:=ae (by kernel_rfl) h
theorem t47r11 (h:Obt (aw Try.prog .add 3 (.tmp 67) (.const (.int .i64 1)) (ac L 10) (.int .i64 1)) fun a0=>Q .normal ⟨[(1,(ac L 1)),(2,(ac L 2)),(5,(ac L 5)),(6,(ac L 6)),(10,a0)],m⟩):Rg F 47 [1,2,5,6,10] A0 L m Q:=ae (by kernel_rfl) h
theorem t47r4 (h:Obt (aw Try.prog .add 3 (.tmp 22) (.const (.int .i64 1)) (ac L 6) (.int .i64 1)) fun a0=>Q .normal ⟨[(1,(ac L 1)),(2,(ac L 2)),(5,(ac L 5)),(6,a0)],m⟩):Rg F 47 [1,2,5,6] c47r4 L m Q:=ae (by kernel_rfl) h
theorem t47r14 (h:Obt (aB An F 47 (some 89) 72 [(ac L 1)] m) fun a0=>Q .normal ⟨[(1,(ac L 1)),(2,(ac L 2)),(5,(ac L 5)),(11,a0.1)],a0.2⟩):Rg F 47 [1,2,5,11] A3 L m Q:=ae (by kernel_rfl) h
theorem t47r15 (h:Q .normal ⟨[(1,(ac L 1)),(2,(ac L 2)),(5,(ac L 5)),(11,(ac L 11)),(12,(.int .i64 0))],m⟩):Rg F 47 [1,2,5,11,12] A4 L m Q:=ae (by kernel_rfl) h
theorem E2 (h:Obt (aw Try.prog .lss 3 (.tmp 90) (.tmp 91) (ac L 12) (ac L 5)) fun a0=>Q .normal ⟨[(1,(ac L 1)),(2,(ac L 2)),(5,(ac L 5)),(11,(ac L 11)),(12,(ac L 12)),(92,a0)],m⟩):Rg F 47 [1,2,5,11,12,92] A5 L m Q:=ae (by kernel_rfl) h
theorem t47r18 (h:Q .normal ⟨[(1,(ac L 1)),(2,(ac L 2)),(5,(ac L 5)),(11,(ac L 11)),(12,(ac L 12)),(13,.nil)],m⟩):Rg F 47 [1,2,5,11,12,13] A7 L m Q:=ae (by kernel_rfl) h
theorem t47r19 (h:Q .normal ⟨[(1,(ac L 1)),(2,(ac L 2)),(5,(ac L 5)),(11,(ac L 11)),(12,(ac L 12)),(13,(ac L 13)),(14,(.int .i64 0))],m⟩):Rg F 47 [1,2,5,11,12,13,14] A8 L m Q:=ae (by kernel_rfl) h
theorem rd (h:Obt (aw Try.prog .lss 3 (.tmp 95) (.tmp 96) (ac L 14) (ac L 5)) fun a0=>Q .normal ⟨[(1,(ac L 1)),(2,(ac L 2)),(5,(ac L 5)),(11,(ac L 11)),(12,(ac L 12)),(13,(ac L 13)),(14,(ac L 14)),(97,a0)],m⟩):Rg F 47 [1,2,5,11,12,13,14,97] A9 L m Q:=ae (by kernel_rfl) h
theorem t47r22 (h:Q .normal ⟨[(1,(ac L 1)),(2,(ac L 2)),(5,(ac L 5)),(11,(ac L 11)),(12,(ac L 12)),(13,(ac L 13)),(14,(ac L 14)),(15,(.int .i64 0))],m⟩):Rg F 47 [1,2,5,11,12,13,14,15] Bb L m Q:=ae (by kernel_rfl) h
theorem uv (h:Obt (bd 1 (ac L 1) (ac L 14)) fun a0=>Obt (ld1 m a0) fun a1=>Obt (lenS a1) fun a2=>Obt (aw Try.prog .lss 3 (.tmp 100) (.tmp 105) (ac L 15) a2) fun a3=>Q .normal ⟨[(1,(ac L 1)),(2,(ac L 2)),(5,(ac L 5)),(11,(ac L 11)),(12,(ac L 12)),(13,(ac L 13)),(14,(ac L 14)),(15,(ac L 15)),(106,a3)],m⟩):Rg F 47 [1,2,5,11,12,13,14,15,106] Bc L m Q:=ae (by kernel_rfl) h
theorem E4 (h:Obt (bd 1 (ac L 1) (ac L 14)) fun a0=>Obt (ld1 m a0) fun a1=>Obt (bd 1 a1 (ac L 15)) fun a2=>Obt (ld1 m a2) fun a3=>Obt (aw Try.prog .eql 3 (.tmp 115) (.tmp 116) a3 (ac L 12)) fun a4=>Q .normal ⟨[(1,(ac L 1)),(2,(ac L 2)),(5,(ac L 5)),(11,(ac L 11)),(12,(ac L 12)),(13,(ac L 13)),(14,(ac L 14)),(15,(ac L 15)),(117,a4)],m⟩):Rg F 47 [1,2,5,11,12,13,14,15,117] Be L m Q:=ae (by kernel_rfl) h
theorem t47r26 (h:Obt (cd false 1920 1 1 [.int .i64 0] [(0,1,(ac L 14))] m) fun a0=>Obt (ej false 1936 1 8 (ac L 13) a0.1 a0.2) fun a1=>Q .normal ⟨[(1,(ac L 1)),(2,(ac L 2)),(5,(ac L 5)),(11,(ac L 11)),(12,(ac L 12)),(13,a1.1),(14,(ac L 14)),(15,(ac L 15))],a1.2⟩):Rg F 47 [1,2,5,11,12,13,14,15] Bf L m Q:=ae (by kernel_rfl) h
theorem E3 (h:Obt (aw Try.prog .add 3 (.tmp 107) (.const (.int .i64 1)) (ac L 15) (.int .i64 1)) fun a0=>Q .normal ⟨[(1,(ac L 1)),(2,(ac L 2)),(5,(ac L 5)),(11,(ac L 11)),(12,(ac L 12)),(13,(ac L 13)),(14,(ac L 14)),(15,a0)],m⟩):Rg F 47 [1,2,5,11,12,13,14,15] Bd L m Q:=ae (by kernel_rfl) h
theorem t47r21 (h:Obt (aw Try.prog .add 3 (.tmp 98) (.const (.int .i64 1)) (ac L 14) (.int .i64 1)) fun a0=>Q .normal ⟨[(1,(ac L 1)),(2,(ac L 2)),(5,(ac L 5)),(11,(ac L 11)),(12,(ac L 12)),(13,(ac L 13)),(14,a0)],m⟩):Rg F 47 [1,2,5,11,12,13,14] Ba L m Q:=ae (by kernel_rfl) h
theorem uw (h:Obt (bd 1 (ac L 11) (ac L 12)) fun a0=>Obt (ld1 m a0) fun a1=>Obt (cun .not a1) fun a2=>Obt (gdO a2 false (some ((ac L 13),m)) (.tuple [],m)) fun a3=>Obt (gdO a2 false ((aA 0 (ac L 2)).map fun v=>(v,a3.2)) (.tuple [],a3.2)) fun a4=>Obt (gdO a2 false ((ld1 a4.2 a4.1).map fun v=>(v,a4.2)) (.tuple [],a4.2)) fun a5=>Obt (gdO a2 false (some ((ac L 12),a5.2)) (.tuple [],a5.2)) fun a6=>Obt (gdO a2 false ((bd 10 a5.1 a6.1).map fun v=>(v,a6.2)) (.tuple [],a6.2)) fun a7=>Obt (gdO a2 false ((aA 0 a7.1).map fun v=>(v,a7.2)) (.tuple [],a7.2)) fun a8=>Obt (gdO a2 false ((ld1 a8.2 a8.1).map fun v=>(v,a8.2)) (.tuple [],a8.2)) fun a9=>Obt (gdO a2 false (aB An F 47 (some 135) 44 [a3.1,a9.1] a9.2) (.tuple [],a9.2)) fun a10=>Obt (gdO a2 false ((cun .not a10.1).map fun v=>(v,a10.2)) (.tuple [],a10.2)) fun a11=>Obt (aT a2 (.bool true) a11.1) fun a12=>Q .normal ⟨[(1,(ac L 1)),(2,(ac L 2)),(5,(ac L 5)),(11,(ac L 11)),(12,(ac L 12)),(137,a12)],a11.2⟩):Rg F 47 [1,2,5,11,12,137] Bg L m Q:=ae (by kernel_rfl) h
theorem E5 (h:Q .normal ⟨[(4,(.bool false))],m⟩):Rg F 47 [4] Bh L m Q:=ae (by kernel_rfl) h
theorem t47r17 (h:Obt (aw Try.prog .add 3 (.tmp 93) (.const (.int .i64 1)) (ac L 12) (.int .i64 1)) fun a0=>Q .normal ⟨[(1,(ac L 1)),(2,(ac L 2)),(5,(ac L 5)),(11,(ac L 11)),(12,a0)],m⟩):Rg F 47 [1,2,5,11,12] A6 L m Q:=ae (by kernel_rfl) h
theorem t47r29 (h:Obt (aA 0 (ac L 2)) fun a0=>Obt (ld1 m a0) fun a1=>Obt (bd 10 a1 (.int .i64 0)) fun a2=>Obt (aA 0 a2) fun a3=>Obt (ld1 m a3) fun a4=>Obt (lenS a4) fun a5=>Obt (aw Try.prog .eql 3 (.tmp 143) (.const (.int .i64 0)) a5 (.int .i64 0)) fun a6=>Q .normal ⟨[(4,a6)],m⟩):Rg F 47 [4] Bi L m Q:=ae (by kernel_rfl) h
def c71r0:=rg 71 Try.f71 0
def c71r1:=rg 71 Try.f71 1
def c71r2:=rg 71 Try.f71 2
def c71r3:=rg 71 Try.f71 3
def c71r4:=rg 71 Try.f71 4
def c71r5:=rg 71 Try.f71 5
def c71r6:=rg 71 Try.f71 6
def c71r7:=rg 71 Try.f71 7
def c71r8:=rg 71 Try.f71 8
def c71r9:=rg 71 Try.f71 9
def c71r10:=rg 71 Try.f71 10
def Cv:=rg 71 Try.f71 11
def c71r12:=rg 71 Try.f71 12
def Cw:=rg 71 Try.f71 13
def c71r14:=rg 71 Try.f71 14
def Cx:=rg 71 Try.f71 15
def c71r16:=rg 71 Try.f71 16
def Cy:=rg 71 Try.f71 17
def c71r18:=rg 71 Try.f71 18
def Cz:=rg 71 Try.f71 19
def c71r20:=rg 71 Try.f71 20
def CA:=rg 71 Try.f71 21
def c71r22:=rg 71 Try.f71 22
def CB:=rg 71 Try.f71 23
def c71r24:=rg 71 Try.f71 24
def CC:=rg 71 Try.f71 25
def c71r26:=rg 71 Try.f71 26
def CD:=rg 71 Try.f71 27
def c71:SC:=
 (.seq (.reg false (some [0,1,2,3]) c71r0) (.seq (.seq (.reg false (some [0,1,2,3,11]) c71r1) (.cond (.tmp 11) (.seq (.reg false (some [0,1,2,3]) c71r2) (.reg false (some [0,1,2,3]) c71r3)) .nop)) (.seq (.seq (.reg false (some [1,2,3,16]) c71r4) (.block 0 (.seq (.reg false (some [1,2,3,16,17]) c71r5) (.cond (.tmp 17) (.seq (.reg false (some [8,9]) c71r6) .ret) (.seq (.reg false (some [1,2,3,16,22]) c71r7) (.cond (.tmp 22) (.seq (.reg false (some [8,9]) c71r8) .ret) (.seq (.reg false (some [1,2,3,16,27]) c71r9) (.cond (.tmp 27) (.seq (.reg false (some [8,9]) c71r10) .ret) (.seq (.reg false (some [1,2,3,16,33]) Cv) (.cond (.tmp 33) (.seq (.reg false (some [8,9]) c71r12) .ret) (.seq (.reg false (some [1,2,3,16,39]) Cw) (.cond (.tmp 39) (.seq (.reg false (some [8,9]) c71r14) .ret) (.seq (.reg false (some [1,2,3,16,46]) Cx) (.cond (.tmp 46) (.seq (.reg false (some [8,9]) c71r16) .ret) (.seq (.reg false (some [1,2,3,16,52]) Cy) (.cond (.tmp 52) (.seq (.reg false (some [8,9]) c71r18) .ret) (.seq (.reg false (some [1,2,3,16,59]) Cz) (.cond (.tmp 59) (.seq (.reg false (some [8,9]) c71r20) .ret) (.seq (.reg false (some [1,2,3,16,65]) CA) (.cond (.tmp 65) (.seq (.reg false (some [8,9]) c71r22) .ret) (.seq (.reg false (some [1,2,3,16,72]) CB) (.cond (.tmp 72) (.seq (.reg false (some [8,9]) c71r24) .ret) (.seq (.reg false (some [1,2,3,78]) CC) (.cond (.tmp 78) (.seq (.reg false (some [8,9]) c71r26) .ret) .nop)))))))))))))))))))))))) (.seq (.reg false (some [8,9]) CD) .ret))))
theorem s71:Try.f71.body.bind (bh Try.prog An 71 Try.f71.ntmps)=some c71:=by kernel_rfl
theorem g71:An.glob 71=[]:=rfl
theorem r71:Try.f71.results.toList=[(.tmp 8),(.tmp 9)]:=by kernel_rfl
theorem t71r0 (h:Q .normal ⟨[(0,(ac L 0)),(1,(ac L 1)),(2,(ac L 2)),(3,(ac L 3))],m⟩):Rg F 71 [0,1,2,3] c71r0 L m Q:=ae (by kernel_rfl) h
theorem t71r1 (h:Obt (cun .not (ac L 3)) fun a0=>Q .normal ⟨[(0,(ac L 0)),(1,(ac L 1)),(2,(ac L 2)),(3,(ac L 3)),(11,a0)],m⟩):Rg F 71 [0,1,2,3,11] c71r1 L m Q:=ae (by kernel_rfl) h
theorem t71r4 (h:Q .normal ⟨[(1,(ac L 1)),(2,(ac L 2)),(3,(ac L 3)),(16,(ac L 0))],m⟩):Rg F 71 [1,2,3,16] c71r4 L m Q:=ae (by kernel_rfl) h
theorem t71r5 (h:Obt (aw Try.prog .eql 3 (.tmp 16) (.const (.int .i64 16)) (ac L 16) (.int .i64 16)) fun a0=>Q .normal ⟨[(1,(ac L 1)),(2,(ac L 2)),(3,(ac L 3)),(16,(ac L 16)),(17,a0)],m⟩):Rg F 71 [1,2,3,16,17] c71r5 L m Q:=ae (by kernel_rfl) h
theorem t71r7 (h:Obt (aw Try.prog .eql 3 (.tmp 16) (.const (.int .i64 80)) (ac L 16) (.int .i64 80)) fun a0=>Q .normal ⟨[(1,(ac L 1)),(2,(ac L 2)),(3,(ac L 3)),(16,(ac L 16)),(22,a0)],m⟩):Rg F 71 [1,2,3,16,22] c71r7 L m Q:=ae (by kernel_rfl) h
theorem t71r9 (h:Obt (aw Try.prog .eql 3 (.tmp 16) (.const (.int .i64 64)) (ac L 16) (.int .i64 64)) fun a0=>Q .normal ⟨[(1,(ac L 1)),(2,(ac L 2)),(3,(ac L 3)),(16,(ac L 16)),(27,a0)],m⟩):Rg F 71 [1,2,3,16,27] c71r9 L m Q:=ae (by kernel_rfl) h
theorem t71r11 (h:Obt (aw Try.prog .eql 3 (.tmp 16) (.const (.int .i64 32)) (ac L 16) (.int .i64 32)) fun a0=>Q .normal ⟨[(1,(ac L 1)),(2,(ac L 2)),(3,(ac L 3)),(16,(ac L 16)),(33,a0)],m⟩):Rg F 71 [1,2,3,16,33] Cv L m Q:=ae (by kernel_rfl) h
theorem t71r13 (h:Obt (aw Try.prog .eql 3 (.tmp 16) (.const (.int .i64 48)) (ac L 16) (.int .i64 48)) fun a0=>Q .normal ⟨[(1,(ac L 1)),(2,(ac L 2)),(3,(ac L 3)),(16,(ac L 16)),(39,a0)],m⟩):Rg F 71 [1,2,3,16,39] Cw L m Q:=ae (by kernel_rfl) h
theorem t71r15 (h:Obt (aw Try.prog .eql 3 (.tmp 16) (.const (.int .i64 160)) (ac L 16) (.int .i64 160)) fun a0=>Q .normal ⟨[(1,(ac L 1)),(2,(ac L 2)),(3,(ac L 3)),(16,(ac L 16)),(46,a0)],m⟩):Rg F 71 [1,2,3,16,46] Cx L m Q:=ae (by kernel_rfl) h
theorem t71r17 (h:Obt (aw Try.prog .eql 3 (.tmp 16) (.const (.int .i64 176)) (ac L 16) (.int .i64 176)) fun a0=>Q .normal ⟨[(1,(ac L 1)),(2,(ac L 2)),(3,(ac L 3)),(16,(ac L 16)),(52,a0)],m⟩):Rg F 71 [1,2,3,16,52] Cy L m Q:=ae (by kernel_rfl) h
theorem t71r19 (h:Obt (aw Try.prog .eql 3 (.tmp 16) (.const (.int .i64 96)) (ac L 16) (.int .i64 96)) fun a0=>Q .normal ⟨[(1,(ac L 1)),(2,(ac L 2)),(3,(ac L 3)),(16,(ac L 16)),(59,a0)],m⟩):Rg F 71 [1,2,3,16,59] Cz L m Q:=ae (by kernel_rfl) h
theorem t71r21 (h:Obt (aw Try.prog .eql 3 (.tmp 16) (.const (.int .i64 112)) (ac L 16) (.int .i64 112)) fun a0=>Q .normal ⟨[(1,(ac L 1)),(2,(ac L 2)),(3,(ac L 3)),(16,(ac L 16)),(65,a0)],m⟩):Rg F 71 [1,2,3,16,65] CA L m Q:=ae (by kernel_rfl) h
theorem t71r23 (h:Obt (aw Try.prog .eql 3 (.tmp 16) (.const (.int .i64 192)) (ac L 16) (.int .i64 192)) fun a0=>Q .normal ⟨[(1,(ac L 1)),(2,(ac L 2)),(3,(ac L 3)),(16,(ac L 16)),(72,a0)],m⟩):Rg F 71 [1,2,3,16,72] CB L m Q:=ae (by kernel_rfl) h
theorem t71r25 (h:Obt (aw Try.prog .eql 3 (.tmp 16) (.const (.int .i64 208)) (ac L 16) (.int .i64 208)) fun a0=>Q .normal ⟨[(1,(ac L 1)),(2,(ac L 2)),(3,(ac L 3)),(78,a0)],m⟩):Rg F 71 [1,2,3,78] CC L m Q:=ae (by kernel_rfl) h
theorem t71r27 (h:Q .normal ⟨[(8,(.bool false)),(9,(.bool false))],m⟩):Rg F 71 [8,9] CD L m Q:=ae (by kernel_rfl) h
def yf:=rg 101 Try.f101 0
def yg:=rg 101 Try.f101 1
def yh:=rg 101 Try.f101 2
def c101r3:=rg 101 Try.f101 3
def c101r4:=rg 101 Try.f101 4
def c101r5:=rg 101 Try.f101 5
def yi:=rg 101 Try.f101 6
def yj:=rg 101 Try.f101 7
def yl:=rg 101 Try.f101 9
def c101r10:=rg 101 Try.f101 10
def vg:=rg 101 Try.f101 11
def c101r12:=rg 101 Try.f101 12
def vh:=rg 101 Try.f101 13
def c101r14:=rg 101 Try.f101 14
def vj:=rg 101 Try.f101 15
def c101r16:=rg 101 Try.f101 16
def c101r17:=rg 101 Try.f101 17
def vk:=rg 101 Try.f101 18
def c101r19:=rg 101 Try.f101 19
def c101r20:=rg 101 Try.f101 20
def c101r21:=rg 101 Try.f101 21
def vm:=rg 101 Try.f101 22
def c101r23:=rg 101 Try.f101 23
def vn:=rg 101 Try.f101 24
def c101r25:=rg 101 Try.f101 25
def vq:=rg 101 Try.f101 26
def c101r27:=rg 101 Try.f101 27
def vt:=rg 101 Try.f101 28
def vu:=rg 101 Try.f101 29
def vw:=rg 101 Try.f101 30
def c101r31:=rg 101 Try.f101 31
def vz:=rg 101 Try.f101 32
def c101r33:=rg 101 Try.f101 33
def vA:=rg 101 Try.f101 34
def c101r35:=rg 101 Try.f101 35
def yk:=rg 101 Try.f101 8
def c101r36:=rg 101 Try.f101 36
def c101r37:=rg 101 Try.f101 37
def c101r38:=rg 101 Try.f101 38
def c101:SC:=
 (.seq (.reg false (some [0,1,2,3]) yf) (.seq (.reg false (some [0,1,2,3,10]) yg) (.seq (.seq (.reg false (some [0,1,2,3,10,13]) yh) (.cond (.tmp 13) (.seq (.reg false (some [0,1,2,3,10]) c101r3) (.seq (.reg false (some [0,1,2,3,10]) c101r4) (.reg false (some [0,1,2,3,10]) c101r5))) .nop)) (.seq (.reg false (some [0,1,2,3,10,11]) yi) (.seq (.seq (.reg false (some [0,1,2,3,10,11,18]) yj) (.block 0 (.seq (.reg false (some [0,1,2,3,10,11,18,19]) yl) (.cond (.tmp 19) (.reg false (some [3,11]) c101r10) (.seq (.reg false (some [0,1,2,3,10,11,18,24]) vg) (.cond (.tmp 24) (.reg false (some [3,11]) c101r12) (.seq (.reg false (some [0,1,2,3,10,11,18,29]) vh) (.cond (.tmp 29) (.reg false (some [3,11]) c101r14) (.seq (.reg false (some [0,1,2,3,10,11,18,34]) vj) (.cond (.tmp 34) (.seq (.reg false (some [1,2,3,11,37]) c101r16) (.cond (.tmp 37) (.reg false (some [3,11]) c101r17) .nop)) (.seq (.reg false (some [0,1,2,3,10,18,41]) vk) (.cond (.tmp 41) (.seq (.reg false (some [1,2,3,11]) c101r19) (.seq (.reg false (some [1,2,3,11,45]) c101r20) (.cond (.tmp 45) (.reg false (some [3,11]) c101r21) .nop))) (.seq (.reg false (some [0,1,2,3,10,18,49]) vm) (.cond (.tmp 49) (.reg false (some [3,11]) c101r23) (.seq (.reg false (some [0,1,2,3,10,18,54]) vn) (.cond (.tmp 54) (.reg false (some [3,11]) c101r25) (.seq (.reg false (some [0,1,2,3,10,18,59]) vq) (.cond (.tmp 59) (.reg false (some [3,11]) c101r27) (.seq (.seq (.reg false (some [0,1,2,3,10,18,64]) vt) (.cond (.tmp 64) .nop (.seq (.reg false (some [0,1,2,3,10,18,64]) vu) (.cond (.tmp 64) .nop (.reg false (some [0,1,2,3,10,18,64]) vw))))) (.cond (.tmp 64) (.reg false (some [3,11]) c101r31) (.seq (.reg false (some [1,2,3,18,76]) vz) (.cond (.tmp 76) (.reg false (some [3,11]) c101r33) (.seq (.reg false (some [2,3,80]) vA) (.cond (.tmp 80) (.reg false (some [3,11]) c101r35) (.seq (.reg false (some [8,9]) yk) .ret))))))))))))))))))))))))) (.seq (.seq (.reg false (some [11,84]) c101r36) (.cond (.tmp 84) (.reg false (some [11]) c101r37) .nop)) (.seq (.reg false (some [8,9]) c101r38) .ret)))))))
theorem s101:Try.f101.body.bind (bh Try.prog An 101 Try.f101.ntmps)=some c101:=by kernel_rfl
theorem g101:An.glob 101=[]:=rfl
theorem r101:Try.f101.results.toList=[(.tmp 8),(.tmp 9)]:=by kernel_rfl
theorem t101r0 (h:Q .normal ⟨[(0,(ac L 0)),(1,(ac L 1)),(2,(ac L 2)),(3,(ac L 3))],m⟩):Rg F 101 [0,1,2,3] yf L m Q:=ae (by kernel_rfl) h
theorem t101r1 (h:Q .normal ⟨[(0,(ac L 0)),(1,(ac L 1)),(2,(ac L 2)),(3,(ac L 3)),(10,(.int .u64 64))],m⟩):Rg F 101 [0,1,2,3,10] yg L m Q:=ae (by kernel_rfl) h
theorem t101r2 (h:Obt (cun .not (ac L 3)) fun a0=>Q .normal ⟨[(0,(ac L 0)),(1,(ac L 1)),(2,(ac L 2)),(3,(ac L 3)),(10,(ac L 10)),(13,a0)],m⟩):Rg F 101 [0,1,2,3,10,13] yh L m Q:=ae (by kernel_rfl) h
theorem t101r6 (h:Q .normal ⟨[(0,(ac L 0)),(1,(ac L 1)),(2,(ac L 2)),(3,(ac L 3)),(10,(ac L 10)),(11,(.int .u64 0))],m⟩):Rg F 101 [0,1,2,3,10,11] yi L m Q:=ae (by kernel_rfl) h
theorem t101r7 (h:Q .normal ⟨[(0,(ac L 0)),(1,(ac L 1)),(2,(ac L 2)),(3,(ac L 3)),(10,(ac L 10)),(11,(ac L 11)),(18,(ac L 0))],m⟩):Rg F 101 [0,1,2,3,10,11,18] yj L m Q:=ae (by kernel_rfl) h
theorem t101r9 (h:Obt (aw Try.prog .eql 3 (.tmp 18) (.const (.int .i64 0)) (ac L 18) (.int .i64 0)) fun a0=>Q .normal ⟨[(0,(ac L 0)),(1,(ac L 1)),(2,(ac L 2)),(3,(ac L 3)),(10,(ac L 10)),(11,(ac L 11)),(18,(ac L 18)),(19,a0)],m⟩):Rg F 101 [0,1,2,3,10,11,18,19] yl L m Q:=ae (by kernel_rfl) h
theorem t101r11 (h:Obt (aw Try.prog .eql 3 (.tmp 18) (.const (.int .i64 16)) (ac L 18) (.int .i64 16)) fun a0=>Q .normal ⟨[(0,(ac L 0)),(1,(ac L 1)),(2,(ac L 2)),(3,(ac L 3)),(10,(ac L 10)),(11,(ac L 11)),(18,(ac L 18)),(24,a0)],m⟩):Rg F 101 [0,1,2,3,10,11,18,24] vg L m Q:=ae (by kernel_rfl) h
theorem t101r13 (h:Obt (aw Try.prog .eql 3 (.tmp 18) (.const (.int .i64 32)) (ac L 18) (.int .i64 32)) fun a0=>Q .normal ⟨[(0,(ac L 0)),(1,(ac L 1)),(2,(ac L 2)),(3,(ac L 3)),(10,(ac L 10)),(11,(ac L 11)),(18,(ac L 18)),(29,a0)],m⟩):Rg F 101 [0,1,2,3,10,11,18,29] vh L m Q:=ae (by kernel_rfl) h
theorem t101r15 (h:Obt (aw Try.prog .eql 3 (.tmp 18) (.const (.int .i64 48)) (ac L 18) (.int .i64 48)) fun a0=>Q .normal ⟨[(0,(ac L 0)),(1,(ac L 1)),(2,(ac L 2)),(3,(ac L 3)),(10,(ac L 10)),(11,(ac L 11)),(18,(ac L 18)),(34,a0)],m⟩):Rg F 101 [0,1,2,3,10,11,18,34] vj L m Q:=ae (by kernel_rfl) h
theorem t101r18 (h:Obt (aw Try.prog .eql 3 (.tmp 18) (.const (.int .i64 144)) (ac L 18) (.int .i64 144)) fun a0=>Q .normal ⟨[(0,(ac L 0)),(1,(ac L 1)),(2,(ac L 2)),(3,(ac L 3)),(10,(ac L 10)),(18,(ac L 18)),(41,a0)],m⟩):Rg F 101 [0,1,2,3,10,18,41] vk L m Q:=ae (by kernel_rfl) h
theorem t101r22 (h:Obt (aw Try.prog .eql 3 (.tmp 18) (.const (.int .i64 64)) (ac L 18) (.int .i64 64)) fun a0=>Q .normal ⟨[(0,(ac L 0)),(1,(ac L 1)),(2,(ac L 2)),(3,(ac L 3)),(10,(ac L 10)),(18,(ac L 18)),(49,a0)],m⟩):Rg F 101 [0,1,2,3,10,18,49] vm L m Q:=ae (by kernel_rfl) h
theorem t101r24 (h:Obt (aw Try.prog .eql 3 (.tmp 18) (.const (.int .i64 80)) (ac L 18) (.int .i64 80)) fun a0=>Q .normal ⟨[(0,(ac L 0)),(1,(ac L 1)),(2,(ac L 2)),(3,(ac L 3)),(10,(ac L 10)),(18,(ac L 18)),(54,a0)],m⟩):Rg F 101 [0,1,2,3,10,18,54] vn L m Q:=ae (by kernel_rfl) h
theorem t101r26 (h:Obt (aw Try.prog .eql 3 (.tmp 18) (.const (.int .i64 160)) (ac L 18) (.int .i64 160)) fun a0=>Q .normal ⟨[(0,(ac L 0)),(1,(ac L 1)),(2,(ac L 2)),(3,(ac L 3)),(10,(ac L 10)),(18,(ac L 18)),(59,a0)],m⟩):Rg F 101 [0,1,2,3,10,18,59] vq L m Q:=ae (by kernel_rfl) h
theorem t101r28 (h:Obt (aw Try.prog .eql 3 (.tmp 18) (.const (.int .i64 96)) (ac L 18) (.int .i64 96)) fun a0=>Q .normal ⟨[(0,(ac L 0)),(1,(ac L 1)),(2,(ac L 2)),(3,(ac L 3)),(10,(ac L 10)),(18,(ac L 18)),(64,a0)],m⟩):Rg F 101 [0,1,2,3,10,18,64] vt L m Q:=ae (by kernel_rfl) h
theorem t101r29 (h:Obt (aw Try.prog .eql 3 (.tmp 18) (.const (.int .i64 112)) (ac L 18) (.int .i64 112)) fun a0=>Q .normal ⟨[(0,(ac L 0)),(1,(ac L 1)),(2,(ac L 2)),(3,(ac L 3)),(10,(ac L 10)),(18,(ac L 18)),(64,a0)],m⟩):Rg F 101 [0,1,2,3,10,18,64] vu L m Q:=ae (by kernel_rfl) h
theorem t101r30 (h:Obt (aw Try.prog .eql 3 (.tmp 18) (.const (.int .i64 192)) (ac L 18) (.int .i64 192)) fun a0=>Q .normal ⟨[(0,(ac L 0)),(1,(ac L 1)),(2,(ac L 2)),(3,(ac L 3)),(10,(ac L 10)),(18,(ac L 18)),(64,a0)],m⟩):Rg F 101 [0,1,2,3,10,18,64] vw L m Q:=ae (by kernel_rfl) h
theorem t101r32 (h:Obt (aw Try.prog .eql 3 (.tmp 18) (.const (.int .i64 128)) (ac L 18) (.int .i64 128)) fun a0=>Q .normal ⟨[(1,(ac L 1)),(2,(ac L 2)),(3,(ac L 3)),(18,(ac L 18)),(76,a0)],m⟩):Rg F 101 [1,2,3,18,76] vz L m Q:=ae (by kernel_rfl) h
theorem t101r34 (h:Obt (aw Try.prog .eql 3 (.tmp 18) (.const (.int .i64 176)) (ac L 18) (.int .i64 176)) fun a0=>Q .normal ⟨[(2,(ac L 2)),(3,(ac L 3)),(80,a0)],m⟩):Rg F 101 [2,3,80] vA L m Q:=ae (by kernel_rfl) h
theorem t101r8 (h:Q .normal ⟨[(8,(.int .u64 0)),(9,(.bool false))],m⟩):Rg F 101 [8,9] yk L m Q:=ae (by kernel_rfl) h
def ym:=rg 102 Try.f102 0
def yn:=rg 102 Try.f102 1
def c102:SC:=
 (.seq (.reg false (some [0]) ym) (.seq (.reg false (some [2]) yn) .ret))
theorem s102:Try.f102.body.bind (bh Try.prog An 102 Try.f102.ntmps)=some c102:=by kernel_rfl
theorem g102:An.glob 102=[]:=rfl
theorem r102:Try.f102.results.toList=[(.tmp 2)]:=by kernel_rfl
theorem t102r0 (h:Q .normal ⟨[(0,(ac L 0))],m⟩):Rg F 102 [0] ym L m Q:=ae (by kernel_rfl) h
theorem t102r1 (h:Obt (aw Try.prog .eql 3 (.tmp 3) (.const (.int .i64 1)) (ac L 0) (.int .i64 1)) fun a0=>Obt (gdO a0 false (some ((ac L 0),m)) (.tuple [],m)) fun a1=>Obt (gdO a0 false ((aw Try.prog .eql 3 (.tmp 6) (.const (.int .i64 2)) a1.1 (.int .i64 2)).map fun v=>(v,a1.2)) (.tuple [],a1.2)) fun a2=>Obt (aT a0 (.bool true) a2.1) fun a3=>Obt (gdO a3 false (some ((ac L 0),a2.2)) (.tuple [],a2.2)) fun a4=>Obt (gdO a3 false ((aw Try.prog .eql 3 (.tmp 10) (.const (.int .i64 4)) a4.1 (.int .i64 4)).map fun v=>(v,a4.2)) (.tuple [],a4.2)) fun a5=>Obt (aT a3 (.bool true) a5.1) fun a6=>Obt (gdO a6 false (some ((ac L 0),a5.2)) (.tuple [],a5.2)) fun a7=>Obt (gdO a6 false ((aw Try.prog .eql 3 (.tmp 14) (.const (.int .i64 8)) a7.1 (.int .i64 8)).map fun v=>(v,a7.2)) (.tuple [],a7.2)) fun a8=>Obt (aT a6 (.bool true) a8.1) fun a9=>Q .normal ⟨[(2,a9)],a8.2⟩):Rg F 102 [2] yn L m Q:=ae (by kernel_rfl) h
def yo:=rg 103 Try.f103 0
def yp:=rg 103 Try.f103 1
def yq:=rg 103 Try.f103 2
def c103r3:=rg 103 Try.f103 3
def yr:=rg 103 Try.f103 4
def c103r5:=rg 103 Try.f103 5
def yu:=rg 103 Try.f103 6
def c103r7:=rg 103 Try.f103 7
def yv:=rg 103 Try.f103 8
def c103r9:=rg 103 Try.f103 9
def vB:=rg 103 Try.f103 10
def c103r11:=rg 103 Try.f103 11
def vC:=rg 103 Try.f103 12
def c103:SC:=
 (.seq (.reg false (some [0,2]) yo) (.seq (.seq (.reg false (some [2,4]) yp) (.block 0 (.seq (.reg false (some [2,4,5]) yq) (.cond (.tmp 5) (.seq (.reg false (some [2,3]) c103r3) .ret) (.seq (.reg false (some [2,4,8]) yr) (.cond (.tmp 8) (.seq (.reg false (some [2,3]) c103r5) .ret) (.seq (.reg false (some [2,4,12]) yu) (.cond (.tmp 12) (.seq (.reg false (some [2,3]) c103r7) .ret) (.seq (.reg false (some [2,4,16]) yv) (.cond (.tmp 16) (.seq (.reg false (some [2,3]) c103r9) .ret) (.seq (.reg false (some [2,20]) vB) (.cond (.tmp 20) (.seq (.reg false (some [2,3]) c103r11) .ret) .nop)))))))))))) (.seq (.reg false (some [2,3]) vC) .ret)))
theorem s103:Try.f103.body.bind (bh Try.prog An 103 Try.f103.ntmps)=some c103:=by kernel_rfl
theorem g103:An.glob 103=[]:=rfl
theorem r103:Try.f103.results.toList=[(.cell 2 174),(.tmp 3)]:=by kernel_rfl
theorem t103r0 (h:Q .normal ⟨[(0,(ac L 0)),(2,(bo m 32))],(bw m 32 [.str .empty,.nil,.int .i64 0])⟩):Rg F 103 [0,2] yo L m Q:=ae (by kernel_rfl) h
theorem t103r1 (h:Q .normal ⟨[(2,(ac L 2)),(4,(ac L 0))],m⟩):Rg F 103 [2,4] yp L m Q:=ae (by kernel_rfl) h
theorem t103r2 (h:Obt (aw Try.prog .eql 3 (.tmp 4) (.const (.int .i64 1)) (ac L 4) (.int .i64 1)) fun a0=>Q .normal ⟨[(2,(ac L 2)),(4,(ac L 4)),(5,a0)],m⟩):Rg F 103 [2,4,5] yq L m Q:=ae (by kernel_rfl) h
theorem t103r4 (h:Obt (aw Try.prog .eql 3 (.tmp 4) (.const (.int .i64 2)) (ac L 4) (.int .i64 2)) fun a0=>Q .normal ⟨[(2,(ac L 2)),(4,(ac L 4)),(8,a0)],m⟩):Rg F 103 [2,4,8] yr L m Q:=ae (by kernel_rfl) h
theorem t103r6 (h:Obt (aw Try.prog .eql 3 (.tmp 4) (.const (.int .i64 3)) (ac L 4) (.int .i64 3)) fun a0=>Q .normal ⟨[(2,(ac L 2)),(4,(ac L 4)),(12,a0)],m⟩):Rg F 103 [2,4,12] yu L m Q:=ae (by kernel_rfl) h
theorem t103r8 (h:Obt (aw Try.prog .eql 3 (.tmp 4) (.const (.int .i64 4)) (ac L 4) (.int .i64 4)) fun a0=>Q .normal ⟨[(2,(ac L 2)),(4,(ac L 4)),(16,a0)],m⟩):Rg F 103 [2,4,16] yv L m Q:=ae (by kernel_rfl) h
theorem t103r10 (h:Obt (aw Try.prog .eql 3 (.tmp 4) (.const (.int .i64 5)) (ac L 4) (.int .i64 5)) fun a0=>Q .normal ⟨[(2,(ac L 2)),(20,a0)],m⟩):Rg F 103 [2,20] vB L m Q:=ae (by kernel_rfl) h
theorem t103r12 (h:Obt ((bg [.str .empty,.nil,.int .i64 0] []).map CV.agg) fun a0=>Obt (stX 3 m (ac L 2) a0) fun a1=>Q .normal ⟨[(2,(ac L 2)),(3,(.bool false))],a1⟩):Rg F 103 [2,3] vC L m Q:=ae (by kernel_rfl) h
def c74r0:=rg 74 Try.f74 0
def c74r1:=rg 74 Try.f74 1
def c74r2:=rg 74 Try.f74 2
def c74r3:=rg 74 Try.f74 3
def c74r4:=rg 74 Try.f74 4
def c74r5:=rg 74 Try.f74 5
def c74r6:=rg 74 Try.f74 6
def c74r7:=rg 74 Try.f74 7
def c74r8:=rg 74 Try.f74 8
def c74r9:=rg 74 Try.f74 9
def CF:=rg 74 Try.f74 10
def CG:=rg 74 Try.f74 11
def CH:=rg 74 Try.f74 12
def CI:=rg 74 Try.f74 13
def CJ:=rg 74 Try.f74 14
def CK:=rg 74 Try.f74 15
def CL:=rg 74 Try.f74 16
def CM:=rg 74 Try.f74 17
def CN:=rg 74 Try.f74 18
def CO:=rg 74 Try.f74 19
def c74:SC:=
 (.seq (.reg false (some [1]) c74r0) (.seq (.reg false (some [1,3]) c74r1) (.seq (.seq (.reg false (some [1,3,17]) c74r2) (.block 0 (.seq (.seq (.reg false (some [1,3,17,18]) c74r3) (.cond (.tmp 18) .nop (.seq (.reg false (some [1,3,17,18]) c74r4) (.cond (.tmp 18) .nop (.reg false (some [1,3,17,18]) c74r5))))) (.cond (.tmp 18) (.seq (.reg false (some [2]) c74r6) .ret) (.seq (.reg false (some [1,3,17,22]) c74r7) (.cond (.tmp 22) (.seq (.reg false (some [5]) c74r8) (.seq (.reg false (some [2]) c74r9) .ret)) (.seq (.reg false (some [1,3,17,31]) CF) (.cond (.tmp 31) (.seq (.reg false (some [2]) CG) .ret) (.seq (.reg false (some [1,3,17,39]) CH) (.cond (.tmp 39) (.seq (.reg false (some [2]) CI) .ret) (.seq (.reg false (some [1,52]) CJ) (.cond (.tmp 52) (.seq (.seq (.reg false (some [1,56]) CK) (.cond (.tmp 56) (.seq (.reg false (some [2]) CL) .ret) .nop)) (.seq (.reg false (some [1,6,7]) CM) (.seq (.reg false (some [2]) CN) .ret))) .nop)))))))))))) (.seq (.reg false (some [2]) CO) .ret))))
theorem s74:Try.f74.body.bind (bh Try.prog An 74 Try.f74.ntmps)=some c74:=by kernel_rfl
theorem g74:An.glob 74=[]:=rfl
theorem r74:Try.f74.results.toList=[(.tmp 2)]:=by kernel_rfl
theorem iZ (h:Obt (ap (ac L 0)) fun a0=>Q .normal ⟨[(1,(bo m 16))],(bw m 16 a0)⟩):Rg F 74 [1] c74r0 L m Q:=ae (by kernel_rfl) h
theorem ja (h:Obt (aA 8 (ac L 1)) fun a0=>Obt (ld1 m a0) fun a1=>Obt (aw Try.prog .geq 3 (.tmp 9) (.const (.int .i64 (-32768))) a1 (.int .i64 (-32768))) fun a2=>Obt (gdO a2 true ((aA 8 (ac L 1)).map fun v=>(v,m)) (.tuple [],m)) fun a3=>Obt (gdO a2 true ((ld1 a3.2 a3.1).map fun v=>(v,a3.2)) (.tuple [],a3.2)) fun a4=>Obt (gdO a2 true ((aw Try.prog .leq 3 (.tmp 13) (.const (.int .i64 32767)) a4.1 (.int .i64 32767)).map fun v=>(v,a4.2)) (.tuple [],a4.2)) fun a5=>Obt (aT a2 a5.1 (.bool false)) fun a6=>Q .normal ⟨[(1,(ac L 1)),(3,a6)],a5.2⟩):Rg F 74 [1,3] c74r1 L m Q:=ae (by kernel_rfl) h
theorem jb (h:Obt (aA 0 (ac L 1)) fun a0=>Obt (ld1 m a0) fun a1=>Q .normal ⟨[(1,(ac L 1)),(3,(ac L 3)),(17,a1)],m⟩):Rg F 74 [1,3,17] c74r2 L m Q:=ae (by kernel_rfl) h
theorem jc (h:Obt (aw Try.prog .eql 64 (.tmp 17) (.const (.int .i64 1)) (ac L 17) (.int .i64 1)) fun a0=>Q .normal ⟨[(1,(ac L 1)),(3,(ac L 3)),(17,(ac L 17)),(18,a0)],m⟩):Rg F 74 [1,3,17,18] c74r3 L m Q:=ae (by kernel_rfl) h
theorem jO (h:Obt (aw Try.prog .eql 64 (.tmp 17) (.const (.int .i64 2)) (ac L 17) (.int .i64 2)) fun a0=>Q .normal ⟨[(1,(ac L 1)),(3,(ac L 3)),(17,(ac L 17)),(18,a0)],m⟩):Rg F 74 [1,3,17,18] c74r4 L m Q:=ae (by kernel_rfl) h
theorem lk (h:Obt (aw Try.prog .eql 64 (.tmp 17) (.const (.int .i64 3)) (ac L 17) (.int .i64 3)) fun a0=>Q .normal ⟨[(1,(ac L 1)),(3,(ac L 3)),(17,(ac L 17)),(18,a0)],m⟩):Rg F 74 [1,3,17,18] c74r5 L m Q:=ae (by kernel_rfl) h
theorem Ft (h:Q .normal ⟨[(2,(.bool true))],m⟩):Rg F 74 [2] c74r6 L m Q:=ae (by kernel_rfl) h
theorem mq (h:Obt (aw Try.prog .eql 64 (.tmp 17) (.const (.int .i64 4)) (ac L 17) (.int .i64 4)) fun a0=>Q .normal ⟨[(1,(ac L 1)),(3,(ac L 3)),(17,(ac L 17)),(22,a0)],m⟩):Rg F 74 [1,3,17,22] c74r7 L m Q:=ae (by kernel_rfl) h
theorem t74r8 (h:Obt (aA 2 (ac L 1)) fun a0=>Obt (ld1 m a0) fun a1=>Obt (aB An F 74 (some 27) 101 [a1,(.int .u64 0),(.int .u64 0),(.bool true)] m) fun a2=>Obt (cV 0 a2.1) fun a3=>Obt (cV 1 a2.1) fun a4=>Q .normal ⟨[(5,a4)],a2.2⟩):Rg F 74 [5] c74r8 L m Q:=ae (by kernel_rfl) h
theorem t74r9 (h:Q .normal ⟨[(2,(ac L 5))],m⟩):Rg F 74 [2] c74r9 L m Q:=ae (by kernel_rfl) h
theorem ki (h:Obt (aw Try.prog .eql 64 (.tmp 17) (.const (.int .i64 5)) (ac L 17) (.int .i64 5)) fun a0=>Q .normal ⟨[(1,(ac L 1)),(3,(ac L 3)),(17,(ac L 17)),(31,a0)],m⟩):Rg F 74 [1,3,17,31] CF L m Q:=ae (by kernel_rfl) h
theorem t74r11 (h:Obt (aA 7 (ac L 1)) fun a0=>Obt (ld1 m a0) fun a1=>Obt (aB An F 74 (some 35) 102 [a1] m) fun a2=>Obt (gdO a2.1 true (some ((ac L 3),a2.2)) (.tuple [],a2.2)) fun a3=>Obt (aT a2.1 a3.1 (.bool false)) fun a4=>Q .normal ⟨[(2,a4)],a3.2⟩):Rg F 74 [2] CG L m Q:=ae (by kernel_rfl) h
theorem lR (h:Obt (aw Try.prog .eql 64 (.tmp 17) (.const (.int .i64 6)) (ac L 17) (.int .i64 6)) fun a0=>Q .normal ⟨[(1,(ac L 1)),(3,(ac L 3)),(17,(ac L 17)),(39,a0)],m⟩):Rg F 74 [1,3,17,39] CH L m Q:=ae (by kernel_rfl) h
theorem t74r13 (h:Obt (aA 7 (ac L 1)) fun a0=>Obt (ld1 m a0) fun a1=>Obt (aB An F 74 (some 43) 102 [a1] m) fun a2=>Obt (gdO a2.1 true (some ((ac L 3),a2.2)) (.tuple [],a2.2)) fun a3=>Obt (aT a2.1 a3.1 (.bool false)) fun a4=>Obt (gdO a4 true ((aA 1 (ac L 1)).map fun v=>(v,a3.2)) (.tuple [],a3.2)) fun a5=>Obt (gdO a4 true ((ld1 a5.2 a5.1).map fun v=>(v,a5.2)) (.tuple [],a5.2)) fun a6=>Obt (gdO a4 true ((aw Try.prog .eql 3 (.tmp 49) (.const (.int .i64 (-1))) a6.1 (.int .i64 (-1))).map fun v=>(v,a6.2)) (.tuple [],a6.2)) fun a7=>Obt (aT a4 a7.1 (.bool false)) fun a8=>Q .normal ⟨[(2,a8)],a7.2⟩):Rg F 74 [2] CI L m Q:=ae (by kernel_rfl) h
theorem oN (h:Obt (aw Try.prog .eql 64 (.tmp 17) (.const (.int .i64 7)) (ac L 17) (.int .i64 7)) fun a0=>Q .normal ⟨[(1,(ac L 1)),(52,a0)],m⟩):Rg F 74 [1,52] CJ L m Q:=ae (by kernel_rfl) h
theorem rj (h:Obt (aA 6 (ac L 1)) fun a0=>Obt (ld1 m a0) fun a1=>Obt (aw Try.prog .gtr 65 (.tmp 55) (.const (.int .u64 5)) a1 (.int .u64 5)) fun a2=>Q .normal ⟨[(1,(ac L 1)),(56,a2)],m⟩):Rg F 74 [1,56] CK L m Q:=ae (by kernel_rfl) h
theorem t74r16 (h:Q .normal ⟨[(2,(.bool false))],m⟩):Rg F 74 [2] CL L m Q:=ae (by kernel_rfl) h
theorem uB (h:Obt (aA 6 (ac L 1)) fun a0=>Obt (ld1 m a0) fun a1=>Obt (pF .i64 a1) fun a2=>Obt (aB An F 74 (some 61) 103 [a2] m) fun a3=>Obt (cV 0 a3.1) fun a4=>Obt (cV 1 a3.1) fun a5=>Obt (stX 3 (bw a3.2 96 [.str .empty,.nil,.int .i64 0]) (bo a3.2 96) a4) fun a6=>Q .normal ⟨[(1,(ac L 1)),(6,(bo a3.2 96)),(7,a5)],a6⟩):Rg F 74 [1,6,7] CM L m Q:=ae (by kernel_rfl) h
theorem uC (h:Obt (gdO (ac L 7) true ((aA 10 (ac L 1)).map fun v=>(v,m)) (.tuple [],m)) fun a0=>Obt (gdO (ac L 7) true ((ld1 a0.2 a0.1).map fun v=>(v,a0.2)) (.tuple [],a0.2)) fun a1=>Obt (gdO (ac L 7) true ((lenS a1.1).map fun v=>(v,a1.2)) (.tuple [],a1.2)) fun a2=>Obt (gdO (ac L 7) true ((aA 1 (ac L 6)).map fun v=>(v,a2.2)) (.tuple [],a2.2)) fun a3=>Obt (gdO (ac L 7) true ((ld1 a3.2 a3.1).map fun v=>(v,a3.2)) (.tuple [],a3.2)) fun a4=>Obt (gdO (ac L 7) true ((lenS a4.1).map fun v=>(v,a4.2)) (.tuple [],a4.2)) fun a5=>Obt (gdO (ac L 7) true ((aw Try.prog .eql 3 (.tmp 68) (.tmp 71) a2.1 a5.1).map fun v=>(v,a5.2)) (.tuple [],a5.2)) fun a6=>Obt (aT (ac L 7) a6.1 (.bool false)) fun a7=>Q .normal ⟨[(2,a7)],a6.2⟩):Rg F 74 [2] CN L m Q:=ae (by kernel_rfl) h
theorem t74r19 (h:Q .normal ⟨[(2,(.bool false))],m⟩):Rg F 74 [2] CO L m Q:=ae (by kernel_rfl) h
def c30r0:=rg 30 Try.f30 0
def c30r1:=rg 30 Try.f30 1
def c30r2:=rg 30 Try.f30 2
def c30r3:=rg 30 Try.f30 3
def c30r4:=rg 30 Try.f30 4
def c30r5:=rg 30 Try.f30 5
def c30r6:=rg 30 Try.f30 6
def c30r7:=rg 30 Try.f30 7
def c30r8:=rg 30 Try.f30 8
def c30r9:=rg 30 Try.f30 9
def c30:SC:=
 (.seq (.reg false (some [1]) c30r0) (.seq (.seq (.reg false (some [1,4]) c30r1) (.block 0 (.seq (.seq (.reg false (some [1,4,5]) c30r2) (.cond (.tmp 5) .nop (.reg false (some [1,4,5]) c30r3))) (.cond (.tmp 5) (.seq (.reg false (some [2]) c30r4) .ret) (.seq (.reg false (some [1,4,13]) c30r5) (.cond (.tmp 13) (.seq (.reg false (some [2]) c30r6) .ret) (.seq (.reg false (some [1,18]) c30r7) (.cond (.tmp 18) (.seq (.reg false (some [2]) c30r8) .ret) .nop)))))))) (.seq (.reg false (some [2]) c30r9) .ret)))
theorem s30:Try.f30.body.bind (bh Try.prog An 30 Try.f30.ntmps)=some c30:=by kernel_rfl
theorem g30:An.glob 30=[]:=rfl
theorem r30:Try.f30.results.toList=[(.tmp 2)]:=by kernel_rfl
theorem sP (h:Obt (ap (ac L 0)) fun a0=>Q .normal ⟨[(1,(bo m 16))],(bw m 16 a0)⟩):Rg F 30 [1] c30r0 L m Q:=ae (by kernel_rfl) h
theorem sQ (h:Obt (aA 0 (ac L 1)) fun a0=>Obt (ld1 m a0) fun a1=>Q .normal ⟨[(1,(ac L 1)),(4,a1)],m⟩):Rg F 30 [1,4] c30r1 L m Q:=ae (by kernel_rfl) h
theorem sR (h:Obt (aw Try.prog .eql 64 (.tmp 4) (.const (.int .i64 4)) (ac L 4) (.int .i64 4)) fun a0=>Q .normal ⟨[(1,(ac L 1)),(4,(ac L 4)),(5,a0)],m⟩):Rg F 30 [1,4,5] c30r2 L m Q:=ae (by kernel_rfl) h
theorem wq (h:Obt (aw Try.prog .eql 64 (.tmp 4) (.const (.int .i64 6)) (ac L 4) (.int .i64 6)) fun a0=>Q .normal ⟨[(1,(ac L 1)),(4,(ac L 4)),(5,a0)],m⟩):Rg F 30 [1,4,5] c30r3 L m Q:=ae (by kernel_rfl) h
theorem t30r4 (h:Obt (aA 4 (ac L 1)) fun a0=>Obt (ld1 m a0) fun a1=>Obt (aA 5 (ac L 1)) fun a2=>Obt (ld1 m a2) fun a3=>Obt (cd false 192 1 2 [.int .i64 0,.int .i64 0] [(0,1,a1),(1,1,a3)] m) fun a4=>Q .normal ⟨[(2,a4.1)],a4.2⟩):Rg F 30 [2] c30r4 L m Q:=ae (by kernel_rfl) h
theorem ES (h:Obt (aw Try.prog .eql 64 (.tmp 4) (.const (.int .i64 5)) (ac L 4) (.int .i64 5)) fun a0=>Q .normal ⟨[(1,(ac L 1)),(4,(ac L 4)),(13,a0)],m⟩):Rg F 30 [1,4,13] c30r5 L m Q:=ae (by kernel_rfl) h
theorem t30r6 (h:Obt (aA 4 (ac L 1)) fun a0=>Obt (ld1 m a0) fun a1=>Obt (cd false 272 1 1 [.int .i64 0] [(0,1,a1)] m) fun a2=>Q .normal ⟨[(2,a2.1)],a2.2⟩):Rg F 30 [2] c30r6 L m Q:=ae (by kernel_rfl) h
theorem t30r7 (h:Obt (aw Try.prog .eql 64 (.tmp 4) (.const (.int .i64 7)) (ac L 4) (.int .i64 7)) fun a0=>Q .normal ⟨[(1,(ac L 1)),(18,a0)],m⟩):Rg F 30 [1,18] c30r7 L m Q:=ae (by kernel_rfl) h
theorem t30r8 (h:Obt (cd false 320 1 0 [] [] m) fun a0=>Obt (aA 10 (ac L 1)) fun a1=>Obt (ld1 a0.2 a1) fun a2=>Obt (ej false 368 1 8 a0.1 a2 a0.2) fun a3=>Q .normal ⟨[(2,a3.1)],a3.2⟩):Rg F 30 [2] c30r8 L m Q:=ae (by kernel_rfl) h
theorem t30r9 (h:Q .normal ⟨[(2,.nil)],m⟩):Rg F 30 [2] c30r9 L m Q:=ae (by kernel_rfl) h
def c29r0:=rg 29 Try.f29 0
def c29r1:=rg 29 Try.f29 1
def c29r2:=rg 29 Try.f29 2
def c29r3:=rg 29 Try.f29 3
def c29r4:=rg 29 Try.f29 4
def c29r5:=rg 29 Try.f29 5
def c29r6:=rg 29 Try.f29 6
def c29:SC:=
 (.seq (.reg false (some [1]) c29r0) (.seq (.seq (.reg false (some [1,4]) c29r1) (.block 0 (.seq (.reg false (some [1,4,5]) c29r2) (.cond (.tmp 5) (.seq (.reg false (some [2]) c29r3) .ret) (.seq (.reg false (some [1,12]) c29r4) (.cond (.tmp 12) (.seq (.reg false (some [2]) c29r5) .ret) .nop)))))) (.seq (.reg false (some [2]) c29r6) .ret)))
theorem s29:Try.f29.body.bind (bh Try.prog An 29 Try.f29.ntmps)=some c29:=by kernel_rfl
theorem g29:An.glob 29=[]:=rfl
theorem r29:Try.f29.results.toList=[(.tmp 2)]:=by kernel_rfl
theorem t29r0 (h:Obt (ap (ac L 0)) fun a0=>Q .normal ⟨[(1,(bo m 16))],(bw m 16 a0)⟩):Rg F 29 [1] c29r0 L m Q:=ae (by kernel_rfl) h
theorem t29r1 (h:Obt (aA 0 (ac L 1)) fun a0=>Obt (ld1 m a0) fun a1=>Q .normal ⟨[(1,(ac L 1)),(4,a1)],m⟩):Rg F 29 [1,4] c29r1 L m Q:=ae (by kernel_rfl) h
theorem t29r2 (h:Obt (aw Try.prog .eql 54 (.tmp 4) (.const (.int .i64 2)) (ac L 4) (.int .i64 2)) fun a0=>Q .normal ⟨[(1,(ac L 1)),(4,(ac L 4)),(5,a0)],m⟩):Rg F 29 [1,4,5] c29r2 L m Q:=ae (by kernel_rfl) h
theorem t29r3 (h:Obt (aA 3 (ac L 1)) fun a0=>Obt (ld1 m a0) fun a1=>Obt (aA 4 (ac L 1)) fun a2=>Obt (ld1 m a2) fun a3=>Obt (cd false 176 1 2 [.int .i64 0,.int .i64 0] [(0,1,a1),(1,1,a3)] m) fun a4=>Q .normal ⟨[(2,a4.1)],a4.2⟩):Rg F 29 [2] c29r3 L m Q:=ae (by kernel_rfl) h
theorem t29r4 (h:Obt (aw Try.prog .eql 54 (.tmp 4) (.const (.int .i64 3)) (ac L 4) (.int .i64 3)) fun a0=>Q .normal ⟨[(1,(ac L 1)),(12,a0)],m⟩):Rg F 29 [1,12] c29r4 L m Q:=ae (by kernel_rfl) h
theorem t29r5 (h:Obt (aA 3 (ac L 1)) fun a0=>Obt (ld1 m a0) fun a1=>Obt (cd false 256 1 1 [.int .i64 0] [(0,1,a1)] m) fun a2=>Q .normal ⟨[(2,a2.1)],a2.2⟩):Rg F 29 [2] c29r5 L m Q:=ae (by kernel_rfl) h
theorem t29r6 (h:Q .normal ⟨[(2,.nil)],m⟩):Rg F 29 [2] c29r6 L m Q:=ae (by kernel_rfl) h
def c73r0:=rg 73 Try.f73 0
def c73r1:=rg 73 Try.f73 1
def c73r2:=rg 73 Try.f73 2
def c73r3:=rg 73 Try.f73 3
def c73r4:=rg 73 Try.f73 4
def c73:SC:=
 (.seq (.reg false (some [0,1,2,3]) c73r0) (.seq (.seq (.reg false (some [0,1,2,3,23]) c73r1) (.cond (.tmp 23) (.seq (.reg false (some [8]) c73r2) .ret) .nop)) (.seq (.reg false (some []) c73r3) (.seq (.reg false (some [8]) c73r4) .ret))))
theorem s73:Try.f73.body.bind (bh Try.prog An 73 Try.f73.ntmps)=some c73:=by kernel_rfl
theorem g73:An.glob 73=[]:=rfl
theorem r73:Try.f73.results.toList=[(.tmp 8)]:=by kernel_rfl
theorem wD (h:Q .normal ⟨[(0,(ac L 0)),(1,(ac L 1)),(2,(ac L 2)),(3,(ac L 3))],m⟩):Rg F 73 [0,1,2,3] c73r0 L m Q:=ae (by kernel_rfl) h
theorem wE (h:Obt (aw Try.prog .lss 3 (.tmp 9) (.const (.int .i64 0)) (ac L 1) (.int .i64 0)) fun a0=>Obt (gdO a0 false (some ((ac L 1),m)) (.tuple [],m)) fun a1=>Obt (gdO a0 false (some ((ac L 0),a1.2)) (.tuple [],a1.2)) fun a2=>Obt (gdO a0 false ((lenS a2.1).map fun v=>(v,a2.2)) (.tuple [],a2.2)) fun a3=>Obt (gdO a0 false ((aw Try.prog .geq 3 (.tmp 12) (.tmp 14) a1.1 a3.1).map fun v=>(v,a3.2)) (.tuple [],a3.2)) fun a4=>Obt (aT a0 (.bool true) a4.1) fun a5=>Obt (gdO a5 false (some ((ac L 0),a4.2)) (.tuple [],a4.2)) fun a6=>Obt (gdO a5 false (some ((ac L 1),a6.2)) (.tuple [],a6.2)) fun a7=>Obt (gdO a5 false ((bd 3 a6.1 a7.1).map fun v=>(v,a7.2)) (.tuple [],a7.2)) fun a8=>Obt (gdO a5 false ((aA 0 a8.1).map fun v=>(v,a8.2)) (.tuple [],a8.2)) fun a9=>Obt (gdO a5 false ((ld1 a9.2 a9.1).map fun v=>(v,a9.2)) (.tuple [],a9.2)) fun a10=>Obt (aT a5 (.bool true) a10.1) fun a11=>Q .normal ⟨[(0,(ac L 0)),(1,(ac L 1)),(2,(ac L 2)),(3,(ac L 3)),(23,a11)],a10.2⟩):Rg F 73 [0,1,2,3,23] c73r1 L m Q:=ae (by kernel_rfl) h
theorem Fs (h:Q .normal ⟨[(8,(.bool false))],m⟩):Rg F 73 [8] c73r2 L m Q:=ae (by kernel_rfl) h
theorem t73r3 (h:Obt ((bg [.bool false,.int .i64 0,.int .i64 0] [(0,1,(.bool true)),(1,1,(ac L 2)),(2,1,(ac L 3))]).map CV.agg) fun a0=>Obt (bd 3 (ac L 0) (ac L 1)) fun a1=>Obt (stX 3 m a1 a0) fun a2=>Q .normal ⟨[],a2⟩):Rg F 73 [] c73r3 L m Q:=ae (by kernel_rfl) h
theorem t73r4 (h:Q .normal ⟨[(8,(.bool true))],m⟩):Rg F 73 [8] c73r4 L m Q:=ae (by kernel_rfl) h
def c48r0:=rg 48 Try.f48 0
def c48r1:=rg 48 Try.f48 1
def c48r2:=rg 48 Try.f48 2
def c48r3:=rg 48 Try.f48 3
def c48r5:=rg 48 Try.f48 5
def c48r6:=rg 48 Try.f48 6
def c48r7:=rg 48 Try.f48 7
def c48r9:=rg 48 Try.f48 9
def Bj:=rg 48 Try.f48 10
def c48r8:=rg 48 Try.f48 8
def c48l0:SC:=
 (.seq (.seq (.reg false (some [1,4,5,6,7,28]) c48r7) (.cond (.tmp 28) .nop (.exit 2))) (.seq (.block 3 (.seq (.reg false (some [1,4,5,6,7,40]) c48r9) (.cond (.tmp 40) (.seq (.reg false (some [2,3]) Bj) .ret) .nop))) (.reg false (some [1,4,5,6,7]) c48r8)))
def Bk:=rg 48 Try.f48 11
def Bl:=rg 48 Try.f48 12
def Bn:=rg 48 Try.f48 14
def Bo:=rg 48 Try.f48 15
def Bm:=rg 48 Try.f48 13
def c48l1:SC:=
 (.seq (.seq (.reg false (some [1,4,5,6,8,45]) Bl) (.cond (.tmp 45) .nop (.exit 4))) (.seq (.block 5 (.seq (.reg false (some [1,4,5,6,8,77]) Bn) (.cond (.tmp 77) (.seq (.reg false (some [2,3]) Bo) .ret) .nop))) (.reg false (some [1,4,5,6,8]) Bm)))
def c48r4:=rg 48 Try.f48 4
def c48l2:SC:=
 (.seq (.seq (.reg false (some [1,4,5,16]) c48r3) (.cond (.tmp 16) .nop (.exit 0))) (.seq (.block 1 (.seq (.reg false (some [1,4,5,6]) c48r5) (.seq (.seq (.reg false (some [1,4,5,6,7]) c48r6) (.block 2 (.loop c48l0))) (.seq (.reg false (some [1,4,5,6,8]) Bk) (.block 4 (.loop c48l1)))))) (.reg false (some [1,4,5]) c48r4)))
def Bp:=rg 48 Try.f48 16
def c48:SC:=
 (.seq (.reg false (some [1]) c48r0) (.seq (.reg false (some [1,4]) c48r1) (.seq (.seq (.reg false (some [1,4,5]) c48r2) (.block 0 (.loop c48l2))) (.seq (.reg false (some [2,3]) Bp) .ret))))
theorem s48:Try.f48.body.bind (bh Try.prog An 48 Try.f48.ntmps)=some c48:=by kernel_rfl
theorem g48:An.glob 48=[11]:=rfl
theorem r48:Try.f48.results.toList=[(.tmp 2),(.tmp 3)]:=by kernel_rfl
theorem t48r0 (h:Obt (ap (ac L 0)) fun a0=>Q .normal ⟨[(1,(bo m 16))],(bw m 16 a0)⟩):Rg F 48 [1] c48r0 L m Q:=ae (by kernel_rfl) h
theorem t48r1 (h:Obt (aA 1 (ac L 1)) fun a0=>Obt (ld1 m a0) fun a1=>Obt (mkX true 176 3 24 [.bool false,.int .i64 0,.int .i64 0] a1 a1 m) fun a2=>Q .normal ⟨[(1,(ac L 1)),(4,a2.1)],a2.2⟩):Rg F 48 [1,4] c48r1 L m Q:=ae (by kernel_rfl) h
theorem t48r2 (h:Q .normal ⟨[(1,(ac L 1)),(4,(ac L 4)),(5,(.int .i64 0))],m⟩):Rg F 48 [1,4,5] c48r2 L m Q:=ae (by kernel_rfl) h
theorem t48r3 (h:Obt (aA 0 (ac L 1)) fun a0=>Obt (ld1 m a0) fun a1=>Obt (lenS a1) fun a2=>Obt (aw Try.prog .lss 3 (.tmp 12) (.tmp 15) (ac L 5) a2) fun a3=>Q .normal ⟨[(1,(ac L 1)),(4,(ac L 4)),(5,(ac L 5)),(16,a3)],m⟩):Rg F 48 [1,4,5,16] c48r3 L m Q:=ae (by kernel_rfl) h
theorem t48r5 (h:Obt (aA 0 (ac L 1)) fun a0=>Obt (ld1 m a0) fun a1=>Obt (bd 10 a1 (ac L 5)) fun a2=>Obt (ldA 10 m a2) fun a3=>Obt (stX 10 (bw m 96 [.nil,.nil,.nil,.int .i64 0,.int .i64 0,.bool false,.int .i64 0,.int .i64 0,.int .i64 0,.int .i64 0]) (bo m 96) a3) fun a4=>Q .normal ⟨[(1,(ac L 1)),(4,(ac L 4)),(5,(ac L 5)),(6,(bo m 96))],a4⟩):Rg F 48 [1,4,5,6] c48r5 L m Q:=ae (by kernel_rfl) h
theorem t48r6 (h:Q .normal ⟨[(1,(ac L 1)),(4,(ac L 4)),(5,(ac L 5)),(6,(ac L 6)),(7,(.int .i64 0))],m⟩):Rg F 48 [1,4,5,6,7] c48r6 L m Q:=ae (by kernel_rfl) h
theorem E8 (h:Obt (aA 1 (ac L 6)) fun a0=>Obt (ld1 m a0) fun a1=>Obt (lenS a1) fun a2=>Obt (aw Try.prog .lss 3 (.tmp 24) (.tmp 27) (ac L 7) a2) fun a3=>Q .normal ⟨[(1,(ac L 1)),(4,(ac L 4)),(5,(ac L 5)),(6,(ac L 6)),(7,(ac L 7)),(28,a3)],m⟩):Rg F 48 [1,4,5,6,7,28] c48r7 L m Q:=ae (by kernel_rfl) h
theorem t48r9 (h:Obt (aA 1 (ac L 6)) fun a0=>Obt (ld1 m a0) fun a1=>Obt (bd 2 a1 (ac L 7)) fun a2=>Obt (aA 0 a2) fun a3=>Obt (ld1 m a3) fun a4=>Obt (aB An F 48 (some 39) 73 [(ac L 4),a4,(ac L 5),(.int .i64 0)] m) fun a5=>Obt (cun .not a5.1) fun a6=>Q .normal ⟨[(1,(ac L 1)),(4,(ac L 4)),(5,(ac L 5)),(6,(ac L 6)),(7,(ac L 7)),(40,a6)],a5.2⟩):Rg F 48 [1,4,5,6,7,40] c48r9 L m Q:=ae (by kernel_rfl) h
theorem t48r10 (h:Q .normal ⟨[(2,.nil),(3,(.bool false))],m⟩):Rg F 48 [2,3] Bj L m Q:=ae (by kernel_rfl) h
theorem t48r8 (h:Obt (aw Try.prog .add 3 (.tmp 29) (.const (.int .i64 1)) (ac L 7) (.int .i64 1)) fun a0=>Q .normal ⟨[(1,(ac L 1)),(4,(ac L 4)),(5,(ac L 5)),(6,(ac L 6)),(7,a0)],m⟩):Rg F 48 [1,4,5,6,7] c48r8 L m Q:=ae (by kernel_rfl) h
theorem t48r11 (h:Q .normal ⟨[(1,(ac L 1)),(4,(ac L 4)),(5,(ac L 5)),(6,(ac L 6)),(8,(.int .i64 0))],m⟩):Rg F 48 [1,4,5,6,8] Bk L m Q:=ae (by kernel_rfl) h
theorem oJ (h:Obt (aA 2 (ac L 6)) fun a0=>Obt (ld1 m a0) fun a1=>Obt (lenS a1) fun a2=>Obt (aw Try.prog .lss 3 (.tmp 41) (.tmp 44) (ac L 8) a2) fun a3=>Q .normal ⟨[(1,(ac L 1)),(4,(ac L 4)),(5,(ac L 5)),(6,(ac L 6)),(8,(ac L 8)),(45,a3)],m⟩):Rg F 48 [1,4,5,6,8,45] Bl L m Q:=ae (by kernel_rfl) h
theorem re (h:Obt (aA 2 (ac L 6)) fun a0=>Obt (ld1 m a0) fun a1=>Obt (bd 12 a1 (ac L 8)) fun a2=>Obt (ldA 12 m a2) fun a3=>Obt (aB An F 48 (some 53) 74 [a3] m) fun a4=>Obt (cun .not a4.1) fun a5=>Obt (gdO a5 false ((aA 2 (ac L 6)).map fun v=>(v,a4.2)) (.tuple [],a4.2)) fun a6=>Obt (gdO a5 false ((ld1 a6.2 a6.1).map fun v=>(v,a6.2)) (.tuple [],a6.2)) fun a7=>Obt (gdO a5 false (some ((ac L 8),a7.2)) (.tuple [],a7.2)) fun a8=>Obt (gdO a5 false ((bd 12 a7.1 a8.1).map fun v=>(v,a8.2)) (.tuple [],a8.2)) fun a9=>Obt (gdO a5 false ((aA 0 a9.1).map fun v=>(v,a9.2)) (.tuple [],a9.2)) fun a10=>Obt (gdO a5 false ((ld1 a10.2 a10.1).map fun v=>(v,a10.2)) (.tuple [],a10.2)) fun a11=>Obt (gdO a5 false ((aw Try.prog .neq 64 (.tmp 61) (.const (.int .i64 6)) a11.1 (.int .i64 6)).map fun v=>(v,a11.2)) (.tuple [],a11.2)) fun a12=>Obt (gdO a5 false (some (a12.1,a12.2)) (.tuple [],a12.2)) fun a13=>Obt (gdO a13.1 true (some ((ac L 4),a13.2)) (.tuple [],a13.2)) fun a14=>Obt (gdO a13.1 true ((aA 2 (ac L 6)).map fun v=>(v,a14.2)) (.tuple [],a14.2)) fun a15=>Obt (gdO a13.1 true ((ld1 a15.2 a15.1).map fun v=>(v,a15.2)) (.tuple [],a15.2)) fun a16=>Obt (gdO a13.1 true (some ((ac L 8),a16.2)) (.tuple [],a16.2)) fun a17=>Obt (gdO a13.1 true ((bd 12 a16.1 a17.1).map fun v=>(v,a17.2)) (.tuple [],a17.2)) fun a18=>Obt (gdO a13.1 true ((aA 1 a18.1).map fun v=>(v,a18.2)) (.tuple [],a18.2)) fun a19=>Obt (gdO a13.1 true ((ld1 a19.2 a19.1).map fun v=>(v,a19.2)) (.tuple [],a19.2)) fun a20=>Obt (gdO a13.1 true (some ((ac L 5),a20.2)) (.tuple [],a20.2)) fun a21=>Obt (gdO a13.1 true (some ((ac L 8),a21.2)) (.tuple [],a21.2)) fun a22=>Obt (gdO a13.1 true ((aw Try.prog .add 3 (.tmp 72) (.const (.int .i64 1)) a22.1 (.int .i64 1)).map fun v=>(v,a22.2)) (.tuple [],a22.2)) fun a23=>Obt (gdO a13.1 true (aB An F 48 (some 74) 73 [a14.1,a20.1,a21.1,a23.1] a23.2) (.tuple [],a23.2)) fun a24=>Obt (gdO a13.1 true ((cun .not a24.1).map fun v=>(v,a24.2)) (.tuple [],a24.2)) fun a25=>Obt (gdO a5 false ((aT a13.1 a25.1 (.bool false)).map fun v=>(v,a25.2)) (.tuple [],a25.2)) fun a26=>Obt (aT a5 (.bool true) a26.1) fun a27=>Q .normal ⟨[(1,(ac L 1)),(4,(ac L 4)),(5,(ac L 5)),(6,(ac L 6)),(8,(ac L 8)),(77,a27)],a26.2⟩):Rg F 48 [1,4,5,6,8,77] Bn L m Q:=ae (by kernel_rfl) h
theorem E7 (h:Q .normal ⟨[(2,.nil),(3,(.bool false))],m⟩):Rg F 48 [2,3] Bo L m Q:=ae (by kernel_rfl) h
theorem E6 (h:Obt (aw Try.prog .add 3 (.tmp 46) (.const (.int .i64 1)) (ac L 8) (.int .i64 1)) fun a0=>Q .normal ⟨[(1,(ac L 1)),(4,(ac L 4)),(5,(ac L 5)),(6,(ac L 6)),(8,a0)],m⟩):Rg F 48 [1,4,5,6,8] Bm L m Q:=ae (by kernel_rfl) h
theorem t48r4 (h:Obt (aw Try.prog .add 3 (.tmp 17) (.const (.int .i64 1)) (ac L 5) (.int .i64 1)) fun a0=>Q .normal ⟨[(1,(ac L 1)),(4,(ac L 4)),(5,a0)],m⟩):Rg F 48 [1,4,5] c48r4 L m Q:=ae (by kernel_rfl) h
theorem t48r16 (h:Q .normal ⟨[(2,(ac L 4)),(3,(.bool true))],m⟩):Rg F 48 [2,3] Bp L m Q:=ae (by kernel_rfl) h
def yw:=rg 104 Try.f104 0
def yx:=rg 104 Try.f104 1
def yy:=rg 104 Try.f104 2
def yz:=rg 104 Try.f104 3
def yA:=rg 104 Try.f104 4
def yB:=rg 104 Try.f104 5
def yC:=rg 104 Try.f104 6
def tw:SC:=
 (.seq (.reg false (some [0,1,2,3]) yw) (.seq (.seq (.reg false (some [0,1,2,3,31]) yx) (.cond (.tmp 31) (.seq (.reg false (some [8]) yy) .ret) .nop)) (.seq (.reg false (some [0,2,3,9]) yz) (.seq (.seq (.reg false (some [0,2,3,9,42]) yA) (.cond (.tmp 42) (.seq (.reg false (some [8]) yB) .ret) .nop)) (.seq (.reg true (some [8]) yC) .ret)))))
theorem xC:Try.f104.body.bind (bh Try.prog An 104 Try.f104.ntmps)=some tw:=by kernel_rfl
theorem g104:An.glob 104=[]:=rfl
theorem xz:Try.f104.results.toList=[(.tmp 8)]:=by kernel_rfl
theorem lM (h:Q .normal ⟨[(0,(ac L 0)),(1,(ac L 1)),(2,(ac L 2)),(3,(ac L 3))],m⟩):Rg F 104 [0,1,2,3] yw L m Q:=ae (by kernel_rfl) h
theorem lN (h:Obt (aw Try.prog .lss 3 (.tmp 10) (.const (.int .i64 0)) (ac L 1) (.int .i64 0)) fun a0=>Obt (gdO a0 false (some ((ac L 1),m)) (.tuple [],m)) fun a1=>Obt (gdO a0 false (some ((ac L 0),a1.2)) (.tuple [],a1.2)) fun a2=>Obt (gdO a0 false ((b7 a2.1).map fun v=>(v,a2.2)) (.tuple [],a2.2)) fun a3=>Obt (gdO a0 false ((aA 2 a3.1).map fun v=>(v,a3.2)) (.tuple [],a3.2)) fun a4=>Obt (gdO a0 false ((ld1 a4.2 a4.1).map fun v=>(v,a4.2)) (.tuple [],a4.2)) fun a5=>Obt (gdO a0 false ((lenS a5.1).map fun v=>(v,a5.2)) (.tuple [],a5.2)) fun a6=>Obt (gdO a0 false ((aw Try.prog .geq 3 (.tmp 13) (.tmp 18) a1.1 a6.1).map fun v=>(v,a6.2)) (.tuple [],a6.2)) fun a7=>Obt (aT a0 (.bool true) a7.1) fun a8=>Obt (gdO a8 false (some ((ac L 0),a7.2)) (.tuple [],a7.2)) fun a9=>Obt (gdO a8 false ((b7 a9.1).map fun v=>(v,a9.2)) (.tuple [],a9.2)) fun a10=>Obt (gdO a8 false ((aA 2 a10.1).map fun v=>(v,a10.2)) (.tuple [],a10.2)) fun a11=>Obt (gdO a8 false ((ld1 a11.2 a11.1).map fun v=>(v,a11.2)) (.tuple [],a11.2)) fun a12=>Obt (gdO a8 false (some ((ac L 1),a12.2)) (.tuple [],a12.2)) fun a13=>Obt (gdO a8 false ((bd 3 a12.1 a13.1).map fun v=>(v,a13.2)) (.tuple [],a13.2)) fun a14=>Obt (gdO a8 false ((aA 0 a14.1).map fun v=>(v,a14.2)) (.tuple [],a14.2)) fun a15=>Obt (gdO a8 false ((ld1 a15.2 a15.1).map fun v=>(v,a15.2)) (.tuple [],a15.2)) fun a16=>Obt (gdO a8 false ((cun .not a16.1).map fun v=>(v,a16.2)) (.tuple [],a16.2)) fun a17=>Obt (aT a8 (.bool true) a17.1) fun a18=>Q .normal ⟨[(0,(ac L 0)),(1,(ac L 1)),(2,(ac L 2)),(3,(ac L 3)),(31,a18)],a17.2⟩):Rg F 104 [0,1,2,3,31] yx L m Q:=ae (by kernel_rfl) h
theorem uk (h:Q .normal ⟨[(8,(.bool false))],m⟩):Rg F 104 [8] yy L m Q:=ae (by kernel_rfl) h
theorem un (h:Obt (b7 (ac L 0)) fun a0=>Obt (aA 2 a0) fun a1=>Obt (ld1 m a1) fun a2=>Obt (bd 3 a2 (ac L 1)) fun a3=>Obt (ldA 3 m a3) fun a4=>Obt (stX 3 (bw m 144 [.bool false,.int .i64 0,.int .i64 0]) (bo m 144) a4) fun a5=>Q .normal ⟨[(0,(ac L 0)),(2,(ac L 2)),(3,(ac L 3)),(9,(bo m 144))],a5⟩):Rg F 104 [0,2,3,9] yz L m Q:=ae (by kernel_rfl) h
theorem uo (h:Obt (aA 1 (ac L 9)) fun a0=>Obt (ld1 m a0) fun a1=>Obt (aw Try.prog .eql 3 (.tmp 40) (.tmp 41) a1 (ac L 2)) fun a2=>Q .normal ⟨[(0,(ac L 0)),(2,(ac L 2)),(3,(ac L 3)),(9,(ac L 9)),(42,a2)],m⟩):Rg F 104 [0,2,3,9,42] yA L m Q:=ae (by kernel_rfl) h
theorem Ev (h:Obt (aA 2 (ac L 9)) fun a0=>Obt (ld1 m a0) fun a1=>Obt (aw Try.prog .lss 3 (.tmp 44) (.tmp 45) a1 (ac L 3)) fun a2=>Q .normal ⟨[(8,a2)],m⟩):Rg F 104 [8] yB L m Q:=ae (by kernel_rfl) h
theorem t104r6 (h:Obt (b7 (ac L 0)) fun a0=>Obt (aA 4 a0) fun a1=>Obt (ld1 m a1) fun a2=>Obt (aA 1 (ac L 9)) fun a3=>Obt (ld1 m a3) fun a4=>Obt (bd 1 a2 a4) fun a5=>Obt (ld1 m a5) fun a6=>Obt (bd 1 a6 (ac L 2)) fun a7=>Obt (ld1 m a7) fun a8=>Q .normal ⟨[(8,a8)],m⟩):Rt F 104 [8] yC L m Q:=ae (by kernel_rfl) h
def c76r0:=rg 76 Try.f76 0
def c76r1:=rg 76 Try.f76 1
def c76r2:=rg 76 Try.f76 2
def c76r4:=rg 76 Try.f76 4
def c76r5:=rg 76 Try.f76 5
def c76r3:=rg 76 Try.f76 3
def c76l0:SC:=
 (.seq (.seq (.reg false (some [0,1,2,3,9,13]) c76r2) (.cond (.tmp 13) .nop (.exit 0))) (.seq (.block 1 (.seq (.reg false (some [0,1,2,3,9,24]) c76r4) (.cond (.tmp 24) (.seq (.reg false (some [8]) c76r5) .ret) .nop))) (.reg false (some [0,1,2,3,9]) c76r3)))
def c76r6:=rg 76 Try.f76 6
def c76:SC:=
 (.seq (.reg false (some [0,1,2,3]) c76r0) (.seq (.seq (.reg false (some [0,1,2,3,9]) c76r1) (.block 0 (.loop c76l0))) (.seq (.reg false (some [8]) c76r6) .ret)))
theorem s76:Try.f76.body.bind (bh Try.prog An 76 Try.f76.ntmps)=some c76:=by kernel_rfl
theorem g76:An.glob 76=[]:=rfl
theorem r76:Try.f76.results.toList=[(.tmp 8)]:=by kernel_rfl
theorem t76r0 (h:Q .normal ⟨[(0,(ac L 0)),(1,(ac L 1)),(2,(ac L 2)),(3,(ac L 3))],m⟩):Rg F 76 [0,1,2,3] c76r0 L m Q:=ae (by kernel_rfl) h
theorem t76r1 (h:Q .normal ⟨[(0,(ac L 0)),(1,(ac L 1)),(2,(ac L 2)),(3,(ac L 3)),(9,(.int .i64 0))],m⟩):Rg F 76 [0,1,2,3,9] c76r1 L m Q:=ae (by kernel_rfl) h
theorem FC (h:Obt (lenS (ac L 1)) fun a0=>Obt (aw Try.prog .lss 3 (.tmp 10) (.tmp 12) (ac L 9) a0) fun a1=>Q .normal ⟨[(0,(ac L 0)),(1,(ac L 1)),(2,(ac L 2)),(3,(ac L 3)),(9,(ac L 9)),(13,a1)],m⟩):Rg F 76 [0,1,2,3,9,13] c76r2 L m Q:=ae (by kernel_rfl) h
theorem t76r4 (h:Obt (bd 1 (ac L 1) (ac L 9)) fun a0=>Obt (ld1 m a0) fun a1=>Obt (aB An F 76 (some 23) 104 [(ac L 0),a1,(ac L 2),(ac L 3)] m) fun a2=>Obt (cun .not a2.1) fun a3=>Q .normal ⟨[(0,(ac L 0)),(1,(ac L 1)),(2,(ac L 2)),(3,(ac L 3)),(9,(ac L 9)),(24,a3)],a2.2⟩):Rg F 76 [0,1,2,3,9,24] c76r4 L m Q:=ae (by kernel_rfl) h
theorem t76r5 (h:Q .normal ⟨[(8,(.bool false))],m⟩):Rg F 76 [8] c76r5 L m Q:=ae (by kernel_rfl) h
theorem t76r3 (h:Obt (aw Try.prog .add 3 (.tmp 14) (.const (.int .i64 1)) (ac L 9) (.int .i64 1)) fun a0=>Q .normal ⟨[(0,(ac L 0)),(1,(ac L 1)),(2,(ac L 2)),(3,(ac L 3)),(9,a0)],m⟩):Rg F 76 [0,1,2,3,9] c76r3 L m Q:=ae (by kernel_rfl) h
theorem t76r6 (h:Q .normal ⟨[(8,(.bool true))],m⟩):Rg F 76 [8] c76r6 L m Q:=ae (by kernel_rfl) h
def c50r0:=rg 50 Try.f50 0
def c50r1:=rg 50 Try.f50 1
def c50r2:=rg 50 Try.f50 2
def c50r3:=rg 50 Try.f50 3
def c50r5:=rg 50 Try.f50 5
def c50r6:=rg 50 Try.f50 6
def c50r7:=rg 50 Try.f50 7
def c50r8:=rg 50 Try.f50 8
def Bu:=rg 50 Try.f50 10
def Bv:=rg 50 Try.f50 11
def c50r9:=rg 50 Try.f50 9
def c50l0:SC:=
 (.seq (.seq (.reg false (some [0,1,5,6,7,39]) c50r8) (.cond (.tmp 39) .nop (.exit 2))) (.seq (.block 3 (.seq (.reg true (some [0,1,5,6,7,59]) Bu) (.cond (.tmp 59) (.seq (.reg false (some [4]) Bv) .ret) .nop))) (.reg false (some [0,1,5,6,7]) c50r9)))
def c50r4:=rg 50 Try.f50 4
def c50l1:SC:=
 (.seq (.seq (.reg false (some [0,1,5,6,21]) c50r3) (.cond (.tmp 21) .nop (.exit 0))) (.seq (.block 1 (.seq (.seq (.reg true (some [0,1,5,6,34]) c50r5) (.cond (.tmp 34) (.seq (.reg false (some [4]) c50r6) .ret) .nop)) (.seq (.reg false (some [0,1,5,6,7]) c50r7) (.block 2 (.loop c50l0))))) (.reg false (some [0,1,5,6]) c50r4)))
def Bw:=rg 50 Try.f50 12
def Bx:=rg 50 Try.f50 13
def Bz:=rg 50 Try.f50 15
def BA:=rg 50 Try.f50 16
def By:=rg 50 Try.f50 14
def c50l2:SC:=
 (.seq (.seq (.reg false (some [0,1,5,8,64]) Bx) (.cond (.tmp 64) .nop (.exit 4))) (.seq (.block 5 (.seq (.reg false (some [0,1,5,8,78]) Bz) (.cond (.tmp 78) (.seq (.reg false (some [4]) BA) .ret) .nop))) (.reg false (some [0,1,5,8]) By)))
def BC:=rg 50 Try.f50 17
def c50:SC:=
 (.seq (.reg false (some [0,1]) c50r0) (.seq (.reg false (some [0,1,5]) c50r1) (.seq (.seq (.reg false (some [0,1,5,6]) c50r2) (.block 0 (.loop c50l1))) (.seq (.seq (.reg false (some [0,1,5,8]) Bw) (.block 4 (.loop c50l2))) (.seq (.reg false (some [4]) BC) .ret)))))
theorem s50:Try.f50.body.bind (bh Try.prog An 50 Try.f50.ntmps)=some c50:=by kernel_rfl
theorem g50:An.glob 50=[]:=rfl
theorem r50:Try.f50.results.toList=[(.tmp 4)]:=by kernel_rfl
theorem t50r0 (h:Q .normal ⟨[(0,(ac L 0)),(1,(ac L 1))],m⟩):Rg F 50 [0,1] c50r0 L m Q:=ae (by kernel_rfl) h
theorem t50r1 (h:Obt (b7 (ac L 0)) fun a0=>Obt (aA 0 a0) fun a1=>Obt (aA 0 a1) fun a2=>Obt (ld1 m a2) fun a3=>Obt (bd 10 a3 (ac L 1)) fun a4=>Obt (ldA 10 m a4) fun a5=>Obt (stX 10 (bw m 80 [.nil,.nil,.nil,.int .i64 0,.int .i64 0,.bool false,.int .i64 0,.int .i64 0,.int .i64 0,.int .i64 0]) (bo m 80) a5) fun a6=>Q .normal ⟨[(0,(ac L 0)),(1,(ac L 1)),(5,(bo m 80))],a6⟩):Rg F 50 [0,1,5] c50r1 L m Q:=ae (by kernel_rfl) h
theorem t50r2 (h:Q .normal ⟨[(0,(ac L 0)),(1,(ac L 1)),(5,(ac L 5)),(6,(.int .i64 0))],m⟩):Rg F 50 [0,1,5,6] c50r2 L m Q:=ae (by kernel_rfl) h
theorem Fe (h:Obt (aA 1 (ac L 5)) fun a0=>Obt (ld1 m a0) fun a1=>Obt (lenS a1) fun a2=>Obt (aw Try.prog .lss 3 (.tmp 17) (.tmp 20) (ac L 6) a2) fun a3=>Q .normal ⟨[(0,(ac L 0)),(1,(ac L 1)),(5,(ac L 5)),(6,(ac L 6)),(21,a3)],m⟩):Rg F 50 [0,1,5,6,21] c50r3 L m Q:=ae (by kernel_rfl) h
theorem t50r5 (h:Obt (aA 1 (ac L 5)) fun a0=>Obt (ld1 m a0) fun a1=>Obt (bd 2 a1 (ac L 6)) fun a2=>Obt (aA 1 a2) fun a3=>Obt (ld1 m a3) fun a4=>Obt (lenS a4) fun a5=>Obt (aA 0 (ac L 5)) fun a6=>Obt (ld1 m a6) fun a7=>Obt (lenS a7) fun a8=>Obt (aw Try.prog .neq 3 (.tmp 30) (.tmp 33) a5 a8) fun a9=>Q .normal ⟨[(0,(ac L 0)),(1,(ac L 1)),(5,(ac L 5)),(6,(ac L 6)),(34,a9)],m⟩):Rt F 50 [0,1,5,6,34] c50r5 L m Q:=ae (by kernel_rfl) h
theorem t50r6 (h:Q .normal ⟨[(4,(.bool false))],m⟩):Rg F 50 [4] c50r6 L m Q:=ae (by kernel_rfl) h
theorem t50r7 (h:Q .normal ⟨[(0,(ac L 0)),(1,(ac L 1)),(5,(ac L 5)),(6,(ac L 6)),(7,(.int .i64 0))],m⟩):Rg F 50 [0,1,5,6,7] c50r7 L m Q:=ae (by kernel_rfl) h
theorem Ff (h:Obt (aA 0 (ac L 5)) fun a0=>Obt (ld1 m a0) fun a1=>Obt (lenS a1) fun a2=>Obt (aw Try.prog .lss 3 (.tmp 35) (.tmp 38) (ac L 7) a2) fun a3=>Q .normal ⟨[(0,(ac L 0)),(1,(ac L 1)),(5,(ac L 5)),(6,(ac L 6)),(7,(ac L 7)),(39,a3)],m⟩):Rg F 50 [0,1,5,6,7,39] c50r8 L m Q:=ae (by kernel_rfl) h
theorem Fc (h:Obt (aA 1 (ac L 5)) fun a0=>Obt (ld1 m a0) fun a1=>Obt (bd 2 a1 (ac L 6)) fun a2=>Obt (aA 1 a2) fun a3=>Obt (ld1 m a3) fun a4=>Obt (aw Try.prog .add 3 (.tmp 50) (.const (.int .i64 1)) (ac L 7) (.int .i64 1)) fun a5=>Obt (sJ 1 a4 (some (ac L 7)) (some a5) none m) fun a6=>Obt (aA 0 (ac L 5)) fun a7=>Obt (ld1 m a7) fun a8=>Obt (bd 1 a8 (ac L 7)) fun a9=>Obt (ld1 m a9) fun a10=>Obt (aB An F 50 (some 58) 76 [(ac L 0),a6,a10,(.int .i64 1073741824)] m) fun a11=>Obt (cun .not a11.1) fun a12=>Q .normal ⟨[(0,(ac L 0)),(1,(ac L 1)),(5,(ac L 5)),(6,(ac L 6)),(7,(ac L 7)),(59,a12)],a11.2⟩):Rt F 50 [0,1,5,6,7,59] Bu L m Q:=ae (by kernel_rfl) h
theorem t50r11 (h:Q .normal ⟨[(4,(.bool false))],m⟩):Rg F 50 [4] Bv L m Q:=ae (by kernel_rfl) h
theorem t50r9 (h:Obt (aw Try.prog .add 3 (.tmp 40) (.const (.int .i64 1)) (ac L 7) (.int .i64 1)) fun a0=>Q .normal ⟨[(0,(ac L 0)),(1,(ac L 1)),(5,(ac L 5)),(6,(ac L 6)),(7,a0)],m⟩):Rg F 50 [0,1,5,6,7] c50r9 L m Q:=ae (by kernel_rfl) h
theorem t50r4 (h:Obt (aw Try.prog .add 3 (.tmp 22) (.const (.int .i64 1)) (ac L 6) (.int .i64 1)) fun a0=>Q .normal ⟨[(0,(ac L 0)),(1,(ac L 1)),(5,(ac L 5)),(6,a0)],m⟩):Rg F 50 [0,1,5,6] c50r4 L m Q:=ae (by kernel_rfl) h
theorem t50r12 (h:Q .normal ⟨[(0,(ac L 0)),(1,(ac L 1)),(5,(ac L 5)),(8,(.int .i64 0))],m⟩):Rg F 50 [0,1,5,8] Bw L m Q:=ae (by kernel_rfl) h
theorem Fd (h:Obt (aA 2 (ac L 5)) fun a0=>Obt (ld1 m a0) fun a1=>Obt (lenS a1) fun a2=>Obt (aw Try.prog .lss 3 (.tmp 60) (.tmp 63) (ac L 8) a2) fun a3=>Q .normal ⟨[(0,(ac L 0)),(1,(ac L 1)),(5,(ac L 5)),(8,(ac L 8)),(64,a3)],m⟩):Rg F 50 [0,1,5,8,64] Bx L m Q:=ae (by kernel_rfl) h
theorem t50r15 (h:Obt (aA 2 (ac L 5)) fun a0=>Obt (ld1 m a0) fun a1=>Obt (bd 12 a1 (ac L 8)) fun a2=>Obt (ldA 12 m a2) fun a3=>Obt (aB An F 50 (some 73) 30 [a3] m) fun a4=>Obt (aw Try.prog .add 3 (.tmp 75) (.const (.int .i64 1)) (ac L 8) (.int .i64 1)) fun a5=>Obt (aB An F 50 (some 77) 76 [(ac L 0),a4.1,(ac L 1),a5] a4.2) fun a6=>Obt (cun .not a6.1) fun a7=>Q .normal ⟨[(0,(ac L 0)),(1,(ac L 1)),(5,(ac L 5)),(8,(ac L 8)),(78,a7)],a6.2⟩):Rg F 50 [0,1,5,8,78] Bz L m Q:=ae (by kernel_rfl) h
theorem t50r16 (h:Q .normal ⟨[(4,(.bool false))],m⟩):Rg F 50 [4] BA L m Q:=ae (by kernel_rfl) h
theorem t50r14 (h:Obt (aw Try.prog .add 3 (.tmp 65) (.const (.int .i64 1)) (ac L 8) (.int .i64 1)) fun a0=>Q .normal ⟨[(0,(ac L 0)),(1,(ac L 1)),(5,(ac L 5)),(8,a0)],m⟩):Rg F 50 [0,1,5,8] By L m Q:=ae (by kernel_rfl) h
theorem t50r17 (h:Obt (aA 3 (ac L 5)) fun a0=>Obt (ldA 7 m a0) fun a1=>Obt (aB An F 50 (some 82) 29 [a1] m) fun a2=>Obt (aB An F 50 (some 84) 76 [(ac L 0),a2.1,(ac L 1),(.int .i64 1073741824)] a2.2) fun a3=>Q .normal ⟨[(4,a3.1)],a3.2⟩):Rg F 50 [4] BC L m Q:=ae (by kernel_rfl) h
def c16r0:=rg 16 Try.f16 0
def c16r1:=rg 16 Try.f16 1
def c16r2:=rg 16 Try.f16 2
def c16r3:=rg 16 Try.f16 3
def c16r4:=rg 16 Try.f16 4
def c16r5:=rg 16 Try.f16 5
def c16r6:=rg 16 Try.f16 6
def c16r7:=rg 16 Try.f16 7
def c16r8:=rg 16 Try.f16 8
def c16r9:=rg 16 Try.f16 9
def AE:=rg 16 Try.f16 10
def AF:=rg 16 Try.f16 11
def AH:=rg 16 Try.f16 13
def AI:=rg 16 Try.f16 14
def AG:=rg 16 Try.f16 12
def c16l0:SC:=
 (.seq (.seq (.reg false (some [1,6,7,52]) AF) (.cond (.tmp 52) .nop (.exit 0))) (.seq (.block 1 (.seq (.reg false (some [1,6,7,58]) AH) (.cond (.tmp 58) (.seq (.reg false (some [2]) AI) .ret) .nop))) (.reg false (some [1,6,7]) AG)))
def AJ:=rg 16 Try.f16 15
def c16:SC:=
 (.seq (.reg false (some [1]) c16r0) (.seq (.seq (.reg false (some [1,27]) c16r1) (.cond (.tmp 27) (.seq (.reg false (some [2]) c16r2) .ret) .nop)) (.seq (.reg false (some [1,3]) c16r3) (.seq (.seq (.reg false (some [1,3,33]) c16r4) (.cond (.tmp 33) (.seq (.reg false (some [2]) c16r5) .ret) .nop)) (.seq (.reg false (some [1,3,4,5]) c16r6) (.seq (.seq (.reg false (some [1,3,4,40]) c16r7) (.cond (.tmp 40) (.seq (.reg false (some [2]) c16r8) .ret) .nop)) (.seq (.reg false (some [1,6]) c16r9) (.seq (.seq (.reg false (some [1,6,7]) AE) (.block 0 (.loop c16l0))) (.seq (.reg false (some [2]) AJ) .ret)))))))))
theorem s16:Try.f16.body.bind (bh Try.prog An 16 Try.f16.ntmps)=some c16:=by kernel_rfl
theorem g16:An.glob 16=[47]:=rfl
theorem r16:Try.f16.results.toList=[(.tmp 2)]:=by kernel_rfl
theorem sN (h:Obt (ap (ac L 0)) fun a0=>Q .normal ⟨[(1,(bo m 16))],(bw m 16 a0)⟩):Rg F 16 [1] c16r0 L m Q:=ae (by kernel_rfl) h
theorem sO (h:Obt (aA 0 (ac L 1)) fun a0=>Obt (ld1 m a0) fun a1=>Obt (lenS a1) fun a2=>Obt (aw Try.prog .lss 3 (.tmp 10) (.const (.int .i64 1)) a2 (.int .i64 1)) fun a3=>Obt (gdO a3 false ((aA 0 (ac L 1)).map fun v=>(v,m)) (.tuple [],m)) fun a4=>Obt (gdO a3 false ((ld1 a4.2 a4.1).map fun v=>(v,a4.2)) (.tuple [],a4.2)) fun a5=>Obt (gdO a3 false ((lenS a5.1).map fun v=>(v,a5.2)) (.tuple [],a5.2)) fun a6=>Obt (gdO a3 false ((aw Try.prog .gtr 3 (.tmp 15) (.const (.int .i64 8192)) a6.1 (.int .i64 8192)).map fun v=>(v,a6.2)) (.tuple [],a6.2)) fun a7=>Obt (aT a3 (.bool true) a7.1) fun a8=>Obt (gdO a8 false ((aA 1 (ac L 1)).map fun v=>(v,a7.2)) (.tuple [],a7.2)) fun a9=>Obt (gdO a8 false ((ld1 a9.2 a9.1).map fun v=>(v,a9.2)) (.tuple [],a9.2)) fun a10=>Obt (gdO a8 false ((aw Try.prog .lss 3 (.tmp 20) (.const (.int .i64 0)) a10.1 (.int .i64 0)).map fun v=>(v,a10.2)) (.tuple [],a10.2)) fun a11=>Obt (aT a8 (.bool true) a11.1) fun a12=>Obt (gdO a12 false ((aA 1 (ac L 1)).map fun v=>(v,a11.2)) (.tuple [],a11.2)) fun a13=>Obt (gdO a12 false ((ld1 a13.2 a13.1).map fun v=>(v,a13.2)) (.tuple [],a13.2)) fun a14=>Obt (gdO a12 false ((aw Try.prog .gtr 3 (.tmp 25) (.const (.int .i64 65536)) a14.1 (.int .i64 65536)).map fun v=>(v,a14.2)) (.tuple [],a14.2)) fun a15=>Obt (aT a12 (.bool true) a15.1) fun a16=>Q .normal ⟨[(1,(ac L 1)),(27,a16)],a15.2⟩):Rg F 16 [1,27] c16r1 L m Q:=ae (by kernel_rfl) h
theorem wo (h:Q .normal ⟨[(2,(.int .i64 160))],m⟩):Rg F 16 [2] c16r2 L m Q:=ae (by kernel_rfl) h
theorem t16r3 (h:Obt (ldA 2 m (ac L 1)) fun a0=>Obt (aB An F 16 (some 29) 46 [a0] m) fun a1=>Q .normal ⟨[(1,(ac L 1)),(3,a1.1)],a1.2⟩):Rg F 16 [1,3] c16r3 L m Q:=ae (by kernel_rfl) h
theorem ER (h:Obt (ldA 2 m (ac L 1)) fun a0=>Obt (aB An F 16 (some 32) 47 [a0,(ac L 3)] m) fun a1=>Obt (cun .not a1.1) fun a2=>Q .normal ⟨[(1,(ac L 1)),(3,(ac L 3)),(33,a2)],a1.2⟩):Rg F 16 [1,3,33] c16r4 L m Q:=ae (by kernel_rfl) h
theorem t16r5 (h:Q .normal ⟨[(2,(.int .i64 160))],m⟩):Rg F 16 [2] c16r5 L m Q:=ae (by kernel_rfl) h
theorem t16r6 (h:Obt (ldA 2 m (ac L 1)) fun a0=>Obt (aB An F 16 (some 36) 48 [a0] m) fun a1=>Obt (cV 0 a1.1) fun a2=>Obt (cV 1 a1.1) fun a3=>Q .normal ⟨[(1,(ac L 1)),(3,(ac L 3)),(4,a2),(5,a3)],a1.2⟩):Rg F 16 [1,3,4,5] c16r6 L m Q:=ae (by kernel_rfl) h
theorem t16r7 (h:Obt (cun .not (ac L 5)) fun a0=>Q .normal ⟨[(1,(ac L 1)),(3,(ac L 3)),(4,(ac L 4)),(40,a0)],m⟩):Rg F 16 [1,3,4,40] c16r7 L m Q:=ae (by kernel_rfl) h
theorem t16r8 (h:Q .normal ⟨[(2,(.int .i64 160))],m⟩):Rg F 16 [2] c16r8 L m Q:=ae (by kernel_rfl) h
theorem t16r9 (h:Obt (n6 [(true,45)] (ac L 1) ((ldA 2 m (ac L 1)).map fun v=>(v,m))) fun a0=>Obt (aB An F 16 (some 45) 49 [(ac L 3)] a0.2) fun a1=>Obt ((bg [.nil,.int .i64 0,.nil,.nil,.nil] [(0,2,a0.1),(2,1,(ac L 4)),(3,1,(ac L 3)),(4,1,a1.1)]).map CV.agg) fun a2=>Obt (iB a2 a1.2) fun a3=>Q .normal ⟨[(1,(ac L 1)),(6,a3.1)],a3.2⟩):Rg F 16 [1,6] c16r9 L m Q:=ae (by kernel_rfl) h
theorem t16r10 (h:Q .normal ⟨[(1,(ac L 1)),(6,(ac L 6)),(7,(.int .i64 0))],m⟩):Rg F 16 [1,6,7] AE L m Q:=ae (by kernel_rfl) h
theorem ur (h:Obt (aA 0 (ac L 1)) fun a0=>Obt (ld1 m a0) fun a1=>Obt (lenS a1) fun a2=>Obt (aw Try.prog .lss 3 (.tmp 48) (.tmp 51) (ac L 7) a2) fun a3=>Q .normal ⟨[(1,(ac L 1)),(6,(ac L 6)),(7,(ac L 7)),(52,a3)],m⟩):Rg F 16 [1,6,7,52] AF L m Q:=ae (by kernel_rfl) h
theorem EQ (h:Obt (aB An F 16 (some 57) 50 [(ac L 6),(ac L 7)] m) fun a0=>Obt (cun .not a0.1) fun a1=>Q .normal ⟨[(1,(ac L 1)),(6,(ac L 6)),(7,(ac L 7)),(58,a1)],a0.2⟩):Rg F 16 [1,6,7,58] AH L m Q:=ae (by kernel_rfl) h
theorem t16r14 (h:Q .normal ⟨[(2,(.int .i64 160))],m⟩):Rg F 16 [2] AI L m Q:=ae (by kernel_rfl) h
theorem t16r12 (h:Obt (aw Try.prog .add 3 (.tmp 53) (.const (.int .i64 1)) (ac L 7) (.int .i64 1)) fun a0=>Q .normal ⟨[(1,(ac L 1)),(6,(ac L 6)),(7,a0)],m⟩):Rg F 16 [1,6,7] AG L m Q:=ae (by kernel_rfl) h
theorem t16r15 (h:Q .normal ⟨[(2,(.int .i64 0))],m⟩):Rg F 16 [2] AJ L m Q:=ae (by kernel_rfl) h
end
end Go.Cm
