import Derived.Test.YtjhndbgokapikaaFyA
set_option linter.unusedSimpArgs false
set_option linter.unusedVariables false
namespace Go.Cm
open Go.Proofs
variable {F:aW}{L:List (Nat×CV)}{m:Mem}{Q:CE→TS→Prop}
noncomputable section
def c7r0:=rg 7 Try.f7 0
def c7r1:=rg 7 Try.f7 1
def c7r2:=rg 7 Try.f7 2
def c7r3:=rg 7 Try.f7 3
def c7r4:=rg 7 Try.f7 4
def c7r5:=rg 7 Try.f7 5
def c7r6:=rg 7 Try.f7 6
def c7r7:=rg 7 Try.f7 7
def c7r8:=rg 7 Try.f7 8
def c7r9:=rg 7 Try.f7 9
def c7r10:=rg 7 Try.f7 10
def c7r11:=rg 7 Try.f7 11
def c7r12:=rg 7 Try.f7 12
def c7r13:=rg 7 Try.f7 13
def c7r14:=rg 7 Try.f7 14
def c7l0:SC:=
 (.seq (.reg false (some [0,6,7,31,32,33,44,45,46,47]) c7r11) (.seq (.cond (.tmp 47) .nop (.exit 2)) (.seq (.block 3 (.seq (.reg false (some [0,6,7,11,31,32,33,44,45,46]) c7r12) (.reg false (some [0,6,7,31,32,33,44,45,46]) c7r13))) (.reg false (some [0,6,7,31,32,33,44,45,46]) c7r14))))
def c7r15:=rg 7 Try.f7 15
def c7l1:SC:=
 (.seq (.reg false (some [0,6,7,31,32,33,34]) c7r7) (.seq (.cond (.tmp 34) .nop (.exit 0)) (.seq (.block 1 (.seq (.reg false (some [0,6,7,9,31,32,33]) c7r8) (.seq (.reg false (some [0,6,7,9,31,32,33,41]) c7r9) (.cond (.tmp 41) (.seq (.reg false (some [0,6,7,31,32,33,44,45,46]) c7r10) (.block 2 (.loop c7l0))) .nop)))) (.reg false (some [0,6,7,31,32,33]) c7r15))))
def c7r16:=rg 7 Try.f7 16
def c7r17:=rg 7 Try.f7 17
def c7r18:=rg 7 Try.f7 18
def c7r19:=rg 7 Try.f7 19
def c7r20:=rg 7 Try.f7 20
def c7r21:=rg 7 Try.f7 21
def c7r22:=rg 7 Try.f7 22
def c7l2:SC:=
 (.seq (.reg false (some [0,6,12,54,55,56,57]) c7r18) (.seq (.cond (.tmp 57) .nop (.exit 4)) (.seq (.block 5 (.seq (.reg false (some [0,6,12,14,54,55,56]) c7r19) (.seq (.reg false (some [0,6,12,14,54,55,56,62]) c7r20) (.cond (.tmp 62) (.reg false (some [0,6,12,54,55,56]) c7r21) .nop)))) (.reg false (some [0,6,12,54,55,56]) c7r22))))
def c7r23:=rg 7 Try.f7 23
def c7r24:=rg 7 Try.f7 24
def c7r25:=rg 7 Try.f7 25
def c7r26:=rg 7 Try.f7 26
def c7r27:=rg 7 Try.f7 27
def c7r28:=rg 7 Try.f7 28
def c7r29:=rg 7 Try.f7 29
def c7r30:=rg 7 Try.f7 30
def c7r31:=rg 7 Try.f7 31
def c7r32:=rg 7 Try.f7 32
def c7r33:=rg 7 Try.f7 33
def c7l3:SC:=
 (.seq (.reg false (some [0,12,15,72,73,82,83,84,85]) c7r27) (.seq (.cond (.tmp 85) .nop (.exit 8)) (.seq (.block 9 (.seq (.reg false (some [0,12,15,17,72,73,82,83,84]) c7r28) (.seq (.reg false (some [0,12,15,18,72,73,82,83,84]) c7r29) (.seq (.reg false (some [0,12,15,18,72,73,82,83,84,98]) c7r30) (.cond (.tmp 98) (.seq (.reg false (some [0,12,15,18,72,73,82,83,84]) c7r31) (.reg false (some [0,12,15,72,73,82,83,84]) c7r32)) .nop))))) (.reg false (some [0,12,15,72,73,82,83,84]) c7r33))))
def c7r34:=rg 7 Try.f7 34
def c7l4:SC:=
 (.seq (.reg false (some [0,12,72,73,74]) c7r24) (.seq (.cond (.tmp 74) .nop (.exit 6)) (.seq (.block 7 (.seq (.reg false (some [0,12,15,72,73]) c7r25) (.seq (.reg false (some [0,12,15,72,73,82,83,84]) c7r26) (.block 8 (.loop c7l3))))) (.reg false (some [0,12,72,73]) c7r34))))
def c7r35:=rg 7 Try.f7 35
def c7:SC:=
 (.seq (.reg false (some [0]) c7r0) (.seq (.seq (.reg false (some [0,5]) c7r1) (.seq (.reg false (some [0,5,25]) c7r2) (.cond (.tmp 25) (.seq (.reg false (some [2,3]) c7r3) .ret) .nop))) (.seq (.reg false (some [0,6]) c7r4) (.seq (.reg false (some [0,6,7]) c7r5) (.seq (.seq (.reg false (some [0,6,7,31,32,33]) c7r6) (.block 0 (.loop c7l1))) (.seq (.reg false (some [0,6,7,12]) c7r16) (.seq (.seq (.reg false (some [0,6,12,54,55,56]) c7r17) (.block 4 (.loop c7l2))) (.seq (.seq (.reg false (some [0,12,72,73]) c7r23) (.block 6 (.loop c7l4))) (.seq (.reg false (some [2,3]) c7r35) .ret)))))))))
theorem s7:Try.f7.body.bind (bh Try.prog An 7 Try.f7.ntmps)=some c7:=by kernel_rfl
theorem g7:An.glob 7=[27,69,108,120]:=rfl
theorem r7:Try.f7.results.toList=[(.tmp 2),(.tmp 3)]:=by kernel_rfl
theorem t7r0 (h:Q .normal ⟨[(0,(ac L 0))],m⟩):Rg F 7 [0] c7r0 L m Q:=ae (by kernel_rfl) h
theorem t7r1 (h:Obt (cd An F 7 (some 21) 18 [(ac L 0)] m) λa0=>Obt (cV 0 a0.1) λa1=>Obt (cV 1 a0.1) λa2=>Q .normal ⟨[(0,(ac L 0)),(5,a2)],a0.2⟩):Rg F 7 [0,5] c7r1 L m Q:=ae (by kernel_rfl) h
theorem t7r2 (h:Obt (aw Try.prog .neq 24 (.tmp 24) (.const (.int .i64 0)) (ac L 5) (.int .i64 0)) λa0=>Q .normal ⟨[(0,(ac L 0)),(5,(ac L 5)),(25,a0)],m⟩):Rg F 7 [0,5,25] c7r2 L m Q:=ae (by kernel_rfl) h
theorem t7r3 (h:Q .normal ⟨[(2,.nil),(3,(ac L 5))],m⟩):Rg F 7 [2,3] c7r3 L m Q:=ae (by kernel_rfl) h
theorem t7r4 (h:Obt (mB Try.prog 3 (md m) (.int .i64 0) (.bool true) (jJ m)) λa0=>Q .normal ⟨[(0,(ac L 0)),(6,(md m))],a0⟩):Rg F 7 [0,6] c7r4 L m Q:=ae (by kernel_rfl) h
theorem t7r5 (h:Obt (cd An F 7 (some 30) 11 [(ac L 0)] m) λa0=>Q .normal ⟨[(0,(ac L 0)),(6,(ac L 6)),(7,a0.1)],a0.2⟩):Rg F 7 [0,6,7] c7r5 L m Q:=ae (by kernel_rfl) h
theorem t7r6 (h:Obt (lenS (ac L 7)) λa0=>Q .normal ⟨[(0,(ac L 0)),(6,(ac L 6)),(7,(ac L 7)),(31,(ac L 7)),(32,a0),(33,(.int .i64 0))],m⟩):Rg F 7 [0,6,7,31,32,33] c7r6 L m Q:=ae (by kernel_rfl) h
theorem t7r7 (h:Obt (aw Try.prog .lss 3 (.tmp 33) (.tmp 32) (ac L 33) (ac L 32)) λa0=>Q .normal ⟨[(0,(ac L 0)),(6,(ac L 6)),(7,(ac L 7)),(31,(ac L 31)),(32,(ac L 32)),(33,(ac L 33)),(34,a0)],m⟩):Rg F 7 [0,6,7,31,32,33,34] c7r7 L m Q:=ae (by kernel_rfl) h
theorem t7r8 (h:Obt (bd 1 (ac L 31) (ac L 33)) λa0=>Obt (ld1 m a0) λa1=>Q .normal ⟨[(0,(ac L 0)),(6,(ac L 6)),(7,(ac L 7)),(9,a1),(31,(ac L 31)),(32,(ac L 32)),(33,(ac L 33))],m⟩):Rg F 7 [0,6,7,9,31,32,33] c7r8 L m Q:=ae (by kernel_rfl) h
theorem t7r9 (h:Obt (bd 6 (ac L 0) (ac L 9)) λa0=>Obt (ldA 6 m a0) λa1=>Obt (cd An F 7 (some 41) 19 [a1] m) λa2=>Q .normal ⟨[(0,(ac L 0)),(6,(ac L 6)),(7,(ac L 7)),(9,(ac L 9)),(31,(ac L 31)),(32,(ac L 32)),(33,(ac L 33)),(41,a2.1)],a2.2⟩):Rg F 7 [0,6,7,9,31,32,33,41] c7r9 L m Q:=ae (by kernel_rfl) h
theorem t7r10 (h:Obt (cd An F 7 (some 44) 20 [(ac L 0),(ac L 9)] m) λa0=>Obt (lenS a0.1) λa1=>Q .normal ⟨[(0,(ac L 0)),(6,(ac L 6)),(7,(ac L 7)),(31,(ac L 31)),(32,(ac L 32)),(33,(ac L 33)),(44,a0.1),(45,a1),(46,(.int .i64 0))],a0.2⟩):Rg F 7 [0,6,7,31,32,33,44,45,46] c7r10 L m Q:=ae (by kernel_rfl) h
theorem t7r11 (h:Obt (aw Try.prog .lss 3 (.tmp 46) (.tmp 45) (ac L 46) (ac L 45)) λa0=>Q .normal ⟨[(0,(ac L 0)),(6,(ac L 6)),(7,(ac L 7)),(31,(ac L 31)),(32,(ac L 32)),(33,(ac L 33)),(44,(ac L 44)),(45,(ac L 45)),(46,(ac L 46)),(47,a0)],m⟩):Rg F 7 [0,6,7,31,32,33,44,45,46,47] c7r11 L m Q:=ae (by kernel_rfl) h
theorem t7r12 (h:Obt (bd 1 (ac L 44) (ac L 46)) λa0=>Obt (ld1 m a0) λa1=>Q .normal ⟨[(0,(ac L 0)),(6,(ac L 6)),(7,(ac L 7)),(11,a1),(31,(ac L 31)),(32,(ac L 32)),(33,(ac L 33)),(44,(ac L 44)),(45,(ac L 45)),(46,(ac L 46))],m⟩):Rg F 7 [0,6,7,11,31,32,33,44,45,46] c7r12 L m Q:=ae (by kernel_rfl) h
theorem t7r13 (h:Obt (mB Try.prog 3 (ac L 6) (ac L 11) (.bool true) m) λa0=>Q .normal ⟨[(0,(ac L 0)),(6,(ac L 6)),(7,(ac L 7)),(31,(ac L 31)),(32,(ac L 32)),(33,(ac L 33)),(44,(ac L 44)),(45,(ac L 45)),(46,(ac L 46))],a0⟩):Rg F 7 [0,6,7,31,32,33,44,45,46] c7r13 L m Q:=ae (by kernel_rfl) h
theorem t7r14 (h:Obt (aw Try.prog .add 3 (.tmp 46) (.const (.int .i64 1)) (ac L 46) (.int .i64 1)) λa0=>Q .normal ⟨[(0,(ac L 0)),(6,(ac L 6)),(7,(ac L 7)),(31,(ac L 31)),(32,(ac L 32)),(33,(ac L 33)),(44,(ac L 44)),(45,(ac L 45)),(46,a0)],m⟩):Rg F 7 [0,6,7,31,32,33,44,45,46] c7r14 L m Q:=ae (by kernel_rfl) h
theorem t7r15 (h:Obt (aw Try.prog .add 3 (.tmp 33) (.const (.int .i64 1)) (ac L 33) (.int .i64 1)) λa0=>Q .normal ⟨[(0,(ac L 0)),(6,(ac L 6)),(7,(ac L 7)),(31,(ac L 31)),(32,(ac L 32)),(33,a0)],m⟩):Rg F 7 [0,6,7,31,32,33] c7r15 L m Q:=ae (by kernel_rfl) h
theorem t7r16 (h:Q .normal ⟨[(0,(ac L 0)),(6,(ac L 6)),(7,(ac L 7)),(12,.nil)],m⟩):Rg F 7 [0,6,7,12] c7r16 L m Q:=ae (by kernel_rfl) h
theorem t7r17 (h:Obt (lenS (ac L 7)) λa0=>Q .normal ⟨[(0,(ac L 0)),(6,(ac L 6)),(12,(ac L 12)),(54,(ac L 7)),(55,a0),(56,(.int .i64 0))],m⟩):Rg F 7 [0,6,12,54,55,56] c7r17 L m Q:=ae (by kernel_rfl) h
theorem Q9 (h:Obt (aw Try.prog .lss 3 (.tmp 56) (.tmp 55) (ac L 56) (ac L 55)) λa0=>Q .normal ⟨[(0,(ac L 0)),(6,(ac L 6)),(12,(ac L 12)),(54,(ac L 54)),(55,(ac L 55)),(56,(ac L 56)),(57,a0)],m⟩):Rg F 7 [0,6,12,54,55,56,57] c7r18 L m Q:=ae (by kernel_rfl) h
theorem t7r19 (h:Obt (bd 1 (ac L 54) (ac L 56)) λa0=>Obt (ld1 m a0) λa1=>Q .normal ⟨[(0,(ac L 0)),(6,(ac L 6)),(12,(ac L 12)),(14,a1),(54,(ac L 54)),(55,(ac L 55)),(56,(ac L 56))],m⟩):Rg F 7 [0,6,12,14,54,55,56] c7r19 L m Q:=ae (by kernel_rfl) h
theorem t7r20 (h:Obt (gK Try.prog 3 (.bool false) (ac L 6) (ac L 14) false m) λa0=>Q .normal ⟨[(0,(ac L 0)),(6,(ac L 6)),(12,(ac L 12)),(14,(ac L 14)),(54,(ac L 54)),(55,(ac L 55)),(56,(ac L 56)),(62,a0)],m⟩):Rg F 7 [0,6,12,14,54,55,56,62] c7r20 L m Q:=ae (by kernel_rfl) h
theorem t7r21 (h:Obt (cd An F 7 (some 67) 21 [(ac L 0),(ac L 6),(ac L 14)] m) λa0=>Obt (be false 1088 5 1 [.int .i64 0,.int .i64 0,.int .i64 0,.nil,.nil] [(0,5,a0.1)] a0.2) λa1=>Obt (ej true 1104 5 72 (ac L 12) a1.1 a1.2) λa2=>Q .normal ⟨[(0,(ac L 0)),(6,(ac L 6)),(12,a2.1),(54,(ac L 54)),(55,(ac L 55)),(56,(ac L 56))],a2.2⟩):Rg F 7 [0,6,12,54,55,56] c7r21 L m Q:=ae (by kernel_rfl) h
theorem t7r22 (h:Obt (aw Try.prog .add 3 (.tmp 56) (.const (.int .i64 1)) (ac L 56) (.int .i64 1)) λa0=>Q .normal ⟨[(0,(ac L 0)),(6,(ac L 6)),(12,(ac L 12)),(54,(ac L 54)),(55,(ac L 55)),(56,a0)],m⟩):Rg F 7 [0,6,12,54,55,56] c7r22 L m Q:=ae (by kernel_rfl) h
theorem t7r23 (h:Obt (lenS (ac L 12)) λa0=>Q .normal ⟨[(0,(ac L 0)),(12,(ac L 12)),(72,a0),(73,(.int .i64 0))],m⟩):Rg F 7 [0,12,72,73] c7r23 L m Q:=ae (by kernel_rfl) h
theorem t7r24 (h:Obt (aw Try.prog .lss 3 (.tmp 73) (.tmp 72) (ac L 73) (ac L 72)) λa0=>Q .normal ⟨[(0,(ac L 0)),(12,(ac L 12)),(72,(ac L 72)),(73,(ac L 73)),(74,a0)],m⟩):Rg F 7 [0,12,72,73,74] c7r24 L m Q:=ae (by kernel_rfl) h
theorem t7r25 (h:Q .normal ⟨[(0,(ac L 0)),(12,(ac L 12)),(15,(ac L 73)),(72,(ac L 72)),(73,(ac L 73))],m⟩):Rg F 7 [0,12,15,72,73] c7r25 L m Q:=ae (by kernel_rfl) h
theorem t7r26 (h:Obt (bd 5 (ac L 12) (ac L 15)) λa0=>Obt (aA 2 a0) λa1=>Obt (ld1 m a1) λa2=>Obt (cd An F 7 (some 82) 20 [(ac L 0),a2] m) λa3=>Obt (lenS a3.1) λa4=>Q .normal ⟨[(0,(ac L 0)),(12,(ac L 12)),(15,(ac L 15)),(72,(ac L 72)),(73,(ac L 73)),(82,a3.1),(83,a4),(84,(.int .i64 0))],a3.2⟩):Rg F 7 [0,12,15,72,73,82,83,84] c7r26 L m Q:=ae (by kernel_rfl) h
theorem Ra (h:Obt (aw Try.prog .lss 3 (.tmp 84) (.tmp 83) (ac L 84) (ac L 83)) λa0=>Q .normal ⟨[(0,(ac L 0)),(12,(ac L 12)),(15,(ac L 15)),(72,(ac L 72)),(73,(ac L 73)),(82,(ac L 82)),(83,(ac L 83)),(84,(ac L 84)),(85,a0)],m⟩):Rg F 7 [0,12,15,72,73,82,83,84,85] c7r27 L m Q:=ae (by kernel_rfl) h
theorem t7r28 (h:Obt (bd 1 (ac L 82) (ac L 84)) λa0=>Obt (ld1 m a0) λa1=>Q .normal ⟨[(0,(ac L 0)),(12,(ac L 12)),(15,(ac L 15)),(17,a1),(72,(ac L 72)),(73,(ac L 73)),(82,(ac L 82)),(83,(ac L 83)),(84,(ac L 84))],m⟩):Rg F 7 [0,12,15,17,72,73,82,83,84] c7r28 L m Q:=ae (by kernel_rfl) h
theorem t7r29 (h:Obt (cd An F 7 (some 90) 13 [(ac L 12),(ac L 17)] m) λa0=>Q .normal ⟨[(0,(ac L 0)),(12,(ac L 12)),(15,(ac L 15)),(18,a0.1),(72,(ac L 72)),(73,(ac L 73)),(82,(ac L 82)),(83,(ac L 83)),(84,(ac L 84))],a0.2⟩):Rg F 7 [0,12,15,18,72,73,82,83,84] c7r29 L m Q:=ae (by kernel_rfl) h
theorem t7r30 (h:Obt (bd 5 (ac L 12) (ac L 15)) λa0=>Obt (aA 3 a0) λa1=>Obt (ld1 m a1) λa2=>Obt (cd An F 7 (some 97) 22 [a2,(ac L 18)] m) λa3=>Obt (cun .not a3.1) λa4=>Q .normal ⟨[(0,(ac L 0)),(12,(ac L 12)),(15,(ac L 15)),(18,(ac L 18)),(72,(ac L 72)),(73,(ac L 73)),(82,(ac L 82)),(83,(ac L 83)),(84,(ac L 84)),(98,a4)],a3.2⟩):Rg F 7 [0,12,15,18,72,73,82,83,84,98] c7r30 L m Q:=ae (by kernel_rfl) h
theorem t7r31 (h:Obt (bd 5 (ac L 12) (ac L 15)) λa0=>Obt (aA 3 a0) λa1=>Obt (ld1 m a1) λa2=>Obt (be false 1712 1 1 [.int .i64 0] [(0,1,(ac L 18))] m) λa3=>Obt (ej true 1728 1 8 a2 a3.1 a3.2) λa4=>Obt (bd 5 (ac L 12) (ac L 15)) λa5=>Obt (aA 3 a5) λa6=>Obt (stX 1 a4.2 a6 a4.1) λa7=>Q .normal ⟨[(0,(ac L 0)),(12,(ac L 12)),(15,(ac L 15)),(18,(ac L 18)),(72,(ac L 72)),(73,(ac L 73)),(82,(ac L 82)),(83,(ac L 83)),(84,(ac L 84))],a7⟩):Rg F 7 [0,12,15,18,72,73,82,83,84] c7r31 L m Q:=ae (by kernel_rfl) h
theorem t7r32 (h:Obt (bd 5 (ac L 12) (ac L 18)) λa0=>Obt (aA 4 a0) λa1=>Obt (ld1 m a1) λa2=>Obt (be false 1904 1 1 [.int .i64 0] [(0,1,(ac L 15))] m) λa3=>Obt (ej true 1920 1 8 a2 a3.1 a3.2) λa4=>Obt (bd 5 (ac L 12) (ac L 18)) λa5=>Obt (aA 4 a5) λa6=>Obt (stX 1 a4.2 a6 a4.1) λa7=>Q .normal ⟨[(0,(ac L 0)),(12,(ac L 12)),(15,(ac L 15)),(72,(ac L 72)),(73,(ac L 73)),(82,(ac L 82)),(83,(ac L 83)),(84,(ac L 84))],a7⟩):Rg F 7 [0,12,15,72,73,82,83,84] c7r32 L m Q:=ae (by kernel_rfl) h
theorem t7r33 (h:Obt (aw Try.prog .add 3 (.tmp 84) (.const (.int .i64 1)) (ac L 84) (.int .i64 1)) λa0=>Q .normal ⟨[(0,(ac L 0)),(12,(ac L 12)),(15,(ac L 15)),(72,(ac L 72)),(73,(ac L 73)),(82,(ac L 82)),(83,(ac L 83)),(84,a0)],m⟩):Rg F 7 [0,12,15,72,73,82,83,84] c7r33 L m Q:=ae (by kernel_rfl) h
theorem t7r34 (h:Obt (aw Try.prog .add 3 (.tmp 73) (.const (.int .i64 1)) (ac L 73) (.int .i64 1)) λa0=>Q .normal ⟨[(0,(ac L 0)),(12,(ac L 12)),(72,(ac L 72)),(73,a0)],m⟩):Rg F 7 [0,12,72,73] c7r34 L m Q:=ae (by kernel_rfl) h
theorem t7r35 (h:Q .normal ⟨[(2,(ac L 12)),(3,(.int .i64 0))],m⟩):Rg F 7 [2,3] c7r35 L m Q:=ae (by kernel_rfl) h
def c13r0:=rg 13 Try.f13 0
def c13r1:=rg 13 Try.f13 1
def c13:SC:=
 (.seq (.reg false (some [0,3]) c13r0) (.seq (.reg false (some [4]) c13r1) .ret))
theorem s13:Try.f13.body.bind (bh Try.prog An 13 Try.f13.ntmps)=some c13:=by kernel_rfl
theorem g13:An.glob 13=[3]:=rfl
theorem r13:Try.f13.results.toList=[(.tmp 4)]:=by kernel_rfl
theorem t13r0 (h:Obt (iB (ac L 1) m) λa0=>Q .normal ⟨[(0,(ac L 0)),(3,a0.1)],a0.2⟩):Rg F 13 [0,3] c13r0 L m Q:=ae (by kernel_rfl) h
theorem t13r1 (h:Obt (cd An F 13 (some 7) 30 [(ac L 0),(.func (.func 31) [] [(ac L 3)])] m) λa0=>Q .normal ⟨[(4,a0.1)],a0.2⟩):Rg F 13 [4] c13r1 L m Q:=ae (by kernel_rfl) h
def c30r0:=rg 30 Try.f30 0
def c30r1:=rg 30 Try.f30 1
def c30r2:=rg 30 Try.f30 2
def c30r3:=rg 30 Try.f30 3
def c30r4:=rg 30 Try.f30 4
def c30r5:=rg 30 Try.f30 5
def c30r6:=rg 30 Try.f30 6
def c30l0:SC:=
 (.seq (.reg false (some [0,1,7,8,9]) c30r2) (.seq (.cond (.tmp 9) .nop (.exit 0)) (.seq (.block 1 (.seq (.reg false (some [0,1,5,7,8]) c30r3) (.seq (.reg false (some [0,1,5,7,8,16]) c30r4) (.cond (.tmp 16) (.seq (.reg false (some [4]) c30r5) .ret) .nop)))) (.reg false (some [0,1,7,8]) c30r6))))
def c30r7:=rg 30 Try.f30 7
def c30:SC:=
 (.seq (.reg false (some [0,1]) c30r0) (.seq (.seq (.reg false (some [0,1,7,8]) c30r1) (.block 0 (.loop c30l0))) (.seq (.reg false (some [4]) c30r7) .ret)))
theorem s30:Try.f30.body.bind (bh Try.prog An 30 Try.f30.ntmps)=some c30:=by kernel_rfl
theorem g30:An.glob 30=[]:=rfl
theorem r30:Try.f30.results.toList=[(.tmp 4)]:=by kernel_rfl
theorem sP (h:Q .normal ⟨[(0,(ac L 0)),(1,(ac L 1))],m⟩):Rg F 30 [0,1] c30r0 L m Q:=ae (by kernel_rfl) h
theorem sQ (h:Obt (lenS (ac L 0)) λa0=>Q .normal ⟨[(0,(ac L 0)),(1,(ac L 1)),(7,a0),(8,(.int .i64 0))],m⟩):Rg F 30 [0,1,7,8] c30r1 L m Q:=ae (by kernel_rfl) h
theorem sR (h:Obt (aw Try.prog .lss 3 (.tmp 8) (.tmp 7) (ac L 8) (ac L 7)) λa0=>Q .normal ⟨[(0,(ac L 0)),(1,(ac L 1)),(7,(ac L 7)),(8,(ac L 8)),(9,a0)],m⟩):Rg F 30 [0,1,7,8,9] c30r2 L m Q:=ae (by kernel_rfl) h
theorem wq (h:Q .normal ⟨[(0,(ac L 0)),(1,(ac L 1)),(5,(ac L 8)),(7,(ac L 7)),(8,(ac L 8))],m⟩):Rg F 30 [0,1,5,7,8] c30r3 L m Q:=ae (by kernel_rfl) h
theorem t30r4 (h:Obt (bd 5 (ac L 0) (ac L 5)) λa0=>Obt (ldA 5 m a0) λa1=>Obt (dx An F 30 (some 16) (ac L 1) [a1] m) λa2=>Q .normal ⟨[(0,(ac L 0)),(1,(ac L 1)),(5,(ac L 5)),(7,(ac L 7)),(8,(ac L 8)),(16,a2.1)],a2.2⟩):Rg F 30 [0,1,5,7,8,16] c30r4 L m Q:=ae (by kernel_rfl) h
theorem ES (h:Q .normal ⟨[(4,(ac L 5))],m⟩):Rg F 30 [4] c30r5 L m Q:=ae (by kernel_rfl) h
theorem t30r6 (h:Obt (aw Try.prog .add 3 (.tmp 8) (.const (.int .i64 1)) (ac L 8) (.int .i64 1)) λa0=>Q .normal ⟨[(0,(ac L 0)),(1,(ac L 1)),(7,(ac L 7)),(8,a0)],m⟩):Rg F 30 [0,1,7,8] c30r6 L m Q:=ae (by kernel_rfl) h
theorem t30r7 (h:Q .normal ⟨[(4,(.int .i64 (-1)))],m⟩):Rg F 30 [4] c30r7 L m Q:=ae (by kernel_rfl) h
def c31r0:=rg 31 Try.f31 0
def c31r1:=rg 31 Try.f31 1
def c31:SC:=
 (.seq (.reg false (some [1,2]) c31r0) (.seq (.reg false (some [3]) c31r1) .ret))
theorem s31:Try.f31.body.bind (bh Try.prog An 31 Try.f31.ntmps)=some c31:=by kernel_rfl
theorem g31:An.glob 31=[]:=rfl
theorem r31:Try.f31.results.toList=[(.tmp 3)]:=by kernel_rfl
theorem QA (h:Obt (ap (ac L 0)) λa0=>Q .normal ⟨[(1,(ac L 1)),(2,(bo m 32))],(bw m 32 a0)⟩):Rg F 31 [1,2] c31r0 L m Q:=ae (by kernel_rfl) h
theorem QB (h:Obt (ld1 m (ac L 1)) λa0=>Obt (aA 0 (ac L 2)) λa1=>Obt (ld1 m a1) λa2=>Obt (aw Try.prog .geq 3 (.tmp 4) (.tmp 6) a0 a2) λa3=>Obt (gdO a3 true ((ld1 m (ac L 1)).map λv=>(v,m)) (.tuple [],m)) λa4=>Obt (gdO a3 true ((aA 1 (ac L 2)).map λv=>(v,a4.2)) (.tuple [],a4.2)) λa5=>Obt (gdO a3 true ((ld1 a5.2 a5.1).map λv=>(v,a5.2)) (.tuple [],a5.2)) λa6=>Obt (gdO a3 true ((aw Try.prog .lss 3 (.tmp 9) (.tmp 11) a4.1 a6.1).map λv=>(v,a6.2)) (.tuple [],a6.2)) λa7=>Obt (cT a3 a7.1 (.bool false)) λa8=>Q .normal ⟨[(3,a8)],a7.2⟩):Rg F 31 [3] c31r1 L m Q:=ae (by kernel_rfl) h
theorem cl37 {m:Mem}{p:CV}:eW Try.prog m 37 p=ldA 5 m p:=by kernel_rfl
def c21r0:=rg 21 Try.f21 0
def c21r1:=rg 21 Try.f21 1
def c21r2:=rg 21 Try.f21 2
def c21r3:=rg 21 Try.f21 3
def c21r4:=rg 21 Try.f21 4
def c21r5:=rg 21 Try.f21 5
def c21r6:=rg 21 Try.f21 6
def c21l0:SC:=
 (.block 1 (.seq (.reg true (some [0,1,6,7]) c21r2) (.seq (.reg false (some [0,1,6,7,8]) c21r3) (.seq (.seq (.reg false (some [0,1,6,7,8,43]) c21r4) (.cond (.tmp 43) (.seq (.reg false (some [6]) c21r5) .ret) .nop)) (.reg false (some [0,1,6,7]) c21r6)))))
def c21:SC:=
 (.seq (.reg false (some [0,1,2,6]) c21r0) (.seq (.reg false (some [0,1,6,7]) c21r1) (.block 0 (.loop c21l0))))
theorem s21:Try.f21.body.bind (bh Try.prog An 21 Try.f21.ntmps)=some c21:=by kernel_rfl
theorem g21:An.glob 21=[]:=rfl
theorem r21:Try.f21.results.toList=[(.cell 6 37)]:=by kernel_rfl
theorem t21r0 (h:Q .normal ⟨[(0,(ac L 0)),(1,(ac L 1)),(2,(ac L 2)),(6,(bo m 96))],(bw m 96 [.int .i64 0,.int .i64 0,.int .i64 0,.nil,.nil])⟩):Rg F 21 [0,1,2,6] c21r0 L m Q:=ae (by kernel_rfl) h
theorem t21r1 (h:Obt ((bg [.int .i64 0,.int .i64 0,.int .i64 0,.nil,.nil] [(0,1,(ac L 2)),(2,1,(ac L 2))]).map CV.agg) λa0=>Obt (stX 5 (bw m 112 [.int .i64 0,.int .i64 0,.int .i64 0,.nil,.nil]) (bo m 112) a0) λa1=>Q .normal ⟨[(0,(ac L 0)),(1,(ac L 1)),(6,(ac L 6)),(7,(bo m 112))],a1⟩):Rg F 21 [0,1,6,7] c21r1 L m Q:=ae (by kernel_rfl) h
theorem t21r2 (h:Obt (aA 2 (ac L 7)) λa0=>Obt (ld1 m a0) λa1=>Obt (aA 2 (ac L 7)) λa2=>Obt (ld1 m a2) λa3=>Obt (bd 6 (ac L 0) a3) λa4=>Obt (ldA 6 m a4) λa5=>Obt (chk true (cd An F 21 (some 19) 37 [a5] m)) λa6=>Obt (aw Try.prog .add 3 (.tmp 13) (.tmp 19) a1 a6.1) λa7=>Obt (aA 1 (ac L 7)) λa8=>Obt (stX 1 a6.2 a8 a7) λa9=>Q .normal ⟨[(0,(ac L 0)),(1,(ac L 1)),(6,(ac L 6)),(7,(ac L 7))],a9⟩):Rt F 21 [0,1,6,7] c21r2 L m Q:=ae (by kernel_rfl) h
theorem t21r3 (h:Obt (aA 2 (ac L 7)) λa0=>Obt (ld1 m a0) λa1=>Obt (cd An F 21 (some 25) 20 [(ac L 0),a1] m) λa2=>Q .normal ⟨[(0,(ac L 0)),(1,(ac L 1)),(6,(ac L 6)),(7,(ac L 7)),(8,a2.1)],a2.2⟩):Rg F 21 [0,1,6,7,8] c21r3 L m Q:=ae (by kernel_rfl) h
theorem NP (h:Obt (lenS (ac L 8)) λa0=>Obt (aw Try.prog .neq 3 (.tmp 27) (.const (.int .i64 1)) a0 (.int .i64 1)) λa1=>Obt (gdO a1 false (some ((ac L 0),m)) (.tuple [],m)) λa2=>Obt (gdO a1 false ((aA 2 (ac L 7)).map λv=>(v,a2.2)) (.tuple [],a2.2)) λa3=>Obt (gdO a1 false ((ld1 a3.2 a3.1).map λv=>(v,a3.2)) (.tuple [],a3.2)) λa4=>Obt (gdO a1 false ((bd 6 a2.1 a4.1).map λv=>(v,a4.2)) (.tuple [],a4.2)) λa5=>Obt (gdO a1 false ((ldA 6 a5.2 a5.1).map λv=>(v,a5.2)) (.tuple [],a5.2)) λa6=>Obt (gdO a1 false (cd An F 21 (some 35) 19 [a6.1] a6.2) (.tuple [],a6.2)) λa7=>Obt (cT a1 (.bool true) a7.1) λa8=>Obt (gdO a8 false (some ((ac L 1),a7.2)) (.tuple [],a7.2)) λa9=>Obt (gdO a8 false (some ((ac L 8),a9.2)) (.tuple [],a9.2)) λa10=>Obt (gdO a8 false ((bd 1 a10.1 (.int .i64 0)).map λv=>(v,a10.2)) (.tuple [],a10.2)) λa11=>Obt (gdO a8 false ((ld1 a11.2 a11.1).map λv=>(v,a11.2)) (.tuple [],a11.2)) λa12=>Obt (gdO a8 false ((gK Try.prog 3 (.bool false) a9.1 a12.1 false a12.2).map λv=>(v,a12.2)) (.tuple [],a12.2)) λa13=>Obt (cT a8 (.bool true) a13.1) λa14=>Q .normal ⟨[(0,(ac L 0)),(1,(ac L 1)),(6,(ac L 6)),(7,(ac L 7)),(8,(ac L 8)),(43,a14)],a13.2⟩):Rg F 21 [0,1,6,7,8,43] c21r4 L m Q:=ae (by kernel_rfl) h
theorem Qu (h:Obt (ldA 5 m (ac L 7)) λa0=>Obt (stX 5 m (ac L 6) a0) λa1=>Q .normal ⟨[(6,(ac L 6))],a1⟩):Rg F 21 [6] c21r5 L m Q:=ae (by kernel_rfl) h
theorem t21r6 (h:Obt (bd 1 (ac L 8) (.int .i64 0)) λa0=>Obt (ld1 m a0) λa1=>Obt (aA 2 (ac L 7)) λa2=>Obt (stX 1 m a2 a1) λa3=>Q .normal ⟨[(0,(ac L 0)),(1,(ac L 1)),(6,(ac L 6)),(7,(ac L 7))],a3⟩):Rg F 21 [0,1,6,7] c21r6 L m Q:=ae (by kernel_rfl) h
def c22r0:=rg 22 Try.f22 0
def c22r1:=rg 22 Try.f22 1
def c22:SC:=
 (.seq (.reg false (some [0,1]) c22r0) (.seq (.reg false (some [4]) c22r1) .ret))
theorem s22:Try.f22.body.bind (bh Try.prog An 22 Try.f22.ntmps)=some c22:=by kernel_rfl
theorem g22:An.glob 22=[]:=rfl
theorem r22:Try.f22.results.toList=[(.tmp 4)]:=by kernel_rfl
theorem GT (h:Q .normal ⟨[(0,(ac L 0)),(1,(ac L 1))],m⟩):Rg F 22 [0,1] c22r0 L m Q:=ae (by kernel_rfl) h
theorem GU (h:Obt (cd An F 22 (some 7) 38 [(ac L 0),(ac L 1)] m) λa0=>Obt (aw Try.prog .geq 3 (.tmp 7) (.const (.int .i64 0)) a0.1 (.int .i64 0)) λa1=>Q .normal ⟨[(4,a1)],a0.2⟩):Rg F 22 [4] c22r1 L m Q:=ae (by kernel_rfl) h
def c38r0:=rg 38 Try.f38 0
def c38r1:=rg 38 Try.f38 1
def c38r2:=rg 38 Try.f38 2
def c38r3:=rg 38 Try.f38 3
def c38r4:=rg 38 Try.f38 4
def c38r5:=rg 38 Try.f38 5
def c38r6:=rg 38 Try.f38 6
def Pe:SC:=
 (.seq (.reg false (some [0,1,7,8,9]) c38r2) (.seq (.cond (.tmp 9) .nop (.exit 0)) (.seq (.block 1 (.seq (.reg false (some [0,1,5,7,8]) c38r3) (.seq (.reg false (some [0,1,5,7,8,16]) c38r4) (.cond (.tmp 16) (.seq (.reg false (some [4]) c38r5) .ret) .nop)))) (.reg false (some [0,1,7,8]) c38r6))))
def c38r7:=rg 38 Try.f38 7
def c38:SC:=
 (.seq (.reg false (some [0,1]) c38r0) (.seq (.seq (.reg false (some [0,1,7,8]) c38r1) (.block 0 (.loop Pe))) (.seq (.reg false (some [4]) c38r7) .ret)))
theorem s38:Try.f38.body.bind (bh Try.prog An 38 Try.f38.ntmps)=some c38:=by kernel_rfl
theorem g38:An.glob 38=[]:=rfl
theorem r38:Try.f38.results.toList=[(.tmp 4)]:=by kernel_rfl
theorem t38r0 (h:Q .normal ⟨[(0,(ac L 0)),(1,(ac L 1))],m⟩):Rg F 38 [0,1] c38r0 L m Q:=ae (by kernel_rfl) h
theorem t38r1 (h:Obt (lenS (ac L 0)) λa0=>Q .normal ⟨[(0,(ac L 0)),(1,(ac L 1)),(7,a0),(8,(.int .i64 0))],m⟩):Rg F 38 [0,1,7,8] c38r1 L m Q:=ae (by kernel_rfl) h
theorem t38r2 (h:Obt (aw Try.prog .lss 3 (.tmp 8) (.tmp 7) (ac L 8) (ac L 7)) λa0=>Q .normal ⟨[(0,(ac L 0)),(1,(ac L 1)),(7,(ac L 7)),(8,(ac L 8)),(9,a0)],m⟩):Rg F 38 [0,1,7,8,9] c38r2 L m Q:=ae (by kernel_rfl) h
theorem t38r3 (h:Q .normal ⟨[(0,(ac L 0)),(1,(ac L 1)),(5,(ac L 8)),(7,(ac L 7)),(8,(ac L 8))],m⟩):Rg F 38 [0,1,5,7,8] c38r3 L m Q:=ae (by kernel_rfl) h
theorem t38r4 (h:Obt (bd 1 (ac L 0) (ac L 5)) λa0=>Obt (ld1 m a0) λa1=>Obt (aw Try.prog .eql 3 (.tmp 11) (.tmp 15) (ac L 1) a1) λa2=>Q .normal ⟨[(0,(ac L 0)),(1,(ac L 1)),(5,(ac L 5)),(7,(ac L 7)),(8,(ac L 8)),(16,a2)],m⟩):Rg F 38 [0,1,5,7,8,16] c38r4 L m Q:=ae (by kernel_rfl) h
theorem t38r5 (h:Q .normal ⟨[(4,(ac L 5))],m⟩):Rg F 38 [4] c38r5 L m Q:=ae (by kernel_rfl) h
theorem t38r6 (h:Obt (aw Try.prog .add 3 (.tmp 8) (.const (.int .i64 1)) (ac L 8) (.int .i64 1)) λa0=>Q .normal ⟨[(0,(ac L 0)),(1,(ac L 1)),(7,(ac L 7)),(8,a0)],m⟩):Rg F 38 [0,1,7,8] c38r6 L m Q:=ae (by kernel_rfl) h
theorem t38r7 (h:Q .normal ⟨[(4,(.int .i64 (-1)))],m⟩):Rg F 38 [4] c38r7 L m Q:=ae (by kernel_rfl) h
def c10r0:=rg 10 Try.f10 0
def c10r1:=rg 10 Try.f10 1
def c10r2:=rg 10 Try.f10 2
def c10r3:=rg 10 Try.f10 3
def c10r4:=rg 10 Try.f10 4
def c10r6:=rg 10 Try.f10 6
def c10r7:=rg 10 Try.f10 7
def c10r5:=rg 10 Try.f10 5
def c10l0:SC:=
 (.seq (.seq (.reg false (some [0,1,5,14]) c10r4) (.cond (.tmp 14) .nop (.exit 0))) (.seq (.block 1 (.seq (.reg true (some [0,1,5,25]) c10r6) (.cond (.tmp 25) (.seq (.reg false (some [4]) c10r7) .ret) .nop))) (.reg false (some [0,1,5]) c10r5)))
def c10r8:=rg 10 Try.f10 8
def c10:SC:=
 (.seq (.reg false (some [0,1]) c10r0) (.seq (.seq (.reg false (some [0,1,10]) c10r1) (.cond (.tmp 10) (.seq (.reg false (some [4]) c10r2) .ret) .nop)) (.seq (.seq (.reg false (some [0,1,5]) c10r3) (.block 0 (.loop c10l0))) (.seq (.reg false (some [4]) c10r8) .ret))))
theorem s10:Try.f10.body.bind (bh Try.prog An 10 Try.f10.ntmps)=some c10:=by kernel_rfl
theorem g10:An.glob 10=[]:=rfl
theorem r10:Try.f10.results.toList=[(.tmp 4)]:=by kernel_rfl
theorem t10r0 (h:Q .normal ⟨[(0,(ac L 0)),(1,(ac L 1))],m⟩):Rg F 10 [0,1] c10r0 L m Q:=ae (by kernel_rfl) h
theorem t10r1 (h:Obt (lenS (ac L 0)) λa0=>Obt (lenS (ac L 1)) λa1=>Obt (aw Try.prog .neq 3 (.tmp 7) (.tmp 9) a0 a1) λa2=>Q .normal ⟨[(0,(ac L 0)),(1,(ac L 1)),(10,a2)],m⟩):Rg F 10 [0,1,10] c10r1 L m Q:=ae (by kernel_rfl) h
theorem t10r3 (h:Q .normal ⟨[(0,(ac L 0)),(1,(ac L 1)),(5,(.int .i64 0))],m⟩):Rg F 10 [0,1,5] c10r3 L m Q:=ae (by kernel_rfl) h
theorem t10r4 (h:Obt (lenS (ac L 0)) λa0=>Obt (aw Try.prog .lss 3 (.tmp 11) (.tmp 13) (ac L 5) a0) λa1=>Q .normal ⟨[(0,(ac L 0)),(1,(ac L 1)),(5,(ac L 5)),(14,a1)],m⟩):Rg F 10 [0,1,5,14] c10r4 L m Q:=ae (by kernel_rfl) h
theorem t10r6 (h:Obt (bd 1 (ac L 0) (ac L 5)) λa0=>Obt (ld1 m a0) λa1=>Obt (bd 1 (ac L 1) (ac L 5)) λa2=>Obt (ld1 m a2) λa3=>Obt (aw Try.prog .neq 3 (.tmp 20) (.tmp 24) a1 a3) λa4=>Q .normal ⟨[(0,(ac L 0)),(1,(ac L 1)),(5,(ac L 5)),(25,a4)],m⟩):Rt F 10 [0,1,5,25] c10r6 L m Q:=ae (by kernel_rfl) h
theorem t10r5 (h:Obt (aw Try.prog .add 3 (.tmp 15) (.const (.int .i64 1)) (ac L 5) (.int .i64 1)) λa0=>Q .normal ⟨[(0,(ac L 0)),(1,(ac L 1)),(5,a0)],m⟩):Rg F 10 [0,1,5] c10r5 L m Q:=ae (by kernel_rfl) h
theorem t10r8 (h:Q .normal ⟨[(4,(.bool true))],m⟩):Rg F 10 [4] c10r8 L m Q:=ae (by kernel_rfl) h
def c17r0:=rg 17 Try.f17 0
def c17r1:=rg 17 Try.f17 1
def c17r2:=rg 17 Try.f17 2
def c17r3:=rg 17 Try.f17 3
def c17r5:=rg 17 Try.f17 5
def c17r6:=rg 17 Try.f17 6
def c17r4:=rg 17 Try.f17 4
def c17l0:SC:=
 (.seq (.seq (.reg false (some [0,1,5,6,10]) c17r3) (.cond (.tmp 10) .nop (.exit 0))) (.seq (.block 1 (.seq (.reg false (some [0,1,5,6,18]) c17r5) (.cond (.tmp 18) (.reg false (some [0,1,5,6]) c17r6) .nop))) (.reg false (some [0,1,5,6]) c17r4)))
def c17r7:=rg 17 Try.f17 7
def c17:SC:=
 (.seq (.reg false (some [0,1]) c17r0) (.seq (.reg false (some [0,1,5]) c17r1) (.seq (.seq (.reg false (some [0,1,5,6]) c17r2) (.block 0 (.loop c17l0))) (.seq (.reg false (some [4]) c17r7) .ret))))
theorem s17:Try.f17.body.bind (bh Try.prog An 17 Try.f17.ntmps)=some c17:=by kernel_rfl
theorem g17:An.glob 17=[]:=rfl
theorem r17:Try.f17.results.toList=[(.tmp 4)]:=by kernel_rfl
theorem t17r0 (h:Q .normal ⟨[(0,(ac L 0)),(1,(ac L 1))],m⟩):Rg F 17 [0,1] c17r0 L m Q:=ae (by kernel_rfl) h
theorem t17r1 (h:Q .normal ⟨[(0,(ac L 0)),(1,(ac L 1)),(5,(.int .i64 0))],m⟩):Rg F 17 [0,1,5] c17r1 L m Q:=ae (by kernel_rfl) h
theorem t17r2 (h:Q .normal ⟨[(0,(ac L 0)),(1,(ac L 1)),(5,(ac L 5)),(6,(.int .i64 0))],m⟩):Rg F 17 [0,1,5,6] c17r2 L m Q:=ae (by kernel_rfl) h
theorem Qn (h:Obt (lenS (ac L 0)) λa0=>Obt (aw Try.prog .lss 3 (.tmp 7) (.tmp 9) (ac L 6) a0) λa1=>Q .normal ⟨[(0,(ac L 0)),(1,(ac L 1)),(5,(ac L 5)),(6,(ac L 6)),(10,a1)],m⟩):Rg F 17 [0,1,5,6,10] c17r3 L m Q:=ae (by kernel_rfl) h
theorem t17r5 (h:Obt (bd 1 (ac L 0) (ac L 6)) λa0=>Obt (ld1 m a0) λa1=>Obt (aw Try.prog .eql 3 (.tmp 16) (.tmp 17) a1 (ac L 1)) λa2=>Q .normal ⟨[(0,(ac L 0)),(1,(ac L 1)),(5,(ac L 5)),(6,(ac L 6)),(18,a2)],m⟩):Rg F 17 [0,1,5,6,18] c17r5 L m Q:=ae (by kernel_rfl) h
theorem t17r6 (h:Obt (aw Try.prog .add 3 (.tmp 19) (.const (.int .i64 1)) (ac L 5) (.int .i64 1)) λa0=>Q .normal ⟨[(0,(ac L 0)),(1,(ac L 1)),(5,a0),(6,(ac L 6))],m⟩):Rg F 17 [0,1,5,6] c17r6 L m Q:=ae (by kernel_rfl) h
theorem t17r4 (h:Obt (aw Try.prog .add 3 (.tmp 11) (.const (.int .i64 1)) (ac L 6) (.int .i64 1)) λa0=>Q .normal ⟨[(0,(ac L 0)),(1,(ac L 1)),(5,(ac L 5)),(6,a0)],m⟩):Rg F 17 [0,1,5,6] c17r4 L m Q:=ae (by kernel_rfl) h
theorem t17r7 (h:Q .normal ⟨[(4,(ac L 5))],m⟩):Rg F 17 [4] c17r7 L m Q:=ae (by kernel_rfl) h
def c4r0:=rg 4 Try.f4 0
def c4r1:=rg 4 Try.f4 1
def c4r2:=rg 4 Try.f4 2
def c4r3:=rg 4 Try.f4 3
def c4r4:=rg 4 Try.f4 4
def c4r5:=rg 4 Try.f4 5
def c4r6:=rg 4 Try.f4 6
def c4r8:=rg 4 Try.f4 8
def c4r9:=rg 4 Try.f4 9
def c4r10:=rg 4 Try.f4 10
def c4r12:=rg 4 Try.f4 12
def c4r13:=rg 4 Try.f4 13
def c4r11:=rg 4 Try.f4 11
def c4l0:SC:=
 (.seq (.seq (.reg false (some [3,5,6,7,8,39]) c4r10) (.cond (.tmp 39) .nop (.exit 2))) (.seq (.block 3 (.seq (.reg true (some [3,5,6,7,8,63]) c4r12) (.cond (.tmp 63) (.reg false (some [3,5,6,7,8]) c4r13) .nop))) (.reg false (some [3,5,6,7,8]) c4r11)))
def c4r14:=rg 4 Try.f4 14
def c4r15:=rg 4 Try.f4 15
def c4r7:=rg 4 Try.f4 7
def c4l1:SC:=
 (.seq (.seq (.reg false (some [3,5,6,33]) c4r6) (.cond (.tmp 33) .nop (.exit 0))) (.seq (.block 1 (.seq (.reg false (some [3,5,6,7]) c4r8) (.seq (.seq (.reg false (some [3,5,6,7,8]) c4r9) (.block 2 (.loop c4l0))) (.seq (.reg true (some [3,5,6,83]) c4r14) (.cond (.tmp 83) (.seq (.reg false (some [2]) c4r15) .ret) .nop))))) (.reg false (some [3,5,6]) c4r7)))
def c4r16:=rg 4 Try.f4 16
def c4r17:=rg 4 Try.f4 17
def c4r19:=rg 4 Try.f4 19
def c4r20:=rg 4 Try.f4 20
def c4r21:=rg 4 Try.f4 21
def c4r23:=rg 4 Try.f4 23
def c4r22:=rg 4 Try.f4 22
def c4l2:SC:=
 (.seq (.seq (.reg false (some [3,5,9,10,11,93]) c4r21) (.cond (.tmp 93) .nop (.exit 6))) (.seq (.block 7 (.reg true (some [3,5,9,10,11]) c4r23)) (.reg false (some [3,5,9,10,11]) c4r22)))
def c4r24:=rg 4 Try.f4 24
def c4r25:=rg 4 Try.f4 25
def c4r18:=rg 4 Try.f4 18
def c4l3:SC:=
 (.seq (.seq (.reg false (some [3,5,9,87]) c4r17) (.cond (.tmp 87) .nop (.exit 4))) (.seq (.block 5 (.seq (.reg false (some [3,5,9,10]) c4r19) (.seq (.seq (.reg false (some [3,5,9,10,11]) c4r20) (.block 6 (.loop c4l2))) (.seq (.reg true (some [3,5,9,128]) c4r24) (.cond (.tmp 128) (.seq (.reg false (some [2]) c4r25) .ret) .nop))))) (.reg false (some [3,5,9]) c4r18)))
def c4r26:=rg 4 Try.f4 26
def c4:SC:=
 (.seq (.reg false (some [0]) c4r0) (.seq (.reg false (some [0,3,4]) c4r1) (.seq (.reg false (some [3,4,5]) c4r2) (.seq (.seq (.reg false (some [3,5,20]) c4r3) (.cond (.tmp 20) (.seq (.reg false (some [2]) c4r4) .ret) .nop)) (.seq (.seq (.reg false (some [3,5,6]) c4r5) (.block 0 (.loop c4l1))) (.seq (.seq (.reg false (some [3,5,9]) c4r16) (.block 4 (.loop c4l3))) (.seq (.reg false (some [2]) c4r26) .ret)))))))
theorem s4:Try.f4.body.bind (bh Try.prog An 4 Try.f4.ntmps)=some c4:=by kernel_rfl
theorem g4:An.glob 4=[]:=rfl
theorem r4:Try.f4.results.toList=[(.tmp 2)]:=by kernel_rfl
theorem t4r0 (h:Q .normal ⟨[(0,(ac L 0))],m⟩):Rg F 4 [0] c4r0 L m Q:=ae (by kernel_rfl) h
theorem t4r1 (h:Obt (cd An F 4 (some 14) 7 [(ac L 0)] m) λa0=>Obt (cV 0 a0.1) λa1=>Obt (cV 1 a0.1) λa2=>Q .normal ⟨[(0,(ac L 0)),(3,a1),(4,a2)],a0.2⟩):Rg F 4 [0,3,4] c4r1 L m Q:=ae (by kernel_rfl) h
theorem t4r2 (h:Obt (cd An F 4 (some 18) 11 [(ac L 0)] m) λa0=>Q .normal ⟨[(3,(ac L 3)),(4,(ac L 4)),(5,a0.1)],a0.2⟩):Rg F 4 [3,4,5] c4r2 L m Q:=ae (by kernel_rfl) h
theorem t4r3 (h:Obt (aw Try.prog .neq 24 (.tmp 19) (.const (.int .i64 0)) (ac L 4) (.int .i64 0)) λa0=>Q .normal ⟨[(3,(ac L 3)),(5,(ac L 5)),(20,a0)],m⟩):Rg F 4 [3,5,20] c4r3 L m Q:=ae (by kernel_rfl) h
theorem t4r4 (h:Obt (lenS (ac L 3)) λa0=>Obt (lenS (ac L 5)) λa1=>Obt (aw Try.prog .add 3 (.tmp 22) (.tmp 24) a0 a1) λa2=>Obt (aw Try.prog .eql 3 (.tmp 25) (.const (.int .i64 0)) a2 (.int .i64 0)) λa3=>Obt (gdO a3 true (cd An F 4 (some 28) 15 [] m) (.tuple [],m)) λa4=>Obt (cT a3 a4.1 (.bool false)) λa5=>Q .normal ⟨[(2,a5)],a4.2⟩):Rg F 4 [2] c4r4 L m Q:=ae (by kernel_rfl) h
theorem t4r5 (h:Q .normal ⟨[(3,(ac L 3)),(5,(ac L 5)),(6,(.int .i64 0))],m⟩):Rg F 4 [3,5,6] c4r5 L m Q:=ae (by kernel_rfl) h
theorem t4r6 (h:Obt (lenS (ac L 5)) λa0=>Obt (aw Try.prog .lss 3 (.tmp 30) (.tmp 32) (ac L 6) a0) λa1=>Q .normal ⟨[(3,(ac L 3)),(5,(ac L 5)),(6,(ac L 6)),(33,a1)],m⟩):Rg F 4 [3,5,6,33] c4r6 L m Q:=ae (by kernel_rfl) h
theorem t4r8 (h:Q .normal ⟨[(3,(ac L 3)),(5,(ac L 5)),(6,(ac L 6)),(7,(.int .i64 0))],m⟩):Rg F 4 [3,5,6,7] c4r8 L m Q:=ae (by kernel_rfl) h
theorem t4r9 (h:Q .normal ⟨[(3,(ac L 3)),(5,(ac L 5)),(6,(ac L 6)),(7,(ac L 7)),(8,(.int .i64 0))],m⟩):Rg F 4 [3,5,6,7,8] c4r9 L m Q:=ae (by kernel_rfl) h
theorem Nd (h:Obt (lenS (ac L 3)) λa0=>Obt (aw Try.prog .lss 3 (.tmp 36) (.tmp 38) (ac L 8) a0) λa1=>Q .normal ⟨[(3,(ac L 3)),(5,(ac L 5)),(6,(ac L 6)),(7,(ac L 7)),(8,(ac L 8)),(39,a1)],m⟩):Rg F 4 [3,5,6,7,8,39] c4r10 L m Q:=ae (by kernel_rfl) h
theorem QU (h:Obt (bd 5 (ac L 3) (ac L 8)) λa0=>Obt (aA 0 a0) λa1=>Obt (ld1 m a1) λa2=>Obt (bd 1 (ac L 5) (ac L 6)) λa3=>Obt (ld1 m a3) λa4=>Obt (aw Try.prog .leq 3 (.tmp 46) (.tmp 50) a2 a4) λa5=>Obt (gdO a5 true (some ((ac L 5),m)) (.tuple [],m)) λa6=>Obt (gdO a5 true (some ((ac L 6),a6.2)) (.tuple [],a6.2)) λa7=>Obt (gdO a5 true ((bd 1 a6.1 a7.1).map λv=>(v,a7.2)) (.tuple [],a7.2)) λa8=>Obt (gdO a5 true ((ld1 a8.2 a8.1).map λv=>(v,a8.2)) (.tuple [],a8.2)) λa9=>Obt (gdO a5 true (some ((ac L 3),a9.2)) (.tuple [],a9.2)) λa10=>Obt (gdO a5 true (some ((ac L 8),a10.2)) (.tuple [],a10.2)) λa11=>Obt (gdO a5 true ((bd 5 a10.1 a11.1).map λv=>(v,a11.2)) (.tuple [],a11.2)) λa12=>Obt (gdO a5 true ((aA 1 a12.1).map λv=>(v,a12.2)) (.tuple [],a12.2)) λa13=>Obt (gdO a5 true ((ld1 a13.2 a13.1).map λv=>(v,a13.2)) (.tuple [],a13.2)) λa14=>Obt (gdO a5 true ((aw Try.prog .lss 3 (.tmp 56) (.tmp 61) a9.1 a14.1).map λv=>(v,a14.2)) (.tuple [],a14.2)) λa15=>Obt (cT a5 a15.1 (.bool false)) λa16=>Q .normal ⟨[(3,(ac L 3)),(5,(ac L 5)),(6,(ac L 6)),(7,(ac L 7)),(8,(ac L 8)),(63,a16)],a15.2⟩):Rt F 4 [3,5,6,7,8,63] c4r12 L m Q:=ae (by kernel_rfl) h
theorem t4r13 (h:Obt (aw Try.prog .add 3 (.tmp 64) (.const (.int .i64 1)) (ac L 7) (.int .i64 1)) λa0=>Q .normal ⟨[(3,(ac L 3)),(5,(ac L 5)),(6,(ac L 6)),(7,a0),(8,(ac L 8))],m⟩):Rg F 4 [3,5,6,7,8] c4r13 L m Q:=ae (by kernel_rfl) h
theorem QT (h:Obt (aw Try.prog .add 3 (.tmp 40) (.const (.int .i64 1)) (ac L 8) (.int .i64 1)) λa0=>Q .normal ⟨[(3,(ac L 3)),(5,(ac L 5)),(6,(ac L 6)),(7,(ac L 7)),(8,a0)],m⟩):Rg F 4 [3,5,6,7,8] c4r11 L m Q:=ae (by kernel_rfl) h
theorem t4r14 (h:Obt (aw Try.prog .neq 3 (.tmp 66) (.const (.int .i64 1)) (ac L 7) (.int .i64 1)) λa0=>Obt (gdO a0 false (some ((ac L 6),m)) (.tuple [],m)) λa1=>Obt (gdO a0 false ((aw Try.prog .gtr 3 (.tmp 69) (.const (.int .i64 0)) a1.1 (.int .i64 0)).map λv=>(v,a1.2)) (.tuple [],a1.2)) λa2=>Obt (gdO a0 false (some (a2.1,a2.2)) (.tuple [],a2.2)) λa3=>Obt (gdO a3.1 true (some ((ac L 5),a3.2)) (.tuple [],a3.2)) λa4=>Obt (gdO a3.1 true (some ((ac L 6),a4.2)) (.tuple [],a4.2)) λa5=>Obt (gdO a3.1 true ((bd 1 a4.1 a5.1).map λv=>(v,a5.2)) (.tuple [],a5.2)) λa6=>Obt (gdO a3.1 true ((ld1 a6.2 a6.1).map λv=>(v,a6.2)) (.tuple [],a6.2)) λa7=>Obt (gdO a3.1 true (some ((ac L 5),a7.2)) (.tuple [],a7.2)) λa8=>Obt (gdO a3.1 true (some ((ac L 6),a8.2)) (.tuple [],a8.2)) λa9=>Obt (gdO a3.1 true ((aw Try.prog .sub 3 (.tmp 77) (.const (.int .i64 1)) a9.1 (.int .i64 1)).map λv=>(v,a9.2)) (.tuple [],a9.2)) λa10=>Obt (gdO a3.1 true ((bd 1 a8.1 a10.1).map λv=>(v,a10.2)) (.tuple [],a10.2)) λa11=>Obt (gdO a3.1 true ((ld1 a11.2 a11.1).map λv=>(v,a11.2)) (.tuple [],a11.2)) λa12=>Obt (gdO a3.1 true ((aw Try.prog .leq 3 (.tmp 75) (.tmp 80) a7.1 a12.1).map λv=>(v,a12.2)) (.tuple [],a12.2)) λa13=>Obt (gdO a0 false ((cT a3.1 a13.1 (.bool false)).map λv=>(v,a13.2)) (.tuple [],a13.2)) λa14=>Obt (cT a0 (.bool true) a14.1) λa15=>Q .normal ⟨[(3,(ac L 3)),(5,(ac L 5)),(6,(ac L 6)),(83,a15)],a14.2⟩):Rt F 4 [3,5,6,83] c4r14 L m Q:=ae (by kernel_rfl) h
theorem t4r7 (h:Obt (aw Try.prog .add 3 (.tmp 34) (.const (.int .i64 1)) (ac L 6) (.int .i64 1)) λa0=>Q .normal ⟨[(3,(ac L 3)),(5,(ac L 5)),(6,a0)],m⟩):Rg F 4 [3,5,6] c4r7 L m Q:=ae (by kernel_rfl) h
theorem t4r16 (h:Q .normal ⟨[(3,(ac L 3)),(5,(ac L 5)),(9,(.int .i64 0))],m⟩):Rg F 4 [3,5,9] c4r16 L m Q:=ae (by kernel_rfl) h
theorem t4r17 (h:Obt (lenS (ac L 3)) λa0=>Obt (aw Try.prog .lss 3 (.tmp 84) (.tmp 86) (ac L 9) a0) λa1=>Q .normal ⟨[(3,(ac L 3)),(5,(ac L 5)),(9,(ac L 9)),(87,a1)],m⟩):Rg F 4 [3,5,9,87] c4r17 L m Q:=ae (by kernel_rfl) h
theorem t4r19 (h:Q .normal ⟨[(3,(ac L 3)),(5,(ac L 5)),(9,(ac L 9)),(10,(.bool false))],m⟩):Rg F 4 [3,5,9,10] c4r19 L m Q:=ae (by kernel_rfl) h
theorem t4r20 (h:Q .normal ⟨[(3,(ac L 3)),(5,(ac L 5)),(9,(ac L 9)),(10,(ac L 10)),(11,(.int .i64 0))],m⟩):Rg F 4 [3,5,9,10,11] c4r20 L m Q:=ae (by kernel_rfl) h
theorem Nf (h:Obt (lenS (ac L 5)) λa0=>Obt (aw Try.prog .lss 3 (.tmp 90) (.tmp 92) (ac L 11) a0) λa1=>Q .normal ⟨[(3,(ac L 3)),(5,(ac L 5)),(9,(ac L 9)),(10,(ac L 10)),(11,(ac L 11)),(93,a1)],m⟩):Rg F 4 [3,5,9,10,11,93] c4r21 L m Q:=ae (by kernel_rfl) h
theorem QW (h:Obt (gdO (ac L 10) false (some ((ac L 5),m)) (.tuple [],m)) λa0=>Obt (gdO (ac L 10) false (some ((ac L 11),a0.2)) (.tuple [],a0.2)) λa1=>Obt (gdO (ac L 10) false ((bd 1 a0.1 a1.1).map λv=>(v,a1.2)) (.tuple [],a1.2)) λa2=>Obt (gdO (ac L 10) false ((ld1 a2.2 a2.1).map λv=>(v,a2.2)) (.tuple [],a2.2)) λa3=>Obt (gdO (ac L 10) false (some ((ac L 3),a3.2)) (.tuple [],a3.2)) λa4=>Obt (gdO (ac L 10) false (some ((ac L 9),a4.2)) (.tuple [],a4.2)) λa5=>Obt (gdO (ac L 10) false ((bd 5 a4.1 a5.1).map λv=>(v,a5.2)) (.tuple [],a5.2)) λa6=>Obt (gdO (ac L 10) false ((aA 0 a6.1).map λv=>(v,a6.2)) (.tuple [],a6.2)) λa7=>Obt (gdO (ac L 10) false ((ld1 a7.2 a7.1).map λv=>(v,a7.2)) (.tuple [],a7.2)) λa8=>Obt (gdO (ac L 10) false ((aw Try.prog .eql 3 (.tmp 101) (.tmp 106) a3.1 a8.1).map λv=>(v,a8.2)) (.tuple [],a8.2)) λa9=>Obt (cT (ac L 10) (.bool true) a9.1) λa10=>Q .normal ⟨[(3,(ac L 3)),(5,(ac L 5)),(9,(ac L 9)),(10,a10),(11,(ac L 11))],a9.2⟩):Rt F 4 [3,5,9,10,11] c4r23 L m Q:=ae (by kernel_rfl) h
theorem QV (h:Obt (aw Try.prog .add 3 (.tmp 94) (.const (.int .i64 1)) (ac L 11) (.int .i64 1)) λa0=>Q .normal ⟨[(3,(ac L 3)),(5,(ac L 5)),(9,(ac L 9)),(10,(ac L 10)),(11,a0)],m⟩):Rg F 4 [3,5,9,10,11] c4r22 L m Q:=ae (by kernel_rfl) h
theorem t4r24 (h:Obt (cun .not (ac L 10)) λa0=>Obt (gdO a0 false (some ((ac L 9),m)) (.tuple [],m)) λa1=>Obt (gdO a0 false ((aw Try.prog .gtr 3 (.tmp 112) (.const (.int .i64 0)) a1.1 (.int .i64 0)).map λv=>(v,a1.2)) (.tuple [],a1.2)) λa2=>Obt (gdO a0 false (some (a2.1,a2.2)) (.tuple [],a2.2)) λa3=>Obt (gdO a3.1 true (some ((ac L 3),a3.2)) (.tuple [],a3.2)) λa4=>Obt (gdO a3.1 true (some ((ac L 9),a4.2)) (.tuple [],a4.2)) λa5=>Obt (gdO a3.1 true ((bd 5 a4.1 a5.1).map λv=>(v,a5.2)) (.tuple [],a5.2)) λa6=>Obt (gdO a3.1 true ((aA 0 a6.1).map λv=>(v,a6.2)) (.tuple [],a6.2)) λa7=>Obt (gdO a3.1 true ((ld1 a7.2 a7.1).map λv=>(v,a7.2)) (.tuple [],a7.2)) λa8=>Obt (gdO a3.1 true (some ((ac L 3),a8.2)) (.tuple [],a8.2)) λa9=>Obt (gdO a3.1 true (some ((ac L 9),a9.2)) (.tuple [],a9.2)) λa10=>Obt (gdO a3.1 true ((aw Try.prog .sub 3 (.tmp 121) (.const (.int .i64 1)) a10.1 (.int .i64 1)).map λv=>(v,a10.2)) (.tuple [],a10.2)) λa11=>Obt (gdO a3.1 true ((bd 5 a9.1 a11.1).map λv=>(v,a11.2)) (.tuple [],a11.2)) λa12=>Obt (gdO a3.1 true ((aA 1 a12.1).map λv=>(v,a12.2)) (.tuple [],a12.2)) λa13=>Obt (gdO a3.1 true ((ld1 a13.2 a13.1).map λv=>(v,a13.2)) (.tuple [],a13.2)) λa14=>Obt (gdO a3.1 true ((aw Try.prog .lss 3 (.tmp 119) (.tmp 125) a8.1 a14.1).map λv=>(v,a14.2)) (.tuple [],a14.2)) λa15=>Obt (gdO a0 false ((cT a3.1 a15.1 (.bool false)).map λv=>(v,a15.2)) (.tuple [],a15.2)) λa16=>Obt (cT a0 (.bool true) a16.1) λa17=>Q .normal ⟨[(3,(ac L 3)),(5,(ac L 5)),(9,(ac L 9)),(128,a17)],a16.2⟩):Rt F 4 [3,5,9,128] c4r24 L m Q:=ae (by kernel_rfl) h
theorem t4r18 (h:Obt (aw Try.prog .add 3 (.tmp 88) (.const (.int .i64 1)) (ac L 9) (.int .i64 1)) λa0=>Q .normal ⟨[(3,(ac L 3)),(5,(ac L 5)),(9,a0)],m⟩):Rg F 4 [3,5,9] c4r18 L m Q:=ae (by kernel_rfl) h
theorem t4r26 (h:Obt (lenS (ac L 5)) λa0=>Obt (aw Try.prog .gtr 3 (.tmp 130) (.const (.int .i64 0)) a0 (.int .i64 0)) λa1=>Obt (gdO a1 true (cd An F 4 (some 133) 15 [] m) (.tuple [],m)) λa2=>Obt (cT a1 a2.1 (.bool false)) λa3=>Q .normal ⟨[(2,a3)],a2.2⟩):Rg F 4 [2] c4r26 L m Q:=ae (by kernel_rfl) h
def c5r0:=rg 5 Try.f5 0
def c5r1:=rg 5 Try.f5 1
def c5r2:=rg 5 Try.f5 2
def c5r3:=rg 5 Try.f5 3
def c5r4:=rg 5 Try.f5 4
def c5r5:=rg 5 Try.f5 5
def c5r7:=rg 5 Try.f5 7
def c5r8:=rg 5 Try.f5 8
def c5r9:=rg 5 Try.f5 9
def c5r11:=rg 5 Try.f5 11
def c5r12:=rg 5 Try.f5 12
def c5r13:=rg 5 Try.f5 13
def c5r10:=rg 5 Try.f5 10
def c5l0:SC:=
 (.seq (.seq (.reg false (some [0,3,5,6,7,35]) c5r9) (.cond (.tmp 35) .nop (.exit 2))) (.seq (.block 3 (.seq (.reg false (some [0,3,5,6,7,8]) c5r11) (.seq (.reg true (some [0,3,5,6,7,77]) c5r12) (.cond (.tmp 77) (.seq (.reg false (some [2]) c5r13) .ret) .nop)))) (.reg false (some [0,3,5,6,7]) c5r10)))
def c5r14:=rg 5 Try.f5 14
def c5r15:=rg 5 Try.f5 15
def c5r17:=rg 5 Try.f5 17
def c5r18:=rg 5 Try.f5 18
def c5r19:=rg 5 Try.f5 19
def c5r16:=rg 5 Try.f5 16
def c5l1:SC:=
 (.seq (.seq (.reg false (some [0,3,5,9,85]) c5r15) (.cond (.tmp 85) .nop (.exit 4))) (.seq (.block 5 (.seq (.reg false (some [0,3,5,9,10]) c5r17) (.seq (.reg false (some [0,3,5,9,130]) c5r18) (.cond (.tmp 130) (.seq (.reg false (some [2]) c5r19) .ret) .nop)))) (.reg false (some [0,3,5,9]) c5r16)))
def c5r6:=rg 5 Try.f5 6
def c5l2:SC:=
 (.seq (.seq (.reg false (some [0,3,5,22]) c5r5) (.cond (.tmp 22) .nop (.exit 0))) (.seq (.block 1 (.seq (.reg false (some [0,3,5,6]) c5r7) (.seq (.seq (.reg false (some [0,3,5,6,7]) c5r8) (.block 2 (.loop c5l0))) (.seq (.reg false (some [0,3,5,9]) c5r14) (.block 4 (.loop c5l1)))))) (.reg false (some [0,3,5]) c5r6)))
def c5r20:=rg 5 Try.f5 20
def c5:SC:=
 (.seq (.reg false (some [0]) c5r0) (.seq (.reg false (some [0,3,4]) c5r1) (.seq (.seq (.reg false (some [0,3,17]) c5r2) (.cond (.tmp 17) (.seq (.reg false (some [2]) c5r3) .ret) .nop)) (.seq (.seq (.reg false (some [0,3,5]) c5r4) (.block 0 (.loop c5l2))) (.seq (.reg false (some [2]) c5r20) .ret)))))
theorem s5:Try.f5.body.bind (bh Try.prog An 5 Try.f5.ntmps)=some c5:=by kernel_rfl
theorem g5:An.glob 5=[]:=rfl
theorem r5:Try.f5.results.toList=[(.tmp 2)]:=by kernel_rfl
theorem t5r0 (h:Q .normal ⟨[(0,(ac L 0))],m⟩):Rg F 5 [0] c5r0 L m Q:=ae (by kernel_rfl) h
theorem t5r1 (h:Obt (cd An F 5 (some 13) 7 [(ac L 0)] m) λa0=>Obt (cV 0 a0.1) λa1=>Obt (cV 1 a0.1) λa2=>Q .normal ⟨[(0,(ac L 0)),(3,a1),(4,a2)],a0.2⟩):Rg F 5 [0,3,4] c5r1 L m Q:=ae (by kernel_rfl) h
theorem t5r2 (h:Obt (aw Try.prog .neq 24 (.tmp 16) (.const (.int .i64 0)) (ac L 4) (.int .i64 0)) λa0=>Q .normal ⟨[(0,(ac L 0)),(3,(ac L 3)),(17,a0)],m⟩):Rg F 5 [0,3,17] c5r2 L m Q:=ae (by kernel_rfl) h
theorem t5r3 (h:Obt (cd An F 5 (some 18) 15 [] m) λa0=>Q .normal ⟨[(2,a0.1)],a0.2⟩):Rg F 5 [2] c5r3 L m Q:=ae (by kernel_rfl) h
theorem t5r4 (h:Q .normal ⟨[(0,(ac L 0)),(3,(ac L 3)),(5,(.int .i64 0))],m⟩):Rg F 5 [0,3,5] c5r4 L m Q:=ae (by kernel_rfl) h
theorem t5r5 (h:Obt (lenS (ac L 3)) λa0=>Obt (aw Try.prog .lss 3 (.tmp 19) (.tmp 21) (ac L 5) a0) λa1=>Q .normal ⟨[(0,(ac L 0)),(3,(ac L 3)),(5,(ac L 5)),(22,a1)],m⟩):Rg F 5 [0,3,5,22] c5r5 L m Q:=ae (by kernel_rfl) h
theorem t5r7 (h:Obt (bd 5 (ac L 3) (ac L 5)) λa0=>Obt (aA 2 a0) λa1=>Obt (ld1 m a1) λa2=>Obt (cd An F 5 (some 31) 16 [(ac L 0),a2] m) λa3=>Q .normal ⟨[(0,(ac L 0)),(3,(ac L 3)),(5,(ac L 5)),(6,a3.1)],a3.2⟩):Rg F 5 [0,3,5,6] c5r7 L m Q:=ae (by kernel_rfl) h
theorem t5r8 (h:Q .normal ⟨[(0,(ac L 0)),(3,(ac L 3)),(5,(ac L 5)),(6,(ac L 6)),(7,(.int .i64 0))],m⟩):Rg F 5 [0,3,5,6,7] c5r8 L m Q:=ae (by kernel_rfl) h
theorem t5r9 (h:Obt (lenS (ac L 6)) λa0=>Obt (aw Try.prog .lss 3 (.tmp 32) (.tmp 34) (ac L 7) a0) λa1=>Q .normal ⟨[(0,(ac L 0)),(3,(ac L 3)),(5,(ac L 5)),(6,(ac L 6)),(7,(ac L 7)),(35,a1)],m⟩):Rg F 5 [0,3,5,6,7,35] c5r9 L m Q:=ae (by kernel_rfl) h
theorem t5r11 (h:Obt (bd 1 (ac L 6) (ac L 7)) λa0=>Obt (ld1 m a0) λa1=>Obt (cd An F 5 (some 43) 13 [(ac L 3),a1] m) λa2=>Q .normal ⟨[(0,(ac L 0)),(3,(ac L 3)),(5,(ac L 5)),(6,(ac L 6)),(7,(ac L 7)),(8,a2.1)],a2.2⟩):Rg F 5 [0,3,5,6,7,8] c5r11 L m Q:=ae (by kernel_rfl) h
theorem t5r12 (h:Obt (aw Try.prog .lss 3 (.tmp 44) (.const (.int .i64 0)) (ac L 8) (.int .i64 0)) λa0=>Obt (gdO a0 false (some ((ac L 3),m)) (.tuple [],m)) λa1=>Obt (gdO a0 false (some ((ac L 8),a1.2)) (.tuple [],a1.2)) λa2=>Obt (gdO a0 false ((bd 5 a1.1 a2.1).map λv=>(v,a2.2)) (.tuple [],a2.2)) λa3=>Obt (gdO a0 false ((aA 0 a3.1).map λv=>(v,a3.2)) (.tuple [],a3.2)) λa4=>Obt (gdO a0 false ((ld1 a4.2 a4.1).map λv=>(v,a4.2)) (.tuple [],a4.2)) λa5=>Obt (gdO a0 false (some ((ac L 6),a5.2)) (.tuple [],a5.2)) λa6=>Obt (gdO a0 false (some ((ac L 7),a6.2)) (.tuple [],a6.2)) λa7=>Obt (gdO a0 false ((bd 1 a6.1 a7.1).map λv=>(v,a7.2)) (.tuple [],a7.2)) λa8=>Obt (gdO a0 false ((ld1 a8.2 a8.1).map λv=>(v,a8.2)) (.tuple [],a8.2)) λa9=>Obt (gdO a0 false ((aw Try.prog .neq 3 (.tmp 51) (.tmp 55) a5.1 a9.1).map λv=>(v,a9.2)) (.tuple [],a9.2)) λa10=>Obt (cT a0 (.bool true) a10.1) λa11=>Obt (gdO a11 false (some ((ac L 3),a10.2)) (.tuple [],a10.2)) λa12=>Obt (gdO a11 false (some ((ac L 5),a12.2)) (.tuple [],a12.2)) λa13=>Obt (gdO a11 false ((bd 5 a12.1 a13.1).map λv=>(v,a13.2)) (.tuple [],a13.2)) λa14=>Obt (gdO a11 false ((aA 3 a14.1).map λv=>(v,a14.2)) (.tuple [],a14.2)) λa15=>Obt (gdO a11 false ((ld1 a15.2 a15.1).map λv=>(v,a15.2)) (.tuple [],a15.2)) λa16=>Obt (gdO a11 false (some ((ac L 8),a16.2)) (.tuple [],a16.2)) λa17=>Obt (gdO a11 false (cd An F 5 (some 65) 17 [a16.1,a17.1] a17.2) (.tuple [],a17.2)) λa18=>Obt (gdO a11 false ((aw Try.prog .neq 3 (.tmp 65) (.const (.int .i64 1)) a18.1 (.int .i64 1)).map λv=>(v,a18.2)) (.tuple [],a18.2)) λa19=>Obt (cT a11 (.bool true) a19.1) λa20=>Obt (gdO a20 false (some ((ac L 3),a19.2)) (.tuple [],a19.2)) λa21=>Obt (gdO a20 false (some ((ac L 8),a21.2)) (.tuple [],a21.2)) λa22=>Obt (gdO a20 false ((bd 5 a21.1 a22.1).map λv=>(v,a22.2)) (.tuple [],a22.2)) λa23=>Obt (gdO a20 false ((aA 4 a23.1).map λv=>(v,a23.2)) (.tuple [],a23.2)) λa24=>Obt (gdO a20 false ((ld1 a24.2 a24.1).map λv=>(v,a24.2)) (.tuple [],a24.2)) λa25=>Obt (gdO a20 false (some ((ac L 5),a25.2)) (.tuple [],a25.2)) λa26=>Obt (gdO a20 false (cd An F 5 (some 75) 17 [a25.1,a26.1] a26.2) (.tuple [],a26.2)) λa27=>Obt (gdO a20 false ((aw Try.prog .neq 3 (.tmp 75) (.const (.int .i64 1)) a27.1 (.int .i64 1)).map λv=>(v,a27.2)) (.tuple [],a27.2)) λa28=>Obt (cT a20 (.bool true) a28.1) λa29=>Q .normal ⟨[(0,(ac L 0)),(3,(ac L 3)),(5,(ac L 5)),(6,(ac L 6)),(7,(ac L 7)),(77,a29)],a28.2⟩):Rt F 5 [0,3,5,6,7,77] c5r12 L m Q:=ae (by kernel_rfl) h
theorem t5r10 (h:Obt (aw Try.prog .add 3 (.tmp 36) (.const (.int .i64 1)) (ac L 7) (.int .i64 1)) λa0=>Q .normal ⟨[(0,(ac L 0)),(3,(ac L 3)),(5,(ac L 5)),(6,(ac L 6)),(7,a0)],m⟩):Rg F 5 [0,3,5,6,7] c5r10 L m Q:=ae (by kernel_rfl) h
theorem t5r14 (h:Q .normal ⟨[(0,(ac L 0)),(3,(ac L 3)),(5,(ac L 5)),(9,(.int .i64 0))],m⟩):Rg F 5 [0,3,5,9] c5r14 L m Q:=ae (by kernel_rfl) h
theorem Q8 (h:Obt (bd 5 (ac L 3) (ac L 5)) λa0=>Obt (aA 4 a0) λa1=>Obt (ld1 m a1) λa2=>Obt (lenS a2) λa3=>Obt (aw Try.prog .lss 3 (.tmp 78) (.tmp 84) (ac L 9) a3) λa4=>Q .normal ⟨[(0,(ac L 0)),(3,(ac L 3)),(5,(ac L 5)),(9,(ac L 9)),(85,a4)],m⟩):Rg F 5 [0,3,5,9,85] c5r15 L m Q:=ae (by kernel_rfl) h
theorem t5r17 (h:Obt (bd 5 (ac L 3) (ac L 5)) λa0=>Obt (aA 4 a0) λa1=>Obt (ld1 m a1) λa2=>Obt (bd 1 a2 (ac L 9)) λa3=>Obt (ld1 m a3) λa4=>Q .normal ⟨[(0,(ac L 0)),(3,(ac L 3)),(5,(ac L 5)),(9,(ac L 9)),(10,a4)],m⟩):Rg F 5 [0,3,5,9,10] c5r17 L m Q:=ae (by kernel_rfl) h
theorem t5r18 (h:Obt (aw Try.prog .lss 3 (.tmp 96) (.const (.int .i64 0)) (ac L 10) (.int .i64 0)) λa0=>Obt (gdO a0 false (some ((ac L 10),m)) (.tuple [],m)) λa1=>Obt (gdO a0 false (some ((ac L 3),a1.2)) (.tuple [],a1.2)) λa2=>Obt (gdO a0 false ((lenS a2.1).map λv=>(v,a2.2)) (.tuple [],a2.2)) λa3=>Obt (gdO a0 false ((aw Try.prog .geq 3 (.tmp 99) (.tmp 101) a1.1 a3.1).map λv=>(v,a3.2)) (.tuple [],a3.2)) λa4=>Obt (cT a0 (.bool true) a4.1) λa5=>Obt (gdO a5 false (some ((ac L 3),a4.2)) (.tuple [],a4.2)) λa6=>Obt (gdO a5 false (some ((ac L 10),a6.2)) (.tuple [],a6.2)) λa7=>Obt (gdO a5 false ((bd 5 a6.1 a7.1).map λv=>(v,a7.2)) (.tuple [],a7.2)) λa8=>Obt (gdO a5 false ((aA 3 a8.1).map λv=>(v,a8.2)) (.tuple [],a8.2)) λa9=>Obt (gdO a5 false ((ld1 a9.2 a9.1).map λv=>(v,a9.2)) (.tuple [],a9.2)) λa10=>Obt (gdO a5 false (some ((ac L 5),a10.2)) (.tuple [],a10.2)) λa11=>Obt (gdO a5 false (cd An F 5 (some 111) 17 [a10.1,a11.1] a11.2) (.tuple [],a11.2)) λa12=>Obt (gdO a5 false ((aw Try.prog .neq 3 (.tmp 111) (.const (.int .i64 1)) a12.1 (.int .i64 1)).map λv=>(v,a12.2)) (.tuple [],a12.2)) λa13=>Obt (cT a5 (.bool true) a13.1) λa14=>Obt (gdO a14 false (some ((ac L 9),a13.2)) (.tuple [],a13.2)) λa15=>Obt (gdO a14 false ((aw Try.prog .gtr 3 (.tmp 115) (.const (.int .i64 0)) a15.1 (.int .i64 0)).map λv=>(v,a15.2)) (.tuple [],a15.2)) λa16=>Obt (gdO a14 false (some (a16.1,a16.2)) (.tuple [],a16.2)) λa17=>Obt (gdO a17.1 true (some ((ac L 10),a17.2)) (.tuple [],a17.2)) λa18=>Obt (gdO a17.1 true (some ((ac L 3),a18.2)) (.tuple [],a18.2)) λa19=>Obt (gdO a17.1 true (some ((ac L 5),a19.2)) (.tuple [],a19.2)) λa20=>Obt (gdO a17.1 true ((bd 5 a19.1 a20.1).map λv=>(v,a20.2)) (.tuple [],a20.2)) λa21=>Obt (gdO a17.1 true ((aA 4 a21.1).map λv=>(v,a21.2)) (.tuple [],a21.2)) λa22=>Obt (gdO a17.1 true ((ld1 a22.2 a22.1).map λv=>(v,a22.2)) (.tuple [],a22.2)) λa23=>Obt (gdO a17.1 true (some ((ac L 9),a23.2)) (.tuple [],a23.2)) λa24=>Obt (gdO a17.1 true ((aw Try.prog .sub 3 (.tmp 124) (.const (.int .i64 1)) a24.1 (.int .i64 1)).map λv=>(v,a24.2)) (.tuple [],a24.2)) λa25=>Obt (gdO a17.1 true ((bd 1 a23.1 a25.1).map λv=>(v,a25.2)) (.tuple [],a25.2)) λa26=>Obt (gdO a17.1 true ((ld1 a26.2 a26.1).map λv=>(v,a26.2)) (.tuple [],a26.2)) λa27=>Obt (gdO a17.1 true ((aw Try.prog .leq 3 (.tmp 118) (.tmp 127) a18.1 a27.1).map λv=>(v,a27.2)) (.tuple [],a27.2)) λa28=>Obt (gdO a14 false ((cT a17.1 a28.1 (.bool false)).map λv=>(v,a28.2)) (.tuple [],a28.2)) λa29=>Obt (cT a14 (.bool true) a29.1) λa30=>Q .normal ⟨[(0,(ac L 0)),(3,(ac L 3)),(5,(ac L 5)),(9,(ac L 9)),(130,a30)],a29.2⟩):Rg F 5 [0,3,5,9,130] c5r18 L m Q:=ae (by kernel_rfl) h
theorem t5r16 (h:Obt (aw Try.prog .add 3 (.tmp 86) (.const (.int .i64 1)) (ac L 9) (.int .i64 1)) λa0=>Q .normal ⟨[(0,(ac L 0)),(3,(ac L 3)),(5,(ac L 5)),(9,a0)],m⟩):Rg F 5 [0,3,5,9] c5r16 L m Q:=ae (by kernel_rfl) h
theorem t5r6 (h:Obt (aw Try.prog .add 3 (.tmp 23) (.const (.int .i64 1)) (ac L 5) (.int .i64 1)) λa0=>Q .normal ⟨[(0,(ac L 0)),(3,(ac L 3)),(5,a0)],m⟩):Rg F 5 [0,3,5] c5r6 L m Q:=ae (by kernel_rfl) h
theorem t5r20 (h:Obt (cd An F 5 (some 131) 15 [] m) λa0=>Q .normal ⟨[(2,a0.1)],a0.2⟩):Rg F 5 [2] c5r20 L m Q:=ae (by kernel_rfl) h
end
end Go.Cm
