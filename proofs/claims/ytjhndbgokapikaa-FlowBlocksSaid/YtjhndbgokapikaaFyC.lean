import Derived.Test.YtjhndbgokapikaaFyB
set_option linter.unusedSimpArgs false
set_option linter.unusedVariables false
namespace Go.Cm
open Go.Proofs
variable {F:aW}{L:List (Nat×CV)}{m:Mem}{Q:CE→TS→Prop}
noncomputable section
def c3r0:=rg 3 Try.f3 0
def c3r1:=rg 3 Try.f3 1
def c3r2:=rg 3 Try.f3 2
def c3r3:=rg 3 Try.f3 3
def c3:SC:=
 (.seq (.reg false (some [0,1]) c3r0) (.seq (.reg false (some [0,1,5,6]) c3r1) (.seq (.reg false (some [0,1,5,6,7,8]) c3r2) (.seq (.reg false (some [4]) c3r3) .ret))))
theorem s3:Try.f3.body.bind (bh Try.prog An 3 Try.f3.ntmps)=some c3:=by kernel_rfl
theorem g3:An.glob 3=[]:=rfl
theorem r3:Try.f3.results.toList=[(.tmp 4)]:=by kernel_rfl
theorem t3r0 (h:Q .normal ⟨[(0,(ac L 0)),(1,(ac L 1))],m⟩):Rg F 3 [0,1] c3r0 L m Q:=ae (by kernel_rfl) h
theorem t3r1 (h:Obt (cd An F 3 (some 11) 7 [(ac L 0)] m) λa0=>Obt (cV 0 a0.1) λa1=>Obt (cV 1 a0.1) λa2=>Q .normal ⟨[(0,(ac L 0)),(1,(ac L 1)),(5,a1),(6,a2)],a0.2⟩):Rg F 3 [0,1,5,6] c3r1 L m Q:=ae (by kernel_rfl) h
theorem t3r2 (h:Obt (cd An F 3 (some 16) 8 [(ac L 0)] m) λa0=>Obt (cV 0 a0.1) λa1=>Obt (cV 1 a0.1) λa2=>Q .normal ⟨[(0,(ac L 0)),(1,(ac L 1)),(5,(ac L 5)),(6,(ac L 6)),(7,a1),(8,a2)],a0.2⟩):Rg F 3 [0,1,5,6,7,8] c3r2 L m Q:=ae (by kernel_rfl) h
theorem t3r3 (h:Obt (cd An F 3 (some 21) 9 [(ac L 5),(ac L 7)] m) λa0=>Obt (gdO a0.1 true (some ((ac L 6),a0.2)) (.tuple [],a0.2)) λa1=>Obt (gdO a0.1 true (some ((ac L 8),a1.2)) (.tuple [],a1.2)) λa2=>Obt (gdO a0.1 true ((aw Try.prog .eql 3 (.tmp 23) (.tmp 24) a1.1 a2.1).map λv=>(v,a2.2)) (.tuple [],a2.2)) λa3=>Obt (cT a0.1 a3.1 (.bool false)) λa4=>Obt (gdO a4 true (some ((ac L 0),a3.2)) (.tuple [],a3.2)) λa5=>Obt (gdO a4 true (cd An F 3 (some 29) 11 [a5.1] a5.2) (.tuple [],a5.2)) λa6=>Obt (gdO a4 true (some ((ac L 0),a6.2)) (.tuple [],a6.2)) λa7=>Obt (gdO a4 true (cd An F 3 (some 31) 12 [a7.1] a7.2) (.tuple [],a7.2)) λa8=>Obt (gdO a4 true (cd An F 3 (some 32) 10 [a6.1,a8.1] a8.2) (.tuple [],a8.2)) λa9=>Obt (cT a4 a9.1 (.bool false)) λa10=>Obt (gdO a10 true (some ((ac L 7),a9.2)) (.tuple [],a9.2)) λa11=>Obt (gdO a10 true (some ((ac L 1),a11.2)) (.tuple [],a11.2)) λa12=>Obt (gdO a10 true (cd An F 3 (some 37) 13 [a11.1,a12.1] a12.2) (.tuple [],a12.2)) λa13=>Obt (gdO a10 true (some ((ac L 7),a13.2)) (.tuple [],a13.2)) λa14=>Obt (gdO a10 true (some ((ac L 1),a14.2)) (.tuple [],a14.2)) λa15=>Obt (gdO a10 true (cd An F 3 (some 40) 14 [a14.1,a15.1] a15.2) (.tuple [],a15.2)) λa16=>Obt (gdO a10 true ((aw Try.prog .eql 3 (.tmp 37) (.tmp 40) a13.1 a16.1).map λv=>(v,a16.2)) (.tuple [],a16.2)) λa17=>Obt (cT a10 a17.1 (.bool false)) λa18=>Obt (gdO a18 true (cd An F 3 (some 44) 15 [] a17.2) (.tuple [],a17.2)) λa19=>Obt (cT a18 a19.1 (.bool false)) λa20=>Q .normal ⟨[(4,a20)],a19.2⟩):Rg F 3 [4] c3r3 L m Q:=ae (by kernel_rfl) h
def c8r0:=rg 8 Try.f8 0
def c8r1:=rg 8 Try.f8 1
def c8r2:=rg 8 Try.f8 2
def c8r3:=rg 8 Try.f8 3
def c8r4:=rg 8 Try.f8 4
def c8r5:=rg 8 Try.f8 5
def c8r6:=rg 8 Try.f8 6
def c8r7:=rg 8 Try.f8 7
def c8r8:=rg 8 Try.f8 8
def c8r10:=rg 8 Try.f8 10
def c8r11:=rg 8 Try.f8 11
def c8r12:=rg 8 Try.f8 12
def c8r13:=rg 8 Try.f8 13
def c8r14:=rg 8 Try.f8 14
def c8r15:=rg 8 Try.f8 15
def c8r16:=rg 8 Try.f8 16
def c8r17:=rg 8 Try.f8 17
def c8l0:SC:=
 (.block 3 (.seq (.reg false (some [0,6,7,8,9,10,11]) c8r13) (.seq (.reg false (some [0,6,7,8,9,10,11]) c8r14) (.seq (.reg false (some [0,6,7,8,9,10,11,12]) c8r15) (.seq (.seq (.reg false (some [0,6,7,8,9,11,12,73]) c8r16) (.cond (.tmp 73) (.exit 2) .nop)) (.reg false (some [0,6,7,8,9,10,11]) c8r17))))))
def c8r18:=rg 8 Try.f8 18
def c8r9:=rg 8 Try.f8 9
def c8l1:SC:=
 (.seq (.seq (.reg false (some [0,6,7,8,9,33]) c8r8) (.cond (.tmp 33) .nop (.exit 0))) (.seq (.block 1 (.seq (.reg false (some [0,6,7,8,9,10]) c8r10) (.seq (.seq (.reg false (some [0,6,7,8,9,10,44]) c8r11) (.cond (.tmp 44) (.exit 1) .nop)) (.seq (.reg false (some [0,6,7,8,9,10,11]) c8r12) (.seq (.block 2 (.loop c8l0)) (.reg false (some [0,6,7,8,9]) c8r18)))))) (.reg false (some [0,6,7,8,9]) c8r9)))
def c8r19:=rg 8 Try.f8 19
def c8r20:=rg 8 Try.f8 20
def c8r22:=rg 8 Try.f8 22
def c8r23:=rg 8 Try.f8 23
def c8r24:=rg 8 Try.f8 24
def c8r26:=rg 8 Try.f8 26
def c8r27:=rg 8 Try.f8 27
def c8r28:=rg 8 Try.f8 28
def c8r29:=rg 8 Try.f8 29
def c8r25:=rg 8 Try.f8 25
def c8l2:SC:=
 (.seq (.seq (.reg false (some [0,8,13,14,15,97]) c8r24) (.cond (.tmp 97) .nop (.exit 6))) (.seq (.block 7 (.seq (.reg false (some [0,8,13,14,15,16]) c8r26) (.seq (.reg false (some [0,8,13,14,15,16,113]) c8r27) (.cond (.tmp 113) (.seq (.reg false (some [0,8,13,14,15,16]) c8r28) (.reg false (some [0,8,13,14,15]) c8r29)) .nop)))) (.reg false (some [0,8,13,14,15]) c8r25)))
def c8r21:=rg 8 Try.f8 21
def c8l3:SC:=
 (.seq (.seq (.reg false (some [0,8,13,84]) c8r20) (.cond (.tmp 84) .nop (.exit 4))) (.seq (.block 5 (.seq (.reg false (some [0,8,13,14]) c8r22) (.seq (.reg false (some [0,8,13,14,15]) c8r23) (.block 6 (.loop c8l2))))) (.reg false (some [0,8,13]) c8r21)))
def c8r30:=rg 8 Try.f8 30
def c8:SC:=
 (.seq (.reg false (some [0]) c8r0) (.seq (.reg false (some [0,5]) c8r1) (.seq (.seq (.reg false (some [0,5,23]) c8r2) (.cond (.tmp 23) (.seq (.reg false (some [2,3]) c8r3) .ret) .nop)) (.seq (.reg false (some [0,6]) c8r4) (.seq (.reg false (some [0,6,7]) c8r5) (.seq (.reg false (some [0,6,7,8]) c8r6) (.seq (.seq (.reg false (some [0,6,7,8,9]) c8r7) (.block 0 (.loop c8l1))) (.seq (.seq (.reg false (some [0,8,13]) c8r19) (.block 4 (.loop c8l3))) (.seq (.reg false (some [2,3]) c8r30) .ret)))))))))
theorem s8:Try.f8.body.bind (bh Try.prog An 8 Try.f8.ntmps)=some c8:=by kernel_rfl
theorem g8:An.glob 8=[80,123,135]:=rfl
theorem r8:Try.f8.results.toList=[(.tmp 2),(.tmp 3)]:=by kernel_rfl
theorem t8r0 (h:Q .normal ⟨[(0,(ac L 0))],m⟩):Rg F 8 [0] c8r0 L m Q:=ae (by kernel_rfl) h
theorem t8r1 (h:Obt (cd An F 8 (some 19) 23 [(ac L 0)] m) λa0=>Obt (cV 0 a0.1) λa1=>Obt (cV 1 a0.1) λa2=>Q .normal ⟨[(0,(ac L 0)),(5,a2)],a0.2⟩):Rg F 8 [0,5] c8r1 L m Q:=ae (by kernel_rfl) h
theorem t8r2 (h:Obt (aw Try.prog .neq 3 (.tmp 22) (.const (.int .i64 0)) (ac L 5) (.int .i64 0)) λa0=>Q .normal ⟨[(0,(ac L 0)),(5,(ac L 5)),(23,a0)],m⟩):Rg F 8 [0,5,23] c8r2 L m Q:=ae (by kernel_rfl) h
theorem t8r3 (h:Q .normal ⟨[(2,.nil),(3,(ac L 5))],m⟩):Rg F 8 [2,3] c8r3 L m Q:=ae (by kernel_rfl) h
theorem t8r4 (h:Obt (cd An F 8 (some 26) 12 [(ac L 0)] m) λa0=>Q .normal ⟨[(0,(ac L 0)),(6,a0.1)],a0.2⟩):Rg F 8 [0,6] c8r4 L m Q:=ae (by kernel_rfl) h
theorem t8r5 (h:Obt (cd An F 8 (some 29) 24 [(ac L 0),(ac L 6)] m) λa0=>Q .normal ⟨[(0,(ac L 0)),(6,(ac L 6)),(7,a0.1)],a0.2⟩):Rg F 8 [0,6,7] c8r5 L m Q:=ae (by kernel_rfl) h
theorem t8r6 (h:Q .normal ⟨[(0,(ac L 0)),(6,(ac L 6)),(7,(ac L 7)),(8,.nil)],m⟩):Rg F 8 [0,6,7,8] c8r6 L m Q:=ae (by kernel_rfl) h
theorem t8r7 (h:Q .normal ⟨[(0,(ac L 0)),(6,(ac L 6)),(7,(ac L 7)),(8,(ac L 8)),(9,(.int .i64 0))],m⟩):Rg F 8 [0,6,7,8,9] c8r7 L m Q:=ae (by kernel_rfl) h
theorem t8r8 (h:Obt (lenS (ac L 6)) λa0=>Obt (aw Try.prog .lss 3 (.tmp 30) (.tmp 32) (ac L 9) a0) λa1=>Q .normal ⟨[(0,(ac L 0)),(6,(ac L 6)),(7,(ac L 7)),(8,(ac L 8)),(9,(ac L 9)),(33,a1)],m⟩):Rg F 8 [0,6,7,8,9,33] c8r8 L m Q:=ae (by kernel_rfl) h
theorem t8r10 (h:Obt (bd 1 (ac L 6) (ac L 9)) λa0=>Obt (ld1 m a0) λa1=>Q .normal ⟨[(0,(ac L 0)),(6,(ac L 6)),(7,(ac L 7)),(8,(ac L 8)),(9,(ac L 9)),(10,a1)],m⟩):Rg F 8 [0,6,7,8,9,10] c8r10 L m Q:=ae (by kernel_rfl) h
theorem t8r11 (h:Obt (bd 1 (ac L 7) (ac L 10)) λa0=>Obt (ld1 m a0) λa1=>Obt (cun .not a1) λa2=>Q .normal ⟨[(0,(ac L 0)),(6,(ac L 6)),(7,(ac L 7)),(8,(ac L 8)),(9,(ac L 9)),(10,(ac L 10)),(44,a2)],m⟩):Rg F 8 [0,6,7,8,9,10,44] c8r11 L m Q:=ae (by kernel_rfl) h
theorem t8r12 (h:Obt ((bg [.int .i64 0,.int .i64 0,.int .i64 0,.nil,.nil] [(0,1,(ac L 10))]).map CV.agg) λa0=>Obt (stX 5 (bw m 176 [.int .i64 0,.int .i64 0,.int .i64 0,.nil,.nil]) (bo m 176) a0) λa1=>Q .normal ⟨[(0,(ac L 0)),(6,(ac L 6)),(7,(ac L 7)),(8,(ac L 8)),(9,(ac L 9)),(10,(ac L 10)),(11,(bo m 176))],a1⟩):Rg F 8 [0,6,7,8,9,10,11] c8r12 L m Q:=ae (by kernel_rfl) h
theorem t8r13 (h:Obt (aA 2 (ac L 11)) λa0=>Obt (stX 1 m a0 (ac L 10)) λa1=>Q .normal ⟨[(0,(ac L 0)),(6,(ac L 6)),(7,(ac L 7)),(8,(ac L 8)),(9,(ac L 9)),(10,(ac L 10)),(11,(ac L 11))],a1⟩):Rg F 8 [0,6,7,8,9,10,11] c8r13 L m Q:=ae (by kernel_rfl) h
theorem t8r14 (h:Obt (cd An F 8 (some 51) 25 [(ac L 0),(ac L 10)] m) λa0=>Obt (aA 1 (ac L 11)) λa1=>Obt (stX 1 a0.2 a1 a0.1) λa2=>Q .normal ⟨[(0,(ac L 0)),(6,(ac L 6)),(7,(ac L 7)),(8,(ac L 8)),(9,(ac L 9)),(10,(ac L 10)),(11,(ac L 11))],a2⟩):Rg F 8 [0,6,7,8,9,10,11] c8r14 L m Q:=ae (by kernel_rfl) h
theorem t8r15 (h:Obt (cd An F 8 (some 55) 16 [(ac L 0),(ac L 10)] m) λa0=>Q .normal ⟨[(0,(ac L 0)),(6,(ac L 6)),(7,(ac L 7)),(8,(ac L 8)),(9,(ac L 9)),(10,(ac L 10)),(11,(ac L 11)),(12,a0.1)],a0.2⟩):Rg F 8 [0,6,7,8,9,10,11,12] c8r15 L m Q:=ae (by kernel_rfl) h
theorem NY (h:Obt (lenS (ac L 12)) λa0=>Obt (aw Try.prog .neq 3 (.tmp 57) (.const (.int .i64 1)) a0 (.int .i64 1)) λa1=>Obt (gdO a1 false (some ((ac L 0),m)) (.tuple [],m)) λa2=>Obt (gdO a1 false (some ((ac L 10),a2.2)) (.tuple [],a2.2)) λa3=>Obt (gdO a1 false ((bd 6 a2.1 a3.1).map λv=>(v,a3.2)) (.tuple [],a3.2)) λa4=>Obt (gdO a1 false ((ldA 6 a4.2 a4.1).map λv=>(v,a4.2)) (.tuple [],a4.2)) λa5=>Obt (gdO a1 false (cd An F 8 (some 64) 26 [a5.1] a5.2) (.tuple [],a5.2)) λa6=>Obt (cT a1 (.bool true) a6.1) λa7=>Obt (gdO a7 false (some ((ac L 7),a6.2)) (.tuple [],a6.2)) λa8=>Obt (gdO a7 false (some ((ac L 12),a8.2)) (.tuple [],a8.2)) λa9=>Obt (gdO a7 false ((bd 1 a9.1 (.int .i64 0)).map λv=>(v,a9.2)) (.tuple [],a9.2)) λa10=>Obt (gdO a7 false ((ld1 a10.2 a10.1).map λv=>(v,a10.2)) (.tuple [],a10.2)) λa11=>Obt (gdO a7 false ((bd 1 a8.1 a11.1).map λv=>(v,a11.2)) (.tuple [],a11.2)) λa12=>Obt (gdO a7 false ((ld1 a12.2 a12.1).map λv=>(v,a12.2)) (.tuple [],a12.2)) λa13=>Obt (cT a7 (.bool true) a13.1) λa14=>Q .normal ⟨[(0,(ac L 0)),(6,(ac L 6)),(7,(ac L 7)),(8,(ac L 8)),(9,(ac L 9)),(11,(ac L 11)),(12,(ac L 12)),(73,a14)],a13.2⟩):Rg F 8 [0,6,7,8,9,11,12,73] c8r16 L m Q:=ae (by kernel_rfl) h
theorem t8r17 (h:Obt (bd 1 (ac L 12) (.int .i64 0)) λa0=>Obt (ld1 m a0) λa1=>Q .normal ⟨[(0,(ac L 0)),(6,(ac L 6)),(7,(ac L 7)),(8,(ac L 8)),(9,(ac L 9)),(10,a1),(11,(ac L 11))],m⟩):Rg F 8 [0,6,7,8,9,10,11] c8r17 L m Q:=ae (by kernel_rfl) h
theorem t8r18 (h:Obt (ldA 5 m (ac L 11)) λa0=>Obt (be false 1264 5 1 [.int .i64 0,.int .i64 0,.int .i64 0,.nil,.nil] [(0,5,a0)] m) λa1=>Obt (ej true 1280 5 72 (ac L 8) a1.1 a1.2) λa2=>Q .normal ⟨[(0,(ac L 0)),(6,(ac L 6)),(7,(ac L 7)),(8,a2.1),(9,(ac L 9))],a2.2⟩):Rg F 8 [0,6,7,8,9] c8r18 L m Q:=ae (by kernel_rfl) h
theorem t8r9 (h:Obt (aw Try.prog .add 3 (.tmp 34) (.const (.int .i64 1)) (ac L 9) (.int .i64 1)) λa0=>Q .normal ⟨[(0,(ac L 0)),(6,(ac L 6)),(7,(ac L 7)),(8,(ac L 8)),(9,a0)],m⟩):Rg F 8 [0,6,7,8,9] c8r9 L m Q:=ae (by kernel_rfl) h
theorem t8r19 (h:Q .normal ⟨[(0,(ac L 0)),(8,(ac L 8)),(13,(.int .i64 0))],m⟩):Rg F 8 [0,8,13] c8r19 L m Q:=ae (by kernel_rfl) h
theorem t8r20 (h:Obt (lenS (ac L 8)) λa0=>Obt (aw Try.prog .lss 3 (.tmp 81) (.tmp 83) (ac L 13) a0) λa1=>Q .normal ⟨[(0,(ac L 0)),(8,(ac L 8)),(13,(ac L 13)),(84,a1)],m⟩):Rg F 8 [0,8,13,84] c8r20 L m Q:=ae (by kernel_rfl) h
theorem t8r22 (h:Obt (bd 5 (ac L 8) (ac L 13)) λa0=>Obt (aA 2 a0) λa1=>Obt (ld1 m a1) λa2=>Obt (cd An F 8 (some 93) 16 [(ac L 0),a2] m) λa3=>Q .normal ⟨[(0,(ac L 0)),(8,(ac L 8)),(13,(ac L 13)),(14,a3.1)],a3.2⟩):Rg F 8 [0,8,13,14] c8r22 L m Q:=ae (by kernel_rfl) h
theorem t8r23 (h:Q .normal ⟨[(0,(ac L 0)),(8,(ac L 8)),(13,(ac L 13)),(14,(ac L 14)),(15,(.int .i64 0))],m⟩):Rg F 8 [0,8,13,14,15] c8r23 L m Q:=ae (by kernel_rfl) h
theorem Rb (h:Obt (lenS (ac L 14)) λa0=>Obt (aw Try.prog .lss 3 (.tmp 94) (.tmp 96) (ac L 15) a0) λa1=>Q .normal ⟨[(0,(ac L 0)),(8,(ac L 8)),(13,(ac L 13)),(14,(ac L 14)),(15,(ac L 15)),(97,a1)],m⟩):Rg F 8 [0,8,13,14,15,97] c8r24 L m Q:=ae (by kernel_rfl) h
theorem t8r26 (h:Obt (bd 1 (ac L 14) (ac L 15)) λa0=>Obt (ld1 m a0) λa1=>Obt (cd An F 8 (some 105) 14 [(ac L 8),a1] m) λa2=>Q .normal ⟨[(0,(ac L 0)),(8,(ac L 8)),(13,(ac L 13)),(14,(ac L 14)),(15,(ac L 15)),(16,a2.1)],a2.2⟩):Rg F 8 [0,8,13,14,15,16] c8r26 L m Q:=ae (by kernel_rfl) h
theorem t8r27 (h:Obt (bd 5 (ac L 8) (ac L 13)) λa0=>Obt (aA 3 a0) λa1=>Obt (ld1 m a1) λa2=>Obt (cd An F 8 (some 112) 27 [a2,(ac L 16)] m) λa3=>Obt (cun .not a3.1) λa4=>Q .normal ⟨[(0,(ac L 0)),(8,(ac L 8)),(13,(ac L 13)),(14,(ac L 14)),(15,(ac L 15)),(16,(ac L 16)),(113,a4)],a3.2⟩):Rg F 8 [0,8,13,14,15,16,113] c8r27 L m Q:=ae (by kernel_rfl) h
theorem t8r28 (h:Obt (bd 5 (ac L 8) (ac L 13)) λa0=>Obt (aA 3 a0) λa1=>Obt (ld1 m a1) λa2=>Obt (be false 1952 1 1 [.int .i64 0] [(0,1,(ac L 16))] m) λa3=>Obt (ej true 1968 1 8 a2 a3.1 a3.2) λa4=>Obt (bd 5 (ac L 8) (ac L 13)) λa5=>Obt (aA 3 a5) λa6=>Obt (stX 1 a4.2 a6 a4.1) λa7=>Q .normal ⟨[(0,(ac L 0)),(8,(ac L 8)),(13,(ac L 13)),(14,(ac L 14)),(15,(ac L 15)),(16,(ac L 16))],a7⟩):Rg F 8 [0,8,13,14,15,16] c8r28 L m Q:=ae (by kernel_rfl) h
theorem t8r29 (h:Obt (bd 5 (ac L 8) (ac L 16)) λa0=>Obt (aA 4 a0) λa1=>Obt (ld1 m a1) λa2=>Obt (be false 2144 1 1 [.int .i64 0] [(0,1,(ac L 13))] m) λa3=>Obt (ej true 2160 1 8 a2 a3.1 a3.2) λa4=>Obt (bd 5 (ac L 8) (ac L 16)) λa5=>Obt (aA 4 a5) λa6=>Obt (stX 1 a4.2 a6 a4.1) λa7=>Q .normal ⟨[(0,(ac L 0)),(8,(ac L 8)),(13,(ac L 13)),(14,(ac L 14)),(15,(ac L 15))],a7⟩):Rg F 8 [0,8,13,14,15] c8r29 L m Q:=ae (by kernel_rfl) h
theorem t8r25 (h:Obt (aw Try.prog .add 3 (.tmp 98) (.const (.int .i64 1)) (ac L 15) (.int .i64 1)) λa0=>Q .normal ⟨[(0,(ac L 0)),(8,(ac L 8)),(13,(ac L 13)),(14,(ac L 14)),(15,a0)],m⟩):Rg F 8 [0,8,13,14,15] c8r25 L m Q:=ae (by kernel_rfl) h
theorem t8r21 (h:Obt (aw Try.prog .add 3 (.tmp 85) (.const (.int .i64 1)) (ac L 13) (.int .i64 1)) λa0=>Q .normal ⟨[(0,(ac L 0)),(8,(ac L 8)),(13,a0)],m⟩):Rg F 8 [0,8,13] c8r21 L m Q:=ae (by kernel_rfl) h
theorem t8r30 (h:Q .normal ⟨[(2,(ac L 8)),(3,(.int .i64 0))],m⟩):Rg F 8 [2,3] c8r30 L m Q:=ae (by kernel_rfl) h
def c9r0:=rg 9 Try.f9 0
def c9r1:=rg 9 Try.f9 1
def c9r2:=rg 9 Try.f9 2
def c9r3:=rg 9 Try.f9 3
def c9r4:=rg 9 Try.f9 4
def c9r6:=rg 9 Try.f9 6
def c9r7:=rg 9 Try.f9 7
def c9r5:=rg 9 Try.f9 5
def c9l0:SC:=
 (.seq (.seq (.reg false (some [0,1,5,14]) c9r4) (.cond (.tmp 14) .nop (.exit 0))) (.seq (.block 1 (.seq (.reg true (some [0,1,5,81]) c9r6) (.cond (.tmp 81) (.seq (.reg false (some [4]) c9r7) .ret) .nop))) (.reg false (some [0,1,5]) c9r5)))
def c9r8:=rg 9 Try.f9 8
def c9:SC:=
 (.seq (.reg false (some [0,1]) c9r0) (.seq (.seq (.reg false (some [0,1,10]) c9r1) (.cond (.tmp 10) (.seq (.reg false (some [4]) c9r2) .ret) .nop)) (.seq (.seq (.reg false (some [0,1,5]) c9r3) (.block 0 (.loop c9l0))) (.seq (.reg false (some [4]) c9r8) .ret))))
theorem s9:Try.f9.body.bind (bh Try.prog An 9 Try.f9.ntmps)=some c9:=by kernel_rfl
theorem g9:An.glob 9=[]:=rfl
theorem r9:Try.f9.results.toList=[(.tmp 4)]:=by kernel_rfl
theorem t9r0 (h:Q .normal ⟨[(0,(ac L 0)),(1,(ac L 1))],m⟩):Rg F 9 [0,1] c9r0 L m Q:=ae (by kernel_rfl) h
theorem t9r1 (h:Obt (lenS (ac L 0)) λa0=>Obt (lenS (ac L 1)) λa1=>Obt (aw Try.prog .neq 3 (.tmp 7) (.tmp 9) a0 a1) λa2=>Q .normal ⟨[(0,(ac L 0)),(1,(ac L 1)),(10,a2)],m⟩):Rg F 9 [0,1,10] c9r1 L m Q:=ae (by kernel_rfl) h
theorem t9r3 (h:Q .normal ⟨[(0,(ac L 0)),(1,(ac L 1)),(5,(.int .i64 0))],m⟩):Rg F 9 [0,1,5] c9r3 L m Q:=ae (by kernel_rfl) h
theorem t9r4 (h:Obt (lenS (ac L 0)) λa0=>Obt (aw Try.prog .lss 3 (.tmp 11) (.tmp 13) (ac L 5) a0) λa1=>Q .normal ⟨[(0,(ac L 0)),(1,(ac L 1)),(5,(ac L 5)),(14,a1)],m⟩):Rg F 9 [0,1,5,14] c9r4 L m Q:=ae (by kernel_rfl) h
theorem t9r6 (h:Obt (bd 5 (ac L 0) (ac L 5)) λa0=>Obt (aA 0 a0) λa1=>Obt (ld1 m a1) λa2=>Obt (bd 5 (ac L 1) (ac L 5)) λa3=>Obt (aA 0 a3) λa4=>Obt (ld1 m a4) λa5=>Obt (aw Try.prog .neq 3 (.tmp 21) (.tmp 26) a2 a5) λa6=>Obt (gdO a6 false (some ((ac L 0),m)) (.tuple [],m)) λa7=>Obt (gdO a6 false (some ((ac L 5),a7.2)) (.tuple [],a7.2)) λa8=>Obt (gdO a6 false ((bd 5 a7.1 a8.1).map λv=>(v,a8.2)) (.tuple [],a8.2)) λa9=>Obt (gdO a6 false ((aA 1 a9.1).map λv=>(v,a9.2)) (.tuple [],a9.2)) λa10=>Obt (gdO a6 false ((ld1 a10.2 a10.1).map λv=>(v,a10.2)) (.tuple [],a10.2)) λa11=>Obt (gdO a6 false (some ((ac L 1),a11.2)) (.tuple [],a11.2)) λa12=>Obt (gdO a6 false (some ((ac L 5),a12.2)) (.tuple [],a12.2)) λa13=>Obt (gdO a6 false ((bd 5 a12.1 a13.1).map λv=>(v,a13.2)) (.tuple [],a13.2)) λa14=>Obt (gdO a6 false ((aA 1 a14.1).map λv=>(v,a14.2)) (.tuple [],a14.2)) λa15=>Obt (gdO a6 false ((ld1 a15.2 a15.1).map λv=>(v,a15.2)) (.tuple [],a15.2)) λa16=>Obt (gdO a6 false ((aw Try.prog .neq 3 (.tmp 33) (.tmp 38) a11.1 a16.1).map λv=>(v,a16.2)) (.tuple [],a16.2)) λa17=>Obt (cT a6 (.bool true) a17.1) λa18=>Obt (gdO a18 false (some ((ac L 0),a17.2)) (.tuple [],a17.2)) λa19=>Obt (gdO a18 false (some ((ac L 5),a19.2)) (.tuple [],a19.2)) λa20=>Obt (gdO a18 false ((bd 5 a19.1 a20.1).map λv=>(v,a20.2)) (.tuple [],a20.2)) λa21=>Obt (gdO a18 false ((aA 2 a21.1).map λv=>(v,a21.2)) (.tuple [],a21.2)) λa22=>Obt (gdO a18 false ((ld1 a22.2 a22.1).map λv=>(v,a22.2)) (.tuple [],a22.2)) λa23=>Obt (gdO a18 false (some ((ac L 1),a23.2)) (.tuple [],a23.2)) λa24=>Obt (gdO a18 false (some ((ac L 5),a24.2)) (.tuple [],a24.2)) λa25=>Obt (gdO a18 false ((bd 5 a24.1 a25.1).map λv=>(v,a25.2)) (.tuple [],a25.2)) λa26=>Obt (gdO a18 false ((aA 2 a26.1).map λv=>(v,a26.2)) (.tuple [],a26.2)) λa27=>Obt (gdO a18 false ((ld1 a27.2 a27.1).map λv=>(v,a27.2)) (.tuple [],a27.2)) λa28=>Obt (gdO a18 false ((aw Try.prog .neq 3 (.tmp 46) (.tmp 51) a23.1 a28.1).map λv=>(v,a28.2)) (.tuple [],a28.2)) λa29=>Obt (cT a18 (.bool true) a29.1) λa30=>Obt (gdO a30 false (some ((ac L 0),a29.2)) (.tuple [],a29.2)) λa31=>Obt (gdO a30 false (some ((ac L 5),a31.2)) (.tuple [],a31.2)) λa32=>Obt (gdO a30 false ((bd 5 a31.1 a32.1).map λv=>(v,a32.2)) (.tuple [],a32.2)) λa33=>Obt (gdO a30 false ((aA 3 a33.1).map λv=>(v,a33.2)) (.tuple [],a33.2)) λa34=>Obt (gdO a30 false ((ld1 a34.2 a34.1).map λv=>(v,a34.2)) (.tuple [],a34.2)) λa35=>Obt (gdO a30 false (some ((ac L 1),a35.2)) (.tuple [],a35.2)) λa36=>Obt (gdO a30 false (some ((ac L 5),a36.2)) (.tuple [],a36.2)) λa37=>Obt (gdO a30 false ((bd 5 a36.1 a37.1).map λv=>(v,a37.2)) (.tuple [],a37.2)) λa38=>Obt (gdO a30 false ((aA 3 a38.1).map λv=>(v,a38.2)) (.tuple [],a38.2)) λa39=>Obt (gdO a30 false ((ld1 a39.2 a39.1).map λv=>(v,a39.2)) (.tuple [],a39.2)) λa40=>Obt (gdO a30 false (cd An F 9 (some 65) 10 [a35.1,a40.1] a40.2) (.tuple [],a40.2)) λa41=>Obt (gdO a30 false ((cun .not a41.1).map λv=>(v,a41.2)) (.tuple [],a41.2)) λa42=>Obt (cT a30 (.bool true) a42.1) λa43=>Obt (gdO a43 false (some ((ac L 0),a42.2)) (.tuple [],a42.2)) λa44=>Obt (gdO a43 false (some ((ac L 5),a44.2)) (.tuple [],a44.2)) λa45=>Obt (gdO a43 false ((bd 5 a44.1 a45.1).map λv=>(v,a45.2)) (.tuple [],a45.2)) λa46=>Obt (gdO a43 false ((aA 4 a46.1).map λv=>(v,a46.2)) (.tuple [],a46.2)) λa47=>Obt (gdO a43 false ((ld1 a47.2 a47.1).map λv=>(v,a47.2)) (.tuple [],a47.2)) λa48=>Obt (gdO a43 false (some ((ac L 1),a48.2)) (.tuple [],a48.2)) λa49=>Obt (gdO a43 false (some ((ac L 5),a49.2)) (.tuple [],a49.2)) λa50=>Obt (gdO a43 false ((bd 5 a49.1 a50.1).map λv=>(v,a50.2)) (.tuple [],a50.2)) λa51=>Obt (gdO a43 false ((aA 4 a51.1).map λv=>(v,a51.2)) (.tuple [],a51.2)) λa52=>Obt (gdO a43 false ((ld1 a52.2 a52.1).map λv=>(v,a52.2)) (.tuple [],a52.2)) λa53=>Obt (gdO a43 false (cd An F 9 (some 79) 10 [a48.1,a53.1] a53.2) (.tuple [],a53.2)) λa54=>Obt (gdO a43 false ((cun .not a54.1).map λv=>(v,a54.2)) (.tuple [],a54.2)) λa55=>Obt (cT a43 (.bool true) a55.1) λa56=>Q .normal ⟨[(0,(ac L 0)),(1,(ac L 1)),(5,(ac L 5)),(81,a56)],a55.2⟩):Rt F 9 [0,1,5,81] c9r6 L m Q:=ae (by kernel_rfl) h
theorem t9r5 (h:Obt (aw Try.prog .add 3 (.tmp 15) (.const (.int .i64 1)) (ac L 5) (.int .i64 1)) λa0=>Q .normal ⟨[(0,(ac L 0)),(1,(ac L 1)),(5,a0)],m⟩):Rg F 9 [0,1,5] c9r5 L m Q:=ae (by kernel_rfl) h
theorem t9r8 (h:Q .normal ⟨[(4,(.bool true))],m⟩):Rg F 9 [4] c9r8 L m Q:=ae (by kernel_rfl) h
def c12r0:=rg 12 Try.f12 0
def c12r1:=rg 12 Try.f12 1
def c12r2:=rg 12 Try.f12 2
def c12r3:=rg 12 Try.f12 3
def c12r4:=rg 12 Try.f12 4
def c12r5:=rg 12 Try.f12 5
def c12r6:=rg 12 Try.f12 6
def c12r7:=rg 12 Try.f12 7
def c12r8:=rg 12 Try.f12 8
def c12r9:=rg 12 Try.f12 9
def Ot:=rg 12 Try.f12 10
def Ou:=rg 12 Try.f12 11
def c12l0:SC:=
 (.seq (.seq (.reg false (some [0,5,6,23]) c12r6) (.cond (.tmp 23) .nop (.exit 0))) (.block 1 (.seq (.reg false (some [0,5,6,7]) c12r7) (.seq (.reg false (some [0,5,6,7]) c12r8) (.seq (.reg false (some [0,5,6,7,39]) c12r9) (.cond (.tmp 39) (.seq (.reg false (some [0,5,6,7]) Ot) (.reg false (some [0,5,6]) Ou)) .nop))))))
def Ov:=rg 12 Try.f12 12
def Ow:=rg 12 Try.f12 13
def Ox:=rg 12 Try.f12 14
def Oz:=rg 12 Try.f12 16
def OA:=rg 12 Try.f12 17
def Oy:=rg 12 Try.f12 15
def c12l1:SC:=
 (.seq (.seq (.reg false (some [0,5,8,9,51]) Ox) (.cond (.tmp 51) .nop (.exit 2))) (.seq (.block 3 (.seq (.reg false (some [0,5,8,9,57]) Oz) (.cond (.tmp 57) (.reg false (some [0,5,8,9]) OA) .nop))) (.reg false (some [0,5,8,9]) Oy)))
def OB:=rg 12 Try.f12 18
def c12:SC:=
 (.seq (.reg false (some [0]) c12r0) (.seq (.reg false (some [0,4]) c12r1) (.seq (.seq (.reg false (some [0,16]) c12r2) (.cond (.tmp 16) (.seq (.reg false (some [2]) c12r3) .ret) .nop)) (.seq (.reg false (some [0,5]) c12r4) (.seq (.reg false (some [0,5,6]) c12r5) (.seq (.block 0 (.loop c12l0)) (.seq (.reg false (some [0,5,8]) Ov) (.seq (.seq (.reg false (some [0,5,8,9]) Ow) (.block 2 (.loop c12l1))) (.seq (.reg false (some [2]) OB) .ret)))))))))
theorem s12:Try.f12.body.bind (bh Try.prog An 12 Try.f12.ntmps)=some c12:=by kernel_rfl
theorem g12:An.glob 12=[]:=rfl
theorem r12:Try.f12.results.toList=[(.tmp 2)]:=by kernel_rfl
theorem t12r0 (h:Q .normal ⟨[(0,(ac L 0))],m⟩):Rg F 12 [0] c12r0 L m Q:=ae (by kernel_rfl) h
theorem t12r1 (h:Obt (cd An F 12 (some 12) 23 [(ac L 0)] m) λa0=>Obt (cV 0 a0.1) λa1=>Obt (cV 1 a0.1) λa2=>Q .normal ⟨[(0,(ac L 0)),(4,a2)],a0.2⟩):Rg F 12 [0,4] c12r1 L m Q:=ae (by kernel_rfl) h
theorem t12r2 (h:Obt (aw Try.prog .neq 3 (.tmp 15) (.const (.int .i64 0)) (ac L 4) (.int .i64 0)) λa0=>Q .normal ⟨[(0,(ac L 0)),(16,a0)],m⟩):Rg F 12 [0,16] c12r2 L m Q:=ae (by kernel_rfl) h
theorem t12r3 (h:Q .normal ⟨[(2,.nil)],m⟩):Rg F 12 [2] c12r3 L m Q:=ae (by kernel_rfl) h
theorem t12r4 (h:Obt (lenS (ac L 0)) λa0=>Obt (mkX false 304 1 1 [.bool false] a0 a0 m) λa1=>Q .normal ⟨[(0,(ac L 0)),(5,a1.1)],a1.2⟩):Rg F 12 [0,5] c12r4 L m Q:=ae (by kernel_rfl) h
theorem t12r5 (h:Obt (be false 320 1 1 [.int .i64 0] [(0,1,(.int .i64 0))] m) λa0=>Q .normal ⟨[(0,(ac L 0)),(5,(ac L 5)),(6,a0.1)],a0.2⟩):Rg F 12 [0,5,6] c12r5 L m Q:=ae (by kernel_rfl) h
theorem Qk (h:Obt (lenS (ac L 6)) λa0=>Obt (aw Try.prog .gtr 3 (.tmp 22) (.const (.int .i64 0)) a0 (.int .i64 0)) λa1=>Q .normal ⟨[(0,(ac L 0)),(5,(ac L 5)),(6,(ac L 6)),(23,a1)],m⟩):Rg F 12 [0,5,6,23] c12r6 L m Q:=ae (by kernel_rfl) h
theorem t12r7 (h:Obt (lenS (ac L 6)) λa0=>Obt (aw Try.prog .sub 3 (.tmp 26) (.const (.int .i64 1)) a0 (.int .i64 1)) λa1=>Obt (bd 1 (ac L 6) a1) λa2=>Obt (ld1 m a2) λa3=>Q .normal ⟨[(0,(ac L 0)),(5,(ac L 5)),(6,(ac L 6)),(7,a3)],m⟩):Rg F 12 [0,5,6,7] c12r7 L m Q:=ae (by kernel_rfl) h
theorem t12r8 (h:Obt (lenS (ac L 6)) λa0=>Obt (aw Try.prog .sub 3 (.tmp 32) (.const (.int .i64 1)) a0 (.int .i64 1)) λa1=>Obt (sJ 1 (ac L 6) none (some a1) none m) λa2=>Q .normal ⟨[(0,(ac L 0)),(5,(ac L 5)),(6,a2),(7,(ac L 7))],m⟩):Rg F 12 [0,5,6,7] c12r8 L m Q:=ae (by kernel_rfl) h
theorem t12r9 (h:Obt (bd 1 (ac L 5) (ac L 7)) λa0=>Obt (ld1 m a0) λa1=>Obt (cun .not a1) λa2=>Q .normal ⟨[(0,(ac L 0)),(5,(ac L 5)),(6,(ac L 6)),(7,(ac L 7)),(39,a2)],m⟩):Rg F 12 [0,5,6,7,39] c12r9 L m Q:=ae (by kernel_rfl) h
theorem t12r10 (h:Obt (bd 1 (ac L 5) (ac L 7)) λa0=>Obt (stX 1 m a0 (.bool true)) λa1=>Q .normal ⟨[(0,(ac L 0)),(5,(ac L 5)),(6,(ac L 6)),(7,(ac L 7))],a1⟩):Rg F 12 [0,5,6,7] Ot L m Q:=ae (by kernel_rfl) h
theorem t12r11 (h:Obt (cd An F 12 (some 46) 16 [(ac L 0),(ac L 7)] m) λa0=>Obt (ej false 752 1 8 (ac L 6) a0.1 a0.2) λa1=>Q .normal ⟨[(0,(ac L 0)),(5,(ac L 5)),(6,a1.1)],a1.2⟩):Rg F 12 [0,5,6] Ou L m Q:=ae (by kernel_rfl) h
theorem t12r12 (h:Q .normal ⟨[(0,(ac L 0)),(5,(ac L 5)),(8,.nil)],m⟩):Rg F 12 [0,5,8] Ov L m Q:=ae (by kernel_rfl) h
theorem t12r13 (h:Q .normal ⟨[(0,(ac L 0)),(5,(ac L 5)),(8,(ac L 8)),(9,(.int .i64 0))],m⟩):Rg F 12 [0,5,8,9] Ow L m Q:=ae (by kernel_rfl) h
theorem Nu (h:Obt (lenS (ac L 0)) λa0=>Obt (aw Try.prog .lss 3 (.tmp 48) (.tmp 50) (ac L 9) a0) λa1=>Q .normal ⟨[(0,(ac L 0)),(5,(ac L 5)),(8,(ac L 8)),(9,(ac L 9)),(51,a1)],m⟩):Rg F 12 [0,5,8,9,51] Ox L m Q:=ae (by kernel_rfl) h
theorem Qj (h:Obt (bd 1 (ac L 5) (ac L 9)) λa0=>Obt (ld1 m a0) λa1=>Q .normal ⟨[(0,(ac L 0)),(5,(ac L 5)),(8,(ac L 8)),(9,(ac L 9)),(57,a1)],m⟩):Rg F 12 [0,5,8,9,57] Oz L m Q:=ae (by kernel_rfl) h
theorem t12r17 (h:Obt (be false 960 1 1 [.int .i64 0] [(0,1,(ac L 9))] m) λa0=>Obt (ej false 976 1 8 (ac L 8) a0.1 a0.2) λa1=>Q .normal ⟨[(0,(ac L 0)),(5,(ac L 5)),(8,a1.1),(9,(ac L 9))],a1.2⟩):Rg F 12 [0,5,8,9] OA L m Q:=ae (by kernel_rfl) h
theorem Qi (h:Obt (aw Try.prog .add 3 (.tmp 52) (.const (.int .i64 1)) (ac L 9) (.int .i64 1)) λa0=>Q .normal ⟨[(0,(ac L 0)),(5,(ac L 5)),(8,(ac L 8)),(9,a0)],m⟩):Rg F 12 [0,5,8,9] Oy L m Q:=ae (by kernel_rfl) h
theorem t12r18 (h:Q .normal ⟨[(2,(ac L 8))],m⟩):Rg F 12 [2] OB L m Q:=ae (by kernel_rfl) h
def c14r0:=rg 14 Try.f14 0
def c14r1:=rg 14 Try.f14 1
def c14r2:=rg 14 Try.f14 2
def c14r4:=rg 14 Try.f14 4
def c14r5:=rg 14 Try.f14 5
def c14r3:=rg 14 Try.f14 3
def c14l0:SC:=
 (.seq (.seq (.reg false (some [0,1,5,9]) c14r2) (.cond (.tmp 9) .nop (.exit 0))) (.seq (.block 1 (.seq (.reg false (some [0,1,5,27]) c14r4) (.cond (.tmp 27) (.seq (.reg false (some [4]) c14r5) .ret) .nop))) (.reg false (some [0,1,5]) c14r3)))
def c14r6:=rg 14 Try.f14 6
def c14:SC:=
 (.seq (.reg false (some [0,1]) c14r0) (.seq (.seq (.reg false (some [0,1,5]) c14r1) (.block 0 (.loop c14l0))) (.seq (.reg false (some [4]) c14r6) .ret)))
theorem s14:Try.f14.body.bind (bh Try.prog An 14 Try.f14.ntmps)=some c14:=by kernel_rfl
theorem g14:An.glob 14=[]:=rfl
theorem r14:Try.f14.results.toList=[(.tmp 4)]:=by kernel_rfl
theorem t14r0 (h:Q .normal ⟨[(0,(ac L 0)),(1,(ac L 1))],m⟩):Rg F 14 [0,1] c14r0 L m Q:=ae (by kernel_rfl) h
theorem t14r1 (h:Q .normal ⟨[(0,(ac L 0)),(1,(ac L 1)),(5,(.int .i64 0))],m⟩):Rg F 14 [0,1,5] c14r1 L m Q:=ae (by kernel_rfl) h
theorem NM (h:Obt (lenS (ac L 0)) λa0=>Obt (aw Try.prog .lss 3 (.tmp 6) (.tmp 8) (ac L 5) a0) λa1=>Q .normal ⟨[(0,(ac L 0)),(1,(ac L 1)),(5,(ac L 5)),(9,a1)],m⟩):Rg F 14 [0,1,5,9] c14r2 L m Q:=ae (by kernel_rfl) h
theorem Ql (h:Obt (bd 5 (ac L 0) (ac L 5)) λa0=>Obt (aA 0 a0) λa1=>Obt (ld1 m a1) λa2=>Obt (aw Try.prog .leq 3 (.tmp 16) (.tmp 17) a2 (ac L 1)) λa3=>Obt (gdO a3 true (some ((ac L 1),m)) (.tuple [],m)) λa4=>Obt (gdO a3 true (some ((ac L 0),a4.2)) (.tuple [],a4.2)) λa5=>Obt (gdO a3 true (some ((ac L 5),a5.2)) (.tuple [],a5.2)) λa6=>Obt (gdO a3 true ((bd 5 a5.1 a6.1).map λv=>(v,a6.2)) (.tuple [],a6.2)) λa7=>Obt (gdO a3 true ((aA 1 a7.1).map λv=>(v,a7.2)) (.tuple [],a7.2)) λa8=>Obt (gdO a3 true ((ld1 a8.2 a8.1).map λv=>(v,a8.2)) (.tuple [],a8.2)) λa9=>Obt (gdO a3 true ((aw Try.prog .lss 3 (.tmp 20) (.tmp 25) a4.1 a9.1).map λv=>(v,a9.2)) (.tuple [],a9.2)) λa10=>Obt (cT a3 a10.1 (.bool false)) λa11=>Q .normal ⟨[(0,(ac L 0)),(1,(ac L 1)),(5,(ac L 5)),(27,a11)],a10.2⟩):Rg F 14 [0,1,5,27] c14r4 L m Q:=ae (by kernel_rfl) h
theorem t14r5 (h:Q .normal ⟨[(4,(ac L 5))],m⟩):Rg F 14 [4] c14r5 L m Q:=ae (by kernel_rfl) h
theorem t14r3 (h:Obt (aw Try.prog .add 3 (.tmp 10) (.const (.int .i64 1)) (ac L 5) (.int .i64 1)) λa0=>Q .normal ⟨[(0,(ac L 0)),(1,(ac L 1)),(5,a0)],m⟩):Rg F 14 [0,1,5] c14r3 L m Q:=ae (by kernel_rfl) h
theorem t14r6 (h:Q .normal ⟨[(4,(.int .i64 (-1)))],m⟩):Rg F 14 [4] c14r6 L m Q:=ae (by kernel_rfl) h
def c23r0:=rg 23 Try.f23 0
def c23r1:=rg 23 Try.f23 1
def c23r2:=rg 23 Try.f23 2
def c23r3:=rg 23 Try.f23 3
def c23r4:=rg 23 Try.f23 4
def c23r5:=rg 23 Try.f23 5
def c23r6:=rg 23 Try.f23 6
def c23r8:=rg 23 Try.f23 8
def c23r9:=rg 23 Try.f23 9
def OP:=rg 23 Try.f23 10
def OQ:=rg 23 Try.f23 11
def OR:=rg 23 Try.f23 12
def OT:=rg 23 Try.f23 13
def OV:=rg 23 Try.f23 15
def OW:=rg 23 Try.f23 16
def OU:=rg 23 Try.f23 14
def NG:SC:=
 (.seq (.seq (.reg false (some [0,4,5,6,59]) OT) (.cond (.tmp 59) .nop (.exit 2))) (.seq (.block 3 (.seq (.reg false (some [0,4,5,6,83]) OV) (.cond (.tmp 83) (.seq (.reg false (some [2,3]) OW) .ret) .nop))) (.reg false (some [0,4,5,6]) OU)))
def c23r7:=rg 23 Try.f23 7
def c23l1:SC:=
 (.seq (.seq (.reg false (some [0,4,16]) c23r6) (.cond (.tmp 16) .nop (.exit 0))) (.seq (.block 1 (.seq (.seq (.reg false (some [0,4,21]) c23r8) (.cond (.tmp 21) (.exit 1) .nop)) (.seq (.seq (.reg false (some [0,4,51]) c23r9) (.cond (.tmp 51) (.seq (.reg false (some [2,3]) OP) .ret) .nop)) (.seq (.reg false (some [0,4,5]) OQ) (.seq (.reg false (some [0,4,5,6]) OR) (.block 2 (.loop NG))))))) (.reg false (some [0,4]) c23r7)))
def OX:=rg 23 Try.f23 17
def c23:SC:=
 (.seq (.reg false (some [0]) c23r0) (.seq (.seq (.reg false (some [0,9]) c23r1) (.cond (.tmp 9) (.seq (.reg false (some [2,3]) c23r2) .ret) .nop)) (.seq (.seq (.reg false (some [0,12]) c23r3) (.cond (.tmp 12) (.seq (.reg false (some [2,3]) c23r4) .ret) .nop)) (.seq (.seq (.reg false (some [0,4]) c23r5) (.block 0 (.loop c23l1))) (.seq (.reg false (some [2,3]) OX) .ret)))))
theorem s23:Try.f23.body.bind (bh Try.prog An 23 Try.f23.ntmps)=some c23:=by kernel_rfl
theorem g23:An.glob 23=[]:=rfl
theorem r23:Try.f23.results.toList=[(.tmp 2),(.tmp 3)]:=by kernel_rfl
theorem Qv (h:Q .normal ⟨[(0,(ac L 0))],m⟩):Rg F 23 [0] c23r0 L m Q:=ae (by kernel_rfl) h
theorem Qw (h:Obt (lenS (ac L 0)) λa0=>Obt (aw Try.prog .gtr 3 (.tmp 8) (.const (.int .i64 4096)) a0 (.int .i64 4096)) λa1=>Q .normal ⟨[(0,(ac L 0)),(9,a1)],m⟩):Rg F 23 [0,9] c23r1 L m Q:=ae (by kernel_rfl) h
theorem t23r2 (h:Q .normal ⟨[(2,(.int .i64 0)),(3,(.int .i64 31))],m⟩):Rg F 23 [2,3] c23r2 L m Q:=ae (by kernel_rfl) h
theorem t23r3 (h:Obt (lenS (ac L 0)) λa0=>Obt (aw Try.prog .eql 3 (.tmp 11) (.const (.int .i64 0)) a0 (.int .i64 0)) λa1=>Q .normal ⟨[(0,(ac L 0)),(12,a1)],m⟩):Rg F 23 [0,12] c23r3 L m Q:=ae (by kernel_rfl) h
theorem t23r4 (h:Q .normal ⟨[(2,(.int .i64 0)),(3,(.int .i64 40))],m⟩):Rg F 23 [2,3] c23r4 L m Q:=ae (by kernel_rfl) h
theorem t23r5 (h:Q .normal ⟨[(0,(ac L 0)),(4,(.int .i64 0))],m⟩):Rg F 23 [0,4] c23r5 L m Q:=ae (by kernel_rfl) h
theorem LX (h:Obt (lenS (ac L 0)) λa0=>Obt (aw Try.prog .lss 3 (.tmp 13) (.tmp 15) (ac L 4) a0) λa1=>Q .normal ⟨[(0,(ac L 0)),(4,(ac L 4)),(16,a1)],m⟩):Rg F 23 [0,4,16] c23r6 L m Q:=ae (by kernel_rfl) h
theorem Ml (h:Obt (cd An F 23 (some 21) 32 [(ac L 0),(ac L 4)] m) λa0=>Q .normal ⟨[(0,(ac L 0)),(4,(ac L 4)),(21,a0.1)],a0.2⟩):Rg F 23 [0,4,21] c23r8 L m Q:=ae (by kernel_rfl) h
theorem M8 (h:Obt (bd 6 (ac L 0) (ac L 4)) λa0=>Obt (ldA 6 m a0) λa1=>Obt (cd An F 23 (some 26) 39 [a1] m) λa2=>Obt (cun .not a2.1) λa3=>Obt (gdO a3 false (some ((ac L 0),a2.2)) (.tuple [],a2.2)) λa4=>Obt (gdO a3 false (some ((ac L 4),a4.2)) (.tuple [],a4.2)) λa5=>Obt (gdO a3 false ((bd 6 a4.1 a5.1).map λv=>(v,a5.2)) (.tuple [],a5.2)) λa6=>Obt (gdO a3 false ((aA 0 a6.1).map λv=>(v,a6.2)) (.tuple [],a6.2)) λa7=>Obt (gdO a3 false ((ld1 a7.2 a7.1).map λv=>(v,a7.2)) (.tuple [],a7.2)) λa8=>Obt (gdO a3 false ((aw Try.prog .eql 3 (.tmp 33) (.const (.int .i64 24)) a8.1 (.int .i64 24)).map λv=>(v,a8.2)) (.tuple [],a8.2)) λa9=>Obt (gdO a3 false (some (a9.1,a9.2)) (.tuple [],a9.2)) λa10=>Obt (gdO a10.1 true (some ((ac L 4),a10.2)) (.tuple [],a10.2)) λa11=>Obt (gdO a10.1 true ((aw Try.prog .add 3 (.tmp 36) (.const (.int .i64 1)) a11.1 (.int .i64 1)).map λv=>(v,a11.2)) (.tuple [],a11.2)) λa12=>Obt (gdO a10.1 true (some ((ac L 0),a12.2)) (.tuple [],a12.2)) λa13=>Obt (gdO a10.1 true ((lenS a13.1).map λv=>(v,a13.2)) (.tuple [],a13.2)) λa14=>Obt (gdO a10.1 true ((aw Try.prog .geq 3 (.tmp 37) (.tmp 39) a12.1 a14.1).map λv=>(v,a14.2)) (.tuple [],a14.2)) λa15=>Obt (gdO a10.1 true (some (a15.1,a15.2)) (.tuple [],a15.2)) λa16=>Obt (gdO a16.1 false (some ((ac L 0),a16.2)) (.tuple [],a16.2)) λa17=>Obt (gdO a16.1 false (some ((ac L 4),a17.2)) (.tuple [],a17.2)) λa18=>Obt (gdO a16.1 false ((aw Try.prog .add 3 (.tmp 43) (.const (.int .i64 1)) a18.1 (.int .i64 1)).map λv=>(v,a18.2)) (.tuple [],a18.2)) λa19=>Obt (gdO a16.1 false ((bd 6 a17.1 a19.1).map λv=>(v,a19.2)) (.tuple [],a19.2)) λa20=>Obt (gdO a16.1 false ((ldA 6 a20.2 a20.1).map λv=>(v,a20.2)) (.tuple [],a20.2)) λa21=>Obt (gdO a16.1 false (((bg [.int .i64 0,.int .i64 0,.int .i64 0,.int .i64 0,.int .i64 0,.int .u64 0] []).map CV.agg).map λv=>(v,a21.2)) (.tuple [],a21.2)) λa22=>Obt (gdO a16.1 false ((aw Try.prog .neq 47 (.tmp 46) (.tmp 47) a21.1 a22.1).map λv=>(v,a22.2)) (.tuple [],a22.2)) λa23=>Obt (gdO a10.1 true ((cT a16.1 (.bool true) a23.1).map λv=>(v,a23.2)) (.tuple [],a23.2)) λa24=>Obt (gdO a3 false ((cT a10.1 a24.1 (.bool false)).map λv=>(v,a24.2)) (.tuple [],a24.2)) λa25=>Obt (cT a3 (.bool true) a25.1) λa26=>Q .normal ⟨[(0,(ac L 0)),(4,(ac L 4)),(51,a26)],a25.2⟩):Rg F 23 [0,4,51] c23r9 L m Q:=ae (by kernel_rfl) h
theorem Ny (h:Q .normal ⟨[(2,(ac L 4)),(3,(.int .i64 40))],m⟩):Rg F 23 [2,3] OP L m Q:=ae (by kernel_rfl) h
theorem J0 (h:Obt (cd An F 23 (some 55) 16 [(ac L 0),(ac L 4)] m) λa0=>Q .normal ⟨[(0,(ac L 0)),(4,(ac L 4)),(5,a0.1)],a0.2⟩):Rg F 23 [0,4,5] OQ L m Q:=ae (by kernel_rfl) h
theorem Kd (h:Q .normal ⟨[(0,(ac L 0)),(4,(ac L 4)),(5,(ac L 5)),(6,(.int .i64 0))],m⟩):Rg F 23 [0,4,5,6] OR L m Q:=ae (by kernel_rfl) h
theorem Ke (h:Obt (lenS (ac L 5)) λa0=>Obt (aw Try.prog .lss 3 (.tmp 56) (.tmp 58) (ac L 6) a0) λa1=>Q .normal ⟨[(0,(ac L 0)),(4,(ac L 4)),(5,(ac L 5)),(6,(ac L 6)),(59,a1)],m⟩):Rg F 23 [0,4,5,6,59] OT L m Q:=ae (by kernel_rfl) h
theorem Mz (h:Obt (bd 1 (ac L 5) (ac L 6)) λa0=>Obt (ld1 m a0) λa1=>Obt (aw Try.prog .lss 3 (.tmp 65) (.const (.int .i64 0)) a1 (.int .i64 0)) λa2=>Obt (gdO a2 false (some ((ac L 5),m)) (.tuple [],m)) λa3=>Obt (gdO a2 false (some ((ac L 6),a3.2)) (.tuple [],a3.2)) λa4=>Obt (gdO a2 false ((bd 1 a3.1 a4.1).map λv=>(v,a4.2)) (.tuple [],a4.2)) λa5=>Obt (gdO a2 false ((ld1 a5.2 a5.1).map λv=>(v,a5.2)) (.tuple [],a5.2)) λa6=>Obt (gdO a2 false (some ((ac L 0),a6.2)) (.tuple [],a6.2)) λa7=>Obt (gdO a2 false ((lenS a7.1).map λv=>(v,a7.2)) (.tuple [],a7.2)) λa8=>Obt (gdO a2 false ((aw Try.prog .geq 3 (.tmp 71) (.tmp 73) a6.1 a8.1).map λv=>(v,a8.2)) (.tuple [],a8.2)) λa9=>Obt (cT a2 (.bool true) a9.1) λa10=>Obt (gdO a10 false (some ((ac L 0),a9.2)) (.tuple [],a9.2)) λa11=>Obt (gdO a10 false (some ((ac L 5),a11.2)) (.tuple [],a11.2)) λa12=>Obt (gdO a10 false (some ((ac L 6),a12.2)) (.tuple [],a12.2)) λa13=>Obt (gdO a10 false ((bd 1 a12.1 a13.1).map λv=>(v,a13.2)) (.tuple [],a13.2)) λa14=>Obt (gdO a10 false ((ld1 a14.2 a14.1).map λv=>(v,a14.2)) (.tuple [],a14.2)) λa15=>Obt (gdO a10 false (cd An F 23 (some 82) 32 [a11.1,a15.1] a15.2) (.tuple [],a15.2)) λa16=>Obt (cT a10 (.bool true) a16.1) λa17=>Q .normal ⟨[(0,(ac L 0)),(4,(ac L 4)),(5,(ac L 5)),(6,(ac L 6)),(83,a17)],a16.2⟩):Rg F 23 [0,4,5,6,83] OV L m Q:=ae (by kernel_rfl) h
theorem JT (h:Q .normal ⟨[(2,(ac L 4)),(3,(.int .i64 40))],m⟩):Rg F 23 [2,3] OW L m Q:=ae (by kernel_rfl) h
theorem t23r14 (h:Obt (aw Try.prog .add 3 (.tmp 60) (.const (.int .i64 1)) (ac L 6) (.int .i64 1)) λa0=>Q .normal ⟨[(0,(ac L 0)),(4,(ac L 4)),(5,(ac L 5)),(6,a0)],m⟩):Rg F 23 [0,4,5,6] OU L m Q:=ae (by kernel_rfl) h
theorem Qy (h:Obt (aw Try.prog .add 3 (.tmp 17) (.const (.int .i64 1)) (ac L 4) (.int .i64 1)) λa0=>Q .normal ⟨[(0,(ac L 0)),(4,a0)],m⟩):Rg F 23 [0,4] c23r7 L m Q:=ae (by kernel_rfl) h
theorem J1 (h:Q .normal ⟨[(2,(.int .i64 0)),(3,(.int .i64 0))],m⟩):Rg F 23 [2,3] OX L m Q:=ae (by kernel_rfl) h
def c24r0:=rg 24 Try.f24 0
def c24r1:=rg 24 Try.f24 1
def c24r2:=rg 24 Try.f24 2
def c24r3:=rg 24 Try.f24 3
def c24r4:=rg 24 Try.f24 4
def c24r6:=rg 24 Try.f24 6
def c24r7:=rg 24 Try.f24 7
def c24r8:=rg 24 Try.f24 8
def c24r9:=rg 24 Try.f24 9
def IV:=rg 24 Try.f24 11
def IU:=rg 24 Try.f24 10
def c24l0:SC:=
 (.seq (.seq (.reg false (some [0,1,5,6,7,8,9,32]) c24r9) (.cond (.tmp 32) .nop (.exit 2))) (.seq (.block 3 (.reg true (some [0,1,5,6,7,8,9]) IV)) (.reg false (some [0,1,5,6,7,8,9]) IU)))
def c24r5:=rg 24 Try.f24 5
def c24l1:SC:=
 (.seq (.seq (.reg false (some [0,1,5,6,19]) c24r4) (.cond (.tmp 19) .nop (.exit 0))) (.seq (.block 1 (.seq (.reg false (some [0,1,5,6,7]) c24r6) (.seq (.reg false (some [0,1,5,6,7,8]) c24r7) (.seq (.reg false (some [0,1,5,6,7,8,9]) c24r8) (.block 2 (.loop c24l0)))))) (.reg false (some [0,1,5,6]) c24r5)))
def OY:=rg 24 Try.f24 12
def c24:SC:=
 (.seq (.reg false (some [0,1]) c24r0) (.seq (.reg false (some [0,1,5]) c24r1) (.seq (.reg false (some [0,1,5]) c24r2) (.seq (.seq (.reg false (some [0,1,5,6]) c24r3) (.block 0 (.loop c24l1))) (.seq (.reg false (some [4]) OY) .ret)))))
theorem s24:Try.f24.body.bind (bh Try.prog An 24 Try.f24.ntmps)=some c24:=by kernel_rfl
theorem g24:An.glob 24=[]:=rfl
theorem r24:Try.f24.results.toList=[(.tmp 4)]:=by kernel_rfl
theorem HC (h:Q .normal ⟨[(0,(ac L 0)),(1,(ac L 1))],m⟩):Rg F 24 [0,1] c24r0 L m Q:=ae (by kernel_rfl) h
theorem HD (h:Obt (lenS (ac L 0)) λa0=>Obt (aw Try.prog .add 3 (.tmp 11) (.const (.int .i64 2)) a0 (.int .i64 2)) λa1=>Obt (mkX false 208 1 1 [.bool false] a1 a1 m) λa2=>Q .normal ⟨[(0,(ac L 0)),(1,(ac L 1)),(5,a2.1)],a2.2⟩):Rg F 24 [0,1,5] c24r1 L m Q:=ae (by kernel_rfl) h
theorem HF (h:Obt (bd 1 (ac L 5) (.int .i64 0)) λa0=>Obt (stX 1 m a0 (.bool true)) λa1=>Q .normal ⟨[(0,(ac L 0)),(1,(ac L 1)),(5,(ac L 5))],a1⟩):Rg F 24 [0,1,5] c24r2 L m Q:=ae (by kernel_rfl) h
theorem HG (h:Q .normal ⟨[(0,(ac L 0)),(1,(ac L 1)),(5,(ac L 5)),(6,(.int .i64 0))],m⟩):Rg F 24 [0,1,5,6] c24r3 L m Q:=ae (by kernel_rfl) h
theorem HI (h:Obt (lenS (ac L 1)) λa0=>Obt (aw Try.prog .lss 3 (.tmp 16) (.tmp 18) (ac L 6) a0) λa1=>Q .normal ⟨[(0,(ac L 0)),(1,(ac L 1)),(5,(ac L 5)),(6,(ac L 6)),(19,a1)],m⟩):Rg F 24 [0,1,5,6,19] c24r4 L m Q:=ae (by kernel_rfl) h
theorem HK (h:Obt (bd 1 (ac L 1) (ac L 6)) λa0=>Obt (ld1 m a0) λa1=>Q .normal ⟨[(0,(ac L 0)),(1,(ac L 1)),(5,(ac L 5)),(6,(ac L 6)),(7,a1)],m⟩):Rg F 24 [0,1,5,6,7] c24r6 L m Q:=ae (by kernel_rfl) h
theorem HL (h:Obt (cd An F 24 (some 28) 16 [(ac L 0),(ac L 7)] m) λa0=>Q .normal ⟨[(0,(ac L 0)),(1,(ac L 1)),(5,(ac L 5)),(6,(ac L 6)),(7,(ac L 7)),(8,a0.1)],a0.2⟩):Rg F 24 [0,1,5,6,7,8] c24r7 L m Q:=ae (by kernel_rfl) h
theorem t24r8 (h:Q .normal ⟨[(0,(ac L 0)),(1,(ac L 1)),(5,(ac L 5)),(6,(ac L 6)),(7,(ac L 7)),(8,(ac L 8)),(9,(.int .i64 0))],m⟩):Rg F 24 [0,1,5,6,7,8,9] c24r8 L m Q:=ae (by kernel_rfl) h
theorem HN (h:Obt (lenS (ac L 8)) λa0=>Obt (aw Try.prog .lss 3 (.tmp 29) (.tmp 31) (ac L 9) a0) λa1=>Q .normal ⟨[(0,(ac L 0)),(1,(ac L 1)),(5,(ac L 5)),(6,(ac L 6)),(7,(ac L 7)),(8,(ac L 8)),(9,(ac L 9)),(32,a1)],m⟩):Rg F 24 [0,1,5,6,7,8,9,32] c24r9 L m Q:=ae (by kernel_rfl) h
theorem Hk (h:Obt (bd 1 (ac L 8) (ac L 9)) λa0=>Obt (ld1 m a0) λa1=>Obt (bd 1 (ac L 8) (ac L 9)) λa2=>Obt (ld1 m a2) λa3=>Obt (bd 1 (ac L 5) a3) λa4=>Obt (ld1 m a4) λa5=>Obt (gdO a5 false (some ((ac L 0),m)) (.tuple [],m)) λa6=>Obt (gdO a5 false (some ((ac L 7),a6.2)) (.tuple [],a6.2)) λa7=>Obt (gdO a5 false ((bd 6 a6.1 a7.1).map λv=>(v,a7.2)) (.tuple [],a7.2)) λa8=>Obt (gdO a5 false ((ldA 6 a8.2 a8.1).map λv=>(v,a8.2)) (.tuple [],a8.2)) λa9=>Obt (gdO a5 false (chk true (cd An F 24 (some 52) 26 [a9.1] a9.2)) (.tuple [],a9.2)) λa10=>Obt (cT a5 (.bool true) a10.1) λa11=>Obt (gdO a11 false (some ((ac L 8),a10.2)) (.tuple [],a10.2)) λa12=>Obt (gdO a11 false (some ((ac L 9),a12.2)) (.tuple [],a12.2)) λa13=>Obt (gdO a11 false ((bd 1 a12.1 a13.1).map λv=>(v,a13.2)) (.tuple [],a13.2)) λa14=>Obt (gdO a11 false ((ld1 a14.2 a14.1).map λv=>(v,a14.2)) (.tuple [],a14.2)) λa15=>Obt (gdO a11 false (some ((ac L 0),a15.2)) (.tuple [],a15.2)) λa16=>Obt (gdO a11 false (some ((ac L 7),a16.2)) (.tuple [],a16.2)) λa17=>Obt (gdO a11 false (chk true (cd An F 24 (some 61) 25 [a16.1,a17.1] a17.2)) (.tuple [],a17.2)) λa18=>Obt (gdO a11 false ((aw Try.prog .neq 3 (.tmp 58) (.tmp 61) a15.1 a18.1).map λv=>(v,a18.2)) (.tuple [],a18.2)) λa19=>Obt (cT a11 (.bool true) a19.1) λa20=>Obt (bd 1 (ac L 5) a1) λa21=>Obt (stX 1 a19.2 a21 a20) λa22=>Q .normal ⟨[(0,(ac L 0)),(1,(ac L 1)),(5,(ac L 5)),(6,(ac L 6)),(7,(ac L 7)),(8,(ac L 8)),(9,(ac L 9))],a22⟩):Rt F 24 [0,1,5,6,7,8,9] IV L m Q:=ae (by kernel_rfl) h
theorem Hj (h:Obt (aw Try.prog .add 3 (.tmp 33) (.const (.int .i64 1)) (ac L 9) (.int .i64 1)) λa0=>Q .normal ⟨[(0,(ac L 0)),(1,(ac L 1)),(5,(ac L 5)),(6,(ac L 6)),(7,(ac L 7)),(8,(ac L 8)),(9,a0)],m⟩):Rg F 24 [0,1,5,6,7,8,9] IU L m Q:=ae (by kernel_rfl) h
theorem HJ (h:Obt (aw Try.prog .add 3 (.tmp 20) (.const (.int .i64 1)) (ac L 6) (.int .i64 1)) λa0=>Q .normal ⟨[(0,(ac L 0)),(1,(ac L 1)),(5,(ac L 5)),(6,a0)],m⟩):Rg F 24 [0,1,5,6] c24r5 L m Q:=ae (by kernel_rfl) h
theorem t24r12 (h:Q .normal ⟨[(4,(ac L 5))],m⟩):Rg F 24 [4] OY L m Q:=ae (by kernel_rfl) h
def c25r0:=rg 25 Try.f25 0
def c25r1:=rg 25 Try.f25 1
def c25r2:=rg 25 Try.f25 2
def c25r3:=rg 25 Try.f25 3
def c25:SC:=
 (.seq (.reg false (some [0,1]) c25r0) (.seq (.seq (.reg false (some [1,10]) c25r1) (.cond (.tmp 10) (.seq (.reg false (some [4]) c25r2) .ret) .nop)) (.seq (.reg false (some [4]) c25r3) .ret)))
theorem s25:Try.f25.body.bind (bh Try.prog An 25 Try.f25.ntmps)=some c25:=by kernel_rfl
theorem g25:An.glob 25=[]:=rfl
theorem r25:Try.f25.results.toList=[(.tmp 4)]:=by kernel_rfl
theorem t25r0 (h:Q .normal ⟨[(0,(ac L 0)),(1,(ac L 1))],m⟩):Rg F 25 [0,1] c25r0 L m Q:=ae (by kernel_rfl) h
theorem t25r1 (h:Obt (bd 6 (ac L 0) (ac L 1)) λa0=>Obt (aA 0 a0) λa1=>Obt (ld1 m a1) λa2=>Obt (aw Try.prog .eql 3 (.tmp 9) (.const (.int .i64 24)) a2 (.int .i64 24)) λa3=>Q .normal ⟨[(1,(ac L 1)),(10,a3)],m⟩):Rg F 25 [1,10] c25r1 L m Q:=ae (by kernel_rfl) h
theorem t25r2 (h:Obt (aw Try.prog .add 3 (.tmp 11) (.const (.int .i64 2)) (ac L 1) (.int .i64 2)) λa0=>Q .normal ⟨[(4,a0)],m⟩):Rg F 25 [4] c25r2 L m Q:=ae (by kernel_rfl) h
theorem t25r3 (h:Obt (aw Try.prog .add 3 (.tmp 13) (.const (.int .i64 1)) (ac L 1) (.int .i64 1)) λa0=>Q .normal ⟨[(4,a0)],m⟩):Rg F 25 [4] c25r3 L m Q:=ae (by kernel_rfl) h
def c26r0:=rg 26 Try.f26 0
def c26r1:=rg 26 Try.f26 1
def c26r2:=rg 26 Try.f26 2
def c26:SC:=
 (.seq (.reg false (some [1]) c26r0) (.seq (.reg false (some [1,5]) c26r1) (.seq (.reg false (some [2]) c26r2) .ret)))
theorem s26:Try.f26.body.bind (bh Try.prog An 26 Try.f26.ntmps)=some c26:=by kernel_rfl
theorem g26:An.glob 26=[]:=rfl
theorem r26:Try.f26.results.toList=[(.tmp 2)]:=by kernel_rfl
theorem t26r0 (h:Obt (ap (ac L 0)) λa0=>Q .normal ⟨[(1,(bo m 16))],(bw m 16 a0)⟩):Rg F 26 [1] c26r0 L m Q:=ae (by kernel_rfl) h
theorem t26r1 (h:Obt (aA 0 (ac L 1)) λa0=>Obt (ld1 m a0) λa1=>Obt (cd An F 26 (some 9) 33 [a1] m) λa2=>Obt (cV 0 a2.1) λa3=>Obt (cV 1 a2.1) λa4=>Obt (cV 2 a2.1) λa5=>Q .normal ⟨[(1,(ac L 1)),(5,a5)],a2.2⟩):Rg F 26 [1,5] c26r1 L m Q:=ae (by kernel_rfl) h
theorem t26r2 (h:Obt (gdO (ac L 5) false ((aA 0 (ac L 1)).map λv=>(v,m)) (.tuple [],m)) λa0=>Obt (gdO (ac L 5) false ((ld1 a0.2 a0.1).map λv=>(v,a0.2)) (.tuple [],a0.2)) λa1=>Obt (gdO (ac L 5) false ((aw Try.prog .eql 3 (.tmp 16) (.const (.int .i64 5)) a1.1 (.int .i64 5)).map λv=>(v,a1.2)) (.tuple [],a1.2)) λa2=>Obt (cT (ac L 5) (.bool true) a2.1) λa3=>Q .normal ⟨[(2,a3)],a2.2⟩):Rg F 26 [2] c26r2 L m Q:=ae (by kernel_rfl) h
def c27r0:=rg 27 Try.f27 0
def c27r1:=rg 27 Try.f27 1
def c27r2:=rg 27 Try.f27 2
def c27r4:=rg 27 Try.f27 4
def c27r5:=rg 27 Try.f27 5
def c27r3:=rg 27 Try.f27 3
def c27l0:SC:=
 (.seq (.seq (.reg false (some [0,1,5,9]) c27r2) (.cond (.tmp 9) .nop (.exit 0))) (.seq (.block 1 (.seq (.reg false (some [0,1,5,17]) c27r4) (.cond (.tmp 17) (.seq (.reg false (some [4]) c27r5) .ret) .nop))) (.reg false (some [0,1,5]) c27r3)))
def c27r6:=rg 27 Try.f27 6
def c27:SC:=
 (.seq (.reg false (some [0,1]) c27r0) (.seq (.seq (.reg false (some [0,1,5]) c27r1) (.block 0 (.loop c27l0))) (.seq (.reg false (some [4]) c27r6) .ret)))
theorem s27:Try.f27.body.bind (bh Try.prog An 27 Try.f27.ntmps)=some c27:=by kernel_rfl
theorem g27:An.glob 27=[]:=rfl
theorem r27:Try.f27.results.toList=[(.tmp 4)]:=by kernel_rfl
theorem t27r0 (h:Q .normal ⟨[(0,(ac L 0)),(1,(ac L 1))],m⟩):Rg F 27 [0,1] c27r0 L m Q:=ae (by kernel_rfl) h
theorem t27r1 (h:Q .normal ⟨[(0,(ac L 0)),(1,(ac L 1)),(5,(.int .i64 0))],m⟩):Rg F 27 [0,1,5] c27r1 L m Q:=ae (by kernel_rfl) h
theorem Qz (h:Obt (lenS (ac L 0)) λa0=>Obt (aw Try.prog .lss 3 (.tmp 6) (.tmp 8) (ac L 5) a0) λa1=>Q .normal ⟨[(0,(ac L 0)),(1,(ac L 1)),(5,(ac L 5)),(9,a1)],m⟩):Rg F 27 [0,1,5,9] c27r2 L m Q:=ae (by kernel_rfl) h
theorem t27r4 (h:Obt (bd 1 (ac L 0) (ac L 5)) λa0=>Obt (ld1 m a0) λa1=>Obt (aw Try.prog .eql 3 (.tmp 15) (.tmp 16) a1 (ac L 1)) λa2=>Q .normal ⟨[(0,(ac L 0)),(1,(ac L 1)),(5,(ac L 5)),(17,a2)],m⟩):Rg F 27 [0,1,5,17] c27r4 L m Q:=ae (by kernel_rfl) h
theorem t27r5 (h:Q .normal ⟨[(4,(.bool true))],m⟩):Rg F 27 [4] c27r5 L m Q:=ae (by kernel_rfl) h
theorem t27r3 (h:Obt (aw Try.prog .add 3 (.tmp 10) (.const (.int .i64 1)) (ac L 5) (.int .i64 1)) λa0=>Q .normal ⟨[(0,(ac L 0)),(1,(ac L 1)),(5,a0)],m⟩):Rg F 27 [0,1,5] c27r3 L m Q:=ae (by kernel_rfl) h
theorem t27r6 (h:Q .normal ⟨[(4,(.bool false))],m⟩):Rg F 27 [4] c27r6 L m Q:=ae (by kernel_rfl) h
def c39r0:=rg 39 Try.f39 0
def c39r1:=rg 39 Try.f39 1
def c39r2:=rg 39 Try.f39 2
def c39r3:=rg 39 Try.f39 3
def c39r4:=rg 39 Try.f39 4
def c39r5:=rg 39 Try.f39 5
def c39r6:=rg 39 Try.f39 6
def c39r7:=rg 39 Try.f39 7
def c39r8:=rg 39 Try.f39 8
def c39r9:=rg 39 Try.f39 9
def Pf:=rg 39 Try.f39 10
def Pg:=rg 39 Try.f39 11
def Ph:=rg 39 Try.f39 12
def Pi:=rg 39 Try.f39 13
def Pj:=rg 39 Try.f39 14
def Pk:=rg 39 Try.f39 15
def Pm:=rg 39 Try.f39 16
def Pn:=rg 39 Try.f39 17
def Po:=rg 39 Try.f39 18
def Pp:=rg 39 Try.f39 19
def Pq:=rg 39 Try.f39 20
def Pr:=rg 39 Try.f39 21
def c39:SC:=
 (.seq (.reg false (some [1]) c39r0) (.seq (.reg false (some [1,3,4,5]) c39r1) (.seq (.reg false (some [1,3,4,5,8]) c39r2) (.seq (.block 0 (.seq (.reg false (some [1,3,4,8,23]) c39r3) (.cond (.tmp 23) (.seq (.reg false (some [2]) c39r4) .ret) (.seq (.reg false (some [1,29]) c39r5) (.cond (.tmp 29) (.seq (.reg false (some [2]) c39r6) .ret) (.seq (.reg false (some [1,41]) c39r7) (.cond (.tmp 41) (.seq (.reg false (some [2]) c39r8) .ret) (.seq (.reg false (some [1,47]) c39r9) (.cond (.tmp 47) (.seq (.reg false (some [2]) Pf) .ret) (.seq (.reg false (some [1,58]) Pg) (.cond (.tmp 58) (.seq (.reg false (some [2]) Ph) .ret) (.seq (.reg false (some [1,64]) Pi) (.cond (.tmp 64) (.seq (.reg false (some [2]) Pj) .ret) (.seq (.reg false (some [1,70]) Pk) (.cond (.tmp 70) (.seq (.reg false (some [2]) Pm) .ret) (.seq (.reg false (some [1,75]) Pn) (.cond (.tmp 75) (.seq (.reg false (some [2]) Po) .ret) (.seq (.reg false (some [1,82]) Pp) (.cond (.tmp 82) (.seq (.reg false (some [2]) Pq) .ret) .nop))))))))))))))))))) (.seq (.reg false (some [2]) Pr) .ret)))))
theorem s39:Try.f39.body.bind (bh Try.prog An 39 Try.f39.ntmps)=some c39:=by kernel_rfl
theorem g39:An.glob 39=[]:=rfl
theorem r39:Try.f39.results.toList=[(.tmp 2)]:=by kernel_rfl
theorem B1 (h:Obt (ap (ac L 0)) λa0=>Q .normal ⟨[(1,(bo m 16))],(bw m 16 a0)⟩):Rg F 39 [1] c39r0 L m Q:=ae (by kernel_rfl) h
theorem B2 (h:Obt (aA 0 (ac L 1)) λa0=>Obt (ld1 m a0) λa1=>Obt (cd An F 39 (some 12) 53 [a1] m) λa2=>Obt (cV 0 a2.1) λa3=>Obt (cV 1 a2.1) λa4=>Obt (cV 2 a2.1) λa5=>Q .normal ⟨[(1,(ac L 1)),(3,a3),(4,a4),(5,a5)],a2.2⟩):Rg F 39 [1,3,4,5] c39r1 L m Q:=ae (by kernel_rfl) h
theorem B3 (h:Obt (aA 0 (ac L 1)) λa0=>Obt (ld1 m a0) λa1=>Obt (cd An F 39 (some 19) 33 [a1] m) λa2=>Obt (cV 0 a2.1) λa3=>Obt (cV 1 a2.1) λa4=>Obt (cV 2 a2.1) λa5=>Q .normal ⟨[(1,(ac L 1)),(3,(ac L 3)),(4,(ac L 4)),(5,(ac L 5)),(8,a5)],a2.2⟩):Rg F 39 [1,3,4,5,8] c39r2 L m Q:=ae (by kernel_rfl) h
theorem Cd (h:Q .normal ⟨[(1,(ac L 1)),(3,(ac L 3)),(4,(ac L 4)),(8,(ac L 8)),(23,(ac L 5))],m⟩):Rg F 39 [1,3,4,8,23] c39r3 L m Q:=ae (by kernel_rfl) h
theorem t39r4 (h:Obt (ldA 6 m (ac L 1)) λa0=>Obt (cd An F 39 (some 28) 54 [a0,(ac L 3),(ac L 4)] m) λa1=>Q .normal ⟨[(2,a1.1)],a1.2⟩):Rg F 39 [2] c39r4 L m Q:=ae (by kernel_rfl) h
theorem Kt (h:Q .normal ⟨[(1,(ac L 1)),(29,(ac L 8))],m⟩):Rg F 39 [1,29] c39r5 L m Q:=ae (by kernel_rfl) h
theorem t39r6 (h:Obt (ldA 6 m (ac L 1)) λa0=>Obt (aA 0 (ac L 1)) λa1=>Obt (ld1 m a1) λa2=>Obt (aw Try.prog .and 3 (.tmp 33) (.const (.int .i64 8)) a2 (.int .i64 8)) λa3=>Obt (aw Try.prog .neq 3 (.tmp 34) (.const (.int .i64 0)) a3 (.int .i64 0)) λa4=>Obt (aA 0 (ac L 1)) λa5=>Obt (ld1 m a5) λa6=>Obt (aw Try.prog .and 3 (.tmp 37) (.const (.int .i64 8)) a6 (.int .i64 8)) λa7=>Obt (aw Try.prog .eql 3 (.tmp 38) (.const (.int .i64 0)) a7 (.int .i64 0)) λa8=>Obt (cd An F 39 (some 40) 55 [a0,(.int .i64 10),a4,(.bool true),a8] m) λa9=>Q .normal ⟨[(2,a9.1)],a9.2⟩):Rg F 39 [2] c39r6 L m Q:=ae (by kernel_rfl) h
theorem K4 (h:Obt (aA 0 (ac L 1)) λa0=>Obt (ld1 m a0) λa1=>Obt (aw Try.prog .eql 3 (.tmp 43) (.const (.int .i64 5)) a1 (.int .i64 5)) λa2=>Q .normal ⟨[(1,(ac L 1)),(41,a2)],m⟩):Rg F 39 [1,41] c39r7 L m Q:=ae (by kernel_rfl) h
theorem t39r8 (h:Obt (ldA 6 m (ac L 1)) λa0=>Obt (cd An F 39 (some 46) 55 [a0,(.int .i64 0),(.bool false),(.bool true),(.bool false)] m) λa1=>Q .normal ⟨[(2,a1.1)],a1.2⟩):Rg F 39 [2] c39r8 L m Q:=ae (by kernel_rfl) h
theorem Lu (h:Obt (aA 0 (ac L 1)) λa0=>Obt (ld1 m a0) λa1=>Obt (aw Try.prog .eql 3 (.tmp 49) (.const (.int .i64 133)) a1 (.int .i64 133)) λa2=>Q .normal ⟨[(1,(ac L 1)),(47,a2)],m⟩):Rg F 39 [1,47] c39r9 L m Q:=ae (by kernel_rfl) h
theorem QM (h:Obt (ldA 6 m (ac L 1)) λa0=>Obt (cd An F 39 (some 52) 55 [a0,(.int .i64 0),(.bool false),(.bool false),(.bool true)] m) λa1=>Obt (gdO a1.1 true ((aA 4 (ac L 1)).map λv=>(v,a1.2)) (.tuple [],a1.2)) λa2=>Obt (gdO a1.1 true ((ld1 a2.2 a2.1).map λv=>(v,a2.2)) (.tuple [],a2.2)) λa3=>Obt (gdO a1.1 true (cd An F 39 (some 56) 56 [a3.1,(.int .i64 1),(.int .i64 5)] a3.2) (.tuple [],a3.2)) λa4=>Obt (cT a1.1 a4.1 (.bool false)) λa5=>Q .normal ⟨[(2,a5)],a4.2⟩):Rg F 39 [2] Pf L m Q:=ae (by kernel_rfl) h
theorem Lj (h:Obt (aA 0 (ac L 1)) λa0=>Obt (ld1 m a0) λa1=>Obt (aw Try.prog .eql 3 (.tmp 60) (.const (.int .i64 149)) a1 (.int .i64 149)) λa2=>Q .normal ⟨[(1,(ac L 1)),(58,a2)],m⟩):Rg F 39 [1,58] Pg L m Q:=ae (by kernel_rfl) h
theorem t39r12 (h:Obt (ldA 6 m (ac L 1)) λa0=>Obt (cd An F 39 (some 63) 55 [a0,(.int .i64 0),(.bool false),(.bool false),(.bool false)] m) λa1=>Q .normal ⟨[(2,a1.1)],a1.2⟩):Rg F 39 [2] Ph L m Q:=ae (by kernel_rfl) h
theorem LZ (h:Obt (aA 0 (ac L 1)) λa0=>Obt (ld1 m a0) λa1=>Obt (aw Try.prog .eql 3 (.tmp 66) (.const (.int .i64 24)) a1 (.int .i64 24)) λa2=>Q .normal ⟨[(1,(ac L 1)),(64,a2)],m⟩):Rg F 39 [1,64] Pi L m Q:=ae (by kernel_rfl) h
theorem t39r14 (h:Obt (ldA 6 m (ac L 1)) λa0=>Obt (cd An F 39 (some 69) 57 [a0] m) λa1=>Q .normal ⟨[(2,a1.1)],a1.2⟩):Rg F 39 [2] Pj L m Q:=ae (by kernel_rfl) h
theorem MB (h:Obt (aA 0 (ac L 1)) λa0=>Obt (ld1 m a0) λa1=>Obt (cd An F 39 (some 73) 58 [a1] m) λa2=>Obt (aw Try.prog .eql 3 (.tmp 73) (.const (.int .i64 0)) a2.1 (.int .i64 0)) λa3=>Q .normal ⟨[(1,(ac L 1)),(70,a3)],a2.2⟩):Rg F 39 [1,70] Pk L m Q:=ae (by kernel_rfl) h
theorem t39r16 (h:Q .normal ⟨[(2,(.bool false))],m⟩):Rg F 39 [2] Pm L m Q:=ae (by kernel_rfl) h
theorem NB (h:Obt (aA 0 (ac L 1)) λa0=>Obt (ld1 m a0) λa1=>Obt (aw Try.prog .and 3 (.tmp 77) (.const (.int .i64 7)) a1 (.int .i64 7)) λa2=>Obt (aw Try.prog .eql 3 (.tmp 78) (.const (.int .i64 1)) a2 (.int .i64 1)) λa3=>Q .normal ⟨[(1,(ac L 1)),(75,a3)],m⟩):Rg F 39 [1,75] Pn L m Q:=ae (by kernel_rfl) h
theorem t39r18 (h:Obt (ldA 6 m (ac L 1)) λa0=>Obt (cd An F 39 (some 81) 55 [a0,(.int .i64 9),(.bool true),(.bool true),(.bool false)] m) λa1=>Q .normal ⟨[(2,a1.1)],a1.2⟩):Rg F 39 [2] Po L m Q:=ae (by kernel_rfl) h
theorem QN (h:Obt (aA 0 (ac L 1)) λa0=>Obt (ld1 m a0) λa1=>Obt (aw Try.prog .and 3 (.tmp 84) (.const (.int .i64 7)) a1 (.int .i64 7)) λa2=>Obt (aw Try.prog .eql 3 (.tmp 85) (.const (.int .i64 2)) a2 (.int .i64 2)) λa3=>Q .normal ⟨[(1,(ac L 1)),(82,a3)],m⟩):Rg F 39 [1,82] Pp L m Q:=ae (by kernel_rfl) h
theorem t39r20 (h:Obt (ldA 6 m (ac L 1)) λa0=>Obt (cd An F 39 (some 88) 55 [a0,(.int .i64 10),(.bool false),(.bool true),(.bool true)] m) λa1=>Q .normal ⟨[(2,a1.1)],a1.2⟩):Rg F 39 [2] Pq L m Q:=ae (by kernel_rfl) h
theorem t39r21 (h:Obt (ldA 6 m (ac L 1)) λa0=>Obt (cd An F 39 (some 90) 55 [a0,(.int .i64 10),(.bool true),(.bool true),(.bool false)] m) λa1=>Q .normal ⟨[(2,a1.1)],a1.2⟩):Rg F 39 [2] Pr L m Q:=ae (by kernel_rfl) h
def c53r0:=rg 53 Try.f53 0
def c53r1:=rg 53 Try.f53 1
def c53r2:=rg 53 Try.f53 2
def c53r3:=rg 53 Try.f53 3
def c53r4:=rg 53 Try.f53 4
def c53r5:=rg 53 Try.f53 5
def c53:SC:=
 (.seq (.reg false (some [0]) c53r0) (.seq (.reg false (some [0,5]) c53r1) (.seq (.reg false (some [0,5,6]) c53r2) (.seq (.seq (.reg false (some [5,6,37]) c53r3) (.cond (.tmp 37) (.seq (.reg false (some [2,3,4]) c53r4) .ret) .nop)) (.seq (.reg false (some [2,3,4]) c53r5) .ret)))))
theorem s53:Try.f53.body.bind (bh Try.prog An 53 Try.f53.ntmps)=some c53:=by kernel_rfl
theorem g53:An.glob 53=[]:=rfl
theorem r53:Try.f53.results.toList=[(.tmp 2),(.tmp 3),(.tmp 4)]:=by kernel_rfl
theorem Is (h:Q .normal ⟨[(0,(ac L 0))],m⟩):Rg F 53 [0] c53r0 L m Q:=ae (by kernel_rfl) h
theorem It (h:Obt (aw Try.prog .and 3 (.tmp 7) (.const (.int .i64 7)) (ac L 0) (.int .i64 7)) λa0=>Q .normal ⟨[(0,(ac L 0)),(5,a0)],m⟩):Rg F 53 [0,5] c53r1 L m Q:=ae (by kernel_rfl) h
theorem Kv (h:Obt (aw Try.prog .andNot 3 (.tmp 9) (.const (.int .i64 15)) (ac L 0) (.int .i64 15)) λa0=>Q .normal ⟨[(0,(ac L 0)),(5,(ac L 5)),(6,a0)],m⟩):Rg F 53 [0,5,6] c53r2 L m Q:=ae (by kernel_rfl) h
theorem Kw (h:Obt (aw Try.prog .lss 3 (.tmp 11) (.const (.int .i64 0)) (ac L 0) (.int .i64 0)) λa0=>Obt (gdO a0 false (some ((ac L 0),m)) (.tuple [],m)) λa1=>Obt (gdO a0 false ((aw Try.prog .gtr 3 (.tmp 14) (.const (.int .i64 255)) a1.1 (.int .i64 255)).map λv=>(v,a1.2)) (.tuple [],a1.2)) λa2=>Obt (cT a0 (.bool true) a2.1) λa3=>Obt (gdO a3 false (some ((ac L 5),a2.2)) (.tuple [],a2.2)) λa4=>Obt (gdO a3 false ((aw Try.prog .neq 3 (.tmp 18) (.const (.int .i64 4)) a4.1 (.int .i64 4)).map λv=>(v,a4.2)) (.tuple [],a4.2)) λa5=>Obt (gdO a3 false (some (a5.1,a5.2)) (.tuple [],a5.2)) λa6=>Obt (gdO a6.1 true (some ((ac L 5),a6.2)) (.tuple [],a6.2)) λa7=>Obt (gdO a6.1 true ((aw Try.prog .neq 3 (.tmp 21) (.const (.int .i64 7)) a7.1 (.int .i64 7)).map λv=>(v,a7.2)) (.tuple [],a7.2)) λa8=>Obt (gdO a3 false ((cT a6.1 a8.1 (.bool false)).map λv=>(v,a8.2)) (.tuple [],a8.2)) λa9=>Obt (cT a3 (.bool true) a9.1) λa10=>Obt (gdO a10 false (some ((ac L 6),a9.2)) (.tuple [],a9.2)) λa11=>Obt (gdO a10 false ((aw Try.prog .gtr 3 (.tmp 26) (.const (.int .i64 192)) a11.1 (.int .i64 192)).map λv=>(v,a11.2)) (.tuple [],a11.2)) λa12=>Obt (cT a10 (.bool true) a12.1) λa13=>Obt (gdO a13 false (some ((ac L 6),a12.2)) (.tuple [],a12.2)) λa14=>Obt (gdO a13 false ((aw Try.prog .eql 3 (.tmp 30) (.const (.int .i64 128)) a14.1 (.int .i64 128)).map λv=>(v,a14.2)) (.tuple [],a14.2)) λa15=>Obt (gdO a13 false (some (a15.1,a15.2)) (.tuple [],a15.2)) λa16=>Obt (gdO a16.1 true (some ((ac L 0),a16.2)) (.tuple [],a16.2)) λa17=>Obt (gdO a16.1 true ((aw Try.prog .and 3 (.tmp 33) (.const (.int .i64 8)) a17.1 (.int .i64 8)).map λv=>(v,a17.2)) (.tuple [],a17.2)) λa18=>Obt (gdO a16.1 true ((aw Try.prog .neq 3 (.tmp 34) (.const (.int .i64 0)) a18.1 (.int .i64 0)).map λv=>(v,a18.2)) (.tuple [],a18.2)) λa19=>Obt (gdO a13 false ((cT a16.1 a19.1 (.bool false)).map λv=>(v,a19.2)) (.tuple [],a19.2)) λa20=>Obt (cT a13 (.bool true) a20.1) λa21=>Q .normal ⟨[(5,(ac L 5)),(6,(ac L 6)),(37,a21)],a20.2⟩):Rg F 53 [5,6,37] c53r3 L m Q:=ae (by kernel_rfl) h
theorem L4 (h:Q .normal ⟨[(2,(.int .i64 0)),(3,(.bool false)),(4,(.bool false))],m⟩):Rg F 53 [2,3,4] c53r4 L m Q:=ae (by kernel_rfl) h
theorem NV (h:Obt (aw Try.prog .eql 3 (.tmp 39) (.const (.int .i64 7)) (ac L 5) (.int .i64 7)) λa0=>Q .normal ⟨[(2,(ac L 6)),(3,a0),(4,(.bool true))],m⟩):Rg F 53 [2,3,4] c53r5 L m Q:=ae (by kernel_rfl) h
def c54r0:=rg 54 Try.f54 0
def c54r1:=rg 54 Try.f54 1
def c54r2:=rg 54 Try.f54 2
def c54r3:=rg 54 Try.f54 3
def c54r4:=rg 54 Try.f54 4
def c54r5:=rg 54 Try.f54 5
def c54r6:=rg 54 Try.f54 6
def c54r7:=rg 54 Try.f54 7
def c54:SC:=
 (.seq (.reg false (some [1,2,3]) c54r0) (.seq (.reg false (some [1,2,3,7]) c54r1) (.seq (.seq (.reg false (some [1,2,3,7,22]) c54r2) (.cond (.tmp 22) (.seq (.reg false (some [6]) c54r3) .ret) .nop)) (.seq (.reg false (some [1,2,3,7,8]) c54r4) (.seq (.seq (.reg false (some [1,3,7,8,23]) c54r5) (.cond (.tmp 23) (.reg false (some [1,3,7,8]) c54r6) .nop)) (.seq (.reg false (some [6]) c54r7) .ret))))))
theorem s54:Try.f54.body.bind (bh Try.prog An 54 Try.f54.ntmps)=some c54:=by kernel_rfl
theorem g54:An.glob 54=[]:=rfl
theorem r54:Try.f54.results.toList=[(.tmp 6)]:=by kernel_rfl
theorem J9 (h:Obt (ap (ac L 0)) λa0=>Q .normal ⟨[(1,(ac L 1)),(2,(ac L 2)),(3,(bo m 48))],(bw m 48 a0)⟩):Rg F 54 [1,2,3] c54r0 L m Q:=ae (by kernel_rfl) h
theorem Ka (h:Obt (aA 0 (ac L 3)) λa0=>Obt (ld1 m a0) λa1=>Obt (aw Try.prog .and 3 (.tmp 10) (.const (.int .i64 8)) a1 (.int .i64 8)) λa2=>Obt (aw Try.prog .neq 3 (.tmp 11) (.const (.int .i64 0)) a2 (.int .i64 0)) λa3=>Q .normal ⟨[(1,(ac L 1)),(2,(ac L 2)),(3,(ac L 3)),(7,a3)],m⟩):Rg F 54 [1,2,3,7] c54r1 L m Q:=ae (by kernel_rfl) h
theorem uE (h:Obt (ldA 6 m (ac L 3)) λa0=>Obt (cun .not (ac L 7)) λa1=>Obt (gdO a1 true (some ((ac L 1),m)) (.tuple [],m)) λa2=>Obt (gdO a1 true ((aw Try.prog .neq 3 (.tmp 18) (.const (.int .i64 128)) a2.1 (.int .i64 128)).map λv=>(v,a2.2)) (.tuple [],a2.2)) λa3=>Obt (cT a1 a3.1 (.bool false)) λa4=>Obt (cd An F 54 (some 21) 55 [a0,(.int .i64 9),(ac L 7),(.bool false),a4] a3.2) λa5=>Obt (cun .not a5.1) λa6=>Q .normal ⟨[(1,(ac L 1)),(2,(ac L 2)),(3,(ac L 3)),(7,(ac L 7)),(22,a6)],a5.2⟩):Rg F 54 [1,2,3,7,22] c54r2 L m Q:=ae (by kernel_rfl) h
theorem QZ (h:Q .normal ⟨[(6,(.bool false))],m⟩):Rg F 54 [6] c54r3 L m Q:=ae (by kernel_rfl) h
theorem Cl (h:Q .normal ⟨[(1,(ac L 1)),(2,(ac L 2)),(3,(ac L 3)),(7,(ac L 7)),(8,(.int .i64 31))],m⟩):Rg F 54 [1,2,3,7,8] c54r4 L m Q:=ae (by kernel_rfl) h
theorem D5 (h:Q .normal ⟨[(1,(ac L 1)),(3,(ac L 3)),(7,(ac L 7)),(8,(ac L 8)),(23,(ac L 2))],m⟩):Rg F 54 [1,3,7,8,23] c54r5 L m Q:=ae (by kernel_rfl) h
theorem Mm (h:Q .normal ⟨[(1,(ac L 1)),(3,(ac L 3)),(7,(ac L 7)),(8,(.int .i64 63))],m⟩):Rg F 54 [1,3,7,8] c54r6 L m Q:=ae (by kernel_rfl) h
theorem Hc (h:Obt (gdO (ac L 7) false (some ((ac L 1),m)) (.tuple [],m)) λa0=>Obt (gdO (ac L 7) false ((aw Try.prog .neq 3 (.tmp 26) (.const (.int .i64 96)) a0.1 (.int .i64 96)).map λv=>(v,a0.2)) (.tuple [],a0.2)) λa1=>Obt (gdO (ac L 7) false (some (a1.1,a1.2)) (.tuple [],a1.2)) λa2=>Obt (gdO a2.1 true (some ((ac L 1),a2.2)) (.tuple [],a2.2)) λa3=>Obt (gdO a2.1 true ((aw Try.prog .neq 3 (.tmp 29) (.const (.int .i64 112)) a3.1 (.int .i64 112)).map λv=>(v,a3.2)) (.tuple [],a3.2)) λa4=>Obt (gdO (ac L 7) false ((cT a2.1 a4.1 (.bool false)).map λv=>(v,a4.2)) (.tuple [],a4.2)) λa5=>Obt (gdO (ac L 7) false (some (a5.1,a5.2)) (.tuple [],a5.2)) λa6=>Obt (gdO a6.1 true (some ((ac L 1),a6.2)) (.tuple [],a6.2)) λa7=>Obt (gdO a6.1 true ((aw Try.prog .neq 3 (.tmp 33) (.const (.int .i64 192)) a7.1 (.int .i64 192)).map λv=>(v,a7.2)) (.tuple [],a7.2)) λa8=>Obt (gdO (ac L 7) false ((cT a6.1 a8.1 (.bool false)).map λv=>(v,a8.2)) (.tuple [],a8.2)) λa9=>Obt (cT (ac L 7) (.bool true) a9.1) λa10=>Obt (gdO a10 false ((aA 4 (ac L 3)).map λv=>(v,a9.2)) (.tuple [],a9.2)) λa11=>Obt (gdO a10 false ((ld1 a11.2 a11.1).map λv=>(v,a11.2)) (.tuple [],a11.2)) λa12=>Obt (gdO a10 false (some ((ac L 8),a12.2)) (.tuple [],a12.2)) λa13=>Obt (gdO a10 false (cd An F 54 (some 41) 56 [a12.1,(.int .i64 0),a13.1] a13.2) (.tuple [],a13.2)) λa14=>Obt (cT a10 (.bool true) a14.1) λa15=>Q .normal ⟨[(6,a15)],a14.2⟩):Rg F 54 [6] c54r7 L m Q:=ae (by kernel_rfl) h
def c55r0:=rg 55 Try.f55 0
def c55r1:=rg 55 Try.f55 1
def c55r2:=rg 55 Try.f55 2
def c55r3:=rg 55 Try.f55 3
def c55:SC:=
 (.seq (.reg false (some [1,2,3,4,5]) c55r0) (.seq (.seq (.reg false (some [2,3,4,5,33]) c55r1) (.cond (.tmp 33) (.seq (.reg false (some [10]) c55r2) .ret) .nop)) (.seq (.reg false (some [10]) c55r3) .ret)))
theorem s55:Try.f55.body.bind (bh Try.prog An 55 Try.f55.ntmps)=some c55:=by kernel_rfl
theorem g55:An.glob 55=[]:=rfl
theorem r55:Try.f55.results.toList=[(.tmp 10)]:=by kernel_rfl
theorem pl (h:Obt (ap (ac L 0)) λa0=>Q .normal ⟨[(1,(ac L 1)),(2,(ac L 2)),(3,(ac L 3)),(4,(ac L 4)),(5,(bo m 80))],(bw m 80 a0)⟩):Rg F 55 [1,2,3,4,5] c55r0 L m Q:=ae (by kernel_rfl) h
theorem pm (h:Obt (aA 1 (ac L 5)) λa0=>Obt (ld1 m a0) λa1=>Obt (cd An F 55 (some 14) 56 [a1,(.int .i64 0),(ac L 1)] m) λa2=>Obt (cun .not a2.1) λa3=>Obt (gdO a3 false ((aA 2 (ac L 5)).map λv=>(v,a2.2)) (.tuple [],a2.2)) λa4=>Obt (gdO a3 false ((ld1 a4.2 a4.1).map λv=>(v,a4.2)) (.tuple [],a4.2)) λa5=>Obt (gdO a3 false (cd An F 55 (some 19) 56 [a5.1,(.int .i64 0),(.int .i64 10)] a5.2) (.tuple [],a5.2)) λa6=>Obt (gdO a3 false ((cun .not a6.1).map λv=>(v,a6.2)) (.tuple [],a6.2)) λa7=>Obt (cT a3 (.bool true) a7.1) λa8=>Obt (gdO a8 false ((aA 3 (ac L 5)).map λv=>(v,a7.2)) (.tuple [],a7.2)) λa9=>Obt (gdO a8 false ((ld1 a9.2 a9.1).map λv=>(v,a9.2)) (.tuple [],a9.2)) λa10=>Obt (gdO a8 false (cd An F 55 (some 25) 56 [a10.1,(.int .i64 (-32768)),(.int .i64 32767)] a10.2) (.tuple [],a10.2)) λa11=>Obt (gdO a8 false ((cun .not a11.1).map λv=>(v,a11.2)) (.tuple [],a11.2)) λa12=>Obt (cT a8 (.bool true) a12.1) λa13=>Obt (gdO a13 false ((aA 4 (ac L 5)).map λv=>(v,a12.2)) (.tuple [],a12.2)) λa14=>Obt (gdO a13 false ((ld1 a14.2 a14.1).map λv=>(v,a14.2)) (.tuple [],a14.2)) λa15=>Obt (gdO a13 false (cd An F 55 (some 31) 56 [a15.1,(.int .i64 (-2147483648)),(.int .i64 2147483647)] a15.2) (.tuple [],a15.2)) λa16=>Obt (gdO a13 false ((cun .not a16.1).map λv=>(v,a16.2)) (.tuple [],a16.2)) λa17=>Obt (cT a13 (.bool true) a17.1) λa18=>Q .normal ⟨[(2,(ac L 2)),(3,(ac L 3)),(4,(ac L 4)),(5,(ac L 5)),(33,a18)],a17.2⟩):Rg F 55 [2,3,4,5,33] c55r1 L m Q:=ae (by kernel_rfl) h
theorem NW (h:Q .normal ⟨[(10,(.bool false))],m⟩):Rg F 55 [10] c55r2 L m Q:=ae (by kernel_rfl) h
theorem uW (h:Obt (gdO (ac L 2) false ((aA 2 (ac L 5)).map λv=>(v,m)) (.tuple [],m)) λa0=>Obt (gdO (ac L 2) false ((ld1 a0.2 a0.1).map λv=>(v,a0.2)) (.tuple [],a0.2)) λa1=>Obt (gdO (ac L 2) false ((aw Try.prog .eql 3 (.tmp 37) (.const (.int .i64 0)) a1.1 (.int .i64 0)).map λv=>(v,a1.2)) (.tuple [],a1.2)) λa2=>Obt (cT (ac L 2) (.bool true) a2.1) λa3=>Obt (gdO a3 true (some ((ac L 3),a2.2)) (.tuple [],a2.2)) λa4=>Obt (gdO a3 true (some (a4.1,a4.2)) (.tuple [],a4.2)) λa5=>Obt (gdO a5.1 false ((aA 3 (ac L 5)).map λv=>(v,a5.2)) (.tuple [],a5.2)) λa6=>Obt (gdO a5.1 false ((ld1 a6.2 a6.1).map λv=>(v,a6.2)) (.tuple [],a6.2)) λa7=>Obt (gdO a5.1 false ((aw Try.prog .eql 3 (.tmp 44) (.const (.int .i64 0)) a7.1 (.int .i64 0)).map λv=>(v,a7.2)) (.tuple [],a7.2)) λa8=>Obt (gdO a3 true ((cT a5.1 (.bool true) a8.1).map λv=>(v,a8.2)) (.tuple [],a8.2)) λa9=>Obt (cT a3 a9.1 (.bool false)) λa10=>Obt (gdO a10 true (some ((ac L 4),a9.2)) (.tuple [],a9.2)) λa11=>Obt (gdO a10 true (some (a11.1,a11.2)) (.tuple [],a11.2)) λa12=>Obt (gdO a12.1 false ((aA 4 (ac L 5)).map λv=>(v,a12.2)) (.tuple [],a12.2)) λa13=>Obt (gdO a12.1 false ((ld1 a13.2 a13.1).map λv=>(v,a13.2)) (.tuple [],a13.2)) λa14=>Obt (gdO a12.1 false ((aw Try.prog .eql 3 (.tmp 52) (.const (.int .i64 0)) a14.1 (.int .i64 0)).map λv=>(v,a14.2)) (.tuple [],a14.2)) λa15=>Obt (gdO a10 true ((cT a12.1 (.bool true) a15.1).map λv=>(v,a15.2)) (.tuple [],a15.2)) λa16=>Obt (cT a10 a16.1 (.bool false)) λa17=>Obt (gdO a17 true ((aA 5 (ac L 5)).map λv=>(v,a16.2)) (.tuple [],a16.2)) λa18=>Obt (gdO a17 true ((ld1 a18.2 a18.1).map λv=>(v,a18.2)) (.tuple [],a18.2)) λa19=>Obt (gdO a17 true ((aw Try.prog .eql 45 (.tmp 58) (.const (.int .u64 0)) a19.1 (.int .u64 0)).map λv=>(v,a19.2)) (.tuple [],a19.2)) λa20=>Obt (cT a17 a20.1 (.bool false)) λa21=>Q .normal ⟨[(10,a21)],a20.2⟩):Rg F 55 [10] c55r3 L m Q:=ae (by kernel_rfl) h
def c56r0:=rg 56 Try.f56 0
def c56r1:=rg 56 Try.f56 1
def c56:SC:=
 (.seq (.reg false (some [0,1,2]) c56r0) (.seq (.reg false (some [6]) c56r1) .ret))
theorem s56:Try.f56.body.bind (bh Try.prog An 56 Try.f56.ntmps)=some c56:=by kernel_rfl
theorem g56:An.glob 56=[]:=rfl
theorem r56:Try.f56.results.toList=[(.tmp 6)]:=by kernel_rfl
theorem Q5 (h:Q .normal ⟨[(0,(ac L 0)),(1,(ac L 1)),(2,(ac L 2))],m⟩):Rg F 56 [0,1,2] c56r0 L m Q:=ae (by kernel_rfl) h
theorem Q6 (h:Obt (aw Try.prog .geq 3 (.tmp 7) (.tmp 8) (ac L 0) (ac L 1)) λa0=>Obt (gdO a0 true (some ((ac L 0),m)) (.tuple [],m)) λa1=>Obt (gdO a0 true (some ((ac L 2),a1.2)) (.tuple [],a1.2)) λa2=>Obt (gdO a0 true ((aw Try.prog .leq 3 (.tmp 11) (.tmp 12) a1.1 a2.1).map λv=>(v,a2.2)) (.tuple [],a2.2)) λa3=>Obt (cT a0 a3.1 (.bool false)) λa4=>Q .normal ⟨[(6,a4)],a3.2⟩):Rg F 56 [6] c56r1 L m Q:=ae (by kernel_rfl) h
def c57r0:=rg 57 Try.f57 0
def c57r1:=rg 57 Try.f57 1
def c57r2:=rg 57 Try.f57 2
def c57r3:=rg 57 Try.f57 3
def c57r4:=rg 57 Try.f57 4
def c57r5:=rg 57 Try.f57 5
def c57:SC:=
 (.seq (.reg false (some [1]) c57r0) (.seq (.seq (.reg false (some [1,17]) c57r1) (.cond (.tmp 17) (.seq (.reg false (some [2]) c57r2) .ret) .nop)) (.seq (.seq (.reg false (some [1,20]) c57r3) (.cond (.tmp 20) (.seq (.reg false (some [2]) c57r4) .ret) .nop)) (.seq (.reg true (some [2]) c57r5) .ret))))
theorem s57:Try.f57.body.bind (bh Try.prog An 57 Try.f57.ntmps)=some c57:=by kernel_rfl
theorem g57:An.glob 57=[]:=rfl
theorem r57:Try.f57.results.toList=[(.tmp 2)]:=by kernel_rfl
theorem L5 (h:Obt (ap (ac L 0)) λa0=>Q .normal ⟨[(1,(bo m 16))],(bw m 16 a0)⟩):Rg F 57 [1] c57r0 L m Q:=ae (by kernel_rfl) h
theorem L6 (h:Obt (aA 1 (ac L 1)) λa0=>Obt (ld1 m a0) λa1=>Obt (cd An F 57 (some 5) 56 [a1,(.int .i64 0),(.int .i64 9)] m) λa2=>Obt (cun .not a2.1) λa3=>Obt (gdO a3 false ((aA 3 (ac L 1)).map λv=>(v,a2.2)) (.tuple [],a2.2)) λa4=>Obt (gdO a3 false ((ld1 a4.2 a4.1).map λv=>(v,a4.2)) (.tuple [],a4.2)) λa5=>Obt (gdO a3 false ((aw Try.prog .neq 3 (.tmp 9) (.const (.int .i64 0)) a5.1 (.int .i64 0)).map λv=>(v,a5.2)) (.tuple [],a5.2)) λa6=>Obt (cT a3 (.bool true) a6.1) λa7=>Obt (gdO a7 false ((aA 4 (ac L 1)).map λv=>(v,a6.2)) (.tuple [],a6.2)) λa8=>Obt (gdO a7 false ((ld1 a8.2 a8.1).map λv=>(v,a8.2)) (.tuple [],a8.2)) λa9=>Obt (gdO a7 false (cd An F 57 (some 15) 56 [a9.1,(.int .i64 (-2147483648)),(.int .i64 2147483647)] a9.2) (.tuple [],a9.2)) λa10=>Obt (gdO a7 false ((cun .not a10.1).map λv=>(v,a10.2)) (.tuple [],a10.2)) λa11=>Obt (cT a7 (.bool true) a11.1) λa12=>Q .normal ⟨[(1,(ac L 1)),(17,a12)],a11.2⟩):Rg F 57 [1,17] c57r1 L m Q:=ae (by kernel_rfl) h
theorem Q7 (h:Q .normal ⟨[(2,(.bool false))],m⟩):Rg F 57 [2] c57r2 L m Q:=ae (by kernel_rfl) h
theorem NX (h:Obt (aA 2 (ac L 1)) λa0=>Obt (ld1 m a0) λa1=>Obt (aw Try.prog .eql 3 (.tmp 19) (.const (.int .i64 1)) a1 (.int .i64 1)) λa2=>Q .normal ⟨[(1,(ac L 1)),(20,a2)],m⟩):Rg F 57 [1,20] c57r3 L m Q:=ae (by kernel_rfl) h
theorem t57r4 (h:Obt (aA 4 (ac L 1)) λa0=>Obt (ld1 m a0) λa1=>Obt (cd An F 57 (some 23) 56 [a1,(.int .i64 0),(.int .i64 7)] m) λa2=>Obt (gdO a2.1 true ((aA 5 (ac L 1)).map λv=>(v,a2.2)) (.tuple [],a2.2)) λa3=>Obt (gdO a2.1 true ((ld1 a3.2 a3.1).map λv=>(v,a3.2)) (.tuple [],a3.2)) λa4=>Obt (gdO a2.1 true ((aA 4 (ac L 1)).map λv=>(v,a4.2)) (.tuple [],a4.2)) λa5=>Obt (gdO a2.1 true ((ld1 a5.2 a5.1).map λv=>(v,a5.2)) (.tuple [],a5.2)) λa6=>Obt (gdO a2.1 true ((pF .u64 a6.1).map λv=>(v,a6.2)) (.tuple [],a6.2)) λa7=>Obt (gdO a2.1 true ((aw Try.prog .eql 45 (.tmp 26) (.tmp 29) a4.1 a7.1).map λv=>(v,a7.2)) (.tuple [],a7.2)) λa8=>Obt (cT a2.1 a8.1 (.bool false)) λa9=>Q .normal ⟨[(2,a9)],a8.2⟩):Rg F 57 [2] c57r4 L m Q:=ae (by kernel_rfl) h
theorem t57r5 (h:Obt (aA 2 (ac L 1)) λa0=>Obt (ld1 m a0) λa1=>Obt (aw Try.prog .eql 3 (.tmp 33) (.const (.int .i64 0)) a1 (.int .i64 0)) λa2=>Obt (gdO a2 true ((aA 4 (ac L 1)).map λv=>(v,m)) (.tuple [],m)) λa3=>Obt (gdO a2 true ((ld1 a3.2 a3.1).map λv=>(v,a3.2)) (.tuple [],a3.2)) λa4=>Obt (gdO a2 true (chk true (cd An F 57 (some 38) 65 [a4.1,(.bool false)] a4.2)) (.tuple [],a4.2)) λa5=>Obt (gdO a2 true ((aA 5 (ac L 1)).map λv=>(v,a5.2)) (.tuple [],a5.2)) λa6=>Obt (gdO a2 true ((ld1 a6.2 a6.1).map λv=>(v,a6.2)) (.tuple [],a6.2)) λa7=>Obt (gdO a2 true ((aw Try.prog .rem 45 (.tmp 40) (.const (.int .u64 4294967296)) a7.1 (.int .u64 4294967296)).map λv=>(v,a7.2)) (.tuple [],a7.2)) λa8=>Obt (gdO a2 true ((aw Try.prog .eql 45 (.tmp 38) (.tmp 41) a5.1 a8.1).map λv=>(v,a8.2)) (.tuple [],a8.2)) λa9=>Obt (cT a2 a9.1 (.bool false)) λa10=>Q .normal ⟨[(2,a10)],a9.2⟩):Rt F 57 [2] c57r5 L m Q:=ae (by kernel_rfl) h
def c58r0:=rg 58 Try.f58 0
def c58r1:=rg 58 Try.f58 1
def c58r2:=rg 58 Try.f58 2
def c58r3:=rg 58 Try.f58 3
def c58r4:=rg 58 Try.f58 4
def c58r5:=rg 58 Try.f58 5
def c58r6:=rg 58 Try.f58 6
def c58r7:=rg 58 Try.f58 7
def c58r8:=rg 58 Try.f58 8
def c58r9:=rg 58 Try.f58 9
def PG:=rg 58 Try.f58 10
def PH:=rg 58 Try.f58 11
def PI:=rg 58 Try.f58 12
def c58r13:=rg 58 Try.f58 13
def PJ:=rg 58 Try.f58 14
def PK:=rg 58 Try.f58 15
def PL:=rg 58 Try.f58 16
def c58r17:=rg 58 Try.f58 17
def PN:=rg 58 Try.f58 18
def c58:SC:=
 (.seq (.reg false (some [0]) c58r0) (.seq (.seq (.reg false (some [3]) c58r1) (.block 0 (.seq (.seq (.reg false (some [3,4]) c58r2) (.cond (.tmp 4) .nop (.seq (.reg false (some [3,4]) c58r3) (.cond (.tmp 4) .nop (.reg false (some [3,4]) c58r4))))) (.cond (.tmp 4) (.seq (.reg false (some [2]) c58r5) .ret) (.seq (.seq (.reg false (some [3,8]) c58r6) (.cond (.tmp 8) .nop (.seq (.reg false (some [3,8]) c58r7) (.cond (.tmp 8) .nop (.reg false (some [3,8]) c58r8))))) (.cond (.tmp 8) (.seq (.reg false (some [2]) c58r9) .ret) (.seq (.seq (.reg false (some [3,12]) PG) (.cond (.tmp 12) .nop (.seq (.reg false (some [3,12]) PH) (.cond (.tmp 12) .nop (.reg false (some [3,12]) PI))))) (.cond (.tmp 12) (.seq (.reg false (some [2]) c58r13) .ret) (.seq (.seq (.reg false (some [3,16]) PJ) (.cond (.tmp 16) .nop (.seq (.reg false (some [3,16]) PK) (.cond (.tmp 16) .nop (.reg false (some [16]) PL))))) (.cond (.tmp 16) (.seq (.reg false (some [2]) c58r17) .ret) .nop)))))))))) (.seq (.reg false (some [2]) PN) .ret)))
theorem s58:Try.f58.body.bind (bh Try.prog An 58 Try.f58.ntmps)=some c58:=by kernel_rfl
theorem g58:An.glob 58=[]:=rfl
theorem r58:Try.f58.results.toList=[(.tmp 2)]:=by kernel_rfl
theorem t58r0 (h:Q .normal ⟨[(0,(ac L 0))],m⟩):Rg F 58 [0] c58r0 L m Q:=ae (by kernel_rfl) h
theorem t58r1 (h:Q .normal ⟨[(3,(ac L 0))],m⟩):Rg F 58 [3] c58r1 L m Q:=ae (by kernel_rfl) h
theorem t58r2 (h:Obt (aw Try.prog .eql 3 (.tmp 3) (.const (.int .i64 97)) (ac L 3) (.int .i64 97)) λa0=>Q .normal ⟨[(3,(ac L 3)),(4,a0)],m⟩):Rg F 58 [3,4] c58r2 L m Q:=ae (by kernel_rfl) h
theorem t58r3 (h:Obt (aw Try.prog .eql 3 (.tmp 3) (.const (.int .i64 98)) (ac L 3) (.int .i64 98)) λa0=>Q .normal ⟨[(3,(ac L 3)),(4,a0)],m⟩):Rg F 58 [3,4] c58r3 L m Q:=ae (by kernel_rfl) h
theorem t58r4 (h:Obt (aw Try.prog .eql 3 (.tmp 3) (.const (.int .i64 99)) (ac L 3) (.int .i64 99)) λa0=>Q .normal ⟨[(3,(ac L 3)),(4,a0)],m⟩):Rg F 58 [3,4] c58r4 L m Q:=ae (by kernel_rfl) h
theorem t58r6 (h:Obt (aw Try.prog .eql 3 (.tmp 3) (.const (.int .i64 105)) (ac L 3) (.int .i64 105)) λa0=>Q .normal ⟨[(3,(ac L 3)),(8,a0)],m⟩):Rg F 58 [3,8] c58r6 L m Q:=ae (by kernel_rfl) h
theorem t58r7 (h:Obt (aw Try.prog .eql 3 (.tmp 3) (.const (.int .i64 106)) (ac L 3) (.int .i64 106)) λa0=>Q .normal ⟨[(3,(ac L 3)),(8,a0)],m⟩):Rg F 58 [3,8] c58r7 L m Q:=ae (by kernel_rfl) h
theorem t58r8 (h:Obt (aw Try.prog .eql 3 (.tmp 3) (.const (.int .i64 107)) (ac L 3) (.int .i64 107)) λa0=>Q .normal ⟨[(3,(ac L 3)),(8,a0)],m⟩):Rg F 58 [3,8] c58r8 L m Q:=ae (by kernel_rfl) h
theorem t58r10 (h:Obt (aw Try.prog .eql 3 (.tmp 3) (.const (.int .i64 113)) (ac L 3) (.int .i64 113)) λa0=>Q .normal ⟨[(3,(ac L 3)),(12,a0)],m⟩):Rg F 58 [3,12] PG L m Q:=ae (by kernel_rfl) h
theorem t58r11 (h:Obt (aw Try.prog .eql 3 (.tmp 3) (.const (.int .i64 114)) (ac L 3) (.int .i64 114)) λa0=>Q .normal ⟨[(3,(ac L 3)),(12,a0)],m⟩):Rg F 58 [3,12] PH L m Q:=ae (by kernel_rfl) h
theorem t58r12 (h:Obt (aw Try.prog .eql 3 (.tmp 3) (.const (.int .i64 115)) (ac L 3) (.int .i64 115)) λa0=>Q .normal ⟨[(3,(ac L 3)),(12,a0)],m⟩):Rg F 58 [3,12] PI L m Q:=ae (by kernel_rfl) h
theorem t58r14 (h:Obt (aw Try.prog .eql 3 (.tmp 3) (.const (.int .i64 121)) (ac L 3) (.int .i64 121)) λa0=>Q .normal ⟨[(3,(ac L 3)),(16,a0)],m⟩):Rg F 58 [3,16] PJ L m Q:=ae (by kernel_rfl) h
theorem t58r15 (h:Obt (aw Try.prog .eql 3 (.tmp 3) (.const (.int .i64 122)) (ac L 3) (.int .i64 122)) λa0=>Q .normal ⟨[(3,(ac L 3)),(16,a0)],m⟩):Rg F 58 [3,16] PK L m Q:=ae (by kernel_rfl) h
theorem t58r16 (h:Obt (aw Try.prog .eql 3 (.tmp 3) (.const (.int .i64 123)) (ac L 3) (.int .i64 123)) λa0=>Q .normal ⟨[(16,a0)],m⟩):Rg F 58 [16] PL L m Q:=ae (by kernel_rfl) h
theorem t58r18 (h:Q .normal ⟨[(2,(.int .i64 0))],m⟩):Rg F 58 [2] PN L m Q:=ae (by kernel_rfl) h
def c65r0:=rg 65 Try.f65 0
def c65r1:=rg 65 Try.f65 1
def c65r2:=rg 65 Try.f65 2
def c65r3:=rg 65 Try.f65 3
def c65:SC:=
 (.seq (.reg false (some [0,1]) c65r0) (.seq (.seq (.reg false (some [0,5]) c65r1) (.cond (.tmp 5) (.seq (.reg false (some [4]) c65r2) .ret) .nop)) (.seq (.reg false (some [4]) c65r3) .ret)))
theorem s65:Try.f65.body.bind (bh Try.prog An 65 Try.f65.ntmps)=some c65:=by kernel_rfl
theorem g65:An.glob 65=[]:=rfl
theorem r65:Try.f65.results.toList=[(.tmp 4)]:=by kernel_rfl
theorem t65r0 (h:Q .normal ⟨[(0,(ac L 0)),(1,(ac L 1))],m⟩):Rg F 65 [0,1] c65r0 L m Q:=ae (by kernel_rfl) h
theorem t65r1 (h:Q .normal ⟨[(0,(ac L 0)),(5,(ac L 1))],m⟩):Rg F 65 [0,5] c65r1 L m Q:=ae (by kernel_rfl) h
theorem t65r3 (h:Obt (pF .u64 (ac L 0)) λa0=>Obt (aw Try.prog .and 45 (.tmp 10) (.const (.int .u64 4294967295)) a0 (.int .u64 4294967295)) λa1=>Q .normal ⟨[(4,a1)],m⟩):Rg F 65 [4] c65r3 L m Q:=ae (by kernel_rfl) h
end
end Go.Cm
