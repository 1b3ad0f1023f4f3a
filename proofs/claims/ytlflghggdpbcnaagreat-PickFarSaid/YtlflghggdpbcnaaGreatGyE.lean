import Derived.Test.YtlflghggdpbcnaaGreatGyD
set_option linter.unusedSimpArgs false
set_option linter.unusedVariables false
namespace Go.Cm
open Go.Proofs
variable {F : Oracle} {L : List (Nat × CV)} {m : Mem} {Q : CE → TS → Prop}
noncomputable section
def c114r0 := rg 114 Tryz.f114 0
def c114r1 := rg 114 Tryz.f114 1
def c114r2 := rg 114 Tryz.f114 2
def c114r3 := rg 114 Tryz.f114 3
def c114r4 := rg 114 Tryz.f114 4
def c114r5 := rg 114 Tryz.f114 5
def c114r6 := rg 114 Tryz.f114 6
def c114r7 := rg 114 Tryz.f114 7
def c114r8 := rg 114 Tryz.f114 8
def c114r9 := rg 114 Tryz.f114 9
def c114r10 := rg 114 Tryz.f114 10
def c114r11 := rg 114 Tryz.f114 11
def c114r12 := rg 114 Tryz.f114 12
def c114r13 := rg 114 Tryz.f114 13
def c114r14 := rg 114 Tryz.f114 14
def c114r15 := rg 114 Tryz.f114 15
def c114r16 := rg 114 Tryz.f114 16
def c114 : SC :=
  (.seq (.reg false (some [0, 1, 2, 3]) c114r0) (.seq (.reg false (some [0, 1, 2, 3]) c114r1) (.seq (.seq (.reg false (some [0, 1, 2, 3, 18]) c114r2) (.block 0 (.seq (.reg false (some [0, 1, 2, 3, 18, 19]) c114r3) (.cond (.tmp 19) (.seq (.seq (.reg false (some [1, 2, 22]) c114r4) (.cond (.tmp 22) (.seq (.reg false (some [8, 9]) c114r5) .ret) .nop)) (.seq (.reg false (some [8, 9]) c114r6) .ret)) (.seq (.reg false (some [0, 1, 2, 3, 18, 26]) c114r7) (.cond (.tmp 26) (.seq (.seq (.reg false (some [1, 2, 29]) c114r8) (.cond (.tmp 29) (.seq (.reg false (some [8, 9]) c114r9) .ret) .nop)) (.seq (.reg false (some [8, 9]) c114r10) .ret)) (.seq (.seq (.reg false (some [0, 1, 2, 3, 18, 34]) c114r11) (.cond (.tmp 34) .nop (.seq (.reg false (some [0, 1, 2, 3, 18, 34]) c114r12) (.cond (.tmp 34) .nop (.reg false (some [0, 1, 2, 3, 34]) c114r13))))) (.cond (.tmp 34) (.seq (.reg false (some [8, 9]) c114r14) .ret) .nop)))))))) (.seq (.reg false (some [3, 10, 11]) c114r15) (.seq (.reg false (some [8, 9]) c114r16) .ret)))))
theorem s114 : Tryz.f114.body.bind (strip Tryz.prog An 114 Tryz.f114.ntmps) = some c114 := by kernel_rfl
theorem g114 : An.glob 114 = [] := rfl
theorem r114 : Tryz.f114.results.toList = [(.tmp 8), (.tmp 9)] := by kernel_rfl
theorem t114r0 (h : Q .normal ⟨[(0, (tget L 0)), (1, (tget L 1)), (2, (tget L 2)), (3, (tget L 3))], m⟩) : Rg F 114 [0, 1, 2, 3] c114r0 L m Q := Tx_told (by kernel_rfl) h
theorem t114r1 (h : Obt (callC An F 114 (some 14) 169 [(tget L 1), (tget L 3)] m) fun a0 => Obt (callC An F 114 (some 17) 169 [(tget L 2), (tget L 3)] a0.2) fun a1 => Q .normal ⟨[(0, (tget L 0)), (1, a0.1), (2, a1.1), (3, (tget L 3))], a1.2⟩) : Rg F 114 [0, 1, 2, 3] c114r1 L m Q := Tx_told (by kernel_rfl) h
theorem t114r2 (h : Q .normal ⟨[(0, (tget L 0)), (1, (tget L 1)), (2, (tget L 2)), (3, (tget L 3)), (18, (tget L 0))], m⟩) : Rg F 114 [0, 1, 2, 3, 18] c114r2 L m Q := Tx_told (by kernel_rfl) h
theorem t114r3 (h : Obt (cbin Tryz.prog .eql 3 (.tmp 18) (.const (.int .i64 48)) (tget L 18) (.int .i64 48)) fun a0 => Q .normal ⟨[(0, (tget L 0)), (1, (tget L 1)), (2, (tget L 2)), (3, (tget L 3)), (18, (tget L 18)), (19, a0)], m⟩) : Rg F 114 [0, 1, 2, 3, 18, 19] c114r3 L m Q := Tx_told (by kernel_rfl) h
theorem t114r7 (h : Obt (cbin Tryz.prog .eql 3 (.tmp 18) (.const (.int .i64 144)) (tget L 18) (.int .i64 144)) fun a0 => Q .normal ⟨[(0, (tget L 0)), (1, (tget L 1)), (2, (tget L 2)), (3, (tget L 3)), (18, (tget L 18)), (26, a0)], m⟩) : Rg F 114 [0, 1, 2, 3, 18, 26] c114r7 L m Q := Tx_told (by kernel_rfl) h
theorem t114r11 (h : Obt (cbin Tryz.prog .eql 3 (.tmp 18) (.const (.int .i64 96)) (tget L 18) (.int .i64 96)) fun a0 => Q .normal ⟨[(0, (tget L 0)), (1, (tget L 1)), (2, (tget L 2)), (3, (tget L 3)), (18, (tget L 18)), (34, a0)], m⟩) : Rg F 114 [0, 1, 2, 3, 18, 34] c114r11 L m Q := Tx_told (by kernel_rfl) h
theorem t114r12 (h : Obt (cbin Tryz.prog .eql 3 (.tmp 18) (.const (.int .i64 112)) (tget L 18) (.int .i64 112)) fun a0 => Q .normal ⟨[(0, (tget L 0)), (1, (tget L 1)), (2, (tget L 2)), (3, (tget L 3)), (18, (tget L 18)), (34, a0)], m⟩) : Rg F 114 [0, 1, 2, 3, 18, 34] c114r12 L m Q := Tx_told (by kernel_rfl) h
theorem t114r13 (h : Obt (cbin Tryz.prog .eql 3 (.tmp 18) (.const (.int .i64 192)) (tget L 18) (.int .i64 192)) fun a0 => Q .normal ⟨[(0, (tget L 0)), (1, (tget L 1)), (2, (tget L 2)), (3, (tget L 3)), (34, a0)], m⟩) : Rg F 114 [0, 1, 2, 3, 34] c114r13 L m Q := Tx_told (by kernel_rfl) h
theorem t114r15 (h : Obt (callC An F 114 (some 49) 171 [(tget L 0), (tget L 1), (tget L 2)] m) fun a0 => Obt (extX 0 a0.1) fun a1 => Obt (extX 1 a0.1) fun a2 => Q .normal ⟨[(3, (tget L 3)), (10, a1), (11, a2)], a0.2⟩) : Rg F 114 [3, 10, 11] c114r15 L m Q := Tx_told (by kernel_rfl) h
theorem t114r16 (h : Obt (callC An F 114 (some 54) 169 [(tget L 10), (tget L 3)] m) fun a0 => Q .normal ⟨[(8, a0.1), (9, (tget L 11))], a0.2⟩) : Rg F 114 [8, 9] c114r16 L m Q := Tx_told (by kernel_rfl) h
def c171r0 := rg 171 Tryz.f171 0
def c171r1 := rg 171 Tryz.f171 1
def c171r2 := rg 171 Tryz.f171 2
def c171r3 := rg 171 Tryz.f171 3
def c171r4 := rg 171 Tryz.f171 4
def c171r5 := rg 171 Tryz.f171 5
def c171r6 := rg 171 Tryz.f171 6
def c171r7 := rg 171 Tryz.f171 7
def c171r8 := rg 171 Tryz.f171 8
def c171r9 := rg 171 Tryz.f171 9
def c171r10 := rg 171 Tryz.f171 10
def c171r11 := rg 171 Tryz.f171 11
def c171r12 := rg 171 Tryz.f171 12
def c171r13 := rg 171 Tryz.f171 13
def c171r14 := rg 171 Tryz.f171 14
def c171r15 := rg 171 Tryz.f171 15
def c171r16 := rg 171 Tryz.f171 16
def c171r17 := rg 171 Tryz.f171 17
def c171r18 := rg 171 Tryz.f171 18
def c171 : SC :=
  (.seq (.reg false (some [0, 1, 2]) c171r0) (.seq (.seq (.reg false (some [1, 2, 8]) c171r1) (.block 0 (.seq (.reg false (some [1, 2, 8, 9]) c171r2) (.cond (.tmp 9) (.seq (.reg false (some [6, 7]) c171r3) .ret) (.seq (.reg false (some [1, 2, 8, 14]) c171r4) (.cond (.tmp 14) (.seq (.reg false (some [6, 7]) c171r5) .ret) (.seq (.reg false (some [1, 2, 8, 19]) c171r6) (.cond (.tmp 19) (.seq (.reg false (some [6, 7]) c171r7) .ret) (.seq (.reg false (some [1, 2, 8, 24]) c171r8) (.cond (.tmp 24) (.seq (.reg false (some [6, 7]) c171r9) .ret) (.seq (.reg false (some [1, 2, 8, 29]) c171r10) (.cond (.tmp 29) (.seq (.reg false (some [6, 7]) c171r11) .ret) (.seq (.reg false (some [1, 2, 8, 34]) c171r12) (.cond (.tmp 34) (.seq (.reg false (some [6, 7]) c171r13) .ret) (.seq (.reg false (some [1, 2, 8, 39]) c171r14) (.cond (.tmp 39) (.seq (.reg false (some [6, 7]) c171r15) .ret) (.seq (.reg false (some [2, 43]) c171r16) (.cond (.tmp 43) (.seq (.reg false (some [6, 7]) c171r17) .ret) .nop)))))))))))))))))) (.seq (.reg false (some [6, 7]) c171r18) .ret)))
theorem s171 : Tryz.f171.body.bind (strip Tryz.prog An 171 Tryz.f171.ntmps) = some c171 := by kernel_rfl
theorem g171 : An.glob 171 = [] := rfl
theorem r171 : Tryz.f171.results.toList = [(.tmp 6), (.tmp 7)] := by kernel_rfl
theorem t171r0 (h : Q .normal ⟨[(0, (tget L 0)), (1, (tget L 1)), (2, (tget L 2))], m⟩) : Rg F 171 [0, 1, 2] c171r0 L m Q := Tx_told (by kernel_rfl) h
theorem t171r1 (h : Q .normal ⟨[(1, (tget L 1)), (2, (tget L 2)), (8, (tget L 0))], m⟩) : Rg F 171 [1, 2, 8] c171r1 L m Q := Tx_told (by kernel_rfl) h
theorem t171r2 (h : Obt (cbin Tryz.prog .eql 3 (.tmp 8) (.const (.int .i64 0)) (tget L 8) (.int .i64 0)) fun a0 => Q .normal ⟨[(1, (tget L 1)), (2, (tget L 2)), (8, (tget L 8)), (9, a0)], m⟩) : Rg F 171 [1, 2, 8, 9] c171r2 L m Q := Tx_told (by kernel_rfl) h
theorem t171r4 (h : Obt (cbin Tryz.prog .eql 3 (.tmp 8) (.const (.int .i64 16)) (tget L 8) (.int .i64 16)) fun a0 => Q .normal ⟨[(1, (tget L 1)), (2, (tget L 2)), (8, (tget L 8)), (14, a0)], m⟩) : Rg F 171 [1, 2, 8, 14] c171r4 L m Q := Tx_told (by kernel_rfl) h
theorem t171r6 (h : Obt (cbin Tryz.prog .eql 3 (.tmp 8) (.const (.int .i64 32)) (tget L 8) (.int .i64 32)) fun a0 => Q .normal ⟨[(1, (tget L 1)), (2, (tget L 2)), (8, (tget L 8)), (19, a0)], m⟩) : Rg F 171 [1, 2, 8, 19] c171r6 L m Q := Tx_told (by kernel_rfl) h
theorem t171r8 (h : Obt (cbin Tryz.prog .eql 3 (.tmp 8) (.const (.int .i64 64)) (tget L 8) (.int .i64 64)) fun a0 => Q .normal ⟨[(1, (tget L 1)), (2, (tget L 2)), (8, (tget L 8)), (24, a0)], m⟩) : Rg F 171 [1, 2, 8, 24] c171r8 L m Q := Tx_told (by kernel_rfl) h
theorem t171r10 (h : Obt (cbin Tryz.prog .eql 3 (.tmp 8) (.const (.int .i64 80)) (tget L 8) (.int .i64 80)) fun a0 => Q .normal ⟨[(1, (tget L 1)), (2, (tget L 2)), (8, (tget L 8)), (29, a0)], m⟩) : Rg F 171 [1, 2, 8, 29] c171r10 L m Q := Tx_told (by kernel_rfl) h
theorem t171r12 (h : Obt (cbin Tryz.prog .eql 3 (.tmp 8) (.const (.int .i64 160)) (tget L 8) (.int .i64 160)) fun a0 => Q .normal ⟨[(1, (tget L 1)), (2, (tget L 2)), (8, (tget L 8)), (34, a0)], m⟩) : Rg F 171 [1, 2, 8, 34] c171r12 L m Q := Tx_told (by kernel_rfl) h
theorem t171r14 (h : Obt (cbin Tryz.prog .eql 3 (.tmp 8) (.const (.int .i64 128)) (tget L 8) (.int .i64 128)) fun a0 => Q .normal ⟨[(1, (tget L 1)), (2, (tget L 2)), (8, (tget L 8)), (39, a0)], m⟩) : Rg F 171 [1, 2, 8, 39] c171r14 L m Q := Tx_told (by kernel_rfl) h
theorem t171r16 (h : Obt (cbin Tryz.prog .eql 3 (.tmp 8) (.const (.int .i64 176)) (tget L 8) (.int .i64 176)) fun a0 => Q .normal ⟨[(2, (tget L 2)), (43, a0)], m⟩) : Rg F 171 [2, 43] c171r16 L m Q := Tx_told (by kernel_rfl) h
theorem t171r18 (h : Q .normal ⟨[(6, (.int .u64 0)), (7, (.bool false))], m⟩) : Rg F 171 [6, 7] c171r18 L m Q := Tx_told (by kernel_rfl) h
def c49r0 := rg 49 Tryz.f49 0
def c49r1 := rg 49 Tryz.f49 1
def c49r2 := rg 49 Tryz.f49 2
def c49r3 := rg 49 Tryz.f49 3
def c49r4 := rg 49 Tryz.f49 4
def c49r5 := rg 49 Tryz.f49 5
def c49r6 := rg 49 Tryz.f49 6
def c49r7 := rg 49 Tryz.f49 7
def c49r9 := rg 49 Tryz.f49 9
def c49r10 := rg 49 Tryz.f49 10
def c49r11 := rg 49 Tryz.f49 11
def c49r12 := rg 49 Tryz.f49 12
def c49r13 := rg 49 Tryz.f49 13
def c49r14 := rg 49 Tryz.f49 14
def c49r15 := rg 49 Tryz.f49 15
def c49r16 := rg 49 Tryz.f49 16
def c49r17 := rg 49 Tryz.f49 17
def c49r18 := rg 49 Tryz.f49 18
def c49r19 := rg 49 Tryz.f49 19
def c49r20 := rg 49 Tryz.f49 20
def c49r21 := rg 49 Tryz.f49 21
def c49r22 := rg 49 Tryz.f49 22
def c49r23 := rg 49 Tryz.f49 23
def c49r24 := rg 49 Tryz.f49 24
def c49r25 := rg 49 Tryz.f49 25
def c49r26 := rg 49 Tryz.f49 26
def c49r27 := rg 49 Tryz.f49 27
def c49r28 := rg 49 Tryz.f49 28
def c49r29 := rg 49 Tryz.f49 29
def c49r30 := rg 49 Tryz.f49 30
def c49r31 := rg 49 Tryz.f49 31
def c49r32 := rg 49 Tryz.f49 32
def c49r33 := rg 49 Tryz.f49 33
def c49r34 := rg 49 Tryz.f49 34
def c49r35 := rg 49 Tryz.f49 35
def c49r8 := rg 49 Tryz.f49 8
def c49r36 := rg 49 Tryz.f49 36
def c49r37 := rg 49 Tryz.f49 37
def c49r38 := rg 49 Tryz.f49 38
def c49 : SC :=
  (.seq (.reg false (some [0, 1, 2, 3]) c49r0) (.seq (.reg false (some [0, 1, 2, 3, 10]) c49r1) (.seq (.seq (.reg false (some [0, 1, 2, 3, 10, 13]) c49r2) (.cond (.tmp 13) (.seq (.reg false (some [0, 1, 2, 3, 10]) c49r3) (.seq (.reg false (some [0, 1, 2, 3, 10]) c49r4) (.reg false (some [0, 1, 2, 3, 10]) c49r5))) .nop)) (.seq (.reg false (some [0, 1, 2, 3, 10, 11]) c49r6) (.seq (.seq (.reg false (some [0, 1, 2, 3, 10, 11, 18]) c49r7) (.block 0 (.seq (.reg false (some [0, 1, 2, 3, 10, 11, 18, 19]) c49r9) (.cond (.tmp 19) (.reg false (some [3, 11]) c49r10) (.seq (.reg false (some [0, 1, 2, 3, 10, 11, 18, 24]) c49r11) (.cond (.tmp 24) (.reg false (some [3, 11]) c49r12) (.seq (.reg false (some [0, 1, 2, 3, 10, 11, 18, 29]) c49r13) (.cond (.tmp 29) (.reg false (some [3, 11]) c49r14) (.seq (.reg false (some [0, 1, 2, 3, 10, 11, 18, 34]) c49r15) (.cond (.tmp 34) (.seq (.reg false (some [1, 2, 3, 11, 37]) c49r16) (.cond (.tmp 37) (.reg false (some [3, 11]) c49r17) .nop)) (.seq (.reg false (some [0, 1, 2, 3, 10, 18, 41]) c49r18) (.cond (.tmp 41) (.seq (.reg false (some [1, 2, 3, 11]) c49r19) (.seq (.reg false (some [1, 2, 3, 11, 45]) c49r20) (.cond (.tmp 45) (.reg false (some [3, 11]) c49r21) .nop))) (.seq (.reg false (some [0, 1, 2, 3, 10, 18, 49]) c49r22) (.cond (.tmp 49) (.reg false (some [3, 11]) c49r23) (.seq (.reg false (some [0, 1, 2, 3, 10, 18, 54]) c49r24) (.cond (.tmp 54) (.reg false (some [3, 11]) c49r25) (.seq (.reg false (some [0, 1, 2, 3, 10, 18, 59]) c49r26) (.cond (.tmp 59) (.reg false (some [3, 11]) c49r27) (.seq (.seq (.reg false (some [0, 1, 2, 3, 10, 18, 64]) c49r28) (.cond (.tmp 64) .nop (.seq (.reg false (some [0, 1, 2, 3, 10, 18, 64]) c49r29) (.cond (.tmp 64) .nop (.reg false (some [0, 1, 2, 3, 10, 18, 64]) c49r30))))) (.cond (.tmp 64) (.reg false (some [3, 11]) c49r31) (.seq (.reg false (some [1, 2, 3, 18, 76]) c49r32) (.cond (.tmp 76) (.reg false (some [3, 11]) c49r33) (.seq (.reg false (some [2, 3, 80]) c49r34) (.cond (.tmp 80) (.reg false (some [3, 11]) c49r35) (.seq (.reg false (some [8, 9]) c49r8) .ret))))))))))))))))))))))))) (.seq (.seq (.reg false (some [11, 84]) c49r36) (.cond (.tmp 84) (.reg false (some [11]) c49r37) .nop)) (.seq (.reg false (some [8, 9]) c49r38) .ret)))))))
theorem s49 : Tryz.f49.body.bind (strip Tryz.prog An 49 Tryz.f49.ntmps) = some c49 := by kernel_rfl
theorem g49 : An.glob 49 = [] := rfl
theorem r49 : Tryz.f49.results.toList = [(.tmp 8), (.tmp 9)] := by kernel_rfl
theorem t49r0 (h : Q .normal ⟨[(0, (tget L 0)), (1, (tget L 1)), (2, (tget L 2)), (3, (tget L 3))], m⟩) : Rg F 49 [0, 1, 2, 3] c49r0 L m Q := Tx_told (by kernel_rfl) h
theorem t49r1 (h : Q .normal ⟨[(0, (tget L 0)), (1, (tget L 1)), (2, (tget L 2)), (3, (tget L 3)), (10, (.int .u64 64))], m⟩) : Rg F 49 [0, 1, 2, 3, 10] c49r1 L m Q := Tx_told (by kernel_rfl) h
theorem t49r2 (h : Obt (cun .not (tget L 3)) fun a0 => Q .normal ⟨[(0, (tget L 0)), (1, (tget L 1)), (2, (tget L 2)), (3, (tget L 3)), (10, (tget L 10)), (13, a0)], m⟩) : Rg F 49 [0, 1, 2, 3, 10, 13] c49r2 L m Q := Tx_told (by kernel_rfl) h
theorem t49r6 (h : Q .normal ⟨[(0, (tget L 0)), (1, (tget L 1)), (2, (tget L 2)), (3, (tget L 3)), (10, (tget L 10)), (11, (.int .u64 0))], m⟩) : Rg F 49 [0, 1, 2, 3, 10, 11] c49r6 L m Q := Tx_told (by kernel_rfl) h
theorem t49r7 (h : Q .normal ⟨[(0, (tget L 0)), (1, (tget L 1)), (2, (tget L 2)), (3, (tget L 3)), (10, (tget L 10)), (11, (tget L 11)), (18, (tget L 0))], m⟩) : Rg F 49 [0, 1, 2, 3, 10, 11, 18] c49r7 L m Q := Tx_told (by kernel_rfl) h
theorem t49r9 (h : Obt (cbin Tryz.prog .eql 3 (.tmp 18) (.const (.int .i64 0)) (tget L 18) (.int .i64 0)) fun a0 => Q .normal ⟨[(0, (tget L 0)), (1, (tget L 1)), (2, (tget L 2)), (3, (tget L 3)), (10, (tget L 10)), (11, (tget L 11)), (18, (tget L 18)), (19, a0)], m⟩) : Rg F 49 [0, 1, 2, 3, 10, 11, 18, 19] c49r9 L m Q := Tx_told (by kernel_rfl) h
theorem t49r11 (h : Obt (cbin Tryz.prog .eql 3 (.tmp 18) (.const (.int .i64 16)) (tget L 18) (.int .i64 16)) fun a0 => Q .normal ⟨[(0, (tget L 0)), (1, (tget L 1)), (2, (tget L 2)), (3, (tget L 3)), (10, (tget L 10)), (11, (tget L 11)), (18, (tget L 18)), (24, a0)], m⟩) : Rg F 49 [0, 1, 2, 3, 10, 11, 18, 24] c49r11 L m Q := Tx_told (by kernel_rfl) h
theorem t49r13 (h : Obt (cbin Tryz.prog .eql 3 (.tmp 18) (.const (.int .i64 32)) (tget L 18) (.int .i64 32)) fun a0 => Q .normal ⟨[(0, (tget L 0)), (1, (tget L 1)), (2, (tget L 2)), (3, (tget L 3)), (10, (tget L 10)), (11, (tget L 11)), (18, (tget L 18)), (29, a0)], m⟩) : Rg F 49 [0, 1, 2, 3, 10, 11, 18, 29] c49r13 L m Q := Tx_told (by kernel_rfl) h
theorem t49r15 (h : Obt (cbin Tryz.prog .eql 3 (.tmp 18) (.const (.int .i64 48)) (tget L 18) (.int .i64 48)) fun a0 => Q .normal ⟨[(0, (tget L 0)), (1, (tget L 1)), (2, (tget L 2)), (3, (tget L 3)), (10, (tget L 10)), (11, (tget L 11)), (18, (tget L 18)), (34, a0)], m⟩) : Rg F 49 [0, 1, 2, 3, 10, 11, 18, 34] c49r15 L m Q := Tx_told (by kernel_rfl) h
theorem t49r18 (h : Obt (cbin Tryz.prog .eql 3 (.tmp 18) (.const (.int .i64 144)) (tget L 18) (.int .i64 144)) fun a0 => Q .normal ⟨[(0, (tget L 0)), (1, (tget L 1)), (2, (tget L 2)), (3, (tget L 3)), (10, (tget L 10)), (18, (tget L 18)), (41, a0)], m⟩) : Rg F 49 [0, 1, 2, 3, 10, 18, 41] c49r18 L m Q := Tx_told (by kernel_rfl) h
theorem t49r22 (h : Obt (cbin Tryz.prog .eql 3 (.tmp 18) (.const (.int .i64 64)) (tget L 18) (.int .i64 64)) fun a0 => Q .normal ⟨[(0, (tget L 0)), (1, (tget L 1)), (2, (tget L 2)), (3, (tget L 3)), (10, (tget L 10)), (18, (tget L 18)), (49, a0)], m⟩) : Rg F 49 [0, 1, 2, 3, 10, 18, 49] c49r22 L m Q := Tx_told (by kernel_rfl) h
theorem t49r24 (h : Obt (cbin Tryz.prog .eql 3 (.tmp 18) (.const (.int .i64 80)) (tget L 18) (.int .i64 80)) fun a0 => Q .normal ⟨[(0, (tget L 0)), (1, (tget L 1)), (2, (tget L 2)), (3, (tget L 3)), (10, (tget L 10)), (18, (tget L 18)), (54, a0)], m⟩) : Rg F 49 [0, 1, 2, 3, 10, 18, 54] c49r24 L m Q := Tx_told (by kernel_rfl) h
theorem t49r26 (h : Obt (cbin Tryz.prog .eql 3 (.tmp 18) (.const (.int .i64 160)) (tget L 18) (.int .i64 160)) fun a0 => Q .normal ⟨[(0, (tget L 0)), (1, (tget L 1)), (2, (tget L 2)), (3, (tget L 3)), (10, (tget L 10)), (18, (tget L 18)), (59, a0)], m⟩) : Rg F 49 [0, 1, 2, 3, 10, 18, 59] c49r26 L m Q := Tx_told (by kernel_rfl) h
theorem t49r28 (h : Obt (cbin Tryz.prog .eql 3 (.tmp 18) (.const (.int .i64 96)) (tget L 18) (.int .i64 96)) fun a0 => Q .normal ⟨[(0, (tget L 0)), (1, (tget L 1)), (2, (tget L 2)), (3, (tget L 3)), (10, (tget L 10)), (18, (tget L 18)), (64, a0)], m⟩) : Rg F 49 [0, 1, 2, 3, 10, 18, 64] c49r28 L m Q := Tx_told (by kernel_rfl) h
theorem t49r29 (h : Obt (cbin Tryz.prog .eql 3 (.tmp 18) (.const (.int .i64 112)) (tget L 18) (.int .i64 112)) fun a0 => Q .normal ⟨[(0, (tget L 0)), (1, (tget L 1)), (2, (tget L 2)), (3, (tget L 3)), (10, (tget L 10)), (18, (tget L 18)), (64, a0)], m⟩) : Rg F 49 [0, 1, 2, 3, 10, 18, 64] c49r29 L m Q := Tx_told (by kernel_rfl) h
theorem t49r30 (h : Obt (cbin Tryz.prog .eql 3 (.tmp 18) (.const (.int .i64 192)) (tget L 18) (.int .i64 192)) fun a0 => Q .normal ⟨[(0, (tget L 0)), (1, (tget L 1)), (2, (tget L 2)), (3, (tget L 3)), (10, (tget L 10)), (18, (tget L 18)), (64, a0)], m⟩) : Rg F 49 [0, 1, 2, 3, 10, 18, 64] c49r30 L m Q := Tx_told (by kernel_rfl) h
theorem t49r32 (h : Obt (cbin Tryz.prog .eql 3 (.tmp 18) (.const (.int .i64 128)) (tget L 18) (.int .i64 128)) fun a0 => Q .normal ⟨[(1, (tget L 1)), (2, (tget L 2)), (3, (tget L 3)), (18, (tget L 18)), (76, a0)], m⟩) : Rg F 49 [1, 2, 3, 18, 76] c49r32 L m Q := Tx_told (by kernel_rfl) h
theorem t49r34 (h : Obt (cbin Tryz.prog .eql 3 (.tmp 18) (.const (.int .i64 176)) (tget L 18) (.int .i64 176)) fun a0 => Q .normal ⟨[(2, (tget L 2)), (3, (tget L 3)), (80, a0)], m⟩) : Rg F 49 [2, 3, 80] c49r34 L m Q := Tx_told (by kernel_rfl) h
theorem t49r8 (h : Q .normal ⟨[(8, (.int .u64 0)), (9, (.bool false))], m⟩) : Rg F 49 [8, 9] c49r8 L m Q := Tx_told (by kernel_rfl) h
end
end Go.Cm
