import Derived.Test.YtijcpefcfcbcnaaIyE
set_option linter.unusedSimpArgs false
set_option linter.unusedVariables false
namespace Go.Cm
open Go.Proofs
variable {F : Oracle} {L : List (Nat × CV)} {m : Mem} {Q : CE → TS → Prop}
noncomputable section
theorem cl29 {m : Mem} {p : CV} : cload Try.prog m 29 p = ldA 2 m p := by kernel_rfl
def c20r0 := rg 20 Try.f20 0
def c20r1 := rg 20 Try.f20 1
def c20 : SC :=
  (.seq (.reg false (some [1]) c20r0) (.seq (.reg false (some [2]) c20r1) .ret))
theorem s20 : Try.f20.body.bind (strip Try.prog An 20 Try.f20.ntmps) = some c20 := by kernel_rfl
theorem g20 : An.glob 20 = [] := rfl
theorem r20 : Try.f20.results.toList = [(.tmp 2)] := by kernel_rfl
theorem t20r0 (h : Obt (ccells (tget L 0)) fun a0 => Q .normal ⟨[(1, (newP m 16))], (newL m 16 a0)⟩) : Rg F 20 [1] c20r0 L m Q := Tx_told (by kernel_rfl) h
theorem t20r1 (h : Obt (fldA 0 (tget L 1)) fun a0 => Obt (ld1 m a0) fun a1 => Obt (lenS a1) fun a2 => Obt (cbin Try.prog .leq 3 (.tmp 5) (.const (.int .i64 100)) a2 (.int .i64 100)) fun a3 => Obt (gdO a3 true ((fldA 1 (tget L 1)).map fun v => (v, m)) (.tuple [], m)) fun a4 => Obt (gdO a3 true ((ld1 a4.2 a4.1).map fun v => (v, a4.2)) (.tuple [], a4.2)) fun a5 => Obt (gdO a3 true ((cbin Try.prog .leq 3 (.tmp 9) (.const (.int .i64 1000)) a5.1 (.int .i64 1000)).map fun v => (v, a5.2)) (.tuple [], a5.2)) fun a6 => Obt (pickX a3 a6.1 (.bool false)) fun a7 => Q .normal ⟨[(2, a7)], a6.2⟩) : Rg F 20 [2] c20r1 L m Q := Tx_told (by kernel_rfl) h
def c7r0 := rg 7 Try.f7 0
def c7r1 := rg 7 Try.f7 1
def c7r2 := rg 7 Try.f7 2
def c7r3 := rg 7 Try.f7 3
def c7r4 := rg 7 Try.f7 4
def c7r5 := rg 7 Try.f7 5
def c7r6 := rg 7 Try.f7 6
def c7r7 := rg 7 Try.f7 7
def c7r8 := rg 7 Try.f7 8
def c7r9 := rg 7 Try.f7 9
def c7r10 := rg 7 Try.f7 10
def c7r12 := rg 7 Try.f7 12
def c7r13 := rg 7 Try.f7 13
def c7r14 := rg 7 Try.f7 14
def c7r15 := rg 7 Try.f7 15
def c7r17 := rg 7 Try.f7 17
def c7r16 := rg 7 Try.f7 16
def c7l0 : SC :=
  (.seq (.seq (.reg false (some [3, 5, 6, 7, 8, 56]) c7r15) (.cond (.tmp 56) .nop (.exit 2))) (.seq (.block 3 (.reg true (some [3, 5, 6, 7, 8]) c7r17)) (.reg false (some [3, 5, 6, 7, 8]) c7r16)))
def c7r18 := rg 7 Try.f7 18
def c7r19 := rg 7 Try.f7 19
def c7r21 := rg 7 Try.f7 21
def c7r20 := rg 7 Try.f7 20
def c7l1 : SC :=
  (.seq (.seq (.reg false (some [3, 5, 6, 7, 9, 77]) c7r19) (.cond (.tmp 77) .nop (.exit 4))) (.seq (.block 5 (.reg false (some [3, 5, 6, 7, 9]) c7r21)) (.reg false (some [3, 5, 6, 7, 9]) c7r20)))
def c7r11 := rg 7 Try.f7 11
def c7l2 : SC :=
  (.seq (.seq (.reg false (some [3, 5, 6, 39]) c7r10) (.cond (.tmp 39) .nop (.exit 0))) (.seq (.block 1 (.seq (.reg false (some [3, 5, 6, 7]) c7r12) (.seq (.reg false (some [3, 5, 6, 7]) c7r13) (.seq (.seq (.reg false (some [3, 5, 6, 7, 8]) c7r14) (.block 2 (.loop c7l0))) (.seq (.reg false (some [3, 5, 6, 7, 9]) c7r18) (.block 4 (.loop c7l1))))))) (.reg false (some [3, 5, 6]) c7r11)))
def c7r22 := rg 7 Try.f7 22
def c7r23 := rg 7 Try.f7 23
def c7r25 := rg 7 Try.f7 25
def c7r26 := rg 7 Try.f7 26
def c7r28 := rg 7 Try.f7 28
def c7r29 := rg 7 Try.f7 29
def c7r30 := rg 7 Try.f7 30
def c7r31 := rg 7 Try.f7 31
def c7r27 := rg 7 Try.f7 27
def c7l3 : SC :=
  (.seq (.seq (.reg false (some [3, 5, 10, 11, 103]) c7r26) (.cond (.tmp 103) .nop (.exit 8))) (.seq (.block 9 (.seq (.reg false (some [3, 5, 10, 11, 12]) c7r28) (.seq (.reg false (some [3, 5, 10, 11, 12, 13]) c7r29) (.seq (.reg false (some [3, 5, 10, 11, 163]) c7r30) (.cond (.tmp 163) (.seq (.reg false (some [2]) c7r31) .ret) .nop))))) (.reg false (some [3, 5, 10, 11]) c7r27)))
def c7r24 := rg 7 Try.f7 24
def c7l4 : SC :=
  (.seq (.seq (.reg false (some [3, 5, 10, 92]) c7r23) (.cond (.tmp 92) .nop (.exit 6))) (.seq (.block 7 (.seq (.reg false (some [3, 5, 10, 11]) c7r25) (.block 8 (.loop c7l3)))) (.reg false (some [3, 5, 10]) c7r24)))
def c7r32 := rg 7 Try.f7 32
def c7 : SC :=
  (.seq (.reg false (some [1]) c7r0) (.seq (.seq (.reg false (some [1, 16]) c7r1) (.cond (.tmp 16) (.seq (.reg false (some [2]) c7r2) .ret) .nop)) (.seq (.reg false (some [1, 3, 4]) c7r3) (.seq (.seq (.reg false (some [1, 3, 24]) c7r4) (.cond (.tmp 24) (.seq (.reg false (some [2]) c7r5) .ret) .nop)) (.seq (.reg false (some [1, 3, 5]) c7r6) (.seq (.seq (.reg false (some [3, 5, 34]) c7r7) (.cond (.tmp 34) (.seq (.reg false (some [2]) c7r8) .ret) .nop)) (.seq (.seq (.reg false (some [3, 5, 6]) c7r9) (.block 0 (.loop c7l2))) (.seq (.seq (.reg false (some [3, 5, 10]) c7r22) (.block 6 (.loop c7l4))) (.seq (.reg false (some [2]) c7r32) .ret)))))))))
theorem s7 : Try.f7.body.bind (strip Try.prog An 7 Try.f7.ntmps) = some c7 := by kernel_rfl
theorem g7 : An.glob 7 = [29] := rfl
theorem r7 : Try.f7.results.toList = [(.tmp 2)] := by kernel_rfl
theorem t7r0 (h : Obt (ccells (tget L 0)) fun a0 => Q .normal ⟨[(1, (newP m 16))], (newL m 16 a0)⟩) : Rg F 7 [1] c7r0 L m Q := Tx_told (by kernel_rfl) h
theorem t7r1 (h : Obt (ldA 2 m (tget L 1)) fun a0 => Obt (callC An F 7 (some 15) 20 [a0] m) fun a1 => Obt (cun .not a1.1) fun a2 => Q .normal ⟨[(1, (tget L 1)), (16, a2)], a1.2⟩) : Rg F 7 [1, 16] c7r1 L m Q := Tx_told (by kernel_rfl) h
theorem t7r2 (h : Obt (callC An F 7 (some 17) 21 [] m) fun a0 => Q .normal ⟨[(2, a0.1)], a0.2⟩) : Rg F 7 [2] c7r2 L m Q := Tx_told (by kernel_rfl) h
theorem t7r3 (h : Obt (ldA 2 m (tget L 1)) fun a0 => Obt (callC An F 7 (some 20) 22 [a0] m) fun a1 => Obt (extX 0 a1.1) fun a2 => Obt (extX 1 a1.1) fun a3 => Obt (stX 2 (newL a1.2 48 [.nil, .int .i64 0]) (newP a1.2 48) a2) fun a4 => Q .normal ⟨[(1, (tget L 1)), (3, (newP a1.2 48)), (4, a3)], a4⟩) : Rg F 7 [1, 3, 4] c7r3 L m Q := Tx_told (by kernel_rfl) h
theorem t7r4 (h : Obt (cbin Try.prog .neq 33 (.tmp 23) (.const (.int .i64 0)) (tget L 4) (.int .i64 0)) fun a0 => Q .normal ⟨[(1, (tget L 1)), (3, (tget L 3)), (24, a0)], m⟩) : Rg F 7 [1, 3, 24] c7r4 L m Q := Tx_told (by kernel_rfl) h
theorem t7r5 (h : Obt (callC An F 7 (some 25) 21 [] m) fun a0 => Q .normal ⟨[(2, a0.1)], a0.2⟩) : Rg F 7 [2] c7r5 L m Q := Tx_told (by kernel_rfl) h
theorem t7r6 (h : Obt (fldA 1 (tget L 3)) fun a0 => Obt (ld1 m a0) fun a1 => Obt (minmax true [a1, (.int .i64 0)]) fun a2 => Obt (mkX true 464 1 1 [.bool false] a2 a2 m) fun a3 => Q .normal ⟨[(1, (tget L 1)), (3, (tget L 3)), (5, a3.1)], a3.2⟩) : Rg F 7 [1, 3, 5] c7r6 L m Q := Tx_told (by kernel_rfl) h
theorem t7r7 (h : Obt (fldA 1 (tget L 3)) fun a0 => Obt (ld1 m a0) fun a1 => Obt (fldA 1 (tget L 1)) fun a2 => Obt (ld1 m a2) fun a3 => Obt (cbin Try.prog .neq 3 (.tmp 31) (.tmp 33) a1 a3) fun a4 => Q .normal ⟨[(3, (tget L 3)), (5, (tget L 5)), (34, a4)], m⟩) : Rg F 7 [3, 5, 34] c7r7 L m Q := Tx_told (by kernel_rfl) h
theorem t7r9 (h : Q .normal ⟨[(3, (tget L 3)), (5, (tget L 5)), (6, (.int .i64 0))], m⟩) : Rg F 7 [3, 5, 6] c7r9 L m Q := Tx_told (by kernel_rfl) h
theorem t7r10 (h : Obt (fldA 0 (tget L 3)) fun a0 => Obt (ld1 m a0) fun a1 => Obt (lenS a1) fun a2 => Obt (cbin Try.prog .lss 3 (.tmp 35) (.tmp 38) (tget L 6) a2) fun a3 => Q .normal ⟨[(3, (tget L 3)), (5, (tget L 5)), (6, (tget L 6)), (39, a3)], m⟩) : Rg F 7 [3, 5, 6, 39] c7r10 L m Q := Tx_told (by kernel_rfl) h
theorem t7r12 (h : Obt (fldA 0 (tget L 3)) fun a0 => Obt (ld1 m a0) fun a1 => Obt (idxS 10 a1 (tget L 6)) fun a2 => Obt (ldA 10 m a2) fun a3 => Obt (stX 10 (newL m 112 [.nil, .nil, .nil, .int .i64 0, .int .i64 0, .bool false, .int .i64 0, .int .i64 0, .int .i64 0, .int .i64 0]) (newP m 112) a3) fun a4 => Q .normal ⟨[(3, (tget L 3)), (5, (tget L 5)), (6, (tget L 6)), (7, (newP m 112))], a4⟩) : Rg F 7 [3, 5, 6, 7] c7r12 L m Q := Tx_told (by kernel_rfl) h
theorem t7r13 (h : Obt (fldA 3 (tget L 7)) fun a0 => Obt (ldA 7 m a0) fun a1 => Obt (callC An F 7 (some 50) 29 [a1] m) fun a2 => Obt (callC An F 7 (some 51) 28 [(tget L 5), a2.1, (.int .i64 (-1))] a2.2) fun a3 => Q .normal ⟨[(3, (tget L 3)), (5, (tget L 5)), (6, (tget L 6)), (7, (tget L 7))], a3.2⟩) : Rg F 7 [3, 5, 6, 7] c7r13 L m Q := Tx_told (by kernel_rfl) h
theorem t7r14 (h : Q .normal ⟨[(3, (tget L 3)), (5, (tget L 5)), (6, (tget L 6)), (7, (tget L 7)), (8, (.int .i64 0))], m⟩) : Rg F 7 [3, 5, 6, 7, 8] c7r14 L m Q := Tx_told (by kernel_rfl) h
theorem t7r15 (h : Obt (fldA 1 (tget L 7)) fun a0 => Obt (ld1 m a0) fun a1 => Obt (lenS a1) fun a2 => Obt (cbin Try.prog .lss 3 (.tmp 52) (.tmp 55) (tget L 8) a2) fun a3 => Q .normal ⟨[(3, (tget L 3)), (5, (tget L 5)), (6, (tget L 6)), (7, (tget L 7)), (8, (tget L 8)), (56, a3)], m⟩) : Rg F 7 [3, 5, 6, 7, 8, 56] c7r15 L m Q := Tx_told (by kernel_rfl) h
theorem t7r17 (h : Obt (fldA 1 (tget L 7)) fun a0 => Obt (ld1 m a0) fun a1 => Obt (idxS 2 a1 (tget L 8)) fun a2 => Obt (fldA 1 a2) fun a3 => Obt (ld1 m a3) fun a4 => Obt (fldA 1 (tget L 7)) fun a5 => Obt (ld1 m a5) fun a6 => Obt (idxS 2 a6 (tget L 8)) fun a7 => Obt (fldA 0 a7) fun a8 => Obt (ld1 m a8) fun a9 => Obt (callC An F 7 (some 72) 28 [(tget L 5), a4, a9] m) fun a10 => Q .normal ⟨[(3, (tget L 3)), (5, (tget L 5)), (6, (tget L 6)), (7, (tget L 7)), (8, (tget L 8))], a10.2⟩) : Rt F 7 [3, 5, 6, 7, 8] c7r17 L m Q := Tx_told (by kernel_rfl) h
theorem t7r16 (h : Obt (cbin Try.prog .add 3 (.tmp 57) (.const (.int .i64 1)) (tget L 8) (.int .i64 1)) fun a0 => Q .normal ⟨[(3, (tget L 3)), (5, (tget L 5)), (6, (tget L 6)), (7, (tget L 7)), (8, a0)], m⟩) : Rg F 7 [3, 5, 6, 7, 8] c7r16 L m Q := Tx_told (by kernel_rfl) h
theorem t7r18 (h : Q .normal ⟨[(3, (tget L 3)), (5, (tget L 5)), (6, (tget L 6)), (7, (tget L 7)), (9, (.int .i64 0))], m⟩) : Rg F 7 [3, 5, 6, 7, 9] c7r18 L m Q := Tx_told (by kernel_rfl) h
theorem t7r19 (h : Obt (fldA 2 (tget L 7)) fun a0 => Obt (ld1 m a0) fun a1 => Obt (lenS a1) fun a2 => Obt (cbin Try.prog .lss 3 (.tmp 73) (.tmp 76) (tget L 9) a2) fun a3 => Q .normal ⟨[(3, (tget L 3)), (5, (tget L 5)), (6, (tget L 6)), (7, (tget L 7)), (9, (tget L 9)), (77, a3)], m⟩) : Rg F 7 [3, 5, 6, 7, 9, 77] c7r19 L m Q := Tx_told (by kernel_rfl) h
theorem t7r21 (h : Obt (fldA 2 (tget L 7)) fun a0 => Obt (ld1 m a0) fun a1 => Obt (idxS 12 a1 (tget L 9)) fun a2 => Obt (ldA 12 m a2) fun a3 => Obt (callC An F 7 (some 86) 30 [a3] m) fun a4 => Obt (callC An F 7 (some 87) 28 [(tget L 5), a4.1, (.int .i64 (-1))] a4.2) fun a5 => Q .normal ⟨[(3, (tget L 3)), (5, (tget L 5)), (6, (tget L 6)), (7, (tget L 7)), (9, (tget L 9))], a5.2⟩) : Rg F 7 [3, 5, 6, 7, 9] c7r21 L m Q := Tx_told (by kernel_rfl) h
theorem t7r20 (h : Obt (cbin Try.prog .add 3 (.tmp 78) (.const (.int .i64 1)) (tget L 9) (.int .i64 1)) fun a0 => Q .normal ⟨[(3, (tget L 3)), (5, (tget L 5)), (6, (tget L 6)), (7, (tget L 7)), (9, a0)], m⟩) : Rg F 7 [3, 5, 6, 7, 9] c7r20 L m Q := Tx_told (by kernel_rfl) h
theorem t7r11 (h : Obt (cbin Try.prog .add 3 (.tmp 40) (.const (.int .i64 1)) (tget L 6) (.int .i64 1)) fun a0 => Q .normal ⟨[(3, (tget L 3)), (5, (tget L 5)), (6, a0)], m⟩) : Rg F 7 [3, 5, 6] c7r11 L m Q := Tx_told (by kernel_rfl) h
theorem t7r22 (h : Q .normal ⟨[(3, (tget L 3)), (5, (tget L 5)), (10, (.int .i64 0))], m⟩) : Rg F 7 [3, 5, 10] c7r22 L m Q := Tx_told (by kernel_rfl) h
theorem t7r23 (h : Obt (fldA 0 (tget L 3)) fun a0 => Obt (ld1 m a0) fun a1 => Obt (lenS a1) fun a2 => Obt (cbin Try.prog .lss 3 (.tmp 88) (.tmp 91) (tget L 10) a2) fun a3 => Q .normal ⟨[(3, (tget L 3)), (5, (tget L 5)), (10, (tget L 10)), (92, a3)], m⟩) : Rg F 7 [3, 5, 10, 92] c7r23 L m Q := Tx_told (by kernel_rfl) h
theorem t7r25 (h : Q .normal ⟨[(3, (tget L 3)), (5, (tget L 5)), (10, (tget L 10)), (11, (.int .i64 0))], m⟩) : Rg F 7 [3, 5, 10, 11] c7r25 L m Q := Tx_told (by kernel_rfl) h
theorem t7r26 (h : Obt (fldA 0 (tget L 3)) fun a0 => Obt (ld1 m a0) fun a1 => Obt (idxS 10 a1 (tget L 10)) fun a2 => Obt (fldA 2 a2) fun a3 => Obt (ld1 m a3) fun a4 => Obt (lenS a4) fun a5 => Obt (cbin Try.prog .lss 3 (.tmp 95) (.tmp 102) (tget L 11) a5) fun a6 => Q .normal ⟨[(3, (tget L 3)), (5, (tget L 5)), (10, (tget L 10)), (11, (tget L 11)), (103, a6)], m⟩) : Rg F 7 [3, 5, 10, 11, 103] c7r26 L m Q := Tx_told (by kernel_rfl) h
theorem t7r28 (h : Obt (fldA 0 (tget L 3)) fun a0 => Obt (ld1 m a0) fun a1 => Obt (idxS 10 a1 (tget L 10)) fun a2 => Obt (fldA 2 a2) fun a3 => Obt (ld1 m a3) fun a4 => Obt (idxS 12 a4 (tget L 11)) fun a5 => Obt (ldA 12 m a5) fun a6 => Obt (stX 12 (newL m 192 [.int .i64 0, .int .i64 0, .int .i64 0, .bool false, .int .i64 0, .int .i64 0, .int .u64 0, .int .i64 0, .int .i64 0, .bool false, .nil, .int .i64 0]) (newP m 192) a6) fun a7 => Q .normal ⟨[(3, (tget L 3)), (5, (tget L 5)), (10, (tget L 10)), (11, (tget L 11)), (12, (newP m 192))], a7⟩) : Rg F 7 [3, 5, 10, 11, 12] c7r28 L m Q := Tx_told (by kernel_rfl) h
theorem t7r29 (h : Obt (fldA 0 (tget L 12)) fun a0 => Obt (ld1 m a0) fun a1 => Obt (cbin Try.prog .eql 64 (.tmp 116) (.const (.int .i64 1)) a1 (.int .i64 1)) fun a2 => Obt (gdO a2 false ((fldA 0 (tget L 12)).map fun v => (v, m)) (.tuple [], m)) fun a3 => Obt (gdO a2 false ((ld1 a3.2 a3.1).map fun v => (v, a3.2)) (.tuple [], a3.2)) fun a4 => Obt (gdO a2 false ((cbin Try.prog .eql 64 (.tmp 120) (.const (.int .i64 2)) a4.1 (.int .i64 2)).map fun v => (v, a4.2)) (.tuple [], a4.2)) fun a5 => Obt (pickX a2 (.bool true) a5.1) fun a6 => Obt (gdO a6 false ((fldA 0 (tget L 12)).map fun v => (v, a5.2)) (.tuple [], a5.2)) fun a7 => Obt (gdO a6 false ((ld1 a7.2 a7.1).map fun v => (v, a7.2)) (.tuple [], a7.2)) fun a8 => Obt (gdO a6 false ((cbin Try.prog .eql 64 (.tmp 125) (.const (.int .i64 3)) a8.1 (.int .i64 3)).map fun v => (v, a8.2)) (.tuple [], a8.2)) fun a9 => Obt (pickX a6 (.bool true) a9.1) fun a10 => Obt (gdO a10 false ((fldA 0 (tget L 12)).map fun v => (v, a9.2)) (.tuple [], a9.2)) fun a11 => Obt (gdO a10 false ((ld1 a11.2 a11.1).map fun v => (v, a11.2)) (.tuple [], a11.2)) fun a12 => Obt (gdO a10 false ((cbin Try.prog .eql 64 (.tmp 130) (.const (.int .i64 4)) a12.1 (.int .i64 4)).map fun v => (v, a12.2)) (.tuple [], a12.2)) fun a13 => Obt (pickX a10 (.bool true) a13.1) fun a14 => Obt (gdO a14 false ((fldA 0 (tget L 12)).map fun v => (v, a13.2)) (.tuple [], a13.2)) fun a15 => Obt (gdO a14 false ((ld1 a15.2 a15.1).map fun v => (v, a15.2)) (.tuple [], a15.2)) fun a16 => Obt (gdO a14 false ((cbin Try.prog .eql 64 (.tmp 135) (.const (.int .i64 5)) a16.1 (.int .i64 5)).map fun v => (v, a16.2)) (.tuple [], a16.2)) fun a17 => Obt (gdO a14 false (some (a17.1, a17.2)) (.tuple [], a17.2)) fun a18 => Obt (gdO a18.1 true ((fldA 9 (tget L 12)).map fun v => (v, a18.2)) (.tuple [], a18.2)) fun a19 => Obt (gdO a18.1 true ((ld1 a19.2 a19.1).map fun v => (v, a19.2)) (.tuple [], a19.2)) fun a20 => Obt (gdO a18.1 true ((cun .not a20.1).map fun v => (v, a20.2)) (.tuple [], a20.2)) fun a21 => Obt (gdO a14 false ((pickX a18.1 a21.1 (.bool false)).map fun v => (v, a21.2)) (.tuple [], a21.2)) fun a22 => Obt (pickX a14 (.bool true) a22.1) fun a23 => Q .normal ⟨[(3, (tget L 3)), (5, (tget L 5)), (10, (tget L 10)), (11, (tget L 11)), (12, (tget L 12)), (13, a23)], a22.2⟩) : Rg F 7 [3, 5, 10, 11, 12, 13] c7r29 L m Q := Tx_told (by kernel_rfl) h
theorem t7r30 (h : Obt (gdO (tget L 13) true ((fldA 1 (tget L 12)).map fun v => (v, m)) (.tuple [], m)) fun a0 => Obt (gdO (tget L 13) true ((ld1 a0.2 a0.1).map fun v => (v, a0.2)) (.tuple [], a0.2)) fun a1 => Obt (gdO (tget L 13) true ((cbin Try.prog .lss 3 (.tmp 146) (.const (.int .i64 0)) a1.1 (.int .i64 0)).map fun v => (v, a1.2)) (.tuple [], a1.2)) fun a2 => Obt (gdO (tget L 13) true (some (a2.1, a2.2)) (.tuple [], a2.2)) fun a3 => Obt (gdO a3.1 false ((fldA 1 (tget L 12)).map fun v => (v, a3.2)) (.tuple [], a3.2)) fun a4 => Obt (gdO a3.1 false ((ld1 a4.2 a4.1).map fun v => (v, a4.2)) (.tuple [], a4.2)) fun a5 => Obt (gdO a3.1 false (some ((tget L 5), a5.2)) (.tuple [], a5.2)) fun a6 => Obt (gdO a3.1 false ((lenS a6.1).map fun v => (v, a6.2)) (.tuple [], a6.2)) fun a7 => Obt (gdO a3.1 false ((cbin Try.prog .geq 3 (.tmp 150) (.tmp 152) a5.1 a7.1).map fun v => (v, a7.2)) (.tuple [], a7.2)) fun a8 => Obt (gdO (tget L 13) true ((pickX a3.1 (.bool true) a8.1).map fun v => (v, a8.2)) (.tuple [], a8.2)) fun a9 => Obt (gdO (tget L 13) true (some (a9.1, a9.2)) (.tuple [], a9.2)) fun a10 => Obt (gdO a10.1 false (some ((tget L 5), a10.2)) (.tuple [], a10.2)) fun a11 => Obt (gdO a10.1 false ((fldA 1 (tget L 12)).map fun v => (v, a11.2)) (.tuple [], a11.2)) fun a12 => Obt (gdO a10.1 false ((ld1 a12.2 a12.1).map fun v => (v, a12.2)) (.tuple [], a12.2)) fun a13 => Obt (gdO a10.1 false ((idxS 1 a11.1 a13.1).map fun v => (v, a13.2)) (.tuple [], a13.2)) fun a14 => Obt (gdO a10.1 false ((ld1 a14.2 a14.1).map fun v => (v, a14.2)) (.tuple [], a14.2)) fun a15 => Obt (gdO a10.1 false ((cun .not a15.1).map fun v => (v, a15.2)) (.tuple [], a15.2)) fun a16 => Obt (gdO (tget L 13) true ((pickX a10.1 (.bool true) a16.1).map fun v => (v, a16.2)) (.tuple [], a16.2)) fun a17 => Obt (pickX (tget L 13) a17.1 (.bool false)) fun a18 => Q .normal ⟨[(3, (tget L 3)), (5, (tget L 5)), (10, (tget L 10)), (11, (tget L 11)), (163, a18)], a17.2⟩) : Rg F 7 [3, 5, 10, 11, 163] c7r30 L m Q := Tx_told (by kernel_rfl) h
theorem t7r27 (h : Obt (cbin Try.prog .add 3 (.tmp 104) (.const (.int .i64 1)) (tget L 11) (.int .i64 1)) fun a0 => Q .normal ⟨[(3, (tget L 3)), (5, (tget L 5)), (10, (tget L 10)), (11, a0)], m⟩) : Rg F 7 [3, 5, 10, 11] c7r27 L m Q := Tx_told (by kernel_rfl) h
theorem t7r24 (h : Obt (cbin Try.prog .add 3 (.tmp 93) (.const (.int .i64 1)) (tget L 10) (.int .i64 1)) fun a0 => Q .normal ⟨[(3, (tget L 3)), (5, (tget L 5)), (10, a0)], m⟩) : Rg F 7 [3, 5, 10] c7r24 L m Q := Tx_told (by kernel_rfl) h
theorem t7r32 (h : Obt (callC An F 7 (some 164) 21 [] m) fun a0 => Q .normal ⟨[(2, a0.1)], a0.2⟩) : Rg F 7 [2] c7r32 L m Q := Tx_told (by kernel_rfl) h
def c22r0 := rg 22 Try.f22 0
def c22r1 := rg 22 Try.f22 1
def c22r2 := rg 22 Try.f22 2
def c22r3 := rg 22 Try.f22 3
def c22r4 := rg 22 Try.f22 4
def c22r5 := rg 22 Try.f22 5
def c22r6 := rg 22 Try.f22 6
def c22r7 := rg 22 Try.f22 7
def c22r8 := rg 22 Try.f22 8
def c22r9 := rg 22 Try.f22 9
def c22r10 := rg 22 Try.f22 10
def c22r11 := rg 22 Try.f22 11
def c22r12 := rg 22 Try.f22 12
def c22r13 := rg 22 Try.f22 13
def c22r14 := rg 22 Try.f22 14
def c22r15 := rg 22 Try.f22 15
def c22l0 : SC :=
  (.seq (.reg false (some [2, 5, 6, 8, 9, 26, 27, 28, 38, 39, 40, 41]) c22r11) (.seq (.cond (.tmp 41) .nop (.exit 2)) (.seq (.block 3 (.seq (.reg false (some [2, 5, 6, 8, 9, 11, 26, 27, 28, 38, 39, 40]) c22r12) (.seq (.reg false (some [2, 5, 6, 8, 9, 11, 26, 27, 28, 38, 39, 40, 48]) c22r13) (.cond (.tmp 48) (.reg false (some [2, 5, 6, 8, 9, 26, 27, 28, 38, 39, 40]) c22r14) .nop)))) (.reg false (some [2, 5, 6, 8, 9, 26, 27, 28, 38, 39, 40]) c22r15))))
def c22r16 := rg 22 Try.f22 16
def c22r17 := rg 22 Try.f22 17
def c22r18 := rg 22 Try.f22 18
def c22r19 := rg 22 Try.f22 19
def c22r20 := rg 22 Try.f22 20
def c22r21 := rg 22 Try.f22 21
def c22l1 : SC :=
  (.seq (.reg false (some [2, 5, 6, 9, 26, 27, 28, 57, 58, 59, 60]) c22r17) (.seq (.cond (.tmp 60) .nop (.exit 4)) (.seq (.block 5 (.seq (.reg false (some [2, 5, 6, 9, 13, 26, 27, 28, 57, 58, 59]) c22r18) (.seq (.reg false (some [2, 5, 6, 9, 13, 26, 27, 28, 57, 58, 59, 71]) c22r19) (.cond (.tmp 71) (.reg false (some [2, 5, 6, 9, 26, 27, 28, 57, 58, 59]) c22r20) .nop)))) (.reg false (some [2, 5, 6, 9, 26, 27, 28, 57, 58, 59]) c22r21))))
def c22r22 := rg 22 Try.f22 22
def c22r23 := rg 22 Try.f22 23
def c22l2 : SC :=
  (.seq (.reg false (some [2, 5, 6, 26, 27, 28, 29]) c22r7) (.seq (.cond (.tmp 29) .nop (.exit 0)) (.seq (.block 1 (.seq (.reg false (some [2, 5, 6, 8, 26, 27, 28]) c22r8) (.seq (.reg false (some [2, 5, 6, 8, 9, 26, 27, 28]) c22r9) (.seq (.seq (.reg false (some [2, 5, 6, 8, 9, 26, 27, 28, 38, 39, 40]) c22r10) (.block 2 (.loop c22l0))) (.seq (.seq (.reg false (some [2, 5, 6, 9, 26, 27, 28, 57, 58, 59]) c22r16) (.block 4 (.loop c22l1))) (.reg false (some [2, 5, 6, 26, 27, 28]) c22r22)))))) (.reg false (some [2, 5, 6, 26, 27, 28]) c22r23))))
def c22r24 := rg 22 Try.f22 24
def c22 : SC :=
  (.seq (.reg false (some [1, 2]) c22r0) (.seq (.seq (.reg false (some [1, 2, 4]) c22r1) (.seq (.reg false (some [1, 2, 4, 17]) c22r2) (.cond (.tmp 17) (.seq (.reg false (some [2, 3]) c22r3) .ret) .nop))) (.seq (.reg false (some [1, 2, 5]) c22r4) (.seq (.reg false (some [1, 2, 5, 6]) c22r5) (.seq (.seq (.reg false (some [2, 5, 6, 26, 27, 28]) c22r6) (.block 0 (.loop c22l2))) (.seq (.reg false (some [2, 3]) c22r24) .ret))))))
theorem s22 : Try.f22.body.bind (strip Try.prog An 22 Try.f22.ntmps) = some c22 := by kernel_rfl
theorem g22 : An.glob 22 = [] := rfl
theorem r22 : Try.f22.results.toList = [(.cell 2 29), (.tmp 3)] := by kernel_rfl
theorem t22r0 (h : Obt (ccells (tget L 0)) fun a0 => Q .normal ⟨[(1, (newP m 16)), (2, (newP (newL m 16 a0) 32))], (newL (newL m 16 a0) 32 [.nil, .int .i64 0])⟩) : Rg F 22 [1, 2] c22r0 L m Q := Tx_told (by kernel_rfl) h
theorem t22r1 (h : Obt (ldA 2 m (tget L 1)) fun a0 => Obt (callC An F 22 (some 15) 36 [a0] m) fun a1 => Q .normal ⟨[(1, (tget L 1)), (2, (tget L 2)), (4, a1.1)], a1.2⟩) : Rg F 22 [1, 2, 4] c22r1 L m Q := Tx_told (by kernel_rfl) h
theorem t22r2 (h : Obt (cbin Try.prog .neq 33 (.tmp 16) (.const (.int .i64 0)) (tget L 4) (.int .i64 0)) fun a0 => Q .normal ⟨[(1, (tget L 1)), (2, (tget L 2)), (4, (tget L 4)), (17, a0)], m⟩) : Rg F 22 [1, 2, 4, 17] c22r2 L m Q := Tx_told (by kernel_rfl) h
theorem t22r3 (h : Obt ((fillX [.nil, .int .i64 0] []).map CV.agg) fun a0 => Obt (stX 2 m (tget L 2) a0) fun a1 => Q .normal ⟨[(2, (tget L 2)), (3, (tget L 4))], a1⟩) : Rg F 22 [2, 3] c22r3 L m Q := Tx_told (by kernel_rfl) h
theorem t22r4 (h : Obt (ldA 2 m (tget L 1)) fun a0 => Obt (callC An F 22 (some 21) 24 [a0] m) fun a1 => Q .normal ⟨[(1, (tget L 1)), (2, (tget L 2)), (5, a1.1)], a1.2⟩) : Rg F 22 [1, 2, 5] c22r4 L m Q := Tx_told (by kernel_rfl) h
theorem t22r5 (h : Obt (fldA 1 (tget L 1)) fun a0 => Obt (ld1 m a0) fun a1 => Obt ((fillX [.nil, .int .i64 0] [(1, 1, a1)]).map CV.agg) fun a2 => Obt (stX 2 (newL m 96 [.nil, .int .i64 0]) (newP m 96) a2) fun a3 => Q .normal ⟨[(1, (tget L 1)), (2, (tget L 2)), (5, (tget L 5)), (6, (newP m 96))], a3⟩) : Rg F 22 [1, 2, 5, 6] c22r5 L m Q := Tx_told (by kernel_rfl) h
theorem t22r6 (h : Obt (fldA 0 (tget L 1)) fun a0 => Obt (ld1 m a0) fun a1 => Obt (lenS a1) fun a2 => Q .normal ⟨[(2, (tget L 2)), (5, (tget L 5)), (6, (tget L 6)), (26, a1), (27, a2), (28, (.int .i64 0))], m⟩) : Rg F 22 [2, 5, 6, 26, 27, 28] c22r6 L m Q := Tx_told (by kernel_rfl) h
theorem t22r7 (h : Obt (cbin Try.prog .lss 3 (.tmp 28) (.tmp 27) (tget L 28) (tget L 27)) fun a0 => Q .normal ⟨[(2, (tget L 2)), (5, (tget L 5)), (6, (tget L 6)), (26, (tget L 26)), (27, (tget L 27)), (28, (tget L 28)), (29, a0)], m⟩) : Rg F 22 [2, 5, 6, 26, 27, 28, 29] c22r7 L m Q := Tx_told (by kernel_rfl) h
theorem t22r8 (h : Obt (idxS 10 (tget L 26) (tget L 28)) fun a0 => Obt (ldA 10 m a0) fun a1 => Obt (stX 10 (newL m 128 [.nil, .nil, .nil, .int .i64 0, .int .i64 0, .bool false, .int .i64 0, .int .i64 0, .int .i64 0, .int .i64 0]) (newP m 128) a1) fun a2 => Q .normal ⟨[(2, (tget L 2)), (5, (tget L 5)), (6, (tget L 6)), (8, (newP m 128)), (26, (tget L 26)), (27, (tget L 27)), (28, (tget L 28))], a2⟩) : Rg F 22 [2, 5, 6, 8, 26, 27, 28] c22r8 L m Q := Tx_told (by kernel_rfl) h
theorem t22r9 (h : Obt (fldA 0 (tget L 8)) fun a0 => Obt (ld1 m a0) fun a1 => Obt (fldA 3 (tget L 8)) fun a2 => Obt (ldA 7 m a2) fun a3 => Obt ((fillX [.nil, .nil, .nil, .int .i64 0, .int .i64 0, .bool false, .int .i64 0, .int .i64 0, .int .i64 0, .int .i64 0] [(0, 1, a1), (3, 7, a3)]).map CV.agg) fun a4 => Obt (stX 10 (newL m 144 [.nil, .nil, .nil, .int .i64 0, .int .i64 0, .bool false, .int .i64 0, .int .i64 0, .int .i64 0, .int .i64 0]) (newP m 144) a4) fun a5 => Q .normal ⟨[(2, (tget L 2)), (5, (tget L 5)), (6, (tget L 6)), (8, (tget L 8)), (9, (newP m 144)), (26, (tget L 26)), (27, (tget L 27)), (28, (tget L 28))], a5⟩) : Rg F 22 [2, 5, 6, 8, 9, 26, 27, 28] c22r9 L m Q := Tx_told (by kernel_rfl) h
theorem t22r10 (h : Obt (fldA 1 (tget L 8)) fun a0 => Obt (ld1 m a0) fun a1 => Obt (lenS a1) fun a2 => Q .normal ⟨[(2, (tget L 2)), (5, (tget L 5)), (6, (tget L 6)), (8, (tget L 8)), (9, (tget L 9)), (26, (tget L 26)), (27, (tget L 27)), (28, (tget L 28)), (38, a1), (39, a2), (40, (.int .i64 0))], m⟩) : Rg F 22 [2, 5, 6, 8, 9, 26, 27, 28, 38, 39, 40] c22r10 L m Q := Tx_told (by kernel_rfl) h
theorem t22r11 (h : Obt (cbin Try.prog .lss 3 (.tmp 40) (.tmp 39) (tget L 40) (tget L 39)) fun a0 => Q .normal ⟨[(2, (tget L 2)), (5, (tget L 5)), (6, (tget L 6)), (8, (tget L 8)), (9, (tget L 9)), (26, (tget L 26)), (27, (tget L 27)), (28, (tget L 28)), (38, (tget L 38)), (39, (tget L 39)), (40, (tget L 40)), (41, a0)], m⟩) : Rg F 22 [2, 5, 6, 8, 9, 26, 27, 28, 38, 39, 40, 41] c22r11 L m Q := Tx_told (by kernel_rfl) h
theorem t22r12 (h : Obt (idxS 2 (tget L 38) (tget L 40)) fun a0 => Obt (ldA 2 m a0) fun a1 => Obt (stX 2 (newL m 176 [.int .i64 0, .nil]) (newP m 176) a1) fun a2 => Q .normal ⟨[(2, (tget L 2)), (5, (tget L 5)), (6, (tget L 6)), (8, (tget L 8)), (9, (tget L 9)), (11, (newP m 176)), (26, (tget L 26)), (27, (tget L 27)), (28, (tget L 28)), (38, (tget L 38)), (39, (tget L 39)), (40, (tget L 40))], a2⟩) : Rg F 22 [2, 5, 6, 8, 9, 11, 26, 27, 28, 38, 39, 40] c22r12 L m Q := Tx_told (by kernel_rfl) h
theorem t22r13 (h : Obt (fldA 0 (tget L 11)) fun a0 => Obt (ld1 m a0) fun a1 => Obt (idxS 1 (tget L 5) a1) fun a2 => Obt (ld1 m a2) fun a3 => Q .normal ⟨[(2, (tget L 2)), (5, (tget L 5)), (6, (tget L 6)), (8, (tget L 8)), (9, (tget L 9)), (11, (tget L 11)), (26, (tget L 26)), (27, (tget L 27)), (28, (tget L 28)), (38, (tget L 38)), (39, (tget L 39)), (40, (tget L 40)), (48, a3)], m⟩) : Rg F 22 [2, 5, 6, 8, 9, 11, 26, 27, 28, 38, 39, 40, 48] c22r13 L m Q := Tx_told (by kernel_rfl) h
theorem t22r14 (h : Obt (fldA 1 (tget L 9)) fun a0 => Obt (ld1 m a0) fun a1 => Obt (ldA 2 m (tget L 11)) fun a2 => Obt (bslX false 832 2 1 [.int .i64 0, .nil] [(0, 2, a2)] m) fun a3 => Obt (appX false 848 2 32 a1 a3.1 a3.2) fun a4 => Obt (fldA 1 (tget L 9)) fun a5 => Obt (stX 1 a4.2 a5 a4.1) fun a6 => Q .normal ⟨[(2, (tget L 2)), (5, (tget L 5)), (6, (tget L 6)), (8, (tget L 8)), (9, (tget L 9)), (26, (tget L 26)), (27, (tget L 27)), (28, (tget L 28)), (38, (tget L 38)), (39, (tget L 39)), (40, (tget L 40))], a6⟩) : Rg F 22 [2, 5, 6, 8, 9, 26, 27, 28, 38, 39, 40] c22r14 L m Q := Tx_told (by kernel_rfl) h
theorem t22r15 (h : Obt (cbin Try.prog .add 3 (.tmp 40) (.const (.int .i64 1)) (tget L 40) (.int .i64 1)) fun a0 => Q .normal ⟨[(2, (tget L 2)), (5, (tget L 5)), (6, (tget L 6)), (8, (tget L 8)), (9, (tget L 9)), (26, (tget L 26)), (27, (tget L 27)), (28, (tget L 28)), (38, (tget L 38)), (39, (tget L 39)), (40, a0)], m⟩) : Rg F 22 [2, 5, 6, 8, 9, 26, 27, 28, 38, 39, 40] c22r15 L m Q := Tx_told (by kernel_rfl) h
theorem t22r16 (h : Obt (fldA 2 (tget L 8)) fun a0 => Obt (ld1 m a0) fun a1 => Obt (lenS a1) fun a2 => Q .normal ⟨[(2, (tget L 2)), (5, (tget L 5)), (6, (tget L 6)), (9, (tget L 9)), (26, (tget L 26)), (27, (tget L 27)), (28, (tget L 28)), (57, a1), (58, a2), (59, (.int .i64 0))], m⟩) : Rg F 22 [2, 5, 6, 9, 26, 27, 28, 57, 58, 59] c22r16 L m Q := Tx_told (by kernel_rfl) h
theorem t22r17 (h : Obt (cbin Try.prog .lss 3 (.tmp 59) (.tmp 58) (tget L 59) (tget L 58)) fun a0 => Q .normal ⟨[(2, (tget L 2)), (5, (tget L 5)), (6, (tget L 6)), (9, (tget L 9)), (26, (tget L 26)), (27, (tget L 27)), (28, (tget L 28)), (57, (tget L 57)), (58, (tget L 58)), (59, (tget L 59)), (60, a0)], m⟩) : Rg F 22 [2, 5, 6, 9, 26, 27, 28, 57, 58, 59, 60] c22r17 L m Q := Tx_told (by kernel_rfl) h
theorem t22r18 (h : Obt (idxS 12 (tget L 57) (tget L 59)) fun a0 => Obt (ldA 12 m a0) fun a1 => Obt (stX 12 (newL m 208 [.int .i64 0, .int .i64 0, .int .i64 0, .bool false, .int .i64 0, .int .i64 0, .int .u64 0, .int .i64 0, .int .i64 0, .bool false, .nil, .int .i64 0]) (newP m 208) a1) fun a2 => Q .normal ⟨[(2, (tget L 2)), (5, (tget L 5)), (6, (tget L 6)), (9, (tget L 9)), (13, (newP m 208)), (26, (tget L 26)), (27, (tget L 27)), (28, (tget L 28)), (57, (tget L 57)), (58, (tget L 58)), (59, (tget L 59))], a2⟩) : Rg F 22 [2, 5, 6, 9, 13, 26, 27, 28, 57, 58, 59] c22r18 L m Q := Tx_told (by kernel_rfl) h
theorem t22r19 (h : Obt (ldA 12 m (tget L 13)) fun a0 => Obt (callC An F 22 (some 64) 53 [a0] m) fun a1 => Obt (gdO a1.1 false (some ((tget L 5), a1.2)) (.tuple [], a1.2)) fun a2 => Obt (gdO a1.1 false ((fldA 1 (tget L 13)).map fun v => (v, a2.2)) (.tuple [], a2.2)) fun a3 => Obt (gdO a1.1 false ((ld1 a3.2 a3.1).map fun v => (v, a3.2)) (.tuple [], a3.2)) fun a4 => Obt (gdO a1.1 false ((idxS 1 a2.1 a4.1).map fun v => (v, a4.2)) (.tuple [], a4.2)) fun a5 => Obt (gdO a1.1 false ((ld1 a5.2 a5.1).map fun v => (v, a5.2)) (.tuple [], a5.2)) fun a6 => Obt (pickX a1.1 (.bool true) a6.1) fun a7 => Q .normal ⟨[(2, (tget L 2)), (5, (tget L 5)), (6, (tget L 6)), (9, (tget L 9)), (13, (tget L 13)), (26, (tget L 26)), (27, (tget L 27)), (28, (tget L 28)), (57, (tget L 57)), (58, (tget L 58)), (59, (tget L 59)), (71, a7)], a6.2⟩) : Rg F 22 [2, 5, 6, 9, 13, 26, 27, 28, 57, 58, 59, 71] c22r19 L m Q := Tx_told (by kernel_rfl) h
theorem t22r20 (h : Obt (fldA 2 (tget L 9)) fun a0 => Obt (ld1 m a0) fun a1 => Obt (ldA 12 m (tget L 13)) fun a2 => Obt (bslX false 1200 12 1 [.int .i64 0, .int .i64 0, .int .i64 0, .bool false, .int .i64 0, .int .i64 0, .int .u64 0, .int .i64 0, .int .i64 0, .bool false, .nil, .int .i64 0] [(0, 12, a2)] m) fun a3 => Obt (appX false 1216 12 112 a1 a3.1 a3.2) fun a4 => Obt (fldA 2 (tget L 9)) fun a5 => Obt (stX 1 a4.2 a5 a4.1) fun a6 => Q .normal ⟨[(2, (tget L 2)), (5, (tget L 5)), (6, (tget L 6)), (9, (tget L 9)), (26, (tget L 26)), (27, (tget L 27)), (28, (tget L 28)), (57, (tget L 57)), (58, (tget L 58)), (59, (tget L 59))], a6⟩) : Rg F 22 [2, 5, 6, 9, 26, 27, 28, 57, 58, 59] c22r20 L m Q := Tx_told (by kernel_rfl) h
theorem t22r21 (h : Obt (cbin Try.prog .add 3 (.tmp 59) (.const (.int .i64 1)) (tget L 59) (.int .i64 1)) fun a0 => Q .normal ⟨[(2, (tget L 2)), (5, (tget L 5)), (6, (tget L 6)), (9, (tget L 9)), (26, (tget L 26)), (27, (tget L 27)), (28, (tget L 28)), (57, (tget L 57)), (58, (tget L 58)), (59, a0)], m⟩) : Rg F 22 [2, 5, 6, 9, 26, 27, 28, 57, 58, 59] c22r21 L m Q := Tx_told (by kernel_rfl) h
theorem t22r22 (h : Obt (fldA 0 (tget L 6)) fun a0 => Obt (ld1 m a0) fun a1 => Obt (ldA 10 m (tget L 9)) fun a2 => Obt (bslX false 1312 10 1 [.nil, .nil, .nil, .int .i64 0, .int .i64 0, .bool false, .int .i64 0, .int .i64 0, .int .i64 0, .int .i64 0] [(0, 10, a2)] m) fun a3 => Obt (appX false 1328 10 128 a1 a3.1 a3.2) fun a4 => Obt (fldA 0 (tget L 6)) fun a5 => Obt (stX 1 a4.2 a5 a4.1) fun a6 => Q .normal ⟨[(2, (tget L 2)), (5, (tget L 5)), (6, (tget L 6)), (26, (tget L 26)), (27, (tget L 27)), (28, (tget L 28))], a6⟩) : Rg F 22 [2, 5, 6, 26, 27, 28] c22r22 L m Q := Tx_told (by kernel_rfl) h
theorem t22r23 (h : Obt (cbin Try.prog .add 3 (.tmp 28) (.const (.int .i64 1)) (tget L 28) (.int .i64 1)) fun a0 => Q .normal ⟨[(2, (tget L 2)), (5, (tget L 5)), (6, (tget L 6)), (26, (tget L 26)), (27, (tget L 27)), (28, a0)], m⟩) : Rg F 22 [2, 5, 6, 26, 27, 28] c22r23 L m Q := Tx_told (by kernel_rfl) h
theorem t22r24 (h : Obt (ldA 2 m (tget L 6)) fun a0 => Obt (stX 2 m (tget L 2) a0) fun a1 => Q .normal ⟨[(2, (tget L 2)), (3, (.int .i64 0))], a1⟩) : Rg F 22 [2, 3] c22r24 L m Q := Tx_told (by kernel_rfl) h
def c24r0 := rg 24 Try.f24 0
def c24r1 := rg 24 Try.f24 1
def c24r2 := rg 24 Try.f24 2
def c24r3 := rg 24 Try.f24 3
def c24r4 := rg 24 Try.f24 4
def c24r5 := rg 24 Try.f24 5
def c24r6 := rg 24 Try.f24 6
def c24r7 := rg 24 Try.f24 7
def c24r8 := rg 24 Try.f24 8
def c24r9 := rg 24 Try.f24 9
def c24r10 := rg 24 Try.f24 10
def c24l0 : SC :=
  (.seq (.seq (.reg false (some [3, 4, 5, 20]) c24r5) (.cond (.tmp 20) .nop (.exit 0))) (.block 1 (.seq (.reg false (some [3, 4, 5, 6]) c24r6) (.seq (.reg false (some [3, 4, 5, 6]) c24r7) (.seq (.reg false (some [3, 4, 5, 6, 36]) c24r8) (.cond (.tmp 36) (.seq (.reg false (some [3, 4, 5, 6]) c24r9) (.reg false (some [3, 4, 5]) c24r10)) .nop))))))
def c24r11 := rg 24 Try.f24 11
def c24 : SC :=
  (.seq (.reg false (some [1]) c24r0) (.seq (.seq (.reg false (some [1, 9]) c24r1) (.cond (.tmp 9) (.seq (.reg false (some [2]) c24r2) .ret) .nop)) (.seq (.reg false (some [1, 3]) c24r3) (.seq (.reg false (some [3, 4, 5]) c24r4) (.seq (.block 0 (.loop c24l0)) (.seq (.reg false (some [2]) c24r11) .ret))))))
theorem s24 : Try.f24.body.bind (strip Try.prog An 24 Try.f24.ntmps) = some c24 := by kernel_rfl
theorem g24 : An.glob 24 = [] := rfl
theorem r24 : Try.f24.results.toList = [(.tmp 2)] := by kernel_rfl
theorem t24r0 (h : Obt (ccells (tget L 0)) fun a0 => Q .normal ⟨[(1, (newP m 16))], (newL m 16 a0)⟩) : Rg F 24 [1] c24r0 L m Q := Tx_told (by kernel_rfl) h
theorem t24r1 (h : Obt (ldA 2 m (tget L 1)) fun a0 => Obt (callC An F 24 (some 8) 36 [a0] m) fun a1 => Obt (cbin Try.prog .neq 33 (.tmp 8) (.const (.int .i64 0)) a1.1 (.int .i64 0)) fun a2 => Q .normal ⟨[(1, (tget L 1)), (9, a2)], a1.2⟩) : Rg F 24 [1, 9] c24r1 L m Q := Tx_told (by kernel_rfl) h
theorem t24r2 (h : Q .normal ⟨[(2, .nil)], m⟩) : Rg F 24 [2] c24r2 L m Q := Tx_told (by kernel_rfl) h
theorem t24r3 (h : Obt (fldA 1 (tget L 1)) fun a0 => Obt (ld1 m a0) fun a1 => Obt (mkX false 192 1 1 [.bool false] a1 a1 m) fun a2 => Q .normal ⟨[(1, (tget L 1)), (3, a2.1)], a2.2⟩) : Rg F 24 [1, 3] c24r3 L m Q := Tx_told (by kernel_rfl) h
theorem t24r4 (h : Obt (ldA 2 m (tget L 1)) fun a0 => Obt (callC An F 24 (some 15) 55 [a0] m) fun a1 => Obt (extX 0 a1.1) fun a2 => Obt (extX 1 a1.1) fun a3 => Q .normal ⟨[(3, (tget L 3)), (4, a2), (5, a3)], a1.2⟩) : Rg F 24 [3, 4, 5] c24r4 L m Q := Tx_told (by kernel_rfl) h
theorem t24r5 (h : Obt (lenS (tget L 5)) fun a0 => Obt (cbin Try.prog .gtr 3 (.tmp 19) (.const (.int .i64 0)) a0 (.int .i64 0)) fun a1 => Q .normal ⟨[(3, (tget L 3)), (4, (tget L 4)), (5, (tget L 5)), (20, a1)], m⟩) : Rg F 24 [3, 4, 5, 20] c24r5 L m Q := Tx_told (by kernel_rfl) h
theorem t24r6 (h : Obt (lenS (tget L 5)) fun a0 => Obt (cbin Try.prog .sub 3 (.tmp 23) (.const (.int .i64 1)) a0 (.int .i64 1)) fun a1 => Obt (idxS 1 (tget L 5) a1) fun a2 => Obt (ld1 m a2) fun a3 => Q .normal ⟨[(3, (tget L 3)), (4, (tget L 4)), (5, (tget L 5)), (6, a3)], m⟩) : Rg F 24 [3, 4, 5, 6] c24r6 L m Q := Tx_told (by kernel_rfl) h
theorem t24r7 (h : Obt (lenS (tget L 5)) fun a0 => Obt (cbin Try.prog .sub 3 (.tmp 29) (.const (.int .i64 1)) a0 (.int .i64 1)) fun a1 => Obt (slcX 1 (tget L 5) none (some a1) none m) fun a2 => Q .normal ⟨[(3, (tget L 3)), (4, (tget L 4)), (5, a2), (6, (tget L 6))], m⟩) : Rg F 24 [3, 4, 5, 6] c24r7 L m Q := Tx_told (by kernel_rfl) h
theorem t24r8 (h : Obt (idxS 1 (tget L 3) (tget L 6)) fun a0 => Obt (ld1 m a0) fun a1 => Obt (cun .not a1) fun a2 => Q .normal ⟨[(3, (tget L 3)), (4, (tget L 4)), (5, (tget L 5)), (6, (tget L 6)), (36, a2)], m⟩) : Rg F 24 [3, 4, 5, 6, 36] c24r8 L m Q := Tx_told (by kernel_rfl) h
theorem t24r9 (h : Obt (idxS 1 (tget L 3) (tget L 6)) fun a0 => Obt (stX 1 m a0 (.bool true)) fun a1 => Q .normal ⟨[(3, (tget L 3)), (4, (tget L 4)), (5, (tget L 5)), (6, (tget L 6))], a1⟩) : Rg F 24 [3, 4, 5, 6] c24r9 L m Q := Tx_told (by kernel_rfl) h
theorem t24r10 (h : Obt (lookX Try.prog 3 (.nil) (tget L 4) (tget L 6) false m) fun a0 => Obt (appX false 704 1 8 (tget L 5) a0 m) fun a1 => Q .normal ⟨[(3, (tget L 3)), (4, (tget L 4)), (5, a1.1)], a1.2⟩) : Rg F 24 [3, 4, 5] c24r10 L m Q := Tx_told (by kernel_rfl) h
theorem t24r11 (h : Q .normal ⟨[(2, (tget L 3))], m⟩) : Rg F 24 [2] c24r11 L m Q := Tx_told (by kernel_rfl) h
def c53r0 := rg 53 Try.f53 0
def c53r1 := rg 53 Try.f53 1
def c53 : SC :=
  (.seq (.reg false (some [1]) c53r0) (.seq (.reg false (some [2]) c53r1) .ret))
theorem s53 : Try.f53.body.bind (strip Try.prog An 53 Try.f53.ntmps) = some c53 := by kernel_rfl
theorem g53 : An.glob 53 = [] := rfl
theorem r53 : Try.f53.results.toList = [(.tmp 2)] := by kernel_rfl
theorem t53r0 (h : Obt (ccells (tget L 0)) fun a0 => Q .normal ⟨[(1, (newP m 16))], (newL m 16 a0)⟩) : Rg F 53 [1] c53r0 L m Q := Tx_told (by kernel_rfl) h
theorem t53r1 (h : Obt (fldA 0 (tget L 1)) fun a0 => Obt (ld1 m a0) fun a1 => Obt (cbin Try.prog .eql 64 (.tmp 4) (.const (.int .i64 6)) a1 (.int .i64 6)) fun a2 => Obt (gdO a2 false ((fldA 0 (tget L 1)).map fun v => (v, m)) (.tuple [], m)) fun a3 => Obt (gdO a2 false ((ld1 a3.2 a3.1).map fun v => (v, a3.2)) (.tuple [], a3.2)) fun a4 => Obt (gdO a2 false ((cbin Try.prog .eql 64 (.tmp 8) (.const (.int .i64 7)) a4.1 (.int .i64 7)).map fun v => (v, a4.2)) (.tuple [], a4.2)) fun a5 => Obt (pickX a2 (.bool true) a5.1) fun a6 => Obt (gdO a6 false ((fldA 0 (tget L 1)).map fun v => (v, a5.2)) (.tuple [], a5.2)) fun a7 => Obt (gdO a6 false ((ld1 a7.2 a7.1).map fun v => (v, a7.2)) (.tuple [], a7.2)) fun a8 => Obt (gdO a6 false ((cbin Try.prog .eql 64 (.tmp 13) (.const (.int .i64 5)) a8.1 (.int .i64 5)).map fun v => (v, a8.2)) (.tuple [], a8.2)) fun a9 => Obt (gdO a6 false (some (a9.1, a9.2)) (.tuple [], a9.2)) fun a10 => Obt (gdO a10.1 true ((fldA 9 (tget L 1)).map fun v => (v, a10.2)) (.tuple [], a10.2)) fun a11 => Obt (gdO a10.1 true ((ld1 a11.2 a11.1).map fun v => (v, a11.2)) (.tuple [], a11.2)) fun a12 => Obt (gdO a6 false ((pickX a10.1 a12.1 (.bool false)).map fun v => (v, a12.2)) (.tuple [], a12.2)) fun a13 => Obt (pickX a6 (.bool true) a13.1) fun a14 => Q .normal ⟨[(2, a14)], a13.2⟩) : Rg F 53 [2] c53r1 L m Q := Tx_told (by kernel_rfl) h
def c55r0 := rg 55 Try.f55 0
def c55r1 := rg 55 Try.f55 1
def c55r2 := rg 55 Try.f55 2
def c55r3 := rg 55 Try.f55 3
def c55r4 := rg 55 Try.f55 4
def c55r5 := rg 55 Try.f55 5
def c55r6 := rg 55 Try.f55 6
def c55r7 := rg 55 Try.f55 7
def c55r8 := rg 55 Try.f55 8
def c55r9 := rg 55 Try.f55 9
def c55r10 := rg 55 Try.f55 10
def c55l0 : SC :=
  (.seq (.reg false (some [4, 5, 7, 14, 15, 16, 21, 22, 23, 24]) c55r7) (.seq (.cond (.tmp 24) .nop (.exit 2)) (.seq (.block 3 (.seq (.reg false (some [4, 5, 7, 9, 14, 15, 16, 21, 22, 23]) c55r8) (.reg false (some [4, 5, 7, 14, 15, 16, 21, 22, 23]) c55r9))) (.reg false (some [4, 5, 7, 14, 15, 16, 21, 22, 23]) c55r10))))
def c55r11 := rg 55 Try.f55 11
def c55r12 := rg 55 Try.f55 12
def c55r13 := rg 55 Try.f55 13
def c55r14 := rg 55 Try.f55 14
def c55r15 := rg 55 Try.f55 15
def c55r16 := rg 55 Try.f55 16
def c55r17 := rg 55 Try.f55 17
def c55r18 := rg 55 Try.f55 18
def c55l1 : SC :=
  (.seq (.reg false (some [4, 5, 7, 14, 15, 16, 34, 35, 36, 37]) c55r12) (.seq (.cond (.tmp 37) .nop (.exit 4)) (.seq (.block 5 (.seq (.reg false (some [4, 5, 7, 11, 14, 15, 16, 34, 35, 36]) c55r13) (.seq (.seq (.reg false (some [4, 5, 7, 11, 14, 15, 16, 34, 35, 36, 42]) c55r14) (.cond (.tmp 42) (.reg false (some [4, 5, 7, 11, 14, 15, 16, 34, 35, 36]) c55r15) .nop)) (.seq (.reg false (some [4, 5, 7, 11, 14, 15, 16, 34, 35, 36, 49]) c55r16) (.cond (.tmp 49) (.reg false (some [4, 5, 7, 14, 15, 16, 34, 35, 36]) c55r17) .nop))))) (.reg false (some [4, 5, 7, 14, 15, 16, 34, 35, 36]) c55r18))))
def c55r19 := rg 55 Try.f55 19
def c55r20 := rg 55 Try.f55 20
def c55r21 := rg 55 Try.f55 21
def c55r22 := rg 55 Try.f55 22
def c55r23 := rg 55 Try.f55 23
def c55r24 := rg 55 Try.f55 24
def c55l2 : SC :=
  (.seq (.reg false (some [4, 5, 14, 15, 16, 17]) c55r4) (.seq (.cond (.tmp 17) .nop (.exit 0)) (.seq (.block 1 (.seq (.reg false (some [4, 5, 7, 14, 15, 16]) c55r5) (.seq (.seq (.reg false (some [4, 5, 7, 14, 15, 16, 21, 22, 23]) c55r6) (.block 2 (.loop c55l0))) (.seq (.seq (.reg false (some [4, 5, 7, 14, 15, 16, 34, 35, 36]) c55r11) (.block 4 (.loop c55l1))) (.seq (.reg false (some [4, 5, 7, 14, 15, 16, 57]) c55r19) (.block 6 (.seq (.reg false (some [4, 5, 7, 14, 15, 16, 57, 58]) c55r20) (.cond (.tmp 58) (.reg false (some [4, 5, 14, 15, 16]) c55r21) (.seq (.reg false (some [4, 5, 7, 14, 15, 16, 69]) c55r22) (.cond (.tmp 69) (.reg false (some [4, 5, 14, 15, 16]) c55r23) .nop)))))))))) (.reg false (some [4, 5, 14, 15, 16]) c55r24))))
def c55r25 := rg 55 Try.f55 25
def c55 : SC :=
  (.seq (.reg false (some [1]) c55r0) (.seq (.reg false (some [1, 4]) c55r1) (.seq (.reg false (some [1, 4, 5]) c55r2) (.seq (.seq (.reg false (some [4, 5, 14, 15, 16]) c55r3) (.block 0 (.loop c55l2))) (.seq (.reg false (some [2, 3]) c55r25) .ret)))))
theorem s55 : Try.f55.body.bind (strip Try.prog An 55 Try.f55.ntmps) = some c55 := by kernel_rfl
theorem g55 : An.glob 55 = [12] := rfl
theorem r55 : Try.f55.results.toList = [(.tmp 2), (.tmp 3)] := by kernel_rfl
theorem t55r0 (h : Obt (ccells (tget L 0)) fun a0 => Q .normal ⟨[(1, (newP m 16))], (newL m 16 a0)⟩) : Rg F 55 [1] c55r0 L m Q := Tx_told (by kernel_rfl) h
theorem t55r1 (h : Q .normal ⟨[(1, (tget L 1)), (4, (gnewK m))], (gnewM m)⟩) : Rg F 55 [1, 4] c55r1 L m Q := Tx_told (by kernel_rfl) h
theorem t55r2 (h : Q .normal ⟨[(1, (tget L 1)), (4, (tget L 4)), (5, .nil)], m⟩) : Rg F 55 [1, 4, 5] c55r2 L m Q := Tx_told (by kernel_rfl) h
theorem t55r3 (h : Obt (fldA 0 (tget L 1)) fun a0 => Obt (ld1 m a0) fun a1 => Obt (lenS a1) fun a2 => Q .normal ⟨[(4, (tget L 4)), (5, (tget L 5)), (14, a1), (15, a2), (16, (.int .i64 0))], m⟩) : Rg F 55 [4, 5, 14, 15, 16] c55r3 L m Q := Tx_told (by kernel_rfl) h
theorem t55r4 (h : Obt (cbin Try.prog .lss 3 (.tmp 16) (.tmp 15) (tget L 16) (tget L 15)) fun a0 => Q .normal ⟨[(4, (tget L 4)), (5, (tget L 5)), (14, (tget L 14)), (15, (tget L 15)), (16, (tget L 16)), (17, a0)], m⟩) : Rg F 55 [4, 5, 14, 15, 16, 17] c55r4 L m Q := Tx_told (by kernel_rfl) h
theorem t55r5 (h : Obt (idxS 10 (tget L 14) (tget L 16)) fun a0 => Obt (ldA 10 m a0) fun a1 => Obt (stX 10 (newL m 112 [.nil, .nil, .nil, .int .i64 0, .int .i64 0, .bool false, .int .i64 0, .int .i64 0, .int .i64 0, .int .i64 0]) (newP m 112) a1) fun a2 => Q .normal ⟨[(4, (tget L 4)), (5, (tget L 5)), (7, (newP m 112)), (14, (tget L 14)), (15, (tget L 15)), (16, (tget L 16))], a2⟩) : Rg F 55 [4, 5, 7, 14, 15, 16] c55r5 L m Q := Tx_told (by kernel_rfl) h
theorem t55r6 (h : Obt (fldA 1 (tget L 7)) fun a0 => Obt (ld1 m a0) fun a1 => Obt (lenS a1) fun a2 => Q .normal ⟨[(4, (tget L 4)), (5, (tget L 5)), (7, (tget L 7)), (14, (tget L 14)), (15, (tget L 15)), (16, (tget L 16)), (21, a1), (22, a2), (23, (.int .i64 0))], m⟩) : Rg F 55 [4, 5, 7, 14, 15, 16, 21, 22, 23] c55r6 L m Q := Tx_told (by kernel_rfl) h
theorem t55r7 (h : Obt (cbin Try.prog .lss 3 (.tmp 23) (.tmp 22) (tget L 23) (tget L 22)) fun a0 => Q .normal ⟨[(4, (tget L 4)), (5, (tget L 5)), (7, (tget L 7)), (14, (tget L 14)), (15, (tget L 15)), (16, (tget L 16)), (21, (tget L 21)), (22, (tget L 22)), (23, (tget L 23)), (24, a0)], m⟩) : Rg F 55 [4, 5, 7, 14, 15, 16, 21, 22, 23, 24] c55r7 L m Q := Tx_told (by kernel_rfl) h
theorem t55r8 (h : Obt (idxS 2 (tget L 21) (tget L 23)) fun a0 => Obt (ldA 2 m a0) fun a1 => Obt (stX 2 (newL m 144 [.int .i64 0, .nil]) (newP m 144) a1) fun a2 => Q .normal ⟨[(4, (tget L 4)), (5, (tget L 5)), (7, (tget L 7)), (9, (newP m 144)), (14, (tget L 14)), (15, (tget L 15)), (16, (tget L 16)), (21, (tget L 21)), (22, (tget L 22)), (23, (tget L 23))], a2⟩) : Rg F 55 [4, 5, 7, 9, 14, 15, 16, 21, 22, 23] c55r8 L m Q := Tx_told (by kernel_rfl) h
theorem t55r9 (h : Obt (fldA 0 (tget L 9)) fun a0 => Obt (ld1 m a0) fun a1 => Obt (fldA 1 (tget L 9)) fun a2 => Obt (ld1 m a2) fun a3 => Obt (mupX Try.prog 3 (tget L 4) a1 a3 m) fun a4 => Q .normal ⟨[(4, (tget L 4)), (5, (tget L 5)), (7, (tget L 7)), (14, (tget L 14)), (15, (tget L 15)), (16, (tget L 16)), (21, (tget L 21)), (22, (tget L 22)), (23, (tget L 23))], a4⟩) : Rg F 55 [4, 5, 7, 14, 15, 16, 21, 22, 23] c55r9 L m Q := Tx_told (by kernel_rfl) h
theorem t55r10 (h : Obt (cbin Try.prog .add 3 (.tmp 23) (.const (.int .i64 1)) (tget L 23) (.int .i64 1)) fun a0 => Q .normal ⟨[(4, (tget L 4)), (5, (tget L 5)), (7, (tget L 7)), (14, (tget L 14)), (15, (tget L 15)), (16, (tget L 16)), (21, (tget L 21)), (22, (tget L 22)), (23, a0)], m⟩) : Rg F 55 [4, 5, 7, 14, 15, 16, 21, 22, 23] c55r10 L m Q := Tx_told (by kernel_rfl) h
theorem t55r11 (h : Obt (fldA 2 (tget L 7)) fun a0 => Obt (ld1 m a0) fun a1 => Obt (lenS a1) fun a2 => Q .normal ⟨[(4, (tget L 4)), (5, (tget L 5)), (7, (tget L 7)), (14, (tget L 14)), (15, (tget L 15)), (16, (tget L 16)), (34, a1), (35, a2), (36, (.int .i64 0))], m⟩) : Rg F 55 [4, 5, 7, 14, 15, 16, 34, 35, 36] c55r11 L m Q := Tx_told (by kernel_rfl) h
theorem t55r12 (h : Obt (cbin Try.prog .lss 3 (.tmp 36) (.tmp 35) (tget L 36) (tget L 35)) fun a0 => Q .normal ⟨[(4, (tget L 4)), (5, (tget L 5)), (7, (tget L 7)), (14, (tget L 14)), (15, (tget L 15)), (16, (tget L 16)), (34, (tget L 34)), (35, (tget L 35)), (36, (tget L 36)), (37, a0)], m⟩) : Rg F 55 [4, 5, 7, 14, 15, 16, 34, 35, 36, 37] c55r12 L m Q := Tx_told (by kernel_rfl) h
theorem t55r13 (h : Obt (idxS 12 (tget L 34) (tget L 36)) fun a0 => Obt (ldA 12 m a0) fun a1 => Obt (stX 12 (newL m 176 [.int .i64 0, .int .i64 0, .int .i64 0, .bool false, .int .i64 0, .int .i64 0, .int .u64 0, .int .i64 0, .int .i64 0, .bool false, .nil, .int .i64 0]) (newP m 176) a1) fun a2 => Q .normal ⟨[(4, (tget L 4)), (5, (tget L 5)), (7, (tget L 7)), (11, (newP m 176)), (14, (tget L 14)), (15, (tget L 15)), (16, (tget L 16)), (34, (tget L 34)), (35, (tget L 35)), (36, (tget L 36))], a2⟩) : Rg F 55 [4, 5, 7, 11, 14, 15, 16, 34, 35, 36] c55r13 L m Q := Tx_told (by kernel_rfl) h
theorem t55r14 (h : Obt (fldA 0 (tget L 11)) fun a0 => Obt (ld1 m a0) fun a1 => Obt (cbin Try.prog .neq 64 (.tmp 41) (.const (.int .i64 6)) a1 (.int .i64 6)) fun a2 => Q .normal ⟨[(4, (tget L 4)), (5, (tget L 5)), (7, (tget L 7)), (11, (tget L 11)), (14, (tget L 14)), (15, (tget L 15)), (16, (tget L 16)), (34, (tget L 34)), (35, (tget L 35)), (36, (tget L 36)), (42, a2)], m⟩) : Rg F 55 [4, 5, 7, 11, 14, 15, 16, 34, 35, 36, 42] c55r14 L m Q := Tx_told (by kernel_rfl) h
theorem t55r15 (h : Obt (fldA 1 (tget L 11)) fun a0 => Obt (offK [(true, 47)] a0 ((ld1 m a0).map fun v => (v, m))) fun a1 => Obt (ldA 12 a1.2 (tget L 11)) fun a2 => Obt (callC An F 55 (some 47) 79 [a2] a1.2) fun a3 => Obt (mupX Try.prog 3 (tget L 4) a1.1 a3.1 a3.2) fun a4 => Q .normal ⟨[(4, (tget L 4)), (5, (tget L 5)), (7, (tget L 7)), (11, (tget L 11)), (14, (tget L 14)), (15, (tget L 15)), (16, (tget L 16)), (34, (tget L 34)), (35, (tget L 35)), (36, (tget L 36))], a4⟩) : Rg F 55 [4, 5, 7, 11, 14, 15, 16, 34, 35, 36] c55r15 L m Q := Tx_told (by kernel_rfl) h
theorem t55r16 (h : Obt (ldA 12 m (tget L 11)) fun a0 => Obt (callC An F 55 (some 49) 53 [a0] m) fun a1 => Q .normal ⟨[(4, (tget L 4)), (5, (tget L 5)), (7, (tget L 7)), (11, (tget L 11)), (14, (tget L 14)), (15, (tget L 15)), (16, (tget L 16)), (34, (tget L 34)), (35, (tget L 35)), (36, (tget L 36)), (49, a1.1)], a1.2⟩) : Rg F 55 [4, 5, 7, 11, 14, 15, 16, 34, 35, 36, 49] c55r16 L m Q := Tx_told (by kernel_rfl) h
theorem t55r17 (h : Obt (ldA 12 m (tget L 11)) fun a0 => Obt (callC An F 55 (some 52) 79 [a0] m) fun a1 => Obt (appX false 848 1 8 (tget L 5) a1.1 a1.2) fun a2 => Q .normal ⟨[(4, (tget L 4)), (5, a2.1), (7, (tget L 7)), (14, (tget L 14)), (15, (tget L 15)), (16, (tget L 16)), (34, (tget L 34)), (35, (tget L 35)), (36, (tget L 36))], a2.2⟩) : Rg F 55 [4, 5, 7, 14, 15, 16, 34, 35, 36] c55r17 L m Q := Tx_told (by kernel_rfl) h
theorem t55r18 (h : Obt (cbin Try.prog .add 3 (.tmp 36) (.const (.int .i64 1)) (tget L 36) (.int .i64 1)) fun a0 => Q .normal ⟨[(4, (tget L 4)), (5, (tget L 5)), (7, (tget L 7)), (14, (tget L 14)), (15, (tget L 15)), (16, (tget L 16)), (34, (tget L 34)), (35, (tget L 35)), (36, a0)], m⟩) : Rg F 55 [4, 5, 7, 14, 15, 16, 34, 35, 36] c55r18 L m Q := Tx_told (by kernel_rfl) h
theorem t55r19 (h : Obt (fldA 3 (tget L 7)) fun a0 => Obt (fldA 0 a0) fun a1 => Obt (ld1 m a1) fun a2 => Q .normal ⟨[(4, (tget L 4)), (5, (tget L 5)), (7, (tget L 7)), (14, (tget L 14)), (15, (tget L 15)), (16, (tget L 16)), (57, a2)], m⟩) : Rg F 55 [4, 5, 7, 14, 15, 16, 57] c55r19 L m Q := Tx_told (by kernel_rfl) h
theorem t55r20 (h : Obt (cbin Try.prog .eql 54 (.tmp 57) (.const (.int .i64 2)) (tget L 57) (.int .i64 2)) fun a0 => Q .normal ⟨[(4, (tget L 4)), (5, (tget L 5)), (7, (tget L 7)), (14, (tget L 14)), (15, (tget L 15)), (16, (tget L 16)), (57, (tget L 57)), (58, a0)], m⟩) : Rg F 55 [4, 5, 7, 14, 15, 16, 57, 58] c55r20 L m Q := Tx_told (by kernel_rfl) h
theorem t55r21 (h : Obt (fldA 3 (tget L 7)) fun a0 => Obt (fldA 3 a0) fun a1 => Obt (ld1 m a1) fun a2 => Obt (fldA 3 (tget L 7)) fun a3 => Obt (fldA 4 a3) fun a4 => Obt (ld1 m a4) fun a5 => Obt (bslX false 1072 1 2 [.int .i64 0, .int .i64 0] [(0, 1, a2), (1, 1, a5)] m) fun a6 => Obt (appX false 1088 1 8 (tget L 5) a6.1 a6.2) fun a7 => Q .normal ⟨[(4, (tget L 4)), (5, a7.1), (14, (tget L 14)), (15, (tget L 15)), (16, (tget L 16))], a7.2⟩) : Rg F 55 [4, 5, 14, 15, 16] c55r21 L m Q := Tx_told (by kernel_rfl) h
theorem t55r22 (h : Obt (cbin Try.prog .eql 54 (.tmp 57) (.const (.int .i64 3)) (tget L 57) (.int .i64 3)) fun a0 => Q .normal ⟨[(4, (tget L 4)), (5, (tget L 5)), (7, (tget L 7)), (14, (tget L 14)), (15, (tget L 15)), (16, (tget L 16)), (69, a0)], m⟩) : Rg F 55 [4, 5, 7, 14, 15, 16, 69] c55r22 L m Q := Tx_told (by kernel_rfl) h
theorem t55r23 (h : Obt (fldA 3 (tget L 7)) fun a0 => Obt (fldA 3 a0) fun a1 => Obt (ld1 m a1) fun a2 => Obt (bslX false 1200 1 1 [.int .i64 0] [(0, 1, a2)] m) fun a3 => Obt (appX false 1216 1 8 (tget L 5) a3.1 a3.2) fun a4 => Q .normal ⟨[(4, (tget L 4)), (5, a4.1), (14, (tget L 14)), (15, (tget L 15)), (16, (tget L 16))], a4.2⟩) : Rg F 55 [4, 5, 14, 15, 16] c55r23 L m Q := Tx_told (by kernel_rfl) h
theorem t55r24 (h : Obt (cbin Try.prog .add 3 (.tmp 16) (.const (.int .i64 1)) (tget L 16) (.int .i64 1)) fun a0 => Q .normal ⟨[(4, (tget L 4)), (5, (tget L 5)), (14, (tget L 14)), (15, (tget L 15)), (16, a0)], m⟩) : Rg F 55 [4, 5, 14, 15, 16] c55r24 L m Q := Tx_told (by kernel_rfl) h
theorem t55r25 (h : Q .normal ⟨[(2, (tget L 4)), (3, (tget L 5))], m⟩) : Rg F 55 [2, 3] c55r25 L m Q := Tx_told (by kernel_rfl) h
def c28r0 := rg 28 Try.f28 0
def c28r1 := rg 28 Try.f28 1
def c28r3 := rg 28 Try.f28 3
def c28r4 := rg 28 Try.f28 4
def c28r2 := rg 28 Try.f28 2
def c28l0 : SC :=
  (.seq (.seq (.reg false (some [0, 1, 2, 6, 10]) c28r1) (.cond (.tmp 10) .nop (.exit 0))) (.seq (.block 1 (.seq (.reg false (some [0, 1, 2, 6, 34]) c28r3) (.cond (.tmp 34) (.reg false (some [0, 1, 2, 6]) c28r4) .nop))) (.reg false (some [0, 1, 2, 6]) c28r2)))
def c28 : SC :=
  (.seq (.reg false (some [0, 1, 2, 6]) c28r0) (.block 0 (.loop c28l0)))
theorem s28 : Try.f28.body.bind (strip Try.prog An 28 Try.f28.ntmps) = some c28 := by kernel_rfl
theorem g28 : An.glob 28 = [] := rfl
theorem r28 : Try.f28.results.toList = [] := by kernel_rfl
theorem t28r0 (h : Q .normal ⟨[(0, (tget L 0)), (1, (tget L 1)), (2, (tget L 2)), (6, (.int .i64 0))], m⟩) : Rg F 28 [0, 1, 2, 6] c28r0 L m Q := Tx_told (by kernel_rfl) h
theorem t28r1 (h : Obt (lenS (tget L 1)) fun a0 => Obt (cbin Try.prog .lss 3 (.tmp 7) (.tmp 9) (tget L 6) a0) fun a1 => Q .normal ⟨[(0, (tget L 0)), (1, (tget L 1)), (2, (tget L 2)), (6, (tget L 6)), (10, a1)], m⟩) : Rg F 28 [0, 1, 2, 6, 10] c28r1 L m Q := Tx_told (by kernel_rfl) h
theorem t28r3 (h : Obt (idxS 1 (tget L 1) (tget L 6)) fun a0 => Obt (ld1 m a0) fun a1 => Obt (cbin Try.prog .geq 3 (.tmp 16) (.const (.int .i64 0)) a1 (.int .i64 0)) fun a2 => Obt (gdO a2 true (some ((tget L 1), m)) (.tuple [], m)) fun a3 => Obt (gdO a2 true (some ((tget L 6), a3.2)) (.tuple [], a3.2)) fun a4 => Obt (gdO a2 true ((idxS 1 a3.1 a4.1).map fun v => (v, a4.2)) (.tuple [], a4.2)) fun a5 => Obt (gdO a2 true ((ld1 a5.2 a5.1).map fun v => (v, a5.2)) (.tuple [], a5.2)) fun a6 => Obt (gdO a2 true (some ((tget L 0), a6.2)) (.tuple [], a6.2)) fun a7 => Obt (gdO a2 true ((lenS a7.1).map fun v => (v, a7.2)) (.tuple [], a7.2)) fun a8 => Obt (gdO a2 true ((cbin Try.prog .lss 3 (.tmp 22) (.tmp 24) a6.1 a8.1).map fun v => (v, a8.2)) (.tuple [], a8.2)) fun a9 => Obt (pickX a2 a9.1 (.bool false)) fun a10 => Obt (gdO a10 true (some ((tget L 1), a9.2)) (.tuple [], a9.2)) fun a11 => Obt (gdO a10 true (some ((tget L 6), a11.2)) (.tuple [], a11.2)) fun a12 => Obt (gdO a10 true ((idxS 1 a11.1 a12.1).map fun v => (v, a12.2)) (.tuple [], a12.2)) fun a13 => Obt (gdO a10 true ((ld1 a13.2 a13.1).map fun v => (v, a13.2)) (.tuple [], a13.2)) fun a14 => Obt (gdO a10 true (some ((tget L 2), a14.2)) (.tuple [], a14.2)) fun a15 => Obt (gdO a10 true ((cbin Try.prog .neq 3 (.tmp 31) (.tmp 32) a14.1 a15.1).map fun v => (v, a15.2)) (.tuple [], a15.2)) fun a16 => Obt (pickX a10 a16.1 (.bool false)) fun a17 => Q .normal ⟨[(0, (tget L 0)), (1, (tget L 1)), (2, (tget L 2)), (6, (tget L 6)), (34, a17)], a16.2⟩) : Rg F 28 [0, 1, 2, 6, 34] c28r3 L m Q := Tx_told (by kernel_rfl) h
theorem t28r4 (h : Obt (idxS 1 (tget L 1) (tget L 6)) fun a0 => Obt (ld1 m a0) fun a1 => Obt (idxS 1 (tget L 0) a1) fun a2 => Obt (stX 1 m a2 (.bool true)) fun a3 => Q .normal ⟨[(0, (tget L 0)), (1, (tget L 1)), (2, (tget L 2)), (6, (tget L 6))], a3⟩) : Rg F 28 [0, 1, 2, 6] c28r4 L m Q := Tx_told (by kernel_rfl) h
theorem t28r2 (h : Obt (cbin Try.prog .add 3 (.tmp 11) (.const (.int .i64 1)) (tget L 6) (.int .i64 1)) fun a0 => Q .normal ⟨[(0, (tget L 0)), (1, (tget L 1)), (2, (tget L 2)), (6, a0)], m⟩) : Rg F 28 [0, 1, 2, 6] c28r2 L m Q := Tx_told (by kernel_rfl) h
end
end Go.Cm
