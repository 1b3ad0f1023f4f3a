import Derived.Test.YtlflghggdpbcnaaGreatGyB
set_option linter.unusedSimpArgs false
set_option linter.unusedVariables false
namespace Go.Cm
open Go.Proofs
variable {F : Oracle} {L : List (Nat × CV)} {m : Mem} {Q : CE → TS → Prop}
noncomputable section
def c48r0 := rg 48 Tryz.f48 0
def c48r1 := rg 48 Tryz.f48 1
def c48r2 := rg 48 Tryz.f48 2
def c48r3 := rg 48 Tryz.f48 3
def c48r4 := rg 48 Tryz.f48 4
def c48r5 := rg 48 Tryz.f48 5
def c48r6 := rg 48 Tryz.f48 6
def c48r7 := rg 48 Tryz.f48 7
def c48r8 := rg 48 Tryz.f48 8
def c48r9 := rg 48 Tryz.f48 9
def c48r10 := rg 48 Tryz.f48 10
def c48r11 := rg 48 Tryz.f48 11
def c48l0 : SC :=
  (.seq (.reg false (some [1, 3, 4, 16, 17, 18, 19]) c48r4) (.seq (.cond (.tmp 19) .nop (.exit 0)) (.seq (.block 1 (.seq (.reg false (some [1, 3, 4, 6, 16, 17, 18]) c48r5) (.seq (.reg false (some [1, 3, 4, 6, 7, 16, 17, 18]) c48r6) (.seq (.reg false (some [1, 3, 4, 6, 7, 8, 9, 16, 17, 18]) c48r7) (.seq (.seq (.reg false (some [1, 3, 4, 6, 7, 16, 17, 18, 37]) c48r8) (.cond (.tmp 37) (.seq (.reg false (some [2]) c48r9) .ret) .nop)) (.reg false (some [1, 3, 4, 16, 17, 18]) c48r10)))))) (.reg false (some [1, 3, 4, 16, 17, 18]) c48r11))))
def c48r12 := rg 48 Tryz.f48 12
def c48 : SC :=
  (.seq (.reg false (some [1]) c48r0) (.seq (.reg false (some [1, 3]) c48r1) (.seq (.reg false (some [1, 3, 4]) c48r2) (.seq (.seq (.reg false (some [1, 3, 4, 16, 17, 18]) c48r3) (.block 0 (.loop c48l0))) (.seq (.reg false (some [2]) c48r12) .ret)))))
theorem s48 : Tryz.f48.body.bind (strip Tryz.prog An 48 Tryz.f48.ntmps) = some c48 := by kernel_rfl
theorem g48 : An.glob 48 = [1, 4] := rfl
theorem r48 : Tryz.f48.results.toList = [(.tmp 2)] := by kernel_rfl
theorem t48r0 (h : Obt (boxG (tget L 0) m) fun a0 => Q .normal ⟨[(1, a0.1)], a0.2⟩) : Rg F 48 [1] c48r0 L m Q := Tx_told (by kernel_rfl) h
theorem t48r1 (h : Obt (fldA 0 (tget L 1)) fun a0 => Obt (ld1 m a0) fun a1 => Obt (callC An F 48 (some 12) 74 [a1] m) fun a2 => Q .normal ⟨[(1, (tget L 1)), (3, a2.1)], a2.2⟩) : Rg F 48 [1, 3] c48r1 L m Q := Tx_told (by kernel_rfl) h
theorem t48r2 (h : Obt (fldA 0 (tget L 1)) fun a0 => Obt (ld1 m a0) fun a1 => Obt ((fillX [.int .i64 0, .int .i64 0, .int .i64 0, .int .i64 0, .int .i64 0, .bool false, .int .i64 0, .int .i64 0] [(0, 1, a1)]).map CV.agg) fun a2 => Obt (stX 8 (gnewL m [.int .i64 0, .int .i64 0, .int .i64 0, .int .i64 0, .int .i64 0, .bool false, .int .i64 0, .int .i64 0]) (gnewP m) a2) fun a3 => Q .normal ⟨[(1, (tget L 1)), (3, (tget L 3)), (4, (gnewP m))], a3⟩) : Rg F 48 [1, 3, 4] c48r2 L m Q := Tx_told (by kernel_rfl) h
theorem t48r3 (h : Obt (lenS (tget L 3)) fun a0 => Q .normal ⟨[(1, (tget L 1)), (3, (tget L 3)), (4, (tget L 4)), (16, (tget L 3)), (17, a0), (18, (.int .i64 0))], m⟩) : Rg F 48 [1, 3, 4, 16, 17, 18] c48r3 L m Q := Tx_told (by kernel_rfl) h
theorem t48r4 (h : Obt (cbin Tryz.prog .lss 3 (.tmp 18) (.tmp 17) (tget L 18) (tget L 17)) fun a0 => Q .normal ⟨[(1, (tget L 1)), (3, (tget L 3)), (4, (tget L 4)), (16, (tget L 16)), (17, (tget L 17)), (18, (tget L 18)), (19, a0)], m⟩) : Rg F 48 [1, 3, 4, 16, 17, 18, 19] c48r4 L m Q := Tx_told (by kernel_rfl) h
theorem t48r5 (h : Obt (idxS 4 (tget L 16) (tget L 18)) fun a0 => Obt (ldA 4 m a0) fun a1 => Obt (stX 4 (newL m 96 [.int .i64 0, .bool false, .nilf, .nilf]) (newP m 96) a1) fun a2 => Q .normal ⟨[(1, (tget L 1)), (3, (tget L 3)), (4, (tget L 4)), (6, (newP m 96)), (16, (tget L 16)), (17, (tget L 17)), (18, (tget L 18))], a2⟩) : Rg F 48 [1, 3, 4, 6, 16, 17, 18] c48r5 L m Q := Tx_told (by kernel_rfl) h
theorem t48r6 (h : Obt (fldA 2 (tget L 6)) fun a0 => Obt (ld1 m a0) fun a1 => Obt (invokeC An F 48 (some 24) a1 [(tget L 1)] m) fun a2 => Q .normal ⟨[(1, (tget L 1)), (3, (tget L 3)), (4, (tget L 4)), (6, (tget L 6)), (7, a2.1), (16, (tget L 16)), (17, (tget L 17)), (18, (tget L 18))], a2.2⟩) : Rg F 48 [1, 3, 4, 6, 7, 16, 17, 18] c48r6 L m Q := Tx_told (by kernel_rfl) h
theorem t48r7 (h : Obt (ldA 4 m (tget L 6)) fun a0 => Obt (callC An F 48 (some 27) 75 [a0] m) fun a1 => Obt (extX 0 a1.1) fun a2 => Obt (extX 1 a1.1) fun a3 => Q .normal ⟨[(1, (tget L 1)), (3, (tget L 3)), (4, (tget L 4)), (6, (tget L 6)), (7, (tget L 7)), (8, a2), (9, a3), (16, (tget L 16)), (17, (tget L 17)), (18, (tget L 18))], a1.2⟩) : Rg F 48 [1, 3, 4, 6, 7, 8, 9, 16, 17, 18] c48r7 L m Q := Tx_told (by kernel_rfl) h
theorem t48r8 (h : Obt (cbin Tryz.prog .lss 3 (.tmp 30) (.tmp 31) (tget L 7) (tget L 8)) fun a0 => Obt (gdO a0 false (some ((tget L 7), m)) (.tuple [], m)) fun a1 => Obt (gdO a0 false (some ((tget L 9), a1.2)) (.tuple [], a1.2)) fun a2 => Obt (gdO a0 false ((cbin Tryz.prog .gtr 3 (.tmp 34) (.tmp 35) a1.1 a2.1).map fun v => (v, a2.2)) (.tuple [], a2.2)) fun a3 => Obt (pickX a0 (.bool true) a3.1) fun a4 => Q .normal ⟨[(1, (tget L 1)), (3, (tget L 3)), (4, (tget L 4)), (6, (tget L 6)), (7, (tget L 7)), (16, (tget L 16)), (17, (tget L 17)), (18, (tget L 18)), (37, a4)], a3.2⟩) : Rg F 48 [1, 3, 4, 6, 7, 16, 17, 18, 37] c48r8 L m Q := Tx_told (by kernel_rfl) h
theorem t48r9 (h : Q .normal ⟨[(2, (.bool false))], m⟩) : Rg F 48 [2] c48r9 L m Q := Tx_told (by kernel_rfl) h
theorem t48r10 (h : Obt (fldA 3 (tget L 6)) fun a0 => Obt (ld1 m a0) fun a1 => Obt (invokeC An F 48 (some 41) a1 [(tget L 4), (tget L 7)] m) fun a2 => Q .normal ⟨[(1, (tget L 1)), (3, (tget L 3)), (4, (tget L 4)), (16, (tget L 16)), (17, (tget L 17)), (18, (tget L 18))], a2.2⟩) : Rg F 48 [1, 3, 4, 16, 17, 18] c48r10 L m Q := Tx_told (by kernel_rfl) h
theorem t48r11 (h : Obt (cbin Tryz.prog .add 3 (.tmp 18) (.const (.int .i64 1)) (tget L 18) (.int .i64 1)) fun a0 => Q .normal ⟨[(1, (tget L 1)), (3, (tget L 3)), (4, (tget L 4)), (16, (tget L 16)), (17, (tget L 17)), (18, a0)], m⟩) : Rg F 48 [1, 3, 4, 16, 17, 18] c48r11 L m Q := Tx_told (by kernel_rfl) h
theorem t48r12 (h : Obt (lenS (tget L 3)) fun a0 => Obt (cbin Tryz.prog .gtr 3 (.tmp 44) (.const (.int .i64 0)) a0 (.int .i64 0)) fun a1 => Obt (gdO a1 true ((ldA 8 m (tget L 4)).map fun v => (v, m)) (.tuple [], m)) fun a2 => Obt (gdO a1 true ((ldA 8 a2.2 (tget L 1)).map fun v => (v, a2.2)) (.tuple [], a2.2)) fun a3 => Obt (gdO a1 true ((cbin Tryz.prog .eql 52 (.tmp 47) (.tmp 48) a2.1 a3.1).map fun v => (v, a3.2)) (.tuple [], a3.2)) fun a4 => Obt (pickX a1 a4.1 (.bool false)) fun a5 => Obt (gdO a5 true ((ldA 8 a4.2 (tget L 1)).map fun v => (v, a4.2)) (.tuple [], a4.2)) fun a6 => Obt (gdO a5 true (callC An F 48 (some 53) 76 [a6.1] a6.2) (.tuple [], a6.2)) fun a7 => Obt (pickX a5 a7.1 (.bool false)) fun a8 => Q .normal ⟨[(2, a8)], a7.2⟩) : Rg F 48 [2] c48r12 L m Q := Tx_told (by kernel_rfl) h
def c74r0 := rg 74 Tryz.f74 0
def c74r1 := rg 74 Tryz.f74 1
def c74r2 := rg 74 Tryz.f74 2
def c74r3 := rg 74 Tryz.f74 3
def c74r4 := rg 74 Tryz.f74 4
def c74r5 := rg 74 Tryz.f74 5
def c74r6 := rg 74 Tryz.f74 6
def c74r7 := rg 74 Tryz.f74 7
def c74r8 := rg 74 Tryz.f74 8
def c74r9 := rg 74 Tryz.f74 9
def c74r10 := rg 74 Tryz.f74 10
def c74r11 := rg 74 Tryz.f74 11
def c74r12 := rg 74 Tryz.f74 12
def c74r13 := rg 74 Tryz.f74 13
def c74r14 := rg 74 Tryz.f74 14
def c74r15 := rg 74 Tryz.f74 15
def c74r16 := rg 74 Tryz.f74 16
def c74r17 := rg 74 Tryz.f74 17
def c74r18 := rg 74 Tryz.f74 18
def c74r19 := rg 74 Tryz.f74 19
def c74r20 := rg 74 Tryz.f74 20
def c74r21 := rg 74 Tryz.f74 21
def c74r22 := rg 74 Tryz.f74 22
def c74r23 := rg 74 Tryz.f74 23
def c74r24 := rg 74 Tryz.f74 24
def c74 : SC :=
  (.seq (.reg false (some [0]) c74r0) (.seq (.block 0 (.seq (.reg false (some [0, 3]) c74r1) (.cond (.tmp 3) (.seq (.reg false (some [2]) c74r2) .ret) (.seq (.reg false (some [0, 12]) c74r3) (.cond (.tmp 12) (.seq (.reg false (some [2]) c74r4) .ret) (.seq (.reg false (some [0, 24]) c74r5) (.cond (.tmp 24) (.seq (.reg false (some [2]) c74r6) .ret) (.seq (.reg false (some [0, 35]) c74r7) (.cond (.tmp 35) (.seq (.reg false (some [2]) c74r8) .ret) .nop))))))))) (.seq (.seq (.reg false (some [46]) c74r9) (.block 1 (.seq (.block 9 (.seq (.block 8 (.block 7 (.seq (.block 6 (.block 5 (.seq (.block 4 (.seq (.block 3 (.seq (.block 2 (.seq (.seq (.seq (.reg false (some [46, 47]) c74r10) (.cond (.tmp 47) (.exit 2) .nop)) (.seq (.seq (.reg false (some [46, 49]) c74r11) (.cond (.tmp 49) (.exit 3) .nop)) (.seq (.seq (.reg false (some [46, 51]) c74r12) (.cond (.tmp 51) (.exit 4) .nop)) (.seq (.seq (.reg false (some [46, 53]) c74r13) (.cond (.tmp 53) (.exit 5) .nop)) (.seq (.seq (.reg false (some [46, 55]) c74r14) (.cond (.tmp 55) (.exit 6) .nop)) (.seq (.seq (.reg false (some [46, 57]) c74r15) (.cond (.tmp 57) (.exit 7) .nop)) (.seq (.seq (.reg false (some [46, 59]) c74r16) (.cond (.tmp 59) (.exit 8) .nop)) (.seq (.reg false (some [61]) c74r17) (.cond (.tmp 61) (.exit 9) .nop))))))))) (.exit 1))) (.seq (.seq (.reg false (some [2]) c74r18) .ret) (.exit 1)))) (.seq (.seq (.reg false (some [2]) c74r19) .ret) (.exit 1)))) (.seq (.seq (.reg false (some [2]) c74r20) .ret) (.exit 1))))) (.seq (.seq (.reg false (some [2]) c74r21) .ret) (.exit 1))))) (.seq (.seq (.reg false (some [2]) c74r22) .ret) (.exit 1)))) (.seq (.seq (.reg false (some [2]) c74r23) .ret) (.exit 1))))) (.seq (.reg false (some [2]) c74r24) .ret))))
theorem s74 : Tryz.f74.body.bind (strip Tryz.prog An 74 Tryz.f74.ntmps) = some c74 := by kernel_rfl
theorem g74 : An.glob 74 = [] := rfl
theorem r74 : Tryz.f74.results.toList = [(.tmp 2)] := by kernel_rfl
theorem t74r0 (h : Q .normal ⟨[(0, (tget L 0))], m⟩) : Rg F 74 [0] c74r0 L m Q := Tx_told (by kernel_rfl) h
theorem t74r1 (h : Obt (cbin Tryz.prog .eql 50 (.tmp 4) (.const (.int .i64 1)) (tget L 0) (.int .i64 1)) fun a0 => Q .normal ⟨[(0, (tget L 0)), (3, a0)], m⟩) : Rg F 74 [0, 3] c74r1 L m Q := Tx_told (by kernel_rfl) h
theorem t74r3 (h : Obt (cbin Tryz.prog .eql 50 (.tmp 13) (.const (.int .i64 2)) (tget L 0) (.int .i64 2)) fun a0 => Obt (gdO a0 false (some ((tget L 0), m)) (.tuple [], m)) fun a1 => Obt (gdO a0 false ((cbin Tryz.prog .eql 50 (.tmp 16) (.const (.int .i64 3)) a1.1 (.int .i64 3)).map fun v => (v, a1.2)) (.tuple [], a1.2)) fun a2 => Obt (pickX a0 (.bool true) a2.1) fun a3 => Q .normal ⟨[(0, (tget L 0)), (12, a3)], a2.2⟩) : Rg F 74 [0, 12] c74r3 L m Q := Tx_told (by kernel_rfl) h
theorem t74r5 (h : Obt (cbin Tryz.prog .geq 50 (.tmp 25) (.const (.int .i64 4)) (tget L 0) (.int .i64 4)) fun a0 => Obt (gdO a0 true (some ((tget L 0), m)) (.tuple [], m)) fun a1 => Obt (gdO a0 true ((cbin Tryz.prog .lss 50 (.tmp 28) (.const (.int .i64 12)) a1.1 (.int .i64 12)).map fun v => (v, a1.2)) (.tuple [], a1.2)) fun a2 => Obt (pickX a0 a2.1 (.bool false)) fun a3 => Q .normal ⟨[(0, (tget L 0)), (24, a3)], a2.2⟩) : Rg F 74 [0, 24] c74r5 L m Q := Tx_told (by kernel_rfl) h
theorem t74r7 (h : Obt (cbin Tryz.prog .geq 50 (.tmp 36) (.const (.int .i64 12)) (tget L 0) (.int .i64 12)) fun a0 => Obt (gdO a0 true (some ((tget L 0), m)) (.tuple [], m)) fun a1 => Obt (gdO a0 true ((cbin Tryz.prog .lss 50 (.tmp 39) (.const (.int .i64 20)) a1.1 (.int .i64 20)).map fun v => (v, a1.2)) (.tuple [], a1.2)) fun a2 => Obt (pickX a0 a2.1 (.bool false)) fun a3 => Q .normal ⟨[(0, (tget L 0)), (35, a3)], a2.2⟩) : Rg F 74 [0, 35] c74r7 L m Q := Tx_told (by kernel_rfl) h
theorem t74r9 (h : Q .normal ⟨[(46, (tget L 0))], m⟩) : Rg F 74 [46] c74r9 L m Q := Tx_told (by kernel_rfl) h
theorem t74r10 (h : Obt (cbin Tryz.prog .eql 50 (.tmp 46) (.const (.int .i64 20)) (tget L 46) (.int .i64 20)) fun a0 => Q .normal ⟨[(46, (tget L 46)), (47, a0)], m⟩) : Rg F 74 [46, 47] c74r10 L m Q := Tx_told (by kernel_rfl) h
theorem t74r11 (h : Obt (cbin Tryz.prog .eql 50 (.tmp 46) (.const (.int .i64 21)) (tget L 46) (.int .i64 21)) fun a0 => Q .normal ⟨[(46, (tget L 46)), (49, a0)], m⟩) : Rg F 74 [46, 49] c74r11 L m Q := Tx_told (by kernel_rfl) h
theorem t74r12 (h : Obt (cbin Tryz.prog .eql 50 (.tmp 46) (.const (.int .i64 22)) (tget L 46) (.int .i64 22)) fun a0 => Q .normal ⟨[(46, (tget L 46)), (51, a0)], m⟩) : Rg F 74 [46, 51] c74r12 L m Q := Tx_told (by kernel_rfl) h
theorem t74r13 (h : Obt (cbin Tryz.prog .eql 50 (.tmp 46) (.const (.int .i64 24)) (tget L 46) (.int .i64 24)) fun a0 => Q .normal ⟨[(46, (tget L 46)), (53, a0)], m⟩) : Rg F 74 [46, 53] c74r13 L m Q := Tx_told (by kernel_rfl) h
theorem t74r14 (h : Obt (cbin Tryz.prog .eql 50 (.tmp 46) (.const (.int .i64 25)) (tget L 46) (.int .i64 25)) fun a0 => Q .normal ⟨[(46, (tget L 46)), (55, a0)], m⟩) : Rg F 74 [46, 55] c74r14 L m Q := Tx_told (by kernel_rfl) h
theorem t74r15 (h : Obt (cbin Tryz.prog .eql 50 (.tmp 46) (.const (.int .i64 26)) (tget L 46) (.int .i64 26)) fun a0 => Q .normal ⟨[(46, (tget L 46)), (57, a0)], m⟩) : Rg F 74 [46, 57] c74r15 L m Q := Tx_told (by kernel_rfl) h
theorem t74r16 (h : Obt (cbin Tryz.prog .eql 50 (.tmp 46) (.const (.int .i64 27)) (tget L 46) (.int .i64 27)) fun a0 => Q .normal ⟨[(46, (tget L 46)), (59, a0)], m⟩) : Rg F 74 [46, 59] c74r16 L m Q := Tx_told (by kernel_rfl) h
theorem t74r17 (h : Obt (cbin Tryz.prog .eql 50 (.tmp 46) (.const (.int .i64 23)) (tget L 46) (.int .i64 23)) fun a0 => Q .normal ⟨[(61, a0)], m⟩) : Rg F 74 [61] c74r17 L m Q := Tx_told (by kernel_rfl) h
theorem t74r18 (h : Obt (callC An F 74 (some 63) 105 [] m) fun a0 => Obt (callC An F 74 (some 64) 106 [] a0.2) fun a1 => Obt (callC An F 74 (some 65) 113 [] a1.2) fun a2 => Obt (callC An F 74 (some 66) 107 [] a2.2) fun a3 => Obt (callC An F 74 (some 67) 112 [(.int .i64 11), (.bool true)] a3.2) fun a4 => Obt (bslX false 1088 4 5 [.int .i64 0, .bool false, .nilf, .nilf, .int .i64 0, .bool false, .nilf, .nilf, .int .i64 0, .bool false, .nilf, .nilf, .int .i64 0, .bool false, .nilf, .nilf, .int .i64 0, .bool false, .nilf, .nilf] [(0, 4, a0.1), (4, 4, a1.1), (8, 4, a2.1), (12, 4, a3.1), (16, 4, a4.1)] a4.2) fun a5 => Q .normal ⟨[(2, a5.1)], a5.2⟩) : Rg F 74 [2] c74r18 L m Q := Tx_told (by kernel_rfl) h
theorem t74r24 (h : Q .normal ⟨[(2, .nil)], m⟩) : Rg F 74 [2] c74r24 L m Q := Tx_told (by kernel_rfl) h
def c76r0 := rg 76 Tryz.f76 0
def c76r1 := rg 76 Tryz.f76 1
def c76r2 := rg 76 Tryz.f76 2
def c76r3 := rg 76 Tryz.f76 3
def c76r4 := rg 76 Tryz.f76 4
def c76r5 := rg 76 Tryz.f76 5
def c76r6 := rg 76 Tryz.f76 6
def c76r7 := rg 76 Tryz.f76 7
def c76r8 := rg 76 Tryz.f76 8
def c76r9 := rg 76 Tryz.f76 9
def c76r10 := rg 76 Tryz.f76 10
def c76 : SC :=
  (.seq (.reg false (some [1]) c76r0) (.seq (.seq (.reg false (some [1, 6]) c76r1) (.block 0 (.seq (.reg false (some [1, 6, 7]) c76r2) (.cond (.tmp 7) (.seq (.reg false (some [4]) c76r3) (.seq (.reg false (some [2]) c76r4) .ret)) (.seq (.reg false (some [1, 6, 16]) c76r5) (.cond (.tmp 16) (.seq (.reg false (some [2]) c76r6) .ret) (.seq (.seq (.reg false (some [1, 6, 26]) c76r7) (.cond (.tmp 26) .nop (.reg false (some [1, 26]) c76r8))) (.cond (.tmp 26) (.seq (.reg false (some [2]) c76r9) .ret) .nop)))))))) (.seq (.reg false (some [2]) c76r10) .ret)))
theorem s76 : Tryz.f76.body.bind (strip Tryz.prog An 76 Tryz.f76.ntmps) = some c76 := by kernel_rfl
theorem g76 : An.glob 76 = [] := rfl
theorem r76 : Tryz.f76.results.toList = [(.tmp 2)] := by kernel_rfl
theorem t76r0 (h : Obt (ccells (tget L 0)) fun a0 => Q .normal ⟨[(1, (newP m 16))], (newL m 16 a0)⟩) : Rg F 76 [1] c76r0 L m Q := Tx_told (by kernel_rfl) h
theorem t76r1 (h : Obt (fldA 0 (tget L 1)) fun a0 => Obt (ld1 m a0) fun a1 => Q .normal ⟨[(1, (tget L 1)), (6, a1)], m⟩) : Rg F 76 [1, 6] c76r1 L m Q := Tx_told (by kernel_rfl) h
theorem t76r2 (h : Obt (cbin Tryz.prog .eql 50 (.tmp 6) (.const (.int .i64 1)) (tget L 6) (.int .i64 1)) fun a0 => Q .normal ⟨[(1, (tget L 1)), (6, (tget L 6)), (7, a0)], m⟩) : Rg F 76 [1, 6, 7] c76r2 L m Q := Tx_told (by kernel_rfl) h
theorem t76r3 (h : Obt (fldA 4 (tget L 1)) fun a0 => Obt (ld1 m a0) fun a1 => Obt (callC An F 76 (some 12) 114 [a1, (.int .u64 0), (.int .u64 0), (.bool true)] m) fun a2 => Obt (extX 0 a2.1) fun a3 => Obt (extX 1 a2.1) fun a4 => Q .normal ⟨[(4, a4)], a2.2⟩) : Rg F 76 [4] c76r3 L m Q := Tx_told (by kernel_rfl) h
theorem t76r4 (h : Q .normal ⟨[(2, (tget L 4))], m⟩) : Rg F 76 [2] c76r4 L m Q := Tx_told (by kernel_rfl) h
theorem t76r5 (h : Obt (cbin Tryz.prog .eql 50 (.tmp 6) (.const (.int .i64 22)) (tget L 6) (.int .i64 22)) fun a0 => Q .normal ⟨[(1, (tget L 1)), (6, (tget L 6)), (16, a0)], m⟩) : Rg F 76 [1, 6, 16] c76r5 L m Q := Tx_told (by kernel_rfl) h
theorem t76r6 (h : Obt (fldA 7 (tget L 1)) fun a0 => Obt (ld1 m a0) fun a1 => Obt (cbin Tryz.prog .geq 3 (.tmp 19) (.const (.int .i64 1)) a1 (.int .i64 1)) fun a2 => Obt (gdO a2 true ((fldA 7 (tget L 1)).map fun v => (v, m)) (.tuple [], m)) fun a3 => Obt (gdO a2 true ((ld1 a3.2 a3.1).map fun v => (v, a3.2)) (.tuple [], a3.2)) fun a4 => Obt (gdO a2 true ((cbin Tryz.prog .leq 3 (.tmp 23) (.const (.int .i64 5)) a4.1 (.int .i64 5)).map fun v => (v, a4.2)) (.tuple [], a4.2)) fun a5 => Obt (pickX a2 a5.1 (.bool false)) fun a6 => Q .normal ⟨[(2, a6)], a5.2⟩) : Rg F 76 [2] c76r6 L m Q := Tx_told (by kernel_rfl) h
theorem t76r7 (h : Obt (cbin Tryz.prog .eql 50 (.tmp 6) (.const (.int .i64 24)) (tget L 6) (.int .i64 24)) fun a0 => Q .normal ⟨[(1, (tget L 1)), (6, (tget L 6)), (26, a0)], m⟩) : Rg F 76 [1, 6, 26] c76r7 L m Q := Tx_told (by kernel_rfl) h
theorem t76r8 (h : Obt (cbin Tryz.prog .eql 50 (.tmp 6) (.const (.int .i64 25)) (tget L 6) (.int .i64 25)) fun a0 => Q .normal ⟨[(1, (tget L 1)), (26, a0)], m⟩) : Rg F 76 [1, 26] c76r8 L m Q := Tx_told (by kernel_rfl) h
theorem t76r9 (h : Obt (fldA 7 (tget L 1)) fun a0 => Obt (ld1 m a0) fun a1 => Obt (cbin Tryz.prog .lss 3 (.tmp 30) (.const (.int .i64 256)) a1 (.int .i64 256)) fun a2 => Q .normal ⟨[(2, a2)], m⟩) : Rg F 76 [2] c76r9 L m Q := Tx_told (by kernel_rfl) h
theorem t76r10 (h : Q .normal ⟨[(2, (.bool true))], m⟩) : Rg F 76 [2] c76r10 L m Q := Tx_told (by kernel_rfl) h
def c102r0 := rg 102 Tryz.f102 0
def c102r1 := rg 102 Tryz.f102 1
def c102r2 := rg 102 Tryz.f102 2
def c102r3 := rg 102 Tryz.f102 3
def c102r4 := rg 102 Tryz.f102 4
def c102r5 := rg 102 Tryz.f102 5
def c102r6 := rg 102 Tryz.f102 6
def c102l0 : SC :=
  (.seq (.reg false (some [0, 1, 7, 8, 9]) c102r2) (.seq (.cond (.tmp 9) .nop (.exit 0)) (.seq (.block 1 (.seq (.reg false (some [0, 1, 5, 7, 8]) c102r3) (.seq (.reg false (some [0, 1, 5, 7, 8, 16]) c102r4) (.cond (.tmp 16) (.seq (.reg false (some [4]) c102r5) .ret) .nop)))) (.reg false (some [0, 1, 7, 8]) c102r6))))
def c102r7 := rg 102 Tryz.f102 7
def c102 : SC :=
  (.seq (.reg false (some [0, 1]) c102r0) (.seq (.seq (.reg false (some [0, 1, 7, 8]) c102r1) (.block 0 (.loop c102l0))) (.seq (.reg false (some [4]) c102r7) .ret)))
theorem s102 : Tryz.f102.body.bind (strip Tryz.prog An 102 Tryz.f102.ntmps) = some c102 := by kernel_rfl
theorem g102 : An.glob 102 = [] := rfl
theorem r102 : Tryz.f102.results.toList = [(.tmp 4)] := by kernel_rfl
theorem t102r0 (h : Q .normal ⟨[(0, (tget L 0)), (1, (tget L 1))], m⟩) : Rg F 102 [0, 1] c102r0 L m Q := Tx_told (by kernel_rfl) h
theorem t102r1 (h : Obt (lenS (tget L 0)) fun a0 => Q .normal ⟨[(0, (tget L 0)), (1, (tget L 1)), (7, a0), (8, (.int .i64 0))], m⟩) : Rg F 102 [0, 1, 7, 8] c102r1 L m Q := Tx_told (by kernel_rfl) h
theorem t102r2 (h : Obt (cbin Tryz.prog .lss 3 (.tmp 8) (.tmp 7) (tget L 8) (tget L 7)) fun a0 => Q .normal ⟨[(0, (tget L 0)), (1, (tget L 1)), (7, (tget L 7)), (8, (tget L 8)), (9, a0)], m⟩) : Rg F 102 [0, 1, 7, 8, 9] c102r2 L m Q := Tx_told (by kernel_rfl) h
theorem t102r3 (h : Q .normal ⟨[(0, (tget L 0)), (1, (tget L 1)), (5, (tget L 8)), (7, (tget L 7)), (8, (tget L 8))], m⟩) : Rg F 102 [0, 1, 5, 7, 8] c102r3 L m Q := Tx_told (by kernel_rfl) h
theorem t102r4 (h : Obt (idxS 1 (tget L 0) (tget L 5)) fun a0 => Obt (ld1 m a0) fun a1 => Obt (cbin Tryz.prog .eql 3 (.tmp 11) (.tmp 15) (tget L 1) a1) fun a2 => Q .normal ⟨[(0, (tget L 0)), (1, (tget L 1)), (5, (tget L 5)), (7, (tget L 7)), (8, (tget L 8)), (16, a2)], m⟩) : Rg F 102 [0, 1, 5, 7, 8, 16] c102r4 L m Q := Tx_told (by kernel_rfl) h
theorem t102r5 (h : Q .normal ⟨[(4, (tget L 5))], m⟩) : Rg F 102 [4] c102r5 L m Q := Tx_told (by kernel_rfl) h
theorem t102r6 (h : Obt (cbin Tryz.prog .add 3 (.tmp 8) (.const (.int .i64 1)) (tget L 8) (.int .i64 1)) fun a0 => Q .normal ⟨[(0, (tget L 0)), (1, (tget L 1)), (7, (tget L 7)), (8, a0)], m⟩) : Rg F 102 [0, 1, 7, 8] c102r6 L m Q := Tx_told (by kernel_rfl) h
theorem t102r7 (h : Q .normal ⟨[(4, (.int .i64 (-1)))], m⟩) : Rg F 102 [4] c102r7 L m Q := Tx_told (by kernel_rfl) h
theorem cl157 {m : Mem} {p : CV} : cload Tryz.prog m 157 p = ldA 4 m p := by kernel_rfl
def c110r0 := rg 110 Tryz.f110 0
def c110r1 := rg 110 Tryz.f110 1
def c110 : SC :=
  (.seq (.reg false (some [0]) c110r0) (.seq (.reg false (some [2]) c110r1) .ret))
theorem s110 : Tryz.f110.body.bind (strip Tryz.prog An 110 Tryz.f110.ntmps) = some c110 := by kernel_rfl
theorem g110 : An.glob 110 = [] := rfl
theorem r110 : Tryz.f110.results.toList = [(.tmp 2)] := by kernel_rfl
theorem t110r0 (h : Q .normal ⟨[(0, (tget L 0))], m⟩) : Rg F 110 [0] c110r0 L m Q := Tx_told (by kernel_rfl) h
theorem t110r1 (h : Obt (nilX (tget L 0)) fun a0 => Obt (fldA 6 a0) fun a1 => Q .normal ⟨[(2, a1)], m⟩) : Rg F 110 [2] c110r1 L m Q := Tx_told (by kernel_rfl) h
def c113r0 := rg 113 Tryz.f113 0
def c113r1 := rg 113 Tryz.f113 1
def c113r2 := rg 113 Tryz.f113 2
def c113 : SC :=
  (.seq (.reg false (some [0]) c113r0) (.seq (.reg false (some [0, 1]) c113r1) (.seq (.reg false (some [0]) c113r2) .ret)))
theorem s113 : Tryz.f113.body.bind (strip Tryz.prog An 113 Tryz.f113.ntmps) = some c113 := by kernel_rfl
theorem g113 : An.glob 113 = [1] := rfl
theorem r113 : Tryz.f113.results.toList = [(.cell 0 157)] := by kernel_rfl
theorem t113r0 (h : Q .normal ⟨[(0, (newP m 0))], (newL m 0 [.int .i64 0, .bool false, .nilf, .nilf])⟩) : Rg F 113 [0] c113r0 L m Q := Tx_told (by kernel_rfl) h
theorem t113r1 (h : Obt (callC An F 113 (some 2) 166 [] m) fun a0 => Obt (some (gnewP a0.2, gnewA a0.2 1 [.int .i64 0, .int .i64 0, .int .i64 0, .int .i64 0, .int .i64 0, .int .i64 0, .int .i64 0, .int .i64 0, .int .i64 0, .int .i64 0, .int .i64 0])) fun a1 => Obt (stX 11 a1.2 a1.1 a0.1) fun a2 => Q .normal ⟨[(0, (tget L 0)), (1, a1.1)], a2⟩) : Rg F 113 [0, 1] c113r1 L m Q := Tx_told (by kernel_rfl) h
theorem t113r2 (h : Obt ((fillX [.int .i64 0, .bool false, .nilf, .nilf] [(0, 1, (.int .i64 4)), (1, 1, (.bool false)), (2, 1, (.func (.func 167) [] [(tget L 1)])), (3, 1, (.func (.func 168) [] [(tget L 1)]))]).map CV.agg) fun a0 => Obt (stX 4 m (tget L 0) a0) fun a1 => Q .normal ⟨[(0, (tget L 0))], a1⟩) : Rg F 113 [0] c113r2 L m Q := Tx_told (by kernel_rfl) h
def c153r0 := rg 153 Tryz.f153 0
def c153r1 := rg 153 Tryz.f153 1
def c153 : SC :=
  (.seq (.reg false (some [0]) c153r0) (.seq (.reg false (some [2]) c153r1) .ret))
theorem s153 : Tryz.f153.body.bind (strip Tryz.prog An 153 Tryz.f153.ntmps) = some c153 := by kernel_rfl
theorem g153 : An.glob 153 = [] := rfl
theorem r153 : Tryz.f153.results.toList = [(.tmp 2)] := by kernel_rfl
theorem t153r0 (h : Q .normal ⟨[(0, (tget L 0))], m⟩) : Rg F 153 [0] c153r0 L m Q := Tx_told (by kernel_rfl) h
theorem t153r1 (h : Obt (nilX (tget L 0)) fun a0 => Obt (fldA 1 a0) fun a1 => Q .normal ⟨[(2, a1)], m⟩) : Rg F 153 [2] c153r1 L m Q := Tx_told (by kernel_rfl) h
def c154r0 := rg 154 Tryz.f154 0
def c154r1 := rg 154 Tryz.f154 1
def c154 : SC :=
  (.seq (.reg false (some [0]) c154r0) (.seq (.reg false (some [2]) c154r1) .ret))
theorem s154 : Tryz.f154.body.bind (strip Tryz.prog An 154 Tryz.f154.ntmps) = some c154 := by kernel_rfl
theorem g154 : An.glob 154 = [] := rfl
theorem r154 : Tryz.f154.results.toList = [(.tmp 2)] := by kernel_rfl
theorem t154r0 (h : Q .normal ⟨[(0, (tget L 0))], m⟩) : Rg F 154 [0] c154r0 L m Q := Tx_told (by kernel_rfl) h
theorem t154r1 (h : Obt (nilX (tget L 0)) fun a0 => Obt (fldA 2 a0) fun a1 => Q .normal ⟨[(2, a1)], m⟩) : Rg F 154 [2] c154r1 L m Q := Tx_told (by kernel_rfl) h
def c155r0 := rg 155 Tryz.f155 0
def c155r1 := rg 155 Tryz.f155 1
def c155 : SC :=
  (.seq (.reg false (some [0]) c155r0) (.seq (.reg false (some [2]) c155r1) .ret))
theorem s155 : Tryz.f155.body.bind (strip Tryz.prog An 155 Tryz.f155.ntmps) = some c155 := by kernel_rfl
theorem g155 : An.glob 155 = [] := rfl
theorem r155 : Tryz.f155.results.toList = [(.tmp 2)] := by kernel_rfl
theorem t155r0 (h : Q .normal ⟨[(0, (tget L 0))], m⟩) : Rg F 155 [0] c155r0 L m Q := Tx_told (by kernel_rfl) h
theorem t155r1 (h : Obt (nilX (tget L 0)) fun a0 => Obt (fldA 3 a0) fun a1 => Q .normal ⟨[(2, a1)], m⟩) : Rg F 155 [2] c155r1 L m Q := Tx_told (by kernel_rfl) h
def c156r0 := rg 156 Tryz.f156 0
def c156r1 := rg 156 Tryz.f156 1
def c156 : SC :=
  (.seq (.reg false (some [0]) c156r0) (.seq (.reg false (some [2]) c156r1) .ret))
theorem s156 : Tryz.f156.body.bind (strip Tryz.prog An 156 Tryz.f156.ntmps) = some c156 := by kernel_rfl
theorem g156 : An.glob 156 = [] := rfl
theorem r156 : Tryz.f156.results.toList = [(.tmp 2)] := by kernel_rfl
theorem t156r0 (h : Q .normal ⟨[(0, (tget L 0))], m⟩) : Rg F 156 [0] c156r0 L m Q := Tx_told (by kernel_rfl) h
theorem t156r1 (h : Obt (nilX (tget L 0)) fun a0 => Obt (fldA 5 a0) fun a1 => Obt (ld1 m a1) fun a2 => Obt (callC An F 156 (some 7) 157 [a2] m) fun a3 => Q .normal ⟨[(2, a3.1)], a3.2⟩) : Rg F 156 [2] c156r1 L m Q := Tx_told (by kernel_rfl) h
def c157r0 := rg 157 Tryz.f157 0
def c157r1 := rg 157 Tryz.f157 1
def c157r2 := rg 157 Tryz.f157 2
def c157r3 := rg 157 Tryz.f157 3
def c157 : SC :=
  (.seq (.reg false (some [0]) c157r0) (.seq (.seq (.reg false (some [3]) c157r1) (.cond (.tmp 3) (.seq (.reg false (some [2]) c157r2) .ret) .nop)) (.seq (.reg false (some [2]) c157r3) .ret)))
theorem s157 : Tryz.f157.body.bind (strip Tryz.prog An 157 Tryz.f157.ntmps) = some c157 := by kernel_rfl
theorem g157 : An.glob 157 = [] := rfl
theorem r157 : Tryz.f157.results.toList = [(.tmp 2)] := by kernel_rfl
theorem t157r0 (h : Q .normal ⟨[(0, (tget L 0))], m⟩) : Rg F 157 [0] c157r0 L m Q := Tx_told (by kernel_rfl) h
theorem t157r1 (h : Q .normal ⟨[(3, (tget L 0))], m⟩) : Rg F 157 [3] c157r1 L m Q := Tx_told (by kernel_rfl) h
theorem t157r2 (h : Q .normal ⟨[(2, (.int .i64 1))], m⟩) : Rg F 157 [2] c157r2 L m Q := Tx_told (by kernel_rfl) h
theorem t157r3 (h : Q .normal ⟨[(2, (.int .i64 0))], m⟩) : Rg F 157 [2] c157r3 L m Q := Tx_told (by kernel_rfl) h
def c158r0 := rg 158 Tryz.f158 0
def c158 : SC :=
  (.reg false (some []) c158r0)
theorem s158 : Tryz.f158.body.bind (strip Tryz.prog An 158 Tryz.f158.ntmps) = some c158 := by kernel_rfl
theorem g158 : An.glob 158 = [] := rfl
theorem r158 : Tryz.f158.results.toList = [] := by kernel_rfl
theorem t158r0 (h : Obt (cbin Tryz.prog .gtr 3 (.tmp 5) (.const (.int .i64 0)) (tget L 1) (.int .i64 0)) fun a0 => Obt (nilX (tget L 0)) fun a1 => Obt (fldA 5 a1) fun a2 => Obt (stX 1 m a2 a0) fun a3 => Q .normal ⟨[], a3⟩) : Rg F 158 [] c158r0 L m Q := Tx_told (by kernel_rfl) h
def c159r0 := rg 159 Tryz.f159 0
def c159r1 := rg 159 Tryz.f159 1
def c159 : SC :=
  (.seq (.reg false (some [0]) c159r0) (.seq (.reg false (some [2]) c159r1) .ret))
theorem s159 : Tryz.f159.body.bind (strip Tryz.prog An 159 Tryz.f159.ntmps) = some c159 := by kernel_rfl
theorem g159 : An.glob 159 = [] := rfl
theorem r159 : Tryz.f159.results.toList = [(.tmp 2)] := by kernel_rfl
theorem t159r0 (h : Q .normal ⟨[(0, (tget L 0))], m⟩) : Rg F 159 [0] c159r0 L m Q := Tx_told (by kernel_rfl) h
theorem t159r1 (h : Obt (nilX (tget L 0)) fun a0 => Obt (fldA 4 a0) fun a1 => Obt (ld1 m a1) fun a2 => Obt (cbin Tryz.prog .quo 3 (.tmp 6) (.const (.int .i64 16)) a2 (.int .i64 16)) fun a3 => Q .normal ⟨[(2, a3)], m⟩) : Rg F 159 [2] c159r1 L m Q := Tx_told (by kernel_rfl) h
def c160r0 := rg 160 Tryz.f160 0
def c160 : SC :=
  (.reg false (some []) c160r0)
theorem s160 : Tryz.f160.body.bind (strip Tryz.prog An 160 Tryz.f160.ntmps) = some c160 := by kernel_rfl
theorem g160 : An.glob 160 = [] := rfl
theorem r160 : Tryz.f160.results.toList = [] := by kernel_rfl
theorem t160r0 (h : Obt (cbin Tryz.prog .mul 3 (.const (.int .i64 16)) (.tmp 5) (.int .i64 16) (tget L 1)) fun a0 => Obt (nilX (tget L 0)) fun a1 => Obt (fldA 4 a1) fun a2 => Obt (stX 1 m a2 a0) fun a3 => Q .normal ⟨[], a3⟩) : Rg F 160 [] c160r0 L m Q := Tx_told (by kernel_rfl) h
def c161r0 := rg 161 Tryz.f161 0
def c161r1 := rg 161 Tryz.f161 1
def c161 : SC :=
  (.seq (.reg false (some [0, 1]) c161r0) (.seq (.reg false (some [3]) c161r1) .ret))
theorem s161 : Tryz.f161.body.bind (strip Tryz.prog An 161 Tryz.f161.ntmps) = some c161 := by kernel_rfl
theorem g161 : An.glob 161 = [] := rfl
theorem r161 : Tryz.f161.results.toList = [(.tmp 3)] := by kernel_rfl
theorem t161r0 (h : Q .normal ⟨[(0, (tget L 0)), (1, (tget L 1))], m⟩) : Rg F 161 [0, 1] c161r0 L m Q := Tx_told (by kernel_rfl) h
theorem t161r1 (h : Obt (ld1 m (tget L 1)) fun a0 => Obt (invokeC An F 161 (some 6) a0 [(tget L 0)] m) fun a1 => Obt (nilX a1.1) fun a2 => Obt (ld1 a1.2 a2) fun a3 => Q .normal ⟨[(3, a3)], a1.2⟩) : Rg F 161 [3] c161r1 L m Q := Tx_told (by kernel_rfl) h
def c162r0 := rg 162 Tryz.f162 0
def c162 : SC :=
  (.reg false (some []) c162r0)
theorem s162 : Tryz.f162.body.bind (strip Tryz.prog An 162 Tryz.f162.ntmps) = some c162 := by kernel_rfl
theorem g162 : An.glob 162 = [] := rfl
theorem r162 : Tryz.f162.results.toList = [] := by kernel_rfl
theorem t162r0 (h : Obt (ld1 m (tget L 2)) fun a0 => Obt (invokeC An F 162 (some 7) a0 [(tget L 0)] m) fun a1 => Obt (nilX a1.1) fun a2 => Obt (stX 1 a1.2 a2 (tget L 1)) fun a3 => Q .normal ⟨[], a3⟩) : Rg F 162 [] c162r0 L m Q := Tx_told (by kernel_rfl) h
def c163r0 := rg 163 Tryz.f163 0
def c163r1 := rg 163 Tryz.f163 1
def c163 : SC :=
  (.seq (.reg false (some []) c163r0) (.seq (.reg false (some [2]) c163r1) .ret))
theorem s163 : Tryz.f163.body.bind (strip Tryz.prog An 163 Tryz.f163.ntmps) = some c163 := by kernel_rfl
theorem g163 : An.glob 163 = [] := rfl
theorem r163 : Tryz.f163.results.toList = [(.tmp 2)] := by kernel_rfl
theorem t163r0 (h : Q .normal ⟨[], m⟩) : Rg F 163 [] c163r0 L m Q := Tx_told (by kernel_rfl) h
theorem t163r1 (h : Q .normal ⟨[(2, (.int .i64 0))], m⟩) : Rg F 163 [2] c163r1 L m Q := Tx_told (by kernel_rfl) h
def c164 : SC :=
  .nop
theorem s164 : Tryz.f164.body.bind (strip Tryz.prog An 164 Tryz.f164.ntmps) = some c164 := by kernel_rfl
theorem g164 : An.glob 164 = [] := rfl
theorem r164 : Tryz.f164.results.toList = [] := by kernel_rfl
def c165r0 := rg 165 Tryz.f165 0
def c165r1 := rg 165 Tryz.f165 1
def c165 : SC :=
  (.seq (.reg false (some [0]) c165r0) (.seq (.reg false (some [2]) c165r1) .ret))
theorem s165 : Tryz.f165.body.bind (strip Tryz.prog An 165 Tryz.f165.ntmps) = some c165 := by kernel_rfl
theorem g165 : An.glob 165 = [] := rfl
theorem r165 : Tryz.f165.results.toList = [(.tmp 2)] := by kernel_rfl
theorem t165r0 (h : Q .normal ⟨[(0, (tget L 0))], m⟩) : Rg F 165 [0] c165r0 L m Q := Tx_told (by kernel_rfl) h
theorem t165r1 (h : Obt (nilX (tget L 0)) fun a0 => Obt (fldA 7 a0) fun a1 => Q .normal ⟨[(2, a1)], m⟩) : Rg F 165 [2] c165r1 L m Q := Tx_told (by kernel_rfl) h
def c167r0 := rg 167 Tryz.f167 0
def c167r1 := rg 167 Tryz.f167 1
def c167 : SC :=
  (.seq (.reg false (some [0, 1]) c167r0) (.seq (.reg true (some [3]) c167r1) .ret))
theorem s167 : Tryz.f167.body.bind (strip Tryz.prog An 167 Tryz.f167.ntmps) = some c167 := by kernel_rfl
theorem g167 : An.glob 167 = [] := rfl
theorem r167 : Tryz.f167.results.toList = [(.tmp 3)] := by kernel_rfl
theorem t167r0 (h : Q .normal ⟨[(0, (tget L 0)), (1, (tget L 1))], m⟩) : Rg F 167 [0, 1] c167r0 L m Q := Tx_told (by kernel_rfl) h
theorem t167r1 (h : Obt (slcA 11 1 (tget L 1) none none none m) fun a0 => Obt (nilX (tget L 0)) fun a1 => Obt (fldA 4 a1) fun a2 => Obt (ld1 m a2) fun a3 => Obt (callC An F 167 (some 9) 102 [a0, a3] m) fun a4 => Q .normal ⟨[(3, a4.1)], a4.2⟩) : Rt F 167 [3] c167r1 L m Q := Tx_told (by kernel_rfl) h
def c168r0 := rg 168 Tryz.f168 0
def c168r1 := rg 168 Tryz.f168 1
def c168r2 := rg 168 Tryz.f168 2
def c168 : SC :=
  (.seq (.reg false (some [0, 1, 2]) c168r0) (.seq (.reg false (some [0, 1, 2, 9]) c168r1) (.cond (.tmp 9) (.reg false (some []) c168r2) .nop)))
theorem s168 : Tryz.f168.body.bind (strip Tryz.prog An 168 Tryz.f168.ntmps) = some c168 := by kernel_rfl
theorem g168 : An.glob 168 = [] := rfl
theorem r168 : Tryz.f168.results.toList = [] := by kernel_rfl
theorem t168r0 (h : Obt (nilX (tget L 0)) fun a0 => Obt (fldA 4 a0) fun a1 => Obt (stX 1 m a1 (.int .i64 (-1))) fun a2 => Q .normal ⟨[(0, (tget L 0)), (1, (tget L 1)), (2, (tget L 2))], a2⟩) : Rg F 168 [0, 1, 2] c168r0 L m Q := Tx_told (by kernel_rfl) h
theorem t168r1 (h : Obt (cbin Tryz.prog .lss 3 (.tmp 8) (.const (.int .i64 11)) (tget L 1) (.int .i64 11)) fun a0 => Q .normal ⟨[(0, (tget L 0)), (1, (tget L 1)), (2, (tget L 2)), (9, a0)], m⟩) : Rg F 168 [0, 1, 2, 9] c168r1 L m Q := Tx_told (by kernel_rfl) h
theorem t168r2 (h : Obt (idxA 11 1 (tget L 2) (tget L 1)) fun a0 => Obt (ld1 m a0) fun a1 => Obt (nilX (tget L 0)) fun a2 => Obt (fldA 4 a2) fun a3 => Obt (stX 1 m a3 a1) fun a4 => Q .normal ⟨[], a4⟩) : Rg F 168 [] c168r2 L m Q := Tx_told (by kernel_rfl) h
def c37r0 := rg 37 Tryz.f37 0
def c37r1 := rg 37 Tryz.f37 1
def c37r2 := rg 37 Tryz.f37 2
def c37r3 := rg 37 Tryz.f37 3
def c37r5 := rg 37 Tryz.f37 5
def c37r6 := rg 37 Tryz.f37 6
def c37r4 := rg 37 Tryz.f37 4
def c37l0 : SC :=
  (.seq (.seq (.reg false (some [0, 3, 4, 9]) c37r3) (.cond (.tmp 9) .nop (.exit 0))) (.seq (.block 1 (.seq (.reg false (some [0, 3, 4, 17]) c37r5) (.cond (.tmp 17) (.seq (.reg false (some [2]) c37r6) .ret) .nop))) (.reg false (some [0, 3, 4]) c37r4)))
def c37r7 := rg 37 Tryz.f37 7
def c37 : SC :=
  (.seq (.reg false (some [0]) c37r0) (.seq (.reg false (some [0, 3]) c37r1) (.seq (.seq (.reg false (some [0, 3, 4]) c37r2) (.block 0 (.loop c37l0))) (.seq (.reg false (some [2]) c37r7) .ret))))
theorem s37 : Tryz.f37.body.bind (strip Tryz.prog An 37 Tryz.f37.ntmps) = some c37 := by kernel_rfl
theorem g37 : An.glob 37 = [] := rfl
theorem r37 : Tryz.f37.results.toList = [(.tmp 2)] := by kernel_rfl
theorem t37r0 (h : Q .normal ⟨[(0, (tget L 0))], m⟩) : Rg F 37 [0] c37r0 L m Q := Tx_told (by kernel_rfl) h
theorem t37r1 (h : Obt (callC An F 37 (some 5) 62 [] m) fun a0 => Q .normal ⟨[(0, (tget L 0)), (3, a0.1)], a0.2⟩) : Rg F 37 [0, 3] c37r1 L m Q := Tx_told (by kernel_rfl) h
theorem t37r2 (h : Q .normal ⟨[(0, (tget L 0)), (3, (tget L 3)), (4, (.int .i64 0))], m⟩) : Rg F 37 [0, 3, 4] c37r2 L m Q := Tx_told (by kernel_rfl) h
theorem t37r3 (h : Obt (lenS (tget L 3)) fun a0 => Obt (cbin Tryz.prog .lss 3 (.tmp 6) (.tmp 8) (tget L 4) a0) fun a1 => Q .normal ⟨[(0, (tget L 0)), (3, (tget L 3)), (4, (tget L 4)), (9, a1)], m⟩) : Rg F 37 [0, 3, 4, 9] c37r3 L m Q := Tx_told (by kernel_rfl) h
theorem t37r5 (h : Obt (idxS 1 (tget L 3) (tget L 4)) fun a0 => Obt (ld1 m a0) fun a1 => Obt (cbin Tryz.prog .eql 3 (.tmp 15) (.tmp 16) a1 (tget L 0)) fun a2 => Q .normal ⟨[(0, (tget L 0)), (3, (tget L 3)), (4, (tget L 4)), (17, a2)], m⟩) : Rg F 37 [0, 3, 4, 17] c37r5 L m Q := Tx_told (by kernel_rfl) h
theorem t37r6 (h : Q .normal ⟨[(2, (tget L 4))], m⟩) : Rg F 37 [2] c37r6 L m Q := Tx_told (by kernel_rfl) h
theorem t37r4 (h : Obt (cbin Tryz.prog .add 3 (.tmp 10) (.const (.int .i64 1)) (tget L 4) (.int .i64 1)) fun a0 => Q .normal ⟨[(0, (tget L 0)), (3, (tget L 3)), (4, a0)], m⟩) : Rg F 37 [0, 3, 4] c37r4 L m Q := Tx_told (by kernel_rfl) h
theorem t37r7 (h : Q .normal ⟨[(2, (.int .i64 (-1)))], m⟩) : Rg F 37 [2] c37r7 L m Q := Tx_told (by kernel_rfl) h
def c62r0 := rg 62 Tryz.f62 0
def c62r1 := rg 62 Tryz.f62 1
def c62 : SC :=
  (.seq (.reg false (some []) c62r0) (.seq (.reg false (some [0]) c62r1) .ret))
theorem s62 : Tryz.f62.body.bind (strip Tryz.prog An 62 Tryz.f62.ntmps) = some c62 := by kernel_rfl
theorem g62 : An.glob 62 = [] := rfl
theorem r62 : Tryz.f62.results.toList = [(.tmp 0)] := by kernel_rfl
theorem t62r0 (h : Q .normal ⟨[], m⟩) : Rg F 62 [] c62r0 L m Q := Tx_told (by kernel_rfl) h
theorem t62r1 (h : Obt (bslX false 16 1 11 [.int .i64 0, .int .i64 0, .int .i64 0, .int .i64 0, .int .i64 0, .int .i64 0, .int .i64 0, .int .i64 0, .int .i64 0, .int .i64 0, .int .i64 0] [(0, 1, (.int .i64 16)), (1, 1, (.int .i64 32)), (2, 1, (.int .i64 48)), (3, 1, (.int .i64 64)), (4, 1, (.int .i64 80)), (5, 1, (.int .i64 96)), (6, 1, (.int .i64 112)), (7, 1, (.int .i64 160)), (8, 1, (.int .i64 176)), (9, 1, (.int .i64 192)), (10, 1, (.int .i64 208))] m) fun a0 => Q .normal ⟨[(0, a0.1)], a0.2⟩) : Rg F 62 [0] c62r1 L m Q := Tx_told (by kernel_rfl) h
end
end Go.Cm
