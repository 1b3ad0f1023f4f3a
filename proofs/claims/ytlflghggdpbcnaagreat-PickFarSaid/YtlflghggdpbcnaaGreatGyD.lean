import Derived.Test.YtlflghggdpbcnaaGreatGyC
set_option linter.unusedSimpArgs false
set_option linter.unusedVariables false
namespace Go.Cm
open Go.Proofs
variable {F : Oracle} {L : List (Nat × CV)} {m : Mem} {Q : CE → TS → Prop}
noncomputable section
def c22r0 := rg 22 Tryz.f22 0
def c22r1 := rg 22 Tryz.f22 1
def c22r2 := rg 22 Tryz.f22 2
def c22r3 := rg 22 Tryz.f22 3
def c22r4 := rg 22 Tryz.f22 4
def c22r5 := rg 22 Tryz.f22 5
def c22r6 := rg 22 Tryz.f22 6
def c22r7 := rg 22 Tryz.f22 7
def c22r8 := rg 22 Tryz.f22 8
def c22l0 : SC :=
  (.seq (.reg false (some [0, 6, 31, 32, 33]) c22r5) (.seq (.cond (.tmp 33) .nop (.exit 0)) (.seq (.block 1 (.seq (.reg false (some [0, 6, 7, 31, 32]) c22r6) (.reg false (some [0, 6, 31, 32]) c22r7))) (.reg false (some [0, 6, 31, 32]) c22r8))))
def c22r9 := rg 22 Tryz.f22 9
def c22r10 := rg 22 Tryz.f22 10
def c22r11 := rg 22 Tryz.f22 11
def c22l1 : SC :=
  (.seq (.seq (.reg false (some [0, 6, 45]) c22r10) (.cond (.tmp 45) .nop (.exit 2))) (.block 3 (.reg false (some [0, 6]) c22r11)))
def c22r12 := rg 22 Tryz.f22 12
def c22r13 := rg 22 Tryz.f22 13
def c22r14 := rg 22 Tryz.f22 14
def c22r15 := rg 22 Tryz.f22 15
def c22r16 := rg 22 Tryz.f22 16
def c22r17 := rg 22 Tryz.f22 17
def c22l2 : SC :=
  (.seq (.reg false (some [6, 8, 49, 50, 51]) c22r14) (.seq (.cond (.tmp 51) .nop (.exit 4)) (.seq (.block 5 (.seq (.reg false (some [6, 8, 9, 49, 50]) c22r15) (.reg false (some [6, 8, 49, 50]) c22r16))) (.reg false (some [6, 8, 49, 50]) c22r17))))
def c22r18 := rg 22 Tryz.f22 18
def c22r19 := rg 22 Tryz.f22 19
def c22r20 := rg 22 Tryz.f22 20
def c22r21 := rg 22 Tryz.f22 21
def c22r22 := rg 22 Tryz.f22 22
def c22r23 := rg 22 Tryz.f22 23
def c22l3 : SC :=
  (.seq (.reg false (some [8, 59, 60, 61, 62]) c22r19) (.seq (.cond (.tmp 62) .nop (.exit 6)) (.seq (.block 7 (.seq (.reg false (some [8, 11, 59, 60, 61]) c22r20) (.seq (.reg false (some [8, 59, 60, 61, 67]) c22r21) (.cond (.tmp 67) (.seq (.reg false (some [4, 5]) c22r22) .ret) .nop)))) (.reg false (some [8, 59, 60, 61]) c22r23))))
def c22r24 := rg 22 Tryz.f22 24
def c22 : SC :=
  (.seq (.reg false (some [0, 1]) c22r0) (.seq (.seq (.reg false (some [0, 1, 15]) c22r1) (.cond (.tmp 15) (.seq (.reg false (some [4, 5]) c22r2) .ret) .nop)) (.seq (.reg false (some [0, 6]) c22r3) (.seq (.seq (.reg false (some [0, 6, 31, 32]) c22r4) (.block 0 (.loop c22l0))) (.seq (.reg false (some [0, 6]) c22r9) (.seq (.block 2 (.loop c22l1)) (.seq (.reg false (some [0, 6, 8]) c22r12) (.seq (.seq (.reg false (some [6, 8, 49, 50]) c22r13) (.block 4 (.loop c22l2))) (.seq (.seq (.reg false (some [8, 59, 60, 61]) c22r18) (.block 6 (.loop c22l3))) (.seq (.reg false (some [4, 5]) c22r24) .ret))))))))))
theorem s22 : Tryz.f22.body.bind (strip Tryz.prog An 22 Tryz.f22.ntmps) = some c22 := by kernel_rfl
theorem g22 : An.glob 22 = [20, 24, 26] := rfl
theorem r22 : Tryz.f22.results.toList = [(.tmp 4), (.tmp 5)] := by kernel_rfl
theorem t22r0 (h : Q .normal ⟨[(0, (tget L 0)), (1, (tget L 1))], m⟩) : Rg F 22 [0, 1] c22r0 L m Q := Tx_told (by kernel_rfl) h
theorem t22r1 (h : Obt (callC An F 22 (some 14) 44 [(tget L 0), (tget L 1)] m) fun a0 => Obt (cun .not a0.1) fun a1 => Q .normal ⟨[(0, (tget L 0)), (1, (tget L 1)), (15, a1)], a0.2⟩) : Rg F 22 [0, 1, 15] c22r1 L m Q := Tx_told (by kernel_rfl) h
theorem t22r2 (h : Q .normal ⟨[(4, .nil), (5, (.int .i64 2))], m⟩) : Rg F 22 [4, 5] c22r2 L m Q := Tx_told (by kernel_rfl) h
theorem t22r3 (h : Obt (lenS (tget L 0)) fun a0 => Obt (lenS (tget L 0)) fun a1 => Obt (cbin Tryz.prog .add 3 (.tmp 22) (.const (.int .i64 1)) a1 (.int .i64 1)) fun a2 => Obt (mkX true 320 1 8 [.int .i64 0] a0 a0 m) fun a3 => Obt (mkX true 384 1 8 [.int .i64 0] a2 a2 a3.2) fun a4 => Obt ((fillX [.nil, .nil, .nil, .nil] [(0, 1, (tget L 0)), (1, 1, (tget L 1)), (2, 1, a3.1), (3, 1, a4.1)]).map CV.agg) fun a5 => Obt (boxG a5 a4.2) fun a6 => Q .normal ⟨[(0, (tget L 0)), (6, a6.1)], a6.2⟩) : Rg F 22 [0, 6] c22r3 L m Q := Tx_told (by kernel_rfl) h
theorem t22r4 (h : Obt (nilX (tget L 6)) fun a0 => Obt (fldA 2 a0) fun a1 => Obt (ld1 m a1) fun a2 => Obt (lenS a2) fun a3 => Q .normal ⟨[(0, (tget L 0)), (6, (tget L 6)), (31, a3), (32, (.int .i64 0))], m⟩) : Rg F 22 [0, 6, 31, 32] c22r4 L m Q := Tx_told (by kernel_rfl) h
theorem t22r5 (h : Obt (cbin Tryz.prog .lss 3 (.tmp 32) (.tmp 31) (tget L 32) (tget L 31)) fun a0 => Q .normal ⟨[(0, (tget L 0)), (6, (tget L 6)), (31, (tget L 31)), (32, (tget L 32)), (33, a0)], m⟩) : Rg F 22 [0, 6, 31, 32, 33] c22r5 L m Q := Tx_told (by kernel_rfl) h
theorem t22r6 (h : Q .normal ⟨[(0, (tget L 0)), (6, (tget L 6)), (7, (tget L 32)), (31, (tget L 31)), (32, (tget L 32))], m⟩) : Rg F 22 [0, 6, 7, 31, 32] c22r6 L m Q := Tx_told (by kernel_rfl) h
theorem t22r7 (h : Obt (nilX (tget L 6)) fun a0 => Obt (fldA 2 a0) fun a1 => Obt (ld1 m a1) fun a2 => Obt (idxS 1 a2 (tget L 7)) fun a3 => Obt (stX 1 m a3 (.int .i64 1)) fun a4 => Q .normal ⟨[(0, (tget L 0)), (6, (tget L 6)), (31, (tget L 31)), (32, (tget L 32))], a4⟩) : Rg F 22 [0, 6, 31, 32] c22r7 L m Q := Tx_told (by kernel_rfl) h
theorem t22r8 (h : Obt (cbin Tryz.prog .add 3 (.tmp 32) (.const (.int .i64 1)) (tget L 32) (.int .i64 1)) fun a0 => Q .normal ⟨[(0, (tget L 0)), (6, (tget L 6)), (31, (tget L 31)), (32, a0)], m⟩) : Rg F 22 [0, 6, 31, 32] c22r8 L m Q := Tx_told (by kernel_rfl) h
theorem t22r9 (h : Obt (callC An F 22 (some 43) 45 [(tget L 6)] m) fun a0 => Q .normal ⟨[(0, (tget L 0)), (6, (tget L 6))], a0.2⟩) : Rg F 22 [0, 6] c22r9 L m Q := Tx_told (by kernel_rfl) h
theorem t22r10 (h : Obt (callC An F 22 (some 45) 46 [(tget L 6)] m) fun a0 => Q .normal ⟨[(0, (tget L 0)), (6, (tget L 6)), (45, a0.1)], a0.2⟩) : Rg F 22 [0, 6, 45] c22r10 L m Q := Tx_told (by kernel_rfl) h
theorem t22r11 (h : Obt (callC An F 22 (some 47) 45 [(tget L 6)] m) fun a0 => Q .normal ⟨[(0, (tget L 0)), (6, (tget L 6))], a0.2⟩) : Rg F 22 [0, 6] c22r11 L m Q := Tx_told (by kernel_rfl) h
theorem t22r12 (h : Q .normal ⟨[(0, (tget L 0)), (6, (tget L 6)), (8, .nil)], m⟩) : Rg F 22 [0, 6, 8] c22r12 L m Q := Tx_told (by kernel_rfl) h
theorem t22r13 (h : Obt (lenS (tget L 0)) fun a0 => Q .normal ⟨[(6, (tget L 6)), (8, (tget L 8)), (49, a0), (50, (.int .i64 0))], m⟩) : Rg F 22 [6, 8, 49, 50] c22r13 L m Q := Tx_told (by kernel_rfl) h
theorem t22r14 (h : Obt (cbin Tryz.prog .lss 3 (.tmp 50) (.tmp 49) (tget L 50) (tget L 49)) fun a0 => Q .normal ⟨[(6, (tget L 6)), (8, (tget L 8)), (49, (tget L 49)), (50, (tget L 50)), (51, a0)], m⟩) : Rg F 22 [6, 8, 49, 50, 51] c22r14 L m Q := Tx_told (by kernel_rfl) h
theorem t22r15 (h : Q .normal ⟨[(6, (tget L 6)), (8, (tget L 8)), (9, (tget L 50)), (49, (tget L 49)), (50, (tget L 50))], m⟩) : Rg F 22 [6, 8, 9, 49, 50] c22r15 L m Q := Tx_told (by kernel_rfl) h
theorem t22r16 (h : Obt (callC An F 22 (some 56) 47 [(tget L 6), (tget L 9)] m) fun a0 => Obt (appX false 912 8 64 (tget L 8) a0.1 a0.2) fun a1 => Q .normal ⟨[(6, (tget L 6)), (8, a1.1), (49, (tget L 49)), (50, (tget L 50))], a1.2⟩) : Rg F 22 [6, 8, 49, 50] c22r16 L m Q := Tx_told (by kernel_rfl) h
theorem t22r17 (h : Obt (cbin Tryz.prog .add 3 (.tmp 50) (.const (.int .i64 1)) (tget L 50) (.int .i64 1)) fun a0 => Q .normal ⟨[(6, (tget L 6)), (8, (tget L 8)), (49, (tget L 49)), (50, a0)], m⟩) : Rg F 22 [6, 8, 49, 50] c22r17 L m Q := Tx_told (by kernel_rfl) h
theorem t22r18 (h : Obt (lenS (tget L 8)) fun a0 => Q .normal ⟨[(8, (tget L 8)), (59, (tget L 8)), (60, a0), (61, (.int .i64 0))], m⟩) : Rg F 22 [8, 59, 60, 61] c22r18 L m Q := Tx_told (by kernel_rfl) h
theorem t22r19 (h : Obt (cbin Tryz.prog .lss 3 (.tmp 61) (.tmp 60) (tget L 61) (tget L 60)) fun a0 => Q .normal ⟨[(8, (tget L 8)), (59, (tget L 59)), (60, (tget L 60)), (61, (tget L 61)), (62, a0)], m⟩) : Rg F 22 [8, 59, 60, 61, 62] c22r19 L m Q := Tx_told (by kernel_rfl) h
theorem t22r20 (h : Obt (idxS 8 (tget L 59) (tget L 61)) fun a0 => Obt (ldA 8 m a0) fun a1 => Obt (stX 8 (newL m 176 [.int .i64 0, .int .i64 0, .int .i64 0, .int .i64 0, .int .i64 0, .bool false, .int .i64 0, .int .i64 0]) (newP m 176) a1) fun a2 => Q .normal ⟨[(8, (tget L 8)), (11, (newP m 176)), (59, (tget L 59)), (60, (tget L 60)), (61, (tget L 61))], a2⟩) : Rg F 22 [8, 11, 59, 60, 61] c22r20 L m Q := Tx_told (by kernel_rfl) h
theorem t22r21 (h : Obt (ldA 8 m (tget L 11)) fun a0 => Obt (callC An F 22 (some 66) 48 [a0] m) fun a1 => Obt (cun .not a1.1) fun a2 => Q .normal ⟨[(8, (tget L 8)), (59, (tget L 59)), (60, (tget L 60)), (61, (tget L 61)), (67, a2)], a1.2⟩) : Rg F 22 [8, 59, 60, 61, 67] c22r21 L m Q := Tx_told (by kernel_rfl) h
theorem t22r22 (h : Q .normal ⟨[(4, .nil), (5, (.int .i64 250))], m⟩) : Rg F 22 [4, 5] c22r22 L m Q := Tx_told (by kernel_rfl) h
theorem t22r23 (h : Obt (cbin Tryz.prog .add 3 (.tmp 61) (.const (.int .i64 1)) (tget L 61) (.int .i64 1)) fun a0 => Q .normal ⟨[(8, (tget L 8)), (59, (tget L 59)), (60, (tget L 60)), (61, a0)], m⟩) : Rg F 22 [8, 59, 60, 61] c22r23 L m Q := Tx_told (by kernel_rfl) h
theorem t22r24 (h : Q .normal ⟨[(4, (tget L 8)), (5, (.int .i64 0))], m⟩) : Rg F 22 [4, 5] c22r24 L m Q := Tx_told (by kernel_rfl) h
def c44r0 := rg 44 Tryz.f44 0
def c44r1 := rg 44 Tryz.f44 1
def c44r2 := rg 44 Tryz.f44 2
def c44r3 := rg 44 Tryz.f44 3
def c44r4 := rg 44 Tryz.f44 4
def c44r5 := rg 44 Tryz.f44 5
def c44r6 := rg 44 Tryz.f44 6
def c44r7 := rg 44 Tryz.f44 7
def c44r8 := rg 44 Tryz.f44 8
def c44l0 : SC :=
  (.seq (.reg false (some [0, 1, 13, 14, 15, 16]) c44r4) (.seq (.cond (.tmp 16) .nop (.exit 0)) (.seq (.block 1 (.seq (.reg false (some [0, 1, 6, 13, 14, 15]) c44r5) (.seq (.reg false (some [0, 1, 13, 14, 15, 26]) c44r6) (.cond (.tmp 26) (.seq (.reg false (some [4]) c44r7) .ret) .nop)))) (.reg false (some [0, 1, 13, 14, 15]) c44r8))))
def c44r9 := rg 44 Tryz.f44 9
def c44r10 := rg 44 Tryz.f44 10
def c44r11 := rg 44 Tryz.f44 11
def c44r12 := rg 44 Tryz.f44 12
def c44r13 := rg 44 Tryz.f44 13
def c44r14 := rg 44 Tryz.f44 14
def c44r15 := rg 44 Tryz.f44 15
def c44l1 : SC :=
  (.seq (.reg false (some [1, 28, 29, 30, 31]) c44r10) (.seq (.cond (.tmp 31) .nop (.exit 2)) (.seq (.block 3 (.seq (.reg false (some [1, 8, 28, 29, 30]) c44r11) (.seq (.reg false (some [1, 8, 9, 28, 29, 30]) c44r12) (.seq (.reg false (some [1, 28, 29, 30, 74]) c44r13) (.cond (.tmp 74) (.seq (.reg false (some [4]) c44r14) .ret) .nop))))) (.reg false (some [1, 28, 29, 30]) c44r15))))
def c44r16 := rg 44 Tryz.f44 16
def c44 : SC :=
  (.seq (.reg false (some [0, 1]) c44r0) (.seq (.seq (.reg false (some [0, 1, 12]) c44r1) (.cond (.tmp 12) (.seq (.reg false (some [4]) c44r2) .ret) .nop)) (.seq (.seq (.reg false (some [0, 1, 13, 14, 15]) c44r3) (.block 0 (.loop c44l0))) (.seq (.seq (.reg false (some [1, 28, 29, 30]) c44r9) (.block 2 (.loop c44l1))) (.seq (.reg false (some [4]) c44r16) .ret)))))
theorem s44 : Tryz.f44.body.bind (strip Tryz.prog An 44 Tryz.f44.ntmps) = some c44 := by kernel_rfl
theorem g44 : An.glob 44 = [] := rfl
theorem r44 : Tryz.f44.results.toList = [(.tmp 4)] := by kernel_rfl
theorem t44r0 (h : Q .normal ⟨[(0, (tget L 0)), (1, (tget L 1))], m⟩) : Rg F 44 [0, 1] c44r0 L m Q := Tx_told (by kernel_rfl) h
theorem t44r1 (h : Obt (lenS (tget L 0)) fun a0 => Obt (cbin Tryz.prog .gtr 3 (.tmp 11) (.const (.int .i64 100000)) a0 (.int .i64 100000)) fun a1 => Q .normal ⟨[(0, (tget L 0)), (1, (tget L 1)), (12, a1)], m⟩) : Rg F 44 [0, 1, 12] c44r1 L m Q := Tx_told (by kernel_rfl) h
theorem t44r2 (h : Q .normal ⟨[(4, (.bool false))], m⟩) : Rg F 44 [4] c44r2 L m Q := Tx_told (by kernel_rfl) h
theorem t44r3 (h : Obt (lenS (tget L 1)) fun a0 => Q .normal ⟨[(0, (tget L 0)), (1, (tget L 1)), (13, (tget L 1)), (14, a0), (15, (.int .i64 0))], m⟩) : Rg F 44 [0, 1, 13, 14, 15] c44r3 L m Q := Tx_told (by kernel_rfl) h
theorem t44r4 (h : Obt (cbin Tryz.prog .lss 3 (.tmp 15) (.tmp 14) (tget L 15) (tget L 14)) fun a0 => Q .normal ⟨[(0, (tget L 0)), (1, (tget L 1)), (13, (tget L 13)), (14, (tget L 14)), (15, (tget L 15)), (16, a0)], m⟩) : Rg F 44 [0, 1, 13, 14, 15, 16] c44r4 L m Q := Tx_told (by kernel_rfl) h
theorem t44r5 (h : Obt (idxS 1 (tget L 13) (tget L 15)) fun a0 => Obt (ld1 m a0) fun a1 => Q .normal ⟨[(0, (tget L 0)), (1, (tget L 1)), (6, a1), (13, (tget L 13)), (14, (tget L 14)), (15, (tget L 15))], m⟩) : Rg F 44 [0, 1, 6, 13, 14, 15] c44r5 L m Q := Tx_told (by kernel_rfl) h
theorem t44r6 (h : Obt (cbin Tryz.prog .lss 3 (.tmp 19) (.const (.int .i64 0)) (tget L 6) (.int .i64 0)) fun a0 => Obt (gdO a0 false (some ((tget L 6), m)) (.tuple [], m)) fun a1 => Obt (gdO a0 false (some ((tget L 0), a1.2)) (.tuple [], a1.2)) fun a2 => Obt (gdO a0 false ((lenS a2.1).map fun v => (v, a2.2)) (.tuple [], a2.2)) fun a3 => Obt (gdO a0 false ((cbin Tryz.prog .gtr 3 (.tmp 22) (.tmp 24) a1.1 a3.1).map fun v => (v, a3.2)) (.tuple [], a3.2)) fun a4 => Obt (pickX a0 (.bool true) a4.1) fun a5 => Q .normal ⟨[(0, (tget L 0)), (1, (tget L 1)), (13, (tget L 13)), (14, (tget L 14)), (15, (tget L 15)), (26, a5)], a4.2⟩) : Rg F 44 [0, 1, 13, 14, 15, 26] c44r6 L m Q := Tx_told (by kernel_rfl) h
theorem t44r7 (h : Q .normal ⟨[(4, (.bool false))], m⟩) : Rg F 44 [4] c44r7 L m Q := Tx_told (by kernel_rfl) h
theorem t44r8 (h : Obt (cbin Tryz.prog .add 3 (.tmp 15) (.const (.int .i64 1)) (tget L 15) (.int .i64 1)) fun a0 => Q .normal ⟨[(0, (tget L 0)), (1, (tget L 1)), (13, (tget L 13)), (14, (tget L 14)), (15, a0)], m⟩) : Rg F 44 [0, 1, 13, 14, 15] c44r8 L m Q := Tx_told (by kernel_rfl) h
theorem t44r9 (h : Obt (lenS (tget L 0)) fun a0 => Q .normal ⟨[(1, (tget L 1)), (28, (tget L 0)), (29, a0), (30, (.int .i64 0))], m⟩) : Rg F 44 [1, 28, 29, 30] c44r9 L m Q := Tx_told (by kernel_rfl) h
theorem t44r10 (h : Obt (cbin Tryz.prog .lss 3 (.tmp 30) (.tmp 29) (tget L 30) (tget L 29)) fun a0 => Q .normal ⟨[(1, (tget L 1)), (28, (tget L 28)), (29, (tget L 29)), (30, (tget L 30)), (31, a0)], m⟩) : Rg F 44 [1, 28, 29, 30, 31] c44r10 L m Q := Tx_told (by kernel_rfl) h
theorem t44r11 (h : Obt (idxS 9 (tget L 28) (tget L 30)) fun a0 => Obt (ldA 9 m a0) fun a1 => Obt (stX 9 (newL m 128 [.int .i64 0, .int .i64 0, .int .i64 0, .int .i64 0, .int .i64 0, .bool false, .int .i64 0, .int .i64 0, .int .i64 0]) (newP m 128) a1) fun a2 => Q .normal ⟨[(1, (tget L 1)), (8, (newP m 128)), (28, (tget L 28)), (29, (tget L 29)), (30, (tget L 30))], a2⟩) : Rg F 44 [1, 8, 28, 29, 30] c44r11 L m Q := Tx_told (by kernel_rfl) h
theorem t44r12 (h : Obt (fldA 0 (tget L 8)) fun a0 => Obt (fldA 0 a0) fun a1 => Obt (ld1 m a1) fun a2 => Obt (cbin Tryz.prog .eql 50 (.tmp 36) (.const (.int .i64 21)) a2 (.int .i64 21)) fun a3 => Obt (gdO a3 false ((fldA 0 (tget L 8)).map fun v => (v, m)) (.tuple [], m)) fun a4 => Obt (gdO a3 false ((fldA 0 a4.1).map fun v => (v, a4.2)) (.tuple [], a4.2)) fun a5 => Obt (gdO a3 false ((ld1 a5.2 a5.1).map fun v => (v, a5.2)) (.tuple [], a5.2)) fun a6 => Obt (gdO a3 false ((cbin Tryz.prog .eql 50 (.tmp 41) (.const (.int .i64 20)) a6.1 (.int .i64 20)).map fun v => (v, a6.2)) (.tuple [], a6.2)) fun a7 => Obt (pickX a3 (.bool true) a7.1) fun a8 => Q .normal ⟨[(1, (tget L 1)), (8, (tget L 8)), (9, a8), (28, (tget L 28)), (29, (tget L 29)), (30, (tget L 30))], a7.2⟩) : Rg F 44 [1, 8, 9, 28, 29, 30] c44r12 L m Q := Tx_told (by kernel_rfl) h
theorem t44r13 (h : Obt (fldA 8 (tget L 8)) fun a0 => Obt (ld1 m a0) fun a1 => Obt (cbin Tryz.prog .lss 3 (.tmp 45) (.const (.int .i64 0)) a1 (.int .i64 0)) fun a2 => Obt (gdO a2 false ((fldA 8 (tget L 8)).map fun v => (v, m)) (.tuple [], m)) fun a3 => Obt (gdO a2 false ((ld1 a3.2 a3.1).map fun v => (v, a3.2)) (.tuple [], a3.2)) fun a4 => Obt (gdO a2 false (some ((tget L 1), a4.2)) (.tuple [], a4.2)) fun a5 => Obt (gdO a2 false ((lenS a5.1).map fun v => (v, a5.2)) (.tuple [], a5.2)) fun a6 => Obt (gdO a2 false ((cbin Tryz.prog .gtr 3 (.tmp 49) (.tmp 51) a4.1 a6.1).map fun v => (v, a6.2)) (.tuple [], a6.2)) fun a7 => Obt (pickX a2 (.bool true) a7.1) fun a8 => Obt (gdO a8 false ((fldA 8 (tget L 8)).map fun v => (v, a7.2)) (.tuple [], a7.2)) fun a9 => Obt (gdO a8 false ((ld1 a9.2 a9.1).map fun v => (v, a9.2)) (.tuple [], a9.2)) fun a10 => Obt (gdO a8 false ((cbin Tryz.prog .gtr 3 (.tmp 56) (.const (.int .i64 0)) a10.1 (.int .i64 0)).map fun v => (v, a10.2)) (.tuple [], a10.2)) fun a11 => Obt (gdO a8 false (some (a11.1, a11.2)) (.tuple [], a11.2)) fun a12 => Obt (gdO a12.1 true (some ((tget L 9), a12.2)) (.tuple [], a12.2)) fun a13 => Obt (gdO a12.1 true ((cun .not a13.1).map fun v => (v, a13.2)) (.tuple [], a13.2)) fun a14 => Obt (gdO a12.1 true (some (a14.1, a14.2)) (.tuple [], a14.2)) fun a15 => Obt (gdO a15.1 false ((fldA 0 (tget L 8)).map fun v => (v, a15.2)) (.tuple [], a15.2)) fun a16 => Obt (gdO a15.1 false ((fldA 7 a16.1).map fun v => (v, a16.2)) (.tuple [], a16.2)) fun a17 => Obt (gdO a15.1 false ((ld1 a17.2 a17.1).map fun v => (v, a17.2)) (.tuple [], a17.2)) fun a18 => Obt (gdO a15.1 false ((cbin Tryz.prog .neq 3 (.tmp 64) (.const (.int .i64 0)) a18.1 (.int .i64 0)).map fun v => (v, a18.2)) (.tuple [], a18.2)) fun a19 => Obt (gdO a12.1 true ((pickX a15.1 (.bool true) a19.1).map fun v => (v, a19.2)) (.tuple [], a19.2)) fun a20 => Obt (gdO a8 false ((pickX a12.1 a20.1 (.bool false)).map fun v => (v, a20.2)) (.tuple [], a20.2)) fun a21 => Obt (pickX a8 (.bool true) a21.1) fun a22 => Obt (gdO a22 false ((fldA 0 (tget L 8)).map fun v => (v, a21.2)) (.tuple [], a21.2)) fun a23 => Obt (gdO a22 false ((ldA 8 a23.2 a23.1).map fun v => (v, a23.2)) (.tuple [], a23.2)) fun a24 => Obt (gdO a22 false (callC An F 44 (some 72) 48 [a24.1] a24.2) (.tuple [], a24.2)) fun a25 => Obt (gdO a22 false ((cun .not a25.1).map fun v => (v, a25.2)) (.tuple [], a25.2)) fun a26 => Obt (pickX a22 (.bool true) a26.1) fun a27 => Q .normal ⟨[(1, (tget L 1)), (28, (tget L 28)), (29, (tget L 29)), (30, (tget L 30)), (74, a27)], a26.2⟩) : Rg F 44 [1, 28, 29, 30, 74] c44r13 L m Q := Tx_told (by kernel_rfl) h
theorem t44r14 (h : Q .normal ⟨[(4, (.bool false))], m⟩) : Rg F 44 [4] c44r14 L m Q := Tx_told (by kernel_rfl) h
theorem t44r15 (h : Obt (cbin Tryz.prog .add 3 (.tmp 30) (.const (.int .i64 1)) (tget L 30) (.int .i64 1)) fun a0 => Q .normal ⟨[(1, (tget L 1)), (28, (tget L 28)), (29, (tget L 29)), (30, a0)], m⟩) : Rg F 44 [1, 28, 29, 30] c44r15 L m Q := Tx_told (by kernel_rfl) h
theorem t44r16 (h : Q .normal ⟨[(4, (.bool true))], m⟩) : Rg F 44 [4] c44r16 L m Q := Tx_told (by kernel_rfl) h
def c45r0 := rg 45 Tryz.f45 0
def c45r1 := rg 45 Tryz.f45 1
def c45r2 := rg 45 Tryz.f45 2
def c45r3 := rg 45 Tryz.f45 3
def c45r4 := rg 45 Tryz.f45 4
def c45r5 := rg 45 Tryz.f45 5
def c45r6 := rg 45 Tryz.f45 6
def c45l0 : SC :=
  (.seq (.reg false (some [0, 2, 8, 9, 10, 11]) c45r2) (.seq (.cond (.tmp 11) .nop (.exit 0)) (.seq (.block 1 (.seq (.reg false (some [0, 2, 3, 4, 8, 9, 10]) c45r3) (.seq (.reg false (some [0, 2, 4, 8, 9, 10]) c45r4) (.reg false (some [0, 2, 8, 9, 10]) c45r5)))) (.reg false (some [0, 2, 8, 9, 10]) c45r6))))
def c45r7 := rg 45 Tryz.f45 7
def c45 : SC :=
  (.seq (.reg false (some [0, 2]) c45r0) (.seq (.seq (.reg false (some [0, 2, 8, 9, 10]) c45r1) (.block 0 (.loop c45l0))) (.reg true (some []) c45r7)))
theorem s45 : Tryz.f45.body.bind (strip Tryz.prog An 45 Tryz.f45.ntmps) = some c45 := by kernel_rfl
theorem g45 : An.glob 45 = [] := rfl
theorem r45 : Tryz.f45.results.toList = [] := by kernel_rfl
theorem t45r0 (h : Q .normal ⟨[(0, (tget L 0)), (2, (.int .i64 0))], m⟩) : Rg F 45 [0, 2] c45r0 L m Q := Tx_told (by kernel_rfl) h
theorem t45r1 (h : Obt (nilX (tget L 0)) fun a0 => Obt (fldA 2 a0) fun a1 => Obt (ld1 m a1) fun a2 => Obt (lenS a2) fun a3 => Q .normal ⟨[(0, (tget L 0)), (2, (tget L 2)), (8, a2), (9, a3), (10, (.int .i64 0))], m⟩) : Rg F 45 [0, 2, 8, 9, 10] c45r1 L m Q := Tx_told (by kernel_rfl) h
theorem t45r2 (h : Obt (cbin Tryz.prog .lss 3 (.tmp 10) (.tmp 9) (tget L 10) (tget L 9)) fun a0 => Q .normal ⟨[(0, (tget L 0)), (2, (tget L 2)), (8, (tget L 8)), (9, (tget L 9)), (10, (tget L 10)), (11, a0)], m⟩) : Rg F 45 [0, 2, 8, 9, 10, 11] c45r2 L m Q := Tx_told (by kernel_rfl) h
theorem t45r3 (h : Obt (idxS 1 (tget L 8) (tget L 10)) fun a0 => Obt (ld1 m a0) fun a1 => Q .normal ⟨[(0, (tget L 0)), (2, (tget L 2)), (3, (tget L 10)), (4, a1), (8, (tget L 8)), (9, (tget L 9)), (10, (tget L 10))], m⟩) : Rg F 45 [0, 2, 3, 4, 8, 9, 10] c45r3 L m Q := Tx_told (by kernel_rfl) h
theorem t45r4 (h : Obt (nilX (tget L 0)) fun a0 => Obt (fldA 3 a0) fun a1 => Obt (ld1 m a1) fun a2 => Obt (idxS 1 a2 (tget L 3)) fun a3 => Obt (stX 1 m a3 (tget L 2)) fun a4 => Q .normal ⟨[(0, (tget L 0)), (2, (tget L 2)), (4, (tget L 4)), (8, (tget L 8)), (9, (tget L 9)), (10, (tget L 10))], a4⟩) : Rg F 45 [0, 2, 4, 8, 9, 10] c45r4 L m Q := Tx_told (by kernel_rfl) h
theorem t45r5 (h : Obt (cbin Tryz.prog .add 3 (.tmp 22) (.tmp 23) (tget L 2) (tget L 4)) fun a0 => Q .normal ⟨[(0, (tget L 0)), (2, a0), (8, (tget L 8)), (9, (tget L 9)), (10, (tget L 10))], m⟩) : Rg F 45 [0, 2, 8, 9, 10] c45r5 L m Q := Tx_told (by kernel_rfl) h
theorem t45r6 (h : Obt (cbin Tryz.prog .add 3 (.tmp 10) (.const (.int .i64 1)) (tget L 10) (.int .i64 1)) fun a0 => Q .normal ⟨[(0, (tget L 0)), (2, (tget L 2)), (8, (tget L 8)), (9, (tget L 9)), (10, a0)], m⟩) : Rg F 45 [0, 2, 8, 9, 10] c45r6 L m Q := Tx_told (by kernel_rfl) h
theorem t45r7 (h : Obt (nilX (tget L 0)) fun a0 => Obt (fldA 3 a0) fun a1 => Obt (ld1 m a1) fun a2 => Obt (nilX (tget L 0)) fun a3 => Obt (fldA 2 a3) fun a4 => Obt (ld1 m a4) fun a5 => Obt (lenS a5) fun a6 => Obt (idxS 1 a2 a6) fun a7 => Obt (stX 1 m a7 (tget L 2)) fun a8 => Q .normal ⟨[], a8⟩) : Rt F 45 [] c45r7 L m Q := Tx_told (by kernel_rfl) h
def c46r0 := rg 46 Tryz.f46 0
def c46r1 := rg 46 Tryz.f46 1
def c46r2 := rg 46 Tryz.f46 2
def c46r3 := rg 46 Tryz.f46 3
def c46r4 := rg 46 Tryz.f46 4
def c46r5 := rg 46 Tryz.f46 5
def c46r6 := rg 46 Tryz.f46 6
def c46r7 := rg 46 Tryz.f46 7
def c46r8 := rg 46 Tryz.f46 8
def c46r9 := rg 46 Tryz.f46 9
def c46r10 := rg 46 Tryz.f46 10
def c46r11 := rg 46 Tryz.f46 11
def c46r12 := rg 46 Tryz.f46 12
def c46l0 : SC :=
  (.seq (.reg false (some [0, 3, 10, 11, 12, 13]) c46r3) (.seq (.cond (.tmp 13) .nop (.exit 0)) (.seq (.block 1 (.seq (.reg false (some [0, 3, 4, 5, 10, 11, 12]) c46r4) (.seq (.seq (.reg false (some [0, 3, 4, 5, 10, 11, 12, 35]) c46r5) (.cond (.tmp 35) (.exit 1) .nop)) (.seq (.reg false (some [0, 3, 4, 5, 6, 10, 11, 12]) c46r6) (.seq (.reg false (some [0, 3, 4, 5, 10, 11, 12, 45]) c46r7) (.cond (.tmp 45) (.seq (.reg false (some [0, 4, 5, 10, 11, 12]) c46r8) (.seq (.seq (.reg false (some [0, 4, 10, 11, 12, 56]) c46r9) (.cond (.tmp 56) (.reg false (some [0, 10, 11, 12]) c46r10) .nop)) (.reg false (some [0, 3, 10, 11, 12]) c46r11))) .nop)))))) (.reg false (some [0, 3, 10, 11, 12]) c46r12))))
def c46r13 := rg 46 Tryz.f46 13
def c46 : SC :=
  (.seq (.reg false (some [0]) c46r0) (.seq (.reg false (some [0, 3]) c46r1) (.seq (.seq (.reg false (some [0, 3, 10, 11, 12]) c46r2) (.block 0 (.loop c46l0))) (.seq (.reg false (some [2]) c46r13) .ret))))
theorem s46 : Tryz.f46.body.bind (strip Tryz.prog An 46 Tryz.f46.ntmps) = some c46 := by kernel_rfl
theorem g46 : An.glob 46 = [] := rfl
theorem r46 : Tryz.f46.results.toList = [(.tmp 2)] := by kernel_rfl
theorem t46r0 (h : Q .normal ⟨[(0, (tget L 0))], m⟩) : Rg F 46 [0] c46r0 L m Q := Tx_told (by kernel_rfl) h
theorem t46r1 (h : Q .normal ⟨[(0, (tget L 0)), (3, (.bool false))], m⟩) : Rg F 46 [0, 3] c46r1 L m Q := Tx_told (by kernel_rfl) h
theorem t46r2 (h : Obt (nilX (tget L 0)) fun a0 => Obt (fldA 0 a0) fun a1 => Obt (ld1 m a1) fun a2 => Obt (lenS a2) fun a3 => Q .normal ⟨[(0, (tget L 0)), (3, (tget L 3)), (10, a2), (11, a3), (12, (.int .i64 0))], m⟩) : Rg F 46 [0, 3, 10, 11, 12] c46r2 L m Q := Tx_told (by kernel_rfl) h
theorem t46r3 (h : Obt (cbin Tryz.prog .lss 3 (.tmp 12) (.tmp 11) (tget L 12) (tget L 11)) fun a0 => Q .normal ⟨[(0, (tget L 0)), (3, (tget L 3)), (10, (tget L 10)), (11, (tget L 11)), (12, (tget L 12)), (13, a0)], m⟩) : Rg F 46 [0, 3, 10, 11, 12, 13] c46r3 L m Q := Tx_told (by kernel_rfl) h
theorem t46r4 (h : Obt (idxS 9 (tget L 10) (tget L 12)) fun a0 => Obt (ldA 9 m a0) fun a1 => Obt (stX 9 (newL m 80 [.int .i64 0, .int .i64 0, .int .i64 0, .int .i64 0, .int .i64 0, .bool false, .int .i64 0, .int .i64 0, .int .i64 0]) (newP m 80) a1) fun a2 => Q .normal ⟨[(0, (tget L 0)), (3, (tget L 3)), (4, (tget L 12)), (5, (newP m 80)), (10, (tget L 10)), (11, (tget L 11)), (12, (tget L 12))], a2⟩) : Rg F 46 [0, 3, 4, 5, 10, 11, 12] c46r4 L m Q := Tx_told (by kernel_rfl) h
theorem t46r5 (h : Obt (fldA 8 (tget L 5)) fun a0 => Obt (ld1 m a0) fun a1 => Obt (cbin Tryz.prog .eql 3 (.tmp 18) (.const (.int .i64 0)) a1 (.int .i64 0)) fun a2 => Obt (gdO a2 false ((fldA 0 (tget L 5)).map fun v => (v, m)) (.tuple [], m)) fun a3 => Obt (gdO a2 false ((fldA 0 a3.1).map fun v => (v, a3.2)) (.tuple [], a3.2)) fun a4 => Obt (gdO a2 false ((ld1 a4.2 a4.1).map fun v => (v, a4.2)) (.tuple [], a4.2)) fun a5 => Obt (gdO a2 false ((cbin Tryz.prog .neq 50 (.tmp 23) (.const (.int .i64 20)) a5.1 (.int .i64 20)).map fun v => (v, a5.2)) (.tuple [], a5.2)) fun a6 => Obt (pickX a2 (.bool true) a6.1) fun a7 => Obt (gdO a7 false (some ((tget L 0), a6.2)) (.tuple [], a6.2)) fun a8 => Obt (gdO a7 false ((nilX a8.1).map fun v => (v, a8.2)) (.tuple [], a8.2)) fun a9 => Obt (gdO a7 false ((fldA 2 a9.1).map fun v => (v, a9.2)) (.tuple [], a9.2)) fun a10 => Obt (gdO a7 false ((ld1 a10.2 a10.1).map fun v => (v, a10.2)) (.tuple [], a10.2)) fun a11 => Obt (gdO a7 false (some ((tget L 4), a11.2)) (.tuple [], a11.2)) fun a12 => Obt (gdO a7 false ((idxS 1 a11.1 a12.1).map fun v => (v, a12.2)) (.tuple [], a12.2)) fun a13 => Obt (gdO a7 false ((ld1 a13.2 a13.1).map fun v => (v, a13.2)) (.tuple [], a13.2)) fun a14 => Obt (gdO a7 false ((cbin Tryz.prog .gtr 3 (.tmp 33) (.const (.int .i64 1)) a14.1 (.int .i64 1)).map fun v => (v, a14.2)) (.tuple [], a14.2)) fun a15 => Obt (pickX a7 (.bool true) a15.1) fun a16 => Q .normal ⟨[(0, (tget L 0)), (3, (tget L 3)), (4, (tget L 4)), (5, (tget L 5)), (10, (tget L 10)), (11, (tget L 11)), (12, (tget L 12)), (35, a16)], a15.2⟩) : Rg F 46 [0, 3, 4, 5, 10, 11, 12, 35] c46r5 L m Q := Tx_told (by kernel_rfl) h
theorem t46r6 (h : Obt (callC An F 46 (some 38) 71 [(tget L 0), (tget L 4)] m) fun a0 => Obt (cbin Tryz.prog .sub 3 (.tmp 38) (.const (.int .i64 1)) a0.1 (.int .i64 1)) fun a1 => Q .normal ⟨[(0, (tget L 0)), (3, (tget L 3)), (4, (tget L 4)), (5, (tget L 5)), (6, a1), (10, (tget L 10)), (11, (tget L 11)), (12, (tget L 12))], a0.2⟩) : Rg F 46 [0, 3, 4, 5, 6, 10, 11, 12] c46r6 L m Q := Tx_told (by kernel_rfl) h
theorem t46r7 (h : Obt (cbin Tryz.prog .lss 3 (.tmp 40) (.const (.int .i64 (-1024))) (tget L 6) (.int .i64 (-1024))) fun a0 => Obt (gdO a0 false (some ((tget L 6), m)) (.tuple [], m)) fun a1 => Obt (gdO a0 false ((cbin Tryz.prog .geq 3 (.tmp 43) (.const (.int .i64 1024)) a1.1 (.int .i64 1024)).map fun v => (v, a1.2)) (.tuple [], a1.2)) fun a2 => Obt (pickX a0 (.bool true) a2.1) fun a3 => Q .normal ⟨[(0, (tget L 0)), (3, (tget L 3)), (4, (tget L 4)), (5, (tget L 5)), (10, (tget L 10)), (11, (tget L 11)), (12, (tget L 12)), (45, a3)], a2.2⟩) : Rg F 46 [0, 3, 4, 5, 10, 11, 12, 45] c46r7 L m Q := Tx_told (by kernel_rfl) h
theorem t46r8 (h : Obt (nilX (tget L 0)) fun a0 => Obt (fldA 2 a0) fun a1 => Obt (ld1 m a1) fun a2 => Obt (idxS 1 a2 (tget L 4)) fun a3 => Obt (stX 1 m a3 (.int .i64 3)) fun a4 => Q .normal ⟨[(0, (tget L 0)), (4, (tget L 4)), (5, (tget L 5)), (10, (tget L 10)), (11, (tget L 11)), (12, (tget L 12))], a4⟩) : Rg F 46 [0, 4, 5, 10, 11, 12] c46r8 L m Q := Tx_told (by kernel_rfl) h
theorem t46r9 (h : Obt (fldA 0 (tget L 5)) fun a0 => Obt (fldA 4 a0) fun a1 => Obt (ld1 m a1) fun a2 => Obt (callC An F 46 (some 55) 72 [a2] m) fun a3 => Obt (cbin Tryz.prog .geq 3 (.tmp 55) (.const (.int .i64 0)) a3.1 (.int .i64 0)) fun a4 => Q .normal ⟨[(0, (tget L 0)), (4, (tget L 4)), (10, (tget L 10)), (11, (tget L 11)), (12, (tget L 12)), (56, a4)], a3.2⟩) : Rg F 46 [0, 4, 10, 11, 12, 56] c46r9 L m Q := Tx_told (by kernel_rfl) h
theorem t46r10 (h : Obt (nilX (tget L 0)) fun a0 => Obt (fldA 2 a0) fun a1 => Obt (ld1 m a1) fun a2 => Obt (idxS 1 a2 (tget L 4)) fun a3 => Obt (stX 1 m a3 (.int .i64 2)) fun a4 => Q .normal ⟨[(0, (tget L 0)), (10, (tget L 10)), (11, (tget L 11)), (12, (tget L 12))], a4⟩) : Rg F 46 [0, 10, 11, 12] c46r10 L m Q := Tx_told (by kernel_rfl) h
theorem t46r11 (h : Q .normal ⟨[(0, (tget L 0)), (3, (.bool true)), (10, (tget L 10)), (11, (tget L 11)), (12, (tget L 12))], m⟩) : Rg F 46 [0, 3, 10, 11, 12] c46r11 L m Q := Tx_told (by kernel_rfl) h
theorem t46r12 (h : Obt (cbin Tryz.prog .add 3 (.tmp 12) (.const (.int .i64 1)) (tget L 12) (.int .i64 1)) fun a0 => Q .normal ⟨[(0, (tget L 0)), (3, (tget L 3)), (10, (tget L 10)), (11, (tget L 11)), (12, a0)], m⟩) : Rg F 46 [0, 3, 10, 11, 12] c46r12 L m Q := Tx_told (by kernel_rfl) h
theorem t46r13 (h : Q .normal ⟨[(2, (tget L 3))], m⟩) : Rg F 46 [2] c46r13 L m Q := Tx_told (by kernel_rfl) h
def c47r0 := rg 47 Tryz.f47 0
def c47r1 := rg 47 Tryz.f47 1
def c47r2 := rg 47 Tryz.f47 2
def c47r3 := rg 47 Tryz.f47 3
def c47r4 := rg 47 Tryz.f47 4
def c47r5 := rg 47 Tryz.f47 5
def c47r6 := rg 47 Tryz.f47 6
def c47r7 := rg 47 Tryz.f47 7
def c47r8 := rg 47 Tryz.f47 8
def c47r9 := rg 47 Tryz.f47 9
def c47r10 := rg 47 Tryz.f47 10
def c47r11 := rg 47 Tryz.f47 11
def c47r12 := rg 47 Tryz.f47 12
def c47r13 := rg 47 Tryz.f47 13
def c47 : SC :=
  (.seq (.reg false (some [0, 1]) c47r0) (.seq (.reg false (some [0, 1, 5]) c47r1) (.seq (.seq (.reg false (some [0, 1, 5, 23]) c47r2) (.cond (.tmp 23) (.seq (.reg false (some [4]) c47r3) .ret) .nop)) (.seq (.reg false (some [0, 1, 5, 6]) c47r4) (.seq (.seq (.reg false (some [5, 6, 35]) c47r5) (.block 0 (.seq (.reg false (some [5, 6, 35, 36]) c47r6) (.cond (.tmp 36) (.seq (.reg false (some [5]) c47r7) (.seq (.reg false (some [4]) c47r8) .ret)) (.seq (.reg false (some [5, 6, 43]) c47r9) (.cond (.tmp 43) (.seq (.reg false (some [5, 6]) c47r10) (.seq (.reg true (some [4]) c47r11) .ret)) .nop)))))) (.seq (.reg false (some [5, 6]) c47r12) (.seq (.reg true (some [4]) c47r13) .ret)))))))
theorem s47 : Tryz.f47.body.bind (strip Tryz.prog An 47 Tryz.f47.ntmps) = some c47 := by kernel_rfl
theorem g47 : An.glob 47 = [] := rfl
theorem r47 : Tryz.f47.results.toList = [(.tmp 4)] := by kernel_rfl
theorem t47r0 (h : Q .normal ⟨[(0, (tget L 0)), (1, (tget L 1))], m⟩) : Rg F 47 [0, 1] c47r0 L m Q := Tx_told (by kernel_rfl) h
theorem t47r1 (h : Obt (nilX (tget L 0)) fun a0 => Obt (fldA 0 a0) fun a1 => Obt (ld1 m a1) fun a2 => Obt (idxS 9 a2 (tget L 1)) fun a3 => Obt (fldA 0 a3) fun a4 => Obt (ldA 8 m a4) fun a5 => Obt (stX 8 (newL m 80 [.int .i64 0, .int .i64 0, .int .i64 0, .int .i64 0, .int .i64 0, .bool false, .int .i64 0, .int .i64 0]) (newP m 80) a5) fun a6 => Q .normal ⟨[(0, (tget L 0)), (1, (tget L 1)), (5, (newP m 80))], a6⟩) : Rg F 47 [0, 1, 5] c47r1 L m Q := Tx_told (by kernel_rfl) h
theorem t47r2 (h : Obt (nilX (tget L 0)) fun a0 => Obt (fldA 0 a0) fun a1 => Obt (ld1 m a1) fun a2 => Obt (idxS 9 a2 (tget L 1)) fun a3 => Obt (fldA 8 a3) fun a4 => Obt (ld1 m a4) fun a5 => Obt (cbin Tryz.prog .eql 3 (.tmp 22) (.const (.int .i64 0)) a5 (.int .i64 0)) fun a6 => Q .normal ⟨[(0, (tget L 0)), (1, (tget L 1)), (5, (tget L 5)), (23, a6)], m⟩) : Rg F 47 [0, 1, 5, 23] c47r2 L m Q := Tx_told (by kernel_rfl) h
theorem t47r3 (h : Obt (ldA 8 m (tget L 5)) fun a0 => Obt (bslX false 400 8 1 [.int .i64 0, .int .i64 0, .int .i64 0, .int .i64 0, .int .i64 0, .bool false, .int .i64 0, .int .i64 0] [(0, 8, a0)] m) fun a1 => Q .normal ⟨[(4, a1.1)], a1.2⟩) : Rg F 47 [4] c47r3 L m Q := Tx_told (by kernel_rfl) h
theorem t47r4 (h : Obt (callC An F 47 (some 28) 71 [(tget L 0), (tget L 1)] m) fun a0 => Q .normal ⟨[(0, (tget L 0)), (1, (tget L 1)), (5, (tget L 5)), (6, a0.1)], a0.2⟩) : Rg F 47 [0, 1, 5, 6] c47r4 L m Q := Tx_told (by kernel_rfl) h
theorem t47r5 (h : Obt (nilX (tget L 0)) fun a0 => Obt (fldA 2 a0) fun a1 => Obt (ld1 m a1) fun a2 => Obt (idxS 1 a2 (tget L 1)) fun a3 => Obt (ld1 m a3) fun a4 => Q .normal ⟨[(5, (tget L 5)), (6, (tget L 6)), (35, a4)], m⟩) : Rg F 47 [5, 6, 35] c47r5 L m Q := Tx_told (by kernel_rfl) h
theorem t47r6 (h : Obt (cbin Tryz.prog .eql 3 (.tmp 35) (.const (.int .i64 1)) (tget L 35) (.int .i64 1)) fun a0 => Q .normal ⟨[(5, (tget L 5)), (6, (tget L 6)), (35, (tget L 35)), (36, a0)], m⟩) : Rg F 47 [5, 6, 35, 36] c47r6 L m Q := Tx_told (by kernel_rfl) h
theorem t47r7 (h : Obt (cbin Tryz.prog .sub 3 (.tmp 38) (.const (.int .i64 1)) (tget L 6) (.int .i64 1)) fun a0 => Obt (fldA 7 (tget L 5)) fun a1 => Obt (stX 1 m a1 a0) fun a2 => Q .normal ⟨[(5, (tget L 5))], a2⟩) : Rg F 47 [5] c47r7 L m Q := Tx_told (by kernel_rfl) h
theorem t47r8 (h : Obt (ldA 8 m (tget L 5)) fun a0 => Obt (bslX false 672 8 1 [.int .i64 0, .int .i64 0, .int .i64 0, .int .i64 0, .int .i64 0, .bool false, .int .i64 0, .int .i64 0] [(0, 8, a0)] m) fun a1 => Q .normal ⟨[(4, a1.1)], a1.2⟩) : Rg F 47 [4] c47r8 L m Q := Tx_told (by kernel_rfl) h
theorem t47r9 (h : Obt (cbin Tryz.prog .eql 3 (.tmp 35) (.const (.int .i64 2)) (tget L 35) (.int .i64 2)) fun a0 => Q .normal ⟨[(5, (tget L 5)), (6, (tget L 6)), (43, a0)], m⟩) : Rg F 47 [5, 6, 43] c47r9 L m Q := Tx_told (by kernel_rfl) h
theorem t47r10 (h : Obt (fldA 4 (tget L 5)) fun a0 => Obt (ld1 m a0) fun a1 => Obt (callC An F 47 (some 47) 72 [a1] m) fun a2 => Obt (fldA 4 (tget L 5)) fun a3 => Obt (stX 1 a2.2 a3 a2.1) fun a4 => Obt (fldA 7 (tget L 5)) fun a5 => Obt (stX 1 a4 a5 (.int .i64 1)) fun a6 => Q .normal ⟨[(5, (tget L 5)), (6, (tget L 6))], a6⟩) : Rg F 47 [5, 6] c47r10 L m Q := Tx_told (by kernel_rfl) h
theorem t47r11 (h : Obt (ldA 8 m (tget L 5)) fun a0 => Obt (cbin Tryz.prog .sub 3 (.tmp 51) (.const (.int .i64 2)) (tget L 6) (.int .i64 2)) fun a1 => Obt (chk true (callC An F 47 (some 53) 73 [a1] m)) fun a2 => Obt (bslX false 864 8 2 [.int .i64 0, .int .i64 0, .int .i64 0, .int .i64 0, .int .i64 0, .bool false, .int .i64 0, .int .i64 0, .int .i64 0, .int .i64 0, .int .i64 0, .int .i64 0, .int .i64 0, .bool false, .int .i64 0, .int .i64 0] [(0, 8, a0), (8, 8, a2.1)] a2.2) fun a3 => Q .normal ⟨[(4, a3.1)], a3.2⟩) : Rt F 47 [4] c47r11 L m Q := Tx_told (by kernel_rfl) h
theorem t47r12 (h : Obt (fldA 7 (tget L 5)) fun a0 => Obt (stX 1 m a0 (.int .i64 1)) fun a1 => Q .normal ⟨[(5, (tget L 5)), (6, (tget L 6))], a1⟩) : Rg F 47 [5, 6] c47r12 L m Q := Tx_told (by kernel_rfl) h
theorem t47r13 (h : Obt (ldA 8 m (tget L 5)) fun a0 => Obt (chk true (callC An F 47 (some 57) 73 [(.int .i64 1)] m)) fun a1 => Obt (cbin Tryz.prog .sub 3 (.tmp 58) (.const (.int .i64 3)) (tget L 6) (.int .i64 3)) fun a2 => Obt (chk true (callC An F 47 (some 60) 73 [a2] a1.2)) fun a3 => Obt (bslX false 976 8 3 [.int .i64 0, .int .i64 0, .int .i64 0, .int .i64 0, .int .i64 0, .bool false, .int .i64 0, .int .i64 0, .int .i64 0, .int .i64 0, .int .i64 0, .int .i64 0, .int .i64 0, .bool false, .int .i64 0, .int .i64 0, .int .i64 0, .int .i64 0, .int .i64 0, .int .i64 0, .int .i64 0, .bool false, .int .i64 0, .int .i64 0] [(0, 8, a0), (8, 8, a1.1), (16, 8, a3.1)] a3.2) fun a4 => Q .normal ⟨[(4, a4.1)], a4.2⟩) : Rt F 47 [4] c47r13 L m Q := Tx_told (by kernel_rfl) h
def c71r0 := rg 71 Tryz.f71 0
def c71r1 := rg 71 Tryz.f71 1
def c71 : SC :=
  (.seq (.reg false (some [0, 1]) c71r0) (.seq (.reg true (some [4]) c71r1) .ret))
theorem s71 : Tryz.f71.body.bind (strip Tryz.prog An 71 Tryz.f71.ntmps) = some c71 := by kernel_rfl
theorem g71 : An.glob 71 = [] := rfl
theorem r71 : Tryz.f71.results.toList = [(.tmp 4)] := by kernel_rfl
theorem t71r0 (h : Q .normal ⟨[(0, (tget L 0)), (1, (tget L 1))], m⟩) : Rg F 71 [0, 1] c71r0 L m Q := Tx_told (by kernel_rfl) h
theorem t71r1 (h : Obt (nilX (tget L 0)) fun a0 => Obt (fldA 3 a0) fun a1 => Obt (ld1 m a1) fun a2 => Obt (nilX (tget L 0)) fun a3 => Obt (fldA 1 a3) fun a4 => Obt (ld1 m a4) fun a5 => Obt (nilX (tget L 0)) fun a6 => Obt (fldA 0 a6) fun a7 => Obt (ld1 m a7) fun a8 => Obt (idxS 9 a8 (tget L 1)) fun a9 => Obt (fldA 8 a9) fun a10 => Obt (ld1 m a10) fun a11 => Obt (cbin Tryz.prog .sub 3 (.tmp 20) (.const (.int .i64 1)) a11 (.int .i64 1)) fun a12 => Obt (idxS 1 a5 a12) fun a13 => Obt (ld1 m a13) fun a14 => Obt (idxS 1 a2 a14) fun a15 => Obt (ld1 m a15) fun a16 => Obt (nilX (tget L 0)) fun a17 => Obt (fldA 3 a17) fun a18 => Obt (ld1 m a18) fun a19 => Obt (idxS 1 a19 (tget L 1)) fun a20 => Obt (ld1 m a20) fun a21 => Obt (cbin Tryz.prog .sub 3 (.tmp 25) (.tmp 32) a16 a21) fun a22 => Q .normal ⟨[(4, a22)], m⟩) : Rt F 71 [4] c71r1 L m Q := Tx_told (by kernel_rfl) h
def c72r0 := rg 72 Tryz.f72 0
def c72r1 := rg 72 Tryz.f72 1
def c72r2 := rg 72 Tryz.f72 2
def c72r3 := rg 72 Tryz.f72 3
def c72r4 := rg 72 Tryz.f72 4
def c72r5 := rg 72 Tryz.f72 5
def c72r6 := rg 72 Tryz.f72 6
def c72r7 := rg 72 Tryz.f72 7
def c72r8 := rg 72 Tryz.f72 8
def c72r9 := rg 72 Tryz.f72 9
def c72r10 := rg 72 Tryz.f72 10
def c72r11 := rg 72 Tryz.f72 11
def c72r12 := rg 72 Tryz.f72 12
def c72r13 := rg 72 Tryz.f72 13
def c72r14 := rg 72 Tryz.f72 14
def c72r15 := rg 72 Tryz.f72 15
def c72r16 := rg 72 Tryz.f72 16
def c72r17 := rg 72 Tryz.f72 17
def c72r18 := rg 72 Tryz.f72 18
def c72r19 := rg 72 Tryz.f72 19
def c72r20 := rg 72 Tryz.f72 20
def c72r21 := rg 72 Tryz.f72 21
def c72r22 := rg 72 Tryz.f72 22
def c72 : SC :=
  (.seq (.reg false (some [0]) c72r0) (.seq (.seq (.reg false (some [3]) c72r1) (.block 0 (.seq (.reg false (some [3, 4]) c72r2) (.cond (.tmp 4) (.seq (.reg false (some [2]) c72r3) .ret) (.seq (.reg false (some [3, 6]) c72r4) (.cond (.tmp 6) (.seq (.reg false (some [2]) c72r5) .ret) (.seq (.reg false (some [3, 8]) c72r6) (.cond (.tmp 8) (.seq (.reg false (some [2]) c72r7) .ret) (.seq (.reg false (some [3, 10]) c72r8) (.cond (.tmp 10) (.seq (.reg false (some [2]) c72r9) .ret) (.seq (.reg false (some [3, 12]) c72r10) (.cond (.tmp 12) (.seq (.reg false (some [2]) c72r11) .ret) (.seq (.reg false (some [3, 14]) c72r12) (.cond (.tmp 14) (.seq (.reg false (some [2]) c72r13) .ret) (.seq (.reg false (some [3, 16]) c72r14) (.cond (.tmp 16) (.seq (.reg false (some [2]) c72r15) .ret) (.seq (.reg false (some [3, 18]) c72r16) (.cond (.tmp 18) (.seq (.reg false (some [2]) c72r17) .ret) (.seq (.reg false (some [3, 20]) c72r18) (.cond (.tmp 20) (.seq (.reg false (some [2]) c72r19) .ret) (.seq (.reg false (some [22]) c72r20) (.cond (.tmp 22) (.seq (.reg false (some [2]) c72r21) .ret) .nop)))))))))))))))))))))) (.seq (.reg false (some [2]) c72r22) .ret)))
theorem s72 : Tryz.f72.body.bind (strip Tryz.prog An 72 Tryz.f72.ntmps) = some c72 := by kernel_rfl
theorem g72 : An.glob 72 = [] := rfl
theorem r72 : Tryz.f72.results.toList = [(.tmp 2)] := by kernel_rfl
theorem t72r0 (h : Q .normal ⟨[(0, (tget L 0))], m⟩) : Rg F 72 [0] c72r0 L m Q := Tx_told (by kernel_rfl) h
theorem t72r1 (h : Q .normal ⟨[(3, (tget L 0))], m⟩) : Rg F 72 [3] c72r1 L m Q := Tx_told (by kernel_rfl) h
theorem t72r2 (h : Obt (cbin Tryz.prog .eql 3 (.tmp 3) (.const (.int .i64 16)) (tget L 3) (.int .i64 16)) fun a0 => Q .normal ⟨[(3, (tget L 3)), (4, a0)], m⟩) : Rg F 72 [3, 4] c72r2 L m Q := Tx_told (by kernel_rfl) h
theorem t72r4 (h : Obt (cbin Tryz.prog .eql 3 (.tmp 3) (.const (.int .i64 80)) (tget L 3) (.int .i64 80)) fun a0 => Q .normal ⟨[(3, (tget L 3)), (6, a0)], m⟩) : Rg F 72 [3, 6] c72r4 L m Q := Tx_told (by kernel_rfl) h
theorem t72r6 (h : Obt (cbin Tryz.prog .eql 3 (.tmp 3) (.const (.int .i64 32)) (tget L 3) (.int .i64 32)) fun a0 => Q .normal ⟨[(3, (tget L 3)), (8, a0)], m⟩) : Rg F 72 [3, 8] c72r6 L m Q := Tx_told (by kernel_rfl) h
theorem t72r8 (h : Obt (cbin Tryz.prog .eql 3 (.tmp 3) (.const (.int .i64 176)) (tget L 3) (.int .i64 176)) fun a0 => Q .normal ⟨[(3, (tget L 3)), (10, a0)], m⟩) : Rg F 72 [3, 10] c72r8 L m Q := Tx_told (by kernel_rfl) h
theorem t72r10 (h : Obt (cbin Tryz.prog .eql 3 (.tmp 3) (.const (.int .i64 48)) (tget L 3) (.int .i64 48)) fun a0 => Q .normal ⟨[(3, (tget L 3)), (12, a0)], m⟩) : Rg F 72 [3, 12] c72r10 L m Q := Tx_told (by kernel_rfl) h
theorem t72r12 (h : Obt (cbin Tryz.prog .eql 3 (.tmp 3) (.const (.int .i64 160)) (tget L 3) (.int .i64 160)) fun a0 => Q .normal ⟨[(3, (tget L 3)), (14, a0)], m⟩) : Rg F 72 [3, 14] c72r12 L m Q := Tx_told (by kernel_rfl) h
theorem t72r14 (h : Obt (cbin Tryz.prog .eql 3 (.tmp 3) (.const (.int .i64 96)) (tget L 3) (.int .i64 96)) fun a0 => Q .normal ⟨[(3, (tget L 3)), (16, a0)], m⟩) : Rg F 72 [3, 16] c72r14 L m Q := Tx_told (by kernel_rfl) h
theorem t72r16 (h : Obt (cbin Tryz.prog .eql 3 (.tmp 3) (.const (.int .i64 208)) (tget L 3) (.int .i64 208)) fun a0 => Q .normal ⟨[(3, (tget L 3)), (18, a0)], m⟩) : Rg F 72 [3, 18] c72r16 L m Q := Tx_told (by kernel_rfl) h
theorem t72r18 (h : Obt (cbin Tryz.prog .eql 3 (.tmp 3) (.const (.int .i64 112)) (tget L 3) (.int .i64 112)) fun a0 => Q .normal ⟨[(3, (tget L 3)), (20, a0)], m⟩) : Rg F 72 [3, 20] c72r18 L m Q := Tx_told (by kernel_rfl) h
theorem t72r20 (h : Obt (cbin Tryz.prog .eql 3 (.tmp 3) (.const (.int .i64 192)) (tget L 3) (.int .i64 192)) fun a0 => Q .normal ⟨[(22, a0)], m⟩) : Rg F 72 [22] c72r20 L m Q := Tx_told (by kernel_rfl) h
theorem t72r22 (h : Q .normal ⟨[(2, (.int .i64 (-1)))], m⟩) : Rg F 72 [2] c72r22 L m Q := Tx_told (by kernel_rfl) h
def c73r0 := rg 73 Tryz.f73 0
def c73r1 := rg 73 Tryz.f73 1
def c73 : SC :=
  (.seq (.reg false (some [0, 2]) c73r0) (.seq (.reg false (some [2]) c73r1) .ret))
theorem s73 : Tryz.f73.body.bind (strip Tryz.prog An 73 Tryz.f73.ntmps) = some c73 := by kernel_rfl
theorem g73 : An.glob 73 = [] := rfl
theorem r73 : Tryz.f73.results.toList = [(.cell 2 52)] := by kernel_rfl
theorem t73r0 (h : Q .normal ⟨[(0, (tget L 0)), (2, (newP m 32))], (newL m 32 [.int .i64 0, .int .i64 0, .int .i64 0, .int .i64 0, .int .i64 0, .bool false, .int .i64 0, .int .i64 0])⟩) : Rg F 73 [0, 2] c73r0 L m Q := Tx_told (by kernel_rfl) h
theorem t73r1 (h : Obt ((fillX [.int .i64 0, .int .i64 0, .int .i64 0, .int .i64 0, .int .i64 0, .bool false, .int .i64 0, .int .i64 0] [(0, 1, (.int .i64 21)), (7, 1, (tget L 0))]).map CV.agg) fun a0 => Obt (stX 8 m (tget L 2) a0) fun a1 => Q .normal ⟨[(2, (tget L 2))], a1⟩) : Rg F 73 [2] c73r1 L m Q := Tx_told (by kernel_rfl) h
def c26r0 := rg 26 Tryz.f26 0
def c26r1 := rg 26 Tryz.f26 1
def c26r2 := rg 26 Tryz.f26 2
def c26r3 := rg 26 Tryz.f26 3
def c26r4 := rg 26 Tryz.f26 4
def c26r5 := rg 26 Tryz.f26 5
def c26r6 := rg 26 Tryz.f26 6
def c26r7 := rg 26 Tryz.f26 7
def c26r9 := rg 26 Tryz.f26 9
def c26r10 := rg 26 Tryz.f26 10
def c26r11 := rg 26 Tryz.f26 11
def c26r12 := rg 26 Tryz.f26 12
def c26r13 := rg 26 Tryz.f26 13
def c26r8 := rg 26 Tryz.f26 8
def c26l0 : SC :=
  (.seq (.seq (.reg false (some [0, 1, 6, 7, 8, 9, 29]) c26r7) (.cond (.tmp 29) .nop (.exit 2))) (.seq (.block 3 (.seq (.seq (.reg false (some [0, 1, 6, 7, 8, 9, 52]) c26r9) (.cond (.tmp 52) (.exit 3) .nop)) (.seq (.reg true (some [0, 1, 6, 7, 8, 9, 10]) c26r10) (.seq (.reg false (some [0, 1, 6, 7, 8, 9, 76]) c26r11) (.cond (.tmp 76) (.seq (.reg false (some [0, 1, 6, 7, 9]) c26r12) (.reg false (some [0, 1, 6, 7, 8, 9]) c26r13)) .nop))))) (.reg false (some [0, 1, 6, 7, 8, 9]) c26r8)))
def c26r14 := rg 26 Tryz.f26 14
def c26r15 := rg 26 Tryz.f26 15
def c26l1 : SC :=
  (.block 1 (.seq (.reg false (some [0, 1, 6, 7, 8]) c26r5) (.seq (.seq (.reg false (some [0, 1, 6, 7, 8, 9]) c26r6) (.block 2 (.loop c26l0))) (.seq (.seq (.reg false (some [0, 1, 6, 7, 81]) c26r14) (.cond (.tmp 81) (.exit 0) .nop)) (.reg false (some [0, 1, 6, 7]) c26r15)))))
def c26r16 := rg 26 Tryz.f26 16
def c26r17 := rg 26 Tryz.f26 17
def c26r18 := rg 26 Tryz.f26 18
def c26r20 := rg 26 Tryz.f26 20
def c26r21 := rg 26 Tryz.f26 21
def c26r22 := rg 26 Tryz.f26 22
def c26r23 := rg 26 Tryz.f26 23
def c26r24 := rg 26 Tryz.f26 24
def c26r25 := rg 26 Tryz.f26 25
def c26r26 := rg 26 Tryz.f26 26
def c26r27 := rg 26 Tryz.f26 27
def c26r19 := rg 26 Tryz.f26 19
def c26l2 : SC :=
  (.seq (.seq (.reg false (some [0, 1, 6, 7, 11, 12, 88]) c26r18) (.cond (.tmp 88) .nop (.exit 4))) (.seq (.block 5 (.seq (.reg false (some [0, 1, 6, 7, 11, 12, 13]) c26r20) (.seq (.seq (.reg false (some [0, 1, 6, 7, 11, 12, 13, 101]) c26r21) (.cond (.tmp 101) (.seq (.reg false (some [0, 1, 6, 7, 11, 12]) c26r22) (.exit 5)) .nop)) (.seq (.reg true (some [0, 1, 6, 7, 11, 12, 13, 14]) c26r23) (.seq (.seq (.reg false (some [0, 1, 6, 7, 11, 12, 13, 14, 126]) c26r24) (.cond (.tmp 126) (.seq (.reg false (some [0, 1, 6, 7, 11, 12]) c26r25) (.exit 5)) .nop)) (.seq (.reg false (some [0, 1, 6, 7, 11, 12, 13]) c26r26) (.reg false (some [0, 1, 6, 7, 11, 12]) c26r27))))))) (.reg false (some [0, 1, 6, 7, 11, 12]) c26r19)))
def c26r28 := rg 26 Tryz.f26 28
def c26r29 := rg 26 Tryz.f26 29
def c26r31 := rg 26 Tryz.f26 31
def c26r32 := rg 26 Tryz.f26 32
def c26r30 := rg 26 Tryz.f26 30
def c26l3 : SC :=
  (.seq (.seq (.reg false (some [11, 15, 145]) c26r29) (.cond (.tmp 145) .nop (.exit 6))) (.seq (.block 7 (.seq (.reg false (some [11, 15, 153]) c26r31) (.cond (.tmp 153) (.seq (.reg false (some [4, 5]) c26r32) .ret) .nop))) (.reg false (some [11, 15]) c26r30)))
def c26r33 := rg 26 Tryz.f26 33
def c26 : SC :=
  (.seq (.reg false (some [0, 1]) c26r0) (.seq (.seq (.reg false (some [0, 1, 19]) c26r1) (.cond (.tmp 19) (.seq (.reg false (some [4, 5]) c26r2) .ret) .nop)) (.seq (.reg false (some [0, 1, 6]) c26r3) (.seq (.reg false (some [0, 1, 6, 7]) c26r4) (.seq (.block 0 (.loop c26l1)) (.seq (.reg false (some [0, 1, 6, 7, 11]) c26r16) (.seq (.seq (.reg false (some [0, 1, 6, 7, 11, 12]) c26r17) (.block 4 (.loop c26l2))) (.seq (.seq (.reg false (some [11, 15]) c26r28) (.block 6 (.loop c26l3))) (.seq (.reg false (some [4, 5]) c26r33) .ret)))))))))
theorem s26 : Tryz.f26.body.bind (strip Tryz.prog An 26 Tryz.f26.ntmps) = some c26 := by kernel_rfl
theorem g26 : An.glob 26 = [22] := rfl
theorem r26 : Tryz.f26.results.toList = [(.tmp 4), (.tmp 5)] := by kernel_rfl
theorem t26r0 (h : Q .normal ⟨[(0, (tget L 0)), (1, (tget L 1))], m⟩) : Rg F 26 [0, 1] c26r0 L m Q := Tx_told (by kernel_rfl) h
theorem t26r1 (h : Obt (callC An F 26 (some 18) 52 [(tget L 0), (tget L 1)] m) fun a0 => Obt (cun .not a0.1) fun a1 => Q .normal ⟨[(0, (tget L 0)), (1, (tget L 1)), (19, a1)], a0.2⟩) : Rg F 26 [0, 1, 19] c26r1 L m Q := Tx_told (by kernel_rfl) h
theorem t26r2 (h : Q .normal ⟨[(4, .nil), (5, (.int .i64 2))], m⟩) : Rg F 26 [4, 5] c26r2 L m Q := Tx_told (by kernel_rfl) h
theorem t26r3 (h : Obt (lenS (tget L 0)) fun a0 => Obt (mkX true 352 1 1 [.bool false] a0 a0 m) fun a1 => Q .normal ⟨[(0, (tget L 0)), (1, (tget L 1)), (6, a1.1)], a1.2⟩) : Rg F 26 [0, 1, 6] c26r3 L m Q := Tx_told (by kernel_rfl) h
theorem t26r4 (h : Obt (callC An F 26 (some 25) 53 [(tget L 0), (tget L 6)] m) fun a0 => Q .normal ⟨[(0, (tget L 0)), (1, (tget L 1)), (6, (tget L 6)), (7, a0.1)], a0.2⟩) : Rg F 26 [0, 1, 6, 7] c26r4 L m Q := Tx_told (by kernel_rfl) h
theorem t26r5 (h : Q .normal ⟨[(0, (tget L 0)), (1, (tget L 1)), (6, (tget L 6)), (7, (tget L 7)), (8, (.bool false))], m⟩) : Rg F 26 [0, 1, 6, 7, 8] c26r5 L m Q := Tx_told (by kernel_rfl) h
theorem t26r6 (h : Q .normal ⟨[(0, (tget L 0)), (1, (tget L 1)), (6, (tget L 6)), (7, (tget L 7)), (8, (tget L 8)), (9, (.int .i64 0))], m⟩) : Rg F 26 [0, 1, 6, 7, 8, 9] c26r6 L m Q := Tx_told (by kernel_rfl) h
theorem t26r7 (h : Obt (lenS (tget L 0)) fun a0 => Obt (cbin Tryz.prog .lss 3 (.tmp 26) (.tmp 28) (tget L 9) a0) fun a1 => Q .normal ⟨[(0, (tget L 0)), (1, (tget L 1)), (6, (tget L 6)), (7, (tget L 7)), (8, (tget L 8)), (9, (tget L 9)), (29, a1)], m⟩) : Rg F 26 [0, 1, 6, 7, 8, 9, 29] c26r7 L m Q := Tx_told (by kernel_rfl) h
theorem t26r9 (h : Obt (idxS 9 (tget L 0) (tget L 9)) fun a0 => Obt (fldA 8 a0) fun a1 => Obt (ld1 m a1) fun a2 => Obt (cbin Tryz.prog .eql 3 (.tmp 36) (.const (.int .i64 0)) a2 (.int .i64 0)) fun a3 => Obt (gdO a3 false (some ((tget L 0), m)) (.tuple [], m)) fun a4 => Obt (gdO a3 false (some ((tget L 9), a4.2)) (.tuple [], a4.2)) fun a5 => Obt (gdO a3 false ((idxS 9 a4.1 a5.1).map fun v => (v, a5.2)) (.tuple [], a5.2)) fun a6 => Obt (gdO a3 false ((fldA 0 a6.1).map fun v => (v, a6.2)) (.tuple [], a6.2)) fun a7 => Obt (gdO a3 false ((fldA 0 a7.1).map fun v => (v, a7.2)) (.tuple [], a7.2)) fun a8 => Obt (gdO a3 false ((ld1 a8.2 a8.1).map fun v => (v, a8.2)) (.tuple [], a8.2)) fun a9 => Obt (gdO a3 false ((cbin Tryz.prog .neq 50 (.tmp 44) (.const (.int .i64 20)) a9.1 (.int .i64 20)).map fun v => (v, a9.2)) (.tuple [], a9.2)) fun a10 => Obt (pickX a3 (.bool true) a10.1) fun a11 => Obt (gdO a11 false (some ((tget L 6), a10.2)) (.tuple [], a10.2)) fun a12 => Obt (gdO a11 false (some ((tget L 9), a12.2)) (.tuple [], a12.2)) fun a13 => Obt (gdO a11 false ((idxS 1 a12.1 a13.1).map fun v => (v, a13.2)) (.tuple [], a13.2)) fun a14 => Obt (gdO a11 false ((ld1 a14.2 a14.1).map fun v => (v, a14.2)) (.tuple [], a14.2)) fun a15 => Obt (pickX a11 (.bool true) a15.1) fun a16 => Q .normal ⟨[(0, (tget L 0)), (1, (tget L 1)), (6, (tget L 6)), (7, (tget L 7)), (8, (tget L 8)), (9, (tget L 9)), (52, a16)], a15.2⟩) : Rg F 26 [0, 1, 6, 7, 8, 9, 52] c26r9 L m Q := Tx_told (by kernel_rfl) h
theorem t26r10 (h : Obt (idxS 9 (tget L 0) (tget L 9)) fun a0 => Obt (fldA 8 a0) fun a1 => Obt (ld1 m a1) fun a2 => Obt (cbin Tryz.prog .sub 3 (.tmp 59) (.const (.int .i64 1)) a2 (.int .i64 1)) fun a3 => Obt (idxS 1 (tget L 1) a3) fun a4 => Obt (ld1 m a4) fun a5 => Obt (idxS 1 (tget L 7) a5) fun a6 => Obt (ld1 m a6) fun a7 => Obt (idxS 1 (tget L 7) (tget L 9)) fun a8 => Obt (ld1 m a8) fun a9 => Obt (cbin Tryz.prog .sub 3 (.tmp 64) (.tmp 68) a7 a9) fun a10 => Obt (cbin Tryz.prog .sub 3 (.tmp 69) (.const (.int .i64 1)) a10 (.int .i64 1)) fun a11 => Q .normal ⟨[(0, (tget L 0)), (1, (tget L 1)), (6, (tget L 6)), (7, (tget L 7)), (8, (tget L 8)), (9, (tget L 9)), (10, a11)], m⟩) : Rt F 26 [0, 1, 6, 7, 8, 9, 10] c26r10 L m Q := Tx_told (by kernel_rfl) h
theorem t26r11 (h : Obt (cbin Tryz.prog .lss 3 (.tmp 71) (.const (.int .i64 (-1024))) (tget L 10) (.int .i64 (-1024))) fun a0 => Obt (gdO a0 false (some ((tget L 10), m)) (.tuple [], m)) fun a1 => Obt (gdO a0 false ((cbin Tryz.prog .gtr 3 (.tmp 74) (.const (.int .i64 1023)) a1.1 (.int .i64 1023)).map fun v => (v, a1.2)) (.tuple [], a1.2)) fun a2 => Obt (pickX a0 (.bool true) a2.1) fun a3 => Q .normal ⟨[(0, (tget L 0)), (1, (tget L 1)), (6, (tget L 6)), (7, (tget L 7)), (8, (tget L 8)), (9, (tget L 9)), (76, a3)], a2.2⟩) : Rg F 26 [0, 1, 6, 7, 8, 9, 76] c26r11 L m Q := Tx_told (by kernel_rfl) h
theorem t26r12 (h : Obt (idxS 1 (tget L 6) (tget L 9)) fun a0 => Obt (stX 1 m a0 (.bool true)) fun a1 => Q .normal ⟨[(0, (tget L 0)), (1, (tget L 1)), (6, (tget L 6)), (7, (tget L 7)), (9, (tget L 9))], a1⟩) : Rg F 26 [0, 1, 6, 7, 9] c26r12 L m Q := Tx_told (by kernel_rfl) h
theorem t26r13 (h : Q .normal ⟨[(0, (tget L 0)), (1, (tget L 1)), (6, (tget L 6)), (7, (tget L 7)), (8, (.bool true)), (9, (tget L 9))], m⟩) : Rg F 26 [0, 1, 6, 7, 8, 9] c26r13 L m Q := Tx_told (by kernel_rfl) h
theorem t26r8 (h : Obt (cbin Tryz.prog .add 3 (.tmp 30) (.const (.int .i64 1)) (tget L 9) (.int .i64 1)) fun a0 => Q .normal ⟨[(0, (tget L 0)), (1, (tget L 1)), (6, (tget L 6)), (7, (tget L 7)), (8, (tget L 8)), (9, a0)], m⟩) : Rg F 26 [0, 1, 6, 7, 8, 9] c26r8 L m Q := Tx_told (by kernel_rfl) h
theorem t26r14 (h : Obt (cun .not (tget L 8)) fun a0 => Q .normal ⟨[(0, (tget L 0)), (1, (tget L 1)), (6, (tget L 6)), (7, (tget L 7)), (81, a0)], m⟩) : Rg F 26 [0, 1, 6, 7, 81] c26r14 L m Q := Tx_told (by kernel_rfl) h
theorem t26r15 (h : Obt (callC An F 26 (some 84) 53 [(tget L 0), (tget L 6)] m) fun a0 => Q .normal ⟨[(0, (tget L 0)), (1, (tget L 1)), (6, (tget L 6)), (7, a0.1)], a0.2⟩) : Rg F 26 [0, 1, 6, 7] c26r15 L m Q := Tx_told (by kernel_rfl) h
theorem t26r16 (h : Q .normal ⟨[(0, (tget L 0)), (1, (tget L 1)), (6, (tget L 6)), (7, (tget L 7)), (11, .nil)], m⟩) : Rg F 26 [0, 1, 6, 7, 11] c26r16 L m Q := Tx_told (by kernel_rfl) h
theorem t26r17 (h : Q .normal ⟨[(0, (tget L 0)), (1, (tget L 1)), (6, (tget L 6)), (7, (tget L 7)), (11, (tget L 11)), (12, (.int .i64 0))], m⟩) : Rg F 26 [0, 1, 6, 7, 11, 12] c26r17 L m Q := Tx_told (by kernel_rfl) h
theorem t26r18 (h : Obt (lenS (tget L 0)) fun a0 => Obt (cbin Tryz.prog .lss 3 (.tmp 85) (.tmp 87) (tget L 12) a0) fun a1 => Q .normal ⟨[(0, (tget L 0)), (1, (tget L 1)), (6, (tget L 6)), (7, (tget L 7)), (11, (tget L 11)), (12, (tget L 12)), (88, a1)], m⟩) : Rg F 26 [0, 1, 6, 7, 11, 12, 88] c26r18 L m Q := Tx_told (by kernel_rfl) h
theorem t26r20 (h : Obt (idxS 9 (tget L 0) (tget L 12)) fun a0 => Obt (fldA 0 a0) fun a1 => Obt (ldA 8 m a1) fun a2 => Obt (stX 8 (newL m 208 [.int .i64 0, .int .i64 0, .int .i64 0, .int .i64 0, .int .i64 0, .bool false, .int .i64 0, .int .i64 0]) (newP m 208) a2) fun a3 => Q .normal ⟨[(0, (tget L 0)), (1, (tget L 1)), (6, (tget L 6)), (7, (tget L 7)), (11, (tget L 11)), (12, (tget L 12)), (13, (newP m 208))], a3⟩) : Rg F 26 [0, 1, 6, 7, 11, 12, 13] c26r20 L m Q := Tx_told (by kernel_rfl) h
theorem t26r21 (h : Obt (idxS 9 (tget L 0) (tget L 12)) fun a0 => Obt (fldA 8 a0) fun a1 => Obt (ld1 m a1) fun a2 => Obt (cbin Tryz.prog .eql 3 (.tmp 100) (.const (.int .i64 0)) a2 (.int .i64 0)) fun a3 => Q .normal ⟨[(0, (tget L 0)), (1, (tget L 1)), (6, (tget L 6)), (7, (tget L 7)), (11, (tget L 11)), (12, (tget L 12)), (13, (tget L 13)), (101, a3)], m⟩) : Rg F 26 [0, 1, 6, 7, 11, 12, 13, 101] c26r21 L m Q := Tx_told (by kernel_rfl) h
theorem t26r22 (h : Obt (ldA 8 m (tget L 13)) fun a0 => Obt (bslX false 1664 8 1 [.int .i64 0, .int .i64 0, .int .i64 0, .int .i64 0, .int .i64 0, .bool false, .int .i64 0, .int .i64 0] [(0, 8, a0)] m) fun a1 => Obt (appX false 1680 8 64 (tget L 11) a1.1 a1.2) fun a2 => Q .normal ⟨[(0, (tget L 0)), (1, (tget L 1)), (6, (tget L 6)), (7, (tget L 7)), (11, a2.1), (12, (tget L 12))], a2.2⟩) : Rg F 26 [0, 1, 6, 7, 11, 12] c26r22 L m Q := Tx_told (by kernel_rfl) h
theorem t26r23 (h : Obt (idxS 9 (tget L 0) (tget L 12)) fun a0 => Obt (fldA 8 a0) fun a1 => Obt (ld1 m a1) fun a2 => Obt (cbin Tryz.prog .sub 3 (.tmp 112) (.const (.int .i64 1)) a2 (.int .i64 1)) fun a3 => Obt (idxS 1 (tget L 1) a3) fun a4 => Obt (ld1 m a4) fun a5 => Obt (idxS 1 (tget L 7) a5) fun a6 => Obt (ld1 m a6) fun a7 => Obt (idxS 1 (tget L 7) (tget L 12)) fun a8 => Obt (ld1 m a8) fun a9 => Obt (cbin Tryz.prog .sub 3 (.tmp 117) (.tmp 121) a7 a9) fun a10 => Q .normal ⟨[(0, (tget L 0)), (1, (tget L 1)), (6, (tget L 6)), (7, (tget L 7)), (11, (tget L 11)), (12, (tget L 12)), (13, (tget L 13)), (14, a10)], m⟩) : Rt F 26 [0, 1, 6, 7, 11, 12, 13, 14] c26r23 L m Q := Tx_told (by kernel_rfl) h
theorem t26r24 (h : Obt (idxS 1 (tget L 6) (tget L 12)) fun a0 => Obt (ld1 m a0) fun a1 => Q .normal ⟨[(0, (tget L 0)), (1, (tget L 1)), (6, (tget L 6)), (7, (tget L 7)), (11, (tget L 11)), (12, (tget L 12)), (13, (tget L 13)), (14, (tget L 14)), (126, a1)], m⟩) : Rg F 26 [0, 1, 6, 7, 11, 12, 13, 14, 126] c26r24 L m Q := Tx_told (by kernel_rfl) h
theorem t26r25 (h : Obt (idxS 9 (tget L 0) (tget L 12)) fun a0 => Obt (ldA 9 m a0) fun a1 => Obt (callC An F 26 (some 133) 54 [a1, (tget L 14)] m) fun a2 => Obt (appX false 2144 8 64 (tget L 11) a2.1 a2.2) fun a3 => Q .normal ⟨[(0, (tget L 0)), (1, (tget L 1)), (6, (tget L 6)), (7, (tget L 7)), (11, a3.1), (12, (tget L 12))], a3.2⟩) : Rg F 26 [0, 1, 6, 7, 11, 12] c26r25 L m Q := Tx_told (by kernel_rfl) h
theorem t26r26 (h : Obt (cbin Tryz.prog .sub 3 (.tmp 135) (.const (.int .i64 1)) (tget L 14) (.int .i64 1)) fun a0 => Obt (fldA 7 (tget L 13)) fun a1 => Obt (stX 1 m a1 a0) fun a2 => Q .normal ⟨[(0, (tget L 0)), (1, (tget L 1)), (6, (tget L 6)), (7, (tget L 7)), (11, (tget L 11)), (12, (tget L 12)), (13, (tget L 13))], a2⟩) : Rg F 26 [0, 1, 6, 7, 11, 12, 13] c26r26 L m Q := Tx_told (by kernel_rfl) h
theorem t26r27 (h : Obt (ldA 8 m (tget L 13)) fun a0 => Obt (bslX false 2240 8 1 [.int .i64 0, .int .i64 0, .int .i64 0, .int .i64 0, .int .i64 0, .bool false, .int .i64 0, .int .i64 0] [(0, 8, a0)] m) fun a1 => Obt (appX false 2256 8 64 (tget L 11) a1.1 a1.2) fun a2 => Q .normal ⟨[(0, (tget L 0)), (1, (tget L 1)), (6, (tget L 6)), (7, (tget L 7)), (11, a2.1), (12, (tget L 12))], a2.2⟩) : Rg F 26 [0, 1, 6, 7, 11, 12] c26r27 L m Q := Tx_told (by kernel_rfl) h
theorem t26r19 (h : Obt (cbin Tryz.prog .add 3 (.tmp 89) (.const (.int .i64 1)) (tget L 12) (.int .i64 1)) fun a0 => Q .normal ⟨[(0, (tget L 0)), (1, (tget L 1)), (6, (tget L 6)), (7, (tget L 7)), (11, (tget L 11)), (12, a0)], m⟩) : Rg F 26 [0, 1, 6, 7, 11, 12] c26r19 L m Q := Tx_told (by kernel_rfl) h
theorem t26r28 (h : Q .normal ⟨[(11, (tget L 11)), (15, (.int .i64 0))], m⟩) : Rg F 26 [11, 15] c26r28 L m Q := Tx_told (by kernel_rfl) h
theorem t26r29 (h : Obt (lenS (tget L 11)) fun a0 => Obt (cbin Tryz.prog .lss 3 (.tmp 142) (.tmp 144) (tget L 15) a0) fun a1 => Q .normal ⟨[(11, (tget L 11)), (15, (tget L 15)), (145, a1)], m⟩) : Rg F 26 [11, 15, 145] c26r29 L m Q := Tx_told (by kernel_rfl) h
theorem t26r31 (h : Obt (idxS 8 (tget L 11) (tget L 15)) fun a0 => Obt (ldA 8 m a0) fun a1 => Obt (callC An F 26 (some 152) 25 [a1] m) fun a2 => Obt (cun .not a2.1) fun a3 => Q .normal ⟨[(11, (tget L 11)), (15, (tget L 15)), (153, a3)], a2.2⟩) : Rg F 26 [11, 15, 153] c26r31 L m Q := Tx_told (by kernel_rfl) h
theorem t26r32 (h : Q .normal ⟨[(4, .nil), (5, (.int .i64 250))], m⟩) : Rg F 26 [4, 5] c26r32 L m Q := Tx_told (by kernel_rfl) h
theorem t26r30 (h : Obt (cbin Tryz.prog .add 3 (.tmp 146) (.const (.int .i64 1)) (tget L 15) (.int .i64 1)) fun a0 => Q .normal ⟨[(11, (tget L 11)), (15, a0)], m⟩) : Rg F 26 [11, 15] c26r30 L m Q := Tx_told (by kernel_rfl) h
theorem t26r33 (h : Q .normal ⟨[(4, (tget L 11)), (5, (.int .i64 0))], m⟩) : Rg F 26 [4, 5] c26r33 L m Q := Tx_told (by kernel_rfl) h
def c52r0 := rg 52 Tryz.f52 0
def c52r1 := rg 52 Tryz.f52 1
def c52r2 := rg 52 Tryz.f52 2
def c52r3 := rg 52 Tryz.f52 3
def c52r4 := rg 52 Tryz.f52 4
def c52r6 := rg 52 Tryz.f52 6
def c52r7 := rg 52 Tryz.f52 7
def c52r5 := rg 52 Tryz.f52 5
def c52l0 : SC :=
  (.seq (.seq (.reg false (some [0, 1, 5, 15]) c52r4) (.cond (.tmp 15) .nop (.exit 0))) (.seq (.block 1 (.seq (.reg false (some [0, 1, 5, 31]) c52r6) (.cond (.tmp 31) (.seq (.reg false (some [4]) c52r7) .ret) .nop))) (.reg false (some [0, 1, 5]) c52r5)))
def c52r8 := rg 52 Tryz.f52 8
def c52r9 := rg 52 Tryz.f52 9
def c52r11 := rg 52 Tryz.f52 11
def c52r12 := rg 52 Tryz.f52 12
def c52r13 := rg 52 Tryz.f52 13
def c52r14 := rg 52 Tryz.f52 14
def c52r10 := rg 52 Tryz.f52 10
def c52l1 : SC :=
  (.seq (.seq (.reg false (some [0, 1, 6, 35]) c52r9) (.cond (.tmp 35) .nop (.exit 2))) (.seq (.block 3 (.seq (.reg false (some [0, 1, 6, 7]) c52r11) (.seq (.reg false (some [0, 1, 6, 7, 8]) c52r12) (.seq (.reg false (some [0, 1, 6, 82]) c52r13) (.cond (.tmp 82) (.seq (.reg false (some [4]) c52r14) .ret) .nop))))) (.reg false (some [0, 1, 6]) c52r10)))
def c52r15 := rg 52 Tryz.f52 15
def c52 : SC :=
  (.seq (.reg false (some [0, 1]) c52r0) (.seq (.seq (.reg false (some [0, 1, 11]) c52r1) (.cond (.tmp 11) (.seq (.reg false (some [4]) c52r2) .ret) .nop)) (.seq (.seq (.reg false (some [0, 1, 5]) c52r3) (.block 0 (.loop c52l0))) (.seq (.seq (.reg false (some [0, 1, 6]) c52r8) (.block 2 (.loop c52l1))) (.seq (.reg false (some [4]) c52r15) .ret)))))
theorem s52 : Tryz.f52.body.bind (strip Tryz.prog An 52 Tryz.f52.ntmps) = some c52 := by kernel_rfl
theorem g52 : An.glob 52 = [] := rfl
theorem r52 : Tryz.f52.results.toList = [(.tmp 4)] := by kernel_rfl
theorem t52r0 (h : Q .normal ⟨[(0, (tget L 0)), (1, (tget L 1))], m⟩) : Rg F 52 [0, 1] c52r0 L m Q := Tx_told (by kernel_rfl) h
theorem t52r1 (h : Obt (lenS (tget L 0)) fun a0 => Obt (cbin Tryz.prog .gtr 3 (.tmp 10) (.const (.int .i64 100000)) a0 (.int .i64 100000)) fun a1 => Q .normal ⟨[(0, (tget L 0)), (1, (tget L 1)), (11, a1)], m⟩) : Rg F 52 [0, 1, 11] c52r1 L m Q := Tx_told (by kernel_rfl) h
theorem t52r2 (h : Q .normal ⟨[(4, (.bool false))], m⟩) : Rg F 52 [4] c52r2 L m Q := Tx_told (by kernel_rfl) h
theorem t52r3 (h : Q .normal ⟨[(0, (tget L 0)), (1, (tget L 1)), (5, (.int .i64 0))], m⟩) : Rg F 52 [0, 1, 5] c52r3 L m Q := Tx_told (by kernel_rfl) h
theorem t52r4 (h : Obt (lenS (tget L 1)) fun a0 => Obt (cbin Tryz.prog .lss 3 (.tmp 12) (.tmp 14) (tget L 5) a0) fun a1 => Q .normal ⟨[(0, (tget L 0)), (1, (tget L 1)), (5, (tget L 5)), (15, a1)], m⟩) : Rg F 52 [0, 1, 5, 15] c52r4 L m Q := Tx_told (by kernel_rfl) h
theorem t52r6 (h : Obt (idxS 1 (tget L 1) (tget L 5)) fun a0 => Obt (ld1 m a0) fun a1 => Obt (cbin Tryz.prog .lss 3 (.tmp 21) (.const (.int .i64 0)) a1 (.int .i64 0)) fun a2 => Obt (gdO a2 false (some ((tget L 1), m)) (.tuple [], m)) fun a3 => Obt (gdO a2 false (some ((tget L 5), a3.2)) (.tuple [], a3.2)) fun a4 => Obt (gdO a2 false ((idxS 1 a3.1 a4.1).map fun v => (v, a4.2)) (.tuple [], a4.2)) fun a5 => Obt (gdO a2 false ((ld1 a5.2 a5.1).map fun v => (v, a5.2)) (.tuple [], a5.2)) fun a6 => Obt (gdO a2 false (some ((tget L 0), a6.2)) (.tuple [], a6.2)) fun a7 => Obt (gdO a2 false ((lenS a7.1).map fun v => (v, a7.2)) (.tuple [], a7.2)) fun a8 => Obt (gdO a2 false ((cbin Tryz.prog .gtr 3 (.tmp 27) (.tmp 29) a6.1 a8.1).map fun v => (v, a8.2)) (.tuple [], a8.2)) fun a9 => Obt (pickX a2 (.bool true) a9.1) fun a10 => Q .normal ⟨[(0, (tget L 0)), (1, (tget L 1)), (5, (tget L 5)), (31, a10)], a9.2⟩) : Rg F 52 [0, 1, 5, 31] c52r6 L m Q := Tx_told (by kernel_rfl) h
theorem t52r7 (h : Q .normal ⟨[(4, (.bool false))], m⟩) : Rg F 52 [4] c52r7 L m Q := Tx_told (by kernel_rfl) h
theorem t52r5 (h : Obt (cbin Tryz.prog .add 3 (.tmp 16) (.const (.int .i64 1)) (tget L 5) (.int .i64 1)) fun a0 => Q .normal ⟨[(0, (tget L 0)), (1, (tget L 1)), (5, a0)], m⟩) : Rg F 52 [0, 1, 5] c52r5 L m Q := Tx_told (by kernel_rfl) h
theorem t52r8 (h : Q .normal ⟨[(0, (tget L 0)), (1, (tget L 1)), (6, (.int .i64 0))], m⟩) : Rg F 52 [0, 1, 6] c52r8 L m Q := Tx_told (by kernel_rfl) h
theorem t52r9 (h : Obt (lenS (tget L 0)) fun a0 => Obt (cbin Tryz.prog .lss 3 (.tmp 32) (.tmp 34) (tget L 6) a0) fun a1 => Q .normal ⟨[(0, (tget L 0)), (1, (tget L 1)), (6, (tget L 6)), (35, a1)], m⟩) : Rg F 52 [0, 1, 6, 35] c52r9 L m Q := Tx_told (by kernel_rfl) h
theorem t52r11 (h : Obt (idxS 9 (tget L 0) (tget L 6)) fun a0 => Obt (ldA 9 m a0) fun a1 => Obt (stX 9 (newL m 112 [.int .i64 0, .int .i64 0, .int .i64 0, .int .i64 0, .int .i64 0, .bool false, .int .i64 0, .int .i64 0, .int .i64 0]) (newP m 112) a1) fun a2 => Q .normal ⟨[(0, (tget L 0)), (1, (tget L 1)), (6, (tget L 6)), (7, (newP m 112))], a2⟩) : Rg F 52 [0, 1, 6, 7] c52r11 L m Q := Tx_told (by kernel_rfl) h
theorem t52r12 (h : Obt (fldA 0 (tget L 7)) fun a0 => Obt (fldA 0 a0) fun a1 => Obt (ld1 m a1) fun a2 => Obt (cbin Tryz.prog .eql 50 (.tmp 44) (.const (.int .i64 21)) a2 (.int .i64 21)) fun a3 => Obt (gdO a3 false ((fldA 0 (tget L 7)).map fun v => (v, m)) (.tuple [], m)) fun a4 => Obt (gdO a3 false ((fldA 0 a4.1).map fun v => (v, a4.2)) (.tuple [], a4.2)) fun a5 => Obt (gdO a3 false ((ld1 a5.2 a5.1).map fun v => (v, a5.2)) (.tuple [], a5.2)) fun a6 => Obt (gdO a3 false ((cbin Tryz.prog .eql 50 (.tmp 49) (.const (.int .i64 20)) a6.1 (.int .i64 20)).map fun v => (v, a6.2)) (.tuple [], a6.2)) fun a7 => Obt (pickX a3 (.bool true) a7.1) fun a8 => Q .normal ⟨[(0, (tget L 0)), (1, (tget L 1)), (6, (tget L 6)), (7, (tget L 7)), (8, a8)], a7.2⟩) : Rg F 52 [0, 1, 6, 7, 8] c52r12 L m Q := Tx_told (by kernel_rfl) h
theorem t52r13 (h : Obt (fldA 0 (tget L 7)) fun a0 => Obt (ldA 8 m a0) fun a1 => Obt (callC An F 52 (some 54) 25 [a1] m) fun a2 => Obt (cun .not a2.1) fun a3 => Obt (gdO a3 false ((fldA 8 (tget L 7)).map fun v => (v, a2.2)) (.tuple [], a2.2)) fun a4 => Obt (gdO a3 false ((ld1 a4.2 a4.1).map fun v => (v, a4.2)) (.tuple [], a4.2)) fun a5 => Obt (gdO a3 false ((cbin Tryz.prog .lss 3 (.tmp 58) (.const (.int .i64 0)) a5.1 (.int .i64 0)).map fun v => (v, a5.2)) (.tuple [], a5.2)) fun a6 => Obt (pickX a3 (.bool true) a6.1) fun a7 => Obt (gdO a7 false ((fldA 8 (tget L 7)).map fun v => (v, a6.2)) (.tuple [], a6.2)) fun a8 => Obt (gdO a7 false ((ld1 a8.2 a8.1).map fun v => (v, a8.2)) (.tuple [], a8.2)) fun a9 => Obt (gdO a7 false (some ((tget L 1), a9.2)) (.tuple [], a9.2)) fun a10 => Obt (gdO a7 false ((lenS a10.1).map fun v => (v, a10.2)) (.tuple [], a10.2)) fun a11 => Obt (gdO a7 false ((cbin Tryz.prog .gtr 3 (.tmp 63) (.tmp 65) a9.1 a11.1).map fun v => (v, a11.2)) (.tuple [], a11.2)) fun a12 => Obt (pickX a7 (.bool true) a12.1) fun a13 => Obt (gdO a13 false ((fldA 8 (tget L 7)).map fun v => (v, a12.2)) (.tuple [], a12.2)) fun a14 => Obt (gdO a13 false ((ld1 a14.2 a14.1).map fun v => (v, a14.2)) (.tuple [], a14.2)) fun a15 => Obt (gdO a13 false ((cbin Tryz.prog .gtr 3 (.tmp 70) (.const (.int .i64 0)) a15.1 (.int .i64 0)).map fun v => (v, a15.2)) (.tuple [], a15.2)) fun a16 => Obt (gdO a13 false (some (a16.1, a16.2)) (.tuple [], a16.2)) fun a17 => Obt (gdO a17.1 true (some ((tget L 8), a17.2)) (.tuple [], a17.2)) fun a18 => Obt (gdO a17.1 true ((cun .not a18.1).map fun v => (v, a18.2)) (.tuple [], a18.2)) fun a19 => Obt (gdO a17.1 true (some (a19.1, a19.2)) (.tuple [], a19.2)) fun a20 => Obt (gdO a20.1 false ((fldA 0 (tget L 7)).map fun v => (v, a20.2)) (.tuple [], a20.2)) fun a21 => Obt (gdO a20.1 false ((fldA 7 a21.1).map fun v => (v, a21.2)) (.tuple [], a21.2)) fun a22 => Obt (gdO a20.1 false ((ld1 a22.2 a22.1).map fun v => (v, a22.2)) (.tuple [], a22.2)) fun a23 => Obt (gdO a20.1 false ((cbin Tryz.prog .neq 3 (.tmp 78) (.const (.int .i64 0)) a23.1 (.int .i64 0)).map fun v => (v, a23.2)) (.tuple [], a23.2)) fun a24 => Obt (gdO a17.1 true ((pickX a20.1 (.bool true) a24.1).map fun v => (v, a24.2)) (.tuple [], a24.2)) fun a25 => Obt (gdO a13 false ((pickX a17.1 a25.1 (.bool false)).map fun v => (v, a25.2)) (.tuple [], a25.2)) fun a26 => Obt (pickX a13 (.bool true) a26.1) fun a27 => Q .normal ⟨[(0, (tget L 0)), (1, (tget L 1)), (6, (tget L 6)), (82, a27)], a26.2⟩) : Rg F 52 [0, 1, 6, 82] c52r13 L m Q := Tx_told (by kernel_rfl) h
theorem t52r14 (h : Q .normal ⟨[(4, (.bool false))], m⟩) : Rg F 52 [4] c52r14 L m Q := Tx_told (by kernel_rfl) h
theorem t52r10 (h : Obt (cbin Tryz.prog .add 3 (.tmp 36) (.const (.int .i64 1)) (tget L 6) (.int .i64 1)) fun a0 => Q .normal ⟨[(0, (tget L 0)), (1, (tget L 1)), (6, a0)], m⟩) : Rg F 52 [0, 1, 6] c52r10 L m Q := Tx_told (by kernel_rfl) h
theorem t52r15 (h : Q .normal ⟨[(4, (.bool true))], m⟩) : Rg F 52 [4] c52r15 L m Q := Tx_told (by kernel_rfl) h
def c53r0 := rg 53 Tryz.f53 0
def c53r1 := rg 53 Tryz.f53 1
def c53r2 := rg 53 Tryz.f53 2
def c53r3 := rg 53 Tryz.f53 3
def c53r5 := rg 53 Tryz.f53 5
def c53r4 := rg 53 Tryz.f53 4
def c53l0 : SC :=
  (.seq (.seq (.reg false (some [0, 1, 5, 6, 11]) c53r3) (.cond (.tmp 11) .nop (.exit 0))) (.seq (.block 1 (.reg true (some [0, 1, 5, 6]) c53r5)) (.reg false (some [0, 1, 5, 6]) c53r4)))
def c53r6 := rg 53 Tryz.f53 6
def c53 : SC :=
  (.seq (.reg false (some [0, 1]) c53r0) (.seq (.reg false (some [0, 1, 5]) c53r1) (.seq (.seq (.reg false (some [0, 1, 5, 6]) c53r2) (.block 0 (.loop c53l0))) (.seq (.reg false (some [4]) c53r6) .ret))))
theorem s53 : Tryz.f53.body.bind (strip Tryz.prog An 53 Tryz.f53.ntmps) = some c53 := by kernel_rfl
theorem g53 : An.glob 53 = [] := rfl
theorem r53 : Tryz.f53.results.toList = [(.tmp 4)] := by kernel_rfl
theorem t53r0 (h : Q .normal ⟨[(0, (tget L 0)), (1, (tget L 1))], m⟩) : Rg F 53 [0, 1] c53r0 L m Q := Tx_told (by kernel_rfl) h
theorem t53r1 (h : Obt (bslX false 112 1 1 [.int .i64 0] [(0, 1, (.int .i64 0))] m) fun a0 => Q .normal ⟨[(0, (tget L 0)), (1, (tget L 1)), (5, a0.1)], a0.2⟩) : Rg F 53 [0, 1, 5] c53r1 L m Q := Tx_told (by kernel_rfl) h
theorem t53r2 (h : Q .normal ⟨[(0, (tget L 0)), (1, (tget L 1)), (5, (tget L 5)), (6, (.int .i64 0))], m⟩) : Rg F 53 [0, 1, 5, 6] c53r2 L m Q := Tx_told (by kernel_rfl) h
theorem t53r3 (h : Obt (lenS (tget L 0)) fun a0 => Obt (cbin Tryz.prog .lss 3 (.tmp 8) (.tmp 10) (tget L 6) a0) fun a1 => Q .normal ⟨[(0, (tget L 0)), (1, (tget L 1)), (5, (tget L 5)), (6, (tget L 6)), (11, a1)], m⟩) : Rg F 53 [0, 1, 5, 6, 11] c53r3 L m Q := Tx_told (by kernel_rfl) h
theorem t53r5 (h : Obt (idxS 1 (tget L 5) (tget L 6)) fun a0 => Obt (ld1 m a0) fun a1 => Obt (idxS 9 (tget L 0) (tget L 6)) fun a2 => Obt (ldA 9 m a2) fun a3 => Obt (idxS 1 (tget L 1) (tget L 6)) fun a4 => Obt (ld1 m a4) fun a5 => Obt (chk true (callC An F 53 (some 27) 78 [a3, a5] m)) fun a6 => Obt (cbin Tryz.prog .add 3 (.tmp 18) (.tmp 27) a1 a6.1) fun a7 => Obt (bslX false 464 1 1 [.int .i64 0] [(0, 1, a7)] a6.2) fun a8 => Obt (appX false 480 1 8 (tget L 5) a8.1 a8.2) fun a9 => Q .normal ⟨[(0, (tget L 0)), (1, (tget L 1)), (5, a9.1), (6, (tget L 6))], a9.2⟩) : Rt F 53 [0, 1, 5, 6] c53r5 L m Q := Tx_told (by kernel_rfl) h
theorem t53r4 (h : Obt (cbin Tryz.prog .add 3 (.tmp 12) (.const (.int .i64 1)) (tget L 6) (.int .i64 1)) fun a0 => Q .normal ⟨[(0, (tget L 0)), (1, (tget L 1)), (5, (tget L 5)), (6, a0)], m⟩) : Rg F 53 [0, 1, 5, 6] c53r4 L m Q := Tx_told (by kernel_rfl) h
theorem t53r6 (h : Q .normal ⟨[(4, (tget L 5))], m⟩) : Rg F 53 [4] c53r6 L m Q := Tx_told (by kernel_rfl) h
def c54r0 := rg 54 Tryz.f54 0
def c54r1 := rg 54 Tryz.f54 1
def c54r2 := rg 54 Tryz.f54 2
def c54r3 := rg 54 Tryz.f54 3
def c54r4 := rg 54 Tryz.f54 4
def c54r5 := rg 54 Tryz.f54 5
def c54r6 := rg 54 Tryz.f54 6
def c54r7 := rg 54 Tryz.f54 7
def c54 : SC :=
  (.seq (.reg false (some [1, 2]) c54r0) (.seq (.reg false (some [1, 5]) c54r1) (.seq (.reg false (some [1, 5]) c54r2) (.seq (.reg false (some [1, 5, 6]) c54r3) (.seq (.seq (.reg false (some [1, 5, 6, 14]) c54r4) (.cond (.tmp 14) (.seq (.reg false (some [1, 5]) c54r5) (.seq (.reg false (some [4]) c54r6) .ret)) .nop)) (.seq (.reg false (some [4]) c54r7) .ret))))))
theorem s54 : Tryz.f54.body.bind (strip Tryz.prog An 54 Tryz.f54.ntmps) = some c54 := by kernel_rfl
theorem g54 : An.glob 54 = [] := rfl
theorem r54 : Tryz.f54.results.toList = [(.tmp 4)] := by kernel_rfl
theorem t54r0 (h : Obt (ccells (tget L 0)) fun a0 => Q .normal ⟨[(1, (tget L 1)), (2, (newP m 32))], (newL m 32 a0)⟩) : Rg F 54 [1, 2] c54r0 L m Q := Tx_told (by kernel_rfl) h
theorem t54r1 (h : Obt (fldA 0 (tget L 2)) fun a0 => Obt (ldA 8 m a0) fun a1 => Obt (stX 8 (newL m 80 [.int .i64 0, .int .i64 0, .int .i64 0, .int .i64 0, .int .i64 0, .bool false, .int .i64 0, .int .i64 0]) (newP m 80) a1) fun a2 => Q .normal ⟨[(1, (tget L 1)), (5, (newP m 80))], a2⟩) : Rg F 54 [1, 5] c54r1 L m Q := Tx_told (by kernel_rfl) h
theorem t54r2 (h : Obt (fldA 7 (tget L 5)) fun a0 => Obt (stX 1 m a0 (.int .i64 1)) fun a1 => Q .normal ⟨[(1, (tget L 1)), (5, (tget L 5))], a1⟩) : Rg F 54 [1, 5] c54r2 L m Q := Tx_told (by kernel_rfl) h
theorem t54r3 (h : Obt (fldA 4 (tget L 5)) fun a0 => Obt (ld1 m a0) fun a1 => Obt (callC An F 54 (some 12) 79 [a1] m) fun a2 => Q .normal ⟨[(1, (tget L 1)), (5, (tget L 5)), (6, a2.1)], a2.2⟩) : Rg F 54 [1, 5, 6] c54r3 L m Q := Tx_told (by kernel_rfl) h
theorem t54r4 (h : Obt (cbin Tryz.prog .geq 3 (.tmp 13) (.const (.int .i64 0)) (tget L 6) (.int .i64 0)) fun a0 => Q .normal ⟨[(1, (tget L 1)), (5, (tget L 5)), (6, (tget L 6)), (14, a0)], m⟩) : Rg F 54 [1, 5, 6, 14] c54r4 L m Q := Tx_told (by kernel_rfl) h
theorem t54r5 (h : Obt (fldA 4 (tget L 5)) fun a0 => Obt (stX 1 m a0 (tget L 6)) fun a1 => Q .normal ⟨[(1, (tget L 1)), (5, (tget L 5))], a1⟩) : Rg F 54 [1, 5] c54r5 L m Q := Tx_told (by kernel_rfl) h
theorem t54r6 (h : Obt (ldA 8 m (tget L 5)) fun a0 => Obt (cbin Tryz.prog .sub 3 (.tmp 18) (.const (.int .i64 2)) (tget L 1) (.int .i64 2)) fun a1 => Obt ((fillX [.int .i64 0, .int .i64 0, .int .i64 0, .int .i64 0, .int .i64 0, .bool false, .int .i64 0, .int .i64 0] [(0, 1, (.int .i64 21)), (7, 1, a1)]).map CV.agg) fun a2 => Obt (bslX false 336 8 2 [.int .i64 0, .int .i64 0, .int .i64 0, .int .i64 0, .int .i64 0, .bool false, .int .i64 0, .int .i64 0, .int .i64 0, .int .i64 0, .int .i64 0, .int .i64 0, .int .i64 0, .bool false, .int .i64 0, .int .i64 0] [(0, 8, a0), (8, 8, a2)] m) fun a3 => Q .normal ⟨[(4, a3.1)], a3.2⟩) : Rg F 54 [4] c54r6 L m Q := Tx_told (by kernel_rfl) h
theorem t54r7 (h : Obt (ldA 8 m (tget L 5)) fun a0 => Obt ((fillX [.int .i64 0, .int .i64 0, .int .i64 0, .int .i64 0, .int .i64 0, .bool false, .int .i64 0, .int .i64 0] [(0, 1, (.int .i64 21)), (7, 1, (.int .i64 1))]).map CV.agg) fun a1 => Obt (cbin Tryz.prog .sub 3 (.tmp 24) (.const (.int .i64 3)) (tget L 1) (.int .i64 3)) fun a2 => Obt ((fillX [.int .i64 0, .int .i64 0, .int .i64 0, .int .i64 0, .int .i64 0, .bool false, .int .i64 0, .int .i64 0] [(0, 1, (.int .i64 21)), (7, 1, a2)]).map CV.agg) fun a3 => Obt (bslX false 432 8 3 [.int .i64 0, .int .i64 0, .int .i64 0, .int .i64 0, .int .i64 0, .bool false, .int .i64 0, .int .i64 0, .int .i64 0, .int .i64 0, .int .i64 0, .int .i64 0, .int .i64 0, .bool false, .int .i64 0, .int .i64 0, .int .i64 0, .int .i64 0, .int .i64 0, .int .i64 0, .int .i64 0, .bool false, .int .i64 0, .int .i64 0] [(0, 8, a0), (8, 8, a1), (16, 8, a3)] m) fun a4 => Q .normal ⟨[(4, a4.1)], a4.2⟩) : Rg F 54 [4] c54r7 L m Q := Tx_told (by kernel_rfl) h
def c78r0 := rg 78 Tryz.f78 0
def c78r1 := rg 78 Tryz.f78 1
def c78r2 := rg 78 Tryz.f78 2
def c78r3 := rg 78 Tryz.f78 3
def c78r4 := rg 78 Tryz.f78 4
def c78r5 := rg 78 Tryz.f78 5
def c78 : SC :=
  (.seq (.reg false (some [1, 2]) c78r0) (.seq (.seq (.reg false (some [2, 6]) c78r1) (.cond (.tmp 6) (.seq (.reg false (some [4]) c78r2) .ret) .nop)) (.seq (.seq (.reg false (some [11]) c78r3) (.cond (.tmp 11) (.seq (.reg false (some [4]) c78r4) .ret) .nop)) (.seq (.reg false (some [4]) c78r5) .ret))))
theorem s78 : Tryz.f78.body.bind (strip Tryz.prog An 78 Tryz.f78.ntmps) = some c78 := by kernel_rfl
theorem g78 : An.glob 78 = [] := rfl
theorem r78 : Tryz.f78.results.toList = [(.tmp 4)] := by kernel_rfl
theorem t78r0 (h : Obt (ccells (tget L 0)) fun a0 => Q .normal ⟨[(1, (tget L 1)), (2, (newP m 32))], (newL m 32 a0)⟩) : Rg F 78 [1, 2] c78r0 L m Q := Tx_told (by kernel_rfl) h
theorem t78r1 (h : Obt (cun .not (tget L 1)) fun a0 => Q .normal ⟨[(2, (tget L 2)), (6, a0)], m⟩) : Rg F 78 [2, 6] c78r1 L m Q := Tx_told (by kernel_rfl) h
theorem t78r2 (h : Q .normal ⟨[(4, (.int .i64 1))], m⟩) : Rg F 78 [4] c78r2 L m Q := Tx_told (by kernel_rfl) h
theorem t78r3 (h : Obt (fldA 0 (tget L 2)) fun a0 => Obt (fldA 4 a0) fun a1 => Obt (ld1 m a1) fun a2 => Obt (callC An F 78 (some 10) 79 [a2] m) fun a3 => Obt (cbin Tryz.prog .geq 3 (.tmp 10) (.const (.int .i64 0)) a3.1 (.int .i64 0)) fun a4 => Q .normal ⟨[(11, a4)], a3.2⟩) : Rg F 78 [11] c78r3 L m Q := Tx_told (by kernel_rfl) h
theorem t78r4 (h : Q .normal ⟨[(4, (.int .i64 2))], m⟩) : Rg F 78 [4] c78r4 L m Q := Tx_told (by kernel_rfl) h
theorem t78r5 (h : Q .normal ⟨[(4, (.int .i64 3))], m⟩) : Rg F 78 [4] c78r5 L m Q := Tx_told (by kernel_rfl) h
def c79r0 := rg 79 Tryz.f79 0
def c79r1 := rg 79 Tryz.f79 1
def c79r2 := rg 79 Tryz.f79 2
def c79r3 := rg 79 Tryz.f79 3
def c79r5 := rg 79 Tryz.f79 5
def c79r6 := rg 79 Tryz.f79 6
def c79r7 := rg 79 Tryz.f79 7
def c79r8 := rg 79 Tryz.f79 8
def c79r4 := rg 79 Tryz.f79 4
def c79l0 : SC :=
  (.seq (.seq (.reg false (some [0, 3, 4, 9]) c79r3) (.cond (.tmp 9) .nop (.exit 0))) (.seq (.block 1 (.seq (.reg false (some [0, 3, 4, 17]) c79r5) (.cond (.tmp 17) (.seq (.seq (.reg false (some [3, 4, 20]) c79r6) (.cond (.tmp 20) (.seq (.reg false (some [2]) c79r7) .ret) .nop)) (.seq (.reg false (some [2]) c79r8) .ret)) .nop))) (.reg false (some [0, 3, 4]) c79r4)))
def c79r9 := rg 79 Tryz.f79 9
def c79 : SC :=
  (.seq (.reg false (some [0]) c79r0) (.seq (.reg false (some [0, 3]) c79r1) (.seq (.seq (.reg false (some [0, 3, 4]) c79r2) (.block 0 (.loop c79l0))) (.seq (.reg false (some [2]) c79r9) .ret))))
theorem s79 : Tryz.f79.body.bind (strip Tryz.prog An 79 Tryz.f79.ntmps) = some c79 := by kernel_rfl
theorem g79 : An.glob 79 = [] := rfl
theorem r79 : Tryz.f79.results.toList = [(.tmp 2)] := by kernel_rfl
theorem t79r0 (h : Q .normal ⟨[(0, (tget L 0))], m⟩) : Rg F 79 [0] c79r0 L m Q := Tx_told (by kernel_rfl) h
theorem t79r1 (h : Obt (bslX false 80 1 10 [.int .i64 0, .int .i64 0, .int .i64 0, .int .i64 0, .int .i64 0, .int .i64 0, .int .i64 0, .int .i64 0, .int .i64 0, .int .i64 0] [(0, 1, (.int .i64 16)), (1, 1, (.int .i64 80)), (2, 1, (.int .i64 32)), (3, 1, (.int .i64 176)), (4, 1, (.int .i64 48)), (5, 1, (.int .i64 160)), (6, 1, (.int .i64 96)), (7, 1, (.int .i64 208)), (8, 1, (.int .i64 112)), (9, 1, (.int .i64 192))] m) fun a0 => Q .normal ⟨[(0, (tget L 0)), (3, a0.1)], a0.2⟩) : Rg F 79 [0, 3] c79r1 L m Q := Tx_told (by kernel_rfl) h
theorem t79r2 (h : Q .normal ⟨[(0, (tget L 0)), (3, (tget L 3)), (4, (.int .i64 0))], m⟩) : Rg F 79 [0, 3, 4] c79r2 L m Q := Tx_told (by kernel_rfl) h
theorem t79r3 (h : Obt (lenS (tget L 3)) fun a0 => Obt (cbin Tryz.prog .lss 3 (.tmp 6) (.tmp 8) (tget L 4) a0) fun a1 => Q .normal ⟨[(0, (tget L 0)), (3, (tget L 3)), (4, (tget L 4)), (9, a1)], m⟩) : Rg F 79 [0, 3, 4, 9] c79r3 L m Q := Tx_told (by kernel_rfl) h
theorem t79r5 (h : Obt (idxS 1 (tget L 3) (tget L 4)) fun a0 => Obt (ld1 m a0) fun a1 => Obt (cbin Tryz.prog .eql 3 (.tmp 15) (.tmp 16) a1 (tget L 0)) fun a2 => Q .normal ⟨[(0, (tget L 0)), (3, (tget L 3)), (4, (tget L 4)), (17, a2)], m⟩) : Rg F 79 [0, 3, 4, 17] c79r5 L m Q := Tx_told (by kernel_rfl) h
theorem t79r4 (h : Obt (cbin Tryz.prog .add 3 (.tmp 10) (.const (.int .i64 1)) (tget L 4) (.int .i64 1)) fun a0 => Q .normal ⟨[(0, (tget L 0)), (3, (tget L 3)), (4, a0)], m⟩) : Rg F 79 [0, 3, 4] c79r4 L m Q := Tx_told (by kernel_rfl) h
theorem t79r9 (h : Q .normal ⟨[(2, (.int .i64 (-1)))], m⟩) : Rg F 79 [2] c79r9 L m Q := Tx_told (by kernel_rfl) h
def c10r0 := rg 10 Tryz.f10 0
def c10r1 := rg 10 Tryz.f10 1
def c10r2 := rg 10 Tryz.f10 2
def c10r3 := rg 10 Tryz.f10 3
def c10r4 := rg 10 Tryz.f10 4
def c10r5 := rg 10 Tryz.f10 5
def c10r7 := rg 10 Tryz.f10 7
def c10r6 := rg 10 Tryz.f10 6
def c10l0 : SC :=
  (.seq (.seq (.reg false (some [0, 1, 2, 3, 9, 10, 52]) c10r5) (.cond (.tmp 52) .nop (.exit 0))) (.seq (.block 1 (.reg false (some [0, 1, 2, 3, 9, 10]) c10r7)) (.reg false (some [0, 1, 2, 3, 9, 10]) c10r6)))
def c10r8 := rg 10 Tryz.f10 8
def c10r9 := rg 10 Tryz.f10 9
def c10r10 := rg 10 Tryz.f10 10
def c10r11 := rg 10 Tryz.f10 11
def c10r13 := rg 10 Tryz.f10 13
def c10r14 := rg 10 Tryz.f10 14
def c10r15 := rg 10 Tryz.f10 15
def c10r16 := rg 10 Tryz.f10 16
def c10r12 := rg 10 Tryz.f10 12
def c10l1 : SC :=
  (.seq (.seq (.reg false (some [0, 1, 2, 3, 9, 11, 12, 68]) c10r11) (.cond (.tmp 68) .nop (.exit 2))) (.seq (.block 3 (.seq (.reg false (some [0, 1, 2, 3, 9, 11, 12, 13]) c10r13) (.seq (.seq (.reg false (some [0, 1, 2, 3, 9, 11, 12, 13, 83]) c10r14) (.cond (.tmp 83) (.reg false (some [0, 1, 2, 3, 9, 11, 12, 13]) c10r15) .nop)) (.reg false (some [0, 1, 2, 3, 9, 11, 12]) c10r16)))) (.reg false (some [0, 1, 2, 3, 9, 11, 12]) c10r12)))
def c10r17 := rg 10 Tryz.f10 17
def c10r18 := rg 10 Tryz.f10 18
def c10r19 := rg 10 Tryz.f10 19
def c10 : SC :=
  (.seq (.reg false (some [0, 1, 2, 3]) c10r0) (.seq (.seq (.reg false (some [0, 1, 2, 3, 43]) c10r1) (.cond (.tmp 43) (.seq (.reg false (some [8]) c10r2) .ret) .nop)) (.seq (.reg false (some [0, 1, 2, 3, 9]) c10r3) (.seq (.seq (.reg false (some [0, 1, 2, 3, 9, 10]) c10r4) (.block 0 (.loop c10l0))) (.seq (.reg false (some [0, 1, 2, 3, 9]) c10r8) (.seq (.reg false (some [0, 1, 2, 3, 9, 11]) c10r9) (.seq (.seq (.reg false (some [0, 1, 2, 3, 9, 11, 12]) c10r10) (.block 2 (.loop c10l1))) (.seq (.reg false (some [9, 11, 14, 15]) c10r17) (.seq (.reg false (some [14, 15, 16, 17]) c10r18) (.seq (.reg false (some [8]) c10r19) .ret))))))))))
theorem s10 : Tryz.f10.body.bind (strip Tryz.prog An 10 Tryz.f10.ntmps) = some c10 := by kernel_rfl
theorem g10 : An.glob 10 = [] := rfl
theorem r10 : Tryz.f10.results.toList = [(.tmp 8)] := by kernel_rfl
theorem t10r0 (h : Q .normal ⟨[(0, (tget L 0)), (1, (tget L 1)), (2, (tget L 2)), (3, (tget L 3))], m⟩) : Rg F 10 [0, 1, 2, 3] c10r0 L m Q := Tx_told (by kernel_rfl) h
theorem t10r1 (h : Obt (lenS (tget L 0)) fun a0 => Obt (cbin Tryz.prog .gtr 3 (.tmp 19) (.const (.int .i64 50)) a0 (.int .i64 50)) fun a1 => Obt (gdO a1 false (some ((tget L 1), m)) (.tuple [], m)) fun a2 => Obt (gdO a1 false ((lenS a2.1).map fun v => (v, a2.2)) (.tuple [], a2.2)) fun a3 => Obt (gdO a1 false ((cbin Tryz.prog .gtr 3 (.tmp 23) (.const (.int .i64 50)) a3.1 (.int .i64 50)).map fun v => (v, a3.2)) (.tuple [], a3.2)) fun a4 => Obt (pickX a1 (.bool true) a4.1) fun a5 => Obt (gdO a5 false (some ((tget L 2), a4.2)) (.tuple [], a4.2)) fun a6 => Obt (gdO a5 false ((cbin Tryz.prog .lss 3 (.tmp 27) (.const (.int .i64 0)) a6.1 (.int .i64 0)).map fun v => (v, a6.2)) (.tuple [], a6.2)) fun a7 => Obt (pickX a5 (.bool true) a7.1) fun a8 => Obt (gdO a8 false (some ((tget L 2), a7.2)) (.tuple [], a7.2)) fun a9 => Obt (gdO a8 false (some ((tget L 0), a9.2)) (.tuple [], a9.2)) fun a10 => Obt (gdO a8 false ((lenS a10.1).map fun v => (v, a10.2)) (.tuple [], a10.2)) fun a11 => Obt (gdO a8 false ((cbin Tryz.prog .gtr 3 (.tmp 31) (.tmp 33) a9.1 a11.1).map fun v => (v, a11.2)) (.tuple [], a11.2)) fun a12 => Obt (pickX a8 (.bool true) a12.1) fun a13 => Obt (gdO a13 false (some ((tget L 3), a12.2)) (.tuple [], a12.2)) fun a14 => Obt (gdO a13 false ((cbin Tryz.prog .lss 3 (.tmp 37) (.const (.int .i64 0)) a14.1 (.int .i64 0)).map fun v => (v, a14.2)) (.tuple [], a14.2)) fun a15 => Obt (pickX a13 (.bool true) a15.1) fun a16 => Obt (gdO a16 false (some ((tget L 3), a15.2)) (.tuple [], a15.2)) fun a17 => Obt (gdO a16 false ((cbin Tryz.prog .gtr 3 (.tmp 41) (.const (.int .i64 3000)) a17.1 (.int .i64 3000)).map fun v => (v, a17.2)) (.tuple [], a17.2)) fun a18 => Obt (pickX a16 (.bool true) a18.1) fun a19 => Q .normal ⟨[(0, (tget L 0)), (1, (tget L 1)), (2, (tget L 2)), (3, (tget L 3)), (43, a19)], a18.2⟩) : Rg F 10 [0, 1, 2, 3, 43] c10r1 L m Q := Tx_told (by kernel_rfl) h
theorem t10r2 (h : Obt (callC An F 10 (some 44) 21 [] m) fun a0 => Q .normal ⟨[(8, a0.1)], a0.2⟩) : Rg F 10 [8] c10r2 L m Q := Tx_told (by kernel_rfl) h
theorem t10r3 (h : Obt (bslX false 720 9 0 [] [] m) fun a0 => Obt (slcX 9 (tget L 0) none (some (tget L 2)) none a0.2) fun a1 => Obt (appX false 784 9 72 a0.1 a1 a0.2) fun a2 => Q .normal ⟨[(0, (tget L 0)), (1, (tget L 1)), (2, (tget L 2)), (3, (tget L 3)), (9, a2.1)], a2.2⟩) : Rg F 10 [0, 1, 2, 3, 9] c10r3 L m Q := Tx_told (by kernel_rfl) h
theorem t10r4 (h : Q .normal ⟨[(0, (tget L 0)), (1, (tget L 1)), (2, (tget L 2)), (3, (tget L 3)), (9, (tget L 9)), (10, (.int .i64 0))], m⟩) : Rg F 10 [0, 1, 2, 3, 9, 10] c10r4 L m Q := Tx_told (by kernel_rfl) h
theorem t10r5 (h : Obt (cbin Tryz.prog .lss 3 (.tmp 50) (.tmp 51) (tget L 10) (tget L 3)) fun a0 => Q .normal ⟨[(0, (tget L 0)), (1, (tget L 1)), (2, (tget L 2)), (3, (tget L 3)), (9, (tget L 9)), (10, (tget L 10)), (52, a0)], m⟩) : Rg F 10 [0, 1, 2, 3, 9, 10, 52] c10r5 L m Q := Tx_told (by kernel_rfl) h
theorem t10r7 (h : Obt ((fillX [.int .i64 0, .int .i64 0, .int .i64 0, .int .i64 0, .int .i64 0, .bool false, .int .i64 0, .int .i64 0] [(0, 1, (.int .i64 23))]).map CV.agg) fun a0 => Obt ((fillX [.int .i64 0, .int .i64 0, .int .i64 0, .int .i64 0, .int .i64 0, .bool false, .int .i64 0, .int .i64 0, .int .i64 0] [(0, 8, a0)]).map CV.agg) fun a1 => Obt (bslX false 928 9 1 [.int .i64 0, .int .i64 0, .int .i64 0, .int .i64 0, .int .i64 0, .bool false, .int .i64 0, .int .i64 0, .int .i64 0] [(0, 9, a1)] m) fun a2 => Obt (appX false 944 9 72 (tget L 9) a2.1 a2.2) fun a3 => Q .normal ⟨[(0, (tget L 0)), (1, (tget L 1)), (2, (tget L 2)), (3, (tget L 3)), (9, a3.1), (10, (tget L 10))], a3.2⟩) : Rg F 10 [0, 1, 2, 3, 9, 10] c10r7 L m Q := Tx_told (by kernel_rfl) h
theorem t10r6 (h : Obt (cbin Tryz.prog .add 3 (.tmp 53) (.const (.int .i64 1)) (tget L 10) (.int .i64 1)) fun a0 => Q .normal ⟨[(0, (tget L 0)), (1, (tget L 1)), (2, (tget L 2)), (3, (tget L 3)), (9, (tget L 9)), (10, a0)], m⟩) : Rg F 10 [0, 1, 2, 3, 9, 10] c10r6 L m Q := Tx_told (by kernel_rfl) h
theorem t10r8 (h : Obt (slcX 9 (tget L 0) (some (tget L 2)) none none m) fun a0 => Obt (appX false 1024 9 72 (tget L 9) a0 m) fun a1 => Q .normal ⟨[(0, (tget L 0)), (1, (tget L 1)), (2, (tget L 2)), (3, (tget L 3)), (9, a1.1)], a1.2⟩) : Rg F 10 [0, 1, 2, 3, 9] c10r8 L m Q := Tx_told (by kernel_rfl) h
theorem t10r9 (h : Q .normal ⟨[(0, (tget L 0)), (1, (tget L 1)), (2, (tget L 2)), (3, (tget L 3)), (9, (tget L 9)), (11, .nil)], m⟩) : Rg F 10 [0, 1, 2, 3, 9, 11] c10r9 L m Q := Tx_told (by kernel_rfl) h
theorem t10r10 (h : Q .normal ⟨[(0, (tget L 0)), (1, (tget L 1)), (2, (tget L 2)), (3, (tget L 3)), (9, (tget L 9)), (11, (tget L 11)), (12, (.int .i64 0))], m⟩) : Rg F 10 [0, 1, 2, 3, 9, 11, 12] c10r10 L m Q := Tx_told (by kernel_rfl) h
theorem t10r11 (h : Obt (lenS (tget L 1)) fun a0 => Obt (cbin Tryz.prog .lss 3 (.tmp 65) (.tmp 67) (tget L 12) a0) fun a1 => Q .normal ⟨[(0, (tget L 0)), (1, (tget L 1)), (2, (tget L 2)), (3, (tget L 3)), (9, (tget L 9)), (11, (tget L 11)), (12, (tget L 12)), (68, a1)], m⟩) : Rg F 10 [0, 1, 2, 3, 9, 11, 12, 68] c10r11 L m Q := Tx_told (by kernel_rfl) h
theorem t10r13 (h : Obt (idxS 1 (tget L 1) (tget L 12)) fun a0 => Obt (ld1 m a0) fun a1 => Q .normal ⟨[(0, (tget L 0)), (1, (tget L 1)), (2, (tget L 2)), (3, (tget L 3)), (9, (tget L 9)), (11, (tget L 11)), (12, (tget L 12)), (13, a1)], m⟩) : Rg F 10 [0, 1, 2, 3, 9, 11, 12, 13] c10r13 L m Q := Tx_told (by kernel_rfl) h
theorem t10r14 (h : Obt (cbin Tryz.prog .gtr 3 (.tmp 75) (.tmp 76) (tget L 13) (tget L 2)) fun a0 => Obt (gdO a0 true (some ((tget L 13), m)) (.tuple [], m)) fun a1 => Obt (gdO a0 true (some ((tget L 0), a1.2)) (.tuple [], a1.2)) fun a2 => Obt (gdO a0 true ((lenS a2.1).map fun v => (v, a2.2)) (.tuple [], a2.2)) fun a3 => Obt (gdO a0 true ((cbin Tryz.prog .leq 3 (.tmp 79) (.tmp 81) a1.1 a3.1).map fun v => (v, a3.2)) (.tuple [], a3.2)) fun a4 => Obt (pickX a0 a4.1 (.bool false)) fun a5 => Q .normal ⟨[(0, (tget L 0)), (1, (tget L 1)), (2, (tget L 2)), (3, (tget L 3)), (9, (tget L 9)), (11, (tget L 11)), (12, (tget L 12)), (13, (tget L 13)), (83, a5)], a4.2⟩) : Rg F 10 [0, 1, 2, 3, 9, 11, 12, 13, 83] c10r14 L m Q := Tx_told (by kernel_rfl) h
theorem t10r15 (h : Obt (cbin Tryz.prog .add 3 (.tmp 84) (.tmp 85) (tget L 13) (tget L 3)) fun a0 => Q .normal ⟨[(0, (tget L 0)), (1, (tget L 1)), (2, (tget L 2)), (3, (tget L 3)), (9, (tget L 9)), (11, (tget L 11)), (12, (tget L 12)), (13, a0)], m⟩) : Rg F 10 [0, 1, 2, 3, 9, 11, 12, 13] c10r15 L m Q := Tx_told (by kernel_rfl) h
theorem t10r16 (h : Obt (bslX false 1424 1 1 [.int .i64 0] [(0, 1, (tget L 13))] m) fun a0 => Obt (appX false 1440 1 8 (tget L 11) a0.1 a0.2) fun a1 => Q .normal ⟨[(0, (tget L 0)), (1, (tget L 1)), (2, (tget L 2)), (3, (tget L 3)), (9, (tget L 9)), (11, a1.1), (12, (tget L 12))], a1.2⟩) : Rg F 10 [0, 1, 2, 3, 9, 11, 12] c10r16 L m Q := Tx_told (by kernel_rfl) h
theorem t10r12 (h : Obt (cbin Tryz.prog .add 3 (.tmp 69) (.const (.int .i64 1)) (tget L 12) (.int .i64 1)) fun a0 => Q .normal ⟨[(0, (tget L 0)), (1, (tget L 1)), (2, (tget L 2)), (3, (tget L 3)), (9, (tget L 9)), (11, (tget L 11)), (12, a0)], m⟩) : Rg F 10 [0, 1, 2, 3, 9, 11, 12] c10r12 L m Q := Tx_told (by kernel_rfl) h
theorem t10r17 (h : Obt (callC An F 10 (some 94) 22 [(tget L 9), (tget L 11)] m) fun a0 => Obt (extX 0 a0.1) fun a1 => Obt (extX 1 a0.1) fun a2 => Q .normal ⟨[(9, (tget L 9)), (11, (tget L 11)), (14, a1), (15, a2)], a0.2⟩) : Rg F 10 [9, 11, 14, 15] c10r17 L m Q := Tx_told (by kernel_rfl) h
theorem t10r18 (h : Obt (callC An F 10 (some 100) 26 [(tget L 9), (tget L 11)] m) fun a0 => Obt (extX 0 a0.1) fun a1 => Obt (extX 1 a0.1) fun a2 => Q .normal ⟨[(14, (tget L 14)), (15, (tget L 15)), (16, a1), (17, a2)], a0.2⟩) : Rg F 10 [14, 15, 16, 17] c10r18 L m Q := Tx_told (by kernel_rfl) h
theorem t10r19 (h : Obt (callC An F 10 (some 105) 23 [(tget L 14), (tget L 16)] m) fun a0 => Obt (gdO a0.1 true (some ((tget L 15), a0.2)) (.tuple [], a0.2)) fun a1 => Obt (gdO a0.1 true (some ((tget L 17), a1.2)) (.tuple [], a1.2)) fun a2 => Obt (gdO a0.1 true ((cbin Tryz.prog .eql 3 (.tmp 107) (.tmp 108) a1.1 a2.1).map fun v => (v, a2.2)) (.tuple [], a2.2)) fun a3 => Obt (pickX a0.1 a3.1 (.bool false)) fun a4 => Obt (gdO a4 true (callC An F 10 (some 112) 21 [] a3.2) (.tuple [], a3.2)) fun a5 => Obt (pickX a4 a5.1 (.bool false)) fun a6 => Q .normal ⟨[(8, a6)], a5.2⟩) : Rg F 10 [8] c10r19 L m Q := Tx_told (by kernel_rfl) h
end
end Go.Cm
