import Derived.Test.YtlflghggdpbcnaaGreatGyC
set_option linter.unusedSimpArgs false
set_option linter.unusedVariables false
namespace Go.Cm
open Go.Proofs
variable {F : Oracle} {L : List (Nat × CV)} {m : Mem} {Q : CE → TS → Prop}
noncomputable section
def c22r0 := rg 22 Tryz.f22 0
def c22r1 := rg 22 Tryz.f22 1
def c22r2 := rg 22 Tryz.f22 2
def c22r3 := rg 22 Tryz.f22 3
def c22r4 := rg 22 Tryz.f22 4
def c22r5 := rg 22 Tryz.f22 5
def c22r6 := rg 22 Tryz.f22 6
def c22r7 := rg 22 Tryz.f22 7
def c22r8 := rg 22 Tryz.f22 8
def c22l0 : SC :=
  (.seq (.reg false (some [0, 6, 31, 32, 33]) c22r5) (.seq (.cond (.tmp 33) .nop (.exit 0)) (.seq (.block 1 (.seq (.reg false (some [0, 6, 7, 31, 32]) c22r6) (.reg false (some [0, 6, 31, 32]) c22r7))) (.reg false (some [0, 6, 31, 32]) c22r8))))
def c22r9 := rg 22 Tryz.f22 9
def c22r10 := rg 22 Tryz.f22 10
def c22r11 := rg 22 Tryz.f22 11
def c22l1 : SC :=
  (.seq (.seq (.reg false (some [0, 6, 45]) c22r10) (.cond (.tmp 45) .nop (.exit 2))) (.block 3 (.reg false (some [0, 6]) c22r11)))
def c22r12 := rg 22 Tryz.f22 12
def c22r13 := rg 22 Tryz.f22 13
def c22r14 := rg 22 Tryz.f22 14
def c22r15 := rg 22 Tryz.f22 15
def c22r16 := rg 22 Tryz.f22 16
def c22r17 := rg 22 Tryz.f22 17
def c22l2 : SC :=
  (.seq (.reg false (some [6, 8, 49, 50, 51]) c22r14) (.seq (.cond (.tmp 51) .nop (.exit 4)) (.seq (.block 5 (.seq (.reg false (some [6, 8, 9, 49, 50]) c22r15) (.reg false (some [6, 8, 49, 50]) c22r16))) (.reg false (some [6, 8, 49, 50]) c22r17))))
def c22r18 := rg 22 Tryz.f22 18
def c22r19 := rg 22 Tryz.f22 19
def c22r20 := rg 22 Tryz.f22 20
def c22r21 := rg 22 Tryz.f22 21
def c22r22 := rg 22 Tryz.f22 22
def c22r23 := rg 22 Tryz.f22 23
def c22l3 : SC :=
  (.seq (.reg false (some [8, 59, 60, 61, 62]) c22r19) (.seq (.cond (.tmp 62) .nop (.exit 6)) (.seq (.block 7 (.seq (.reg false (some [8, 11, 59, 60, 61]) c22r20) (.seq (.reg false (some [8, 59, 60, 61, 67]) c22r21) (.cond (.tmp 67) (.seq (.reg false (some [4, 5]) c22r22) .ret) .nop)))) (.reg false (some [8, 59, 60, 61]) c22r23))))
def c22r24 := rg 22 Tryz.f22 24
def c22 : SC :=
  (.seq (.reg false (some [0, 1]) c22r0) (.seq (.seq (.reg false (some [0, 1, 15]) c22r1) (.cond (.tmp 15) (.seq (.reg false (some [4, 5]) c22r2) .ret) .nop)) (.seq (.reg false (some [0, 6]) c22r3) (.seq (.seq (.reg false (some [0, 6, 31, 32]) c22r4) (.block 0 (.loop c22l0))) (.seq (.reg false (some [0, 6]) c22r9) (.seq (.block 2 (.loop c22l1)) (.seq (.reg false (some [0, 6, 8]) c22r12) (.seq (.seq (.reg false (some [6, 8, 49, 50]) c22r13) (.block 4 (.loop c22l2))) (.seq (.seq (.reg false (some [8, 59, 60, 61]) c22r18) (.block 6 (.loop c22l3))) (.seq (.reg false (some [4, 5]) c22r24) .ret))))))))))
theorem s22 : Tryz.f22.body.bind (strip Tryz.prog An 22 Tryz.f22.ntmps) = some c22 := by kernel_rfl
theorem g22 : An.glob 22 = [20, 24, 26] := rfl
theorem r22 : Tryz.f22.results.toList = [(.tmp 4), (.tmp 5)] := by kernel_rfl
theorem t22r0 (h : Q .normal ⟨[(0, (tget L 0)), (1, (tget L 1))], m⟩) : Rg F 22 [0, 1] c22r0 L m Q := Tx_told (by kernel_rfl) h
theorem t22r1 (h : Obt (callC An F 22 (some 14) 44 [(tget L 0), (tget L 1)] m) fun a0 => Obt (cun .not a0.1) fun a1 => Q .normal ⟨[(0, (tget L 0)), (1, (tget L 1)), (15, a1)], a0.2⟩) : Rg F 22 [0, 1, 15] c22r1 L m Q := Tx_told (by kernel_rfl) h
theorem t22r2 (h : Q .normal ⟨[(4, .nil), (5, (.int .i64 2))], m⟩) : Rg F 22 [4, 5] c22r2 L m Q := Tx_told (by kernel_rfl) h
theorem t22r3 (h : Obt (lenS (tget L 0)) fun a0 => Obt (lenS (tget L 0)) fun a1 => Obt (cbin Tryz.prog .add 3 (.tmp 22) (.const (.int .i64 1)) a1 (.int .i64 1)) fun a2 => Obt (mkX true 320 1 8 [.int .i64 0] a0 a0 m) fun a3 => Obt (mkX true 384 1 8 [.int .i64 0] a2 a2 a3.2) fun a4 => Obt ((fillX [.nil, .nil, .nil, .nil] [(0, 1, (tget L 0)), (1, 1, (tget L 1)), (2, 1, a3.1), (3, 1, a4.1)]).map CV.agg) fun a5 => Obt (boxG a5 a4.2) fun a6 => Q .normal ⟨[(0, (tget L 0)), (6, a6.1)], a6.2⟩) : Rg F 22 [0, 6] c22r3 L m Q := Tx_told (by kernel_rfl) h
theorem t22r4 (h : Obt (nilX (tget L 6)) fun a0 => Obt (fldA 2 a0) fun a1 => Obt (ld1 m a1) fun a2 => Obt (lenS a2) fun a3 => Q .normal ⟨[(0, (tget L 0)), (6, (tget L 6)), (31, a3), (32, (.int .i64 0))], m⟩) : Rg F 22 [0, 6, 31, 32] c22r4 L m Q := Tx_told (by kernel_rfl) h
theorem t22r5 (h : Obt (cbin Tryz.prog .lss 3 (.tmp 32) (.tmp 31) (tget L 32) (tget L 31)) fun a0 => Q .normal ⟨[(0, (tget L 0)), (6, (tget L 6)), (31, (tget L 31)), (32, (tget L 32)), (33, a0)], m⟩) : Rg F 22 [0, 6, 31, 32, 33] c22r5 L m Q := Tx_told (by kernel_rfl) h
theorem t22r6 (h : Q .normal ⟨[(0, (tget L 0)), (6, (tget L 6)), (7, (tget L 32)), (31, (tget L 31)), (32, (tget L 32))], m⟩) : Rg F 22 [0, 6, 7, 31, 32] c22r6 L m Q := Tx_told (by kernel_rfl) h
theorem t22r7 (h : Obt (nilX (tget L 6)) fun a0 => Obt (fldA 2 a0) fun a1 => Obt (ld1 m a1) fun a2 => Obt (idxS 1 a2 (tget L 7)) fun a3 => Obt (stX 1 m a3 (.int .i64 1)) fun a4 => Q .normal ⟨[(0, (tget L 0)), (6, (tget L 6)), (31, (tget L 31)), (32, (tget L 32))], a4⟩) : Rg F 22 [0, 6, 31, 32] c22r7 L m Q := Tx_told (by kernel_rfl) h
theorem t22r8 (h : Obt (cbin Tryz.prog .add 3 (.tmp 32) (.const (.int .i64 1)) (tget L 32) (.int .i64 1)) fun a0 => Q .normal ⟨[(0, (tget L 0)), (6, (tget L 6)), (31, (tget L 31)), (32, a0)], m⟩) : Rg F 22 [0, 6, 31, 32] c22r8 L m Q := Tx_told (by kernel_rfl) h
theorem t22r9 (h : Obt (callC An F 22 (some 43) 45 [(tget L 6)] m) fun a0 => Q .normal ⟨[(0, (tget L 0)), (6, (tget L 6))], a0.2⟩) : Rg F 22 [0, 6] c22r9 L m Q := Tx_told (by kernel_rfl) h
theorem t22r10 (h : Obt (callC An F 22 (some 45) 46 [(tget L 6)] m) fun a0 => Q .normal ⟨[(0, (tget L 0)), (6, (tget L 6)), (45, a0.1)], a0.2⟩) : Rg F 22 [0, 6, 45] c22r10 L m Q := Tx_told (by kernel_rfl) h
theorem t22r11 (h : Obt (callC An F 22 (some 47) 45 [(tget L 6)] m) fun a0 => Q .normal ⟨[(0, (tget L 0)), (6, (tget L 6))], a0.2⟩) : Rg F 22 [0, 6] c22r11 L m Q := Tx_told (by kernel_rfl) h
theorem t22r12 (h : Q .normal ⟨[(0, (tget L 0)), (6, (tget L 6)), (8, .nil)], m⟩) : Rg F 22 [0, 6, 8] c22r12 L m Q := Tx_told (by kernel_rfl) h
theorem t22r13 (h : Obt (lenS (tget L 0)) fun a0 => Q .normal ⟨[(6, (tget L 6)), (8, (tget L 8)), (49, a0), (50, (.int .i64 0))], m⟩) : Rg F 22 [6, 8, 49, 50] c22r13 L m Q := Tx_told (by kernel_rfl) h
theorem t22r14 (h : Obt (cbin Tryz.prog .lss 3 (.tmp 50) (.tmp 49) (tget L 50) (tget L 49)) fun a0 => Q .normal ⟨[(6, (tget L 6)), (8, (tget L 8)), (49, (tget L 49)), (50, (tget L 50)), (51, a0)], m⟩) : Rg F 22 [6, 8, 49, 50, 51] c22r14 L m Q := Tx_told (by kernel_rfl) h
theorem t22r15 (h : Q .normal ⟨[(6, (tget L 6)), (8, (tget L 8)), (9, (tget L 50)), (49, (tget L 49)), (50, (tget L 50))], m⟩) : Rg F 22 [6, 8, 9, 49, 50] c22r15 L m Q := Tx_told (by kernel_rfl) h
theorem t22r16 (h : Obt (callC An F 22 (some 56) 47 [(tget L 6), (tget L 9)] m) fun a0 => Obt (appX false 912 8 64 (tget L 8) a0.1 a0.2) fun a1 => Q .normal ⟨[(6, (tget L 6)), (8, a1.1), (49, (tget L 49)), (50, (tget L 50))], a1.2⟩) : Rg F 22 [6, 8, 49, 50] c22r16 L m Q := Tx_told (by kernel_rfl) h
theorem t22r17 (h : Obt (cbin Tryz.prog .add 3 (.tmp 50) (.const (.int .i64 1)) (tget L 50) (.int .i64 1)) fun a0 => Q .normal ⟨[(6, (tget L 6)), (8, (tget L 8)), (49, (tget L 49)), (50, a0)], m⟩) : Rg F 22 [6, 8, 49, 50] c22r17 L m Q := Tx_told (by kernel_rfl) h
theorem t22r18 (h : Obt (lenS (tget L 8)) fun a0 => Q .normal ⟨[(8, (tget L 8)), (59, (tget L 8)), (60, a0), (61, (.int .i64 0))], m⟩) : Rg F 22 [8, 59, 60, 61] c22r18 L m Q := Tx_told (by kernel_rfl) h
theorem t22r19 (h : Obt (cbin Tryz.prog .lss 3 (.tmp 61) (.tmp 60) (tget L 61) (tget L 60)) fun a0 => Q .normal ⟨[(8, (tget L 8)), (59, (tget L 59)), (60, (tget L 60)), (61, (tget L 61)), (62, a0)], m⟩) : Rg F 22 [8, 59, 60, 61, 62] c22r19 L m Q := Tx_told (by kernel_rfl) h
theorem t22r20 (h : Obt (idxS 8 (tget L 59) (tget L 61)) fun a0 => Obt (ldA 8 m a0) fun a1 => Obt (stX 8 (newL m 176 [.int .i64 0, .int .i64 0, .int .i64 0, .int .i64 0, .int .i64 0, .bool false, .int .i64 0, .int .i64 0]) (newP m 176) a1) fun a2 => Q .normal ⟨[(8, (tget L 8)), (11, (newP m 176)), (59, (tget L 59)), (60, (tget L 60)), (61, (tget L 61))], a2⟩) : Rg F 22 [8, 11, 59, 60, 61] c22r20 L m Q := Tx_told (by kernel_rfl) h
theorem t22r21 (h : Obt (ldA 8 m (tget L 11)) fun a0 => Obt (callC An F 22 (some 66) 48 [a0] m) fun a1 => Obt (cun .not a1.1) fun a2 => Q .normal ⟨[(8, (tget L 8)), (59, (tget L 59)), (60, (tget L 60)), (61, (tget L 61)), (67, a2)], a1.2⟩) : Rg F 22 [8, 59, 60, 61, 67] c22r21 L m Q := Tx_told (by kernel_rfl) h
theorem t22r22 (h : Q .normal ⟨[(4, .nil), (5, (.int .i64 250))], m⟩) : Rg F 22 [4, 5] c22r22 L m Q := Tx_told (by kernel_rfl) h
theorem t22r23 (h : Obt (cbin Tryz.prog .add 3 (.tmp 61) (.const (.int .i64 1)) (tget L 61) (.int .i64 1)) fun a0 => Q .normal ⟨[(8, (tget L 8)), (59, (tget L 59)), (60, (tget L 60)), (61, a0)], m⟩) : Rg F 22 [8, 59, 60, 61] c22r23 L m Q := Tx_told (by kernel_rfl) h
theorem t22r24 (h : Q .normal ⟨[(4, (tget L 8)), (5, (.int .i64 0))], m⟩) : Rg F 22 [4, 5] c22r24 L m Q := Tx_told (by kernel_rfl) h
def c44r0 := rg 44 Tryz.f44 0
def c44r1 := rg 44 Tryz.f44 1
def c44r2 := rg 44 Tryz.f44 2
def c44r3 := rg 44 Tryz.f44 3
def c44r4 := rg 44 Tryz.f44 4
def c44r5 := rg 44 Tryz.f44 5
def c44r6 := rg 44 Tryz.f44 6
def c44r7 := rg 44 Tryz.f44 7
def c44r8 := rg 44 Tryz.f44 8
def c44l0 : SC :=
  (.seq (.reg false (some [0, 1, 13, 14, 15, 16]) c44r4) (.seq (.cond (.tmp 16) .nop (.exit 0)) (.seq (.block 1 (.seq (.reg false (some [0, 1, 6, 13, 14, 15]) c44r5) (.seq (.reg false (some [0, 1, 13, 14, 15, 26]) c44r6) (.cond (.tmp 26) (.seq (.reg false (some [4]) c44r7) .ret) .nop)))) (.reg false (some [0, 1, 13, 14, 15]) c44r8))))
def c44r9 := rg 44 Tryz.f44 9
def c44r10 := rg 44 Tryz.f44 10
def c44r11 := rg 44 Tryz.f44 11
def c44r12 := rg 44 Tryz.f44 12
def c44r13 := rg 44 Tryz.f44 13
def c44r14 := rg 44 Tryz.f44 14
def c44r15 := rg 44 Tryz.f44 15
def c44l1 : SC :=
  (.seq (.reg false (some [1, 28, 29, 30, 31]) c44r10) (.seq (.cond (.tmp 31) .nop (.exit 2)) (.seq (.block 3 (.seq (.reg false (some [1, 8, 28, 29, 30]) c44r11) (.seq (.reg false (some [1, 8, 9, 28, 29, 30]) c44r12) (.seq (.reg false (some [1, 28, 29, 30, 74]) c44r13) (.cond (.tmp 74) (.seq (.reg false (some [4]) c44r14) .ret) .nop))))) (.reg false (some [1, 28, 29, 30]) c44r15))))
def c44r16 := rg 44 Tryz.f44 16
def c44 : SC :=
  (.seq (.reg false (some [0, 1]) c44r0) (.seq (.seq (.reg false (some [0, 1, 12]) c44r1) (.cond (.tmp 12) (.seq (.reg false (some [4]) c44r2) .ret) .nop)) (.seq (.seq (.reg false (some [0, 1, 13, 14, 15]) c44r3) (.block 0 (.loop c44l0))) (.seq (.seq (.reg false (some [1, 28, 29, 30]) c44r9) (.block 2 (.loop c44l1))) (.seq (.reg false (some [4]) c44r16) .ret)))))
theorem s44 : Tryz.f44.body.bind (strip Tryz.prog An 44 Tryz.f44.ntmps) = some c44 := by kernel_rfl
theorem g44 : An.glob 44 = [] := rfl
theorem r44 : Tryz.f44.results.toList = [(.tmp 4)] := by kernel_rfl
theorem t44r0 (h : Q .normal ⟨[(0, (tget L 0)), (1, (tget L 1))], m⟩) : Rg F 44 [0, 1] c44r0 L m Q := Tx_told (by kernel_rfl) h
theorem t44r1 (h : Obt (lenS (tget L 0)) fun a0 => Obt (cbin Tryz.prog .gtr 3 (.tmp 11) (.const (.int .i64 100000)) a0 (.int .i64 100000)) fun a1 => Q .normal ⟨[(0, (tget L 0)), (1, (tget L 1)), (12, a1)], m⟩) : Rg F 44 [0, 1, 12] c44r1 L m Q := Tx_told (by kernel_rfl) h
theorem t44r2 (h : Q .normal ⟨[(4, (.bool false))], m⟩) : Rg F 44 [4] c44r2 L m Q := Tx_told (by kernel_rfl) h
theorem t44r3 (h : Obt (lenS (tget L 1)) fun a0 => Q .normal ⟨[(0, (tget L 0)), (1, (tget L 1)), (13, (tget L 1)), (14, a0), (15, (.int .i64 0))], m⟩) : Rg F 44 [0, 1, 13, 14, 15] c44r3 L m Q := Tx_told (by kernel_rfl) h
theorem t44r4 (h : Obt (cbin Tryz.prog .lss 3 (.tmp 15) (.tmp 14) (tget L 15) (tget L 14)) fun a0 => Q .normal ⟨[(0, (tget L 0)), (1, (tget L 1)), (13, (tget L 13)), (14, (tget L 14)), (15, (tget L 15)), (16, a0)], m⟩) : Rg F 44 [0, 1, 13, 14, 15, 16] c44r4 L m Q := Tx_told (by kernel_rfl) h
theorem t44r5 (h : Obt (idxS 1 (tget L 13) (tget L 15)) fun a0 => Obt (ld1 m a0) fun a1 => Q .normal ⟨[(0, (tget L 0)), (1, (tget L 1)), (6, a1), (13, (tget L 13)), (14, (tget L 14)), (15, (tget L 15))], m⟩) : Rg F 44 [0, 1, 6, 13, 14, 15] c44r5 L m Q := Tx_told (by kernel_rfl) h
theorem t44r6 (h : Obt (cbin Tryz.prog .lss 3 (.tmp 19) (.const (.int .i64 0)) (tget L 6) (.int .i64 0)) fun a0 => Obt (gdO a0 false (some ((tget L 6), m)) (.tuple [], m)) fun a1 => Obt (gdO a0 false (some ((tget L 0), a1.2)) (.tuple [], a1.2)) fun a2 => Obt (gdO a0 false ((lenS a2.1).map fun v => (v, a2.2)) (.tuple [], a2.2)) fun a3 => Obt (gdO a0 false ((cbin Tryz.prog .gtr 3 (.tmp 22) (.tmp 24) a1.1 a3.1).map fun v => (v, a3.2)) (.tuple [], a3.2)) fun a4 => Obt (pickX a0 (.bool true) a4.1) fun a5 => Q .normal ⟨[(0, (tget L 0)), (1, (tget L 1)), (13, (tget L 13)), (14, (tget L 14)), (15, (tget L 15)), (26, a5)], a4.2⟩) : Rg F 44 [0, 1, 13, 14, 15, 26] c44r6 L m Q := Tx_told (by kernel_rfl) h
theorem t44r7 (h : Q .normal ⟨[(4, (.bool false))], m⟩) : Rg F 44 [4] c44r7 L m Q := Tx_told (by kernel_rfl) h
theorem t44r8 (h : Obt (cbin Tryz.prog .add 3 (.tmp 15) (.const (.int .i64 1)) (tget L 15) (.int .i64 1)) fun a0 => Q .normal ⟨[(0, (tget L 0)), (1, (tget L 1)), (13, (tget L 13)), (14, (tget L 14)), (15, a0)], m⟩) : Rg F 44 [0, 1, 13, 14, 15] c44r8 L m Q := Tx_told (by kernel_rfl) h
theorem t44r9 (h : Obt (lenS (tget L 0)) fun a0 => Q .normal ⟨[(1, (tget L 1)), (28, (tget L 0)), (29, a0), (30, (.int .i64 0))], m⟩) : Rg F 44 [1, 28, 29, 30] c44r9 L m Q := Tx_told (by kernel_rfl) h
theorem t44r10 (h : Obt (cbin Tryz.prog .lss 3 (.tmp 30) (.tmp 29) (tget L 30) (tget L 29)) fun a0 => Q .normal ⟨[(1, (tget L 1)), (28, (tget L 28)), (29, (tget L 29)), (30, (tget L 30)), (31, a0)], m⟩) : Rg F 44 [1, 28, 29, 30, 31] c44r10 L m Q := Tx_told (by kernel_rfl) h
theorem t44r11 (h : Obt (idxS 9 (tget L 28) (tget L 30)) fun a0 => Obt (ldA 9 m a0) fun a1 => Obt (stX 9 (newL m 128 [.int .i64 0, .int .i64 0, .int .i64 0, .int .i64 0, .int .i64 0, .bool false, .int .i64 0, .int .i64 0, .int .i64 0]) (newP m 128) a1) fun a2 => Q .normal ⟨[(1, (tget L 1)), (8, (newP m 128)), (28, (tget L 28)), (29, (tget L 29)), (30, (tget L 30))], a2⟩) : Rg F 44 [1, 8, 28, 29, 30] c44r11 L m Q := Tx_told (by kernel_rfl) h
theorem t44r12 (h : Obt (fldA 0 (tget L 8)) fun a0 => Obt (fldA 0 a0) fun a1 => Obt (ld1 m a1) fun a2 => Obt (cbin Tryz.prog .eql 50 (.tmp 36) (.const (.int .i64 21)) a2 (.int .i64 21)) fun a3 => Obt (gdO a3 false ((fldA 0 (tget L 8)).map fun v => (v, m)) (.tuple [], m)) fun a4 => Obt (gdO a3 false ((fldA 0 a4.1).map fun v => (v, a4.2)) (.tuple [], a4.2)) fun a5 => Obt (gdO a3 false ((ld1 a5.2 a5.1).map fun v => (v, a5.2)) (.tuple [], a5.2)) fun a6 => Obt (gdO a3 false ((cbin Tryz.prog .eql 50 (.tmp 41) (.const (.int .i64 20)) a6.1 (.int .i64 20)).map fun v => (v, a6.2)) (.tuple [], a6.2)) fun a7 => Obt (pickX a3 (.bool true) a7.1) fun a8 => Q .normal ⟨[(1, (tget L 1)), (8, (tget L 8)), (9, a8), (28, (tget L 28)), (29, (tget L 29)), (30, (tget L 30))], a7.2⟩) : Rg F 44 [1, 8, 9, 28, 29, 30] c44r12 L m Q := Tx_told (by kernel_rfl) h
theorem t44r13 (h : Obt (fldA 8 (tget L 8)) fun a0 => Obt (ld1 m a0) fun a1 => Obt (cbin Tryz.prog .lss 3 (.tmp 45) (.const (.int .i64 0)) a1 (.int .i64 0)) fun a2 => Obt (gdO a2 false ((fldA 8 (tget L 8)).map fun v => (v, m)) (.tuple [], m)) fun a3 => Obt (gdO a2 false ((ld1 a3.2 a3.1).map fun v => (v, a3.2)) (.tuple [], a3.2)) fun a4 => Obt (gdO a2 false (some ((tget L 1), a4.2)) (.tuple [], a4.2)) fun a5 => Obt (gdO a2 false ((lenS a5.1).map fun v => (v, a5.2)) (.tuple [], a5.2)) fun a6 => Obt (gdO a2 false ((cbin Tryz.prog .gtr 3 (.tmp 49) (.tmp 51) a4.1 a6.1).map fun v => (v, a6.2)) (.tuple [], a6.2)) fun a7 => Obt (pickX a2 (.bool true) a7.1) fun a8 => Obt (gdO a8 false ((fldA 8 (tget L 8)).map fun v => (v, a7.2)) (.tuple [], a7.2)) fun a9 => Obt (gdO a8 false ((ld1 a9.2 a9.1).map fun v => (v, a9.2)) (.tuple [], a9.2)) fun a10 => Obt (gdO a8 false ((cbin Tryz.prog .gtr 3 (.tmp 56) (.const (.int .i64 0)) a10.1 (.int .i64 0)).map fun v => (v, a10.2)) (.tuple [], a10.2)) fun a11 => Obt (gdO a8 false (some (a11.1, a11.2)) (.tuple [], a11.2)) fun a12 => Obt (gdO a12.1 true (some ((tget L 9), a12.2)) (.tuple [], a12.2)) fun a13 => Obt (gdO a12.1 true ((cun .not a13.1).map fun v => (v, a13.2)) (.tuple [], a13.2)) fun a14 => Obt (gdO a12.1 true (some (a14.1, a14.2)) (.tuple [], a14.2)) fun a15 => Obt (gdO a15.1 false ((fldA 0 (tget L 8)).map fun v => (v, a15.2)) (.tuple [], a15.2)) fun a16 => Obt (gdO a15.1 false ((fldA 7 a16.1).map fun v => (v, a16.2)) (.tuple [], a16.2)) fun a17 => Obt (gdO a15.1 false ((ld1 a17.2 a17.1).map fun v => (v, a17.2)) (.tuple [], a17.2)) fun a18 => Obt (gdO a15.1 false ((cbin Tryz.prog .neq 3 (.tmp 64) (.const (.int .i64 0)) a18.1 (.int .i64 0)).map fun v => (v, a18.2)) (.tuple [], a18.2)) fun a19 => Obt (gdO a12.1 true ((pickX a15.1 (.bool true) a19.1).map fun v => (v, a19.2)) (.tuple [], a19.2)) fun a20 => Obt (gdO a8 false ((pickX a12.1 a20.1 (.bool false)).map fun v => (v, a20.2)) (.tuple [], a20.2)) fun a21 => Obt (pickX a8 (.bool true) a21.1) fun a22 => Obt (gdO a22 false ((fldA 0 (tget L 8)).map fun v => (v, a21.2)) (.tuple [], a21.2)) fun a23 => Obt (gdO a22 false ((ldA 8 a23.2 a23.1).map fun v => (v, a23.2)) (.tuple [], a23.2)) fun a24 => Obt (gdO a22 false (callC An F 44 (some 72) 48 [a24.1] a24.2) (.tuple [], a24.2)) fun a25 => Obt (gdO a22 false ((cun .not a25.1).map fun v => (v, a25.2)) (.tuple [], a25.2)) fun a26 => Obt (pickX a22 (.bool true) a26.1) fun a27 => Q .normal ⟨[(1, (tget L 1)), (28, (tget L 28)), (29, (tget L 29)), (30, (tget L 30)), (74, a27)], a26.2⟩) : Rg F 44 [1, 28, 29, 30, 74] c44r13 L m Q := Tx_told (by kernel_rfl) h
theorem t44r14 (h : Q .normal ⟨[(4, (.bool false))], m⟩) : Rg F 44 [4] c44r14 L m Q := Tx_told (by kernel_rfl) h
theorem t44r15 (h : Obt (cbin Tryz.prog .add 3 (.tmp 30) (.const (.int .i64 1)) (tget L 30) (.int .i64 1)) fun a0 => Q .normal ⟨[(1, (tget L 1)), (28, (tget L 28)), (29, (tget L 29)), (30, a0)], m⟩) : Rg F 44 [1, 28, 29, 30] c44r15 L m Q := Tx_told (by kernel_rfl) h
theorem t44r16 (h : Q .normal ⟨[(4, (.bool true))], m⟩) : Rg F 44 [4] c44r16 L m Q := Tx_told (by kernel_rfl) h
def c45r0 := rg 45 Tryz.f45 0
def c45r1 := rg 45 Tryz.f45 1
def c45r2 := rg 45 Tryz.f45 2
def c45r3 := rg 45 Tryz.f45 3
def c45r4 := rg 45 Tryz.f45 4
def c45r5 := rg 45 Tryz.f45 5
def c45r6 := rg 45 Tryz.f45 6
def c45l0 : SC :=
  (.seq (.reg false (some [0, 2, 8, 9, 10, 11]) c45r2) (.seq (.cond (.tmp 11) .nop (.exit 0)) (.seq (.block 1 (.seq (.reg false (some [0, 2, 3, 4, 8, 9, 10]) c45r3) (.seq (.reg false (some [0, 2, 4, 8, 9, 10]) c45r4) (.reg false (some [0, 2, 8, 9, 10]) c45r5)))) (.reg false (some [0, 2, 8, 9, 10]) c45r6))))
def c45r7 := rg 45 Tryz.f45 7
def c45 : SC :=
  (.seq (.reg false (some [0, 2]) c45r0) (.seq (.seq (.reg false (some [0, 2, 8, 9, 10]) c45r1) (.block 0 (.loop c45l0))) (.reg true (some []) c45r7)))
theorem s45 : Tryz.f45.body.bind (strip Tryz.prog An 45 Tryz.f45.ntmps) = some c45 := by kernel_rfl
theorem g45 : An.glob 45 = [] := rfl
theorem r45 : Tryz.f45.results.toList = [] := by kernel_rfl
theorem t45r0 (h : Q .normal ⟨[(0, (tget L 0)), (2, (.int .i64 0))], m⟩) : Rg F 45 [0, 2] c45r0 L m Q := Tx_told (by kernel_rfl) h
theorem t45r1 (h : Obt (nilX (tget L 0)) fun a0 => Obt (fldA 2 a0) fun a1 => Obt (ld1 m a1) fun a2 => Obt (lenS a2) fun a3 => Q .normal ⟨[(0, (tget L 0)), (2, (tget L 2)), (8, a2), (9, a3), (10, (.int .i64 0))], m⟩) : Rg F 45 [0, 2, 8, 9, 10] c45r1 L m Q := Tx_told (by kernel_rfl) h
theorem t45r2 (h : Obt (cbin Tryz.prog .lss 3 (.tmp 10) (.tmp 9) (tget L 10) (tget L 9)) fun a0 => Q .normal ⟨[(0, (tget L 0)), (2, (tget L 2)), (8, (tget L 8)), (9, (tget L 9)), (10, (tget L 10)), (11, a0)], m⟩) : Rg F 45 [0, 2, 8, 9, 10, 11] c45r2 L m Q := Tx_told (by kernel_rfl) h
theorem t45r3 (h : Obt (idxS 1 (tget L 8) (tget L 10)) fun a0 => Obt (ld1 m a0) fun a1 => Q .normal ⟨[(0, (tget L 0)), (2, (tget L 2)), (3, (tget L 10)), (4, a1), (8, (tget L 8)), (9, (tget L 9)), (10, (tget L 10))], m⟩) : Rg F 45 [0, 2, 3, 4, 8, 9, 10] c45r3 L m Q := Tx_told (by kernel_rfl) h
theorem t45r4 (h : Obt (nilX (tget L 0)) fun a0 => Obt (fldA 3 a0) fun a1 => Obt (ld1 m a1) fun a2 => Obt (idxS 1 a2 (tget L 3)) fun a3 => Obt (stX 1 m a3 (tget L 2)) fun a4 => Q .normal ⟨[(0, (tget L 0)), (2, (tget L 2)), (4, (tget L 4)), (8, (tget L 8)), (9, (tget L 9)), (10, (tget L 10))], a4⟩) : Rg F 45 [0, 2, 4, 8, 9, 10] c45r4 L m Q := Tx_told (by kernel_rfl) h
theorem t45r5 (h : Obt (cbin Tryz.prog .add 3 (.tmp 22) (.tmp 23) (tget L 2) (tget L 4)) fun a0 => Q .normal ⟨[(0, (tget L 0)), (2, a0), (8, (tget L 8)), (9, (tget L 9)), (10, (tget L 10))], m⟩) : Rg F 45 [0, 2, 8, 9, 10] c45r5 L m Q := Tx_told (by kernel_rfl) h
theorem t45r6 (h : Obt (cbin Tryz.prog .add 3 (.tmp 10) (.const (.int .i64 1)) (tget L 10) (.int .i64 1)) fun a0 => Q .normal ⟨[(0, (tget L 0)), (2, (tget L 2)), (8, (tget L 8)), (9, (tget L 9)), (10, a0)], m⟩) : Rg F 45 [0, 2, 8, 9, 10] c45r6 L m Q := Tx_told (by kernel_rfl) h
theorem t45r7 (h : Obt (nilX (tget L 0)) fun a0 => Obt (fldA 3 a0) fun a1 => Obt (ld1 m a1) fun a2 => Obt (nilX (tget L 0)) fun a3 => Obt (fldA 2 a3) fun a4 => Obt (ld1 m a4) fun a5 => Obt (lenS a5) fun a6 => Obt (idxS 1 a2 a6) fun a7 => Obt (stX 1 m a7 (tget L 2)) fun a8 => Q .normal ⟨[], a8⟩) : Rt F 45 [] c45r7 L m Q := Tx_told (by kernel_rfl) h
def c46r0 := rg 46 Tryz.f46 0
def c46r1 := rg 46 Tryz.f46 1
def c46r2 := rg 46 Tryz.f46 2
def c46r3 := rg 46 Tryz.f46 3
def c46r4 := rg 46 Tryz.f46 4
def c46r5 := rg 46 Tryz.f46 5
def c46r6 := rg 46 Tryz.f46 6
def c46r7 := rg 46 Tryz.f46 7
def c46r8 := rg 46 Tryz.f46 8
def c46r9 := rg 46 Tryz.f46 9
def c46r10 := rg 46 Tryz.f46 10
def c46r11 := rg 46 Tryz.f46 11
def c46r12 := rg 46 Tryz.f46 12
def c46l0 : SC :=
  (.seq (.reg false (some [0, 3, 10, 11, 12, 13]) c46r3) (.seq (.cond (.tmp 13) .nop (.exit 0)) (.seq (.block 1 (.seq (.reg false (some [0, 3, 4, 5, 10, 11, 12]) c46r4) (.seq (.seq (.reg false (some [0, 3, 4, 5, 10, 11, 12, 35]) c46r5) (.cond (.tmp 35) (.exit 1) .nop)) (.seq (.reg false (some [0, 3, 4, 5, 6, 10, 11, 12]) c46r6) (.seq (.reg false (some [0, 3, 4, 5, 10, 11, 12, 45]) c46r7) (.cond (.tmp 45) (.seq (.reg false (some [0, 4, 5, 10, 11, 12]) c46r8) (.seq (.seq (.reg false (some [0, 4, 10, 11, 12, 56]) c46r9) (.cond (.tmp 56) (.reg false (some [0, 10, 11, 12]) c46r10) .nop)) (.reg false (some [0, 3, 10, 11, 12]) c46r11))) .nop)))))) (.reg false (some [0, 3, 10, 11, 12]) c46r12))))
def c46r13 := rg 46 Tryz.f46 13
def c46 : SC :=
  (.seq (.reg false (some [0]) c46r0) (.seq (.reg false (some [0, 3]) c46r1) (.seq (.seq (.reg false (some [0, 3, 10, 11, 12]) c46r2) (.block 0 (.loop c46l0))) (.seq (.reg false (some [2]) c46r13) .ret))))
theorem s46 : Tryz.f46.body.bind (strip Tryz.prog An 46 Tryz.f46.ntmps) = some c46 := by kernel_rfl
theorem g46 : An.glob 46 = [] := rfl
theorem r46 : Tryz.f46.results.toList = [(.tmp 2)] := by kernel_rfl
theorem t46r0 (h : Q .normal ⟨[(0, (tget L 0))], m⟩) : Rg F 46 [0] c46r0 L m Q := Tx_told (by kernel_rfl) h
theorem t46r1 (h : Q .normal ⟨[(0, (tget L 0)), (3, (.bool false))], m⟩) : Rg F 46 [0, 3] c46r1 L m Q := Tx_told (by kernel_rfl) h
theorem t46r2 (h : Obt (nilX (tget L 0)) fun a0 => Obt (fldA 0 a0) fun a1 => Obt (ld1 m a1) fun a2 => Obt (lenS a2) fun a3 => Q .normal ⟨[(0, (tget L 0)), (3, (tget L 3)), (10, a2), (11, a3), (12, (.int .i64 0))], m⟩) : Rg F 46 [0, 3, 10, 11, 12] c46r2 L m Q := Tx_told (by kernel_rfl) h
theorem t46r3 (h : Obt (cbin Tryz.prog .lss 3 (.tmp 12) (.tmp 11) (tget L 12) (tget L 11)) fun a0 => Q .normal ⟨[(0, (tget L 0)), (3, (tget L 3)), (10, (tget L 10)), (11, (tget L 11)), (12, (tget L 12)), (13, a0)], m⟩) : Rg F 46 [0, 3, 10, 11, 12, 13] c46r3 L m Q := Tx_told (by kernel_rfl) h
theorem t46r4 (h : Obt (idxS 9 (tget L 10) (tget L 12)) fun a0 => Obt (ldA 9 m a0) fun a1 => Obt (stX 9 (newL m 80 [.int .i64 0, .int .i64 0, .int .i64 0, .int .i64 0, .int .i64 0, .bool false, .int .i64 0, .int .i64 0, .int .i64 0]) (newP m 80) a1) fun a2 => Q .normal ⟨[(0, (tget L 0)), (3, (tget L 3)), (4, (tget L 12)), (5, (newP m 80)), (10, (tget L 10)), (11, (tget L 11)), (12, (tget L 12))], a2⟩) : Rg F 46 [0, 3, 4, 5, 10, 11, 12] c46r4 L m Q := Tx_told (by kernel_rfl) h
theorem t46r5 (h : Obt (fldA 8 (tget L 5)) fun a0 => Obt (ld1 m a0) fun a1 => Obt (cbin Tryz.prog .eql 3 (.tmp 18) (.const (.int .i64 0)) a1 (.int .i64 0)) fun a2 => Obt (gdO a2 false ((fldA 0 (tget L 5)).map fun v => (v, m)) (.tuple [], m)) fun a3 => Obt (gdO a2 false ((fldA 0 a3.1).map fun v => (v, a3.2)) (.tuple [], a3.2)) fun a4 => Obt (gdO a2 false ((ld1 a4.2 a4.1).map fun v => (v, a4.2)) (.tuple [], a4.2)) fun a5 => Obt (gdO a2 false ((cbin Tryz.prog .neq 50 (.tmp 23) (.const (.int .i64 20)) a5.1 (.int .i64 20)).map fun v => (v, a5.2)) (.tuple [], a5.2)) fun a6 => Obt (pickX a2 (.bool true) a6.1) fun a7 => Obt (gdO a7 false (some ((tget L 0), a6.2)) (.tuple [], a6.2)) fun a8 => Obt (gdO a7 false ((nilX a8.1).map fun v => (v, a8.2)) (.tuple [], a8.2)) fun a9 => Obt (gdO a7 false ((fldA 2 a9.1).map fun v => (v, a9.2)) (.tuple [], a9.2)) fun a10 => Obt (gdO a7 false ((ld1 a10.2 a10.1).map fun v => (v, a10.2)) (.tuple [], a10.2)) fun a11 => Obt (gdO a7 false (some ((tget L 4), a11.2)) (.tuple [], a11.2)) fun a12 => Obt (gdO a7 false ((idxS 1 a11.1 a12.1).map fun v => (v, a12.2)) (.tuple [], a12.2)) fun a13 => Obt (gdO a7 false ((ld1 a13.2 a13.1).map fun v => (v, a13.2)) (.tuple [], a13.2)) fun a14 => Obt (gdO a7 false ((cbin Tryz.prog .gtr 3 (.tmp 33) (.const (.int .i64 1)) a14.1 (.int .i64 1)).map fun v => (v, a14.2)) (.tuple [], a14.2)) fun a15 => Obt (pickX a7 (.bool true) a15.1) fun a16 => Q .normal ⟨[(0, (tget L 0)), (3, (tget L 3)), (4, (tget L 4)), (5, (tget L 5)), (10, (tget L 10)), (11, (tget L 11)), (12, (tget L 12)), (35, a16)], a15.2⟩) : Rg F 46 [0, 3, 4, 5, 10, 11, 12, 35] c46r5 L m Q := Tx_told (by kernel_rfl) h
theorem t46r6 (h : Obt (callC An F 46 (some 38) 71 [(tget L 0), (tget L 4)] m) fun a0 => Obt (cbin Tryz.prog .sub 3 (.tmp 38) (.const (.int .i64 1)) a0.1 (.int .i64 1)) fun a1 => Q .normal ⟨[(0, (tget L 0)), (3, (tget L 3)), (4, (tget L 4)), (5, (tget L 5)), (6, a1), (10, (tget L 10)), (11, (tget L 11)), (12, (tget L 12))], a0.2⟩) : Rg F 46 [0, 3, 4, 5, 6, 10, 11, 12] c46r6 L m Q := Tx_told (by kernel_rfl) h
theorem t46r7 (h : Obt (cbin Tryz.prog .lss 3 (.tmp 40) (.const (.int .i64 (-1024))) (tget L 6) (.int .i64 (-1024))) fun a0 => Obt (gdO a0 false (some ((tget L 6), m)) (.tuple [], m)) fun a1 => Obt (gdO a0 false ((cbin Tryz.prog .geq 3 (.tmp 43) (.const (.int .i64 1024)) a1.1 (.int .i64 1024)).map fun v => (v, a1.2)) (.tuple [], a1.2)) fun a2 => Obt (pickX a0 (.bool true) a2.1) fun a3 => Q .normal ⟨[(0, (tget L 0)), (3, (tget L 3)), (4, (tget L 4)), (5, (tget L 5)), (10, (tget L 10)), (11, (tget L 11)), (12, (tget L 12)), (45, a3)], a2.2⟩) : Rg F 46 [0, 3, 4, 5, 10, 11, 12, 45] c46r7 L m Q := Tx_told (by kernel_rfl) h
theorem t46r8 (h : Obt (nilX (tget L 0)) fun a0 => Obt (fldA 2 a0) fun a1 => Obt (ld1 m a1) fun a2 => Obt (idxS 1 a2 (tget L 4)) fun a3 => Obt (stX 1 m a3 (.int .i64 3)) fun a4 => Q .normal ⟨[(0, (tget L 0)), (4, (tget L 4)), (5, (tget L 5)), (10, (tget L 10)), (11, (tget L 11)), (12, (tget L 12))], a4⟩) : Rg F 46 [0, 4, 5, 10, 11, 12] c46r8 L m Q := Tx_told (by kernel_rfl) h
theorem t46r9 (h : Obt (fldA 0 (tget L 5)) fun a0 => Obt (fldA 4 a0) fun a1 => Obt (ld1 m a1) fun a2 => Obt (callC An F 46 (some 55) 72 [a2] m) fun a3 => Obt (cbin Tryz.prog .geq 3 (.tmp 55) (.const (.int .i64 0)) a3.1 (.int .i64 0)) fun a4 => Q .normal ⟨[(0, (tget L 0)), (4, (tget L 4)), (10, (tget L 10)), (11, (tget L 11)), (12, (tget L 12)), (56, a4)], a3.2⟩) : Rg F 46 [0, 4, 10, 11, 12, 56] c46r9 L m Q := Tx_told (by kernel_rfl) h
theorem t46r10 (h : Obt (nilX (tget L 0)) fun a0 => Obt (fldA 2 a0) fun a1 => Obt (ld1 m a1) fun a2 => Obt (idxS 1 a2 (tget L 4)) fun a3 => Obt (stX 1 m a3 (.int .i64 2)) fun a4 => Q .normal ⟨[(0, (tget L 0)), (10, (tget L 10)), (11, (tget L 11)), (12, (tget L 12))], a4⟩) : Rg F 46 [0, 10, 11, 12] c46r10 L m Q := Tx_told (by kernel_rfl) h
theorem t46r11 (h : Q .normal ⟨[(0, (tget L 0)), (3, (.bool true)), (10, (tget L 10)), (11, (tget L 11)), (12, (tget L 12))], m⟩) : Rg F 46 [0, 3, 10, 11, 12] c46r11 L m Q := Tx_told (by kernel_rfl) h
theorem t46r12 (h : Obt (cbin Tryz.prog .add 3 (.tmp 12) (.const (.int .i64 1)) (tget L 12) (.int .i64 1)) fun a0 => Q .normal ⟨[(0, (tget L 0)), (3, (tget L 3)), (10, (tget L 10)), (11, (tget L 11)), (12, a0)], m⟩) : Rg F 46 [0, 3, 10, 11, 12] c46r12 L m Q := Tx_told (by kernel_rfl) h
theorem t46r13 (h : Q .normal ⟨[(2, (tget L 3))], m⟩) : Rg F 46 [2] c46r13 L m Q := Tx_told (by kernel_rfl) h
def c47r0 := rg 47 Tryz.f47 0
def c47r1 := rg 47 Tryz.f47 1
def c47r2 := rg 47 Tryz.f47 2
def c47r3 := rg 47 Tryz.f47 3
def c47r4 := rg 47 Tryz.f47 4
def c47r5 := rg 47 Tryz.f47 5
def c47r6 := rg 47 Tryz.f47 6
def c47r7 := rg 47 Tryz.f47 7
def c47r8 := rg 47 Tryz.f47 8
def c47r9 := rg 47 Tryz.f47 9
def c47r10 := rg 47 Tryz.f47 10
def c47r11 := rg 47 Tryz.f47 11
def c47r12 := rg 47 Tryz.f47 12
def c47r13 := rg 47 Tryz.f47 13
def c47 : SC :=
  (.seq (.reg false (some [0, 1]) c47r0) (.seq (.reg false (some [0, 1, 5]) c47r1) (.seq (.seq (.reg false (some [0, 1, 5, 23]) c47r2) (.cond (.tmp 23) (.seq (.reg false (some [4]) c47r3) .ret) .nop)) (.seq (.reg false (some [0, 1, 5, 6]) c47r4) (.seq (.seq (.reg false (some [5, 6, 35]) c47r5) (.block 0 (.seq (.reg false (some [5, 6, 35, 36]) c47r6) (.cond (.tmp 36) (.seq (.reg false (some [5]) c47r7) (.seq (.reg false (some [4]) c47r8) .ret)) (.seq (.reg false (some [5, 6, 43]) c47r9) (.cond (.tmp 43) (.seq (.reg false (some [5, 6]) c47r10) (.seq (.reg true (some [4]) c47r11) .ret)) .nop)))))) (.seq (.reg false (some [5, 6]) c47r12) (.seq (.reg true (some [4]) c47r13) .ret)))))))
theorem s47 : Tryz.f47.body.bind (strip Tryz.prog An 47 Tryz.f47.ntmps) = some c47 := by kernel_rfl
theorem g47 : An.glob 47 = [] := rfl
theorem r47 : Tryz.f47.results.toList = [(.tmp 4)] := by kernel_rfl
theorem t47r0 (h : Q .normal ⟨[(0, (tget L 0)), (1, (tget L 1))], m⟩) : Rg F 47 [0, 1] c47r0 L m Q := Tx_told (by kernel_rfl) h
theorem t47r1 (h : Obt (nilX (tget L 0)) fun a0 => Obt (fldA 0 a0) fun a1 => Obt (ld1 m a1) fun a2 => Obt (idxS 9 a2 (tget L 1)) fun a3 => Obt (fldA 0 a3) fun a4 => Obt (ldA 8 m a4) fun a5 => Obt (stX 8 (newL m 80 [.int .i64 0, .int .i64 0, .int .i64 0, .int .i64 0, .int .i64 0, .bool false, .int .i64 0, .int .i64 0]) (newP m 80) a5) fun a6 => Q .normal ⟨[(0, (tget L 0)), (1, (tget L 1)), (5, (newP m 80))], a6⟩) : Rg F 47 [0, 1, 5] c47r1 L m Q := Tx_told (by kernel_rfl) h
theorem t47r2 (h : Obt (nilX (tget L 0)) fun a0 => Obt (fldA 0 a0) fun a1 => Obt (ld1 m a1) fun a2 => Obt (idxS 9 a2 (tget L 1)) fun a3 => Obt (fldA 8 a3) fun a4 => Obt (ld1 m a4) fun a5 => Obt (cbin Tryz.prog .eql 3 (.tmp 22) (.const (.int .i64 0)) a5 (.int .i64 0)) fun a6 => Q .normal ⟨[(0, (tget L 0)), (1, (tget L 1)), (5, (tget L 5)), (23, a6)], m⟩) : Rg F 47 [0, 1, 5, 23] c47r2 L m Q := Tx_told (by kernel_rfl) h
theorem t47r3 (h : Obt (ldA 8 m (tget L 5)) fun a0 => Obt (bslX false 400 8 1 [.int .i64 0, .int .i64 0, .int .i64 0, .int .i64 0, .int .i64 0, .bool false, .int .i64 0, .int .i64 0] [(0, 8, a0)] m) fun a1 => Q .normal ⟨[(4, a1.1)], a1.2⟩) : Rg F 47 [4] c47r3 L m Q := Tx_told (by kernel_rfl) h
theorem t47r4 (h : Obt (callC An F 47 (some 28) 71 [(tget L 0), (tget L 1)] m) fun a0 => Q .normal ⟨[(0, (tget L 0)), (1, (tget L 1)), (5, (tget L 5)), (6, a0.1)], a0.2⟩) : Rg F 47 [0, 1, 5, 6] c47r4 L m Q := Tx_told (by kernel_rfl) h
theorem t47r5 (h : Obt (nilX (tget L 0)) fun a0 => Obt (fldA 2 a0) fun a1 => Obt (ld1 m a1) fun a2 => Obt (idxS 1 a2 (tget L 1)) fun a3 => Obt (ld1 m a3) fun a4 => Q .normal ⟨[(5, (tget L 5)), (6, (tget L 6)), (35, a4)], m⟩) : Rg F 47 [5, 6, 35] c47r5 L m Q := Tx_told (by kernel_rfl) h
theorem t47r6 (h : Obt (cbin Tryz.prog .eql 3 (.tmp 35) (.const (.int .i64 1)) (tget L 35) (.int .i64 1)) fun a0 => Q .normal ⟨[(5, (tget L 5)), (6, (tget L 6)), (35, (tget L 35)), (36, a0)], m⟩) : Rg F 47 [5, 6, 35, 36] c47r6 L m Q := Tx_told (by kernel_rfl) h
theorem t47r7 (h : Obt (cbin Tryz.prog .sub 3 (.tmp 38) (.const (.int .i64 1)) (tget L 6) (.int .i64 1)) fun a0 => Obt (fldA 7 (tget L 5)) fun a1 => Obt (stX 1 m a1 a0) fun a2 => Q .normal ⟨[(5, (tget L 5))], a2⟩) : Rg F 47 [5] c47r7 L m Q := Tx_told (by kernel_rfl) h
theorem t47r8 (h : Obt (ldA 8 m (tget L 5)) fun a0 => Obt (bslX false 672 8 1 [.int .i64 0, .int .i64 0, .int .i64 0, .int .i64 0, .int .i64 0, .bool false, .int .i64 0, .int .i64 0] [(0, 8, a0)] m) fun a1 => Q .normal ⟨[(4, a1.1)], a1.2⟩) : Rg F 47 [4] c47r8 L m Q := Tx_told (by kernel_rfl) h
theorem t47r9 (h : Obt (cbin Tryz.prog .eql 3 (.tmp 35) (.const (.int .i64 2)) (tget L 35) (.int .i64 2)) fun a0 => Q .normal ⟨[(5, (tget L 5)), (6, (tget L 6)), (43, a0)], m⟩) : Rg F 47 [5, 6, 43] c47r9 L m Q := Tx_told (by kernel_rfl) h
theorem t47r10 (h : Obt (fldA 4 (tget L 5)) fun a0 => Obt (ld1 m a0) fun a1 => Obt (callC An F 47 (some 47) 72 [a1] m) fun a2 => Obt (fldA 4 (tget L 5)) fun a3 => Obt (stX 1 a2.2 a3 a2.1) fun a4 => Obt (fldA 7 (tget L 5)) fun a5 => Obt (stX 1 a4 a5 (.int .i64 1)) fun a6 => Q .normal ⟨[(5, (tget L 5)), (6, (tget L 6))], a6⟩) : Rg F 47 [5, 6] c47r10 L m Q := Tx_told (by kernel_rfl) h
theorem t47r11 (h : Obt (ldA 8 m (tget L 5)) fun a0 => Obt (cbin Tryz.prog .sub 3 (.tmp 51) (.const (.int .i64 2)) (tget L 6) (.int .i64 2)) fun a1 => Obt (chk true (callC An F 47 (some 53) 73 [a1] m)) fun a2 => Obt (bslX false 864 8 2 [.int .i64 0, .int .i64 0, .int .i64 0, .int .i64 0, .int .i64 0, .bool false, .int .i64 0, .int .i64 0, .int .i64 0, .int .i64 0, .int .i64 0, .int .i64 0, .int .i64 0, .bool false, .int .i64 0, .int .i64 0] [(0, 8, a0), (8, 8, a2.1)] a2.2) fun a3 => Q .normal ⟨[(4, a3.1)], a3.2⟩) : Rt F 47 [4] c47r11 L m Q := Tx_told (by kernel_rfl) h
theorem t47r12 (h : Obt (fldA 7 (tget L 5)) fun a0 => Obt (stX 1 m a0 (.int .i64 1)) fun a1 => Q .normal ⟨[(5, (tget L 5)), (6, (tget L 6))], a1⟩) : Rg F 47 [5, 6] c47r12 L m Q := Tx_told (by kernel_rfl) h
theorem t47r13 (h : Obt (ldA 8 m (tget L 5)) fun a0 => Obt (chk true (callC An F 47 (some 57) 73 [(.int .i64 1)] m)) fun a1 => Obt (cbin Tryz.prog .sub 3 (.tmp 58) (.const (.int .i64 3)) (tget L 6) (.int .i64 3)) fun a2 => Obt (chk true (callC An F 47 (some 60) 73 [a2] a1.2)) fun a3 => Obt (bslX false 976 8 3 [.int .i64 0, .int .i64 0, .int .i64 0, .int .i64 0, .int .i64 0, .bool false, .int .i64 0, .int .i64 0, .int .i64 0, .int .i64 0, .int .i64 0, .int .i64 0, .int .i64 0, .bool false, .int .i64 0, .int .i64 0, .int .i64 0, .int .i64 0, .int .i64 0, .int .i64 0, .int .i64 0, .bool false, .int .i64 0, .int .i64 0] [(0, 8, a0), (8, 8, a1.1), (16, 8, a3.1)] a3.2) fun a4 => Q .normal ⟨[(4, a4.1)], a4.2⟩) : Rt F 47 [4] c47r13 L m Q := Tx_told (by kernel_rfl) h
def c71r0 := rg 71 Tryz.f71 0
def c71r1 := rg 71 Tryz.f71 1
def c71 : SC :=
  (.seq (.reg false (some [0, 1]) c71r0) (.seq (.reg true (some [4]) c71r1) .ret))
theorem s71 : Tryz.f71.body.bind (strip Tryz.prog An 71 Tryz.f71.ntmps) = some c71 := by kernel_rfl
theorem g71 : An.glob 71 = [] := rfl
theorem r71 : Tryz.f71.results.toList = [(.tmp 4)] := by kernel_rfl
theorem t71r0 (h : Q .normal ⟨[(0, (tget L 0)), (1, (tget L 1))], m⟩) : Rg F 71 [0, 1] c71r0 L m Q := Tx_told (by kernel_rfl) h
theorem t71r1 (h : Obt (nilX (tget L 0)) fun a0 => Obt (fldA 3 a0) fun a1 => Obt (ld1 m a1) fun a2 => Obt (nilX (tget L 0)) fun a3 => Obt (fldA 1 a3) fun a4 => Obt (ld1 m a4) fun a5 => Obt (nilX (tget L 0)) fun a6 => Obt (fldA 0 a6) fun a7 => Obt (ld1 m a7) fun a8 => Obt (idxS 9 a8 (tget L 1)) fun a9 => Obt (fldA 8 a9) fun a10 => Obt (ld1 m a10) fun a11 => Obt (cbin Tryz.prog .sub 3 (.tmp 20) (.const (.int .i64 1)) a11 (.int .i64 1)) fun a12 => Obt (idxS 1 a5 a12) fun a13 => Obt (ld1 m a13) fun a14 => Obt (idxS 1 a2 a14) fun a15 => Obt (ld1 m a15) fun a16 => Obt (nilX (tget L 0)) fun a17 => Obt (fldA 3 a17) fun a18 => Obt (ld1 m a18) fun a19 => Obt (idxS 1 a19 (tget L 1)) fun a20 => Obt (ld1 m a20) fun a21 => Obt (cbin Tryz.prog .sub 3 (.tmp 25) (.tmp 32) a16 a21) fun a22 => Q .normal ⟨[(4, a22)], m⟩) : Rt F 71 [4] c71r1 L m Q := Tx_told (by kernel_rfl) h
def c7r0 := rg 7 Tryz.f7 0
def c7r1 := rg 7 Tryz.f7 1
def c7r2 := rg 7 Tryz.f7 2
def c7r3 := rg 7 Tryz.f7 3
def c7r4 := rg 7 Tryz.f7 4
def c7r5 := rg 7 Tryz.f7 5
def c7r6 := rg 7 Tryz.f7 6
def c7r7 := rg 7 Tryz.f7 7
def c7r8 := rg 7 Tryz.f7 8
def c7r9 := rg 7 Tryz.f7 9
def c7r11 := rg 7 Tryz.f7 11
def c7r12 := rg 7 Tryz.f7 12
def c7r13 := rg 7 Tryz.f7 13
def c7r14 := rg 7 Tryz.f7 14
def c7r15 := rg 7 Tryz.f7 15
def c7r10 := rg 7 Tryz.f7 10
def c7l0 : SC :=
  (.seq (.seq (.reg false (some [0, 1, 5, 7, 35]) c7r9) (.cond (.tmp 35) .nop (.exit 0))) (.seq (.block 1 (.seq (.reg false (some [0, 1, 5, 7, 8]) c7r11) (.seq (.seq (.reg false (some [0, 1, 5, 7, 8, 48]) c7r12) (.cond (.tmp 48) (.reg false (some [0, 1, 5, 7, 8]) c7r13) .nop)) (.seq (.reg true (some [0, 1, 5, 7, 67]) c7r14) (.cond (.tmp 67) (.seq (.reg false (some [4]) c7r15) .ret) .nop))))) (.reg false (some [0, 1, 5, 7]) c7r10)))
def c7r16 := rg 7 Tryz.f7 16
def c7 : SC :=
  (.seq (.reg false (some [0, 1]) c7r0) (.seq (.seq (.reg false (some [0, 1, 11]) c7r1) (.cond (.tmp 11) (.seq (.reg false (some [4]) c7r2) .ret) .nop)) (.seq (.reg false (some [0, 1, 5, 6]) c7r3) (.seq (.seq (.reg false (some [0, 1, 5, 20]) c7r4) (.cond (.tmp 20) (.seq (.reg false (some [4]) c7r5) .ret) .nop)) (.seq (.seq (.reg false (some [0, 1, 5, 31]) c7r6) (.cond (.tmp 31) (.seq (.reg false (some [4]) c7r7) .ret) .nop)) (.seq (.seq (.reg false (some [0, 1, 5, 7]) c7r8) (.block 0 (.loop c7l0))) (.seq (.reg false (some [4]) c7r16) .ret)))))))
theorem s7 : Tryz.f7.body.bind (strip Tryz.prog An 7 Tryz.f7.ntmps) = some c7 := by kernel_rfl
theorem g7 : An.glob 7 = [] := rfl
theorem r7 : Tryz.f7.results.toList = [(.tmp 4)] := by kernel_rfl
theorem t7r0 (h : Q .normal ⟨[(0, (tget L 0)), (1, (tget L 1))], m⟩) : Rg F 7 [0, 1] c7r0 L m Q := Tx_told (by kernel_rfl) h
theorem t7r1 (h : Obt (lenS (tget L 0)) fun a0 => Obt (cbin Tryz.prog .gtr 3 (.tmp 10) (.const (.int .i64 1000)) a0 (.int .i64 1000)) fun a1 => Q .normal ⟨[(0, (tget L 0)), (1, (tget L 1)), (11, a1)], m⟩) : Rg F 7 [0, 1, 11] c7r1 L m Q := Tx_told (by kernel_rfl) h
theorem t7r2 (h : Obt (callC An F 7 (some 12) 21 [] m) fun a0 => Q .normal ⟨[(4, a0.1)], a0.2⟩) : Rg F 7 [4] c7r2 L m Q := Tx_told (by kernel_rfl) h
theorem t7r3 (h : Obt (callC An F 7 (some 16) 22 [(tget L 0), (tget L 1)] m) fun a0 => Obt (extX 0 a0.1) fun a1 => Obt (extX 1 a0.1) fun a2 => Q .normal ⟨[(0, (tget L 0)), (1, (tget L 1)), (5, a1), (6, a2)], a0.2⟩) : Rg F 7 [0, 1, 5, 6] c7r3 L m Q := Tx_told (by kernel_rfl) h
theorem t7r4 (h : Obt (cbin Tryz.prog .neq 28 (.tmp 19) (.const (.int .i64 0)) (tget L 6) (.int .i64 0)) fun a0 => Q .normal ⟨[(0, (tget L 0)), (1, (tget L 1)), (5, (tget L 5)), (20, a0)], m⟩) : Rg F 7 [0, 1, 5, 20] c7r4 L m Q := Tx_told (by kernel_rfl) h
theorem t7r5 (h : Obt (lenS (tget L 5)) fun a0 => Obt (cbin Tryz.prog .eql 3 (.tmp 22) (.const (.int .i64 0)) a0 (.int .i64 0)) fun a1 => Obt (gdO a1 true (callC An F 7 (some 25) 21 [] m) (.tuple [], m)) fun a2 => Obt (pickX a1 a2.1 (.bool false)) fun a3 => Q .normal ⟨[(4, a3)], a2.2⟩) : Rg F 7 [4] c7r5 L m Q := Tx_told (by kernel_rfl) h
theorem t7r6 (h : Obt (lenS (tget L 5)) fun a0 => Obt (lenS (tget L 0)) fun a1 => Obt (cbin Tryz.prog .neq 3 (.tmp 28) (.tmp 30) a0 a1) fun a2 => Q .normal ⟨[(0, (tget L 0)), (1, (tget L 1)), (5, (tget L 5)), (31, a2)], m⟩) : Rg F 7 [0, 1, 5, 31] c7r6 L m Q := Tx_told (by kernel_rfl) h
theorem t7r7 (h : Q .normal ⟨[(4, (.bool false))], m⟩) : Rg F 7 [4] c7r7 L m Q := Tx_told (by kernel_rfl) h
theorem t7r8 (h : Q .normal ⟨[(0, (tget L 0)), (1, (tget L 1)), (5, (tget L 5)), (7, (.int .i64 0))], m⟩) : Rg F 7 [0, 1, 5, 7] c7r8 L m Q := Tx_told (by kernel_rfl) h
theorem t7r9 (h : Obt (lenS (tget L 0)) fun a0 => Obt (cbin Tryz.prog .lss 3 (.tmp 32) (.tmp 34) (tget L 7) a0) fun a1 => Q .normal ⟨[(0, (tget L 0)), (1, (tget L 1)), (5, (tget L 5)), (7, (tget L 7)), (35, a1)], m⟩) : Rg F 7 [0, 1, 5, 7, 35] c7r9 L m Q := Tx_told (by kernel_rfl) h
theorem t7r11 (h : Obt (idxS 9 (tget L 0) (tget L 7)) fun a0 => Obt (fldA 0 a0) fun a1 => Obt (ldA 8 m a1) fun a2 => Obt (stX 8 (newL m 128 [.int .i64 0, .int .i64 0, .int .i64 0, .int .i64 0, .int .i64 0, .bool false, .int .i64 0, .int .i64 0]) (newP m 128) a2) fun a3 => Q .normal ⟨[(0, (tget L 0)), (1, (tget L 1)), (5, (tget L 5)), (7, (tget L 7)), (8, (newP m 128))], a3⟩) : Rg F 7 [0, 1, 5, 7, 8] c7r11 L m Q := Tx_told (by kernel_rfl) h
theorem t7r12 (h : Obt (idxS 9 (tget L 0) (tget L 7)) fun a0 => Obt (fldA 8 a0) fun a1 => Obt (ld1 m a1) fun a2 => Obt (cbin Tryz.prog .gtr 3 (.tmp 47) (.const (.int .i64 0)) a2 (.int .i64 0)) fun a3 => Q .normal ⟨[(0, (tget L 0)), (1, (tget L 1)), (5, (tget L 5)), (7, (tget L 7)), (8, (tget L 8)), (48, a3)], m⟩) : Rg F 7 [0, 1, 5, 7, 8, 48] c7r12 L m Q := Tx_told (by kernel_rfl) h
theorem t7r13 (h : Obt (idxS 9 (tget L 0) (tget L 7)) fun a0 => Obt (fldA 8 a0) fun a1 => Obt (ld1 m a1) fun a2 => Obt (cbin Tryz.prog .sub 3 (.tmp 54) (.const (.int .i64 1)) a2 (.int .i64 1)) fun a3 => Obt (idxS 1 (tget L 1) a3) fun a4 => Obt (ld1 m a4) fun a5 => Obt (cbin Tryz.prog .sub 3 (.tmp 57) (.tmp 58) a5 (tget L 7)) fun a6 => Obt (cbin Tryz.prog .sub 3 (.tmp 59) (.const (.int .i64 1)) a6 (.int .i64 1)) fun a7 => Obt (fldA 7 (tget L 8)) fun a8 => Obt (stX 1 m a8 a7) fun a9 => Q .normal ⟨[(0, (tget L 0)), (1, (tget L 1)), (5, (tget L 5)), (7, (tget L 7)), (8, (tget L 8))], a9⟩) : Rg F 7 [0, 1, 5, 7, 8] c7r13 L m Q := Tx_told (by kernel_rfl) h
theorem t7r14 (h : Obt (idxS 8 (tget L 5) (tget L 7)) fun a0 => Obt (ldA 8 m a0) fun a1 => Obt (ldA 8 m (tget L 8)) fun a2 => Obt (cbin Tryz.prog .neq 52 (.tmp 65) (.tmp 66) a1 a2) fun a3 => Q .normal ⟨[(0, (tget L 0)), (1, (tget L 1)), (5, (tget L 5)), (7, (tget L 7)), (67, a3)], m⟩) : Rt F 7 [0, 1, 5, 7, 67] c7r14 L m Q := Tx_told (by kernel_rfl) h
theorem t7r15 (h : Q .normal ⟨[(4, (.bool false))], m⟩) : Rg F 7 [4] c7r15 L m Q := Tx_told (by kernel_rfl) h
theorem t7r10 (h : Obt (cbin Tryz.prog .add 3 (.tmp 36) (.const (.int .i64 1)) (tget L 7) (.int .i64 1)) fun a0 => Q .normal ⟨[(0, (tget L 0)), (1, (tget L 1)), (5, (tget L 5)), (7, a0)], m⟩) : Rg F 7 [0, 1, 5, 7] c7r10 L m Q := Tx_told (by kernel_rfl) h
theorem t7r16 (h : Obt (callC An F 7 (some 68) 21 [] m) fun a0 => Q .normal ⟨[(4, a0.1)], a0.2⟩) : Rg F 7 [4] c7r16 L m Q := Tx_told (by kernel_rfl) h
end
end Go.Cm
