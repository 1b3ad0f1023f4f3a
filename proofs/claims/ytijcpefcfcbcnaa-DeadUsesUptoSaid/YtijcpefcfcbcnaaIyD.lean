import Derived.Test.YtijcpefcfcbcnaaIyA
set_option linter.unusedSimpArgs false
set_option linter.unusedVariables false
namespace Go.Cm
open Go.Proofs
variable {F : Oracle} {L : List (Nat × CV)} {m : Mem} {Q : CE → TS → Prop}
noncomputable section
def c135r0 := rg 135 Try.f135 0
def c135r1 := rg 135 Try.f135 1
def c135r2 := rg 135 Try.f135 2
def c135r3 := rg 135 Try.f135 3
def c135r4 := rg 135 Try.f135 4
def c135r5 := rg 135 Try.f135 5
def c135r6 := rg 135 Try.f135 6
def c135r7 := rg 135 Try.f135 7
def c135l0 : SC :=
  (.seq (.reg false (some [0, 5, 11, 12, 13, 14]) c135r3) (.seq (.cond (.tmp 14) .nop (.exit 0)) (.seq (.block 1 (.seq (.reg false (some [0, 5, 7, 11, 12, 13]) c135r4) (.seq (.reg false (some [0, 5, 7, 11, 12, 13, 24]) c135r5) (.cond (.tmp 24) (.reg false (some [0, 5, 11, 12, 13]) c135r6) .nop)))) (.reg false (some [0, 5, 11, 12, 13]) c135r7))))
def c135r8 := rg 135 Try.f135 8
def c135 : SC :=
  (.seq (.reg false (some [0, 1]) c135r0) (.seq (.reg false (some [0, 1, 5]) c135r1) (.seq (.seq (.reg false (some [0, 5, 11, 12, 13]) c135r2) (.block 0 (.loop c135l0))) (.seq (.reg false (some [4]) c135r8) .ret))))
theorem s135 : Try.f135.body.bind (strip Try.prog An 135 Try.f135.ntmps) = some c135 := by kernel_rfl
theorem g135 : An.glob 135 = [] := rfl
theorem r135 : Try.f135.results.toList = [(.tmp 4)] := by kernel_rfl
theorem t135r0 (h : Q .normal ⟨[(0, (tget L 0)), (1, (tget L 1))], m⟩) : Rg F 135 [0, 1] c135r0 L m Q := Tx_told (by kernel_rfl) h
theorem t135r1 (h : Q .normal ⟨[(0, (tget L 0)), (1, (tget L 1)), (5, .nil)], m⟩) : Rg F 135 [0, 1, 5] c135r1 L m Q := Tx_told (by kernel_rfl) h
theorem t135r2 (h : Obt (idxS 1 (tget L 0) (tget L 1)) fun a0 => Obt (ld1 m a0) fun a1 => Obt (lenS a1) fun a2 => Q .normal ⟨[(0, (tget L 0)), (5, (tget L 5)), (11, a1), (12, a2), (13, (.int .i64 0))], m⟩) : Rg F 135 [0, 5, 11, 12, 13] c135r2 L m Q := Tx_told (by kernel_rfl) h
theorem t135r3 (h : Obt (cbin Try.prog .lss 3 (.tmp 13) (.tmp 12) (tget L 13) (tget L 12)) fun a0 => Q .normal ⟨[(0, (tget L 0)), (5, (tget L 5)), (11, (tget L 11)), (12, (tget L 12)), (13, (tget L 13)), (14, a0)], m⟩) : Rg F 135 [0, 5, 11, 12, 13, 14] c135r3 L m Q := Tx_told (by kernel_rfl) h
theorem t135r4 (h : Obt (idxS 1 (tget L 11) (tget L 13)) fun a0 => Obt (ld1 m a0) fun a1 => Q .normal ⟨[(0, (tget L 0)), (5, (tget L 5)), (7, a1), (11, (tget L 11)), (12, (tget L 12)), (13, (tget L 13))], m⟩) : Rg F 135 [0, 5, 7, 11, 12, 13] c135r4 L m Q := Tx_told (by kernel_rfl) h
theorem t135r5 (h : Obt (cbin Try.prog .geq 3 (.tmp 17) (.const (.int .i64 0)) (tget L 7) (.int .i64 0)) fun a0 => Obt (gdO a0 true (some ((tget L 7), m)) (.tuple [], m)) fun a1 => Obt (gdO a0 true (some ((tget L 0), a1.2)) (.tuple [], a1.2)) fun a2 => Obt (gdO a0 true ((lenS a2.1).map fun v => (v, a2.2)) (.tuple [], a2.2)) fun a3 => Obt (gdO a0 true ((cbin Try.prog .lss 3 (.tmp 20) (.tmp 22) a1.1 a3.1).map fun v => (v, a3.2)) (.tuple [], a3.2)) fun a4 => Obt (pickX a0 a4.1 (.bool false)) fun a5 => Q .normal ⟨[(0, (tget L 0)), (5, (tget L 5)), (7, (tget L 7)), (11, (tget L 11)), (12, (tget L 12)), (13, (tget L 13)), (24, a5)], a4.2⟩) : Rg F 135 [0, 5, 7, 11, 12, 13, 24] c135r5 L m Q := Tx_told (by kernel_rfl) h
theorem t135r6 (h : Obt (bslX false 432 1 1 [.int .i64 0] [(0, 1, (tget L 7))] m) fun a0 => Obt (appX false 448 1 8 (tget L 5) a0.1 a0.2) fun a1 => Q .normal ⟨[(0, (tget L 0)), (5, a1.1), (11, (tget L 11)), (12, (tget L 12)), (13, (tget L 13))], a1.2⟩) : Rg F 135 [0, 5, 11, 12, 13] c135r6 L m Q := Tx_told (by kernel_rfl) h
theorem t135r7 (h : Obt (cbin Try.prog .add 3 (.tmp 13) (.const (.int .i64 1)) (tget L 13) (.int .i64 1)) fun a0 => Q .normal ⟨[(0, (tget L 0)), (5, (tget L 5)), (11, (tget L 11)), (12, (tget L 12)), (13, a0)], m⟩) : Rg F 135 [0, 5, 11, 12, 13] c135r7 L m Q := Tx_told (by kernel_rfl) h
theorem t135r8 (h : Q .normal ⟨[(4, (tget L 5))], m⟩) : Rg F 135 [4] c135r8 L m Q := Tx_told (by kernel_rfl) h
def c134r0 := rg 134 Try.f134 0
def c134r1 := rg 134 Try.f134 1
def c134r2 := rg 134 Try.f134 2
def c134r3 := rg 134 Try.f134 3
def c134r4 := rg 134 Try.f134 4
def c134r5 := rg 134 Try.f134 5
def c134r6 := rg 134 Try.f134 6
def c134l0 : SC :=
  (.seq (.reg false (some [0, 3, 4, 15, 16, 17, 18]) c134r3) (.seq (.cond (.tmp 18) .nop (.exit 0)) (.seq (.block 1 (.seq (.reg false (some [0, 3, 4, 7, 15, 16, 17]) c134r4) (.reg false (some [0, 3, 4, 15, 16, 17]) c134r5))) (.reg false (some [0, 3, 4, 15, 16, 17]) c134r6))))
def c134r7 := rg 134 Try.f134 7
def c134 : SC :=
  (.seq (.seq (.reg false (some [0, 1, 2, 3, 4, 10]) c134r0) (.cond (.tmp 10) .ret .nop)) (.seq (.reg false (some [0, 2, 3, 4]) c134r1) (.seq (.seq (.reg false (some [0, 3, 4, 15, 16, 17]) c134r2) (.block 0 (.loop c134l0))) (.reg false (some []) c134r7))))
theorem s134 : Try.f134.body.bind (strip Try.prog An 134 Try.f134.ntmps) = some c134 := by kernel_rfl
theorem g134 : An.glob 134 = [28] := rfl
theorem r134 : Try.f134.results.toList = [] := by kernel_rfl
theorem t134r0 (h : Obt (ld1 m (tget L 1)) fun a0 => Obt (lookX Try.prog 3 (.bool false) a0 (tget L 0) false m) fun a1 => Q .normal ⟨[(0, (tget L 0)), (1, (tget L 1)), (2, (tget L 2)), (3, (tget L 3)), (4, (tget L 4)), (10, a1)], m⟩) : Rg F 134 [0, 1, 2, 3, 4, 10] c134r0 L m Q := Tx_told (by kernel_rfl) h
theorem t134r1 (h : Obt (ld1 m (tget L 1)) fun a0 => Obt (mupX Try.prog 3 a0 (tget L 0) (.bool true) m) fun a1 => Q .normal ⟨[(0, (tget L 0)), (2, (tget L 2)), (3, (tget L 3)), (4, (tget L 4))], a1⟩) : Rg F 134 [0, 2, 3, 4] c134r1 L m Q := Tx_told (by kernel_rfl) h
theorem t134r2 (h : Obt (ld1 m (tget L 2)) fun a0 => Obt (callC An F 134 (some 15) 135 [a0, (tget L 0)] m) fun a1 => Obt (lenS a1.1) fun a2 => Q .normal ⟨[(0, (tget L 0)), (3, (tget L 3)), (4, (tget L 4)), (15, a1.1), (16, a2), (17, (.int .i64 0))], a1.2⟩) : Rg F 134 [0, 3, 4, 15, 16, 17] c134r2 L m Q := Tx_told (by kernel_rfl) h
theorem t134r3 (h : Obt (cbin Try.prog .lss 3 (.tmp 17) (.tmp 16) (tget L 17) (tget L 16)) fun a0 => Q .normal ⟨[(0, (tget L 0)), (3, (tget L 3)), (4, (tget L 4)), (15, (tget L 15)), (16, (tget L 16)), (17, (tget L 17)), (18, a0)], m⟩) : Rg F 134 [0, 3, 4, 15, 16, 17, 18] c134r3 L m Q := Tx_told (by kernel_rfl) h
theorem t134r4 (h : Obt (idxS 1 (tget L 15) (tget L 17)) fun a0 => Obt (ld1 m a0) fun a1 => Q .normal ⟨[(0, (tget L 0)), (3, (tget L 3)), (4, (tget L 4)), (7, a1), (15, (tget L 15)), (16, (tget L 16)), (17, (tget L 17))], m⟩) : Rg F 134 [0, 3, 4, 7, 15, 16, 17] c134r4 L m Q := Tx_told (by kernel_rfl) h
theorem t134r5 (h : Obt (ld1 m (tget L 3)) fun a0 => Obt (invokeC An F 134 (some 23) a0 [(tget L 7)] m) fun a1 => Q .normal ⟨[(0, (tget L 0)), (3, (tget L 3)), (4, (tget L 4)), (15, (tget L 15)), (16, (tget L 16)), (17, (tget L 17))], a1.2⟩) : Rg F 134 [0, 3, 4, 15, 16, 17] c134r5 L m Q := Tx_told (by kernel_rfl) h
theorem t134r6 (h : Obt (cbin Try.prog .add 3 (.tmp 17) (.const (.int .i64 1)) (tget L 17) (.int .i64 1)) fun a0 => Q .normal ⟨[(0, (tget L 0)), (3, (tget L 3)), (4, (tget L 4)), (15, (tget L 15)), (16, (tget L 16)), (17, a0)], m⟩) : Rg F 134 [0, 3, 4, 15, 16, 17] c134r6 L m Q := Tx_told (by kernel_rfl) h
theorem t134r7 (h : Obt (ld1 m (tget L 4)) fun a0 => Obt (bslX false 432 1 1 [.int .i64 0] [(0, 1, (tget L 0))] m) fun a1 => Obt (appX true 448 1 8 a0 a1.1 a1.2) fun a2 => Obt (stX 1 a2.2 (tget L 4) a2.1) fun a3 => Q .normal ⟨[], a3⟩) : Rg F 134 [] c134r7 L m Q := Tx_told (by kernel_rfl) h
def c136r0 := rg 136 Try.f136 0
def c136r1 := rg 136 Try.f136 1
def c136r3 := rg 136 Try.f136 3
def c136r2 := rg 136 Try.f136 2
def c136l0 : SC :=
  (.seq (.seq (.reg false (some [0, 2, 3, 9]) c136r1) (.cond (.tmp 9) .nop (.exit 0))) (.seq (.block 1 (.reg true (some [0, 2, 3]) c136r3)) (.reg false (some [0, 2, 3]) c136r2)))
def c136 : SC :=
  (.seq (.reg false (some [0, 2, 3]) c136r0) (.block 0 (.loop c136l0)))
theorem s136 : Try.f136.body.bind (strip Try.prog An 136 Try.f136.ntmps) = some c136 := by kernel_rfl
theorem g136 : An.glob 136 = [] := rfl
theorem r136 : Try.f136.results.toList = [] := by kernel_rfl
theorem t136r0 (h : Obt (lenS (tget L 0)) fun a0 => Obt (cbin Try.prog .sub 3 (.tmp 5) (.const (.int .i64 1)) a0 (.int .i64 1)) fun a1 => Q .normal ⟨[(0, (tget L 0)), (2, (.int .i64 0)), (3, a1)], m⟩) : Rg F 136 [0, 2, 3] c136r0 L m Q := Tx_told (by kernel_rfl) h
theorem t136r1 (h : Obt (cbin Try.prog .lss 3 (.tmp 7) (.tmp 8) (tget L 2) (tget L 3)) fun a0 => Q .normal ⟨[(0, (tget L 0)), (2, (tget L 2)), (3, (tget L 3)), (9, a0)], m⟩) : Rg F 136 [0, 2, 3, 9] c136r1 L m Q := Tx_told (by kernel_rfl) h
theorem t136r3 (h : Obt (idxS 1 (tget L 0) (tget L 3)) fun a0 => Obt (ld1 m a0) fun a1 => Obt (idxS 1 (tget L 0) (tget L 2)) fun a2 => Obt (ld1 m a2) fun a3 => Obt (idxS 1 (tget L 0) (tget L 2)) fun a4 => Obt (stX 1 m a4 a1) fun a5 => Obt (idxS 1 (tget L 0) (tget L 3)) fun a6 => Obt (stX 1 a5 a6 a3) fun a7 => Q .normal ⟨[(0, (tget L 0)), (2, (tget L 2)), (3, (tget L 3))], a7⟩) : Rt F 136 [0, 2, 3] c136r3 L m Q := Tx_told (by kernel_rfl) h
theorem t136r2 (h : Obt (cbin Try.prog .add 3 (.tmp 10) (.const (.int .i64 1)) (tget L 2) (.int .i64 1)) fun a0 => Obt (cbin Try.prog .sub 3 (.tmp 12) (.const (.int .i64 1)) (tget L 3) (.int .i64 1)) fun a1 => Q .normal ⟨[(0, (tget L 0)), (2, a0), (3, a1)], m⟩) : Rg F 136 [0, 2, 3] c136r2 L m Q := Tx_told (by kernel_rfl) h
def c112r0 := rg 112 Try.f112 0
def c112r1 := rg 112 Try.f112 1
def c112r2 := rg 112 Try.f112 2
def c112r3 := rg 112 Try.f112 3
def c112r4 := rg 112 Try.f112 4
def c112r5 := rg 112 Try.f112 5
def c112r6 := rg 112 Try.f112 6
def c112r7 := rg 112 Try.f112 7
def c112r8 := rg 112 Try.f112 8
def c112r9 := rg 112 Try.f112 9
def c112 : SC :=
  (.seq (.reg false (some [1]) c112r0) (.seq (.seq (.reg false (some [1, 8]) c112r1) (.cond (.tmp 8) (.seq (.reg false (some [2]) c112r2) .ret) .nop)) (.seq (.reg false (some [1, 3]) c112r3) (.seq (.reg false (some [1, 3, 4]) c112r4) (.seq (.reg false (some [1, 3, 4, 5]) c112r5) (.seq (.reg false (some [4, 5]) c112r6) (.seq (.reg false (some [4]) c112r7) (.seq (.reg false (some [4]) c112r8) (.seq (.reg false (some [2]) c112r9) .ret)))))))))
theorem s112 : Try.f112.body.bind (strip Try.prog An 112 Try.f112.ntmps) = some c112 := by kernel_rfl
theorem g112 : An.glob 112 = [1, 9, 3, 4, 5] := rfl
theorem r112 : Try.f112.results.toList = [(.tmp 2)] := by kernel_rfl
theorem t112r0 (h : Obt (boxG (tget L 0) m) fun a0 => Q .normal ⟨[(1, a0.1)], a0.2⟩) : Rg F 112 [1] c112r0 L m Q := Tx_told (by kernel_rfl) h
theorem t112r1 (h : Obt (ld1 m (tget L 1)) fun a0 => Obt (lenS a0) fun a1 => Obt (cbin Try.prog .eql 3 (.tmp 7) (.const (.int .i64 0)) a1 (.int .i64 0)) fun a2 => Q .normal ⟨[(1, (tget L 1)), (8, a2)], m⟩) : Rg F 112 [1, 8] c112r1 L m Q := Tx_told (by kernel_rfl) h
theorem t112r2 (h : Q .normal ⟨[(2, .nil)], m⟩) : Rg F 112 [2] c112r2 L m Q := Tx_told (by kernel_rfl) h
theorem t112r3 (h : Obt (stX 1 (gnewL (gnewM m) [.mnil]) (gnewP (gnewM m)) (gnewK m)) fun a0 => Q .normal ⟨[(1, (tget L 1)), (3, (gnewP (gnewM m)))], a0⟩) : Rg F 112 [1, 3] c112r3 L m Q := Tx_told (by kernel_rfl) h
theorem t112r4 (h : Q .normal ⟨[(1, (tget L 1)), (3, (tget L 3)), (4, (gnewP m))], (gnewL m [.nil])⟩) : Rg F 112 [1, 3, 4] c112r4 L m Q := Tx_told (by kernel_rfl) h
theorem t112r5 (h : Q .normal ⟨[(1, (tget L 1)), (3, (tget L 3)), (4, (tget L 4)), (5, (gnewP m))], (gnewL m [.nilf])⟩) : Rg F 112 [1, 3, 4, 5] c112r5 L m Q := Tx_told (by kernel_rfl) h
theorem t112r6 (h : Obt (stX 1 m (tget L 5) (.func (.func 134) [] [(tget L 3), (tget L 1), (tget L 5), (tget L 4)])) fun a0 => Q .normal ⟨[(4, (tget L 4)), (5, (tget L 5))], a0⟩) : Rg F 112 [4, 5] c112r6 L m Q := Tx_told (by kernel_rfl) h
theorem t112r7 (h : Obt (ld1 m (tget L 5)) fun a0 => Obt (invokeC An F 112 (some 12) a0 [(.int .i64 0)] m) fun a1 => Q .normal ⟨[(4, (tget L 4))], a1.2⟩) : Rg F 112 [4] c112r7 L m Q := Tx_told (by kernel_rfl) h
theorem t112r8 (h : Obt (ld1 m (tget L 4)) fun a0 => Obt (callC An F 112 (some 14) 136 [a0] m) fun a1 => Q .normal ⟨[(4, (tget L 4))], a1.2⟩) : Rg F 112 [4] c112r8 L m Q := Tx_told (by kernel_rfl) h
theorem t112r9 (h : Obt (ld1 m (tget L 4)) fun a0 => Q .normal ⟨[(2, a0)], m⟩) : Rg F 112 [2] c112r9 L m Q := Tx_told (by kernel_rfl) h
def c84r0 := rg 84 Try.f84 0
def c84r1 := rg 84 Try.f84 1
def c84r2 := rg 84 Try.f84 2
def c84r3 := rg 84 Try.f84 3
def c84r4 := rg 84 Try.f84 4
def c84r5 := rg 84 Try.f84 5
def c84r6 := rg 84 Try.f84 6
def c84l0 : SC :=
  (.seq (.reg false (some [3, 10, 11, 12, 13]) c84r3) (.seq (.cond (.tmp 13) .nop (.exit 0)) (.seq (.block 1 (.seq (.reg false (some [3, 5, 10, 11, 12]) c84r4) (.reg false (some [3, 10, 11, 12]) c84r5))) (.reg false (some [3, 10, 11, 12]) c84r6))))
def c84r7 := rg 84 Try.f84 7
def c84 : SC :=
  (.seq (.reg false (some [0]) c84r0) (.seq (.reg false (some [0, 3]) c84r1) (.seq (.seq (.reg false (some [3, 10, 11, 12]) c84r2) (.block 0 (.loop c84l0))) (.seq (.reg false (some [2]) c84r7) .ret))))
theorem s84 : Try.f84.body.bind (strip Try.prog An 84 Try.f84.ntmps) = some c84 := by kernel_rfl
theorem g84 : An.glob 84 = [] := rfl
theorem r84 : Try.f84.results.toList = [(.tmp 2)] := by kernel_rfl
theorem t84r0 (h : Q .normal ⟨[(0, (tget L 0))], m⟩) : Rg F 84 [0] c84r0 L m Q := Tx_told (by kernel_rfl) h
theorem t84r1 (h : Obt (lenS (tget L 0)) fun a0 => Obt (mkX false 128 1 1 [.bool false] a0 a0 m) fun a1 => Q .normal ⟨[(0, (tget L 0)), (3, a1.1)], a1.2⟩) : Rg F 84 [0, 3] c84r1 L m Q := Tx_told (by kernel_rfl) h
theorem t84r2 (h : Obt (callC An F 84 (some 10) 112 [(tget L 0)] m) fun a0 => Obt (lenS a0.1) fun a1 => Q .normal ⟨[(3, (tget L 3)), (10, a0.1), (11, a1), (12, (.int .i64 0))], a0.2⟩) : Rg F 84 [3, 10, 11, 12] c84r2 L m Q := Tx_told (by kernel_rfl) h
theorem t84r3 (h : Obt (cbin Try.prog .lss 3 (.tmp 12) (.tmp 11) (tget L 12) (tget L 11)) fun a0 => Q .normal ⟨[(3, (tget L 3)), (10, (tget L 10)), (11, (tget L 11)), (12, (tget L 12)), (13, a0)], m⟩) : Rg F 84 [3, 10, 11, 12, 13] c84r3 L m Q := Tx_told (by kernel_rfl) h
theorem t84r4 (h : Obt (idxS 1 (tget L 10) (tget L 12)) fun a0 => Obt (ld1 m a0) fun a1 => Q .normal ⟨[(3, (tget L 3)), (5, a1), (10, (tget L 10)), (11, (tget L 11)), (12, (tget L 12))], m⟩) : Rg F 84 [3, 5, 10, 11, 12] c84r4 L m Q := Tx_told (by kernel_rfl) h
theorem t84r5 (h : Obt (idxS 1 (tget L 3) (tget L 5)) fun a0 => Obt (stX 1 m a0 (.bool true)) fun a1 => Q .normal ⟨[(3, (tget L 3)), (10, (tget L 10)), (11, (tget L 11)), (12, (tget L 12))], a1⟩) : Rg F 84 [3, 10, 11, 12] c84r5 L m Q := Tx_told (by kernel_rfl) h
theorem t84r6 (h : Obt (cbin Try.prog .add 3 (.tmp 12) (.const (.int .i64 1)) (tget L 12) (.int .i64 1)) fun a0 => Q .normal ⟨[(3, (tget L 3)), (10, (tget L 10)), (11, (tget L 11)), (12, a0)], m⟩) : Rg F 84 [3, 10, 11, 12] c84r6 L m Q := Tx_told (by kernel_rfl) h
theorem t84r7 (h : Q .normal ⟨[(2, (tget L 3))], m⟩) : Rg F 84 [2] c84r7 L m Q := Tx_told (by kernel_rfl) h
def c113r0 := rg 113 Try.f113 0
def c113r1 := rg 113 Try.f113 1
def c113r2 := rg 113 Try.f113 2
def c113r3 := rg 113 Try.f113 3
def c113r4 := rg 113 Try.f113 4
def c113r5 := rg 113 Try.f113 5
def c113r6 := rg 113 Try.f113 6
def c113l0 : SC :=
  (.seq (.reg false (some [0, 1, 7, 8, 9]) c113r2) (.seq (.cond (.tmp 9) .nop (.exit 0)) (.seq (.block 1 (.seq (.reg false (some [0, 1, 5, 7, 8]) c113r3) (.seq (.reg false (some [0, 1, 5, 7, 8, 16]) c113r4) (.cond (.tmp 16) (.seq (.reg false (some [4]) c113r5) .ret) .nop)))) (.reg false (some [0, 1, 7, 8]) c113r6))))
def c113r7 := rg 113 Try.f113 7
def c113 : SC :=
  (.seq (.reg false (some [0, 1]) c113r0) (.seq (.seq (.reg false (some [0, 1, 7, 8]) c113r1) (.block 0 (.loop c113l0))) (.seq (.reg false (some [4]) c113r7) .ret)))
theorem s113 : Try.f113.body.bind (strip Try.prog An 113 Try.f113.ntmps) = some c113 := by kernel_rfl
theorem g113 : An.glob 113 = [] := rfl
theorem r113 : Try.f113.results.toList = [(.tmp 4)] := by kernel_rfl
theorem t113r0 (h : Q .normal ⟨[(0, (tget L 0)), (1, (tget L 1))], m⟩) : Rg F 113 [0, 1] c113r0 L m Q := Tx_told (by kernel_rfl) h
theorem t113r1 (h : Obt (lenS (tget L 0)) fun a0 => Q .normal ⟨[(0, (tget L 0)), (1, (tget L 1)), (7, a0), (8, (.int .i64 0))], m⟩) : Rg F 113 [0, 1, 7, 8] c113r1 L m Q := Tx_told (by kernel_rfl) h
theorem t113r2 (h : Obt (cbin Try.prog .lss 3 (.tmp 8) (.tmp 7) (tget L 8) (tget L 7)) fun a0 => Q .normal ⟨[(0, (tget L 0)), (1, (tget L 1)), (7, (tget L 7)), (8, (tget L 8)), (9, a0)], m⟩) : Rg F 113 [0, 1, 7, 8, 9] c113r2 L m Q := Tx_told (by kernel_rfl) h
theorem t113r3 (h : Q .normal ⟨[(0, (tget L 0)), (1, (tget L 1)), (5, (tget L 8)), (7, (tget L 7)), (8, (tget L 8))], m⟩) : Rg F 113 [0, 1, 5, 7, 8] c113r3 L m Q := Tx_told (by kernel_rfl) h
theorem t113r4 (h : Obt (idxS 1 (tget L 0) (tget L 5)) fun a0 => Obt (ld1 m a0) fun a1 => Obt (cbin Try.prog .eql 3 (.tmp 11) (.tmp 15) (tget L 1) a1) fun a2 => Q .normal ⟨[(0, (tget L 0)), (1, (tget L 1)), (5, (tget L 5)), (7, (tget L 7)), (8, (tget L 8)), (16, a2)], m⟩) : Rg F 113 [0, 1, 5, 7, 8, 16] c113r4 L m Q := Tx_told (by kernel_rfl) h
theorem t113r5 (h : Q .normal ⟨[(4, (tget L 5))], m⟩) : Rg F 113 [4] c113r5 L m Q := Tx_told (by kernel_rfl) h
theorem t113r6 (h : Obt (cbin Try.prog .add 3 (.tmp 8) (.const (.int .i64 1)) (tget L 8) (.int .i64 1)) fun a0 => Q .normal ⟨[(0, (tget L 0)), (1, (tget L 1)), (7, (tget L 7)), (8, a0)], m⟩) : Rg F 113 [0, 1, 7, 8] c113r6 L m Q := Tx_told (by kernel_rfl) h
theorem t113r7 (h : Q .normal ⟨[(4, (.int .i64 (-1)))], m⟩) : Rg F 113 [4] c113r7 L m Q := Tx_told (by kernel_rfl) h
def c85r0 := rg 85 Try.f85 0
def c85r1 := rg 85 Try.f85 1
def c85 : SC :=
  (.seq (.reg false (some [0, 1]) c85r0) (.seq (.reg false (some [4]) c85r1) .ret))
theorem s85 : Try.f85.body.bind (strip Try.prog An 85 Try.f85.ntmps) = some c85 := by kernel_rfl
theorem g85 : An.glob 85 = [] := rfl
theorem r85 : Try.f85.results.toList = [(.tmp 4)] := by kernel_rfl
theorem t85r0 (h : Q .normal ⟨[(0, (tget L 0)), (1, (tget L 1))], m⟩) : Rg F 85 [0, 1] c85r0 L m Q := Tx_told (by kernel_rfl) h
theorem t85r1 (h : Obt (callC An F 85 (some 7) 113 [(tget L 0), (tget L 1)] m) fun a0 => Obt (cbin Try.prog .geq 3 (.tmp 7) (.const (.int .i64 0)) a0.1 (.int .i64 0)) fun a1 => Q .normal ⟨[(4, a1)], a0.2⟩) : Rg F 85 [4] c85r1 L m Q := Tx_told (by kernel_rfl) h
def c119r0 := rg 119 Try.f119 0
def c119r1 := rg 119 Try.f119 1
def c119r2 := rg 119 Try.f119 2
def c119r3 := rg 119 Try.f119 3
def c119r4 := rg 119 Try.f119 4
def c119r5 := rg 119 Try.f119 5
def c119r6 := rg 119 Try.f119 6
def c119r7 := rg 119 Try.f119 7
def c119r8 := rg 119 Try.f119 8
def c119r9 := rg 119 Try.f119 9
def c119r10 := rg 119 Try.f119 10
def c119l0 : SC :=
  (.seq (.reg false (some [0, 5, 7, 11, 12, 13, 19, 20, 21, 22]) c119r6) (.seq (.cond (.tmp 22) .nop (.exit 2)) (.seq (.block 3 (.seq (.reg false (some [0, 5, 7, 9, 11, 12, 13, 19, 20, 21]) c119r7) (.seq (.reg false (some [0, 5, 7, 9, 11, 12, 13, 19, 20, 21, 30]) c119r8) (.cond (.tmp 30) (.reg false (some [0, 5, 7, 11, 12, 13, 19, 20, 21]) c119r9) .nop)))) (.reg false (some [0, 5, 7, 11, 12, 13, 19, 20, 21]) c119r10))))
def c119r11 := rg 119 Try.f119 11
def c119l1 : SC :=
  (.seq (.reg false (some [0, 5, 11, 12, 13, 14]) c119r3) (.seq (.cond (.tmp 14) .nop (.exit 0)) (.seq (.block 1 (.seq (.reg false (some [0, 5, 7, 11, 12, 13]) c119r4) (.seq (.reg false (some [0, 5, 7, 11, 12, 13, 19, 20, 21]) c119r5) (.block 2 (.loop c119l0))))) (.reg false (some [0, 5, 11, 12, 13]) c119r11))))
def c119r12 := rg 119 Try.f119 12
def c119 : SC :=
  (.seq (.reg false (some [0, 1]) c119r0) (.seq (.reg false (some [0, 1, 5]) c119r1) (.seq (.seq (.reg false (some [0, 5, 11, 12, 13]) c119r2) (.block 0 (.loop c119l1))) (.seq (.reg false (some [4]) c119r12) .ret))))
theorem s119 : Try.f119.body.bind (strip Try.prog An 119 Try.f119.ntmps) = some c119 := by kernel_rfl
theorem g119 : An.glob 119 = [10, 38] := rfl
theorem r119 : Try.f119.results.toList = [(.tmp 4)] := by kernel_rfl
theorem t119r0 (h : Q .normal ⟨[(0, (tget L 0)), (1, (tget L 1))], m⟩) : Rg F 119 [0, 1] c119r0 L m Q := Tx_told (by kernel_rfl) h
theorem t119r1 (h : Q .normal ⟨[(0, (tget L 0)), (1, (tget L 1)), (5, (gnewK m))], (gnewM m)⟩) : Rg F 119 [0, 1, 5] c119r1 L m Q := Tx_told (by kernel_rfl) h
theorem t119r2 (h : Obt (lenS (tget L 1)) fun a0 => Q .normal ⟨[(0, (tget L 0)), (5, (tget L 5)), (11, (tget L 1)), (12, a0), (13, (.int .i64 0))], m⟩) : Rg F 119 [0, 5, 11, 12, 13] c119r2 L m Q := Tx_told (by kernel_rfl) h
theorem t119r3 (h : Obt (cbin Try.prog .lss 3 (.tmp 13) (.tmp 12) (tget L 13) (tget L 12)) fun a0 => Q .normal ⟨[(0, (tget L 0)), (5, (tget L 5)), (11, (tget L 11)), (12, (tget L 12)), (13, (tget L 13)), (14, a0)], m⟩) : Rg F 119 [0, 5, 11, 12, 13, 14] c119r3 L m Q := Tx_told (by kernel_rfl) h
theorem t119r4 (h : Obt (idxS 1 (tget L 11) (tget L 13)) fun a0 => Obt (ld1 m a0) fun a1 => Q .normal ⟨[(0, (tget L 0)), (5, (tget L 5)), (7, a1), (11, (tget L 11)), (12, (tget L 12)), (13, (tget L 13))], m⟩) : Rg F 119 [0, 5, 7, 11, 12, 13] c119r4 L m Q := Tx_told (by kernel_rfl) h
theorem t119r5 (h : Obt (callC An F 119 (some 19) 135 [(tget L 0), (tget L 7)] m) fun a0 => Obt (lenS a0.1) fun a1 => Q .normal ⟨[(0, (tget L 0)), (5, (tget L 5)), (7, (tget L 7)), (11, (tget L 11)), (12, (tget L 12)), (13, (tget L 13)), (19, a0.1), (20, a1), (21, (.int .i64 0))], a0.2⟩) : Rg F 119 [0, 5, 7, 11, 12, 13, 19, 20, 21] c119r5 L m Q := Tx_told (by kernel_rfl) h
theorem t119r6 (h : Obt (cbin Try.prog .lss 3 (.tmp 21) (.tmp 20) (tget L 21) (tget L 20)) fun a0 => Q .normal ⟨[(0, (tget L 0)), (5, (tget L 5)), (7, (tget L 7)), (11, (tget L 11)), (12, (tget L 12)), (13, (tget L 13)), (19, (tget L 19)), (20, (tget L 20)), (21, (tget L 21)), (22, a0)], m⟩) : Rg F 119 [0, 5, 7, 11, 12, 13, 19, 20, 21, 22] c119r6 L m Q := Tx_told (by kernel_rfl) h
theorem t119r7 (h : Obt (idxS 1 (tget L 19) (tget L 21)) fun a0 => Obt (ld1 m a0) fun a1 => Q .normal ⟨[(0, (tget L 0)), (5, (tget L 5)), (7, (tget L 7)), (9, a1), (11, (tget L 11)), (12, (tget L 12)), (13, (tget L 13)), (19, (tget L 19)), (20, (tget L 20)), (21, (tget L 21))], m⟩) : Rg F 119 [0, 5, 7, 9, 11, 12, 13, 19, 20, 21] c119r7 L m Q := Tx_told (by kernel_rfl) h
theorem t119r8 (h : Obt (lookX Try.prog 3 (.nil) (tget L 5) (tget L 9) false m) fun a0 => Obt (callC An F 119 (some 29) 85 [a0, (tget L 7)] m) fun a1 => Obt (cun .not a1.1) fun a2 => Q .normal ⟨[(0, (tget L 0)), (5, (tget L 5)), (7, (tget L 7)), (9, (tget L 9)), (11, (tget L 11)), (12, (tget L 12)), (13, (tget L 13)), (19, (tget L 19)), (20, (tget L 20)), (21, (tget L 21)), (30, a2)], a1.2⟩) : Rg F 119 [0, 5, 7, 9, 11, 12, 13, 19, 20, 21, 30] c119r8 L m Q := Tx_told (by kernel_rfl) h
theorem t119r9 (h : Obt (lookX Try.prog 3 (.nil) (tget L 5) (tget L 9) false m) fun a0 => Obt (bslX false 592 1 1 [.int .i64 0] [(0, 1, (tget L 7))] m) fun a1 => Obt (appX true 608 1 8 a0 a1.1 a1.2) fun a2 => Obt (mupX Try.prog 3 (tget L 5) (tget L 9) a2.1 a2.2) fun a3 => Q .normal ⟨[(0, (tget L 0)), (5, (tget L 5)), (7, (tget L 7)), (11, (tget L 11)), (12, (tget L 12)), (13, (tget L 13)), (19, (tget L 19)), (20, (tget L 20)), (21, (tget L 21))], a3⟩) : Rg F 119 [0, 5, 7, 11, 12, 13, 19, 20, 21] c119r9 L m Q := Tx_told (by kernel_rfl) h
theorem t119r10 (h : Obt (cbin Try.prog .add 3 (.tmp 21) (.const (.int .i64 1)) (tget L 21) (.int .i64 1)) fun a0 => Q .normal ⟨[(0, (tget L 0)), (5, (tget L 5)), (7, (tget L 7)), (11, (tget L 11)), (12, (tget L 12)), (13, (tget L 13)), (19, (tget L 19)), (20, (tget L 20)), (21, a0)], m⟩) : Rg F 119 [0, 5, 7, 11, 12, 13, 19, 20, 21] c119r10 L m Q := Tx_told (by kernel_rfl) h
theorem t119r11 (h : Obt (cbin Try.prog .add 3 (.tmp 13) (.const (.int .i64 1)) (tget L 13) (.int .i64 1)) fun a0 => Q .normal ⟨[(0, (tget L 0)), (5, (tget L 5)), (11, (tget L 11)), (12, (tget L 12)), (13, a0)], m⟩) : Rg F 119 [0, 5, 11, 12, 13] c119r11 L m Q := Tx_told (by kernel_rfl) h
theorem t119r12 (h : Q .normal ⟨[(4, (tget L 5))], m⟩) : Rg F 119 [4] c119r12 L m Q := Tx_told (by kernel_rfl) h
def c120r0 := rg 120 Try.f120 0
def c120r1 := rg 120 Try.f120 1
def c120r2 := rg 120 Try.f120 2
def c120r3 := rg 120 Try.f120 3
def c120l0 : SC :=
  (.seq (.seq (.reg false (some [0, 1, 2, 3, 16]) c120r2) (.cond (.tmp 16) .nop (.exit 2))) (.block 3 (.reg false (some [0, 1, 2, 3]) c120r3)))
def c120r4 := rg 120 Try.f120 4
def c120r5 := rg 120 Try.f120 5
def c120l1 : SC :=
  (.seq (.seq (.reg false (some [0, 1, 2, 3, 27]) c120r4) (.cond (.tmp 27) .nop (.exit 4))) (.block 5 (.reg false (some [0, 1, 2, 3]) c120r5)))
def c120l2 : SC :=
  (.seq (.seq (.reg false (some [0, 1, 2, 3, 9]) c120r1) (.cond (.tmp 9) .nop (.exit 0))) (.block 1 (.seq (.block 2 (.loop c120l0)) (.block 4 (.loop c120l1)))))
def c120r6 := rg 120 Try.f120 6
def c120 : SC :=
  (.seq (.reg false (some [0, 1, 2, 3]) c120r0) (.seq (.block 0 (.loop c120l2)) (.seq (.reg false (some [6]) c120r6) .ret)))
theorem s120 : Try.f120.body.bind (strip Try.prog An 120 Try.f120.ntmps) = some c120 := by kernel_rfl
theorem g120 : An.glob 120 = [] := rfl
theorem r120 : Try.f120.results.toList = [(.tmp 6)] := by kernel_rfl
theorem t120r0 (h : Q .normal ⟨[(0, (tget L 0)), (1, (tget L 1)), (2, (tget L 2)), (3, (tget L 3))], m⟩) : Rg F 120 [0, 1, 2, 3] c120r0 L m Q := Tx_told (by kernel_rfl) h
theorem t120r1 (h : Obt (cbin Try.prog .neq 3 (.tmp 7) (.tmp 8) (tget L 0) (tget L 1)) fun a0 => Q .normal ⟨[(0, (tget L 0)), (1, (tget L 1)), (2, (tget L 2)), (3, (tget L 3)), (9, a0)], m⟩) : Rg F 120 [0, 1, 2, 3, 9] c120r1 L m Q := Tx_told (by kernel_rfl) h
theorem t120r2 (h : Obt (ld1 m (tget L 2)) fun a0 => Obt (lookX Try.prog 3 (.int .i64 0) a0 (tget L 0) false m) fun a1 => Obt (ld1 m (tget L 2)) fun a2 => Obt (lookX Try.prog 3 (.int .i64 0) a2 (tget L 1) false m) fun a3 => Obt (cbin Try.prog .gtr 3 (.tmp 12) (.tmp 15) a1 a3) fun a4 => Q .normal ⟨[(0, (tget L 0)), (1, (tget L 1)), (2, (tget L 2)), (3, (tget L 3)), (16, a4)], m⟩) : Rg F 120 [0, 1, 2, 3, 16] c120r2 L m Q := Tx_told (by kernel_rfl) h
theorem t120r3 (h : Obt (ld1 m (tget L 3)) fun a0 => Obt (idxS 1 a0 (tget L 0)) fun a1 => Obt (ld1 m a1) fun a2 => Q .normal ⟨[(0, a2), (1, (tget L 1)), (2, (tget L 2)), (3, (tget L 3))], m⟩) : Rg F 120 [0, 1, 2, 3] c120r3 L m Q := Tx_told (by kernel_rfl) h
theorem t120r4 (h : Obt (ld1 m (tget L 2)) fun a0 => Obt (lookX Try.prog 3 (.int .i64 0) a0 (tget L 1) false m) fun a1 => Obt (ld1 m (tget L 2)) fun a2 => Obt (lookX Try.prog 3 (.int .i64 0) a2 (tget L 0) false m) fun a3 => Obt (cbin Try.prog .gtr 3 (.tmp 23) (.tmp 26) a1 a3) fun a4 => Q .normal ⟨[(0, (tget L 0)), (1, (tget L 1)), (2, (tget L 2)), (3, (tget L 3)), (27, a4)], m⟩) : Rg F 120 [0, 1, 2, 3, 27] c120r4 L m Q := Tx_told (by kernel_rfl) h
theorem t120r5 (h : Obt (ld1 m (tget L 3)) fun a0 => Obt (idxS 1 a0 (tget L 1)) fun a1 => Obt (ld1 m a1) fun a2 => Q .normal ⟨[(0, (tget L 0)), (1, a2), (2, (tget L 2)), (3, (tget L 3))], m⟩) : Rg F 120 [0, 1, 2, 3] c120r5 L m Q := Tx_told (by kernel_rfl) h
theorem t120r6 (h : Q .normal ⟨[(6, (tget L 0))], m⟩) : Rg F 120 [6] c120r6 L m Q := Tx_told (by kernel_rfl) h
def c91r0 := rg 91 Try.f91 0
def c91r1 := rg 91 Try.f91 1
def c91r2 := rg 91 Try.f91 2
def c91r3 := rg 91 Try.f91 3
def c91r4 := rg 91 Try.f91 4
def c91r5 := rg 91 Try.f91 5
def c91r6 := rg 91 Try.f91 6
def c91r7 := rg 91 Try.f91 7
def c91r8 := rg 91 Try.f91 8
def c91l0 : SC :=
  (.seq (.reg false (some [0, 3, 4, 5, 26, 27, 28]) c91r5) (.seq (.cond (.tmp 28) .nop (.exit 0)) (.seq (.block 1 (.seq (.reg false (some [0, 3, 4, 5, 6, 26, 27]) c91r6) (.reg false (some [0, 3, 4, 5, 26, 27]) c91r7))) (.reg false (some [0, 3, 4, 5, 26, 27]) c91r8))))
def c91r9 := rg 91 Try.f91 9
def c91r10 := rg 91 Try.f91 10
def c91r11 := rg 91 Try.f91 11
def c91r12 := rg 91 Try.f91 12
def c91r13 := rg 91 Try.f91 13
def c91l1 : SC :=
  (.seq (.reg false (some [0, 3, 4, 5, 34, 35, 36, 37]) c91r10) (.seq (.cond (.tmp 37) .nop (.exit 2)) (.seq (.block 3 (.seq (.reg false (some [0, 3, 4, 5, 7, 8, 34, 35, 36]) c91r11) (.reg false (some [0, 3, 4, 5, 34, 35, 36]) c91r12))) (.reg false (some [0, 3, 4, 5, 34, 35, 36]) c91r13))))
def c91r14 := rg 91 Try.f91 14
def c91r15 := rg 91 Try.f91 15
def c91r16 := rg 91 Try.f91 16
def c91r17 := rg 91 Try.f91 17
def c91r18 := rg 91 Try.f91 18
def c91r19 := rg 91 Try.f91 19
def c91r20 := rg 91 Try.f91 20
def c91r21 := rg 91 Try.f91 21
def c91r22 := rg 91 Try.f91 22
def c91r23 := rg 91 Try.f91 23
def c91r24 := rg 91 Try.f91 24
def c91r25 := rg 91 Try.f91 25
def c91r26 := rg 91 Try.f91 26
def c91r27 := rg 91 Try.f91 27
def c91r28 := rg 91 Try.f91 28
def c91r29 := rg 91 Try.f91 29
def c91r30 := rg 91 Try.f91 30
def c91r31 := rg 91 Try.f91 31
def c91l2 : SC :=
  (.seq (.reg false (some [3, 5, 9, 10, 11, 13, 14, 50, 51, 52, 61, 62, 63, 64]) c91r25) (.seq (.cond (.tmp 64) .nop (.exit 8)) (.seq (.block 9 (.seq (.reg false (some [3, 5, 9, 10, 11, 13, 14, 16, 50, 51, 52, 61, 62, 63]) c91r26) (.seq (.seq (.reg false (some [3, 5, 9, 10, 11, 13, 14, 16, 50, 51, 52, 61, 62, 63, 78]) c91r27) (.cond (.tmp 78) (.exit 9) .nop)) (.seq (.reg false (some [3, 5, 9, 10, 11, 13, 14, 16, 50, 51, 52, 61, 62, 63, 80]) c91r28) (.cond (.tmp 80) (.reg false (some [3, 5, 9, 10, 11, 13, 14, 50, 51, 52, 61, 62, 63]) c91r29) (.reg false (some [3, 5, 9, 10, 11, 13, 14, 50, 51, 52, 61, 62, 63]) c91r30)))))) (.reg false (some [3, 5, 9, 10, 11, 13, 14, 50, 51, 52, 61, 62, 63]) c91r31))))
def c91r32 := rg 91 Try.f91 32
def c91r33 := rg 91 Try.f91 33
def c91r34 := rg 91 Try.f91 34
def c91l3 : SC :=
  (.seq (.reg false (some [3, 5, 9, 10, 11, 50, 51, 52, 53]) c91r20) (.seq (.cond (.tmp 53) .nop (.exit 6)) (.seq (.block 7 (.seq (.reg false (some [3, 5, 9, 10, 11, 12, 13, 50, 51, 52]) c91r21) (.seq (.seq (.reg false (some [3, 5, 9, 10, 11, 13, 50, 51, 52, 58]) c91r22) (.cond (.tmp 58) (.exit 7) .nop)) (.seq (.reg false (some [3, 5, 9, 10, 11, 13, 14, 50, 51, 52]) c91r23) (.seq (.seq (.reg false (some [3, 5, 9, 10, 11, 13, 14, 50, 51, 52, 61, 62, 63]) c91r24) (.block 8 (.loop c91l2))) (.seq (.reg false (some [3, 5, 9, 10, 11, 13, 14, 50, 51, 52]) c91r32) (.reg false (some [3, 5, 9, 10, 11, 50, 51, 52]) c91r33))))))) (.reg false (some [3, 5, 9, 10, 11, 50, 51, 52]) c91r34))))
def c91l4 : SC :=
  (.seq (.seq (.reg false (some [3, 5, 9, 10, 49]) c91r17) (.cond (.tmp 49) .nop (.exit 4))) (.block 5 (.seq (.reg false (some [3, 5, 9, 10, 11]) c91r18) (.seq (.reg false (some [3, 5, 9, 10, 11, 50, 51, 52]) c91r19) (.block 6 (.loop c91l3))))))
def c91r35 := rg 91 Try.f91 35
def c91 : SC :=
  (.seq (.reg false (some [0]) c91r0) (.seq (.reg false (some [0, 3]) c91r1) (.seq (.reg false (some [0, 3, 4]) c91r2) (.seq (.reg false (some [0, 3, 4, 5]) c91r3) (.seq (.seq (.reg false (some [0, 3, 4, 5, 26, 27]) c91r4) (.block 0 (.loop c91l0))) (.seq (.seq (.reg false (some [0, 3, 4, 5, 34, 35, 36]) c91r9) (.block 2 (.loop c91l1))) (.seq (.reg false (some [3, 4, 5, 9]) c91r14) (.seq (.reg false (some [3, 5, 9, 10]) c91r15) (.seq (.seq (.reg false (some [3, 5, 9, 10, 11]) c91r16) (.block 4 (.loop c91l4))) (.seq (.reg false (some [2]) c91r35) .ret))))))))))
theorem s91 : Try.f91.body.bind (strip Try.prog An 91 Try.f91.ntmps) = some c91 := by kernel_rfl
theorem g91 : An.glob 91 = [21, 4, 24, 5] := rfl
theorem r91 : Try.f91.results.toList = [(.tmp 2)] := by kernel_rfl
theorem t91r0 (h : Q .normal ⟨[(0, (tget L 0))], m⟩) : Rg F 91 [0] c91r0 L m Q := Tx_told (by kernel_rfl) h
theorem t91r1 (h : Obt (callC An F 91 (some 18) 112 [(tget L 0)] m) fun a0 => Q .normal ⟨[(0, (tget L 0)), (3, a0.1)], a0.2⟩) : Rg F 91 [0, 3] c91r1 L m Q := Tx_told (by kernel_rfl) h
theorem t91r2 (h : Obt (lenS (tget L 3)) fun a0 => Obt (mmX true 336 a0 m) fun a1 => Obt (stX 1 (gnewL a1.2 [.mnil]) (gnewP a1.2) a1.1) fun a2 => Q .normal ⟨[(0, (tget L 0)), (3, (tget L 3)), (4, (gnewP a1.2))], a2⟩) : Rg F 91 [0, 3, 4] c91r2 L m Q := Tx_told (by kernel_rfl) h
theorem t91r3 (h : Obt (lenS (tget L 0)) fun a0 => Obt (mkX true 384 1 8 [.int .i64 0] a0 a0 m) fun a1 => Obt (stX 1 (gnewL a1.2 [.nil]) (gnewP a1.2) a1.1) fun a2 => Q .normal ⟨[(0, (tget L 0)), (3, (tget L 3)), (4, (tget L 4)), (5, (gnewP a1.2))], a2⟩) : Rg F 91 [0, 3, 4, 5] c91r3 L m Q := Tx_told (by kernel_rfl) h
theorem t91r4 (h : Obt (ld1 m (tget L 5)) fun a0 => Obt (lenS a0) fun a1 => Q .normal ⟨[(0, (tget L 0)), (3, (tget L 3)), (4, (tget L 4)), (5, (tget L 5)), (26, a1), (27, (.int .i64 0))], m⟩) : Rg F 91 [0, 3, 4, 5, 26, 27] c91r4 L m Q := Tx_told (by kernel_rfl) h
theorem t91r5 (h : Obt (cbin Try.prog .lss 3 (.tmp 27) (.tmp 26) (tget L 27) (tget L 26)) fun a0 => Q .normal ⟨[(0, (tget L 0)), (3, (tget L 3)), (4, (tget L 4)), (5, (tget L 5)), (26, (tget L 26)), (27, (tget L 27)), (28, a0)], m⟩) : Rg F 91 [0, 3, 4, 5, 26, 27, 28] c91r5 L m Q := Tx_told (by kernel_rfl) h
theorem t91r6 (h : Q .normal ⟨[(0, (tget L 0)), (3, (tget L 3)), (4, (tget L 4)), (5, (tget L 5)), (6, (tget L 27)), (26, (tget L 26)), (27, (tget L 27))], m⟩) : Rg F 91 [0, 3, 4, 5, 6, 26, 27] c91r6 L m Q := Tx_told (by kernel_rfl) h
theorem t91r7 (h : Obt (ld1 m (tget L 5)) fun a0 => Obt (idxS 1 a0 (tget L 6)) fun a1 => Obt (stX 1 m a1 (.int .i64 (-1))) fun a2 => Q .normal ⟨[(0, (tget L 0)), (3, (tget L 3)), (4, (tget L 4)), (5, (tget L 5)), (26, (tget L 26)), (27, (tget L 27))], a2⟩) : Rg F 91 [0, 3, 4, 5, 26, 27] c91r7 L m Q := Tx_told (by kernel_rfl) h
theorem t91r8 (h : Obt (cbin Try.prog .add 3 (.tmp 27) (.const (.int .i64 1)) (tget L 27) (.int .i64 1)) fun a0 => Q .normal ⟨[(0, (tget L 0)), (3, (tget L 3)), (4, (tget L 4)), (5, (tget L 5)), (26, (tget L 26)), (27, a0)], m⟩) : Rg F 91 [0, 3, 4, 5, 26, 27] c91r8 L m Q := Tx_told (by kernel_rfl) h
theorem t91r9 (h : Obt (lenS (tget L 3)) fun a0 => Q .normal ⟨[(0, (tget L 0)), (3, (tget L 3)), (4, (tget L 4)), (5, (tget L 5)), (34, (tget L 3)), (35, a0), (36, (.int .i64 0))], m⟩) : Rg F 91 [0, 3, 4, 5, 34, 35, 36] c91r9 L m Q := Tx_told (by kernel_rfl) h
theorem t91r10 (h : Obt (cbin Try.prog .lss 3 (.tmp 36) (.tmp 35) (tget L 36) (tget L 35)) fun a0 => Q .normal ⟨[(0, (tget L 0)), (3, (tget L 3)), (4, (tget L 4)), (5, (tget L 5)), (34, (tget L 34)), (35, (tget L 35)), (36, (tget L 36)), (37, a0)], m⟩) : Rg F 91 [0, 3, 4, 5, 34, 35, 36, 37] c91r10 L m Q := Tx_told (by kernel_rfl) h
theorem t91r11 (h : Obt (idxS 1 (tget L 34) (tget L 36)) fun a0 => Obt (ld1 m a0) fun a1 => Q .normal ⟨[(0, (tget L 0)), (3, (tget L 3)), (4, (tget L 4)), (5, (tget L 5)), (7, (tget L 36)), (8, a1), (34, (tget L 34)), (35, (tget L 35)), (36, (tget L 36))], m⟩) : Rg F 91 [0, 3, 4, 5, 7, 8, 34, 35, 36] c91r11 L m Q := Tx_told (by kernel_rfl) h
theorem t91r12 (h : Obt (ld1 m (tget L 4)) fun a0 => Obt (mupX Try.prog 3 a0 (tget L 8) (tget L 7) m) fun a1 => Q .normal ⟨[(0, (tget L 0)), (3, (tget L 3)), (4, (tget L 4)), (5, (tget L 5)), (34, (tget L 34)), (35, (tget L 35)), (36, (tget L 36))], a1⟩) : Rg F 91 [0, 3, 4, 5, 34, 35, 36] c91r12 L m Q := Tx_told (by kernel_rfl) h
theorem t91r13 (h : Obt (cbin Try.prog .add 3 (.tmp 36) (.const (.int .i64 1)) (tget L 36) (.int .i64 1)) fun a0 => Q .normal ⟨[(0, (tget L 0)), (3, (tget L 3)), (4, (tget L 4)), (5, (tget L 5)), (34, (tget L 34)), (35, (tget L 35)), (36, a0)], m⟩) : Rg F 91 [0, 3, 4, 5, 34, 35, 36] c91r13 L m Q := Tx_told (by kernel_rfl) h
theorem t91r14 (h : Obt (callC An F 91 (some 47) 119 [(tget L 0), (tget L 3)] m) fun a0 => Q .normal ⟨[(3, (tget L 3)), (4, (tget L 4)), (5, (tget L 5)), (9, a0.1)], a0.2⟩) : Rg F 91 [3, 4, 5, 9] c91r14 L m Q := Tx_told (by kernel_rfl) h
theorem t91r15 (h : Q .normal ⟨[(3, (tget L 3)), (5, (tget L 5)), (9, (tget L 9)), (10, (.func (.func 120) [] [(tget L 4), (tget L 5)]))], m⟩) : Rg F 91 [3, 5, 9, 10] c91r15 L m Q := Tx_told (by kernel_rfl) h
theorem t91r16 (h : Q .normal ⟨[(3, (tget L 3)), (5, (tget L 5)), (9, (tget L 9)), (10, (tget L 10)), (11, (.bool true))], m⟩) : Rg F 91 [3, 5, 9, 10, 11] c91r16 L m Q := Tx_told (by kernel_rfl) h
theorem t91r17 (h : Q .normal ⟨[(3, (tget L 3)), (5, (tget L 5)), (9, (tget L 9)), (10, (tget L 10)), (49, (tget L 11))], m⟩) : Rg F 91 [3, 5, 9, 10, 49] c91r17 L m Q := Tx_told (by kernel_rfl) h
theorem t91r18 (h : Q .normal ⟨[(3, (tget L 3)), (5, (tget L 5)), (9, (tget L 9)), (10, (tget L 10)), (11, (.bool false))], m⟩) : Rg F 91 [3, 5, 9, 10, 11] c91r18 L m Q := Tx_told (by kernel_rfl) h
theorem t91r19 (h : Obt (lenS (tget L 3)) fun a0 => Q .normal ⟨[(3, (tget L 3)), (5, (tget L 5)), (9, (tget L 9)), (10, (tget L 10)), (11, (tget L 11)), (50, (tget L 3)), (51, a0), (52, (.int .i64 0))], m⟩) : Rg F 91 [3, 5, 9, 10, 11, 50, 51, 52] c91r19 L m Q := Tx_told (by kernel_rfl) h
theorem t91r20 (h : Obt (cbin Try.prog .lss 3 (.tmp 52) (.tmp 51) (tget L 52) (tget L 51)) fun a0 => Q .normal ⟨[(3, (tget L 3)), (5, (tget L 5)), (9, (tget L 9)), (10, (tget L 10)), (11, (tget L 11)), (50, (tget L 50)), (51, (tget L 51)), (52, (tget L 52)), (53, a0)], m⟩) : Rg F 91 [3, 5, 9, 10, 11, 50, 51, 52, 53] c91r20 L m Q := Tx_told (by kernel_rfl) h
theorem t91r21 (h : Obt (idxS 1 (tget L 50) (tget L 52)) fun a0 => Obt (ld1 m a0) fun a1 => Q .normal ⟨[(3, (tget L 3)), (5, (tget L 5)), (9, (tget L 9)), (10, (tget L 10)), (11, (tget L 11)), (12, (tget L 52)), (13, a1), (50, (tget L 50)), (51, (tget L 51)), (52, (tget L 52))], m⟩) : Rg F 91 [3, 5, 9, 10, 11, 12, 13, 50, 51, 52] c91r21 L m Q := Tx_told (by kernel_rfl) h
theorem t91r22 (h : Obt (cbin Try.prog .eql 3 (.tmp 57) (.const (.int .i64 0)) (tget L 12) (.int .i64 0)) fun a0 => Q .normal ⟨[(3, (tget L 3)), (5, (tget L 5)), (9, (tget L 9)), (10, (tget L 10)), (11, (tget L 11)), (13, (tget L 13)), (50, (tget L 50)), (51, (tget L 51)), (52, (tget L 52)), (58, a0)], m⟩) : Rg F 91 [3, 5, 9, 10, 11, 13, 50, 51, 52, 58] c91r22 L m Q := Tx_told (by kernel_rfl) h
theorem t91r23 (h : Q .normal ⟨[(3, (tget L 3)), (5, (tget L 5)), (9, (tget L 9)), (10, (tget L 10)), (11, (tget L 11)), (13, (tget L 13)), (14, (.int .i64 (-1))), (50, (tget L 50)), (51, (tget L 51)), (52, (tget L 52))], m⟩) : Rg F 91 [3, 5, 9, 10, 11, 13, 14, 50, 51, 52] c91r23 L m Q := Tx_told (by kernel_rfl) h
theorem t91r24 (h : Obt (lookX Try.prog 3 (.nil) (tget L 9) (tget L 13) false m) fun a0 => Obt (lenS a0) fun a1 => Q .normal ⟨[(3, (tget L 3)), (5, (tget L 5)), (9, (tget L 9)), (10, (tget L 10)), (11, (tget L 11)), (13, (tget L 13)), (14, (tget L 14)), (50, (tget L 50)), (51, (tget L 51)), (52, (tget L 52)), (61, a0), (62, a1), (63, (.int .i64 0))], m⟩) : Rg F 91 [3, 5, 9, 10, 11, 13, 14, 50, 51, 52, 61, 62, 63] c91r24 L m Q := Tx_told (by kernel_rfl) h
theorem t91r25 (h : Obt (cbin Try.prog .lss 3 (.tmp 63) (.tmp 62) (tget L 63) (tget L 62)) fun a0 => Q .normal ⟨[(3, (tget L 3)), (5, (tget L 5)), (9, (tget L 9)), (10, (tget L 10)), (11, (tget L 11)), (13, (tget L 13)), (14, (tget L 14)), (50, (tget L 50)), (51, (tget L 51)), (52, (tget L 52)), (61, (tget L 61)), (62, (tget L 62)), (63, (tget L 63)), (64, a0)], m⟩) : Rg F 91 [3, 5, 9, 10, 11, 13, 14, 50, 51, 52, 61, 62, 63, 64] c91r25 L m Q := Tx_told (by kernel_rfl) h
theorem t91r26 (h : Obt (idxS 1 (tget L 61) (tget L 63)) fun a0 => Obt (ld1 m a0) fun a1 => Q .normal ⟨[(3, (tget L 3)), (5, (tget L 5)), (9, (tget L 9)), (10, (tget L 10)), (11, (tget L 11)), (13, (tget L 13)), (14, (tget L 14)), (16, a1), (50, (tget L 50)), (51, (tget L 51)), (52, (tget L 52)), (61, (tget L 61)), (62, (tget L 62)), (63, (tget L 63))], m⟩) : Rg F 91 [3, 5, 9, 10, 11, 13, 14, 16, 50, 51, 52, 61, 62, 63] c91r26 L m Q := Tx_told (by kernel_rfl) h
theorem t91r27 (h : Obt (idxS 1 (tget L 3) (.int .i64 0)) fun a0 => Obt (ld1 m a0) fun a1 => Obt (cbin Try.prog .neq 3 (.tmp 67) (.tmp 70) (tget L 16) a1) fun a2 => Obt (gdO a2 true ((ld1 m (tget L 5)).map fun v => (v, m)) (.tuple [], m)) fun a3 => Obt (gdO a2 true (some ((tget L 16), a3.2)) (.tuple [], a3.2)) fun a4 => Obt (gdO a2 true ((idxS 1 a3.1 a4.1).map fun v => (v, a4.2)) (.tuple [], a4.2)) fun a5 => Obt (gdO a2 true ((ld1 a5.2 a5.1).map fun v => (v, a5.2)) (.tuple [], a5.2)) fun a6 => Obt (gdO a2 true ((cbin Try.prog .lss 3 (.tmp 76) (.const (.int .i64 0)) a6.1 (.int .i64 0)).map fun v => (v, a6.2)) (.tuple [], a6.2)) fun a7 => Obt (pickX a2 a7.1 (.bool false)) fun a8 => Q .normal ⟨[(3, (tget L 3)), (5, (tget L 5)), (9, (tget L 9)), (10, (tget L 10)), (11, (tget L 11)), (13, (tget L 13)), (14, (tget L 14)), (16, (tget L 16)), (50, (tget L 50)), (51, (tget L 51)), (52, (tget L 52)), (61, (tget L 61)), (62, (tget L 62)), (63, (tget L 63)), (78, a8)], a7.2⟩) : Rg F 91 [3, 5, 9, 10, 11, 13, 14, 16, 50, 51, 52, 61, 62, 63, 78] c91r27 L m Q := Tx_told (by kernel_rfl) h
theorem t91r28 (h : Obt (cbin Try.prog .lss 3 (.tmp 79) (.const (.int .i64 0)) (tget L 14) (.int .i64 0)) fun a0 => Q .normal ⟨[(3, (tget L 3)), (5, (tget L 5)), (9, (tget L 9)), (10, (tget L 10)), (11, (tget L 11)), (13, (tget L 13)), (14, (tget L 14)), (16, (tget L 16)), (50, (tget L 50)), (51, (tget L 51)), (52, (tget L 52)), (61, (tget L 61)), (62, (tget L 62)), (63, (tget L 63)), (80, a0)], m⟩) : Rg F 91 [3, 5, 9, 10, 11, 13, 14, 16, 50, 51, 52, 61, 62, 63, 80] c91r28 L m Q := Tx_told (by kernel_rfl) h
theorem t91r29 (h : Q .normal ⟨[(3, (tget L 3)), (5, (tget L 5)), (9, (tget L 9)), (10, (tget L 10)), (11, (tget L 11)), (13, (tget L 13)), (14, (tget L 16)), (50, (tget L 50)), (51, (tget L 51)), (52, (tget L 52)), (61, (tget L 61)), (62, (tget L 62)), (63, (tget L 63))], m⟩) : Rg F 91 [3, 5, 9, 10, 11, 13, 14, 50, 51, 52, 61, 62, 63] c91r29 L m Q := Tx_told (by kernel_rfl) h
theorem t91r30 (h : Obt (invokeC An F 91 (some 85) (tget L 10) [(tget L 14), (tget L 16)] m) fun a0 => Q .normal ⟨[(3, (tget L 3)), (5, (tget L 5)), (9, (tget L 9)), (10, (tget L 10)), (11, (tget L 11)), (13, (tget L 13)), (14, a0.1), (50, (tget L 50)), (51, (tget L 51)), (52, (tget L 52)), (61, (tget L 61)), (62, (tget L 62)), (63, (tget L 63))], a0.2⟩) : Rg F 91 [3, 5, 9, 10, 11, 13, 14, 50, 51, 52, 61, 62, 63] c91r30 L m Q := Tx_told (by kernel_rfl) h
theorem t91r31 (h : Obt (cbin Try.prog .add 3 (.tmp 63) (.const (.int .i64 1)) (tget L 63) (.int .i64 1)) fun a0 => Q .normal ⟨[(3, (tget L 3)), (5, (tget L 5)), (9, (tget L 9)), (10, (tget L 10)), (11, (tget L 11)), (13, (tget L 13)), (14, (tget L 14)), (50, (tget L 50)), (51, (tget L 51)), (52, (tget L 52)), (61, (tget L 61)), (62, (tget L 62)), (63, a0)], m⟩) : Rg F 91 [3, 5, 9, 10, 11, 13, 14, 50, 51, 52, 61, 62, 63] c91r31 L m Q := Tx_told (by kernel_rfl) h
theorem t91r32 (h : Obt (gdO (tget L 11) false (some ((tget L 14), m)) (.tuple [], m)) fun a0 => Obt (gdO (tget L 11) false ((ld1 a0.2 (tget L 5)).map fun v => (v, a0.2)) (.tuple [], a0.2)) fun a1 => Obt (gdO (tget L 11) false (some ((tget L 13), a1.2)) (.tuple [], a1.2)) fun a2 => Obt (gdO (tget L 11) false ((idxS 1 a1.1 a2.1).map fun v => (v, a2.2)) (.tuple [], a2.2)) fun a3 => Obt (gdO (tget L 11) false ((ld1 a3.2 a3.1).map fun v => (v, a3.2)) (.tuple [], a3.2)) fun a4 => Obt (gdO (tget L 11) false ((cbin Try.prog .neq 3 (.tmp 89) (.tmp 93) a0.1 a4.1).map fun v => (v, a4.2)) (.tuple [], a4.2)) fun a5 => Obt (pickX (tget L 11) (.bool true) a5.1) fun a6 => Q .normal ⟨[(3, (tget L 3)), (5, (tget L 5)), (9, (tget L 9)), (10, (tget L 10)), (11, a6), (13, (tget L 13)), (14, (tget L 14)), (50, (tget L 50)), (51, (tget L 51)), (52, (tget L 52))], a5.2⟩) : Rg F 91 [3, 5, 9, 10, 11, 13, 14, 50, 51, 52] c91r32 L m Q := Tx_told (by kernel_rfl) h
theorem t91r33 (h : Obt (ld1 m (tget L 5)) fun a0 => Obt (idxS 1 a0 (tget L 13)) fun a1 => Obt (stX 1 m a1 (tget L 14)) fun a2 => Q .normal ⟨[(3, (tget L 3)), (5, (tget L 5)), (9, (tget L 9)), (10, (tget L 10)), (11, (tget L 11)), (50, (tget L 50)), (51, (tget L 51)), (52, (tget L 52))], a2⟩) : Rg F 91 [3, 5, 9, 10, 11, 50, 51, 52] c91r33 L m Q := Tx_told (by kernel_rfl) h
theorem t91r34 (h : Obt (cbin Try.prog .add 3 (.tmp 52) (.const (.int .i64 1)) (tget L 52) (.int .i64 1)) fun a0 => Q .normal ⟨[(3, (tget L 3)), (5, (tget L 5)), (9, (tget L 9)), (10, (tget L 10)), (11, (tget L 11)), (50, (tget L 50)), (51, (tget L 51)), (52, a0)], m⟩) : Rg F 91 [3, 5, 9, 10, 11, 50, 51, 52] c91r34 L m Q := Tx_told (by kernel_rfl) h
theorem t91r35 (h : Obt (ld1 m (tget L 5)) fun a0 => Q .normal ⟨[(2, a0)], m⟩) : Rg F 91 [2] c91r35 L m Q := Tx_told (by kernel_rfl) h
end
end Go.Cm
