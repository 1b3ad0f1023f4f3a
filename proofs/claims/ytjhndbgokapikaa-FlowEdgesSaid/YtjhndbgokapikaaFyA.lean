import Derived.Test.YtjhndbgokapikaaCxD
import Derived.KernelRfl
import Derived.Test.YtjhndbgokapikaaProg
set_option linter.unusedSimpArgs false
set_option linter.unusedVariables false
namespace Go.Cm
open Go.Proofs
variable {F : Oracle} {L : List (Nat × CV)} {m : Mem} {Q : CE → TS → Prop}
noncomputable section
def kept : FuncId → List (Nat × List Tmp)
  | 4 => [(0, [0]), (1, [0, 3, 4]), (2, [3, 4, 5]), (3, [3, 5, 20]), (4, [2]), (5, [3, 5, 6]), (6, [3, 5, 6, 33]), (7, [3, 5, 6]), (8, [3, 5, 6, 7]), (9, [3, 5, 6, 7, 8]), (10, [3, 5, 6, 7, 8, 39]), (11, [3, 5, 6, 7, 8]), (12, [3, 5, 6, 7, 8, 63]), (13, [3, 5, 6, 7, 8]), (14, [3, 5, 6, 83]), (15, [2]), (16, [3, 5, 9]), (17, [3, 5, 9, 87]), (18, [3, 5, 9]), (19, [3, 5, 9, 10]), (20, [3, 5, 9, 10, 11]), (21, [3, 5, 9, 10, 11, 93]), (22, [3, 5, 9, 10, 11]), (23, [3, 5, 9, 10, 11]), (24, [3, 5, 9, 128]), (25, [2]), (26, [2])]
  | 5 => [(0, [0]), (1, [0, 3, 4]), (2, [0, 3, 17]), (3, [2]), (4, [0, 3, 5]), (5, [0, 3, 5, 22]), (6, [0, 3, 5]), (7, [0, 3, 5, 6]), (8, [0, 3, 5, 6, 7]), (9, [0, 3, 5, 6, 7, 35]), (10, [0, 3, 5, 6, 7]), (11, [0, 3, 5, 6, 7, 8]), (12, [0, 3, 5, 6, 7, 77]), (13, [2]), (14, [0, 3, 5, 9]), (15, [0, 3, 5, 9, 85]), (16, [0, 3, 5, 9]), (17, [0, 3, 5, 9, 10]), (18, [0, 3, 5, 9, 130]), (19, [2]), (20, [2])]
  | 7 => [(0, [0]), (1, [0, 5]), (2, [0, 5, 25]), (3, [2, 3]), (4, [0, 6]), (5, [0, 6, 7]), (6, [0, 6, 7, 31, 32, 33]), (7, [0, 6, 7, 31, 32, 33, 34]), (8, [0, 6, 7, 9, 31, 32, 33]), (9, [0, 6, 7, 9, 31, 32, 33, 41]), (10, [0, 6, 7, 31, 32, 33, 44, 45, 46]), (11, [0, 6, 7, 31, 32, 33, 44, 45, 46, 47]), (12, [0, 6, 7, 11, 31, 32, 33, 44, 45, 46]), (13, [0, 6, 7, 31, 32, 33, 44, 45, 46]), (14, [0, 6, 7, 31, 32, 33, 44, 45, 46]), (15, [0, 6, 7, 31, 32, 33]), (16, [0, 6, 7, 12]), (17, [0, 6, 12, 54, 55, 56]), (18, [0, 6, 12, 54, 55, 56, 57]), (19, [0, 6, 12, 14, 54, 55, 56]), (20, [0, 6, 12, 14, 54, 55, 56, 62]), (21, [0, 6, 12, 54, 55, 56]), (22, [0, 6, 12, 54, 55, 56]), (23, [0, 12, 72, 73]), (24, [0, 12, 72, 73, 74]), (25, [0, 12, 15, 72, 73]), (26, [0, 12, 15, 72, 73, 82, 83, 84]), (27, [0, 12, 15, 72, 73, 82, 83, 84, 85]), (28, [0, 12, 15, 17, 72, 73, 82, 83, 84]), (29, [0, 12, 15, 18, 72, 73, 82, 83, 84]), (30, [0, 12, 15, 18, 72, 73, 82, 83, 84, 98]), (31, [0, 12, 15, 18, 72, 73, 82, 83, 84]), (32, [0, 12, 15, 72, 73, 82, 83, 84]), (33, [0, 12, 15, 72, 73, 82, 83, 84]), (34, [0, 12, 72, 73]), (35, [2, 3])]
  | 11 => [(0, [0]), (1, [0, 4]), (2, [0, 14]), (3, [2]), (4, [0, 5]), (5, [0, 5, 6]), (6, [0, 5, 6, 19]), (7, [0, 5, 6, 7]), (8, [0, 5, 6, 7]), (9, [0, 5, 6, 7, 28]), (10, [0, 5, 6, 7]), (11, [0, 5, 6]), (12, [2])]
  | 13 => [(0, [0, 3]), (1, [4])]
  | 16 => [(0, [0, 1]), (1, [0, 1, 21]), (2, [4]), (3, [1, 5]), (4, [1, 5, 8]), (5, [1, 5, 8, 33]), (6, [4]), (7, [1, 5, 8, 37]), (8, [4]), (9, [1, 5, 47]), (10, [4]), (11, [1, 57]), (12, [4]), (13, [4])]
  | 17 => [(0, [0, 1]), (1, [0, 1, 5]), (2, [0, 1, 5, 6]), (3, [0, 1, 5, 6, 10]), (4, [0, 1, 5, 6]), (5, [0, 1, 5, 6, 18]), (6, [0, 1, 5, 6]), (7, [4])]
  | 18 => [(0, [0]), (1, [0, 8]), (2, [2, 3]), (3, [0, 12]), (4, [2, 3]), (5, [0, 16, 17, 18]), (6, [0, 16, 17, 18, 19]), (7, [0, 4, 5, 16, 17, 18]), (8, [0, 4, 5, 16, 17, 18, 25]), (9, [0, 4, 16, 17, 18, 49]), (10, [2, 3]), (11, [0, 4, 16, 17, 18, 53, 54, 55]), (12, [0, 4, 16, 17, 18, 53, 54, 55, 56]), (13, [0, 4, 7, 16, 17, 18, 53, 54, 55]), (14, [0, 4, 16, 17, 18, 53, 54, 55, 71]), (15, [2, 3]), (16, [0, 4, 16, 17, 18, 53, 54, 55]), (17, [0, 16, 17, 18]), (18, [2, 3])]
  | 19 => [(0, [1]), (1, [1, 5]), (2, [2])]
  | 20 => [(0, [0, 1]), (1, [0, 1, 21]), (2, [4]), (3, [1, 5]), (4, [1, 5, 8]), (5, [1, 5, 8, 33]), (6, [4]), (7, [1, 5, 8, 37]), (8, [4]), (9, [1, 5, 47]), (10, [4]), (11, [1, 57]), (12, [4]), (13, [4])]
  | 21 => [(0, [0, 1, 2, 6]), (1, [0, 1, 6, 7]), (2, [0, 1, 6, 7]), (3, [0, 1, 6, 7, 8]), (4, [0, 1, 6, 7, 8, 43]), (5, [6]), (6, [0, 1, 6, 7])]
  | 22 => [(0, [0, 1]), (1, [4])]
  | 29 => [(0, [1]), (1, [2])]
  | 30 => [(0, [0, 1]), (1, [0, 1, 7, 8]), (2, [0, 1, 7, 8, 9]), (3, [0, 1, 5, 7, 8]), (4, [0, 1, 5, 7, 8, 16]), (5, [4]), (6, [0, 1, 7, 8]), (7, [4])]
  | 31 => [(0, [1, 2]), (1, [3])]
  | 32 => [(0, [0, 1]), (1, [0, 1, 23]), (2, [4]), (3, [0, 1, 5]), (4, [0, 5, 6]), (5, [0, 5, 6, 35]), (6, [0, 5, 6]), (7, [0, 5, 6]), (8, [4])]
  | 33 => [(0, [0]), (1, [0, 5]), (2, [0, 5, 6]), (3, [5, 6, 40]), (4, [2, 3, 4]), (5, [2, 3, 4])]
  | 34 => [(0, [0, 1]), (1, [0, 1, 13]), (2, [4]), (3, [0, 1, 5]), (4, [0, 1, 5, 27]), (5, [0, 1, 5]), (6, [4])]
  | 35 => [(0, [1]), (1, [1, 3, 4, 5]), (2, [1, 3, 4, 5, 8]), (3, [1, 3, 4, 5, 8, 9]), (4, [1, 3, 4, 5, 8, 9, 35]), (5, [1, 3, 4, 5, 8, 9]), (6, [1, 3, 4, 5, 8, 51]), (7, [2]), (8, [1, 3, 4, 8, 52]), (9, [2]), (10, [1, 58]), (11, [2]), (12, [1, 62]), (13, [2]), (14, [1, 74]), (15, [2]), (16, [1, 91]), (17, [2]), (18, [1, 105]), (19, [2]), (20, [1, 111]), (21, [2]), (22, [1, 116]), (23, [2]), (24, [2])]
  | 36 => [(0, [0]), (1, [5, 6]), (2, [5, 6, 8]), (3, [5, 6, 27]), (4, [2, 3, 4]), (5, [2, 3, 4])]
  | 37 => [(0, [1]), (1, [5]), (2, [2]), (3, [2])]
  | 38 => [(0, [0, 1]), (1, [0, 1, 7, 8]), (2, [0, 1, 7, 8, 9]), (3, [0, 1, 5, 7, 8]), (4, [0, 1, 5, 7, 8, 16]), (5, [4]), (6, [0, 1, 7, 8]), (7, [4])]
  | 43 => [(0, [0]), (1, [0, 5, 6]), (2, [0, 5, 6, 8]), (3, [5, 6, 36]), (4, [2, 3, 4]), (5, [2, 3, 4])]
  | 44 => [(0, [0]), (1, [0, 8]), (2, [2]), (3, [2])]
  | 45 => [(0, [1, 2]), (1, [4])]
  | 46 => [(0, [1, 2, 3]), (1, [1, 2, 3, 14]), (2, [6]), (3, [2, 3, 15]), (4, [2, 3, 15, 16]), (5, [6]), (6, [2, 3, 15, 21]), (7, [2, 3, 15, 21]), (8, [2, 3, 21]), (9, [6]), (10, [6])]
  | 47 => [(0, [1]), (1, [1, 6]), (2, [2]), (3, [2])]
  | 48 => [(0, [0]), (1, [5, 6, 7]), (2, [5, 6, 7, 8]), (3, [4, 5, 6, 7]), (4, [5, 6, 7, 12]), (5, [2]), (6, [5, 6, 7]), (7, [2])]
  | 49 => [(0, [0, 1, 2]), (1, [6])]
  | 50 => [(0, [1]), (1, [1, 3]), (2, [2]), (3, [1, 18]), (4, [2]), (5, [2])]
  | 51 => [(0, [0]), (1, [0, 4]), (2, [0, 4, 5]), (3, [0, 4, 7]), (4, [0, 9]), (5, [12]), (6, [12, 13]), (7, [2]), (8, [12, 15]), (9, [2]), (10, [12, 17]), (11, [2]), (12, [19]), (13, [2]), (14, [2])]
  | 52 => [(0, [0, 1, 2, 3]), (1, [0, 1, 2, 3]), (2, [0, 1, 2, 10]), (3, [1, 2, 10, 22]), (4, [1, 2, 10, 22, 23]), (5, [8, 9]), (6, [1, 2, 10, 22, 27]), (7, [8, 9]), (8, [1, 2, 10, 22, 31]), (9, [8, 9]), (10, [10, 22, 37]), (11, [10, 22, 37]), (12, [8, 9]), (13, [10, 22, 42]), (14, [10, 22, 42]), (15, [8, 9]), (16, [10, 22, 47]), (17, [10, 22, 47]), (18, [8, 9]), (19, [10, 22, 52]), (20, [10, 52]), (21, [8, 9]), (22, [8, 9])]
  | 62 => [(0, [0, 1, 2, 3]), (1, [0, 1, 2, 3]), (2, [0, 1, 2, 3, 18]), (3, [0, 1, 2, 3, 18, 19]), (4, [1, 2, 22]), (5, [8, 9]), (6, [8, 9]), (7, [0, 1, 2, 3, 18, 26]), (8, [1, 2, 29]), (9, [8, 9]), (10, [8, 9]), (11, [0, 1, 2, 3, 18, 34]), (12, [0, 1, 2, 3, 18, 34]), (13, [0, 1, 2, 3, 34]), (14, [8, 9]), (15, [3, 10, 11]), (16, [8, 9])]
  | 64 => [(0, [0, 1, 2, 3]), (1, [1, 2, 3, 9]), (2, [1, 2, 3, 9, 10]), (3, [1, 2, 3, 9, 12]), (4, [1, 2, 3, 9, 14]), (5, [1, 2, 3, 16]), (6, [1, 2, 19]), (7, [8]), (8, [8]), (9, [8])]
  | 78 => [(0, [0, 1, 2]), (1, [1, 2, 8]), (2, [1, 2, 8, 9]), (3, [6, 7]), (4, [1, 2, 8, 14]), (5, [6, 7]), (6, [1, 2, 8, 19]), (7, [6, 7]), (8, [1, 2, 8, 24]), (9, [6, 7]), (10, [1, 2, 8, 29]), (11, [6, 7]), (12, [1, 2, 8, 34]), (13, [6, 7]), (14, [1, 2, 8, 39]), (15, [6, 7]), (16, [2, 43]), (17, [6, 7]), (18, [6, 7])]
  | _ => []
def globs : FuncId → List Tmp
  | 7 => [27, 69, 108, 120]
  | 8 => [80, 123, 135]
  | 11 => [15]
  | 13 => [3]
  | 29 => [1]
  | _ => []
def impure : FuncId → Bool
  | 7 => true
  | 8 => true
  | 9 => true
  | 10 => true
  | 13 => true
  | 14 => true
  | 17 => true
  | 21 => true
  | 22 => true
  | 27 => true
  | 28 => true
  | 29 => true
  | 30 => true
  | 31 => true
  | 38 => true
  | 40 => true
  | 41 => true
  | 42 => true
  | 59 => true
  | _ => false
def nds : FuncId → List Nat
  | _ => []
def bases : FuncId → List (Tmp × Tmp)
  | _ => []
def An : Ann := { glob := globs, pure := fun f => !(impure f), keep := fun f r => ((kept f).find? fun x => x.1 == r).map (·.2), nd := fun f r => (nds f).contains r, base := fun f t => ((bases f).find? fun x => x.1 == t).map (·.2) }
abbrev rg := rgo Try.prog An
abbrev Rg (F : Oracle) (k : Nat) (l : List Tmp) (c : List SO) (L : List (Nat × CV)) (m : Mem) (Q : CE → TS → Prop) := Tx Try.prog An F k (.reg false (some l) c) ⟨L, m⟩ Q
abbrev Rt (F : Oracle) (k : Nat) (l : List Tmp) (c : List SO) (L : List (Nat × CV)) (m : Mem) (Q : CE → TS → Prop) := Tx Try.prog An F k (.reg true (some l) c) ⟨L, m⟩ Q
theorem plainN : plainNames Try.prog = true := by kernel_rfl
theorem mixed : Try.prog.follows .mixedOrders = true := by kernel_rfl
def c16r0 := rg 16 Try.f16 0
def c16r1 := rg 16 Try.f16 1
def c16r2 := rg 16 Try.f16 2
def c16r3 := rg 16 Try.f16 3
def c16r4 := rg 16 Try.f16 4
def c16r5 := rg 16 Try.f16 5
def c16r6 := rg 16 Try.f16 6
def c16r7 := rg 16 Try.f16 7
def c16r8 := rg 16 Try.f16 8
def c16r9 := rg 16 Try.f16 9
def c16r10 := rg 16 Try.f16 10
def c16r11 := rg 16 Try.f16 11
def c16r12 := rg 16 Try.f16 12
def c16r13 := rg 16 Try.f16 13
def c16 : SC :=
  (.seq (.reg false (some [0, 1]) c16r0) (.seq (.seq (.reg false (some [0, 1, 21]) c16r1) (.cond (.tmp 21) (.seq (.reg false (some [4]) c16r2) .ret) .nop)) (.seq (.reg false (some [1, 5]) c16r3) (.seq (.reg false (some [1, 5, 8]) c16r4) (.seq (.block 0 (.seq (.reg false (some [1, 5, 8, 33]) c16r5) (.cond (.tmp 33) (.seq (.reg false (some [4]) c16r6) .ret) (.seq (.reg false (some [1, 5, 8, 37]) c16r7) (.cond (.tmp 37) (.seq (.reg false (some [4]) c16r8) .ret) (.seq (.reg false (some [1, 5, 47]) c16r9) (.cond (.tmp 47) (.seq (.reg false (some [4]) c16r10) .ret) (.seq (.reg false (some [1, 57]) c16r11) (.cond (.tmp 57) (.seq (.reg false (some [4]) c16r12) .ret) .nop))))))))) (.seq (.reg false (some [4]) c16r13) .ret))))))
theorem s16 : Try.f16.body.bind (strip Try.prog An 16 Try.f16.ntmps) = some c16 := by kernel_rfl
theorem g16 : An.glob 16 = [] := rfl
theorem r16 : Try.f16.results.toList = [(.tmp 4)] := by kernel_rfl
theorem t16r0 (h : Q .normal ⟨[(0, (tget L 0)), (1, (tget L 1))], m⟩) : Rg F 16 [0, 1] c16r0 L m Q := Tx_told (by kernel_rfl) h
theorem t16r1 (h : Obt (cbin Try.prog .lss 3 (.tmp 9) (.const (.int .i64 0)) (tget L 1) (.int .i64 0)) fun a0 => Obt (gdO a0 false (some ((tget L 1), m)) (.tuple [], m)) fun a1 => Obt (gdO a0 false (some ((tget L 0), a1.2)) (.tuple [], a1.2)) fun a2 => Obt (gdO a0 false ((lenS a2.1).map fun v => (v, a2.2)) (.tuple [], a2.2)) fun a3 => Obt (gdO a0 false ((cbin Try.prog .geq 3 (.tmp 12) (.tmp 14) a1.1 a3.1).map fun v => (v, a3.2)) (.tuple [], a3.2)) fun a4 => Obt (pickX a0 (.bool true) a4.1) fun a5 => Obt (gdO a5 false (some ((tget L 0), a4.2)) (.tuple [], a4.2)) fun a6 => Obt (gdO a5 false (some ((tget L 1), a6.2)) (.tuple [], a6.2)) fun a7 => Obt (gdO a5 false (callC An F 16 (some 20) 32 [a6.1, a7.1] a7.2) (.tuple [], a7.2)) fun a8 => Obt (pickX a5 (.bool true) a8.1) fun a9 => Q .normal ⟨[(0, (tget L 0)), (1, (tget L 1)), (21, a9)], a8.2⟩) : Rg F 16 [0, 1, 21] c16r1 L m Q := Tx_told (by kernel_rfl) h
theorem t16r2 (h : Q .normal ⟨[(4, .nil)], m⟩) : Rg F 16 [4] c16r2 L m Q := Tx_told (by kernel_rfl) h
theorem t16r3 (h : Obt (idxS 6 (tget L 0) (tget L 1)) fun a0 => Obt (ldA 6 m a0) fun a1 => Obt (stX 6 (newL m 80 [.int .i64 0, .int .i64 0, .int .i64 0, .int .i64 0, .int .i64 0, .int .u64 0]) (newP m 80) a1) fun a2 => Q .normal ⟨[(1, (tget L 1)), (5, (newP m 80))], a2⟩) : Rg F 16 [1, 5] c16r3 L m Q := Tx_told (by kernel_rfl) h
theorem t16r4 (h : Obt (fldA 0 (tget L 5)) fun a0 => Obt (ld1 m a0) fun a1 => Obt (callC An F 16 (some 29) 33 [a1] m) fun a2 => Obt (extX 0 a2.1) fun a3 => Obt (extX 1 a2.1) fun a4 => Obt (extX 2 a2.1) fun a5 => Q .normal ⟨[(1, (tget L 1)), (5, (tget L 5)), (8, a5)], a2.2⟩) : Rg F 16 [1, 5, 8] c16r4 L m Q := Tx_told (by kernel_rfl) h
theorem t16r5 (h : Obt (fldA 0 (tget L 5)) fun a0 => Obt (ld1 m a0) fun a1 => Obt (cbin Try.prog .eql 3 (.tmp 35) (.const (.int .i64 149)) a1 (.int .i64 149)) fun a2 => Q .normal ⟨[(1, (tget L 1)), (5, (tget L 5)), (8, (tget L 8)), (33, a2)], m⟩) : Rg F 16 [1, 5, 8, 33] c16r5 L m Q := Tx_told (by kernel_rfl) h
theorem t16r6 (h : Q .normal ⟨[(4, .nil)], m⟩) : Rg F 16 [4] c16r6 L m Q := Tx_told (by kernel_rfl) h
theorem t16r7 (h : Obt (fldA 0 (tget L 5)) fun a0 => Obt (ld1 m a0) fun a1 => Obt (cbin Try.prog .eql 3 (.tmp 39) (.const (.int .i64 5)) a1 (.int .i64 5)) fun a2 => Q .normal ⟨[(1, (tget L 1)), (5, (tget L 5)), (8, (tget L 8)), (37, a2)], m⟩) : Rg F 16 [1, 5, 8, 37] c16r7 L m Q := Tx_told (by kernel_rfl) h
theorem t16r8 (h : Obt (cbin Try.prog .add 3 (.tmp 41) (.const (.int .i64 1)) (tget L 1) (.int .i64 1)) fun a0 => Obt (fldA 3 (tget L 5)) fun a1 => Obt (ld1 m a1) fun a2 => Obt (cbin Try.prog .add 3 (.tmp 42) (.tmp 44) a0 a2) fun a3 => Obt (bslX false 736 1 1 [.int .i64 0] [(0, 1, a3)] m) fun a4 => Q .normal ⟨[(4, a4.1)], a4.2⟩) : Rg F 16 [4] c16r8 L m Q := Tx_told (by kernel_rfl) h
theorem t16r9 (h : Q .normal ⟨[(1, (tget L 1)), (5, (tget L 5)), (47, (tget L 8))], m⟩) : Rg F 16 [1, 5, 47] c16r9 L m Q := Tx_told (by kernel_rfl) h
theorem t16r10 (h : Obt (cbin Try.prog .add 3 (.tmp 49) (.const (.int .i64 1)) (tget L 1) (.int .i64 1)) fun a0 => Obt (cbin Try.prog .add 3 (.tmp 51) (.const (.int .i64 1)) (tget L 1) (.int .i64 1)) fun a1 => Obt (fldA 3 (tget L 5)) fun a2 => Obt (ld1 m a2) fun a3 => Obt (cbin Try.prog .add 3 (.tmp 52) (.tmp 54) a1 a3) fun a4 => Obt (bslX false 896 1 2 [.int .i64 0, .int .i64 0] [(0, 1, a0), (1, 1, a4)] m) fun a5 => Q .normal ⟨[(4, a5.1)], a5.2⟩) : Rg F 16 [4] c16r10 L m Q := Tx_told (by kernel_rfl) h
theorem t16r11 (h : Obt (fldA 0 (tget L 5)) fun a0 => Obt (ld1 m a0) fun a1 => Obt (cbin Try.prog .eql 3 (.tmp 59) (.const (.int .i64 24)) a1 (.int .i64 24)) fun a2 => Q .normal ⟨[(1, (tget L 1)), (57, a2)], m⟩) : Rg F 16 [1, 57] c16r11 L m Q := Tx_told (by kernel_rfl) h
theorem t16r12 (h : Obt (cbin Try.prog .add 3 (.tmp 61) (.const (.int .i64 2)) (tget L 1) (.int .i64 2)) fun a0 => Obt (bslX false 1008 1 1 [.int .i64 0] [(0, 1, a0)] m) fun a1 => Q .normal ⟨[(4, a1.1)], a1.2⟩) : Rg F 16 [4] c16r12 L m Q := Tx_told (by kernel_rfl) h
theorem t16r13 (h : Obt (cbin Try.prog .add 3 (.tmp 64) (.const (.int .i64 1)) (tget L 1) (.int .i64 1)) fun a0 => Obt (bslX false 1056 1 1 [.int .i64 0] [(0, 1, a0)] m) fun a1 => Q .normal ⟨[(4, a1.1)], a1.2⟩) : Rg F 16 [4] c16r13 L m Q := Tx_told (by kernel_rfl) h
def c18r0 := rg 18 Try.f18 0
def c18r1 := rg 18 Try.f18 1
def c18r2 := rg 18 Try.f18 2
def c18r3 := rg 18 Try.f18 3
def c18r4 := rg 18 Try.f18 4
def c18r5 := rg 18 Try.f18 5
def c18r6 := rg 18 Try.f18 6
def c18r7 := rg 18 Try.f18 7
def c18r8 := rg 18 Try.f18 8
def c18r9 := rg 18 Try.f18 9
def c18r10 := rg 18 Try.f18 10
def c18r11 := rg 18 Try.f18 11
def c18r12 := rg 18 Try.f18 12
def c18r13 := rg 18 Try.f18 13
def c18r14 := rg 18 Try.f18 14
def c18r15 := rg 18 Try.f18 15
def c18r16 := rg 18 Try.f18 16
def c18l0 : SC :=
  (.seq (.reg false (some [0, 4, 16, 17, 18, 53, 54, 55, 56]) c18r12) (.seq (.cond (.tmp 56) .nop (.exit 3)) (.seq (.block 4 (.seq (.reg false (some [0, 4, 7, 16, 17, 18, 53, 54, 55]) c18r13) (.seq (.reg false (some [0, 4, 16, 17, 18, 53, 54, 55, 71]) c18r14) (.cond (.tmp 71) (.seq (.reg false (some [2, 3]) c18r15) .ret) .nop)))) (.reg false (some [0, 4, 16, 17, 18, 53, 54, 55]) c18r16))))
def c18r17 := rg 18 Try.f18 17
def c18l1 : SC :=
  (.seq (.reg false (some [0, 16, 17, 18, 19]) c18r6) (.seq (.cond (.tmp 19) .nop (.exit 1)) (.seq (.block 2 (.seq (.reg false (some [0, 4, 5, 16, 17, 18]) c18r7) (.seq (.seq (.reg false (some [0, 4, 5, 16, 17, 18, 25]) c18r8) (.cond (.tmp 25) (.exit 2) .nop)) (.seq (.seq (.reg false (some [0, 4, 16, 17, 18, 49]) c18r9) (.cond (.tmp 49) (.seq (.reg false (some [2, 3]) c18r10) .ret) .nop)) (.seq (.reg false (some [0, 4, 16, 17, 18, 53, 54, 55]) c18r11) (.block 3 (.loop c18l0))))))) (.reg false (some [0, 16, 17, 18]) c18r17))))
def c18r18 := rg 18 Try.f18 18
def c18 : SC :=
  (.seq (.reg false (some [0]) c18r0) (.seq (.block 0 (.seq (.reg false (some [0, 8]) c18r1) (.cond (.tmp 8) (.seq (.reg false (some [2, 3]) c18r2) .ret) (.seq (.reg false (some [0, 12]) c18r3) (.cond (.tmp 12) (.seq (.reg false (some [2, 3]) c18r4) .ret) .nop))))) (.seq (.seq (.reg false (some [0, 16, 17, 18]) c18r5) (.block 1 (.loop c18l1))) (.seq (.reg false (some [2, 3]) c18r18) .ret))))
theorem s18 : Try.f18.body.bind (strip Try.prog An 18 Try.f18.ntmps) = some c18 := by kernel_rfl
theorem g18 : An.glob 18 = [] := rfl
theorem r18 : Try.f18.results.toList = [(.tmp 2), (.tmp 3)] := by kernel_rfl
theorem t18r0 (h : Q .normal ⟨[(0, (tget L 0))], m⟩) : Rg F 18 [0] c18r0 L m Q := Tx_told (by kernel_rfl) h
theorem t18r1 (h : Obt (lenS (tget L 0)) fun a0 => Obt (cbin Try.prog .gtr 3 (.tmp 10) (.const (.int .i64 4096)) a0 (.int .i64 4096)) fun a1 => Q .normal ⟨[(0, (tget L 0)), (8, a1)], m⟩) : Rg F 18 [0, 8] c18r1 L m Q := Tx_told (by kernel_rfl) h
theorem t18r2 (h : Q .normal ⟨[(2, (.int .i64 0)), (3, (.int .i64 31))], m⟩) : Rg F 18 [2, 3] c18r2 L m Q := Tx_told (by kernel_rfl) h
theorem t18r3 (h : Obt (lenS (tget L 0)) fun a0 => Obt (cbin Try.prog .eql 3 (.tmp 14) (.const (.int .i64 0)) a0 (.int .i64 0)) fun a1 => Q .normal ⟨[(0, (tget L 0)), (12, a1)], m⟩) : Rg F 18 [0, 12] c18r3 L m Q := Tx_told (by kernel_rfl) h
theorem t18r4 (h : Q .normal ⟨[(2, (.int .i64 0)), (3, (.int .i64 40))], m⟩) : Rg F 18 [2, 3] c18r4 L m Q := Tx_told (by kernel_rfl) h
theorem t18r5 (h : Obt (lenS (tget L 0)) fun a0 => Q .normal ⟨[(0, (tget L 0)), (16, (tget L 0)), (17, a0), (18, (.int .i64 0))], m⟩) : Rg F 18 [0, 16, 17, 18] c18r5 L m Q := Tx_told (by kernel_rfl) h
theorem t18r6 (h : Obt (cbin Try.prog .lss 3 (.tmp 18) (.tmp 17) (tget L 18) (tget L 17)) fun a0 => Q .normal ⟨[(0, (tget L 0)), (16, (tget L 16)), (17, (tget L 17)), (18, (tget L 18)), (19, a0)], m⟩) : Rg F 18 [0, 16, 17, 18, 19] c18r6 L m Q := Tx_told (by kernel_rfl) h
theorem t18r7 (h : Obt (idxS 6 (tget L 16) (tget L 18)) fun a0 => Obt (ldA 6 m a0) fun a1 => Obt (stX 6 (newL m 80 [.int .i64 0, .int .i64 0, .int .i64 0, .int .i64 0, .int .i64 0, .int .u64 0]) (newP m 80) a1) fun a2 => Q .normal ⟨[(0, (tget L 0)), (4, (tget L 18)), (5, (newP m 80)), (16, (tget L 16)), (17, (tget L 17)), (18, (tget L 18))], a2⟩) : Rg F 18 [0, 4, 5, 16, 17, 18] c18r7 L m Q := Tx_told (by kernel_rfl) h
theorem t18r8 (h : Obt (callC An F 18 (some 25) 34 [(tget L 0), (tget L 4)] m) fun a0 => Q .normal ⟨[(0, (tget L 0)), (4, (tget L 4)), (5, (tget L 5)), (16, (tget L 16)), (17, (tget L 17)), (18, (tget L 18)), (25, a0.1)], a0.2⟩) : Rg F 18 [0, 4, 5, 16, 17, 18, 25] c18r8 L m Q := Tx_told (by kernel_rfl) h
theorem t18r9 (h : Obt (ldA 6 m (tget L 5)) fun a0 => Obt (callC An F 18 (some 27) 35 [a0] m) fun a1 => Obt (cun .not a1.1) fun a2 => Obt (gdO a2 false ((fldA 0 (tget L 5)).map fun v => (v, a1.2)) (.tuple [], a1.2)) fun a3 => Obt (gdO a2 false ((ld1 a3.2 a3.1).map fun v => (v, a3.2)) (.tuple [], a3.2)) fun a4 => Obt (gdO a2 false ((cbin Try.prog .eql 3 (.tmp 31) (.const (.int .i64 24)) a4.1 (.int .i64 24)).map fun v => (v, a4.2)) (.tuple [], a4.2)) fun a5 => Obt (gdO a2 false (some (a5.1, a5.2)) (.tuple [], a5.2)) fun a6 => Obt (gdO a6.1 true (some ((tget L 4), a6.2)) (.tuple [], a6.2)) fun a7 => Obt (gdO a6.1 true ((cbin Try.prog .add 3 (.tmp 34) (.const (.int .i64 1)) a7.1 (.int .i64 1)).map fun v => (v, a7.2)) (.tuple [], a7.2)) fun a8 => Obt (gdO a6.1 true (some ((tget L 0), a8.2)) (.tuple [], a8.2)) fun a9 => Obt (gdO a6.1 true ((lenS a9.1).map fun v => (v, a9.2)) (.tuple [], a9.2)) fun a10 => Obt (gdO a6.1 true ((cbin Try.prog .eql 3 (.tmp 35) (.tmp 37) a8.1 a10.1).map fun v => (v, a10.2)) (.tuple [], a10.2)) fun a11 => Obt (gdO a6.1 true (some (a11.1, a11.2)) (.tuple [], a11.2)) fun a12 => Obt (gdO a12.1 false (some ((tget L 0), a12.2)) (.tuple [], a12.2)) fun a13 => Obt (gdO a12.1 false (some ((tget L 4), a13.2)) (.tuple [], a13.2)) fun a14 => Obt (gdO a12.1 false ((cbin Try.prog .add 3 (.tmp 41) (.const (.int .i64 1)) a14.1 (.int .i64 1)).map fun v => (v, a14.2)) (.tuple [], a14.2)) fun a15 => Obt (gdO a12.1 false ((idxS 6 a13.1 a15.1).map fun v => (v, a15.2)) (.tuple [], a15.2)) fun a16 => Obt (gdO a12.1 false ((ldA 6 a16.2 a16.1).map fun v => (v, a16.2)) (.tuple [], a16.2)) fun a17 => Obt (gdO a12.1 false (((fillX [.int .i64 0, .int .i64 0, .int .i64 0, .int .i64 0, .int .i64 0, .int .u64 0] []).map CV.agg).map fun v => (v, a17.2)) (.tuple [], a17.2)) fun a18 => Obt (gdO a12.1 false ((cbin Try.prog .neq 47 (.tmp 44) (.tmp 45) a17.1 a18.1).map fun v => (v, a18.2)) (.tuple [], a18.2)) fun a19 => Obt (gdO a6.1 true ((pickX a12.1 (.bool true) a19.1).map fun v => (v, a19.2)) (.tuple [], a19.2)) fun a20 => Obt (gdO a2 false ((pickX a6.1 a20.1 (.bool false)).map fun v => (v, a20.2)) (.tuple [], a20.2)) fun a21 => Obt (pickX a2 (.bool true) a21.1) fun a22 => Q .normal ⟨[(0, (tget L 0)), (4, (tget L 4)), (16, (tget L 16)), (17, (tget L 17)), (18, (tget L 18)), (49, a22)], a21.2⟩) : Rg F 18 [0, 4, 16, 17, 18, 49] c18r9 L m Q := Tx_told (by kernel_rfl) h
theorem t18r10 (h : Q .normal ⟨[(2, (tget L 4)), (3, (.int .i64 40))], m⟩) : Rg F 18 [2, 3] c18r10 L m Q := Tx_told (by kernel_rfl) h
theorem t18r11 (h : Obt (callC An F 18 (some 53) 20 [(tget L 0), (tget L 4)] m) fun a0 => Obt (lenS a0.1) fun a1 => Q .normal ⟨[(0, (tget L 0)), (4, (tget L 4)), (16, (tget L 16)), (17, (tget L 17)), (18, (tget L 18)), (53, a0.1), (54, a1), (55, (.int .i64 0))], a0.2⟩) : Rg F 18 [0, 4, 16, 17, 18, 53, 54, 55] c18r11 L m Q := Tx_told (by kernel_rfl) h
theorem t18r12 (h : Obt (cbin Try.prog .lss 3 (.tmp 55) (.tmp 54) (tget L 55) (tget L 54)) fun a0 => Q .normal ⟨[(0, (tget L 0)), (4, (tget L 4)), (16, (tget L 16)), (17, (tget L 17)), (18, (tget L 18)), (53, (tget L 53)), (54, (tget L 54)), (55, (tget L 55)), (56, a0)], m⟩) : Rg F 18 [0, 4, 16, 17, 18, 53, 54, 55, 56] c18r12 L m Q := Tx_told (by kernel_rfl) h
theorem t18r13 (h : Obt (idxS 1 (tget L 53) (tget L 55)) fun a0 => Obt (ld1 m a0) fun a1 => Q .normal ⟨[(0, (tget L 0)), (4, (tget L 4)), (7, a1), (16, (tget L 16)), (17, (tget L 17)), (18, (tget L 18)), (53, (tget L 53)), (54, (tget L 54)), (55, (tget L 55))], m⟩) : Rg F 18 [0, 4, 7, 16, 17, 18, 53, 54, 55] c18r13 L m Q := Tx_told (by kernel_rfl) h
theorem t18r14 (h : Obt (cbin Try.prog .lss 3 (.tmp 59) (.const (.int .i64 0)) (tget L 7) (.int .i64 0)) fun a0 => Obt (gdO a0 false (some ((tget L 7), m)) (.tuple [], m)) fun a1 => Obt (gdO a0 false (some ((tget L 0), a1.2)) (.tuple [], a1.2)) fun a2 => Obt (gdO a0 false ((lenS a2.1).map fun v => (v, a2.2)) (.tuple [], a2.2)) fun a3 => Obt (gdO a0 false ((cbin Try.prog .geq 3 (.tmp 62) (.tmp 64) a1.1 a3.1).map fun v => (v, a3.2)) (.tuple [], a3.2)) fun a4 => Obt (pickX a0 (.bool true) a4.1) fun a5 => Obt (gdO a5 false (some ((tget L 0), a4.2)) (.tuple [], a4.2)) fun a6 => Obt (gdO a5 false (some ((tget L 7), a6.2)) (.tuple [], a6.2)) fun a7 => Obt (gdO a5 false (callC An F 18 (some 70) 34 [a6.1, a7.1] a7.2) (.tuple [], a7.2)) fun a8 => Obt (pickX a5 (.bool true) a8.1) fun a9 => Q .normal ⟨[(0, (tget L 0)), (4, (tget L 4)), (16, (tget L 16)), (17, (tget L 17)), (18, (tget L 18)), (53, (tget L 53)), (54, (tget L 54)), (55, (tget L 55)), (71, a9)], a8.2⟩) : Rg F 18 [0, 4, 16, 17, 18, 53, 54, 55, 71] c18r14 L m Q := Tx_told (by kernel_rfl) h
theorem t18r15 (h : Q .normal ⟨[(2, (tget L 4)), (3, (.int .i64 40))], m⟩) : Rg F 18 [2, 3] c18r15 L m Q := Tx_told (by kernel_rfl) h
theorem t18r16 (h : Obt (cbin Try.prog .add 3 (.tmp 55) (.const (.int .i64 1)) (tget L 55) (.int .i64 1)) fun a0 => Q .normal ⟨[(0, (tget L 0)), (4, (tget L 4)), (16, (tget L 16)), (17, (tget L 17)), (18, (tget L 18)), (53, (tget L 53)), (54, (tget L 54)), (55, a0)], m⟩) : Rg F 18 [0, 4, 16, 17, 18, 53, 54, 55] c18r16 L m Q := Tx_told (by kernel_rfl) h
theorem t18r17 (h : Obt (cbin Try.prog .add 3 (.tmp 18) (.const (.int .i64 1)) (tget L 18) (.int .i64 1)) fun a0 => Q .normal ⟨[(0, (tget L 0)), (16, (tget L 16)), (17, (tget L 17)), (18, a0)], m⟩) : Rg F 18 [0, 16, 17, 18] c18r17 L m Q := Tx_told (by kernel_rfl) h
theorem t18r18 (h : Q .normal ⟨[(2, (.int .i64 0)), (3, (.int .i64 0))], m⟩) : Rg F 18 [2, 3] c18r18 L m Q := Tx_told (by kernel_rfl) h
def c19r0 := rg 19 Try.f19 0
def c19r1 := rg 19 Try.f19 1
def c19r2 := rg 19 Try.f19 2
def c19 : SC :=
  (.seq (.reg false (some [1]) c19r0) (.seq (.reg false (some [1, 5]) c19r1) (.seq (.reg false (some [2]) c19r2) .ret)))
theorem s19 : Try.f19.body.bind (strip Try.prog An 19 Try.f19.ntmps) = some c19 := by kernel_rfl
theorem g19 : An.glob 19 = [] := rfl
theorem r19 : Try.f19.results.toList = [(.tmp 2)] := by kernel_rfl
theorem t19r0 (h : Obt (ccells (tget L 0)) fun a0 => Q .normal ⟨[(1, (newP m 16))], (newL m 16 a0)⟩) : Rg F 19 [1] c19r0 L m Q := Tx_told (by kernel_rfl) h
theorem t19r1 (h : Obt (fldA 0 (tget L 1)) fun a0 => Obt (ld1 m a0) fun a1 => Obt (callC An F 19 (some 9) 36 [a1] m) fun a2 => Obt (extX 0 a2.1) fun a3 => Obt (extX 1 a2.1) fun a4 => Obt (extX 2 a2.1) fun a5 => Q .normal ⟨[(1, (tget L 1)), (5, a5)], a2.2⟩) : Rg F 19 [1, 5] c19r1 L m Q := Tx_told (by kernel_rfl) h
theorem t19r2 (h : Obt (gdO (tget L 5) false ((fldA 0 (tget L 1)).map fun v => (v, m)) (.tuple [], m)) fun a0 => Obt (gdO (tget L 5) false ((ld1 a0.2 a0.1).map fun v => (v, a0.2)) (.tuple [], a0.2)) fun a1 => Obt (gdO (tget L 5) false ((cbin Try.prog .eql 3 (.tmp 16) (.const (.int .i64 5)) a1.1 (.int .i64 5)).map fun v => (v, a1.2)) (.tuple [], a1.2)) fun a2 => Obt (pickX (tget L 5) (.bool true) a2.1) fun a3 => Q .normal ⟨[(2, a3)], a2.2⟩) : Rg F 19 [2] c19r2 L m Q := Tx_told (by kernel_rfl) h
def c20r0 := rg 20 Try.f20 0
def c20r1 := rg 20 Try.f20 1
def c20r2 := rg 20 Try.f20 2
def c20r3 := rg 20 Try.f20 3
def c20r4 := rg 20 Try.f20 4
def c20r5 := rg 20 Try.f20 5
def c20r6 := rg 20 Try.f20 6
def c20r7 := rg 20 Try.f20 7
def c20r8 := rg 20 Try.f20 8
def c20r9 := rg 20 Try.f20 9
def c20r10 := rg 20 Try.f20 10
def c20r11 := rg 20 Try.f20 11
def c20r12 := rg 20 Try.f20 12
def c20r13 := rg 20 Try.f20 13
def c20 : SC :=
  (.seq (.reg false (some [0, 1]) c20r0) (.seq (.seq (.reg false (some [0, 1, 21]) c20r1) (.cond (.tmp 21) (.seq (.reg false (some [4]) c20r2) .ret) .nop)) (.seq (.reg false (some [1, 5]) c20r3) (.seq (.reg false (some [1, 5, 8]) c20r4) (.seq (.block 0 (.seq (.reg false (some [1, 5, 8, 33]) c20r5) (.cond (.tmp 33) (.seq (.reg false (some [4]) c20r6) .ret) (.seq (.reg false (some [1, 5, 8, 37]) c20r7) (.cond (.tmp 37) (.seq (.reg false (some [4]) c20r8) .ret) (.seq (.reg false (some [1, 5, 47]) c20r9) (.cond (.tmp 47) (.seq (.reg false (some [4]) c20r10) .ret) (.seq (.reg false (some [1, 57]) c20r11) (.cond (.tmp 57) (.seq (.reg false (some [4]) c20r12) .ret) .nop))))))))) (.seq (.reg false (some [4]) c20r13) .ret))))))
theorem s20 : Try.f20.body.bind (strip Try.prog An 20 Try.f20.ntmps) = some c20 := by kernel_rfl
theorem g20 : An.glob 20 = [] := rfl
theorem r20 : Try.f20.results.toList = [(.tmp 4)] := by kernel_rfl
theorem t20r0 (h : Q .normal ⟨[(0, (tget L 0)), (1, (tget L 1))], m⟩) : Rg F 20 [0, 1] c20r0 L m Q := Tx_told (by kernel_rfl) h
theorem t20r1 (h : Obt (cbin Try.prog .lss 3 (.tmp 9) (.const (.int .i64 0)) (tget L 1) (.int .i64 0)) fun a0 => Obt (gdO a0 false (some ((tget L 1), m)) (.tuple [], m)) fun a1 => Obt (gdO a0 false (some ((tget L 0), a1.2)) (.tuple [], a1.2)) fun a2 => Obt (gdO a0 false ((lenS a2.1).map fun v => (v, a2.2)) (.tuple [], a2.2)) fun a3 => Obt (gdO a0 false ((cbin Try.prog .geq 3 (.tmp 12) (.tmp 14) a1.1 a3.1).map fun v => (v, a3.2)) (.tuple [], a3.2)) fun a4 => Obt (pickX a0 (.bool true) a4.1) fun a5 => Obt (gdO a5 false (some ((tget L 0), a4.2)) (.tuple [], a4.2)) fun a6 => Obt (gdO a5 false (some ((tget L 1), a6.2)) (.tuple [], a6.2)) fun a7 => Obt (gdO a5 false (callC An F 20 (some 20) 34 [a6.1, a7.1] a7.2) (.tuple [], a7.2)) fun a8 => Obt (pickX a5 (.bool true) a8.1) fun a9 => Q .normal ⟨[(0, (tget L 0)), (1, (tget L 1)), (21, a9)], a8.2⟩) : Rg F 20 [0, 1, 21] c20r1 L m Q := Tx_told (by kernel_rfl) h
theorem t20r2 (h : Q .normal ⟨[(4, .nil)], m⟩) : Rg F 20 [4] c20r2 L m Q := Tx_told (by kernel_rfl) h
theorem t20r3 (h : Obt (idxS 6 (tget L 0) (tget L 1)) fun a0 => Obt (ldA 6 m a0) fun a1 => Obt (stX 6 (newL m 80 [.int .i64 0, .int .i64 0, .int .i64 0, .int .i64 0, .int .i64 0, .int .u64 0]) (newP m 80) a1) fun a2 => Q .normal ⟨[(1, (tget L 1)), (5, (newP m 80))], a2⟩) : Rg F 20 [1, 5] c20r3 L m Q := Tx_told (by kernel_rfl) h
theorem t20r4 (h : Obt (fldA 0 (tget L 5)) fun a0 => Obt (ld1 m a0) fun a1 => Obt (callC An F 20 (some 29) 36 [a1] m) fun a2 => Obt (extX 0 a2.1) fun a3 => Obt (extX 1 a2.1) fun a4 => Obt (extX 2 a2.1) fun a5 => Q .normal ⟨[(1, (tget L 1)), (5, (tget L 5)), (8, a5)], a2.2⟩) : Rg F 20 [1, 5, 8] c20r4 L m Q := Tx_told (by kernel_rfl) h
theorem t20r5 (h : Obt (fldA 0 (tget L 5)) fun a0 => Obt (ld1 m a0) fun a1 => Obt (cbin Try.prog .eql 3 (.tmp 35) (.const (.int .i64 149)) a1 (.int .i64 149)) fun a2 => Q .normal ⟨[(1, (tget L 1)), (5, (tget L 5)), (8, (tget L 8)), (33, a2)], m⟩) : Rg F 20 [1, 5, 8, 33] c20r5 L m Q := Tx_told (by kernel_rfl) h
theorem t20r6 (h : Q .normal ⟨[(4, .nil)], m⟩) : Rg F 20 [4] c20r6 L m Q := Tx_told (by kernel_rfl) h
theorem t20r7 (h : Obt (fldA 0 (tget L 5)) fun a0 => Obt (ld1 m a0) fun a1 => Obt (cbin Try.prog .eql 3 (.tmp 39) (.const (.int .i64 5)) a1 (.int .i64 5)) fun a2 => Q .normal ⟨[(1, (tget L 1)), (5, (tget L 5)), (8, (tget L 8)), (37, a2)], m⟩) : Rg F 20 [1, 5, 8, 37] c20r7 L m Q := Tx_told (by kernel_rfl) h
theorem t20r8 (h : Obt (cbin Try.prog .add 3 (.tmp 41) (.const (.int .i64 1)) (tget L 1) (.int .i64 1)) fun a0 => Obt (fldA 3 (tget L 5)) fun a1 => Obt (ld1 m a1) fun a2 => Obt (cbin Try.prog .add 3 (.tmp 42) (.tmp 44) a0 a2) fun a3 => Obt (bslX false 736 1 1 [.int .i64 0] [(0, 1, a3)] m) fun a4 => Q .normal ⟨[(4, a4.1)], a4.2⟩) : Rg F 20 [4] c20r8 L m Q := Tx_told (by kernel_rfl) h
theorem t20r9 (h : Q .normal ⟨[(1, (tget L 1)), (5, (tget L 5)), (47, (tget L 8))], m⟩) : Rg F 20 [1, 5, 47] c20r9 L m Q := Tx_told (by kernel_rfl) h
theorem t20r10 (h : Obt (cbin Try.prog .add 3 (.tmp 49) (.const (.int .i64 1)) (tget L 1) (.int .i64 1)) fun a0 => Obt (cbin Try.prog .add 3 (.tmp 51) (.const (.int .i64 1)) (tget L 1) (.int .i64 1)) fun a1 => Obt (fldA 3 (tget L 5)) fun a2 => Obt (ld1 m a2) fun a3 => Obt (cbin Try.prog .add 3 (.tmp 52) (.tmp 54) a1 a3) fun a4 => Obt (bslX false 896 1 2 [.int .i64 0, .int .i64 0] [(0, 1, a0), (1, 1, a4)] m) fun a5 => Q .normal ⟨[(4, a5.1)], a5.2⟩) : Rg F 20 [4] c20r10 L m Q := Tx_told (by kernel_rfl) h
theorem t20r11 (h : Obt (fldA 0 (tget L 5)) fun a0 => Obt (ld1 m a0) fun a1 => Obt (cbin Try.prog .eql 3 (.tmp 59) (.const (.int .i64 24)) a1 (.int .i64 24)) fun a2 => Q .normal ⟨[(1, (tget L 1)), (57, a2)], m⟩) : Rg F 20 [1, 57] c20r11 L m Q := Tx_told (by kernel_rfl) h
theorem t20r12 (h : Obt (cbin Try.prog .add 3 (.tmp 61) (.const (.int .i64 2)) (tget L 1) (.int .i64 2)) fun a0 => Obt (bslX false 1008 1 1 [.int .i64 0] [(0, 1, a0)] m) fun a1 => Q .normal ⟨[(4, a1.1)], a1.2⟩) : Rg F 20 [4] c20r12 L m Q := Tx_told (by kernel_rfl) h
theorem t20r13 (h : Obt (cbin Try.prog .add 3 (.tmp 64) (.const (.int .i64 1)) (tget L 1) (.int .i64 1)) fun a0 => Obt (bslX false 1056 1 1 [.int .i64 0] [(0, 1, a0)] m) fun a1 => Q .normal ⟨[(4, a1.1)], a1.2⟩) : Rg F 20 [4] c20r13 L m Q := Tx_told (by kernel_rfl) h
def c32r0 := rg 32 Try.f32 0
def c32r1 := rg 32 Try.f32 1
def c32r2 := rg 32 Try.f32 2
def c32r3 := rg 32 Try.f32 3
def c32r4 := rg 32 Try.f32 4
def c32r5 := rg 32 Try.f32 5
def c32r7 := rg 32 Try.f32 7
def c32r6 := rg 32 Try.f32 6
def c32l0 : SC :=
  (.seq (.seq (.reg false (some [0, 5, 6, 35]) c32r5) (.cond (.tmp 35) .nop (.exit 0))) (.seq (.block 1 (.reg false (some [0, 5, 6]) c32r7)) (.reg false (some [0, 5, 6]) c32r6)))
def c32r8 := rg 32 Try.f32 8
def c32 : SC :=
  (.seq (.reg false (some [0, 1]) c32r0) (.seq (.seq (.reg false (some [0, 1, 23]) c32r1) (.cond (.tmp 23) (.seq (.reg false (some [4]) c32r2) .ret) .nop)) (.seq (.reg false (some [0, 1, 5]) c32r3) (.seq (.seq (.reg false (some [0, 5, 6]) c32r4) (.block 0 (.loop c32l0))) (.seq (.reg false (some [4]) c32r8) .ret)))))
theorem s32 : Try.f32.body.bind (strip Try.prog An 32 Try.f32.ntmps) = some c32 := by kernel_rfl
theorem g32 : An.glob 32 = [] := rfl
theorem r32 : Try.f32.results.toList = [(.tmp 4)] := by kernel_rfl
theorem t32r0 (h : Q .normal ⟨[(0, (tget L 0)), (1, (tget L 1))], m⟩) : Rg F 32 [0, 1] c32r0 L m Q := Tx_told (by kernel_rfl) h
theorem t32r1 (h : Obt (cbin Try.prog .lss 3 (.tmp 7) (.const (.int .i64 1)) (tget L 1) (.int .i64 1)) fun a0 => Obt (gdO a0 false (some ((tget L 1), m)) (.tuple [], m)) fun a1 => Obt (gdO a0 false (some ((tget L 0), a1.2)) (.tuple [], a1.2)) fun a2 => Obt (gdO a0 false ((lenS a2.1).map fun v => (v, a2.2)) (.tuple [], a2.2)) fun a3 => Obt (gdO a0 false ((cbin Try.prog .geq 3 (.tmp 10) (.tmp 12) a1.1 a3.1).map fun v => (v, a3.2)) (.tuple [], a3.2)) fun a4 => Obt (pickX a0 (.bool true) a4.1) fun a5 => Obt (gdO a5 false (some ((tget L 0), a4.2)) (.tuple [], a4.2)) fun a6 => Obt (gdO a5 false (some ((tget L 1), a6.2)) (.tuple [], a6.2)) fun a7 => Obt (gdO a5 false ((cbin Try.prog .sub 3 (.tmp 17) (.const (.int .i64 1)) a7.1 (.int .i64 1)).map fun v => (v, a7.2)) (.tuple [], a7.2)) fun a8 => Obt (gdO a5 false ((idxS 6 a6.1 a8.1).map fun v => (v, a8.2)) (.tuple [], a8.2)) fun a9 => Obt (gdO a5 false ((fldA 0 a9.1).map fun v => (v, a9.2)) (.tuple [], a9.2)) fun a10 => Obt (gdO a5 false ((ld1 a10.2 a10.1).map fun v => (v, a10.2)) (.tuple [], a10.2)) fun a11 => Obt (gdO a5 false ((cbin Try.prog .neq 3 (.tmp 21) (.const (.int .i64 24)) a11.1 (.int .i64 24)).map fun v => (v, a11.2)) (.tuple [], a11.2)) fun a12 => Obt (pickX a5 (.bool true) a12.1) fun a13 => Q .normal ⟨[(0, (tget L 0)), (1, (tget L 1)), (23, a13)], a12.2⟩) : Rg F 32 [0, 1, 23] c32r1 L m Q := Tx_told (by kernel_rfl) h
theorem t32r2 (h : Q .normal ⟨[(4, (.bool false))], m⟩) : Rg F 32 [4] c32r2 L m Q := Tx_told (by kernel_rfl) h
theorem t32r3 (h : Q .normal ⟨[(0, (tget L 0)), (1, (tget L 1)), (5, (.int .i64 0))], m⟩) : Rg F 32 [0, 1, 5] c32r3 L m Q := Tx_told (by kernel_rfl) h
theorem t32r4 (h : Obt (cbin Try.prog .sub 3 (.tmp 24) (.const (.int .i64 1)) (tget L 1) (.int .i64 1)) fun a0 => Q .normal ⟨[(0, (tget L 0)), (5, (tget L 5)), (6, a0)], m⟩) : Rg F 32 [0, 5, 6] c32r4 L m Q := Tx_told (by kernel_rfl) h
theorem t32r5 (h : Obt (cbin Try.prog .geq 3 (.tmp 26) (.const (.int .i64 0)) (tget L 6) (.int .i64 0)) fun a0 => Obt (gdO a0 true (some ((tget L 0), m)) (.tuple [], m)) fun a1 => Obt (gdO a0 true (some ((tget L 6), a1.2)) (.tuple [], a1.2)) fun a2 => Obt (gdO a0 true ((idxS 6 a1.1 a2.1).map fun v => (v, a2.2)) (.tuple [], a2.2)) fun a3 => Obt (gdO a0 true ((fldA 0 a3.1).map fun v => (v, a3.2)) (.tuple [], a3.2)) fun a4 => Obt (gdO a0 true ((ld1 a4.2 a4.1).map fun v => (v, a4.2)) (.tuple [], a4.2)) fun a5 => Obt (gdO a0 true ((cbin Try.prog .eql 3 (.tmp 33) (.const (.int .i64 24)) a5.1 (.int .i64 24)).map fun v => (v, a5.2)) (.tuple [], a5.2)) fun a6 => Obt (pickX a0 a6.1 (.bool false)) fun a7 => Q .normal ⟨[(0, (tget L 0)), (5, (tget L 5)), (6, (tget L 6)), (35, a7)], a6.2⟩) : Rg F 32 [0, 5, 6, 35] c32r5 L m Q := Tx_told (by kernel_rfl) h
theorem t32r7 (h : Obt (cbin Try.prog .add 3 (.tmp 38) (.const (.int .i64 1)) (tget L 5) (.int .i64 1)) fun a0 => Q .normal ⟨[(0, (tget L 0)), (5, a0), (6, (tget L 6))], m⟩) : Rg F 32 [0, 5, 6] c32r7 L m Q := Tx_told (by kernel_rfl) h
theorem t32r6 (h : Obt (cbin Try.prog .sub 3 (.tmp 36) (.const (.int .i64 1)) (tget L 6) (.int .i64 1)) fun a0 => Q .normal ⟨[(0, (tget L 0)), (5, (tget L 5)), (6, a0)], m⟩) : Rg F 32 [0, 5, 6] c32r6 L m Q := Tx_told (by kernel_rfl) h
theorem t32r8 (h : Obt (cbin Try.prog .rem 3 (.tmp 40) (.const (.int .i64 2)) (tget L 5) (.int .i64 2)) fun a0 => Obt (cbin Try.prog .eql 3 (.tmp 41) (.const (.int .i64 1)) a0 (.int .i64 1)) fun a1 => Q .normal ⟨[(4, a1)], m⟩) : Rg F 32 [4] c32r8 L m Q := Tx_told (by kernel_rfl) h
def c33r0 := rg 33 Try.f33 0
def c33r1 := rg 33 Try.f33 1
def c33r2 := rg 33 Try.f33 2
def c33r3 := rg 33 Try.f33 3
def c33r4 := rg 33 Try.f33 4
def c33r5 := rg 33 Try.f33 5
def c33 : SC :=
  (.seq (.reg false (some [0]) c33r0) (.seq (.reg false (some [0, 5]) c33r1) (.seq (.reg false (some [0, 5, 6]) c33r2) (.seq (.seq (.reg false (some [5, 6, 40]) c33r3) (.cond (.tmp 40) (.seq (.reg false (some [2, 3, 4]) c33r4) .ret) .nop)) (.seq (.reg false (some [2, 3, 4]) c33r5) .ret)))))
theorem s33 : Try.f33.body.bind (strip Try.prog An 33 Try.f33.ntmps) = some c33 := by kernel_rfl
theorem g33 : An.glob 33 = [] := rfl
theorem r33 : Try.f33.results.toList = [(.tmp 2), (.tmp 3), (.tmp 4)] := by kernel_rfl
theorem t33r0 (h : Q .normal ⟨[(0, (tget L 0))], m⟩) : Rg F 33 [0] c33r0 L m Q := Tx_told (by kernel_rfl) h
theorem t33r1 (h : Obt (cbin Try.prog .and 3 (.tmp 7) (.const (.int .i64 7)) (tget L 0) (.int .i64 7)) fun a0 => Q .normal ⟨[(0, (tget L 0)), (5, a0)], m⟩) : Rg F 33 [0, 5] c33r1 L m Q := Tx_told (by kernel_rfl) h
theorem t33r2 (h : Obt (cbin Try.prog .andNot 3 (.tmp 9) (.const (.int .i64 15)) (tget L 0) (.int .i64 15)) fun a0 => Q .normal ⟨[(0, (tget L 0)), (5, (tget L 5)), (6, a0)], m⟩) : Rg F 33 [0, 5, 6] c33r2 L m Q := Tx_told (by kernel_rfl) h
theorem t33r3 (h : Obt (cbin Try.prog .lss 3 (.tmp 11) (.const (.int .i64 0)) (tget L 0) (.int .i64 0)) fun a0 => Obt (gdO a0 false (some ((tget L 0), m)) (.tuple [], m)) fun a1 => Obt (gdO a0 false ((cbin Try.prog .gtr 3 (.tmp 14) (.const (.int .i64 255)) a1.1 (.int .i64 255)).map fun v => (v, a1.2)) (.tuple [], a1.2)) fun a2 => Obt (pickX a0 (.bool true) a2.1) fun a3 => Obt (gdO a3 false (some ((tget L 5), a2.2)) (.tuple [], a2.2)) fun a4 => Obt (gdO a3 false ((cbin Try.prog .neq 3 (.tmp 18) (.const (.int .i64 5)) a4.1 (.int .i64 5)).map fun v => (v, a4.2)) (.tuple [], a4.2)) fun a5 => Obt (gdO a3 false (some (a5.1, a5.2)) (.tuple [], a5.2)) fun a6 => Obt (gdO a6.1 true (some ((tget L 5), a6.2)) (.tuple [], a6.2)) fun a7 => Obt (gdO a6.1 true ((cbin Try.prog .neq 3 (.tmp 21) (.const (.int .i64 6)) a7.1 (.int .i64 6)).map fun v => (v, a7.2)) (.tuple [], a7.2)) fun a8 => Obt (gdO a3 false ((pickX a6.1 a8.1 (.bool false)).map fun v => (v, a8.2)) (.tuple [], a8.2)) fun a9 => Obt (pickX a3 (.bool true) a9.1) fun a10 => Obt (gdO a10 false (some ((tget L 6), a9.2)) (.tuple [], a9.2)) fun a11 => Obt (gdO a10 false ((cbin Try.prog .eql 3 (.tmp 26) (.const (.int .i64 0)) a11.1 (.int .i64 0)).map fun v => (v, a11.2)) (.tuple [], a11.2)) fun a12 => Obt (pickX a10 (.bool true) a12.1) fun a13 => Obt (gdO a13 false (some ((tget L 6), a12.2)) (.tuple [], a12.2)) fun a14 => Obt (gdO a13 false ((cbin Try.prog .eql 3 (.tmp 30) (.const (.int .i64 128)) a14.1 (.int .i64 128)).map fun v => (v, a14.2)) (.tuple [], a14.2)) fun a15 => Obt (pickX a13 (.bool true) a15.1) fun a16 => Obt (gdO a16 false (some ((tget L 6), a15.2)) (.tuple [], a15.2)) fun a17 => Obt (gdO a16 false ((cbin Try.prog .eql 3 (.tmp 34) (.const (.int .i64 144)) a17.1 (.int .i64 144)).map fun v => (v, a17.2)) (.tuple [], a17.2)) fun a18 => Obt (pickX a16 (.bool true) a18.1) fun a19 => Obt (gdO a19 false (some ((tget L 6), a18.2)) (.tuple [], a18.2)) fun a20 => Obt (gdO a19 false ((cbin Try.prog .gtr 3 (.tmp 38) (.const (.int .i64 208)) a20.1 (.int .i64 208)).map fun v => (v, a20.2)) (.tuple [], a20.2)) fun a21 => Obt (pickX a19 (.bool true) a21.1) fun a22 => Q .normal ⟨[(5, (tget L 5)), (6, (tget L 6)), (40, a22)], a21.2⟩) : Rg F 33 [5, 6, 40] c33r3 L m Q := Tx_told (by kernel_rfl) h
theorem t33r4 (h : Q .normal ⟨[(2, (.int .i64 0)), (3, (.bool false)), (4, (.bool false))], m⟩) : Rg F 33 [2, 3, 4] c33r4 L m Q := Tx_told (by kernel_rfl) h
theorem t33r5 (h : Obt (cbin Try.prog .eql 3 (.tmp 42) (.const (.int .i64 5)) (tget L 5) (.int .i64 5)) fun a0 => Q .normal ⟨[(2, (tget L 6)), (3, a0), (4, (.bool true))], m⟩) : Rg F 33 [2, 3, 4] c33r5 L m Q := Tx_told (by kernel_rfl) h
def c34r0 := rg 34 Try.f34 0
def c34r1 := rg 34 Try.f34 1
def c34r2 := rg 34 Try.f34 2
def c34r3 := rg 34 Try.f34 3
def c34r4 := rg 34 Try.f34 4
def c34r5 := rg 34 Try.f34 5
def c34l0 : SC :=
  (.seq (.seq (.reg false (some [0, 1, 5, 27]) c34r4) (.cond (.tmp 27) .nop (.exit 0))) (.block 1 (.reg false (some [0, 1, 5]) c34r5)))
def c34r6 := rg 34 Try.f34 6
def c34 : SC :=
  (.seq (.reg false (some [0, 1]) c34r0) (.seq (.seq (.reg false (some [0, 1, 13]) c34r1) (.cond (.tmp 13) (.seq (.reg false (some [4]) c34r2) .ret) .nop)) (.seq (.reg false (some [0, 1, 5]) c34r3) (.seq (.block 0 (.loop c34l0)) (.seq (.reg false (some [4]) c34r6) .ret)))))
theorem s34 : Try.f34.body.bind (strip Try.prog An 34 Try.f34.ntmps) = some c34 := by kernel_rfl
theorem g34 : An.glob 34 = [] := rfl
theorem r34 : Try.f34.results.toList = [(.tmp 4)] := by kernel_rfl
theorem t34r0 (h : Q .normal ⟨[(0, (tget L 0)), (1, (tget L 1))], m⟩) : Rg F 34 [0, 1] c34r0 L m Q := Tx_told (by kernel_rfl) h
theorem t34r1 (h : Obt (cbin Try.prog .lss 3 (.tmp 6) (.const (.int .i64 1)) (tget L 1) (.int .i64 1)) fun a0 => Obt (gdO a0 false (some ((tget L 1), m)) (.tuple [], m)) fun a1 => Obt (gdO a0 false (some ((tget L 0), a1.2)) (.tuple [], a1.2)) fun a2 => Obt (gdO a0 false ((lenS a2.1).map fun v => (v, a2.2)) (.tuple [], a2.2)) fun a3 => Obt (gdO a0 false ((cbin Try.prog .geq 3 (.tmp 9) (.tmp 11) a1.1 a3.1).map fun v => (v, a3.2)) (.tuple [], a3.2)) fun a4 => Obt (pickX a0 (.bool true) a4.1) fun a5 => Q .normal ⟨[(0, (tget L 0)), (1, (tget L 1)), (13, a5)], a4.2⟩) : Rg F 34 [0, 1, 13] c34r1 L m Q := Tx_told (by kernel_rfl) h
theorem t34r2 (h : Q .normal ⟨[(4, (.bool false))], m⟩) : Rg F 34 [4] c34r2 L m Q := Tx_told (by kernel_rfl) h
theorem t34r3 (h : Q .normal ⟨[(0, (tget L 0)), (1, (tget L 1)), (5, (.int .i64 0))], m⟩) : Rg F 34 [0, 1, 5] c34r3 L m Q := Tx_told (by kernel_rfl) h
theorem t34r4 (h : Obt (cbin Try.prog .lss 3 (.tmp 14) (.tmp 15) (tget L 5) (tget L 1)) fun a0 => Obt (gdO a0 true (some ((tget L 0), m)) (.tuple [], m)) fun a1 => Obt (gdO a0 true (some ((tget L 1), a1.2)) (.tuple [], a1.2)) fun a2 => Obt (gdO a0 true ((cbin Try.prog .sub 3 (.tmp 19) (.const (.int .i64 1)) a2.1 (.int .i64 1)).map fun v => (v, a2.2)) (.tuple [], a2.2)) fun a3 => Obt (gdO a0 true (some ((tget L 5), a3.2)) (.tuple [], a3.2)) fun a4 => Obt (gdO a0 true ((cbin Try.prog .sub 3 (.tmp 20) (.tmp 21) a3.1 a4.1).map fun v => (v, a4.2)) (.tuple [], a4.2)) fun a5 => Obt (gdO a0 true ((idxS 6 a1.1 a5.1).map fun v => (v, a5.2)) (.tuple [], a5.2)) fun a6 => Obt (gdO a0 true ((fldA 0 a6.1).map fun v => (v, a6.2)) (.tuple [], a6.2)) fun a7 => Obt (gdO a0 true ((ld1 a7.2 a7.1).map fun v => (v, a7.2)) (.tuple [], a7.2)) fun a8 => Obt (gdO a0 true ((cbin Try.prog .eql 3 (.tmp 25) (.const (.int .i64 24)) a8.1 (.int .i64 24)).map fun v => (v, a8.2)) (.tuple [], a8.2)) fun a9 => Obt (pickX a0 a9.1 (.bool false)) fun a10 => Q .normal ⟨[(0, (tget L 0)), (1, (tget L 1)), (5, (tget L 5)), (27, a10)], a9.2⟩) : Rg F 34 [0, 1, 5, 27] c34r4 L m Q := Tx_told (by kernel_rfl) h
theorem t34r5 (h : Obt (cbin Try.prog .add 3 (.tmp 28) (.const (.int .i64 1)) (tget L 5) (.int .i64 1)) fun a0 => Q .normal ⟨[(0, (tget L 0)), (1, (tget L 1)), (5, a0)], m⟩) : Rg F 34 [0, 1, 5] c34r5 L m Q := Tx_told (by kernel_rfl) h
theorem t34r6 (h : Obt (cbin Try.prog .and 3 (.tmp 30) (.const (.int .i64 1)) (tget L 5) (.int .i64 1)) fun a0 => Obt (cbin Try.prog .eql 3 (.tmp 31) (.const (.int .i64 1)) a0 (.int .i64 1)) fun a1 => Q .normal ⟨[(4, a1)], m⟩) : Rg F 34 [4] c34r6 L m Q := Tx_told (by kernel_rfl) h
def c35r0 := rg 35 Try.f35 0
def c35r1 := rg 35 Try.f35 1
def c35r2 := rg 35 Try.f35 2
def c35r3 := rg 35 Try.f35 3
def c35r4 := rg 35 Try.f35 4
def c35r5 := rg 35 Try.f35 5
def c35r6 := rg 35 Try.f35 6
def c35r7 := rg 35 Try.f35 7
def c35r8 := rg 35 Try.f35 8
def c35r9 := rg 35 Try.f35 9
def c35r10 := rg 35 Try.f35 10
def c35r11 := rg 35 Try.f35 11
def c35r12 := rg 35 Try.f35 12
def c35r13 := rg 35 Try.f35 13
def c35r14 := rg 35 Try.f35 14
def c35r15 := rg 35 Try.f35 15
def c35r16 := rg 35 Try.f35 16
def c35r17 := rg 35 Try.f35 17
def c35r18 := rg 35 Try.f35 18
def c35r19 := rg 35 Try.f35 19
def c35r20 := rg 35 Try.f35 20
def c35r21 := rg 35 Try.f35 21
def c35r22 := rg 35 Try.f35 22
def c35r23 := rg 35 Try.f35 23
def c35r24 := rg 35 Try.f35 24
def c35 : SC :=
  (.seq (.reg false (some [1]) c35r0) (.seq (.reg false (some [1, 3, 4, 5]) c35r1) (.seq (.reg false (some [1, 3, 4, 5, 8]) c35r2) (.seq (.reg false (some [1, 3, 4, 5, 8, 9]) c35r3) (.seq (.seq (.reg false (some [1, 3, 4, 5, 8, 9, 35]) c35r4) (.cond (.tmp 35) (.reg false (some [1, 3, 4, 5, 8, 9]) c35r5) .nop)) (.seq (.seq (.reg false (some [1, 3, 4, 5, 8, 51]) c35r6) (.cond (.tmp 51) (.seq (.reg false (some [2]) c35r7) .ret) .nop)) (.seq (.block 0 (.seq (.reg false (some [1, 3, 4, 8, 52]) c35r8) (.cond (.tmp 52) (.seq (.reg false (some [2]) c35r9) .ret) (.seq (.reg false (some [1, 58]) c35r10) (.cond (.tmp 58) (.seq (.reg false (some [2]) c35r11) .ret) (.seq (.reg false (some [1, 62]) c35r12) (.cond (.tmp 62) (.seq (.reg false (some [2]) c35r13) .ret) (.seq (.reg false (some [1, 74]) c35r14) (.cond (.tmp 74) (.seq (.reg false (some [2]) c35r15) .ret) (.seq (.reg false (some [1, 91]) c35r16) (.cond (.tmp 91) (.seq (.reg false (some [2]) c35r17) .ret) (.seq (.reg false (some [1, 105]) c35r18) (.cond (.tmp 105) (.seq (.reg false (some [2]) c35r19) .ret) (.seq (.reg false (some [1, 111]) c35r20) (.cond (.tmp 111) (.seq (.reg false (some [2]) c35r21) .ret) (.seq (.reg false (some [1, 116]) c35r22) (.cond (.tmp 116) (.seq (.reg false (some [2]) c35r23) .ret) .nop))))))))))))))))) (.seq (.reg false (some [2]) c35r24) .ret))))))))
theorem s35 : Try.f35.body.bind (strip Try.prog An 35 Try.f35.ntmps) = some c35 := by kernel_rfl
theorem g35 : An.glob 35 = [] := rfl
theorem r35 : Try.f35.results.toList = [(.tmp 2)] := by kernel_rfl
theorem t35r0 (h : Obt (ccells (tget L 0)) fun a0 => Q .normal ⟨[(1, (newP m 16))], (newL m 16 a0)⟩) : Rg F 35 [1] c35r0 L m Q := Tx_told (by kernel_rfl) h
theorem t35r1 (h : Obt (fldA 0 (tget L 1)) fun a0 => Obt (ld1 m a0) fun a1 => Obt (callC An F 35 (some 13) 43 [a1] m) fun a2 => Obt (extX 0 a2.1) fun a3 => Obt (extX 1 a2.1) fun a4 => Obt (extX 2 a2.1) fun a5 => Q .normal ⟨[(1, (tget L 1)), (3, a3), (4, a4), (5, a5)], a2.2⟩) : Rg F 35 [1, 3, 4, 5] c35r1 L m Q := Tx_told (by kernel_rfl) h
theorem t35r2 (h : Obt (fldA 0 (tget L 1)) fun a0 => Obt (ld1 m a0) fun a1 => Obt (callC An F 35 (some 20) 36 [a1] m) fun a2 => Obt (extX 0 a2.1) fun a3 => Obt (extX 1 a2.1) fun a4 => Obt (extX 2 a2.1) fun a5 => Q .normal ⟨[(1, (tget L 1)), (3, (tget L 3)), (4, (tget L 4)), (5, (tget L 5)), (8, a5)], a2.2⟩) : Rg F 35 [1, 3, 4, 5, 8] c35r2 L m Q := Tx_told (by kernel_rfl) h
theorem t35r3 (h : Q .normal ⟨[(1, (tget L 1)), (3, (tget L 3)), (4, (tget L 4)), (5, (tget L 5)), (8, (tget L 8)), (9, (.int .i64 10))], m⟩) : Rg F 35 [1, 3, 4, 5, 8, 9] c35r3 L m Q := Tx_told (by kernel_rfl) h
theorem t35r4 (h : Obt (gdO (tget L 5) false ((fldA 0 (tget L 1)).map fun v => (v, m)) (.tuple [], m)) fun a0 => Obt (gdO (tget L 5) false ((ld1 a0.2 a0.1).map fun v => (v, a0.2)) (.tuple [], a0.2)) fun a1 => Obt (gdO (tget L 5) false (callC An F 35 (some 28) 44 [a1.1] a1.2) (.tuple [], a1.2)) fun a2 => Obt (gdO (tget L 5) false ((cbin Try.prog .eql 3 (.tmp 28) (.const (.int .i64 1)) a2.1 (.int .i64 1)).map fun v => (v, a2.2)) (.tuple [], a2.2)) fun a3 => Obt (pickX (tget L 5) (.bool true) a3.1) fun a4 => Obt (gdO a4 false ((fldA 0 (tget L 1)).map fun v => (v, a3.2)) (.tuple [], a3.2)) fun a5 => Obt (gdO a4 false ((ld1 a5.2 a5.1).map fun v => (v, a5.2)) (.tuple [], a5.2)) fun a6 => Obt (gdO a4 false ((cbin Try.prog .eql 3 (.tmp 33) (.const (.int .i64 24)) a6.1 (.int .i64 24)).map fun v => (v, a6.2)) (.tuple [], a6.2)) fun a7 => Obt (pickX a4 (.bool true) a7.1) fun a8 => Q .normal ⟨[(1, (tget L 1)), (3, (tget L 3)), (4, (tget L 4)), (5, (tget L 5)), (8, (tget L 8)), (9, (tget L 9)), (35, a8)], a7.2⟩) : Rg F 35 [1, 3, 4, 5, 8, 9, 35] c35r4 L m Q := Tx_told (by kernel_rfl) h
theorem t35r5 (h : Obt (cbin Try.prog .sub 3 (.tmp 36) (.const (.int .i64 1)) (tget L 9) (.int .i64 1)) fun a0 => Q .normal ⟨[(1, (tget L 1)), (3, (tget L 3)), (4, (tget L 4)), (5, (tget L 5)), (8, (tget L 8)), (9, a0)], m⟩) : Rg F 35 [1, 3, 4, 5, 8, 9] c35r5 L m Q := Tx_told (by kernel_rfl) h
theorem t35r6 (h : Obt (ldA 6 m (tget L 1)) fun a0 => Obt (callC An F 35 (some 40) 45 [a0, (tget L 9)] m) fun a1 => Obt (cun .not a1.1) fun a2 => Obt (gdO a2 false ((fldA 0 (tget L 1)).map fun v => (v, a1.2)) (.tuple [], a1.2)) fun a3 => Obt (gdO a2 false ((ld1 a3.2 a3.1).map fun v => (v, a3.2)) (.tuple [], a3.2)) fun a4 => Obt (gdO a2 false ((cbin Try.prog .neq 3 (.tmp 44) (.const (.int .i64 24)) a4.1 (.int .i64 24)).map fun v => (v, a4.2)) (.tuple [], a4.2)) fun a5 => Obt (gdO a2 false (some (a5.1, a5.2)) (.tuple [], a5.2)) fun a6 => Obt (gdO a6.1 true ((fldA 5 (tget L 1)).map fun v => (v, a6.2)) (.tuple [], a6.2)) fun a7 => Obt (gdO a6.1 true ((ld1 a7.2 a7.1).map fun v => (v, a7.2)) (.tuple [], a7.2)) fun a8 => Obt (gdO a6.1 true ((cbin Try.prog .neq 45 (.tmp 48) (.const (.int .u64 0)) a8.1 (.int .u64 0)).map fun v => (v, a8.2)) (.tuple [], a8.2)) fun a9 => Obt (gdO a2 false ((pickX a6.1 a9.1 (.bool false)).map fun v => (v, a9.2)) (.tuple [], a9.2)) fun a10 => Obt (pickX a2 (.bool true) a10.1) fun a11 => Q .normal ⟨[(1, (tget L 1)), (3, (tget L 3)), (4, (tget L 4)), (5, (tget L 5)), (8, (tget L 8)), (51, a11)], a10.2⟩) : Rg F 35 [1, 3, 4, 5, 8, 51] c35r6 L m Q := Tx_told (by kernel_rfl) h
theorem t35r7 (h : Q .normal ⟨[(2, (.bool false))], m⟩) : Rg F 35 [2] c35r7 L m Q := Tx_told (by kernel_rfl) h
theorem t35r8 (h : Q .normal ⟨[(1, (tget L 1)), (3, (tget L 3)), (4, (tget L 4)), (8, (tget L 8)), (52, (tget L 5))], m⟩) : Rg F 35 [1, 3, 4, 8, 52] c35r8 L m Q := Tx_told (by kernel_rfl) h
theorem t35r9 (h : Obt (ldA 6 m (tget L 1)) fun a0 => Obt (callC An F 35 (some 57) 46 [a0, (tget L 3), (tget L 4)] m) fun a1 => Q .normal ⟨[(2, a1.1)], a1.2⟩) : Rg F 35 [2] c35r9 L m Q := Tx_told (by kernel_rfl) h
theorem t35r10 (h : Q .normal ⟨[(1, (tget L 1)), (58, (tget L 8))], m⟩) : Rg F 35 [1, 58] c35r10 L m Q := Tx_told (by kernel_rfl) h
theorem t35r11 (h : Obt (ldA 6 m (tget L 1)) fun a0 => Obt (callC An F 35 (some 61) 47 [a0] m) fun a1 => Q .normal ⟨[(2, a1.1)], a1.2⟩) : Rg F 35 [2] c35r11 L m Q := Tx_told (by kernel_rfl) h
theorem t35r12 (h : Obt (fldA 0 (tget L 1)) fun a0 => Obt (ld1 m a0) fun a1 => Obt (cbin Try.prog .eql 3 (.tmp 64) (.const (.int .i64 5)) a1 (.int .i64 5)) fun a2 => Q .normal ⟨[(1, (tget L 1)), (62, a2)], m⟩) : Rg F 35 [1, 62] c35r12 L m Q := Tx_told (by kernel_rfl) h
theorem t35r13 (h : Obt (fldA 1 (tget L 1)) fun a0 => Obt (ld1 m a0) fun a1 => Obt (fldA 2 (tget L 1)) fun a2 => Obt (ld1 m a2) fun a3 => Obt (fldA 4 (tget L 1)) fun a4 => Obt (ld1 m a4) fun a5 => Obt (bslX false 1152 1 3 [.int .i64 0, .int .i64 0, .int .i64 0] [(0, 1, a1), (1, 1, a3), (2, 1, a5)] m) fun a6 => Obt (callC An F 35 (some 73) 48 [a6.1] a6.2) fun a7 => Q .normal ⟨[(2, a7.1)], a7.2⟩) : Rg F 35 [2] c35r13 L m Q := Tx_told (by kernel_rfl) h
theorem t35r14 (h : Obt (fldA 0 (tget L 1)) fun a0 => Obt (ld1 m a0) fun a1 => Obt (cbin Try.prog .eql 3 (.tmp 76) (.const (.int .i64 133)) a1 (.int .i64 133)) fun a2 => Q .normal ⟨[(1, (tget L 1)), (74, a2)], m⟩) : Rg F 35 [1, 74] c35r14 L m Q := Tx_told (by kernel_rfl) h
theorem t35r15 (h : Obt (fldA 1 (tget L 1)) fun a0 => Obt (ld1 m a0) fun a1 => Obt (fldA 2 (tget L 1)) fun a2 => Obt (ld1 m a2) fun a3 => Obt (fldA 3 (tget L 1)) fun a4 => Obt (ld1 m a4) fun a5 => Obt (bslX false 1344 1 3 [.int .i64 0, .int .i64 0, .int .i64 0] [(0, 1, a1), (1, 1, a3), (2, 1, a5)] m) fun a6 => Obt (callC An F 35 (some 85) 48 [a6.1] a6.2) fun a7 => Obt (gdO a7.1 true ((fldA 4 (tget L 1)).map fun v => (v, a7.2)) (.tuple [], a7.2)) fun a8 => Obt (gdO a7.1 true ((ld1 a8.2 a8.1).map fun v => (v, a8.2)) (.tuple [], a8.2)) fun a9 => Obt (gdO a7.1 true (callC An F 35 (some 89) 49 [a9.1, (.int .i64 1), (.int .i64 5)] a9.2) (.tuple [], a9.2)) fun a10 => Obt (pickX a7.1 a10.1 (.bool false)) fun a11 => Q .normal ⟨[(2, a11)], a10.2⟩) : Rg F 35 [2] c35r15 L m Q := Tx_told (by kernel_rfl) h
theorem t35r16 (h : Obt (fldA 0 (tget L 1)) fun a0 => Obt (ld1 m a0) fun a1 => Obt (cbin Try.prog .eql 3 (.tmp 93) (.const (.int .i64 149)) a1 (.int .i64 149)) fun a2 => Q .normal ⟨[(1, (tget L 1)), (91, a2)], m⟩) : Rg F 35 [1, 91] c35r16 L m Q := Tx_told (by kernel_rfl) h
theorem t35r17 (h : Obt (fldA 1 (tget L 1)) fun a0 => Obt (ld1 m a0) fun a1 => Obt (fldA 2 (tget L 1)) fun a2 => Obt (ld1 m a2) fun a3 => Obt (fldA 3 (tget L 1)) fun a4 => Obt (ld1 m a4) fun a5 => Obt (fldA 4 (tget L 1)) fun a6 => Obt (ld1 m a6) fun a7 => Obt (bslX false 1648 1 4 [.int .i64 0, .int .i64 0, .int .i64 0, .int .i64 0] [(0, 1, a1), (1, 1, a3), (2, 1, a5), (3, 1, a7)] m) fun a8 => Obt (callC An F 35 (some 104) 48 [a8.1] a8.2) fun a9 => Q .normal ⟨[(2, a9.1)], a9.2⟩) : Rg F 35 [2] c35r17 L m Q := Tx_told (by kernel_rfl) h
theorem t35r18 (h : Obt (fldA 0 (tget L 1)) fun a0 => Obt (ld1 m a0) fun a1 => Obt (cbin Try.prog .eql 3 (.tmp 107) (.const (.int .i64 24)) a1 (.int .i64 24)) fun a2 => Q .normal ⟨[(1, (tget L 1)), (105, a2)], m⟩) : Rg F 35 [1, 105] c35r18 L m Q := Tx_told (by kernel_rfl) h
theorem t35r19 (h : Obt (ldA 6 m (tget L 1)) fun a0 => Obt (callC An F 35 (some 110) 50 [a0] m) fun a1 => Q .normal ⟨[(2, a1.1)], a1.2⟩) : Rg F 35 [2] c35r19 L m Q := Tx_told (by kernel_rfl) h
theorem t35r20 (h : Obt (fldA 0 (tget L 1)) fun a0 => Obt (ld1 m a0) fun a1 => Obt (callC An F 35 (some 114) 51 [a1] m) fun a2 => Obt (cbin Try.prog .eql 3 (.tmp 114) (.const (.int .i64 0)) a2.1 (.int .i64 0)) fun a3 => Q .normal ⟨[(1, (tget L 1)), (111, a3)], a2.2⟩) : Rg F 35 [1, 111] c35r20 L m Q := Tx_told (by kernel_rfl) h
theorem t35r21 (h : Q .normal ⟨[(2, (.bool false))], m⟩) : Rg F 35 [2] c35r21 L m Q := Tx_told (by kernel_rfl) h
theorem t35r22 (h : Obt (fldA 0 (tget L 1)) fun a0 => Obt (ld1 m a0) fun a1 => Obt (callC An F 35 (some 119) 44 [a1] m) fun a2 => Obt (cbin Try.prog .eql 3 (.tmp 119) (.const (.int .i64 2)) a2.1 (.int .i64 2)) fun a3 => Q .normal ⟨[(1, (tget L 1)), (116, a3)], a2.2⟩) : Rg F 35 [1, 116] c35r22 L m Q := Tx_told (by kernel_rfl) h
theorem t35r23 (h : Obt (fldA 2 (tget L 1)) fun a0 => Obt (ld1 m a0) fun a1 => Obt (bslX false 1968 1 1 [.int .i64 0] [(0, 1, a1)] m) fun a2 => Obt (callC An F 35 (some 124) 48 [a2.1] a2.2) fun a3 => Q .normal ⟨[(2, a3.1)], a3.2⟩) : Rg F 35 [2] c35r23 L m Q := Tx_told (by kernel_rfl) h
theorem t35r24 (h : Obt (fldA 4 (tget L 1)) fun a0 => Obt (ld1 m a0) fun a1 => Obt (bslX false 2032 1 1 [.int .i64 0] [(0, 1, a1)] m) fun a2 => Obt (callC An F 35 (some 128) 48 [a2.1] a2.2) fun a3 => Q .normal ⟨[(2, a3.1)], a3.2⟩) : Rg F 35 [2] c35r24 L m Q := Tx_told (by kernel_rfl) h
def c36r0 := rg 36 Try.f36 0
def c36r1 := rg 36 Try.f36 1
def c36r2 := rg 36 Try.f36 2
def c36r3 := rg 36 Try.f36 3
def c36r4 := rg 36 Try.f36 4
def c36r5 := rg 36 Try.f36 5
def c36 : SC :=
  (.seq (.reg false (some [0]) c36r0) (.seq (.reg false (some [5, 6]) c36r1) (.seq (.reg false (some [5, 6, 8]) c36r2) (.seq (.seq (.reg false (some [5, 6, 27]) c36r3) (.cond (.tmp 27) (.seq (.reg false (some [2, 3, 4]) c36r4) .ret) .nop)) (.seq (.reg false (some [2, 3, 4]) c36r5) .ret)))))
theorem s36 : Try.f36.body.bind (strip Try.prog An 36 Try.f36.ntmps) = some c36 := by kernel_rfl
theorem g36 : An.glob 36 = [] := rfl
theorem r36 : Try.f36.results.toList = [(.tmp 2), (.tmp 3), (.tmp 4)] := by kernel_rfl
theorem t36r0 (h : Q .normal ⟨[(0, (tget L 0))], m⟩) : Rg F 36 [0] c36r0 L m Q := Tx_told (by kernel_rfl) h
theorem t36r1 (h : Obt (callC An F 36 (some 10) 44 [(tget L 0)] m) fun a0 => Obt (cbin Try.prog .and 3 (.tmp 11) (.const (.int .i64 240)) (tget L 0) (.int .i64 240)) fun a1 => Q .normal ⟨[(5, a0.1), (6, a1)], a0.2⟩) : Rg F 36 [5, 6] c36r1 L m Q := Tx_told (by kernel_rfl) h
theorem t36r2 (h : Obt (callC An F 36 (some 15) 52 [(tget L 6), (.int .u64 0), (.int .u64 0), (.bool true)] m) fun a0 => Obt (extX 0 a0.1) fun a1 => Obt (extX 1 a0.1) fun a2 => Q .normal ⟨[(5, (tget L 5)), (6, (tget L 6)), (8, a2)], a0.2⟩) : Rg F 36 [5, 6, 8] c36r2 L m Q := Tx_told (by kernel_rfl) h
theorem t36r3 (h : Obt (cbin Try.prog .neq 3 (.tmp 18) (.const (.int .i64 5)) (tget L 5) (.int .i64 5)) fun a0 => Obt (gdO a0 true (some ((tget L 5), m)) (.tuple [], m)) fun a1 => Obt (gdO a0 true ((cbin Try.prog .neq 3 (.tmp 21) (.const (.int .i64 6)) a1.1 (.int .i64 6)).map fun v => (v, a1.2)) (.tuple [], a1.2)) fun a2 => Obt (pickX a0 a2.1 (.bool false)) fun a3 => Obt (gdO a3 false (some ((tget L 8), a2.2)) (.tuple [], a2.2)) fun a4 => Obt (gdO a3 false ((cun .not a4.1).map fun v => (v, a4.2)) (.tuple [], a4.2)) fun a5 => Obt (pickX a3 (.bool true) a5.1) fun a6 => Q .normal ⟨[(5, (tget L 5)), (6, (tget L 6)), (27, a6)], a5.2⟩) : Rg F 36 [5, 6, 27] c36r3 L m Q := Tx_told (by kernel_rfl) h
theorem t36r4 (h : Q .normal ⟨[(2, (.int .i64 0)), (3, (.bool false)), (4, (.bool false))], m⟩) : Rg F 36 [2, 3, 4] c36r4 L m Q := Tx_told (by kernel_rfl) h
theorem t36r5 (h : Obt (cbin Try.prog .eql 3 (.tmp 29) (.const (.int .i64 5)) (tget L 5) (.int .i64 5)) fun a0 => Q .normal ⟨[(2, (tget L 6)), (3, a0), (4, (.bool true))], m⟩) : Rg F 36 [2, 3, 4] c36r5 L m Q := Tx_told (by kernel_rfl) h
def c37r0 := rg 37 Try.f37 0
def c37r1 := rg 37 Try.f37 1
def c37r2 := rg 37 Try.f37 2
def c37r3 := rg 37 Try.f37 3
def c37 : SC :=
  (.seq (.reg false (some [1]) c37r0) (.seq (.seq (.reg false (some [5]) c37r1) (.cond (.tmp 5) (.seq (.reg false (some [2]) c37r2) .ret) .nop)) (.seq (.reg false (some [2]) c37r3) .ret)))
theorem s37 : Try.f37.body.bind (strip Try.prog An 37 Try.f37.ntmps) = some c37 := by kernel_rfl
theorem g37 : An.glob 37 = [] := rfl
theorem r37 : Try.f37.results.toList = [(.tmp 2)] := by kernel_rfl
theorem t37r0 (h : Obt (ccells (tget L 0)) fun a0 => Q .normal ⟨[(1, (newP m 16))], (newL m 16 a0)⟩) : Rg F 37 [1] c37r0 L m Q := Tx_told (by kernel_rfl) h
theorem t37r1 (h : Obt (fldA 0 (tget L 1)) fun a0 => Obt (ld1 m a0) fun a1 => Obt (cbin Try.prog .eql 3 (.tmp 4) (.const (.int .i64 24)) a1 (.int .i64 24)) fun a2 => Q .normal ⟨[(5, a2)], m⟩) : Rg F 37 [5] c37r1 L m Q := Tx_told (by kernel_rfl) h
theorem t37r2 (h : Q .normal ⟨[(2, (.int .i64 2))], m⟩) : Rg F 37 [2] c37r2 L m Q := Tx_told (by kernel_rfl) h
theorem t37r3 (h : Q .normal ⟨[(2, (.int .i64 1))], m⟩) : Rg F 37 [2] c37r3 L m Q := Tx_told (by kernel_rfl) h
def c43r0 := rg 43 Try.f43 0
def c43r1 := rg 43 Try.f43 1
def c43r2 := rg 43 Try.f43 2
def c43r3 := rg 43 Try.f43 3
def c43r4 := rg 43 Try.f43 4
def c43r5 := rg 43 Try.f43 5
def c43 : SC :=
  (.seq (.reg false (some [0]) c43r0) (.seq (.reg false (some [0, 5, 6]) c43r1) (.seq (.reg false (some [0, 5, 6, 8]) c43r2) (.seq (.seq (.reg false (some [5, 6, 36]) c43r3) (.cond (.tmp 36) (.seq (.reg false (some [2, 3, 4]) c43r4) .ret) .nop)) (.seq (.reg false (some [2, 3, 4]) c43r5) .ret)))))
theorem s43 : Try.f43.body.bind (strip Try.prog An 43 Try.f43.ntmps) = some c43 := by kernel_rfl
theorem g43 : An.glob 43 = [] := rfl
theorem r43 : Try.f43.results.toList = [(.tmp 2), (.tmp 3), (.tmp 4)] := by kernel_rfl
theorem t43r0 (h : Q .normal ⟨[(0, (tget L 0))], m⟩) : Rg F 43 [0] c43r0 L m Q := Tx_told (by kernel_rfl) h
theorem t43r1 (h : Obt (callC An F 43 (some 10) 44 [(tget L 0)] m) fun a0 => Obt (cbin Try.prog .and 3 (.tmp 11) (.const (.int .i64 240)) (tget L 0) (.int .i64 240)) fun a1 => Q .normal ⟨[(0, (tget L 0)), (5, a0.1), (6, a1)], a0.2⟩) : Rg F 43 [0, 5, 6] c43r1 L m Q := Tx_told (by kernel_rfl) h
theorem t43r2 (h : Obt (callC An F 43 (some 15) 62 [(tget L 6), (.int .u64 0), (.int .u64 0), (.bool true)] m) fun a0 => Obt (extX 0 a0.1) fun a1 => Obt (extX 1 a0.1) fun a2 => Q .normal ⟨[(0, (tget L 0)), (5, (tget L 5)), (6, (tget L 6)), (8, a2)], a0.2⟩) : Rg F 43 [0, 5, 6, 8] c43r2 L m Q := Tx_told (by kernel_rfl) h
theorem t43r3 (h : Obt (cbin Try.prog .neq 3 (.tmp 18) (.const (.int .i64 4)) (tget L 5) (.int .i64 4)) fun a0 => Obt (gdO a0 true (some ((tget L 5), m)) (.tuple [], m)) fun a1 => Obt (gdO a0 true ((cbin Try.prog .neq 3 (.tmp 21) (.const (.int .i64 7)) a1.1 (.int .i64 7)).map fun v => (v, a1.2)) (.tuple [], a1.2)) fun a2 => Obt (pickX a0 a2.1 (.bool false)) fun a3 => Obt (gdO a3 false (some ((tget L 8), a2.2)) (.tuple [], a2.2)) fun a4 => Obt (gdO a3 false ((cun .not a4.1).map fun v => (v, a4.2)) (.tuple [], a4.2)) fun a5 => Obt (pickX a3 (.bool true) a5.1) fun a6 => Obt (gdO a6 false (some ((tget L 6), a5.2)) (.tuple [], a5.2)) fun a7 => Obt (gdO a6 false ((cbin Try.prog .eql 3 (.tmp 29) (.const (.int .i64 128)) a7.1 (.int .i64 128)).map fun v => (v, a7.2)) (.tuple [], a7.2)) fun a8 => Obt (gdO a6 false (some (a8.1, a8.2)) (.tuple [], a8.2)) fun a9 => Obt (gdO a9.1 true (some ((tget L 0), a9.2)) (.tuple [], a9.2)) fun a10 => Obt (gdO a9.1 true ((cbin Try.prog .and 3 (.tmp 32) (.const (.int .i64 8)) a10.1 (.int .i64 8)).map fun v => (v, a10.2)) (.tuple [], a10.2)) fun a11 => Obt (gdO a9.1 true ((cbin Try.prog .gtr 3 (.tmp 33) (.const (.int .i64 0)) a11.1 (.int .i64 0)).map fun v => (v, a11.2)) (.tuple [], a11.2)) fun a12 => Obt (gdO a6 false ((pickX a9.1 a12.1 (.bool false)).map fun v => (v, a12.2)) (.tuple [], a12.2)) fun a13 => Obt (pickX a6 (.bool true) a13.1) fun a14 => Q .normal ⟨[(5, (tget L 5)), (6, (tget L 6)), (36, a14)], a13.2⟩) : Rg F 43 [5, 6, 36] c43r3 L m Q := Tx_told (by kernel_rfl) h
theorem t43r4 (h : Q .normal ⟨[(2, (.int .i64 0)), (3, (.bool false)), (4, (.bool false))], m⟩) : Rg F 43 [2, 3, 4] c43r4 L m Q := Tx_told (by kernel_rfl) h
theorem t43r5 (h : Obt (cbin Try.prog .eql 3 (.tmp 38) (.const (.int .i64 7)) (tget L 5) (.int .i64 7)) fun a0 => Q .normal ⟨[(2, (tget L 6)), (3, a0), (4, (.bool true))], m⟩) : Rg F 43 [2, 3, 4] c43r5 L m Q := Tx_told (by kernel_rfl) h
def c44r0 := rg 44 Try.f44 0
def c44r1 := rg 44 Try.f44 1
def c44r2 := rg 44 Try.f44 2
def c44r3 := rg 44 Try.f44 3
def c44 : SC :=
  (.seq (.reg false (some [0]) c44r0) (.seq (.seq (.reg false (some [0, 8]) c44r1) (.cond (.tmp 8) (.seq (.reg false (some [2]) c44r2) .ret) .nop)) (.seq (.reg false (some [2]) c44r3) .ret)))
theorem s44 : Try.f44.body.bind (strip Try.prog An 44 Try.f44.ntmps) = some c44 := by kernel_rfl
theorem g44 : An.glob 44 = [] := rfl
theorem r44 : Try.f44.results.toList = [(.tmp 2)] := by kernel_rfl
theorem t44r0 (h : Q .normal ⟨[(0, (tget L 0))], m⟩) : Rg F 44 [0] c44r0 L m Q := Tx_told (by kernel_rfl) h
theorem t44r1 (h : Obt (cbin Try.prog .lss 3 (.tmp 3) (.const (.int .i64 0)) (tget L 0) (.int .i64 0)) fun a0 => Obt (gdO a0 false (some ((tget L 0), m)) (.tuple [], m)) fun a1 => Obt (gdO a0 false ((cbin Try.prog .gtr 3 (.tmp 6) (.const (.int .i64 255)) a1.1 (.int .i64 255)).map fun v => (v, a1.2)) (.tuple [], a1.2)) fun a2 => Obt (pickX a0 (.bool true) a2.1) fun a3 => Q .normal ⟨[(0, (tget L 0)), (8, a3)], a2.2⟩) : Rg F 44 [0, 8] c44r1 L m Q := Tx_told (by kernel_rfl) h
theorem t44r2 (h : Q .normal ⟨[(2, (.int .i64 (-1)))], m⟩) : Rg F 44 [2] c44r2 L m Q := Tx_told (by kernel_rfl) h
theorem t44r3 (h : Obt (cbin Try.prog .and 3 (.tmp 9) (.const (.int .i64 7)) (tget L 0) (.int .i64 7)) fun a0 => Q .normal ⟨[(2, a0)], m⟩) : Rg F 44 [2] c44r3 L m Q := Tx_told (by kernel_rfl) h
def c45r0 := rg 45 Try.f45 0
def c45r1 := rg 45 Try.f45 1
def c45 : SC :=
  (.seq (.reg false (some [1, 2]) c45r0) (.seq (.reg false (some [4]) c45r1) .ret))
theorem s45 : Try.f45.body.bind (strip Try.prog An 45 Try.f45.ntmps) = some c45 := by kernel_rfl
theorem g45 : An.glob 45 = [] := rfl
theorem r45 : Try.f45.results.toList = [(.tmp 4)] := by kernel_rfl
theorem t45r0 (h : Obt (ccells (tget L 0)) fun a0 => Q .normal ⟨[(1, (tget L 1)), (2, (newP m 32))], (newL m 32 a0)⟩) : Rg F 45 [1, 2] c45r0 L m Q := Tx_told (by kernel_rfl) h
theorem t45r1 (h : Obt (fldA 1 (tget L 2)) fun a0 => Obt (ld1 m a0) fun a1 => Obt (callC An F 45 (some 8) 49 [a1, (.int .i64 0), (tget L 1)] m) fun a2 => Obt (gdO a2.1 true ((fldA 2 (tget L 2)).map fun v => (v, a2.2)) (.tuple [], a2.2)) fun a3 => Obt (gdO a2.1 true ((ld1 a3.2 a3.1).map fun v => (v, a3.2)) (.tuple [], a3.2)) fun a4 => Obt (gdO a2.1 true (callC An F 45 (some 12) 49 [a4.1, (.int .i64 0), (.int .i64 10)] a4.2) (.tuple [], a4.2)) fun a5 => Obt (pickX a2.1 a5.1 (.bool false)) fun a6 => Obt (gdO a6 true ((fldA 3 (tget L 2)).map fun v => (v, a5.2)) (.tuple [], a5.2)) fun a7 => Obt (gdO a6 true ((ld1 a7.2 a7.1).map fun v => (v, a7.2)) (.tuple [], a7.2)) fun a8 => Obt (gdO a6 true (callC An F 45 (some 17) 49 [a8.1, (.int .i64 (-32768)), (.int .i64 32767)] a8.2) (.tuple [], a8.2)) fun a9 => Obt (pickX a6 a9.1 (.bool false)) fun a10 => Obt (gdO a10 true ((fldA 4 (tget L 2)).map fun v => (v, a9.2)) (.tuple [], a9.2)) fun a11 => Obt (gdO a10 true ((ld1 a11.2 a11.1).map fun v => (v, a11.2)) (.tuple [], a11.2)) fun a12 => Obt (gdO a10 true (callC An F 45 (some 22) 49 [a12.1, (.int .i64 (-2147483648)), (.int .i64 2147483647)] a12.2) (.tuple [], a12.2)) fun a13 => Obt (pickX a10 a13.1 (.bool false)) fun a14 => Q .normal ⟨[(4, a14)], a13.2⟩) : Rg F 45 [4] c45r1 L m Q := Tx_told (by kernel_rfl) h
def c46r0 := rg 46 Try.f46 0
def c46r1 := rg 46 Try.f46 1
def c46r2 := rg 46 Try.f46 2
def c46r3 := rg 46 Try.f46 3
def c46r4 := rg 46 Try.f46 4
def c46r5 := rg 46 Try.f46 5
def c46r6 := rg 46 Try.f46 6
def c46r7 := rg 46 Try.f46 7
def c46r8 := rg 46 Try.f46 8
def c46r9 := rg 46 Try.f46 9
def c46r10 := rg 46 Try.f46 10
def c46 : SC :=
  (.seq (.reg false (some [1, 2, 3]) c46r0) (.seq (.seq (.reg false (some [1, 2, 3, 14]) c46r1) (.cond (.tmp 14) (.seq (.reg false (some [6]) c46r2) .ret) .nop)) (.seq (.seq (.reg false (some [2, 3, 15]) c46r3) (.block 0 (.seq (.reg false (some [2, 3, 15, 16]) c46r4) (.cond (.tmp 16) (.seq (.reg false (some [6]) c46r5) .ret) (.seq (.seq (.reg false (some [2, 3, 15, 21]) c46r6) (.cond (.tmp 21) .nop (.seq (.reg false (some [2, 3, 15, 21]) c46r7) (.cond (.tmp 21) .nop (.reg false (some [2, 3, 21]) c46r8))))) (.cond (.tmp 21) (.seq (.reg false (some [6]) c46r9) .ret) .nop)))))) (.seq (.reg false (some [6]) c46r10) .ret))))
theorem s46 : Try.f46.body.bind (strip Try.prog An 46 Try.f46.ntmps) = some c46 := by kernel_rfl
theorem g46 : An.glob 46 = [] := rfl
theorem r46 : Try.f46.results.toList = [(.tmp 6)] := by kernel_rfl
theorem t46r0 (h : Obt (ccells (tget L 0)) fun a0 => Q .normal ⟨[(1, (tget L 1)), (2, (tget L 2)), (3, (newP m 48))], (newL m 48 a0)⟩) : Rg F 46 [1, 2, 3] c46r0 L m Q := Tx_told (by kernel_rfl) h
theorem t46r1 (h : Obt (ldA 6 m (tget L 3)) fun a0 => Obt (callC An F 46 (some 8) 47 [a0] m) fun a1 => Obt (cun .not a1.1) fun a2 => Obt (gdO a2 false ((fldA 3 (tget L 3)).map fun v => (v, a1.2)) (.tuple [], a1.2)) fun a3 => Obt (gdO a2 false ((ld1 a3.2 a3.1).map fun v => (v, a3.2)) (.tuple [], a3.2)) fun a4 => Obt (gdO a2 false ((cbin Try.prog .neq 3 (.tmp 12) (.const (.int .i64 0)) a4.1 (.int .i64 0)).map fun v => (v, a4.2)) (.tuple [], a4.2)) fun a5 => Obt (pickX a2 (.bool true) a5.1) fun a6 => Q .normal ⟨[(1, (tget L 1)), (2, (tget L 2)), (3, (tget L 3)), (14, a6)], a5.2⟩) : Rg F 46 [1, 2, 3, 14] c46r1 L m Q := Tx_told (by kernel_rfl) h
theorem t46r2 (h : Q .normal ⟨[(6, (.bool false))], m⟩) : Rg F 46 [6] c46r2 L m Q := Tx_told (by kernel_rfl) h
theorem t46r3 (h : Q .normal ⟨[(2, (tget L 2)), (3, (tget L 3)), (15, (tget L 1))], m⟩) : Rg F 46 [2, 3, 15] c46r3 L m Q := Tx_told (by kernel_rfl) h
theorem t46r4 (h : Obt (cbin Try.prog .eql 3 (.tmp 15) (.const (.int .i64 128)) (tget L 15) (.int .i64 128)) fun a0 => Q .normal ⟨[(2, (tget L 2)), (3, (tget L 3)), (15, (tget L 15)), (16, a0)], m⟩) : Rg F 46 [2, 3, 15, 16] c46r4 L m Q := Tx_told (by kernel_rfl) h
theorem t46r5 (h : Obt (fldA 4 (tget L 3)) fun a0 => Obt (ld1 m a0) fun a1 => Obt (cbin Try.prog .eql 3 (.tmp 19) (.const (.int .i64 0)) a1 (.int .i64 0)) fun a2 => Q .normal ⟨[(6, a2)], m⟩) : Rg F 46 [6] c46r5 L m Q := Tx_told (by kernel_rfl) h
theorem t46r6 (h : Obt (cbin Try.prog .eql 3 (.tmp 15) (.const (.int .i64 96)) (tget L 15) (.int .i64 96)) fun a0 => Q .normal ⟨[(2, (tget L 2)), (3, (tget L 3)), (15, (tget L 15)), (21, a0)], m⟩) : Rg F 46 [2, 3, 15, 21] c46r6 L m Q := Tx_told (by kernel_rfl) h
theorem t46r7 (h : Obt (cbin Try.prog .eql 3 (.tmp 15) (.const (.int .i64 112)) (tget L 15) (.int .i64 112)) fun a0 => Q .normal ⟨[(2, (tget L 2)), (3, (tget L 3)), (15, (tget L 15)), (21, a0)], m⟩) : Rg F 46 [2, 3, 15, 21] c46r7 L m Q := Tx_told (by kernel_rfl) h
theorem t46r8 (h : Obt (cbin Try.prog .eql 3 (.tmp 15) (.const (.int .i64 192)) (tget L 15) (.int .i64 192)) fun a0 => Q .normal ⟨[(2, (tget L 2)), (3, (tget L 3)), (21, a0)], m⟩) : Rg F 46 [2, 3, 21] c46r8 L m Q := Tx_told (by kernel_rfl) h
theorem t46r9 (h : Obt (gdO (tget L 2) true ((fldA 4 (tget L 3)).map fun v => (v, m)) (.tuple [], m)) fun a0 => Obt (gdO (tget L 2) true ((ld1 a0.2 a0.1).map fun v => (v, a0.2)) (.tuple [], a0.2)) fun a1 => Obt (gdO (tget L 2) true ((cbin Try.prog .leq 3 (.tmp 28) (.const (.int .i64 63)) a1.1 (.int .i64 63)).map fun v => (v, a1.2)) (.tuple [], a1.2)) fun a2 => Obt (pickX (tget L 2) a2.1 (.bool false)) fun a3 => Obt (gdO a3 true ((fldA 4 (tget L 3)).map fun v => (v, a2.2)) (.tuple [], a2.2)) fun a4 => Obt (gdO a3 true ((ld1 a4.2 a4.1).map fun v => (v, a4.2)) (.tuple [], a4.2)) fun a5 => Obt (gdO a3 true ((cbin Try.prog .geq 3 (.tmp 33) (.const (.int .i64 0)) a5.1 (.int .i64 0)).map fun v => (v, a5.2)) (.tuple [], a5.2)) fun a6 => Obt (pickX a3 a6.1 (.bool false)) fun a7 => Obt (gdO a7 false ((fldA 4 (tget L 3)).map fun v => (v, a6.2)) (.tuple [], a6.2)) fun a8 => Obt (gdO a7 false ((ld1 a8.2 a8.1).map fun v => (v, a8.2)) (.tuple [], a8.2)) fun a9 => Obt (gdO a7 false (callC An F 46 (some 39) 49 [a9.1, (.int .i64 0), (.int .i64 31)] a9.2) (.tuple [], a9.2)) fun a10 => Obt (pickX a7 (.bool true) a10.1) fun a11 => Q .normal ⟨[(6, a11)], a10.2⟩) : Rg F 46 [6] c46r9 L m Q := Tx_told (by kernel_rfl) h
theorem t46r10 (h : Q .normal ⟨[(6, (.bool true))], m⟩) : Rg F 46 [6] c46r10 L m Q := Tx_told (by kernel_rfl) h
def c47r0 := rg 47 Try.f47 0
def c47r1 := rg 47 Try.f47 1
def c47r2 := rg 47 Try.f47 2
def c47r3 := rg 47 Try.f47 3
def c47 : SC :=
  (.seq (.reg false (some [1]) c47r0) (.seq (.seq (.reg false (some [1, 6]) c47r1) (.cond (.tmp 6) (.seq (.reg false (some [2]) c47r2) .ret) .nop)) (.seq (.reg false (some [2]) c47r3) .ret)))
theorem s47 : Try.f47.body.bind (strip Try.prog An 47 Try.f47.ntmps) = some c47 := by kernel_rfl
theorem g47 : An.glob 47 = [] := rfl
theorem r47 : Try.f47.results.toList = [(.tmp 2)] := by kernel_rfl
theorem t47r0 (h : Obt (ccells (tget L 0)) fun a0 => Q .normal ⟨[(1, (newP m 16))], (newL m 16 a0)⟩) : Rg F 47 [1] c47r0 L m Q := Tx_told (by kernel_rfl) h
theorem t47r1 (h : Obt (fldA 0 (tget L 1)) fun a0 => Obt (ld1 m a0) fun a1 => Obt (cbin Try.prog .and 3 (.tmp 4) (.const (.int .i64 8)) a1 (.int .i64 8)) fun a2 => Obt (cbin Try.prog .gtr 3 (.tmp 5) (.const (.int .i64 0)) a2 (.int .i64 0)) fun a3 => Q .normal ⟨[(1, (tget L 1)), (6, a3)], m⟩) : Rg F 47 [1, 6] c47r1 L m Q := Tx_told (by kernel_rfl) h
theorem t47r2 (h : Obt (fldA 4 (tget L 1)) fun a0 => Obt (ld1 m a0) fun a1 => Obt (cbin Try.prog .eql 3 (.tmp 8) (.const (.int .i64 0)) a1 (.int .i64 0)) fun a2 => Q .normal ⟨[(2, a2)], m⟩) : Rg F 47 [2] c47r2 L m Q := Tx_told (by kernel_rfl) h
theorem t47r3 (h : Obt (fldA 2 (tget L 1)) fun a0 => Obt (ld1 m a0) fun a1 => Obt (cbin Try.prog .eql 3 (.tmp 11) (.const (.int .i64 0)) a1 (.int .i64 0)) fun a2 => Q .normal ⟨[(2, a2)], m⟩) : Rg F 47 [2] c47r3 L m Q := Tx_told (by kernel_rfl) h
def c48r0 := rg 48 Try.f48 0
def c48r1 := rg 48 Try.f48 1
def c48r2 := rg 48 Try.f48 2
def c48r3 := rg 48 Try.f48 3
def c48r4 := rg 48 Try.f48 4
def c48r5 := rg 48 Try.f48 5
def c48r6 := rg 48 Try.f48 6
def c48l0 : SC :=
  (.seq (.reg false (some [5, 6, 7, 8]) c48r2) (.seq (.cond (.tmp 8) .nop (.exit 0)) (.seq (.block 1 (.seq (.reg false (some [4, 5, 6, 7]) c48r3) (.seq (.reg false (some [5, 6, 7, 12]) c48r4) (.cond (.tmp 12) (.seq (.reg false (some [2]) c48r5) .ret) .nop)))) (.reg false (some [5, 6, 7]) c48r6))))
def c48r7 := rg 48 Try.f48 7
def c48 : SC :=
  (.seq (.reg false (some [0]) c48r0) (.seq (.seq (.reg false (some [5, 6, 7]) c48r1) (.block 0 (.loop c48l0))) (.seq (.reg false (some [2]) c48r7) .ret)))
theorem s48 : Try.f48.body.bind (strip Try.prog An 48 Try.f48.ntmps) = some c48 := by kernel_rfl
theorem g48 : An.glob 48 = [] := rfl
theorem r48 : Try.f48.results.toList = [(.tmp 2)] := by kernel_rfl
theorem t48r0 (h : Q .normal ⟨[(0, (tget L 0))], m⟩) : Rg F 48 [0] c48r0 L m Q := Tx_told (by kernel_rfl) h
theorem t48r1 (h : Obt (lenS (tget L 0)) fun a0 => Q .normal ⟨[(5, (tget L 0)), (6, a0), (7, (.int .i64 0))], m⟩) : Rg F 48 [5, 6, 7] c48r1 L m Q := Tx_told (by kernel_rfl) h
theorem t48r2 (h : Obt (cbin Try.prog .lss 3 (.tmp 7) (.tmp 6) (tget L 7) (tget L 6)) fun a0 => Q .normal ⟨[(5, (tget L 5)), (6, (tget L 6)), (7, (tget L 7)), (8, a0)], m⟩) : Rg F 48 [5, 6, 7, 8] c48r2 L m Q := Tx_told (by kernel_rfl) h
theorem t48r3 (h : Obt (idxS 1 (tget L 5) (tget L 7)) fun a0 => Obt (ld1 m a0) fun a1 => Q .normal ⟨[(4, a1), (5, (tget L 5)), (6, (tget L 6)), (7, (tget L 7))], m⟩) : Rg F 48 [4, 5, 6, 7] c48r3 L m Q := Tx_told (by kernel_rfl) h
theorem t48r4 (h : Obt (cbin Try.prog .neq 3 (.tmp 11) (.const (.int .i64 0)) (tget L 4) (.int .i64 0)) fun a0 => Q .normal ⟨[(5, (tget L 5)), (6, (tget L 6)), (7, (tget L 7)), (12, a0)], m⟩) : Rg F 48 [5, 6, 7, 12] c48r4 L m Q := Tx_told (by kernel_rfl) h
theorem t48r5 (h : Q .normal ⟨[(2, (.bool false))], m⟩) : Rg F 48 [2] c48r5 L m Q := Tx_told (by kernel_rfl) h
theorem t48r6 (h : Obt (cbin Try.prog .add 3 (.tmp 7) (.const (.int .i64 1)) (tget L 7) (.int .i64 1)) fun a0 => Q .normal ⟨[(5, (tget L 5)), (6, (tget L 6)), (7, a0)], m⟩) : Rg F 48 [5, 6, 7] c48r6 L m Q := Tx_told (by kernel_rfl) h
theorem t48r7 (h : Q .normal ⟨[(2, (.bool true))], m⟩) : Rg F 48 [2] c48r7 L m Q := Tx_told (by kernel_rfl) h
def c49r0 := rg 49 Try.f49 0
def c49r1 := rg 49 Try.f49 1
def c49 : SC :=
  (.seq (.reg false (some [0, 1, 2]) c49r0) (.seq (.reg false (some [6]) c49r1) .ret))
theorem s49 : Try.f49.body.bind (strip Try.prog An 49 Try.f49.ntmps) = some c49 := by kernel_rfl
theorem g49 : An.glob 49 = [] := rfl
theorem r49 : Try.f49.results.toList = [(.tmp 6)] := by kernel_rfl
theorem t49r0 (h : Q .normal ⟨[(0, (tget L 0)), (1, (tget L 1)), (2, (tget L 2))], m⟩) : Rg F 49 [0, 1, 2] c49r0 L m Q := Tx_told (by kernel_rfl) h
theorem t49r1 (h : Obt (cbin Try.prog .geq 3 (.tmp 7) (.tmp 8) (tget L 0) (tget L 1)) fun a0 => Obt (gdO a0 true (some ((tget L 0), m)) (.tuple [], m)) fun a1 => Obt (gdO a0 true (some ((tget L 2), a1.2)) (.tuple [], a1.2)) fun a2 => Obt (gdO a0 true ((cbin Try.prog .leq 3 (.tmp 11) (.tmp 12) a1.1 a2.1).map fun v => (v, a2.2)) (.tuple [], a2.2)) fun a3 => Obt (pickX a0 a3.1 (.bool false)) fun a4 => Q .normal ⟨[(6, a4)], a3.2⟩) : Rg F 49 [6] c49r1 L m Q := Tx_told (by kernel_rfl) h
def c50r0 := rg 50 Try.f50 0
def c50r1 := rg 50 Try.f50 1
def c50r2 := rg 50 Try.f50 2
def c50r3 := rg 50 Try.f50 3
def c50r4 := rg 50 Try.f50 4
def c50r5 := rg 50 Try.f50 5
def c50 : SC :=
  (.seq (.reg false (some [1]) c50r0) (.seq (.block 0 (.seq (.reg false (some [1, 3]) c50r1) (.cond (.tmp 3) (.seq (.reg false (some [2]) c50r2) .ret) (.seq (.reg false (some [1, 18]) c50r3) (.cond (.tmp 18) (.seq (.reg false (some [2]) c50r4) .ret) .nop))))) (.seq (.reg false (some [2]) c50r5) .ret)))
theorem s50 : Try.f50.body.bind (strip Try.prog An 50 Try.f50.ntmps) = some c50 := by kernel_rfl
theorem g50 : An.glob 50 = [] := rfl
theorem r50 : Try.f50.results.toList = [(.tmp 2)] := by kernel_rfl
theorem t50r0 (h : Obt (ccells (tget L 0)) fun a0 => Q .normal ⟨[(1, (newP m 16))], (newL m 16 a0)⟩) : Rg F 50 [1] c50r0 L m Q := Tx_told (by kernel_rfl) h
theorem t50r1 (h : Obt (fldA 3 (tget L 1)) fun a0 => Obt (ld1 m a0) fun a1 => Obt (bslX false 96 1 1 [.int .i64 0] [(0, 1, a1)] m) fun a2 => Obt (callC An F 50 (some 7) 48 [a2.1] a2.2) fun a3 => Obt (cun .not a3.1) fun a4 => Obt (gdO a4 false ((fldA 5 (tget L 1)).map fun v => (v, a3.2)) (.tuple [], a3.2)) fun a5 => Obt (gdO a4 false ((ld1 a5.2 a5.1).map fun v => (v, a5.2)) (.tuple [], a5.2)) fun a6 => Obt (gdO a4 false ((convX .u32 a6.1).map fun v => (v, a6.2)) (.tuple [], a6.2)) fun a7 => Obt (gdO a4 false ((fldA 4 (tget L 1)).map fun v => (v, a7.2)) (.tuple [], a7.2)) fun a8 => Obt (gdO a4 false ((ld1 a8.2 a8.1).map fun v => (v, a8.2)) (.tuple [], a8.2)) fun a9 => Obt (gdO a4 false ((convX .u32 a9.1).map fun v => (v, a9.2)) (.tuple [], a9.2)) fun a10 => Obt (gdO a4 false ((cbin Try.prog .neq 80 (.tmp 12) (.tmp 15) a7.1 a10.1).map fun v => (v, a10.2)) (.tuple [], a10.2)) fun a11 => Obt (pickX a4 (.bool true) a11.1) fun a12 => Q .normal ⟨[(1, (tget L 1)), (3, a12)], a11.2⟩) : Rg F 50 [1, 3] c50r1 L m Q := Tx_told (by kernel_rfl) h
theorem t50r2 (h : Q .normal ⟨[(2, (.bool false))], m⟩) : Rg F 50 [2] c50r2 L m Q := Tx_told (by kernel_rfl) h
theorem t50r3 (h : Obt (fldA 2 (tget L 1)) fun a0 => Obt (ld1 m a0) fun a1 => Obt (cbin Try.prog .eql 3 (.tmp 20) (.const (.int .i64 1)) a1 (.int .i64 1)) fun a2 => Q .normal ⟨[(1, (tget L 1)), (18, a2)], m⟩) : Rg F 50 [1, 18] c50r3 L m Q := Tx_told (by kernel_rfl) h
theorem t50r4 (h : Obt (fldA 4 (tget L 1)) fun a0 => Obt (ld1 m a0) fun a1 => Obt (callC An F 50 (some 24) 49 [a1, (.int .i64 0), (.int .i64 7)] m) fun a2 => Obt (gdO a2.1 true ((fldA 5 (tget L 1)).map fun v => (v, a2.2)) (.tuple [], a2.2)) fun a3 => Obt (gdO a2.1 true ((ld1 a3.2 a3.1).map fun v => (v, a3.2)) (.tuple [], a3.2)) fun a4 => Obt (gdO a2.1 true ((cbin Try.prog .shr 45 (.tmp 27) (.const (.int .u64 32)) a4.1 (.int .u64 32)).map fun v => (v, a4.2)) (.tuple [], a4.2)) fun a5 => Obt (gdO a2.1 true ((cbin Try.prog .eql 45 (.tmp 28) (.const (.int .u64 0)) a5.1 (.int .u64 0)).map fun v => (v, a5.2)) (.tuple [], a5.2)) fun a6 => Obt (pickX a2.1 a6.1 (.bool false)) fun a7 => Q .normal ⟨[(2, a7)], a6.2⟩) : Rg F 50 [2] c50r4 L m Q := Tx_told (by kernel_rfl) h
theorem t50r5 (h : Obt (fldA 2 (tget L 1)) fun a0 => Obt (ld1 m a0) fun a1 => Obt (cbin Try.prog .eql 3 (.tmp 32) (.const (.int .i64 0)) a1 (.int .i64 0)) fun a2 => Q .normal ⟨[(2, a2)], m⟩) : Rg F 50 [2] c50r5 L m Q := Tx_told (by kernel_rfl) h
def c51r0 := rg 51 Try.f51 0
def c51r1 := rg 51 Try.f51 1
def c51r2 := rg 51 Try.f51 2
def c51r3 := rg 51 Try.f51 3
def c51r4 := rg 51 Try.f51 4
def c51r5 := rg 51 Try.f51 5
def c51r6 := rg 51 Try.f51 6
def c51r7 := rg 51 Try.f51 7
def c51r8 := rg 51 Try.f51 8
def c51r9 := rg 51 Try.f51 9
def c51r10 := rg 51 Try.f51 10
def c51r11 := rg 51 Try.f51 11
def c51r12 := rg 51 Try.f51 12
def c51r13 := rg 51 Try.f51 13
def c51r14 := rg 51 Try.f51 14
def c51 : SC :=
  (.seq (.reg false (some [0]) c51r0) (.seq (.seq (.reg false (some [0, 4]) c51r1) (.block 0 (.seq (.block 3 (.block 2 (.block 1 (.seq (.seq (.seq (.reg false (some [0, 4, 5]) c51r2) (.cond (.tmp 5) (.exit 1) .nop)) (.seq (.seq (.reg false (some [0, 4, 7]) c51r3) (.cond (.tmp 7) (.exit 2) .nop)) (.seq (.reg false (some [0, 9]) c51r4) (.cond (.tmp 9) (.exit 3) .nop)))) (.exit 0))))) (.seq (.seq (.reg false (some [12]) c51r5) (.block 4 (.seq (.reg false (some [12, 13]) c51r6) (.cond (.tmp 13) (.seq (.reg false (some [2]) c51r7) .ret) (.seq (.reg false (some [12, 15]) c51r8) (.cond (.tmp 15) (.seq (.reg false (some [2]) c51r9) .ret) (.seq (.reg false (some [12, 17]) c51r10) (.cond (.tmp 17) (.seq (.reg false (some [2]) c51r11) .ret) (.seq (.reg false (some [19]) c51r12) (.cond (.tmp 19) (.seq (.reg false (some [2]) c51r13) .ret) .nop)))))))))) (.exit 0))))) (.seq (.reg false (some [2]) c51r14) .ret)))
theorem s51 : Try.f51.body.bind (strip Try.prog An 51 Try.f51.ntmps) = some c51 := by kernel_rfl
theorem g51 : An.glob 51 = [] := rfl
theorem r51 : Try.f51.results.toList = [(.tmp 2)] := by kernel_rfl
theorem t51r0 (h : Q .normal ⟨[(0, (tget L 0))], m⟩) : Rg F 51 [0] c51r0 L m Q := Tx_told (by kernel_rfl) h
theorem t51r1 (h : Obt (callC An F 51 (some 4) 44 [(tget L 0)] m) fun a0 => Q .normal ⟨[(0, (tget L 0)), (4, a0.1)], a0.2⟩) : Rg F 51 [0, 4] c51r1 L m Q := Tx_told (by kernel_rfl) h
theorem t51r2 (h : Obt (cbin Try.prog .eql 3 (.tmp 4) (.const (.int .i64 1)) (tget L 4) (.int .i64 1)) fun a0 => Q .normal ⟨[(0, (tget L 0)), (4, (tget L 4)), (5, a0)], m⟩) : Rg F 51 [0, 4, 5] c51r2 L m Q := Tx_told (by kernel_rfl) h
theorem t51r3 (h : Obt (cbin Try.prog .eql 3 (.tmp 4) (.const (.int .i64 2)) (tget L 4) (.int .i64 2)) fun a0 => Q .normal ⟨[(0, (tget L 0)), (4, (tget L 4)), (7, a0)], m⟩) : Rg F 51 [0, 4, 7] c51r3 L m Q := Tx_told (by kernel_rfl) h
theorem t51r4 (h : Obt (cbin Try.prog .eql 3 (.tmp 4) (.const (.int .i64 3)) (tget L 4) (.int .i64 3)) fun a0 => Q .normal ⟨[(0, (tget L 0)), (9, a0)], m⟩) : Rg F 51 [0, 9] c51r4 L m Q := Tx_told (by kernel_rfl) h
theorem t51r5 (h : Obt (cbin Try.prog .andNot 3 (.tmp 11) (.const (.int .i64 7)) (tget L 0) (.int .i64 7)) fun a0 => Q .normal ⟨[(12, a0)], m⟩) : Rg F 51 [12] c51r5 L m Q := Tx_told (by kernel_rfl) h
theorem t51r6 (h : Obt (cbin Try.prog .eql 3 (.tmp 12) (.const (.int .i64 96)) (tget L 12) (.int .i64 96)) fun a0 => Q .normal ⟨[(12, (tget L 12)), (13, a0)], m⟩) : Rg F 51 [12, 13] c51r6 L m Q := Tx_told (by kernel_rfl) h
theorem t51r7 (h : Q .normal ⟨[(2, (.int .i64 4))], m⟩) : Rg F 51 [2] c51r7 L m Q := Tx_told (by kernel_rfl) h
theorem t51r8 (h : Obt (cbin Try.prog .eql 3 (.tmp 12) (.const (.int .i64 104)) (tget L 12) (.int .i64 104)) fun a0 => Q .normal ⟨[(12, (tget L 12)), (15, a0)], m⟩) : Rg F 51 [12, 15] c51r8 L m Q := Tx_told (by kernel_rfl) h
theorem t51r9 (h : Q .normal ⟨[(2, (.int .i64 2))], m⟩) : Rg F 51 [2] c51r9 L m Q := Tx_told (by kernel_rfl) h
theorem t51r10 (h : Obt (cbin Try.prog .eql 3 (.tmp 12) (.const (.int .i64 112)) (tget L 12) (.int .i64 112)) fun a0 => Q .normal ⟨[(12, (tget L 12)), (17, a0)], m⟩) : Rg F 51 [12, 17] c51r10 L m Q := Tx_told (by kernel_rfl) h
theorem t51r11 (h : Q .normal ⟨[(2, (.int .i64 1))], m⟩) : Rg F 51 [2] c51r11 L m Q := Tx_told (by kernel_rfl) h
theorem t51r12 (h : Obt (cbin Try.prog .eql 3 (.tmp 12) (.const (.int .i64 120)) (tget L 12) (.int .i64 120)) fun a0 => Q .normal ⟨[(19, a0)], m⟩) : Rg F 51 [19] c51r12 L m Q := Tx_told (by kernel_rfl) h
theorem t51r13 (h : Q .normal ⟨[(2, (.int .i64 8))], m⟩) : Rg F 51 [2] c51r13 L m Q := Tx_told (by kernel_rfl) h
theorem t51r14 (h : Q .normal ⟨[(2, (.int .i64 0))], m⟩) : Rg F 51 [2] c51r14 L m Q := Tx_told (by kernel_rfl) h
def c52r0 := rg 52 Try.f52 0
def c52r1 := rg 52 Try.f52 1
def c52r2 := rg 52 Try.f52 2
def c52r3 := rg 52 Try.f52 3
def c52r4 := rg 52 Try.f52 4
def c52r5 := rg 52 Try.f52 5
def c52r6 := rg 52 Try.f52 6
def c52r7 := rg 52 Try.f52 7
def c52r8 := rg 52 Try.f52 8
def c52r9 := rg 52 Try.f52 9
def c52r10 := rg 52 Try.f52 10
def c52r11 := rg 52 Try.f52 11
def c52r12 := rg 52 Try.f52 12
def c52r13 := rg 52 Try.f52 13
def c52r14 := rg 52 Try.f52 14
def c52r15 := rg 52 Try.f52 15
def c52r16 := rg 52 Try.f52 16
def c52r17 := rg 52 Try.f52 17
def c52r18 := rg 52 Try.f52 18
def c52r19 := rg 52 Try.f52 19
def c52r20 := rg 52 Try.f52 20
def c52r21 := rg 52 Try.f52 21
def c52r22 := rg 52 Try.f52 22
def c52 : SC :=
  (.seq (.reg false (some [0, 1, 2, 3]) c52r0) (.seq (.reg false (some [0, 1, 2, 3]) c52r1) (.seq (.reg false (some [0, 1, 2, 10]) c52r2) (.seq (.seq (.reg false (some [1, 2, 10, 22]) c52r3) (.block 0 (.seq (.reg false (some [1, 2, 10, 22, 23]) c52r4) (.cond (.tmp 23) (.seq (.reg false (some [8, 9]) c52r5) .ret) (.seq (.reg false (some [1, 2, 10, 22, 27]) c52r6) (.cond (.tmp 27) (.seq (.reg false (some [8, 9]) c52r7) .ret) (.seq (.reg false (some [1, 2, 10, 22, 31]) c52r8) (.cond (.tmp 31) (.seq (.reg false (some [8, 9]) c52r9) .ret) (.seq (.seq (.reg false (some [10, 22, 37]) c52r10) (.cond (.tmp 37) .nop (.reg false (some [10, 22, 37]) c52r11))) (.cond (.tmp 37) (.seq (.reg false (some [8, 9]) c52r12) .ret) (.seq (.seq (.reg false (some [10, 22, 42]) c52r13) (.cond (.tmp 42) .nop (.reg false (some [10, 22, 42]) c52r14))) (.cond (.tmp 42) (.seq (.reg false (some [8, 9]) c52r15) .ret) (.seq (.seq (.reg false (some [10, 22, 47]) c52r16) (.cond (.tmp 47) .nop (.reg false (some [10, 22, 47]) c52r17))) (.cond (.tmp 47) (.seq (.reg false (some [8, 9]) c52r18) .ret) (.seq (.seq (.reg false (some [10, 22, 52]) c52r19) (.cond (.tmp 52) .nop (.reg false (some [10, 52]) c52r20))) (.cond (.tmp 52) (.seq (.reg false (some [8, 9]) c52r21) .ret) .nop)))))))))))))))) (.seq (.reg false (some [8, 9]) c52r22) .ret)))))
theorem s52 : Try.f52.body.bind (strip Try.prog An 52 Try.f52.ntmps) = some c52 := by kernel_rfl
theorem g52 : An.glob 52 = [] := rfl
theorem r52 : Try.f52.results.toList = [(.tmp 8), (.tmp 9)] := by kernel_rfl
theorem t52r0 (h : Q .normal ⟨[(0, (tget L 0)), (1, (tget L 1)), (2, (tget L 2)), (3, (tget L 3))], m⟩) : Rg F 52 [0, 1, 2, 3] c52r0 L m Q := Tx_told (by kernel_rfl) h
theorem t52r1 (h : Obt (callC An F 52 (some 13) 63 [(tget L 1), (tget L 3)] m) fun a0 => Obt (callC An F 52 (some 16) 63 [(tget L 2), (tget L 3)] a0.2) fun a1 => Q .normal ⟨[(0, (tget L 0)), (1, a0.1), (2, a1.1), (3, (tget L 3))], a1.2⟩) : Rg F 52 [0, 1, 2, 3] c52r1 L m Q := Tx_told (by kernel_rfl) h
theorem t52r2 (h : Obt (callC An F 52 (some 21) 64 [(tget L 0), (tget L 1), (tget L 2), (tget L 3)] m) fun a0 => Q .normal ⟨[(0, (tget L 0)), (1, (tget L 1)), (2, (tget L 2)), (10, a0.1)], a0.2⟩) : Rg F 52 [0, 1, 2, 10] c52r2 L m Q := Tx_told (by kernel_rfl) h
theorem t52r3 (h : Q .normal ⟨[(1, (tget L 1)), (2, (tget L 2)), (10, (tget L 10)), (22, (tget L 0))], m⟩) : Rg F 52 [1, 2, 10, 22] c52r3 L m Q := Tx_told (by kernel_rfl) h
theorem t52r4 (h : Obt (cbin Try.prog .eql 3 (.tmp 22) (.const (.int .i64 16)) (tget L 22) (.int .i64 16)) fun a0 => Q .normal ⟨[(1, (tget L 1)), (2, (tget L 2)), (10, (tget L 10)), (22, (tget L 22)), (23, a0)], m⟩) : Rg F 52 [1, 2, 10, 22, 23] c52r4 L m Q := Tx_told (by kernel_rfl) h
theorem t52r6 (h : Obt (cbin Try.prog .eql 3 (.tmp 22) (.const (.int .i64 80)) (tget L 22) (.int .i64 80)) fun a0 => Q .normal ⟨[(1, (tget L 1)), (2, (tget L 2)), (10, (tget L 10)), (22, (tget L 22)), (27, a0)], m⟩) : Rg F 52 [1, 2, 10, 22, 27] c52r6 L m Q := Tx_told (by kernel_rfl) h
theorem t52r8 (h : Obt (cbin Try.prog .eql 3 (.tmp 22) (.const (.int .i64 64)) (tget L 22) (.int .i64 64)) fun a0 => Q .normal ⟨[(1, (tget L 1)), (2, (tget L 2)), (10, (tget L 10)), (22, (tget L 22)), (31, a0)], m⟩) : Rg F 52 [1, 2, 10, 22, 31] c52r8 L m Q := Tx_told (by kernel_rfl) h
theorem t52r10 (h : Obt (cbin Try.prog .eql 3 (.tmp 22) (.const (.int .i64 32)) (tget L 22) (.int .i64 32)) fun a0 => Q .normal ⟨[(10, (tget L 10)), (22, (tget L 22)), (37, a0)], m⟩) : Rg F 52 [10, 22, 37] c52r10 L m Q := Tx_told (by kernel_rfl) h
theorem t52r11 (h : Obt (cbin Try.prog .eql 3 (.tmp 22) (.const (.int .i64 96)) (tget L 22) (.int .i64 96)) fun a0 => Q .normal ⟨[(10, (tget L 10)), (22, (tget L 22)), (37, a0)], m⟩) : Rg F 52 [10, 22, 37] c52r11 L m Q := Tx_told (by kernel_rfl) h
theorem t52r13 (h : Obt (cbin Try.prog .eql 3 (.tmp 22) (.const (.int .i64 48)) (tget L 22) (.int .i64 48)) fun a0 => Q .normal ⟨[(10, (tget L 10)), (22, (tget L 22)), (42, a0)], m⟩) : Rg F 52 [10, 22, 42] c52r13 L m Q := Tx_told (by kernel_rfl) h
theorem t52r14 (h : Obt (cbin Try.prog .eql 3 (.tmp 22) (.const (.int .i64 112)) (tget L 22) (.int .i64 112)) fun a0 => Q .normal ⟨[(10, (tget L 10)), (22, (tget L 22)), (42, a0)], m⟩) : Rg F 52 [10, 22, 42] c52r14 L m Q := Tx_told (by kernel_rfl) h
theorem t52r16 (h : Obt (cbin Try.prog .eql 3 (.tmp 22) (.const (.int .i64 160)) (tget L 22) (.int .i64 160)) fun a0 => Q .normal ⟨[(10, (tget L 10)), (22, (tget L 22)), (47, a0)], m⟩) : Rg F 52 [10, 22, 47] c52r16 L m Q := Tx_told (by kernel_rfl) h
theorem t52r17 (h : Obt (cbin Try.prog .eql 3 (.tmp 22) (.const (.int .i64 192)) (tget L 22) (.int .i64 192)) fun a0 => Q .normal ⟨[(10, (tget L 10)), (22, (tget L 22)), (47, a0)], m⟩) : Rg F 52 [10, 22, 47] c52r17 L m Q := Tx_told (by kernel_rfl) h
theorem t52r19 (h : Obt (cbin Try.prog .eql 3 (.tmp 22) (.const (.int .i64 176)) (tget L 22) (.int .i64 176)) fun a0 => Q .normal ⟨[(10, (tget L 10)), (22, (tget L 22)), (52, a0)], m⟩) : Rg F 52 [10, 22, 52] c52r19 L m Q := Tx_told (by kernel_rfl) h
theorem t52r20 (h : Obt (cbin Try.prog .eql 3 (.tmp 22) (.const (.int .i64 208)) (tget L 22) (.int .i64 208)) fun a0 => Q .normal ⟨[(10, (tget L 10)), (52, a0)], m⟩) : Rg F 52 [10, 52] c52r20 L m Q := Tx_told (by kernel_rfl) h
theorem t52r22 (h : Q .normal ⟨[(8, (.bool false)), (9, (.bool false))], m⟩) : Rg F 52 [8, 9] c52r22 L m Q := Tx_told (by kernel_rfl) h
def c62r0 := rg 62 Try.f62 0
def c62r1 := rg 62 Try.f62 1
def c62r2 := rg 62 Try.f62 2
def c62r3 := rg 62 Try.f62 3
def c62r4 := rg 62 Try.f62 4
def c62r5 := rg 62 Try.f62 5
def c62r6 := rg 62 Try.f62 6
def c62r7 := rg 62 Try.f62 7
def c62r8 := rg 62 Try.f62 8
def c62r9 := rg 62 Try.f62 9
def c62r10 := rg 62 Try.f62 10
def c62r11 := rg 62 Try.f62 11
def c62r12 := rg 62 Try.f62 12
def c62r13 := rg 62 Try.f62 13
def c62r14 := rg 62 Try.f62 14
def c62r15 := rg 62 Try.f62 15
def c62r16 := rg 62 Try.f62 16
def c62 : SC :=
  (.seq (.reg false (some [0, 1, 2, 3]) c62r0) (.seq (.reg false (some [0, 1, 2, 3]) c62r1) (.seq (.seq (.reg false (some [0, 1, 2, 3, 18]) c62r2) (.block 0 (.seq (.reg false (some [0, 1, 2, 3, 18, 19]) c62r3) (.cond (.tmp 19) (.seq (.seq (.reg false (some [1, 2, 22]) c62r4) (.cond (.tmp 22) (.seq (.reg false (some [8, 9]) c62r5) .ret) .nop)) (.seq (.reg false (some [8, 9]) c62r6) .ret)) (.seq (.reg false (some [0, 1, 2, 3, 18, 26]) c62r7) (.cond (.tmp 26) (.seq (.seq (.reg false (some [1, 2, 29]) c62r8) (.cond (.tmp 29) (.seq (.reg false (some [8, 9]) c62r9) .ret) .nop)) (.seq (.reg false (some [8, 9]) c62r10) .ret)) (.seq (.seq (.reg false (some [0, 1, 2, 3, 18, 34]) c62r11) (.cond (.tmp 34) .nop (.seq (.reg false (some [0, 1, 2, 3, 18, 34]) c62r12) (.cond (.tmp 34) .nop (.reg false (some [0, 1, 2, 3, 34]) c62r13))))) (.cond (.tmp 34) (.seq (.reg false (some [8, 9]) c62r14) .ret) .nop)))))))) (.seq (.reg false (some [3, 10, 11]) c62r15) (.seq (.reg false (some [8, 9]) c62r16) .ret)))))
theorem s62 : Try.f62.body.bind (strip Try.prog An 62 Try.f62.ntmps) = some c62 := by kernel_rfl
theorem g62 : An.glob 62 = [] := rfl
theorem r62 : Try.f62.results.toList = [(.tmp 8), (.tmp 9)] := by kernel_rfl
theorem t62r0 (h : Q .normal ⟨[(0, (tget L 0)), (1, (tget L 1)), (2, (tget L 2)), (3, (tget L 3))], m⟩) : Rg F 62 [0, 1, 2, 3] c62r0 L m Q := Tx_told (by kernel_rfl) h
theorem t62r1 (h : Obt (callC An F 62 (some 14) 63 [(tget L 1), (tget L 3)] m) fun a0 => Obt (callC An F 62 (some 17) 63 [(tget L 2), (tget L 3)] a0.2) fun a1 => Q .normal ⟨[(0, (tget L 0)), (1, a0.1), (2, a1.1), (3, (tget L 3))], a1.2⟩) : Rg F 62 [0, 1, 2, 3] c62r1 L m Q := Tx_told (by kernel_rfl) h
theorem t62r2 (h : Q .normal ⟨[(0, (tget L 0)), (1, (tget L 1)), (2, (tget L 2)), (3, (tget L 3)), (18, (tget L 0))], m⟩) : Rg F 62 [0, 1, 2, 3, 18] c62r2 L m Q := Tx_told (by kernel_rfl) h
theorem t62r3 (h : Obt (cbin Try.prog .eql 3 (.tmp 18) (.const (.int .i64 48)) (tget L 18) (.int .i64 48)) fun a0 => Q .normal ⟨[(0, (tget L 0)), (1, (tget L 1)), (2, (tget L 2)), (3, (tget L 3)), (18, (tget L 18)), (19, a0)], m⟩) : Rg F 62 [0, 1, 2, 3, 18, 19] c62r3 L m Q := Tx_told (by kernel_rfl) h
theorem t62r7 (h : Obt (cbin Try.prog .eql 3 (.tmp 18) (.const (.int .i64 144)) (tget L 18) (.int .i64 144)) fun a0 => Q .normal ⟨[(0, (tget L 0)), (1, (tget L 1)), (2, (tget L 2)), (3, (tget L 3)), (18, (tget L 18)), (26, a0)], m⟩) : Rg F 62 [0, 1, 2, 3, 18, 26] c62r7 L m Q := Tx_told (by kernel_rfl) h
theorem t62r11 (h : Obt (cbin Try.prog .eql 3 (.tmp 18) (.const (.int .i64 96)) (tget L 18) (.int .i64 96)) fun a0 => Q .normal ⟨[(0, (tget L 0)), (1, (tget L 1)), (2, (tget L 2)), (3, (tget L 3)), (18, (tget L 18)), (34, a0)], m⟩) : Rg F 62 [0, 1, 2, 3, 18, 34] c62r11 L m Q := Tx_told (by kernel_rfl) h
theorem t62r12 (h : Obt (cbin Try.prog .eql 3 (.tmp 18) (.const (.int .i64 112)) (tget L 18) (.int .i64 112)) fun a0 => Q .normal ⟨[(0, (tget L 0)), (1, (tget L 1)), (2, (tget L 2)), (3, (tget L 3)), (18, (tget L 18)), (34, a0)], m⟩) : Rg F 62 [0, 1, 2, 3, 18, 34] c62r12 L m Q := Tx_told (by kernel_rfl) h
theorem t62r13 (h : Obt (cbin Try.prog .eql 3 (.tmp 18) (.const (.int .i64 192)) (tget L 18) (.int .i64 192)) fun a0 => Q .normal ⟨[(0, (tget L 0)), (1, (tget L 1)), (2, (tget L 2)), (3, (tget L 3)), (34, a0)], m⟩) : Rg F 62 [0, 1, 2, 3, 34] c62r13 L m Q := Tx_told (by kernel_rfl) h
theorem t62r15 (h : Obt (callC An F 62 (some 49) 78 [(tget L 0), (tget L 1), (tget L 2)] m) fun a0 => Obt (extX 0 a0.1) fun a1 => Obt (extX 1 a0.1) fun a2 => Q .normal ⟨[(3, (tget L 3)), (10, a1), (11, a2)], a0.2⟩) : Rg F 62 [3, 10, 11] c62r15 L m Q := Tx_told (by kernel_rfl) h
theorem t62r16 (h : Obt (callC An F 62 (some 54) 63 [(tget L 10), (tget L 3)] m) fun a0 => Q .normal ⟨[(8, a0.1), (9, (tget L 11))], a0.2⟩) : Rg F 62 [8, 9] c62r16 L m Q := Tx_told (by kernel_rfl) h
def c64r0 := rg 64 Try.f64 0
def c64r1 := rg 64 Try.f64 1
def c64r2 := rg 64 Try.f64 2
def c64r3 := rg 64 Try.f64 3
def c64r4 := rg 64 Try.f64 4
def c64r5 := rg 64 Try.f64 5
def c64r6 := rg 64 Try.f64 6
def c64r7 := rg 64 Try.f64 7
def c64r8 := rg 64 Try.f64 8
def c64r9 := rg 64 Try.f64 9
def c64 : SC :=
  (.seq (.reg false (some [0, 1, 2, 3]) c64r0) (.seq (.seq (.reg false (some [1, 2, 3, 9]) c64r1) (.block 0 (.seq (.block 4 (.block 3 (.block 2 (.block 1 (.seq (.seq (.seq (.reg false (some [1, 2, 3, 9, 10]) c64r2) (.cond (.tmp 10) (.exit 1) .nop)) (.seq (.seq (.reg false (some [1, 2, 3, 9, 12]) c64r3) (.cond (.tmp 12) (.exit 2) .nop)) (.seq (.seq (.reg false (some [1, 2, 3, 9, 14]) c64r4) (.cond (.tmp 14) (.exit 3) .nop)) (.seq (.reg false (some [1, 2, 3, 16]) c64r5) (.cond (.tmp 16) (.exit 4) .nop))))) (.exit 0)))))) (.seq (.seq (.seq (.reg false (some [1, 2, 19]) c64r6) (.cond (.tmp 19) (.seq (.reg false (some [8]) c64r7) .ret) .nop)) (.seq (.reg false (some [8]) c64r8) .ret)) (.exit 0))))) (.seq (.reg false (some [8]) c64r9) .ret)))
theorem s64 : Try.f64.body.bind (strip Try.prog An 64 Try.f64.ntmps) = some c64 := by kernel_rfl
theorem g64 : An.glob 64 = [] := rfl
theorem r64 : Try.f64.results.toList = [(.tmp 8)] := by kernel_rfl
theorem t64r0 (h : Q .normal ⟨[(0, (tget L 0)), (1, (tget L 1)), (2, (tget L 2)), (3, (tget L 3))], m⟩) : Rg F 64 [0, 1, 2, 3] c64r0 L m Q := Tx_told (by kernel_rfl) h
theorem t64r1 (h : Q .normal ⟨[(1, (tget L 1)), (2, (tget L 2)), (3, (tget L 3)), (9, (tget L 0))], m⟩) : Rg F 64 [1, 2, 3, 9] c64r1 L m Q := Tx_told (by kernel_rfl) h
theorem t64r2 (h : Obt (cbin Try.prog .eql 3 (.tmp 9) (.const (.int .i64 96)) (tget L 9) (.int .i64 96)) fun a0 => Q .normal ⟨[(1, (tget L 1)), (2, (tget L 2)), (3, (tget L 3)), (9, (tget L 9)), (10, a0)], m⟩) : Rg F 64 [1, 2, 3, 9, 10] c64r2 L m Q := Tx_told (by kernel_rfl) h
theorem t64r3 (h : Obt (cbin Try.prog .eql 3 (.tmp 9) (.const (.int .i64 112)) (tget L 9) (.int .i64 112)) fun a0 => Q .normal ⟨[(1, (tget L 1)), (2, (tget L 2)), (3, (tget L 3)), (9, (tget L 9)), (12, a0)], m⟩) : Rg F 64 [1, 2, 3, 9, 12] c64r3 L m Q := Tx_told (by kernel_rfl) h
theorem t64r4 (h : Obt (cbin Try.prog .eql 3 (.tmp 9) (.const (.int .i64 192)) (tget L 9) (.int .i64 192)) fun a0 => Q .normal ⟨[(1, (tget L 1)), (2, (tget L 2)), (3, (tget L 3)), (9, (tget L 9)), (14, a0)], m⟩) : Rg F 64 [1, 2, 3, 9, 14] c64r4 L m Q := Tx_told (by kernel_rfl) h
theorem t64r5 (h : Obt (cbin Try.prog .eql 3 (.tmp 9) (.const (.int .i64 208)) (tget L 9) (.int .i64 208)) fun a0 => Q .normal ⟨[(1, (tget L 1)), (2, (tget L 2)), (3, (tget L 3)), (16, a0)], m⟩) : Rg F 64 [1, 2, 3, 16] c64r5 L m Q := Tx_told (by kernel_rfl) h
theorem t64r9 (h : Obt (callC An F 64 (some 36) 80 [(tget L 1), (tget L 2)] m) fun a0 => Q .normal ⟨[(8, a0.1)], a0.2⟩) : Rg F 64 [8] c64r9 L m Q := Tx_told (by kernel_rfl) h
def c78r0 := rg 78 Try.f78 0
def c78r1 := rg 78 Try.f78 1
def c78r2 := rg 78 Try.f78 2
def c78r3 := rg 78 Try.f78 3
def c78r4 := rg 78 Try.f78 4
def c78r5 := rg 78 Try.f78 5
def c78r6 := rg 78 Try.f78 6
def c78r7 := rg 78 Try.f78 7
def c78r8 := rg 78 Try.f78 8
def c78r9 := rg 78 Try.f78 9
def c78r10 := rg 78 Try.f78 10
def c78r11 := rg 78 Try.f78 11
def c78r12 := rg 78 Try.f78 12
def c78r13 := rg 78 Try.f78 13
def c78r14 := rg 78 Try.f78 14
def c78r15 := rg 78 Try.f78 15
def c78r16 := rg 78 Try.f78 16
def c78r17 := rg 78 Try.f78 17
def c78r18 := rg 78 Try.f78 18
def c78 : SC :=
  (.seq (.reg false (some [0, 1, 2]) c78r0) (.seq (.seq (.reg false (some [1, 2, 8]) c78r1) (.block 0 (.seq (.reg false (some [1, 2, 8, 9]) c78r2) (.cond (.tmp 9) (.seq (.reg false (some [6, 7]) c78r3) .ret) (.seq (.reg false (some [1, 2, 8, 14]) c78r4) (.cond (.tmp 14) (.seq (.reg false (some [6, 7]) c78r5) .ret) (.seq (.reg false (some [1, 2, 8, 19]) c78r6) (.cond (.tmp 19) (.seq (.reg false (some [6, 7]) c78r7) .ret) (.seq (.reg false (some [1, 2, 8, 24]) c78r8) (.cond (.tmp 24) (.seq (.reg false (some [6, 7]) c78r9) .ret) (.seq (.reg false (some [1, 2, 8, 29]) c78r10) (.cond (.tmp 29) (.seq (.reg false (some [6, 7]) c78r11) .ret) (.seq (.reg false (some [1, 2, 8, 34]) c78r12) (.cond (.tmp 34) (.seq (.reg false (some [6, 7]) c78r13) .ret) (.seq (.reg false (some [1, 2, 8, 39]) c78r14) (.cond (.tmp 39) (.seq (.reg false (some [6, 7]) c78r15) .ret) (.seq (.reg false (some [2, 43]) c78r16) (.cond (.tmp 43) (.seq (.reg false (some [6, 7]) c78r17) .ret) .nop)))))))))))))))))) (.seq (.reg false (some [6, 7]) c78r18) .ret)))
theorem s78 : Try.f78.body.bind (strip Try.prog An 78 Try.f78.ntmps) = some c78 := by kernel_rfl
theorem g78 : An.glob 78 = [] := rfl
theorem r78 : Try.f78.results.toList = [(.tmp 6), (.tmp 7)] := by kernel_rfl
theorem t78r0 (h : Q .normal ⟨[(0, (tget L 0)), (1, (tget L 1)), (2, (tget L 2))], m⟩) : Rg F 78 [0, 1, 2] c78r0 L m Q := Tx_told (by kernel_rfl) h
theorem t78r1 (h : Q .normal ⟨[(1, (tget L 1)), (2, (tget L 2)), (8, (tget L 0))], m⟩) : Rg F 78 [1, 2, 8] c78r1 L m Q := Tx_told (by kernel_rfl) h
theorem t78r2 (h : Obt (cbin Try.prog .eql 3 (.tmp 8) (.const (.int .i64 0)) (tget L 8) (.int .i64 0)) fun a0 => Q .normal ⟨[(1, (tget L 1)), (2, (tget L 2)), (8, (tget L 8)), (9, a0)], m⟩) : Rg F 78 [1, 2, 8, 9] c78r2 L m Q := Tx_told (by kernel_rfl) h
theorem t78r4 (h : Obt (cbin Try.prog .eql 3 (.tmp 8) (.const (.int .i64 16)) (tget L 8) (.int .i64 16)) fun a0 => Q .normal ⟨[(1, (tget L 1)), (2, (tget L 2)), (8, (tget L 8)), (14, a0)], m⟩) : Rg F 78 [1, 2, 8, 14] c78r4 L m Q := Tx_told (by kernel_rfl) h
theorem t78r6 (h : Obt (cbin Try.prog .eql 3 (.tmp 8) (.const (.int .i64 32)) (tget L 8) (.int .i64 32)) fun a0 => Q .normal ⟨[(1, (tget L 1)), (2, (tget L 2)), (8, (tget L 8)), (19, a0)], m⟩) : Rg F 78 [1, 2, 8, 19] c78r6 L m Q := Tx_told (by kernel_rfl) h
theorem t78r8 (h : Obt (cbin Try.prog .eql 3 (.tmp 8) (.const (.int .i64 64)) (tget L 8) (.int .i64 64)) fun a0 => Q .normal ⟨[(1, (tget L 1)), (2, (tget L 2)), (8, (tget L 8)), (24, a0)], m⟩) : Rg F 78 [1, 2, 8, 24] c78r8 L m Q := Tx_told (by kernel_rfl) h
theorem t78r10 (h : Obt (cbin Try.prog .eql 3 (.tmp 8) (.const (.int .i64 80)) (tget L 8) (.int .i64 80)) fun a0 => Q .normal ⟨[(1, (tget L 1)), (2, (tget L 2)), (8, (tget L 8)), (29, a0)], m⟩) : Rg F 78 [1, 2, 8, 29] c78r10 L m Q := Tx_told (by kernel_rfl) h
theorem t78r12 (h : Obt (cbin Try.prog .eql 3 (.tmp 8) (.const (.int .i64 160)) (tget L 8) (.int .i64 160)) fun a0 => Q .normal ⟨[(1, (tget L 1)), (2, (tget L 2)), (8, (tget L 8)), (34, a0)], m⟩) : Rg F 78 [1, 2, 8, 34] c78r12 L m Q := Tx_told (by kernel_rfl) h
theorem t78r14 (h : Obt (cbin Try.prog .eql 3 (.tmp 8) (.const (.int .i64 128)) (tget L 8) (.int .i64 128)) fun a0 => Q .normal ⟨[(1, (tget L 1)), (2, (tget L 2)), (8, (tget L 8)), (39, a0)], m⟩) : Rg F 78 [1, 2, 8, 39] c78r14 L m Q := Tx_told (by kernel_rfl) h
theorem t78r16 (h : Obt (cbin Try.prog .eql 3 (.tmp 8) (.const (.int .i64 176)) (tget L 8) (.int .i64 176)) fun a0 => Q .normal ⟨[(2, (tget L 2)), (43, a0)], m⟩) : Rg F 78 [2, 43] c78r16 L m Q := Tx_told (by kernel_rfl) h
theorem t78r18 (h : Q .normal ⟨[(6, (.int .u64 0)), (7, (.bool false))], m⟩) : Rg F 78 [6, 7] c78r18 L m Q := Tx_told (by kernel_rfl) h
def c11r0 := rg 11 Try.f11 0
def c11r1 := rg 11 Try.f11 1
def c11r2 := rg 11 Try.f11 2
def c11r3 := rg 11 Try.f11 3
def c11r4 := rg 11 Try.f11 4
def c11r5 := rg 11 Try.f11 5
def c11r6 := rg 11 Try.f11 6
def c11r7 := rg 11 Try.f11 7
def c11r8 := rg 11 Try.f11 8
def c11r9 := rg 11 Try.f11 9
def c11r10 := rg 11 Try.f11 10
def c11r11 := rg 11 Try.f11 11
def c11l0 : SC :=
  (.seq (.seq (.reg false (some [0, 5, 6, 19]) c11r6) (.cond (.tmp 19) .nop (.exit 0))) (.block 1 (.seq (.reg false (some [0, 5, 6, 7]) c11r7) (.seq (.reg false (some [0, 5, 6, 7]) c11r8) (.seq (.reg false (some [0, 5, 6, 7, 28]) c11r9) (.cond (.tmp 28) (.seq (.reg false (some [0, 5, 6, 7]) c11r10) (.reg false (some [0, 5, 6]) c11r11)) .nop))))))
def c11r12 := rg 11 Try.f11 12
def c11 : SC :=
  (.seq (.reg false (some [0]) c11r0) (.seq (.seq (.reg false (some [0, 4]) c11r1) (.seq (.reg false (some [0, 14]) c11r2) (.cond (.tmp 14) (.seq (.reg false (some [2]) c11r3) .ret) .nop))) (.seq (.reg false (some [0, 5]) c11r4) (.seq (.reg false (some [0, 5, 6]) c11r5) (.seq (.block 0 (.loop c11l0)) (.seq (.reg false (some [2]) c11r12) .ret))))))
theorem s11 : Try.f11.body.bind (strip Try.prog An 11 Try.f11.ntmps) = some c11 := by kernel_rfl
theorem g11 : An.glob 11 = [15] := rfl
theorem r11 : Try.f11.results.toList = [(.tmp 2)] := by kernel_rfl
theorem t11r0 (h : Q .normal ⟨[(0, (tget L 0))], m⟩) : Rg F 11 [0] c11r0 L m Q := Tx_told (by kernel_rfl) h
theorem t11r1 (h : Obt (callC An F 11 (some 10) 18 [(tget L 0)] m) fun a0 => Obt (extX 0 a0.1) fun a1 => Obt (extX 1 a0.1) fun a2 => Q .normal ⟨[(0, (tget L 0)), (4, a2)], a0.2⟩) : Rg F 11 [0, 4] c11r1 L m Q := Tx_told (by kernel_rfl) h
theorem t11r2 (h : Obt (cbin Try.prog .neq 24 (.tmp 13) (.const (.int .i64 0)) (tget L 4) (.int .i64 0)) fun a0 => Q .normal ⟨[(0, (tget L 0)), (14, a0)], m⟩) : Rg F 11 [0, 14] c11r2 L m Q := Tx_told (by kernel_rfl) h
theorem t11r3 (h : Q .normal ⟨[(2, .nil)], m⟩) : Rg F 11 [2] c11r3 L m Q := Tx_told (by kernel_rfl) h
theorem t11r4 (h : Q .normal ⟨[(0, (tget L 0)), (5, (gnewK m))], (gnewM m)⟩) : Rg F 11 [0, 5] c11r4 L m Q := Tx_told (by kernel_rfl) h
theorem t11r5 (h : Obt (bslX false 256 1 1 [.int .i64 0] [(0, 1, (.int .i64 0))] m) fun a0 => Q .normal ⟨[(0, (tget L 0)), (5, (tget L 5)), (6, a0.1)], a0.2⟩) : Rg F 11 [0, 5, 6] c11r5 L m Q := Tx_told (by kernel_rfl) h
theorem t11r6 (h : Obt (lenS (tget L 6)) fun a0 => Obt (cbin Try.prog .gtr 3 (.tmp 18) (.const (.int .i64 0)) a0 (.int .i64 0)) fun a1 => Q .normal ⟨[(0, (tget L 0)), (5, (tget L 5)), (6, (tget L 6)), (19, a1)], m⟩) : Rg F 11 [0, 5, 6, 19] c11r6 L m Q := Tx_told (by kernel_rfl) h
theorem t11r7 (h : Obt (idxS 1 (tget L 6) (.int .i64 0)) fun a0 => Obt (ld1 m a0) fun a1 => Q .normal ⟨[(0, (tget L 0)), (5, (tget L 5)), (6, (tget L 6)), (7, a1)], m⟩) : Rg F 11 [0, 5, 6, 7] c11r7 L m Q := Tx_told (by kernel_rfl) h
theorem t11r8 (h : Obt (slcX 1 (tget L 6) (some (.int .i64 1)) none none m) fun a0 => Q .normal ⟨[(0, (tget L 0)), (5, (tget L 5)), (6, a0), (7, (tget L 7))], m⟩) : Rg F 11 [0, 5, 6, 7] c11r8 L m Q := Tx_told (by kernel_rfl) h
theorem t11r9 (h : Obt (lookX Try.prog 3 (.bool false) (tget L 5) (tget L 7) false m) fun a0 => Obt (cun .not a0) fun a1 => Q .normal ⟨[(0, (tget L 0)), (5, (tget L 5)), (6, (tget L 6)), (7, (tget L 7)), (28, a1)], m⟩) : Rg F 11 [0, 5, 6, 7, 28] c11r9 L m Q := Tx_told (by kernel_rfl) h
theorem t11r10 (h : Obt (mupX Try.prog 3 (tget L 5) (tget L 7) (.bool true) m) fun a0 => Q .normal ⟨[(0, (tget L 0)), (5, (tget L 5)), (6, (tget L 6)), (7, (tget L 7))], a0⟩) : Rg F 11 [0, 5, 6, 7] c11r10 L m Q := Tx_told (by kernel_rfl) h
theorem t11r11 (h : Obt (callC An F 11 (some 34) 20 [(tget L 0), (tget L 7)] m) fun a0 => Obt (appX false 560 1 8 (tget L 6) a0.1 a0.2) fun a1 => Q .normal ⟨[(0, (tget L 0)), (5, (tget L 5)), (6, a1.1)], a1.2⟩) : Rg F 11 [0, 5, 6] c11r11 L m Q := Tx_told (by kernel_rfl) h
theorem t11r12 (h : Obt (callC An F 11 (some 37) 29 [(tget L 5)] m) fun a0 => Obt (callC An F 11 (some 38) 28 [a0.1] a0.2) fun a1 => Q .normal ⟨[(2, a1.1)], a1.2⟩) : Rg F 11 [2] c11r12 L m Q := Tx_told (by kernel_rfl) h
def c29r0 := rg 29 Try.f29 0
def c29r1 := rg 29 Try.f29 1
def c29 : SC :=
  (.seq (.reg false (some [1]) c29r0) (.seq (.reg false (some [2]) c29r1) .ret))
theorem s29 : Try.f29.body.bind (strip Try.prog An 29 Try.f29.ntmps) = some c29 := by kernel_rfl
theorem g29 : An.glob 29 = [1] := rfl
theorem r29 : Try.f29.results.toList = [(.tmp 2)] := by kernel_rfl
theorem t29r0 (h : Obt (boxG (tget L 0) m) fun a0 => Q .normal ⟨[(1, a0.1)], a0.2⟩) : Rg F 29 [1] c29r0 L m Q := Tx_told (by kernel_rfl) h
theorem t29r1 (h : Q .normal ⟨[(2, (.func (.func 42) [] [(tget L 1)]))], m⟩) : Rg F 29 [2] c29r1 L m Q := Tx_told (by kernel_rfl) h
end
end Go.Cm
