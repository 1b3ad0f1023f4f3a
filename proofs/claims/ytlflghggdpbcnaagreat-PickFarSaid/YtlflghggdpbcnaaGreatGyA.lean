import Derived.Test.YtlflghggdpbcnaaGreatCxD
import Derived.KernelRfl
import Derived.Test.YtlflghggdpbcnaaGreatProg
set_option linter.unusedSimpArgs false
set_option linter.unusedVariables false
namespace Go.Cm
open Go.Proofs
variable {F : Oracle} {L : List (Nat × CV)} {m : Mem} {Q : CE → TS → Prop}
noncomputable section
def kept : FuncId → List (Nat × List Tmp)
  | 10 => [(0, [0, 1, 2, 3]), (1, [0, 1, 2, 3, 43]), (2, [8]), (3, [0, 1, 2, 3, 9]), (4, [0, 1, 2, 3, 9, 10]), (5, [0, 1, 2, 3, 9, 10, 52]), (6, [0, 1, 2, 3, 9, 10]), (7, [0, 1, 2, 3, 9, 10]), (8, [0, 1, 2, 3, 9]), (9, [0, 1, 2, 3, 9, 11]), (10, [0, 1, 2, 3, 9, 11, 12]), (11, [0, 1, 2, 3, 9, 11, 12, 68]), (12, [0, 1, 2, 3, 9, 11, 12]), (13, [0, 1, 2, 3, 9, 11, 12, 13]), (14, [0, 1, 2, 3, 9, 11, 12, 13, 83]), (15, [0, 1, 2, 3, 9, 11, 12, 13]), (16, [0, 1, 2, 3, 9, 11, 12]), (17, [9, 11, 14, 15]), (18, [14, 15, 16, 17]), (19, [8])]
  | 22 => [(0, [0, 1]), (1, [0, 1, 15]), (2, [4, 5]), (3, [0, 6]), (4, [0, 6, 31, 32]), (5, [0, 6, 31, 32, 33]), (6, [0, 6, 7, 31, 32]), (7, [0, 6, 31, 32]), (8, [0, 6, 31, 32]), (9, [0, 6]), (10, [0, 6, 45]), (11, [0, 6]), (12, [0, 6, 8]), (13, [6, 8, 49, 50]), (14, [6, 8, 49, 50, 51]), (15, [6, 8, 9, 49, 50]), (16, [6, 8, 49, 50]), (17, [6, 8, 49, 50]), (18, [8, 59, 60, 61]), (19, [8, 59, 60, 61, 62]), (20, [8, 11, 59, 60, 61]), (21, [8, 59, 60, 61, 67]), (22, [4, 5]), (23, [8, 59, 60, 61]), (24, [4, 5])]
  | 23 => [(0, [0, 1]), (1, [0, 1, 10]), (2, [4]), (3, [0, 1, 5]), (4, [0, 1, 5, 14]), (5, [0, 1, 5]), (6, [0, 1, 5, 25]), (7, [4]), (8, [4])]
  | 25 => [(0, [1]), (1, [1, 3]), (2, [1, 3, 4]), (3, [1, 3, 4, 5]), (4, [1, 3, 4, 5, 15]), (5, [1, 3, 7]), (6, [1, 3, 7]), (7, [1, 3, 4]), (8, [1, 3, 4, 5, 41]), (9, [1, 3]), (10, [1, 3, 4]), (11, [1, 3, 4, 5, 62]), (12, [1, 3]), (13, [1, 3, 4]), (14, [1, 3, 4, 5, 78]), (15, [1, 3]), (16, [1, 3, 4]), (17, [1, 3, 4, 5, 91]), (18, [1, 3]), (19, [1, 3, 4]), (20, [1, 3, 4, 5, 115]), (21, [1, 3, 4]), (22, [1, 3, 4, 5, 121]), (23, [1, 3, 4]), (24, [1, 3, 4, 5, 127]), (25, [1, 3]), (26, [1, 3, 4]), (27, [1, 3, 4, 5, 131]), (28, [1, 3]), (29, [1, 3, 4]), (30, [1, 3, 4, 144]), (31, [1, 3]), (32, [1, 3, 4]), (33, [2])]
  | 26 => [(0, [0, 1]), (1, [0, 1, 19]), (2, [4, 5]), (3, [0, 1, 6]), (4, [0, 1, 6, 7]), (5, [0, 1, 6, 7, 8]), (6, [0, 1, 6, 7, 8, 9]), (7, [0, 1, 6, 7, 8, 9, 29]), (8, [0, 1, 6, 7, 8, 9]), (9, [0, 1, 6, 7, 8, 9, 52]), (10, [0, 1, 6, 7, 8, 9, 10]), (11, [0, 1, 6, 7, 8, 9, 76]), (12, [0, 1, 6, 7, 9]), (13, [0, 1, 6, 7, 8, 9]), (14, [0, 1, 6, 7, 81]), (15, [0, 1, 6, 7]), (16, [0, 1, 6, 7, 11]), (17, [0, 1, 6, 7, 11, 12]), (18, [0, 1, 6, 7, 11, 12, 88]), (19, [0, 1, 6, 7, 11, 12]), (20, [0, 1, 6, 7, 11, 12, 13]), (21, [0, 1, 6, 7, 11, 12, 13, 101]), (22, [0, 1, 6, 7, 11, 12]), (23, [0, 1, 6, 7, 11, 12, 13, 14]), (24, [0, 1, 6, 7, 11, 12, 13, 14, 126]), (25, [0, 1, 6, 7, 11, 12]), (26, [0, 1, 6, 7, 11, 12, 13]), (27, [0, 1, 6, 7, 11, 12]), (28, [11, 15]), (29, [11, 15, 145]), (30, [11, 15]), (31, [11, 15, 153]), (32, [4, 5]), (33, [4, 5])]
  | 37 => [(0, [0]), (1, [0, 3]), (2, [0, 3, 4]), (3, [0, 3, 4, 9]), (4, [0, 3, 4]), (5, [0, 3, 4, 17]), (6, [2]), (7, [2])]
  | 44 => [(0, [0, 1]), (1, [0, 1, 12]), (2, [4]), (3, [0, 1, 13, 14, 15]), (4, [0, 1, 13, 14, 15, 16]), (5, [0, 1, 6, 13, 14, 15]), (6, [0, 1, 13, 14, 15, 26]), (7, [4]), (8, [0, 1, 13, 14, 15]), (9, [1, 28, 29, 30]), (10, [1, 28, 29, 30, 31]), (11, [1, 8, 28, 29, 30]), (12, [1, 8, 9, 28, 29, 30]), (13, [1, 28, 29, 30, 74]), (14, [4]), (15, [1, 28, 29, 30]), (16, [4])]
  | 45 => [(0, [0, 2]), (1, [0, 2, 8, 9, 10]), (2, [0, 2, 8, 9, 10, 11]), (3, [0, 2, 3, 4, 8, 9, 10]), (4, [0, 2, 4, 8, 9, 10]), (5, [0, 2, 8, 9, 10]), (6, [0, 2, 8, 9, 10]), (7, [])]
  | 46 => [(0, [0]), (1, [0, 3]), (2, [0, 3, 10, 11, 12]), (3, [0, 3, 10, 11, 12, 13]), (4, [0, 3, 4, 5, 10, 11, 12]), (5, [0, 3, 4, 5, 10, 11, 12, 35]), (6, [0, 3, 4, 5, 6, 10, 11, 12]), (7, [0, 3, 4, 5, 10, 11, 12, 45]), (8, [0, 4, 5, 10, 11, 12]), (9, [0, 4, 10, 11, 12, 56]), (10, [0, 10, 11, 12]), (11, [0, 3, 10, 11, 12]), (12, [0, 3, 10, 11, 12]), (13, [2])]
  | 47 => [(0, [0, 1]), (1, [0, 1, 5]), (2, [0, 1, 5, 23]), (3, [4]), (4, [0, 1, 5, 6]), (5, [5, 6, 35]), (6, [5, 6, 35, 36]), (7, [5]), (8, [4]), (9, [5, 6, 43]), (10, [5, 6]), (11, [4]), (12, [5, 6]), (13, [4])]
  | 48 => [(0, [1]), (1, [1, 3]), (2, [1, 3, 4]), (3, [1, 3, 4, 16, 17, 18]), (4, [1, 3, 4, 16, 17, 18, 19]), (5, [1, 3, 4, 6, 16, 17, 18]), (6, [1, 3, 4, 6, 7, 16, 17, 18]), (7, [1, 3, 4, 6, 7, 8, 9, 16, 17, 18]), (8, [1, 3, 4, 6, 7, 16, 17, 18, 37]), (9, [2]), (10, [1, 3, 4, 16, 17, 18]), (11, [1, 3, 4, 16, 17, 18]), (12, [2])]
  | 49 => [(0, [0, 1, 2, 3]), (1, [0, 1, 2, 3, 10]), (2, [0, 1, 2, 3, 10, 13]), (3, [0, 1, 2, 3, 10]), (4, [0, 1, 2, 3, 10]), (5, [0, 1, 2, 3, 10]), (6, [0, 1, 2, 3, 10, 11]), (7, [0, 1, 2, 3, 10, 11, 18]), (8, [8, 9]), (9, [0, 1, 2, 3, 10, 11, 18, 19]), (10, [3, 11]), (11, [0, 1, 2, 3, 10, 11, 18, 24]), (12, [3, 11]), (13, [0, 1, 2, 3, 10, 11, 18, 29]), (14, [3, 11]), (15, [0, 1, 2, 3, 10, 11, 18, 34]), (16, [1, 2, 3, 11, 37]), (17, [3, 11]), (18, [0, 1, 2, 3, 10, 18, 41]), (19, [1, 2, 3, 11]), (20, [1, 2, 3, 11, 45]), (21, [3, 11]), (22, [0, 1, 2, 3, 10, 18, 49]), (23, [3, 11]), (24, [0, 1, 2, 3, 10, 18, 54]), (25, [3, 11]), (26, [0, 1, 2, 3, 10, 18, 59]), (27, [3, 11]), (28, [0, 1, 2, 3, 10, 18, 64]), (29, [0, 1, 2, 3, 10, 18, 64]), (30, [0, 1, 2, 3, 10, 18, 64]), (31, [3, 11]), (32, [1, 2, 3, 18, 76]), (33, [3, 11]), (34, [2, 3, 80]), (35, [3, 11]), (36, [11, 84]), (37, [11]), (38, [8, 9])]
  | 50 => [(0, [0, 1, 2]), (1, [6])]
  | 51 => [(0, [0]), (1, [2])]
  | 52 => [(0, [0, 1]), (1, [0, 1, 11]), (2, [4]), (3, [0, 1, 5]), (4, [0, 1, 5, 15]), (5, [0, 1, 5]), (6, [0, 1, 5, 31]), (7, [4]), (8, [0, 1, 6]), (9, [0, 1, 6, 35]), (10, [0, 1, 6]), (11, [0, 1, 6, 7]), (12, [0, 1, 6, 7, 8]), (13, [0, 1, 6, 82]), (14, [4]), (15, [4])]
  | 53 => [(0, [0, 1]), (1, [0, 1, 5]), (2, [0, 1, 5, 6]), (3, [0, 1, 5, 6, 11]), (4, [0, 1, 5, 6]), (5, [0, 1, 5, 6]), (6, [4])]
  | 54 => [(0, [1, 2]), (1, [1, 5]), (2, [1, 5]), (3, [1, 5, 6]), (4, [1, 5, 6, 14]), (5, [1, 5]), (6, [4]), (7, [4])]
  | 62 => [(0, []), (1, [0])]
  | 71 => [(0, [0, 1]), (1, [4])]
  | 72 => [(0, [0]), (1, [3]), (2, [3, 4]), (3, [2]), (4, [3, 6]), (5, [2]), (6, [3, 8]), (7, [2]), (8, [3, 10]), (9, [2]), (10, [3, 12]), (11, [2]), (12, [3, 14]), (13, [2]), (14, [3, 16]), (15, [2]), (16, [3, 18]), (17, [2]), (18, [3, 20]), (19, [2]), (20, [22]), (21, [2]), (22, [2])]
  | 73 => [(0, [0, 2]), (1, [2])]
  | 74 => [(0, [0]), (1, [0, 3]), (2, [2]), (3, [0, 12]), (4, [2]), (5, [0, 24]), (6, [2]), (7, [0, 35]), (8, [2]), (9, [46]), (10, [46, 47]), (11, [46, 49]), (12, [46, 51]), (13, [46, 53]), (14, [46, 55]), (15, [46, 57]), (16, [46, 59]), (17, [61]), (18, [2]), (19, [2]), (20, [2]), (21, [2]), (22, [2]), (23, [2]), (24, [2])]
  | 76 => [(0, [1]), (1, [1, 6]), (2, [1, 6, 7]), (3, [4]), (4, [2]), (5, [1, 6, 16]), (6, [2]), (7, [1, 6, 26]), (8, [1, 26]), (9, [2]), (10, [2])]
  | 78 => [(0, [1, 2]), (1, [2, 6]), (2, [4]), (3, [11]), (4, [4]), (5, [4])]
  | 79 => [(0, [0]), (1, [0, 3]), (2, [0, 3, 4]), (3, [0, 3, 4, 9]), (4, [0, 3, 4]), (5, [0, 3, 4, 17]), (6, [3, 4, 20]), (7, [2]), (8, [2]), (9, [2])]
  | 102 => [(0, [0, 1]), (1, [0, 1, 7, 8]), (2, [0, 1, 7, 8, 9]), (3, [0, 1, 5, 7, 8]), (4, [0, 1, 5, 7, 8, 16]), (5, [4]), (6, [0, 1, 7, 8]), (7, [4])]
  | 110 => [(0, [0]), (1, [2])]
  | 113 => [(0, [0]), (1, [0, 1]), (2, [0])]
  | 114 => [(0, [0, 1, 2, 3]), (1, [0, 1, 2, 3]), (2, [0, 1, 2, 3, 18]), (3, [0, 1, 2, 3, 18, 19]), (4, [1, 2, 22]), (5, [8, 9]), (6, [8, 9]), (7, [0, 1, 2, 3, 18, 26]), (8, [1, 2, 29]), (9, [8, 9]), (10, [8, 9]), (11, [0, 1, 2, 3, 18, 34]), (12, [0, 1, 2, 3, 18, 34]), (13, [0, 1, 2, 3, 34]), (14, [8, 9]), (15, [3, 10, 11]), (16, [8, 9])]
  | 153 => [(0, [0]), (1, [2])]
  | 154 => [(0, [0]), (1, [2])]
  | 155 => [(0, [0]), (1, [2])]
  | 156 => [(0, [0]), (1, [2])]
  | 157 => [(0, [0]), (1, [3]), (2, [2]), (3, [2])]
  | 158 => [(0, [])]
  | 159 => [(0, [0]), (1, [2])]
  | 160 => [(0, [])]
  | 161 => [(0, [0, 1]), (1, [3])]
  | 162 => [(0, [])]
  | 163 => [(0, []), (1, [2])]
  | 164 => []
  | 165 => [(0, [0]), (1, [2])]
  | 167 => [(0, [0, 1]), (1, [3])]
  | 168 => [(0, [0, 1, 2]), (1, [0, 1, 2, 9]), (2, [])]
  | 171 => [(0, [0, 1, 2]), (1, [1, 2, 8]), (2, [1, 2, 8, 9]), (3, [6, 7]), (4, [1, 2, 8, 14]), (5, [6, 7]), (6, [1, 2, 8, 19]), (7, [6, 7]), (8, [1, 2, 8, 24]), (9, [6, 7]), (10, [1, 2, 8, 29]), (11, [6, 7]), (12, [1, 2, 8, 34]), (13, [6, 7]), (14, [1, 2, 8, 39]), (15, [6, 7]), (16, [2, 43]), (17, [6, 7]), (18, [6, 7])]
  | _ => []
def globs : FuncId → List Tmp
  | 20 => [40, 41, 43]
  | 22 => [20, 24, 26]
  | 26 => [22]
  | 48 => [1, 4]
  | 109 => [5]
  | 113 => [1]
  | _ => []
def impure : FuncId → Bool
  | 30 => true
  | 31 => true
  | 32 => true
  | 41 => true
  | 45 => true
  | 46 => true
  | 47 => true
  | 53 => true
  | 58 => true
  | 59 => true
  | 60 => true
  | 61 => true
  | 65 => true
  | 67 => true
  | 68 => true
  | 69 => true
  | 71 => true
  | 74 => true
  | 75 => true
  | 80 => true
  | 81 => true
  | 82 => true
  | 93 => true
  | 94 => true
  | 95 => true
  | 96 => true
  | 97 => true
  | 98 => true
  | 99 => true
  | 100 => true
  | 101 => true
  | 102 => true
  | 103 => true
  | 104 => true
  | 105 => true
  | 106 => true
  | 107 => true
  | 108 => true
  | 109 => true
  | 110 => true
  | 111 => true
  | 112 => true
  | 113 => true
  | 144 => true
  | 145 => true
  | 150 => true
  | 151 => true
  | 152 => true
  | 153 => true
  | 154 => true
  | 155 => true
  | 156 => true
  | 158 => true
  | 159 => true
  | 160 => true
  | 161 => true
  | 162 => true
  | 163 => true
  | 164 => true
  | 165 => true
  | 167 => true
  | 168 => true
  | 184 => true
  | _ => false
def nds : FuncId → List Nat
  | 25 => [6, 9, 12, 18]
  | _ => []
def bases : FuncId → List (Tmp × Tmp)
  | 25 => [(34, 3), (35, 3), (36, 3), (37, 3), (38, 3), (39, 3), (52, 3), (53, 3), (73, 3), (74, 3), (102, 3), (103, 3), (104, 3), (105, 3)]
  | _ => []
def An : Ann := { glob := globs, pure := fun f => !(impure f), keep := fun f r => ((kept f).find? fun x => x.1 == r).map (·.2), nd := fun f r => (nds f).contains r, base := fun f t => ((bases f).find? fun x => x.1 == t).map (·.2) }
abbrev rg := rgo Tryz.prog An
abbrev Rg (F : Oracle) (k : Nat) (l : List Tmp) (c : List SO) (L : List (Nat × CV)) (m : Mem) (Q : CE → TS → Prop) := Tx Tryz.prog An F k (.reg false (some l) c) ⟨L, m⟩ Q
abbrev Rt (F : Oracle) (k : Nat) (l : List Tmp) (c : List SO) (L : List (Nat × CV)) (m : Mem) (Q : CE → TS → Prop) := Tx Tryz.prog An F k (.reg true (some l) c) ⟨L, m⟩ Q
theorem plainN : plainNames Tryz.prog = true := by kernel_rfl
theorem mixed : Tryz.prog.follows .mixedOrders = true := by kernel_rfl
def c23r0 := rg 23 Tryz.f23 0
def c23r1 := rg 23 Tryz.f23 1
def c23r2 := rg 23 Tryz.f23 2
def c23r3 := rg 23 Tryz.f23 3
def c23r4 := rg 23 Tryz.f23 4
def c23r6 := rg 23 Tryz.f23 6
def c23r7 := rg 23 Tryz.f23 7
def c23r5 := rg 23 Tryz.f23 5
def c23l0 : SC :=
  (.seq (.seq (.reg false (some [0, 1, 5, 14]) c23r4) (.cond (.tmp 14) .nop (.exit 0))) (.seq (.block 1 (.seq (.reg true (some [0, 1, 5, 25]) c23r6) (.cond (.tmp 25) (.seq (.reg false (some [4]) c23r7) .ret) .nop))) (.reg false (some [0, 1, 5]) c23r5)))
def c23r8 := rg 23 Tryz.f23 8
def c23 : SC :=
  (.seq (.reg false (some [0, 1]) c23r0) (.seq (.seq (.reg false (some [0, 1, 10]) c23r1) (.cond (.tmp 10) (.seq (.reg false (some [4]) c23r2) .ret) .nop)) (.seq (.seq (.reg false (some [0, 1, 5]) c23r3) (.block 0 (.loop c23l0))) (.seq (.reg false (some [4]) c23r8) .ret))))
theorem s23 : Tryz.f23.body.bind (strip Tryz.prog An 23 Tryz.f23.ntmps) = some c23 := by kernel_rfl
theorem g23 : An.glob 23 = [] := rfl
theorem r23 : Tryz.f23.results.toList = [(.tmp 4)] := by kernel_rfl
theorem t23r0 (h : Q .normal ⟨[(0, (tget L 0)), (1, (tget L 1))], m⟩) : Rg F 23 [0, 1] c23r0 L m Q := Tx_told (by kernel_rfl) h
theorem t23r1 (h : Obt (lenS (tget L 0)) fun a0 => Obt (lenS (tget L 1)) fun a1 => Obt (cbin Tryz.prog .neq 3 (.tmp 7) (.tmp 9) a0 a1) fun a2 => Q .normal ⟨[(0, (tget L 0)), (1, (tget L 1)), (10, a2)], m⟩) : Rg F 23 [0, 1, 10] c23r1 L m Q := Tx_told (by kernel_rfl) h
theorem t23r3 (h : Q .normal ⟨[(0, (tget L 0)), (1, (tget L 1)), (5, (.int .i64 0))], m⟩) : Rg F 23 [0, 1, 5] c23r3 L m Q := Tx_told (by kernel_rfl) h
theorem t23r4 (h : Obt (lenS (tget L 0)) fun a0 => Obt (cbin Tryz.prog .lss 3 (.tmp 11) (.tmp 13) (tget L 5) a0) fun a1 => Q .normal ⟨[(0, (tget L 0)), (1, (tget L 1)), (5, (tget L 5)), (14, a1)], m⟩) : Rg F 23 [0, 1, 5, 14] c23r4 L m Q := Tx_told (by kernel_rfl) h
theorem t23r6 (h : Obt (idxS 8 (tget L 0) (tget L 5)) fun a0 => Obt (ldA 8 m a0) fun a1 => Obt (idxS 8 (tget L 1) (tget L 5)) fun a2 => Obt (ldA 8 m a2) fun a3 => Obt (cbin Tryz.prog .neq 52 (.tmp 20) (.tmp 24) a1 a3) fun a4 => Q .normal ⟨[(0, (tget L 0)), (1, (tget L 1)), (5, (tget L 5)), (25, a4)], m⟩) : Rt F 23 [0, 1, 5, 25] c23r6 L m Q := Tx_told (by kernel_rfl) h
theorem t23r5 (h : Obt (cbin Tryz.prog .add 3 (.tmp 15) (.const (.int .i64 1)) (tget L 5) (.int .i64 1)) fun a0 => Q .normal ⟨[(0, (tget L 0)), (1, (tget L 1)), (5, a0)], m⟩) : Rg F 23 [0, 1, 5] c23r5 L m Q := Tx_told (by kernel_rfl) h
theorem t23r8 (h : Q .normal ⟨[(4, (.bool true))], m⟩) : Rg F 23 [4] c23r8 L m Q := Tx_told (by kernel_rfl) h
def c50r0 := rg 50 Tryz.f50 0
def c50r1 := rg 50 Tryz.f50 1
def c50 : SC :=
  (.seq (.reg false (some [0, 1, 2]) c50r0) (.seq (.reg false (some [6]) c50r1) .ret))
theorem s50 : Tryz.f50.body.bind (strip Tryz.prog An 50 Tryz.f50.ntmps) = some c50 := by kernel_rfl
theorem g50 : An.glob 50 = [] := rfl
theorem r50 : Tryz.f50.results.toList = [(.tmp 6)] := by kernel_rfl
theorem t50r0 (h : Q .normal ⟨[(0, (tget L 0)), (1, (tget L 1)), (2, (tget L 2))], m⟩) : Rg F 50 [0, 1, 2] c50r0 L m Q := Tx_told (by kernel_rfl) h
theorem t50r1 (h : Obt (cbin Tryz.prog .geq 3 (.tmp 7) (.tmp 8) (tget L 0) (tget L 1)) fun a0 => Obt (gdO a0 true (some ((tget L 0), m)) (.tuple [], m)) fun a1 => Obt (gdO a0 true (some ((tget L 2), a1.2)) (.tuple [], a1.2)) fun a2 => Obt (gdO a0 true ((cbin Tryz.prog .leq 3 (.tmp 11) (.tmp 12) a1.1 a2.1).map fun v => (v, a2.2)) (.tuple [], a2.2)) fun a3 => Obt (pickX a0 a3.1 (.bool false)) fun a4 => Q .normal ⟨[(6, a4)], a3.2⟩) : Rg F 50 [6] c50r1 L m Q := Tx_told (by kernel_rfl) h
def c51r0 := rg 51 Tryz.f51 0
def c51r1 := rg 51 Tryz.f51 1
def c51 : SC :=
  (.seq (.reg false (some [0]) c51r0) (.seq (.reg false (some [2]) c51r1) .ret))
theorem s51 : Tryz.f51.body.bind (strip Tryz.prog An 51 Tryz.f51.ntmps) = some c51 := by kernel_rfl
theorem g51 : An.glob 51 = [] := rfl
theorem r51 : Tryz.f51.results.toList = [(.tmp 2)] := by kernel_rfl
theorem t51r0 (h : Q .normal ⟨[(0, (tget L 0))], m⟩) : Rg F 51 [0] c51r0 L m Q := Tx_told (by kernel_rfl) h
theorem t51r1 (h : Obt (callC An F 51 (some 4) 50 [(tget L 0), (.int .i64 0), (.int .i64 31)] m) fun a0 => Q .normal ⟨[(2, a0.1)], a0.2⟩) : Rg F 51 [2] c51r1 L m Q := Tx_told (by kernel_rfl) h
def c25r0 := rg 25 Tryz.f25 0
def c25r1 := rg 25 Tryz.f25 1
def c25r2 := rg 25 Tryz.f25 2
def c25r3 := rg 25 Tryz.f25 3
def c25r4 := rg 25 Tryz.f25 4
def c25r5 := rg 25 Tryz.f25 5
def c25r6 := rg 25 Tryz.f25 6
def c25r7 := rg 25 Tryz.f25 7
def c25r8 := rg 25 Tryz.f25 8
def c25r9 := rg 25 Tryz.f25 9
def c25r10 := rg 25 Tryz.f25 10
def c25r11 := rg 25 Tryz.f25 11
def c25r12 := rg 25 Tryz.f25 12
def c25r13 := rg 25 Tryz.f25 13
def c25r14 := rg 25 Tryz.f25 14
def c25r15 := rg 25 Tryz.f25 15
def c25r16 := rg 25 Tryz.f25 16
def c25r17 := rg 25 Tryz.f25 17
def c25r18 := rg 25 Tryz.f25 18
def c25r19 := rg 25 Tryz.f25 19
def c25r20 := rg 25 Tryz.f25 20
def c25r21 := rg 25 Tryz.f25 21
def c25r22 := rg 25 Tryz.f25 22
def c25r23 := rg 25 Tryz.f25 23
def c25r24 := rg 25 Tryz.f25 24
def c25r25 := rg 25 Tryz.f25 25
def c25r26 := rg 25 Tryz.f25 26
def c25r27 := rg 25 Tryz.f25 27
def c25r28 := rg 25 Tryz.f25 28
def c25r29 := rg 25 Tryz.f25 29
def c25r30 := rg 25 Tryz.f25 30
def c25r31 := rg 25 Tryz.f25 31
def c25r32 := rg 25 Tryz.f25 32
def c25r33 := rg 25 Tryz.f25 33
def c25 : SC :=
  (.seq (.reg false (some [1]) c25r0) (.seq (.reg false (some [1, 3]) c25r1) (.seq (.reg false (some [1, 3, 4]) c25r2) (.seq (.reg false (some [1, 3, 4, 5]) c25r3) (.seq (.block 0 (.seq (.reg false (some [1, 3, 4, 5, 15]) c25r4) (.cond (.tmp 15) (.seq (.reg false (some [1, 3, 7]) c25r5) (.seq (.reg false (some [1, 3, 7]) c25r6) (.reg false (some [1, 3, 4]) c25r7))) (.seq (.reg false (some [1, 3, 4, 5, 41]) c25r8) (.cond (.tmp 41) (.seq (.reg false (some [1, 3]) c25r9) (.reg false (some [1, 3, 4]) c25r10)) (.seq (.reg false (some [1, 3, 4, 5, 62]) c25r11) (.cond (.tmp 62) (.seq (.reg false (some [1, 3]) c25r12) (.reg false (some [1, 3, 4]) c25r13)) (.seq (.reg false (some [1, 3, 4, 5, 78]) c25r14) (.cond (.tmp 78) (.seq (.reg false (some [1, 3]) c25r15) (.reg false (some [1, 3, 4]) c25r16)) (.seq (.reg false (some [1, 3, 4, 5, 91]) c25r17) (.cond (.tmp 91) (.seq (.reg false (some [1, 3]) c25r18) (.reg false (some [1, 3, 4]) c25r19)) (.seq (.reg false (some [1, 3, 4, 5, 115]) c25r20) (.cond (.tmp 115) (.reg false (some [1, 3, 4]) c25r21) (.seq (.reg false (some [1, 3, 4, 5, 121]) c25r22) (.cond (.tmp 121) (.reg false (some [1, 3, 4]) c25r23) (.seq (.reg false (some [1, 3, 4, 5, 127]) c25r24) (.cond (.tmp 127) (.seq (.reg false (some [1, 3]) c25r25) (.reg false (some [1, 3, 4]) c25r26)) (.seq (.reg false (some [1, 3, 4, 5, 131]) c25r27) (.cond (.tmp 131) (.seq (.reg false (some [1, 3]) c25r28) (.reg false (some [1, 3, 4]) c25r29)) (.seq (.reg false (some [1, 3, 4, 144]) c25r30) (.cond (.tmp 144) (.seq (.reg false (some [1, 3]) c25r31) (.reg false (some [1, 3, 4]) c25r32)) .nop))))))))))))))))))))) (.seq (.reg false (some [2]) c25r33) .ret))))))
theorem s25 : Tryz.f25.body.bind (strip Tryz.prog An 25 Tryz.f25.ntmps) = some c25 := by kernel_rfl
theorem g25 : An.glob 25 = [] := rfl
theorem r25 : Tryz.f25.results.toList = [(.tmp 2)] := by kernel_rfl
theorem t25r0 (h : Obt (ccells (tget L 0)) fun a0 => Q .normal ⟨[(1, (newP m 16))], (newL m 16 a0)⟩) : Rg F 25 [1] c25r0 L m Q := Tx_told (by kernel_rfl) h
theorem t25r1 (h : Obt (fldA 0 (tget L 1)) fun a0 => Obt (ld1 m a0) fun a1 => Obt (fldA 7 (tget L 1)) fun a2 => Obt (ld1 m a2) fun a3 => Obt ((fillX [.int .i64 0, .int .i64 0, .int .i64 0, .int .i64 0, .int .i64 0, .bool false, .int .i64 0, .int .i64 0] [(0, 1, a1), (7, 1, a3)]).map CV.agg) fun a4 => Obt (stX 8 (newL m 48 [.int .i64 0, .int .i64 0, .int .i64 0, .int .i64 0, .int .i64 0, .bool false, .int .i64 0, .int .i64 0]) (newP m 48) a4) fun a5 => Q .normal ⟨[(1, (tget L 1)), (3, (newP m 48))], a5⟩) : Rg F 25 [1, 3] c25r1 L m Q := Tx_told (by kernel_rfl) h
theorem t25r2 (h : Q .normal ⟨[(1, (tget L 1)), (3, (tget L 3)), (4, (.bool false))], m⟩) : Rg F 25 [1, 3, 4] c25r2 L m Q := Tx_told (by kernel_rfl) h
theorem t25r3 (h : Obt (fldA 0 (tget L 1)) fun a0 => Obt (ld1 m a0) fun a1 => Q .normal ⟨[(1, (tget L 1)), (3, (tget L 3)), (4, (tget L 4)), (5, a1)], m⟩) : Rg F 25 [1, 3, 4, 5] c25r3 L m Q := Tx_told (by kernel_rfl) h
theorem t25r4 (h : Obt (cbin Tryz.prog .eql 50 (.tmp 16) (.const (.int .i64 1)) (tget L 5) (.int .i64 1)) fun a0 => Q .normal ⟨[(1, (tget L 1)), (3, (tget L 3)), (4, (tget L 4)), (5, (tget L 5)), (15, a0)], m⟩) : Rg F 25 [1, 3, 4, 5, 15] c25r4 L m Q := Tx_told (by kernel_rfl) h
theorem t25r5 (h : Obt (fldA 4 (tget L 1)) fun a0 => Obt (ld1 m a0) fun a1 => Obt (callC An F 25 (some 21) 49 [a1, (.int .u64 0), (.int .u64 0), (.bool true)] m) fun a2 => Obt (extX 0 a2.1) fun a3 => Obt (extX 1 a2.1) fun a4 => Q .normal ⟨[(1, (tget L 1)), (3, (tget L 3)), (7, a4)], a2.2⟩) : Rg F 25 [1, 3, 7] c25r5 L m Q := Tx_told (by kernel_rfl) h
theorem t25r6 (h : Obt (fldA 1 (tget L 1)) fun a0 => Obt (ld1 m a0) fun a1 => Obt (fldA 2 (tget L 1)) fun a2 => Obt (offK [(false, 3)] a2 ((ld1 m a2).map fun v => (v, m))) fun a3 => Obt (fldA 3 (tget L 1)) fun a4 => Obt (offK [(false, 3), (false, 3)] a4 ((ld1 a3.2 a4).map fun v => (v, a3.2))) fun a5 => Obt (fldA 4 (tget L 1)) fun a6 => Obt (offK [(false, 3), (false, 3), (false, 3)] a6 ((ld1 a5.2 a6).map fun v => (v, a5.2))) fun a7 => Obt (fldA 5 (tget L 1)) fun a8 => Obt (offK [(false, 3), (false, 3), (false, 3), (false, 3)] a8 ((ld1 a7.2 a8).map fun v => (v, a7.2))) fun a9 => Obt (fldA 1 (tget L 3)) fun a10 => Obt (offP [(true, 3)] a10 (offS [(true, 3)] a9.2 ((stX 1 a9.2 a10 a1).map fun m => (CV.dead, m)))) fun a11 => Obt (fldA 2 (tget L 3)) fun a12 => Obt (offP [(true, 3)] a12 (offS [(true, 3)] a11.2 ((stX 1 a11.2 a12 a3.1).map fun m => (CV.dead, m)))) fun a13 => Obt (fldA 3 (tget L 3)) fun a14 => Obt (offP [(true, 3)] a14 (offS [(true, 3)] a13.2 ((stX 1 a13.2 a14 a5.1).map fun m => (CV.dead, m)))) fun a15 => Obt (fldA 4 (tget L 3)) fun a16 => Obt (offP [(true, 3)] a16 (offS [(true, 3)] a15.2 ((stX 1 a15.2 a16 a7.1).map fun m => (CV.dead, m)))) fun a17 => Obt (fldA 5 (tget L 3)) fun a18 => Obt (offP [(true, 3)] a18 (offS [(true, 3)] a17.2 ((stX 1 a17.2 a18 a9.1).map fun m => (CV.dead, m)))) fun a19 => Obt (fldA 7 (tget L 3)) fun a20 => Obt (offP [(true, 3)] a20 (offS [(true, 3)] a19.2 ((stX 1 a19.2 a20 (.int .i64 0)).map fun m => (CV.dead, m)))) fun a21 => Q .normal ⟨[(1, (tget L 1)), (3, (tget L 3)), (7, (tget L 7))], a21.2⟩) : Rg F 25 [1, 3, 7] c25r6 L m Q := Tx_told (by kernel_rfl) h
theorem t25r7 (h : Q .normal ⟨[(1, (tget L 1)), (3, (tget L 3)), (4, (tget L 7))], m⟩) : Rg F 25 [1, 3, 4] c25r7 L m Q := Tx_told (by kernel_rfl) h
theorem t25r8 (h : Obt (cbin Tryz.prog .eql 50 (.tmp 42) (.const (.int .i64 2)) (tget L 5) (.int .i64 2)) fun a0 => Obt (gdO a0 false (some ((tget L 5), m)) (.tuple [], m)) fun a1 => Obt (gdO a0 false ((cbin Tryz.prog .eql 50 (.tmp 45) (.const (.int .i64 3)) a1.1 (.int .i64 3)).map fun v => (v, a1.2)) (.tuple [], a1.2)) fun a2 => Obt (pickX a0 (.bool true) a2.1) fun a3 => Q .normal ⟨[(1, (tget L 1)), (3, (tget L 3)), (4, (tget L 4)), (5, (tget L 5)), (41, a3)], a2.2⟩) : Rg F 25 [1, 3, 4, 5, 41] c25r8 L m Q := Tx_told (by kernel_rfl) h
theorem t25r9 (h : Obt (fldA 1 (tget L 1)) fun a0 => Obt (ld1 m a0) fun a1 => Obt (fldA 6 (tget L 1)) fun a2 => Obt (offK [(false, 3)] a2 ((ld1 m a2).map fun v => (v, m))) fun a3 => Obt (fldA 1 (tget L 3)) fun a4 => Obt (offP [(true, 3)] a4 (offS [(true, 3)] a3.2 ((stX 1 a3.2 a4 a1).map fun m => (CV.dead, m)))) fun a5 => Obt (fldA 6 (tget L 3)) fun a6 => Obt (offP [(true, 3)] a6 (offS [(true, 3)] a5.2 ((stX 1 a5.2 a6 a3.1).map fun m => (CV.dead, m)))) fun a7 => Q .normal ⟨[(1, (tget L 1)), (3, (tget L 3))], a7.2⟩) : Rg F 25 [1, 3] c25r9 L m Q := Tx_told (by kernel_rfl) h
theorem t25r10 (h : Obt (fldA 6 (tget L 1)) fun a0 => Obt (ld1 m a0) fun a1 => Obt (callC An F 25 (some 56) 50 [a1, (.int .i64 0), (.int .i64 3)] m) fun a2 => Obt (gdO a2.1 true ((fldA 7 (tget L 1)).map fun v => (v, a2.2)) (.tuple [], a2.2)) fun a3 => Obt (gdO a2.1 true ((ld1 a3.2 a3.1).map fun v => (v, a3.2)) (.tuple [], a3.2)) fun a4 => Obt (gdO a2.1 true (callC An F 25 (some 60) 50 [a4.1, (.int .i64 0), (.int .i64 65535)] a4.2) (.tuple [], a4.2)) fun a5 => Obt (pickX a2.1 a5.1 (.bool false)) fun a6 => Q .normal ⟨[(1, (tget L 1)), (3, (tget L 3)), (4, a6)], a5.2⟩) : Rg F 25 [1, 3, 4] c25r10 L m Q := Tx_told (by kernel_rfl) h
theorem t25r11 (h : Obt (cbin Tryz.prog .geq 50 (.tmp 63) (.const (.int .i64 4)) (tget L 5) (.int .i64 4)) fun a0 => Obt (gdO a0 true (some ((tget L 5), m)) (.tuple [], m)) fun a1 => Obt (gdO a0 true ((cbin Tryz.prog .lss 50 (.tmp 66) (.const (.int .i64 12)) a1.1 (.int .i64 12)).map fun v => (v, a1.2)) (.tuple [], a1.2)) fun a2 => Obt (pickX a0 a2.1 (.bool false)) fun a3 => Q .normal ⟨[(1, (tget L 1)), (3, (tget L 3)), (4, (tget L 4)), (5, (tget L 5)), (62, a3)], a2.2⟩) : Rg F 25 [1, 3, 4, 5, 62] c25r11 L m Q := Tx_told (by kernel_rfl) h
theorem t25r12 (h : Obt (fldA 1 (tget L 1)) fun a0 => Obt (ld1 m a0) fun a1 => Obt (fldA 2 (tget L 1)) fun a2 => Obt (offK [(false, 3)] a2 ((ld1 m a2).map fun v => (v, m))) fun a3 => Obt (fldA 1 (tget L 3)) fun a4 => Obt (offP [(true, 3)] a4 (offS [(true, 3)] a3.2 ((stX 1 a3.2 a4 a1).map fun m => (CV.dead, m)))) fun a5 => Obt (fldA 2 (tget L 3)) fun a6 => Obt (offP [(true, 3)] a6 (offS [(true, 3)] a5.2 ((stX 1 a5.2 a6 a3.1).map fun m => (CV.dead, m)))) fun a7 => Q .normal ⟨[(1, (tget L 1)), (3, (tget L 3))], a7.2⟩) : Rg F 25 [1, 3] c25r12 L m Q := Tx_told (by kernel_rfl) h
theorem t25r13 (h : Obt (fldA 7 (tget L 1)) fun a0 => Obt (ld1 m a0) fun a1 => Obt (callC An F 25 (some 77) 50 [a1, (.int .i64 (-32768)), (.int .i64 32767)] m) fun a2 => Q .normal ⟨[(1, (tget L 1)), (3, (tget L 3)), (4, a2.1)], a2.2⟩) : Rg F 25 [1, 3, 4] c25r13 L m Q := Tx_told (by kernel_rfl) h
theorem t25r14 (h : Obt (cbin Tryz.prog .geq 50 (.tmp 79) (.const (.int .i64 12)) (tget L 5) (.int .i64 12)) fun a0 => Obt (gdO a0 true (some ((tget L 5), m)) (.tuple [], m)) fun a1 => Obt (gdO a0 true ((cbin Tryz.prog .lss 50 (.tmp 82) (.const (.int .i64 20)) a1.1 (.int .i64 20)).map fun v => (v, a1.2)) (.tuple [], a1.2)) fun a2 => Obt (pickX a0 a2.1 (.bool false)) fun a3 => Q .normal ⟨[(1, (tget L 1)), (3, (tget L 3)), (4, (tget L 4)), (5, (tget L 5)), (78, a3)], a2.2⟩) : Rg F 25 [1, 3, 4, 5, 78] c25r14 L m Q := Tx_told (by kernel_rfl) h
theorem t25r15 (h : Obt (fldA 2 (tget L 1)) fun a0 => Obt (ld1 m a0) fun a1 => Obt (fldA 2 (tget L 3)) fun a2 => Obt (stX 1 m a2 a1) fun a3 => Q .normal ⟨[(1, (tget L 1)), (3, (tget L 3))], a3⟩) : Rg F 25 [1, 3] c25r15 L m Q := Tx_told (by kernel_rfl) h
theorem t25r16 (h : Obt (fldA 7 (tget L 1)) fun a0 => Obt (ld1 m a0) fun a1 => Obt (callC An F 25 (some 90) 50 [a1, (.int .i64 (-32768)), (.int .i64 32767)] m) fun a2 => Q .normal ⟨[(1, (tget L 1)), (3, (tget L 3)), (4, a2.1)], a2.2⟩) : Rg F 25 [1, 3, 4] c25r16 L m Q := Tx_told (by kernel_rfl) h
theorem t25r17 (h : Obt (cbin Tryz.prog .eql 50 (.tmp 92) (.const (.int .i64 20)) (tget L 5) (.int .i64 20)) fun a0 => Q .normal ⟨[(1, (tget L 1)), (3, (tget L 3)), (4, (tget L 4)), (5, (tget L 5)), (91, a0)], m⟩) : Rg F 25 [1, 3, 4, 5, 91] c25r17 L m Q := Tx_told (by kernel_rfl) h
theorem t25r18 (h : Obt (fldA 2 (tget L 1)) fun a0 => Obt (ld1 m a0) fun a1 => Obt (fldA 3 (tget L 1)) fun a2 => Obt (offK [(false, 3)] a2 ((ld1 m a2).map fun v => (v, m))) fun a3 => Obt (fldA 4 (tget L 1)) fun a4 => Obt (offK [(false, 3), (false, 3)] a4 ((ld1 a3.2 a4).map fun v => (v, a3.2))) fun a5 => Obt (fldA 5 (tget L 1)) fun a6 => Obt (offK [(false, 3), (false, 3), (false, 3)] a6 ((ld1 a5.2 a6).map fun v => (v, a5.2))) fun a7 => Obt (fldA 2 (tget L 3)) fun a8 => Obt (offP [(true, 3)] a8 (offS [(true, 3)] a7.2 ((stX 1 a7.2 a8 a1).map fun m => (CV.dead, m)))) fun a9 => Obt (fldA 3 (tget L 3)) fun a10 => Obt (offP [(true, 3)] a10 (offS [(true, 3)] a9.2 ((stX 1 a9.2 a10 a3.1).map fun m => (CV.dead, m)))) fun a11 => Obt (fldA 4 (tget L 3)) fun a12 => Obt (offP [(true, 3)] a12 (offS [(true, 3)] a11.2 ((stX 1 a11.2 a12 a5.1).map fun m => (CV.dead, m)))) fun a13 => Obt (fldA 5 (tget L 3)) fun a14 => Obt (offP [(true, 3)] a14 (offS [(true, 3)] a13.2 ((stX 1 a13.2 a14 a7.1).map fun m => (CV.dead, m)))) fun a15 => Q .normal ⟨[(1, (tget L 1)), (3, (tget L 3))], a15.2⟩) : Rg F 25 [1, 3] c25r18 L m Q := Tx_told (by kernel_rfl) h
theorem t25r19 (h : Obt (fldA 4 (tget L 1)) fun a0 => Obt (ld1 m a0) fun a1 => Obt (callC An F 25 (some 108) 37 [a1] m) fun a2 => Obt (cbin Tryz.prog .geq 3 (.tmp 108) (.const (.int .i64 0)) a2.1 (.int .i64 0)) fun a3 => Obt (gdO a3 true ((fldA 7 (tget L 1)).map fun v => (v, a2.2)) (.tuple [], a2.2)) fun a4 => Obt (gdO a3 true ((ld1 a4.2 a4.1).map fun v => (v, a4.2)) (.tuple [], a4.2)) fun a5 => Obt (gdO a3 true (callC An F 25 (some 113) 50 [a5.1, (.int .i64 (-1024)), (.int .i64 1023)] a5.2) (.tuple [], a5.2)) fun a6 => Obt (pickX a3 a6.1 (.bool false)) fun a7 => Q .normal ⟨[(1, (tget L 1)), (3, (tget L 3)), (4, a7)], a6.2⟩) : Rg F 25 [1, 3, 4] c25r19 L m Q := Tx_told (by kernel_rfl) h
theorem t25r20 (h : Obt (cbin Tryz.prog .eql 50 (.tmp 116) (.const (.int .i64 21)) (tget L 5) (.int .i64 21)) fun a0 => Q .normal ⟨[(1, (tget L 1)), (3, (tget L 3)), (4, (tget L 4)), (5, (tget L 5)), (115, a0)], m⟩) : Rg F 25 [1, 3, 4, 5, 115] c25r20 L m Q := Tx_told (by kernel_rfl) h
theorem t25r21 (h : Obt (fldA 7 (tget L 1)) fun a0 => Obt (ld1 m a0) fun a1 => Obt (callC An F 25 (some 120) 50 [a1, (.int .i64 (-33554432)), (.int .i64 33554431)] m) fun a2 => Q .normal ⟨[(1, (tget L 1)), (3, (tget L 3)), (4, a2.1)], a2.2⟩) : Rg F 25 [1, 3, 4] c25r21 L m Q := Tx_told (by kernel_rfl) h
theorem t25r22 (h : Obt (cbin Tryz.prog .eql 50 (.tmp 122) (.const (.int .i64 22)) (tget L 5) (.int .i64 22)) fun a0 => Q .normal ⟨[(1, (tget L 1)), (3, (tget L 3)), (4, (tget L 4)), (5, (tget L 5)), (121, a0)], m⟩) : Rg F 25 [1, 3, 4, 5, 121] c25r22 L m Q := Tx_told (by kernel_rfl) h
theorem t25r23 (h : Obt (fldA 7 (tget L 1)) fun a0 => Obt (ld1 m a0) fun a1 => Obt (callC An F 25 (some 126) 50 [a1, (.int .i64 1), (.int .i64 5)] m) fun a2 => Q .normal ⟨[(1, (tget L 1)), (3, (tget L 3)), (4, a2.1)], a2.2⟩) : Rg F 25 [1, 3, 4] c25r23 L m Q := Tx_told (by kernel_rfl) h
theorem t25r24 (h : Obt (cbin Tryz.prog .eql 50 (.tmp 128) (.const (.int .i64 23)) (tget L 5) (.int .i64 23)) fun a0 => Q .normal ⟨[(1, (tget L 1)), (3, (tget L 3)), (4, (tget L 4)), (5, (tget L 5)), (127, a0)], m⟩) : Rg F 25 [1, 3, 4, 5, 127] c25r24 L m Q := Tx_told (by kernel_rfl) h
theorem t25r25 (h : Obt (fldA 7 (tget L 3)) fun a0 => Obt (stX 1 m a0 (.int .i64 0)) fun a1 => Q .normal ⟨[(1, (tget L 1)), (3, (tget L 3))], a1⟩) : Rg F 25 [1, 3] c25r25 L m Q := Tx_told (by kernel_rfl) h
theorem t25r26 (h : Q .normal ⟨[(1, (tget L 1)), (3, (tget L 3)), (4, (.bool true))], m⟩) : Rg F 25 [1, 3, 4] c25r26 L m Q := Tx_told (by kernel_rfl) h
theorem t25r27 (h : Obt (cbin Tryz.prog .eql 50 (.tmp 132) (.const (.int .i64 24)) (tget L 5) (.int .i64 24)) fun a0 => Obt (gdO a0 false (some ((tget L 5), m)) (.tuple [], m)) fun a1 => Obt (gdO a0 false ((cbin Tryz.prog .eql 50 (.tmp 135) (.const (.int .i64 25)) a1.1 (.int .i64 25)).map fun v => (v, a1.2)) (.tuple [], a1.2)) fun a2 => Obt (pickX a0 (.bool true) a2.1) fun a3 => Q .normal ⟨[(1, (tget L 1)), (3, (tget L 3)), (4, (tget L 4)), (5, (tget L 5)), (131, a3)], a2.2⟩) : Rg F 25 [1, 3, 4, 5, 131] c25r27 L m Q := Tx_told (by kernel_rfl) h
theorem t25r28 (h : Obt (fldA 1 (tget L 1)) fun a0 => Obt (ld1 m a0) fun a1 => Obt (fldA 1 (tget L 3)) fun a2 => Obt (stX 1 m a2 a1) fun a3 => Q .normal ⟨[(1, (tget L 1)), (3, (tget L 3))], a3⟩) : Rg F 25 [1, 3] c25r28 L m Q := Tx_told (by kernel_rfl) h
theorem t25r29 (h : Obt (fldA 7 (tget L 1)) fun a0 => Obt (ld1 m a0) fun a1 => Obt (callC An F 25 (some 143) 50 [a1, (.int .i64 0), (.int .i64 255)] m) fun a2 => Q .normal ⟨[(1, (tget L 1)), (3, (tget L 3)), (4, a2.1)], a2.2⟩) : Rg F 25 [1, 3, 4] c25r29 L m Q := Tx_told (by kernel_rfl) h
theorem t25r30 (h : Obt (cbin Tryz.prog .eql 50 (.tmp 145) (.const (.int .i64 26)) (tget L 5) (.int .i64 26)) fun a0 => Obt (gdO a0 false (some ((tget L 5), m)) (.tuple [], m)) fun a1 => Obt (gdO a0 false ((cbin Tryz.prog .eql 50 (.tmp 148) (.const (.int .i64 27)) a1.1 (.int .i64 27)).map fun v => (v, a1.2)) (.tuple [], a1.2)) fun a2 => Obt (pickX a0 (.bool true) a2.1) fun a3 => Q .normal ⟨[(1, (tget L 1)), (3, (tget L 3)), (4, (tget L 4)), (144, a3)], a2.2⟩) : Rg F 25 [1, 3, 4, 144] c25r30 L m Q := Tx_told (by kernel_rfl) h
theorem t25r31 (h : Obt (fldA 1 (tget L 1)) fun a0 => Obt (ld1 m a0) fun a1 => Obt (fldA 1 (tget L 3)) fun a2 => Obt (stX 1 m a2 a1) fun a3 => Obt (fldA 7 (tget L 3)) fun a4 => Obt (stX 1 a3 a4 (.int .i64 0)) fun a5 => Q .normal ⟨[(1, (tget L 1)), (3, (tget L 3))], a5⟩) : Rg F 25 [1, 3] c25r31 L m Q := Tx_told (by kernel_rfl) h
theorem t25r32 (h : Q .normal ⟨[(1, (tget L 1)), (3, (tget L 3)), (4, (.bool true))], m⟩) : Rg F 25 [1, 3, 4] c25r32 L m Q := Tx_told (by kernel_rfl) h
theorem t25r33 (h : Obt (gdO (tget L 4) true ((ldA 8 m (tget L 1)).map fun v => (v, m)) (.tuple [], m)) fun a0 => Obt (gdO (tget L 4) true ((ldA 8 a0.2 (tget L 3)).map fun v => (v, a0.2)) (.tuple [], a0.2)) fun a1 => Obt (gdO (tget L 4) true ((cbin Tryz.prog .eql 52 (.tmp 157) (.tmp 158) a0.1 a1.1).map fun v => (v, a1.2)) (.tuple [], a1.2)) fun a2 => Obt (pickX (tget L 4) a2.1 (.bool false)) fun a3 => Obt (gdO a3 true ((fldA 1 (tget L 1)).map fun v => (v, a2.2)) (.tuple [], a2.2)) fun a4 => Obt (gdO a3 true ((ld1 a4.2 a4.1).map fun v => (v, a4.2)) (.tuple [], a4.2)) fun a5 => Obt (gdO a3 true (callC An F 25 (some 164) 51 [a5.1] a5.2) (.tuple [], a5.2)) fun a6 => Obt (pickX a3 a6.1 (.bool false)) fun a7 => Obt (gdO a7 true ((fldA 2 (tget L 1)).map fun v => (v, a6.2)) (.tuple [], a6.2)) fun a8 => Obt (gdO a7 true ((ld1 a8.2 a8.1).map fun v => (v, a8.2)) (.tuple [], a8.2)) fun a9 => Obt (gdO a7 true (callC An F 25 (some 169) 51 [a9.1] a9.2) (.tuple [], a9.2)) fun a10 => Obt (pickX a7 a10.1 (.bool false)) fun a11 => Obt (gdO a11 true ((fldA 3 (tget L 1)).map fun v => (v, a10.2)) (.tuple [], a10.2)) fun a12 => Obt (gdO a11 true ((ld1 a12.2 a12.1).map fun v => (v, a12.2)) (.tuple [], a12.2)) fun a13 => Obt (gdO a11 true (callC An F 25 (some 174) 51 [a13.1] a13.2) (.tuple [], a13.2)) fun a14 => Obt (pickX a11 a14.1 (.bool false)) fun a15 => Q .normal ⟨[(2, a15)], a14.2⟩) : Rg F 25 [2] c25r33 L m Q := Tx_told (by kernel_rfl) h
end
end Go.Cm
