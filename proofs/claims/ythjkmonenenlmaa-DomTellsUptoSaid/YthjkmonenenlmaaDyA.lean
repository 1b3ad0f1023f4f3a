import Derived.Test.YthjkmonenenlmaaCxD
import Derived.KernelRfl
import Derived.Test.YthjkmonenenlmaaProg
set_option linter.unusedSimpArgs false
set_option linter.unusedVariables false
namespace Go.Cm
open Go.Proofs
def kept : FuncId → List (Nat × List Tmp)
  | 3 => [(0, [0, 1, 2]), (1, [0, 1, 2, 37]), (2, [6]), (3, [0, 1, 2, 7]), (4, [0, 1, 2, 7, 8]), (5, [0, 1, 2, 7, 8]), (6, [0, 1, 2, 7, 9]), (7, [0, 1, 2, 7, 9, 60]), (8, [6]), (9, [0, 1, 2, 9, 72]), (10, [6]), (11, [6])]
  | 4 => [(0, [0, 1, 2]), (1, [0, 1, 2, 12]), (2, [6]), (3, [0, 1, 2, 7, 8]), (4, [7, 8, 41]), (5, [6]), (6, [7, 8, 9]), (7, [7, 8, 9, 45]), (8, [7, 8, 9]), (9, [7, 8, 9, 57]), (10, [6]), (11, [6])]
  | 5 => [(0, [0]), (1, [0, 8]), (2, [2]), (3, [0, 3, 4]), (4, [0, 3, 4, 18]), (5, [2]), (6, [0, 3, 4, 5]), (7, [0, 3, 4, 5, 22]), (8, [0, 3, 4, 5]), (9, [0, 3, 4, 5, 33]), (10, [2]), (11, [2])]
  | 6 => [(0, [0, 1, 2]), (1, [0, 1, 2, 34]), (2, [6]), (3, [0, 1, 2, 7]), (4, [0, 1, 2, 7, 42]), (5, [6]), (6, [0, 1, 2, 7, 8]), (7, [0, 1, 2, 7, 8, 9]), (8, [0, 1, 2, 7, 8, 9, 10]), (9, [0, 1, 2, 7, 8, 9, 10, 57]), (10, [0, 1, 2, 7, 8, 9, 10]), (11, [0, 1, 2, 7, 8, 9, 10]), (12, [0, 1, 2, 7, 8, 9, 10]), (13, [0, 1, 2, 8, 9, 11]), (14, [0, 1, 2, 8, 9, 11, 76]), (15, [6]), (16, [6])]
  | 7 => [(0, [0]), (1, [0, 16]), (2, [2]), (3, [0, 3]), (4, [0, 3, 4]), (5, [0, 3, 4, 5]), (6, [0, 3, 4, 5, 46]), (7, [2]), (8, [0, 3, 4, 5, 6]), (9, [0, 3, 4, 5, 6, 7]), (10, [0, 3, 4, 5, 6, 7, 53]), (11, [0, 3, 4, 5, 6, 7]), (12, [0, 3, 4, 5, 6, 7, 79]), (13, [2]), (14, [0, 3, 4, 5, 6, 7]), (15, [0, 4, 5, 6, 8]), (16, [0, 4, 5, 6, 8, 91]), (17, [0, 4, 5, 6, 8]), (18, [0, 4, 5, 6, 8, 124]), (19, [2]), (20, [2])]
  | 8 => [(0, [0]), (1, [2])]
  | 10 => [(0, [0]), (1, [0, 3]), (2, [3, 10, 11, 12]), (3, [3, 10, 11, 12, 13]), (4, [3, 5, 10, 11, 12]), (5, [3, 10, 11, 12]), (6, [3, 10, 11, 12]), (7, [2])]
  | 11 => [(0, [0, 1, 2]), (1, [0, 1, 2, 33]), (2, [6]), (3, [1, 2, 7]), (4, [1, 2, 7, 42]), (5, [1, 2, 7]), (6, [6])]
  | 12 => [(0, [0]), (1, [0, 3]), (2, [0, 3, 4]), (3, [0, 3, 4, 5]), (4, [3, 4, 5, 6]), (5, [4, 5, 6, 23, 24, 25]), (6, [4, 5, 6, 23, 24, 25, 26]), (7, [4, 5, 6, 8, 23, 24, 25]), (8, [4, 5, 6, 8, 23, 24, 25, 31, 32, 33]), (9, [4, 5, 6, 8, 23, 24, 25, 31, 32, 33, 34]), (10, [4, 5, 6, 8, 10, 23, 24, 25, 31, 32, 33]), (11, [4, 5, 6, 8, 10, 23, 24, 25, 31, 32, 33, 46]), (12, [4, 5, 6, 8, 10, 23, 24, 25, 31, 32, 33]), (13, [4, 5, 6, 8, 10, 23, 24, 25, 31, 32, 33, 57]), (14, [4, 5, 6, 8, 10, 23, 24, 25, 31, 32, 33]), (15, [4, 5, 6, 8, 23, 24, 25, 31, 32, 33]), (16, [4, 5, 6, 23, 24, 25]), (17, [5, 70, 71, 72]), (18, [5, 70, 71, 72, 73]), (19, [5, 12, 70, 71, 72]), (20, [5, 70, 71, 72]), (21, [5, 70, 71, 72]), (22, [2])]
  | 13 => [(0, [0]), (1, [0, 3]), (2, [0, 3, 4]), (3, [0, 3, 4, 5]), (4, [0, 3, 4, 5, 6]), (5, [0, 3, 4, 5, 6, 16]), (6, [0, 3, 4, 5, 6]), (7, [0, 3, 4, 5, 6, 7]), (8, [0, 3, 4, 5, 6, 7, 8]), (9, [0, 3, 4, 5, 6, 7, 8, 22]), (10, [0, 3, 4, 5, 6, 7, 8]), (11, [0, 3, 4, 5, 6, 7, 8, 58]), (12, [0, 3, 4, 5, 6, 7, 8]), (13, [0, 3, 4, 5, 6]), (14, [2])]
  | 14 => [(0, [0, 1, 2]), (1, [0, 1, 2, 24]), (2, [6]), (3, [6])]
  | 15 => [(0, [0, 1]), (1, [0, 1, 10]), (2, [4]), (3, [0, 1, 5]), (4, [0, 1, 5, 14]), (5, [0, 1, 5]), (6, [0, 1, 5, 25]), (7, [4]), (8, [4])]
  | 16 => [(0, [0]), (1, [0, 3]), (2, [0, 3, 4]), (3, [0, 3, 4, 5]), (4, [0, 3, 4, 5, 26, 27]), (5, [0, 3, 4, 5, 26, 27, 28]), (6, [0, 3, 4, 5, 6, 26, 27]), (7, [0, 3, 4, 5, 26, 27]), (8, [0, 3, 4, 5, 26, 27]), (9, [0, 3, 4, 5, 34, 35, 36]), (10, [0, 3, 4, 5, 34, 35, 36, 37]), (11, [0, 3, 4, 5, 7, 8, 34, 35, 36]), (12, [0, 3, 4, 5, 34, 35, 36]), (13, [0, 3, 4, 5, 34, 35, 36]), (14, [3, 4, 5, 9]), (15, [3, 5, 9, 10]), (16, [3, 5, 9, 10, 11]), (17, [3, 5, 9, 10, 49]), (18, [3, 5, 9, 10, 11]), (19, [3, 5, 9, 10, 11, 50, 51, 52]), (20, [3, 5, 9, 10, 11, 50, 51, 52, 53]), (21, [3, 5, 9, 10, 11, 12, 13, 50, 51, 52]), (22, [3, 5, 9, 10, 11, 13, 50, 51, 52, 58]), (23, [3, 5, 9, 10, 11, 13, 14, 50, 51, 52]), (24, [3, 5, 9, 10, 11, 13, 14, 50, 51, 52, 61, 62, 63]), (25, [3, 5, 9, 10, 11, 13, 14, 50, 51, 52, 61, 62, 63, 64]), (26, [3, 5, 9, 10, 11, 13, 14, 16, 50, 51, 52, 61, 62, 63]), (27, [3, 5, 9, 10, 11, 13, 14, 16, 50, 51, 52, 61, 62, 63, 78]), (28, [3, 5, 9, 10, 11, 13, 14, 16, 50, 51, 52, 61, 62, 63, 80]), (29, [3, 5, 9, 10, 11, 13, 14, 50, 51, 52, 61, 62, 63]), (30, [3, 5, 9, 10, 11, 13, 14, 50, 51, 52, 61, 62, 63]), (31, [3, 5, 9, 10, 11, 13, 14, 50, 51, 52, 61, 62, 63]), (32, [3, 5, 9, 10, 11, 13, 14, 50, 51, 52]), (33, [3, 5, 9, 10, 11, 50, 51, 52]), (34, [3, 5, 9, 10, 11, 50, 51, 52]), (35, [2])]
  | 17 => [(0, [0]), (1, [0, 3]), (2, [0, 3, 4]), (3, [0, 3, 4, 5]), (4, [0, 3, 4, 5, 13]), (5, [0, 3, 4, 5]), (6, [0, 3, 4, 5, 6]), (7, [0, 3, 4, 5, 6, 7]), (8, [0, 3, 4, 5, 6, 7, 19]), (9, [0, 3, 4, 5, 6, 7]), (10, [0, 3, 4, 5, 6, 7, 46]), (11, [0, 3, 4, 5, 6, 7]), (12, [0, 3, 4, 5]), (13, [2])]
  | 18 => [(0, [0]), (1, [2])]
  | 19 => [(0, [1]), (1, [1, 8]), (2, [2]), (3, [1, 3]), (4, [1, 3, 4]), (5, [1, 3, 4, 5]), (6, [4, 5]), (7, [4]), (8, [4]), (9, [2])]
  | 20 => [(0, [0]), (1, [3]), (2, [3]), (3, [3, 4]), (4, [3, 4, 5]), (5, [3, 4, 5, 21]), (6, [3, 4, 5]), (7, [3, 4, 5]), (8, [2])]
  | 21 => [(0, [0, 1]), (1, [0, 1, 5]), (2, [0, 5, 11, 12, 13]), (3, [0, 5, 11, 12, 13, 14]), (4, [0, 5, 7, 11, 12, 13]), (5, [0, 5, 7, 11, 12, 13, 19, 20, 21]), (6, [0, 5, 7, 11, 12, 13, 19, 20, 21, 22]), (7, [0, 5, 7, 9, 11, 12, 13, 19, 20, 21]), (8, [0, 5, 7, 9, 11, 12, 13, 19, 20, 21, 30]), (9, [0, 5, 7, 11, 12, 13, 19, 20, 21]), (10, [0, 5, 7, 11, 12, 13, 19, 20, 21]), (11, [0, 5, 11, 12, 13]), (12, [4])]
  | 22 => [(0, [0, 1]), (1, [4])]
  | 23 => [(0, [0, 2]), (1, [])]
  | 24 => [(0, [0]), (1, [0, 3]), (2, [0, 3, 4]), (3, [0, 3, 4, 5]), (4, [0, 3, 4, 5, 14]), (5, [0, 3, 4, 5]), (6, [0, 3, 4, 5, 6]), (7, [0, 3, 4, 5, 6, 7]), (8, [0, 3, 4, 5, 6, 7, 8]), (9, [0, 3, 4, 5, 6, 7, 8, 26]), (10, [0, 3, 4, 5, 6, 7, 8]), (11, [0, 3, 4, 5, 6, 7, 8]), (12, [0, 3, 4, 5]), (13, [2])]
  | 25 => [(0, [0, 1, 2]), (1, [0, 1, 2, 7]), (2, [0, 1, 2, 7, 12]), (3, [0, 1, 2, 7]), (4, [0, 1, 2, 7, 8]), (5, [0, 1, 2, 7, 8, 27]), (6, [0, 1, 2, 7, 8]), (7, [0, 1, 2, 7, 8, 38]), (8, [6]), (9, [6])]
  | 26 => [(0, [0, 1, 2, 3]), (1, [0, 1, 2, 3, 9]), (2, [0, 1, 2, 3, 16]), (3, [0, 1, 2, 3]), (4, [0, 1, 2, 3, 27]), (5, [0, 1, 2, 3]), (6, [6])]
  | 27 => [(0, [0, 1]), (1, [0, 1, 5]), (2, [0, 1, 5, 19]), (3, [4]), (4, [0, 1, 5, 6]), (5, [0, 1, 5, 6, 24]), (6, [0, 1, 5, 6, 7]), (7, [0, 1, 5, 6, 7]), (8, [0, 1, 5, 6, 7, 39]), (9, [0, 1, 5, 6, 7]), (10, [0, 1, 5, 6, 7, 8]), (11, [0, 1, 5, 6, 7, 8, 49]), (12, [0, 1, 5, 6, 7, 8]), (13, [0, 1, 5, 6, 7, 8, 9]), (14, [0, 1, 5, 6, 7, 8, 9, 71]), (15, [0, 1, 5, 6, 7, 8]), (16, [4])]
  | 28 => [(0, [0, 1, 2, 3, 4, 10]), (1, [0, 2, 3, 4]), (2, [0, 3, 4, 15, 16, 17]), (3, [0, 3, 4, 15, 16, 17, 18]), (4, [0, 3, 4, 7, 15, 16, 17]), (5, [0, 3, 4, 15, 16, 17]), (6, [0, 3, 4, 15, 16, 17]), (7, [])]
  | 29 => [(0, [0, 1]), (1, [0, 1, 5]), (2, [0, 5, 11, 12, 13]), (3, [0, 5, 11, 12, 13, 14]), (4, [0, 5, 7, 11, 12, 13]), (5, [0, 5, 7, 11, 12, 13, 24]), (6, [0, 5, 11, 12, 13]), (7, [0, 5, 11, 12, 13]), (8, [4])]
  | 30 => [(0, [0, 2, 3]), (1, [0, 2, 3, 9]), (2, [0, 2, 3]), (3, [0, 2, 3])]
  | 31 => [(0, [0, 1, 24]), (1, [0, 1]), (2, [0, 1, 4]), (3, [0, 1, 4, 40]), (4, [0, 1, 4]), (5, [0, 1, 4]), (6, [])]
  | 32 => [(0, [0, 1]), (1, [0, 1, 7, 8]), (2, [0, 1, 7, 8, 9]), (3, [0, 1, 5, 7, 8]), (4, [0, 1, 5, 7, 8, 16]), (5, [4]), (6, [0, 1, 7, 8]), (7, [4])]
  | _ => []
def globs : FuncId → List Tmp
  | 4 => [38]
  | 5 => [37]
  | 12 => [19, 66]
  | 16 => [21, 4, 24, 5]
  | 19 => [1, 9, 3, 4, 5]
  | 20 => [9, 11]
  | 21 => [10, 38]
  | 28 => [28]
  | 31 => [62]
  | _ => []
def impure : FuncId → Bool
  | 12 => true
  | 15 => true
  | 16 => true
  | 19 => true
  | 21 => true
  | 22 => true
  | 23 => true
  | 26 => true
  | 28 => true
  | 30 => true
  | 31 => true
  | 32 => true
  | _ => false
def An : Ann := { glob := globs, pure := fun f => !(impure f), keep := fun f r => ((kept f).find? fun x => x.1 == r).map (·.2) }
theorem plainN : plainNames Try.prog = true := by kernel_rfl
theorem mixed : Try.prog.follows .mixedOrders = true := by kernel_rfl
-- clevis/dom.inside
def c29r0 : List SO :=
  [⟨(some 4), (.assign (.const (.slice none 0 0))), none⟩]
def c29r1 : List SO :=
  [⟨(some 5), (.assign (.const (.slice none 0 0))), none⟩]
def c29r2 : List SO :=
  [⟨(some 8), (.move (.tmp 0)), none⟩,
   ⟨(some 9), (.move (.tmp 1)), none⟩,
   ⟨(some 10), (.indexAddr 22 (.tmp 8) (.tmp 9)), none⟩,
   ⟨(some 11), (.load 27 (.tmp 10)), none⟩,
   ⟨(some 12), (.call ⟨(.builtin .len), #[(.tmp 11)], #[27]⟩), none⟩,
   ⟨(some 13), (.move (.const (.int .i64 0))), none⟩]
def c29r3 : List SO :=
  [⟨(some 14), (.binOp .lss 3 (.tmp 13) (.tmp 12) 3), none⟩]
def c29r4 : List SO :=
  [⟨(some 15), (.indexAddr 27 (.tmp 11) (.tmp 13)), none⟩,
   ⟨(some 16), (.load 3 (.tmp 15)), none⟩,
   ⟨(some 7), (.assign (.tmp 16)), none⟩]
def c29r5 : List SO :=
  [⟨(some 17), (.move (.tmp 7)), none⟩,
   ⟨(some 18), (.binOp .geq 3 (.tmp 17) (.const (.int .i64 0)) 3), none⟩,
   ⟨(some 19), (.move (.tmp 18)), none⟩,
   ⟨(some 20), (.move (.tmp 7)), (some (19, true))⟩,
   ⟨(some 21), (.move (.tmp 0)), (some (19, true))⟩,
   ⟨(some 22), (.call ⟨(.builtin .len), #[(.tmp 21)], #[22]⟩), (some (19, true))⟩,
   ⟨(some 23), (.binOp .lss 3 (.tmp 20) (.tmp 22) 3), (some (19, true))⟩,
   ⟨(some 24), (.pick (.tmp 19) (.tmp 23) (.const (.bool false))), none⟩]
def c29r6 : List SO :=
  [⟨(some 25), (.move (.tmp 5)), none⟩,
   ⟨(some 26), (.move (.tmp 7)), none⟩,
   ⟨(some 27), (.buildSlice 27 1 #[(0, (.tmp 26))]), none⟩,
   ⟨(some 28), (.call ⟨(.builtin .append), #[(.tmp 25), (.tmp 27)], #[27, 27]⟩), none⟩,
   ⟨(some 5), (.assign (.tmp 28)), none⟩]
def c29r7 : List SO :=
  [⟨(some 29), (.binOp .add 3 (.tmp 13) (.const (.int .i64 1)) 3), none⟩,
   ⟨(some 13), (.move (.tmp 29)), none⟩]
def c29l0 : SC :=
  (.seq (.reg false (some [0, 5, 11, 12, 13, 14]) c29r3) (.seq (.cond (.tmp 14) .nop (.exit 0)) (.seq (.block 1 (.seq (.reg false (some [0, 5, 7, 11, 12, 13]) c29r4) (.seq (.reg false (some [0, 5, 7, 11, 12, 13, 24]) c29r5) (.cond (.tmp 24) (.reg false (some [0, 5, 11, 12, 13]) c29r6) .nop)))) (.reg false (some [0, 5, 11, 12, 13]) c29r7))))
def c29r8 : List SO :=
  [⟨(some 30), (.move (.tmp 5)), none⟩,
   ⟨(some 4), (.assign (.tmp 30)), none⟩]
def c29 : SC :=
  (.seq (.reg false (some [0, 1]) c29r0) (.seq (.reg false (some [0, 1, 5]) c29r1) (.seq (.seq (.reg false (some [0, 5, 11, 12, 13]) c29r2) (.block 0 (.loop c29l0))) (.seq (.reg false (some [4]) c29r8) .ret))))
theorem s29 : Try.f29.body.bind (strip Try.prog An 29 Try.f29.ntmps) = some c29 := by kernel_rfl
theorem g29 : An.glob 29 = [] := rfl
theorem r29 : Try.f29.results.toList = [(.tmp 4)] := by kernel_rfl
theorem t29r0 {F : Oracle} {L : List (Nat × CV)} {m : Mem} {Q : CE → TS → Prop} (h :
    Q .normal ⟨[(0, (tget L 0)), (1, (tget L 1))], m⟩) :
    Tx Try.prog An F 29 (.reg false (some [0, 1]) c29r0) ⟨L, m⟩ Q := Tx_told (by kernel_rfl) h
theorem t29r1 {F : Oracle} {L : List (Nat × CV)} {m : Mem} {Q : CE → TS → Prop} (h :
    Q .normal ⟨[(0, (tget L 0)), (1, (tget L 1)), (5, .nil)], m⟩) :
    Tx Try.prog An F 29 (.reg false (some [0, 1, 5]) c29r1) ⟨L, m⟩ Q := Tx_told (by kernel_rfl) h
theorem t29r2 {F : Oracle} {L : List (Nat × CV)} {m : Mem} {Q : CE → TS → Prop} (h :
    Obt (idxS 1 (tget L 0) (tget L 1)) fun a0 => 
    Obt (ld1 m a0) fun a1 => 
    Obt (lenS a1) fun a2 => Q .normal ⟨[(0, (tget L 0)), (5, (tget L 5)), (11, a1), (12, a2), (13, (.int .i64 0))], m⟩) :
    Tx Try.prog An F 29 (.reg false (some [0, 5, 11, 12, 13]) c29r2) ⟨L, m⟩ Q := Tx_told (by kernel_rfl) h
theorem t29r3 {F : Oracle} {L : List (Nat × CV)} {m : Mem} {Q : CE → TS → Prop} (h :
    Obt (cbin Try.prog .lss 3 (.tmp 13) (.tmp 12) (tget L 13) (tget L 12)) fun a0 => Q .normal ⟨[(0, (tget L 0)), (5, (tget L 5)), (11, (tget L 11)), (12, (tget L 12)), (13, (tget L 13)), (14, a0)], m⟩) :
    Tx Try.prog An F 29 (.reg false (some [0, 5, 11, 12, 13, 14]) c29r3) ⟨L, m⟩ Q := Tx_told (by kernel_rfl) h
theorem t29r4 {F : Oracle} {L : List (Nat × CV)} {m : Mem} {Q : CE → TS → Prop} (h :
    Obt (idxS 1 (tget L 11) (tget L 13)) fun a0 => 
    Obt (ld1 m a0) fun a1 => Q .normal ⟨[(0, (tget L 0)), (5, (tget L 5)), (7, a1), (11, (tget L 11)), (12, (tget L 12)), (13, (tget L 13))], m⟩) :
    Tx Try.prog An F 29 (.reg false (some [0, 5, 7, 11, 12, 13]) c29r4) ⟨L, m⟩ Q := Tx_told (by kernel_rfl) h
theorem t29r5 {F : Oracle} {L : List (Nat × CV)} {m : Mem} {Q : CE → TS → Prop} (h :
    Obt (cbin Try.prog .geq 3 (.tmp 17) (.const (.int .i64 0)) (tget L 7) (.int .i64 0)) fun a0 => 
    Obt (gdO a0 true (some ((tget L 7), m)) (.tuple [], m)) fun a1 => 
    Obt (gdO a0 true (some ((tget L 0), a1.2)) (.tuple [], a1.2)) fun a2 => 
    Obt (gdO a0 true ((lenS a2.1).map fun v => (v, a2.2)) (.tuple [], a2.2)) fun a3 => 
    Obt (gdO a0 true ((cbin Try.prog .lss 3 (.tmp 20) (.tmp 22) a1.1 a3.1).map fun v => (v, a3.2)) (.tuple [], a3.2)) fun a4 => 
    Obt (pickX a0 a4.1 (.bool false)) fun a5 => Q .normal ⟨[(0, (tget L 0)), (5, (tget L 5)), (7, (tget L 7)), (11, (tget L 11)), (12, (tget L 12)), (13, (tget L 13)), (24, a5)], a4.2⟩) :
    Tx Try.prog An F 29 (.reg false (some [0, 5, 7, 11, 12, 13, 24]) c29r5) ⟨L, m⟩ Q := Tx_told (by kernel_rfl) h
theorem t29r6 {F : Oracle} {L : List (Nat × CV)} {m : Mem} {Q : CE → TS → Prop} (h :
    Obt (bslX false 432 1 1 [.int .i64 0] [(0, 1, (tget L 7))] m) fun a0 => 
    Obt (appX false 448 1 8 (tget L 5) a0.1 a0.2) fun a1 => Q .normal ⟨[(0, (tget L 0)), (5, a1.1), (11, (tget L 11)), (12, (tget L 12)), (13, (tget L 13))], a1.2⟩) :
    Tx Try.prog An F 29 (.reg false (some [0, 5, 11, 12, 13]) c29r6) ⟨L, m⟩ Q := Tx_told (by kernel_rfl) h
theorem t29r7 {F : Oracle} {L : List (Nat × CV)} {m : Mem} {Q : CE → TS → Prop} (h :
    Obt (cbin Try.prog .add 3 (.tmp 13) (.const (.int .i64 1)) (tget L 13) (.int .i64 1)) fun a0 => Q .normal ⟨[(0, (tget L 0)), (5, (tget L 5)), (11, (tget L 11)), (12, (tget L 12)), (13, a0)], m⟩) :
    Tx Try.prog An F 29 (.reg false (some [0, 5, 11, 12, 13]) c29r7) ⟨L, m⟩ Q := Tx_told (by kernel_rfl) h
theorem t29r8 {F : Oracle} {L : List (Nat × CV)} {m : Mem} {Q : CE → TS → Prop} (h :
    Q .normal ⟨[(4, (tget L 5))], m⟩) :
    Tx Try.prog An F 29 (.reg false (some [4]) c29r8) ⟨L, m⟩ Q := Tx_told (by kernel_rfl) h
-- clevis/dom.Order$1
def c28r0 : List SO :=
  [⟨(some 8), (.load 42 (.tmp 1)), none⟩,
   ⟨(some 9), (.move (.tmp 0)), none⟩,
   ⟨(some 10), (.lookup 42 (.tmp 8) (.tmp 9) false), none⟩]
def c28r1 : List SO :=
  [⟨(some 11), (.load 42 (.tmp 1)), none⟩,
   ⟨(some 12), (.move (.tmp 0)), none⟩,
   ⟨none, (.mapUpdate 42 (.tmp 11) (.tmp 12) (.const (.bool true))), none⟩]
def c28r2 : List SO :=
  [⟨(some 13), (.load 22 (.tmp 2)), none⟩,
   ⟨(some 14), (.move (.tmp 0)), none⟩,
   ⟨(some 15), (.call ⟨(.value (.func 29)), #[(.tmp 13), (.tmp 14)], #[22, 3]⟩), none⟩,
   ⟨(some 16), (.call ⟨(.builtin .len), #[(.tmp 15)], #[27]⟩), none⟩,
   ⟨(some 17), (.move (.const (.int .i64 0))), none⟩]
def c28r3 : List SO :=
  [⟨(some 18), (.binOp .lss 3 (.tmp 17) (.tmp 16) 3), none⟩]
def c28r4 : List SO :=
  [⟨(some 19), (.indexAddr 27 (.tmp 15) (.tmp 17)), none⟩,
   ⟨(some 20), (.load 3 (.tmp 19)), none⟩,
   ⟨(some 7), (.assign (.tmp 20)), none⟩]
def c28r5 : List SO :=
  [⟨(some 21), (.load 43 (.tmp 3)), none⟩,
   ⟨(some 22), (.move (.tmp 7)), none⟩,
   ⟨(some 23), (.call ⟨(.value (.tmp 21)), #[(.tmp 22)], #[3]⟩), none⟩]
def c28r6 : List SO :=
  [⟨(some 24), (.binOp .add 3 (.tmp 17) (.const (.int .i64 1)) 3), none⟩,
   ⟨(some 17), (.move (.tmp 24)), none⟩]
def c28l0 : SC :=
  (.seq (.reg false (some [0, 3, 4, 15, 16, 17, 18]) c28r3) (.seq (.cond (.tmp 18) .nop (.exit 0)) (.seq (.block 1 (.seq (.reg false (some [0, 3, 4, 7, 15, 16, 17]) c28r4) (.reg false (some [0, 3, 4, 15, 16, 17]) c28r5))) (.reg false (some [0, 3, 4, 15, 16, 17]) c28r6))))
def c28r7 : List SO :=
  [⟨(some 25), (.load 27 (.tmp 4)), none⟩,
   ⟨(some 26), (.move (.tmp 0)), none⟩,
   ⟨(some 27), (.buildSlice 27 1 #[(0, (.tmp 26))]), none⟩,
   ⟨(some 28), (.call ⟨(.builtin .append), #[(.tmp 25), (.tmp 27)], #[27, 27]⟩), none⟩,
   ⟨none, (.store 27 (.tmp 4) (.tmp 28)), none⟩]
def c28 : SC :=
  (.seq (.seq (.reg false (some [0, 1, 2, 3, 4, 10]) c28r0) (.cond (.tmp 10) .ret .nop)) (.seq (.reg false (some [0, 2, 3, 4]) c28r1) (.seq (.seq (.reg false (some [0, 3, 4, 15, 16, 17]) c28r2) (.block 0 (.loop c28l0))) (.reg false (some []) c28r7))))
theorem s28 : Try.f28.body.bind (strip Try.prog An 28 Try.f28.ntmps) = some c28 := by kernel_rfl
theorem g28 : An.glob 28 = [28] := rfl
theorem r28 : Try.f28.results.toList = [] := by kernel_rfl
theorem t28r0 {F : Oracle} {L : List (Nat × CV)} {m : Mem} {Q : CE → TS → Prop} (h :
    Obt (ld1 m (tget L 1)) fun a0 => 
    Obt (lookX Try.prog 3 (.bool false) a0 (tget L 0) false m) fun a1 => Q .normal ⟨[(0, (tget L 0)), (1, (tget L 1)), (2, (tget L 2)), (3, (tget L 3)), (4, (tget L 4)), (10, a1)], m⟩) :
    Tx Try.prog An F 28 (.reg false (some [0, 1, 2, 3, 4, 10]) c28r0) ⟨L, m⟩ Q := Tx_told (by kernel_rfl) h
theorem t28r1 {F : Oracle} {L : List (Nat × CV)} {m : Mem} {Q : CE → TS → Prop} (h :
    Obt (ld1 m (tget L 1)) fun a0 => 
    Obt (mupX Try.prog 3 a0 (tget L 0) (.bool true) m) fun a1 => Q .normal ⟨[(0, (tget L 0)), (2, (tget L 2)), (3, (tget L 3)), (4, (tget L 4))], a1⟩) :
    Tx Try.prog An F 28 (.reg false (some [0, 2, 3, 4]) c28r1) ⟨L, m⟩ Q := Tx_told (by kernel_rfl) h
theorem t28r2 {F : Oracle} {L : List (Nat × CV)} {m : Mem} {Q : CE → TS → Prop} (h :
    Obt (ld1 m (tget L 2)) fun a0 => 
    Obt (callC An F 28 (some 15) 29 [a0, (tget L 0)] m) fun a1 => 
    Obt (lenS a1.1) fun a2 => Q .normal ⟨[(0, (tget L 0)), (3, (tget L 3)), (4, (tget L 4)), (15, a1.1), (16, a2), (17, (.int .i64 0))], a1.2⟩) :
    Tx Try.prog An F 28 (.reg false (some [0, 3, 4, 15, 16, 17]) c28r2) ⟨L, m⟩ Q := Tx_told (by kernel_rfl) h
theorem t28r3 {F : Oracle} {L : List (Nat × CV)} {m : Mem} {Q : CE → TS → Prop} (h :
    Obt (cbin Try.prog .lss 3 (.tmp 17) (.tmp 16) (tget L 17) (tget L 16)) fun a0 => Q .normal ⟨[(0, (tget L 0)), (3, (tget L 3)), (4, (tget L 4)), (15, (tget L 15)), (16, (tget L 16)), (17, (tget L 17)), (18, a0)], m⟩) :
    Tx Try.prog An F 28 (.reg false (some [0, 3, 4, 15, 16, 17, 18]) c28r3) ⟨L, m⟩ Q := Tx_told (by kernel_rfl) h
theorem t28r4 {F : Oracle} {L : List (Nat × CV)} {m : Mem} {Q : CE → TS → Prop} (h :
    Obt (idxS 1 (tget L 15) (tget L 17)) fun a0 => 
    Obt (ld1 m a0) fun a1 => Q .normal ⟨[(0, (tget L 0)), (3, (tget L 3)), (4, (tget L 4)), (7, a1), (15, (tget L 15)), (16, (tget L 16)), (17, (tget L 17))], m⟩) :
    Tx Try.prog An F 28 (.reg false (some [0, 3, 4, 7, 15, 16, 17]) c28r4) ⟨L, m⟩ Q := Tx_told (by kernel_rfl) h
theorem t28r5 {F : Oracle} {L : List (Nat × CV)} {m : Mem} {Q : CE → TS → Prop} (h :
    Obt (ld1 m (tget L 3)) fun a0 => 
    Obt (invokeC An F 28 (some 23) a0 [(tget L 7)] m) fun a1 => Q .normal ⟨[(0, (tget L 0)), (3, (tget L 3)), (4, (tget L 4)), (15, (tget L 15)), (16, (tget L 16)), (17, (tget L 17))], a1.2⟩) :
    Tx Try.prog An F 28 (.reg false (some [0, 3, 4, 15, 16, 17]) c28r5) ⟨L, m⟩ Q := Tx_told (by kernel_rfl) h
theorem t28r6 {F : Oracle} {L : List (Nat × CV)} {m : Mem} {Q : CE → TS → Prop} (h :
    Obt (cbin Try.prog .add 3 (.tmp 17) (.const (.int .i64 1)) (tget L 17) (.int .i64 1)) fun a0 => Q .normal ⟨[(0, (tget L 0)), (3, (tget L 3)), (4, (tget L 4)), (15, (tget L 15)), (16, (tget L 16)), (17, a0)], m⟩) :
    Tx Try.prog An F 28 (.reg false (some [0, 3, 4, 15, 16, 17]) c28r6) ⟨L, m⟩ Q := Tx_told (by kernel_rfl) h
theorem t28r7 {F : Oracle} {L : List (Nat × CV)} {m : Mem} {Q : CE → TS → Prop} (h :
    Obt (ld1 m (tget L 4)) fun a0 => 
    Obt (bslX false 432 1 1 [.int .i64 0] [(0, 1, (tget L 0))] m) fun a1 => 
    Obt (appX true 448 1 8 a0 a1.1 a1.2) fun a2 => 
    Obt (stX 1 a2.2 (tget L 4) a2.1) fun a3 => Q .normal ⟨[], a3⟩) :
    Tx Try.prog An F 28 (.reg false (some []) c28r7) ⟨L, m⟩ Q := Tx_told (by kernel_rfl) h
-- clevis/dom.Order
def c19r0 : List SO :=
  [⟨(some 1), (.box 22 (.tmp 0)), none⟩,
   ⟨(some 2), (.assign (.const (.slice none 0 0))), none⟩]
def c19r1 : List SO :=
  [⟨(some 6), (.load 22 (.tmp 1)), none⟩,
   ⟨(some 7), (.call ⟨(.builtin .len), #[(.tmp 6)], #[22]⟩), none⟩,
   ⟨(some 8), (.binOp .eql 3 (.tmp 7) (.const (.int .i64 0)) 3), none⟩]
def c19r2 : List SO :=
  [⟨(some 2), (.assign (.const (.slice none 0 0))), none⟩]
def c19r3 : List SO :=
  [⟨(some 9), (.makeMap 42 none), none⟩,
   ⟨(some 3), (.alloc 42), none⟩,
   ⟨none, (.store 42 (.tmp 3) (.tmp 9)), none⟩]
def c19r4 : List SO :=
  [⟨(some 4), (.alloc 27), none⟩]
def c19r5 : List SO :=
  [⟨(some 5), (.alloc 43), none⟩]
def c19r6 : List SO :=
  [⟨(some 10), (.makeFunc (.func 28) #[] #[(.tmp 3), (.tmp 1), (.tmp 5), (.tmp 4)]), none⟩,
   ⟨none, (.store 43 (.tmp 5) (.tmp 10)), none⟩]
def c19r7 : List SO :=
  [⟨(some 11), (.load 43 (.tmp 5)), none⟩,
   ⟨(some 12), (.call ⟨(.value (.tmp 11)), #[(.const (.int .i64 0))], #[3]⟩), none⟩]
def c19r8 : List SO :=
  [⟨(some 13), (.load 27 (.tmp 4)), none⟩,
   ⟨(some 14), (.call ⟨(.value (.func 30)), #[(.tmp 13)], #[27]⟩), none⟩]
def c19r9 : List SO :=
  [⟨(some 15), (.load 27 (.tmp 4)), none⟩,
   ⟨(some 2), (.assign (.tmp 15)), none⟩]
def c19 : SC :=
  (.seq (.reg false (some [1]) c19r0) (.seq (.seq (.reg false (some [1, 8]) c19r1) (.cond (.tmp 8) (.seq (.reg false (some [2]) c19r2) .ret) .nop)) (.seq (.reg false (some [1, 3]) c19r3) (.seq (.reg false (some [1, 3, 4]) c19r4) (.seq (.reg false (some [1, 3, 4, 5]) c19r5) (.seq (.reg false (some [4, 5]) c19r6) (.seq (.reg false (some [4]) c19r7) (.seq (.reg false (some [4]) c19r8) (.seq (.reg false (some [2]) c19r9) .ret)))))))))
theorem s19 : Try.f19.body.bind (strip Try.prog An 19 Try.f19.ntmps) = some c19 := by kernel_rfl
theorem g19 : An.glob 19 = [1, 9, 3, 4, 5] := rfl
theorem r19 : Try.f19.results.toList = [(.tmp 2)] := by kernel_rfl
theorem t19r0 {F : Oracle} {L : List (Nat × CV)} {m : Mem} {Q : CE → TS → Prop} (h :
    Obt (boxG (tget L 0) m) fun a0 => Q .normal ⟨[(1, a0.1)], a0.2⟩) :
    Tx Try.prog An F 19 (.reg false (some [1]) c19r0) ⟨L, m⟩ Q := Tx_told (by kernel_rfl) h
theorem t19r1 {F : Oracle} {L : List (Nat × CV)} {m : Mem} {Q : CE → TS → Prop} (h :
    Obt (ld1 m (tget L 1)) fun a0 => 
    Obt (lenS a0) fun a1 => 
    Obt (cbin Try.prog .eql 3 (.tmp 7) (.const (.int .i64 0)) a1 (.int .i64 0)) fun a2 => Q .normal ⟨[(1, (tget L 1)), (8, a2)], m⟩) :
    Tx Try.prog An F 19 (.reg false (some [1, 8]) c19r1) ⟨L, m⟩ Q := Tx_told (by kernel_rfl) h
theorem t19r2 {F : Oracle} {L : List (Nat × CV)} {m : Mem} {Q : CE → TS → Prop} (h :
    Q .normal ⟨[(2, .nil)], m⟩) :
    Tx Try.prog An F 19 (.reg false (some [2]) c19r2) ⟨L, m⟩ Q := Tx_told (by kernel_rfl) h
theorem t19r3 {F : Oracle} {L : List (Nat × CV)} {m : Mem} {Q : CE → TS → Prop} (h :
    Obt (stX 1 (gnewL (gnewM m) [.mnil]) (gnewP (gnewM m)) (gnewK m)) fun a0 => Q .normal ⟨[(1, (tget L 1)), (3, (gnewP (gnewM m)))], a0⟩) :
    Tx Try.prog An F 19 (.reg false (some [1, 3]) c19r3) ⟨L, m⟩ Q := Tx_told (by kernel_rfl) h
theorem t19r4 {F : Oracle} {L : List (Nat × CV)} {m : Mem} {Q : CE → TS → Prop} (h :
    Q .normal ⟨[(1, (tget L 1)), (3, (tget L 3)), (4, (gnewP m))], (gnewL m [.nil])⟩) :
    Tx Try.prog An F 19 (.reg false (some [1, 3, 4]) c19r4) ⟨L, m⟩ Q := Tx_told (by kernel_rfl) h
theorem t19r5 {F : Oracle} {L : List (Nat × CV)} {m : Mem} {Q : CE → TS → Prop} (h :
    Q .normal ⟨[(1, (tget L 1)), (3, (tget L 3)), (4, (tget L 4)), (5, (gnewP m))], (gnewL m [.nilf])⟩) :
    Tx Try.prog An F 19 (.reg false (some [1, 3, 4, 5]) c19r5) ⟨L, m⟩ Q := Tx_told (by kernel_rfl) h
theorem t19r6 {F : Oracle} {L : List (Nat × CV)} {m : Mem} {Q : CE → TS → Prop} (h :
    Obt (stX 1 m (tget L 5) (.func (.func 28) [] [(tget L 3), (tget L 1), (tget L 5), (tget L 4)])) fun a0 => Q .normal ⟨[(4, (tget L 4)), (5, (tget L 5))], a0⟩) :
    Tx Try.prog An F 19 (.reg false (some [4, 5]) c19r6) ⟨L, m⟩ Q := Tx_told (by kernel_rfl) h
theorem t19r7 {F : Oracle} {L : List (Nat × CV)} {m : Mem} {Q : CE → TS → Prop} (h :
    Obt (ld1 m (tget L 5)) fun a0 => 
    Obt (invokeC An F 19 (some 12) a0 [(.int .i64 0)] m) fun a1 => Q .normal ⟨[(4, (tget L 4))], a1.2⟩) :
    Tx Try.prog An F 19 (.reg false (some [4]) c19r7) ⟨L, m⟩ Q := Tx_told (by kernel_rfl) h
theorem t19r8 {F : Oracle} {L : List (Nat × CV)} {m : Mem} {Q : CE → TS → Prop} (h :
    Obt (ld1 m (tget L 4)) fun a0 => 
    Obt (callC An F 19 (some 14) 30 [a0] m) fun a1 => Q .normal ⟨[(4, (tget L 4))], a1.2⟩) :
    Tx Try.prog An F 19 (.reg false (some [4]) c19r8) ⟨L, m⟩ Q := Tx_told (by kernel_rfl) h
theorem t19r9 {F : Oracle} {L : List (Nat × CV)} {m : Mem} {Q : CE → TS → Prop} (h :
    Obt (ld1 m (tget L 4)) fun a0 => Q .normal ⟨[(2, a0)], m⟩) :
    Tx Try.prog An F 19 (.reg false (some [2]) c19r9) ⟨L, m⟩ Q := Tx_told (by kernel_rfl) h
-- slices.Reverse[[]int,int]
def c30r0 : List SO :=
  [⟨(some 4), (.move (.tmp 0)), none⟩,
   ⟨(some 5), (.call ⟨(.builtin .len), #[(.tmp 4)], #[27]⟩), none⟩,
   ⟨(some 6), (.binOp .sub 3 (.tmp 5) (.const (.int .i64 1)) 3), none⟩,
   ⟨(some 2), (.assign (.const (.int .i64 0))), none⟩,
   ⟨(some 3), (.assign (.tmp 6)), none⟩]
def c30r1 : List SO :=
  [⟨(some 7), (.move (.tmp 2)), none⟩,
   ⟨(some 8), (.move (.tmp 3)), none⟩,
   ⟨(some 9), (.binOp .lss 3 (.tmp 7) (.tmp 8) 3), none⟩]
def c30r3 : List SO :=
  [⟨(some 14), (.move (.tmp 0)), none⟩,
   ⟨(some 15), (.move (.tmp 2)), none⟩,
   ⟨(some 16), (.move (.tmp 0)), none⟩,
   ⟨(some 17), (.move (.tmp 3)), none⟩,
   ⟨(some 18), (.move (.tmp 0)), none⟩,
   ⟨(some 19), (.move (.tmp 3)), none⟩,
   ⟨(some 20), (.indexAddr 27 (.tmp 18) (.tmp 19)), none⟩,
   ⟨(some 21), (.load 3 (.tmp 20)), none⟩,
   ⟨(some 22), (.move (.tmp 0)), none⟩,
   ⟨(some 23), (.move (.tmp 2)), none⟩,
   ⟨(some 24), (.indexAddr 27 (.tmp 22) (.tmp 23)), none⟩,
   ⟨(some 25), (.load 3 (.tmp 24)), none⟩,
   ⟨(some 26), (.indexAddr 27 (.tmp 14) (.tmp 15)), none⟩,
   ⟨none, (.store 3 (.tmp 26) (.tmp 21)), none⟩,
   ⟨(some 27), (.indexAddr 27 (.tmp 16) (.tmp 17)), none⟩,
   ⟨none, (.store 3 (.tmp 27) (.tmp 25)), none⟩]
def c30r2 : List SO :=
  [⟨(some 10), (.move (.tmp 2)), none⟩,
   ⟨(some 11), (.binOp .add 3 (.tmp 10) (.const (.int .i64 1)) 3), none⟩,
   ⟨(some 12), (.move (.tmp 3)), none⟩,
   ⟨(some 13), (.binOp .sub 3 (.tmp 12) (.const (.int .i64 1)) 3), none⟩,
   ⟨(some 2), (.assign (.tmp 11)), none⟩,
   ⟨(some 3), (.assign (.tmp 13)), none⟩]
def c30l0 : SC :=
  (.seq (.seq (.reg false (some [0, 2, 3, 9]) c30r1) (.cond (.tmp 9) .nop (.exit 0))) (.seq (.block 1 (.reg true (some [0, 2, 3]) c30r3)) (.reg false (some [0, 2, 3]) c30r2)))
def c30 : SC :=
  (.seq (.reg false (some [0, 2, 3]) c30r0) (.block 0 (.loop c30l0)))
theorem s30 : Try.f30.body.bind (strip Try.prog An 30 Try.f30.ntmps) = some c30 := by kernel_rfl
theorem g30 : An.glob 30 = [] := rfl
theorem r30 : Try.f30.results.toList = [] := by kernel_rfl
theorem t30r0 {F : Oracle} {L : List (Nat × CV)} {m : Mem} {Q : CE → TS → Prop} (h :
    Obt (lenS (tget L 0)) fun a0 => 
    Obt (cbin Try.prog .sub 3 (.tmp 5) (.const (.int .i64 1)) a0 (.int .i64 1)) fun a1 => Q .normal ⟨[(0, (tget L 0)), (2, (.int .i64 0)), (3, a1)], m⟩) :
    Tx Try.prog An F 30 (.reg false (some [0, 2, 3]) c30r0) ⟨L, m⟩ Q := Tx_told (by kernel_rfl) h
theorem t30r1 {F : Oracle} {L : List (Nat × CV)} {m : Mem} {Q : CE → TS → Prop} (h :
    Obt (cbin Try.prog .lss 3 (.tmp 7) (.tmp 8) (tget L 2) (tget L 3)) fun a0 => Q .normal ⟨[(0, (tget L 0)), (2, (tget L 2)), (3, (tget L 3)), (9, a0)], m⟩) :
    Tx Try.prog An F 30 (.reg false (some [0, 2, 3, 9]) c30r1) ⟨L, m⟩ Q := Tx_told (by kernel_rfl) h
theorem t30r3 {F : Oracle} {L : List (Nat × CV)} {m : Mem} {Q : CE → TS → Prop} (h :
    Obt (idxS 1 (tget L 0) (tget L 3)) fun a0 => 
    Obt (ld1 m a0) fun a1 => 
    Obt (idxS 1 (tget L 0) (tget L 2)) fun a2 => 
    Obt (ld1 m a2) fun a3 => 
    Obt (idxS 1 (tget L 0) (tget L 2)) fun a4 => 
    Obt (stX 1 m a4 a1) fun a5 => 
    Obt (idxS 1 (tget L 0) (tget L 3)) fun a6 => 
    Obt (stX 1 a5 a6 a3) fun a7 => Q .normal ⟨[(0, (tget L 0)), (2, (tget L 2)), (3, (tget L 3))], a7⟩) :
    Tx Try.prog An F 30 (.reg true (some [0, 2, 3]) c30r3) ⟨L, m⟩ Q := Tx_told (by kernel_rfl) h
theorem t30r2 {F : Oracle} {L : List (Nat × CV)} {m : Mem} {Q : CE → TS → Prop} (h :
    Obt (cbin Try.prog .add 3 (.tmp 10) (.const (.int .i64 1)) (tget L 2) (.int .i64 1)) fun a0 => 
    Obt (cbin Try.prog .sub 3 (.tmp 12) (.const (.int .i64 1)) (tget L 3) (.int .i64 1)) fun a1 => Q .normal ⟨[(0, (tget L 0)), (2, a0), (3, a1)], m⟩) :
    Tx Try.prog An F 30 (.reg false (some [0, 2, 3]) c30r2) ⟨L, m⟩ Q := Tx_told (by kernel_rfl) h
-- clevis/dom.Reach
def c10r0 : List SO :=
  [⟨(some 2), (.assign (.const (.slice none 0 0))), none⟩]
def c10r1 : List SO :=
  [⟨(some 6), (.move (.tmp 0)), none⟩,
   ⟨(some 7), (.call ⟨(.builtin .len), #[(.tmp 6)], #[22]⟩), none⟩,
   ⟨(some 8), (.makeSlice 25 (.tmp 7) (.tmp 7)), none⟩,
   ⟨(some 3), (.assign (.tmp 8)), none⟩]
def c10r2 : List SO :=
  [⟨(some 9), (.move (.tmp 0)), none⟩,
   ⟨(some 10), (.call ⟨(.value (.func 19)), #[(.tmp 9)], #[22]⟩), none⟩,
   ⟨(some 11), (.call ⟨(.builtin .len), #[(.tmp 10)], #[27]⟩), none⟩,
   ⟨(some 12), (.move (.const (.int .i64 0))), none⟩]
def c10r3 : List SO :=
  [⟨(some 13), (.binOp .lss 3 (.tmp 12) (.tmp 11) 3), none⟩]
def c10r4 : List SO :=
  [⟨(some 14), (.indexAddr 27 (.tmp 10) (.tmp 12)), none⟩,
   ⟨(some 15), (.load 3 (.tmp 14)), none⟩,
   ⟨(some 5), (.assign (.tmp 15)), none⟩]
def c10r5 : List SO :=
  [⟨(some 16), (.move (.tmp 3)), none⟩,
   ⟨(some 17), (.move (.tmp 5)), none⟩,
   ⟨(some 18), (.indexAddr 25 (.tmp 16) (.tmp 17)), none⟩,
   ⟨none, (.store 4 (.tmp 18) (.const (.bool true))), none⟩]
def c10r6 : List SO :=
  [⟨(some 19), (.binOp .add 3 (.tmp 12) (.const (.int .i64 1)) 3), none⟩,
   ⟨(some 12), (.move (.tmp 19)), none⟩]
def c10l0 : SC :=
  (.seq (.reg false (some [3, 10, 11, 12, 13]) c10r3) (.seq (.cond (.tmp 13) .nop (.exit 0)) (.seq (.block 1 (.seq (.reg false (some [3, 5, 10, 11, 12]) c10r4) (.reg false (some [3, 10, 11, 12]) c10r5))) (.reg false (some [3, 10, 11, 12]) c10r6))))
def c10r7 : List SO :=
  [⟨(some 20), (.move (.tmp 3)), none⟩,
   ⟨(some 2), (.assign (.tmp 20)), none⟩]
def c10 : SC :=
  (.seq (.reg false (some [0]) c10r0) (.seq (.reg false (some [0, 3]) c10r1) (.seq (.seq (.reg false (some [3, 10, 11, 12]) c10r2) (.block 0 (.loop c10l0))) (.seq (.reg false (some [2]) c10r7) .ret))))
theorem s10 : Try.f10.body.bind (strip Try.prog An 10 Try.f10.ntmps) = some c10 := by kernel_rfl
theorem g10 : An.glob 10 = [] := rfl
theorem r10 : Try.f10.results.toList = [(.tmp 2)] := by kernel_rfl
theorem t10r0 {F : Oracle} {L : List (Nat × CV)} {m : Mem} {Q : CE → TS → Prop} (h :
    Q .normal ⟨[(0, (tget L 0))], m⟩) :
    Tx Try.prog An F 10 (.reg false (some [0]) c10r0) ⟨L, m⟩ Q := Tx_told (by kernel_rfl) h
theorem t10r1 {F : Oracle} {L : List (Nat × CV)} {m : Mem} {Q : CE → TS → Prop} (h :
    Obt (lenS (tget L 0)) fun a0 => 
    Obt (mkX false 128 1 1 [.bool false] a0 a0 m) fun a1 => Q .normal ⟨[(0, (tget L 0)), (3, a1.1)], a1.2⟩) :
    Tx Try.prog An F 10 (.reg false (some [0, 3]) c10r1) ⟨L, m⟩ Q := Tx_told (by kernel_rfl) h
theorem t10r2 {F : Oracle} {L : List (Nat × CV)} {m : Mem} {Q : CE → TS → Prop} (h :
    Obt (callC An F 10 (some 10) 19 [(tget L 0)] m) fun a0 => 
    Obt (lenS a0.1) fun a1 => Q .normal ⟨[(3, (tget L 3)), (10, a0.1), (11, a1), (12, (.int .i64 0))], a0.2⟩) :
    Tx Try.prog An F 10 (.reg false (some [3, 10, 11, 12]) c10r2) ⟨L, m⟩ Q := Tx_told (by kernel_rfl) h
theorem t10r3 {F : Oracle} {L : List (Nat × CV)} {m : Mem} {Q : CE → TS → Prop} (h :
    Obt (cbin Try.prog .lss 3 (.tmp 12) (.tmp 11) (tget L 12) (tget L 11)) fun a0 => Q .normal ⟨[(3, (tget L 3)), (10, (tget L 10)), (11, (tget L 11)), (12, (tget L 12)), (13, a0)], m⟩) :
    Tx Try.prog An F 10 (.reg false (some [3, 10, 11, 12, 13]) c10r3) ⟨L, m⟩ Q := Tx_told (by kernel_rfl) h
theorem t10r4 {F : Oracle} {L : List (Nat × CV)} {m : Mem} {Q : CE → TS → Prop} (h :
    Obt (idxS 1 (tget L 10) (tget L 12)) fun a0 => 
    Obt (ld1 m a0) fun a1 => Q .normal ⟨[(3, (tget L 3)), (5, a1), (10, (tget L 10)), (11, (tget L 11)), (12, (tget L 12))], m⟩) :
    Tx Try.prog An F 10 (.reg false (some [3, 5, 10, 11, 12]) c10r4) ⟨L, m⟩ Q := Tx_told (by kernel_rfl) h
theorem t10r5 {F : Oracle} {L : List (Nat × CV)} {m : Mem} {Q : CE → TS → Prop} (h :
    Obt (idxS 1 (tget L 3) (tget L 5)) fun a0 => 
    Obt (stX 1 m a0 (.bool true)) fun a1 => Q .normal ⟨[(3, (tget L 3)), (10, (tget L 10)), (11, (tget L 11)), (12, (tget L 12))], a1⟩) :
    Tx Try.prog An F 10 (.reg false (some [3, 10, 11, 12]) c10r5) ⟨L, m⟩ Q := Tx_told (by kernel_rfl) h
theorem t10r6 {F : Oracle} {L : List (Nat × CV)} {m : Mem} {Q : CE → TS → Prop} (h :
    Obt (cbin Try.prog .add 3 (.tmp 12) (.const (.int .i64 1)) (tget L 12) (.int .i64 1)) fun a0 => Q .normal ⟨[(3, (tget L 3)), (10, (tget L 10)), (11, (tget L 11)), (12, a0)], m⟩) :
    Tx Try.prog An F 10 (.reg false (some [3, 10, 11, 12]) c10r6) ⟨L, m⟩ Q := Tx_told (by kernel_rfl) h
theorem t10r7 {F : Oracle} {L : List (Nat × CV)} {m : Mem} {Q : CE → TS → Prop} (h :
    Q .normal ⟨[(2, (tget L 3))], m⟩) :
    Tx Try.prog An F 10 (.reg false (some [2]) c10r7) ⟨L, m⟩ Q := Tx_told (by kernel_rfl) h
-- slices.Index[[]int,int]
def c32r0 : List SO :=
  [⟨(some 4), (.assign (.const (.int .i64 0))), none⟩]
def c32r1 : List SO :=
  [⟨(some 6), (.move (.tmp 0)), none⟩,
   ⟨(some 7), (.call ⟨(.builtin .len), #[(.tmp 6)], #[27]⟩), none⟩,
   ⟨(some 8), (.move (.const (.int .i64 0))), none⟩]
def c32r2 : List SO :=
  [⟨(some 9), (.binOp .lss 3 (.tmp 8) (.tmp 7) 3), none⟩]
def c32r3 : List SO :=
  [⟨(some 10), (.move (.tmp 8)), none⟩,
   ⟨(some 5), (.assign (.tmp 10)), none⟩]
def c32r4 : List SO :=
  [⟨(some 11), (.move (.tmp 1)), none⟩,
   ⟨(some 12), (.move (.tmp 0)), none⟩,
   ⟨(some 13), (.move (.tmp 5)), none⟩,
   ⟨(some 14), (.indexAddr 27 (.tmp 12) (.tmp 13)), none⟩,
   ⟨(some 15), (.load 3 (.tmp 14)), none⟩,
   ⟨(some 16), (.binOp .eql 3 (.tmp 11) (.tmp 15) 3), none⟩]
def c32r5 : List SO :=
  [⟨(some 17), (.move (.tmp 5)), none⟩,
   ⟨(some 4), (.assign (.tmp 17)), none⟩]
def c32r6 : List SO :=
  [⟨(some 18), (.binOp .add 3 (.tmp 8) (.const (.int .i64 1)) 3), none⟩,
   ⟨(some 8), (.move (.tmp 18)), none⟩]
def c32l0 : SC :=
  (.seq (.reg false (some [0, 1, 7, 8, 9]) c32r2) (.seq (.cond (.tmp 9) .nop (.exit 0)) (.seq (.block 1 (.seq (.reg false (some [0, 1, 5, 7, 8]) c32r3) (.seq (.reg false (some [0, 1, 5, 7, 8, 16]) c32r4) (.cond (.tmp 16) (.seq (.reg false (some [4]) c32r5) .ret) .nop)))) (.reg false (some [0, 1, 7, 8]) c32r6))))
def c32r7 : List SO :=
  [⟨(some 4), (.assign (.const (.int .i64 (-1)))), none⟩]
def c32 : SC :=
  (.seq (.reg false (some [0, 1]) c32r0) (.seq (.seq (.reg false (some [0, 1, 7, 8]) c32r1) (.block 0 (.loop c32l0))) (.seq (.reg false (some [4]) c32r7) .ret)))
theorem s32 : Try.f32.body.bind (strip Try.prog An 32 Try.f32.ntmps) = some c32 := by kernel_rfl
theorem g32 : An.glob 32 = [] := rfl
theorem r32 : Try.f32.results.toList = [(.tmp 4)] := by kernel_rfl
theorem t32r0 {F : Oracle} {L : List (Nat × CV)} {m : Mem} {Q : CE → TS → Prop} (h :
    Q .normal ⟨[(0, (tget L 0)), (1, (tget L 1))], m⟩) :
    Tx Try.prog An F 32 (.reg false (some [0, 1]) c32r0) ⟨L, m⟩ Q := Tx_told (by kernel_rfl) h
theorem t32r1 {F : Oracle} {L : List (Nat × CV)} {m : Mem} {Q : CE → TS → Prop} (h :
    Obt (lenS (tget L 0)) fun a0 => Q .normal ⟨[(0, (tget L 0)), (1, (tget L 1)), (7, a0), (8, (.int .i64 0))], m⟩) :
    Tx Try.prog An F 32 (.reg false (some [0, 1, 7, 8]) c32r1) ⟨L, m⟩ Q := Tx_told (by kernel_rfl) h
theorem t32r2 {F : Oracle} {L : List (Nat × CV)} {m : Mem} {Q : CE → TS → Prop} (h :
    Obt (cbin Try.prog .lss 3 (.tmp 8) (.tmp 7) (tget L 8) (tget L 7)) fun a0 => Q .normal ⟨[(0, (tget L 0)), (1, (tget L 1)), (7, (tget L 7)), (8, (tget L 8)), (9, a0)], m⟩) :
    Tx Try.prog An F 32 (.reg false (some [0, 1, 7, 8, 9]) c32r2) ⟨L, m⟩ Q := Tx_told (by kernel_rfl) h
theorem t32r3 {F : Oracle} {L : List (Nat × CV)} {m : Mem} {Q : CE → TS → Prop} (h :
    Q .normal ⟨[(0, (tget L 0)), (1, (tget L 1)), (5, (tget L 8)), (7, (tget L 7)), (8, (tget L 8))], m⟩) :
    Tx Try.prog An F 32 (.reg false (some [0, 1, 5, 7, 8]) c32r3) ⟨L, m⟩ Q := Tx_told (by kernel_rfl) h
theorem t32r4 {F : Oracle} {L : List (Nat × CV)} {m : Mem} {Q : CE → TS → Prop} (h :
    Obt (idxS 1 (tget L 0) (tget L 5)) fun a0 => 
    Obt (ld1 m a0) fun a1 => 
    Obt (cbin Try.prog .eql 3 (.tmp 11) (.tmp 15) (tget L 1) a1) fun a2 => Q .normal ⟨[(0, (tget L 0)), (1, (tget L 1)), (5, (tget L 5)), (7, (tget L 7)), (8, (tget L 8)), (16, a2)], m⟩) :
    Tx Try.prog An F 32 (.reg false (some [0, 1, 5, 7, 8, 16]) c32r4) ⟨L, m⟩ Q := Tx_told (by kernel_rfl) h
theorem t32r5 {F : Oracle} {L : List (Nat × CV)} {m : Mem} {Q : CE → TS → Prop} (h :
    Q .normal ⟨[(4, (tget L 5))], m⟩) :
    Tx Try.prog An F 32 (.reg false (some [4]) c32r5) ⟨L, m⟩ Q := Tx_told (by kernel_rfl) h
theorem t32r6 {F : Oracle} {L : List (Nat × CV)} {m : Mem} {Q : CE → TS → Prop} (h :
    Obt (cbin Try.prog .add 3 (.tmp 8) (.const (.int .i64 1)) (tget L 8) (.int .i64 1)) fun a0 => Q .normal ⟨[(0, (tget L 0)), (1, (tget L 1)), (7, (tget L 7)), (8, a0)], m⟩) :
    Tx Try.prog An F 32 (.reg false (some [0, 1, 7, 8]) c32r6) ⟨L, m⟩ Q := Tx_told (by kernel_rfl) h
theorem t32r7 {F : Oracle} {L : List (Nat × CV)} {m : Mem} {Q : CE → TS → Prop} (h :
    Q .normal ⟨[(4, (.int .i64 (-1)))], m⟩) :
    Tx Try.prog An F 32 (.reg false (some [4]) c32r7) ⟨L, m⟩ Q := Tx_told (by kernel_rfl) h
-- slices.Contains[[]int,int]
def c22r0 : List SO :=
  [⟨(some 4), (.assign (.const (.bool false))), none⟩]
def c22r1 : List SO :=
  [⟨(some 5), (.move (.tmp 0)), none⟩,
   ⟨(some 6), (.move (.tmp 1)), none⟩,
   ⟨(some 7), (.call ⟨(.value (.func 32)), #[(.tmp 5), (.tmp 6)], #[27, 3]⟩), none⟩,
   ⟨(some 8), (.binOp .geq 3 (.tmp 7) (.const (.int .i64 0)) 3), none⟩,
   ⟨(some 4), (.assign (.tmp 8)), none⟩]
def c22 : SC :=
  (.seq (.reg false (some [0, 1]) c22r0) (.seq (.reg false (some [4]) c22r1) .ret))
theorem s22 : Try.f22.body.bind (strip Try.prog An 22 Try.f22.ntmps) = some c22 := by kernel_rfl
theorem g22 : An.glob 22 = [] := rfl
theorem r22 : Try.f22.results.toList = [(.tmp 4)] := by kernel_rfl
theorem t22r0 {F : Oracle} {L : List (Nat × CV)} {m : Mem} {Q : CE → TS → Prop} (h :
    Q .normal ⟨[(0, (tget L 0)), (1, (tget L 1))], m⟩) :
    Tx Try.prog An F 22 (.reg false (some [0, 1]) c22r0) ⟨L, m⟩ Q := Tx_told (by kernel_rfl) h
theorem t22r1 {F : Oracle} {L : List (Nat × CV)} {m : Mem} {Q : CE → TS → Prop} (h :
    Obt (callC An F 22 (some 7) 32 [(tget L 0), (tget L 1)] m) fun a0 => 
    Obt (cbin Try.prog .geq 3 (.tmp 7) (.const (.int .i64 0)) a0.1 (.int .i64 0)) fun a1 => Q .normal ⟨[(4, a1)], a0.2⟩) :
    Tx Try.prog An F 22 (.reg false (some [4]) c22r1) ⟨L, m⟩ Q := Tx_told (by kernel_rfl) h
-- clevis/dom.preds
def c21r0 : List SO :=
  [⟨(some 4), (.assign (.const (.map none))), none⟩]
def c21r1 : List SO :=
  [⟨(some 10), (.makeMap 32 none), none⟩,
   ⟨(some 5), (.assign (.tmp 10)), none⟩]
def c21r2 : List SO :=
  [⟨(some 11), (.move (.tmp 1)), none⟩,
   ⟨(some 12), (.call ⟨(.builtin .len), #[(.tmp 11)], #[27]⟩), none⟩,
   ⟨(some 13), (.move (.const (.int .i64 0))), none⟩]
def c21r3 : List SO :=
  [⟨(some 14), (.binOp .lss 3 (.tmp 13) (.tmp 12) 3), none⟩]
def c21r4 : List SO :=
  [⟨(some 15), (.indexAddr 27 (.tmp 11) (.tmp 13)), none⟩,
   ⟨(some 16), (.load 3 (.tmp 15)), none⟩,
   ⟨(some 7), (.assign (.tmp 16)), none⟩]
def c21r5 : List SO :=
  [⟨(some 17), (.move (.tmp 0)), none⟩,
   ⟨(some 18), (.move (.tmp 7)), none⟩,
   ⟨(some 19), (.call ⟨(.value (.func 29)), #[(.tmp 17), (.tmp 18)], #[22, 3]⟩), none⟩,
   ⟨(some 20), (.call ⟨(.builtin .len), #[(.tmp 19)], #[27]⟩), none⟩,
   ⟨(some 21), (.move (.const (.int .i64 0))), none⟩]
def c21r6 : List SO :=
  [⟨(some 22), (.binOp .lss 3 (.tmp 21) (.tmp 20) 3), none⟩]
def c21r7 : List SO :=
  [⟨(some 23), (.indexAddr 27 (.tmp 19) (.tmp 21)), none⟩,
   ⟨(some 24), (.load 3 (.tmp 23)), none⟩,
   ⟨(some 9), (.assign (.tmp 24)), none⟩]
def c21r8 : List SO :=
  [⟨(some 25), (.move (.tmp 5)), none⟩,
   ⟨(some 26), (.move (.tmp 9)), none⟩,
   ⟨(some 27), (.lookup 32 (.tmp 25) (.tmp 26) false), none⟩,
   ⟨(some 28), (.move (.tmp 7)), none⟩,
   ⟨(some 29), (.call ⟨(.value (.func 22)), #[(.tmp 27), (.tmp 28)], #[27, 3]⟩), none⟩,
   ⟨(some 30), (.unOp .not 4 (.tmp 29)), none⟩]
def c21r9 : List SO :=
  [⟨(some 31), (.move (.tmp 5)), none⟩,
   ⟨(some 32), (.move (.tmp 9)), none⟩,
   ⟨(some 33), (.move (.tmp 5)), none⟩,
   ⟨(some 34), (.move (.tmp 9)), none⟩,
   ⟨(some 35), (.lookup 32 (.tmp 33) (.tmp 34) false), none⟩,
   ⟨(some 36), (.move (.tmp 7)), none⟩,
   ⟨(some 37), (.buildSlice 27 1 #[(0, (.tmp 36))]), none⟩,
   ⟨(some 38), (.call ⟨(.builtin .append), #[(.tmp 35), (.tmp 37)], #[27, 27]⟩), none⟩,
   ⟨none, (.mapUpdate 32 (.tmp 31) (.tmp 32) (.tmp 38)), none⟩]
def c21r10 : List SO :=
  [⟨(some 39), (.binOp .add 3 (.tmp 21) (.const (.int .i64 1)) 3), none⟩,
   ⟨(some 21), (.move (.tmp 39)), none⟩]
def c21l0 : SC :=
  (.seq (.reg false (some [0, 5, 7, 11, 12, 13, 19, 20, 21, 22]) c21r6) (.seq (.cond (.tmp 22) .nop (.exit 2)) (.seq (.block 3 (.seq (.reg false (some [0, 5, 7, 9, 11, 12, 13, 19, 20, 21]) c21r7) (.seq (.reg false (some [0, 5, 7, 9, 11, 12, 13, 19, 20, 21, 30]) c21r8) (.cond (.tmp 30) (.reg false (some [0, 5, 7, 11, 12, 13, 19, 20, 21]) c21r9) .nop)))) (.reg false (some [0, 5, 7, 11, 12, 13, 19, 20, 21]) c21r10))))
def c21r11 : List SO :=
  [⟨(some 40), (.binOp .add 3 (.tmp 13) (.const (.int .i64 1)) 3), none⟩,
   ⟨(some 13), (.move (.tmp 40)), none⟩]
def c21l1 : SC :=
  (.seq (.reg false (some [0, 5, 11, 12, 13, 14]) c21r3) (.seq (.cond (.tmp 14) .nop (.exit 0)) (.seq (.block 1 (.seq (.reg false (some [0, 5, 7, 11, 12, 13]) c21r4) (.seq (.reg false (some [0, 5, 7, 11, 12, 13, 19, 20, 21]) c21r5) (.block 2 (.loop c21l0))))) (.reg false (some [0, 5, 11, 12, 13]) c21r11))))
def c21r12 : List SO :=
  [⟨(some 41), (.move (.tmp 5)), none⟩,
   ⟨(some 4), (.assign (.tmp 41)), none⟩]
def c21 : SC :=
  (.seq (.reg false (some [0, 1]) c21r0) (.seq (.reg false (some [0, 1, 5]) c21r1) (.seq (.seq (.reg false (some [0, 5, 11, 12, 13]) c21r2) (.block 0 (.loop c21l1))) (.seq (.reg false (some [4]) c21r12) .ret))))
theorem s21 : Try.f21.body.bind (strip Try.prog An 21 Try.f21.ntmps) = some c21 := by kernel_rfl
theorem g21 : An.glob 21 = [10, 38] := rfl
theorem r21 : Try.f21.results.toList = [(.tmp 4)] := by kernel_rfl
theorem t21r0 {F : Oracle} {L : List (Nat × CV)} {m : Mem} {Q : CE → TS → Prop} (h :
    Q .normal ⟨[(0, (tget L 0)), (1, (tget L 1))], m⟩) :
    Tx Try.prog An F 21 (.reg false (some [0, 1]) c21r0) ⟨L, m⟩ Q := Tx_told (by kernel_rfl) h
theorem t21r1 {F : Oracle} {L : List (Nat × CV)} {m : Mem} {Q : CE → TS → Prop} (h :
    Q .normal ⟨[(0, (tget L 0)), (1, (tget L 1)), (5, (gnewK m))], (gnewM m)⟩) :
    Tx Try.prog An F 21 (.reg false (some [0, 1, 5]) c21r1) ⟨L, m⟩ Q := Tx_told (by kernel_rfl) h
theorem t21r2 {F : Oracle} {L : List (Nat × CV)} {m : Mem} {Q : CE → TS → Prop} (h :
    Obt (lenS (tget L 1)) fun a0 => Q .normal ⟨[(0, (tget L 0)), (5, (tget L 5)), (11, (tget L 1)), (12, a0), (13, (.int .i64 0))], m⟩) :
    Tx Try.prog An F 21 (.reg false (some [0, 5, 11, 12, 13]) c21r2) ⟨L, m⟩ Q := Tx_told (by kernel_rfl) h
theorem t21r3 {F : Oracle} {L : List (Nat × CV)} {m : Mem} {Q : CE → TS → Prop} (h :
    Obt (cbin Try.prog .lss 3 (.tmp 13) (.tmp 12) (tget L 13) (tget L 12)) fun a0 => Q .normal ⟨[(0, (tget L 0)), (5, (tget L 5)), (11, (tget L 11)), (12, (tget L 12)), (13, (tget L 13)), (14, a0)], m⟩) :
    Tx Try.prog An F 21 (.reg false (some [0, 5, 11, 12, 13, 14]) c21r3) ⟨L, m⟩ Q := Tx_told (by kernel_rfl) h
theorem t21r4 {F : Oracle} {L : List (Nat × CV)} {m : Mem} {Q : CE → TS → Prop} (h :
    Obt (idxS 1 (tget L 11) (tget L 13)) fun a0 => 
    Obt (ld1 m a0) fun a1 => Q .normal ⟨[(0, (tget L 0)), (5, (tget L 5)), (7, a1), (11, (tget L 11)), (12, (tget L 12)), (13, (tget L 13))], m⟩) :
    Tx Try.prog An F 21 (.reg false (some [0, 5, 7, 11, 12, 13]) c21r4) ⟨L, m⟩ Q := Tx_told (by kernel_rfl) h
theorem t21r5 {F : Oracle} {L : List (Nat × CV)} {m : Mem} {Q : CE → TS → Prop} (h :
    Obt (callC An F 21 (some 19) 29 [(tget L 0), (tget L 7)] m) fun a0 => 
    Obt (lenS a0.1) fun a1 => Q .normal ⟨[(0, (tget L 0)), (5, (tget L 5)), (7, (tget L 7)), (11, (tget L 11)), (12, (tget L 12)), (13, (tget L 13)), (19, a0.1), (20, a1), (21, (.int .i64 0))], a0.2⟩) :
    Tx Try.prog An F 21 (.reg false (some [0, 5, 7, 11, 12, 13, 19, 20, 21]) c21r5) ⟨L, m⟩ Q := Tx_told (by kernel_rfl) h
theorem t21r6 {F : Oracle} {L : List (Nat × CV)} {m : Mem} {Q : CE → TS → Prop} (h :
    Obt (cbin Try.prog .lss 3 (.tmp 21) (.tmp 20) (tget L 21) (tget L 20)) fun a0 => Q .normal ⟨[(0, (tget L 0)), (5, (tget L 5)), (7, (tget L 7)), (11, (tget L 11)), (12, (tget L 12)), (13, (tget L 13)), (19, (tget L 19)), (20, (tget L 20)), (21, (tget L 21)), (22, a0)], m⟩) :
    Tx Try.prog An F 21 (.reg false (some [0, 5, 7, 11, 12, 13, 19, 20, 21, 22]) c21r6) ⟨L, m⟩ Q := Tx_told (by kernel_rfl) h
theorem t21r7 {F : Oracle} {L : List (Nat × CV)} {m : Mem} {Q : CE → TS → Prop} (h :
    Obt (idxS 1 (tget L 19) (tget L 21)) fun a0 => 
    Obt (ld1 m a0) fun a1 => Q .normal ⟨[(0, (tget L 0)), (5, (tget L 5)), (7, (tget L 7)), (9, a1), (11, (tget L 11)), (12, (tget L 12)), (13, (tget L 13)), (19, (tget L 19)), (20, (tget L 20)), (21, (tget L 21))], m⟩) :
    Tx Try.prog An F 21 (.reg false (some [0, 5, 7, 9, 11, 12, 13, 19, 20, 21]) c21r7) ⟨L, m⟩ Q := Tx_told (by kernel_rfl) h
theorem t21r8 {F : Oracle} {L : List (Nat × CV)} {m : Mem} {Q : CE → TS → Prop} (h :
    Obt (lookX Try.prog 3 (.nil) (tget L 5) (tget L 9) false m) fun a0 => 
    Obt (callC An F 21 (some 29) 22 [a0, (tget L 7)] m) fun a1 => 
    Obt (cun .not a1.1) fun a2 => Q .normal ⟨[(0, (tget L 0)), (5, (tget L 5)), (7, (tget L 7)), (9, (tget L 9)), (11, (tget L 11)), (12, (tget L 12)), (13, (tget L 13)), (19, (tget L 19)), (20, (tget L 20)), (21, (tget L 21)), (30, a2)], a1.2⟩) :
    Tx Try.prog An F 21 (.reg false (some [0, 5, 7, 9, 11, 12, 13, 19, 20, 21, 30]) c21r8) ⟨L, m⟩ Q := Tx_told (by kernel_rfl) h
theorem t21r9 {F : Oracle} {L : List (Nat × CV)} {m : Mem} {Q : CE → TS → Prop} (h :
    Obt (lookX Try.prog 3 (.nil) (tget L 5) (tget L 9) false m) fun a0 => 
    Obt (bslX false 592 1 1 [.int .i64 0] [(0, 1, (tget L 7))] m) fun a1 => 
    Obt (appX true 608 1 8 a0 a1.1 a1.2) fun a2 => 
    Obt (mupX Try.prog 3 (tget L 5) (tget L 9) a2.1 a2.2) fun a3 => Q .normal ⟨[(0, (tget L 0)), (5, (tget L 5)), (7, (tget L 7)), (11, (tget L 11)), (12, (tget L 12)), (13, (tget L 13)), (19, (tget L 19)), (20, (tget L 20)), (21, (tget L 21))], a3⟩) :
    Tx Try.prog An F 21 (.reg false (some [0, 5, 7, 11, 12, 13, 19, 20, 21]) c21r9) ⟨L, m⟩ Q := Tx_told (by kernel_rfl) h
theorem t21r10 {F : Oracle} {L : List (Nat × CV)} {m : Mem} {Q : CE → TS → Prop} (h :
    Obt (cbin Try.prog .add 3 (.tmp 21) (.const (.int .i64 1)) (tget L 21) (.int .i64 1)) fun a0 => Q .normal ⟨[(0, (tget L 0)), (5, (tget L 5)), (7, (tget L 7)), (11, (tget L 11)), (12, (tget L 12)), (13, (tget L 13)), (19, (tget L 19)), (20, (tget L 20)), (21, a0)], m⟩) :
    Tx Try.prog An F 21 (.reg false (some [0, 5, 7, 11, 12, 13, 19, 20, 21]) c21r10) ⟨L, m⟩ Q := Tx_told (by kernel_rfl) h
theorem t21r11 {F : Oracle} {L : List (Nat × CV)} {m : Mem} {Q : CE → TS → Prop} (h :
    Obt (cbin Try.prog .add 3 (.tmp 13) (.const (.int .i64 1)) (tget L 13) (.int .i64 1)) fun a0 => Q .normal ⟨[(0, (tget L 0)), (5, (tget L 5)), (11, (tget L 11)), (12, (tget L 12)), (13, a0)], m⟩) :
    Tx Try.prog An F 21 (.reg false (some [0, 5, 11, 12, 13]) c21r11) ⟨L, m⟩ Q := Tx_told (by kernel_rfl) h
theorem t21r12 {F : Oracle} {L : List (Nat × CV)} {m : Mem} {Q : CE → TS → Prop} (h :
    Q .normal ⟨[(4, (tget L 5))], m⟩) :
    Tx Try.prog An F 21 (.reg false (some [4]) c21r12) ⟨L, m⟩ Q := Tx_told (by kernel_rfl) h
-- clevis/dom.Idom$1
def c26r0 : List SO :=
  [⟨(some 6), (.assign (.const (.int .i64 0))), none⟩]
def c26r1 : List SO :=
  [⟨(some 7), (.move (.tmp 0)), none⟩,
   ⟨(some 8), (.move (.tmp 1)), none⟩,
   ⟨(some 9), (.binOp .neq 3 (.tmp 7) (.tmp 8) 3), none⟩]
def c26r2 : List SO :=
  [⟨(some 10), (.load 39 (.tmp 2)), none⟩,
   ⟨(some 11), (.move (.tmp 0)), none⟩,
   ⟨(some 12), (.lookup 39 (.tmp 10) (.tmp 11) false), none⟩,
   ⟨(some 13), (.load 39 (.tmp 2)), none⟩,
   ⟨(some 14), (.move (.tmp 1)), none⟩,
   ⟨(some 15), (.lookup 39 (.tmp 13) (.tmp 14) false), none⟩,
   ⟨(some 16), (.binOp .gtr 3 (.tmp 12) (.tmp 15) 3), none⟩]
def c26r3 : List SO :=
  [⟨(some 17), (.load 27 (.tmp 3)), none⟩,
   ⟨(some 18), (.move (.tmp 0)), none⟩,
   ⟨(some 19), (.indexAddr 27 (.tmp 17) (.tmp 18)), none⟩,
   ⟨(some 20), (.load 3 (.tmp 19)), none⟩,
   ⟨(some 0), (.assign (.tmp 20)), none⟩]
def c26l0 : SC :=
  (.seq (.seq (.reg false (some [0, 1, 2, 3, 16]) c26r2) (.cond (.tmp 16) .nop (.exit 2))) (.block 3 (.reg false (some [0, 1, 2, 3]) c26r3)))
def c26r4 : List SO :=
  [⟨(some 21), (.load 39 (.tmp 2)), none⟩,
   ⟨(some 22), (.move (.tmp 1)), none⟩,
   ⟨(some 23), (.lookup 39 (.tmp 21) (.tmp 22) false), none⟩,
   ⟨(some 24), (.load 39 (.tmp 2)), none⟩,
   ⟨(some 25), (.move (.tmp 0)), none⟩,
   ⟨(some 26), (.lookup 39 (.tmp 24) (.tmp 25) false), none⟩,
   ⟨(some 27), (.binOp .gtr 3 (.tmp 23) (.tmp 26) 3), none⟩]
def c26r5 : List SO :=
  [⟨(some 28), (.load 27 (.tmp 3)), none⟩,
   ⟨(some 29), (.move (.tmp 1)), none⟩,
   ⟨(some 30), (.indexAddr 27 (.tmp 28) (.tmp 29)), none⟩,
   ⟨(some 31), (.load 3 (.tmp 30)), none⟩,
   ⟨(some 1), (.assign (.tmp 31)), none⟩]
def c26l1 : SC :=
  (.seq (.seq (.reg false (some [0, 1, 2, 3, 27]) c26r4) (.cond (.tmp 27) .nop (.exit 4))) (.block 5 (.reg false (some [0, 1, 2, 3]) c26r5)))
def c26l2 : SC :=
  (.seq (.seq (.reg false (some [0, 1, 2, 3, 9]) c26r1) (.cond (.tmp 9) .nop (.exit 0))) (.block 1 (.seq (.block 2 (.loop c26l0)) (.block 4 (.loop c26l1)))))
def c26r6 : List SO :=
  [⟨(some 32), (.move (.tmp 0)), none⟩,
   ⟨(some 6), (.assign (.tmp 32)), none⟩]
def c26 : SC :=
  (.seq (.reg false (some [0, 1, 2, 3]) c26r0) (.seq (.block 0 (.loop c26l2)) (.seq (.reg false (some [6]) c26r6) .ret)))
theorem s26 : Try.f26.body.bind (strip Try.prog An 26 Try.f26.ntmps) = some c26 := by kernel_rfl
theorem g26 : An.glob 26 = [] := rfl
theorem r26 : Try.f26.results.toList = [(.tmp 6)] := by kernel_rfl
theorem t26r0 {F : Oracle} {L : List (Nat × CV)} {m : Mem} {Q : CE → TS → Prop} (h :
    Q .normal ⟨[(0, (tget L 0)), (1, (tget L 1)), (2, (tget L 2)), (3, (tget L 3))], m⟩) :
    Tx Try.prog An F 26 (.reg false (some [0, 1, 2, 3]) c26r0) ⟨L, m⟩ Q := Tx_told (by kernel_rfl) h
theorem t26r1 {F : Oracle} {L : List (Nat × CV)} {m : Mem} {Q : CE → TS → Prop} (h :
    Obt (cbin Try.prog .neq 3 (.tmp 7) (.tmp 8) (tget L 0) (tget L 1)) fun a0 => Q .normal ⟨[(0, (tget L 0)), (1, (tget L 1)), (2, (tget L 2)), (3, (tget L 3)), (9, a0)], m⟩) :
    Tx Try.prog An F 26 (.reg false (some [0, 1, 2, 3, 9]) c26r1) ⟨L, m⟩ Q := Tx_told (by kernel_rfl) h
theorem t26r2 {F : Oracle} {L : List (Nat × CV)} {m : Mem} {Q : CE → TS → Prop} (h :
    Obt (ld1 m (tget L 2)) fun a0 => 
    Obt (lookX Try.prog 3 (.int .i64 0) a0 (tget L 0) false m) fun a1 => 
    Obt (ld1 m (tget L 2)) fun a2 => 
    Obt (lookX Try.prog 3 (.int .i64 0) a2 (tget L 1) false m) fun a3 => 
    Obt (cbin Try.prog .gtr 3 (.tmp 12) (.tmp 15) a1 a3) fun a4 => Q .normal ⟨[(0, (tget L 0)), (1, (tget L 1)), (2, (tget L 2)), (3, (tget L 3)), (16, a4)], m⟩) :
    Tx Try.prog An F 26 (.reg false (some [0, 1, 2, 3, 16]) c26r2) ⟨L, m⟩ Q := Tx_told (by kernel_rfl) h
theorem t26r3 {F : Oracle} {L : List (Nat × CV)} {m : Mem} {Q : CE → TS → Prop} (h :
    Obt (ld1 m (tget L 3)) fun a0 => 
    Obt (idxS 1 a0 (tget L 0)) fun a1 => 
    Obt (ld1 m a1) fun a2 => Q .normal ⟨[(0, a2), (1, (tget L 1)), (2, (tget L 2)), (3, (tget L 3))], m⟩) :
    Tx Try.prog An F 26 (.reg false (some [0, 1, 2, 3]) c26r3) ⟨L, m⟩ Q := Tx_told (by kernel_rfl) h
theorem t26r4 {F : Oracle} {L : List (Nat × CV)} {m : Mem} {Q : CE → TS → Prop} (h :
    Obt (ld1 m (tget L 2)) fun a0 => 
    Obt (lookX Try.prog 3 (.int .i64 0) a0 (tget L 1) false m) fun a1 => 
    Obt (ld1 m (tget L 2)) fun a2 => 
    Obt (lookX Try.prog 3 (.int .i64 0) a2 (tget L 0) false m) fun a3 => 
    Obt (cbin Try.prog .gtr 3 (.tmp 23) (.tmp 26) a1 a3) fun a4 => Q .normal ⟨[(0, (tget L 0)), (1, (tget L 1)), (2, (tget L 2)), (3, (tget L 3)), (27, a4)], m⟩) :
    Tx Try.prog An F 26 (.reg false (some [0, 1, 2, 3, 27]) c26r4) ⟨L, m⟩ Q := Tx_told (by kernel_rfl) h
theorem t26r5 {F : Oracle} {L : List (Nat × CV)} {m : Mem} {Q : CE → TS → Prop} (h :
    Obt (ld1 m (tget L 3)) fun a0 => 
    Obt (idxS 1 a0 (tget L 1)) fun a1 => 
    Obt (ld1 m a1) fun a2 => Q .normal ⟨[(0, (tget L 0)), (1, a2), (2, (tget L 2)), (3, (tget L 3))], m⟩) :
    Tx Try.prog An F 26 (.reg false (some [0, 1, 2, 3]) c26r5) ⟨L, m⟩ Q := Tx_told (by kernel_rfl) h
theorem t26r6 {F : Oracle} {L : List (Nat × CV)} {m : Mem} {Q : CE → TS → Prop} (h :
    Q .normal ⟨[(6, (tget L 0))], m⟩) :
    Tx Try.prog An F 26 (.reg false (some [6]) c26r6) ⟨L, m⟩ Q := Tx_told (by kernel_rfl) h
-- clevis/dom.Idom
def c16r0 : List SO :=
  [⟨(some 2), (.assign (.const (.slice none 0 0))), none⟩]
def c16r1 : List SO :=
  [⟨(some 17), (.move (.tmp 0)), none⟩,
   ⟨(some 18), (.call ⟨(.value (.func 19)), #[(.tmp 17)], #[22]⟩), none⟩,
   ⟨(some 3), (.assign (.tmp 18)), none⟩]
def c16r2 : List SO :=
  [⟨(some 19), (.move (.tmp 3)), none⟩,
   ⟨(some 20), (.call ⟨(.builtin .len), #[(.tmp 19)], #[27]⟩), none⟩,
   ⟨(some 21), (.makeMap 39 (some (.tmp 20))), none⟩,
   ⟨(some 4), (.alloc 39), none⟩,
   ⟨none, (.store 39 (.tmp 4) (.tmp 21)), none⟩]
def c16r3 : List SO :=
  [⟨(some 22), (.move (.tmp 0)), none⟩,
   ⟨(some 23), (.call ⟨(.builtin .len), #[(.tmp 22)], #[22]⟩), none⟩,
   ⟨(some 24), (.makeSlice 27 (.tmp 23) (.tmp 23)), none⟩,
   ⟨(some 5), (.alloc 27), none⟩,
   ⟨none, (.store 27 (.tmp 5) (.tmp 24)), none⟩]
def c16r4 : List SO :=
  [⟨(some 25), (.load 27 (.tmp 5)), none⟩,
   ⟨(some 26), (.call ⟨(.builtin .len), #[(.tmp 25)], #[27]⟩), none⟩,
   ⟨(some 27), (.move (.const (.int .i64 0))), none⟩]
def c16r5 : List SO :=
  [⟨(some 28), (.binOp .lss 3 (.tmp 27) (.tmp 26) 3), none⟩]
def c16r6 : List SO :=
  [⟨(some 29), (.move (.tmp 27)), none⟩,
   ⟨(some 6), (.assign (.tmp 29)), none⟩]
def c16r7 : List SO :=
  [⟨(some 30), (.load 27 (.tmp 5)), none⟩,
   ⟨(some 31), (.move (.tmp 6)), none⟩,
   ⟨(some 32), (.indexAddr 27 (.tmp 30) (.tmp 31)), none⟩,
   ⟨none, (.store 3 (.tmp 32) (.const (.int .i64 (-1)))), none⟩]
def c16r8 : List SO :=
  [⟨(some 33), (.binOp .add 3 (.tmp 27) (.const (.int .i64 1)) 3), none⟩,
   ⟨(some 27), (.move (.tmp 33)), none⟩]
def c16l0 : SC :=
  (.seq (.reg false (some [0, 3, 4, 5, 26, 27, 28]) c16r5) (.seq (.cond (.tmp 28) .nop (.exit 0)) (.seq (.block 1 (.seq (.reg false (some [0, 3, 4, 5, 6, 26, 27]) c16r6) (.reg false (some [0, 3, 4, 5, 26, 27]) c16r7))) (.reg false (some [0, 3, 4, 5, 26, 27]) c16r8))))
def c16r9 : List SO :=
  [⟨(some 34), (.move (.tmp 3)), none⟩,
   ⟨(some 35), (.call ⟨(.builtin .len), #[(.tmp 34)], #[27]⟩), none⟩,
   ⟨(some 36), (.move (.const (.int .i64 0))), none⟩]
def c16r10 : List SO :=
  [⟨(some 37), (.binOp .lss 3 (.tmp 36) (.tmp 35) 3), none⟩]
def c16r11 : List SO :=
  [⟨(some 38), (.move (.tmp 36)), none⟩,
   ⟨(some 39), (.indexAddr 27 (.tmp 34) (.tmp 36)), none⟩,
   ⟨(some 40), (.load 3 (.tmp 39)), none⟩,
   ⟨(some 7), (.assign (.tmp 38)), none⟩,
   ⟨(some 8), (.assign (.tmp 40)), none⟩]
def c16r12 : List SO :=
  [⟨(some 41), (.load 39 (.tmp 4)), none⟩,
   ⟨(some 42), (.move (.tmp 8)), none⟩,
   ⟨(some 43), (.move (.tmp 7)), none⟩,
   ⟨none, (.mapUpdate 39 (.tmp 41) (.tmp 42) (.tmp 43)), none⟩]
def c16r13 : List SO :=
  [⟨(some 44), (.binOp .add 3 (.tmp 36) (.const (.int .i64 1)) 3), none⟩,
   ⟨(some 36), (.move (.tmp 44)), none⟩]
def c16l1 : SC :=
  (.seq (.reg false (some [0, 3, 4, 5, 34, 35, 36, 37]) c16r10) (.seq (.cond (.tmp 37) .nop (.exit 2)) (.seq (.block 3 (.seq (.reg false (some [0, 3, 4, 5, 7, 8, 34, 35, 36]) c16r11) (.reg false (some [0, 3, 4, 5, 34, 35, 36]) c16r12))) (.reg false (some [0, 3, 4, 5, 34, 35, 36]) c16r13))))
def c16r14 : List SO :=
  [⟨(some 45), (.move (.tmp 0)), none⟩,
   ⟨(some 46), (.move (.tmp 3)), none⟩,
   ⟨(some 47), (.call ⟨(.value (.func 21)), #[(.tmp 45), (.tmp 46)], #[22, 27]⟩), none⟩,
   ⟨(some 9), (.assign (.tmp 47)), none⟩]
def c16r15 : List SO :=
  [⟨(some 48), (.makeFunc (.func 26) #[] #[(.tmp 4), (.tmp 5)]), none⟩,
   ⟨(some 10), (.assign (.tmp 48)), none⟩]
def c16r16 : List SO :=
  [⟨(some 11), (.assign (.const (.bool true))), none⟩]
def c16r17 : List SO :=
  [⟨(some 49), (.move (.tmp 11)), none⟩]
def c16r18 : List SO :=
  [⟨(some 11), (.assign (.const (.bool false))), none⟩]
def c16r19 : List SO :=
  [⟨(some 50), (.move (.tmp 3)), none⟩,
   ⟨(some 51), (.call ⟨(.builtin .len), #[(.tmp 50)], #[27]⟩), none⟩,
   ⟨(some 52), (.move (.const (.int .i64 0))), none⟩]
def c16r20 : List SO :=
  [⟨(some 53), (.binOp .lss 3 (.tmp 52) (.tmp 51) 3), none⟩]
def c16r21 : List SO :=
  [⟨(some 54), (.move (.tmp 52)), none⟩,
   ⟨(some 55), (.indexAddr 27 (.tmp 50) (.tmp 52)), none⟩,
   ⟨(some 56), (.load 3 (.tmp 55)), none⟩,
   ⟨(some 12), (.assign (.tmp 54)), none⟩,
   ⟨(some 13), (.assign (.tmp 56)), none⟩]
def c16r22 : List SO :=
  [⟨(some 57), (.move (.tmp 12)), none⟩,
   ⟨(some 58), (.binOp .eql 3 (.tmp 57) (.const (.int .i64 0)) 3), none⟩]
def c16r23 : List SO :=
  [⟨(some 14), (.assign (.const (.int .i64 (-1)))), none⟩]
def c16r24 : List SO :=
  [⟨(some 59), (.move (.tmp 9)), none⟩,
   ⟨(some 60), (.move (.tmp 13)), none⟩,
   ⟨(some 61), (.lookup 32 (.tmp 59) (.tmp 60) false), none⟩,
   ⟨(some 62), (.call ⟨(.builtin .len), #[(.tmp 61)], #[27]⟩), none⟩,
   ⟨(some 63), (.move (.const (.int .i64 0))), none⟩]
def c16r25 : List SO :=
  [⟨(some 64), (.binOp .lss 3 (.tmp 63) (.tmp 62) 3), none⟩]
def c16r26 : List SO :=
  [⟨(some 65), (.indexAddr 27 (.tmp 61) (.tmp 63)), none⟩,
   ⟨(some 66), (.load 3 (.tmp 65)), none⟩,
   ⟨(some 16), (.assign (.tmp 66)), none⟩]
def c16r27 : List SO :=
  [⟨(some 67), (.move (.tmp 16)), none⟩,
   ⟨(some 68), (.move (.tmp 3)), none⟩,
   ⟨(some 69), (.indexAddr 27 (.tmp 68) (.const (.int .i64 0))), none⟩,
   ⟨(some 70), (.load 3 (.tmp 69)), none⟩,
   ⟨(some 71), (.binOp .neq 3 (.tmp 67) (.tmp 70) 3), none⟩,
   ⟨(some 72), (.move (.tmp 71)), none⟩,
   ⟨(some 73), (.load 27 (.tmp 5)), (some (72, true))⟩,
   ⟨(some 74), (.move (.tmp 16)), (some (72, true))⟩,
   ⟨(some 75), (.indexAddr 27 (.tmp 73) (.tmp 74)), (some (72, true))⟩,
   ⟨(some 76), (.load 3 (.tmp 75)), (some (72, true))⟩,
   ⟨(some 77), (.binOp .lss 3 (.tmp 76) (.const (.int .i64 0)) 3), (some (72, true))⟩,
   ⟨(some 78), (.pick (.tmp 72) (.tmp 77) (.const (.bool false))), none⟩]
def c16r28 : List SO :=
  [⟨(some 79), (.move (.tmp 14)), none⟩,
   ⟨(some 80), (.binOp .lss 3 (.tmp 79) (.const (.int .i64 0)) 3), none⟩]
def c16r29 : List SO :=
  [⟨(some 81), (.move (.tmp 16)), none⟩,
   ⟨(some 14), (.assign (.tmp 81)), none⟩]
def c16r30 : List SO :=
  [⟨(some 82), (.move (.tmp 10)), none⟩,
   ⟨(some 83), (.move (.tmp 14)), none⟩,
   ⟨(some 84), (.move (.tmp 16)), none⟩,
   ⟨(some 85), (.call ⟨(.value (.tmp 82)), #[(.tmp 83), (.tmp 84)], #[3, 3]⟩), none⟩,
   ⟨(some 14), (.assign (.tmp 85)), none⟩]
def c16r31 : List SO :=
  [⟨(some 86), (.binOp .add 3 (.tmp 63) (.const (.int .i64 1)) 3), none⟩,
   ⟨(some 63), (.move (.tmp 86)), none⟩]
def c16l2 : SC :=
  (.seq (.reg false (some [3, 5, 9, 10, 11, 13, 14, 50, 51, 52, 61, 62, 63, 64]) c16r25) (.seq (.cond (.tmp 64) .nop (.exit 8)) (.seq (.block 9 (.seq (.reg false (some [3, 5, 9, 10, 11, 13, 14, 16, 50, 51, 52, 61, 62, 63]) c16r26) (.seq (.seq (.reg false (some [3, 5, 9, 10, 11, 13, 14, 16, 50, 51, 52, 61, 62, 63, 78]) c16r27) (.cond (.tmp 78) (.exit 9) .nop)) (.seq (.reg false (some [3, 5, 9, 10, 11, 13, 14, 16, 50, 51, 52, 61, 62, 63, 80]) c16r28) (.cond (.tmp 80) (.reg false (some [3, 5, 9, 10, 11, 13, 14, 50, 51, 52, 61, 62, 63]) c16r29) (.reg false (some [3, 5, 9, 10, 11, 13, 14, 50, 51, 52, 61, 62, 63]) c16r30)))))) (.reg false (some [3, 5, 9, 10, 11, 13, 14, 50, 51, 52, 61, 62, 63]) c16r31))))
def c16r32 : List SO :=
  [⟨(some 87), (.move (.tmp 11)), none⟩,
   ⟨(some 88), (.move (.tmp 87)), none⟩,
   ⟨(some 89), (.move (.tmp 14)), (some (88, false))⟩,
   ⟨(some 90), (.load 27 (.tmp 5)), (some (88, false))⟩,
   ⟨(some 91), (.move (.tmp 13)), (some (88, false))⟩,
   ⟨(some 92), (.indexAddr 27 (.tmp 90) (.tmp 91)), (some (88, false))⟩,
   ⟨(some 93), (.load 3 (.tmp 92)), (some (88, false))⟩,
   ⟨(some 94), (.binOp .neq 3 (.tmp 89) (.tmp 93) 3), (some (88, false))⟩,
   ⟨(some 95), (.pick (.tmp 88) (.const (.bool true)) (.tmp 94)), none⟩,
   ⟨(some 11), (.assign (.tmp 95)), none⟩]
def c16r33 : List SO :=
  [⟨(some 96), (.load 27 (.tmp 5)), none⟩,
   ⟨(some 97), (.move (.tmp 13)), none⟩,
   ⟨(some 98), (.move (.tmp 14)), none⟩,
   ⟨(some 99), (.indexAddr 27 (.tmp 96) (.tmp 97)), none⟩,
   ⟨none, (.store 3 (.tmp 99) (.tmp 98)), none⟩]
def c16r34 : List SO :=
  [⟨(some 100), (.binOp .add 3 (.tmp 52) (.const (.int .i64 1)) 3), none⟩,
   ⟨(some 52), (.move (.tmp 100)), none⟩]
def c16l3 : SC :=
  (.seq (.reg false (some [3, 5, 9, 10, 11, 50, 51, 52, 53]) c16r20) (.seq (.cond (.tmp 53) .nop (.exit 6)) (.seq (.block 7 (.seq (.reg false (some [3, 5, 9, 10, 11, 12, 13, 50, 51, 52]) c16r21) (.seq (.seq (.reg false (some [3, 5, 9, 10, 11, 13, 50, 51, 52, 58]) c16r22) (.cond (.tmp 58) (.exit 7) .nop)) (.seq (.reg false (some [3, 5, 9, 10, 11, 13, 14, 50, 51, 52]) c16r23) (.seq (.seq (.reg false (some [3, 5, 9, 10, 11, 13, 14, 50, 51, 52, 61, 62, 63]) c16r24) (.block 8 (.loop c16l2))) (.seq (.reg false (some [3, 5, 9, 10, 11, 13, 14, 50, 51, 52]) c16r32) (.reg false (some [3, 5, 9, 10, 11, 50, 51, 52]) c16r33))))))) (.reg false (some [3, 5, 9, 10, 11, 50, 51, 52]) c16r34))))
def c16l4 : SC :=
  (.seq (.seq (.reg false (some [3, 5, 9, 10, 49]) c16r17) (.cond (.tmp 49) .nop (.exit 4))) (.block 5 (.seq (.reg false (some [3, 5, 9, 10, 11]) c16r18) (.seq (.reg false (some [3, 5, 9, 10, 11, 50, 51, 52]) c16r19) (.block 6 (.loop c16l3))))))
def c16r35 : List SO :=
  [⟨(some 101), (.load 27 (.tmp 5)), none⟩,
   ⟨(some 2), (.assign (.tmp 101)), none⟩]
def c16 : SC :=
  (.seq (.reg false (some [0]) c16r0) (.seq (.reg false (some [0, 3]) c16r1) (.seq (.reg false (some [0, 3, 4]) c16r2) (.seq (.reg false (some [0, 3, 4, 5]) c16r3) (.seq (.seq (.reg false (some [0, 3, 4, 5, 26, 27]) c16r4) (.block 0 (.loop c16l0))) (.seq (.seq (.reg false (some [0, 3, 4, 5, 34, 35, 36]) c16r9) (.block 2 (.loop c16l1))) (.seq (.reg false (some [3, 4, 5, 9]) c16r14) (.seq (.reg false (some [3, 5, 9, 10]) c16r15) (.seq (.seq (.reg false (some [3, 5, 9, 10, 11]) c16r16) (.block 4 (.loop c16l4))) (.seq (.reg false (some [2]) c16r35) .ret))))))))))
theorem s16 : Try.f16.body.bind (strip Try.prog An 16 Try.f16.ntmps) = some c16 := by kernel_rfl
theorem g16 : An.glob 16 = [21, 4, 24, 5] := rfl
theorem r16 : Try.f16.results.toList = [(.tmp 2)] := by kernel_rfl
theorem t16r0 {F : Oracle} {L : List (Nat × CV)} {m : Mem} {Q : CE → TS → Prop} (h :
    Q .normal ⟨[(0, (tget L 0))], m⟩) :
    Tx Try.prog An F 16 (.reg false (some [0]) c16r0) ⟨L, m⟩ Q := Tx_told (by kernel_rfl) h
theorem t16r1 {F : Oracle} {L : List (Nat × CV)} {m : Mem} {Q : CE → TS → Prop} (h :
    Obt (callC An F 16 (some 18) 19 [(tget L 0)] m) fun a0 => Q .normal ⟨[(0, (tget L 0)), (3, a0.1)], a0.2⟩) :
    Tx Try.prog An F 16 (.reg false (some [0, 3]) c16r1) ⟨L, m⟩ Q := Tx_told (by kernel_rfl) h
theorem t16r2 {F : Oracle} {L : List (Nat × CV)} {m : Mem} {Q : CE → TS → Prop} (h :
    Obt (lenS (tget L 3)) fun a0 => 
    Obt (mmX true 336 a0 m) fun a1 => 
    Obt (stX 1 (gnewL a1.2 [.mnil]) (gnewP a1.2) a1.1) fun a2 => Q .normal ⟨[(0, (tget L 0)), (3, (tget L 3)), (4, (gnewP a1.2))], a2⟩) :
    Tx Try.prog An F 16 (.reg false (some [0, 3, 4]) c16r2) ⟨L, m⟩ Q := Tx_told (by kernel_rfl) h
theorem t16r3 {F : Oracle} {L : List (Nat × CV)} {m : Mem} {Q : CE → TS → Prop} (h :
    Obt (lenS (tget L 0)) fun a0 => 
    Obt (mkX true 384 1 8 [.int .i64 0] a0 a0 m) fun a1 => 
    Obt (stX 1 (gnewL a1.2 [.nil]) (gnewP a1.2) a1.1) fun a2 => Q .normal ⟨[(0, (tget L 0)), (3, (tget L 3)), (4, (tget L 4)), (5, (gnewP a1.2))], a2⟩) :
    Tx Try.prog An F 16 (.reg false (some [0, 3, 4, 5]) c16r3) ⟨L, m⟩ Q := Tx_told (by kernel_rfl) h
theorem t16r4 {F : Oracle} {L : List (Nat × CV)} {m : Mem} {Q : CE → TS → Prop} (h :
    Obt (ld1 m (tget L 5)) fun a0 => 
    Obt (lenS a0) fun a1 => Q .normal ⟨[(0, (tget L 0)), (3, (tget L 3)), (4, (tget L 4)), (5, (tget L 5)), (26, a1), (27, (.int .i64 0))], m⟩) :
    Tx Try.prog An F 16 (.reg false (some [0, 3, 4, 5, 26, 27]) c16r4) ⟨L, m⟩ Q := Tx_told (by kernel_rfl) h
theorem t16r5 {F : Oracle} {L : List (Nat × CV)} {m : Mem} {Q : CE → TS → Prop} (h :
    Obt (cbin Try.prog .lss 3 (.tmp 27) (.tmp 26) (tget L 27) (tget L 26)) fun a0 => Q .normal ⟨[(0, (tget L 0)), (3, (tget L 3)), (4, (tget L 4)), (5, (tget L 5)), (26, (tget L 26)), (27, (tget L 27)), (28, a0)], m⟩) :
    Tx Try.prog An F 16 (.reg false (some [0, 3, 4, 5, 26, 27, 28]) c16r5) ⟨L, m⟩ Q := Tx_told (by kernel_rfl) h
theorem t16r6 {F : Oracle} {L : List (Nat × CV)} {m : Mem} {Q : CE → TS → Prop} (h :
    Q .normal ⟨[(0, (tget L 0)), (3, (tget L 3)), (4, (tget L 4)), (5, (tget L 5)), (6, (tget L 27)), (26, (tget L 26)), (27, (tget L 27))], m⟩) :
    Tx Try.prog An F 16 (.reg false (some [0, 3, 4, 5, 6, 26, 27]) c16r6) ⟨L, m⟩ Q := Tx_told (by kernel_rfl) h
theorem t16r7 {F : Oracle} {L : List (Nat × CV)} {m : Mem} {Q : CE → TS → Prop} (h :
    Obt (ld1 m (tget L 5)) fun a0 => 
    Obt (idxS 1 a0 (tget L 6)) fun a1 => 
    Obt (stX 1 m a1 (.int .i64 (-1))) fun a2 => Q .normal ⟨[(0, (tget L 0)), (3, (tget L 3)), (4, (tget L 4)), (5, (tget L 5)), (26, (tget L 26)), (27, (tget L 27))], a2⟩) :
    Tx Try.prog An F 16 (.reg false (some [0, 3, 4, 5, 26, 27]) c16r7) ⟨L, m⟩ Q := Tx_told (by kernel_rfl) h
theorem t16r8 {F : Oracle} {L : List (Nat × CV)} {m : Mem} {Q : CE → TS → Prop} (h :
    Obt (cbin Try.prog .add 3 (.tmp 27) (.const (.int .i64 1)) (tget L 27) (.int .i64 1)) fun a0 => Q .normal ⟨[(0, (tget L 0)), (3, (tget L 3)), (4, (tget L 4)), (5, (tget L 5)), (26, (tget L 26)), (27, a0)], m⟩) :
    Tx Try.prog An F 16 (.reg false (some [0, 3, 4, 5, 26, 27]) c16r8) ⟨L, m⟩ Q := Tx_told (by kernel_rfl) h
theorem t16r9 {F : Oracle} {L : List (Nat × CV)} {m : Mem} {Q : CE → TS → Prop} (h :
    Obt (lenS (tget L 3)) fun a0 => Q .normal ⟨[(0, (tget L 0)), (3, (tget L 3)), (4, (tget L 4)), (5, (tget L 5)), (34, (tget L 3)), (35, a0), (36, (.int .i64 0))], m⟩) :
    Tx Try.prog An F 16 (.reg false (some [0, 3, 4, 5, 34, 35, 36]) c16r9) ⟨L, m⟩ Q := Tx_told (by kernel_rfl) h
theorem t16r10 {F : Oracle} {L : List (Nat × CV)} {m : Mem} {Q : CE → TS → Prop} (h :
    Obt (cbin Try.prog .lss 3 (.tmp 36) (.tmp 35) (tget L 36) (tget L 35)) fun a0 => Q .normal ⟨[(0, (tget L 0)), (3, (tget L 3)), (4, (tget L 4)), (5, (tget L 5)), (34, (tget L 34)), (35, (tget L 35)), (36, (tget L 36)), (37, a0)], m⟩) :
    Tx Try.prog An F 16 (.reg false (some [0, 3, 4, 5, 34, 35, 36, 37]) c16r10) ⟨L, m⟩ Q := Tx_told (by kernel_rfl) h
theorem t16r11 {F : Oracle} {L : List (Nat × CV)} {m : Mem} {Q : CE → TS → Prop} (h :
    Obt (idxS 1 (tget L 34) (tget L 36)) fun a0 => 
    Obt (ld1 m a0) fun a1 => Q .normal ⟨[(0, (tget L 0)), (3, (tget L 3)), (4, (tget L 4)), (5, (tget L 5)), (7, (tget L 36)), (8, a1), (34, (tget L 34)), (35, (tget L 35)), (36, (tget L 36))], m⟩) :
    Tx Try.prog An F 16 (.reg false (some [0, 3, 4, 5, 7, 8, 34, 35, 36]) c16r11) ⟨L, m⟩ Q := Tx_told (by kernel_rfl) h
theorem t16r12 {F : Oracle} {L : List (Nat × CV)} {m : Mem} {Q : CE → TS → Prop} (h :
    Obt (ld1 m (tget L 4)) fun a0 => 
    Obt (mupX Try.prog 3 a0 (tget L 8) (tget L 7) m) fun a1 => Q .normal ⟨[(0, (tget L 0)), (3, (tget L 3)), (4, (tget L 4)), (5, (tget L 5)), (34, (tget L 34)), (35, (tget L 35)), (36, (tget L 36))], a1⟩) :
    Tx Try.prog An F 16 (.reg false (some [0, 3, 4, 5, 34, 35, 36]) c16r12) ⟨L, m⟩ Q := Tx_told (by kernel_rfl) h
theorem t16r13 {F : Oracle} {L : List (Nat × CV)} {m : Mem} {Q : CE → TS → Prop} (h :
    Obt (cbin Try.prog .add 3 (.tmp 36) (.const (.int .i64 1)) (tget L 36) (.int .i64 1)) fun a0 => Q .normal ⟨[(0, (tget L 0)), (3, (tget L 3)), (4, (tget L 4)), (5, (tget L 5)), (34, (tget L 34)), (35, (tget L 35)), (36, a0)], m⟩) :
    Tx Try.prog An F 16 (.reg false (some [0, 3, 4, 5, 34, 35, 36]) c16r13) ⟨L, m⟩ Q := Tx_told (by kernel_rfl) h
theorem t16r14 {F : Oracle} {L : List (Nat × CV)} {m : Mem} {Q : CE → TS → Prop} (h :
    Obt (callC An F 16 (some 47) 21 [(tget L 0), (tget L 3)] m) fun a0 => Q .normal ⟨[(3, (tget L 3)), (4, (tget L 4)), (5, (tget L 5)), (9, a0.1)], a0.2⟩) :
    Tx Try.prog An F 16 (.reg false (some [3, 4, 5, 9]) c16r14) ⟨L, m⟩ Q := Tx_told (by kernel_rfl) h
theorem t16r15 {F : Oracle} {L : List (Nat × CV)} {m : Mem} {Q : CE → TS → Prop} (h :
    Q .normal ⟨[(3, (tget L 3)), (5, (tget L 5)), (9, (tget L 9)), (10, (.func (.func 26) [] [(tget L 4), (tget L 5)]))], m⟩) :
    Tx Try.prog An F 16 (.reg false (some [3, 5, 9, 10]) c16r15) ⟨L, m⟩ Q := Tx_told (by kernel_rfl) h
theorem t16r16 {F : Oracle} {L : List (Nat × CV)} {m : Mem} {Q : CE → TS → Prop} (h :
    Q .normal ⟨[(3, (tget L 3)), (5, (tget L 5)), (9, (tget L 9)), (10, (tget L 10)), (11, (.bool true))], m⟩) :
    Tx Try.prog An F 16 (.reg false (some [3, 5, 9, 10, 11]) c16r16) ⟨L, m⟩ Q := Tx_told (by kernel_rfl) h
theorem t16r17 {F : Oracle} {L : List (Nat × CV)} {m : Mem} {Q : CE → TS → Prop} (h :
    Q .normal ⟨[(3, (tget L 3)), (5, (tget L 5)), (9, (tget L 9)), (10, (tget L 10)), (49, (tget L 11))], m⟩) :
    Tx Try.prog An F 16 (.reg false (some [3, 5, 9, 10, 49]) c16r17) ⟨L, m⟩ Q := Tx_told (by kernel_rfl) h
theorem t16r18 {F : Oracle} {L : List (Nat × CV)} {m : Mem} {Q : CE → TS → Prop} (h :
    Q .normal ⟨[(3, (tget L 3)), (5, (tget L 5)), (9, (tget L 9)), (10, (tget L 10)), (11, (.bool false))], m⟩) :
    Tx Try.prog An F 16 (.reg false (some [3, 5, 9, 10, 11]) c16r18) ⟨L, m⟩ Q := Tx_told (by kernel_rfl) h
theorem t16r19 {F : Oracle} {L : List (Nat × CV)} {m : Mem} {Q : CE → TS → Prop} (h :
    Obt (lenS (tget L 3)) fun a0 => Q .normal ⟨[(3, (tget L 3)), (5, (tget L 5)), (9, (tget L 9)), (10, (tget L 10)), (11, (tget L 11)), (50, (tget L 3)), (51, a0), (52, (.int .i64 0))], m⟩) :
    Tx Try.prog An F 16 (.reg false (some [3, 5, 9, 10, 11, 50, 51, 52]) c16r19) ⟨L, m⟩ Q := Tx_told (by kernel_rfl) h
theorem t16r20 {F : Oracle} {L : List (Nat × CV)} {m : Mem} {Q : CE → TS → Prop} (h :
    Obt (cbin Try.prog .lss 3 (.tmp 52) (.tmp 51) (tget L 52) (tget L 51)) fun a0 => Q .normal ⟨[(3, (tget L 3)), (5, (tget L 5)), (9, (tget L 9)), (10, (tget L 10)), (11, (tget L 11)), (50, (tget L 50)), (51, (tget L 51)), (52, (tget L 52)), (53, a0)], m⟩) :
    Tx Try.prog An F 16 (.reg false (some [3, 5, 9, 10, 11, 50, 51, 52, 53]) c16r20) ⟨L, m⟩ Q := Tx_told (by kernel_rfl) h
theorem t16r21 {F : Oracle} {L : List (Nat × CV)} {m : Mem} {Q : CE → TS → Prop} (h :
    Obt (idxS 1 (tget L 50) (tget L 52)) fun a0 => 
    Obt (ld1 m a0) fun a1 => Q .normal ⟨[(3, (tget L 3)), (5, (tget L 5)), (9, (tget L 9)), (10, (tget L 10)), (11, (tget L 11)), (12, (tget L 52)), (13, a1), (50, (tget L 50)), (51, (tget L 51)), (52, (tget L 52))], m⟩) :
    Tx Try.prog An F 16 (.reg false (some [3, 5, 9, 10, 11, 12, 13, 50, 51, 52]) c16r21) ⟨L, m⟩ Q := Tx_told (by kernel_rfl) h
theorem t16r22 {F : Oracle} {L : List (Nat × CV)} {m : Mem} {Q : CE → TS → Prop} (h :
    Obt (cbin Try.prog .eql 3 (.tmp 57) (.const (.int .i64 0)) (tget L 12) (.int .i64 0)) fun a0 => Q .normal ⟨[(3, (tget L 3)), (5, (tget L 5)), (9, (tget L 9)), (10, (tget L 10)), (11, (tget L 11)), (13, (tget L 13)), (50, (tget L 50)), (51, (tget L 51)), (52, (tget L 52)), (58, a0)], m⟩) :
    Tx Try.prog An F 16 (.reg false (some [3, 5, 9, 10, 11, 13, 50, 51, 52, 58]) c16r22) ⟨L, m⟩ Q := Tx_told (by kernel_rfl) h
theorem t16r23 {F : Oracle} {L : List (Nat × CV)} {m : Mem} {Q : CE → TS → Prop} (h :
    Q .normal ⟨[(3, (tget L 3)), (5, (tget L 5)), (9, (tget L 9)), (10, (tget L 10)), (11, (tget L 11)), (13, (tget L 13)), (14, (.int .i64 (-1))), (50, (tget L 50)), (51, (tget L 51)), (52, (tget L 52))], m⟩) :
    Tx Try.prog An F 16 (.reg false (some [3, 5, 9, 10, 11, 13, 14, 50, 51, 52]) c16r23) ⟨L, m⟩ Q := Tx_told (by kernel_rfl) h
theorem t16r24 {F : Oracle} {L : List (Nat × CV)} {m : Mem} {Q : CE → TS → Prop} (h :
    Obt (lookX Try.prog 3 (.nil) (tget L 9) (tget L 13) false m) fun a0 => 
    Obt (lenS a0) fun a1 => Q .normal ⟨[(3, (tget L 3)), (5, (tget L 5)), (9, (tget L 9)), (10, (tget L 10)), (11, (tget L 11)), (13, (tget L 13)), (14, (tget L 14)), (50, (tget L 50)), (51, (tget L 51)), (52, (tget L 52)), (61, a0), (62, a1), (63, (.int .i64 0))], m⟩) :
    Tx Try.prog An F 16 (.reg false (some [3, 5, 9, 10, 11, 13, 14, 50, 51, 52, 61, 62, 63]) c16r24) ⟨L, m⟩ Q := Tx_told (by kernel_rfl) h
theorem t16r25 {F : Oracle} {L : List (Nat × CV)} {m : Mem} {Q : CE → TS → Prop} (h :
    Obt (cbin Try.prog .lss 3 (.tmp 63) (.tmp 62) (tget L 63) (tget L 62)) fun a0 => Q .normal ⟨[(3, (tget L 3)), (5, (tget L 5)), (9, (tget L 9)), (10, (tget L 10)), (11, (tget L 11)), (13, (tget L 13)), (14, (tget L 14)), (50, (tget L 50)), (51, (tget L 51)), (52, (tget L 52)), (61, (tget L 61)), (62, (tget L 62)), (63, (tget L 63)), (64, a0)], m⟩) :
    Tx Try.prog An F 16 (.reg false (some [3, 5, 9, 10, 11, 13, 14, 50, 51, 52, 61, 62, 63, 64]) c16r25) ⟨L, m⟩ Q := Tx_told (by kernel_rfl) h
theorem t16r26 {F : Oracle} {L : List (Nat × CV)} {m : Mem} {Q : CE → TS → Prop} (h :
    Obt (idxS 1 (tget L 61) (tget L 63)) fun a0 => 
    Obt (ld1 m a0) fun a1 => Q .normal ⟨[(3, (tget L 3)), (5, (tget L 5)), (9, (tget L 9)), (10, (tget L 10)), (11, (tget L 11)), (13, (tget L 13)), (14, (tget L 14)), (16, a1), (50, (tget L 50)), (51, (tget L 51)), (52, (tget L 52)), (61, (tget L 61)), (62, (tget L 62)), (63, (tget L 63))], m⟩) :
    Tx Try.prog An F 16 (.reg false (some [3, 5, 9, 10, 11, 13, 14, 16, 50, 51, 52, 61, 62, 63]) c16r26) ⟨L, m⟩ Q := Tx_told (by kernel_rfl) h
theorem t16r27 {F : Oracle} {L : List (Nat × CV)} {m : Mem} {Q : CE → TS → Prop} (h :
    Obt (idxS 1 (tget L 3) (.int .i64 0)) fun a0 => 
    Obt (ld1 m a0) fun a1 => 
    Obt (cbin Try.prog .neq 3 (.tmp 67) (.tmp 70) (tget L 16) a1) fun a2 => 
    Obt (gdO a2 true ((ld1 m (tget L 5)).map fun v => (v, m)) (.tuple [], m)) fun a3 => 
    Obt (gdO a2 true (some ((tget L 16), a3.2)) (.tuple [], a3.2)) fun a4 => 
    Obt (gdO a2 true ((idxS 1 a3.1 a4.1).map fun v => (v, a4.2)) (.tuple [], a4.2)) fun a5 => 
    Obt (gdO a2 true ((ld1 a5.2 a5.1).map fun v => (v, a5.2)) (.tuple [], a5.2)) fun a6 => 
    Obt (gdO a2 true ((cbin Try.prog .lss 3 (.tmp 76) (.const (.int .i64 0)) a6.1 (.int .i64 0)).map fun v => (v, a6.2)) (.tuple [], a6.2)) fun a7 => 
    Obt (pickX a2 a7.1 (.bool false)) fun a8 => Q .normal ⟨[(3, (tget L 3)), (5, (tget L 5)), (9, (tget L 9)), (10, (tget L 10)), (11, (tget L 11)), (13, (tget L 13)), (14, (tget L 14)), (16, (tget L 16)), (50, (tget L 50)), (51, (tget L 51)), (52, (tget L 52)), (61, (tget L 61)), (62, (tget L 62)), (63, (tget L 63)), (78, a8)], a7.2⟩) :
    Tx Try.prog An F 16 (.reg false (some [3, 5, 9, 10, 11, 13, 14, 16, 50, 51, 52, 61, 62, 63, 78]) c16r27) ⟨L, m⟩ Q := Tx_told (by kernel_rfl) h
theorem t16r28 {F : Oracle} {L : List (Nat × CV)} {m : Mem} {Q : CE → TS → Prop} (h :
    Obt (cbin Try.prog .lss 3 (.tmp 79) (.const (.int .i64 0)) (tget L 14) (.int .i64 0)) fun a0 => Q .normal ⟨[(3, (tget L 3)), (5, (tget L 5)), (9, (tget L 9)), (10, (tget L 10)), (11, (tget L 11)), (13, (tget L 13)), (14, (tget L 14)), (16, (tget L 16)), (50, (tget L 50)), (51, (tget L 51)), (52, (tget L 52)), (61, (tget L 61)), (62, (tget L 62)), (63, (tget L 63)), (80, a0)], m⟩) :
    Tx Try.prog An F 16 (.reg false (some [3, 5, 9, 10, 11, 13, 14, 16, 50, 51, 52, 61, 62, 63, 80]) c16r28) ⟨L, m⟩ Q := Tx_told (by kernel_rfl) h
theorem t16r29 {F : Oracle} {L : List (Nat × CV)} {m : Mem} {Q : CE → TS → Prop} (h :
    Q .normal ⟨[(3, (tget L 3)), (5, (tget L 5)), (9, (tget L 9)), (10, (tget L 10)), (11, (tget L 11)), (13, (tget L 13)), (14, (tget L 16)), (50, (tget L 50)), (51, (tget L 51)), (52, (tget L 52)), (61, (tget L 61)), (62, (tget L 62)), (63, (tget L 63))], m⟩) :
    Tx Try.prog An F 16 (.reg false (some [3, 5, 9, 10, 11, 13, 14, 50, 51, 52, 61, 62, 63]) c16r29) ⟨L, m⟩ Q := Tx_told (by kernel_rfl) h
theorem t16r30 {F : Oracle} {L : List (Nat × CV)} {m : Mem} {Q : CE → TS → Prop} (h :
    Obt (invokeC An F 16 (some 85) (tget L 10) [(tget L 14), (tget L 16)] m) fun a0 => Q .normal ⟨[(3, (tget L 3)), (5, (tget L 5)), (9, (tget L 9)), (10, (tget L 10)), (11, (tget L 11)), (13, (tget L 13)), (14, a0.1), (50, (tget L 50)), (51, (tget L 51)), (52, (tget L 52)), (61, (tget L 61)), (62, (tget L 62)), (63, (tget L 63))], a0.2⟩) :
    Tx Try.prog An F 16 (.reg false (some [3, 5, 9, 10, 11, 13, 14, 50, 51, 52, 61, 62, 63]) c16r30) ⟨L, m⟩ Q := Tx_told (by kernel_rfl) h
theorem t16r31 {F : Oracle} {L : List (Nat × CV)} {m : Mem} {Q : CE → TS → Prop} (h :
    Obt (cbin Try.prog .add 3 (.tmp 63) (.const (.int .i64 1)) (tget L 63) (.int .i64 1)) fun a0 => Q .normal ⟨[(3, (tget L 3)), (5, (tget L 5)), (9, (tget L 9)), (10, (tget L 10)), (11, (tget L 11)), (13, (tget L 13)), (14, (tget L 14)), (50, (tget L 50)), (51, (tget L 51)), (52, (tget L 52)), (61, (tget L 61)), (62, (tget L 62)), (63, a0)], m⟩) :
    Tx Try.prog An F 16 (.reg false (some [3, 5, 9, 10, 11, 13, 14, 50, 51, 52, 61, 62, 63]) c16r31) ⟨L, m⟩ Q := Tx_told (by kernel_rfl) h
theorem t16r32 {F : Oracle} {L : List (Nat × CV)} {m : Mem} {Q : CE → TS → Prop} (h :
    Obt (gdO (tget L 11) false (some ((tget L 14), m)) (.tuple [], m)) fun a0 => 
    Obt (gdO (tget L 11) false ((ld1 a0.2 (tget L 5)).map fun v => (v, a0.2)) (.tuple [], a0.2)) fun a1 => 
    Obt (gdO (tget L 11) false (some ((tget L 13), a1.2)) (.tuple [], a1.2)) fun a2 => 
    Obt (gdO (tget L 11) false ((idxS 1 a1.1 a2.1).map fun v => (v, a2.2)) (.tuple [], a2.2)) fun a3 => 
    Obt (gdO (tget L 11) false ((ld1 a3.2 a3.1).map fun v => (v, a3.2)) (.tuple [], a3.2)) fun a4 => 
    Obt (gdO (tget L 11) false ((cbin Try.prog .neq 3 (.tmp 89) (.tmp 93) a0.1 a4.1).map fun v => (v, a4.2)) (.tuple [], a4.2)) fun a5 => 
    Obt (pickX (tget L 11) (.bool true) a5.1) fun a6 => Q .normal ⟨[(3, (tget L 3)), (5, (tget L 5)), (9, (tget L 9)), (10, (tget L 10)), (11, a6), (13, (tget L 13)), (14, (tget L 14)), (50, (tget L 50)), (51, (tget L 51)), (52, (tget L 52))], a5.2⟩) :
    Tx Try.prog An F 16 (.reg false (some [3, 5, 9, 10, 11, 13, 14, 50, 51, 52]) c16r32) ⟨L, m⟩ Q := Tx_told (by kernel_rfl) h
theorem t16r33 {F : Oracle} {L : List (Nat × CV)} {m : Mem} {Q : CE → TS → Prop} (h :
    Obt (ld1 m (tget L 5)) fun a0 => 
    Obt (idxS 1 a0 (tget L 13)) fun a1 => 
    Obt (stX 1 m a1 (tget L 14)) fun a2 => Q .normal ⟨[(3, (tget L 3)), (5, (tget L 5)), (9, (tget L 9)), (10, (tget L 10)), (11, (tget L 11)), (50, (tget L 50)), (51, (tget L 51)), (52, (tget L 52))], a2⟩) :
    Tx Try.prog An F 16 (.reg false (some [3, 5, 9, 10, 11, 50, 51, 52]) c16r33) ⟨L, m⟩ Q := Tx_told (by kernel_rfl) h
theorem t16r34 {F : Oracle} {L : List (Nat × CV)} {m : Mem} {Q : CE → TS → Prop} (h :
    Obt (cbin Try.prog .add 3 (.tmp 52) (.const (.int .i64 1)) (tget L 52) (.int .i64 1)) fun a0 => Q .normal ⟨[(3, (tget L 3)), (5, (tget L 5)), (9, (tget L 9)), (10, (tget L 10)), (11, (tget L 11)), (50, (tget L 50)), (51, (tget L 51)), (52, a0)], m⟩) :
    Tx Try.prog An F 16 (.reg false (some [3, 5, 9, 10, 11, 50, 51, 52]) c16r34) ⟨L, m⟩ Q := Tx_told (by kernel_rfl) h
theorem t16r35 {F : Oracle} {L : List (Nat × CV)} {m : Mem} {Q : CE → TS → Prop} (h :
    Obt (ld1 m (tget L 5)) fun a0 => Q .normal ⟨[(2, a0)], m⟩) :
    Tx Try.prog An F 16 (.reg false (some [2]) c16r35) ⟨L, m⟩ Q := Tx_told (by kernel_rfl) h
-- clevis/dom.Dominates
def c11r0 : List SO :=
  [⟨(some 6), (.assign (.const (.bool false))), none⟩]
def c11r1 : List SO :=
  [⟨(some 8), (.move (.tmp 1)), none⟩,
   ⟨(some 9), (.binOp .lss 3 (.tmp 8) (.const (.int .i64 0)) 3), none⟩,
   ⟨(some 10), (.move (.tmp 9)), none⟩,
   ⟨(some 11), (.move (.tmp 1)), (some (10, false))⟩,
   ⟨(some 12), (.move (.tmp 0)), (some (10, false))⟩,
   ⟨(some 13), (.call ⟨(.builtin .len), #[(.tmp 12)], #[22]⟩), (some (10, false))⟩,
   ⟨(some 14), (.binOp .geq 3 (.tmp 11) (.tmp 13) 3), (some (10, false))⟩,
   ⟨(some 15), (.pick (.tmp 10) (.const (.bool true)) (.tmp 14)), none⟩,
   ⟨(some 16), (.move (.tmp 15)), none⟩,
   ⟨(some 17), (.move (.tmp 2)), (some (16, false))⟩,
   ⟨(some 18), (.binOp .lss 3 (.tmp 17) (.const (.int .i64 0)) 3), (some (16, false))⟩,
   ⟨(some 19), (.pick (.tmp 16) (.const (.bool true)) (.tmp 18)), none⟩,
   ⟨(some 20), (.move (.tmp 19)), none⟩,
   ⟨(some 21), (.move (.tmp 2)), (some (20, false))⟩,
   ⟨(some 22), (.move (.tmp 0)), (some (20, false))⟩,
   ⟨(some 23), (.call ⟨(.builtin .len), #[(.tmp 22)], #[22]⟩), (some (20, false))⟩,
   ⟨(some 24), (.binOp .geq 3 (.tmp 21) (.tmp 23) 3), (some (20, false))⟩,
   ⟨(some 25), (.pick (.tmp 20) (.const (.bool true)) (.tmp 24)), none⟩,
   ⟨(some 26), (.move (.tmp 25)), none⟩,
   ⟨(some 27), (.move (.tmp 0)), (some (26, false))⟩,
   ⟨(some 28), (.call ⟨(.value (.func 10)), #[(.tmp 27)], #[22]⟩), (some (26, false))⟩,
   ⟨(some 29), (.move (.tmp 2)), (some (26, false))⟩,
   ⟨(some 30), (.indexAddr 25 (.tmp 28) (.tmp 29)), (some (26, false))⟩,
   ⟨(some 31), (.load 4 (.tmp 30)), (some (26, false))⟩,
   ⟨(some 32), (.unOp .not 4 (.tmp 31)), (some (26, false))⟩,
   ⟨(some 33), (.pick (.tmp 26) (.const (.bool true)) (.tmp 32)), none⟩]
def c11r2 : List SO :=
  [⟨(some 6), (.assign (.const (.bool false))), none⟩]
def c11r3 : List SO :=
  [⟨(some 34), (.move (.tmp 0)), none⟩,
   ⟨(some 35), (.call ⟨(.value (.func 16)), #[(.tmp 34)], #[22]⟩), none⟩,
   ⟨(some 7), (.assign (.tmp 35)), none⟩]
def c11r4 : List SO :=
  [⟨(some 36), (.move (.tmp 2)), none⟩,
   ⟨(some 37), (.move (.tmp 1)), none⟩,
   ⟨(some 38), (.binOp .neq 3 (.tmp 36) (.tmp 37) 3), none⟩,
   ⟨(some 39), (.move (.tmp 38)), none⟩,
   ⟨(some 40), (.move (.tmp 2)), (some (39, true))⟩,
   ⟨(some 41), (.binOp .geq 3 (.tmp 40) (.const (.int .i64 0)) 3), (some (39, true))⟩,
   ⟨(some 42), (.pick (.tmp 39) (.tmp 41) (.const (.bool false))), none⟩]
def c11r5 : List SO :=
  [⟨(some 43), (.move (.tmp 7)), none⟩,
   ⟨(some 44), (.move (.tmp 2)), none⟩,
   ⟨(some 45), (.indexAddr 27 (.tmp 43) (.tmp 44)), none⟩,
   ⟨(some 46), (.load 3 (.tmp 45)), none⟩,
   ⟨(some 2), (.assign (.tmp 46)), none⟩]
def c11l0 : SC :=
  (.seq (.seq (.reg false (some [1, 2, 7, 42]) c11r4) (.cond (.tmp 42) .nop (.exit 0))) (.block 1 (.reg false (some [1, 2, 7]) c11r5)))
def c11r6 : List SO :=
  [⟨(some 47), (.move (.tmp 2)), none⟩,
   ⟨(some 48), (.move (.tmp 1)), none⟩,
   ⟨(some 49), (.binOp .eql 3 (.tmp 47) (.tmp 48) 3), none⟩,
   ⟨(some 6), (.assign (.tmp 49)), none⟩]
def c11 : SC :=
  (.seq (.reg false (some [0, 1, 2]) c11r0) (.seq (.seq (.reg false (some [0, 1, 2, 33]) c11r1) (.cond (.tmp 33) (.seq (.reg false (some [6]) c11r2) .ret) .nop)) (.seq (.reg false (some [1, 2, 7]) c11r3) (.seq (.block 0 (.loop c11l0)) (.seq (.reg false (some [6]) c11r6) .ret)))))
theorem s11 : Try.f11.body.bind (strip Try.prog An 11 Try.f11.ntmps) = some c11 := by kernel_rfl
theorem g11 : An.glob 11 = [] := rfl
theorem r11 : Try.f11.results.toList = [(.tmp 6)] := by kernel_rfl
theorem t11r0 {F : Oracle} {L : List (Nat × CV)} {m : Mem} {Q : CE → TS → Prop} (h :
    Q .normal ⟨[(0, (tget L 0)), (1, (tget L 1)), (2, (tget L 2))], m⟩) :
    Tx Try.prog An F 11 (.reg false (some [0, 1, 2]) c11r0) ⟨L, m⟩ Q := Tx_told (by kernel_rfl) h
theorem t11r1 {F : Oracle} {L : List (Nat × CV)} {m : Mem} {Q : CE → TS → Prop} (h :
    Obt (cbin Try.prog .lss 3 (.tmp 8) (.const (.int .i64 0)) (tget L 1) (.int .i64 0)) fun a0 => 
    Obt (gdO a0 false (some ((tget L 1), m)) (.tuple [], m)) fun a1 => 
    Obt (gdO a0 false (some ((tget L 0), a1.2)) (.tuple [], a1.2)) fun a2 => 
    Obt (gdO a0 false ((lenS a2.1).map fun v => (v, a2.2)) (.tuple [], a2.2)) fun a3 => 
    Obt (gdO a0 false ((cbin Try.prog .geq 3 (.tmp 11) (.tmp 13) a1.1 a3.1).map fun v => (v, a3.2)) (.tuple [], a3.2)) fun a4 => 
    Obt (pickX a0 (.bool true) a4.1) fun a5 => 
    Obt (gdO a5 false (some ((tget L 2), a4.2)) (.tuple [], a4.2)) fun a6 => 
    Obt (gdO a5 false ((cbin Try.prog .lss 3 (.tmp 17) (.const (.int .i64 0)) a6.1 (.int .i64 0)).map fun v => (v, a6.2)) (.tuple [], a6.2)) fun a7 => 
    Obt (pickX a5 (.bool true) a7.1) fun a8 => 
    Obt (gdO a8 false (some ((tget L 2), a7.2)) (.tuple [], a7.2)) fun a9 => 
    Obt (gdO a8 false (some ((tget L 0), a9.2)) (.tuple [], a9.2)) fun a10 => 
    Obt (gdO a8 false ((lenS a10.1).map fun v => (v, a10.2)) (.tuple [], a10.2)) fun a11 => 
    Obt (gdO a8 false ((cbin Try.prog .geq 3 (.tmp 21) (.tmp 23) a9.1 a11.1).map fun v => (v, a11.2)) (.tuple [], a11.2)) fun a12 => 
    Obt (pickX a8 (.bool true) a12.1) fun a13 => 
    Obt (gdO a13 false (some ((tget L 0), a12.2)) (.tuple [], a12.2)) fun a14 => 
    Obt (gdO a13 false (callC An F 11 (some 28) 10 [a14.1] a14.2) (.tuple [], a14.2)) fun a15 => 
    Obt (gdO a13 false (some ((tget L 2), a15.2)) (.tuple [], a15.2)) fun a16 => 
    Obt (gdO a13 false ((idxS 1 a15.1 a16.1).map fun v => (v, a16.2)) (.tuple [], a16.2)) fun a17 => 
    Obt (gdO a13 false ((ld1 a17.2 a17.1).map fun v => (v, a17.2)) (.tuple [], a17.2)) fun a18 => 
    Obt (gdO a13 false ((cun .not a18.1).map fun v => (v, a18.2)) (.tuple [], a18.2)) fun a19 => 
    Obt (pickX a13 (.bool true) a19.1) fun a20 => Q .normal ⟨[(0, (tget L 0)), (1, (tget L 1)), (2, (tget L 2)), (33, a20)], a19.2⟩) :
    Tx Try.prog An F 11 (.reg false (some [0, 1, 2, 33]) c11r1) ⟨L, m⟩ Q := Tx_told (by kernel_rfl) h
theorem t11r2 {F : Oracle} {L : List (Nat × CV)} {m : Mem} {Q : CE → TS → Prop} (h :
    Q .normal ⟨[(6, (.bool false))], m⟩) :
    Tx Try.prog An F 11 (.reg false (some [6]) c11r2) ⟨L, m⟩ Q := Tx_told (by kernel_rfl) h
theorem t11r3 {F : Oracle} {L : List (Nat × CV)} {m : Mem} {Q : CE → TS → Prop} (h :
    Obt (callC An F 11 (some 35) 16 [(tget L 0)] m) fun a0 => Q .normal ⟨[(1, (tget L 1)), (2, (tget L 2)), (7, a0.1)], a0.2⟩) :
    Tx Try.prog An F 11 (.reg false (some [1, 2, 7]) c11r3) ⟨L, m⟩ Q := Tx_told (by kernel_rfl) h
theorem t11r4 {F : Oracle} {L : List (Nat × CV)} {m : Mem} {Q : CE → TS → Prop} (h :
    Obt (cbin Try.prog .neq 3 (.tmp 36) (.tmp 37) (tget L 2) (tget L 1)) fun a0 => 
    Obt (gdO a0 true (some ((tget L 2), m)) (.tuple [], m)) fun a1 => 
    Obt (gdO a0 true ((cbin Try.prog .geq 3 (.tmp 40) (.const (.int .i64 0)) a1.1 (.int .i64 0)).map fun v => (v, a1.2)) (.tuple [], a1.2)) fun a2 => 
    Obt (pickX a0 a2.1 (.bool false)) fun a3 => Q .normal ⟨[(1, (tget L 1)), (2, (tget L 2)), (7, (tget L 7)), (42, a3)], a2.2⟩) :
    Tx Try.prog An F 11 (.reg false (some [1, 2, 7, 42]) c11r4) ⟨L, m⟩ Q := Tx_told (by kernel_rfl) h
theorem t11r5 {F : Oracle} {L : List (Nat × CV)} {m : Mem} {Q : CE → TS → Prop} (h :
    Obt (idxS 1 (tget L 7) (tget L 2)) fun a0 => 
    Obt (ld1 m a0) fun a1 => Q .normal ⟨[(1, (tget L 1)), (2, a1), (7, (tget L 7))], m⟩) :
    Tx Try.prog An F 11 (.reg false (some [1, 2, 7]) c11r5) ⟨L, m⟩ Q := Tx_told (by kernel_rfl) h
theorem t11r6 {F : Oracle} {L : List (Nat × CV)} {m : Mem} {Q : CE → TS → Prop} (h :
    Obt (cbin Try.prog .eql 3 (.tmp 47) (.tmp 48) (tget L 2) (tget L 1)) fun a0 => Q .normal ⟨[(6, a0)], m⟩) :
    Tx Try.prog An F 11 (.reg false (some [6]) c11r6) ⟨L, m⟩ Q := Tx_told (by kernel_rfl) h
-- clevis/clevislaw15.small
def c8r0 : List SO :=
  [⟨(some 2), (.assign (.const (.bool false))), none⟩]
def c8r1 : List SO :=
  [⟨(some 3), (.move (.tmp 0)), none⟩,
   ⟨(some 4), (.call ⟨(.builtin .len), #[(.tmp 3)], #[22]⟩), none⟩,
   ⟨(some 5), (.binOp .leq 3 (.tmp 4) (.const (.int .i64 60)) 3), none⟩,
   ⟨(some 2), (.assign (.tmp 5)), none⟩]
def c8 : SC :=
  (.seq (.reg false (some [0]) c8r0) (.seq (.reg false (some [2]) c8r1) .ret))
theorem s8 : Try.f8.body.bind (strip Try.prog An 8 Try.f8.ntmps) = some c8 := by kernel_rfl
theorem g8 : An.glob 8 = [] := rfl
theorem r8 : Try.f8.results.toList = [(.tmp 2)] := by kernel_rfl
theorem t8r0 {F : Oracle} {L : List (Nat × CV)} {m : Mem} {Q : CE → TS → Prop} (h :
    Q .normal ⟨[(0, (tget L 0))], m⟩) :
    Tx Try.prog An F 8 (.reg false (some [0]) c8r0) ⟨L, m⟩ Q := Tx_told (by kernel_rfl) h
theorem t8r1 {F : Oracle} {L : List (Nat × CV)} {m : Mem} {Q : CE → TS → Prop} (h :
    Obt (lenS (tget L 0)) fun a0 => 
    Obt (cbin Try.prog .leq 3 (.tmp 4) (.const (.int .i64 60)) a0 (.int .i64 60)) fun a1 => Q .normal ⟨[(2, a1)], m⟩) :
    Tx Try.prog An F 8 (.reg false (some [2]) c8r1) ⟨L, m⟩ Q := Tx_told (by kernel_rfl) h
end Go.Cm
