import Derived.Test.YtijcpefcfcbcnaaIyA
set_option linter.unusedSimpArgs false
set_option linter.unusedVariables false
namespace Go.Cm
open Go.Proofs
variable {F : Oracle} {L : List (Nat × CV)} {m : Mem} {Q : CE → TS → Prop}
-- clevis/dom.inside
def c135r0 : List SO :=
  [⟨(some 4), (.assign (.const (.slice none 0 0))), none, []⟩]
def c135r1 : List SO :=
  [⟨(some 5), (.assign (.const (.slice none 0 0))), none, []⟩]
def c135r2 : List SO :=
  [⟨(some 8), (.move (.tmp 0)), none, []⟩,
   ⟨(some 9), (.move (.tmp 1)), none, []⟩,
   ⟨(some 10), (.indexAddr 94 (.tmp 8) (.tmp 9)), none, []⟩,
   ⟨(some 11), (.load 51 (.tmp 10)), none, []⟩,
   ⟨(some 12), (.call ⟨(.builtin .len), #[(.tmp 11)], #[51]⟩), none, []⟩,
   ⟨(some 13), (.move (.const (.int .i64 0))), none, []⟩]
def c135r3 : List SO :=
  [⟨(some 14), (.binOp .lss 3 (.tmp 13) (.tmp 12) 3), none, []⟩]
def c135r4 : List SO :=
  [⟨(some 15), (.indexAddr 51 (.tmp 11) (.tmp 13)), none, []⟩,
   ⟨(some 16), (.load 3 (.tmp 15)), none, []⟩,
   ⟨(some 7), (.assign (.tmp 16)), none, []⟩]
def c135r5 : List SO :=
  [⟨(some 17), (.move (.tmp 7)), none, []⟩,
   ⟨(some 18), (.binOp .geq 3 (.tmp 17) (.const (.int .i64 0)) 3), none, []⟩,
   ⟨(some 19), (.move (.tmp 18)), none, []⟩,
   ⟨(some 20), (.move (.tmp 7)), (some (19, true)), []⟩,
   ⟨(some 21), (.move (.tmp 0)), (some (19, true)), []⟩,
   ⟨(some 22), (.call ⟨(.builtin .len), #[(.tmp 21)], #[94]⟩), (some (19, true)), []⟩,
   ⟨(some 23), (.binOp .lss 3 (.tmp 20) (.tmp 22) 3), (some (19, true)), []⟩,
   ⟨(some 24), (.pick (.tmp 19) (.tmp 23) (.const (.bool false))), none, []⟩]
def c135r6 : List SO :=
  [⟨(some 25), (.move (.tmp 5)), none, []⟩,
   ⟨(some 26), (.move (.tmp 7)), none, []⟩,
   ⟨(some 27), (.buildSlice 51 1 #[(0, (.tmp 26))]), none, []⟩,
   ⟨(some 28), (.call ⟨(.builtin .append), #[(.tmp 25), (.tmp 27)], #[51, 51]⟩), none, []⟩,
   ⟨(some 5), (.assign (.tmp 28)), none, []⟩]
def c135r7 : List SO :=
  [⟨(some 29), (.binOp .add 3 (.tmp 13) (.const (.int .i64 1)) 3), none, []⟩,
   ⟨(some 13), (.move (.tmp 29)), none, []⟩]
def c135l0 : SC :=
  (.seq (.reg false (some [0, 5, 11, 12, 13, 14]) c135r3) (.seq (.cond (.tmp 14) .nop (.exit 0)) (.seq (.block 1 (.seq (.reg false (some [0, 5, 7, 11, 12, 13]) c135r4) (.seq (.reg false (some [0, 5, 7, 11, 12, 13, 24]) c135r5) (.cond (.tmp 24) (.reg false (some [0, 5, 11, 12, 13]) c135r6) .nop)))) (.reg false (some [0, 5, 11, 12, 13]) c135r7))))
def c135r8 : List SO :=
  [⟨(some 30), (.move (.tmp 5)), none, []⟩,
   ⟨(some 4), (.assign (.tmp 30)), none, []⟩]
def c135 : SC :=
  (.seq (.reg false (some [0, 1]) c135r0) (.seq (.reg false (some [0, 1, 5]) c135r1) (.seq (.seq (.reg false (some [0, 5, 11, 12, 13]) c135r2) (.block 0 (.loop c135l0))) (.seq (.reg false (some [4]) c135r8) .ret))))
theorem s135 : Try.f135.body.bind (strip Try.prog An 135 Try.f135.ntmps) = some c135 := by kernel_rfl
theorem r135 : Try.f135.results.toList = [(.tmp 4)] := by kernel_rfl
theorem t135r0 (h :
    Q .normal ⟨[(0, (tget L 0)), (1, (tget L 1))], m⟩) :
    Tx Try.prog An F 135 (.reg false (some [0, 1]) c135r0) ⟨L, m⟩ Q := Tx_told (by kernel_rfl) h
theorem t135r1 (h :
    Q .normal ⟨[(0, (tget L 0)), (1, (tget L 1)), (5, .nil)], m⟩) :
    Tx Try.prog An F 135 (.reg false (some [0, 1, 5]) c135r1) ⟨L, m⟩ Q := Tx_told (by kernel_rfl) h
theorem t135r2 (h :
    Obt (idxS 1 (tget L 0) (tget L 1)) fun a0 => 
    Obt (ld1 m a0) fun a1 => 
    Obt (lenS a1) fun a2 => Q .normal ⟨[(0, (tget L 0)), (5, (tget L 5)), (11, a1), (12, a2), (13, (.int .i64 0))], m⟩) :
    Tx Try.prog An F 135 (.reg false (some [0, 5, 11, 12, 13]) c135r2) ⟨L, m⟩ Q := Tx_told (by kernel_rfl) h
theorem t135r3 (h :
    Obt (cbin Try.prog .lss 3 (.tmp 13) (.tmp 12) (tget L 13) (tget L 12)) fun a0 => Q .normal ⟨[(0, (tget L 0)), (5, (tget L 5)), (11, (tget L 11)), (12, (tget L 12)), (13, (tget L 13)), (14, a0)], m⟩) :
    Tx Try.prog An F 135 (.reg false (some [0, 5, 11, 12, 13, 14]) c135r3) ⟨L, m⟩ Q := Tx_told (by kernel_rfl) h
theorem t135r4 (h :
    Obt (idxS 1 (tget L 11) (tget L 13)) fun a0 => 
    Obt (ld1 m a0) fun a1 => Q .normal ⟨[(0, (tget L 0)), (5, (tget L 5)), (7, a1), (11, (tget L 11)), (12, (tget L 12)), (13, (tget L 13))], m⟩) :
    Tx Try.prog An F 135 (.reg false (some [0, 5, 7, 11, 12, 13]) c135r4) ⟨L, m⟩ Q := Tx_told (by kernel_rfl) h
theorem t135r5 (h :
    Obt (cbin Try.prog .geq 3 (.tmp 17) (.const (.int .i64 0)) (tget L 7) (.int .i64 0)) fun a0 => 
    Obt (gdO a0 true (some ((tget L 7), m)) (.tuple [], m)) fun a1 => 
    Obt (gdO a0 true (some ((tget L 0), a1.2)) (.tuple [], a1.2)) fun a2 => 
    Obt (gdO a0 true ((lenS a2.1).map fun v => (v, a2.2)) (.tuple [], a2.2)) fun a3 => 
    Obt (gdO a0 true ((cbin Try.prog .lss 3 (.tmp 20) (.tmp 22) a1.1 a3.1).map fun v => (v, a3.2)) (.tuple [], a3.2)) fun a4 => 
    Obt (pickX a0 a4.1 (.bool false)) fun a5 => Q .normal ⟨[(0, (tget L 0)), (5, (tget L 5)), (7, (tget L 7)), (11, (tget L 11)), (12, (tget L 12)), (13, (tget L 13)), (24, a5)], a4.2⟩) :
    Tx Try.prog An F 135 (.reg false (some [0, 5, 7, 11, 12, 13, 24]) c135r5) ⟨L, m⟩ Q := Tx_told (by kernel_rfl) h
theorem t135r6 (h :
    Obt (bslX false 432 1 1 [.int .i64 0] [(0, 1, (tget L 7))] m) fun a0 => 
    Obt (appX false 448 1 8 (tget L 5) a0.1 a0.2) fun a1 => Q .normal ⟨[(0, (tget L 0)), (5, a1.1), (11, (tget L 11)), (12, (tget L 12)), (13, (tget L 13))], a1.2⟩) :
    Tx Try.prog An F 135 (.reg false (some [0, 5, 11, 12, 13]) c135r6) ⟨L, m⟩ Q := Tx_told (by kernel_rfl) h
theorem t135r7 (h :
    Obt (cbin Try.prog .add 3 (.tmp 13) (.const (.int .i64 1)) (tget L 13) (.int .i64 1)) fun a0 => Q .normal ⟨[(0, (tget L 0)), (5, (tget L 5)), (11, (tget L 11)), (12, (tget L 12)), (13, a0)], m⟩) :
    Tx Try.prog An F 135 (.reg false (some [0, 5, 11, 12, 13]) c135r7) ⟨L, m⟩ Q := Tx_told (by kernel_rfl) h
theorem t135r8 (h :
    Q .normal ⟨[(4, (tget L 5))], m⟩) :
    Tx Try.prog An F 135 (.reg false (some [4]) c135r8) ⟨L, m⟩ Q := Tx_told (by kernel_rfl) h
-- clevis/dom.Order$1
def c134r0 : List SO :=
  [⟨(some 8), (.load 216 (.tmp 1)), none, []⟩,
   ⟨(some 9), (.move (.tmp 0)), none, []⟩,
   ⟨(some 10), (.lookup 216 (.tmp 8) (.tmp 9) false), none, []⟩]
def c134r1 : List SO :=
  [⟨(some 11), (.load 216 (.tmp 1)), none, []⟩,
   ⟨(some 12), (.move (.tmp 0)), none, []⟩,
   ⟨none, (.mapUpdate 216 (.tmp 11) (.tmp 12) (.const (.bool true))), none, []⟩]
def c134r2 : List SO :=
  [⟨(some 13), (.load 94 (.tmp 2)), none, []⟩,
   ⟨(some 14), (.move (.tmp 0)), none, []⟩,
   ⟨(some 15), (.call ⟨(.value (.func 135)), #[(.tmp 13), (.tmp 14)], #[94, 3]⟩), none, []⟩,
   ⟨(some 16), (.call ⟨(.builtin .len), #[(.tmp 15)], #[51]⟩), none, []⟩,
   ⟨(some 17), (.move (.const (.int .i64 0))), none, []⟩]
def c134r3 : List SO :=
  [⟨(some 18), (.binOp .lss 3 (.tmp 17) (.tmp 16) 3), none, []⟩]
def c134r4 : List SO :=
  [⟨(some 19), (.indexAddr 51 (.tmp 15) (.tmp 17)), none, []⟩,
   ⟨(some 20), (.load 3 (.tmp 19)), none, []⟩,
   ⟨(some 7), (.assign (.tmp 20)), none, []⟩]
def c134r5 : List SO :=
  [⟨(some 21), (.load 217 (.tmp 3)), none, []⟩,
   ⟨(some 22), (.move (.tmp 7)), none, []⟩,
   ⟨(some 23), (.call ⟨(.value (.tmp 21)), #[(.tmp 22)], #[3]⟩), none, []⟩]
def c134r6 : List SO :=
  [⟨(some 24), (.binOp .add 3 (.tmp 17) (.const (.int .i64 1)) 3), none, []⟩,
   ⟨(some 17), (.move (.tmp 24)), none, []⟩]
def c134l0 : SC :=
  (.seq (.reg false (some [0, 3, 4, 15, 16, 17, 18]) c134r3) (.seq (.cond (.tmp 18) .nop (.exit 0)) (.seq (.block 1 (.seq (.reg false (some [0, 3, 4, 7, 15, 16, 17]) c134r4) (.reg false (some [0, 3, 4, 15, 16, 17]) c134r5))) (.reg false (some [0, 3, 4, 15, 16, 17]) c134r6))))
def c134r7 : List SO :=
  [⟨(some 25), (.load 51 (.tmp 4)), none, []⟩,
   ⟨(some 26), (.move (.tmp 0)), none, []⟩,
   ⟨(some 27), (.buildSlice 51 1 #[(0, (.tmp 26))]), none, []⟩,
   ⟨(some 28), (.call ⟨(.builtin .append), #[(.tmp 25), (.tmp 27)], #[51, 51]⟩), none, []⟩,
   ⟨none, (.store 51 (.tmp 4) (.tmp 28)), none, []⟩]
def c134 : SC :=
  (.seq (.seq (.reg false (some [0, 1, 2, 3, 4, 10]) c134r0) (.cond (.tmp 10) .ret .nop)) (.seq (.reg false (some [0, 2, 3, 4]) c134r1) (.seq (.seq (.reg false (some [0, 3, 4, 15, 16, 17]) c134r2) (.block 0 (.loop c134l0))) (.reg false (some []) c134r7))))
theorem s134 : Try.f134.body.bind (strip Try.prog An 134 Try.f134.ntmps) = some c134 := by kernel_rfl
theorem r134 : Try.f134.results.toList = [] := by kernel_rfl
theorem t134r0 (h :
    Obt (ld1 m (tget L 1)) fun a0 => 
    Obt (lookX Try.prog 3 (.bool false) a0 (tget L 0) false m) fun a1 => Q .normal ⟨[(0, (tget L 0)), (1, (tget L 1)), (2, (tget L 2)), (3, (tget L 3)), (4, (tget L 4)), (10, a1)], m⟩) :
    Tx Try.prog An F 134 (.reg false (some [0, 1, 2, 3, 4, 10]) c134r0) ⟨L, m⟩ Q := Tx_told (by kernel_rfl) h
theorem t134r1 (h :
    Obt (ld1 m (tget L 1)) fun a0 => 
    Obt (mupX Try.prog 3 a0 (tget L 0) (.bool true) m) fun a1 => Q .normal ⟨[(0, (tget L 0)), (2, (tget L 2)), (3, (tget L 3)), (4, (tget L 4))], a1⟩) :
    Tx Try.prog An F 134 (.reg false (some [0, 2, 3, 4]) c134r1) ⟨L, m⟩ Q := Tx_told (by kernel_rfl) h
theorem t134r2 (h :
    Obt (ld1 m (tget L 2)) fun a0 => 
    Obt (callC An F 134 (some 15) 135 [a0, (tget L 0)] m) fun a1 => 
    Obt (lenS a1.1) fun a2 => Q .normal ⟨[(0, (tget L 0)), (3, (tget L 3)), (4, (tget L 4)), (15, a1.1), (16, a2), (17, (.int .i64 0))], a1.2⟩) :
    Tx Try.prog An F 134 (.reg false (some [0, 3, 4, 15, 16, 17]) c134r2) ⟨L, m⟩ Q := Tx_told (by kernel_rfl) h
theorem t134r3 (h :
    Obt (cbin Try.prog .lss 3 (.tmp 17) (.tmp 16) (tget L 17) (tget L 16)) fun a0 => Q .normal ⟨[(0, (tget L 0)), (3, (tget L 3)), (4, (tget L 4)), (15, (tget L 15)), (16, (tget L 16)), (17, (tget L 17)), (18, a0)], m⟩) :
    Tx Try.prog An F 134 (.reg false (some [0, 3, 4, 15, 16, 17, 18]) c134r3) ⟨L, m⟩ Q := Tx_told (by kernel_rfl) h
theorem t134r4 (h :
    Obt (idxS 1 (tget L 15) (tget L 17)) fun a0 => 
    Obt (ld1 m a0) fun a1 => Q .normal ⟨[(0, (tget L 0)), (3, (tget L 3)), (4, (tget L 4)), (7, a1), (15, (tget L 15)), (16, (tget L 16)), (17, (tget L 17))], m⟩) :
    Tx Try.prog An F 134 (.reg false (some [0, 3, 4, 7, 15, 16, 17]) c134r4) ⟨L, m⟩ Q := Tx_told (by kernel_rfl) h
theorem t134r5 (h :
    Obt (ld1 m (tget L 3)) fun a0 => 
    Obt (invokeC An F 134 (some 23) a0 [(tget L 7)] m) fun a1 => Q .normal ⟨[(0, (tget L 0)), (3, (tget L 3)), (4, (tget L 4)), (15, (tget L 15)), (16, (tget L 16)), (17, (tget L 17))], a1.2⟩) :
    Tx Try.prog An F 134 (.reg false (some [0, 3, 4, 15, 16, 17]) c134r5) ⟨L, m⟩ Q := Tx_told (by kernel_rfl) h
theorem t134r6 (h :
    Obt (cbin Try.prog .add 3 (.tmp 17) (.const (.int .i64 1)) (tget L 17) (.int .i64 1)) fun a0 => Q .normal ⟨[(0, (tget L 0)), (3, (tget L 3)), (4, (tget L 4)), (15, (tget L 15)), (16, (tget L 16)), (17, a0)], m⟩) :
    Tx Try.prog An F 134 (.reg false (some [0, 3, 4, 15, 16, 17]) c134r6) ⟨L, m⟩ Q := Tx_told (by kernel_rfl) h
theorem t134r7 (h :
    Obt (ld1 m (tget L 4)) fun a0 => 
    Obt (bslX false 432 1 1 [.int .i64 0] [(0, 1, (tget L 0))] m) fun a1 => 
    Obt (appX true 448 1 8 a0 a1.1 a1.2) fun a2 => 
    Obt (stX 1 a2.2 (tget L 4) a2.1) fun a3 => Q .normal ⟨[], a3⟩) :
    Tx Try.prog An F 134 (.reg false (some []) c134r7) ⟨L, m⟩ Q := Tx_told (by kernel_rfl) h
-- slices.Reverse[[]int,int]
def c136r0 : List SO :=
  [⟨(some 4), (.move (.tmp 0)), none, []⟩,
   ⟨(some 5), (.call ⟨(.builtin .len), #[(.tmp 4)], #[51]⟩), none, []⟩,
   ⟨(some 6), (.binOp .sub 3 (.tmp 5) (.const (.int .i64 1)) 3), none, []⟩,
   ⟨(some 2), (.assign (.const (.int .i64 0))), none, []⟩,
   ⟨(some 3), (.assign (.tmp 6)), none, []⟩]
def c136r1 : List SO :=
  [⟨(some 7), (.move (.tmp 2)), none, []⟩,
   ⟨(some 8), (.move (.tmp 3)), none, []⟩,
   ⟨(some 9), (.binOp .lss 3 (.tmp 7) (.tmp 8) 3), none, []⟩]
def c136r3 : List SO :=
  [⟨(some 14), (.move (.tmp 0)), none, []⟩,
   ⟨(some 15), (.move (.tmp 2)), none, []⟩,
   ⟨(some 16), (.move (.tmp 0)), none, []⟩,
   ⟨(some 17), (.move (.tmp 3)), none, []⟩,
   ⟨(some 18), (.move (.tmp 0)), none, []⟩,
   ⟨(some 19), (.move (.tmp 3)), none, []⟩,
   ⟨(some 20), (.indexAddr 51 (.tmp 18) (.tmp 19)), none, []⟩,
   ⟨(some 21), (.load 3 (.tmp 20)), none, []⟩,
   ⟨(some 22), (.move (.tmp 0)), none, []⟩,
   ⟨(some 23), (.move (.tmp 2)), none, []⟩,
   ⟨(some 24), (.indexAddr 51 (.tmp 22) (.tmp 23)), none, []⟩,
   ⟨(some 25), (.load 3 (.tmp 24)), none, []⟩,
   ⟨(some 26), (.indexAddr 51 (.tmp 14) (.tmp 15)), none, []⟩,
   ⟨none, (.store 3 (.tmp 26) (.tmp 21)), none, []⟩,
   ⟨(some 27), (.indexAddr 51 (.tmp 16) (.tmp 17)), none, []⟩,
   ⟨none, (.store 3 (.tmp 27) (.tmp 25)), none, []⟩]
def c136r2 : List SO :=
  [⟨(some 10), (.move (.tmp 2)), none, []⟩,
   ⟨(some 11), (.binOp .add 3 (.tmp 10) (.const (.int .i64 1)) 3), none, []⟩,
   ⟨(some 12), (.move (.tmp 3)), none, []⟩,
   ⟨(some 13), (.binOp .sub 3 (.tmp 12) (.const (.int .i64 1)) 3), none, []⟩,
   ⟨(some 2), (.assign (.tmp 11)), none, []⟩,
   ⟨(some 3), (.assign (.tmp 13)), none, []⟩]
def c136l0 : SC :=
  (.seq (.seq (.reg false (some [0, 2, 3, 9]) c136r1) (.cond (.tmp 9) .nop (.exit 0))) (.seq (.block 1 (.reg true (some [0, 2, 3]) c136r3)) (.reg false (some [0, 2, 3]) c136r2)))
def c136 : SC :=
  (.seq (.reg false (some [0, 2, 3]) c136r0) (.block 0 (.loop c136l0)))
theorem s136 : Try.f136.body.bind (strip Try.prog An 136 Try.f136.ntmps) = some c136 := by kernel_rfl
theorem r136 : Try.f136.results.toList = [] := by kernel_rfl
theorem t136r0 (h :
    Obt (lenS (tget L 0)) fun a0 => 
    Obt (cbin Try.prog .sub 3 (.tmp 5) (.const (.int .i64 1)) a0 (.int .i64 1)) fun a1 => Q .normal ⟨[(0, (tget L 0)), (2, (.int .i64 0)), (3, a1)], m⟩) :
    Tx Try.prog An F 136 (.reg false (some [0, 2, 3]) c136r0) ⟨L, m⟩ Q := Tx_told (by kernel_rfl) h
theorem t136r1 (h :
    Obt (cbin Try.prog .lss 3 (.tmp 7) (.tmp 8) (tget L 2) (tget L 3)) fun a0 => Q .normal ⟨[(0, (tget L 0)), (2, (tget L 2)), (3, (tget L 3)), (9, a0)], m⟩) :
    Tx Try.prog An F 136 (.reg false (some [0, 2, 3, 9]) c136r1) ⟨L, m⟩ Q := Tx_told (by kernel_rfl) h
theorem t136r3 (h :
    Obt (idxS 1 (tget L 0) (tget L 3)) fun a0 => 
    Obt (ld1 m a0) fun a1 => 
    Obt (idxS 1 (tget L 0) (tget L 2)) fun a2 => 
    Obt (ld1 m a2) fun a3 => 
    Obt (idxS 1 (tget L 0) (tget L 2)) fun a4 => 
    Obt (stX 1 m a4 a1) fun a5 => 
    Obt (idxS 1 (tget L 0) (tget L 3)) fun a6 => 
    Obt (stX 1 a5 a6 a3) fun a7 => Q .normal ⟨[(0, (tget L 0)), (2, (tget L 2)), (3, (tget L 3))], a7⟩) :
    Tx Try.prog An F 136 (.reg true (some [0, 2, 3]) c136r3) ⟨L, m⟩ Q := Tx_told (by kernel_rfl) h
theorem t136r2 (h :
    Obt (cbin Try.prog .add 3 (.tmp 10) (.const (.int .i64 1)) (tget L 2) (.int .i64 1)) fun a0 => 
    Obt (cbin Try.prog .sub 3 (.tmp 12) (.const (.int .i64 1)) (tget L 3) (.int .i64 1)) fun a1 => Q .normal ⟨[(0, (tget L 0)), (2, a0), (3, a1)], m⟩) :
    Tx Try.prog An F 136 (.reg false (some [0, 2, 3]) c136r2) ⟨L, m⟩ Q := Tx_told (by kernel_rfl) h
-- clevis/dom.Order
def c112r0 : List SO :=
  [⟨(some 1), (.box 94 (.tmp 0)), none, []⟩,
   ⟨(some 2), (.assign (.const (.slice none 0 0))), none, []⟩]
def c112r1 : List SO :=
  [⟨(some 6), (.load 94 (.tmp 1)), none, []⟩,
   ⟨(some 7), (.call ⟨(.builtin .len), #[(.tmp 6)], #[94]⟩), none, []⟩,
   ⟨(some 8), (.binOp .eql 3 (.tmp 7) (.const (.int .i64 0)) 3), none, []⟩]
def c112r2 : List SO :=
  [⟨(some 2), (.assign (.const (.slice none 0 0))), none, []⟩]
def c112r3 : List SO :=
  [⟨(some 9), (.makeMap 216 none), none, []⟩,
   ⟨(some 3), (.alloc 216), none, []⟩,
   ⟨none, (.store 216 (.tmp 3) (.tmp 9)), none, []⟩]
def c112r4 : List SO :=
  [⟨(some 4), (.alloc 51), none, []⟩]
def c112r5 : List SO :=
  [⟨(some 5), (.alloc 217), none, []⟩]
def c112r6 : List SO :=
  [⟨(some 10), (.makeFunc (.func 134) #[] #[(.tmp 3), (.tmp 1), (.tmp 5), (.tmp 4)]), none, []⟩,
   ⟨none, (.store 217 (.tmp 5) (.tmp 10)), none, []⟩]
def c112r7 : List SO :=
  [⟨(some 11), (.load 217 (.tmp 5)), none, []⟩,
   ⟨(some 12), (.call ⟨(.value (.tmp 11)), #[(.const (.int .i64 0))], #[3]⟩), none, []⟩]
def c112r8 : List SO :=
  [⟨(some 13), (.load 51 (.tmp 4)), none, []⟩,
   ⟨(some 14), (.call ⟨(.value (.func 136)), #[(.tmp 13)], #[51]⟩), none, []⟩]
def c112r9 : List SO :=
  [⟨(some 15), (.load 51 (.tmp 4)), none, []⟩,
   ⟨(some 2), (.assign (.tmp 15)), none, []⟩]
def c112 : SC :=
  (.seq (.reg false (some [1]) c112r0) (.seq (.seq (.reg false (some [1, 8]) c112r1) (.cond (.tmp 8) (.seq (.reg false (some [2]) c112r2) .ret) .nop)) (.seq (.reg false (some [1, 3]) c112r3) (.seq (.reg false (some [1, 3, 4]) c112r4) (.seq (.reg false (some [1, 3, 4, 5]) c112r5) (.seq (.reg false (some [4, 5]) c112r6) (.seq (.reg false (some [4]) c112r7) (.seq (.reg false (some [4]) c112r8) (.seq (.reg false (some [2]) c112r9) .ret)))))))))
theorem s112 : Try.f112.body.bind (strip Try.prog An 112 Try.f112.ntmps) = some c112 := by kernel_rfl
theorem r112 : Try.f112.results.toList = [(.tmp 2)] := by kernel_rfl
theorem t112r0 (h :
    Obt (boxG (tget L 0) m) fun a0 => Q .normal ⟨[(1, a0.1)], a0.2⟩) :
    Tx Try.prog An F 112 (.reg false (some [1]) c112r0) ⟨L, m⟩ Q := Tx_told (by kernel_rfl) h
theorem t112r1 (h :
    Obt (ld1 m (tget L 1)) fun a0 => 
    Obt (lenS a0) fun a1 => 
    Obt (cbin Try.prog .eql 3 (.tmp 7) (.const (.int .i64 0)) a1 (.int .i64 0)) fun a2 => Q .normal ⟨[(1, (tget L 1)), (8, a2)], m⟩) :
    Tx Try.prog An F 112 (.reg false (some [1, 8]) c112r1) ⟨L, m⟩ Q := Tx_told (by kernel_rfl) h
theorem t112r2 (h :
    Q .normal ⟨[(2, .nil)], m⟩) :
    Tx Try.prog An F 112 (.reg false (some [2]) c112r2) ⟨L, m⟩ Q := Tx_told (by kernel_rfl) h
theorem t112r3 (h :
    Obt (stX 1 (gnewL (gnewM m) [.mnil]) (gnewP (gnewM m)) (gnewK m)) fun a0 => Q .normal ⟨[(1, (tget L 1)), (3, (gnewP (gnewM m)))], a0⟩) :
    Tx Try.prog An F 112 (.reg false (some [1, 3]) c112r3) ⟨L, m⟩ Q := Tx_told (by kernel_rfl) h
theorem t112r4 (h :
    Q .normal ⟨[(1, (tget L 1)), (3, (tget L 3)), (4, (gnewP m))], (gnewL m [.nil])⟩) :
    Tx Try.prog An F 112 (.reg false (some [1, 3, 4]) c112r4) ⟨L, m⟩ Q := Tx_told (by kernel_rfl) h
theorem t112r5 (h :
    Q .normal ⟨[(1, (tget L 1)), (3, (tget L 3)), (4, (tget L 4)), (5, (gnewP m))], (gnewL m [.nilf])⟩) :
    Tx Try.prog An F 112 (.reg false (some [1, 3, 4, 5]) c112r5) ⟨L, m⟩ Q := Tx_told (by kernel_rfl) h
theorem t112r6 (h :
    Obt (stX 1 m (tget L 5) (.func (.func 134) [] [(tget L 3), (tget L 1), (tget L 5), (tget L 4)])) fun a0 => Q .normal ⟨[(4, (tget L 4)), (5, (tget L 5))], a0⟩) :
    Tx Try.prog An F 112 (.reg false (some [4, 5]) c112r6) ⟨L, m⟩ Q := Tx_told (by kernel_rfl) h
theorem t112r7 (h :
    Obt (ld1 m (tget L 5)) fun a0 => 
    Obt (invokeC An F 112 (some 12) a0 [(.int .i64 0)] m) fun a1 => Q .normal ⟨[(4, (tget L 4))], a1.2⟩) :
    Tx Try.prog An F 112 (.reg false (some [4]) c112r7) ⟨L, m⟩ Q := Tx_told (by kernel_rfl) h
theorem t112r8 (h :
    Obt (ld1 m (tget L 4)) fun a0 => 
    Obt (callC An F 112 (some 14) 136 [a0] m) fun a1 => Q .normal ⟨[(4, (tget L 4))], a1.2⟩) :
    Tx Try.prog An F 112 (.reg false (some [4]) c112r8) ⟨L, m⟩ Q := Tx_told (by kernel_rfl) h
theorem t112r9 (h :
    Obt (ld1 m (tget L 4)) fun a0 => Q .normal ⟨[(2, a0)], m⟩) :
    Tx Try.prog An F 112 (.reg false (some [2]) c112r9) ⟨L, m⟩ Q := Tx_told (by kernel_rfl) h
-- clevis/dom.Reach
def c84r0 : List SO :=
  [⟨(some 2), (.assign (.const (.slice none 0 0))), none, []⟩]
def c84r1 : List SO :=
  [⟨(some 6), (.move (.tmp 0)), none, []⟩,
   ⟨(some 7), (.call ⟨(.builtin .len), #[(.tmp 6)], #[94]⟩), none, []⟩,
   ⟨(some 8), (.makeSlice 49 (.tmp 7) (.tmp 7)), none, []⟩,
   ⟨(some 3), (.assign (.tmp 8)), none, []⟩]
def c84r2 : List SO :=
  [⟨(some 9), (.move (.tmp 0)), none, []⟩,
   ⟨(some 10), (.call ⟨(.value (.func 112)), #[(.tmp 9)], #[94]⟩), none, []⟩,
   ⟨(some 11), (.call ⟨(.builtin .len), #[(.tmp 10)], #[51]⟩), none, []⟩,
   ⟨(some 12), (.move (.const (.int .i64 0))), none, []⟩]
def c84r3 : List SO :=
  [⟨(some 13), (.binOp .lss 3 (.tmp 12) (.tmp 11) 3), none, []⟩]
def c84r4 : List SO :=
  [⟨(some 14), (.indexAddr 51 (.tmp 10) (.tmp 12)), none, []⟩,
   ⟨(some 15), (.load 3 (.tmp 14)), none, []⟩,
   ⟨(some 5), (.assign (.tmp 15)), none, []⟩]
def c84r5 : List SO :=
  [⟨(some 16), (.move (.tmp 3)), none, []⟩,
   ⟨(some 17), (.move (.tmp 5)), none, []⟩,
   ⟨(some 18), (.indexAddr 49 (.tmp 16) (.tmp 17)), none, []⟩,
   ⟨none, (.store 4 (.tmp 18) (.const (.bool true))), none, []⟩]
def c84r6 : List SO :=
  [⟨(some 19), (.binOp .add 3 (.tmp 12) (.const (.int .i64 1)) 3), none, []⟩,
   ⟨(some 12), (.move (.tmp 19)), none, []⟩]
def c84l0 : SC :=
  (.seq (.reg false (some [3, 10, 11, 12, 13]) c84r3) (.seq (.cond (.tmp 13) .nop (.exit 0)) (.seq (.block 1 (.seq (.reg false (some [3, 5, 10, 11, 12]) c84r4) (.reg false (some [3, 10, 11, 12]) c84r5))) (.reg false (some [3, 10, 11, 12]) c84r6))))
def c84r7 : List SO :=
  [⟨(some 20), (.move (.tmp 3)), none, []⟩,
   ⟨(some 2), (.assign (.tmp 20)), none, []⟩]
def c84 : SC :=
  (.seq (.reg false (some [0]) c84r0) (.seq (.reg false (some [0, 3]) c84r1) (.seq (.seq (.reg false (some [3, 10, 11, 12]) c84r2) (.block 0 (.loop c84l0))) (.seq (.reg false (some [2]) c84r7) .ret))))
theorem s84 : Try.f84.body.bind (strip Try.prog An 84 Try.f84.ntmps) = some c84 := by kernel_rfl
theorem r84 : Try.f84.results.toList = [(.tmp 2)] := by kernel_rfl
theorem t84r0 (h :
    Q .normal ⟨[(0, (tget L 0))], m⟩) :
    Tx Try.prog An F 84 (.reg false (some [0]) c84r0) ⟨L, m⟩ Q := Tx_told (by kernel_rfl) h
theorem t84r1 (h :
    Obt (lenS (tget L 0)) fun a0 => 
    Obt (mkX false 128 1 1 [.bool false] a0 a0 m) fun a1 => Q .normal ⟨[(0, (tget L 0)), (3, a1.1)], a1.2⟩) :
    Tx Try.prog An F 84 (.reg false (some [0, 3]) c84r1) ⟨L, m⟩ Q := Tx_told (by kernel_rfl) h
theorem t84r2 (h :
    Obt (callC An F 84 (some 10) 112 [(tget L 0)] m) fun a0 => 
    Obt (lenS a0.1) fun a1 => Q .normal ⟨[(3, (tget L 3)), (10, a0.1), (11, a1), (12, (.int .i64 0))], a0.2⟩) :
    Tx Try.prog An F 84 (.reg false (some [3, 10, 11, 12]) c84r2) ⟨L, m⟩ Q := Tx_told (by kernel_rfl) h
theorem t84r3 (h :
    Obt (cbin Try.prog .lss 3 (.tmp 12) (.tmp 11) (tget L 12) (tget L 11)) fun a0 => Q .normal ⟨[(3, (tget L 3)), (10, (tget L 10)), (11, (tget L 11)), (12, (tget L 12)), (13, a0)], m⟩) :
    Tx Try.prog An F 84 (.reg false (some [3, 10, 11, 12, 13]) c84r3) ⟨L, m⟩ Q := Tx_told (by kernel_rfl) h
theorem t84r4 (h :
    Obt (idxS 1 (tget L 10) (tget L 12)) fun a0 => 
    Obt (ld1 m a0) fun a1 => Q .normal ⟨[(3, (tget L 3)), (5, a1), (10, (tget L 10)), (11, (tget L 11)), (12, (tget L 12))], m⟩) :
    Tx Try.prog An F 84 (.reg false (some [3, 5, 10, 11, 12]) c84r4) ⟨L, m⟩ Q := Tx_told (by kernel_rfl) h
theorem t84r5 (h :
    Obt (idxS 1 (tget L 3) (tget L 5)) fun a0 => 
    Obt (stX 1 m a0 (.bool true)) fun a1 => Q .normal ⟨[(3, (tget L 3)), (10, (tget L 10)), (11, (tget L 11)), (12, (tget L 12))], a1⟩) :
    Tx Try.prog An F 84 (.reg false (some [3, 10, 11, 12]) c84r5) ⟨L, m⟩ Q := Tx_told (by kernel_rfl) h
theorem t84r6 (h :
    Obt (cbin Try.prog .add 3 (.tmp 12) (.const (.int .i64 1)) (tget L 12) (.int .i64 1)) fun a0 => Q .normal ⟨[(3, (tget L 3)), (10, (tget L 10)), (11, (tget L 11)), (12, a0)], m⟩) :
    Tx Try.prog An F 84 (.reg false (some [3, 10, 11, 12]) c84r6) ⟨L, m⟩ Q := Tx_told (by kernel_rfl) h
theorem t84r7 (h :
    Q .normal ⟨[(2, (tget L 3))], m⟩) :
    Tx Try.prog An F 84 (.reg false (some [2]) c84r7) ⟨L, m⟩ Q := Tx_told (by kernel_rfl) h
-- slices.Index[[]int,int]
def c113r0 : List SO :=
  [⟨(some 4), (.assign (.const (.int .i64 0))), none, []⟩]
def c113r1 : List SO :=
  [⟨(some 6), (.move (.tmp 0)), none, []⟩,
   ⟨(some 7), (.call ⟨(.builtin .len), #[(.tmp 6)], #[51]⟩), none, []⟩,
   ⟨(some 8), (.move (.const (.int .i64 0))), none, []⟩]
def c113r2 : List SO :=
  [⟨(some 9), (.binOp .lss 3 (.tmp 8) (.tmp 7) 3), none, []⟩]
def c113r3 : List SO :=
  [⟨(some 10), (.move (.tmp 8)), none, []⟩,
   ⟨(some 5), (.assign (.tmp 10)), none, []⟩]
def c113r4 : List SO :=
  [⟨(some 11), (.move (.tmp 1)), none, []⟩,
   ⟨(some 12), (.move (.tmp 0)), none, []⟩,
   ⟨(some 13), (.move (.tmp 5)), none, []⟩,
   ⟨(some 14), (.indexAddr 51 (.tmp 12) (.tmp 13)), none, []⟩,
   ⟨(some 15), (.load 3 (.tmp 14)), none, []⟩,
   ⟨(some 16), (.binOp .eql 3 (.tmp 11) (.tmp 15) 3), none, []⟩]
def c113r5 : List SO :=
  [⟨(some 17), (.move (.tmp 5)), none, []⟩,
   ⟨(some 4), (.assign (.tmp 17)), none, []⟩]
def c113r6 : List SO :=
  [⟨(some 18), (.binOp .add 3 (.tmp 8) (.const (.int .i64 1)) 3), none, []⟩,
   ⟨(some 8), (.move (.tmp 18)), none, []⟩]
def c113l0 : SC :=
  (.seq (.reg false (some [0, 1, 7, 8, 9]) c113r2) (.seq (.cond (.tmp 9) .nop (.exit 0)) (.seq (.block 1 (.seq (.reg false (some [0, 1, 5, 7, 8]) c113r3) (.seq (.reg false (some [0, 1, 5, 7, 8, 16]) c113r4) (.cond (.tmp 16) (.seq (.reg false (some [4]) c113r5) .ret) .nop)))) (.reg false (some [0, 1, 7, 8]) c113r6))))
def c113r7 : List SO :=
  [⟨(some 4), (.assign (.const (.int .i64 (-1)))), none, []⟩]
def c113 : SC :=
  (.seq (.reg false (some [0, 1]) c113r0) (.seq (.seq (.reg false (some [0, 1, 7, 8]) c113r1) (.block 0 (.loop c113l0))) (.seq (.reg false (some [4]) c113r7) .ret)))
theorem s113 : Try.f113.body.bind (strip Try.prog An 113 Try.f113.ntmps) = some c113 := by kernel_rfl
theorem r113 : Try.f113.results.toList = [(.tmp 4)] := by kernel_rfl
theorem t113r0 (h :
    Q .normal ⟨[(0, (tget L 0)), (1, (tget L 1))], m⟩) :
    Tx Try.prog An F 113 (.reg false (some [0, 1]) c113r0) ⟨L, m⟩ Q := Tx_told (by kernel_rfl) h
theorem t113r1 (h :
    Obt (lenS (tget L 0)) fun a0 => Q .normal ⟨[(0, (tget L 0)), (1, (tget L 1)), (7, a0), (8, (.int .i64 0))], m⟩) :
    Tx Try.prog An F 113 (.reg false (some [0, 1, 7, 8]) c113r1) ⟨L, m⟩ Q := Tx_told (by kernel_rfl) h
theorem t113r2 (h :
    Obt (cbin Try.prog .lss 3 (.tmp 8) (.tmp 7) (tget L 8) (tget L 7)) fun a0 => Q .normal ⟨[(0, (tget L 0)), (1, (tget L 1)), (7, (tget L 7)), (8, (tget L 8)), (9, a0)], m⟩) :
    Tx Try.prog An F 113 (.reg false (some [0, 1, 7, 8, 9]) c113r2) ⟨L, m⟩ Q := Tx_told (by kernel_rfl) h
theorem t113r3 (h :
    Q .normal ⟨[(0, (tget L 0)), (1, (tget L 1)), (5, (tget L 8)), (7, (tget L 7)), (8, (tget L 8))], m⟩) :
    Tx Try.prog An F 113 (.reg false (some [0, 1, 5, 7, 8]) c113r3) ⟨L, m⟩ Q := Tx_told (by kernel_rfl) h
theorem t113r4 (h :
    Obt (idxS 1 (tget L 0) (tget L 5)) fun a0 => 
    Obt (ld1 m a0) fun a1 => 
    Obt (cbin Try.prog .eql 3 (.tmp 11) (.tmp 15) (tget L 1) a1) fun a2 => Q .normal ⟨[(0, (tget L 0)), (1, (tget L 1)), (5, (tget L 5)), (7, (tget L 7)), (8, (tget L 8)), (16, a2)], m⟩) :
    Tx Try.prog An F 113 (.reg false (some [0, 1, 5, 7, 8, 16]) c113r4) ⟨L, m⟩ Q := Tx_told (by kernel_rfl) h
theorem t113r5 (h :
    Q .normal ⟨[(4, (tget L 5))], m⟩) :
    Tx Try.prog An F 113 (.reg false (some [4]) c113r5) ⟨L, m⟩ Q := Tx_told (by kernel_rfl) h
theorem t113r6 (h :
    Obt (cbin Try.prog .add 3 (.tmp 8) (.const (.int .i64 1)) (tget L 8) (.int .i64 1)) fun a0 => Q .normal ⟨[(0, (tget L 0)), (1, (tget L 1)), (7, (tget L 7)), (8, a0)], m⟩) :
    Tx Try.prog An F 113 (.reg false (some [0, 1, 7, 8]) c113r6) ⟨L, m⟩ Q := Tx_told (by kernel_rfl) h
theorem t113r7 (h :
    Q .normal ⟨[(4, (.int .i64 (-1)))], m⟩) :
    Tx Try.prog An F 113 (.reg false (some [4]) c113r7) ⟨L, m⟩ Q := Tx_told (by kernel_rfl) h
-- slices.Contains[[]int,int]
def c85r0 : List SO :=
  [⟨(some 4), (.assign (.const (.bool false))), none, []⟩]
def c85r1 : List SO :=
  [⟨(some 5), (.move (.tmp 0)), none, []⟩,
   ⟨(some 6), (.move (.tmp 1)), none, []⟩,
   ⟨(some 7), (.call ⟨(.value (.func 113)), #[(.tmp 5), (.tmp 6)], #[51, 3]⟩), none, []⟩,
   ⟨(some 8), (.binOp .geq 3 (.tmp 7) (.const (.int .i64 0)) 3), none, []⟩,
   ⟨(some 4), (.assign (.tmp 8)), none, []⟩]
def c85 : SC :=
  (.seq (.reg false (some [0, 1]) c85r0) (.seq (.reg false (some [4]) c85r1) .ret))
theorem s85 : Try.f85.body.bind (strip Try.prog An 85 Try.f85.ntmps) = some c85 := by kernel_rfl
theorem r85 : Try.f85.results.toList = [(.tmp 4)] := by kernel_rfl
theorem t85r0 (h :
    Q .normal ⟨[(0, (tget L 0)), (1, (tget L 1))], m⟩) :
    Tx Try.prog An F 85 (.reg false (some [0, 1]) c85r0) ⟨L, m⟩ Q := Tx_told (by kernel_rfl) h
theorem t85r1 (h :
    Obt (callC An F 85 (some 7) 113 [(tget L 0), (tget L 1)] m) fun a0 => 
    Obt (cbin Try.prog .geq 3 (.tmp 7) (.const (.int .i64 0)) a0.1 (.int .i64 0)) fun a1 => Q .normal ⟨[(4, a1)], a0.2⟩) :
    Tx Try.prog An F 85 (.reg false (some [4]) c85r1) ⟨L, m⟩ Q := Tx_told (by kernel_rfl) h
-- clevis/dom.preds
def c119r0 : List SO :=
  [⟨(some 4), (.assign (.const (.map none))), none, []⟩]
def c119r1 : List SO :=
  [⟨(some 10), (.makeMap 109 none), none, []⟩,
   ⟨(some 5), (.assign (.tmp 10)), none, []⟩]
def c119r2 : List SO :=
  [⟨(some 11), (.move (.tmp 1)), none, []⟩,
   ⟨(some 12), (.call ⟨(.builtin .len), #[(.tmp 11)], #[51]⟩), none, []⟩,
   ⟨(some 13), (.move (.const (.int .i64 0))), none, []⟩]
def c119r3 : List SO :=
  [⟨(some 14), (.binOp .lss 3 (.tmp 13) (.tmp 12) 3), none, []⟩]
def c119r4 : List SO :=
  [⟨(some 15), (.indexAddr 51 (.tmp 11) (.tmp 13)), none, []⟩,
   ⟨(some 16), (.load 3 (.tmp 15)), none, []⟩,
   ⟨(some 7), (.assign (.tmp 16)), none, []⟩]
def c119r5 : List SO :=
  [⟨(some 17), (.move (.tmp 0)), none, []⟩,
   ⟨(some 18), (.move (.tmp 7)), none, []⟩,
   ⟨(some 19), (.call ⟨(.value (.func 135)), #[(.tmp 17), (.tmp 18)], #[94, 3]⟩), none, []⟩,
   ⟨(some 20), (.call ⟨(.builtin .len), #[(.tmp 19)], #[51]⟩), none, []⟩,
   ⟨(some 21), (.move (.const (.int .i64 0))), none, []⟩]
def c119r6 : List SO :=
  [⟨(some 22), (.binOp .lss 3 (.tmp 21) (.tmp 20) 3), none, []⟩]
def c119r7 : List SO :=
  [⟨(some 23), (.indexAddr 51 (.tmp 19) (.tmp 21)), none, []⟩,
   ⟨(some 24), (.load 3 (.tmp 23)), none, []⟩,
   ⟨(some 9), (.assign (.tmp 24)), none, []⟩]
def c119r8 : List SO :=
  [⟨(some 25), (.move (.tmp 5)), none, []⟩,
   ⟨(some 26), (.move (.tmp 9)), none, []⟩,
   ⟨(some 27), (.lookup 109 (.tmp 25) (.tmp 26) false), none, []⟩,
   ⟨(some 28), (.move (.tmp 7)), none, []⟩,
   ⟨(some 29), (.call ⟨(.value (.func 85)), #[(.tmp 27), (.tmp 28)], #[51, 3]⟩), none, []⟩,
   ⟨(some 30), (.unOp .not 4 (.tmp 29)), none, []⟩]
def c119r9 : List SO :=
  [⟨(some 31), (.move (.tmp 5)), none, []⟩,
   ⟨(some 32), (.move (.tmp 9)), none, []⟩,
   ⟨(some 33), (.move (.tmp 5)), none, []⟩,
   ⟨(some 34), (.move (.tmp 9)), none, []⟩,
   ⟨(some 35), (.lookup 109 (.tmp 33) (.tmp 34) false), none, []⟩,
   ⟨(some 36), (.move (.tmp 7)), none, []⟩,
   ⟨(some 37), (.buildSlice 51 1 #[(0, (.tmp 36))]), none, []⟩,
   ⟨(some 38), (.call ⟨(.builtin .append), #[(.tmp 35), (.tmp 37)], #[51, 51]⟩), none, []⟩,
   ⟨none, (.mapUpdate 109 (.tmp 31) (.tmp 32) (.tmp 38)), none, []⟩]
def c119r10 : List SO :=
  [⟨(some 39), (.binOp .add 3 (.tmp 21) (.const (.int .i64 1)) 3), none, []⟩,
   ⟨(some 21), (.move (.tmp 39)), none, []⟩]
def c119l0 : SC :=
  (.seq (.reg false (some [0, 5, 7, 11, 12, 13, 19, 20, 21, 22]) c119r6) (.seq (.cond (.tmp 22) .nop (.exit 2)) (.seq (.block 3 (.seq (.reg false (some [0, 5, 7, 9, 11, 12, 13, 19, 20, 21]) c119r7) (.seq (.reg false (some [0, 5, 7, 9, 11, 12, 13, 19, 20, 21, 30]) c119r8) (.cond (.tmp 30) (.reg false (some [0, 5, 7, 11, 12, 13, 19, 20, 21]) c119r9) .nop)))) (.reg false (some [0, 5, 7, 11, 12, 13, 19, 20, 21]) c119r10))))
def c119r11 : List SO :=
  [⟨(some 40), (.binOp .add 3 (.tmp 13) (.const (.int .i64 1)) 3), none, []⟩,
   ⟨(some 13), (.move (.tmp 40)), none, []⟩]
def c119l1 : SC :=
  (.seq (.reg false (some [0, 5, 11, 12, 13, 14]) c119r3) (.seq (.cond (.tmp 14) .nop (.exit 0)) (.seq (.block 1 (.seq (.reg false (some [0, 5, 7, 11, 12, 13]) c119r4) (.seq (.reg false (some [0, 5, 7, 11, 12, 13, 19, 20, 21]) c119r5) (.block 2 (.loop c119l0))))) (.reg false (some [0, 5, 11, 12, 13]) c119r11))))
def c119r12 : List SO :=
  [⟨(some 41), (.move (.tmp 5)), none, []⟩,
   ⟨(some 4), (.assign (.tmp 41)), none, []⟩]
def c119 : SC :=
  (.seq (.reg false (some [0, 1]) c119r0) (.seq (.reg false (some [0, 1, 5]) c119r1) (.seq (.seq (.reg false (some [0, 5, 11, 12, 13]) c119r2) (.block 0 (.loop c119l1))) (.seq (.reg false (some [4]) c119r12) .ret))))
theorem s119 : Try.f119.body.bind (strip Try.prog An 119 Try.f119.ntmps) = some c119 := by kernel_rfl
theorem r119 : Try.f119.results.toList = [(.tmp 4)] := by kernel_rfl
theorem t119r0 (h :
    Q .normal ⟨[(0, (tget L 0)), (1, (tget L 1))], m⟩) :
    Tx Try.prog An F 119 (.reg false (some [0, 1]) c119r0) ⟨L, m⟩ Q := Tx_told (by kernel_rfl) h
theorem t119r1 (h :
    Q .normal ⟨[(0, (tget L 0)), (1, (tget L 1)), (5, (gnewK m))], (gnewM m)⟩) :
    Tx Try.prog An F 119 (.reg false (some [0, 1, 5]) c119r1) ⟨L, m⟩ Q := Tx_told (by kernel_rfl) h
theorem t119r2 (h :
    Obt (lenS (tget L 1)) fun a0 => Q .normal ⟨[(0, (tget L 0)), (5, (tget L 5)), (11, (tget L 1)), (12, a0), (13, (.int .i64 0))], m⟩) :
    Tx Try.prog An F 119 (.reg false (some [0, 5, 11, 12, 13]) c119r2) ⟨L, m⟩ Q := Tx_told (by kernel_rfl) h
theorem t119r3 (h :
    Obt (cbin Try.prog .lss 3 (.tmp 13) (.tmp 12) (tget L 13) (tget L 12)) fun a0 => Q .normal ⟨[(0, (tget L 0)), (5, (tget L 5)), (11, (tget L 11)), (12, (tget L 12)), (13, (tget L 13)), (14, a0)], m⟩) :
    Tx Try.prog An F 119 (.reg false (some [0, 5, 11, 12, 13, 14]) c119r3) ⟨L, m⟩ Q := Tx_told (by kernel_rfl) h
theorem t119r4 (h :
    Obt (idxS 1 (tget L 11) (tget L 13)) fun a0 => 
    Obt (ld1 m a0) fun a1 => Q .normal ⟨[(0, (tget L 0)), (5, (tget L 5)), (7, a1), (11, (tget L 11)), (12, (tget L 12)), (13, (tget L 13))], m⟩) :
    Tx Try.prog An F 119 (.reg false (some [0, 5, 7, 11, 12, 13]) c119r4) ⟨L, m⟩ Q := Tx_told (by kernel_rfl) h
theorem t119r5 (h :
    Obt (callC An F 119 (some 19) 135 [(tget L 0), (tget L 7)] m) fun a0 => 
    Obt (lenS a0.1) fun a1 => Q .normal ⟨[(0, (tget L 0)), (5, (tget L 5)), (7, (tget L 7)), (11, (tget L 11)), (12, (tget L 12)), (13, (tget L 13)), (19, a0.1), (20, a1), (21, (.int .i64 0))], a0.2⟩) :
    Tx Try.prog An F 119 (.reg false (some [0, 5, 7, 11, 12, 13, 19, 20, 21]) c119r5) ⟨L, m⟩ Q := Tx_told (by kernel_rfl) h
theorem t119r6 (h :
    Obt (cbin Try.prog .lss 3 (.tmp 21) (.tmp 20) (tget L 21) (tget L 20)) fun a0 => Q .normal ⟨[(0, (tget L 0)), (5, (tget L 5)), (7, (tget L 7)), (11, (tget L 11)), (12, (tget L 12)), (13, (tget L 13)), (19, (tget L 19)), (20, (tget L 20)), (21, (tget L 21)), (22, a0)], m⟩) :
    Tx Try.prog An F 119 (.reg false (some [0, 5, 7, 11, 12, 13, 19, 20, 21, 22]) c119r6) ⟨L, m⟩ Q := Tx_told (by kernel_rfl) h
theorem t119r7 (h :
    Obt (idxS 1 (tget L 19) (tget L 21)) fun a0 => 
    Obt (ld1 m a0) fun a1 => Q .normal ⟨[(0, (tget L 0)), (5, (tget L 5)), (7, (tget L 7)), (9, a1), (11, (tget L 11)), (12, (tget L 12)), (13, (tget L 13)), (19, (tget L 19)), (20, (tget L 20)), (21, (tget L 21))], m⟩) :
    Tx Try.prog An F 119 (.reg false (some [0, 5, 7, 9, 11, 12, 13, 19, 20, 21]) c119r7) ⟨L, m⟩ Q := Tx_told (by kernel_rfl) h
theorem t119r8 (h :
    Obt (lookX Try.prog 3 (.nil) (tget L 5) (tget L 9) false m) fun a0 => 
    Obt (callC An F 119 (some 29) 85 [a0, (tget L 7)] m) fun a1 => 
    Obt (cun .not a1.1) fun a2 => Q .normal ⟨[(0, (tget L 0)), (5, (tget L 5)), (7, (tget L 7)), (9, (tget L 9)), (11, (tget L 11)), (12, (tget L 12)), (13, (tget L 13)), (19, (tget L 19)), (20, (tget L 20)), (21, (tget L 21)), (30, a2)], a1.2⟩) :
    Tx Try.prog An F 119 (.reg false (some [0, 5, 7, 9, 11, 12, 13, 19, 20, 21, 30]) c119r8) ⟨L, m⟩ Q := Tx_told (by kernel_rfl) h
theorem t119r9 (h :
    Obt (lookX Try.prog 3 (.nil) (tget L 5) (tget L 9) false m) fun a0 => 
    Obt (bslX false 592 1 1 [.int .i64 0] [(0, 1, (tget L 7))] m) fun a1 => 
    Obt (appX true 608 1 8 a0 a1.1 a1.2) fun a2 => 
    Obt (mupX Try.prog 3 (tget L 5) (tget L 9) a2.1 a2.2) fun a3 => Q .normal ⟨[(0, (tget L 0)), (5, (tget L 5)), (7, (tget L 7)), (11, (tget L 11)), (12, (tget L 12)), (13, (tget L 13)), (19, (tget L 19)), (20, (tget L 20)), (21, (tget L 21))], a3⟩) :
    Tx Try.prog An F 119 (.reg false (some [0, 5, 7, 11, 12, 13, 19, 20, 21]) c119r9) ⟨L, m⟩ Q := Tx_told (by kernel_rfl) h
theorem t119r10 (h :
    Obt (cbin Try.prog .add 3 (.tmp 21) (.const (.int .i64 1)) (tget L 21) (.int .i64 1)) fun a0 => Q .normal ⟨[(0, (tget L 0)), (5, (tget L 5)), (7, (tget L 7)), (11, (tget L 11)), (12, (tget L 12)), (13, (tget L 13)), (19, (tget L 19)), (20, (tget L 20)), (21, a0)], m⟩) :
    Tx Try.prog An F 119 (.reg false (some [0, 5, 7, 11, 12, 13, 19, 20, 21]) c119r10) ⟨L, m⟩ Q := Tx_told (by kernel_rfl) h
theorem t119r11 (h :
    Obt (cbin Try.prog .add 3 (.tmp 13) (.const (.int .i64 1)) (tget L 13) (.int .i64 1)) fun a0 => Q .normal ⟨[(0, (tget L 0)), (5, (tget L 5)), (11, (tget L 11)), (12, (tget L 12)), (13, a0)], m⟩) :
    Tx Try.prog An F 119 (.reg false (some [0, 5, 11, 12, 13]) c119r11) ⟨L, m⟩ Q := Tx_told (by kernel_rfl) h
theorem t119r12 (h :
    Q .normal ⟨[(4, (tget L 5))], m⟩) :
    Tx Try.prog An F 119 (.reg false (some [4]) c119r12) ⟨L, m⟩ Q := Tx_told (by kernel_rfl) h
-- clevis/dom.Idom$1
def c120r0 : List SO :=
  [⟨(some 6), (.assign (.const (.int .i64 0))), none, []⟩]
def c120r1 : List SO :=
  [⟨(some 7), (.move (.tmp 0)), none, []⟩,
   ⟨(some 8), (.move (.tmp 1)), none, []⟩,
   ⟨(some 9), (.binOp .neq 3 (.tmp 7) (.tmp 8) 3), none, []⟩]
def c120r2 : List SO :=
  [⟨(some 10), (.load 190 (.tmp 2)), none, []⟩,
   ⟨(some 11), (.move (.tmp 0)), none, []⟩,
   ⟨(some 12), (.lookup 190 (.tmp 10) (.tmp 11) false), none, []⟩,
   ⟨(some 13), (.load 190 (.tmp 2)), none, []⟩,
   ⟨(some 14), (.move (.tmp 1)), none, []⟩,
   ⟨(some 15), (.lookup 190 (.tmp 13) (.tmp 14) false), none, []⟩,
   ⟨(some 16), (.binOp .gtr 3 (.tmp 12) (.tmp 15) 3), none, []⟩]
def c120r3 : List SO :=
  [⟨(some 17), (.load 51 (.tmp 3)), none, []⟩,
   ⟨(some 18), (.move (.tmp 0)), none, []⟩,
   ⟨(some 19), (.indexAddr 51 (.tmp 17) (.tmp 18)), none, []⟩,
   ⟨(some 20), (.load 3 (.tmp 19)), none, []⟩,
   ⟨(some 0), (.assign (.tmp 20)), none, []⟩]
def c120l0 : SC :=
  (.seq (.seq (.reg false (some [0, 1, 2, 3, 16]) c120r2) (.cond (.tmp 16) .nop (.exit 2))) (.block 3 (.reg false (some [0, 1, 2, 3]) c120r3)))
def c120r4 : List SO :=
  [⟨(some 21), (.load 190 (.tmp 2)), none, []⟩,
   ⟨(some 22), (.move (.tmp 1)), none, []⟩,
   ⟨(some 23), (.lookup 190 (.tmp 21) (.tmp 22) false), none, []⟩,
   ⟨(some 24), (.load 190 (.tmp 2)), none, []⟩,
   ⟨(some 25), (.move (.tmp 0)), none, []⟩,
   ⟨(some 26), (.lookup 190 (.tmp 24) (.tmp 25) false), none, []⟩,
   ⟨(some 27), (.binOp .gtr 3 (.tmp 23) (.tmp 26) 3), none, []⟩]
def c120r5 : List SO :=
  [⟨(some 28), (.load 51 (.tmp 3)), none, []⟩,
   ⟨(some 29), (.move (.tmp 1)), none, []⟩,
   ⟨(some 30), (.indexAddr 51 (.tmp 28) (.tmp 29)), none, []⟩,
   ⟨(some 31), (.load 3 (.tmp 30)), none, []⟩,
   ⟨(some 1), (.assign (.tmp 31)), none, []⟩]
def c120l1 : SC :=
  (.seq (.seq (.reg false (some [0, 1, 2, 3, 27]) c120r4) (.cond (.tmp 27) .nop (.exit 4))) (.block 5 (.reg false (some [0, 1, 2, 3]) c120r5)))
def c120l2 : SC :=
  (.seq (.seq (.reg false (some [0, 1, 2, 3, 9]) c120r1) (.cond (.tmp 9) .nop (.exit 0))) (.block 1 (.seq (.block 2 (.loop c120l0)) (.block 4 (.loop c120l1)))))
def c120r6 : List SO :=
  [⟨(some 32), (.move (.tmp 0)), none, []⟩,
   ⟨(some 6), (.assign (.tmp 32)), none, []⟩]
def c120 : SC :=
  (.seq (.reg false (some [0, 1, 2, 3]) c120r0) (.seq (.block 0 (.loop c120l2)) (.seq (.reg false (some [6]) c120r6) .ret)))
theorem s120 : Try.f120.body.bind (strip Try.prog An 120 Try.f120.ntmps) = some c120 := by kernel_rfl
theorem r120 : Try.f120.results.toList = [(.tmp 6)] := by kernel_rfl
theorem t120r0 (h :
    Q .normal ⟨[(0, (tget L 0)), (1, (tget L 1)), (2, (tget L 2)), (3, (tget L 3))], m⟩) :
    Tx Try.prog An F 120 (.reg false (some [0, 1, 2, 3]) c120r0) ⟨L, m⟩ Q := Tx_told (by kernel_rfl) h
theorem t120r1 (h :
    Obt (cbin Try.prog .neq 3 (.tmp 7) (.tmp 8) (tget L 0) (tget L 1)) fun a0 => Q .normal ⟨[(0, (tget L 0)), (1, (tget L 1)), (2, (tget L 2)), (3, (tget L 3)), (9, a0)], m⟩) :
    Tx Try.prog An F 120 (.reg false (some [0, 1, 2, 3, 9]) c120r1) ⟨L, m⟩ Q := Tx_told (by kernel_rfl) h
theorem t120r2 (h :
    Obt (ld1 m (tget L 2)) fun a0 => 
    Obt (lookX Try.prog 3 (.int .i64 0) a0 (tget L 0) false m) fun a1 => 
    Obt (ld1 m (tget L 2)) fun a2 => 
    Obt (lookX Try.prog 3 (.int .i64 0) a2 (tget L 1) false m) fun a3 => 
    Obt (cbin Try.prog .gtr 3 (.tmp 12) (.tmp 15) a1 a3) fun a4 => Q .normal ⟨[(0, (tget L 0)), (1, (tget L 1)), (2, (tget L 2)), (3, (tget L 3)), (16, a4)], m⟩) :
    Tx Try.prog An F 120 (.reg false (some [0, 1, 2, 3, 16]) c120r2) ⟨L, m⟩ Q := Tx_told (by kernel_rfl) h
theorem t120r3 (h :
    Obt (ld1 m (tget L 3)) fun a0 => 
    Obt (idxS 1 a0 (tget L 0)) fun a1 => 
    Obt (ld1 m a1) fun a2 => Q .normal ⟨[(0, a2), (1, (tget L 1)), (2, (tget L 2)), (3, (tget L 3))], m⟩) :
    Tx Try.prog An F 120 (.reg false (some [0, 1, 2, 3]) c120r3) ⟨L, m⟩ Q := Tx_told (by kernel_rfl) h
theorem t120r4 (h :
    Obt (ld1 m (tget L 2)) fun a0 => 
    Obt (lookX Try.prog 3 (.int .i64 0) a0 (tget L 1) false m) fun a1 => 
    Obt (ld1 m (tget L 2)) fun a2 => 
    Obt (lookX Try.prog 3 (.int .i64 0) a2 (tget L 0) false m) fun a3 => 
    Obt (cbin Try.prog .gtr 3 (.tmp 23) (.tmp 26) a1 a3) fun a4 => Q .normal ⟨[(0, (tget L 0)), (1, (tget L 1)), (2, (tget L 2)), (3, (tget L 3)), (27, a4)], m⟩) :
    Tx Try.prog An F 120 (.reg false (some [0, 1, 2, 3, 27]) c120r4) ⟨L, m⟩ Q := Tx_told (by kernel_rfl) h
theorem t120r5 (h :
    Obt (ld1 m (tget L 3)) fun a0 => 
    Obt (idxS 1 a0 (tget L 1)) fun a1 => 
    Obt (ld1 m a1) fun a2 => Q .normal ⟨[(0, (tget L 0)), (1, a2), (2, (tget L 2)), (3, (tget L 3))], m⟩) :
    Tx Try.prog An F 120 (.reg false (some [0, 1, 2, 3]) c120r5) ⟨L, m⟩ Q := Tx_told (by kernel_rfl) h
theorem t120r6 (h :
    Q .normal ⟨[(6, (tget L 0))], m⟩) :
    Tx Try.prog An F 120 (.reg false (some [6]) c120r6) ⟨L, m⟩ Q := Tx_told (by kernel_rfl) h
-- clevis/dom.Idom
def c91r0 : List SO :=
  [⟨(some 2), (.assign (.const (.slice none 0 0))), none, []⟩]
def c91r1 : List SO :=
  [⟨(some 17), (.move (.tmp 0)), none, []⟩,
   ⟨(some 18), (.call ⟨(.value (.func 112)), #[(.tmp 17)], #[94]⟩), none, []⟩,
   ⟨(some 3), (.assign (.tmp 18)), none, []⟩]
def c91r2 : List SO :=
  [⟨(some 19), (.move (.tmp 3)), none, []⟩,
   ⟨(some 20), (.call ⟨(.builtin .len), #[(.tmp 19)], #[51]⟩), none, []⟩,
   ⟨(some 21), (.makeMap 190 (some (.tmp 20))), none, []⟩,
   ⟨(some 4), (.alloc 190), none, []⟩,
   ⟨none, (.store 190 (.tmp 4) (.tmp 21)), none, []⟩]
def c91r3 : List SO :=
  [⟨(some 22), (.move (.tmp 0)), none, []⟩,
   ⟨(some 23), (.call ⟨(.builtin .len), #[(.tmp 22)], #[94]⟩), none, []⟩,
   ⟨(some 24), (.makeSlice 51 (.tmp 23) (.tmp 23)), none, []⟩,
   ⟨(some 5), (.alloc 51), none, []⟩,
   ⟨none, (.store 51 (.tmp 5) (.tmp 24)), none, []⟩]
def c91r4 : List SO :=
  [⟨(some 25), (.load 51 (.tmp 5)), none, []⟩,
   ⟨(some 26), (.call ⟨(.builtin .len), #[(.tmp 25)], #[51]⟩), none, []⟩,
   ⟨(some 27), (.move (.const (.int .i64 0))), none, []⟩]
def c91r5 : List SO :=
  [⟨(some 28), (.binOp .lss 3 (.tmp 27) (.tmp 26) 3), none, []⟩]
def c91r6 : List SO :=
  [⟨(some 29), (.move (.tmp 27)), none, []⟩,
   ⟨(some 6), (.assign (.tmp 29)), none, []⟩]
def c91r7 : List SO :=
  [⟨(some 30), (.load 51 (.tmp 5)), none, []⟩,
   ⟨(some 31), (.move (.tmp 6)), none, []⟩,
   ⟨(some 32), (.indexAddr 51 (.tmp 30) (.tmp 31)), none, []⟩,
   ⟨none, (.store 3 (.tmp 32) (.const (.int .i64 (-1)))), none, []⟩]
def c91r8 : List SO :=
  [⟨(some 33), (.binOp .add 3 (.tmp 27) (.const (.int .i64 1)) 3), none, []⟩,
   ⟨(some 27), (.move (.tmp 33)), none, []⟩]
def c91l0 : SC :=
  (.seq (.reg false (some [0, 3, 4, 5, 26, 27, 28]) c91r5) (.seq (.cond (.tmp 28) .nop (.exit 0)) (.seq (.block 1 (.seq (.reg false (some [0, 3, 4, 5, 6, 26, 27]) c91r6) (.reg false (some [0, 3, 4, 5, 26, 27]) c91r7))) (.reg false (some [0, 3, 4, 5, 26, 27]) c91r8))))
def c91r9 : List SO :=
  [⟨(some 34), (.move (.tmp 3)), none, []⟩,
   ⟨(some 35), (.call ⟨(.builtin .len), #[(.tmp 34)], #[51]⟩), none, []⟩,
   ⟨(some 36), (.move (.const (.int .i64 0))), none, []⟩]
def c91r10 : List SO :=
  [⟨(some 37), (.binOp .lss 3 (.tmp 36) (.tmp 35) 3), none, []⟩]
def c91r11 : List SO :=
  [⟨(some 38), (.move (.tmp 36)), none, []⟩,
   ⟨(some 39), (.indexAddr 51 (.tmp 34) (.tmp 36)), none, []⟩,
   ⟨(some 40), (.load 3 (.tmp 39)), none, []⟩,
   ⟨(some 7), (.assign (.tmp 38)), none, []⟩,
   ⟨(some 8), (.assign (.tmp 40)), none, []⟩]
def c91r12 : List SO :=
  [⟨(some 41), (.load 190 (.tmp 4)), none, []⟩,
   ⟨(some 42), (.move (.tmp 8)), none, []⟩,
   ⟨(some 43), (.move (.tmp 7)), none, []⟩,
   ⟨none, (.mapUpdate 190 (.tmp 41) (.tmp 42) (.tmp 43)), none, []⟩]
def c91r13 : List SO :=
  [⟨(some 44), (.binOp .add 3 (.tmp 36) (.const (.int .i64 1)) 3), none, []⟩,
   ⟨(some 36), (.move (.tmp 44)), none, []⟩]
def c91l1 : SC :=
  (.seq (.reg false (some [0, 3, 4, 5, 34, 35, 36, 37]) c91r10) (.seq (.cond (.tmp 37) .nop (.exit 2)) (.seq (.block 3 (.seq (.reg false (some [0, 3, 4, 5, 7, 8, 34, 35, 36]) c91r11) (.reg false (some [0, 3, 4, 5, 34, 35, 36]) c91r12))) (.reg false (some [0, 3, 4, 5, 34, 35, 36]) c91r13))))
def c91r14 : List SO :=
  [⟨(some 45), (.move (.tmp 0)), none, []⟩,
   ⟨(some 46), (.move (.tmp 3)), none, []⟩,
   ⟨(some 47), (.call ⟨(.value (.func 119)), #[(.tmp 45), (.tmp 46)], #[94, 51]⟩), none, []⟩,
   ⟨(some 9), (.assign (.tmp 47)), none, []⟩]
def c91r15 : List SO :=
  [⟨(some 48), (.makeFunc (.func 120) #[] #[(.tmp 4), (.tmp 5)]), none, []⟩,
   ⟨(some 10), (.assign (.tmp 48)), none, []⟩]
def c91r16 : List SO :=
  [⟨(some 11), (.assign (.const (.bool true))), none, []⟩]
def c91r17 : List SO :=
  [⟨(some 49), (.move (.tmp 11)), none, []⟩]
def c91r18 : List SO :=
  [⟨(some 11), (.assign (.const (.bool false))), none, []⟩]
def c91r19 : List SO :=
  [⟨(some 50), (.move (.tmp 3)), none, []⟩,
   ⟨(some 51), (.call ⟨(.builtin .len), #[(.tmp 50)], #[51]⟩), none, []⟩,
   ⟨(some 52), (.move (.const (.int .i64 0))), none, []⟩]
def c91r20 : List SO :=
  [⟨(some 53), (.binOp .lss 3 (.tmp 52) (.tmp 51) 3), none, []⟩]
def c91r21 : List SO :=
  [⟨(some 54), (.move (.tmp 52)), none, []⟩,
   ⟨(some 55), (.indexAddr 51 (.tmp 50) (.tmp 52)), none, []⟩,
   ⟨(some 56), (.load 3 (.tmp 55)), none, []⟩,
   ⟨(some 12), (.assign (.tmp 54)), none, []⟩,
   ⟨(some 13), (.assign (.tmp 56)), none, []⟩]
def c91r22 : List SO :=
  [⟨(some 57), (.move (.tmp 12)), none, []⟩,
   ⟨(some 58), (.binOp .eql 3 (.tmp 57) (.const (.int .i64 0)) 3), none, []⟩]
def c91r23 : List SO :=
  [⟨(some 14), (.assign (.const (.int .i64 (-1)))), none, []⟩]
def c91r24 : List SO :=
  [⟨(some 59), (.move (.tmp 9)), none, []⟩,
   ⟨(some 60), (.move (.tmp 13)), none, []⟩,
   ⟨(some 61), (.lookup 109 (.tmp 59) (.tmp 60) false), none, []⟩,
   ⟨(some 62), (.call ⟨(.builtin .len), #[(.tmp 61)], #[51]⟩), none, []⟩,
   ⟨(some 63), (.move (.const (.int .i64 0))), none, []⟩]
def c91r25 : List SO :=
  [⟨(some 64), (.binOp .lss 3 (.tmp 63) (.tmp 62) 3), none, []⟩]
def c91r26 : List SO :=
  [⟨(some 65), (.indexAddr 51 (.tmp 61) (.tmp 63)), none, []⟩,
   ⟨(some 66), (.load 3 (.tmp 65)), none, []⟩,
   ⟨(some 16), (.assign (.tmp 66)), none, []⟩]
def c91r27 : List SO :=
  [⟨(some 67), (.move (.tmp 16)), none, []⟩,
   ⟨(some 68), (.move (.tmp 3)), none, []⟩,
   ⟨(some 69), (.indexAddr 51 (.tmp 68) (.const (.int .i64 0))), none, []⟩,
   ⟨(some 70), (.load 3 (.tmp 69)), none, []⟩,
   ⟨(some 71), (.binOp .neq 3 (.tmp 67) (.tmp 70) 3), none, []⟩,
   ⟨(some 72), (.move (.tmp 71)), none, []⟩,
   ⟨(some 73), (.load 51 (.tmp 5)), (some (72, true)), []⟩,
   ⟨(some 74), (.move (.tmp 16)), (some (72, true)), []⟩,
   ⟨(some 75), (.indexAddr 51 (.tmp 73) (.tmp 74)), (some (72, true)), []⟩,
   ⟨(some 76), (.load 3 (.tmp 75)), (some (72, true)), []⟩,
   ⟨(some 77), (.binOp .lss 3 (.tmp 76) (.const (.int .i64 0)) 3), (some (72, true)), []⟩,
   ⟨(some 78), (.pick (.tmp 72) (.tmp 77) (.const (.bool false))), none, []⟩]
def c91r28 : List SO :=
  [⟨(some 79), (.move (.tmp 14)), none, []⟩,
   ⟨(some 80), (.binOp .lss 3 (.tmp 79) (.const (.int .i64 0)) 3), none, []⟩]
def c91r29 : List SO :=
  [⟨(some 81), (.move (.tmp 16)), none, []⟩,
   ⟨(some 14), (.assign (.tmp 81)), none, []⟩]
def c91r30 : List SO :=
  [⟨(some 82), (.move (.tmp 10)), none, []⟩,
   ⟨(some 83), (.move (.tmp 14)), none, []⟩,
   ⟨(some 84), (.move (.tmp 16)), none, []⟩,
   ⟨(some 85), (.call ⟨(.value (.tmp 82)), #[(.tmp 83), (.tmp 84)], #[3, 3]⟩), none, []⟩,
   ⟨(some 14), (.assign (.tmp 85)), none, []⟩]
def c91r31 : List SO :=
  [⟨(some 86), (.binOp .add 3 (.tmp 63) (.const (.int .i64 1)) 3), none, []⟩,
   ⟨(some 63), (.move (.tmp 86)), none, []⟩]
def c91l2 : SC :=
  (.seq (.reg false (some [3, 5, 9, 10, 11, 13, 14, 50, 51, 52, 61, 62, 63, 64]) c91r25) (.seq (.cond (.tmp 64) .nop (.exit 8)) (.seq (.block 9 (.seq (.reg false (some [3, 5, 9, 10, 11, 13, 14, 16, 50, 51, 52, 61, 62, 63]) c91r26) (.seq (.seq (.reg false (some [3, 5, 9, 10, 11, 13, 14, 16, 50, 51, 52, 61, 62, 63, 78]) c91r27) (.cond (.tmp 78) (.exit 9) .nop)) (.seq (.reg false (some [3, 5, 9, 10, 11, 13, 14, 16, 50, 51, 52, 61, 62, 63, 80]) c91r28) (.cond (.tmp 80) (.reg false (some [3, 5, 9, 10, 11, 13, 14, 50, 51, 52, 61, 62, 63]) c91r29) (.reg false (some [3, 5, 9, 10, 11, 13, 14, 50, 51, 52, 61, 62, 63]) c91r30)))))) (.reg false (some [3, 5, 9, 10, 11, 13, 14, 50, 51, 52, 61, 62, 63]) c91r31))))
def c91r32 : List SO :=
  [⟨(some 87), (.move (.tmp 11)), none, []⟩,
   ⟨(some 88), (.move (.tmp 87)), none, []⟩,
   ⟨(some 89), (.move (.tmp 14)), (some (88, false)), []⟩,
   ⟨(some 90), (.load 51 (.tmp 5)), (some (88, false)), []⟩,
   ⟨(some 91), (.move (.tmp 13)), (some (88, false)), []⟩,
   ⟨(some 92), (.indexAddr 51 (.tmp 90) (.tmp 91)), (some (88, false)), []⟩,
   ⟨(some 93), (.load 3 (.tmp 92)), (some (88, false)), []⟩,
   ⟨(some 94), (.binOp .neq 3 (.tmp 89) (.tmp 93) 3), (some (88, false)), []⟩,
   ⟨(some 95), (.pick (.tmp 88) (.const (.bool true)) (.tmp 94)), none, []⟩,
   ⟨(some 11), (.assign (.tmp 95)), none, []⟩]
def c91r33 : List SO :=
  [⟨(some 96), (.load 51 (.tmp 5)), none, []⟩,
   ⟨(some 97), (.move (.tmp 13)), none, []⟩,
   ⟨(some 98), (.move (.tmp 14)), none, []⟩,
   ⟨(some 99), (.indexAddr 51 (.tmp 96) (.tmp 97)), none, []⟩,
   ⟨none, (.store 3 (.tmp 99) (.tmp 98)), none, []⟩]
def c91r34 : List SO :=
  [⟨(some 100), (.binOp .add 3 (.tmp 52) (.const (.int .i64 1)) 3), none, []⟩,
   ⟨(some 52), (.move (.tmp 100)), none, []⟩]
def c91l3 : SC :=
  (.seq (.reg false (some [3, 5, 9, 10, 11, 50, 51, 52, 53]) c91r20) (.seq (.cond (.tmp 53) .nop (.exit 6)) (.seq (.block 7 (.seq (.reg false (some [3, 5, 9, 10, 11, 12, 13, 50, 51, 52]) c91r21) (.seq (.seq (.reg false (some [3, 5, 9, 10, 11, 13, 50, 51, 52, 58]) c91r22) (.cond (.tmp 58) (.exit 7) .nop)) (.seq (.reg false (some [3, 5, 9, 10, 11, 13, 14, 50, 51, 52]) c91r23) (.seq (.seq (.reg false (some [3, 5, 9, 10, 11, 13, 14, 50, 51, 52, 61, 62, 63]) c91r24) (.block 8 (.loop c91l2))) (.seq (.reg false (some [3, 5, 9, 10, 11, 13, 14, 50, 51, 52]) c91r32) (.reg false (some [3, 5, 9, 10, 11, 50, 51, 52]) c91r33))))))) (.reg false (some [3, 5, 9, 10, 11, 50, 51, 52]) c91r34))))
def c91l4 : SC :=
  (.seq (.seq (.reg false (some [3, 5, 9, 10, 49]) c91r17) (.cond (.tmp 49) .nop (.exit 4))) (.block 5 (.seq (.reg false (some [3, 5, 9, 10, 11]) c91r18) (.seq (.reg false (some [3, 5, 9, 10, 11, 50, 51, 52]) c91r19) (.block 6 (.loop c91l3))))))
def c91r35 : List SO :=
  [⟨(some 101), (.load 51 (.tmp 5)), none, []⟩,
   ⟨(some 2), (.assign (.tmp 101)), none, []⟩]
def c91 : SC :=
  (.seq (.reg false (some [0]) c91r0) (.seq (.reg false (some [0, 3]) c91r1) (.seq (.reg false (some [0, 3, 4]) c91r2) (.seq (.reg false (some [0, 3, 4, 5]) c91r3) (.seq (.seq (.reg false (some [0, 3, 4, 5, 26, 27]) c91r4) (.block 0 (.loop c91l0))) (.seq (.seq (.reg false (some [0, 3, 4, 5, 34, 35, 36]) c91r9) (.block 2 (.loop c91l1))) (.seq (.reg false (some [3, 4, 5, 9]) c91r14) (.seq (.reg false (some [3, 5, 9, 10]) c91r15) (.seq (.seq (.reg false (some [3, 5, 9, 10, 11]) c91r16) (.block 4 (.loop c91l4))) (.seq (.reg false (some [2]) c91r35) .ret))))))))))
theorem s91 : Try.f91.body.bind (strip Try.prog An 91 Try.f91.ntmps) = some c91 := by kernel_rfl
theorem r91 : Try.f91.results.toList = [(.tmp 2)] := by kernel_rfl
theorem t91r0 (h :
    Q .normal ⟨[(0, (tget L 0))], m⟩) :
    Tx Try.prog An F 91 (.reg false (some [0]) c91r0) ⟨L, m⟩ Q := Tx_told (by kernel_rfl) h
theorem t91r1 (h :
    Obt (callC An F 91 (some 18) 112 [(tget L 0)] m) fun a0 => Q .normal ⟨[(0, (tget L 0)), (3, a0.1)], a0.2⟩) :
    Tx Try.prog An F 91 (.reg false (some [0, 3]) c91r1) ⟨L, m⟩ Q := Tx_told (by kernel_rfl) h
theorem t91r2 (h :
    Obt (lenS (tget L 3)) fun a0 => 
    Obt (mmX true 336 a0 m) fun a1 => 
    Obt (stX 1 (gnewL a1.2 [.mnil]) (gnewP a1.2) a1.1) fun a2 => Q .normal ⟨[(0, (tget L 0)), (3, (tget L 3)), (4, (gnewP a1.2))], a2⟩) :
    Tx Try.prog An F 91 (.reg false (some [0, 3, 4]) c91r2) ⟨L, m⟩ Q := Tx_told (by kernel_rfl) h
theorem t91r3 (h :
    Obt (lenS (tget L 0)) fun a0 => 
    Obt (mkX true 384 1 8 [.int .i64 0] a0 a0 m) fun a1 => 
    Obt (stX 1 (gnewL a1.2 [.nil]) (gnewP a1.2) a1.1) fun a2 => Q .normal ⟨[(0, (tget L 0)), (3, (tget L 3)), (4, (tget L 4)), (5, (gnewP a1.2))], a2⟩) :
    Tx Try.prog An F 91 (.reg false (some [0, 3, 4, 5]) c91r3) ⟨L, m⟩ Q := Tx_told (by kernel_rfl) h
theorem t91r4 (h :
    Obt (ld1 m (tget L 5)) fun a0 => 
    Obt (lenS a0) fun a1 => Q .normal ⟨[(0, (tget L 0)), (3, (tget L 3)), (4, (tget L 4)), (5, (tget L 5)), (26, a1), (27, (.int .i64 0))], m⟩) :
    Tx Try.prog An F 91 (.reg false (some [0, 3, 4, 5, 26, 27]) c91r4) ⟨L, m⟩ Q := Tx_told (by kernel_rfl) h
theorem t91r5 (h :
    Obt (cbin Try.prog .lss 3 (.tmp 27) (.tmp 26) (tget L 27) (tget L 26)) fun a0 => Q .normal ⟨[(0, (tget L 0)), (3, (tget L 3)), (4, (tget L 4)), (5, (tget L 5)), (26, (tget L 26)), (27, (tget L 27)), (28, a0)], m⟩) :
    Tx Try.prog An F 91 (.reg false (some [0, 3, 4, 5, 26, 27, 28]) c91r5) ⟨L, m⟩ Q := Tx_told (by kernel_rfl) h
theorem t91r6 (h :
    Q .normal ⟨[(0, (tget L 0)), (3, (tget L 3)), (4, (tget L 4)), (5, (tget L 5)), (6, (tget L 27)), (26, (tget L 26)), (27, (tget L 27))], m⟩) :
    Tx Try.prog An F 91 (.reg false (some [0, 3, 4, 5, 6, 26, 27]) c91r6) ⟨L, m⟩ Q := Tx_told (by kernel_rfl) h
theorem t91r7 (h :
    Obt (ld1 m (tget L 5)) fun a0 => 
    Obt (idxS 1 a0 (tget L 6)) fun a1 => 
    Obt (stX 1 m a1 (.int .i64 (-1))) fun a2 => Q .normal ⟨[(0, (tget L 0)), (3, (tget L 3)), (4, (tget L 4)), (5, (tget L 5)), (26, (tget L 26)), (27, (tget L 27))], a2⟩) :
    Tx Try.prog An F 91 (.reg false (some [0, 3, 4, 5, 26, 27]) c91r7) ⟨L, m⟩ Q := Tx_told (by kernel_rfl) h
theorem t91r8 (h :
    Obt (cbin Try.prog .add 3 (.tmp 27) (.const (.int .i64 1)) (tget L 27) (.int .i64 1)) fun a0 => Q .normal ⟨[(0, (tget L 0)), (3, (tget L 3)), (4, (tget L 4)), (5, (tget L 5)), (26, (tget L 26)), (27, a0)], m⟩) :
    Tx Try.prog An F 91 (.reg false (some [0, 3, 4, 5, 26, 27]) c91r8) ⟨L, m⟩ Q := Tx_told (by kernel_rfl) h
theorem t91r9 (h :
    Obt (lenS (tget L 3)) fun a0 => Q .normal ⟨[(0, (tget L 0)), (3, (tget L 3)), (4, (tget L 4)), (5, (tget L 5)), (34, (tget L 3)), (35, a0), (36, (.int .i64 0))], m⟩) :
    Tx Try.prog An F 91 (.reg false (some [0, 3, 4, 5, 34, 35, 36]) c91r9) ⟨L, m⟩ Q := Tx_told (by kernel_rfl) h
theorem t91r10 (h :
    Obt (cbin Try.prog .lss 3 (.tmp 36) (.tmp 35) (tget L 36) (tget L 35)) fun a0 => Q .normal ⟨[(0, (tget L 0)), (3, (tget L 3)), (4, (tget L 4)), (5, (tget L 5)), (34, (tget L 34)), (35, (tget L 35)), (36, (tget L 36)), (37, a0)], m⟩) :
    Tx Try.prog An F 91 (.reg false (some [0, 3, 4, 5, 34, 35, 36, 37]) c91r10) ⟨L, m⟩ Q := Tx_told (by kernel_rfl) h
theorem t91r11 (h :
    Obt (idxS 1 (tget L 34) (tget L 36)) fun a0 => 
    Obt (ld1 m a0) fun a1 => Q .normal ⟨[(0, (tget L 0)), (3, (tget L 3)), (4, (tget L 4)), (5, (tget L 5)), (7, (tget L 36)), (8, a1), (34, (tget L 34)), (35, (tget L 35)), (36, (tget L 36))], m⟩) :
    Tx Try.prog An F 91 (.reg false (some [0, 3, 4, 5, 7, 8, 34, 35, 36]) c91r11) ⟨L, m⟩ Q := Tx_told (by kernel_rfl) h
theorem t91r12 (h :
    Obt (ld1 m (tget L 4)) fun a0 => 
    Obt (mupX Try.prog 3 a0 (tget L 8) (tget L 7) m) fun a1 => Q .normal ⟨[(0, (tget L 0)), (3, (tget L 3)), (4, (tget L 4)), (5, (tget L 5)), (34, (tget L 34)), (35, (tget L 35)), (36, (tget L 36))], a1⟩) :
    Tx Try.prog An F 91 (.reg false (some [0, 3, 4, 5, 34, 35, 36]) c91r12) ⟨L, m⟩ Q := Tx_told (by kernel_rfl) h
theorem t91r13 (h :
    Obt (cbin Try.prog .add 3 (.tmp 36) (.const (.int .i64 1)) (tget L 36) (.int .i64 1)) fun a0 => Q .normal ⟨[(0, (tget L 0)), (3, (tget L 3)), (4, (tget L 4)), (5, (tget L 5)), (34, (tget L 34)), (35, (tget L 35)), (36, a0)], m⟩) :
    Tx Try.prog An F 91 (.reg false (some [0, 3, 4, 5, 34, 35, 36]) c91r13) ⟨L, m⟩ Q := Tx_told (by kernel_rfl) h
theorem t91r14 (h :
    Obt (callC An F 91 (some 47) 119 [(tget L 0), (tget L 3)] m) fun a0 => Q .normal ⟨[(3, (tget L 3)), (4, (tget L 4)), (5, (tget L 5)), (9, a0.1)], a0.2⟩) :
    Tx Try.prog An F 91 (.reg false (some [3, 4, 5, 9]) c91r14) ⟨L, m⟩ Q := Tx_told (by kernel_rfl) h
theorem t91r15 (h :
    Q .normal ⟨[(3, (tget L 3)), (5, (tget L 5)), (9, (tget L 9)), (10, (.func (.func 120) [] [(tget L 4), (tget L 5)]))], m⟩) :
    Tx Try.prog An F 91 (.reg false (some [3, 5, 9, 10]) c91r15) ⟨L, m⟩ Q := Tx_told (by kernel_rfl) h
theorem t91r16 (h :
    Q .normal ⟨[(3, (tget L 3)), (5, (tget L 5)), (9, (tget L 9)), (10, (tget L 10)), (11, (.bool true))], m⟩) :
    Tx Try.prog An F 91 (.reg false (some [3, 5, 9, 10, 11]) c91r16) ⟨L, m⟩ Q := Tx_told (by kernel_rfl) h
theorem t91r17 (h :
    Q .normal ⟨[(3, (tget L 3)), (5, (tget L 5)), (9, (tget L 9)), (10, (tget L 10)), (49, (tget L 11))], m⟩) :
    Tx Try.prog An F 91 (.reg false (some [3, 5, 9, 10, 49]) c91r17) ⟨L, m⟩ Q := Tx_told (by kernel_rfl) h
theorem t91r18 (h :
    Q .normal ⟨[(3, (tget L 3)), (5, (tget L 5)), (9, (tget L 9)), (10, (tget L 10)), (11, (.bool false))], m⟩) :
    Tx Try.prog An F 91 (.reg false (some [3, 5, 9, 10, 11]) c91r18) ⟨L, m⟩ Q := Tx_told (by kernel_rfl) h
theorem t91r19 (h :
    Obt (lenS (tget L 3)) fun a0 => Q .normal ⟨[(3, (tget L 3)), (5, (tget L 5)), (9, (tget L 9)), (10, (tget L 10)), (11, (tget L 11)), (50, (tget L 3)), (51, a0), (52, (.int .i64 0))], m⟩) :
    Tx Try.prog An F 91 (.reg false (some [3, 5, 9, 10, 11, 50, 51, 52]) c91r19) ⟨L, m⟩ Q := Tx_told (by kernel_rfl) h
theorem t91r20 (h :
    Obt (cbin Try.prog .lss 3 (.tmp 52) (.tmp 51) (tget L 52) (tget L 51)) fun a0 => Q .normal ⟨[(3, (tget L 3)), (5, (tget L 5)), (9, (tget L 9)), (10, (tget L 10)), (11, (tget L 11)), (50, (tget L 50)), (51, (tget L 51)), (52, (tget L 52)), (53, a0)], m⟩) :
    Tx Try.prog An F 91 (.reg false (some [3, 5, 9, 10, 11, 50, 51, 52, 53]) c91r20) ⟨L, m⟩ Q := Tx_told (by kernel_rfl) h
theorem t91r21 (h :
    Obt (idxS 1 (tget L 50) (tget L 52)) fun a0 => 
    Obt (ld1 m a0) fun a1 => Q .normal ⟨[(3, (tget L 3)), (5, (tget L 5)), (9, (tget L 9)), (10, (tget L 10)), (11, (tget L 11)), (12, (tget L 52)), (13, a1), (50, (tget L 50)), (51, (tget L 51)), (52, (tget L 52))], m⟩) :
    Tx Try.prog An F 91 (.reg false (some [3, 5, 9, 10, 11, 12, 13, 50, 51, 52]) c91r21) ⟨L, m⟩ Q := Tx_told (by kernel_rfl) h
theorem t91r22 (h :
    Obt (cbin Try.prog .eql 3 (.tmp 57) (.const (.int .i64 0)) (tget L 12) (.int .i64 0)) fun a0 => Q .normal ⟨[(3, (tget L 3)), (5, (tget L 5)), (9, (tget L 9)), (10, (tget L 10)), (11, (tget L 11)), (13, (tget L 13)), (50, (tget L 50)), (51, (tget L 51)), (52, (tget L 52)), (58, a0)], m⟩) :
    Tx Try.prog An F 91 (.reg false (some [3, 5, 9, 10, 11, 13, 50, 51, 52, 58]) c91r22) ⟨L, m⟩ Q := Tx_told (by kernel_rfl) h
theorem t91r23 (h :
    Q .normal ⟨[(3, (tget L 3)), (5, (tget L 5)), (9, (tget L 9)), (10, (tget L 10)), (11, (tget L 11)), (13, (tget L 13)), (14, (.int .i64 (-1))), (50, (tget L 50)), (51, (tget L 51)), (52, (tget L 52))], m⟩) :
    Tx Try.prog An F 91 (.reg false (some [3, 5, 9, 10, 11, 13, 14, 50, 51, 52]) c91r23) ⟨L, m⟩ Q := Tx_told (by kernel_rfl) h
theorem t91r24 (h :
    Obt (lookX Try.prog 3 (.nil) (tget L 9) (tget L 13) false m) fun a0 => 
    Obt (lenS a0) fun a1 => Q .normal ⟨[(3, (tget L 3)), (5, (tget L 5)), (9, (tget L 9)), (10, (tget L 10)), (11, (tget L 11)), (13, (tget L 13)), (14, (tget L 14)), (50, (tget L 50)), (51, (tget L 51)), (52, (tget L 52)), (61, a0), (62, a1), (63, (.int .i64 0))], m⟩) :
    Tx Try.prog An F 91 (.reg false (some [3, 5, 9, 10, 11, 13, 14, 50, 51, 52, 61, 62, 63]) c91r24) ⟨L, m⟩ Q := Tx_told (by kernel_rfl) h
theorem t91r25 (h :
    Obt (cbin Try.prog .lss 3 (.tmp 63) (.tmp 62) (tget L 63) (tget L 62)) fun a0 => Q .normal ⟨[(3, (tget L 3)), (5, (tget L 5)), (9, (tget L 9)), (10, (tget L 10)), (11, (tget L 11)), (13, (tget L 13)), (14, (tget L 14)), (50, (tget L 50)), (51, (tget L 51)), (52, (tget L 52)), (61, (tget L 61)), (62, (tget L 62)), (63, (tget L 63)), (64, a0)], m⟩) :
    Tx Try.prog An F 91 (.reg false (some [3, 5, 9, 10, 11, 13, 14, 50, 51, 52, 61, 62, 63, 64]) c91r25) ⟨L, m⟩ Q := Tx_told (by kernel_rfl) h
theorem t91r26 (h :
    Obt (idxS 1 (tget L 61) (tget L 63)) fun a0 => 
    Obt (ld1 m a0) fun a1 => Q .normal ⟨[(3, (tget L 3)), (5, (tget L 5)), (9, (tget L 9)), (10, (tget L 10)), (11, (tget L 11)), (13, (tget L 13)), (14, (tget L 14)), (16, a1), (50, (tget L 50)), (51, (tget L 51)), (52, (tget L 52)), (61, (tget L 61)), (62, (tget L 62)), (63, (tget L 63))], m⟩) :
    Tx Try.prog An F 91 (.reg false (some [3, 5, 9, 10, 11, 13, 14, 16, 50, 51, 52, 61, 62, 63]) c91r26) ⟨L, m⟩ Q := Tx_told (by kernel_rfl) h
theorem t91r27 (h :
    Obt (idxS 1 (tget L 3) (.int .i64 0)) fun a0 => 
    Obt (ld1 m a0) fun a1 => 
    Obt (cbin Try.prog .neq 3 (.tmp 67) (.tmp 70) (tget L 16) a1) fun a2 => 
    Obt (gdO a2 true ((ld1 m (tget L 5)).map fun v => (v, m)) (.tuple [], m)) fun a3 => 
    Obt (gdO a2 true (some ((tget L 16), a3.2)) (.tuple [], a3.2)) fun a4 => 
    Obt (gdO a2 true ((idxS 1 a3.1 a4.1).map fun v => (v, a4.2)) (.tuple [], a4.2)) fun a5 => 
    Obt (gdO a2 true ((ld1 a5.2 a5.1).map fun v => (v, a5.2)) (.tuple [], a5.2)) fun a6 => 
    Obt (gdO a2 true ((cbin Try.prog .lss 3 (.tmp 76) (.const (.int .i64 0)) a6.1 (.int .i64 0)).map fun v => (v, a6.2)) (.tuple [], a6.2)) fun a7 => 
    Obt (pickX a2 a7.1 (.bool false)) fun a8 => Q .normal ⟨[(3, (tget L 3)), (5, (tget L 5)), (9, (tget L 9)), (10, (tget L 10)), (11, (tget L 11)), (13, (tget L 13)), (14, (tget L 14)), (16, (tget L 16)), (50, (tget L 50)), (51, (tget L 51)), (52, (tget L 52)), (61, (tget L 61)), (62, (tget L 62)), (63, (tget L 63)), (78, a8)], a7.2⟩) :
    Tx Try.prog An F 91 (.reg false (some [3, 5, 9, 10, 11, 13, 14, 16, 50, 51, 52, 61, 62, 63, 78]) c91r27) ⟨L, m⟩ Q := Tx_told (by kernel_rfl) h
theorem t91r28 (h :
    Obt (cbin Try.prog .lss 3 (.tmp 79) (.const (.int .i64 0)) (tget L 14) (.int .i64 0)) fun a0 => Q .normal ⟨[(3, (tget L 3)), (5, (tget L 5)), (9, (tget L 9)), (10, (tget L 10)), (11, (tget L 11)), (13, (tget L 13)), (14, (tget L 14)), (16, (tget L 16)), (50, (tget L 50)), (51, (tget L 51)), (52, (tget L 52)), (61, (tget L 61)), (62, (tget L 62)), (63, (tget L 63)), (80, a0)], m⟩) :
    Tx Try.prog An F 91 (.reg false (some [3, 5, 9, 10, 11, 13, 14, 16, 50, 51, 52, 61, 62, 63, 80]) c91r28) ⟨L, m⟩ Q := Tx_told (by kernel_rfl) h
theorem t91r29 (h :
    Q .normal ⟨[(3, (tget L 3)), (5, (tget L 5)), (9, (tget L 9)), (10, (tget L 10)), (11, (tget L 11)), (13, (tget L 13)), (14, (tget L 16)), (50, (tget L 50)), (51, (tget L 51)), (52, (tget L 52)), (61, (tget L 61)), (62, (tget L 62)), (63, (tget L 63))], m⟩) :
    Tx Try.prog An F 91 (.reg false (some [3, 5, 9, 10, 11, 13, 14, 50, 51, 52, 61, 62, 63]) c91r29) ⟨L, m⟩ Q := Tx_told (by kernel_rfl) h
theorem t91r30 (h :
    Obt (invokeC An F 91 (some 85) (tget L 10) [(tget L 14), (tget L 16)] m) fun a0 => Q .normal ⟨[(3, (tget L 3)), (5, (tget L 5)), (9, (tget L 9)), (10, (tget L 10)), (11, (tget L 11)), (13, (tget L 13)), (14, a0.1), (50, (tget L 50)), (51, (tget L 51)), (52, (tget L 52)), (61, (tget L 61)), (62, (tget L 62)), (63, (tget L 63))], a0.2⟩) :
    Tx Try.prog An F 91 (.reg false (some [3, 5, 9, 10, 11, 13, 14, 50, 51, 52, 61, 62, 63]) c91r30) ⟨L, m⟩ Q := Tx_told (by kernel_rfl) h
theorem t91r31 (h :
    Obt (cbin Try.prog .add 3 (.tmp 63) (.const (.int .i64 1)) (tget L 63) (.int .i64 1)) fun a0 => Q .normal ⟨[(3, (tget L 3)), (5, (tget L 5)), (9, (tget L 9)), (10, (tget L 10)), (11, (tget L 11)), (13, (tget L 13)), (14, (tget L 14)), (50, (tget L 50)), (51, (tget L 51)), (52, (tget L 52)), (61, (tget L 61)), (62, (tget L 62)), (63, a0)], m⟩) :
    Tx Try.prog An F 91 (.reg false (some [3, 5, 9, 10, 11, 13, 14, 50, 51, 52, 61, 62, 63]) c91r31) ⟨L, m⟩ Q := Tx_told (by kernel_rfl) h
theorem t91r32 (h :
    Obt (gdO (tget L 11) false (some ((tget L 14), m)) (.tuple [], m)) fun a0 => 
    Obt (gdO (tget L 11) false ((ld1 a0.2 (tget L 5)).map fun v => (v, a0.2)) (.tuple [], a0.2)) fun a1 => 
    Obt (gdO (tget L 11) false (some ((tget L 13), a1.2)) (.tuple [], a1.2)) fun a2 => 
    Obt (gdO (tget L 11) false ((idxS 1 a1.1 a2.1).map fun v => (v, a2.2)) (.tuple [], a2.2)) fun a3 => 
    Obt (gdO (tget L 11) false ((ld1 a3.2 a3.1).map fun v => (v, a3.2)) (.tuple [], a3.2)) fun a4 => 
    Obt (gdO (tget L 11) false ((cbin Try.prog .neq 3 (.tmp 89) (.tmp 93) a0.1 a4.1).map fun v => (v, a4.2)) (.tuple [], a4.2)) fun a5 => 
    Obt (pickX (tget L 11) (.bool true) a5.1) fun a6 => Q .normal ⟨[(3, (tget L 3)), (5, (tget L 5)), (9, (tget L 9)), (10, (tget L 10)), (11, a6), (13, (tget L 13)), (14, (tget L 14)), (50, (tget L 50)), (51, (tget L 51)), (52, (tget L 52))], a5.2⟩) :
    Tx Try.prog An F 91 (.reg false (some [3, 5, 9, 10, 11, 13, 14, 50, 51, 52]) c91r32) ⟨L, m⟩ Q := Tx_told (by kernel_rfl) h
theorem t91r33 (h :
    Obt (ld1 m (tget L 5)) fun a0 => 
    Obt (idxS 1 a0 (tget L 13)) fun a1 => 
    Obt (stX 1 m a1 (tget L 14)) fun a2 => Q .normal ⟨[(3, (tget L 3)), (5, (tget L 5)), (9, (tget L 9)), (10, (tget L 10)), (11, (tget L 11)), (50, (tget L 50)), (51, (tget L 51)), (52, (tget L 52))], a2⟩) :
    Tx Try.prog An F 91 (.reg false (some [3, 5, 9, 10, 11, 50, 51, 52]) c91r33) ⟨L, m⟩ Q := Tx_told (by kernel_rfl) h
theorem t91r34 (h :
    Obt (cbin Try.prog .add 3 (.tmp 52) (.const (.int .i64 1)) (tget L 52) (.int .i64 1)) fun a0 => Q .normal ⟨[(3, (tget L 3)), (5, (tget L 5)), (9, (tget L 9)), (10, (tget L 10)), (11, (tget L 11)), (50, (tget L 50)), (51, (tget L 51)), (52, a0)], m⟩) :
    Tx Try.prog An F 91 (.reg false (some [3, 5, 9, 10, 11, 50, 51, 52]) c91r34) ⟨L, m⟩ Q := Tx_told (by kernel_rfl) h
theorem t91r35 (h :
    Obt (ld1 m (tget L 5)) fun a0 => Q .normal ⟨[(2, a0)], m⟩) :
    Tx Try.prog An F 91 (.reg false (some [2]) c91r35) ⟨L, m⟩ Q := Tx_told (by kernel_rfl) h
end Go.Cm
