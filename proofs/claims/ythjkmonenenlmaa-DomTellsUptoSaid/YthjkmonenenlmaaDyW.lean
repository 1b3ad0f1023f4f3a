import Derived.Test.YthjkmonenenlmaaDyA
set_option linter.unusedSimpArgs false
set_option linter.unusedVariables false
namespace Go.Cm
open Go.Proofs
-- clevis/clevisref15.Reach
def c18r0 : List SO :=
  [⟨(some 2), (.assign (.const (.slice none 0 0))), none⟩]
def c18r1 : List SO :=
  [⟨(some 3), (.move (.tmp 0)), none⟩,
   ⟨(some 4), (.call ⟨(.value (.func 27)), #[(.tmp 3), (.const (.int .i64 (-1)))], #[22, 3]⟩), none⟩,
   ⟨(some 2), (.assign (.tmp 4)), none⟩]
def c18 : SC :=
  (.seq (.reg false (some [0]) c18r0) (.seq (.reg false (some [2]) c18r1) .ret))
theorem s18 : Try.f18.body.bind (strip Try.prog An 18 Try.f18.ntmps) = some c18 := by kernel_rfl
theorem g18 : An.glob 18 = [] := rfl
theorem r18 : Try.f18.results.toList = [(.tmp 2)] := by kernel_rfl
theorem t18r0 {F : Oracle} {L : List (Nat × CV)} {m : Mem} {Q : CE → TS → Prop} (h :
    Q .normal ⟨[(0, (tget L 0))], m⟩) :
    Tx Try.prog An F 18 (.reg false (some [0]) c18r0) ⟨L, m⟩ Q := Tx_told (by kernel_rfl) h
theorem t18r1 {F : Oracle} {L : List (Nat × CV)} {m : Mem} {Q : CE → TS → Prop} (h :
    Obt (callC An F 18 (some 4) 27 [(tget L 0), (.int .i64 (-1))] m) fun a0 => Q .normal ⟨[(2, a0.1)], a0.2⟩) :
    Tx Try.prog An F 18 (.reg false (some [2]) c18r1) ⟨L, m⟩ Q := Tx_told (by kernel_rfl) h
-- clevis/clevisref15.walk
def c27r0 : List SO :=
  [⟨(some 4), (.assign (.const (.slice none 0 0))), none⟩]
def c27r1 : List SO :=
  [⟨(some 10), (.move (.tmp 0)), none⟩,
   ⟨(some 11), (.call ⟨(.builtin .len), #[(.tmp 10)], #[22]⟩), none⟩,
   ⟨(some 12), (.makeSlice 25 (.tmp 11) (.tmp 11)), none⟩,
   ⟨(some 5), (.assign (.tmp 12)), none⟩]
def c27r2 : List SO :=
  [⟨(some 13), (.move (.tmp 0)), none⟩,
   ⟨(some 14), (.call ⟨(.builtin .len), #[(.tmp 13)], #[22]⟩), none⟩,
   ⟨(some 15), (.binOp .eql 3 (.tmp 14) (.const (.int .i64 0)) 3), none⟩,
   ⟨(some 16), (.move (.tmp 15)), none⟩,
   ⟨(some 17), (.move (.tmp 1)), (some (16, false))⟩,
   ⟨(some 18), (.binOp .eql 3 (.tmp 17) (.const (.int .i64 0)) 3), (some (16, false))⟩,
   ⟨(some 19), (.pick (.tmp 16) (.const (.bool true)) (.tmp 18)), none⟩]
def c27r3 : List SO :=
  [⟨(some 20), (.move (.tmp 5)), none⟩,
   ⟨(some 4), (.assign (.tmp 20)), none⟩]
def c27r4 : List SO :=
  [⟨(some 21), (.buildSlice 27 1 #[(0, (.const (.int .i64 0)))]), none⟩,
   ⟨(some 6), (.assign (.tmp 21)), none⟩]
def c27r5 : List SO :=
  [⟨(some 22), (.move (.tmp 6)), none⟩,
   ⟨(some 23), (.call ⟨(.builtin .len), #[(.tmp 22)], #[27]⟩), none⟩,
   ⟨(some 24), (.binOp .gtr 3 (.tmp 23) (.const (.int .i64 0)) 3), none⟩]
def c27r6 : List SO :=
  [⟨(some 25), (.move (.tmp 6)), none⟩,
   ⟨(some 26), (.move (.tmp 6)), none⟩,
   ⟨(some 27), (.call ⟨(.builtin .len), #[(.tmp 26)], #[27]⟩), none⟩,
   ⟨(some 28), (.binOp .sub 3 (.tmp 27) (.const (.int .i64 1)) 3), none⟩,
   ⟨(some 29), (.indexAddr 27 (.tmp 25) (.tmp 28)), none⟩,
   ⟨(some 30), (.load 3 (.tmp 29)), none⟩,
   ⟨(some 7), (.assign (.tmp 30)), none⟩]
def c27r7 : List SO :=
  [⟨(some 31), (.move (.tmp 6)), none⟩,
   ⟨(some 32), (.move (.tmp 6)), none⟩,
   ⟨(some 33), (.call ⟨(.builtin .len), #[(.tmp 32)], #[27]⟩), none⟩,
   ⟨(some 34), (.binOp .sub 3 (.tmp 33) (.const (.int .i64 1)) 3), none⟩,
   ⟨(some 35), (.slice 27 (.tmp 31) none (some (.tmp 34)) none), none⟩,
   ⟨(some 6), (.assign (.tmp 35)), none⟩]
def c27r8 : List SO :=
  [⟨(some 36), (.move (.tmp 5)), none⟩,
   ⟨(some 37), (.move (.tmp 7)), none⟩,
   ⟨(some 38), (.indexAddr 25 (.tmp 36) (.tmp 37)), none⟩,
   ⟨(some 39), (.load 4 (.tmp 38)), none⟩]
def c27r9 : List SO :=
  [⟨(some 40), (.move (.tmp 5)), none⟩,
   ⟨(some 41), (.move (.tmp 7)), none⟩,
   ⟨(some 42), (.indexAddr 25 (.tmp 40) (.tmp 41)), none⟩,
   ⟨none, (.store 4 (.tmp 42) (.const (.bool true))), none⟩]
def c27r10 : List SO :=
  [⟨(some 8), (.assign (.const (.int .i64 0))), none⟩]
def c27r11 : List SO :=
  [⟨(some 43), (.move (.tmp 8)), none⟩,
   ⟨(some 44), (.move (.tmp 0)), none⟩,
   ⟨(some 45), (.move (.tmp 7)), none⟩,
   ⟨(some 46), (.indexAddr 22 (.tmp 44) (.tmp 45)), none⟩,
   ⟨(some 47), (.load 27 (.tmp 46)), none⟩,
   ⟨(some 48), (.call ⟨(.builtin .len), #[(.tmp 47)], #[27]⟩), none⟩,
   ⟨(some 49), (.binOp .lss 3 (.tmp 43) (.tmp 48) 3), none⟩]
def c27r13 : List SO :=
  [⟨(some 52), (.move (.tmp 0)), none⟩,
   ⟨(some 53), (.move (.tmp 7)), none⟩,
   ⟨(some 54), (.indexAddr 22 (.tmp 52) (.tmp 53)), none⟩,
   ⟨(some 55), (.load 27 (.tmp 54)), none⟩,
   ⟨(some 56), (.move (.tmp 8)), none⟩,
   ⟨(some 57), (.indexAddr 27 (.tmp 55) (.tmp 56)), none⟩,
   ⟨(some 58), (.load 3 (.tmp 57)), none⟩,
   ⟨(some 9), (.assign (.tmp 58)), none⟩]
def c27r14 : List SO :=
  [⟨(some 59), (.move (.tmp 9)), none⟩,
   ⟨(some 60), (.binOp .geq 3 (.tmp 59) (.const (.int .i64 0)) 3), none⟩,
   ⟨(some 61), (.move (.tmp 60)), none⟩,
   ⟨(some 62), (.move (.tmp 9)), (some (61, true))⟩,
   ⟨(some 63), (.move (.tmp 0)), (some (61, true))⟩,
   ⟨(some 64), (.call ⟨(.builtin .len), #[(.tmp 63)], #[22]⟩), (some (61, true))⟩,
   ⟨(some 65), (.binOp .lss 3 (.tmp 62) (.tmp 64) 3), (some (61, true))⟩,
   ⟨(some 66), (.pick (.tmp 61) (.tmp 65) (.const (.bool false))), none⟩,
   ⟨(some 67), (.move (.tmp 66)), none⟩,
   ⟨(some 68), (.move (.tmp 9)), (some (67, true))⟩,
   ⟨(some 69), (.move (.tmp 1)), (some (67, true))⟩,
   ⟨(some 70), (.binOp .neq 3 (.tmp 68) (.tmp 69) 3), (some (67, true))⟩,
   ⟨(some 71), (.pick (.tmp 67) (.tmp 70) (.const (.bool false))), none⟩]
def c27r15 : List SO :=
  [⟨(some 72), (.move (.tmp 6)), none⟩,
   ⟨(some 73), (.move (.tmp 9)), none⟩,
   ⟨(some 74), (.buildSlice 27 1 #[(0, (.tmp 73))]), none⟩,
   ⟨(some 75), (.call ⟨(.builtin .append), #[(.tmp 72), (.tmp 74)], #[27, 27]⟩), none⟩,
   ⟨(some 6), (.assign (.tmp 75)), none⟩]
def c27r12 : List SO :=
  [⟨(some 50), (.move (.tmp 8)), none⟩,
   ⟨(some 51), (.binOp .add 3 (.tmp 50) (.const (.int .i64 1)) 3), none⟩,
   ⟨(some 8), (.assign (.tmp 51)), none⟩]
def c27l0 : SC :=
  (.seq (.seq (.reg false (some [0, 1, 5, 6, 7, 8, 49]) c27r11) (.cond (.tmp 49) .nop (.exit 2))) (.seq (.block 3 (.seq (.reg false (some [0, 1, 5, 6, 7, 8, 9]) c27r13) (.seq (.reg false (some [0, 1, 5, 6, 7, 8, 9, 71]) c27r14) (.cond (.tmp 71) (.reg false (some [0, 1, 5, 6, 7, 8]) c27r15) .nop)))) (.reg false (some [0, 1, 5, 6, 7, 8]) c27r12)))
def c27l1 : SC :=
  (.seq (.seq (.reg false (some [0, 1, 5, 6, 24]) c27r5) (.cond (.tmp 24) .nop (.exit 0))) (.block 1 (.seq (.reg false (some [0, 1, 5, 6, 7]) c27r6) (.seq (.reg false (some [0, 1, 5, 6, 7]) c27r7) (.seq (.seq (.reg false (some [0, 1, 5, 6, 7, 39]) c27r8) (.cond (.tmp 39) (.exit 1) .nop)) (.seq (.reg false (some [0, 1, 5, 6, 7]) c27r9) (.seq (.reg false (some [0, 1, 5, 6, 7, 8]) c27r10) (.block 2 (.loop c27l0)))))))))
def c27r16 : List SO :=
  [⟨(some 76), (.move (.tmp 5)), none⟩,
   ⟨(some 4), (.assign (.tmp 76)), none⟩]
def c27 : SC :=
  (.seq (.reg false (some [0, 1]) c27r0) (.seq (.reg false (some [0, 1, 5]) c27r1) (.seq (.seq (.reg false (some [0, 1, 5, 19]) c27r2) (.cond (.tmp 19) (.seq (.reg false (some [4]) c27r3) .ret) .nop)) (.seq (.reg false (some [0, 1, 5, 6]) c27r4) (.seq (.block 0 (.loop c27l1)) (.seq (.reg false (some [4]) c27r16) .ret))))))
theorem s27 : Try.f27.body.bind (strip Try.prog An 27 Try.f27.ntmps) = some c27 := by kernel_rfl
theorem g27 : An.glob 27 = [] := rfl
theorem r27 : Try.f27.results.toList = [(.tmp 4)] := by kernel_rfl
theorem t27r0 {F : Oracle} {L : List (Nat × CV)} {m : Mem} {Q : CE → TS → Prop} (h :
    Q .normal ⟨[(0, (tget L 0)), (1, (tget L 1))], m⟩) :
    Tx Try.prog An F 27 (.reg false (some [0, 1]) c27r0) ⟨L, m⟩ Q := Tx_told (by kernel_rfl) h
theorem t27r1 {F : Oracle} {L : List (Nat × CV)} {m : Mem} {Q : CE → TS → Prop} (h :
    Obt (lenS (tget L 0)) fun a0 => 
    Obt (mkX false 192 1 1 [.bool false] a0 a0 m) fun a1 => Q .normal ⟨[(0, (tget L 0)), (1, (tget L 1)), (5, a1.1)], a1.2⟩) :
    Tx Try.prog An F 27 (.reg false (some [0, 1, 5]) c27r1) ⟨L, m⟩ Q := Tx_told (by kernel_rfl) h
theorem t27r2 {F : Oracle} {L : List (Nat × CV)} {m : Mem} {Q : CE → TS → Prop} (h :
    Obt (lenS (tget L 0)) fun a0 => 
    Obt (cbin Try.prog .eql 3 (.tmp 14) (.const (.int .i64 0)) a0 (.int .i64 0)) fun a1 => 
    Obt (gdO a1 false (some ((tget L 1), m)) (.tuple [], m)) fun a2 => 
    Obt (gdO a1 false ((cbin Try.prog .eql 3 (.tmp 17) (.const (.int .i64 0)) a2.1 (.int .i64 0)).map fun v => (v, a2.2)) (.tuple [], a2.2)) fun a3 => 
    Obt (pickX a1 (.bool true) a3.1) fun a4 => Q .normal ⟨[(0, (tget L 0)), (1, (tget L 1)), (5, (tget L 5)), (19, a4)], a3.2⟩) :
    Tx Try.prog An F 27 (.reg false (some [0, 1, 5, 19]) c27r2) ⟨L, m⟩ Q := Tx_told (by kernel_rfl) h
theorem t27r3 {F : Oracle} {L : List (Nat × CV)} {m : Mem} {Q : CE → TS → Prop} (h :
    Q .normal ⟨[(4, (tget L 5))], m⟩) :
    Tx Try.prog An F 27 (.reg false (some [4]) c27r3) ⟨L, m⟩ Q := Tx_told (by kernel_rfl) h
theorem t27r4 {F : Oracle} {L : List (Nat × CV)} {m : Mem} {Q : CE → TS → Prop} (h :
    Obt (bslX false 336 1 1 [.int .i64 0] [(0, 1, (.int .i64 0))] m) fun a0 => Q .normal ⟨[(0, (tget L 0)), (1, (tget L 1)), (5, (tget L 5)), (6, a0.1)], a0.2⟩) :
    Tx Try.prog An F 27 (.reg false (some [0, 1, 5, 6]) c27r4) ⟨L, m⟩ Q := Tx_told (by kernel_rfl) h
theorem t27r5 {F : Oracle} {L : List (Nat × CV)} {m : Mem} {Q : CE → TS → Prop} (h :
    Obt (lenS (tget L 6)) fun a0 => 
    Obt (cbin Try.prog .gtr 3 (.tmp 23) (.const (.int .i64 0)) a0 (.int .i64 0)) fun a1 => Q .normal ⟨[(0, (tget L 0)), (1, (tget L 1)), (5, (tget L 5)), (6, (tget L 6)), (24, a1)], m⟩) :
    Tx Try.prog An F 27 (.reg false (some [0, 1, 5, 6, 24]) c27r5) ⟨L, m⟩ Q := Tx_told (by kernel_rfl) h
theorem t27r6 {F : Oracle} {L : List (Nat × CV)} {m : Mem} {Q : CE → TS → Prop} (h :
    Obt (lenS (tget L 6)) fun a0 => 
    Obt (cbin Try.prog .sub 3 (.tmp 27) (.const (.int .i64 1)) a0 (.int .i64 1)) fun a1 => 
    Obt (idxS 1 (tget L 6) a1) fun a2 => 
    Obt (ld1 m a2) fun a3 => Q .normal ⟨[(0, (tget L 0)), (1, (tget L 1)), (5, (tget L 5)), (6, (tget L 6)), (7, a3)], m⟩) :
    Tx Try.prog An F 27 (.reg false (some [0, 1, 5, 6, 7]) c27r6) ⟨L, m⟩ Q := Tx_told (by kernel_rfl) h
theorem t27r7 {F : Oracle} {L : List (Nat × CV)} {m : Mem} {Q : CE → TS → Prop} (h :
    Obt (lenS (tget L 6)) fun a0 => 
    Obt (cbin Try.prog .sub 3 (.tmp 33) (.const (.int .i64 1)) a0 (.int .i64 1)) fun a1 => 
    Obt (slcX 1 (tget L 6) none (some a1) none m) fun a2 => Q .normal ⟨[(0, (tget L 0)), (1, (tget L 1)), (5, (tget L 5)), (6, a2), (7, (tget L 7))], m⟩) :
    Tx Try.prog An F 27 (.reg false (some [0, 1, 5, 6, 7]) c27r7) ⟨L, m⟩ Q := Tx_told (by kernel_rfl) h
theorem t27r8 {F : Oracle} {L : List (Nat × CV)} {m : Mem} {Q : CE → TS → Prop} (h :
    Obt (idxS 1 (tget L 5) (tget L 7)) fun a0 => 
    Obt (ld1 m a0) fun a1 => Q .normal ⟨[(0, (tget L 0)), (1, (tget L 1)), (5, (tget L 5)), (6, (tget L 6)), (7, (tget L 7)), (39, a1)], m⟩) :
    Tx Try.prog An F 27 (.reg false (some [0, 1, 5, 6, 7, 39]) c27r8) ⟨L, m⟩ Q := Tx_told (by kernel_rfl) h
theorem t27r9 {F : Oracle} {L : List (Nat × CV)} {m : Mem} {Q : CE → TS → Prop} (h :
    Obt (idxS 1 (tget L 5) (tget L 7)) fun a0 => 
    Obt (stX 1 m a0 (.bool true)) fun a1 => Q .normal ⟨[(0, (tget L 0)), (1, (tget L 1)), (5, (tget L 5)), (6, (tget L 6)), (7, (tget L 7))], a1⟩) :
    Tx Try.prog An F 27 (.reg false (some [0, 1, 5, 6, 7]) c27r9) ⟨L, m⟩ Q := Tx_told (by kernel_rfl) h
theorem t27r10 {F : Oracle} {L : List (Nat × CV)} {m : Mem} {Q : CE → TS → Prop} (h :
    Q .normal ⟨[(0, (tget L 0)), (1, (tget L 1)), (5, (tget L 5)), (6, (tget L 6)), (7, (tget L 7)), (8, (.int .i64 0))], m⟩) :
    Tx Try.prog An F 27 (.reg false (some [0, 1, 5, 6, 7, 8]) c27r10) ⟨L, m⟩ Q := Tx_told (by kernel_rfl) h
theorem t27r11 {F : Oracle} {L : List (Nat × CV)} {m : Mem} {Q : CE → TS → Prop} (h :
    Obt (idxS 1 (tget L 0) (tget L 7)) fun a0 => 
    Obt (ld1 m a0) fun a1 => 
    Obt (lenS a1) fun a2 => 
    Obt (cbin Try.prog .lss 3 (.tmp 43) (.tmp 48) (tget L 8) a2) fun a3 => Q .normal ⟨[(0, (tget L 0)), (1, (tget L 1)), (5, (tget L 5)), (6, (tget L 6)), (7, (tget L 7)), (8, (tget L 8)), (49, a3)], m⟩) :
    Tx Try.prog An F 27 (.reg false (some [0, 1, 5, 6, 7, 8, 49]) c27r11) ⟨L, m⟩ Q := Tx_told (by kernel_rfl) h
theorem t27r13 {F : Oracle} {L : List (Nat × CV)} {m : Mem} {Q : CE → TS → Prop} (h :
    Obt (idxS 1 (tget L 0) (tget L 7)) fun a0 => 
    Obt (ld1 m a0) fun a1 => 
    Obt (idxS 1 a1 (tget L 8)) fun a2 => 
    Obt (ld1 m a2) fun a3 => Q .normal ⟨[(0, (tget L 0)), (1, (tget L 1)), (5, (tget L 5)), (6, (tget L 6)), (7, (tget L 7)), (8, (tget L 8)), (9, a3)], m⟩) :
    Tx Try.prog An F 27 (.reg false (some [0, 1, 5, 6, 7, 8, 9]) c27r13) ⟨L, m⟩ Q := Tx_told (by kernel_rfl) h
theorem t27r14 {F : Oracle} {L : List (Nat × CV)} {m : Mem} {Q : CE → TS → Prop} (h :
    Obt (cbin Try.prog .geq 3 (.tmp 59) (.const (.int .i64 0)) (tget L 9) (.int .i64 0)) fun a0 => 
    Obt (gdO a0 true (some ((tget L 9), m)) (.tuple [], m)) fun a1 => 
    Obt (gdO a0 true (some ((tget L 0), a1.2)) (.tuple [], a1.2)) fun a2 => 
    Obt (gdO a0 true ((lenS a2.1).map fun v => (v, a2.2)) (.tuple [], a2.2)) fun a3 => 
    Obt (gdO a0 true ((cbin Try.prog .lss 3 (.tmp 62) (.tmp 64) a1.1 a3.1).map fun v => (v, a3.2)) (.tuple [], a3.2)) fun a4 => 
    Obt (pickX a0 a4.1 (.bool false)) fun a5 => 
    Obt (gdO a5 true (some ((tget L 9), a4.2)) (.tuple [], a4.2)) fun a6 => 
    Obt (gdO a5 true (some ((tget L 1), a6.2)) (.tuple [], a6.2)) fun a7 => 
    Obt (gdO a5 true ((cbin Try.prog .neq 3 (.tmp 68) (.tmp 69) a6.1 a7.1).map fun v => (v, a7.2)) (.tuple [], a7.2)) fun a8 => 
    Obt (pickX a5 a8.1 (.bool false)) fun a9 => Q .normal ⟨[(0, (tget L 0)), (1, (tget L 1)), (5, (tget L 5)), (6, (tget L 6)), (7, (tget L 7)), (8, (tget L 8)), (9, (tget L 9)), (71, a9)], a8.2⟩) :
    Tx Try.prog An F 27 (.reg false (some [0, 1, 5, 6, 7, 8, 9, 71]) c27r14) ⟨L, m⟩ Q := Tx_told (by kernel_rfl) h
theorem t27r15 {F : Oracle} {L : List (Nat × CV)} {m : Mem} {Q : CE → TS → Prop} (h :
    Obt (bslX false 1184 1 1 [.int .i64 0] [(0, 1, (tget L 9))] m) fun a0 => 
    Obt (appX false 1200 1 8 (tget L 6) a0.1 a0.2) fun a1 => Q .normal ⟨[(0, (tget L 0)), (1, (tget L 1)), (5, (tget L 5)), (6, a1.1), (7, (tget L 7)), (8, (tget L 8))], a1.2⟩) :
    Tx Try.prog An F 27 (.reg false (some [0, 1, 5, 6, 7, 8]) c27r15) ⟨L, m⟩ Q := Tx_told (by kernel_rfl) h
theorem t27r12 {F : Oracle} {L : List (Nat × CV)} {m : Mem} {Q : CE → TS → Prop} (h :
    Obt (cbin Try.prog .add 3 (.tmp 50) (.const (.int .i64 1)) (tget L 8) (.int .i64 1)) fun a0 => Q .normal ⟨[(0, (tget L 0)), (1, (tget L 1)), (5, (tget L 5)), (6, (tget L 6)), (7, (tget L 7)), (8, a0)], m⟩) :
    Tx Try.prog An F 27 (.reg false (some [0, 1, 5, 6, 7, 8]) c27r12) ⟨L, m⟩ Q := Tx_told (by kernel_rfl) h
theorem t27r16 {F : Oracle} {L : List (Nat × CV)} {m : Mem} {Q : CE → TS → Prop} (h :
    Q .normal ⟨[(4, (tget L 5))], m⟩) :
    Tx Try.prog An F 27 (.reg false (some [4]) c27r16) ⟨L, m⟩ Q := Tx_told (by kernel_rfl) h
end Go.Cm
