import Derived.Test.YthjkmonenenlmaaDyW
set_option linter.unusedSimpArgs false
set_option linter.unusedVariables false
namespace Go.Cm
open Go.Proofs
-- clevis/clevislaw15.DomOrders
def c5r0 : List SO :=
  [⟨(some 2), (.assign (.const (.bool false))), none⟩]
def c5r1 : List SO :=
  [⟨(some 6), (.move (.tmp 0)), none⟩,
   ⟨(some 7), (.call ⟨(.value (.func 8)), #[(.tmp 6)], #[22]⟩), none⟩,
   ⟨(some 8), (.unOp .not 4 (.tmp 7)), none⟩]
def c5r2 : List SO :=
  [⟨(some 9), (.call ⟨(.value (.func 9)), #[], #[]⟩), none⟩,
   ⟨(some 2), (.assign (.tmp 9)), none⟩]
def c5r3 : List SO :=
  [⟨(some 10), (.move (.tmp 0)), none⟩,
   ⟨(some 11), (.call ⟨(.value (.func 10)), #[(.tmp 10)], #[22]⟩), none⟩,
   ⟨(some 12), (.move (.tmp 0)), none⟩,
   ⟨(some 13), (.call ⟨(.value (.func 18)), #[(.tmp 12)], #[22]⟩), none⟩,
   ⟨(some 3), (.assign (.tmp 11)), none⟩,
   ⟨(some 4), (.assign (.tmp 13)), none⟩]
def c5r4 : List SO :=
  [⟨(some 14), (.move (.tmp 3)), none⟩,
   ⟨(some 15), (.call ⟨(.builtin .len), #[(.tmp 14)], #[25]⟩), none⟩,
   ⟨(some 16), (.move (.tmp 4)), none⟩,
   ⟨(some 17), (.call ⟨(.builtin .len), #[(.tmp 16)], #[25]⟩), none⟩,
   ⟨(some 18), (.binOp .neq 3 (.tmp 15) (.tmp 17) 3), none⟩]
def c5r5 : List SO :=
  [⟨(some 2), (.assign (.const (.bool false))), none⟩]
def c5r6 : List SO :=
  [⟨(some 5), (.assign (.const (.int .i64 0))), none⟩]
def c5r7 : List SO :=
  [⟨(some 19), (.move (.tmp 5)), none⟩,
   ⟨(some 20), (.move (.tmp 3)), none⟩,
   ⟨(some 21), (.call ⟨(.builtin .len), #[(.tmp 20)], #[25]⟩), none⟩,
   ⟨(some 22), (.binOp .lss 3 (.tmp 19) (.tmp 21) 3), none⟩]
def c5r9 : List SO :=
  [⟨(some 25), (.move (.tmp 3)), none⟩,
   ⟨(some 26), (.move (.tmp 5)), none⟩,
   ⟨(some 27), (.indexAddr 25 (.tmp 25) (.tmp 26)), none⟩,
   ⟨(some 28), (.load 4 (.tmp 27)), none⟩,
   ⟨(some 29), (.move (.tmp 4)), none⟩,
   ⟨(some 30), (.move (.tmp 5)), none⟩,
   ⟨(some 31), (.indexAddr 25 (.tmp 29) (.tmp 30)), none⟩,
   ⟨(some 32), (.load 4 (.tmp 31)), none⟩,
   ⟨(some 33), (.binOp .neq 4 (.tmp 28) (.tmp 32) 4), none⟩]
def c5r10 : List SO :=
  [⟨(some 2), (.assign (.const (.bool false))), none⟩]
def c5r8 : List SO :=
  [⟨(some 23), (.move (.tmp 5)), none⟩,
   ⟨(some 24), (.binOp .add 3 (.tmp 23) (.const (.int .i64 1)) 3), none⟩,
   ⟨(some 5), (.assign (.tmp 24)), none⟩]
def c5l0 : SC :=
  (.seq (.seq (.reg false (some [0, 3, 4, 5, 22]) c5r7) (.cond (.tmp 22) .nop (.exit 0))) (.seq (.block 1 (.seq (.reg true (some [0, 3, 4, 5, 33]) c5r9) (.cond (.tmp 33) (.seq (.reg false (some [2]) c5r10) .ret) .nop))) (.reg false (some [0, 3, 4, 5]) c5r8)))
def c5r11 : List SO :=
  [⟨(some 34), (.move (.tmp 0)), none⟩,
   ⟨(some 35), (.call ⟨(.value (.func 19)), #[(.tmp 34)], #[22]⟩), none⟩,
   ⟨(some 36), (.move (.tmp 0)), none⟩,
   ⟨(some 37), (.call ⟨(.value (.func 20)), #[(.tmp 36)], #[22]⟩), none⟩,
   ⟨(some 38), (.call ⟨(.value (.func 15)), #[(.tmp 35), (.tmp 37)], #[27, 27]⟩), none⟩,
   ⟨(some 39), (.move (.tmp 38)), none⟩,
   ⟨(some 40), (.call ⟨(.value (.func 9)), #[], #[]⟩), (some (39, true))⟩,
   ⟨(some 41), (.pick (.tmp 39) (.tmp 40) (.const (.bool false))), none⟩,
   ⟨(some 2), (.assign (.tmp 41)), none⟩]
def c5 : SC :=
  (.seq (.reg false (some [0]) c5r0) (.seq (.seq (.reg false (some [0, 8]) c5r1) (.cond (.tmp 8) (.seq (.reg false (some [2]) c5r2) .ret) .nop)) (.seq (.reg false (some [0, 3, 4]) c5r3) (.seq (.seq (.reg false (some [0, 3, 4, 18]) c5r4) (.cond (.tmp 18) (.seq (.reg false (some [2]) c5r5) .ret) .nop)) (.seq (.seq (.reg false (some [0, 3, 4, 5]) c5r6) (.block 0 (.loop c5l0))) (.seq (.reg false (some [2]) c5r11) .ret))))))
theorem s5 : Try.f5.body.bind (strip Try.prog An 5 Try.f5.ntmps) = some c5 := by kernel_rfl
theorem g5 : An.glob 5 = [37] := rfl
theorem r5 : Try.f5.results.toList = [(.tmp 2)] := by kernel_rfl
theorem t5r0 {F : Oracle} {L : List (Nat × CV)} {m : Mem} {Q : CE → TS → Prop} (h :
    Q .normal ⟨[(0, (tget L 0))], m⟩) :
    Tx Try.prog An F 5 (.reg false (some [0]) c5r0) ⟨L, m⟩ Q := Tx_told (by kernel_rfl) h
theorem t5r1 {F : Oracle} {L : List (Nat × CV)} {m : Mem} {Q : CE → TS → Prop} (h :
    Obt (callC An F 5 (some 7) 8 [(tget L 0)] m) fun a0 => 
    Obt (cun .not a0.1) fun a1 => Q .normal ⟨[(0, (tget L 0)), (8, a1)], a0.2⟩) :
    Tx Try.prog An F 5 (.reg false (some [0, 8]) c5r1) ⟨L, m⟩ Q := Tx_told (by kernel_rfl) h
theorem t5r2 {F : Oracle} {L : List (Nat × CV)} {m : Mem} {Q : CE → TS → Prop} (h :
    Obt (callC An F 5 (some 9) 9 [] m) fun a0 => Q .normal ⟨[(2, a0.1)], a0.2⟩) :
    Tx Try.prog An F 5 (.reg false (some [2]) c5r2) ⟨L, m⟩ Q := Tx_told (by kernel_rfl) h
theorem t5r3 {F : Oracle} {L : List (Nat × CV)} {m : Mem} {Q : CE → TS → Prop} (h :
    Obt (callC An F 5 (some 11) 10 [(tget L 0)] m) fun a0 => 
    Obt (callC An F 5 (some 13) 18 [(tget L 0)] a0.2) fun a1 => Q .normal ⟨[(0, (tget L 0)), (3, a0.1), (4, a1.1)], a1.2⟩) :
    Tx Try.prog An F 5 (.reg false (some [0, 3, 4]) c5r3) ⟨L, m⟩ Q := Tx_told (by kernel_rfl) h
theorem t5r4 {F : Oracle} {L : List (Nat × CV)} {m : Mem} {Q : CE → TS → Prop} (h :
    Obt (lenS (tget L 3)) fun a0 => 
    Obt (lenS (tget L 4)) fun a1 => 
    Obt (cbin Try.prog .neq 3 (.tmp 15) (.tmp 17) a0 a1) fun a2 => Q .normal ⟨[(0, (tget L 0)), (3, (tget L 3)), (4, (tget L 4)), (18, a2)], m⟩) :
    Tx Try.prog An F 5 (.reg false (some [0, 3, 4, 18]) c5r4) ⟨L, m⟩ Q := Tx_told (by kernel_rfl) h
theorem t5r5 {F : Oracle} {L : List (Nat × CV)} {m : Mem} {Q : CE → TS → Prop} (h :
    Q .normal ⟨[(2, (.bool false))], m⟩) :
    Tx Try.prog An F 5 (.reg false (some [2]) c5r5) ⟨L, m⟩ Q := Tx_told (by kernel_rfl) h
theorem t5r6 {F : Oracle} {L : List (Nat × CV)} {m : Mem} {Q : CE → TS → Prop} (h :
    Q .normal ⟨[(0, (tget L 0)), (3, (tget L 3)), (4, (tget L 4)), (5, (.int .i64 0))], m⟩) :
    Tx Try.prog An F 5 (.reg false (some [0, 3, 4, 5]) c5r6) ⟨L, m⟩ Q := Tx_told (by kernel_rfl) h
theorem t5r7 {F : Oracle} {L : List (Nat × CV)} {m : Mem} {Q : CE → TS → Prop} (h :
    Obt (lenS (tget L 3)) fun a0 => 
    Obt (cbin Try.prog .lss 3 (.tmp 19) (.tmp 21) (tget L 5) a0) fun a1 => Q .normal ⟨[(0, (tget L 0)), (3, (tget L 3)), (4, (tget L 4)), (5, (tget L 5)), (22, a1)], m⟩) :
    Tx Try.prog An F 5 (.reg false (some [0, 3, 4, 5, 22]) c5r7) ⟨L, m⟩ Q := Tx_told (by kernel_rfl) h
theorem t5r9 {F : Oracle} {L : List (Nat × CV)} {m : Mem} {Q : CE → TS → Prop} (h :
    Obt (idxS 1 (tget L 3) (tget L 5)) fun a0 => 
    Obt (ld1 m a0) fun a1 => 
    Obt (idxS 1 (tget L 4) (tget L 5)) fun a2 => 
    Obt (ld1 m a2) fun a3 => 
    Obt (cbin Try.prog .neq 4 (.tmp 28) (.tmp 32) a1 a3) fun a4 => Q .normal ⟨[(0, (tget L 0)), (3, (tget L 3)), (4, (tget L 4)), (5, (tget L 5)), (33, a4)], m⟩) :
    Tx Try.prog An F 5 (.reg true (some [0, 3, 4, 5, 33]) c5r9) ⟨L, m⟩ Q := Tx_told (by kernel_rfl) h
theorem t5r10 {F : Oracle} {L : List (Nat × CV)} {m : Mem} {Q : CE → TS → Prop} (h :
    Q .normal ⟨[(2, (.bool false))], m⟩) :
    Tx Try.prog An F 5 (.reg false (some [2]) c5r10) ⟨L, m⟩ Q := Tx_told (by kernel_rfl) h
theorem t5r8 {F : Oracle} {L : List (Nat × CV)} {m : Mem} {Q : CE → TS → Prop} (h :
    Obt (cbin Try.prog .add 3 (.tmp 23) (.const (.int .i64 1)) (tget L 5) (.int .i64 1)) fun a0 => Q .normal ⟨[(0, (tget L 0)), (3, (tget L 3)), (4, (tget L 4)), (5, a0)], m⟩) :
    Tx Try.prog An F 5 (.reg false (some [0, 3, 4, 5]) c5r8) ⟨L, m⟩ Q := Tx_told (by kernel_rfl) h
theorem t5r11 {F : Oracle} {L : List (Nat × CV)} {m : Mem} {Q : CE → TS → Prop} (h :
    Obt (callC An F 5 (some 35) 19 [(tget L 0)] m) fun a0 => 
    Obt (callC An F 5 (some 37) 20 [(tget L 0)] a0.2) fun a1 => 
    Obt (callC An F 5 (some 38) 15 [a0.1, a1.1] a1.2) fun a2 => 
    Obt (gdO a2.1 true (callC An F 5 (some 40) 9 [] a2.2) (.tuple [], a2.2)) fun a3 => 
    Obt (pickX a2.1 a3.1 (.bool false)) fun a4 => Q .normal ⟨[(2, a4)], a3.2⟩) :
    Tx Try.prog An F 5 (.reg false (some [2]) c5r11) ⟨L, m⟩ Q := Tx_told (by kernel_rfl) h
-- clevis/clevisref04.Ints
def c15r0 : List SO :=
  [⟨(some 4), (.assign (.const (.bool false))), none⟩]
def c15r1 : List SO :=
  [⟨(some 6), (.move (.tmp 0)), none⟩,
   ⟨(some 7), (.call ⟨(.builtin .len), #[(.tmp 6)], #[27]⟩), none⟩,
   ⟨(some 8), (.move (.tmp 1)), none⟩,
   ⟨(some 9), (.call ⟨(.builtin .len), #[(.tmp 8)], #[27]⟩), none⟩,
   ⟨(some 10), (.binOp .neq 3 (.tmp 7) (.tmp 9) 3), none⟩]
def c15r2 : List SO :=
  [⟨(some 4), (.assign (.const (.bool false))), none⟩]
def c15r3 : List SO :=
  [⟨(some 5), (.assign (.const (.int .i64 0))), none⟩]
def c15r4 : List SO :=
  [⟨(some 11), (.move (.tmp 5)), none⟩,
   ⟨(some 12), (.move (.tmp 0)), none⟩,
   ⟨(some 13), (.call ⟨(.builtin .len), #[(.tmp 12)], #[27]⟩), none⟩,
   ⟨(some 14), (.binOp .lss 3 (.tmp 11) (.tmp 13) 3), none⟩]
def c15r6 : List SO :=
  [⟨(some 17), (.move (.tmp 0)), none⟩,
   ⟨(some 18), (.move (.tmp 5)), none⟩,
   ⟨(some 19), (.indexAddr 27 (.tmp 17) (.tmp 18)), none⟩,
   ⟨(some 20), (.load 3 (.tmp 19)), none⟩,
   ⟨(some 21), (.move (.tmp 1)), none⟩,
   ⟨(some 22), (.move (.tmp 5)), none⟩,
   ⟨(some 23), (.indexAddr 27 (.tmp 21) (.tmp 22)), none⟩,
   ⟨(some 24), (.load 3 (.tmp 23)), none⟩,
   ⟨(some 25), (.binOp .neq 3 (.tmp 20) (.tmp 24) 3), none⟩]
def c15r7 : List SO :=
  [⟨(some 4), (.assign (.const (.bool false))), none⟩]
def c15r5 : List SO :=
  [⟨(some 15), (.move (.tmp 5)), none⟩,
   ⟨(some 16), (.binOp .add 3 (.tmp 15) (.const (.int .i64 1)) 3), none⟩,
   ⟨(some 5), (.assign (.tmp 16)), none⟩]
def c15l0 : SC :=
  (.seq (.seq (.reg false (some [0, 1, 5, 14]) c15r4) (.cond (.tmp 14) .nop (.exit 0))) (.seq (.block 1 (.seq (.reg true (some [0, 1, 5, 25]) c15r6) (.cond (.tmp 25) (.seq (.reg false (some [4]) c15r7) .ret) .nop))) (.reg false (some [0, 1, 5]) c15r5)))
def c15r8 : List SO :=
  [⟨(some 4), (.assign (.const (.bool true))), none⟩]
def c15 : SC :=
  (.seq (.reg false (some [0, 1]) c15r0) (.seq (.seq (.reg false (some [0, 1, 10]) c15r1) (.cond (.tmp 10) (.seq (.reg false (some [4]) c15r2) .ret) .nop)) (.seq (.seq (.reg false (some [0, 1, 5]) c15r3) (.block 0 (.loop c15l0))) (.seq (.reg false (some [4]) c15r8) .ret))))
theorem s15 : Try.f15.body.bind (strip Try.prog An 15 Try.f15.ntmps) = some c15 := by kernel_rfl
theorem g15 : An.glob 15 = [] := rfl
theorem r15 : Try.f15.results.toList = [(.tmp 4)] := by kernel_rfl
theorem t15r0 {F : Oracle} {L : List (Nat × CV)} {m : Mem} {Q : CE → TS → Prop} (h :
    Q .normal ⟨[(0, (tget L 0)), (1, (tget L 1))], m⟩) :
    Tx Try.prog An F 15 (.reg false (some [0, 1]) c15r0) ⟨L, m⟩ Q := Tx_told (by kernel_rfl) h
theorem t15r1 {F : Oracle} {L : List (Nat × CV)} {m : Mem} {Q : CE → TS → Prop} (h :
    Obt (lenS (tget L 0)) fun a0 => 
    Obt (lenS (tget L 1)) fun a1 => 
    Obt (cbin Try.prog .neq 3 (.tmp 7) (.tmp 9) a0 a1) fun a2 => Q .normal ⟨[(0, (tget L 0)), (1, (tget L 1)), (10, a2)], m⟩) :
    Tx Try.prog An F 15 (.reg false (some [0, 1, 10]) c15r1) ⟨L, m⟩ Q := Tx_told (by kernel_rfl) h
theorem t15r2 {F : Oracle} {L : List (Nat × CV)} {m : Mem} {Q : CE → TS → Prop} (h :
    Q .normal ⟨[(4, (.bool false))], m⟩) :
    Tx Try.prog An F 15 (.reg false (some [4]) c15r2) ⟨L, m⟩ Q := Tx_told (by kernel_rfl) h
theorem t15r3 {F : Oracle} {L : List (Nat × CV)} {m : Mem} {Q : CE → TS → Prop} (h :
    Q .normal ⟨[(0, (tget L 0)), (1, (tget L 1)), (5, (.int .i64 0))], m⟩) :
    Tx Try.prog An F 15 (.reg false (some [0, 1, 5]) c15r3) ⟨L, m⟩ Q := Tx_told (by kernel_rfl) h
theorem t15r4 {F : Oracle} {L : List (Nat × CV)} {m : Mem} {Q : CE → TS → Prop} (h :
    Obt (lenS (tget L 0)) fun a0 => 
    Obt (cbin Try.prog .lss 3 (.tmp 11) (.tmp 13) (tget L 5) a0) fun a1 => Q .normal ⟨[(0, (tget L 0)), (1, (tget L 1)), (5, (tget L 5)), (14, a1)], m⟩) :
    Tx Try.prog An F 15 (.reg false (some [0, 1, 5, 14]) c15r4) ⟨L, m⟩ Q := Tx_told (by kernel_rfl) h
theorem t15r6 {F : Oracle} {L : List (Nat × CV)} {m : Mem} {Q : CE → TS → Prop} (h :
    Obt (idxS 1 (tget L 0) (tget L 5)) fun a0 => 
    Obt (ld1 m a0) fun a1 => 
    Obt (idxS 1 (tget L 1) (tget L 5)) fun a2 => 
    Obt (ld1 m a2) fun a3 => 
    Obt (cbin Try.prog .neq 3 (.tmp 20) (.tmp 24) a1 a3) fun a4 => Q .normal ⟨[(0, (tget L 0)), (1, (tget L 1)), (5, (tget L 5)), (25, a4)], m⟩) :
    Tx Try.prog An F 15 (.reg true (some [0, 1, 5, 25]) c15r6) ⟨L, m⟩ Q := Tx_told (by kernel_rfl) h
theorem t15r7 {F : Oracle} {L : List (Nat × CV)} {m : Mem} {Q : CE → TS → Prop} (h :
    Q .normal ⟨[(4, (.bool false))], m⟩) :
    Tx Try.prog An F 15 (.reg false (some [4]) c15r7) ⟨L, m⟩ Q := Tx_told (by kernel_rfl) h
theorem t15r5 {F : Oracle} {L : List (Nat × CV)} {m : Mem} {Q : CE → TS → Prop} (h :
    Obt (cbin Try.prog .add 3 (.tmp 15) (.const (.int .i64 1)) (tget L 5) (.int .i64 1)) fun a0 => Q .normal ⟨[(0, (tget L 0)), (1, (tget L 1)), (5, a0)], m⟩) :
    Tx Try.prog An F 15 (.reg false (some [0, 1, 5]) c15r5) ⟨L, m⟩ Q := Tx_told (by kernel_rfl) h
theorem t15r8 {F : Oracle} {L : List (Nat × CV)} {m : Mem} {Q : CE → TS → Prop} (h :
    Q .normal ⟨[(4, (.bool true))], m⟩) :
    Tx Try.prog An F 15 (.reg false (some [4]) c15r8) ⟨L, m⟩ Q := Tx_told (by kernel_rfl) h
-- clevis/clevisref15.Order
def c20r0 : List SO :=
  [⟨(some 2), (.assign (.const (.slice none 0 0))), none⟩]
def c20r1 : List SO :=
  [⟨(some 6), (.move (.tmp 0)), none⟩,
   ⟨(some 7), (.move (.tmp 0)), none⟩,
   ⟨(some 8), (.call ⟨(.builtin .len), #[(.tmp 7)], #[22]⟩), none⟩,
   ⟨(some 9), (.makeSlice 25 (.tmp 8) (.tmp 8)), none⟩,
   ⟨(some 10), (.build 47 #[(0, (.tmp 6)), (1, (.tmp 9))]), none⟩,
   ⟨(some 11), (.box 47 (.tmp 10)), none⟩,
   ⟨(some 3), (.assign (.tmp 11)), none⟩]
def c20r2 : List SO :=
  [⟨(some 12), (.move (.tmp 3)), none⟩,
   ⟨(some 13), (.call ⟨(.value (.func 31)), #[(.tmp 12), (.const (.int .i64 0))], #[45, 3]⟩), none⟩]
def c20r3 : List SO :=
  [⟨(some 4), (.assign (.const (.slice none 0 0))), none⟩]
def c20r4 : List SO :=
  [⟨(some 14), (.move (.tmp 3)), none⟩,
   ⟨(some 15), (.nilCheck (.tmp 14)), none⟩,
   ⟨(some 16), (.fieldAddr 47 (.tmp 15) 2), none⟩,
   ⟨(some 17), (.load 27 (.tmp 16)), none⟩,
   ⟨(some 18), (.call ⟨(.builtin .len), #[(.tmp 17)], #[27]⟩), none⟩,
   ⟨(some 19), (.binOp .sub 3 (.tmp 18) (.const (.int .i64 1)) 3), none⟩,
   ⟨(some 5), (.assign (.tmp 19)), none⟩]
def c20r5 : List SO :=
  [⟨(some 20), (.move (.tmp 5)), none⟩,
   ⟨(some 21), (.binOp .geq 3 (.tmp 20) (.const (.int .i64 0)) 3), none⟩]
def c20r7 : List SO :=
  [⟨(some 24), (.move (.tmp 4)), none⟩,
   ⟨(some 25), (.move (.tmp 3)), none⟩,
   ⟨(some 26), (.nilCheck (.tmp 25)), none⟩,
   ⟨(some 27), (.fieldAddr 47 (.tmp 26) 2), none⟩,
   ⟨(some 28), (.load 27 (.tmp 27)), none⟩,
   ⟨(some 29), (.move (.tmp 5)), none⟩,
   ⟨(some 30), (.indexAddr 27 (.tmp 28) (.tmp 29)), none⟩,
   ⟨(some 31), (.load 3 (.tmp 30)), none⟩,
   ⟨(some 32), (.buildSlice 27 1 #[(0, (.tmp 31))]), none⟩,
   ⟨(some 33), (.call ⟨(.builtin .append), #[(.tmp 24), (.tmp 32)], #[27, 27]⟩), none⟩,
   ⟨(some 4), (.assign (.tmp 33)), none⟩]
def c20r6 : List SO :=
  [⟨(some 22), (.move (.tmp 5)), none⟩,
   ⟨(some 23), (.binOp .sub 3 (.tmp 22) (.const (.int .i64 1)) 3), none⟩,
   ⟨(some 5), (.assign (.tmp 23)), none⟩]
def c20l0 : SC :=
  (.seq (.seq (.reg false (some [3, 4, 5, 21]) c20r5) (.cond (.tmp 21) .nop (.exit 0))) (.seq (.block 1 (.reg false (some [3, 4, 5]) c20r7)) (.reg false (some [3, 4, 5]) c20r6)))
def c20r8 : List SO :=
  [⟨(some 34), (.move (.tmp 4)), none⟩,
   ⟨(some 2), (.assign (.tmp 34)), none⟩]
def c20 : SC :=
  (.seq (.reg false (some [0]) c20r0) (.seq (.reg false (some [3]) c20r1) (.seq (.reg false (some [3]) c20r2) (.seq (.reg false (some [3, 4]) c20r3) (.seq (.seq (.reg false (some [3, 4, 5]) c20r4) (.block 0 (.loop c20l0))) (.seq (.reg false (some [2]) c20r8) .ret))))))
theorem s20 : Try.f20.body.bind (strip Try.prog An 20 Try.f20.ntmps) = some c20 := by kernel_rfl
theorem g20 : An.glob 20 = [9, 11] := rfl
theorem r20 : Try.f20.results.toList = [(.tmp 2)] := by kernel_rfl
theorem t20r0 {F : Oracle} {L : List (Nat × CV)} {m : Mem} {Q : CE → TS → Prop} (h :
    Q .normal ⟨[(0, (tget L 0))], m⟩) :
    Tx Try.prog An F 20 (.reg false (some [0]) c20r0) ⟨L, m⟩ Q := Tx_told (by kernel_rfl) h
theorem t20r1 {F : Oracle} {L : List (Nat × CV)} {m : Mem} {Q : CE → TS → Prop} (h :
    Obt (lenS (tget L 0)) fun a0 => 
    Obt (mkX true 144 1 1 [.bool false] a0 a0 m) fun a1 => 
    Obt ((fillX [.nil, .nil, .nil] [(0, 1, (tget L 0)), (1, 1, a1.1)]).map CV.agg) fun a2 => 
    Obt (boxG a2 a1.2) fun a3 => Q .normal ⟨[(3, a3.1)], a3.2⟩) :
    Tx Try.prog An F 20 (.reg false (some [3]) c20r1) ⟨L, m⟩ Q := Tx_told (by kernel_rfl) h
theorem t20r2 {F : Oracle} {L : List (Nat × CV)} {m : Mem} {Q : CE → TS → Prop} (h :
    Obt (callC An F 20 (some 13) 31 [(tget L 3), (.int .i64 0)] m) fun a0 => Q .normal ⟨[(3, (tget L 3))], a0.2⟩) :
    Tx Try.prog An F 20 (.reg false (some [3]) c20r2) ⟨L, m⟩ Q := Tx_told (by kernel_rfl) h
theorem t20r3 {F : Oracle} {L : List (Nat × CV)} {m : Mem} {Q : CE → TS → Prop} (h :
    Q .normal ⟨[(3, (tget L 3)), (4, .nil)], m⟩) :
    Tx Try.prog An F 20 (.reg false (some [3, 4]) c20r3) ⟨L, m⟩ Q := Tx_told (by kernel_rfl) h
theorem t20r4 {F : Oracle} {L : List (Nat × CV)} {m : Mem} {Q : CE → TS → Prop} (h :
    Obt (nilX (tget L 3)) fun a0 => 
    Obt (fldA 2 a0) fun a1 => 
    Obt (ld1 m a1) fun a2 => 
    Obt (lenS a2) fun a3 => 
    Obt (cbin Try.prog .sub 3 (.tmp 18) (.const (.int .i64 1)) a3 (.int .i64 1)) fun a4 => Q .normal ⟨[(3, (tget L 3)), (4, (tget L 4)), (5, a4)], m⟩) :
    Tx Try.prog An F 20 (.reg false (some [3, 4, 5]) c20r4) ⟨L, m⟩ Q := Tx_told (by kernel_rfl) h
theorem t20r5 {F : Oracle} {L : List (Nat × CV)} {m : Mem} {Q : CE → TS → Prop} (h :
    Obt (cbin Try.prog .geq 3 (.tmp 20) (.const (.int .i64 0)) (tget L 5) (.int .i64 0)) fun a0 => Q .normal ⟨[(3, (tget L 3)), (4, (tget L 4)), (5, (tget L 5)), (21, a0)], m⟩) :
    Tx Try.prog An F 20 (.reg false (some [3, 4, 5, 21]) c20r5) ⟨L, m⟩ Q := Tx_told (by kernel_rfl) h
theorem t20r7 {F : Oracle} {L : List (Nat × CV)} {m : Mem} {Q : CE → TS → Prop} (h :
    Obt (nilX (tget L 3)) fun a0 => 
    Obt (fldA 2 a0) fun a1 => 
    Obt (ld1 m a1) fun a2 => 
    Obt (idxS 1 a2 (tget L 5)) fun a3 => 
    Obt (ld1 m a3) fun a4 => 
    Obt (bslX false 512 1 1 [.int .i64 0] [(0, 1, a4)] m) fun a5 => 
    Obt (appX false 528 1 8 (tget L 4) a5.1 a5.2) fun a6 => Q .normal ⟨[(3, (tget L 3)), (4, a6.1), (5, (tget L 5))], a6.2⟩) :
    Tx Try.prog An F 20 (.reg false (some [3, 4, 5]) c20r7) ⟨L, m⟩ Q := Tx_told (by kernel_rfl) h
theorem t20r6 {F : Oracle} {L : List (Nat × CV)} {m : Mem} {Q : CE → TS → Prop} (h :
    Obt (cbin Try.prog .sub 3 (.tmp 22) (.const (.int .i64 1)) (tget L 5) (.int .i64 1)) fun a0 => Q .normal ⟨[(3, (tget L 3)), (4, (tget L 4)), (5, a0)], m⟩) :
    Tx Try.prog An F 20 (.reg false (some [3, 4, 5]) c20r6) ⟨L, m⟩ Q := Tx_told (by kernel_rfl) h
theorem t20r8 {F : Oracle} {L : List (Nat × CV)} {m : Mem} {Q : CE → TS → Prop} (h :
    Q .normal ⟨[(2, (tget L 4))], m⟩) :
    Tx Try.prog An F 20 (.reg false (some [2]) c20r8) ⟨L, m⟩ Q := Tx_told (by kernel_rfl) h
-- (*clevis/clevisref15.W).visit
def c31r0 : List SO :=
  [⟨(some 5), (.move (.tmp 1)), none⟩,
   ⟨(some 6), (.binOp .lss 3 (.tmp 5) (.const (.int .i64 0)) 3), none⟩,
   ⟨(some 7), (.move (.tmp 6)), none⟩,
   ⟨(some 8), (.move (.tmp 1)), (some (7, false))⟩,
   ⟨(some 9), (.move (.tmp 0)), (some (7, false))⟩,
   ⟨(some 10), (.nilCheck (.tmp 9)), (some (7, false))⟩,
   ⟨(some 11), (.fieldAddr 47 (.tmp 10) 0), (some (7, false))⟩,
   ⟨(some 12), (.load 22 (.tmp 11)), (some (7, false))⟩,
   ⟨(some 13), (.call ⟨(.builtin .len), #[(.tmp 12)], #[22]⟩), (some (7, false))⟩,
   ⟨(some 14), (.binOp .geq 3 (.tmp 8) (.tmp 13) 3), (some (7, false))⟩,
   ⟨(some 15), (.pick (.tmp 7) (.const (.bool true)) (.tmp 14)), none⟩,
   ⟨(some 16), (.move (.tmp 15)), none⟩,
   ⟨(some 17), (.move (.tmp 0)), (some (16, false))⟩,
   ⟨(some 18), (.nilCheck (.tmp 17)), (some (16, false))⟩,
   ⟨(some 19), (.fieldAddr 47 (.tmp 18) 1), (some (16, false))⟩,
   ⟨(some 20), (.load 25 (.tmp 19)), (some (16, false))⟩,
   ⟨(some 21), (.move (.tmp 1)), (some (16, false))⟩,
   ⟨(some 22), (.indexAddr 25 (.tmp 20) (.tmp 21)), (some (16, false))⟩,
   ⟨(some 23), (.load 4 (.tmp 22)), (some (16, false))⟩,
   ⟨(some 24), (.pick (.tmp 16) (.const (.bool true)) (.tmp 23)), none⟩]
def c31r1 : List SO :=
  [⟨(some 25), (.move (.tmp 0)), none⟩,
   ⟨(some 26), (.nilCheck (.tmp 25)), none⟩,
   ⟨(some 27), (.fieldAddr 47 (.tmp 26) 1), none⟩,
   ⟨(some 28), (.load 25 (.tmp 27)), none⟩,
   ⟨(some 29), (.move (.tmp 1)), none⟩,
   ⟨(some 30), (.indexAddr 25 (.tmp 28) (.tmp 29)), none⟩,
   ⟨none, (.store 4 (.tmp 30) (.const (.bool true))), none⟩]
def c31r2 : List SO :=
  [⟨(some 4), (.assign (.const (.int .i64 0))), none⟩]
def c31r3 : List SO :=
  [⟨(some 31), (.move (.tmp 4)), none⟩,
   ⟨(some 32), (.move (.tmp 0)), none⟩,
   ⟨(some 33), (.nilCheck (.tmp 32)), none⟩,
   ⟨(some 34), (.fieldAddr 47 (.tmp 33) 0), none⟩,
   ⟨(some 35), (.load 22 (.tmp 34)), none⟩,
   ⟨(some 36), (.move (.tmp 1)), none⟩,
   ⟨(some 37), (.indexAddr 22 (.tmp 35) (.tmp 36)), none⟩,
   ⟨(some 38), (.load 27 (.tmp 37)), none⟩,
   ⟨(some 39), (.call ⟨(.builtin .len), #[(.tmp 38)], #[27]⟩), none⟩,
   ⟨(some 40), (.binOp .lss 3 (.tmp 31) (.tmp 39) 3), none⟩]
def c31r5 : List SO :=
  [⟨(some 43), (.move (.tmp 0)), none⟩,
   ⟨(some 44), (.move (.tmp 0)), none⟩,
   ⟨(some 45), (.nilCheck (.tmp 44)), none⟩,
   ⟨(some 46), (.fieldAddr 47 (.tmp 45) 0), none⟩,
   ⟨(some 47), (.load 22 (.tmp 46)), none⟩,
   ⟨(some 48), (.move (.tmp 1)), none⟩,
   ⟨(some 49), (.indexAddr 22 (.tmp 47) (.tmp 48)), none⟩,
   ⟨(some 50), (.load 27 (.tmp 49)), none⟩,
   ⟨(some 51), (.move (.tmp 4)), none⟩,
   ⟨(some 52), (.indexAddr 27 (.tmp 50) (.tmp 51)), none⟩,
   ⟨(some 53), (.load 3 (.tmp 52)), none⟩,
   ⟨(some 54), (.call ⟨(.value (.func 31)), #[(.tmp 43), (.tmp 53)], #[45, 3]⟩), none⟩]
def c31r4 : List SO :=
  [⟨(some 41), (.move (.tmp 4)), none⟩,
   ⟨(some 42), (.binOp .add 3 (.tmp 41) (.const (.int .i64 1)) 3), none⟩,
   ⟨(some 4), (.assign (.tmp 42)), none⟩]
def c31l0 : SC :=
  (.seq (.seq (.reg false (some [0, 1, 4, 40]) c31r3) (.cond (.tmp 40) .nop (.exit 0))) (.seq (.block 1 (.reg false (some [0, 1, 4]) c31r5)) (.reg false (some [0, 1, 4]) c31r4)))
def c31r6 : List SO :=
  [⟨(some 55), (.move (.tmp 0)), none⟩,
   ⟨(some 56), (.move (.tmp 0)), none⟩,
   ⟨(some 57), (.nilCheck (.tmp 56)), none⟩,
   ⟨(some 58), (.fieldAddr 47 (.tmp 57) 2), none⟩,
   ⟨(some 59), (.load 27 (.tmp 58)), none⟩,
   ⟨(some 60), (.move (.tmp 1)), none⟩,
   ⟨(some 61), (.buildSlice 27 1 #[(0, (.tmp 60))]), none⟩,
   ⟨(some 62), (.call ⟨(.builtin .append), #[(.tmp 59), (.tmp 61)], #[27, 27]⟩), none⟩,
   ⟨(some 63), (.nilCheck (.tmp 55)), none⟩,
   ⟨(some 64), (.fieldAddr 47 (.tmp 63) 2), none⟩,
   ⟨none, (.store 27 (.tmp 64) (.tmp 62)), none⟩]
def c31 : SC :=
  (.seq (.seq (.reg false (some [0, 1, 24]) c31r0) (.cond (.tmp 24) .ret .nop)) (.seq (.reg false (some [0, 1]) c31r1) (.seq (.seq (.reg false (some [0, 1, 4]) c31r2) (.block 0 (.loop c31l0))) (.reg false (some []) c31r6))))
theorem s31 : Try.f31.body.bind (strip Try.prog An 31 Try.f31.ntmps) = some c31 := by kernel_rfl
theorem g31 : An.glob 31 = [62] := rfl
theorem r31 : Try.f31.results.toList = [] := by kernel_rfl
theorem t31r0 {F : Oracle} {L : List (Nat × CV)} {m : Mem} {Q : CE → TS → Prop} (h :
    Obt (cbin Try.prog .lss 3 (.tmp 5) (.const (.int .i64 0)) (tget L 1) (.int .i64 0)) fun a0 => 
    Obt (gdO a0 false (some ((tget L 1), m)) (.tuple [], m)) fun a1 => 
    Obt (gdO a0 false (some ((tget L 0), a1.2)) (.tuple [], a1.2)) fun a2 => 
    Obt (gdO a0 false ((nilX a2.1).map fun v => (v, a2.2)) (.tuple [], a2.2)) fun a3 => 
    Obt (gdO a0 false ((fldA 0 a3.1).map fun v => (v, a3.2)) (.tuple [], a3.2)) fun a4 => 
    Obt (gdO a0 false ((ld1 a4.2 a4.1).map fun v => (v, a4.2)) (.tuple [], a4.2)) fun a5 => 
    Obt (gdO a0 false ((lenS a5.1).map fun v => (v, a5.2)) (.tuple [], a5.2)) fun a6 => 
    Obt (gdO a0 false ((cbin Try.prog .geq 3 (.tmp 8) (.tmp 13) a1.1 a6.1).map fun v => (v, a6.2)) (.tuple [], a6.2)) fun a7 => 
    Obt (pickX a0 (.bool true) a7.1) fun a8 => 
    Obt (gdO a8 false (some ((tget L 0), a7.2)) (.tuple [], a7.2)) fun a9 => 
    Obt (gdO a8 false ((nilX a9.1).map fun v => (v, a9.2)) (.tuple [], a9.2)) fun a10 => 
    Obt (gdO a8 false ((fldA 1 a10.1).map fun v => (v, a10.2)) (.tuple [], a10.2)) fun a11 => 
    Obt (gdO a8 false ((ld1 a11.2 a11.1).map fun v => (v, a11.2)) (.tuple [], a11.2)) fun a12 => 
    Obt (gdO a8 false (some ((tget L 1), a12.2)) (.tuple [], a12.2)) fun a13 => 
    Obt (gdO a8 false ((idxS 1 a12.1 a13.1).map fun v => (v, a13.2)) (.tuple [], a13.2)) fun a14 => 
    Obt (gdO a8 false ((ld1 a14.2 a14.1).map fun v => (v, a14.2)) (.tuple [], a14.2)) fun a15 => 
    Obt (pickX a8 (.bool true) a15.1) fun a16 => Q .normal ⟨[(0, (tget L 0)), (1, (tget L 1)), (24, a16)], a15.2⟩) :
    Tx Try.prog An F 31 (.reg false (some [0, 1, 24]) c31r0) ⟨L, m⟩ Q := Tx_told (by kernel_rfl) h
theorem t31r1 {F : Oracle} {L : List (Nat × CV)} {m : Mem} {Q : CE → TS → Prop} (h :
    Obt (nilX (tget L 0)) fun a0 => 
    Obt (fldA 1 a0) fun a1 => 
    Obt (ld1 m a1) fun a2 => 
    Obt (idxS 1 a2 (tget L 1)) fun a3 => 
    Obt (stX 1 m a3 (.bool true)) fun a4 => Q .normal ⟨[(0, (tget L 0)), (1, (tget L 1))], a4⟩) :
    Tx Try.prog An F 31 (.reg false (some [0, 1]) c31r1) ⟨L, m⟩ Q := Tx_told (by kernel_rfl) h
theorem t31r2 {F : Oracle} {L : List (Nat × CV)} {m : Mem} {Q : CE → TS → Prop} (h :
    Q .normal ⟨[(0, (tget L 0)), (1, (tget L 1)), (4, (.int .i64 0))], m⟩) :
    Tx Try.prog An F 31 (.reg false (some [0, 1, 4]) c31r2) ⟨L, m⟩ Q := Tx_told (by kernel_rfl) h
theorem t31r3 {F : Oracle} {L : List (Nat × CV)} {m : Mem} {Q : CE → TS → Prop} (h :
    Obt (nilX (tget L 0)) fun a0 => 
    Obt (fldA 0 a0) fun a1 => 
    Obt (ld1 m a1) fun a2 => 
    Obt (idxS 1 a2 (tget L 1)) fun a3 => 
    Obt (ld1 m a3) fun a4 => 
    Obt (lenS a4) fun a5 => 
    Obt (cbin Try.prog .lss 3 (.tmp 31) (.tmp 39) (tget L 4) a5) fun a6 => Q .normal ⟨[(0, (tget L 0)), (1, (tget L 1)), (4, (tget L 4)), (40, a6)], m⟩) :
    Tx Try.prog An F 31 (.reg false (some [0, 1, 4, 40]) c31r3) ⟨L, m⟩ Q := Tx_told (by kernel_rfl) h
theorem t31r5 {F : Oracle} {L : List (Nat × CV)} {m : Mem} {Q : CE → TS → Prop} (h :
    Obt (nilX (tget L 0)) fun a0 => 
    Obt (fldA 0 a0) fun a1 => 
    Obt (ld1 m a1) fun a2 => 
    Obt (idxS 1 a2 (tget L 1)) fun a3 => 
    Obt (ld1 m a3) fun a4 => 
    Obt (idxS 1 a4 (tget L 4)) fun a5 => 
    Obt (ld1 m a5) fun a6 => 
    Obt (callC An F 31 (some 54) 31 [(tget L 0), a6] m) fun a7 => Q .normal ⟨[(0, (tget L 0)), (1, (tget L 1)), (4, (tget L 4))], a7.2⟩) :
    Tx Try.prog An F 31 (.reg false (some [0, 1, 4]) c31r5) ⟨L, m⟩ Q := Tx_told (by kernel_rfl) h
theorem t31r4 {F : Oracle} {L : List (Nat × CV)} {m : Mem} {Q : CE → TS → Prop} (h :
    Obt (cbin Try.prog .add 3 (.tmp 41) (.const (.int .i64 1)) (tget L 4) (.int .i64 1)) fun a0 => Q .normal ⟨[(0, (tget L 0)), (1, (tget L 1)), (4, a0)], m⟩) :
    Tx Try.prog An F 31 (.reg false (some [0, 1, 4]) c31r4) ⟨L, m⟩ Q := Tx_told (by kernel_rfl) h
theorem t31r6 {F : Oracle} {L : List (Nat × CV)} {m : Mem} {Q : CE → TS → Prop} (h :
    Obt (nilX (tget L 0)) fun a0 => 
    Obt (fldA 2 a0) fun a1 => 
    Obt (ld1 m a1) fun a2 => 
    Obt (bslX false 976 1 1 [.int .i64 0] [(0, 1, (tget L 1))] m) fun a3 => 
    Obt (appX true 992 1 8 a2 a3.1 a3.2) fun a4 => 
    Obt (nilX (tget L 0)) fun a5 => 
    Obt (fldA 2 a5) fun a6 => 
    Obt (stX 1 a4.2 a6 a4.1) fun a7 => Q .normal ⟨[], a7⟩) :
    Tx Try.prog An F 31 (.reg false (some []) c31r6) ⟨L, m⟩ Q := Tx_told (by kernel_rfl) h
end Go.Cm
