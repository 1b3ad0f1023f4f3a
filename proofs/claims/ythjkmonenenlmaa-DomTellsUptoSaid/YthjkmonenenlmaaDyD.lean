import Derived.Test.YthjkmonenenlmaaDyC
set_option linter.unusedSimpArgs false
set_option linter.unusedVariables false
namespace Go.Cm
open Go.Proofs
-- clevis/clevislaw15.DomTells
def c4r0 : List SO :=
  [⟨(some 6), (.assign (.const (.bool false))), none⟩]
def c4r1 : List SO :=
  [⟨(some 10), (.move (.tmp 0)), none⟩,
   ⟨(some 11), (.call ⟨(.value (.func 8)), #[(.tmp 10)], #[22]⟩), none⟩,
   ⟨(some 12), (.unOp .not 4 (.tmp 11)), none⟩]
def c4r2 : List SO :=
  [⟨(some 13), (.call ⟨(.value (.func 9)), #[], #[]⟩), none⟩,
   ⟨(some 6), (.assign (.tmp 13)), none⟩]
def c4r3 : List SO :=
  [⟨(some 14), (.move (.tmp 0)), none⟩,
   ⟨(some 15), (.call ⟨(.value (.func 12)), #[(.tmp 14)], #[22]⟩), none⟩,
   ⟨(some 16), (.move (.tmp 0)), none⟩,
   ⟨(some 17), (.call ⟨(.value (.func 13)), #[(.tmp 16)], #[22]⟩), none⟩,
   ⟨(some 7), (.assign (.tmp 15)), none⟩,
   ⟨(some 8), (.assign (.tmp 17)), none⟩]
def c4r4 : List SO :=
  [⟨(some 18), (.move (.tmp 7)), none⟩,
   ⟨(some 19), (.call ⟨(.builtin .len), #[(.tmp 18)], #[22]⟩), none⟩,
   ⟨(some 20), (.move (.tmp 8)), none⟩,
   ⟨(some 21), (.call ⟨(.builtin .len), #[(.tmp 20)], #[22]⟩), none⟩,
   ⟨(some 22), (.binOp .neq 3 (.tmp 19) (.tmp 21) 3), none⟩,
   ⟨(some 23), (.move (.tmp 22)), none⟩,
   ⟨(some 24), (.move (.tmp 0)), (some (23, false))⟩,
   ⟨(some 25), (.move (.tmp 1)), (some (23, false))⟩,
   ⟨(some 26), (.move (.tmp 2)), (some (23, false))⟩,
   ⟨(some 27), (.call ⟨(.value (.func 11)), #[(.tmp 24), (.tmp 25), (.tmp 26)], #[22, 3, 3]⟩), (some (23, false))⟩,
   ⟨(some 28), (.move (.tmp 0)), (some (23, false))⟩,
   ⟨(some 29), (.move (.tmp 1)), (some (23, false))⟩,
   ⟨(some 30), (.move (.tmp 2)), (some (23, false))⟩,
   ⟨(some 31), (.call ⟨(.value (.func 14)), #[(.tmp 28), (.tmp 29), (.tmp 30)], #[22, 3, 3]⟩), (some (23, false))⟩,
   ⟨(some 32), (.binOp .neq 4 (.tmp 27) (.tmp 31) 4), (some (23, false))⟩,
   ⟨(some 33), (.pick (.tmp 23) (.const (.bool true)) (.tmp 32)), none⟩,
   ⟨(some 34), (.move (.tmp 33)), none⟩,
   ⟨(some 35), (.move (.tmp 0)), (some (34, false))⟩,
   ⟨(some 36), (.call ⟨(.value (.func 16)), #[(.tmp 35)], #[22]⟩), (some (34, false))⟩,
   ⟨(some 37), (.move (.tmp 0)), (some (34, false))⟩,
   ⟨(some 38), (.call ⟨(.value (.func 17)), #[(.tmp 37)], #[22]⟩), (some (34, false))⟩,
   ⟨(some 39), (.call ⟨(.value (.func 15)), #[(.tmp 36), (.tmp 38)], #[27, 27]⟩), (some (34, false))⟩,
   ⟨(some 40), (.unOp .not 4 (.tmp 39)), (some (34, false))⟩,
   ⟨(some 41), (.pick (.tmp 34) (.const (.bool true)) (.tmp 40)), none⟩]
def c4r5 : List SO :=
  [⟨(some 6), (.assign (.const (.bool false))), none⟩]
def c4r6 : List SO :=
  [⟨(some 9), (.assign (.const (.int .i64 0))), none⟩]
def c4r7 : List SO :=
  [⟨(some 42), (.move (.tmp 9)), none⟩,
   ⟨(some 43), (.move (.tmp 7)), none⟩,
   ⟨(some 44), (.call ⟨(.builtin .len), #[(.tmp 43)], #[22]⟩), none⟩,
   ⟨(some 45), (.binOp .lss 3 (.tmp 42) (.tmp 44) 3), none⟩]
def c4r9 : List SO :=
  [⟨(some 48), (.move (.tmp 7)), none⟩,
   ⟨(some 49), (.move (.tmp 9)), none⟩,
   ⟨(some 50), (.indexAddr 22 (.tmp 48) (.tmp 49)), none⟩,
   ⟨(some 51), (.load 27 (.tmp 50)), none⟩,
   ⟨(some 52), (.move (.tmp 8)), none⟩,
   ⟨(some 53), (.move (.tmp 9)), none⟩,
   ⟨(some 54), (.indexAddr 22 (.tmp 52) (.tmp 53)), none⟩,
   ⟨(some 55), (.load 27 (.tmp 54)), none⟩,
   ⟨(some 56), (.call ⟨(.value (.func 15)), #[(.tmp 51), (.tmp 55)], #[27, 27]⟩), none⟩,
   ⟨(some 57), (.unOp .not 4 (.tmp 56)), none⟩]
def c4r10 : List SO :=
  [⟨(some 6), (.assign (.const (.bool false))), none⟩]
def c4r8 : List SO :=
  [⟨(some 46), (.move (.tmp 9)), none⟩,
   ⟨(some 47), (.binOp .add 3 (.tmp 46) (.const (.int .i64 1)) 3), none⟩,
   ⟨(some 9), (.assign (.tmp 47)), none⟩]
def c4l0 : SC :=
  (.seq (.seq (.reg false (some [7, 8, 9, 45]) c4r7) (.cond (.tmp 45) .nop (.exit 0))) (.seq (.block 1 (.seq (.reg true (some [7, 8, 9, 57]) c4r9) (.cond (.tmp 57) (.seq (.reg false (some [6]) c4r10) .ret) .nop))) (.reg false (some [7, 8, 9]) c4r8)))
def c4r11 : List SO :=
  [⟨(some 58), (.call ⟨(.value (.func 9)), #[], #[]⟩), none⟩,
   ⟨(some 6), (.assign (.tmp 58)), none⟩]
def c4 : SC :=
  (.seq (.reg false (some [0, 1, 2]) c4r0) (.seq (.seq (.reg false (some [0, 1, 2, 12]) c4r1) (.cond (.tmp 12) (.seq (.reg false (some [6]) c4r2) .ret) .nop)) (.seq (.reg false (some [0, 1, 2, 7, 8]) c4r3) (.seq (.seq (.reg false (some [7, 8, 41]) c4r4) (.cond (.tmp 41) (.seq (.reg false (some [6]) c4r5) .ret) .nop)) (.seq (.seq (.reg false (some [7, 8, 9]) c4r6) (.block 0 (.loop c4l0))) (.seq (.reg false (some [6]) c4r11) .ret))))))
theorem s4 : Try.f4.body.bind (strip Try.prog An 4 Try.f4.ntmps) = some c4 := by kernel_rfl
theorem g4 : An.glob 4 = [38] := rfl
theorem r4 : Try.f4.results.toList = [(.tmp 6)] := by kernel_rfl
theorem t4r0 {F : Oracle} {L : List (Nat × CV)} {m : Mem} {Q : CE → TS → Prop} (h :
    Q .normal ⟨[(0, (tget L 0)), (1, (tget L 1)), (2, (tget L 2))], m⟩) :
    Tx Try.prog An F 4 (.reg false (some [0, 1, 2]) c4r0) ⟨L, m⟩ Q := Tx_told (by kernel_rfl) h
theorem t4r1 {F : Oracle} {L : List (Nat × CV)} {m : Mem} {Q : CE → TS → Prop} (h :
    Obt (callC An F 4 (some 11) 8 [(tget L 0)] m) fun a0 => 
    Obt (cun .not a0.1) fun a1 => Q .normal ⟨[(0, (tget L 0)), (1, (tget L 1)), (2, (tget L 2)), (12, a1)], a0.2⟩) :
    Tx Try.prog An F 4 (.reg false (some [0, 1, 2, 12]) c4r1) ⟨L, m⟩ Q := Tx_told (by kernel_rfl) h
theorem t4r2 {F : Oracle} {L : List (Nat × CV)} {m : Mem} {Q : CE → TS → Prop} (h :
    Obt (callC An F 4 (some 13) 9 [] m) fun a0 => Q .normal ⟨[(6, a0.1)], a0.2⟩) :
    Tx Try.prog An F 4 (.reg false (some [6]) c4r2) ⟨L, m⟩ Q := Tx_told (by kernel_rfl) h
theorem t4r3 {F : Oracle} {L : List (Nat × CV)} {m : Mem} {Q : CE → TS → Prop} (h :
    Obt (callC An F 4 (some 15) 12 [(tget L 0)] m) fun a0 => 
    Obt (callC An F 4 (some 17) 13 [(tget L 0)] a0.2) fun a1 => Q .normal ⟨[(0, (tget L 0)), (1, (tget L 1)), (2, (tget L 2)), (7, a0.1), (8, a1.1)], a1.2⟩) :
    Tx Try.prog An F 4 (.reg false (some [0, 1, 2, 7, 8]) c4r3) ⟨L, m⟩ Q := Tx_told (by kernel_rfl) h
theorem t4r4 {F : Oracle} {L : List (Nat × CV)} {m : Mem} {Q : CE → TS → Prop} (h :
    Obt (lenS (tget L 7)) fun a0 => 
    Obt (lenS (tget L 8)) fun a1 => 
    Obt (cbin Try.prog .neq 3 (.tmp 19) (.tmp 21) a0 a1) fun a2 => 
    Obt (gdO a2 false (some ((tget L 0), m)) (.tuple [], m)) fun a3 => 
    Obt (gdO a2 false (some ((tget L 1), a3.2)) (.tuple [], a3.2)) fun a4 => 
    Obt (gdO a2 false (some ((tget L 2), a4.2)) (.tuple [], a4.2)) fun a5 => 
    Obt (gdO a2 false (callC An F 4 (some 27) 11 [a3.1, a4.1, a5.1] a5.2) (.tuple [], a5.2)) fun a6 => 
    Obt (gdO a2 false (some ((tget L 0), a6.2)) (.tuple [], a6.2)) fun a7 => 
    Obt (gdO a2 false (some ((tget L 1), a7.2)) (.tuple [], a7.2)) fun a8 => 
    Obt (gdO a2 false (some ((tget L 2), a8.2)) (.tuple [], a8.2)) fun a9 => 
    Obt (gdO a2 false (callC An F 4 (some 31) 14 [a7.1, a8.1, a9.1] a9.2) (.tuple [], a9.2)) fun a10 => 
    Obt (gdO a2 false ((cbin Try.prog .neq 4 (.tmp 27) (.tmp 31) a6.1 a10.1).map fun v => (v, a10.2)) (.tuple [], a10.2)) fun a11 => 
    Obt (pickX a2 (.bool true) a11.1) fun a12 => 
    Obt (gdO a12 false (some ((tget L 0), a11.2)) (.tuple [], a11.2)) fun a13 => 
    Obt (gdO a12 false (callC An F 4 (some 36) 16 [a13.1] a13.2) (.tuple [], a13.2)) fun a14 => 
    Obt (gdO a12 false (some ((tget L 0), a14.2)) (.tuple [], a14.2)) fun a15 => 
    Obt (gdO a12 false (callC An F 4 (some 38) 17 [a15.1] a15.2) (.tuple [], a15.2)) fun a16 => 
    Obt (gdO a12 false (callC An F 4 (some 39) 15 [a14.1, a16.1] a16.2) (.tuple [], a16.2)) fun a17 => 
    Obt (gdO a12 false ((cun .not a17.1).map fun v => (v, a17.2)) (.tuple [], a17.2)) fun a18 => 
    Obt (pickX a12 (.bool true) a18.1) fun a19 => Q .normal ⟨[(7, (tget L 7)), (8, (tget L 8)), (41, a19)], a18.2⟩) :
    Tx Try.prog An F 4 (.reg false (some [7, 8, 41]) c4r4) ⟨L, m⟩ Q := Tx_told (by kernel_rfl) h
theorem t4r5 {F : Oracle} {L : List (Nat × CV)} {m : Mem} {Q : CE → TS → Prop} (h :
    Q .normal ⟨[(6, (.bool false))], m⟩) :
    Tx Try.prog An F 4 (.reg false (some [6]) c4r5) ⟨L, m⟩ Q := Tx_told (by kernel_rfl) h
theorem t4r6 {F : Oracle} {L : List (Nat × CV)} {m : Mem} {Q : CE → TS → Prop} (h :
    Q .normal ⟨[(7, (tget L 7)), (8, (tget L 8)), (9, (.int .i64 0))], m⟩) :
    Tx Try.prog An F 4 (.reg false (some [7, 8, 9]) c4r6) ⟨L, m⟩ Q := Tx_told (by kernel_rfl) h
theorem t4r7 {F : Oracle} {L : List (Nat × CV)} {m : Mem} {Q : CE → TS → Prop} (h :
    Obt (lenS (tget L 7)) fun a0 => 
    Obt (cbin Try.prog .lss 3 (.tmp 42) (.tmp 44) (tget L 9) a0) fun a1 => Q .normal ⟨[(7, (tget L 7)), (8, (tget L 8)), (9, (tget L 9)), (45, a1)], m⟩) :
    Tx Try.prog An F 4 (.reg false (some [7, 8, 9, 45]) c4r7) ⟨L, m⟩ Q := Tx_told (by kernel_rfl) h
theorem t4r9 {F : Oracle} {L : List (Nat × CV)} {m : Mem} {Q : CE → TS → Prop} (h :
    Obt (idxS 1 (tget L 7) (tget L 9)) fun a0 => 
    Obt (ld1 m a0) fun a1 => 
    Obt (idxS 1 (tget L 8) (tget L 9)) fun a2 => 
    Obt (ld1 m a2) fun a3 => 
    Obt (callC An F 4 (some 56) 15 [a1, a3] m) fun a4 => 
    Obt (cun .not a4.1) fun a5 => Q .normal ⟨[(7, (tget L 7)), (8, (tget L 8)), (9, (tget L 9)), (57, a5)], a4.2⟩) :
    Tx Try.prog An F 4 (.reg true (some [7, 8, 9, 57]) c4r9) ⟨L, m⟩ Q := Tx_told (by kernel_rfl) h
theorem t4r10 {F : Oracle} {L : List (Nat × CV)} {m : Mem} {Q : CE → TS → Prop} (h :
    Q .normal ⟨[(6, (.bool false))], m⟩) :
    Tx Try.prog An F 4 (.reg false (some [6]) c4r10) ⟨L, m⟩ Q := Tx_told (by kernel_rfl) h
theorem t4r8 {F : Oracle} {L : List (Nat × CV)} {m : Mem} {Q : CE → TS → Prop} (h :
    Obt (cbin Try.prog .add 3 (.tmp 46) (.const (.int .i64 1)) (tget L 9) (.int .i64 1)) fun a0 => Q .normal ⟨[(7, (tget L 7)), (8, (tget L 8)), (9, a0)], m⟩) :
    Tx Try.prog An F 4 (.reg false (some [7, 8, 9]) c4r8) ⟨L, m⟩ Q := Tx_told (by kernel_rfl) h
theorem t4r11 {F : Oracle} {L : List (Nat × CV)} {m : Mem} {Q : CE → TS → Prop} (h :
    Obt (callC An F 4 (some 58) 9 [] m) fun a0 => Q .normal ⟨[(6, a0.1)], a0.2⟩) :
    Tx Try.prog An F 4 (.reg false (some [6]) c4r11) ⟨L, m⟩ Q := Tx_told (by kernel_rfl) h
-- clevis/dom.Frontier
def c12r0 : List SO :=
  [⟨(some 2), (.assign (.const (.slice none 0 0))), none⟩]
def c12r1 : List SO :=
  [⟨(some 13), (.move (.tmp 0)), none⟩,
   ⟨(some 14), (.call ⟨(.value (.func 19)), #[(.tmp 13)], #[22]⟩), none⟩,
   ⟨(some 3), (.assign (.tmp 14)), none⟩]
def c12r2 : List SO :=
  [⟨(some 15), (.move (.tmp 0)), none⟩,
   ⟨(some 16), (.call ⟨(.value (.func 16)), #[(.tmp 15)], #[22]⟩), none⟩,
   ⟨(some 4), (.assign (.tmp 16)), none⟩]
def c12r3 : List SO :=
  [⟨(some 17), (.move (.tmp 0)), none⟩,
   ⟨(some 18), (.call ⟨(.builtin .len), #[(.tmp 17)], #[22]⟩), none⟩,
   ⟨(some 19), (.makeSlice 22 (.tmp 18) (.tmp 18)), none⟩,
   ⟨(some 5), (.assign (.tmp 19)), none⟩]
def c12r4 : List SO :=
  [⟨(some 20), (.move (.tmp 0)), none⟩,
   ⟨(some 21), (.move (.tmp 3)), none⟩,
   ⟨(some 22), (.call ⟨(.value (.func 21)), #[(.tmp 20), (.tmp 21)], #[22, 27]⟩), none⟩,
   ⟨(some 6), (.assign (.tmp 22)), none⟩]
def c12r5 : List SO :=
  [⟨(some 23), (.move (.tmp 3)), none⟩,
   ⟨(some 24), (.call ⟨(.builtin .len), #[(.tmp 23)], #[27]⟩), none⟩,
   ⟨(some 25), (.move (.const (.int .i64 0))), none⟩]
def c12r6 : List SO :=
  [⟨(some 26), (.binOp .lss 3 (.tmp 25) (.tmp 24) 3), none⟩]
def c12r7 : List SO :=
  [⟨(some 27), (.indexAddr 27 (.tmp 23) (.tmp 25)), none⟩,
   ⟨(some 28), (.load 3 (.tmp 27)), none⟩,
   ⟨(some 8), (.assign (.tmp 28)), none⟩]
def c12r8 : List SO :=
  [⟨(some 29), (.move (.tmp 6)), none⟩,
   ⟨(some 30), (.move (.tmp 8)), none⟩,
   ⟨(some 31), (.lookup 32 (.tmp 29) (.tmp 30) false), none⟩,
   ⟨(some 32), (.call ⟨(.builtin .len), #[(.tmp 31)], #[27]⟩), none⟩,
   ⟨(some 33), (.move (.const (.int .i64 0))), none⟩]
def c12r9 : List SO :=
  [⟨(some 34), (.binOp .lss 3 (.tmp 33) (.tmp 32) 3), none⟩]
def c12r10 : List SO :=
  [⟨(some 35), (.indexAddr 27 (.tmp 31) (.tmp 33)), none⟩,
   ⟨(some 36), (.load 3 (.tmp 35)), none⟩,
   ⟨(some 10), (.assign (.tmp 36)), none⟩]
def c12r11 : List SO :=
  [⟨(some 37), (.move (.tmp 10)), none⟩,
   ⟨(some 38), (.binOp .geq 3 (.tmp 37) (.const (.int .i64 0)) 3), none⟩,
   ⟨(some 39), (.move (.tmp 38)), none⟩,
   ⟨(some 40), (.move (.tmp 10)), (some (39, true))⟩,
   ⟨(some 41), (.move (.tmp 4)), (some (39, true))⟩,
   ⟨(some 42), (.move (.tmp 8)), (some (39, true))⟩,
   ⟨(some 43), (.indexAddr 27 (.tmp 41) (.tmp 42)), (some (39, true))⟩,
   ⟨(some 44), (.load 3 (.tmp 43)), (some (39, true))⟩,
   ⟨(some 45), (.binOp .neq 3 (.tmp 40) (.tmp 44) 3), (some (39, true))⟩,
   ⟨(some 46), (.pick (.tmp 39) (.tmp 45) (.const (.bool false))), none⟩]
def c12r13 : List SO :=
  [⟨(some 51), (.move (.tmp 5)), none⟩,
   ⟨(some 52), (.move (.tmp 10)), none⟩,
   ⟨(some 53), (.indexAddr 22 (.tmp 51) (.tmp 52)), none⟩,
   ⟨(some 54), (.load 27 (.tmp 53)), none⟩,
   ⟨(some 55), (.move (.tmp 8)), none⟩,
   ⟨(some 56), (.call ⟨(.value (.func 22)), #[(.tmp 54), (.tmp 55)], #[27, 3]⟩), none⟩,
   ⟨(some 57), (.unOp .not 4 (.tmp 56)), none⟩]
def c12r14 : List SO :=
  [⟨(some 58), (.move (.tmp 5)), none⟩,
   ⟨(some 59), (.move (.tmp 10)), none⟩,
   ⟨(some 60), (.move (.tmp 5)), none⟩,
   ⟨(some 61), (.move (.tmp 10)), none⟩,
   ⟨(some 62), (.indexAddr 22 (.tmp 60) (.tmp 61)), none⟩,
   ⟨(some 63), (.load 27 (.tmp 62)), none⟩,
   ⟨(some 64), (.move (.tmp 8)), none⟩,
   ⟨(some 65), (.buildSlice 27 1 #[(0, (.tmp 64))]), none⟩,
   ⟨(some 66), (.call ⟨(.builtin .append), #[(.tmp 63), (.tmp 65)], #[27, 27]⟩), none⟩,
   ⟨(some 67), (.indexAddr 22 (.tmp 58) (.tmp 59)), none⟩,
   ⟨none, (.store 27 (.tmp 67) (.tmp 66)), none⟩]
def c12r12 : List SO :=
  [⟨(some 47), (.move (.tmp 4)), none⟩,
   ⟨(some 48), (.move (.tmp 10)), none⟩,
   ⟨(some 49), (.indexAddr 27 (.tmp 47) (.tmp 48)), none⟩,
   ⟨(some 50), (.load 3 (.tmp 49)), none⟩,
   ⟨(some 10), (.assign (.tmp 50)), none⟩]
def c12l0 : SC :=
  (.seq (.seq (.reg false (some [4, 5, 6, 8, 10, 23, 24, 25, 31, 32, 33, 46]) c12r11) (.cond (.tmp 46) .nop (.exit 4))) (.seq (.block 5 (.seq (.reg false (some [4, 5, 6, 8, 10, 23, 24, 25, 31, 32, 33, 57]) c12r13) (.cond (.tmp 57) (.reg false (some [4, 5, 6, 8, 10, 23, 24, 25, 31, 32, 33]) c12r14) .nop))) (.reg false (some [4, 5, 6, 8, 10, 23, 24, 25, 31, 32, 33]) c12r12)))
def c12r15 : List SO :=
  [⟨(some 68), (.binOp .add 3 (.tmp 33) (.const (.int .i64 1)) 3), none⟩,
   ⟨(some 33), (.move (.tmp 68)), none⟩]
def c12l1 : SC :=
  (.seq (.reg false (some [4, 5, 6, 8, 23, 24, 25, 31, 32, 33, 34]) c12r9) (.seq (.cond (.tmp 34) .nop (.exit 2)) (.seq (.block 3 (.seq (.reg false (some [4, 5, 6, 8, 10, 23, 24, 25, 31, 32, 33]) c12r10) (.block 4 (.loop c12l0)))) (.reg false (some [4, 5, 6, 8, 23, 24, 25, 31, 32, 33]) c12r15))))
def c12r16 : List SO :=
  [⟨(some 69), (.binOp .add 3 (.tmp 25) (.const (.int .i64 1)) 3), none⟩,
   ⟨(some 25), (.move (.tmp 69)), none⟩]
def c12l2 : SC :=
  (.seq (.reg false (some [4, 5, 6, 23, 24, 25, 26]) c12r6) (.seq (.cond (.tmp 26) .nop (.exit 0)) (.seq (.block 1 (.seq (.reg false (some [4, 5, 6, 8, 23, 24, 25]) c12r7) (.seq (.reg false (some [4, 5, 6, 8, 23, 24, 25, 31, 32, 33]) c12r8) (.block 2 (.loop c12l1))))) (.reg false (some [4, 5, 6, 23, 24, 25]) c12r16))))
def c12r17 : List SO :=
  [⟨(some 70), (.move (.tmp 5)), none⟩,
   ⟨(some 71), (.call ⟨(.builtin .len), #[(.tmp 70)], #[22]⟩), none⟩,
   ⟨(some 72), (.move (.const (.int .i64 0))), none⟩]
def c12r18 : List SO :=
  [⟨(some 73), (.binOp .lss 3 (.tmp 72) (.tmp 71) 3), none⟩]
def c12r19 : List SO :=
  [⟨(some 74), (.indexAddr 22 (.tmp 70) (.tmp 72)), none⟩,
   ⟨(some 75), (.load 27 (.tmp 74)), none⟩,
   ⟨(some 12), (.assign (.tmp 75)), none⟩]
def c12r20 : List SO :=
  [⟨(some 76), (.move (.tmp 12)), none⟩,
   ⟨(some 77), (.call ⟨(.value (.func 23)), #[(.tmp 76)], #[27]⟩), none⟩]
def c12r21 : List SO :=
  [⟨(some 78), (.binOp .add 3 (.tmp 72) (.const (.int .i64 1)) 3), none⟩,
   ⟨(some 72), (.move (.tmp 78)), none⟩]
def c12l3 : SC :=
  (.seq (.reg false (some [5, 70, 71, 72, 73]) c12r18) (.seq (.cond (.tmp 73) .nop (.exit 6)) (.seq (.block 7 (.seq (.reg false (some [5, 12, 70, 71, 72]) c12r19) (.reg false (some [5, 70, 71, 72]) c12r20))) (.reg false (some [5, 70, 71, 72]) c12r21))))
def c12r22 : List SO :=
  [⟨(some 79), (.move (.tmp 5)), none⟩,
   ⟨(some 2), (.assign (.tmp 79)), none⟩]
def c12 : SC :=
  (.seq (.reg false (some [0]) c12r0) (.seq (.reg false (some [0, 3]) c12r1) (.seq (.reg false (some [0, 3, 4]) c12r2) (.seq (.reg false (some [0, 3, 4, 5]) c12r3) (.seq (.reg false (some [3, 4, 5, 6]) c12r4) (.seq (.seq (.reg false (some [4, 5, 6, 23, 24, 25]) c12r5) (.block 0 (.loop c12l2))) (.seq (.seq (.reg false (some [5, 70, 71, 72]) c12r17) (.block 6 (.loop c12l3))) (.seq (.reg false (some [2]) c12r22) .ret))))))))
theorem s12 : Try.f12.body.bind (strip Try.prog An 12 Try.f12.ntmps) = some c12 := by kernel_rfl
theorem g12 : An.glob 12 = [19, 66] := rfl
theorem r12 : Try.f12.results.toList = [(.tmp 2)] := by kernel_rfl
theorem t12r0 {F : Oracle} {L : List (Nat × CV)} {m : Mem} {Q : CE → TS → Prop} (h :
    Q .normal ⟨[(0, (tget L 0))], m⟩) :
    Tx Try.prog An F 12 (.reg false (some [0]) c12r0) ⟨L, m⟩ Q := Tx_told (by kernel_rfl) h
theorem t12r1 {F : Oracle} {L : List (Nat × CV)} {m : Mem} {Q : CE → TS → Prop} (h :
    Obt (callC An F 12 (some 14) 19 [(tget L 0)] m) fun a0 => Q .normal ⟨[(0, (tget L 0)), (3, a0.1)], a0.2⟩) :
    Tx Try.prog An F 12 (.reg false (some [0, 3]) c12r1) ⟨L, m⟩ Q := Tx_told (by kernel_rfl) h
theorem t12r2 {F : Oracle} {L : List (Nat × CV)} {m : Mem} {Q : CE → TS → Prop} (h :
    Obt (callC An F 12 (some 16) 16 [(tget L 0)] m) fun a0 => Q .normal ⟨[(0, (tget L 0)), (3, (tget L 3)), (4, a0.1)], a0.2⟩) :
    Tx Try.prog An F 12 (.reg false (some [0, 3, 4]) c12r2) ⟨L, m⟩ Q := Tx_told (by kernel_rfl) h
theorem t12r3 {F : Oracle} {L : List (Nat × CV)} {m : Mem} {Q : CE → TS → Prop} (h :
    Obt (lenS (tget L 0)) fun a0 => 
    Obt (mkX true 304 1 24 [.nil] a0 a0 m) fun a1 => Q .normal ⟨[(0, (tget L 0)), (3, (tget L 3)), (4, (tget L 4)), (5, a1.1)], a1.2⟩) :
    Tx Try.prog An F 12 (.reg false (some [0, 3, 4, 5]) c12r3) ⟨L, m⟩ Q := Tx_told (by kernel_rfl) h
theorem t12r4 {F : Oracle} {L : List (Nat × CV)} {m : Mem} {Q : CE → TS → Prop} (h :
    Obt (callC An F 12 (some 22) 21 [(tget L 0), (tget L 3)] m) fun a0 => Q .normal ⟨[(3, (tget L 3)), (4, (tget L 4)), (5, (tget L 5)), (6, a0.1)], a0.2⟩) :
    Tx Try.prog An F 12 (.reg false (some [3, 4, 5, 6]) c12r4) ⟨L, m⟩ Q := Tx_told (by kernel_rfl) h
theorem t12r5 {F : Oracle} {L : List (Nat × CV)} {m : Mem} {Q : CE → TS → Prop} (h :
    Obt (lenS (tget L 3)) fun a0 => Q .normal ⟨[(4, (tget L 4)), (5, (tget L 5)), (6, (tget L 6)), (23, (tget L 3)), (24, a0), (25, (.int .i64 0))], m⟩) :
    Tx Try.prog An F 12 (.reg false (some [4, 5, 6, 23, 24, 25]) c12r5) ⟨L, m⟩ Q := Tx_told (by kernel_rfl) h
theorem t12r6 {F : Oracle} {L : List (Nat × CV)} {m : Mem} {Q : CE → TS → Prop} (h :
    Obt (cbin Try.prog .lss 3 (.tmp 25) (.tmp 24) (tget L 25) (tget L 24)) fun a0 => Q .normal ⟨[(4, (tget L 4)), (5, (tget L 5)), (6, (tget L 6)), (23, (tget L 23)), (24, (tget L 24)), (25, (tget L 25)), (26, a0)], m⟩) :
    Tx Try.prog An F 12 (.reg false (some [4, 5, 6, 23, 24, 25, 26]) c12r6) ⟨L, m⟩ Q := Tx_told (by kernel_rfl) h
theorem t12r7 {F : Oracle} {L : List (Nat × CV)} {m : Mem} {Q : CE → TS → Prop} (h :
    Obt (idxS 1 (tget L 23) (tget L 25)) fun a0 => 
    Obt (ld1 m a0) fun a1 => Q .normal ⟨[(4, (tget L 4)), (5, (tget L 5)), (6, (tget L 6)), (8, a1), (23, (tget L 23)), (24, (tget L 24)), (25, (tget L 25))], m⟩) :
    Tx Try.prog An F 12 (.reg false (some [4, 5, 6, 8, 23, 24, 25]) c12r7) ⟨L, m⟩ Q := Tx_told (by kernel_rfl) h
theorem t12r8 {F : Oracle} {L : List (Nat × CV)} {m : Mem} {Q : CE → TS → Prop} (h :
    Obt (lookX Try.prog 3 (.nil) (tget L 6) (tget L 8) false m) fun a0 => 
    Obt (lenS a0) fun a1 => Q .normal ⟨[(4, (tget L 4)), (5, (tget L 5)), (6, (tget L 6)), (8, (tget L 8)), (23, (tget L 23)), (24, (tget L 24)), (25, (tget L 25)), (31, a0), (32, a1), (33, (.int .i64 0))], m⟩) :
    Tx Try.prog An F 12 (.reg false (some [4, 5, 6, 8, 23, 24, 25, 31, 32, 33]) c12r8) ⟨L, m⟩ Q := Tx_told (by kernel_rfl) h
theorem t12r9 {F : Oracle} {L : List (Nat × CV)} {m : Mem} {Q : CE → TS → Prop} (h :
    Obt (cbin Try.prog .lss 3 (.tmp 33) (.tmp 32) (tget L 33) (tget L 32)) fun a0 => Q .normal ⟨[(4, (tget L 4)), (5, (tget L 5)), (6, (tget L 6)), (8, (tget L 8)), (23, (tget L 23)), (24, (tget L 24)), (25, (tget L 25)), (31, (tget L 31)), (32, (tget L 32)), (33, (tget L 33)), (34, a0)], m⟩) :
    Tx Try.prog An F 12 (.reg false (some [4, 5, 6, 8, 23, 24, 25, 31, 32, 33, 34]) c12r9) ⟨L, m⟩ Q := Tx_told (by kernel_rfl) h
theorem t12r10 {F : Oracle} {L : List (Nat × CV)} {m : Mem} {Q : CE → TS → Prop} (h :
    Obt (idxS 1 (tget L 31) (tget L 33)) fun a0 => 
    Obt (ld1 m a0) fun a1 => Q .normal ⟨[(4, (tget L 4)), (5, (tget L 5)), (6, (tget L 6)), (8, (tget L 8)), (10, a1), (23, (tget L 23)), (24, (tget L 24)), (25, (tget L 25)), (31, (tget L 31)), (32, (tget L 32)), (33, (tget L 33))], m⟩) :
    Tx Try.prog An F 12 (.reg false (some [4, 5, 6, 8, 10, 23, 24, 25, 31, 32, 33]) c12r10) ⟨L, m⟩ Q := Tx_told (by kernel_rfl) h
theorem t12r11 {F : Oracle} {L : List (Nat × CV)} {m : Mem} {Q : CE → TS → Prop} (h :
    Obt (cbin Try.prog .geq 3 (.tmp 37) (.const (.int .i64 0)) (tget L 10) (.int .i64 0)) fun a0 => 
    Obt (gdO a0 true (some ((tget L 10), m)) (.tuple [], m)) fun a1 => 
    Obt (gdO a0 true (some ((tget L 4), a1.2)) (.tuple [], a1.2)) fun a2 => 
    Obt (gdO a0 true (some ((tget L 8), a2.2)) (.tuple [], a2.2)) fun a3 => 
    Obt (gdO a0 true ((idxS 1 a2.1 a3.1).map fun v => (v, a3.2)) (.tuple [], a3.2)) fun a4 => 
    Obt (gdO a0 true ((ld1 a4.2 a4.1).map fun v => (v, a4.2)) (.tuple [], a4.2)) fun a5 => 
    Obt (gdO a0 true ((cbin Try.prog .neq 3 (.tmp 40) (.tmp 44) a1.1 a5.1).map fun v => (v, a5.2)) (.tuple [], a5.2)) fun a6 => 
    Obt (pickX a0 a6.1 (.bool false)) fun a7 => Q .normal ⟨[(4, (tget L 4)), (5, (tget L 5)), (6, (tget L 6)), (8, (tget L 8)), (10, (tget L 10)), (23, (tget L 23)), (24, (tget L 24)), (25, (tget L 25)), (31, (tget L 31)), (32, (tget L 32)), (33, (tget L 33)), (46, a7)], a6.2⟩) :
    Tx Try.prog An F 12 (.reg false (some [4, 5, 6, 8, 10, 23, 24, 25, 31, 32, 33, 46]) c12r11) ⟨L, m⟩ Q := Tx_told (by kernel_rfl) h
theorem t12r13 {F : Oracle} {L : List (Nat × CV)} {m : Mem} {Q : CE → TS → Prop} (h :
    Obt (idxS 1 (tget L 5) (tget L 10)) fun a0 => 
    Obt (ld1 m a0) fun a1 => 
    Obt (callC An F 12 (some 56) 22 [a1, (tget L 8)] m) fun a2 => 
    Obt (cun .not a2.1) fun a3 => Q .normal ⟨[(4, (tget L 4)), (5, (tget L 5)), (6, (tget L 6)), (8, (tget L 8)), (10, (tget L 10)), (23, (tget L 23)), (24, (tget L 24)), (25, (tget L 25)), (31, (tget L 31)), (32, (tget L 32)), (33, (tget L 33)), (57, a3)], a2.2⟩) :
    Tx Try.prog An F 12 (.reg false (some [4, 5, 6, 8, 10, 23, 24, 25, 31, 32, 33, 57]) c12r13) ⟨L, m⟩ Q := Tx_told (by kernel_rfl) h
theorem t12r14 {F : Oracle} {L : List (Nat × CV)} {m : Mem} {Q : CE → TS → Prop} (h :
    Obt (idxS 1 (tget L 5) (tget L 10)) fun a0 => 
    Obt (ld1 m a0) fun a1 => 
    Obt (bslX false 1040 1 1 [.int .i64 0] [(0, 1, (tget L 8))] m) fun a2 => 
    Obt (appX true 1056 1 8 a1 a2.1 a2.2) fun a3 => 
    Obt (idxS 1 (tget L 5) (tget L 10)) fun a4 => 
    Obt (stX 1 a3.2 a4 a3.1) fun a5 => Q .normal ⟨[(4, (tget L 4)), (5, (tget L 5)), (6, (tget L 6)), (8, (tget L 8)), (10, (tget L 10)), (23, (tget L 23)), (24, (tget L 24)), (25, (tget L 25)), (31, (tget L 31)), (32, (tget L 32)), (33, (tget L 33))], a5⟩) :
    Tx Try.prog An F 12 (.reg false (some [4, 5, 6, 8, 10, 23, 24, 25, 31, 32, 33]) c12r14) ⟨L, m⟩ Q := Tx_told (by kernel_rfl) h
theorem t12r12 {F : Oracle} {L : List (Nat × CV)} {m : Mem} {Q : CE → TS → Prop} (h :
    Obt (idxS 1 (tget L 4) (tget L 10)) fun a0 => 
    Obt (ld1 m a0) fun a1 => Q .normal ⟨[(4, (tget L 4)), (5, (tget L 5)), (6, (tget L 6)), (8, (tget L 8)), (10, a1), (23, (tget L 23)), (24, (tget L 24)), (25, (tget L 25)), (31, (tget L 31)), (32, (tget L 32)), (33, (tget L 33))], m⟩) :
    Tx Try.prog An F 12 (.reg false (some [4, 5, 6, 8, 10, 23, 24, 25, 31, 32, 33]) c12r12) ⟨L, m⟩ Q := Tx_told (by kernel_rfl) h
theorem t12r15 {F : Oracle} {L : List (Nat × CV)} {m : Mem} {Q : CE → TS → Prop} (h :
    Obt (cbin Try.prog .add 3 (.tmp 33) (.const (.int .i64 1)) (tget L 33) (.int .i64 1)) fun a0 => Q .normal ⟨[(4, (tget L 4)), (5, (tget L 5)), (6, (tget L 6)), (8, (tget L 8)), (23, (tget L 23)), (24, (tget L 24)), (25, (tget L 25)), (31, (tget L 31)), (32, (tget L 32)), (33, a0)], m⟩) :
    Tx Try.prog An F 12 (.reg false (some [4, 5, 6, 8, 23, 24, 25, 31, 32, 33]) c12r15) ⟨L, m⟩ Q := Tx_told (by kernel_rfl) h
theorem t12r16 {F : Oracle} {L : List (Nat × CV)} {m : Mem} {Q : CE → TS → Prop} (h :
    Obt (cbin Try.prog .add 3 (.tmp 25) (.const (.int .i64 1)) (tget L 25) (.int .i64 1)) fun a0 => Q .normal ⟨[(4, (tget L 4)), (5, (tget L 5)), (6, (tget L 6)), (23, (tget L 23)), (24, (tget L 24)), (25, a0)], m⟩) :
    Tx Try.prog An F 12 (.reg false (some [4, 5, 6, 23, 24, 25]) c12r16) ⟨L, m⟩ Q := Tx_told (by kernel_rfl) h
theorem t12r17 {F : Oracle} {L : List (Nat × CV)} {m : Mem} {Q : CE → TS → Prop} (h :
    Obt (lenS (tget L 5)) fun a0 => Q .normal ⟨[(5, (tget L 5)), (70, (tget L 5)), (71, a0), (72, (.int .i64 0))], m⟩) :
    Tx Try.prog An F 12 (.reg false (some [5, 70, 71, 72]) c12r17) ⟨L, m⟩ Q := Tx_told (by kernel_rfl) h
theorem t12r18 {F : Oracle} {L : List (Nat × CV)} {m : Mem} {Q : CE → TS → Prop} (h :
    Obt (cbin Try.prog .lss 3 (.tmp 72) (.tmp 71) (tget L 72) (tget L 71)) fun a0 => Q .normal ⟨[(5, (tget L 5)), (70, (tget L 70)), (71, (tget L 71)), (72, (tget L 72)), (73, a0)], m⟩) :
    Tx Try.prog An F 12 (.reg false (some [5, 70, 71, 72, 73]) c12r18) ⟨L, m⟩ Q := Tx_told (by kernel_rfl) h
theorem t12r19 {F : Oracle} {L : List (Nat × CV)} {m : Mem} {Q : CE → TS → Prop} (h :
    Obt (idxS 1 (tget L 70) (tget L 72)) fun a0 => 
    Obt (ld1 m a0) fun a1 => Q .normal ⟨[(5, (tget L 5)), (12, a1), (70, (tget L 70)), (71, (tget L 71)), (72, (tget L 72))], m⟩) :
    Tx Try.prog An F 12 (.reg false (some [5, 12, 70, 71, 72]) c12r19) ⟨L, m⟩ Q := Tx_told (by kernel_rfl) h
theorem t12r20 {F : Oracle} {L : List (Nat × CV)} {m : Mem} {Q : CE → TS → Prop} (h :
    Obt (callC An F 12 (some 77) 23 [(tget L 12)] m) fun a0 => Q .normal ⟨[(5, (tget L 5)), (70, (tget L 70)), (71, (tget L 71)), (72, (tget L 72))], a0.2⟩) :
    Tx Try.prog An F 12 (.reg false (some [5, 70, 71, 72]) c12r20) ⟨L, m⟩ Q := Tx_told (by kernel_rfl) h
theorem t12r21 {F : Oracle} {L : List (Nat × CV)} {m : Mem} {Q : CE → TS → Prop} (h :
    Obt (cbin Try.prog .add 3 (.tmp 72) (.const (.int .i64 1)) (tget L 72) (.int .i64 1)) fun a0 => Q .normal ⟨[(5, (tget L 5)), (70, (tget L 70)), (71, (tget L 71)), (72, a0)], m⟩) :
    Tx Try.prog An F 12 (.reg false (some [5, 70, 71, 72]) c12r21) ⟨L, m⟩ Q := Tx_told (by kernel_rfl) h
theorem t12r22 {F : Oracle} {L : List (Nat × CV)} {m : Mem} {Q : CE → TS → Prop} (h :
    Q .normal ⟨[(2, (tget L 5))], m⟩) :
    Tx Try.prog An F 12 (.reg false (some [2]) c12r22) ⟨L, m⟩ Q := Tx_told (by kernel_rfl) h
-- clevis/clevisref15.Frontier
def c13r0 : List SO :=
  [⟨(some 2), (.assign (.const (.slice none 0 0))), none⟩]
def c13r1 : List SO :=
  [⟨(some 9), (.move (.tmp 0)), none⟩,
   ⟨(some 10), (.call ⟨(.value (.func 24)), #[(.tmp 9)], #[22]⟩), none⟩,
   ⟨(some 3), (.assign (.tmp 10)), none⟩]
def c13r2 : List SO :=
  [⟨(some 11), (.move (.tmp 0)), none⟩,
   ⟨(some 12), (.call ⟨(.value (.func 18)), #[(.tmp 11)], #[22]⟩), none⟩,
   ⟨(some 4), (.assign (.tmp 12)), none⟩]
def c13r3 : List SO :=
  [⟨(some 5), (.assign (.const (.slice none 0 0))), none⟩]
def c13r4 : List SO :=
  [⟨(some 6), (.assign (.const (.int .i64 0))), none⟩]
def c13r5 : List SO :=
  [⟨(some 13), (.move (.tmp 6)), none⟩,
   ⟨(some 14), (.move (.tmp 0)), none⟩,
   ⟨(some 15), (.call ⟨(.builtin .len), #[(.tmp 14)], #[22]⟩), none⟩,
   ⟨(some 16), (.binOp .lss 3 (.tmp 13) (.tmp 15) 3), none⟩]
def c13r7 : List SO :=
  [⟨(some 7), (.assign (.const (.slice none 0 0))), none⟩]
def c13r8 : List SO :=
  [⟨(some 8), (.assign (.const (.int .i64 0))), none⟩]
def c13r9 : List SO :=
  [⟨(some 19), (.move (.tmp 8)), none⟩,
   ⟨(some 20), (.move (.tmp 0)), none⟩,
   ⟨(some 21), (.call ⟨(.builtin .len), #[(.tmp 20)], #[22]⟩), none⟩,
   ⟨(some 22), (.binOp .lss 3 (.tmp 19) (.tmp 21) 3), none⟩]
def c13r11 : List SO :=
  [⟨(some 25), (.move (.tmp 4)), none⟩,
   ⟨(some 26), (.move (.tmp 6)), none⟩,
   ⟨(some 27), (.indexAddr 25 (.tmp 25) (.tmp 26)), none⟩,
   ⟨(some 28), (.load 4 (.tmp 27)), none⟩,
   ⟨(some 29), (.move (.tmp 28)), none⟩,
   ⟨(some 30), (.move (.tmp 4)), (some (29, true))⟩,
   ⟨(some 31), (.move (.tmp 8)), (some (29, true))⟩,
   ⟨(some 32), (.indexAddr 25 (.tmp 30) (.tmp 31)), (some (29, true))⟩,
   ⟨(some 33), (.load 4 (.tmp 32)), (some (29, true))⟩,
   ⟨(some 34), (.pick (.tmp 29) (.tmp 33) (.const (.bool false))), none⟩,
   ⟨(some 35), (.move (.tmp 34)), none⟩,
   ⟨(some 36), (.move (.tmp 0)), (some (35, true))⟩,
   ⟨(some 37), (.move (.tmp 3)), (some (35, true))⟩,
   ⟨(some 38), (.move (.tmp 6)), (some (35, true))⟩,
   ⟨(some 39), (.indexAddr 36 (.tmp 37) (.tmp 38)), (some (35, true))⟩,
   ⟨(some 40), (.load 25 (.tmp 39)), (some (35, true))⟩,
   ⟨(some 41), (.move (.tmp 8)), (some (35, true))⟩,
   ⟨(some 42), (.call ⟨(.value (.func 25)), #[(.tmp 36), (.tmp 40), (.tmp 41)], #[22, 25, 3]⟩), (some (35, true))⟩,
   ⟨(some 43), (.pick (.tmp 35) (.tmp 42) (.const (.bool false))), none⟩,
   ⟨(some 44), (.move (.tmp 43)), none⟩,
   ⟨(some 45), (.move (.tmp 6)), (some (44, true))⟩,
   ⟨(some 46), (.move (.tmp 8)), (some (44, true))⟩,
   ⟨(some 47), (.binOp .eql 3 (.tmp 45) (.tmp 46) 3), (some (44, true))⟩,
   ⟨(some 48), (.move (.tmp 47)), (some (44, true))⟩,
   ⟨(some 49), (.move (.tmp 3)), (some (48, false))⟩,
   ⟨(some 50), (.move (.tmp 6)), (some (48, false))⟩,
   ⟨(some 51), (.indexAddr 36 (.tmp 49) (.tmp 50)), (some (48, false))⟩,
   ⟨(some 52), (.load 25 (.tmp 51)), (some (48, false))⟩,
   ⟨(some 53), (.move (.tmp 8)), (some (48, false))⟩,
   ⟨(some 54), (.indexAddr 25 (.tmp 52) (.tmp 53)), (some (48, false))⟩,
   ⟨(some 55), (.load 4 (.tmp 54)), (some (48, false))⟩,
   ⟨(some 56), (.unOp .not 4 (.tmp 55)), (some (48, false))⟩,
   ⟨(some 57), (.pick (.tmp 48) (.const (.bool true)) (.tmp 56)), (some (44, true))⟩,
   ⟨(some 58), (.pick (.tmp 44) (.tmp 57) (.const (.bool false))), none⟩]
def c13r12 : List SO :=
  [⟨(some 59), (.move (.tmp 7)), none⟩,
   ⟨(some 60), (.move (.tmp 8)), none⟩,
   ⟨(some 61), (.buildSlice 27 1 #[(0, (.tmp 60))]), none⟩,
   ⟨(some 62), (.call ⟨(.builtin .append), #[(.tmp 59), (.tmp 61)], #[27, 27]⟩), none⟩,
   ⟨(some 7), (.assign (.tmp 62)), none⟩]
def c13r10 : List SO :=
  [⟨(some 23), (.move (.tmp 8)), none⟩,
   ⟨(some 24), (.binOp .add 3 (.tmp 23) (.const (.int .i64 1)) 3), none⟩,
   ⟨(some 8), (.assign (.tmp 24)), none⟩]
def c13l0 : SC :=
  (.seq (.seq (.reg false (some [0, 3, 4, 5, 6, 7, 8, 22]) c13r9) (.cond (.tmp 22) .nop (.exit 2))) (.seq (.block 3 (.seq (.reg false (some [0, 3, 4, 5, 6, 7, 8, 58]) c13r11) (.cond (.tmp 58) (.reg false (some [0, 3, 4, 5, 6, 7, 8]) c13r12) .nop))) (.reg false (some [0, 3, 4, 5, 6, 7, 8]) c13r10)))
def c13r13 : List SO :=
  [⟨(some 63), (.move (.tmp 5)), none⟩,
   ⟨(some 64), (.move (.tmp 7)), none⟩,
   ⟨(some 65), (.buildSlice 22 1 #[(0, (.tmp 64))]), none⟩,
   ⟨(some 66), (.call ⟨(.builtin .append), #[(.tmp 63), (.tmp 65)], #[22, 22]⟩), none⟩,
   ⟨(some 5), (.assign (.tmp 66)), none⟩]
def c13r6 : List SO :=
  [⟨(some 17), (.move (.tmp 6)), none⟩,
   ⟨(some 18), (.binOp .add 3 (.tmp 17) (.const (.int .i64 1)) 3), none⟩,
   ⟨(some 6), (.assign (.tmp 18)), none⟩]
def c13l1 : SC :=
  (.seq (.seq (.reg false (some [0, 3, 4, 5, 6, 16]) c13r5) (.cond (.tmp 16) .nop (.exit 0))) (.seq (.block 1 (.seq (.reg false (some [0, 3, 4, 5, 6, 7]) c13r7) (.seq (.seq (.reg false (some [0, 3, 4, 5, 6, 7, 8]) c13r8) (.block 2 (.loop c13l0))) (.reg false (some [0, 3, 4, 5, 6]) c13r13)))) (.reg false (some [0, 3, 4, 5, 6]) c13r6)))
def c13r14 : List SO :=
  [⟨(some 67), (.move (.tmp 5)), none⟩,
   ⟨(some 2), (.assign (.tmp 67)), none⟩]
def c13 : SC :=
  (.seq (.reg false (some [0]) c13r0) (.seq (.reg false (some [0, 3]) c13r1) (.seq (.reg false (some [0, 3, 4]) c13r2) (.seq (.reg false (some [0, 3, 4, 5]) c13r3) (.seq (.seq (.reg false (some [0, 3, 4, 5, 6]) c13r4) (.block 0 (.loop c13l1))) (.seq (.reg false (some [2]) c13r14) .ret))))))
theorem s13 : Try.f13.body.bind (strip Try.prog An 13 Try.f13.ntmps) = some c13 := by kernel_rfl
theorem g13 : An.glob 13 = [] := rfl
theorem r13 : Try.f13.results.toList = [(.tmp 2)] := by kernel_rfl
theorem t13r0 {F : Oracle} {L : List (Nat × CV)} {m : Mem} {Q : CE → TS → Prop} (h :
    Q .normal ⟨[(0, (tget L 0))], m⟩) :
    Tx Try.prog An F 13 (.reg false (some [0]) c13r0) ⟨L, m⟩ Q := Tx_told (by kernel_rfl) h
theorem t13r1 {F : Oracle} {L : List (Nat × CV)} {m : Mem} {Q : CE → TS → Prop} (h :
    Obt (callC An F 13 (some 10) 24 [(tget L 0)] m) fun a0 => Q .normal ⟨[(0, (tget L 0)), (3, a0.1)], a0.2⟩) :
    Tx Try.prog An F 13 (.reg false (some [0, 3]) c13r1) ⟨L, m⟩ Q := Tx_told (by kernel_rfl) h
theorem t13r2 {F : Oracle} {L : List (Nat × CV)} {m : Mem} {Q : CE → TS → Prop} (h :
    Obt (callC An F 13 (some 12) 18 [(tget L 0)] m) fun a0 => Q .normal ⟨[(0, (tget L 0)), (3, (tget L 3)), (4, a0.1)], a0.2⟩) :
    Tx Try.prog An F 13 (.reg false (some [0, 3, 4]) c13r2) ⟨L, m⟩ Q := Tx_told (by kernel_rfl) h
theorem t13r3 {F : Oracle} {L : List (Nat × CV)} {m : Mem} {Q : CE → TS → Prop} (h :
    Q .normal ⟨[(0, (tget L 0)), (3, (tget L 3)), (4, (tget L 4)), (5, .nil)], m⟩) :
    Tx Try.prog An F 13 (.reg false (some [0, 3, 4, 5]) c13r3) ⟨L, m⟩ Q := Tx_told (by kernel_rfl) h
theorem t13r4 {F : Oracle} {L : List (Nat × CV)} {m : Mem} {Q : CE → TS → Prop} (h :
    Q .normal ⟨[(0, (tget L 0)), (3, (tget L 3)), (4, (tget L 4)), (5, (tget L 5)), (6, (.int .i64 0))], m⟩) :
    Tx Try.prog An F 13 (.reg false (some [0, 3, 4, 5, 6]) c13r4) ⟨L, m⟩ Q := Tx_told (by kernel_rfl) h
theorem t13r5 {F : Oracle} {L : List (Nat × CV)} {m : Mem} {Q : CE → TS → Prop} (h :
    Obt (lenS (tget L 0)) fun a0 => 
    Obt (cbin Try.prog .lss 3 (.tmp 13) (.tmp 15) (tget L 6) a0) fun a1 => Q .normal ⟨[(0, (tget L 0)), (3, (tget L 3)), (4, (tget L 4)), (5, (tget L 5)), (6, (tget L 6)), (16, a1)], m⟩) :
    Tx Try.prog An F 13 (.reg false (some [0, 3, 4, 5, 6, 16]) c13r5) ⟨L, m⟩ Q := Tx_told (by kernel_rfl) h
theorem t13r7 {F : Oracle} {L : List (Nat × CV)} {m : Mem} {Q : CE → TS → Prop} (h :
    Q .normal ⟨[(0, (tget L 0)), (3, (tget L 3)), (4, (tget L 4)), (5, (tget L 5)), (6, (tget L 6)), (7, .nil)], m⟩) :
    Tx Try.prog An F 13 (.reg false (some [0, 3, 4, 5, 6, 7]) c13r7) ⟨L, m⟩ Q := Tx_told (by kernel_rfl) h
theorem t13r8 {F : Oracle} {L : List (Nat × CV)} {m : Mem} {Q : CE → TS → Prop} (h :
    Q .normal ⟨[(0, (tget L 0)), (3, (tget L 3)), (4, (tget L 4)), (5, (tget L 5)), (6, (tget L 6)), (7, (tget L 7)), (8, (.int .i64 0))], m⟩) :
    Tx Try.prog An F 13 (.reg false (some [0, 3, 4, 5, 6, 7, 8]) c13r8) ⟨L, m⟩ Q := Tx_told (by kernel_rfl) h
theorem t13r9 {F : Oracle} {L : List (Nat × CV)} {m : Mem} {Q : CE → TS → Prop} (h :
    Obt (lenS (tget L 0)) fun a0 => 
    Obt (cbin Try.prog .lss 3 (.tmp 19) (.tmp 21) (tget L 8) a0) fun a1 => Q .normal ⟨[(0, (tget L 0)), (3, (tget L 3)), (4, (tget L 4)), (5, (tget L 5)), (6, (tget L 6)), (7, (tget L 7)), (8, (tget L 8)), (22, a1)], m⟩) :
    Tx Try.prog An F 13 (.reg false (some [0, 3, 4, 5, 6, 7, 8, 22]) c13r9) ⟨L, m⟩ Q := Tx_told (by kernel_rfl) h
theorem t13r11 {F : Oracle} {L : List (Nat × CV)} {m : Mem} {Q : CE → TS → Prop} (h :
    Obt (idxS 1 (tget L 4) (tget L 6)) fun a0 => 
    Obt (ld1 m a0) fun a1 => 
    Obt (gdO a1 true (some ((tget L 4), m)) (.tuple [], m)) fun a2 => 
    Obt (gdO a1 true (some ((tget L 8), a2.2)) (.tuple [], a2.2)) fun a3 => 
    Obt (gdO a1 true ((idxS 1 a2.1 a3.1).map fun v => (v, a3.2)) (.tuple [], a3.2)) fun a4 => 
    Obt (gdO a1 true ((ld1 a4.2 a4.1).map fun v => (v, a4.2)) (.tuple [], a4.2)) fun a5 => 
    Obt (pickX a1 a5.1 (.bool false)) fun a6 => 
    Obt (gdO a6 true (some ((tget L 0), a5.2)) (.tuple [], a5.2)) fun a7 => 
    Obt (gdO a6 true (some ((tget L 3), a7.2)) (.tuple [], a7.2)) fun a8 => 
    Obt (gdO a6 true (some ((tget L 6), a8.2)) (.tuple [], a8.2)) fun a9 => 
    Obt (gdO a6 true ((idxS 1 a8.1 a9.1).map fun v => (v, a9.2)) (.tuple [], a9.2)) fun a10 => 
    Obt (gdO a6 true ((ld1 a10.2 a10.1).map fun v => (v, a10.2)) (.tuple [], a10.2)) fun a11 => 
    Obt (gdO a6 true (some ((tget L 8), a11.2)) (.tuple [], a11.2)) fun a12 => 
    Obt (gdO a6 true (callC An F 13 (some 42) 25 [a7.1, a11.1, a12.1] a12.2) (.tuple [], a12.2)) fun a13 => 
    Obt (pickX a6 a13.1 (.bool false)) fun a14 => 
    Obt (gdO a14 true (some ((tget L 6), a13.2)) (.tuple [], a13.2)) fun a15 => 
    Obt (gdO a14 true (some ((tget L 8), a15.2)) (.tuple [], a15.2)) fun a16 => 
    Obt (gdO a14 true ((cbin Try.prog .eql 3 (.tmp 45) (.tmp 46) a15.1 a16.1).map fun v => (v, a16.2)) (.tuple [], a16.2)) fun a17 => 
    Obt (gdO a14 true (some (a17.1, a17.2)) (.tuple [], a17.2)) fun a18 => 
    Obt (gdO a18.1 false (some ((tget L 3), a18.2)) (.tuple [], a18.2)) fun a19 => 
    Obt (gdO a18.1 false (some ((tget L 6), a19.2)) (.tuple [], a19.2)) fun a20 => 
    Obt (gdO a18.1 false ((idxS 1 a19.1 a20.1).map fun v => (v, a20.2)) (.tuple [], a20.2)) fun a21 => 
    Obt (gdO a18.1 false ((ld1 a21.2 a21.1).map fun v => (v, a21.2)) (.tuple [], a21.2)) fun a22 => 
    Obt (gdO a18.1 false (some ((tget L 8), a22.2)) (.tuple [], a22.2)) fun a23 => 
    Obt (gdO a18.1 false ((idxS 1 a22.1 a23.1).map fun v => (v, a23.2)) (.tuple [], a23.2)) fun a24 => 
    Obt (gdO a18.1 false ((ld1 a24.2 a24.1).map fun v => (v, a24.2)) (.tuple [], a24.2)) fun a25 => 
    Obt (gdO a18.1 false ((cun .not a25.1).map fun v => (v, a25.2)) (.tuple [], a25.2)) fun a26 => 
    Obt (gdO a14 true ((pickX a18.1 (.bool true) a26.1).map fun v => (v, a26.2)) (.tuple [], a26.2)) fun a27 => 
    Obt (pickX a14 a27.1 (.bool false)) fun a28 => Q .normal ⟨[(0, (tget L 0)), (3, (tget L 3)), (4, (tget L 4)), (5, (tget L 5)), (6, (tget L 6)), (7, (tget L 7)), (8, (tget L 8)), (58, a28)], a27.2⟩) :
    Tx Try.prog An F 13 (.reg false (some [0, 3, 4, 5, 6, 7, 8, 58]) c13r11) ⟨L, m⟩ Q := Tx_told (by kernel_rfl) h
theorem t13r12 {F : Oracle} {L : List (Nat × CV)} {m : Mem} {Q : CE → TS → Prop} (h :
    Obt (bslX false 976 1 1 [.int .i64 0] [(0, 1, (tget L 8))] m) fun a0 => 
    Obt (appX false 992 1 8 (tget L 7) a0.1 a0.2) fun a1 => Q .normal ⟨[(0, (tget L 0)), (3, (tget L 3)), (4, (tget L 4)), (5, (tget L 5)), (6, (tget L 6)), (7, a1.1), (8, (tget L 8))], a1.2⟩) :
    Tx Try.prog An F 13 (.reg false (some [0, 3, 4, 5, 6, 7, 8]) c13r12) ⟨L, m⟩ Q := Tx_told (by kernel_rfl) h
theorem t13r10 {F : Oracle} {L : List (Nat × CV)} {m : Mem} {Q : CE → TS → Prop} (h :
    Obt (cbin Try.prog .add 3 (.tmp 23) (.const (.int .i64 1)) (tget L 8) (.int .i64 1)) fun a0 => Q .normal ⟨[(0, (tget L 0)), (3, (tget L 3)), (4, (tget L 4)), (5, (tget L 5)), (6, (tget L 6)), (7, (tget L 7)), (8, a0)], m⟩) :
    Tx Try.prog An F 13 (.reg false (some [0, 3, 4, 5, 6, 7, 8]) c13r10) ⟨L, m⟩ Q := Tx_told (by kernel_rfl) h
theorem t13r13 {F : Oracle} {L : List (Nat × CV)} {m : Mem} {Q : CE → TS → Prop} (h :
    Obt (bslX false 1040 1 1 [.nil] [(0, 1, (tget L 7))] m) fun a0 => 
    Obt (appX false 1056 1 24 (tget L 5) a0.1 a0.2) fun a1 => Q .normal ⟨[(0, (tget L 0)), (3, (tget L 3)), (4, (tget L 4)), (5, a1.1), (6, (tget L 6))], a1.2⟩) :
    Tx Try.prog An F 13 (.reg false (some [0, 3, 4, 5, 6]) c13r13) ⟨L, m⟩ Q := Tx_told (by kernel_rfl) h
theorem t13r6 {F : Oracle} {L : List (Nat × CV)} {m : Mem} {Q : CE → TS → Prop} (h :
    Obt (cbin Try.prog .add 3 (.tmp 17) (.const (.int .i64 1)) (tget L 6) (.int .i64 1)) fun a0 => Q .normal ⟨[(0, (tget L 0)), (3, (tget L 3)), (4, (tget L 4)), (5, (tget L 5)), (6, a0)], m⟩) :
    Tx Try.prog An F 13 (.reg false (some [0, 3, 4, 5, 6]) c13r6) ⟨L, m⟩ Q := Tx_told (by kernel_rfl) h
theorem t13r14 {F : Oracle} {L : List (Nat × CV)} {m : Mem} {Q : CE → TS → Prop} (h :
    Q .normal ⟨[(2, (tget L 5))], m⟩) :
    Tx Try.prog An F 13 (.reg false (some [2]) c13r14) ⟨L, m⟩ Q := Tx_told (by kernel_rfl) h
-- clevis/clevisref15.Dominates
def c14r0 : List SO :=
  [⟨(some 6), (.assign (.const (.bool false))), none⟩]
def c14r1 : List SO :=
  [⟨(some 7), (.move (.tmp 1)), none⟩,
   ⟨(some 8), (.binOp .lss 3 (.tmp 7) (.const (.int .i64 0)) 3), none⟩,
   ⟨(some 9), (.move (.tmp 8)), none⟩,
   ⟨(some 10), (.move (.tmp 1)), (some (9, false))⟩,
   ⟨(some 11), (.move (.tmp 0)), (some (9, false))⟩,
   ⟨(some 12), (.call ⟨(.builtin .len), #[(.tmp 11)], #[22]⟩), (some (9, false))⟩,
   ⟨(some 13), (.binOp .geq 3 (.tmp 10) (.tmp 12) 3), (some (9, false))⟩,
   ⟨(some 14), (.pick (.tmp 9) (.const (.bool true)) (.tmp 13)), none⟩,
   ⟨(some 15), (.move (.tmp 14)), none⟩,
   ⟨(some 16), (.move (.tmp 2)), (some (15, false))⟩,
   ⟨(some 17), (.binOp .lss 3 (.tmp 16) (.const (.int .i64 0)) 3), (some (15, false))⟩,
   ⟨(some 18), (.pick (.tmp 15) (.const (.bool true)) (.tmp 17)), none⟩,
   ⟨(some 19), (.move (.tmp 18)), none⟩,
   ⟨(some 20), (.move (.tmp 2)), (some (19, false))⟩,
   ⟨(some 21), (.move (.tmp 0)), (some (19, false))⟩,
   ⟨(some 22), (.call ⟨(.builtin .len), #[(.tmp 21)], #[22]⟩), (some (19, false))⟩,
   ⟨(some 23), (.binOp .geq 3 (.tmp 20) (.tmp 22) 3), (some (19, false))⟩,
   ⟨(some 24), (.pick (.tmp 19) (.const (.bool true)) (.tmp 23)), none⟩]
def c14r2 : List SO :=
  [⟨(some 6), (.assign (.const (.bool false))), none⟩]
def c14r3 : List SO :=
  [⟨(some 25), (.move (.tmp 0)), none⟩,
   ⟨(some 26), (.call ⟨(.value (.func 24)), #[(.tmp 25)], #[22]⟩), none⟩,
   ⟨(some 27), (.move (.tmp 1)), none⟩,
   ⟨(some 28), (.indexAddr 36 (.tmp 26) (.tmp 27)), none⟩,
   ⟨(some 29), (.load 25 (.tmp 28)), none⟩,
   ⟨(some 30), (.move (.tmp 2)), none⟩,
   ⟨(some 31), (.indexAddr 25 (.tmp 29) (.tmp 30)), none⟩,
   ⟨(some 32), (.load 4 (.tmp 31)), none⟩,
   ⟨(some 6), (.assign (.tmp 32)), none⟩]
def c14 : SC :=
  (.seq (.reg false (some [0, 1, 2]) c14r0) (.seq (.seq (.reg false (some [0, 1, 2, 24]) c14r1) (.cond (.tmp 24) (.seq (.reg false (some [6]) c14r2) .ret) .nop)) (.seq (.reg false (some [6]) c14r3) .ret)))
theorem s14 : Try.f14.body.bind (strip Try.prog An 14 Try.f14.ntmps) = some c14 := by kernel_rfl
theorem g14 : An.glob 14 = [] := rfl
theorem r14 : Try.f14.results.toList = [(.tmp 6)] := by kernel_rfl
theorem t14r0 {F : Oracle} {L : List (Nat × CV)} {m : Mem} {Q : CE → TS → Prop} (h :
    Q .normal ⟨[(0, (tget L 0)), (1, (tget L 1)), (2, (tget L 2))], m⟩) :
    Tx Try.prog An F 14 (.reg false (some [0, 1, 2]) c14r0) ⟨L, m⟩ Q := Tx_told (by kernel_rfl) h
theorem t14r1 {F : Oracle} {L : List (Nat × CV)} {m : Mem} {Q : CE → TS → Prop} (h :
    Obt (cbin Try.prog .lss 3 (.tmp 7) (.const (.int .i64 0)) (tget L 1) (.int .i64 0)) fun a0 => 
    Obt (gdO a0 false (some ((tget L 1), m)) (.tuple [], m)) fun a1 => 
    Obt (gdO a0 false (some ((tget L 0), a1.2)) (.tuple [], a1.2)) fun a2 => 
    Obt (gdO a0 false ((lenS a2.1).map fun v => (v, a2.2)) (.tuple [], a2.2)) fun a3 => 
    Obt (gdO a0 false ((cbin Try.prog .geq 3 (.tmp 10) (.tmp 12) a1.1 a3.1).map fun v => (v, a3.2)) (.tuple [], a3.2)) fun a4 => 
    Obt (pickX a0 (.bool true) a4.1) fun a5 => 
    Obt (gdO a5 false (some ((tget L 2), a4.2)) (.tuple [], a4.2)) fun a6 => 
    Obt (gdO a5 false ((cbin Try.prog .lss 3 (.tmp 16) (.const (.int .i64 0)) a6.1 (.int .i64 0)).map fun v => (v, a6.2)) (.tuple [], a6.2)) fun a7 => 
    Obt (pickX a5 (.bool true) a7.1) fun a8 => 
    Obt (gdO a8 false (some ((tget L 2), a7.2)) (.tuple [], a7.2)) fun a9 => 
    Obt (gdO a8 false (some ((tget L 0), a9.2)) (.tuple [], a9.2)) fun a10 => 
    Obt (gdO a8 false ((lenS a10.1).map fun v => (v, a10.2)) (.tuple [], a10.2)) fun a11 => 
    Obt (gdO a8 false ((cbin Try.prog .geq 3 (.tmp 20) (.tmp 22) a9.1 a11.1).map fun v => (v, a11.2)) (.tuple [], a11.2)) fun a12 => 
    Obt (pickX a8 (.bool true) a12.1) fun a13 => Q .normal ⟨[(0, (tget L 0)), (1, (tget L 1)), (2, (tget L 2)), (24, a13)], a12.2⟩) :
    Tx Try.prog An F 14 (.reg false (some [0, 1, 2, 24]) c14r1) ⟨L, m⟩ Q := Tx_told (by kernel_rfl) h
theorem t14r2 {F : Oracle} {L : List (Nat × CV)} {m : Mem} {Q : CE → TS → Prop} (h :
    Q .normal ⟨[(6, (.bool false))], m⟩) :
    Tx Try.prog An F 14 (.reg false (some [6]) c14r2) ⟨L, m⟩ Q := Tx_told (by kernel_rfl) h
theorem t14r3 {F : Oracle} {L : List (Nat × CV)} {m : Mem} {Q : CE → TS → Prop} (h :
    Obt (callC An F 14 (some 26) 24 [(tget L 0)] m) fun a0 => 
    Obt (idxS 1 a0.1 (tget L 1)) fun a1 => 
    Obt (ld1 a0.2 a1) fun a2 => 
    Obt (idxS 1 a2 (tget L 2)) fun a3 => 
    Obt (ld1 a0.2 a3) fun a4 => Q .normal ⟨[(6, a4)], a0.2⟩) :
    Tx Try.prog An F 14 (.reg false (some [6]) c14r3) ⟨L, m⟩ Q := Tx_told (by kernel_rfl) h
-- clevis/clevisref15.Idom
def c17r0 : List SO :=
  [⟨(some 2), (.assign (.const (.slice none 0 0))), none⟩]
def c17r1 : List SO :=
  [⟨(some 8), (.move (.tmp 0)), none⟩,
   ⟨(some 9), (.call ⟨(.value (.func 24)), #[(.tmp 8)], #[22]⟩), none⟩,
   ⟨(some 3), (.assign (.tmp 9)), none⟩]
def c17r2 : List SO :=
  [⟨(some 4), (.assign (.const (.slice none 0 0))), none⟩]
def c17r3 : List SO :=
  [⟨(some 5), (.assign (.const (.int .i64 0))), none⟩]
def c17r4 : List SO :=
  [⟨(some 10), (.move (.tmp 5)), none⟩,
   ⟨(some 11), (.move (.tmp 0)), none⟩,
   ⟨(some 12), (.call ⟨(.builtin .len), #[(.tmp 11)], #[22]⟩), none⟩,
   ⟨(some 13), (.binOp .lss 3 (.tmp 10) (.tmp 12) 3), none⟩]
def c17r6 : List SO :=
  [⟨(some 6), (.assign (.const (.int .i64 (-1)))), none⟩]
def c17r7 : List SO :=
  [⟨(some 7), (.assign (.const (.int .i64 0))), none⟩]
def c17r8 : List SO :=
  [⟨(some 16), (.move (.tmp 7)), none⟩,
   ⟨(some 17), (.move (.tmp 0)), none⟩,
   ⟨(some 18), (.call ⟨(.builtin .len), #[(.tmp 17)], #[22]⟩), none⟩,
   ⟨(some 19), (.binOp .lss 3 (.tmp 16) (.tmp 18) 3), none⟩]
def c17r10 : List SO :=
  [⟨(some 22), (.move (.tmp 7)), none⟩,
   ⟨(some 23), (.move (.tmp 5)), none⟩,
   ⟨(some 24), (.binOp .neq 3 (.tmp 22) (.tmp 23) 3), none⟩,
   ⟨(some 25), (.move (.tmp 24)), none⟩,
   ⟨(some 26), (.move (.tmp 3)), (some (25, true))⟩,
   ⟨(some 27), (.move (.tmp 7)), (some (25, true))⟩,
   ⟨(some 28), (.indexAddr 36 (.tmp 26) (.tmp 27)), (some (25, true))⟩,
   ⟨(some 29), (.load 25 (.tmp 28)), (some (25, true))⟩,
   ⟨(some 30), (.move (.tmp 5)), (some (25, true))⟩,
   ⟨(some 31), (.indexAddr 25 (.tmp 29) (.tmp 30)), (some (25, true))⟩,
   ⟨(some 32), (.load 4 (.tmp 31)), (some (25, true))⟩,
   ⟨(some 33), (.pick (.tmp 25) (.tmp 32) (.const (.bool false))), none⟩,
   ⟨(some 34), (.move (.tmp 33)), none⟩,
   ⟨(some 35), (.move (.tmp 6)), (some (34, true))⟩,
   ⟨(some 36), (.binOp .lss 3 (.tmp 35) (.const (.int .i64 0)) 3), (some (34, true))⟩,
   ⟨(some 37), (.move (.tmp 36)), (some (34, true))⟩,
   ⟨(some 38), (.move (.tmp 3)), (some (37, false))⟩,
   ⟨(some 39), (.move (.tmp 6)), (some (37, false))⟩,
   ⟨(some 40), (.indexAddr 36 (.tmp 38) (.tmp 39)), (some (37, false))⟩,
   ⟨(some 41), (.load 25 (.tmp 40)), (some (37, false))⟩,
   ⟨(some 42), (.move (.tmp 7)), (some (37, false))⟩,
   ⟨(some 43), (.indexAddr 25 (.tmp 41) (.tmp 42)), (some (37, false))⟩,
   ⟨(some 44), (.load 4 (.tmp 43)), (some (37, false))⟩,
   ⟨(some 45), (.pick (.tmp 37) (.const (.bool true)) (.tmp 44)), (some (34, true))⟩,
   ⟨(some 46), (.pick (.tmp 34) (.tmp 45) (.const (.bool false))), none⟩]
def c17r11 : List SO :=
  [⟨(some 47), (.move (.tmp 7)), none⟩,
   ⟨(some 6), (.assign (.tmp 47)), none⟩]
def c17r9 : List SO :=
  [⟨(some 20), (.move (.tmp 7)), none⟩,
   ⟨(some 21), (.binOp .add 3 (.tmp 20) (.const (.int .i64 1)) 3), none⟩,
   ⟨(some 7), (.assign (.tmp 21)), none⟩]
def c17l0 : SC :=
  (.seq (.seq (.reg false (some [0, 3, 4, 5, 6, 7, 19]) c17r8) (.cond (.tmp 19) .nop (.exit 2))) (.seq (.block 3 (.seq (.reg false (some [0, 3, 4, 5, 6, 7, 46]) c17r10) (.cond (.tmp 46) (.reg false (some [0, 3, 4, 5, 6, 7]) c17r11) .nop))) (.reg false (some [0, 3, 4, 5, 6, 7]) c17r9)))
def c17r12 : List SO :=
  [⟨(some 48), (.move (.tmp 4)), none⟩,
   ⟨(some 49), (.move (.tmp 6)), none⟩,
   ⟨(some 50), (.buildSlice 27 1 #[(0, (.tmp 49))]), none⟩,
   ⟨(some 51), (.call ⟨(.builtin .append), #[(.tmp 48), (.tmp 50)], #[27, 27]⟩), none⟩,
   ⟨(some 4), (.assign (.tmp 51)), none⟩]
def c17r5 : List SO :=
  [⟨(some 14), (.move (.tmp 5)), none⟩,
   ⟨(some 15), (.binOp .add 3 (.tmp 14) (.const (.int .i64 1)) 3), none⟩,
   ⟨(some 5), (.assign (.tmp 15)), none⟩]
def c17l1 : SC :=
  (.seq (.seq (.reg false (some [0, 3, 4, 5, 13]) c17r4) (.cond (.tmp 13) .nop (.exit 0))) (.seq (.block 1 (.seq (.reg false (some [0, 3, 4, 5, 6]) c17r6) (.seq (.seq (.reg false (some [0, 3, 4, 5, 6, 7]) c17r7) (.block 2 (.loop c17l0))) (.reg false (some [0, 3, 4, 5]) c17r12)))) (.reg false (some [0, 3, 4, 5]) c17r5)))
def c17r13 : List SO :=
  [⟨(some 52), (.move (.tmp 4)), none⟩,
   ⟨(some 2), (.assign (.tmp 52)), none⟩]
def c17 : SC :=
  (.seq (.reg false (some [0]) c17r0) (.seq (.reg false (some [0, 3]) c17r1) (.seq (.reg false (some [0, 3, 4]) c17r2) (.seq (.seq (.reg false (some [0, 3, 4, 5]) c17r3) (.block 0 (.loop c17l1))) (.seq (.reg false (some [2]) c17r13) .ret)))))
theorem s17 : Try.f17.body.bind (strip Try.prog An 17 Try.f17.ntmps) = some c17 := by kernel_rfl
theorem g17 : An.glob 17 = [] := rfl
theorem r17 : Try.f17.results.toList = [(.tmp 2)] := by kernel_rfl
theorem t17r0 {F : Oracle} {L : List (Nat × CV)} {m : Mem} {Q : CE → TS → Prop} (h :
    Q .normal ⟨[(0, (tget L 0))], m⟩) :
    Tx Try.prog An F 17 (.reg false (some [0]) c17r0) ⟨L, m⟩ Q := Tx_told (by kernel_rfl) h
theorem t17r1 {F : Oracle} {L : List (Nat × CV)} {m : Mem} {Q : CE → TS → Prop} (h :
    Obt (callC An F 17 (some 9) 24 [(tget L 0)] m) fun a0 => Q .normal ⟨[(0, (tget L 0)), (3, a0.1)], a0.2⟩) :
    Tx Try.prog An F 17 (.reg false (some [0, 3]) c17r1) ⟨L, m⟩ Q := Tx_told (by kernel_rfl) h
theorem t17r2 {F : Oracle} {L : List (Nat × CV)} {m : Mem} {Q : CE → TS → Prop} (h :
    Q .normal ⟨[(0, (tget L 0)), (3, (tget L 3)), (4, .nil)], m⟩) :
    Tx Try.prog An F 17 (.reg false (some [0, 3, 4]) c17r2) ⟨L, m⟩ Q := Tx_told (by kernel_rfl) h
theorem t17r3 {F : Oracle} {L : List (Nat × CV)} {m : Mem} {Q : CE → TS → Prop} (h :
    Q .normal ⟨[(0, (tget L 0)), (3, (tget L 3)), (4, (tget L 4)), (5, (.int .i64 0))], m⟩) :
    Tx Try.prog An F 17 (.reg false (some [0, 3, 4, 5]) c17r3) ⟨L, m⟩ Q := Tx_told (by kernel_rfl) h
theorem t17r4 {F : Oracle} {L : List (Nat × CV)} {m : Mem} {Q : CE → TS → Prop} (h :
    Obt (lenS (tget L 0)) fun a0 => 
    Obt (cbin Try.prog .lss 3 (.tmp 10) (.tmp 12) (tget L 5) a0) fun a1 => Q .normal ⟨[(0, (tget L 0)), (3, (tget L 3)), (4, (tget L 4)), (5, (tget L 5)), (13, a1)], m⟩) :
    Tx Try.prog An F 17 (.reg false (some [0, 3, 4, 5, 13]) c17r4) ⟨L, m⟩ Q := Tx_told (by kernel_rfl) h
theorem t17r6 {F : Oracle} {L : List (Nat × CV)} {m : Mem} {Q : CE → TS → Prop} (h :
    Q .normal ⟨[(0, (tget L 0)), (3, (tget L 3)), (4, (tget L 4)), (5, (tget L 5)), (6, (.int .i64 (-1)))], m⟩) :
    Tx Try.prog An F 17 (.reg false (some [0, 3, 4, 5, 6]) c17r6) ⟨L, m⟩ Q := Tx_told (by kernel_rfl) h
theorem t17r7 {F : Oracle} {L : List (Nat × CV)} {m : Mem} {Q : CE → TS → Prop} (h :
    Q .normal ⟨[(0, (tget L 0)), (3, (tget L 3)), (4, (tget L 4)), (5, (tget L 5)), (6, (tget L 6)), (7, (.int .i64 0))], m⟩) :
    Tx Try.prog An F 17 (.reg false (some [0, 3, 4, 5, 6, 7]) c17r7) ⟨L, m⟩ Q := Tx_told (by kernel_rfl) h
theorem t17r8 {F : Oracle} {L : List (Nat × CV)} {m : Mem} {Q : CE → TS → Prop} (h :
    Obt (lenS (tget L 0)) fun a0 => 
    Obt (cbin Try.prog .lss 3 (.tmp 16) (.tmp 18) (tget L 7) a0) fun a1 => Q .normal ⟨[(0, (tget L 0)), (3, (tget L 3)), (4, (tget L 4)), (5, (tget L 5)), (6, (tget L 6)), (7, (tget L 7)), (19, a1)], m⟩) :
    Tx Try.prog An F 17 (.reg false (some [0, 3, 4, 5, 6, 7, 19]) c17r8) ⟨L, m⟩ Q := Tx_told (by kernel_rfl) h
theorem t17r10 {F : Oracle} {L : List (Nat × CV)} {m : Mem} {Q : CE → TS → Prop} (h :
    Obt (cbin Try.prog .neq 3 (.tmp 22) (.tmp 23) (tget L 7) (tget L 5)) fun a0 => 
    Obt (gdO a0 true (some ((tget L 3), m)) (.tuple [], m)) fun a1 => 
    Obt (gdO a0 true (some ((tget L 7), a1.2)) (.tuple [], a1.2)) fun a2 => 
    Obt (gdO a0 true ((idxS 1 a1.1 a2.1).map fun v => (v, a2.2)) (.tuple [], a2.2)) fun a3 => 
    Obt (gdO a0 true ((ld1 a3.2 a3.1).map fun v => (v, a3.2)) (.tuple [], a3.2)) fun a4 => 
    Obt (gdO a0 true (some ((tget L 5), a4.2)) (.tuple [], a4.2)) fun a5 => 
    Obt (gdO a0 true ((idxS 1 a4.1 a5.1).map fun v => (v, a5.2)) (.tuple [], a5.2)) fun a6 => 
    Obt (gdO a0 true ((ld1 a6.2 a6.1).map fun v => (v, a6.2)) (.tuple [], a6.2)) fun a7 => 
    Obt (pickX a0 a7.1 (.bool false)) fun a8 => 
    Obt (gdO a8 true (some ((tget L 6), a7.2)) (.tuple [], a7.2)) fun a9 => 
    Obt (gdO a8 true ((cbin Try.prog .lss 3 (.tmp 35) (.const (.int .i64 0)) a9.1 (.int .i64 0)).map fun v => (v, a9.2)) (.tuple [], a9.2)) fun a10 => 
    Obt (gdO a8 true (some (a10.1, a10.2)) (.tuple [], a10.2)) fun a11 => 
    Obt (gdO a11.1 false (some ((tget L 3), a11.2)) (.tuple [], a11.2)) fun a12 => 
    Obt (gdO a11.1 false (some ((tget L 6), a12.2)) (.tuple [], a12.2)) fun a13 => 
    Obt (gdO a11.1 false ((idxS 1 a12.1 a13.1).map fun v => (v, a13.2)) (.tuple [], a13.2)) fun a14 => 
    Obt (gdO a11.1 false ((ld1 a14.2 a14.1).map fun v => (v, a14.2)) (.tuple [], a14.2)) fun a15 => 
    Obt (gdO a11.1 false (some ((tget L 7), a15.2)) (.tuple [], a15.2)) fun a16 => 
    Obt (gdO a11.1 false ((idxS 1 a15.1 a16.1).map fun v => (v, a16.2)) (.tuple [], a16.2)) fun a17 => 
    Obt (gdO a11.1 false ((ld1 a17.2 a17.1).map fun v => (v, a17.2)) (.tuple [], a17.2)) fun a18 => 
    Obt (gdO a8 true ((pickX a11.1 (.bool true) a18.1).map fun v => (v, a18.2)) (.tuple [], a18.2)) fun a19 => 
    Obt (pickX a8 a19.1 (.bool false)) fun a20 => Q .normal ⟨[(0, (tget L 0)), (3, (tget L 3)), (4, (tget L 4)), (5, (tget L 5)), (6, (tget L 6)), (7, (tget L 7)), (46, a20)], a19.2⟩) :
    Tx Try.prog An F 17 (.reg false (some [0, 3, 4, 5, 6, 7, 46]) c17r10) ⟨L, m⟩ Q := Tx_told (by kernel_rfl) h
theorem t17r11 {F : Oracle} {L : List (Nat × CV)} {m : Mem} {Q : CE → TS → Prop} (h :
    Q .normal ⟨[(0, (tget L 0)), (3, (tget L 3)), (4, (tget L 4)), (5, (tget L 5)), (6, (tget L 7)), (7, (tget L 7))], m⟩) :
    Tx Try.prog An F 17 (.reg false (some [0, 3, 4, 5, 6, 7]) c17r11) ⟨L, m⟩ Q := Tx_told (by kernel_rfl) h
theorem t17r9 {F : Oracle} {L : List (Nat × CV)} {m : Mem} {Q : CE → TS → Prop} (h :
    Obt (cbin Try.prog .add 3 (.tmp 20) (.const (.int .i64 1)) (tget L 7) (.int .i64 1)) fun a0 => Q .normal ⟨[(0, (tget L 0)), (3, (tget L 3)), (4, (tget L 4)), (5, (tget L 5)), (6, (tget L 6)), (7, a0)], m⟩) :
    Tx Try.prog An F 17 (.reg false (some [0, 3, 4, 5, 6, 7]) c17r9) ⟨L, m⟩ Q := Tx_told (by kernel_rfl) h
theorem t17r12 {F : Oracle} {L : List (Nat × CV)} {m : Mem} {Q : CE → TS → Prop} (h :
    Obt (bslX false 800 1 1 [.int .i64 0] [(0, 1, (tget L 6))] m) fun a0 => 
    Obt (appX false 816 1 8 (tget L 4) a0.1 a0.2) fun a1 => Q .normal ⟨[(0, (tget L 0)), (3, (tget L 3)), (4, a1.1), (5, (tget L 5))], a1.2⟩) :
    Tx Try.prog An F 17 (.reg false (some [0, 3, 4, 5]) c17r12) ⟨L, m⟩ Q := Tx_told (by kernel_rfl) h
theorem t17r5 {F : Oracle} {L : List (Nat × CV)} {m : Mem} {Q : CE → TS → Prop} (h :
    Obt (cbin Try.prog .add 3 (.tmp 14) (.const (.int .i64 1)) (tget L 5) (.int .i64 1)) fun a0 => Q .normal ⟨[(0, (tget L 0)), (3, (tget L 3)), (4, (tget L 4)), (5, a0)], m⟩) :
    Tx Try.prog An F 17 (.reg false (some [0, 3, 4, 5]) c17r5) ⟨L, m⟩ Q := Tx_told (by kernel_rfl) h
theorem t17r13 {F : Oracle} {L : List (Nat × CV)} {m : Mem} {Q : CE → TS → Prop} (h :
    Q .normal ⟨[(2, (tget L 4))], m⟩) :
    Tx Try.prog An F 17 (.reg false (some [2]) c17r13) ⟨L, m⟩ Q := Tx_told (by kernel_rfl) h
-- clevis/clevisref15.Table
def c24r0 : List SO :=
  [⟨(some 2), (.assign (.const (.slice none 0 0))), none⟩]
def c24r1 : List SO :=
  [⟨(some 9), (.move (.tmp 0)), none⟩,
   ⟨(some 10), (.call ⟨(.value (.func 18)), #[(.tmp 9)], #[22]⟩), none⟩,
   ⟨(some 3), (.assign (.tmp 10)), none⟩]
def c24r2 : List SO :=
  [⟨(some 4), (.assign (.const (.slice none 0 0))), none⟩]
def c24r3 : List SO :=
  [⟨(some 5), (.assign (.const (.int .i64 0))), none⟩]
def c24r4 : List SO :=
  [⟨(some 11), (.move (.tmp 5)), none⟩,
   ⟨(some 12), (.move (.tmp 0)), none⟩,
   ⟨(some 13), (.call ⟨(.builtin .len), #[(.tmp 12)], #[22]⟩), none⟩,
   ⟨(some 14), (.binOp .lss 3 (.tmp 11) (.tmp 13) 3), none⟩]
def c24r6 : List SO :=
  [⟨(some 17), (.move (.tmp 0)), none⟩,
   ⟨(some 18), (.move (.tmp 5)), none⟩,
   ⟨(some 19), (.call ⟨(.value (.func 27)), #[(.tmp 17), (.tmp 18)], #[22, 3]⟩), none⟩,
   ⟨(some 6), (.assign (.tmp 19)), none⟩]
def c24r7 : List SO :=
  [⟨(some 20), (.move (.tmp 0)), none⟩,
   ⟨(some 21), (.call ⟨(.builtin .len), #[(.tmp 20)], #[22]⟩), none⟩,
   ⟨(some 22), (.makeSlice 25 (.tmp 21) (.tmp 21)), none⟩,
   ⟨(some 7), (.assign (.tmp 22)), none⟩]
def c24r8 : List SO :=
  [⟨(some 8), (.assign (.const (.int .i64 0))), none⟩]
def c24r9 : List SO :=
  [⟨(some 23), (.move (.tmp 8)), none⟩,
   ⟨(some 24), (.move (.tmp 0)), none⟩,
   ⟨(some 25), (.call ⟨(.builtin .len), #[(.tmp 24)], #[22]⟩), none⟩,
   ⟨(some 26), (.binOp .lss 3 (.tmp 23) (.tmp 25) 3), none⟩]
def c24r11 : List SO :=
  [⟨(some 29), (.move (.tmp 7)), none⟩,
   ⟨(some 30), (.move (.tmp 8)), none⟩,
   ⟨(some 31), (.move (.tmp 3)), none⟩,
   ⟨(some 32), (.move (.tmp 5)), none⟩,
   ⟨(some 33), (.indexAddr 25 (.tmp 31) (.tmp 32)), none⟩,
   ⟨(some 34), (.load 4 (.tmp 33)), none⟩,
   ⟨(some 35), (.move (.tmp 34)), none⟩,
   ⟨(some 36), (.move (.tmp 3)), (some (35, true))⟩,
   ⟨(some 37), (.move (.tmp 8)), (some (35, true))⟩,
   ⟨(some 38), (.indexAddr 25 (.tmp 36) (.tmp 37)), (some (35, true))⟩,
   ⟨(some 39), (.load 4 (.tmp 38)), (some (35, true))⟩,
   ⟨(some 40), (.pick (.tmp 35) (.tmp 39) (.const (.bool false))), none⟩,
   ⟨(some 41), (.move (.tmp 40)), none⟩,
   ⟨(some 42), (.move (.tmp 5)), (some (41, true))⟩,
   ⟨(some 43), (.move (.tmp 8)), (some (41, true))⟩,
   ⟨(some 44), (.binOp .eql 3 (.tmp 42) (.tmp 43) 3), (some (41, true))⟩,
   ⟨(some 45), (.move (.tmp 44)), (some (41, true))⟩,
   ⟨(some 46), (.move (.tmp 6)), (some (45, false))⟩,
   ⟨(some 47), (.move (.tmp 8)), (some (45, false))⟩,
   ⟨(some 48), (.indexAddr 25 (.tmp 46) (.tmp 47)), (some (45, false))⟩,
   ⟨(some 49), (.load 4 (.tmp 48)), (some (45, false))⟩,
   ⟨(some 50), (.unOp .not 4 (.tmp 49)), (some (45, false))⟩,
   ⟨(some 51), (.pick (.tmp 45) (.const (.bool true)) (.tmp 50)), (some (41, true))⟩,
   ⟨(some 52), (.pick (.tmp 41) (.tmp 51) (.const (.bool false))), none⟩,
   ⟨(some 53), (.indexAddr 25 (.tmp 29) (.tmp 30)), none⟩,
   ⟨none, (.store 4 (.tmp 53) (.tmp 52)), none⟩]
def c24r10 : List SO :=
  [⟨(some 27), (.move (.tmp 8)), none⟩,
   ⟨(some 28), (.binOp .add 3 (.tmp 27) (.const (.int .i64 1)) 3), none⟩,
   ⟨(some 8), (.assign (.tmp 28)), none⟩]
def c24l0 : SC :=
  (.seq (.seq (.reg false (some [0, 3, 4, 5, 6, 7, 8, 26]) c24r9) (.cond (.tmp 26) .nop (.exit 2))) (.seq (.block 3 (.reg false (some [0, 3, 4, 5, 6, 7, 8]) c24r11)) (.reg false (some [0, 3, 4, 5, 6, 7, 8]) c24r10)))
def c24r12 : List SO :=
  [⟨(some 54), (.move (.tmp 4)), none⟩,
   ⟨(some 55), (.move (.tmp 7)), none⟩,
   ⟨(some 56), (.buildSlice 36 1 #[(0, (.tmp 55))]), none⟩,
   ⟨(some 57), (.call ⟨(.builtin .append), #[(.tmp 54), (.tmp 56)], #[36, 36]⟩), none⟩,
   ⟨(some 4), (.assign (.tmp 57)), none⟩]
def c24r5 : List SO :=
  [⟨(some 15), (.move (.tmp 5)), none⟩,
   ⟨(some 16), (.binOp .add 3 (.tmp 15) (.const (.int .i64 1)) 3), none⟩,
   ⟨(some 5), (.assign (.tmp 16)), none⟩]
def c24l1 : SC :=
  (.seq (.seq (.reg false (some [0, 3, 4, 5, 14]) c24r4) (.cond (.tmp 14) .nop (.exit 0))) (.seq (.block 1 (.seq (.reg false (some [0, 3, 4, 5, 6]) c24r6) (.seq (.reg false (some [0, 3, 4, 5, 6, 7]) c24r7) (.seq (.seq (.reg false (some [0, 3, 4, 5, 6, 7, 8]) c24r8) (.block 2 (.loop c24l0))) (.reg false (some [0, 3, 4, 5]) c24r12))))) (.reg false (some [0, 3, 4, 5]) c24r5)))
def c24r13 : List SO :=
  [⟨(some 58), (.move (.tmp 4)), none⟩,
   ⟨(some 2), (.assign (.tmp 58)), none⟩]
def c24 : SC :=
  (.seq (.reg false (some [0]) c24r0) (.seq (.reg false (some [0, 3]) c24r1) (.seq (.reg false (some [0, 3, 4]) c24r2) (.seq (.seq (.reg false (some [0, 3, 4, 5]) c24r3) (.block 0 (.loop c24l1))) (.seq (.reg false (some [2]) c24r13) .ret)))))
theorem s24 : Try.f24.body.bind (strip Try.prog An 24 Try.f24.ntmps) = some c24 := by kernel_rfl
theorem g24 : An.glob 24 = [] := rfl
theorem r24 : Try.f24.results.toList = [(.tmp 2)] := by kernel_rfl
theorem t24r0 {F : Oracle} {L : List (Nat × CV)} {m : Mem} {Q : CE → TS → Prop} (h :
    Q .normal ⟨[(0, (tget L 0))], m⟩) :
    Tx Try.prog An F 24 (.reg false (some [0]) c24r0) ⟨L, m⟩ Q := Tx_told (by kernel_rfl) h
theorem t24r1 {F : Oracle} {L : List (Nat × CV)} {m : Mem} {Q : CE → TS → Prop} (h :
    Obt (callC An F 24 (some 10) 18 [(tget L 0)] m) fun a0 => Q .normal ⟨[(0, (tget L 0)), (3, a0.1)], a0.2⟩) :
    Tx Try.prog An F 24 (.reg false (some [0, 3]) c24r1) ⟨L, m⟩ Q := Tx_told (by kernel_rfl) h
theorem t24r2 {F : Oracle} {L : List (Nat × CV)} {m : Mem} {Q : CE → TS → Prop} (h :
    Q .normal ⟨[(0, (tget L 0)), (3, (tget L 3)), (4, .nil)], m⟩) :
    Tx Try.prog An F 24 (.reg false (some [0, 3, 4]) c24r2) ⟨L, m⟩ Q := Tx_told (by kernel_rfl) h
theorem t24r3 {F : Oracle} {L : List (Nat × CV)} {m : Mem} {Q : CE → TS → Prop} (h :
    Q .normal ⟨[(0, (tget L 0)), (3, (tget L 3)), (4, (tget L 4)), (5, (.int .i64 0))], m⟩) :
    Tx Try.prog An F 24 (.reg false (some [0, 3, 4, 5]) c24r3) ⟨L, m⟩ Q := Tx_told (by kernel_rfl) h
theorem t24r4 {F : Oracle} {L : List (Nat × CV)} {m : Mem} {Q : CE → TS → Prop} (h :
    Obt (lenS (tget L 0)) fun a0 => 
    Obt (cbin Try.prog .lss 3 (.tmp 11) (.tmp 13) (tget L 5) a0) fun a1 => Q .normal ⟨[(0, (tget L 0)), (3, (tget L 3)), (4, (tget L 4)), (5, (tget L 5)), (14, a1)], m⟩) :
    Tx Try.prog An F 24 (.reg false (some [0, 3, 4, 5, 14]) c24r4) ⟨L, m⟩ Q := Tx_told (by kernel_rfl) h
theorem t24r6 {F : Oracle} {L : List (Nat × CV)} {m : Mem} {Q : CE → TS → Prop} (h :
    Obt (callC An F 24 (some 19) 27 [(tget L 0), (tget L 5)] m) fun a0 => Q .normal ⟨[(0, (tget L 0)), (3, (tget L 3)), (4, (tget L 4)), (5, (tget L 5)), (6, a0.1)], a0.2⟩) :
    Tx Try.prog An F 24 (.reg false (some [0, 3, 4, 5, 6]) c24r6) ⟨L, m⟩ Q := Tx_told (by kernel_rfl) h
theorem t24r7 {F : Oracle} {L : List (Nat × CV)} {m : Mem} {Q : CE → TS → Prop} (h :
    Obt (lenS (tget L 0)) fun a0 => 
    Obt (mkX false 352 1 1 [.bool false] a0 a0 m) fun a1 => Q .normal ⟨[(0, (tget L 0)), (3, (tget L 3)), (4, (tget L 4)), (5, (tget L 5)), (6, (tget L 6)), (7, a1.1)], a1.2⟩) :
    Tx Try.prog An F 24 (.reg false (some [0, 3, 4, 5, 6, 7]) c24r7) ⟨L, m⟩ Q := Tx_told (by kernel_rfl) h
theorem t24r8 {F : Oracle} {L : List (Nat × CV)} {m : Mem} {Q : CE → TS → Prop} (h :
    Q .normal ⟨[(0, (tget L 0)), (3, (tget L 3)), (4, (tget L 4)), (5, (tget L 5)), (6, (tget L 6)), (7, (tget L 7)), (8, (.int .i64 0))], m⟩) :
    Tx Try.prog An F 24 (.reg false (some [0, 3, 4, 5, 6, 7, 8]) c24r8) ⟨L, m⟩ Q := Tx_told (by kernel_rfl) h
theorem t24r9 {F : Oracle} {L : List (Nat × CV)} {m : Mem} {Q : CE → TS → Prop} (h :
    Obt (lenS (tget L 0)) fun a0 => 
    Obt (cbin Try.prog .lss 3 (.tmp 23) (.tmp 25) (tget L 8) a0) fun a1 => Q .normal ⟨[(0, (tget L 0)), (3, (tget L 3)), (4, (tget L 4)), (5, (tget L 5)), (6, (tget L 6)), (7, (tget L 7)), (8, (tget L 8)), (26, a1)], m⟩) :
    Tx Try.prog An F 24 (.reg false (some [0, 3, 4, 5, 6, 7, 8, 26]) c24r9) ⟨L, m⟩ Q := Tx_told (by kernel_rfl) h
theorem t24r11 {F : Oracle} {L : List (Nat × CV)} {m : Mem} {Q : CE → TS → Prop} (h :
    Obt (idxS 1 (tget L 3) (tget L 5)) fun a0 => 
    Obt (ld1 m a0) fun a1 => 
    Obt (gdO a1 true (some ((tget L 3), m)) (.tuple [], m)) fun a2 => 
    Obt (gdO a1 true (some ((tget L 8), a2.2)) (.tuple [], a2.2)) fun a3 => 
    Obt (gdO a1 true ((idxS 1 a2.1 a3.1).map fun v => (v, a3.2)) (.tuple [], a3.2)) fun a4 => 
    Obt (gdO a1 true ((ld1 a4.2 a4.1).map fun v => (v, a4.2)) (.tuple [], a4.2)) fun a5 => 
    Obt (pickX a1 a5.1 (.bool false)) fun a6 => 
    Obt (gdO a6 true (some ((tget L 5), a5.2)) (.tuple [], a5.2)) fun a7 => 
    Obt (gdO a6 true (some ((tget L 8), a7.2)) (.tuple [], a7.2)) fun a8 => 
    Obt (gdO a6 true ((cbin Try.prog .eql 3 (.tmp 42) (.tmp 43) a7.1 a8.1).map fun v => (v, a8.2)) (.tuple [], a8.2)) fun a9 => 
    Obt (gdO a6 true (some (a9.1, a9.2)) (.tuple [], a9.2)) fun a10 => 
    Obt (gdO a10.1 false (some ((tget L 6), a10.2)) (.tuple [], a10.2)) fun a11 => 
    Obt (gdO a10.1 false (some ((tget L 8), a11.2)) (.tuple [], a11.2)) fun a12 => 
    Obt (gdO a10.1 false ((idxS 1 a11.1 a12.1).map fun v => (v, a12.2)) (.tuple [], a12.2)) fun a13 => 
    Obt (gdO a10.1 false ((ld1 a13.2 a13.1).map fun v => (v, a13.2)) (.tuple [], a13.2)) fun a14 => 
    Obt (gdO a10.1 false ((cun .not a14.1).map fun v => (v, a14.2)) (.tuple [], a14.2)) fun a15 => 
    Obt (gdO a6 true ((pickX a10.1 (.bool true) a15.1).map fun v => (v, a15.2)) (.tuple [], a15.2)) fun a16 => 
    Obt (pickX a6 a16.1 (.bool false)) fun a17 => 
    Obt (idxS 1 (tget L 7) (tget L 8)) fun a18 => 
    Obt (stX 1 a16.2 a18 a17) fun a19 => Q .normal ⟨[(0, (tget L 0)), (3, (tget L 3)), (4, (tget L 4)), (5, (tget L 5)), (6, (tget L 6)), (7, (tget L 7)), (8, (tget L 8))], a19⟩) :
    Tx Try.prog An F 24 (.reg false (some [0, 3, 4, 5, 6, 7, 8]) c24r11) ⟨L, m⟩ Q := Tx_told (by kernel_rfl) h
theorem t24r10 {F : Oracle} {L : List (Nat × CV)} {m : Mem} {Q : CE → TS → Prop} (h :
    Obt (cbin Try.prog .add 3 (.tmp 27) (.const (.int .i64 1)) (tget L 8) (.int .i64 1)) fun a0 => Q .normal ⟨[(0, (tget L 0)), (3, (tget L 3)), (4, (tget L 4)), (5, (tget L 5)), (6, (tget L 6)), (7, (tget L 7)), (8, a0)], m⟩) :
    Tx Try.prog An F 24 (.reg false (some [0, 3, 4, 5, 6, 7, 8]) c24r10) ⟨L, m⟩ Q := Tx_told (by kernel_rfl) h
theorem t24r12 {F : Oracle} {L : List (Nat × CV)} {m : Mem} {Q : CE → TS → Prop} (h :
    Obt (bslX false 896 1 1 [.nil] [(0, 1, (tget L 7))] m) fun a0 => 
    Obt (appX false 912 1 24 (tget L 4) a0.1 a0.2) fun a1 => Q .normal ⟨[(0, (tget L 0)), (3, (tget L 3)), (4, a1.1), (5, (tget L 5))], a1.2⟩) :
    Tx Try.prog An F 24 (.reg false (some [0, 3, 4, 5]) c24r12) ⟨L, m⟩ Q := Tx_told (by kernel_rfl) h
theorem t24r5 {F : Oracle} {L : List (Nat × CV)} {m : Mem} {Q : CE → TS → Prop} (h :
    Obt (cbin Try.prog .add 3 (.tmp 15) (.const (.int .i64 1)) (tget L 5) (.int .i64 1)) fun a0 => Q .normal ⟨[(0, (tget L 0)), (3, (tget L 3)), (4, (tget L 4)), (5, a0)], m⟩) :
    Tx Try.prog An F 24 (.reg false (some [0, 3, 4, 5]) c24r5) ⟨L, m⟩ Q := Tx_told (by kernel_rfl) h
theorem t24r13 {F : Oracle} {L : List (Nat × CV)} {m : Mem} {Q : CE → TS → Prop} (h :
    Q .normal ⟨[(2, (tget L 4))], m⟩) :
    Tx Try.prog An F 24 (.reg false (some [2]) c24r13) ⟨L, m⟩ Q := Tx_told (by kernel_rfl) h
-- clevis/clevisref15.leads
def c25r0 : List SO :=
  [⟨(some 6), (.assign (.const (.bool false))), none⟩]
def c25r1 : List SO :=
  [⟨(some 7), (.assign (.const (.int .i64 0))), none⟩]
def c25r2 : List SO :=
  [⟨(some 9), (.move (.tmp 7)), none⟩,
   ⟨(some 10), (.move (.tmp 0)), none⟩,
   ⟨(some 11), (.call ⟨(.builtin .len), #[(.tmp 10)], #[22]⟩), none⟩,
   ⟨(some 12), (.binOp .lss 3 (.tmp 9) (.tmp 11) 3), none⟩]
def c25r4 : List SO :=
  [⟨(some 8), (.assign (.const (.int .i64 0))), none⟩]
def c25r5 : List SO :=
  [⟨(some 15), (.move (.tmp 8)), none⟩,
   ⟨(some 16), (.move (.tmp 0)), none⟩,
   ⟨(some 17), (.move (.tmp 7)), none⟩,
   ⟨(some 18), (.indexAddr 22 (.tmp 16) (.tmp 17)), none⟩,
   ⟨(some 19), (.load 27 (.tmp 18)), none⟩,
   ⟨(some 20), (.call ⟨(.builtin .len), #[(.tmp 19)], #[27]⟩), none⟩,
   ⟨(some 21), (.binOp .lss 3 (.tmp 15) (.tmp 20) 3), none⟩,
   ⟨(some 22), (.move (.tmp 21)), none⟩,
   ⟨(some 23), (.move (.tmp 1)), (some (22, true))⟩,
   ⟨(some 24), (.move (.tmp 7)), (some (22, true))⟩,
   ⟨(some 25), (.indexAddr 25 (.tmp 23) (.tmp 24)), (some (22, true))⟩,
   ⟨(some 26), (.load 4 (.tmp 25)), (some (22, true))⟩,
   ⟨(some 27), (.pick (.tmp 22) (.tmp 26) (.const (.bool false))), none⟩]
def c25r7 : List SO :=
  [⟨(some 30), (.move (.tmp 0)), none⟩,
   ⟨(some 31), (.move (.tmp 7)), none⟩,
   ⟨(some 32), (.indexAddr 22 (.tmp 30) (.tmp 31)), none⟩,
   ⟨(some 33), (.load 27 (.tmp 32)), none⟩,
   ⟨(some 34), (.move (.tmp 8)), none⟩,
   ⟨(some 35), (.indexAddr 27 (.tmp 33) (.tmp 34)), none⟩,
   ⟨(some 36), (.load 3 (.tmp 35)), none⟩,
   ⟨(some 37), (.move (.tmp 2)), none⟩,
   ⟨(some 38), (.binOp .eql 3 (.tmp 36) (.tmp 37) 3), none⟩]
def c25r8 : List SO :=
  [⟨(some 6), (.assign (.const (.bool true))), none⟩]
def c25r6 : List SO :=
  [⟨(some 28), (.move (.tmp 8)), none⟩,
   ⟨(some 29), (.binOp .add 3 (.tmp 28) (.const (.int .i64 1)) 3), none⟩,
   ⟨(some 8), (.assign (.tmp 29)), none⟩]
def c25l0 : SC :=
  (.seq (.seq (.reg false (some [0, 1, 2, 7, 8, 27]) c25r5) (.cond (.tmp 27) .nop (.exit 2))) (.seq (.block 3 (.seq (.reg false (some [0, 1, 2, 7, 8, 38]) c25r7) (.cond (.tmp 38) (.seq (.reg false (some [6]) c25r8) .ret) .nop))) (.reg false (some [0, 1, 2, 7, 8]) c25r6)))
def c25r3 : List SO :=
  [⟨(some 13), (.move (.tmp 7)), none⟩,
   ⟨(some 14), (.binOp .add 3 (.tmp 13) (.const (.int .i64 1)) 3), none⟩,
   ⟨(some 7), (.assign (.tmp 14)), none⟩]
def c25l1 : SC :=
  (.seq (.seq (.reg false (some [0, 1, 2, 7, 12]) c25r2) (.cond (.tmp 12) .nop (.exit 0))) (.seq (.block 1 (.seq (.reg false (some [0, 1, 2, 7, 8]) c25r4) (.block 2 (.loop c25l0)))) (.reg false (some [0, 1, 2, 7]) c25r3)))
def c25r9 : List SO :=
  [⟨(some 6), (.assign (.const (.bool false))), none⟩]
def c25 : SC :=
  (.seq (.reg false (some [0, 1, 2]) c25r0) (.seq (.seq (.reg false (some [0, 1, 2, 7]) c25r1) (.block 0 (.loop c25l1))) (.seq (.reg false (some [6]) c25r9) .ret)))
theorem s25 : Try.f25.body.bind (strip Try.prog An 25 Try.f25.ntmps) = some c25 := by kernel_rfl
theorem g25 : An.glob 25 = [] := rfl
theorem r25 : Try.f25.results.toList = [(.tmp 6)] := by kernel_rfl
theorem t25r0 {F : Oracle} {L : List (Nat × CV)} {m : Mem} {Q : CE → TS → Prop} (h :
    Q .normal ⟨[(0, (tget L 0)), (1, (tget L 1)), (2, (tget L 2))], m⟩) :
    Tx Try.prog An F 25 (.reg false (some [0, 1, 2]) c25r0) ⟨L, m⟩ Q := Tx_told (by kernel_rfl) h
theorem t25r1 {F : Oracle} {L : List (Nat × CV)} {m : Mem} {Q : CE → TS → Prop} (h :
    Q .normal ⟨[(0, (tget L 0)), (1, (tget L 1)), (2, (tget L 2)), (7, (.int .i64 0))], m⟩) :
    Tx Try.prog An F 25 (.reg false (some [0, 1, 2, 7]) c25r1) ⟨L, m⟩ Q := Tx_told (by kernel_rfl) h
theorem t25r2 {F : Oracle} {L : List (Nat × CV)} {m : Mem} {Q : CE → TS → Prop} (h :
    Obt (lenS (tget L 0)) fun a0 => 
    Obt (cbin Try.prog .lss 3 (.tmp 9) (.tmp 11) (tget L 7) a0) fun a1 => Q .normal ⟨[(0, (tget L 0)), (1, (tget L 1)), (2, (tget L 2)), (7, (tget L 7)), (12, a1)], m⟩) :
    Tx Try.prog An F 25 (.reg false (some [0, 1, 2, 7, 12]) c25r2) ⟨L, m⟩ Q := Tx_told (by kernel_rfl) h
theorem t25r4 {F : Oracle} {L : List (Nat × CV)} {m : Mem} {Q : CE → TS → Prop} (h :
    Q .normal ⟨[(0, (tget L 0)), (1, (tget L 1)), (2, (tget L 2)), (7, (tget L 7)), (8, (.int .i64 0))], m⟩) :
    Tx Try.prog An F 25 (.reg false (some [0, 1, 2, 7, 8]) c25r4) ⟨L, m⟩ Q := Tx_told (by kernel_rfl) h
theorem t25r5 {F : Oracle} {L : List (Nat × CV)} {m : Mem} {Q : CE → TS → Prop} (h :
    Obt (idxS 1 (tget L 0) (tget L 7)) fun a0 => 
    Obt (ld1 m a0) fun a1 => 
    Obt (lenS a1) fun a2 => 
    Obt (cbin Try.prog .lss 3 (.tmp 15) (.tmp 20) (tget L 8) a2) fun a3 => 
    Obt (gdO a3 true (some ((tget L 1), m)) (.tuple [], m)) fun a4 => 
    Obt (gdO a3 true (some ((tget L 7), a4.2)) (.tuple [], a4.2)) fun a5 => 
    Obt (gdO a3 true ((idxS 1 a4.1 a5.1).map fun v => (v, a5.2)) (.tuple [], a5.2)) fun a6 => 
    Obt (gdO a3 true ((ld1 a6.2 a6.1).map fun v => (v, a6.2)) (.tuple [], a6.2)) fun a7 => 
    Obt (pickX a3 a7.1 (.bool false)) fun a8 => Q .normal ⟨[(0, (tget L 0)), (1, (tget L 1)), (2, (tget L 2)), (7, (tget L 7)), (8, (tget L 8)), (27, a8)], a7.2⟩) :
    Tx Try.prog An F 25 (.reg false (some [0, 1, 2, 7, 8, 27]) c25r5) ⟨L, m⟩ Q := Tx_told (by kernel_rfl) h
theorem t25r7 {F : Oracle} {L : List (Nat × CV)} {m : Mem} {Q : CE → TS → Prop} (h :
    Obt (idxS 1 (tget L 0) (tget L 7)) fun a0 => 
    Obt (ld1 m a0) fun a1 => 
    Obt (idxS 1 a1 (tget L 8)) fun a2 => 
    Obt (ld1 m a2) fun a3 => 
    Obt (cbin Try.prog .eql 3 (.tmp 36) (.tmp 37) a3 (tget L 2)) fun a4 => Q .normal ⟨[(0, (tget L 0)), (1, (tget L 1)), (2, (tget L 2)), (7, (tget L 7)), (8, (tget L 8)), (38, a4)], m⟩) :
    Tx Try.prog An F 25 (.reg false (some [0, 1, 2, 7, 8, 38]) c25r7) ⟨L, m⟩ Q := Tx_told (by kernel_rfl) h
theorem t25r8 {F : Oracle} {L : List (Nat × CV)} {m : Mem} {Q : CE → TS → Prop} (h :
    Q .normal ⟨[(6, (.bool true))], m⟩) :
    Tx Try.prog An F 25 (.reg false (some [6]) c25r8) ⟨L, m⟩ Q := Tx_told (by kernel_rfl) h
theorem t25r6 {F : Oracle} {L : List (Nat × CV)} {m : Mem} {Q : CE → TS → Prop} (h :
    Obt (cbin Try.prog .add 3 (.tmp 28) (.const (.int .i64 1)) (tget L 8) (.int .i64 1)) fun a0 => Q .normal ⟨[(0, (tget L 0)), (1, (tget L 1)), (2, (tget L 2)), (7, (tget L 7)), (8, a0)], m⟩) :
    Tx Try.prog An F 25 (.reg false (some [0, 1, 2, 7, 8]) c25r6) ⟨L, m⟩ Q := Tx_told (by kernel_rfl) h
theorem t25r3 {F : Oracle} {L : List (Nat × CV)} {m : Mem} {Q : CE → TS → Prop} (h :
    Obt (cbin Try.prog .add 3 (.tmp 13) (.const (.int .i64 1)) (tget L 7) (.int .i64 1)) fun a0 => Q .normal ⟨[(0, (tget L 0)), (1, (tget L 1)), (2, (tget L 2)), (7, a0)], m⟩) :
    Tx Try.prog An F 25 (.reg false (some [0, 1, 2, 7]) c25r3) ⟨L, m⟩ Q := Tx_told (by kernel_rfl) h
theorem t25r9 {F : Oracle} {L : List (Nat × CV)} {m : Mem} {Q : CE → TS → Prop} (h :
    Q .normal ⟨[(6, (.bool false))], m⟩) :
    Tx Try.prog An F 25 (.reg false (some [6]) c25r9) ⟨L, m⟩ Q := Tx_told (by kernel_rfl) h
end Go.Cm
