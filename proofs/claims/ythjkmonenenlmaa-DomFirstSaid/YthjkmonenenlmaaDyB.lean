import Derived.Test.YthjkmonenenlmaaDyA
set_option linter.unusedSimpArgs false
set_option linter.unusedVariables false
namespace Go.Cm
open Go.Proofs
-- clevis/clevislaw15.DomCut
def c3r0 : List SO :=
  [⟨(some 6), (.assign (.const (.bool false))), none⟩]
def c3r1 : List SO :=
  [⟨(some 10), (.move (.tmp 0)), none⟩,
   ⟨(some 11), (.call ⟨(.value (.func 8)), #[(.tmp 10)], #[22]⟩), none⟩,
   ⟨(some 12), (.unOp .not 4 (.tmp 11)), none⟩,
   ⟨(some 13), (.move (.tmp 12)), none⟩,
   ⟨(some 14), (.move (.tmp 1)), (some (13, false))⟩,
   ⟨(some 15), (.binOp .lss 3 (.tmp 14) (.const (.int .i64 1)) 3), (some (13, false))⟩,
   ⟨(some 16), (.pick (.tmp 13) (.const (.bool true)) (.tmp 15)), none⟩,
   ⟨(some 17), (.move (.tmp 16)), none⟩,
   ⟨(some 18), (.move (.tmp 2)), (some (17, false))⟩,
   ⟨(some 19), (.binOp .lss 3 (.tmp 18) (.const (.int .i64 1)) 3), (some (17, false))⟩,
   ⟨(some 20), (.pick (.tmp 17) (.const (.bool true)) (.tmp 19)), none⟩,
   ⟨(some 21), (.move (.tmp 20)), none⟩,
   ⟨(some 22), (.move (.tmp 1)), (some (21, false))⟩,
   ⟨(some 23), (.move (.tmp 0)), (some (21, false))⟩,
   ⟨(some 24), (.call ⟨(.builtin .len), #[(.tmp 23)], #[22]⟩), (some (21, false))⟩,
   ⟨(some 25), (.binOp .geq 3 (.tmp 22) (.tmp 24) 3), (some (21, false))⟩,
   ⟨(some 26), (.pick (.tmp 21) (.const (.bool true)) (.tmp 25)), none⟩,
   ⟨(some 27), (.move (.tmp 26)), none⟩,
   ⟨(some 28), (.move (.tmp 2)), (some (27, false))⟩,
   ⟨(some 29), (.move (.tmp 0)), (some (27, false))⟩,
   ⟨(some 30), (.call ⟨(.builtin .len), #[(.tmp 29)], #[22]⟩), (some (27, false))⟩,
   ⟨(some 31), (.binOp .geq 3 (.tmp 28) (.tmp 30) 3), (some (27, false))⟩,
   ⟨(some 32), (.pick (.tmp 27) (.const (.bool true)) (.tmp 31)), none⟩,
   ⟨(some 33), (.move (.tmp 32)), none⟩,
   ⟨(some 34), (.move (.tmp 1)), (some (33, false))⟩,
   ⟨(some 35), (.move (.tmp 2)), (some (33, false))⟩,
   ⟨(some 36), (.binOp .eql 3 (.tmp 34) (.tmp 35) 3), (some (33, false))⟩,
   ⟨(some 37), (.pick (.tmp 33) (.const (.bool true)) (.tmp 36)), none⟩]
def c3r2 : List SO :=
  [⟨(some 38), (.call ⟨(.value (.func 9)), #[], #[]⟩), none⟩,
   ⟨(some 6), (.assign (.tmp 38)), none⟩]
def c3r3 : List SO :=
  [⟨(some 39), (.move (.tmp 0)), none⟩,
   ⟨(some 40), (.call ⟨(.value (.func 10)), #[(.tmp 39)], #[22]⟩), none⟩,
   ⟨(some 7), (.assign (.tmp 40)), none⟩]
def c3r4 : List SO :=
  [⟨(some 41), (.buildSlice 22 0 #[]), none⟩,
   ⟨(some 42), (.move (.tmp 0)), none⟩,
   ⟨(some 43), (.call ⟨(.builtin .append), #[(.tmp 41), (.tmp 42)], #[22, 22]⟩), none⟩,
   ⟨(some 8), (.assign (.tmp 43)), none⟩]
def c3r5 : List SO :=
  [⟨(some 44), (.move (.tmp 8)), none⟩,
   ⟨(some 45), (.move (.tmp 1)), none⟩,
   ⟨(some 46), (.indexAddr 22 (.tmp 44) (.tmp 45)), none⟩,
   ⟨none, (.store 27 (.tmp 46) (.const (.slice none 0 0))), none⟩]
def c3r6 : List SO :=
  [⟨(some 47), (.move (.tmp 8)), none⟩,
   ⟨(some 48), (.call ⟨(.value (.func 10)), #[(.tmp 47)], #[22]⟩), none⟩,
   ⟨(some 9), (.assign (.tmp 48)), none⟩]
def c3r7 : List SO :=
  [⟨(some 49), (.move (.tmp 7)), none⟩,
   ⟨(some 50), (.call ⟨(.builtin .len), #[(.tmp 49)], #[25]⟩), none⟩,
   ⟨(some 51), (.move (.tmp 0)), none⟩,
   ⟨(some 52), (.call ⟨(.builtin .len), #[(.tmp 51)], #[22]⟩), none⟩,
   ⟨(some 53), (.binOp .neq 3 (.tmp 50) (.tmp 52) 3), none⟩,
   ⟨(some 54), (.move (.tmp 53)), none⟩,
   ⟨(some 55), (.move (.tmp 9)), (some (54, false))⟩,
   ⟨(some 56), (.call ⟨(.builtin .len), #[(.tmp 55)], #[25]⟩), (some (54, false))⟩,
   ⟨(some 57), (.move (.tmp 0)), (some (54, false))⟩,
   ⟨(some 58), (.call ⟨(.builtin .len), #[(.tmp 57)], #[22]⟩), (some (54, false))⟩,
   ⟨(some 59), (.binOp .neq 3 (.tmp 56) (.tmp 58) 3), (some (54, false))⟩,
   ⟨(some 60), (.pick (.tmp 54) (.const (.bool true)) (.tmp 59)), none⟩]
def c3r8 : List SO :=
  [⟨(some 6), (.assign (.const (.bool false))), none⟩]
def c3r9 : List SO :=
  [⟨(some 61), (.move (.tmp 7)), none⟩,
   ⟨(some 62), (.move (.tmp 1)), none⟩,
   ⟨(some 63), (.indexAddr 25 (.tmp 61) (.tmp 62)), none⟩,
   ⟨(some 64), (.load 4 (.tmp 63)), none⟩,
   ⟨(some 65), (.unOp .not 4 (.tmp 64)), none⟩,
   ⟨(some 66), (.move (.tmp 65)), none⟩,
   ⟨(some 67), (.move (.tmp 7)), (some (66, false))⟩,
   ⟨(some 68), (.move (.tmp 2)), (some (66, false))⟩,
   ⟨(some 69), (.indexAddr 25 (.tmp 67) (.tmp 68)), (some (66, false))⟩,
   ⟨(some 70), (.load 4 (.tmp 69)), (some (66, false))⟩,
   ⟨(some 71), (.unOp .not 4 (.tmp 70)), (some (66, false))⟩,
   ⟨(some 72), (.pick (.tmp 66) (.const (.bool true)) (.tmp 71)), none⟩]
def c3r10 : List SO :=
  [⟨(some 73), (.move (.tmp 0)), none⟩,
   ⟨(some 74), (.move (.tmp 1)), none⟩,
   ⟨(some 75), (.move (.tmp 2)), none⟩,
   ⟨(some 76), (.call ⟨(.value (.func 11)), #[(.tmp 73), (.tmp 74), (.tmp 75)], #[22, 3, 3]⟩), none⟩,
   ⟨(some 77), (.unOp .not 4 (.tmp 76)), none⟩,
   ⟨(some 78), (.move (.tmp 77)), none⟩,
   ⟨(some 79), (.call ⟨(.value (.func 9)), #[], #[]⟩), (some (78, true))⟩,
   ⟨(some 80), (.pick (.tmp 78) (.tmp 79) (.const (.bool false))), none⟩,
   ⟨(some 6), (.assign (.tmp 80)), none⟩]
def c3r11 : List SO :=
  [⟨(some 81), (.move (.tmp 0)), none⟩,
   ⟨(some 82), (.move (.tmp 1)), none⟩,
   ⟨(some 83), (.move (.tmp 2)), none⟩,
   ⟨(some 84), (.call ⟨(.value (.func 11)), #[(.tmp 81), (.tmp 82), (.tmp 83)], #[22, 3, 3]⟩), none⟩,
   ⟨(some 85), (.move (.tmp 9)), none⟩,
   ⟨(some 86), (.move (.tmp 2)), none⟩,
   ⟨(some 87), (.indexAddr 25 (.tmp 85) (.tmp 86)), none⟩,
   ⟨(some 88), (.load 4 (.tmp 87)), none⟩,
   ⟨(some 89), (.unOp .not 4 (.tmp 88)), none⟩,
   ⟨(some 90), (.binOp .eql 4 (.tmp 84) (.tmp 89) 4), none⟩,
   ⟨(some 91), (.move (.tmp 90)), none⟩,
   ⟨(some 92), (.call ⟨(.value (.func 9)), #[], #[]⟩), (some (91, true))⟩,
   ⟨(some 93), (.pick (.tmp 91) (.tmp 92) (.const (.bool false))), none⟩,
   ⟨(some 6), (.assign (.tmp 93)), none⟩]
def c3 : SC :=
  (.seq (.reg false (some [0, 1, 2]) c3r0) (.seq (.seq (.reg false (some [0, 1, 2, 37]) c3r1) (.cond (.tmp 37) (.seq (.reg false (some [6]) c3r2) .ret) .nop)) (.seq (.reg false (some [0, 1, 2, 7]) c3r3) (.seq (.reg false (some [0, 1, 2, 7, 8]) c3r4) (.seq (.reg false (some [0, 1, 2, 7, 8]) c3r5) (.seq (.reg false (some [0, 1, 2, 7, 9]) c3r6) (.seq (.seq (.reg false (some [0, 1, 2, 7, 9, 60]) c3r7) (.cond (.tmp 60) (.seq (.reg false (some [6]) c3r8) .ret) .nop)) (.seq (.seq (.reg false (some [0, 1, 2, 9, 72]) c3r9) (.cond (.tmp 72) (.seq (.reg false (some [6]) c3r10) .ret) .nop)) (.seq (.reg true (some [6]) c3r11) .ret)))))))))
theorem s3 : Try.f3.body.bind (strip Try.prog An 3 Try.f3.ntmps) = some c3 := by kernel_rfl
theorem g3 : An.glob 3 = [] := rfl
theorem r3 : Try.f3.results.toList = [(.tmp 6)] := by kernel_rfl
theorem t3r0 {F : Oracle} {L : List (Nat × CV)} {m : Mem} {Q : CE → TS → Prop} (h :
    Q .normal ⟨[(0, (tget L 0)), (1, (tget L 1)), (2, (tget L 2))], m⟩) :
    Tx Try.prog An F 3 (.reg false (some [0, 1, 2]) c3r0) ⟨L, m⟩ Q := Tx_told (by kernel_rfl) h
theorem t3r1 {F : Oracle} {L : List (Nat × CV)} {m : Mem} {Q : CE → TS → Prop} (h :
    Obt (callC An F 3 (some 11) 8 [(tget L 0)] m) fun a0 => 
    Obt (cun .not a0.1) fun a1 => 
    Obt (gdO a1 false (some ((tget L 1), a0.2)) (.tuple [], a0.2)) fun a2 => 
    Obt (gdO a1 false ((cbin Try.prog .lss 3 (.tmp 14) (.const (.int .i64 1)) a2.1 (.int .i64 1)).map fun v => (v, a2.2)) (.tuple [], a2.2)) fun a3 => 
    Obt (pickX a1 (.bool true) a3.1) fun a4 => 
    Obt (gdO a4 false (some ((tget L 2), a3.2)) (.tuple [], a3.2)) fun a5 => 
    Obt (gdO a4 false ((cbin Try.prog .lss 3 (.tmp 18) (.const (.int .i64 1)) a5.1 (.int .i64 1)).map fun v => (v, a5.2)) (.tuple [], a5.2)) fun a6 => 
    Obt (pickX a4 (.bool true) a6.1) fun a7 => 
    Obt (gdO a7 false (some ((tget L 1), a6.2)) (.tuple [], a6.2)) fun a8 => 
    Obt (gdO a7 false (some ((tget L 0), a8.2)) (.tuple [], a8.2)) fun a9 => 
    Obt (gdO a7 false ((lenS a9.1).map fun v => (v, a9.2)) (.tuple [], a9.2)) fun a10 => 
    Obt (gdO a7 false ((cbin Try.prog .geq 3 (.tmp 22) (.tmp 24) a8.1 a10.1).map fun v => (v, a10.2)) (.tuple [], a10.2)) fun a11 => 
    Obt (pickX a7 (.bool true) a11.1) fun a12 => 
    Obt (gdO a12 false (some ((tget L 2), a11.2)) (.tuple [], a11.2)) fun a13 => 
    Obt (gdO a12 false (some ((tget L 0), a13.2)) (.tuple [], a13.2)) fun a14 => 
    Obt (gdO a12 false ((lenS a14.1).map fun v => (v, a14.2)) (.tuple [], a14.2)) fun a15 => 
    Obt (gdO a12 false ((cbin Try.prog .geq 3 (.tmp 28) (.tmp 30) a13.1 a15.1).map fun v => (v, a15.2)) (.tuple [], a15.2)) fun a16 => 
    Obt (pickX a12 (.bool true) a16.1) fun a17 => 
    Obt (gdO a17 false (some ((tget L 1), a16.2)) (.tuple [], a16.2)) fun a18 => 
    Obt (gdO a17 false (some ((tget L 2), a18.2)) (.tuple [], a18.2)) fun a19 => 
    Obt (gdO a17 false ((cbin Try.prog .eql 3 (.tmp 34) (.tmp 35) a18.1 a19.1).map fun v => (v, a19.2)) (.tuple [], a19.2)) fun a20 => 
    Obt (pickX a17 (.bool true) a20.1) fun a21 => Q .normal ⟨[(0, (tget L 0)), (1, (tget L 1)), (2, (tget L 2)), (37, a21)], a20.2⟩) :
    Tx Try.prog An F 3 (.reg false (some [0, 1, 2, 37]) c3r1) ⟨L, m⟩ Q := Tx_told (by kernel_rfl) h
theorem t3r2 {F : Oracle} {L : List (Nat × CV)} {m : Mem} {Q : CE → TS → Prop} (h :
    Obt (callC An F 3 (some 38) 9 [] m) fun a0 => Q .normal ⟨[(6, a0.1)], a0.2⟩) :
    Tx Try.prog An F 3 (.reg false (some [6]) c3r2) ⟨L, m⟩ Q := Tx_told (by kernel_rfl) h
theorem t3r3 {F : Oracle} {L : List (Nat × CV)} {m : Mem} {Q : CE → TS → Prop} (h :
    Obt (callC An F 3 (some 40) 10 [(tget L 0)] m) fun a0 => Q .normal ⟨[(0, (tget L 0)), (1, (tget L 1)), (2, (tget L 2)), (7, a0.1)], a0.2⟩) :
    Tx Try.prog An F 3 (.reg false (some [0, 1, 2, 7]) c3r3) ⟨L, m⟩ Q := Tx_told (by kernel_rfl) h
theorem t3r4 {F : Oracle} {L : List (Nat × CV)} {m : Mem} {Q : CE → TS → Prop} (h :
    Obt (bslX false 656 1 0 [] [] m) fun a0 => 
    Obt (appX false 688 1 24 a0.1 (tget L 0) a0.2) fun a1 => Q .normal ⟨[(0, (tget L 0)), (1, (tget L 1)), (2, (tget L 2)), (7, (tget L 7)), (8, a1.1)], a1.2⟩) :
    Tx Try.prog An F 3 (.reg false (some [0, 1, 2, 7, 8]) c3r4) ⟨L, m⟩ Q := Tx_told (by kernel_rfl) h
theorem t3r5 {F : Oracle} {L : List (Nat × CV)} {m : Mem} {Q : CE → TS → Prop} (h :
    Obt (idxS 1 (tget L 8) (tget L 1)) fun a0 => 
    Obt (stX 1 m a0 .nil) fun a1 => Q .normal ⟨[(0, (tget L 0)), (1, (tget L 1)), (2, (tget L 2)), (7, (tget L 7)), (8, (tget L 8))], a1⟩) :
    Tx Try.prog An F 3 (.reg false (some [0, 1, 2, 7, 8]) c3r5) ⟨L, m⟩ Q := Tx_told (by kernel_rfl) h
theorem t3r6 {F : Oracle} {L : List (Nat × CV)} {m : Mem} {Q : CE → TS → Prop} (h :
    Obt (callC An F 3 (some 48) 10 [(tget L 8)] m) fun a0 => Q .normal ⟨[(0, (tget L 0)), (1, (tget L 1)), (2, (tget L 2)), (7, (tget L 7)), (9, a0.1)], a0.2⟩) :
    Tx Try.prog An F 3 (.reg false (some [0, 1, 2, 7, 9]) c3r6) ⟨L, m⟩ Q := Tx_told (by kernel_rfl) h
theorem t3r7 {F : Oracle} {L : List (Nat × CV)} {m : Mem} {Q : CE → TS → Prop} (h :
    Obt (lenS (tget L 7)) fun a0 => 
    Obt (lenS (tget L 0)) fun a1 => 
    Obt (cbin Try.prog .neq 3 (.tmp 50) (.tmp 52) a0 a1) fun a2 => 
    Obt (gdO a2 false (some ((tget L 9), m)) (.tuple [], m)) fun a3 => 
    Obt (gdO a2 false ((lenS a3.1).map fun v => (v, a3.2)) (.tuple [], a3.2)) fun a4 => 
    Obt (gdO a2 false (some ((tget L 0), a4.2)) (.tuple [], a4.2)) fun a5 => 
    Obt (gdO a2 false ((lenS a5.1).map fun v => (v, a5.2)) (.tuple [], a5.2)) fun a6 => 
    Obt (gdO a2 false ((cbin Try.prog .neq 3 (.tmp 56) (.tmp 58) a4.1 a6.1).map fun v => (v, a6.2)) (.tuple [], a6.2)) fun a7 => 
    Obt (pickX a2 (.bool true) a7.1) fun a8 => Q .normal ⟨[(0, (tget L 0)), (1, (tget L 1)), (2, (tget L 2)), (7, (tget L 7)), (9, (tget L 9)), (60, a8)], a7.2⟩) :
    Tx Try.prog An F 3 (.reg false (some [0, 1, 2, 7, 9, 60]) c3r7) ⟨L, m⟩ Q := Tx_told (by kernel_rfl) h
theorem t3r8 {F : Oracle} {L : List (Nat × CV)} {m : Mem} {Q : CE → TS → Prop} (h :
    Q .normal ⟨[(6, (.bool false))], m⟩) :
    Tx Try.prog An F 3 (.reg false (some [6]) c3r8) ⟨L, m⟩ Q := Tx_told (by kernel_rfl) h
theorem t3r9 {F : Oracle} {L : List (Nat × CV)} {m : Mem} {Q : CE → TS → Prop} (h :
    Obt (idxS 1 (tget L 7) (tget L 1)) fun a0 => 
    Obt (ld1 m a0) fun a1 => 
    Obt (cun .not a1) fun a2 => 
    Obt (gdO a2 false (some ((tget L 7), m)) (.tuple [], m)) fun a3 => 
    Obt (gdO a2 false (some ((tget L 2), a3.2)) (.tuple [], a3.2)) fun a4 => 
    Obt (gdO a2 false ((idxS 1 a3.1 a4.1).map fun v => (v, a4.2)) (.tuple [], a4.2)) fun a5 => 
    Obt (gdO a2 false ((ld1 a5.2 a5.1).map fun v => (v, a5.2)) (.tuple [], a5.2)) fun a6 => 
    Obt (gdO a2 false ((cun .not a6.1).map fun v => (v, a6.2)) (.tuple [], a6.2)) fun a7 => 
    Obt (pickX a2 (.bool true) a7.1) fun a8 => Q .normal ⟨[(0, (tget L 0)), (1, (tget L 1)), (2, (tget L 2)), (9, (tget L 9)), (72, a8)], a7.2⟩) :
    Tx Try.prog An F 3 (.reg false (some [0, 1, 2, 9, 72]) c3r9) ⟨L, m⟩ Q := Tx_told (by kernel_rfl) h
theorem t3r10 {F : Oracle} {L : List (Nat × CV)} {m : Mem} {Q : CE → TS → Prop} (h :
    Obt (callC An F 3 (some 76) 11 [(tget L 0), (tget L 1), (tget L 2)] m) fun a0 => 
    Obt (cun .not a0.1) fun a1 => 
    Obt (gdO a1 true (callC An F 3 (some 79) 9 [] a0.2) (.tuple [], a0.2)) fun a2 => 
    Obt (pickX a1 a2.1 (.bool false)) fun a3 => Q .normal ⟨[(6, a3)], a2.2⟩) :
    Tx Try.prog An F 3 (.reg false (some [6]) c3r10) ⟨L, m⟩ Q := Tx_told (by kernel_rfl) h
theorem t3r11 {F : Oracle} {L : List (Nat × CV)} {m : Mem} {Q : CE → TS → Prop} (h :
    Obt (chk true (callC An F 3 (some 84) 11 [(tget L 0), (tget L 1), (tget L 2)] m)) fun a0 => 
    Obt (idxS 1 (tget L 9) (tget L 2)) fun a1 => 
    Obt (ld1 a0.2 a1) fun a2 => 
    Obt (cun .not a2) fun a3 => 
    Obt (cbin Try.prog .eql 4 (.tmp 84) (.tmp 89) a0.1 a3) fun a4 => 
    Obt (gdO a4 true (chk true (callC An F 3 (some 92) 9 [] a0.2)) (.tuple [], a0.2)) fun a5 => 
    Obt (pickX a4 a5.1 (.bool false)) fun a6 => Q .normal ⟨[(6, a6)], a5.2⟩) :
    Tx Try.prog An F 3 (.reg true (some [6]) c3r11) ⟨L, m⟩ Q := Tx_told (by kernel_rfl) h
-- clevis/clevislaw15.DomRow
def c6r0 : List SO :=
  [⟨(some 6), (.assign (.const (.bool false))), none⟩]
def c6r1 : List SO :=
  [⟨(some 12), (.move (.tmp 0)), none⟩,
   ⟨(some 13), (.call ⟨(.value (.func 8)), #[(.tmp 12)], #[22]⟩), none⟩,
   ⟨(some 14), (.unOp .not 4 (.tmp 13)), none⟩,
   ⟨(some 15), (.move (.tmp 14)), none⟩,
   ⟨(some 16), (.move (.tmp 1)), (some (15, false))⟩,
   ⟨(some 17), (.binOp .lss 3 (.tmp 16) (.const (.int .i64 0)) 3), (some (15, false))⟩,
   ⟨(some 18), (.pick (.tmp 15) (.const (.bool true)) (.tmp 17)), none⟩,
   ⟨(some 19), (.move (.tmp 18)), none⟩,
   ⟨(some 20), (.move (.tmp 2)), (some (19, false))⟩,
   ⟨(some 21), (.binOp .lss 3 (.tmp 20) (.const (.int .i64 0)) 3), (some (19, false))⟩,
   ⟨(some 22), (.pick (.tmp 19) (.const (.bool true)) (.tmp 21)), none⟩,
   ⟨(some 23), (.move (.tmp 22)), none⟩,
   ⟨(some 24), (.move (.tmp 1)), (some (23, false))⟩,
   ⟨(some 25), (.move (.tmp 0)), (some (23, false))⟩,
   ⟨(some 26), (.call ⟨(.builtin .len), #[(.tmp 25)], #[22]⟩), (some (23, false))⟩,
   ⟨(some 27), (.binOp .geq 3 (.tmp 24) (.tmp 26) 3), (some (23, false))⟩,
   ⟨(some 28), (.pick (.tmp 23) (.const (.bool true)) (.tmp 27)), none⟩,
   ⟨(some 29), (.move (.tmp 28)), none⟩,
   ⟨(some 30), (.move (.tmp 2)), (some (29, false))⟩,
   ⟨(some 31), (.move (.tmp 0)), (some (29, false))⟩,
   ⟨(some 32), (.call ⟨(.builtin .len), #[(.tmp 31)], #[22]⟩), (some (29, false))⟩,
   ⟨(some 33), (.binOp .geq 3 (.tmp 30) (.tmp 32) 3), (some (29, false))⟩,
   ⟨(some 34), (.pick (.tmp 29) (.const (.bool true)) (.tmp 33)), none⟩]
def c6r2 : List SO :=
  [⟨(some 35), (.call ⟨(.value (.func 9)), #[], #[]⟩), none⟩,
   ⟨(some 6), (.assign (.tmp 35)), none⟩]
def c6r3 : List SO :=
  [⟨(some 36), (.move (.tmp 0)), none⟩,
   ⟨(some 37), (.call ⟨(.value (.func 16)), #[(.tmp 36)], #[22]⟩), none⟩,
   ⟨(some 7), (.assign (.tmp 37)), none⟩]
def c6r4 : List SO :=
  [⟨(some 38), (.move (.tmp 7)), none⟩,
   ⟨(some 39), (.call ⟨(.builtin .len), #[(.tmp 38)], #[27]⟩), none⟩,
   ⟨(some 40), (.move (.tmp 0)), none⟩,
   ⟨(some 41), (.call ⟨(.builtin .len), #[(.tmp 40)], #[22]⟩), none⟩,
   ⟨(some 42), (.binOp .neq 3 (.tmp 39) (.tmp 41) 3), none⟩]
def c6r5 : List SO :=
  [⟨(some 6), (.assign (.const (.bool false))), none⟩]
def c6r6 : List SO :=
  [⟨(some 8), (.assign (.const (.bool false))), none⟩]
def c6r7 : List SO :=
  [⟨(some 43), (.move (.tmp 2)), none⟩,
   ⟨(some 9), (.assign (.tmp 43)), none⟩]
def c6r8 : List SO :=
  [⟨(some 10), (.assign (.const (.int .i64 0))), none⟩]
def c6r9 : List SO :=
  [⟨(some 44), (.move (.tmp 10)), none⟩,
   ⟨(some 45), (.move (.tmp 0)), none⟩,
   ⟨(some 46), (.call ⟨(.builtin .len), #[(.tmp 45)], #[22]⟩), none⟩,
   ⟨(some 47), (.binOp .leq 3 (.tmp 44) (.tmp 46) 3), none⟩,
   ⟨(some 48), (.move (.tmp 47)), none⟩,
   ⟨(some 49), (.move (.tmp 9)), (some (48, true))⟩,
   ⟨(some 50), (.binOp .geq 3 (.tmp 49) (.const (.int .i64 0)) 3), (some (48, true))⟩,
   ⟨(some 51), (.pick (.tmp 48) (.tmp 50) (.const (.bool false))), none⟩,
   ⟨(some 52), (.move (.tmp 51)), none⟩,
   ⟨(some 53), (.move (.tmp 9)), (some (52, true))⟩,
   ⟨(some 54), (.move (.tmp 0)), (some (52, true))⟩,
   ⟨(some 55), (.call ⟨(.builtin .len), #[(.tmp 54)], #[22]⟩), (some (52, true))⟩,
   ⟨(some 56), (.binOp .lss 3 (.tmp 53) (.tmp 55) 3), (some (52, true))⟩,
   ⟨(some 57), (.pick (.tmp 52) (.tmp 56) (.const (.bool false))), none⟩]
def c6r11 : List SO :=
  [⟨(some 60), (.move (.tmp 8)), none⟩,
   ⟨(some 61), (.move (.tmp 60)), none⟩,
   ⟨(some 62), (.move (.tmp 9)), (some (61, false))⟩,
   ⟨(some 63), (.move (.tmp 1)), (some (61, false))⟩,
   ⟨(some 64), (.binOp .eql 3 (.tmp 62) (.tmp 63) 3), (some (61, false))⟩,
   ⟨(some 65), (.pick (.tmp 61) (.const (.bool true)) (.tmp 64)), none⟩,
   ⟨(some 8), (.assign (.tmp 65)), none⟩]
def c6r12 : List SO :=
  [⟨(some 66), (.move (.tmp 7)), none⟩,
   ⟨(some 67), (.move (.tmp 9)), none⟩,
   ⟨(some 68), (.indexAddr 27 (.tmp 66) (.tmp 67)), none⟩,
   ⟨(some 69), (.load 3 (.tmp 68)), none⟩,
   ⟨(some 9), (.assign (.tmp 69)), none⟩]
def c6r10 : List SO :=
  [⟨(some 58), (.move (.tmp 10)), none⟩,
   ⟨(some 59), (.binOp .add 3 (.tmp 58) (.const (.int .i64 1)) 3), none⟩,
   ⟨(some 10), (.assign (.tmp 59)), none⟩]
def c6l0 : SC :=
  (.seq (.seq (.reg false (some [0, 1, 2, 7, 8, 9, 10, 57]) c6r9) (.cond (.tmp 57) .nop (.exit 0))) (.seq (.block 1 (.seq (.reg false (some [0, 1, 2, 7, 8, 9, 10]) c6r11) (.reg false (some [0, 1, 2, 7, 8, 9, 10]) c6r12))) (.reg false (some [0, 1, 2, 7, 8, 9, 10]) c6r10)))
def c6r13 : List SO :=
  [⟨(some 70), (.move (.tmp 0)), none⟩,
   ⟨(some 71), (.call ⟨(.value (.func 10)), #[(.tmp 70)], #[22]⟩), none⟩,
   ⟨(some 11), (.assign (.tmp 71)), none⟩]
def c6r14 : List SO :=
  [⟨(some 72), (.move (.tmp 11)), none⟩,
   ⟨(some 73), (.call ⟨(.builtin .len), #[(.tmp 72)], #[25]⟩), none⟩,
   ⟨(some 74), (.move (.tmp 0)), none⟩,
   ⟨(some 75), (.call ⟨(.builtin .len), #[(.tmp 74)], #[22]⟩), none⟩,
   ⟨(some 76), (.binOp .neq 3 (.tmp 73) (.tmp 75) 3), none⟩]
def c6r15 : List SO :=
  [⟨(some 6), (.assign (.const (.bool false))), none⟩]
def c6r16 : List SO :=
  [⟨(some 77), (.move (.tmp 9)), none⟩,
   ⟨(some 78), (.binOp .eql 3 (.tmp 77) (.const (.int .i64 (-1))) 3), none⟩,
   ⟨(some 79), (.move (.tmp 78)), none⟩,
   ⟨(some 80), (.move (.tmp 0)), (some (79, true))⟩,
   ⟨(some 81), (.move (.tmp 1)), (some (79, true))⟩,
   ⟨(some 82), (.move (.tmp 2)), (some (79, true))⟩,
   ⟨(some 83), (.call ⟨(.value (.func 11)), #[(.tmp 80), (.tmp 81), (.tmp 82)], #[22, 3, 3]⟩), (some (79, true))⟩,
   ⟨(some 84), (.move (.tmp 8)), (some (79, true))⟩,
   ⟨(some 85), (.move (.tmp 84)), (some (79, true))⟩,
   ⟨(some 86), (.move (.tmp 11)), (some (85, true))⟩,
   ⟨(some 87), (.move (.tmp 2)), (some (85, true))⟩,
   ⟨(some 88), (.indexAddr 25 (.tmp 86) (.tmp 87)), (some (85, true))⟩,
   ⟨(some 89), (.load 4 (.tmp 88)), (some (85, true))⟩,
   ⟨(some 90), (.pick (.tmp 85) (.tmp 89) (.const (.bool false))), (some (79, true))⟩,
   ⟨(some 91), (.binOp .eql 4 (.tmp 83) (.tmp 90) 4), (some (79, true))⟩,
   ⟨(some 92), (.pick (.tmp 79) (.tmp 91) (.const (.bool false))), none⟩,
   ⟨(some 93), (.move (.tmp 92)), none⟩,
   ⟨(some 94), (.call ⟨(.value (.func 9)), #[], #[]⟩), (some (93, true))⟩,
   ⟨(some 95), (.pick (.tmp 93) (.tmp 94) (.const (.bool false))), none⟩,
   ⟨(some 6), (.assign (.tmp 95)), none⟩]
def c6 : SC :=
  (.seq (.reg false (some [0, 1, 2]) c6r0) (.seq (.seq (.reg false (some [0, 1, 2, 34]) c6r1) (.cond (.tmp 34) (.seq (.reg false (some [6]) c6r2) .ret) .nop)) (.seq (.reg false (some [0, 1, 2, 7]) c6r3) (.seq (.seq (.reg false (some [0, 1, 2, 7, 42]) c6r4) (.cond (.tmp 42) (.seq (.reg false (some [6]) c6r5) .ret) .nop)) (.seq (.reg false (some [0, 1, 2, 7, 8]) c6r6) (.seq (.reg false (some [0, 1, 2, 7, 8, 9]) c6r7) (.seq (.seq (.reg false (some [0, 1, 2, 7, 8, 9, 10]) c6r8) (.block 0 (.loop c6l0))) (.seq (.reg false (some [0, 1, 2, 8, 9, 11]) c6r13) (.seq (.seq (.reg false (some [0, 1, 2, 8, 9, 11, 76]) c6r14) (.cond (.tmp 76) (.seq (.reg false (some [6]) c6r15) .ret) .nop)) (.seq (.reg false (some [6]) c6r16) .ret))))))))))
theorem s6 : Try.f6.body.bind (strip Try.prog An 6 Try.f6.ntmps) = some c6 := by kernel_rfl
theorem g6 : An.glob 6 = [] := rfl
theorem r6 : Try.f6.results.toList = [(.tmp 6)] := by kernel_rfl
theorem t6r0 {F : Oracle} {L : List (Nat × CV)} {m : Mem} {Q : CE → TS → Prop} (h :
    Q .normal ⟨[(0, (tget L 0)), (1, (tget L 1)), (2, (tget L 2))], m⟩) :
    Tx Try.prog An F 6 (.reg false (some [0, 1, 2]) c6r0) ⟨L, m⟩ Q := Tx_told (by kernel_rfl) h
theorem t6r1 {F : Oracle} {L : List (Nat × CV)} {m : Mem} {Q : CE → TS → Prop} (h :
    Obt (callC An F 6 (some 13) 8 [(tget L 0)] m) fun a0 => 
    Obt (cun .not a0.1) fun a1 => 
    Obt (gdO a1 false (some ((tget L 1), a0.2)) (.tuple [], a0.2)) fun a2 => 
    Obt (gdO a1 false ((cbin Try.prog .lss 3 (.tmp 16) (.const (.int .i64 0)) a2.1 (.int .i64 0)).map fun v => (v, a2.2)) (.tuple [], a2.2)) fun a3 => 
    Obt (pickX a1 (.bool true) a3.1) fun a4 => 
    Obt (gdO a4 false (some ((tget L 2), a3.2)) (.tuple [], a3.2)) fun a5 => 
    Obt (gdO a4 false ((cbin Try.prog .lss 3 (.tmp 20) (.const (.int .i64 0)) a5.1 (.int .i64 0)).map fun v => (v, a5.2)) (.tuple [], a5.2)) fun a6 => 
    Obt (pickX a4 (.bool true) a6.1) fun a7 => 
    Obt (gdO a7 false (some ((tget L 1), a6.2)) (.tuple [], a6.2)) fun a8 => 
    Obt (gdO a7 false (some ((tget L 0), a8.2)) (.tuple [], a8.2)) fun a9 => 
    Obt (gdO a7 false ((lenS a9.1).map fun v => (v, a9.2)) (.tuple [], a9.2)) fun a10 => 
    Obt (gdO a7 false ((cbin Try.prog .geq 3 (.tmp 24) (.tmp 26) a8.1 a10.1).map fun v => (v, a10.2)) (.tuple [], a10.2)) fun a11 => 
    Obt (pickX a7 (.bool true) a11.1) fun a12 => 
    Obt (gdO a12 false (some ((tget L 2), a11.2)) (.tuple [], a11.2)) fun a13 => 
    Obt (gdO a12 false (some ((tget L 0), a13.2)) (.tuple [], a13.2)) fun a14 => 
    Obt (gdO a12 false ((lenS a14.1).map fun v => (v, a14.2)) (.tuple [], a14.2)) fun a15 => 
    Obt (gdO a12 false ((cbin Try.prog .geq 3 (.tmp 30) (.tmp 32) a13.1 a15.1).map fun v => (v, a15.2)) (.tuple [], a15.2)) fun a16 => 
    Obt (pickX a12 (.bool true) a16.1) fun a17 => Q .normal ⟨[(0, (tget L 0)), (1, (tget L 1)), (2, (tget L 2)), (34, a17)], a16.2⟩) :
    Tx Try.prog An F 6 (.reg false (some [0, 1, 2, 34]) c6r1) ⟨L, m⟩ Q := Tx_told (by kernel_rfl) h
theorem t6r2 {F : Oracle} {L : List (Nat × CV)} {m : Mem} {Q : CE → TS → Prop} (h :
    Obt (callC An F 6 (some 35) 9 [] m) fun a0 => Q .normal ⟨[(6, a0.1)], a0.2⟩) :
    Tx Try.prog An F 6 (.reg false (some [6]) c6r2) ⟨L, m⟩ Q := Tx_told (by kernel_rfl) h
theorem t6r3 {F : Oracle} {L : List (Nat × CV)} {m : Mem} {Q : CE → TS → Prop} (h :
    Obt (callC An F 6 (some 37) 16 [(tget L 0)] m) fun a0 => Q .normal ⟨[(0, (tget L 0)), (1, (tget L 1)), (2, (tget L 2)), (7, a0.1)], a0.2⟩) :
    Tx Try.prog An F 6 (.reg false (some [0, 1, 2, 7]) c6r3) ⟨L, m⟩ Q := Tx_told (by kernel_rfl) h
theorem t6r4 {F : Oracle} {L : List (Nat × CV)} {m : Mem} {Q : CE → TS → Prop} (h :
    Obt (lenS (tget L 7)) fun a0 => 
    Obt (lenS (tget L 0)) fun a1 => 
    Obt (cbin Try.prog .neq 3 (.tmp 39) (.tmp 41) a0 a1) fun a2 => Q .normal ⟨[(0, (tget L 0)), (1, (tget L 1)), (2, (tget L 2)), (7, (tget L 7)), (42, a2)], m⟩) :
    Tx Try.prog An F 6 (.reg false (some [0, 1, 2, 7, 42]) c6r4) ⟨L, m⟩ Q := Tx_told (by kernel_rfl) h
theorem t6r5 {F : Oracle} {L : List (Nat × CV)} {m : Mem} {Q : CE → TS → Prop} (h :
    Q .normal ⟨[(6, (.bool false))], m⟩) :
    Tx Try.prog An F 6 (.reg false (some [6]) c6r5) ⟨L, m⟩ Q := Tx_told (by kernel_rfl) h
theorem t6r6 {F : Oracle} {L : List (Nat × CV)} {m : Mem} {Q : CE → TS → Prop} (h :
    Q .normal ⟨[(0, (tget L 0)), (1, (tget L 1)), (2, (tget L 2)), (7, (tget L 7)), (8, (.bool false))], m⟩) :
    Tx Try.prog An F 6 (.reg false (some [0, 1, 2, 7, 8]) c6r6) ⟨L, m⟩ Q := Tx_told (by kernel_rfl) h
theorem t6r7 {F : Oracle} {L : List (Nat × CV)} {m : Mem} {Q : CE → TS → Prop} (h :
    Q .normal ⟨[(0, (tget L 0)), (1, (tget L 1)), (2, (tget L 2)), (7, (tget L 7)), (8, (tget L 8)), (9, (tget L 2))], m⟩) :
    Tx Try.prog An F 6 (.reg false (some [0, 1, 2, 7, 8, 9]) c6r7) ⟨L, m⟩ Q := Tx_told (by kernel_rfl) h
theorem t6r8 {F : Oracle} {L : List (Nat × CV)} {m : Mem} {Q : CE → TS → Prop} (h :
    Q .normal ⟨[(0, (tget L 0)), (1, (tget L 1)), (2, (tget L 2)), (7, (tget L 7)), (8, (tget L 8)), (9, (tget L 9)), (10, (.int .i64 0))], m⟩) :
    Tx Try.prog An F 6 (.reg false (some [0, 1, 2, 7, 8, 9, 10]) c6r8) ⟨L, m⟩ Q := Tx_told (by kernel_rfl) h
theorem t6r9 {F : Oracle} {L : List (Nat × CV)} {m : Mem} {Q : CE → TS → Prop} (h :
    Obt (lenS (tget L 0)) fun a0 => 
    Obt (cbin Try.prog .leq 3 (.tmp 44) (.tmp 46) (tget L 10) a0) fun a1 => 
    Obt (gdO a1 true (some ((tget L 9), m)) (.tuple [], m)) fun a2 => 
    Obt (gdO a1 true ((cbin Try.prog .geq 3 (.tmp 49) (.const (.int .i64 0)) a2.1 (.int .i64 0)).map fun v => (v, a2.2)) (.tuple [], a2.2)) fun a3 => 
    Obt (pickX a1 a3.1 (.bool false)) fun a4 => 
    Obt (gdO a4 true (some ((tget L 9), a3.2)) (.tuple [], a3.2)) fun a5 => 
    Obt (gdO a4 true (some ((tget L 0), a5.2)) (.tuple [], a5.2)) fun a6 => 
    Obt (gdO a4 true ((lenS a6.1).map fun v => (v, a6.2)) (.tuple [], a6.2)) fun a7 => 
    Obt (gdO a4 true ((cbin Try.prog .lss 3 (.tmp 53) (.tmp 55) a5.1 a7.1).map fun v => (v, a7.2)) (.tuple [], a7.2)) fun a8 => 
    Obt (pickX a4 a8.1 (.bool false)) fun a9 => Q .normal ⟨[(0, (tget L 0)), (1, (tget L 1)), (2, (tget L 2)), (7, (tget L 7)), (8, (tget L 8)), (9, (tget L 9)), (10, (tget L 10)), (57, a9)], a8.2⟩) :
    Tx Try.prog An F 6 (.reg false (some [0, 1, 2, 7, 8, 9, 10, 57]) c6r9) ⟨L, m⟩ Q := Tx_told (by kernel_rfl) h
theorem t6r11 {F : Oracle} {L : List (Nat × CV)} {m : Mem} {Q : CE → TS → Prop} (h :
    Obt (gdO (tget L 8) false (some ((tget L 9), m)) (.tuple [], m)) fun a0 => 
    Obt (gdO (tget L 8) false (some ((tget L 1), a0.2)) (.tuple [], a0.2)) fun a1 => 
    Obt (gdO (tget L 8) false ((cbin Try.prog .eql 3 (.tmp 62) (.tmp 63) a0.1 a1.1).map fun v => (v, a1.2)) (.tuple [], a1.2)) fun a2 => 
    Obt (pickX (tget L 8) (.bool true) a2.1) fun a3 => Q .normal ⟨[(0, (tget L 0)), (1, (tget L 1)), (2, (tget L 2)), (7, (tget L 7)), (8, a3), (9, (tget L 9)), (10, (tget L 10))], a2.2⟩) :
    Tx Try.prog An F 6 (.reg false (some [0, 1, 2, 7, 8, 9, 10]) c6r11) ⟨L, m⟩ Q := Tx_told (by kernel_rfl) h
theorem t6r12 {F : Oracle} {L : List (Nat × CV)} {m : Mem} {Q : CE → TS → Prop} (h :
    Obt (idxS 1 (tget L 7) (tget L 9)) fun a0 => 
    Obt (ld1 m a0) fun a1 => Q .normal ⟨[(0, (tget L 0)), (1, (tget L 1)), (2, (tget L 2)), (7, (tget L 7)), (8, (tget L 8)), (9, a1), (10, (tget L 10))], m⟩) :
    Tx Try.prog An F 6 (.reg false (some [0, 1, 2, 7, 8, 9, 10]) c6r12) ⟨L, m⟩ Q := Tx_told (by kernel_rfl) h
theorem t6r10 {F : Oracle} {L : List (Nat × CV)} {m : Mem} {Q : CE → TS → Prop} (h :
    Obt (cbin Try.prog .add 3 (.tmp 58) (.const (.int .i64 1)) (tget L 10) (.int .i64 1)) fun a0 => Q .normal ⟨[(0, (tget L 0)), (1, (tget L 1)), (2, (tget L 2)), (7, (tget L 7)), (8, (tget L 8)), (9, (tget L 9)), (10, a0)], m⟩) :
    Tx Try.prog An F 6 (.reg false (some [0, 1, 2, 7, 8, 9, 10]) c6r10) ⟨L, m⟩ Q := Tx_told (by kernel_rfl) h
theorem t6r13 {F : Oracle} {L : List (Nat × CV)} {m : Mem} {Q : CE → TS → Prop} (h :
    Obt (callC An F 6 (some 71) 10 [(tget L 0)] m) fun a0 => Q .normal ⟨[(0, (tget L 0)), (1, (tget L 1)), (2, (tget L 2)), (8, (tget L 8)), (9, (tget L 9)), (11, a0.1)], a0.2⟩) :
    Tx Try.prog An F 6 (.reg false (some [0, 1, 2, 8, 9, 11]) c6r13) ⟨L, m⟩ Q := Tx_told (by kernel_rfl) h
theorem t6r14 {F : Oracle} {L : List (Nat × CV)} {m : Mem} {Q : CE → TS → Prop} (h :
    Obt (lenS (tget L 11)) fun a0 => 
    Obt (lenS (tget L 0)) fun a1 => 
    Obt (cbin Try.prog .neq 3 (.tmp 73) (.tmp 75) a0 a1) fun a2 => Q .normal ⟨[(0, (tget L 0)), (1, (tget L 1)), (2, (tget L 2)), (8, (tget L 8)), (9, (tget L 9)), (11, (tget L 11)), (76, a2)], m⟩) :
    Tx Try.prog An F 6 (.reg false (some [0, 1, 2, 8, 9, 11, 76]) c6r14) ⟨L, m⟩ Q := Tx_told (by kernel_rfl) h
theorem t6r15 {F : Oracle} {L : List (Nat × CV)} {m : Mem} {Q : CE → TS → Prop} (h :
    Q .normal ⟨[(6, (.bool false))], m⟩) :
    Tx Try.prog An F 6 (.reg false (some [6]) c6r15) ⟨L, m⟩ Q := Tx_told (by kernel_rfl) h
theorem t6r16 {F : Oracle} {L : List (Nat × CV)} {m : Mem} {Q : CE → TS → Prop} (h :
    Obt (cbin Try.prog .eql 3 (.tmp 77) (.const (.int .i64 (-1))) (tget L 9) (.int .i64 (-1))) fun a0 => 
    Obt (gdO a0 true (some ((tget L 0), m)) (.tuple [], m)) fun a1 => 
    Obt (gdO a0 true (some ((tget L 1), a1.2)) (.tuple [], a1.2)) fun a2 => 
    Obt (gdO a0 true (some ((tget L 2), a2.2)) (.tuple [], a2.2)) fun a3 => 
    Obt (gdO a0 true (callC An F 6 (some 83) 11 [a1.1, a2.1, a3.1] a3.2) (.tuple [], a3.2)) fun a4 => 
    Obt (gdO a0 true (some ((tget L 8), a4.2)) (.tuple [], a4.2)) fun a5 => 
    Obt (gdO a0 true (some (a5.1, a5.2)) (.tuple [], a5.2)) fun a6 => 
    Obt (gdO a6.1 true (some ((tget L 11), a6.2)) (.tuple [], a6.2)) fun a7 => 
    Obt (gdO a6.1 true (some ((tget L 2), a7.2)) (.tuple [], a7.2)) fun a8 => 
    Obt (gdO a6.1 true ((idxS 1 a7.1 a8.1).map fun v => (v, a8.2)) (.tuple [], a8.2)) fun a9 => 
    Obt (gdO a6.1 true ((ld1 a9.2 a9.1).map fun v => (v, a9.2)) (.tuple [], a9.2)) fun a10 => 
    Obt (gdO a0 true ((pickX a6.1 a10.1 (.bool false)).map fun v => (v, a10.2)) (.tuple [], a10.2)) fun a11 => 
    Obt (gdO a0 true ((cbin Try.prog .eql 4 (.tmp 83) (.tmp 90) a4.1 a11.1).map fun v => (v, a11.2)) (.tuple [], a11.2)) fun a12 => 
    Obt (pickX a0 a12.1 (.bool false)) fun a13 => 
    Obt (gdO a13 true (callC An F 6 (some 94) 9 [] a12.2) (.tuple [], a12.2)) fun a14 => 
    Obt (pickX a13 a14.1 (.bool false)) fun a15 => Q .normal ⟨[(6, a15)], a14.2⟩) :
    Tx Try.prog An F 6 (.reg false (some [6]) c6r16) ⟨L, m⟩ Q := Tx_told (by kernel_rfl) h
-- clevis/clevislaw15.DomFirst
def c7r0 : List SO :=
  [⟨(some 2), (.assign (.const (.bool false))), none⟩]
def c7r1 : List SO :=
  [⟨(some 9), (.move (.tmp 0)), none⟩,
   ⟨(some 10), (.call ⟨(.value (.func 8)), #[(.tmp 9)], #[22]⟩), none⟩,
   ⟨(some 11), (.unOp .not 4 (.tmp 10)), none⟩,
   ⟨(some 12), (.move (.tmp 11)), none⟩,
   ⟨(some 13), (.move (.tmp 0)), (some (12, false))⟩,
   ⟨(some 14), (.call ⟨(.builtin .len), #[(.tmp 13)], #[22]⟩), (some (12, false))⟩,
   ⟨(some 15), (.binOp .eql 3 (.tmp 14) (.const (.int .i64 0)) 3), (some (12, false))⟩,
   ⟨(some 16), (.pick (.tmp 12) (.const (.bool true)) (.tmp 15)), none⟩]
def c7r2 : List SO :=
  [⟨(some 17), (.call ⟨(.value (.func 9)), #[], #[]⟩), none⟩,
   ⟨(some 2), (.assign (.tmp 17)), none⟩]
def c7r3 : List SO :=
  [⟨(some 18), (.move (.tmp 0)), none⟩,
   ⟨(some 19), (.call ⟨(.value (.func 19)), #[(.tmp 18)], #[22]⟩), none⟩,
   ⟨(some 3), (.assign (.tmp 19)), none⟩]
def c7r4 : List SO :=
  [⟨(some 20), (.move (.tmp 0)), none⟩,
   ⟨(some 21), (.call ⟨(.value (.func 16)), #[(.tmp 20)], #[22]⟩), none⟩,
   ⟨(some 4), (.assign (.tmp 21)), none⟩]
def c7r5 : List SO :=
  [⟨(some 22), (.move (.tmp 0)), none⟩,
   ⟨(some 23), (.call ⟨(.value (.func 10)), #[(.tmp 22)], #[22]⟩), none⟩,
   ⟨(some 5), (.assign (.tmp 23)), none⟩]
def c7r6 : List SO :=
  [⟨(some 24), (.move (.tmp 4)), none⟩,
   ⟨(some 25), (.call ⟨(.builtin .len), #[(.tmp 24)], #[27]⟩), none⟩,
   ⟨(some 26), (.move (.tmp 0)), none⟩,
   ⟨(some 27), (.call ⟨(.builtin .len), #[(.tmp 26)], #[22]⟩), none⟩,
   ⟨(some 28), (.binOp .neq 3 (.tmp 25) (.tmp 27) 3), none⟩,
   ⟨(some 29), (.move (.tmp 28)), none⟩,
   ⟨(some 30), (.move (.tmp 5)), (some (29, false))⟩,
   ⟨(some 31), (.call ⟨(.builtin .len), #[(.tmp 30)], #[25]⟩), (some (29, false))⟩,
   ⟨(some 32), (.move (.tmp 0)), (some (29, false))⟩,
   ⟨(some 33), (.call ⟨(.builtin .len), #[(.tmp 32)], #[22]⟩), (some (29, false))⟩,
   ⟨(some 34), (.binOp .neq 3 (.tmp 31) (.tmp 33) 3), (some (29, false))⟩,
   ⟨(some 35), (.pick (.tmp 29) (.const (.bool true)) (.tmp 34)), none⟩,
   ⟨(some 36), (.move (.tmp 35)), none⟩,
   ⟨(some 37), (.move (.tmp 3)), (some (36, false))⟩,
   ⟨(some 38), (.call ⟨(.builtin .len), #[(.tmp 37)], #[27]⟩), (some (36, false))⟩,
   ⟨(some 39), (.binOp .eql 3 (.tmp 38) (.const (.int .i64 0)) 3), (some (36, false))⟩,
   ⟨(some 40), (.pick (.tmp 36) (.const (.bool true)) (.tmp 39)), none⟩,
   ⟨(some 41), (.move (.tmp 40)), none⟩,
   ⟨(some 42), (.move (.tmp 3)), (some (41, false))⟩,
   ⟨(some 43), (.indexAddr 27 (.tmp 42) (.const (.int .i64 0))), (some (41, false))⟩,
   ⟨(some 44), (.load 3 (.tmp 43)), (some (41, false))⟩,
   ⟨(some 45), (.binOp .neq 3 (.tmp 44) (.const (.int .i64 0)) 3), (some (41, false))⟩,
   ⟨(some 46), (.pick (.tmp 41) (.const (.bool true)) (.tmp 45)), none⟩]
def c7r7 : List SO :=
  [⟨(some 2), (.assign (.const (.bool false))), none⟩]
def c7r8 : List SO :=
  [⟨(some 47), (.move (.tmp 0)), none⟩,
   ⟨(some 48), (.call ⟨(.builtin .len), #[(.tmp 47)], #[22]⟩), none⟩,
   ⟨(some 49), (.makeSlice 27 (.tmp 48) (.tmp 48)), none⟩,
   ⟨(some 6), (.assign (.tmp 49)), none⟩]
def c7r9 : List SO :=
  [⟨(some 7), (.assign (.const (.int .i64 0))), none⟩]
def c7r10 : List SO :=
  [⟨(some 50), (.move (.tmp 7)), none⟩,
   ⟨(some 51), (.move (.tmp 3)), none⟩,
   ⟨(some 52), (.call ⟨(.builtin .len), #[(.tmp 51)], #[27]⟩), none⟩,
   ⟨(some 53), (.binOp .lss 3 (.tmp 50) (.tmp 52) 3), none⟩]
def c7r12 : List SO :=
  [⟨(some 56), (.move (.tmp 3)), none⟩,
   ⟨(some 57), (.move (.tmp 7)), none⟩,
   ⟨(some 58), (.indexAddr 27 (.tmp 56) (.tmp 57)), none⟩,
   ⟨(some 59), (.load 3 (.tmp 58)), none⟩,
   ⟨(some 60), (.binOp .lss 3 (.tmp 59) (.const (.int .i64 0)) 3), none⟩,
   ⟨(some 61), (.move (.tmp 60)), none⟩,
   ⟨(some 62), (.move (.tmp 3)), (some (61, false))⟩,
   ⟨(some 63), (.move (.tmp 7)), (some (61, false))⟩,
   ⟨(some 64), (.indexAddr 27 (.tmp 62) (.tmp 63)), (some (61, false))⟩,
   ⟨(some 65), (.load 3 (.tmp 64)), (some (61, false))⟩,
   ⟨(some 66), (.move (.tmp 0)), (some (61, false))⟩,
   ⟨(some 67), (.call ⟨(.builtin .len), #[(.tmp 66)], #[22]⟩), (some (61, false))⟩,
   ⟨(some 68), (.binOp .geq 3 (.tmp 65) (.tmp 67) 3), (some (61, false))⟩,
   ⟨(some 69), (.pick (.tmp 61) (.const (.bool true)) (.tmp 68)), none⟩,
   ⟨(some 70), (.move (.tmp 69)), none⟩,
   ⟨(some 71), (.move (.tmp 6)), (some (70, false))⟩,
   ⟨(some 72), (.move (.tmp 3)), (some (70, false))⟩,
   ⟨(some 73), (.move (.tmp 7)), (some (70, false))⟩,
   ⟨(some 74), (.indexAddr 27 (.tmp 72) (.tmp 73)), (some (70, false))⟩,
   ⟨(some 75), (.load 3 (.tmp 74)), (some (70, false))⟩,
   ⟨(some 76), (.indexAddr 27 (.tmp 71) (.tmp 75)), (some (70, false))⟩,
   ⟨(some 77), (.load 3 (.tmp 76)), (some (70, false))⟩,
   ⟨(some 78), (.binOp .neq 3 (.tmp 77) (.const (.int .i64 0)) 3), (some (70, false))⟩,
   ⟨(some 79), (.pick (.tmp 70) (.const (.bool true)) (.tmp 78)), none⟩]
def c7r13 : List SO :=
  [⟨(some 2), (.assign (.const (.bool false))), none⟩]
def c7r14 : List SO :=
  [⟨(some 80), (.move (.tmp 6)), none⟩,
   ⟨(some 81), (.move (.tmp 3)), none⟩,
   ⟨(some 82), (.move (.tmp 7)), none⟩,
   ⟨(some 83), (.indexAddr 27 (.tmp 81) (.tmp 82)), none⟩,
   ⟨(some 84), (.load 3 (.tmp 83)), none⟩,
   ⟨(some 85), (.move (.tmp 7)), none⟩,
   ⟨(some 86), (.binOp .add 3 (.tmp 85) (.const (.int .i64 1)) 3), none⟩,
   ⟨(some 87), (.indexAddr 27 (.tmp 80) (.tmp 84)), none⟩,
   ⟨none, (.store 3 (.tmp 87) (.tmp 86)), none⟩]
def c7r11 : List SO :=
  [⟨(some 54), (.move (.tmp 7)), none⟩,
   ⟨(some 55), (.binOp .add 3 (.tmp 54) (.const (.int .i64 1)) 3), none⟩,
   ⟨(some 7), (.assign (.tmp 55)), none⟩]
def c7l0 : SC :=
  (.seq (.seq (.reg false (some [0, 3, 4, 5, 6, 7, 53]) c7r10) (.cond (.tmp 53) .nop (.exit 0))) (.seq (.block 1 (.seq (.seq (.reg false (some [0, 3, 4, 5, 6, 7, 79]) c7r12) (.cond (.tmp 79) (.seq (.reg false (some [2]) c7r13) .ret) .nop)) (.reg false (some [0, 3, 4, 5, 6, 7]) c7r14))) (.reg false (some [0, 3, 4, 5, 6, 7]) c7r11)))
def c7r15 : List SO :=
  [⟨(some 8), (.assign (.const (.int .i64 0))), none⟩]
def c7r16 : List SO :=
  [⟨(some 88), (.move (.tmp 8)), none⟩,
   ⟨(some 89), (.move (.tmp 0)), none⟩,
   ⟨(some 90), (.call ⟨(.builtin .len), #[(.tmp 89)], #[22]⟩), none⟩,
   ⟨(some 91), (.binOp .lss 3 (.tmp 88) (.tmp 90) 3), none⟩]
def c7r18 : List SO :=
  [⟨(some 94), (.move (.tmp 5)), none⟩,
   ⟨(some 95), (.move (.tmp 8)), none⟩,
   ⟨(some 96), (.indexAddr 25 (.tmp 94) (.tmp 95)), none⟩,
   ⟨(some 97), (.load 4 (.tmp 96)), none⟩,
   ⟨(some 98), (.move (.tmp 6)), none⟩,
   ⟨(some 99), (.move (.tmp 8)), none⟩,
   ⟨(some 100), (.indexAddr 27 (.tmp 98) (.tmp 99)), none⟩,
   ⟨(some 101), (.load 3 (.tmp 100)), none⟩,
   ⟨(some 102), (.binOp .gtr 3 (.tmp 101) (.const (.int .i64 0)) 3), none⟩,
   ⟨(some 103), (.binOp .neq 4 (.tmp 97) (.tmp 102) 4), none⟩,
   ⟨(some 104), (.move (.tmp 103)), none⟩,
   ⟨(some 105), (.move (.tmp 4)), (some (104, false))⟩,
   ⟨(some 106), (.move (.tmp 8)), (some (104, false))⟩,
   ⟨(some 107), (.indexAddr 27 (.tmp 105) (.tmp 106)), (some (104, false))⟩,
   ⟨(some 108), (.load 3 (.tmp 107)), (some (104, false))⟩,
   ⟨(some 109), (.binOp .geq 3 (.tmp 108) (.const (.int .i64 0)) 3), (some (104, false))⟩,
   ⟨(some 110), (.move (.tmp 109)), (some (104, false))⟩,
   ⟨(some 111), (.move (.tmp 6)), (some (110, true))⟩,
   ⟨(some 112), (.move (.tmp 4)), (some (110, true))⟩,
   ⟨(some 113), (.move (.tmp 8)), (some (110, true))⟩,
   ⟨(some 114), (.indexAddr 27 (.tmp 112) (.tmp 113)), (some (110, true))⟩,
   ⟨(some 115), (.load 3 (.tmp 114)), (some (110, true))⟩,
   ⟨(some 116), (.indexAddr 27 (.tmp 111) (.tmp 115)), (some (110, true))⟩,
   ⟨(some 117), (.load 3 (.tmp 116)), (some (110, true))⟩,
   ⟨(some 118), (.move (.tmp 6)), (some (110, true))⟩,
   ⟨(some 119), (.move (.tmp 8)), (some (110, true))⟩,
   ⟨(some 120), (.indexAddr 27 (.tmp 118) (.tmp 119)), (some (110, true))⟩,
   ⟨(some 121), (.load 3 (.tmp 120)), (some (110, true))⟩,
   ⟨(some 122), (.binOp .geq 3 (.tmp 117) (.tmp 121) 3), (some (110, true))⟩,
   ⟨(some 123), (.pick (.tmp 110) (.tmp 122) (.const (.bool false))), (some (104, false))⟩,
   ⟨(some 124), (.pick (.tmp 104) (.const (.bool true)) (.tmp 123)), none⟩]
def c7r19 : List SO :=
  [⟨(some 2), (.assign (.const (.bool false))), none⟩]
def c7r17 : List SO :=
  [⟨(some 92), (.move (.tmp 8)), none⟩,
   ⟨(some 93), (.binOp .add 3 (.tmp 92) (.const (.int .i64 1)) 3), none⟩,
   ⟨(some 8), (.assign (.tmp 93)), none⟩]
def c7l1 : SC :=
  (.seq (.seq (.reg false (some [0, 4, 5, 6, 8, 91]) c7r16) (.cond (.tmp 91) .nop (.exit 2))) (.seq (.block 3 (.seq (.reg true (some [0, 4, 5, 6, 8, 124]) c7r18) (.cond (.tmp 124) (.seq (.reg false (some [2]) c7r19) .ret) .nop))) (.reg false (some [0, 4, 5, 6, 8]) c7r17)))
def c7r20 : List SO :=
  [⟨(some 125), (.call ⟨(.value (.func 9)), #[], #[]⟩), none⟩,
   ⟨(some 2), (.assign (.tmp 125)), none⟩]
def c7 : SC :=
  (.seq (.reg false (some [0]) c7r0) (.seq (.seq (.reg false (some [0, 16]) c7r1) (.cond (.tmp 16) (.seq (.reg false (some [2]) c7r2) .ret) .nop)) (.seq (.reg false (some [0, 3]) c7r3) (.seq (.reg false (some [0, 3, 4]) c7r4) (.seq (.reg false (some [0, 3, 4, 5]) c7r5) (.seq (.seq (.reg false (some [0, 3, 4, 5, 46]) c7r6) (.cond (.tmp 46) (.seq (.reg false (some [2]) c7r7) .ret) .nop)) (.seq (.reg false (some [0, 3, 4, 5, 6]) c7r8) (.seq (.seq (.reg false (some [0, 3, 4, 5, 6, 7]) c7r9) (.block 0 (.loop c7l0))) (.seq (.seq (.reg false (some [0, 4, 5, 6, 8]) c7r15) (.block 2 (.loop c7l1))) (.seq (.reg false (some [2]) c7r20) .ret))))))))))
theorem s7 : Try.f7.body.bind (strip Try.prog An 7 Try.f7.ntmps) = some c7 := by kernel_rfl
theorem g7 : An.glob 7 = [] := rfl
theorem r7 : Try.f7.results.toList = [(.tmp 2)] := by kernel_rfl
theorem t7r0 {F : Oracle} {L : List (Nat × CV)} {m : Mem} {Q : CE → TS → Prop} (h :
    Q .normal ⟨[(0, (tget L 0))], m⟩) :
    Tx Try.prog An F 7 (.reg false (some [0]) c7r0) ⟨L, m⟩ Q := Tx_told (by kernel_rfl) h
theorem t7r1 {F : Oracle} {L : List (Nat × CV)} {m : Mem} {Q : CE → TS → Prop} (h :
    Obt (callC An F 7 (some 10) 8 [(tget L 0)] m) fun a0 => 
    Obt (cun .not a0.1) fun a1 => 
    Obt (gdO a1 false (some ((tget L 0), a0.2)) (.tuple [], a0.2)) fun a2 => 
    Obt (gdO a1 false ((lenS a2.1).map fun v => (v, a2.2)) (.tuple [], a2.2)) fun a3 => 
    Obt (gdO a1 false ((cbin Try.prog .eql 3 (.tmp 14) (.const (.int .i64 0)) a3.1 (.int .i64 0)).map fun v => (v, a3.2)) (.tuple [], a3.2)) fun a4 => 
    Obt (pickX a1 (.bool true) a4.1) fun a5 => Q .normal ⟨[(0, (tget L 0)), (16, a5)], a4.2⟩) :
    Tx Try.prog An F 7 (.reg false (some [0, 16]) c7r1) ⟨L, m⟩ Q := Tx_told (by kernel_rfl) h
theorem t7r2 {F : Oracle} {L : List (Nat × CV)} {m : Mem} {Q : CE → TS → Prop} (h :
    Obt (callC An F 7 (some 17) 9 [] m) fun a0 => Q .normal ⟨[(2, a0.1)], a0.2⟩) :
    Tx Try.prog An F 7 (.reg false (some [2]) c7r2) ⟨L, m⟩ Q := Tx_told (by kernel_rfl) h
theorem t7r3 {F : Oracle} {L : List (Nat × CV)} {m : Mem} {Q : CE → TS → Prop} (h :
    Obt (callC An F 7 (some 19) 19 [(tget L 0)] m) fun a0 => Q .normal ⟨[(0, (tget L 0)), (3, a0.1)], a0.2⟩) :
    Tx Try.prog An F 7 (.reg false (some [0, 3]) c7r3) ⟨L, m⟩ Q := Tx_told (by kernel_rfl) h
theorem t7r4 {F : Oracle} {L : List (Nat × CV)} {m : Mem} {Q : CE → TS → Prop} (h :
    Obt (callC An F 7 (some 21) 16 [(tget L 0)] m) fun a0 => Q .normal ⟨[(0, (tget L 0)), (3, (tget L 3)), (4, a0.1)], a0.2⟩) :
    Tx Try.prog An F 7 (.reg false (some [0, 3, 4]) c7r4) ⟨L, m⟩ Q := Tx_told (by kernel_rfl) h
theorem t7r5 {F : Oracle} {L : List (Nat × CV)} {m : Mem} {Q : CE → TS → Prop} (h :
    Obt (callC An F 7 (some 23) 10 [(tget L 0)] m) fun a0 => Q .normal ⟨[(0, (tget L 0)), (3, (tget L 3)), (4, (tget L 4)), (5, a0.1)], a0.2⟩) :
    Tx Try.prog An F 7 (.reg false (some [0, 3, 4, 5]) c7r5) ⟨L, m⟩ Q := Tx_told (by kernel_rfl) h
theorem t7r6 {F : Oracle} {L : List (Nat × CV)} {m : Mem} {Q : CE → TS → Prop} (h :
    Obt (lenS (tget L 4)) fun a0 => 
    Obt (lenS (tget L 0)) fun a1 => 
    Obt (cbin Try.prog .neq 3 (.tmp 25) (.tmp 27) a0 a1) fun a2 => 
    Obt (gdO a2 false (some ((tget L 5), m)) (.tuple [], m)) fun a3 => 
    Obt (gdO a2 false ((lenS a3.1).map fun v => (v, a3.2)) (.tuple [], a3.2)) fun a4 => 
    Obt (gdO a2 false (some ((tget L 0), a4.2)) (.tuple [], a4.2)) fun a5 => 
    Obt (gdO a2 false ((lenS a5.1).map fun v => (v, a5.2)) (.tuple [], a5.2)) fun a6 => 
    Obt (gdO a2 false ((cbin Try.prog .neq 3 (.tmp 31) (.tmp 33) a4.1 a6.1).map fun v => (v, a6.2)) (.tuple [], a6.2)) fun a7 => 
    Obt (pickX a2 (.bool true) a7.1) fun a8 => 
    Obt (gdO a8 false (some ((tget L 3), a7.2)) (.tuple [], a7.2)) fun a9 => 
    Obt (gdO a8 false ((lenS a9.1).map fun v => (v, a9.2)) (.tuple [], a9.2)) fun a10 => 
    Obt (gdO a8 false ((cbin Try.prog .eql 3 (.tmp 38) (.const (.int .i64 0)) a10.1 (.int .i64 0)).map fun v => (v, a10.2)) (.tuple [], a10.2)) fun a11 => 
    Obt (pickX a8 (.bool true) a11.1) fun a12 => 
    Obt (gdO a12 false (some ((tget L 3), a11.2)) (.tuple [], a11.2)) fun a13 => 
    Obt (gdO a12 false ((idxS 1 a13.1 (.int .i64 0)).map fun v => (v, a13.2)) (.tuple [], a13.2)) fun a14 => 
    Obt (gdO a12 false ((ld1 a14.2 a14.1).map fun v => (v, a14.2)) (.tuple [], a14.2)) fun a15 => 
    Obt (gdO a12 false ((cbin Try.prog .neq 3 (.tmp 44) (.const (.int .i64 0)) a15.1 (.int .i64 0)).map fun v => (v, a15.2)) (.tuple [], a15.2)) fun a16 => 
    Obt (pickX a12 (.bool true) a16.1) fun a17 => Q .normal ⟨[(0, (tget L 0)), (3, (tget L 3)), (4, (tget L 4)), (5, (tget L 5)), (46, a17)], a16.2⟩) :
    Tx Try.prog An F 7 (.reg false (some [0, 3, 4, 5, 46]) c7r6) ⟨L, m⟩ Q := Tx_told (by kernel_rfl) h
theorem t7r7 {F : Oracle} {L : List (Nat × CV)} {m : Mem} {Q : CE → TS → Prop} (h :
    Q .normal ⟨[(2, (.bool false))], m⟩) :
    Tx Try.prog An F 7 (.reg false (some [2]) c7r7) ⟨L, m⟩ Q := Tx_told (by kernel_rfl) h
theorem t7r8 {F : Oracle} {L : List (Nat × CV)} {m : Mem} {Q : CE → TS → Prop} (h :
    Obt (lenS (tget L 0)) fun a0 => 
    Obt (mkX false 784 1 8 [.int .i64 0] a0 a0 m) fun a1 => Q .normal ⟨[(0, (tget L 0)), (3, (tget L 3)), (4, (tget L 4)), (5, (tget L 5)), (6, a1.1)], a1.2⟩) :
    Tx Try.prog An F 7 (.reg false (some [0, 3, 4, 5, 6]) c7r8) ⟨L, m⟩ Q := Tx_told (by kernel_rfl) h
theorem t7r9 {F : Oracle} {L : List (Nat × CV)} {m : Mem} {Q : CE → TS → Prop} (h :
    Q .normal ⟨[(0, (tget L 0)), (3, (tget L 3)), (4, (tget L 4)), (5, (tget L 5)), (6, (tget L 6)), (7, (.int .i64 0))], m⟩) :
    Tx Try.prog An F 7 (.reg false (some [0, 3, 4, 5, 6, 7]) c7r9) ⟨L, m⟩ Q := Tx_told (by kernel_rfl) h
theorem t7r10 {F : Oracle} {L : List (Nat × CV)} {m : Mem} {Q : CE → TS → Prop} (h :
    Obt (lenS (tget L 3)) fun a0 => 
    Obt (cbin Try.prog .lss 3 (.tmp 50) (.tmp 52) (tget L 7) a0) fun a1 => Q .normal ⟨[(0, (tget L 0)), (3, (tget L 3)), (4, (tget L 4)), (5, (tget L 5)), (6, (tget L 6)), (7, (tget L 7)), (53, a1)], m⟩) :
    Tx Try.prog An F 7 (.reg false (some [0, 3, 4, 5, 6, 7, 53]) c7r10) ⟨L, m⟩ Q := Tx_told (by kernel_rfl) h
theorem t7r12 {F : Oracle} {L : List (Nat × CV)} {m : Mem} {Q : CE → TS → Prop} (h :
    Obt (idxS 1 (tget L 3) (tget L 7)) fun a0 => 
    Obt (ld1 m a0) fun a1 => 
    Obt (cbin Try.prog .lss 3 (.tmp 59) (.const (.int .i64 0)) a1 (.int .i64 0)) fun a2 => 
    Obt (gdO a2 false (some ((tget L 3), m)) (.tuple [], m)) fun a3 => 
    Obt (gdO a2 false (some ((tget L 7), a3.2)) (.tuple [], a3.2)) fun a4 => 
    Obt (gdO a2 false ((idxS 1 a3.1 a4.1).map fun v => (v, a4.2)) (.tuple [], a4.2)) fun a5 => 
    Obt (gdO a2 false ((ld1 a5.2 a5.1).map fun v => (v, a5.2)) (.tuple [], a5.2)) fun a6 => 
    Obt (gdO a2 false (some ((tget L 0), a6.2)) (.tuple [], a6.2)) fun a7 => 
    Obt (gdO a2 false ((lenS a7.1).map fun v => (v, a7.2)) (.tuple [], a7.2)) fun a8 => 
    Obt (gdO a2 false ((cbin Try.prog .geq 3 (.tmp 65) (.tmp 67) a6.1 a8.1).map fun v => (v, a8.2)) (.tuple [], a8.2)) fun a9 => 
    Obt (pickX a2 (.bool true) a9.1) fun a10 => 
    Obt (gdO a10 false (some ((tget L 6), a9.2)) (.tuple [], a9.2)) fun a11 => 
    Obt (gdO a10 false (some ((tget L 3), a11.2)) (.tuple [], a11.2)) fun a12 => 
    Obt (gdO a10 false (some ((tget L 7), a12.2)) (.tuple [], a12.2)) fun a13 => 
    Obt (gdO a10 false ((idxS 1 a12.1 a13.1).map fun v => (v, a13.2)) (.tuple [], a13.2)) fun a14 => 
    Obt (gdO a10 false ((ld1 a14.2 a14.1).map fun v => (v, a14.2)) (.tuple [], a14.2)) fun a15 => 
    Obt (gdO a10 false ((idxS 1 a11.1 a15.1).map fun v => (v, a15.2)) (.tuple [], a15.2)) fun a16 => 
    Obt (gdO a10 false ((ld1 a16.2 a16.1).map fun v => (v, a16.2)) (.tuple [], a16.2)) fun a17 => 
    Obt (gdO a10 false ((cbin Try.prog .neq 3 (.tmp 77) (.const (.int .i64 0)) a17.1 (.int .i64 0)).map fun v => (v, a17.2)) (.tuple [], a17.2)) fun a18 => 
    Obt (pickX a10 (.bool true) a18.1) fun a19 => Q .normal ⟨[(0, (tget L 0)), (3, (tget L 3)), (4, (tget L 4)), (5, (tget L 5)), (6, (tget L 6)), (7, (tget L 7)), (79, a19)], a18.2⟩) :
    Tx Try.prog An F 7 (.reg false (some [0, 3, 4, 5, 6, 7, 79]) c7r12) ⟨L, m⟩ Q := Tx_told (by kernel_rfl) h
theorem t7r13 {F : Oracle} {L : List (Nat × CV)} {m : Mem} {Q : CE → TS → Prop} (h :
    Q .normal ⟨[(2, (.bool false))], m⟩) :
    Tx Try.prog An F 7 (.reg false (some [2]) c7r13) ⟨L, m⟩ Q := Tx_told (by kernel_rfl) h
theorem t7r14 {F : Oracle} {L : List (Nat × CV)} {m : Mem} {Q : CE → TS → Prop} (h :
    Obt (idxS 1 (tget L 3) (tget L 7)) fun a0 => 
    Obt (ld1 m a0) fun a1 => 
    Obt (cbin Try.prog .add 3 (.tmp 85) (.const (.int .i64 1)) (tget L 7) (.int .i64 1)) fun a2 => 
    Obt (idxS 1 (tget L 6) a1) fun a3 => 
    Obt (stX 1 m a3 a2) fun a4 => Q .normal ⟨[(0, (tget L 0)), (3, (tget L 3)), (4, (tget L 4)), (5, (tget L 5)), (6, (tget L 6)), (7, (tget L 7))], a4⟩) :
    Tx Try.prog An F 7 (.reg false (some [0, 3, 4, 5, 6, 7]) c7r14) ⟨L, m⟩ Q := Tx_told (by kernel_rfl) h
theorem t7r11 {F : Oracle} {L : List (Nat × CV)} {m : Mem} {Q : CE → TS → Prop} (h :
    Obt (cbin Try.prog .add 3 (.tmp 54) (.const (.int .i64 1)) (tget L 7) (.int .i64 1)) fun a0 => Q .normal ⟨[(0, (tget L 0)), (3, (tget L 3)), (4, (tget L 4)), (5, (tget L 5)), (6, (tget L 6)), (7, a0)], m⟩) :
    Tx Try.prog An F 7 (.reg false (some [0, 3, 4, 5, 6, 7]) c7r11) ⟨L, m⟩ Q := Tx_told (by kernel_rfl) h
theorem t7r15 {F : Oracle} {L : List (Nat × CV)} {m : Mem} {Q : CE → TS → Prop} (h :
    Q .normal ⟨[(0, (tget L 0)), (4, (tget L 4)), (5, (tget L 5)), (6, (tget L 6)), (8, (.int .i64 0))], m⟩) :
    Tx Try.prog An F 7 (.reg false (some [0, 4, 5, 6, 8]) c7r15) ⟨L, m⟩ Q := Tx_told (by kernel_rfl) h
theorem t7r16 {F : Oracle} {L : List (Nat × CV)} {m : Mem} {Q : CE → TS → Prop} (h :
    Obt (lenS (tget L 0)) fun a0 => 
    Obt (cbin Try.prog .lss 3 (.tmp 88) (.tmp 90) (tget L 8) a0) fun a1 => Q .normal ⟨[(0, (tget L 0)), (4, (tget L 4)), (5, (tget L 5)), (6, (tget L 6)), (8, (tget L 8)), (91, a1)], m⟩) :
    Tx Try.prog An F 7 (.reg false (some [0, 4, 5, 6, 8, 91]) c7r16) ⟨L, m⟩ Q := Tx_told (by kernel_rfl) h
theorem t7r18 {F : Oracle} {L : List (Nat × CV)} {m : Mem} {Q : CE → TS → Prop} (h :
    Obt (idxS 1 (tget L 5) (tget L 8)) fun a0 => 
    Obt (ld1 m a0) fun a1 => 
    Obt (idxS 1 (tget L 6) (tget L 8)) fun a2 => 
    Obt (ld1 m a2) fun a3 => 
    Obt (cbin Try.prog .gtr 3 (.tmp 101) (.const (.int .i64 0)) a3 (.int .i64 0)) fun a4 => 
    Obt (cbin Try.prog .neq 4 (.tmp 97) (.tmp 102) a1 a4) fun a5 => 
    Obt (gdO a5 false (some ((tget L 4), m)) (.tuple [], m)) fun a6 => 
    Obt (gdO a5 false (some ((tget L 8), a6.2)) (.tuple [], a6.2)) fun a7 => 
    Obt (gdO a5 false ((idxS 1 a6.1 a7.1).map fun v => (v, a7.2)) (.tuple [], a7.2)) fun a8 => 
    Obt (gdO a5 false ((ld1 a8.2 a8.1).map fun v => (v, a8.2)) (.tuple [], a8.2)) fun a9 => 
    Obt (gdO a5 false ((cbin Try.prog .geq 3 (.tmp 108) (.const (.int .i64 0)) a9.1 (.int .i64 0)).map fun v => (v, a9.2)) (.tuple [], a9.2)) fun a10 => 
    Obt (gdO a5 false (some (a10.1, a10.2)) (.tuple [], a10.2)) fun a11 => 
    Obt (gdO a11.1 true (some ((tget L 6), a11.2)) (.tuple [], a11.2)) fun a12 => 
    Obt (gdO a11.1 true (some ((tget L 4), a12.2)) (.tuple [], a12.2)) fun a13 => 
    Obt (gdO a11.1 true (some ((tget L 8), a13.2)) (.tuple [], a13.2)) fun a14 => 
    Obt (gdO a11.1 true ((idxS 1 a13.1 a14.1).map fun v => (v, a14.2)) (.tuple [], a14.2)) fun a15 => 
    Obt (gdO a11.1 true ((ld1 a15.2 a15.1).map fun v => (v, a15.2)) (.tuple [], a15.2)) fun a16 => 
    Obt (gdO a11.1 true ((idxS 1 a12.1 a16.1).map fun v => (v, a16.2)) (.tuple [], a16.2)) fun a17 => 
    Obt (gdO a11.1 true ((ld1 a17.2 a17.1).map fun v => (v, a17.2)) (.tuple [], a17.2)) fun a18 => 
    Obt (gdO a11.1 true (some ((tget L 6), a18.2)) (.tuple [], a18.2)) fun a19 => 
    Obt (gdO a11.1 true (some ((tget L 8), a19.2)) (.tuple [], a19.2)) fun a20 => 
    Obt (gdO a11.1 true ((idxS 1 a19.1 a20.1).map fun v => (v, a20.2)) (.tuple [], a20.2)) fun a21 => 
    Obt (gdO a11.1 true ((ld1 a21.2 a21.1).map fun v => (v, a21.2)) (.tuple [], a21.2)) fun a22 => 
    Obt (gdO a11.1 true ((cbin Try.prog .geq 3 (.tmp 117) (.tmp 121) a18.1 a22.1).map fun v => (v, a22.2)) (.tuple [], a22.2)) fun a23 => 
    Obt (gdO a5 false ((pickX a11.1 a23.1 (.bool false)).map fun v => (v, a23.2)) (.tuple [], a23.2)) fun a24 => 
    Obt (pickX a5 (.bool true) a24.1) fun a25 => Q .normal ⟨[(0, (tget L 0)), (4, (tget L 4)), (5, (tget L 5)), (6, (tget L 6)), (8, (tget L 8)), (124, a25)], a24.2⟩) :
    Tx Try.prog An F 7 (.reg true (some [0, 4, 5, 6, 8, 124]) c7r18) ⟨L, m⟩ Q := Tx_told (by kernel_rfl) h
theorem t7r19 {F : Oracle} {L : List (Nat × CV)} {m : Mem} {Q : CE → TS → Prop} (h :
    Q .normal ⟨[(2, (.bool false))], m⟩) :
    Tx Try.prog An F 7 (.reg false (some [2]) c7r19) ⟨L, m⟩ Q := Tx_told (by kernel_rfl) h
theorem t7r17 {F : Oracle} {L : List (Nat × CV)} {m : Mem} {Q : CE → TS → Prop} (h :
    Obt (cbin Try.prog .add 3 (.tmp 92) (.const (.int .i64 1)) (tget L 8) (.int .i64 1)) fun a0 => Q .normal ⟨[(0, (tget L 0)), (4, (tget L 4)), (5, (tget L 5)), (6, (tget L 6)), (8, a0)], m⟩) :
    Tx Try.prog An F 7 (.reg false (some [0, 4, 5, 6, 8]) c7r17) ⟨L, m⟩ Q := Tx_told (by kernel_rfl) h
theorem t7r20 {F : Oracle} {L : List (Nat × CV)} {m : Mem} {Q : CE → TS → Prop} (h :
    Obt (callC An F 7 (some 125) 9 [] m) fun a0 => Q .normal ⟨[(2, a0.1)], a0.2⟩) :
    Tx Try.prog An F 7 (.reg false (some [2]) c7r20) ⟨L, m⟩ Q := Tx_told (by kernel_rfl) h
end Go.Cm
