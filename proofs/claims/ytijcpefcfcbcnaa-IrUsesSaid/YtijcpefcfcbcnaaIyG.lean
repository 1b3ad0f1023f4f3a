import Derived.Test.YtijcpefcfcbcnaaIyE
set_option linter.unusedSimpArgs false
set_option linter.unusedVariables false
namespace Go.Cm
open Go.Proofs
variable {F : Oracle} {L : List (Nat × CV)} {m : Mem} {Q : CE → TS → Prop}
-- clevis/clevislaw16.IrUses
def c9r0 : List SO :=
  [⟨(some 2), (.box 29 (.tmp 0)), none, []⟩,
   ⟨(some 4), (.assign (.const (.bool false))), none, []⟩]
def c9r1 : List SO :=
  [⟨(some 8), (.load 29 (.tmp 2)), none, []⟩,
   ⟨(some 9), (.call ⟨(.value (.func 35)), #[(.tmp 8)], #[29]⟩), none, []⟩,
   ⟨(some 10), (.unOp .not 4 (.tmp 9)), none, []⟩,
   ⟨(some 11), (.move (.tmp 10)), none, []⟩,
   ⟨(some 12), (.load 29 (.tmp 2)), (some (11, false)), []⟩,
   ⟨(some 13), (.call ⟨(.value (.func 36)), #[(.tmp 12)], #[29]⟩), (some (11, false)), []⟩,
   ⟨(some 14), (.binOp .neq 33 (.tmp 13) (.const (.int .i64 0)) 33), (some (11, false)), []⟩,
   ⟨(some 15), (.pick (.tmp 11) (.const (.bool true)) (.tmp 14)), none, []⟩,
   ⟨(some 16), (.move (.tmp 15)), none, []⟩,
   ⟨(some 17), (.move (.tmp 1)), (some (16, false)), []⟩,
   ⟨(some 18), (.binOp .lss 3 (.tmp 17) (.const (.int .i64 0)) 3), (some (16, false)), []⟩,
   ⟨(some 19), (.pick (.tmp 16) (.const (.bool true)) (.tmp 18)), none, []⟩,
   ⟨(some 20), (.move (.tmp 19)), none, []⟩,
   ⟨(some 21), (.move (.tmp 1)), (some (20, false)), []⟩,
   ⟨(some 22), (.fieldAddr 29 (.tmp 2) 0), (some (20, false)), []⟩,
   ⟨(some 23), (.load 27 (.tmp 22)), (some (20, false)), []⟩,
   ⟨(some 24), (.call ⟨(.builtin .len), #[(.tmp 23)], #[27]⟩), (some (20, false)), []⟩,
   ⟨(some 25), (.binOp .geq 3 (.tmp 21) (.tmp 24) 3), (some (20, false)), []⟩,
   ⟨(some 26), (.pick (.tmp 20) (.const (.bool true)) (.tmp 25)), none, []⟩,
   ⟨(some 27), (.move (.tmp 26)), none, []⟩,
   ⟨(some 28), (.fieldAddr 29 (.tmp 2) 1), (some (27, false)), []⟩,
   ⟨(some 29), (.load 3 (.tmp 28)), (some (27, false)), []⟩,
   ⟨(some 30), (.binOp .geq 3 (.tmp 29) (.const (.int .i64 65536)) 3), (some (27, false)), []⟩,
   ⟨(some 31), (.pick (.tmp 27) (.const (.bool true)) (.tmp 30)), none, []⟩]
def c9r2 : List SO :=
  [⟨(some 32), (.call ⟨(.value (.func 37)), #[], #[]⟩), none, []⟩,
   ⟨(some 4), (.assign (.tmp 32)), none, []⟩]
def c9r3 : List SO :=
  [⟨(some 5), (.alloc 29), none, []⟩,
   ⟨(some 33), (.buildSlice 27 0 #[]), none, [(false, 5)]⟩,
   ⟨(some 34), (.fieldAddr 29 (.tmp 2) 0), none, []⟩,
   ⟨(some 35), (.load 27 (.tmp 34)), none, [(true, 33)]⟩,
   ⟨(some 36), (.call ⟨(.builtin .append), #[(.tmp 33), (.tmp 35)], #[27, 27]⟩), none, [(false, 5), (true, 33)]⟩,
   ⟨(some 37), (.fieldAddr 29 (.tmp 2) 1), none, []⟩,
   ⟨(some 38), (.load 3 (.tmp 37)), none, [(true, 33), (true, 33)]⟩,
   ⟨(some 39), (.binOp .add 3 (.tmp 38) (.const (.int .i64 1)) 3), none, []⟩,
   ⟨(some 40), (.build 29 #[(0, (.tmp 36)), (1, (.tmp 39))]), none, []⟩,
   ⟨none, (.store 29 (.tmp 5) (.tmp 40)), none, []⟩]
def c9r4 : List SO :=
  [⟨(some 41), (.load 29 (.tmp 5)), none, []⟩,
   ⟨(some 42), (.call ⟨(.value (.func 36)), #[(.tmp 41)], #[29]⟩), none, []⟩,
   ⟨(some 43), (.binOp .neq 33 (.tmp 42) (.const (.int .i64 0)) 33), none, []⟩]
def c9r5 : List SO :=
  [⟨(some 4), (.assign (.const (.bool false))), none, []⟩]
def c9r6 : List SO :=
  [⟨(some 44), (.fieldAddr 29 (.tmp 5) 0), none, []⟩,
   ⟨(some 45), (.load 27 (.tmp 44)), none, []⟩,
   ⟨(some 46), (.move (.tmp 1)), none, []⟩,
   ⟨(some 47), (.indexAddr 27 (.tmp 45) (.tmp 46)), none, []⟩,
   ⟨(some 48), (.fieldAddr 58 (.tmp 47) 3), none, []⟩,
   ⟨(some 49), (.load 56 (.tmp 48)), none, []⟩,
   ⟨(some 6), (.alloc 56), none, []⟩,
   ⟨none, (.store 56 (.tmp 6) (.tmp 49)), none, []⟩]
def c9r7 : List SO :=
  [⟨(some 50), (.fieldAddr 29 (.tmp 2) 1), none, []⟩,
   ⟨(some 51), (.load 3 (.tmp 50)), none, []⟩,
   ⟨(some 52), (.fieldAddr 56 (.tmp 6) 3), none, []⟩,
   ⟨none, (.store 3 (.tmp 52) (.tmp 51)), none, []⟩]
def c9r8 : List SO :=
  [⟨(some 53), (.fieldAddr 29 (.tmp 5) 0), none, []⟩,
   ⟨(some 54), (.load 27 (.tmp 53)), none, []⟩,
   ⟨(some 55), (.move (.tmp 1)), none, []⟩,
   ⟨(some 56), (.load 56 (.tmp 6)), none, []⟩,
   ⟨(some 57), (.indexAddr 27 (.tmp 54) (.tmp 55)), none, []⟩,
   ⟨(some 58), (.fieldAddr 58 (.tmp 57) 3), none, []⟩,
   ⟨none, (.store 56 (.tmp 58) (.tmp 56)), none, []⟩]
def c9r9 : List SO :=
  [⟨(some 59), (.fieldAddr 56 (.tmp 6) 0), none, []⟩,
   ⟨(some 60), (.load 54 (.tmp 59)), none, []⟩,
   ⟨(some 61), (.binOp .eql 54 (.tmp 60) (.const (.int .i64 3)) 54), none, []⟩,
   ⟨(some 62), (.move (.tmp 61)), none, []⟩,
   ⟨(some 63), (.fieldAddr 56 (.tmp 6) 0), (some (62, false)), []⟩,
   ⟨(some 64), (.load 54 (.tmp 63)), (some (62, false)), []⟩,
   ⟨(some 65), (.binOp .eql 54 (.tmp 64) (.const (.int .i64 2)) 54), (some (62, false)), []⟩,
   ⟨(some 66), (.pick (.tmp 62) (.const (.bool true)) (.tmp 65)), none, []⟩,
   ⟨(some 7), (.assign (.tmp 66)), none, []⟩]
def c9r10 : List SO :=
  [⟨(some 67), (.load 29 (.tmp 5)), none, []⟩,
   ⟨(some 68), (.call ⟨(.value (.func 36)), #[(.tmp 67)], #[29]⟩), none, []⟩,
   ⟨(some 69), (.binOp .eql 33 (.tmp 68) (.const (.int .i64 160)) 33), none, []⟩,
   ⟨(some 70), (.move (.tmp 7)), none, []⟩,
   ⟨(some 71), (.binOp .eql 4 (.tmp 69) (.tmp 70) 4), none, []⟩,
   ⟨(some 72), (.move (.tmp 71)), none, []⟩,
   ⟨(some 73), (.call ⟨(.value (.func 37)), #[], #[]⟩), (some (72, true)), []⟩,
   ⟨(some 74), (.pick (.tmp 72) (.tmp 73) (.const (.bool false))), none, []⟩,
   ⟨(some 4), (.assign (.tmp 74)), none, []⟩]
def c9 : SC :=
  (.seq (.reg false (some [1, 2]) c9r0) (.seq (.seq (.reg false (some [1, 2, 31]) c9r1) (.cond (.tmp 31) (.seq (.reg false (some [4]) c9r2) .ret) .nop)) (.seq (.reg false (some [1, 2, 5]) c9r3) (.seq (.seq (.reg false (some [1, 2, 5, 43]) c9r4) (.cond (.tmp 43) (.seq (.reg false (some [4]) c9r5) .ret) .nop)) (.seq (.reg false (some [1, 2, 5, 6]) c9r6) (.seq (.reg false (some [1, 5, 6]) c9r7) (.seq (.reg false (some [5, 6]) c9r8) (.seq (.reg false (some [5, 7]) c9r9) (.seq (.reg false (some [4]) c9r10) .ret)))))))))
theorem s9 : Try.f9.body.bind (strip Try.prog An 9 Try.f9.ntmps) = some c9 := by kernel_rfl
theorem g9 : An.glob 9 = [] := rfl
theorem r9 : Try.f9.results.toList = [(.tmp 4)] := by kernel_rfl
theorem t9r0 (h :
    Obt (ccells (tget L 0)) fun a0 => Q .normal ⟨[(1, (tget L 1)), (2, (newP m 32))], (newL m 32 a0)⟩) :
    Tx Try.prog An F 9 (.reg false (some [1, 2]) c9r0) ⟨L, m⟩ Q := Tx_told (by kernel_rfl) h
theorem t9r1 (h :
    Obt (ldA 2 m (tget L 2)) fun a0 => 
    Obt (callC An F 9 (some 9) 35 [a0] m) fun a1 => 
    Obt (cun .not a1.1) fun a2 => 
    Obt (gdO a2 false ((ldA 2 a1.2 (tget L 2)).map fun v => (v, a1.2)) (.tuple [], a1.2)) fun a3 => 
    Obt (gdO a2 false (callC An F 9 (some 13) 36 [a3.1] a3.2) (.tuple [], a3.2)) fun a4 => 
    Obt (gdO a2 false ((cbin Try.prog .neq 33 (.tmp 13) (.const (.int .i64 0)) a4.1 (.int .i64 0)).map fun v => (v, a4.2)) (.tuple [], a4.2)) fun a5 => 
    Obt (pickX a2 (.bool true) a5.1) fun a6 => 
    Obt (gdO a6 false (some ((tget L 1), a5.2)) (.tuple [], a5.2)) fun a7 => 
    Obt (gdO a6 false ((cbin Try.prog .lss 3 (.tmp 17) (.const (.int .i64 0)) a7.1 (.int .i64 0)).map fun v => (v, a7.2)) (.tuple [], a7.2)) fun a8 => 
    Obt (pickX a6 (.bool true) a8.1) fun a9 => 
    Obt (gdO a9 false (some ((tget L 1), a8.2)) (.tuple [], a8.2)) fun a10 => 
    Obt (gdO a9 false ((fldA 0 (tget L 2)).map fun v => (v, a10.2)) (.tuple [], a10.2)) fun a11 => 
    Obt (gdO a9 false ((ld1 a11.2 a11.1).map fun v => (v, a11.2)) (.tuple [], a11.2)) fun a12 => 
    Obt (gdO a9 false ((lenS a12.1).map fun v => (v, a12.2)) (.tuple [], a12.2)) fun a13 => 
    Obt (gdO a9 false ((cbin Try.prog .geq 3 (.tmp 21) (.tmp 24) a10.1 a13.1).map fun v => (v, a13.2)) (.tuple [], a13.2)) fun a14 => 
    Obt (pickX a9 (.bool true) a14.1) fun a15 => 
    Obt (gdO a15 false ((fldA 1 (tget L 2)).map fun v => (v, a14.2)) (.tuple [], a14.2)) fun a16 => 
    Obt (gdO a15 false ((ld1 a16.2 a16.1).map fun v => (v, a16.2)) (.tuple [], a16.2)) fun a17 => 
    Obt (gdO a15 false ((cbin Try.prog .geq 3 (.tmp 29) (.const (.int .i64 65536)) a17.1 (.int .i64 65536)).map fun v => (v, a17.2)) (.tuple [], a17.2)) fun a18 => 
    Obt (pickX a15 (.bool true) a18.1) fun a19 => Q .normal ⟨[(1, (tget L 1)), (2, (tget L 2)), (31, a19)], a18.2⟩) :
    Tx Try.prog An F 9 (.reg false (some [1, 2, 31]) c9r1) ⟨L, m⟩ Q := Tx_told (by kernel_rfl) h
theorem t9r2 (h :
    Obt (callC An F 9 (some 32) 37 [] m) fun a0 => Q .normal ⟨[(4, a0.1)], a0.2⟩) :
    Tx Try.prog An F 9 (.reg false (some [4]) c9r2) ⟨L, m⟩ Q := Tx_told (by kernel_rfl) h
theorem t9r3 (h :
    Obt (offS [(false, 5)] (newL m 80 [.nil, .int .i64 0]) (bslX false 528 10 0 [] [] (newL m 80 [.nil, .int .i64 0]))) fun a0 => 
    Obt (fldA 0 (tget L 2)) fun a1 => 
    Obt (offK [(true, 33)] a1 ((ld1 a0.2 a1).map fun v => (v, a0.2))) fun a2 => 
    Obt (offR [(false, 5), (true, 33)] a0.1 (offS [(false, 5), (true, 33)] a2.2 (appX false 576 10 128 a0.1 a2.1 a2.2))) fun a3 => 
    Obt (fldA 1 (tget L 2)) fun a4 => 
    Obt (offK [(true, 33), (true, 33)] a4 ((ld1 a3.2 a4).map fun v => (v, a3.2))) fun a5 => 
    Obt (cbin Try.prog .add 3 (.tmp 38) (.const (.int .i64 1)) a5.1 (.int .i64 1)) fun a6 => 
    Obt ((fillX [.nil, .int .i64 0] [(0, 1, a3.1), (1, 1, a6)]).map CV.agg) fun a7 => 
    Obt (stX 2 a5.2 (newP m 80) a7) fun a8 => Q .normal ⟨[(1, (tget L 1)), (2, (tget L 2)), (5, (newP m 80))], a8⟩) :
    Tx Try.prog An F 9 (.reg false (some [1, 2, 5]) c9r3) ⟨L, m⟩ Q := Tx_told (by kernel_rfl) h
theorem t9r4 (h :
    Obt (ldA 2 m (tget L 5)) fun a0 => 
    Obt (callC An F 9 (some 42) 36 [a0] m) fun a1 => 
    Obt (cbin Try.prog .neq 33 (.tmp 42) (.const (.int .i64 0)) a1.1 (.int .i64 0)) fun a2 => Q .normal ⟨[(1, (tget L 1)), (2, (tget L 2)), (5, (tget L 5)), (43, a2)], a1.2⟩) :
    Tx Try.prog An F 9 (.reg false (some [1, 2, 5, 43]) c9r4) ⟨L, m⟩ Q := Tx_told (by kernel_rfl) h
theorem t9r6 (h :
    Obt (fldA 0 (tget L 5)) fun a0 => 
    Obt (ld1 m a0) fun a1 => 
    Obt (idxS 10 a1 (tget L 1)) fun a2 => 
    Obt (fldA 3 a2) fun a3 => 
    Obt (ldA 7 m a3) fun a4 => 
    Obt (stX 7 (newL m 96 [.int .i64 0, .int .i64 0, .bool false, .int .i64 0, .int .i64 0, .int .i64 0, .int .i64 0]) (newP m 96) a4) fun a5 => Q .normal ⟨[(1, (tget L 1)), (2, (tget L 2)), (5, (tget L 5)), (6, (newP m 96))], a5⟩) :
    Tx Try.prog An F 9 (.reg false (some [1, 2, 5, 6]) c9r6) ⟨L, m⟩ Q := Tx_told (by kernel_rfl) h
theorem t9r7 (h :
    Obt (fldA 1 (tget L 2)) fun a0 => 
    Obt (ld1 m a0) fun a1 => 
    Obt (fldA 3 (tget L 6)) fun a2 => 
    Obt (stX 1 m a2 a1) fun a3 => Q .normal ⟨[(1, (tget L 1)), (5, (tget L 5)), (6, (tget L 6))], a3⟩) :
    Tx Try.prog An F 9 (.reg false (some [1, 5, 6]) c9r7) ⟨L, m⟩ Q := Tx_told (by kernel_rfl) h
theorem t9r8 (h :
    Obt (fldA 0 (tget L 5)) fun a0 => 
    Obt (ld1 m a0) fun a1 => 
    Obt (ldA 7 m (tget L 6)) fun a2 => 
    Obt (idxS 10 a1 (tget L 1)) fun a3 => 
    Obt (fldA 3 a3) fun a4 => 
    Obt (stX 7 m a4 a2) fun a5 => Q .normal ⟨[(5, (tget L 5)), (6, (tget L 6))], a5⟩) :
    Tx Try.prog An F 9 (.reg false (some [5, 6]) c9r8) ⟨L, m⟩ Q := Tx_told (by kernel_rfl) h
theorem t9r9 (h :
    Obt (fldA 0 (tget L 6)) fun a0 => 
    Obt (ld1 m a0) fun a1 => 
    Obt (cbin Try.prog .eql 54 (.tmp 60) (.const (.int .i64 3)) a1 (.int .i64 3)) fun a2 => 
    Obt (gdO a2 false ((fldA 0 (tget L 6)).map fun v => (v, m)) (.tuple [], m)) fun a3 => 
    Obt (gdO a2 false ((ld1 a3.2 a3.1).map fun v => (v, a3.2)) (.tuple [], a3.2)) fun a4 => 
    Obt (gdO a2 false ((cbin Try.prog .eql 54 (.tmp 64) (.const (.int .i64 2)) a4.1 (.int .i64 2)).map fun v => (v, a4.2)) (.tuple [], a4.2)) fun a5 => 
    Obt (pickX a2 (.bool true) a5.1) fun a6 => Q .normal ⟨[(5, (tget L 5)), (7, a6)], a5.2⟩) :
    Tx Try.prog An F 9 (.reg false (some [5, 7]) c9r9) ⟨L, m⟩ Q := Tx_told (by kernel_rfl) h
theorem t9r10 (h :
    Obt (ldA 2 m (tget L 5)) fun a0 => 
    Obt (callC An F 9 (some 68) 36 [a0] m) fun a1 => 
    Obt (cbin Try.prog .eql 33 (.tmp 68) (.const (.int .i64 160)) a1.1 (.int .i64 160)) fun a2 => 
    Obt (cbin Try.prog .eql 4 (.tmp 69) (.tmp 70) a2 (tget L 7)) fun a3 => 
    Obt (gdO a3 true (callC An F 9 (some 73) 37 [] a1.2) (.tuple [], a1.2)) fun a4 => 
    Obt (pickX a3 a4.1 (.bool false)) fun a5 => Q .normal ⟨[(4, a5)], a4.2⟩) :
    Tx Try.prog An F 9 (.reg false (some [4]) c9r10) ⟨L, m⟩ Q := Tx_told (by kernel_rfl) h
-- clevis/clevislaw16.small
def c35r0 : List SO :=
  [⟨(some 1), (.box 29 (.tmp 0)), none, []⟩,
   ⟨(some 2), (.assign (.const (.bool false))), none, []⟩]
def c35r1 : List SO :=
  [⟨(some 3), (.fieldAddr 29 (.tmp 1) 0), none, []⟩,
   ⟨(some 4), (.load 27 (.tmp 3)), none, []⟩,
   ⟨(some 5), (.call ⟨(.builtin .len), #[(.tmp 4)], #[27]⟩), none, []⟩,
   ⟨(some 6), (.binOp .leq 3 (.tmp 5) (.const (.int .i64 100)) 3), none, []⟩,
   ⟨(some 7), (.move (.tmp 6)), none, []⟩,
   ⟨(some 8), (.fieldAddr 29 (.tmp 1) 1), (some (7, true)), []⟩,
   ⟨(some 9), (.load 3 (.tmp 8)), (some (7, true)), []⟩,
   ⟨(some 10), (.binOp .leq 3 (.tmp 9) (.const (.int .i64 1000)) 3), (some (7, true)), []⟩,
   ⟨(some 11), (.pick (.tmp 7) (.tmp 10) (.const (.bool false))), none, []⟩,
   ⟨(some 2), (.assign (.tmp 11)), none, []⟩]
def c35 : SC :=
  (.seq (.reg false (some [1]) c35r0) (.seq (.reg false (some [2]) c35r1) .ret))
theorem s35 : Try.f35.body.bind (strip Try.prog An 35 Try.f35.ntmps) = some c35 := by kernel_rfl
theorem r35 : Try.f35.results.toList = [(.tmp 2)] := by kernel_rfl
theorem t35r0 (h :
    Obt (ccells (tget L 0)) fun a0 => Q .normal ⟨[(1, (newP m 16))], (newL m 16 a0)⟩) :
    Tx Try.prog An F 35 (.reg false (some [1]) c35r0) ⟨L, m⟩ Q := Tx_told (by kernel_rfl) h
theorem t35r1 (h :
    Obt (fldA 0 (tget L 1)) fun a0 => 
    Obt (ld1 m a0) fun a1 => 
    Obt (lenS a1) fun a2 => 
    Obt (cbin Try.prog .leq 3 (.tmp 5) (.const (.int .i64 100)) a2 (.int .i64 100)) fun a3 => 
    Obt (gdO a3 true ((fldA 1 (tget L 1)).map fun v => (v, m)) (.tuple [], m)) fun a4 => 
    Obt (gdO a3 true ((ld1 a4.2 a4.1).map fun v => (v, a4.2)) (.tuple [], a4.2)) fun a5 => 
    Obt (gdO a3 true ((cbin Try.prog .leq 3 (.tmp 9) (.const (.int .i64 1000)) a5.1 (.int .i64 1000)).map fun v => (v, a5.2)) (.tuple [], a5.2)) fun a6 => 
    Obt (pickX a3 a6.1 (.bool false)) fun a7 => Q .normal ⟨[(2, a7)], a6.2⟩) :
    Tx Try.prog An F 35 (.reg false (some [2]) c35r1) ⟨L, m⟩ Q := Tx_told (by kernel_rfl) h
-- clevis/clevisref16.Same
def c3r0 : List SO :=
  [⟨(some 3), (.box 26 (.tmp 0)), none, []⟩,
   ⟨(some 4), (.box 29 (.tmp 1)), none, []⟩,
   ⟨(some 6), (.assign (.const (.bool false))), none, []⟩]
def c3r1 : List SO :=
  [⟨(some 16), (.load 29 (.tmp 4)), none, []⟩,
   ⟨(some 17), (.call ⟨(.value (.func 12)), #[(.tmp 16)], #[29]⟩), none, []⟩,
   ⟨(some 18), (.unOp .not 4 (.tmp 17)), none, []⟩]
def c3r2 : List SO :=
  [⟨(some 19), (.call ⟨(.value (.func 13)), #[], #[]⟩), none, []⟩,
   ⟨(some 6), (.assign (.tmp 19)), none, []⟩]
def c3r3 : List SO :=
  [⟨(some 21), (.load 26 (.tmp 3)), none, []⟩,
   ⟨(some 22), (.load 29 (.tmp 4)), none, []⟩,
   ⟨(some 23), (.call ⟨(.value (.func 14)), #[(.tmp 21), (.tmp 22), (.const (.slice none 0 0))], #[26, 29, 30]⟩), none, []⟩,
   ⟨(some 20), (.move (.tmp 23)), none, []⟩,
   ⟨(some 24), (.extract (.tmp 20) 0), none, []⟩,
   ⟨(some 25), (.extract (.tmp 20) 1), none, []⟩,
   ⟨(some 26), (.extract (.tmp 20) 2), none, []⟩,
   ⟨(some 7), (.alloc 29), none, []⟩,
   ⟨none, (.store 29 (.tmp 7) (.tmp 24)), none, []⟩,
   ⟨(some 8), (.assign (.tmp 25)), none, []⟩,
   ⟨(some 9), (.assign (.tmp 26)), none, []⟩]
def c3r4 : List SO :=
  [⟨(some 28), (.load 26 (.tmp 3)), none, []⟩,
   ⟨(some 29), (.load 29 (.tmp 4)), none, []⟩,
   ⟨(some 30), (.move (.tmp 2)), none, []⟩,
   ⟨(some 31), (.call ⟨(.value (.func 14)), #[(.tmp 28), (.tmp 29), (.tmp 30)], #[26, 29, 30]⟩), none, []⟩,
   ⟨(some 27), (.move (.tmp 31)), none, []⟩,
   ⟨(some 32), (.extract (.tmp 27) 0), none, []⟩,
   ⟨(some 33), (.extract (.tmp 27) 1), none, []⟩,
   ⟨(some 34), (.extract (.tmp 27) 2), none, []⟩,
   ⟨(some 10), (.alloc 29), none, []⟩,
   ⟨none, (.store 29 (.tmp 10) (.tmp 32)), none, []⟩,
   ⟨(some 11), (.assign (.tmp 33)), none, []⟩,
   ⟨(some 12), (.assign (.tmp 34)), none, []⟩]
def c3r5 : List SO :=
  [⟨(some 35), (.move (.tmp 9)), none, []⟩,
   ⟨(some 36), (.binOp .neq 33 (.tmp 35) (.const (.int .i64 0)) 33), none, []⟩]
def c3r6 : List SO :=
  [⟨(some 37), (.move (.tmp 9)), none, []⟩,
   ⟨(some 38), (.move (.tmp 12)), none, []⟩,
   ⟨(some 39), (.binOp .eql 33 (.tmp 37) (.tmp 38) 33), none, []⟩,
   ⟨(some 40), (.move (.tmp 39)), none, []⟩,
   ⟨(some 41), (.move (.tmp 8)), (some (40, true)), []⟩,
   ⟨(some 42), (.binOp .eql 3 (.tmp 41) (.const (.int .i64 0)) 3), (some (40, true)), []⟩,
   ⟨(some 43), (.pick (.tmp 40) (.tmp 42) (.const (.bool false))), none, []⟩,
   ⟨(some 44), (.move (.tmp 43)), none, []⟩,
   ⟨(some 45), (.move (.tmp 11)), (some (44, true)), []⟩,
   ⟨(some 46), (.binOp .eql 3 (.tmp 45) (.const (.int .i64 0)) 3), (some (44, true)), []⟩,
   ⟨(some 47), (.pick (.tmp 44) (.tmp 46) (.const (.bool false))), none, []⟩,
   ⟨(some 48), (.move (.tmp 47)), none, []⟩,
   ⟨(some 49), (.call ⟨(.value (.func 13)), #[], #[]⟩), (some (48, true)), []⟩,
   ⟨(some 50), (.pick (.tmp 48) (.tmp 49) (.const (.bool false))), none, []⟩,
   ⟨(some 6), (.assign (.tmp 50)), none, []⟩]
def c3r7 : List SO :=
  [⟨(some 52), (.load 26 (.tmp 3)), none, []⟩,
   ⟨(some 53), (.load 29 (.tmp 10)), none, []⟩,
   ⟨(some 54), (.move (.tmp 2)), none, []⟩,
   ⟨(some 55), (.call ⟨(.value (.func 14)), #[(.tmp 52), (.tmp 53), (.tmp 54)], #[26, 29, 30]⟩), none, []⟩,
   ⟨(some 51), (.move (.tmp 55)), none, []⟩,
   ⟨(some 56), (.extract (.tmp 51) 0), none, []⟩,
   ⟨(some 57), (.extract (.tmp 51) 1), none, []⟩,
   ⟨(some 58), (.extract (.tmp 51) 2), none, []⟩,
   ⟨(some 13), (.alloc 29), none, []⟩,
   ⟨none, (.store 29 (.tmp 13) (.tmp 56)), none, []⟩,
   ⟨(some 14), (.assign (.tmp 57)), none, []⟩,
   ⟨(some 15), (.assign (.tmp 58)), none, []⟩]
def c3r8 : List SO :=
  [⟨(some 59), (.move (.tmp 8)), none, []⟩,
   ⟨(some 60), (.binOp .eql 3 (.tmp 59) (.const (.int .i64 0)) 3), none, []⟩,
   ⟨(some 61), (.move (.tmp 60)), none, []⟩,
   ⟨(some 62), (.load 29 (.tmp 7)), (some (61, true)), []⟩,
   ⟨(some 63), (.load 29 (.tmp 4)), (some (61, true)), []⟩,
   ⟨(some 64), (.call ⟨(.value (.func 15)), #[(.tmp 62), (.tmp 63)], #[29, 29]⟩), (some (61, true)), []⟩,
   ⟨(some 65), (.pick (.tmp 61) (.tmp 64) (.const (.bool false))), none, []⟩,
   ⟨(some 66), (.move (.tmp 65)), none, []⟩,
   ⟨(some 67), (.move (.tmp 15)), (some (66, true)), []⟩,
   ⟨(some 68), (.binOp .eql 33 (.tmp 67) (.const (.int .i64 0)) 33), (some (66, true)), []⟩,
   ⟨(some 69), (.pick (.tmp 66) (.tmp 68) (.const (.bool false))), none, []⟩,
   ⟨(some 70), (.move (.tmp 69)), none, []⟩,
   ⟨(some 71), (.move (.tmp 14)), (some (70, true)), []⟩,
   ⟨(some 72), (.binOp .eql 3 (.tmp 71) (.const (.int .i64 0)) 3), (some (70, true)), []⟩,
   ⟨(some 73), (.pick (.tmp 70) (.tmp 72) (.const (.bool false))), none, []⟩,
   ⟨(some 74), (.move (.tmp 73)), none, []⟩,
   ⟨(some 75), (.load 29 (.tmp 10)), (some (74, true)), []⟩,
   ⟨(some 76), (.load 29 (.tmp 13)), (some (74, true)), []⟩,
   ⟨(some 77), (.call ⟨(.value (.func 15)), #[(.tmp 75), (.tmp 76)], #[29, 29]⟩), (some (74, true)), []⟩,
   ⟨(some 78), (.pick (.tmp 74) (.tmp 77) (.const (.bool false))), none, []⟩,
   ⟨(some 79), (.move (.tmp 78)), none, []⟩,
   ⟨(some 80), (.load 29 (.tmp 10)), (some (79, true)), []⟩,
   ⟨(some 81), (.call ⟨(.value (.func 16)), #[(.tmp 80)], #[29]⟩), (some (79, true)), []⟩,
   ⟨(some 82), (.binOp .eql 3 (.tmp 81) (.const (.int .i64 0)) 3), (some (79, true)), []⟩,
   ⟨(some 83), (.pick (.tmp 79) (.tmp 82) (.const (.bool false))), none, []⟩,
   ⟨(some 84), (.move (.tmp 83)), none, []⟩,
   ⟨(some 85), (.call ⟨(.value (.func 13)), #[], #[]⟩), (some (84, true)), []⟩,
   ⟨(some 86), (.pick (.tmp 84) (.tmp 85) (.const (.bool false))), none, []⟩,
   ⟨(some 6), (.assign (.tmp 86)), none, []⟩]
def c3 : SC :=
  (.seq (.reg false (some [2, 3, 4]) c3r0) (.seq (.seq (.reg false (some [2, 3, 4, 18]) c3r1) (.cond (.tmp 18) (.seq (.reg false (some [6]) c3r2) .ret) .nop)) (.seq (.reg false (some [2, 3, 4, 7, 8, 9]) c3r3) (.seq (.reg false (some [2, 3, 4, 7, 8, 9, 10, 11, 12]) c3r4) (.seq (.seq (.reg false (some [2, 3, 4, 7, 8, 9, 10, 11, 12, 36]) c3r5) (.cond (.tmp 36) (.seq (.reg false (some [6]) c3r6) .ret) .nop)) (.seq (.reg false (some [4, 7, 8, 10, 13, 14, 15]) c3r7) (.seq (.reg false (some [6]) c3r8) .ret)))))))
theorem g3 : An.glob 3 = [] := rfl
theorem r3 : Try.f3.results.toList = [(.tmp 6)] := by kernel_rfl
def c4r0 : List SO :=
  [⟨(some 4), (.box 26 (.tmp 0)), none, []⟩,
   ⟨(some 5), (.box 29 (.tmp 1)), none, []⟩,
   ⟨(some 8), (.assign (.const (.bool false))), none, []⟩]
def c4r1 : List SO :=
  [⟨(some 16), (.load 29 (.tmp 5)), none, []⟩,
   ⟨(some 17), (.call ⟨(.value (.func 12)), #[(.tmp 16)], #[29]⟩), none, []⟩,
   ⟨(some 18), (.unOp .not 4 (.tmp 17)), none, []⟩]
def c4r2 : List SO :=
  [⟨(some 19), (.call ⟨(.value (.func 13)), #[], #[]⟩), none, []⟩,
   ⟨(some 8), (.assign (.tmp 19)), none, []⟩]
def c4r3 : List SO :=
  [⟨(some 21), (.load 26 (.tmp 4)), none, []⟩,
   ⟨(some 22), (.load 29 (.tmp 5)), none, []⟩,
   ⟨(some 23), (.move (.tmp 2)), none, []⟩,
   ⟨(some 24), (.call ⟨(.value (.func 14)), #[(.tmp 21), (.tmp 22), (.tmp 23)], #[26, 29, 30]⟩), none, []⟩,
   ⟨(some 20), (.move (.tmp 24)), none, []⟩,
   ⟨(some 25), (.extract (.tmp 20) 0), none, []⟩,
   ⟨(some 26), (.extract (.tmp 20) 1), none, []⟩,
   ⟨(some 27), (.extract (.tmp 20) 2), none, []⟩,
   ⟨(some 9), (.alloc 29), none, []⟩,
   ⟨none, (.store 29 (.tmp 9) (.tmp 25)), none, []⟩,
   ⟨(some 10), (.assign (.tmp 26)), none, []⟩,
   ⟨(some 11), (.assign (.tmp 27)), none, []⟩]
def c4r4 : List SO :=
  [⟨(some 29), (.load 26 (.tmp 4)), none, []⟩,
   ⟨(some 30), (.load 29 (.tmp 5)), none, []⟩,
   ⟨(some 31), (.move (.tmp 2)), none, []⟩,
   ⟨(some 32), (.call ⟨(.value (.func 17)), #[(.tmp 29), (.tmp 30), (.tmp 31)], #[26, 29, 30]⟩), none, []⟩,
   ⟨(some 28), (.move (.tmp 32)), none, []⟩,
   ⟨(some 33), (.extract (.tmp 28) 0), none, []⟩,
   ⟨(some 34), (.extract (.tmp 28) 1), none, []⟩,
   ⟨(some 35), (.extract (.tmp 28) 2), none, []⟩,
   ⟨(some 12), (.alloc 29), none, []⟩,
   ⟨none, (.store 29 (.tmp 12) (.tmp 33)), none, []⟩,
   ⟨(some 13), (.assign (.tmp 34)), none, []⟩,
   ⟨(some 14), (.assign (.tmp 35)), none, []⟩]
def c4r5 : List SO :=
  [⟨(some 36), (.build 42 #[]), none, []⟩,
   ⟨(some 15), (.alloc 42), none, []⟩,
   ⟨none, (.store 42 (.tmp 15) (.tmp 36)), none, []⟩]
def c4r6 : List SO :=
  [⟨(some 37), (.move (.tmp 2)), none, []⟩,
   ⟨(some 38), (.call ⟨(.builtin .len), #[(.tmp 37)], #[30]⟩), none, []⟩,
   ⟨(some 39), (.binOp .gtr 3 (.tmp 38) (.const (.int .i64 0)) 3), none, []⟩]
def c4r7 : List SO :=
  [⟨(some 40), (.move (.tmp 2)), none, []⟩,
   ⟨(some 41), (.indexAddr 30 (.tmp 40) (.const (.int .i64 0))), none, []⟩,
   ⟨(some 42), (.load 42 (.tmp 41)), none, []⟩,
   ⟨none, (.store 42 (.tmp 15) (.tmp 42)), none, []⟩]
def c4r8 : List SO :=
  [⟨(some 43), (.load 29 (.tmp 9)), none, []⟩,
   ⟨(some 44), (.load 29 (.tmp 12)), none, []⟩,
   ⟨(some 45), (.call ⟨(.value (.func 15)), #[(.tmp 43), (.tmp 44)], #[29, 29]⟩), none, []⟩,
   ⟨(some 46), (.move (.tmp 45)), none, []⟩,
   ⟨(some 47), (.move (.tmp 10)), (some (46, true)), []⟩,
   ⟨(some 48), (.move (.tmp 13)), (some (46, true)), []⟩,
   ⟨(some 49), (.binOp .eql 3 (.tmp 47) (.tmp 48) 3), (some (46, true)), []⟩,
   ⟨(some 50), (.pick (.tmp 46) (.tmp 49) (.const (.bool false))), none, []⟩,
   ⟨(some 51), (.move (.tmp 50)), none, []⟩,
   ⟨(some 52), (.move (.tmp 11)), (some (51, true)), []⟩,
   ⟨(some 53), (.move (.tmp 14)), (some (51, true)), []⟩,
   ⟨(some 54), (.binOp .eql 3 (.tmp 52) (.tmp 53) 3), (some (51, true)), []⟩,
   ⟨(some 55), (.pick (.tmp 51) (.tmp 54) (.const (.bool false))), none, []⟩,
   ⟨(some 56), (.move (.tmp 55)), none, []⟩,
   ⟨(some 57), (.load 26 (.tmp 4)), (some (56, true)), []⟩,
   ⟨(some 58), (.load 42 (.tmp 15)), (some (56, true)), []⟩,
   ⟨(some 59), (.move (.tmp 3)), (some (56, true)), []⟩,
   ⟨(some 60), (.call ⟨(.value (.func 18)), #[(.tmp 57), (.tmp 58), (.tmp 59), (.const (.bool true))], #[26, 42, 3, 4]⟩), (some (56, true)), []⟩,
   ⟨(some 61), (.load 26 (.tmp 4)), (some (56, true)), []⟩,
   ⟨(some 62), (.load 42 (.tmp 15)), (some (56, true)), []⟩,
   ⟨(some 63), (.move (.tmp 3)), (some (56, true)), []⟩,
   ⟨(some 64), (.call ⟨(.value (.func 19)), #[(.tmp 61), (.tmp 62), (.tmp 63), (.const (.bool true))], #[26, 42, 3, 4]⟩), (some (56, true)), []⟩,
   ⟨(some 65), (.binOp .eql 4 (.tmp 60) (.tmp 64) 4), (some (56, true)), []⟩,
   ⟨(some 66), (.pick (.tmp 56) (.tmp 65) (.const (.bool false))), none, []⟩,
   ⟨(some 67), (.move (.tmp 66)), none, []⟩,
   ⟨(some 68), (.load 26 (.tmp 4)), (some (67, true)), []⟩,
   ⟨(some 69), (.load 42 (.tmp 15)), (some (67, true)), []⟩,
   ⟨(some 70), (.move (.tmp 3)), (some (67, true)), []⟩,
   ⟨(some 71), (.call ⟨(.value (.func 18)), #[(.tmp 68), (.tmp 69), (.tmp 70), (.const (.bool false))], #[26, 42, 3, 4]⟩), (some (67, true)), []⟩,
   ⟨(some 72), (.load 26 (.tmp 4)), (some (67, true)), []⟩,
   ⟨(some 73), (.load 42 (.tmp 15)), (some (67, true)), []⟩,
   ⟨(some 74), (.move (.tmp 3)), (some (67, true)), []⟩,
   ⟨(some 75), (.call ⟨(.value (.func 19)), #[(.tmp 72), (.tmp 73), (.tmp 74), (.const (.bool false))], #[26, 42, 3, 4]⟩), (some (67, true)), []⟩,
   ⟨(some 76), (.binOp .eql 4 (.tmp 71) (.tmp 75) 4), (some (67, true)), []⟩,
   ⟨(some 77), (.pick (.tmp 67) (.tmp 76) (.const (.bool false))), none, []⟩,
   ⟨(some 78), (.move (.tmp 77)), none, []⟩,
   ⟨(some 79), (.call ⟨(.value (.func 13)), #[], #[]⟩), (some (78, true)), []⟩,
   ⟨(some 80), (.pick (.tmp 78) (.tmp 79) (.const (.bool false))), none, []⟩,
   ⟨(some 8), (.assign (.tmp 80)), none, []⟩]
def c4 : SC :=
  (.seq (.reg false (some [2, 3, 4, 5]) c4r0) (.seq (.seq (.reg false (some [2, 3, 4, 5, 18]) c4r1) (.cond (.tmp 18) (.seq (.reg false (some [8]) c4r2) .ret) .nop)) (.seq (.reg false (some [2, 3, 4, 5, 9, 10, 11]) c4r3) (.seq (.reg false (some [2, 3, 4, 9, 10, 11, 12, 13, 14]) c4r4) (.seq (.reg false (some [2, 3, 4, 9, 10, 11, 12, 13, 14, 15]) c4r5) (.seq (.seq (.reg false (some [2, 3, 4, 9, 10, 11, 12, 13, 14, 15, 39]) c4r6) (.cond (.tmp 39) (.reg false (some [3, 4, 9, 10, 11, 12, 13, 14, 15]) c4r7) .nop)) (.seq (.reg true (some [8]) c4r8) .ret)))))))
theorem g4 : An.glob 4 = [] := rfl
theorem r4 : Try.f4.results.toList = [(.tmp 8)] := by kernel_rfl
theorem r12 : Try.f12.results.toList = [(.tmp 2)] := by kernel_rfl
theorem g5 : An.glob 5 = [] := rfl
theorem r5 : Try.f5.results.toList = [(.tmp 2)] := by kernel_rfl
theorem r6 : Try.f6.results.toList = [(.tmp 2)] := by kernel_rfl
theorem r7 : Try.f7.results.toList = [(.tmp 2)] := by kernel_rfl
theorem r8 : Try.f8.results.toList = [(.tmp 2)] := by kernel_rfl
end Go.Cm
