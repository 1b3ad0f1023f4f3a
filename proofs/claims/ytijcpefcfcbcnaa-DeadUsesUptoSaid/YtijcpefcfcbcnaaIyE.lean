import Derived.Test.YtijcpefcfcbcnaaIyD
set_option linter.unusedSimpArgs false
set_option linter.unusedVariables false
namespace Go.Cm
open Go.Proofs
variable {F : Oracle} {L : List (Nat × CV)} {m : Mem} {Q : CE → TS → Prop}
noncomputable section
def c30r0 := rg 30 Try.f30 0
def c30r1 := rg 30 Try.f30 1
def c30r2 := rg 30 Try.f30 2
def c30r3 := rg 30 Try.f30 3
def c30r4 := rg 30 Try.f30 4
def c30r5 := rg 30 Try.f30 5
def c30r6 := rg 30 Try.f30 6
def c30r7 := rg 30 Try.f30 7
def c30r8 := rg 30 Try.f30 8
def c30r9 := rg 30 Try.f30 9
def c30 : SC :=
  (.seq (.reg false (some [1]) c30r0) (.seq (.seq (.reg false (some [1, 4]) c30r1) (.block 0 (.seq (.seq (.reg false (some [1, 4, 5]) c30r2) (.cond (.tmp 5) .nop (.reg false (some [1, 4, 5]) c30r3))) (.cond (.tmp 5) (.seq (.reg false (some [2]) c30r4) .ret) (.seq (.reg false (some [1, 4, 13]) c30r5) (.cond (.tmp 13) (.seq (.reg false (some [2]) c30r6) .ret) (.seq (.reg false (some [1, 18]) c30r7) (.cond (.tmp 18) (.seq (.reg false (some [2]) c30r8) .ret) .nop)))))))) (.seq (.reg false (some [2]) c30r9) .ret)))
theorem s30 : Try.f30.body.bind (strip Try.prog An 30 Try.f30.ntmps) = some c30 := by kernel_rfl
theorem g30 : An.glob 30 = [] := rfl
theorem r30 : Try.f30.results.toList = [(.tmp 2)] := by kernel_rfl
theorem t30r0 (h : Obt (ccells (tget L 0)) fun a0 => Q .normal ⟨[(1, (newP m 16))], (newL m 16 a0)⟩) : Rg F 30 [1] c30r0 L m Q := Tx_told (by kernel_rfl) h
theorem t30r1 (h : Obt (fldA 0 (tget L 1)) fun a0 => Obt (ld1 m a0) fun a1 => Q .normal ⟨[(1, (tget L 1)), (4, a1)], m⟩) : Rg F 30 [1, 4] c30r1 L m Q := Tx_told (by kernel_rfl) h
theorem t30r2 (h : Obt (cbin Try.prog .eql 64 (.tmp 4) (.const (.int .i64 4)) (tget L 4) (.int .i64 4)) fun a0 => Q .normal ⟨[(1, (tget L 1)), (4, (tget L 4)), (5, a0)], m⟩) : Rg F 30 [1, 4, 5] c30r2 L m Q := Tx_told (by kernel_rfl) h
theorem t30r3 (h : Obt (cbin Try.prog .eql 64 (.tmp 4) (.const (.int .i64 6)) (tget L 4) (.int .i64 6)) fun a0 => Q .normal ⟨[(1, (tget L 1)), (4, (tget L 4)), (5, a0)], m⟩) : Rg F 30 [1, 4, 5] c30r3 L m Q := Tx_told (by kernel_rfl) h
theorem t30r4 (h : Obt (fldA 4 (tget L 1)) fun a0 => Obt (ld1 m a0) fun a1 => Obt (fldA 5 (tget L 1)) fun a2 => Obt (ld1 m a2) fun a3 => Obt (bslX false 192 1 2 [.int .i64 0, .int .i64 0] [(0, 1, a1), (1, 1, a3)] m) fun a4 => Q .normal ⟨[(2, a4.1)], a4.2⟩) : Rg F 30 [2] c30r4 L m Q := Tx_told (by kernel_rfl) h
theorem t30r5 (h : Obt (cbin Try.prog .eql 64 (.tmp 4) (.const (.int .i64 5)) (tget L 4) (.int .i64 5)) fun a0 => Q .normal ⟨[(1, (tget L 1)), (4, (tget L 4)), (13, a0)], m⟩) : Rg F 30 [1, 4, 13] c30r5 L m Q := Tx_told (by kernel_rfl) h
theorem t30r6 (h : Obt (fldA 4 (tget L 1)) fun a0 => Obt (ld1 m a0) fun a1 => Obt (bslX false 272 1 1 [.int .i64 0] [(0, 1, a1)] m) fun a2 => Q .normal ⟨[(2, a2.1)], a2.2⟩) : Rg F 30 [2] c30r6 L m Q := Tx_told (by kernel_rfl) h
theorem t30r7 (h : Obt (cbin Try.prog .eql 64 (.tmp 4) (.const (.int .i64 7)) (tget L 4) (.int .i64 7)) fun a0 => Q .normal ⟨[(1, (tget L 1)), (18, a0)], m⟩) : Rg F 30 [1, 18] c30r7 L m Q := Tx_told (by kernel_rfl) h
theorem t30r8 (h : Obt (bslX false 320 1 0 [] [] m) fun a0 => Obt (fldA 10 (tget L 1)) fun a1 => Obt (ld1 a0.2 a1) fun a2 => Obt (appX false 368 1 8 a0.1 a2 a0.2) fun a3 => Q .normal ⟨[(2, a3.1)], a3.2⟩) : Rg F 30 [2] c30r8 L m Q := Tx_told (by kernel_rfl) h
theorem t30r9 (h : Q .normal ⟨[(2, .nil)], m⟩) : Rg F 30 [2] c30r9 L m Q := Tx_told (by kernel_rfl) h
def c29r0 := rg 29 Try.f29 0
def c29r1 := rg 29 Try.f29 1
def c29r2 := rg 29 Try.f29 2
def c29r3 := rg 29 Try.f29 3
def c29r4 := rg 29 Try.f29 4
def c29r5 := rg 29 Try.f29 5
def c29r6 := rg 29 Try.f29 6
def c29 : SC :=
  (.seq (.reg false (some [1]) c29r0) (.seq (.seq (.reg false (some [1, 4]) c29r1) (.block 0 (.seq (.reg false (some [1, 4, 5]) c29r2) (.cond (.tmp 5) (.seq (.reg false (some [2]) c29r3) .ret) (.seq (.reg false (some [1, 12]) c29r4) (.cond (.tmp 12) (.seq (.reg false (some [2]) c29r5) .ret) .nop)))))) (.seq (.reg false (some [2]) c29r6) .ret)))
theorem s29 : Try.f29.body.bind (strip Try.prog An 29 Try.f29.ntmps) = some c29 := by kernel_rfl
theorem g29 : An.glob 29 = [] := rfl
theorem r29 : Try.f29.results.toList = [(.tmp 2)] := by kernel_rfl
theorem t29r0 (h : Obt (ccells (tget L 0)) fun a0 => Q .normal ⟨[(1, (newP m 16))], (newL m 16 a0)⟩) : Rg F 29 [1] c29r0 L m Q := Tx_told (by kernel_rfl) h
theorem t29r1 (h : Obt (fldA 0 (tget L 1)) fun a0 => Obt (ld1 m a0) fun a1 => Q .normal ⟨[(1, (tget L 1)), (4, a1)], m⟩) : Rg F 29 [1, 4] c29r1 L m Q := Tx_told (by kernel_rfl) h
theorem t29r2 (h : Obt (cbin Try.prog .eql 54 (.tmp 4) (.const (.int .i64 2)) (tget L 4) (.int .i64 2)) fun a0 => Q .normal ⟨[(1, (tget L 1)), (4, (tget L 4)), (5, a0)], m⟩) : Rg F 29 [1, 4, 5] c29r2 L m Q := Tx_told (by kernel_rfl) h
theorem t29r3 (h : Obt (fldA 3 (tget L 1)) fun a0 => Obt (ld1 m a0) fun a1 => Obt (fldA 4 (tget L 1)) fun a2 => Obt (ld1 m a2) fun a3 => Obt (bslX false 176 1 2 [.int .i64 0, .int .i64 0] [(0, 1, a1), (1, 1, a3)] m) fun a4 => Q .normal ⟨[(2, a4.1)], a4.2⟩) : Rg F 29 [2] c29r3 L m Q := Tx_told (by kernel_rfl) h
theorem t29r4 (h : Obt (cbin Try.prog .eql 54 (.tmp 4) (.const (.int .i64 3)) (tget L 4) (.int .i64 3)) fun a0 => Q .normal ⟨[(1, (tget L 1)), (12, a0)], m⟩) : Rg F 29 [1, 12] c29r4 L m Q := Tx_told (by kernel_rfl) h
theorem t29r5 (h : Obt (fldA 3 (tget L 1)) fun a0 => Obt (ld1 m a0) fun a1 => Obt (bslX false 256 1 1 [.int .i64 0] [(0, 1, a1)] m) fun a2 => Q .normal ⟨[(2, a2.1)], a2.2⟩) : Rg F 29 [2] c29r5 L m Q := Tx_told (by kernel_rfl) h
theorem t29r6 (h : Q .normal ⟨[(2, .nil)], m⟩) : Rg F 29 [2] c29r6 L m Q := Tx_told (by kernel_rfl) h
end
end Go.Cm
