import Derived.Test.YtjmmeeokpncdbaaCxD
import Derived.KernelRfl
import Derived.Test.YtjmmeeokpncdbaaProg
set_option linter.unusedSimpArgs false
set_option linter.unusedVariables false
namespace Go.Cm
open Go.Proofs
def kept : FuncId → List (Nat × List Tmp)
  | 18 => [(0, [1, 2, 3, 4]), (1, [1, 2, 3, 4, 18]), (2, [8]), (3, [2, 3, 4, 9, 10]), (4, [2, 3, 10, 11, 12]), (5, [3, 11, 39]), (6, [8]), (7, [45]), (8, [8]), (9, [8])]
  | 19 => [(0, [0, 1]), (1, [4])]
  | 47 => [(0, [0]), (1, [2, 3])]
  | 90 => [(0, [1]), (1, [1, 20]), (2, [2]), (3, [22, 23, 24]), (4, [22, 23, 24, 25]), (5, [4, 22, 23, 24]), (6, [22, 23, 24, 35]), (7, [2]), (8, [22, 23, 24]), (9, [2])]
  | 65 => [(0, [1]), (1, [1, 5]), (2, [2]), (3, [2])]
  | 66 => [(0, [1]), (1, [1, 19]), (2, [2]), (3, [1, 3]), (4, [1, 3, 24]), (5, [1, 3]), (6, [1, 3, 42]), (7, [2]), (8, [2])]
  | 45 => [(0, [1, 2, 4]), (1, [1, 4, 6]), (2, [1, 4, 6, 16]), (3, [4, 5]), (4, [4, 5])]
  | 46 => [(0, [1, 2, 4]), (1, [1, 2, 4, 8]), (2, [4, 5]), (3, [1, 2, 4, 10]), (4, [4, 5]), (5, [1, 2, 4, 15]), (6, [4, 5]), (7, [1, 2, 4, 19]), (8, [4, 5]), (9, [4, 5])]
  | 16 => [(0, [2, 3, 4, 5]), (1, [2, 3, 5, 9, 10]), (2, [2, 5, 9, 42]), (3, [8]), (4, [8])]
  | 5 => [(0, [2, 3, 4, 5, 6]), (1, [2, 3, 4, 5, 6, 28]), (2, [10]), (3, [10])]
  | 11 => [(0, []), (1, [1]), (2, [1, 4]), (3, [0])]
  | _ => []
def globs : FuncId → List Tmp
  | _ => []
def impure : FuncId → Bool
  | _ => false
def An : Ann := { glob := globs, pure := fun f => !(impure f), keep := fun f r => ((kept f).find? fun x => x.1 == r).map (·.2) }
theorem plainN : plainNames Try.prog = true := by kernel_rfl
theorem mixed : Try.prog.follows .mixedOrders = true := by kernel_rfl
-- clevis/clevisref02.Access
def c18r0 : List SO :=
  [⟨(some 4), (.box 26 (.tmp 0)), none⟩,
   ⟨(some 8), (.assign (.const (.int .i64 0))), none⟩]
def c18r1 : List SO :=
  [⟨(some 13), (.move (.tmp 2)), none⟩,
   ⟨(some 14), (.binOp .lss 3 (.tmp 13) (.const (.int .i64 1)) 3), none⟩,
   ⟨(some 15), (.move (.tmp 14)), none⟩,
   ⟨(some 16), (.move (.tmp 2)), (some (15, false))⟩,
   ⟨(some 17), (.binOp .gtr 3 (.tmp 16) (.const (.int .i64 4096)) 3), (some (15, false))⟩,
   ⟨(some 18), (.pick (.tmp 15) (.const (.bool true)) (.tmp 17)), none⟩]
def c18r2 : List SO :=
  [⟨(some 8), (.assign (.const (.int .i64 2))), none⟩]
def c18r3 : List SO :=
  [⟨(some 20), (.move (.tmp 1)), none⟩,
   ⟨(some 21), (.call ⟨(.value (.func 47)), #[(.tmp 20)], #[46]⟩), none⟩,
   ⟨(some 19), (.move (.tmp 21)), none⟩,
   ⟨(some 22), (.extract (.tmp 19) 0), none⟩,
   ⟨(some 23), (.extract (.tmp 19) 1), none⟩,
   ⟨(some 9), (.assign (.tmp 22)), none⟩,
   ⟨(some 10), (.assign (.tmp 23)), none⟩]
def c18r4 : List SO :=
  [⟨(some 25), (.load 26 (.tmp 4)), none⟩,
   ⟨(some 26), (.move (.tmp 9)), none⟩,
   ⟨(some 27), (.call ⟨(.value (.func 46)), #[(.tmp 25), (.tmp 26)], #[26, 3]⟩), none⟩,
   ⟨(some 24), (.move (.tmp 27)), none⟩,
   ⟨(some 28), (.extract (.tmp 24) 0), none⟩,
   ⟨(some 29), (.extract (.tmp 24) 1), none⟩,
   ⟨(some 11), (.alloc 23), none⟩,
   ⟨none, (.store 23 (.tmp 11) (.tmp 28)), none⟩,
   ⟨(some 12), (.assign (.tmp 29)), none⟩]
def c18r5 : List SO :=
  [⟨(some 30), (.move (.tmp 12)), none⟩,
   ⟨(some 31), (.unOp .not 4 (.tmp 30)), none⟩,
   ⟨(some 32), (.move (.tmp 31)), none⟩,
   ⟨(some 33), (.move (.tmp 10)), (some (32, false))⟩,
   ⟨(some 34), (.fieldAddr 23 (.tmp 11) 0), (some (32, false))⟩,
   ⟨(some 35), (.load 3 (.tmp 34)), (some (32, false))⟩,
   ⟨(some 36), (.move (.tmp 2)), (some (32, false))⟩,
   ⟨(some 37), (.binOp .sub 3 (.tmp 35) (.tmp 36) 3), (some (32, false))⟩,
   ⟨(some 38), (.binOp .gtr 3 (.tmp 33) (.tmp 37) 3), (some (32, false))⟩,
   ⟨(some 39), (.pick (.tmp 32) (.const (.bool true)) (.tmp 38)), none⟩]
def c18r6 : List SO :=
  [⟨(some 8), (.assign (.const (.int .i64 20))), none⟩]
def c18r7 : List SO :=
  [⟨(some 40), (.move (.tmp 3)), none⟩,
   ⟨(some 41), (.move (.tmp 40)), none⟩,
   ⟨(some 42), (.fieldAddr 23 (.tmp 11) 1), (some (41, true))⟩,
   ⟨(some 43), (.load 4 (.tmp 42)), (some (41, true))⟩,
   ⟨(some 44), (.unOp .not 4 (.tmp 43)), (some (41, true))⟩,
   ⟨(some 45), (.pick (.tmp 41) (.tmp 44) (.const (.bool false))), none⟩]
def c18r8 : List SO :=
  [⟨(some 8), (.assign (.const (.int .i64 21))), none⟩]
def c18r9 : List SO :=
  [⟨(some 8), (.assign (.const (.int .i64 0))), none⟩]
def c18 : SC :=
  (.seq (.reg false (some [1, 2, 3, 4]) c18r0) (.seq (.seq (.reg false (some [1, 2, 3, 4, 18]) c18r1) (.cond (.tmp 18) (.seq (.reg false (some [8]) c18r2) .ret) .nop)) (.seq (.reg false (some [2, 3, 4, 9, 10]) c18r3) (.seq (.reg false (some [2, 3, 10, 11, 12]) c18r4) (.seq (.seq (.reg false (some [3, 11, 39]) c18r5) (.cond (.tmp 39) (.seq (.reg false (some [8]) c18r6) .ret) .nop)) (.seq (.seq (.reg false (some [45]) c18r7) (.cond (.tmp 45) (.seq (.reg false (some [8]) c18r8) .ret) .nop)) (.seq (.reg false (some [8]) c18r9) .ret)))))))
theorem s18 : Try.f18.body.bind (strip Try.prog An 18 Try.f18.ntmps) = some c18 := by kernel_rfl
theorem g18 : An.glob 18 = [] := rfl
theorem r18 : Try.f18.results.toList = [(.tmp 8)] := by kernel_rfl
theorem t18r0 {F : Oracle} {L : List (Nat × CV)} {m : Mem} {Q : CE → TS → Prop} (h :
    Obt (ccells (tget L 0)) fun a0 => Q .normal ⟨[(1, (tget L 1)), (2, (tget L 2)), (3, (tget L 3)), (4, (newP m 64))], (newL m 64 a0)⟩) :
    Tx Try.prog An F 18 (.reg false (some [1, 2, 3, 4]) c18r0) ⟨L, m⟩ Q := Tx_told (by kernel_rfl) h
theorem t18r1 {F : Oracle} {L : List (Nat × CV)} {m : Mem} {Q : CE → TS → Prop} (h :
    Obt (cbin Try.prog .lss 3 (.tmp 13) (.const (.int .i64 1)) (tget L 2) (.int .i64 1)) fun a0 => 
    Obt (gdO a0 false (some ((tget L 2), m)) (.tuple [], m)) fun a1 => 
    Obt (gdO a0 false ((cbin Try.prog .gtr 3 (.tmp 16) (.const (.int .i64 4096)) a1.1 (.int .i64 4096)).map fun v => (v, a1.2)) (.tuple [], a1.2)) fun a2 => 
    Obt (pickX a0 (.bool true) a2.1) fun a3 => Q .normal ⟨[(1, (tget L 1)), (2, (tget L 2)), (3, (tget L 3)), (4, (tget L 4)), (18, a3)], a2.2⟩) :
    Tx Try.prog An F 18 (.reg false (some [1, 2, 3, 4, 18]) c18r1) ⟨L, m⟩ Q := Tx_told (by kernel_rfl) h
theorem t18r2 {F : Oracle} {L : List (Nat × CV)} {m : Mem} {Q : CE → TS → Prop} (h :
    Q .normal ⟨[(8, (.int .i64 2))], m⟩) :
    Tx Try.prog An F 18 (.reg false (some [8]) c18r2) ⟨L, m⟩ Q := Tx_told (by kernel_rfl) h
theorem t18r3 {F : Oracle} {L : List (Nat × CV)} {m : Mem} {Q : CE → TS → Prop} (h :
    Obt (callC An F 18 (some 21) 47 [(tget L 1)] m) fun a0 => 
    Obt (extX 0 a0.1) fun a1 => 
    Obt (extX 1 a0.1) fun a2 => Q .normal ⟨[(2, (tget L 2)), (3, (tget L 3)), (4, (tget L 4)), (9, a1), (10, a2)], a0.2⟩) :
    Tx Try.prog An F 18 (.reg false (some [2, 3, 4, 9, 10]) c18r3) ⟨L, m⟩ Q := Tx_told (by kernel_rfl) h
theorem t18r4 {F : Oracle} {L : List (Nat × CV)} {m : Mem} {Q : CE → TS → Prop} (h :
    Obt (ldA 3 m (tget L 4)) fun a0 => 
    Obt (callC An F 18 (some 27) 46 [a0, (tget L 9)] m) fun a1 => 
    Obt (extX 0 a1.1) fun a2 => 
    Obt (extX 1 a1.1) fun a3 => 
    Obt (stX 2 (newL a1.2 176 [.int .i64 0, .bool false]) (newP a1.2 176) a2) fun a4 => Q .normal ⟨[(2, (tget L 2)), (3, (tget L 3)), (10, (tget L 10)), (11, (newP a1.2 176)), (12, a3)], a4⟩) :
    Tx Try.prog An F 18 (.reg false (some [2, 3, 10, 11, 12]) c18r4) ⟨L, m⟩ Q := Tx_told (by kernel_rfl) h
theorem t18r5 {F : Oracle} {L : List (Nat × CV)} {m : Mem} {Q : CE → TS → Prop} (h :
    Obt (cun .not (tget L 12)) fun a0 => 
    Obt (gdO a0 false (some ((tget L 10), m)) (.tuple [], m)) fun a1 => 
    Obt (gdO a0 false ((fldA 0 (tget L 11)).map fun v => (v, a1.2)) (.tuple [], a1.2)) fun a2 => 
    Obt (gdO a0 false ((ld1 a2.2 a2.1).map fun v => (v, a2.2)) (.tuple [], a2.2)) fun a3 => 
    Obt (gdO a0 false (some ((tget L 2), a3.2)) (.tuple [], a3.2)) fun a4 => 
    Obt (gdO a0 false ((cbin Try.prog .sub 3 (.tmp 35) (.tmp 36) a3.1 a4.1).map fun v => (v, a4.2)) (.tuple [], a4.2)) fun a5 => 
    Obt (gdO a0 false ((cbin Try.prog .gtr 3 (.tmp 33) (.tmp 37) a1.1 a5.1).map fun v => (v, a5.2)) (.tuple [], a5.2)) fun a6 => 
    Obt (pickX a0 (.bool true) a6.1) fun a7 => Q .normal ⟨[(3, (tget L 3)), (11, (tget L 11)), (39, a7)], a6.2⟩) :
    Tx Try.prog An F 18 (.reg false (some [3, 11, 39]) c18r5) ⟨L, m⟩ Q := Tx_told (by kernel_rfl) h
theorem t18r6 {F : Oracle} {L : List (Nat × CV)} {m : Mem} {Q : CE → TS → Prop} (h :
    Q .normal ⟨[(8, (.int .i64 20))], m⟩) :
    Tx Try.prog An F 18 (.reg false (some [8]) c18r6) ⟨L, m⟩ Q := Tx_told (by kernel_rfl) h
theorem t18r7 {F : Oracle} {L : List (Nat × CV)} {m : Mem} {Q : CE → TS → Prop} (h :
    Obt (gdO (tget L 3) true ((fldA 1 (tget L 11)).map fun v => (v, m)) (.tuple [], m)) fun a0 => 
    Obt (gdO (tget L 3) true ((ld1 a0.2 a0.1).map fun v => (v, a0.2)) (.tuple [], a0.2)) fun a1 => 
    Obt (gdO (tget L 3) true ((cun .not a1.1).map fun v => (v, a1.2)) (.tuple [], a1.2)) fun a2 => 
    Obt (pickX (tget L 3) a2.1 (.bool false)) fun a3 => Q .normal ⟨[(45, a3)], a2.2⟩) :
    Tx Try.prog An F 18 (.reg false (some [45]) c18r7) ⟨L, m⟩ Q := Tx_told (by kernel_rfl) h
theorem t18r8 {F : Oracle} {L : List (Nat × CV)} {m : Mem} {Q : CE → TS → Prop} (h :
    Q .normal ⟨[(8, (.int .i64 21))], m⟩) :
    Tx Try.prog An F 18 (.reg false (some [8]) c18r8) ⟨L, m⟩ Q := Tx_told (by kernel_rfl) h
theorem t18r9 {F : Oracle} {L : List (Nat × CV)} {m : Mem} {Q : CE → TS → Prop} (h :
    Q .normal ⟨[(8, (.int .i64 0))], m⟩) :
    Tx Try.prog An F 18 (.reg false (some [8]) c18r9) ⟨L, m⟩ Q := Tx_told (by kernel_rfl) h
-- clevis/clevisref02.Address
def c19r0 : List SO :=
  [⟨(some 4), (.assign (.const (.int .u64 0))), none⟩]
def c19r1 : List SO :=
  [⟨(some 5), (.move (.tmp 0)), none⟩,
   ⟨(some 6), (.convert 3 46 (.tmp 5)), none⟩,
   ⟨(some 7), (.binOp .mul 46 (.tmp 6) (.const (.int .u64 4294967296)) 46), none⟩,
   ⟨(some 8), (.move (.tmp 1)), none⟩,
   ⟨(some 9), (.convert 3 46 (.tmp 8)), none⟩,
   ⟨(some 10), (.binOp .add 46 (.tmp 7) (.tmp 9) 46), none⟩,
   ⟨(some 4), (.assign (.tmp 10)), none⟩]
def c19 : SC :=
  (.seq (.reg false (some [0, 1]) c19r0) (.seq (.reg false (some [4]) c19r1) .ret))
theorem s19 : Try.f19.body.bind (strip Try.prog An 19 Try.f19.ntmps) = some c19 := by kernel_rfl
theorem g19 : An.glob 19 = [] := rfl
theorem r19 : Try.f19.results.toList = [(.tmp 4)] := by kernel_rfl
theorem t19r0 {F : Oracle} {L : List (Nat × CV)} {m : Mem} {Q : CE → TS → Prop} (h :
    Q .normal ⟨[(0, (tget L 0)), (1, (tget L 1))], m⟩) :
    Tx Try.prog An F 19 (.reg false (some [0, 1]) c19r0) ⟨L, m⟩ Q := Tx_told (by kernel_rfl) h
theorem t19r1 {F : Oracle} {L : List (Nat × CV)} {m : Mem} {Q : CE → TS → Prop} (h :
    Obt (convX .u64 (tget L 0)) fun a0 => 
    Obt (cbin Try.prog .mul 46 (.tmp 6) (.const (.int .u64 4294967296)) a0 (.int .u64 4294967296)) fun a1 => 
    Obt (convX .u64 (tget L 1)) fun a2 => 
    Obt (cbin Try.prog .add 46 (.tmp 7) (.tmp 9) a1 a2) fun a3 => Q .normal ⟨[(4, a3)], m⟩) :
    Tx Try.prog An F 19 (.reg false (some [4]) c19r1) ⟨L, m⟩ Q := Tx_told (by kernel_rfl) h
-- clevis/clevisref02.Split
def c47r0 : List SO :=
  [⟨(some 2), (.assign (.const (.int .i64 0))), none⟩,
   ⟨(some 3), (.assign (.const (.int .i64 0))), none⟩]
def c47r1 : List SO :=
  [⟨(some 4), (.move (.tmp 0)), none⟩,
   ⟨(some 5), (.binOp .quo 46 (.tmp 4) (.const (.int .u64 4294967296)) 46), none⟩,
   ⟨(some 6), (.convert 46 3 (.tmp 5)), none⟩,
   ⟨(some 7), (.move (.tmp 0)), none⟩,
   ⟨(some 8), (.binOp .rem 46 (.tmp 7) (.const (.int .u64 4294967296)) 46), none⟩,
   ⟨(some 9), (.convert 46 3 (.tmp 8)), none⟩,
   ⟨(some 2), (.assign (.tmp 6)), none⟩,
   ⟨(some 3), (.assign (.tmp 9)), none⟩]
def c47 : SC :=
  (.seq (.reg false (some [0]) c47r0) (.seq (.reg false (some [2, 3]) c47r1) .ret))
theorem s47 : Try.f47.body.bind (strip Try.prog An 47 Try.f47.ntmps) = some c47 := by kernel_rfl
theorem g47 : An.glob 47 = [] := rfl
theorem r47 : Try.f47.results.toList = [(.tmp 2), (.tmp 3)] := by kernel_rfl
theorem t47r0 {F : Oracle} {L : List (Nat × CV)} {m : Mem} {Q : CE → TS → Prop} (h :
    Q .normal ⟨[(0, (tget L 0))], m⟩) :
    Tx Try.prog An F 47 (.reg false (some [0]) c47r0) ⟨L, m⟩ Q := Tx_told (by kernel_rfl) h
theorem t47r1 {F : Oracle} {L : List (Nat × CV)} {m : Mem} {Q : CE → TS → Prop} (h :
    Obt (cbin Try.prog .quo 46 (.tmp 4) (.const (.int .u64 4294967296)) (tget L 0) (.int .u64 4294967296)) fun a0 => 
    Obt (convX .i64 a0) fun a1 => 
    Obt (cbin Try.prog .rem 46 (.tmp 7) (.const (.int .u64 4294967296)) (tget L 0) (.int .u64 4294967296)) fun a2 => 
    Obt (convX .i64 a2) fun a3 => Q .normal ⟨[(2, a1), (3, a3)], m⟩) :
    Tx Try.prog An F 47 (.reg false (some [2, 3]) c47r1) ⟨L, m⟩ Q := Tx_told (by kernel_rfl) h
-- clevis/mem.Check
def c90r0 : List SO :=
  [⟨(some 1), (.box 26 (.tmp 0)), none⟩,
   ⟨(some 2), (.assign (.const (.int .i64 0))), none⟩]
def c90r1 : List SO :=
  [⟨(some 5), (.fieldAddr 26 (.tmp 1) 0), none⟩,
   ⟨(some 6), (.fieldAddr 23 (.tmp 5) 0), none⟩,
   ⟨(some 7), (.load 3 (.tmp 6)), none⟩,
   ⟨(some 8), (.binOp .lss 3 (.tmp 7) (.const (.int .i64 0)) 3), none⟩,
   ⟨(some 9), (.move (.tmp 8)), none⟩,
   ⟨(some 10), (.fieldAddr 26 (.tmp 1) 0), (some (9, false))⟩,
   ⟨(some 11), (.fieldAddr 23 (.tmp 10) 0), (some (9, false))⟩,
   ⟨(some 12), (.load 3 (.tmp 11)), (some (9, false))⟩,
   ⟨(some 13), (.binOp .gtr 3 (.tmp 12) (.const (.int .i64 4096)) 3), (some (9, false))⟩,
   ⟨(some 14), (.pick (.tmp 9) (.const (.bool true)) (.tmp 13)), none⟩,
   ⟨(some 15), (.move (.tmp 14)), none⟩,
   ⟨(some 16), (.fieldAddr 26 (.tmp 1) 1), (some (15, false))⟩,
   ⟨(some 17), (.load 24 (.tmp 16)), (some (15, false))⟩,
   ⟨(some 18), (.call ⟨(.builtin .len), #[(.tmp 17)], #[24]⟩), (some (15, false))⟩,
   ⟨(some 19), (.binOp .gtr 3 (.tmp 18) (.const (.int .i64 8)) 3), (some (15, false))⟩,
   ⟨(some 20), (.pick (.tmp 15) (.const (.bool true)) (.tmp 19)), none⟩]
def c90r2 : List SO :=
  [⟨(some 2), (.assign (.const (.int .i64 22))), none⟩]
def c90r3 : List SO :=
  [⟨(some 21), (.fieldAddr 26 (.tmp 1) 1), none⟩,
   ⟨(some 22), (.load 24 (.tmp 21)), none⟩,
   ⟨(some 23), (.call ⟨(.builtin .len), #[(.tmp 22)], #[24]⟩), none⟩,
   ⟨(some 24), (.move (.const (.int .i64 0))), none⟩]
def c90r4 : List SO :=
  [⟨(some 25), (.binOp .lss 3 (.tmp 24) (.tmp 23) 3), none⟩]
def c90r5 : List SO :=
  [⟨(some 26), (.indexAddr 24 (.tmp 22) (.tmp 24)), none⟩,
   ⟨(some 27), (.load 23 (.tmp 26)), none⟩,
   ⟨(some 4), (.alloc 23), none⟩,
   ⟨none, (.store 23 (.tmp 4) (.tmp 27)), none⟩]
def c90r6 : List SO :=
  [⟨(some 28), (.fieldAddr 23 (.tmp 4) 0), none⟩,
   ⟨(some 29), (.load 3 (.tmp 28)), none⟩,
   ⟨(some 30), (.binOp .lss 3 (.tmp 29) (.const (.int .i64 1)) 3), none⟩,
   ⟨(some 31), (.move (.tmp 30)), none⟩,
   ⟨(some 32), (.fieldAddr 23 (.tmp 4) 0), (some (31, false))⟩,
   ⟨(some 33), (.load 3 (.tmp 32)), (some (31, false))⟩,
   ⟨(some 34), (.binOp .gtr 3 (.tmp 33) (.const (.int .i64 4096)) 3), (some (31, false))⟩,
   ⟨(some 35), (.pick (.tmp 31) (.const (.bool true)) (.tmp 34)), none⟩]
def c90r7 : List SO :=
  [⟨(some 2), (.assign (.const (.int .i64 22))), none⟩]
def c90r8 : List SO :=
  [⟨(some 36), (.binOp .add 3 (.tmp 24) (.const (.int .i64 1)) 3), none⟩,
   ⟨(some 24), (.move (.tmp 36)), none⟩]
def c90l0 : SC :=
  (.seq (.reg false (some [22, 23, 24, 25]) c90r4) (.seq (.cond (.tmp 25) .nop (.exit 0)) (.seq (.block 1 (.seq (.reg false (some [4, 22, 23, 24]) c90r5) (.seq (.reg false (some [22, 23, 24, 35]) c90r6) (.cond (.tmp 35) (.seq (.reg false (some [2]) c90r7) .ret) .nop)))) (.reg false (some [22, 23, 24]) c90r8))))
def c90r9 : List SO :=
  [⟨(some 2), (.assign (.const (.int .i64 0))), none⟩]
def c90 : SC :=
  (.seq (.reg false (some [1]) c90r0) (.seq (.seq (.reg false (some [1, 20]) c90r1) (.cond (.tmp 20) (.seq (.reg false (some [2]) c90r2) .ret) .nop)) (.seq (.seq (.reg false (some [22, 23, 24]) c90r3) (.block 0 (.loop c90l0))) (.seq (.reg false (some [2]) c90r9) .ret))))
theorem s90 : Try.f90.body.bind (strip Try.prog An 90 Try.f90.ntmps) = some c90 := by kernel_rfl
theorem g90 : An.glob 90 = [] := rfl
theorem r90 : Try.f90.results.toList = [(.tmp 2)] := by kernel_rfl
theorem t90r0 {F : Oracle} {L : List (Nat × CV)} {m : Mem} {Q : CE → TS → Prop} (h :
    Obt (ccells (tget L 0)) fun a0 => Q .normal ⟨[(1, (newP m 16))], (newL m 16 a0)⟩) :
    Tx Try.prog An F 90 (.reg false (some [1]) c90r0) ⟨L, m⟩ Q := Tx_told (by kernel_rfl) h
theorem t90r1 {F : Oracle} {L : List (Nat × CV)} {m : Mem} {Q : CE → TS → Prop} (h :
    Obt (fldA 0 (tget L 1)) fun a0 => 
    Obt (fldA 0 a0) fun a1 => 
    Obt (ld1 m a1) fun a2 => 
    Obt (cbin Try.prog .lss 3 (.tmp 7) (.const (.int .i64 0)) a2 (.int .i64 0)) fun a3 => 
    Obt (gdO a3 false ((fldA 0 (tget L 1)).map fun v => (v, m)) (.tuple [], m)) fun a4 => 
    Obt (gdO a3 false ((fldA 0 a4.1).map fun v => (v, a4.2)) (.tuple [], a4.2)) fun a5 => 
    Obt (gdO a3 false ((ld1 a5.2 a5.1).map fun v => (v, a5.2)) (.tuple [], a5.2)) fun a6 => 
    Obt (gdO a3 false ((cbin Try.prog .gtr 3 (.tmp 12) (.const (.int .i64 4096)) a6.1 (.int .i64 4096)).map fun v => (v, a6.2)) (.tuple [], a6.2)) fun a7 => 
    Obt (pickX a3 (.bool true) a7.1) fun a8 => 
    Obt (gdO a8 false ((fldA 2 (tget L 1)).map fun v => (v, a7.2)) (.tuple [], a7.2)) fun a9 => 
    Obt (gdO a8 false ((ld1 a9.2 a9.1).map fun v => (v, a9.2)) (.tuple [], a9.2)) fun a10 => 
    Obt (gdO a8 false ((lenS a10.1).map fun v => (v, a10.2)) (.tuple [], a10.2)) fun a11 => 
    Obt (gdO a8 false ((cbin Try.prog .gtr 3 (.tmp 18) (.const (.int .i64 8)) a11.1 (.int .i64 8)).map fun v => (v, a11.2)) (.tuple [], a11.2)) fun a12 => 
    Obt (pickX a8 (.bool true) a12.1) fun a13 => Q .normal ⟨[(1, (tget L 1)), (20, a13)], a12.2⟩) :
    Tx Try.prog An F 90 (.reg false (some [1, 20]) c90r1) ⟨L, m⟩ Q := Tx_told (by kernel_rfl) h
theorem t90r2 {F : Oracle} {L : List (Nat × CV)} {m : Mem} {Q : CE → TS → Prop} (h :
    Q .normal ⟨[(2, (.int .i64 22))], m⟩) :
    Tx Try.prog An F 90 (.reg false (some [2]) c90r2) ⟨L, m⟩ Q := Tx_told (by kernel_rfl) h
theorem t90r3 {F : Oracle} {L : List (Nat × CV)} {m : Mem} {Q : CE → TS → Prop} (h :
    Obt (fldA 2 (tget L 1)) fun a0 => 
    Obt (ld1 m a0) fun a1 => 
    Obt (lenS a1) fun a2 => Q .normal ⟨[(22, a1), (23, a2), (24, (.int .i64 0))], m⟩) :
    Tx Try.prog An F 90 (.reg false (some [22, 23, 24]) c90r3) ⟨L, m⟩ Q := Tx_told (by kernel_rfl) h
theorem t90r4 {F : Oracle} {L : List (Nat × CV)} {m : Mem} {Q : CE → TS → Prop} (h :
    Obt (cbin Try.prog .lss 3 (.tmp 24) (.tmp 23) (tget L 24) (tget L 23)) fun a0 => Q .normal ⟨[(22, (tget L 22)), (23, (tget L 23)), (24, (tget L 24)), (25, a0)], m⟩) :
    Tx Try.prog An F 90 (.reg false (some [22, 23, 24, 25]) c90r4) ⟨L, m⟩ Q := Tx_told (by kernel_rfl) h
theorem t90r5 {F : Oracle} {L : List (Nat × CV)} {m : Mem} {Q : CE → TS → Prop} (h :
    Obt (idxS 2 (tget L 22) (tget L 24)) fun a0 => 
    Obt (ldA 2 m a0) fun a1 => 
    Obt (stX 2 (newL m 64 [.int .i64 0, .bool false]) (newP m 64) a1) fun a2 => Q .normal ⟨[(4, (newP m 64)), (22, (tget L 22)), (23, (tget L 23)), (24, (tget L 24))], a2⟩) :
    Tx Try.prog An F 90 (.reg false (some [4, 22, 23, 24]) c90r5) ⟨L, m⟩ Q := Tx_told (by kernel_rfl) h
theorem t90r6 {F : Oracle} {L : List (Nat × CV)} {m : Mem} {Q : CE → TS → Prop} (h :
    Obt (fldA 0 (tget L 4)) fun a0 => 
    Obt (ld1 m a0) fun a1 => 
    Obt (cbin Try.prog .lss 3 (.tmp 29) (.const (.int .i64 1)) a1 (.int .i64 1)) fun a2 => 
    Obt (gdO a2 false ((fldA 0 (tget L 4)).map fun v => (v, m)) (.tuple [], m)) fun a3 => 
    Obt (gdO a2 false ((ld1 a3.2 a3.1).map fun v => (v, a3.2)) (.tuple [], a3.2)) fun a4 => 
    Obt (gdO a2 false ((cbin Try.prog .gtr 3 (.tmp 33) (.const (.int .i64 4096)) a4.1 (.int .i64 4096)).map fun v => (v, a4.2)) (.tuple [], a4.2)) fun a5 => 
    Obt (pickX a2 (.bool true) a5.1) fun a6 => Q .normal ⟨[(22, (tget L 22)), (23, (tget L 23)), (24, (tget L 24)), (35, a6)], a5.2⟩) :
    Tx Try.prog An F 90 (.reg false (some [22, 23, 24, 35]) c90r6) ⟨L, m⟩ Q := Tx_told (by kernel_rfl) h
theorem t90r7 {F : Oracle} {L : List (Nat × CV)} {m : Mem} {Q : CE → TS → Prop} (h :
    Q .normal ⟨[(2, (.int .i64 22))], m⟩) :
    Tx Try.prog An F 90 (.reg false (some [2]) c90r7) ⟨L, m⟩ Q := Tx_told (by kernel_rfl) h
theorem t90r8 {F : Oracle} {L : List (Nat × CV)} {m : Mem} {Q : CE → TS → Prop} (h :
    Obt (cbin Try.prog .add 3 (.tmp 24) (.const (.int .i64 1)) (tget L 24) (.int .i64 1)) fun a0 => Q .normal ⟨[(22, (tget L 22)), (23, (tget L 23)), (24, a0)], m⟩) :
    Tx Try.prog An F 90 (.reg false (some [22, 23, 24]) c90r8) ⟨L, m⟩ Q := Tx_told (by kernel_rfl) h
theorem t90r9 {F : Oracle} {L : List (Nat × CV)} {m : Mem} {Q : CE → TS → Prop} (h :
    Q .normal ⟨[(2, (.int .i64 0))], m⟩) :
    Tx Try.prog An F 90 (.reg false (some [2]) c90r9) ⟨L, m⟩ Q := Tx_told (by kernel_rfl) h
-- clevis/mem.areas
def c65r0 : List SO :=
  [⟨(some 1), (.box 26 (.tmp 0)), none⟩,
   ⟨(some 2), (.assign (.const (.slice none 0 0))), none⟩]
def c65r1 : List SO :=
  [⟨(some 3), (.load 26 (.tmp 1)), none⟩,
   ⟨(some 4), (.call ⟨(.value (.func 90)), #[(.tmp 3)], #[26]⟩), none⟩,
   ⟨(some 5), (.binOp .neq 33 (.tmp 4) (.const (.int .i64 0)) 33), none⟩]
def c65r2 : List SO :=
  [⟨(some 2), (.assign (.const (.slice none 0 0))), none⟩]
def c65r3 : List SO :=
  [⟨(some 6), (.fieldAddr 26 (.tmp 1) 0), none⟩,
   ⟨(some 7), (.load 23 (.tmp 6)), none⟩,
   ⟨(some 8), (.build 23 #[(0, (.const (.int .i64 512))), (1, (.const (.bool true)))]), none⟩,
   ⟨(some 9), (.buildSlice 24 2 #[(0, (.tmp 7)), (1, (.tmp 8))]), none⟩,
   ⟨(some 10), (.fieldAddr 26 (.tmp 1) 1), none⟩,
   ⟨(some 11), (.load 24 (.tmp 10)), none⟩,
   ⟨(some 12), (.call ⟨(.builtin .append), #[(.tmp 9), (.tmp 11)], #[24, 24]⟩), none⟩,
   ⟨(some 2), (.assign (.tmp 12)), none⟩]
def c65 : SC :=
  (.seq (.reg false (some [1]) c65r0) (.seq (.seq (.reg false (some [1, 5]) c65r1) (.cond (.tmp 5) (.seq (.reg false (some [2]) c65r2) .ret) .nop)) (.seq (.reg false (some [2]) c65r3) .ret)))
theorem s65 : Try.f65.body.bind (strip Try.prog An 65 Try.f65.ntmps) = some c65 := by kernel_rfl
theorem g65 : An.glob 65 = [] := rfl
theorem r65 : Try.f65.results.toList = [(.tmp 2)] := by kernel_rfl
theorem t65r0 {F : Oracle} {L : List (Nat × CV)} {m : Mem} {Q : CE → TS → Prop} (h :
    Obt (ccells (tget L 0)) fun a0 => Q .normal ⟨[(1, (newP m 16))], (newL m 16 a0)⟩) :
    Tx Try.prog An F 65 (.reg false (some [1]) c65r0) ⟨L, m⟩ Q := Tx_told (by kernel_rfl) h
theorem t65r1 {F : Oracle} {L : List (Nat × CV)} {m : Mem} {Q : CE → TS → Prop} (h :
    Obt (ldA 3 m (tget L 1)) fun a0 => 
    Obt (callC An F 65 (some 4) 90 [a0] m) fun a1 => 
    Obt (cbin Try.prog .neq 33 (.tmp 4) (.const (.int .i64 0)) a1.1 (.int .i64 0)) fun a2 => Q .normal ⟨[(1, (tget L 1)), (5, a2)], a1.2⟩) :
    Tx Try.prog An F 65 (.reg false (some [1, 5]) c65r1) ⟨L, m⟩ Q := Tx_told (by kernel_rfl) h
theorem t65r2 {F : Oracle} {L : List (Nat × CV)} {m : Mem} {Q : CE → TS → Prop} (h :
    Q .normal ⟨[(2, .nil)], m⟩) :
    Tx Try.prog An F 65 (.reg false (some [2]) c65r2) ⟨L, m⟩ Q := Tx_told (by kernel_rfl) h
theorem t65r3 {F : Oracle} {L : List (Nat × CV)} {m : Mem} {Q : CE → TS → Prop} (h :
    Obt (fldA 0 (tget L 1)) fun a0 => 
    Obt (ldA 2 m a0) fun a1 => 
    Obt ((fillX [.int .i64 0, .bool false] [(0, 1, (.int .i64 512)), (1, 1, (.bool true))]).map CV.agg) fun a2 => 
    Obt (bslX false 144 2 2 [.int .i64 0, .bool false, .int .i64 0, .bool false] [(0, 2, a1), (2, 2, a2)] m) fun a3 => 
    Obt (fldA 2 (tget L 1)) fun a4 => 
    Obt (ld1 a3.2 a4) fun a5 => 
    Obt (appX false 192 2 16 a3.1 a5 a3.2) fun a6 => Q .normal ⟨[(2, a6.1)], a6.2⟩) :
    Tx Try.prog An F 65 (.reg false (some [2]) c65r3) ⟨L, m⟩ Q := Tx_told (by kernel_rfl) h
-- clevis/clevisref02.Check
def c66r0 : List SO :=
  [⟨(some 1), (.box 26 (.tmp 0)), none⟩,
   ⟨(some 2), (.assign (.const (.int .i64 0))), none⟩]
def c66r1 : List SO :=
  [⟨(some 4), (.fieldAddr 26 (.tmp 1) 0), none⟩,
   ⟨(some 5), (.fieldAddr 23 (.tmp 4) 0), none⟩,
   ⟨(some 6), (.load 3 (.tmp 5)), none⟩,
   ⟨(some 7), (.binOp .lss 3 (.tmp 6) (.const (.int .i64 0)) 3), none⟩,
   ⟨(some 8), (.move (.tmp 7)), none⟩,
   ⟨(some 9), (.fieldAddr 26 (.tmp 1) 0), (some (8, false))⟩,
   ⟨(some 10), (.fieldAddr 23 (.tmp 9) 0), (some (8, false))⟩,
   ⟨(some 11), (.load 3 (.tmp 10)), (some (8, false))⟩,
   ⟨(some 12), (.binOp .gtr 3 (.tmp 11) (.const (.int .i64 4096)) 3), (some (8, false))⟩,
   ⟨(some 13), (.pick (.tmp 8) (.const (.bool true)) (.tmp 12)), none⟩,
   ⟨(some 14), (.move (.tmp 13)), none⟩,
   ⟨(some 15), (.fieldAddr 26 (.tmp 1) 1), (some (14, false))⟩,
   ⟨(some 16), (.load 24 (.tmp 15)), (some (14, false))⟩,
   ⟨(some 17), (.call ⟨(.builtin .len), #[(.tmp 16)], #[24]⟩), (some (14, false))⟩,
   ⟨(some 18), (.binOp .gtr 3 (.tmp 17) (.const (.int .i64 8)) 3), (some (14, false))⟩,
   ⟨(some 19), (.pick (.tmp 14) (.const (.bool true)) (.tmp 18)), none⟩]
def c66r2 : List SO :=
  [⟨(some 2), (.assign (.const (.int .i64 22))), none⟩]
def c66r3 : List SO :=
  [⟨(some 3), (.assign (.const (.int .i64 0))), none⟩]
def c66r4 : List SO :=
  [⟨(some 20), (.move (.tmp 3)), none⟩,
   ⟨(some 21), (.fieldAddr 26 (.tmp 1) 1), none⟩,
   ⟨(some 22), (.load 24 (.tmp 21)), none⟩,
   ⟨(some 23), (.call ⟨(.builtin .len), #[(.tmp 22)], #[24]⟩), none⟩,
   ⟨(some 24), (.binOp .lss 3 (.tmp 20) (.tmp 23) 3), none⟩]
def c66r6 : List SO :=
  [⟨(some 27), (.fieldAddr 26 (.tmp 1) 1), none⟩,
   ⟨(some 28), (.load 24 (.tmp 27)), none⟩,
   ⟨(some 29), (.move (.tmp 3)), none⟩,
   ⟨(some 30), (.indexAddr 24 (.tmp 28) (.tmp 29)), none⟩,
   ⟨(some 31), (.fieldAddr 23 (.tmp 30) 0), none⟩,
   ⟨(some 32), (.load 3 (.tmp 31)), none⟩,
   ⟨(some 33), (.binOp .lss 3 (.tmp 32) (.const (.int .i64 1)) 3), none⟩,
   ⟨(some 34), (.move (.tmp 33)), none⟩,
   ⟨(some 35), (.fieldAddr 26 (.tmp 1) 1), (some (34, false))⟩,
   ⟨(some 36), (.load 24 (.tmp 35)), (some (34, false))⟩,
   ⟨(some 37), (.move (.tmp 3)), (some (34, false))⟩,
   ⟨(some 38), (.indexAddr 24 (.tmp 36) (.tmp 37)), (some (34, false))⟩,
   ⟨(some 39), (.fieldAddr 23 (.tmp 38) 0), (some (34, false))⟩,
   ⟨(some 40), (.load 3 (.tmp 39)), (some (34, false))⟩,
   ⟨(some 41), (.binOp .gtr 3 (.tmp 40) (.const (.int .i64 4096)) 3), (some (34, false))⟩,
   ⟨(some 42), (.pick (.tmp 34) (.const (.bool true)) (.tmp 41)), none⟩]
def c66r7 : List SO :=
  [⟨(some 2), (.assign (.const (.int .i64 22))), none⟩]
def c66r5 : List SO :=
  [⟨(some 25), (.move (.tmp 3)), none⟩,
   ⟨(some 26), (.binOp .add 3 (.tmp 25) (.const (.int .i64 1)) 3), none⟩,
   ⟨(some 3), (.assign (.tmp 26)), none⟩]
def c66l0 : SC :=
  (.seq (.seq (.reg false (some [1, 3, 24]) c66r4) (.cond (.tmp 24) .nop (.exit 0))) (.seq (.block 1 (.seq (.reg false (some [1, 3, 42]) c66r6) (.cond (.tmp 42) (.seq (.reg false (some [2]) c66r7) .ret) .nop))) (.reg false (some [1, 3]) c66r5)))
def c66r8 : List SO :=
  [⟨(some 2), (.assign (.const (.int .i64 0))), none⟩]
def c66 : SC :=
  (.seq (.reg false (some [1]) c66r0) (.seq (.seq (.reg false (some [1, 19]) c66r1) (.cond (.tmp 19) (.seq (.reg false (some [2]) c66r2) .ret) .nop)) (.seq (.seq (.reg false (some [1, 3]) c66r3) (.block 0 (.loop c66l0))) (.seq (.reg false (some [2]) c66r8) .ret))))
theorem s66 : Try.f66.body.bind (strip Try.prog An 66 Try.f66.ntmps) = some c66 := by kernel_rfl
theorem g66 : An.glob 66 = [] := rfl
theorem r66 : Try.f66.results.toList = [(.tmp 2)] := by kernel_rfl
theorem t66r0 {F : Oracle} {L : List (Nat × CV)} {m : Mem} {Q : CE → TS → Prop} (h :
    Obt (ccells (tget L 0)) fun a0 => Q .normal ⟨[(1, (newP m 16))], (newL m 16 a0)⟩) :
    Tx Try.prog An F 66 (.reg false (some [1]) c66r0) ⟨L, m⟩ Q := Tx_told (by kernel_rfl) h
theorem t66r1 {F : Oracle} {L : List (Nat × CV)} {m : Mem} {Q : CE → TS → Prop} (h :
    Obt (fldA 0 (tget L 1)) fun a0 => 
    Obt (fldA 0 a0) fun a1 => 
    Obt (ld1 m a1) fun a2 => 
    Obt (cbin Try.prog .lss 3 (.tmp 6) (.const (.int .i64 0)) a2 (.int .i64 0)) fun a3 => 
    Obt (gdO a3 false ((fldA 0 (tget L 1)).map fun v => (v, m)) (.tuple [], m)) fun a4 => 
    Obt (gdO a3 false ((fldA 0 a4.1).map fun v => (v, a4.2)) (.tuple [], a4.2)) fun a5 => 
    Obt (gdO a3 false ((ld1 a5.2 a5.1).map fun v => (v, a5.2)) (.tuple [], a5.2)) fun a6 => 
    Obt (gdO a3 false ((cbin Try.prog .gtr 3 (.tmp 11) (.const (.int .i64 4096)) a6.1 (.int .i64 4096)).map fun v => (v, a6.2)) (.tuple [], a6.2)) fun a7 => 
    Obt (pickX a3 (.bool true) a7.1) fun a8 => 
    Obt (gdO a8 false ((fldA 2 (tget L 1)).map fun v => (v, a7.2)) (.tuple [], a7.2)) fun a9 => 
    Obt (gdO a8 false ((ld1 a9.2 a9.1).map fun v => (v, a9.2)) (.tuple [], a9.2)) fun a10 => 
    Obt (gdO a8 false ((lenS a10.1).map fun v => (v, a10.2)) (.tuple [], a10.2)) fun a11 => 
    Obt (gdO a8 false ((cbin Try.prog .gtr 3 (.tmp 17) (.const (.int .i64 8)) a11.1 (.int .i64 8)).map fun v => (v, a11.2)) (.tuple [], a11.2)) fun a12 => 
    Obt (pickX a8 (.bool true) a12.1) fun a13 => Q .normal ⟨[(1, (tget L 1)), (19, a13)], a12.2⟩) :
    Tx Try.prog An F 66 (.reg false (some [1, 19]) c66r1) ⟨L, m⟩ Q := Tx_told (by kernel_rfl) h
theorem t66r2 {F : Oracle} {L : List (Nat × CV)} {m : Mem} {Q : CE → TS → Prop} (h :
    Q .normal ⟨[(2, (.int .i64 22))], m⟩) :
    Tx Try.prog An F 66 (.reg false (some [2]) c66r2) ⟨L, m⟩ Q := Tx_told (by kernel_rfl) h
theorem t66r3 {F : Oracle} {L : List (Nat × CV)} {m : Mem} {Q : CE → TS → Prop} (h :
    Q .normal ⟨[(1, (tget L 1)), (3, (.int .i64 0))], m⟩) :
    Tx Try.prog An F 66 (.reg false (some [1, 3]) c66r3) ⟨L, m⟩ Q := Tx_told (by kernel_rfl) h
theorem t66r4 {F : Oracle} {L : List (Nat × CV)} {m : Mem} {Q : CE → TS → Prop} (h :
    Obt (fldA 2 (tget L 1)) fun a0 => 
    Obt (ld1 m a0) fun a1 => 
    Obt (lenS a1) fun a2 => 
    Obt (cbin Try.prog .lss 3 (.tmp 20) (.tmp 23) (tget L 3) a2) fun a3 => Q .normal ⟨[(1, (tget L 1)), (3, (tget L 3)), (24, a3)], m⟩) :
    Tx Try.prog An F 66 (.reg false (some [1, 3, 24]) c66r4) ⟨L, m⟩ Q := Tx_told (by kernel_rfl) h
theorem t66r6 {F : Oracle} {L : List (Nat × CV)} {m : Mem} {Q : CE → TS → Prop} (h :
    Obt (fldA 2 (tget L 1)) fun a0 => 
    Obt (ld1 m a0) fun a1 => 
    Obt (idxS 2 a1 (tget L 3)) fun a2 => 
    Obt (fldA 0 a2) fun a3 => 
    Obt (ld1 m a3) fun a4 => 
    Obt (cbin Try.prog .lss 3 (.tmp 32) (.const (.int .i64 1)) a4 (.int .i64 1)) fun a5 => 
    Obt (gdO a5 false ((fldA 2 (tget L 1)).map fun v => (v, m)) (.tuple [], m)) fun a6 => 
    Obt (gdO a5 false ((ld1 a6.2 a6.1).map fun v => (v, a6.2)) (.tuple [], a6.2)) fun a7 => 
    Obt (gdO a5 false (some ((tget L 3), a7.2)) (.tuple [], a7.2)) fun a8 => 
    Obt (gdO a5 false ((idxS 2 a7.1 a8.1).map fun v => (v, a8.2)) (.tuple [], a8.2)) fun a9 => 
    Obt (gdO a5 false ((fldA 0 a9.1).map fun v => (v, a9.2)) (.tuple [], a9.2)) fun a10 => 
    Obt (gdO a5 false ((ld1 a10.2 a10.1).map fun v => (v, a10.2)) (.tuple [], a10.2)) fun a11 => 
    Obt (gdO a5 false ((cbin Try.prog .gtr 3 (.tmp 40) (.const (.int .i64 4096)) a11.1 (.int .i64 4096)).map fun v => (v, a11.2)) (.tuple [], a11.2)) fun a12 => 
    Obt (pickX a5 (.bool true) a12.1) fun a13 => Q .normal ⟨[(1, (tget L 1)), (3, (tget L 3)), (42, a13)], a12.2⟩) :
    Tx Try.prog An F 66 (.reg false (some [1, 3, 42]) c66r6) ⟨L, m⟩ Q := Tx_told (by kernel_rfl) h
theorem t66r7 {F : Oracle} {L : List (Nat × CV)} {m : Mem} {Q : CE → TS → Prop} (h :
    Q .normal ⟨[(2, (.int .i64 22))], m⟩) :
    Tx Try.prog An F 66 (.reg false (some [2]) c66r7) ⟨L, m⟩ Q := Tx_told (by kernel_rfl) h
theorem t66r5 {F : Oracle} {L : List (Nat × CV)} {m : Mem} {Q : CE → TS → Prop} (h :
    Obt (cbin Try.prog .add 3 (.tmp 25) (.const (.int .i64 1)) (tget L 3) (.int .i64 1)) fun a0 => Q .normal ⟨[(1, (tget L 1)), (3, a0)], m⟩) :
    Tx Try.prog An F 66 (.reg false (some [1, 3]) c66r5) ⟨L, m⟩ Q := Tx_told (by kernel_rfl) h
theorem t66r8 {F : Oracle} {L : List (Nat × CV)} {m : Mem} {Q : CE → TS → Prop} (h :
    Q .normal ⟨[(2, (.int .i64 0))], m⟩) :
    Tx Try.prog An F 66 (.reg false (some [2]) c66r8) ⟨L, m⟩ Q := Tx_told (by kernel_rfl) h
theorem cl23 {m : Mem} {p : CV} : cload Try.prog m 23 p = ldA 2 m p := by kernel_rfl
-- clevis/mem.Area
def c45r0 : List SO :=
  [⟨(some 2), (.box 26 (.tmp 0)), none⟩,
   ⟨(some 4), (.alloc 23), none⟩,
   ⟨(some 5), (.assign (.const (.bool false))), none⟩]
def c45r1 : List SO :=
  [⟨(some 7), (.load 26 (.tmp 2)), none⟩,
   ⟨(some 8), (.call ⟨(.value (.func 65)), #[(.tmp 7)], #[26]⟩), none⟩,
   ⟨(some 6), (.assign (.tmp 8)), none⟩]
def c45r2 : List SO :=
  [⟨(some 9), (.move (.tmp 1)), none⟩,
   ⟨(some 10), (.binOp .geq 3 (.tmp 9) (.const (.int .i64 1)) 3), none⟩,
   ⟨(some 11), (.move (.tmp 10)), none⟩,
   ⟨(some 12), (.move (.tmp 1)), (some (11, true))⟩,
   ⟨(some 13), (.move (.tmp 6)), (some (11, true))⟩,
   ⟨(some 14), (.call ⟨(.builtin .len), #[(.tmp 13)], #[24]⟩), (some (11, true))⟩,
   ⟨(some 15), (.binOp .leq 3 (.tmp 12) (.tmp 14) 3), (some (11, true))⟩,
   ⟨(some 16), (.pick (.tmp 11) (.tmp 15) (.const (.bool false))), none⟩]
def c45r3 : List SO :=
  [⟨(some 17), (.move (.tmp 6)), none⟩,
   ⟨(some 18), (.move (.tmp 1)), none⟩,
   ⟨(some 19), (.binOp .sub 3 (.tmp 18) (.const (.int .i64 1)) 3), none⟩,
   ⟨(some 20), (.indexAddr 24 (.tmp 17) (.tmp 19)), none⟩,
   ⟨(some 21), (.load 23 (.tmp 20)), none⟩,
   ⟨none, (.store 23 (.tmp 4) (.tmp 21)), none⟩,
   ⟨(some 5), (.assign (.const (.bool true))), none⟩]
def c45r4 : List SO :=
  [⟨(some 22), (.build 23 #[]), none⟩,
   ⟨none, (.store 23 (.tmp 4) (.tmp 22)), none⟩,
   ⟨(some 5), (.assign (.const (.bool false))), none⟩]
def c45 : SC :=
  (.seq (.reg false (some [1, 2, 4]) c45r0) (.seq (.seq (.reg false (some [1, 4, 6]) c45r1) (.seq (.reg false (some [1, 4, 6, 16]) c45r2) (.cond (.tmp 16) (.seq (.reg false (some [4, 5]) c45r3) .ret) .nop))) (.seq (.reg false (some [4, 5]) c45r4) .ret)))
theorem s45 : Try.f45.body.bind (strip Try.prog An 45 Try.f45.ntmps) = some c45 := by kernel_rfl
theorem g45 : An.glob 45 = [] := rfl
theorem r45 : Try.f45.results.toList = [(.cell 4 23), (.tmp 5)] := by kernel_rfl
theorem t45r0 {F : Oracle} {L : List (Nat × CV)} {m : Mem} {Q : CE → TS → Prop} (h :
    Obt (ccells (tget L 0)) fun a0 => Q .normal ⟨[(1, (tget L 1)), (2, (newP m 32)), (4, (newP (newL m 32 a0) 64))], (newL (newL m 32 a0) 64 [.int .i64 0, .bool false])⟩) :
    Tx Try.prog An F 45 (.reg false (some [1, 2, 4]) c45r0) ⟨L, m⟩ Q := Tx_told (by kernel_rfl) h
theorem t45r1 {F : Oracle} {L : List (Nat × CV)} {m : Mem} {Q : CE → TS → Prop} (h :
    Obt (ldA 3 m (tget L 2)) fun a0 => 
    Obt (callC An F 45 (some 8) 65 [a0] m) fun a1 => Q .normal ⟨[(1, (tget L 1)), (4, (tget L 4)), (6, a1.1)], a1.2⟩) :
    Tx Try.prog An F 45 (.reg false (some [1, 4, 6]) c45r1) ⟨L, m⟩ Q := Tx_told (by kernel_rfl) h
theorem t45r2 {F : Oracle} {L : List (Nat × CV)} {m : Mem} {Q : CE → TS → Prop} (h :
    Obt (cbin Try.prog .geq 3 (.tmp 9) (.const (.int .i64 1)) (tget L 1) (.int .i64 1)) fun a0 => 
    Obt (gdO a0 true (some ((tget L 1), m)) (.tuple [], m)) fun a1 => 
    Obt (gdO a0 true (some ((tget L 6), a1.2)) (.tuple [], a1.2)) fun a2 => 
    Obt (gdO a0 true ((lenS a2.1).map fun v => (v, a2.2)) (.tuple [], a2.2)) fun a3 => 
    Obt (gdO a0 true ((cbin Try.prog .leq 3 (.tmp 12) (.tmp 14) a1.1 a3.1).map fun v => (v, a3.2)) (.tuple [], a3.2)) fun a4 => 
    Obt (pickX a0 a4.1 (.bool false)) fun a5 => Q .normal ⟨[(1, (tget L 1)), (4, (tget L 4)), (6, (tget L 6)), (16, a5)], a4.2⟩) :
    Tx Try.prog An F 45 (.reg false (some [1, 4, 6, 16]) c45r2) ⟨L, m⟩ Q := Tx_told (by kernel_rfl) h
theorem t45r3 {F : Oracle} {L : List (Nat × CV)} {m : Mem} {Q : CE → TS → Prop} (h :
    Obt (cbin Try.prog .sub 3 (.tmp 18) (.const (.int .i64 1)) (tget L 1) (.int .i64 1)) fun a0 => 
    Obt (idxS 2 (tget L 6) a0) fun a1 => 
    Obt (ldA 2 m a1) fun a2 => 
    Obt (stX 2 m (tget L 4) a2) fun a3 => Q .normal ⟨[(4, (tget L 4)), (5, (.bool true))], a3⟩) :
    Tx Try.prog An F 45 (.reg false (some [4, 5]) c45r3) ⟨L, m⟩ Q := Tx_told (by kernel_rfl) h
theorem t45r4 {F : Oracle} {L : List (Nat × CV)} {m : Mem} {Q : CE → TS → Prop} (h :
    Obt ((fillX [.int .i64 0, .bool false] []).map CV.agg) fun a0 => 
    Obt (stX 2 m (tget L 4) a0) fun a1 => Q .normal ⟨[(4, (tget L 4)), (5, (.bool false))], a1⟩) :
    Tx Try.prog An F 45 (.reg false (some [4, 5]) c45r4) ⟨L, m⟩ Q := Tx_told (by kernel_rfl) h
-- clevis/clevisref02.Area
def c46r0 : List SO :=
  [⟨(some 2), (.box 26 (.tmp 0)), none⟩,
   ⟨(some 4), (.alloc 23), none⟩,
   ⟨(some 5), (.assign (.const (.bool false))), none⟩]
def c46r1 : List SO :=
  [⟨(some 6), (.load 26 (.tmp 2)), none⟩,
   ⟨(some 7), (.call ⟨(.value (.func 66)), #[(.tmp 6)], #[26]⟩), none⟩,
   ⟨(some 8), (.binOp .neq 3 (.tmp 7) (.const (.int .i64 0)) 3), none⟩]
def c46r2 : List SO :=
  [⟨(some 9), (.build 23 #[]), none⟩,
   ⟨none, (.store 23 (.tmp 4) (.tmp 9)), none⟩,
   ⟨(some 5), (.assign (.const (.bool false))), none⟩]
def c46r3 : List SO :=
  [⟨(some 11), (.move (.tmp 1)), none⟩,
   ⟨(some 12), (.binOp .eql 3 (.tmp 11) (.const (.int .i64 1)) 3), none⟩,
   ⟨(some 10), (.assign (.tmp 12)), none⟩]
def c46r4 : List SO :=
  [⟨(some 13), (.fieldAddr 26 (.tmp 2) 0), none⟩,
   ⟨(some 14), (.load 23 (.tmp 13)), none⟩,
   ⟨none, (.store 23 (.tmp 4) (.tmp 14)), none⟩,
   ⟨(some 5), (.assign (.const (.bool true))), none⟩]
def c46r5 : List SO :=
  [⟨(some 16), (.move (.tmp 1)), none⟩,
   ⟨(some 17), (.binOp .eql 3 (.tmp 16) (.const (.int .i64 2)) 3), none⟩,
   ⟨(some 15), (.assign (.tmp 17)), none⟩]
def c46r6 : List SO :=
  [⟨(some 18), (.build 23 #[(0, (.const (.int .i64 512))), (1, (.const (.bool true)))]), none⟩,
   ⟨none, (.store 23 (.tmp 4) (.tmp 18)), none⟩,
   ⟨(some 5), (.assign (.const (.bool true))), none⟩]
def c46r7 : List SO :=
  [⟨(some 20), (.move (.tmp 1)), none⟩,
   ⟨(some 21), (.binOp .geq 3 (.tmp 20) (.const (.int .i64 3)) 3), none⟩,
   ⟨(some 22), (.move (.tmp 21)), none⟩,
   ⟨(some 23), (.move (.tmp 1)), (some (22, true))⟩,
   ⟨(some 24), (.fieldAddr 26 (.tmp 2) 1), (some (22, true))⟩,
   ⟨(some 25), (.load 24 (.tmp 24)), (some (22, true))⟩,
   ⟨(some 26), (.call ⟨(.builtin .len), #[(.tmp 25)], #[24]⟩), (some (22, true))⟩,
   ⟨(some 27), (.binOp .add 3 (.const (.int .i64 3)) (.tmp 26) 3), (some (22, true))⟩,
   ⟨(some 28), (.binOp .lss 3 (.tmp 23) (.tmp 27) 3), (some (22, true))⟩,
   ⟨(some 29), (.pick (.tmp 22) (.tmp 28) (.const (.bool false))), none⟩,
   ⟨(some 19), (.assign (.tmp 29)), none⟩]
def c46r8 : List SO :=
  [⟨(some 30), (.fieldAddr 26 (.tmp 2) 1), none⟩,
   ⟨(some 31), (.load 24 (.tmp 30)), none⟩,
   ⟨(some 32), (.move (.tmp 1)), none⟩,
   ⟨(some 33), (.binOp .sub 3 (.tmp 32) (.const (.int .i64 3)) 3), none⟩,
   ⟨(some 34), (.indexAddr 24 (.tmp 31) (.tmp 33)), none⟩,
   ⟨(some 35), (.load 23 (.tmp 34)), none⟩,
   ⟨none, (.store 23 (.tmp 4) (.tmp 35)), none⟩,
   ⟨(some 5), (.assign (.const (.bool true))), none⟩]
def c46r9 : List SO :=
  [⟨(some 36), (.build 23 #[]), none⟩,
   ⟨none, (.store 23 (.tmp 4) (.tmp 36)), none⟩,
   ⟨(some 5), (.assign (.const (.bool false))), none⟩]
def c46 : SC :=
  (.seq (.reg false (some [1, 2, 4]) c46r0) (.seq (.seq (.reg false (some [1, 2, 4, 8]) c46r1) (.cond (.tmp 8) (.seq (.reg false (some [4, 5]) c46r2) .ret) .nop)) (.seq (.block 0 (.seq (.reg false (some [1, 2, 4, 10]) c46r3) (.cond (.tmp 10) (.seq (.reg false (some [4, 5]) c46r4) .ret) (.seq (.reg false (some [1, 2, 4, 15]) c46r5) (.cond (.tmp 15) (.seq (.reg false (some [4, 5]) c46r6) .ret) (.seq (.reg false (some [1, 2, 4, 19]) c46r7) (.cond (.tmp 19) (.seq (.reg false (some [4, 5]) c46r8) .ret) .nop))))))) (.seq (.reg false (some [4, 5]) c46r9) .ret))))
theorem s46 : Try.f46.body.bind (strip Try.prog An 46 Try.f46.ntmps) = some c46 := by kernel_rfl
theorem g46 : An.glob 46 = [] := rfl
theorem r46 : Try.f46.results.toList = [(.cell 4 23), (.tmp 5)] := by kernel_rfl
theorem t46r0 {F : Oracle} {L : List (Nat × CV)} {m : Mem} {Q : CE → TS → Prop} (h :
    Obt (ccells (tget L 0)) fun a0 => Q .normal ⟨[(1, (tget L 1)), (2, (newP m 32)), (4, (newP (newL m 32 a0) 64))], (newL (newL m 32 a0) 64 [.int .i64 0, .bool false])⟩) :
    Tx Try.prog An F 46 (.reg false (some [1, 2, 4]) c46r0) ⟨L, m⟩ Q := Tx_told (by kernel_rfl) h
theorem t46r1 {F : Oracle} {L : List (Nat × CV)} {m : Mem} {Q : CE → TS → Prop} (h :
    Obt (ldA 3 m (tget L 2)) fun a0 => 
    Obt (callC An F 46 (some 7) 66 [a0] m) fun a1 => 
    Obt (cbin Try.prog .neq 3 (.tmp 7) (.const (.int .i64 0)) a1.1 (.int .i64 0)) fun a2 => Q .normal ⟨[(1, (tget L 1)), (2, (tget L 2)), (4, (tget L 4)), (8, a2)], a1.2⟩) :
    Tx Try.prog An F 46 (.reg false (some [1, 2, 4, 8]) c46r1) ⟨L, m⟩ Q := Tx_told (by kernel_rfl) h
theorem t46r2 {F : Oracle} {L : List (Nat × CV)} {m : Mem} {Q : CE → TS → Prop} (h :
    Obt ((fillX [.int .i64 0, .bool false] []).map CV.agg) fun a0 => 
    Obt (stX 2 m (tget L 4) a0) fun a1 => Q .normal ⟨[(4, (tget L 4)), (5, (.bool false))], a1⟩) :
    Tx Try.prog An F 46 (.reg false (some [4, 5]) c46r2) ⟨L, m⟩ Q := Tx_told (by kernel_rfl) h
theorem t46r3 {F : Oracle} {L : List (Nat × CV)} {m : Mem} {Q : CE → TS → Prop} (h :
    Obt (cbin Try.prog .eql 3 (.tmp 11) (.const (.int .i64 1)) (tget L 1) (.int .i64 1)) fun a0 => Q .normal ⟨[(1, (tget L 1)), (2, (tget L 2)), (4, (tget L 4)), (10, a0)], m⟩) :
    Tx Try.prog An F 46 (.reg false (some [1, 2, 4, 10]) c46r3) ⟨L, m⟩ Q := Tx_told (by kernel_rfl) h
theorem t46r4 {F : Oracle} {L : List (Nat × CV)} {m : Mem} {Q : CE → TS → Prop} (h :
    Obt (fldA 0 (tget L 2)) fun a0 => 
    Obt (ldA 2 m a0) fun a1 => 
    Obt (stX 2 m (tget L 4) a1) fun a2 => Q .normal ⟨[(4, (tget L 4)), (5, (.bool true))], a2⟩) :
    Tx Try.prog An F 46 (.reg false (some [4, 5]) c46r4) ⟨L, m⟩ Q := Tx_told (by kernel_rfl) h
theorem t46r5 {F : Oracle} {L : List (Nat × CV)} {m : Mem} {Q : CE → TS → Prop} (h :
    Obt (cbin Try.prog .eql 3 (.tmp 16) (.const (.int .i64 2)) (tget L 1) (.int .i64 2)) fun a0 => Q .normal ⟨[(1, (tget L 1)), (2, (tget L 2)), (4, (tget L 4)), (15, a0)], m⟩) :
    Tx Try.prog An F 46 (.reg false (some [1, 2, 4, 15]) c46r5) ⟨L, m⟩ Q := Tx_told (by kernel_rfl) h
theorem t46r6 {F : Oracle} {L : List (Nat × CV)} {m : Mem} {Q : CE → TS → Prop} (h :
    Obt ((fillX [.int .i64 0, .bool false] [(0, 1, (.int .i64 512)), (1, 1, (.bool true))]).map CV.agg) fun a0 => 
    Obt (stX 2 m (tget L 4) a0) fun a1 => Q .normal ⟨[(4, (tget L 4)), (5, (.bool true))], a1⟩) :
    Tx Try.prog An F 46 (.reg false (some [4, 5]) c46r6) ⟨L, m⟩ Q := Tx_told (by kernel_rfl) h
theorem t46r7 {F : Oracle} {L : List (Nat × CV)} {m : Mem} {Q : CE → TS → Prop} (h :
    Obt (cbin Try.prog .geq 3 (.tmp 20) (.const (.int .i64 3)) (tget L 1) (.int .i64 3)) fun a0 => 
    Obt (gdO a0 true (some ((tget L 1), m)) (.tuple [], m)) fun a1 => 
    Obt (gdO a0 true ((fldA 2 (tget L 2)).map fun v => (v, a1.2)) (.tuple [], a1.2)) fun a2 => 
    Obt (gdO a0 true ((ld1 a2.2 a2.1).map fun v => (v, a2.2)) (.tuple [], a2.2)) fun a3 => 
    Obt (gdO a0 true ((lenS a3.1).map fun v => (v, a3.2)) (.tuple [], a3.2)) fun a4 => 
    Obt (gdO a0 true ((cbin Try.prog .add 3 (.const (.int .i64 3)) (.tmp 26) (.int .i64 3) a4.1).map fun v => (v, a4.2)) (.tuple [], a4.2)) fun a5 => 
    Obt (gdO a0 true ((cbin Try.prog .lss 3 (.tmp 23) (.tmp 27) a1.1 a5.1).map fun v => (v, a5.2)) (.tuple [], a5.2)) fun a6 => 
    Obt (pickX a0 a6.1 (.bool false)) fun a7 => Q .normal ⟨[(1, (tget L 1)), (2, (tget L 2)), (4, (tget L 4)), (19, a7)], a6.2⟩) :
    Tx Try.prog An F 46 (.reg false (some [1, 2, 4, 19]) c46r7) ⟨L, m⟩ Q := Tx_told (by kernel_rfl) h
theorem t46r8 {F : Oracle} {L : List (Nat × CV)} {m : Mem} {Q : CE → TS → Prop} (h :
    Obt (fldA 2 (tget L 2)) fun a0 => 
    Obt (ld1 m a0) fun a1 => 
    Obt (cbin Try.prog .sub 3 (.tmp 32) (.const (.int .i64 3)) (tget L 1) (.int .i64 3)) fun a2 => 
    Obt (idxS 2 a1 a2) fun a3 => 
    Obt (ldA 2 m a3) fun a4 => 
    Obt (stX 2 m (tget L 4) a4) fun a5 => Q .normal ⟨[(4, (tget L 4)), (5, (.bool true))], a5⟩) :
    Tx Try.prog An F 46 (.reg false (some [4, 5]) c46r8) ⟨L, m⟩ Q := Tx_told (by kernel_rfl) h
theorem t46r9 {F : Oracle} {L : List (Nat × CV)} {m : Mem} {Q : CE → TS → Prop} (h :
    Obt ((fillX [.int .i64 0, .bool false] []).map CV.agg) fun a0 => 
    Obt (stX 2 m (tget L 4) a0) fun a1 => Q .normal ⟨[(4, (tget L 4)), (5, (.bool false))], a1⟩) :
    Tx Try.prog An F 46 (.reg false (some [4, 5]) c46r9) ⟨L, m⟩ Q := Tx_told (by kernel_rfl) h
-- clevis/checks.Proves
def c16r0 : List SO :=
  [⟨(some 4), (.box 26 (.tmp 0)), none⟩,
   ⟨(some 5), (.box 42 (.tmp 1)), none⟩,
   ⟨(some 8), (.assign (.const (.bool false))), none⟩]
def c16r1 : List SO :=
  [⟨(some 12), (.load 26 (.tmp 4)), none⟩,
   ⟨(some 13), (.fieldAddr 42 (.tmp 5) 1), none⟩,
   ⟨(some 14), (.load 3 (.tmp 13)), none⟩,
   ⟨(some 15), (.call ⟨(.value (.func 45)), #[(.tmp 12), (.tmp 14)], #[26, 3]⟩), none⟩,
   ⟨(some 11), (.move (.tmp 15)), none⟩,
   ⟨(some 16), (.extract (.tmp 11) 0), none⟩,
   ⟨(some 17), (.extract (.tmp 11) 1), none⟩,
   ⟨(some 9), (.alloc 23), none⟩,
   ⟨none, (.store 23 (.tmp 9) (.tmp 16)), none⟩,
   ⟨(some 10), (.assign (.tmp 17)), none⟩]
def c16r2 : List SO :=
  [⟨(some 18), (.move (.tmp 10)), none⟩,
   ⟨(some 19), (.unOp .not 4 (.tmp 18)), none⟩,
   ⟨(some 20), (.move (.tmp 19)), none⟩,
   ⟨(some 21), (.fieldAddr 42 (.tmp 5) 0), (some (20, false))⟩,
   ⟨(some 22), (.load 4 (.tmp 21)), (some (20, false))⟩,
   ⟨(some 23), (.unOp .not 4 (.tmp 22)), (some (20, false))⟩,
   ⟨(some 24), (.pick (.tmp 20) (.const (.bool true)) (.tmp 23)), none⟩,
   ⟨(some 25), (.move (.tmp 24)), none⟩,
   ⟨(some 26), (.move (.tmp 2)), (some (25, false))⟩,
   ⟨(some 27), (.binOp .lss 3 (.tmp 26) (.const (.int .i64 1)) 3), (some (25, false))⟩,
   ⟨(some 28), (.pick (.tmp 25) (.const (.bool true)) (.tmp 27)), none⟩,
   ⟨(some 29), (.move (.tmp 28)), none⟩,
   ⟨(some 30), (.move (.tmp 2)), (some (29, false))⟩,
   ⟨(some 31), (.fieldAddr 23 (.tmp 9) 0), (some (29, false))⟩,
   ⟨(some 32), (.load 3 (.tmp 31)), (some (29, false))⟩,
   ⟨(some 33), (.binOp .gtr 3 (.tmp 30) (.tmp 32) 3), (some (29, false))⟩,
   ⟨(some 34), (.pick (.tmp 29) (.const (.bool true)) (.tmp 33)), none⟩,
   ⟨(some 35), (.move (.tmp 34)), none⟩,
   ⟨(some 36), (.move (.tmp 3)), (some (35, false))⟩,
   ⟨(some 37), (.move (.tmp 36)), (some (35, false))⟩,
   ⟨(some 38), (.fieldAddr 23 (.tmp 9) 1), (some (37, true))⟩,
   ⟨(some 39), (.load 4 (.tmp 38)), (some (37, true))⟩,
   ⟨(some 40), (.unOp .not 4 (.tmp 39)), (some (37, true))⟩,
   ⟨(some 41), (.pick (.tmp 37) (.tmp 40) (.const (.bool false))), (some (35, false))⟩,
   ⟨(some 42), (.pick (.tmp 35) (.const (.bool true)) (.tmp 41)), none⟩]
def c16r3 : List SO :=
  [⟨(some 8), (.assign (.const (.bool false))), none⟩]
def c16r4 : List SO :=
  [⟨(some 43), (.fieldAddr 42 (.tmp 5) 2), none⟩,
   ⟨(some 44), (.load 2 (.tmp 43)), none⟩,
   ⟨(some 45), (.binOp .leq 2 (.const (.int .i64 0)) (.tmp 44) 2), none⟩,
   ⟨(some 46), (.move (.tmp 45)), none⟩,
   ⟨(some 47), (.fieldAddr 42 (.tmp 5) 2), (some (46, true))⟩,
   ⟨(some 48), (.load 2 (.tmp 47)), (some (46, true))⟩,
   ⟨(some 49), (.fieldAddr 42 (.tmp 5) 3), (some (46, true))⟩,
   ⟨(some 50), (.load 2 (.tmp 49)), (some (46, true))⟩,
   ⟨(some 51), (.binOp .leq 2 (.tmp 48) (.tmp 50) 2), (some (46, true))⟩,
   ⟨(some 52), (.pick (.tmp 46) (.tmp 51) (.const (.bool false))), none⟩,
   ⟨(some 53), (.move (.tmp 52)), none⟩,
   ⟨(some 54), (.fieldAddr 42 (.tmp 5) 3), (some (53, true))⟩,
   ⟨(some 55), (.load 2 (.tmp 54)), (some (53, true))⟩,
   ⟨(some 56), (.fieldAddr 23 (.tmp 9) 0), (some (53, true))⟩,
   ⟨(some 57), (.load 3 (.tmp 56)), (some (53, true))⟩,
   ⟨(some 58), (.move (.tmp 2)), (some (53, true))⟩,
   ⟨(some 59), (.binOp .sub 3 (.tmp 57) (.tmp 58) 3), (some (53, true))⟩,
   ⟨(some 60), (.binOp .leq 2 (.tmp 55) (.tmp 59) 2), (some (53, true))⟩,
   ⟨(some 61), (.pick (.tmp 53) (.tmp 60) (.const (.bool false))), none⟩,
   ⟨(some 8), (.assign (.tmp 61)), none⟩]
def c16 : SC :=
  (.seq (.reg false (some [2, 3, 4, 5]) c16r0) (.seq (.reg false (some [2, 3, 5, 9, 10]) c16r1) (.seq (.seq (.reg false (some [2, 5, 9, 42]) c16r2) (.cond (.tmp 42) (.seq (.reg false (some [8]) c16r3) .ret) .nop)) (.seq (.reg false (some [8]) c16r4) .ret))))
theorem s16 : Try.f16.body.bind (strip Try.prog An 16 Try.f16.ntmps) = some c16 := by kernel_rfl
theorem g16 : An.glob 16 = [] := rfl
theorem r16 : Try.f16.results.toList = [(.tmp 8)] := by kernel_rfl
theorem t16r0 {F : Oracle} {L : List (Nat × CV)} {m : Mem} {Q : CE → TS → Prop} (h :
    Obt (ccells (tget L 0)) fun a0 => 
    Obt (ccells (tget L 1)) fun a1 => Q .normal ⟨[(2, (tget L 2)), (3, (tget L 3)), (4, (newP m 64)), (5, (newP (newL m 64 a0) 80))], (newL (newL m 64 a0) 80 a1)⟩) :
    Tx Try.prog An F 16 (.reg false (some [2, 3, 4, 5]) c16r0) ⟨L, m⟩ Q := Tx_told (by kernel_rfl) h
theorem t16r1 {F : Oracle} {L : List (Nat × CV)} {m : Mem} {Q : CE → TS → Prop} (h :
    Obt (ldA 3 m (tget L 4)) fun a0 => 
    Obt (fldA 1 (tget L 5)) fun a1 => 
    Obt (ld1 m a1) fun a2 => 
    Obt (callC An F 16 (some 15) 45 [a0, a2] m) fun a3 => 
    Obt (extX 0 a3.1) fun a4 => 
    Obt (extX 1 a3.1) fun a5 => 
    Obt (stX 2 (newL a3.2 144 [.int .i64 0, .bool false]) (newP a3.2 144) a4) fun a6 => Q .normal ⟨[(2, (tget L 2)), (3, (tget L 3)), (5, (tget L 5)), (9, (newP a3.2 144)), (10, a5)], a6⟩) :
    Tx Try.prog An F 16 (.reg false (some [2, 3, 5, 9, 10]) c16r1) ⟨L, m⟩ Q := Tx_told (by kernel_rfl) h
theorem t16r2 {F : Oracle} {L : List (Nat × CV)} {m : Mem} {Q : CE → TS → Prop} (h :
    Obt (cun .not (tget L 10)) fun a0 => 
    Obt (gdO a0 false ((fldA 0 (tget L 5)).map fun v => (v, m)) (.tuple [], m)) fun a1 => 
    Obt (gdO a0 false ((ld1 a1.2 a1.1).map fun v => (v, a1.2)) (.tuple [], a1.2)) fun a2 => 
    Obt (gdO a0 false ((cun .not a2.1).map fun v => (v, a2.2)) (.tuple [], a2.2)) fun a3 => 
    Obt (pickX a0 (.bool true) a3.1) fun a4 => 
    Obt (gdO a4 false (some ((tget L 2), a3.2)) (.tuple [], a3.2)) fun a5 => 
    Obt (gdO a4 false ((cbin Try.prog .lss 3 (.tmp 26) (.const (.int .i64 1)) a5.1 (.int .i64 1)).map fun v => (v, a5.2)) (.tuple [], a5.2)) fun a6 => 
    Obt (pickX a4 (.bool true) a6.1) fun a7 => 
    Obt (gdO a7 false (some ((tget L 2), a6.2)) (.tuple [], a6.2)) fun a8 => 
    Obt (gdO a7 false ((fldA 0 (tget L 9)).map fun v => (v, a8.2)) (.tuple [], a8.2)) fun a9 => 
    Obt (gdO a7 false ((ld1 a9.2 a9.1).map fun v => (v, a9.2)) (.tuple [], a9.2)) fun a10 => 
    Obt (gdO a7 false ((cbin Try.prog .gtr 3 (.tmp 30) (.tmp 32) a8.1 a10.1).map fun v => (v, a10.2)) (.tuple [], a10.2)) fun a11 => 
    Obt (pickX a7 (.bool true) a11.1) fun a12 => 
    Obt (gdO a12 false (some ((tget L 3), a11.2)) (.tuple [], a11.2)) fun a13 => 
    Obt (gdO a12 false (some (a13.1, a13.2)) (.tuple [], a13.2)) fun a14 => 
    Obt (gdO a14.1 true ((fldA 1 (tget L 9)).map fun v => (v, a14.2)) (.tuple [], a14.2)) fun a15 => 
    Obt (gdO a14.1 true ((ld1 a15.2 a15.1).map fun v => (v, a15.2)) (.tuple [], a15.2)) fun a16 => 
    Obt (gdO a14.1 true ((cun .not a16.1).map fun v => (v, a16.2)) (.tuple [], a16.2)) fun a17 => 
    Obt (gdO a12 false ((pickX a14.1 a17.1 (.bool false)).map fun v => (v, a17.2)) (.tuple [], a17.2)) fun a18 => 
    Obt (pickX a12 (.bool true) a18.1) fun a19 => Q .normal ⟨[(2, (tget L 2)), (5, (tget L 5)), (9, (tget L 9)), (42, a19)], a18.2⟩) :
    Tx Try.prog An F 16 (.reg false (some [2, 5, 9, 42]) c16r2) ⟨L, m⟩ Q := Tx_told (by kernel_rfl) h
theorem t16r3 {F : Oracle} {L : List (Nat × CV)} {m : Mem} {Q : CE → TS → Prop} (h :
    Q .normal ⟨[(8, (.bool false))], m⟩) :
    Tx Try.prog An F 16 (.reg false (some [8]) c16r3) ⟨L, m⟩ Q := Tx_told (by kernel_rfl) h
theorem t16r4 {F : Oracle} {L : List (Nat × CV)} {m : Mem} {Q : CE → TS → Prop} (h :
    Obt (fldA 2 (tget L 5)) fun a0 => 
    Obt (ld1 m a0) fun a1 => 
    Obt (cbin Try.prog .leq 2 (.const (.int .i64 0)) (.tmp 44) (.int .i64 0) a1) fun a2 => 
    Obt (gdO a2 true ((fldA 2 (tget L 5)).map fun v => (v, m)) (.tuple [], m)) fun a3 => 
    Obt (gdO a2 true ((ld1 a3.2 a3.1).map fun v => (v, a3.2)) (.tuple [], a3.2)) fun a4 => 
    Obt (gdO a2 true ((fldA 3 (tget L 5)).map fun v => (v, a4.2)) (.tuple [], a4.2)) fun a5 => 
    Obt (gdO a2 true ((ld1 a5.2 a5.1).map fun v => (v, a5.2)) (.tuple [], a5.2)) fun a6 => 
    Obt (gdO a2 true ((cbin Try.prog .leq 2 (.tmp 48) (.tmp 50) a4.1 a6.1).map fun v => (v, a6.2)) (.tuple [], a6.2)) fun a7 => 
    Obt (pickX a2 a7.1 (.bool false)) fun a8 => 
    Obt (gdO a8 true ((fldA 3 (tget L 5)).map fun v => (v, a7.2)) (.tuple [], a7.2)) fun a9 => 
    Obt (gdO a8 true ((ld1 a9.2 a9.1).map fun v => (v, a9.2)) (.tuple [], a9.2)) fun a10 => 
    Obt (gdO a8 true ((fldA 0 (tget L 9)).map fun v => (v, a10.2)) (.tuple [], a10.2)) fun a11 => 
    Obt (gdO a8 true ((ld1 a11.2 a11.1).map fun v => (v, a11.2)) (.tuple [], a11.2)) fun a12 => 
    Obt (gdO a8 true (some ((tget L 2), a12.2)) (.tuple [], a12.2)) fun a13 => 
    Obt (gdO a8 true ((cbin Try.prog .sub 3 (.tmp 57) (.tmp 58) a12.1 a13.1).map fun v => (v, a13.2)) (.tuple [], a13.2)) fun a14 => 
    Obt (gdO a8 true ((cbin Try.prog .leq 2 (.tmp 55) (.tmp 59) a10.1 a14.1).map fun v => (v, a14.2)) (.tuple [], a14.2)) fun a15 => 
    Obt (pickX a8 a15.1 (.bool false)) fun a16 => Q .normal ⟨[(8, a16)], a15.2⟩) :
    Tx Try.prog An F 16 (.reg false (some [8]) c16r4) ⟨L, m⟩ Q := Tx_told (by kernel_rfl) h
-- clevis/clevislaw20.ChecksProves
def c5r0 : List SO :=
  [⟨(some 5), (.box 26 (.tmp 0)), none⟩,
   ⟨(some 6), (.box 42 (.tmp 1)), none⟩,
   ⟨(some 10), (.assign (.const (.bool false))), none⟩]
def c5r1 : List SO :=
  [⟨(some 11), (.load 26 (.tmp 5)), none⟩,
   ⟨(some 12), (.load 42 (.tmp 6)), none⟩,
   ⟨(some 13), (.move (.tmp 2)), none⟩,
   ⟨(some 14), (.move (.tmp 3)), none⟩,
   ⟨(some 15), (.call ⟨(.value (.func 16)), #[(.tmp 11), (.tmp 12), (.tmp 13), (.tmp 14)], #[26, 42, 3, 4]⟩), none⟩,
   ⟨(some 16), (.unOp .not 4 (.tmp 15)), none⟩,
   ⟨(some 17), (.move (.tmp 16)), none⟩,
   ⟨(some 18), (.move (.tmp 4)), (some (17, false))⟩,
   ⟨(some 19), (.fieldAddr 42 (.tmp 6) 2), (some (17, false))⟩,
   ⟨(some 20), (.load 2 (.tmp 19)), (some (17, false))⟩,
   ⟨(some 21), (.binOp .lss 2 (.tmp 18) (.tmp 20) 2), (some (17, false))⟩,
   ⟨(some 22), (.pick (.tmp 17) (.const (.bool true)) (.tmp 21)), none⟩,
   ⟨(some 23), (.move (.tmp 22)), none⟩,
   ⟨(some 24), (.move (.tmp 4)), (some (23, false))⟩,
   ⟨(some 25), (.fieldAddr 42 (.tmp 6) 3), (some (23, false))⟩,
   ⟨(some 26), (.load 2 (.tmp 25)), (some (23, false))⟩,
   ⟨(some 27), (.binOp .gtr 2 (.tmp 24) (.tmp 26) 2), (some (23, false))⟩,
   ⟨(some 28), (.pick (.tmp 23) (.const (.bool true)) (.tmp 27)), none⟩]
def c5r2 : List SO :=
  [⟨(some 29), (.call ⟨(.value (.func 11)), #[], #[]⟩), none⟩,
   ⟨(some 10), (.assign (.tmp 29)), none⟩]
def c5r3 : List SO :=
  [⟨(some 30), (.load 26 (.tmp 5)), none⟩,
   ⟨(some 31), (.fieldAddr 42 (.tmp 6) 1), none⟩,
   ⟨(some 32), (.load 3 (.tmp 31)), none⟩,
   ⟨(some 33), (.move (.tmp 4)), none⟩,
   ⟨(some 34), (.call ⟨(.value (.func 19)), #[(.tmp 32), (.tmp 33)], #[3, 3]⟩), none⟩,
   ⟨(some 35), (.move (.tmp 2)), none⟩,
   ⟨(some 36), (.move (.tmp 3)), none⟩,
   ⟨(some 37), (.call ⟨(.value (.func 18)), #[(.tmp 30), (.tmp 34), (.tmp 35), (.tmp 36)], #[26, 46, 3, 4]⟩), none⟩,
   ⟨(some 38), (.binOp .eql 3 (.tmp 37) (.const (.int .i64 0)) 3), none⟩,
   ⟨(some 39), (.move (.tmp 38)), none⟩,
   ⟨(some 40), (.call ⟨(.value (.func 11)), #[], #[]⟩), (some (39, true))⟩,
   ⟨(some 41), (.pick (.tmp 39) (.tmp 40) (.const (.bool false))), none⟩,
   ⟨(some 10), (.assign (.tmp 41)), none⟩]
def c5 : SC :=
  (.seq (.reg false (some [2, 3, 4, 5, 6]) c5r0) (.seq (.seq (.reg false (some [2, 3, 4, 5, 6, 28]) c5r1) (.cond (.tmp 28) (.seq (.reg false (some [10]) c5r2) .ret) .nop)) (.seq (.reg true (some [10]) c5r3) .ret)))
theorem s5 : Try.f5.body.bind (strip Try.prog An 5 Try.f5.ntmps) = some c5 := by kernel_rfl
theorem g5 : An.glob 5 = [] := rfl
theorem r5 : Try.f5.results.toList = [(.tmp 10)] := by kernel_rfl
theorem t5r0 {F : Oracle} {L : List (Nat × CV)} {m : Mem} {Q : CE → TS → Prop} (h :
    Obt (ccells (tget L 0)) fun a0 => 
    Obt (ccells (tget L 1)) fun a1 => Q .normal ⟨[(2, (tget L 2)), (3, (tget L 3)), (4, (tget L 4)), (5, (newP m 80)), (6, (newP (newL m 80 a0) 96))], (newL (newL m 80 a0) 96 a1)⟩) :
    Tx Try.prog An F 5 (.reg false (some [2, 3, 4, 5, 6]) c5r0) ⟨L, m⟩ Q := Tx_told (by kernel_rfl) h
theorem t5r1 {F : Oracle} {L : List (Nat × CV)} {m : Mem} {Q : CE → TS → Prop} (h :
    Obt (ldA 3 m (tget L 5)) fun a0 => 
    Obt (ldA 4 m (tget L 6)) fun a1 => 
    Obt (callC An F 5 (some 15) 16 [a0, a1, (tget L 2), (tget L 3)] m) fun a2 => 
    Obt (cun .not a2.1) fun a3 => 
    Obt (gdO a3 false (some ((tget L 4), a2.2)) (.tuple [], a2.2)) fun a4 => 
    Obt (gdO a3 false ((fldA 2 (tget L 6)).map fun v => (v, a4.2)) (.tuple [], a4.2)) fun a5 => 
    Obt (gdO a3 false ((ld1 a5.2 a5.1).map fun v => (v, a5.2)) (.tuple [], a5.2)) fun a6 => 
    Obt (gdO a3 false ((cbin Try.prog .lss 2 (.tmp 18) (.tmp 20) a4.1 a6.1).map fun v => (v, a6.2)) (.tuple [], a6.2)) fun a7 => 
    Obt (pickX a3 (.bool true) a7.1) fun a8 => 
    Obt (gdO a8 false (some ((tget L 4), a7.2)) (.tuple [], a7.2)) fun a9 => 
    Obt (gdO a8 false ((fldA 3 (tget L 6)).map fun v => (v, a9.2)) (.tuple [], a9.2)) fun a10 => 
    Obt (gdO a8 false ((ld1 a10.2 a10.1).map fun v => (v, a10.2)) (.tuple [], a10.2)) fun a11 => 
    Obt (gdO a8 false ((cbin Try.prog .gtr 2 (.tmp 24) (.tmp 26) a9.1 a11.1).map fun v => (v, a11.2)) (.tuple [], a11.2)) fun a12 => 
    Obt (pickX a8 (.bool true) a12.1) fun a13 => Q .normal ⟨[(2, (tget L 2)), (3, (tget L 3)), (4, (tget L 4)), (5, (tget L 5)), (6, (tget L 6)), (28, a13)], a12.2⟩) :
    Tx Try.prog An F 5 (.reg false (some [2, 3, 4, 5, 6, 28]) c5r1) ⟨L, m⟩ Q := Tx_told (by kernel_rfl) h
theorem t5r2 {F : Oracle} {L : List (Nat × CV)} {m : Mem} {Q : CE → TS → Prop} (h :
    Obt (callC An F 5 (some 29) 11 [] m) fun a0 => Q .normal ⟨[(10, a0.1)], a0.2⟩) :
    Tx Try.prog An F 5 (.reg false (some [10]) c5r2) ⟨L, m⟩ Q := Tx_told (by kernel_rfl) h
theorem t5r3 {F : Oracle} {L : List (Nat × CV)} {m : Mem} {Q : CE → TS → Prop} (h :
    Obt (ldA 3 m (tget L 5)) fun a0 => 
    Obt (fldA 1 (tget L 6)) fun a1 => 
    Obt (ld1 m a1) fun a2 => 
    Obt (chk true (callC An F 5 (some 34) 19 [a2, (tget L 4)] m)) fun a3 => 
    Obt (chk true (callC An F 5 (some 37) 18 [a0, a3.1, (tget L 2), (tget L 3)] a3.2)) fun a4 => 
    Obt (cbin Try.prog .eql 3 (.tmp 37) (.const (.int .i64 0)) a4.1 (.int .i64 0)) fun a5 => 
    Obt (gdO a5 true (chk true (callC An F 5 (some 40) 11 [] a4.2)) (.tuple [], a4.2)) fun a6 => 
    Obt (pickX a5 a6.1 (.bool false)) fun a7 => Q .normal ⟨[(10, a7)], a6.2⟩) :
    Tx Try.prog An F 5 (.reg true (some [10]) c5r3) ⟨L, m⟩ Q := Tx_told (by kernel_rfl) h
-- clevis/clevislaw20.heads
def c11r0 : List SO :=
  [⟨(some 0), (.assign (.const (.bool false))), none⟩]
def c11r1 : List SO :=
  [⟨(some 5), (.build 42 #[(0, (.const (.bool true))), (1, (.const (.int .i64 2))), (2, (.const (.int .i64 504))), (3, (.const (.int .i64 504)))]), none⟩,
   ⟨(some 1), (.alloc 42), none⟩,
   ⟨none, (.store 42 (.tmp 1) (.tmp 5)), none⟩]
def c11r2 : List SO :=
  [⟨(some 7), (.build 26 #[]), none⟩,
   ⟨(some 8), (.build 29 #[]), none⟩,
   ⟨(some 9), (.call ⟨(.value (.func 12)), #[(.tmp 7), (.tmp 8), (.const (.slice none 0 0))], #[26, 29, 30]⟩), none⟩,
   ⟨(some 6), (.move (.tmp 9)), none⟩,
   ⟨(some 10), (.extract (.tmp 6) 0), none⟩,
   ⟨(some 11), (.extract (.tmp 6) 1), none⟩,
   ⟨(some 12), (.extract (.tmp 6) 2), none⟩,
   ⟨(some 2), (.alloc 29), none⟩,
   ⟨none, (.store 29 (.tmp 2) (.tmp 10)), none⟩,
   ⟨(some 3), (.assign (.tmp 11)), none⟩,
   ⟨(some 4), (.assign (.tmp 12)), none⟩]
def c11r3 : List SO :=
  [⟨(some 13), (.build 26 #[]), none⟩,
   ⟨(some 14), (.load 42 (.tmp 1)), none⟩,
   ⟨(some 15), (.call ⟨(.value (.func 16)), #[(.tmp 13), (.tmp 14), (.const (.int .i64 8)), (.const (.bool true))], #[26, 42, 3, 4]⟩), none⟩,
   ⟨(some 16), (.move (.tmp 15)), none⟩,
   ⟨(some 17), (.build 26 #[]), (some (16, true))⟩,
   ⟨(some 18), (.build 42 #[(0, (.const (.bool true))), (1, (.const (.int .i64 2))), (2, (.const (.int .i64 504))), (3, (.const (.int .i64 505)))]), (some (16, true))⟩,
   ⟨(some 19), (.call ⟨(.value (.func 16)), #[(.tmp 17), (.tmp 18), (.const (.int .i64 8)), (.const (.bool true))], #[26, 42, 3, 4]⟩), (some (16, true))⟩,
   ⟨(some 20), (.unOp .not 4 (.tmp 19)), (some (16, true))⟩,
   ⟨(some 21), (.pick (.tmp 16) (.tmp 20) (.const (.bool false))), none⟩,
   ⟨(some 22), (.move (.tmp 21)), none⟩,
   ⟨(some 23), (.build 26 #[]), (some (22, true))⟩,
   ⟨(some 24), (.build 42 #[]), (some (22, true))⟩,
   ⟨(some 25), (.call ⟨(.value (.func 16)), #[(.tmp 23), (.tmp 24), (.const (.int .i64 1)), (.const (.bool false))], #[26, 42, 3, 4]⟩), (some (22, true))⟩,
   ⟨(some 26), (.unOp .not 4 (.tmp 25)), (some (22, true))⟩,
   ⟨(some 27), (.pick (.tmp 22) (.tmp 26) (.const (.bool false))), none⟩,
   ⟨(some 28), (.move (.tmp 27)), none⟩,
   ⟨(some 29), (.move (.tmp 4)), (some (28, true))⟩,
   ⟨(some 30), (.binOp .eql 33 (.tmp 29) (.const (.int .i64 160)) 33), (some (28, true))⟩,
   ⟨(some 31), (.pick (.tmp 28) (.tmp 30) (.const (.bool false))), none⟩,
   ⟨(some 0), (.assign (.tmp 31)), none⟩]
def c11 : SC :=
  (.seq (.reg false (some []) c11r0) (.seq (.reg false (some [1]) c11r1) (.seq (.reg false (some [1, 4]) c11r2) (.seq (.reg false (some [0]) c11r3) .ret))))
theorem s11 : Try.f11.body.bind (strip Try.prog An 11 Try.f11.ntmps) = some c11 := by kernel_rfl
theorem g11 : An.glob 11 = [] := rfl
theorem r11 : Try.f11.results.toList = [(.tmp 0)] := by kernel_rfl
theorem t11r0 {F : Oracle} {L : List (Nat × CV)} {m : Mem} {Q : CE → TS → Prop} (h :
    Q .normal ⟨[], m⟩) :
    Tx Try.prog An F 11 (.reg false (some []) c11r0) ⟨L, m⟩ Q := Tx_told (by kernel_rfl) h
theorem t11r1 {F : Oracle} {L : List (Nat × CV)} {m : Mem} {Q : CE → TS → Prop} (h :
    Obt ((fillX [.bool false, .int .i64 0, .int .i64 0, .int .i64 0] [(0, 1, (.bool true)), (1, 1, (.int .i64 2)), (2, 1, (.int .i64 504)), (3, 1, (.int .i64 504))]).map CV.agg) fun a0 => 
    Obt (stX 4 (newL m 16 [.bool false, .int .i64 0, .int .i64 0, .int .i64 0]) (newP m 16) a0) fun a1 => Q .normal ⟨[(1, (newP m 16))], a1⟩) :
    Tx Try.prog An F 11 (.reg false (some [1]) c11r1) ⟨L, m⟩ Q := Tx_told (by kernel_rfl) h
theorem t11r2 {F : Oracle} {L : List (Nat × CV)} {m : Mem} {Q : CE → TS → Prop} (h :
    Obt ((fillX [.int .i64 0, .bool false, .nil] []).map CV.agg) fun a0 => 
    Obt ((fillX [.nil, .int .i64 0] []).map CV.agg) fun a1 => 
    Obt (callC An F 11 (some 9) 12 [a0, a1, .nil] m) fun a2 => 
    Obt (extX 0 a2.1) fun a3 => 
    Obt (extX 1 a2.1) fun a4 => 
    Obt (extX 2 a2.1) fun a5 => 
    Obt (stX 2 (newL a2.2 32 [.nil, .int .i64 0]) (newP a2.2 32) a3) fun a6 => Q .normal ⟨[(1, (tget L 1)), (4, a5)], a6⟩) :
    Tx Try.prog An F 11 (.reg false (some [1, 4]) c11r2) ⟨L, m⟩ Q := Tx_told (by kernel_rfl) h
theorem t11r3 {F : Oracle} {L : List (Nat × CV)} {m : Mem} {Q : CE → TS → Prop} (h :
    Obt ((fillX [.int .i64 0, .bool false, .nil] []).map CV.agg) fun a0 => 
    Obt (ldA 4 m (tget L 1)) fun a1 => 
    Obt (callC An F 11 (some 15) 16 [a0, a1, (.int .i64 8), (.bool true)] m) fun a2 => 
    Obt (gdO a2.1 true (((fillX [.int .i64 0, .bool false, .nil] []).map CV.agg).map fun v => (v, a2.2)) (.tuple [], a2.2)) fun a3 => 
    Obt (gdO a2.1 true (((fillX [.bool false, .int .i64 0, .int .i64 0, .int .i64 0] [(0, 1, (.bool true)), (1, 1, (.int .i64 2)), (2, 1, (.int .i64 504)), (3, 1, (.int .i64 505))]).map CV.agg).map fun v => (v, a3.2)) (.tuple [], a3.2)) fun a4 => 
    Obt (gdO a2.1 true (callC An F 11 (some 19) 16 [a3.1, a4.1, (.int .i64 8), (.bool true)] a4.2) (.tuple [], a4.2)) fun a5 => 
    Obt (gdO a2.1 true ((cun .not a5.1).map fun v => (v, a5.2)) (.tuple [], a5.2)) fun a6 => 
    Obt (pickX a2.1 a6.1 (.bool false)) fun a7 => 
    Obt (gdO a7 true (((fillX [.int .i64 0, .bool false, .nil] []).map CV.agg).map fun v => (v, a6.2)) (.tuple [], a6.2)) fun a8 => 
    Obt (gdO a7 true (((fillX [.bool false, .int .i64 0, .int .i64 0, .int .i64 0] []).map CV.agg).map fun v => (v, a8.2)) (.tuple [], a8.2)) fun a9 => 
    Obt (gdO a7 true (callC An F 11 (some 25) 16 [a8.1, a9.1, (.int .i64 1), (.bool false)] a9.2) (.tuple [], a9.2)) fun a10 => 
    Obt (gdO a7 true ((cun .not a10.1).map fun v => (v, a10.2)) (.tuple [], a10.2)) fun a11 => 
    Obt (pickX a7 a11.1 (.bool false)) fun a12 => 
    Obt (gdO a12 true (some ((tget L 4), a11.2)) (.tuple [], a11.2)) fun a13 => 
    Obt (gdO a12 true ((cbin Try.prog .eql 33 (.tmp 29) (.const (.int .i64 160)) a13.1 (.int .i64 160)).map fun v => (v, a13.2)) (.tuple [], a13.2)) fun a14 => 
    Obt (pickX a12 a14.1 (.bool false)) fun a15 => Q .normal ⟨[(0, a15)], a14.2⟩) :
    Tx Try.prog An F 11 (.reg false (some [0]) c11r3) ⟨L, m⟩ Q := Tx_told (by kernel_rfl) h
end Go.Cm
