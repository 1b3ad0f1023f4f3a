import Derived.Test.YtlflghggdpbcnaaGreatGwA
set_option linter.unusedSimpArgs false
set_option linter.unusedVariables false
namespace Go.Cm
open Go.Proofs Go.Pk
def eqA (b : Bool) (X : Option Bool) : Option Bool := match (some b : Option Bool) with
  | some true => X
  | r => r
def rcEq (a b : Rc) : Bool := a.op == b.op && (a.d == b.d && (a.a == b.a && (a.b == b.b && (a.fn == b.fn && (a.wide == b.wide && (a.part == b.part && a.imm == b.imm))))))
theorem eqA_and (b c : Bool) : eqA b (some c) = some (b && c) := by cases b <;> rfl
theorem rc_ceq0 (o1 d1 a1 b1 f1 p1 i1 o2 d2 a2 b2 f2 p2 i2 : Int) (w1 w2 : Bool) : ceq Tryz.prog 20 52 (.agg [.int .i64 o1, .int .i64 d1, .int .i64 a1, .int .i64 b1, .int .i64 f1, .bool w1, .int .i64 p1, .int .i64 i1]) (.agg [.int .i64 o2, .int .i64 d2, .int .i64 a2, .int .i64 b2, .int .i64 f2, .bool w2, .int .i64 p2, .int .i64 i2]) =
    eqA (o1 == o2) (eqA (d1 == d2) (eqA (a1 == a2) (eqA (b1 == b2) (eqA (f1 == f2) (eqA (w1 == w2) (eqA (p1 == p2) (eqA (i1 == i2) (some true)))))))) := by
  kernel_rfl
theorem rc_ceq (a b : Rc) : ceq Tryz.prog 20 52 (.agg (rcC a)) (.agg (rcC b)) = some (rcEq a b) := by
  refine (rc_ceq0 ..).trans ?_
  simp only [eqA_and, Bool.and_true, rcEq]
theorem rc_guard : Tryz.prog.eqGuardType Tryz.prog.depth 52 = false := by kernel_rfl
theorem rc_eql (a b : Rc) {x y : Operand} : cbin Tryz.prog .eql 52 x y (.agg (rcC a)) (.agg (rcC b)) = some (.bool (rcEq a b)) := by
  simp only [cbin, eqC, rc_guard, rc_ceq, Bool.false_eq_true, if_false, Option.map_some]
theorem rc_neq (a b : Rc) {x y : Operand} : cbin Tryz.prog .neq 52 x y (.agg (rcC a)) (.agg (rcC b)) = some (.bool (!(rcEq a b))) := by
  simp only [cbin, eqC, rc_guard, rc_ceq, Bool.false_eq_true, if_false, Option.map_some]
theorem rcEq_iff (a b : Rc) : rcEq a b = true ↔ a = b := by
  cases a; cases b
  simp [rcEq]
theorem rcEq_refl (a : Rc) : rcEq a a = true := (rcEq_iff a a).2 rfl
theorem rc_ne0 {o d a b f p i : Int} {w : Bool} {x y : Operand} : cbin Tryz.prog .neq 52 x y (.agg [.int .i64 o, .int .i64 d, .int .i64 a, .int .i64 b, .int .i64 f, .bool w, .int .i64 p, .int .i64 i]) (.agg [.int .i64 o, .int .i64 d, .int .i64 a, .int .i64 b, .int .i64 f, .bool w, .int .i64 p, .int .i64 i]) = some (.bool false) :=
  (rc_neq ⟨o, d, a, b, f, w, p, i⟩ ⟨o, d, a, b, f, w, p, i⟩).trans (by rw [rcEq_refl]; rfl)
end Go.Cm
