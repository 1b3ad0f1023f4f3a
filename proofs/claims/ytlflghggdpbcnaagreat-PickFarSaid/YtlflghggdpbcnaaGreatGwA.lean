import Derived.KernelRfl
import Derived.Test.YtlflghggdpbcnaaGreatCxM
import Derived.Test.YtlflghggdpbcnaaGreatGpA
import Derived.Test.YtlflghggdpbcnaaGreatGwK
set_option linter.unusedSimpArgs false
set_option linter.unusedVariables false
namespace Go.Pk
structure Rc where
  op : Int
  d : Int
  a : Int
  b : Int
  fn : Int
  wide : Bool
  part : Int
  imm : Int
def mk (op d : Int) (i n : Nat) : Rc := ⟨op, d, 0, 0, 0, false, i, n⟩
section
variable {d : Int} {x i : Nat}
end
end Go.Pk

namespace Go.Cm
open Go.Proofs Go.Pk
def rcC (r : Rc) : List CV := [.int .i64 r.op, .int .i64 r.d, .int .i64 r.a, .int .i64 r.b, .int .i64 r.fn, .bool r.wide, .int .i64 r.part, .int .i64 r.imm]
theorem rcE : Enc rcC 8 := ⟨fun _ => rfl, fun _ => rfl, fun _ => rfl, fun _ => rfl⟩
theorem bslX_E {j sz n : Nat} {z cs xs : List CV} {ps : List (Nat × Nat × CV)} {m m1 : Mem} (hf : fillX z ps = some cs) (he : escList m cs = some (xs, m1)) :
    bslX false j sz n z ps m = some (.ref (.l j) (gnext m1.L j) 0 n, setL m1 j (.arr (gnext m1.L j) sz xs 0)) := by
  unfold bslX
  rw [hf]
  simp only [Option.bind_some, he, Option.map_some]
  rfl
section
variable {α : Type} {e : α → List CV} {sz : Nat} {m m' : Mem} {j : Nat} {v : CV} {l : List α}
theorem OwnE.appN (h : OwnE e sz m j v l) (h0 : l ≠ []) {j' b : Nat} {x : CV} {ys : List α} {K : CV × Mem → Prop} (hs : ∀ a, (e a).length = sz) (hx : Cm.content m sz x = some (ys.flatMap e)) (hn : clen x = some ys.length)
    (hb : b ≤ 1024) (hl : l.length + ys.length ≤ 4294967296) (hK : ∀ v' m', OwnE e sz m' j v' (l ++ ys) → m'.H = m.H → (∀ i, i ≠ j → lget m'.L i = lget m.L i) → K (v', m')) : Obt (appX false j' sz b v x m) K := by
  rcases h with ⟨rfl, rfl⟩ | ⟨hne, g, rfl, h⟩
  · exact absurd rfl h0
  · rw [appX_l, hx, hn, h, appR_arr, if_pos ⟨by omega, smallB_ok hb hl⟩, Obt_some]
    refine hK _ _ (.inr ⟨by simp [hne], g + 1, by simp, ?_⟩) rfl ?_
    · rw [lget_setL, if_pos rfl, List.drop_zero, List.take_of_length_le (by rw [flat_len hs]; exact Nat.le_refl _), List.flatMap_append]
    · intro i hi; rw [lget_setL, if_neg (Ne.symm hi)]
end
end Go.Cm

namespace Go.Cm
open Go.Proofs Go.Pk
theorem x50 (n a b : Int) : FF 50 [.int .i64 n, .int .i64 a, .int .i64 b] [] = some (.bool (decide (a ≤ n ∧ n ≤ b)), []) := by
  by_cases h0 : a ≤ n
  · by_cases h1 : n ≤ b
    · refine Fw_funK rfl Tryz.func50 s50 (Nat.le_of_ble_eq_true rfl) (fun Q hqr hqn => ?_)
      rw [cin_t (show An.pure 50 = true from rfl) (by simp only [cans, can_int, can_bool, can_agg, can_str])]
      simp only [tinit, Nat.reduceAdd, c50]
      repeat' (first
      | with_reducible refine Tx_ret ?_
      | (with_reducible (first | (refine Tx_regK (fun K hK => ?_); (first | refine t50r0 ?_ | refine t50r1 ?_)) | refine hqr _ ?_); (try simp only [true_implies, false_implies, not_true_eq_false, tget_cons, if_true, if_false, Nat.reduceEqDiff, Obt_some, Kn_normal, Obt_leq, Obt_geq, gdO_tt, gdO_ft, Option.map_some, pickX_t, pickX_f, Obt_map, and_self, and_true, decide_true, if_false, if_true, r50, tend, tresAll, tresC, Option.bind_some, mapMem, retv_bool, tup_one, h0, h1]))
      | (revert hK; intro hK; (with_reducible refine hK _ ?_; clear hK K)))
      all_goals simp
    · refine Fw_funK rfl Tryz.func50 s50 (Nat.le_of_ble_eq_true rfl) (fun Q hqr hqn => ?_)
      rw [cin_t (show An.pure 50 = true from rfl) (by simp only [cans, can_int, can_bool, can_agg, can_str])]
      simp only [tinit, Nat.reduceAdd, c50]
      repeat' (first
      | with_reducible refine Tx_ret ?_
      | (with_reducible (first | (refine Tx_regK (fun K hK => ?_); (first | refine t50r0 ?_ | refine t50r1 ?_)) | refine hqr _ ?_); (try simp only [true_implies, false_implies, not_true_eq_false, not_false_eq_true, tget_cons, if_true, if_false, Nat.reduceEqDiff, Obt_some, Kn_normal, Obt_leq, Obt_geq, gdO_tt, gdO_ft, Option.map_some, pickX_t, pickX_f, Obt_map, and_true, true_and, decide_false, if_false, if_true, r50, tend, tresAll, tresC, Option.bind_some, mapMem, retv_bool, tup_one, h0, h1]))
      | (revert hK; intro hK; (with_reducible refine hK _ ?_; clear hK K)))
      all_goals simp
  · refine Fw_funK rfl Tryz.func50 s50 (Nat.le_of_ble_eq_true rfl) (fun Q hqr hqn => ?_)
    rw [cin_t (show An.pure 50 = true from rfl) (by simp only [cans, can_int, can_bool, can_agg, can_str])]
    simp only [tinit, Nat.reduceAdd, c50]
    repeat' (first
    | with_reducible refine Tx_ret ?_
    | (with_reducible (first | (refine Tx_regK (fun K hK => ?_); (first | refine t50r0 ?_ | refine t50r1 ?_)) | refine hqr _ ?_); (try simp only [true_implies, false_implies, not_false_eq_true, tget_cons, if_true, if_false, Nat.reduceEqDiff, Obt_some, Kn_normal, Obt_leq, Obt_geq, gdO_tt, gdO_ft, Option.map_some, pickX_t, pickX_f, Obt_map, and_true, true_and, if_false, if_true, r50, tend, tresAll, tresC, Option.bind_some, mapMem, retv_bool, tup_one, Prod.mk.injEq, CV.bool.injEq, h0]))
    | (revert hK; intro hK; (with_reducible refine hK _ ?_; clear hK K)))
    all_goals simp
theorem k50 (n a b : Int) {fid : FuncId} {d : Tmp} {m : Mem} : callC An FF fid (some d) 50 [.int .i64 n, .int .i64 a, .int .i64 b] m = some (.bool (decide (a ≤ n ∧ n ≤ b)), m) :=
  callC_V (x50 n a b) (fun _ _ _ => rfl) rfl rfl rfl rfl rfl
theorem x51 (n : Int) : FF 51 [.int .i64 n] [] = some (.bool (decide (0 ≤ n ∧ n ≤ 31)), []) := by
  refine Fw_funK rfl Tryz.func51 s51 (Nat.le_of_ble_eq_true rfl) (fun Q hqr hqn => ?_)
  rw [cin_t (show An.pure 51 = true from rfl) (by simp only [cans, can_int, can_bool, can_agg, can_str])]
  simp only [tinit, Nat.reduceAdd, c51]
  repeat' (first
  | with_reducible refine Tx_ret ?_
  | (with_reducible (first | (refine Tx_regK (fun K hK => ?_); (first | refine t51r0 ?_ | refine t51r1 ?_)) | refine hqr _ ?_); (try simp only [tget_cons, if_true, Obt_some, Kn_normal, Option.map_some, if_true, r51, tend, tresAll, tresC, Option.bind_some, mapMem, retv_bool, tup_one, k50]))
  | (revert hK; intro hK; (with_reducible refine hK _ ?_; clear hK K)))
theorem k51 (n : Int) {fid : FuncId} {d : Tmp} {m : Mem} : callC An FF fid (some d) 51 [.int .i64 n] m = some (.bool (decide (0 ≤ n ∧ n ≤ 31)), m) :=
  callC_V (x51 n) (fun _ _ _ => rfl) rfl rfl rfl rfl rfl
def eqA (b : Bool) (X : Option Bool) : Option Bool := match (some b : Option Bool) with
  | some true => X
  | r => r
def rcEq (a b : Rc) : Bool := a.op == b.op && (a.d == b.d && (a.a == b.a && (a.b == b.b && (a.fn == b.fn && (a.wide == b.wide && (a.part == b.part && a.imm == b.imm))))))
theorem eqA_and (b c : Bool) : eqA b (some c) = some (b && c) := by cases b <;> rfl
theorem rc_ceq0 (o1 d1 a1 b1 f1 p1 i1 o2 d2 a2 b2 f2 p2 i2 : Int) (w1 w2 : Bool) : ceq Tryz.prog 20 52 (.agg [.int .i64 o1, .int .i64 d1, .int .i64 a1, .int .i64 b1, .int .i64 f1, .bool w1, .int .i64 p1, .int .i64 i1]) (.agg [.int .i64 o2, .int .i64 d2, .int .i64 a2, .int .i64 b2, .int .i64 f2, .bool w2, .int .i64 p2, .int .i64 i2]) =
    eqA (o1 == o2) (eqA (d1 == d2) (eqA (a1 == a2) (eqA (b1 == b2) (eqA (f1 == f2) (eqA (w1 == w2) (eqA (p1 == p2) (eqA (i1 == i2) (some true)))))))) := by
  kernel_rfl
theorem rc_ceq (a b : Rc) : ceq Tryz.prog 20 52 (.agg (rcC a)) (.agg (rcC b)) = some (rcEq a b) := by
  refine (rc_ceq0 ..).trans ?_
  simp only [eqA_and, Bool.and_true, rcEq]
theorem rc_guard : Tryz.prog.eqGuardType Tryz.prog.depth 52 = false := by kernel_rfl
theorem rc_eql (a b : Rc) {x y : Operand} : cbin Tryz.prog .eql 52 x y (.agg (rcC a)) (.agg (rcC b)) = some (.bool (rcEq a b)) := by
  simp only [cbin, eqC, rc_guard, rc_ceq, Bool.false_eq_true, if_false, Option.map_some]
theorem rc_neq (a b : Rc) {x y : Operand} : cbin Tryz.prog .neq 52 x y (.agg (rcC a)) (.agg (rcC b)) = some (.bool (!(rcEq a b))) := by
  simp only [cbin, eqC, rc_guard, rc_ceq, Bool.false_eq_true, if_false, Option.map_some]
theorem rcEq_iff (a b : Rc) : rcEq a b = true ↔ a = b := by
  cases a; cases b
  simp [rcEq]
theorem rcEq_refl (a : Rc) : rcEq a a = true := (rcEq_iff a a).2 rfl
theorem rc_ne0 {o d a b f p i : Int} {w : Bool} {x y : Operand} : cbin Tryz.prog .neq 52 x y (.agg [.int .i64 o, .int .i64 d, .int .i64 a, .int .i64 b, .int .i64 f, .bool w, .int .i64 p, .int .i64 i]) (.agg [.int .i64 o, .int .i64 d, .int .i64 a, .int .i64 b, .int .i64 f, .bool w, .int .i64 p, .int .i64 i]) = some (.bool false) :=
  (rc_neq ⟨o, d, a, b, f, w, p, i⟩ ⟨o, d, a, b, f, w, p, i⟩).trans (by rw [rcEq_refl]; rfl)
theorem x23 (l : List Rc) (hl : l.length ≤ 1000000) : FF 23 [sl rcC l, sl rcC l] [] = some (.bool true, []) := by
  refine Fw_funK rfl Tryz.func23 s23 (Nat.le_of_ble_eq_true rfl) (fun Q hqr hqn => ?_)
  rw [cin_t (show An.pure 23 = true from rfl) (by simp only [cans, can_int, can_bool, can_agg, can_str, rcE.can_sl])]
  simp only [tinit, Nat.reduceAdd, c23]
  repeat' (first
  | with_reducible (first | refine Tx_assoc ?_ | refine Tx_nopK ?_ | refine Tx_noK rfl ?_ | refine Tx_blockK (id := 0) (fun Q0 hn0 hx0 hr0 ho0 => ?_))
  | (with_reducible (refine Tx_regK (fun K hK => ?_); (first | refine t23r0 ?_ | refine t23r1 ?_ | refine t23r3 ?_)); (try simp only [true_implies, false_implies, not_true_eq_false, tget_cons, if_true, if_false, Nat.reduceEqDiff, Obt_some, Kn_normal, Obt_neq, Option.map_some, lenS, and_true, if_false, if_true, clen_sl]))
  | (revert hK; intro hK; (with_reducible refine hK _ ?_; clear hK K)))
  refine Tx_loopK (fun k s => ∃ (d t : List Rc) (L : List (Nat × HO)), l = d ++ t ∧ k = t.length ∧ s = ⟨[(0, sl rcC l), (1, sl rcC l), (5, .int .i64 d.length)], ⟨L, []⟩⟩) _ ⟨[], l, _, rfl, rfl, rfl⟩ ?_
  rintro k s ⟨d, t, L, h2, rfl, rfl⟩ QL0 hnL0 hxL0 hrL0
  have hlen := congrArg List.length h2
  simp only [List.length_append] at hlen
  simp only [c23l0]
  cases t with
  | nil =>
    simp only [List.length_nil] at hlen
    repeat' (first
    | with_reducible (first | refine Tx_assoc ?_ | refine Tx_noK rfl ?_ | refine Tx_exitK ?_ | refine Tx_ret ?_ | refine hx0 _ ?_ | refine hxL0 _ _ ?_)
    | (with_reducible (first | (refine Tx_regK (fun K hK => ?_); (first | refine t23r4 ?_ | refine t23r8 ?_)) | refine hqr _ ?_); (try simp only [tget_cons, if_true, if_false, Nat.reduceEqDiff, Obt_some, Kn_normal, Obt_lss, Option.map_some, lenS, if_false, if_true, r23, tend, tresAll, tresC, Option.bind_some, mapMem, retv_bool, tup_one, clen_sl]))
    | (revert hK; intro hK; (first | refine And.intro ?_ ?_ | intro _ | omega | (with_reducible refine hK _ ?_; clear hK K))))
  | cons r t =>
    simp only [List.length_cons] at hlen
    have hw : IntKind.i64.wrap ((d.length : Int) + 1) = d.length + 1 := wI (by omega) (by omega)
    have hlt : (d.length : Int) < l.length := by omega
    repeat' (first
    | with_reducible (first | refine Tx_assoc ?_ | refine Tx_nopK ?_ | refine Tx_yesK rfl ?_ | refine Tx_no rfl ?_ | refine Tx_nop ?_ | refine Tx_blockK (id := 1) (fun Q1 hn1 hx1 hr1 ho1 => ?_) | refine hn1 _ ?_)
    | (with_reducible ((first | refine Tx_regK (fun K hK => ?_) | refine Tx_regE (fun K hK => ?_)); (first | refine t23r4 ?_ | refine t23r6 ?_ | refine t23r5 ?_)); (try simp only [true_implies, false_implies, not_true_eq_false, tget_cons, if_true, if_false, Nat.reduceEqDiff, Obt_some, Kn_normal, Obt_lss, Option.map_some, lenS, Obt_add, List.nil_append, List.cons_append, and_true, if_false, if_true, clen_sl, hlt, hw, idxS_split rcE.len (by omega) h2, ldA_r8, rcC, rc_ne0]))
    | (revert hK; intro hK; (with_reducible refine hK _ ?_; clear hK K)))
    refine hnL0 t.length _ (by simp) ⟨d ++ [r], t, L, by simp [h2], rfl, by simp⟩
end Go.Cm

namespace Go.Cm
open Go.Proofs Go.Pk
inductive Cell where
  | d | a | b | part | imm
def Cell.fn : Cell → Nat
  | .d => 153 | .a => 154 | .b => 155 | .part => 110 | .imm => 165
def Cell.off : Cell → Nat
  | .d => 1 | .a => 2 | .b => 3 | .part => 6 | .imm => 7
def Cell.get : Cell → Rc → Int
  | .d, r => r.d | .a, r => r.a | .b, r => r.b | .part, r => r.part | .imm, r => r.imm
def Cell.set : Cell → Rc → Int → Rc
  | .d, r, v => { r with d := v } | .a, r, v => { r with a := v } | .b, r, v => { r with b := v } | .part, r, v => { r with part := v } | .imm, r, v => { r with imm := v }
theorem nilP' {k : Key} {g o : Nat} : nilX (.ptr k g o) = some (.ptr k g o) := rfl
theorem adopt_ptr {k : Key} {g o : Nat} {gl : Bool} {d : Nat} {m : Mem} : adopt gl d (.ptr k g o) m = (.ptr k g o, m) := rfl
theorem xcell (c : Cell) (x : Nat) (H : List HO) : FF c.fn [.ptr (.g x) 1 0] H = some (.ptr (.g x) 1 c.off, H) := by
  cases c
  · simp only [Cell.fn, Cell.off]
    refine Fw_funK rfl Tryz.func153 s153 (Nat.le_of_ble_eq_true rfl) (fun Q hqr hqn => ?_)
    rw [show ∀ a, cin (An.pure 153) a = a from fun _ => rfl]
    simp only [tinit, Nat.reduceAdd, c153]
    repeat' (first
    | with_reducible refine Tx_ret ?_
    | (with_reducible (first | (refine Tx_regK (fun K hK => ?_); (first | refine t153r0 ?_ | refine t153r1 ?_)) | refine hqr _ ?_); (try simp only [tget_cons, if_true, Obt_some, Kn_normal, Nat.zero_add, fldA_ptr, Option.map_some, if_true, r153, tend, tresAll, tresC, Option.bind_some, mapMem, retv_gptr, tup_one, nilP']))
    | (revert hK; intro hK; (with_reducible refine hK _ ?_; clear hK K)))
  · simp only [Cell.fn, Cell.off]
    refine Fw_funK rfl Tryz.func154 s154 (Nat.le_of_ble_eq_true rfl) (fun Q hqr hqn => ?_)
    rw [show ∀ a, cin (An.pure 154) a = a from fun _ => rfl]
    simp only [tinit, Nat.reduceAdd, c154]
    repeat' (first
    | with_reducible refine Tx_ret ?_
    | (with_reducible (first | (refine Tx_regK (fun K hK => ?_); (first | refine t154r0 ?_ | refine t154r1 ?_)) | refine hqr _ ?_); (try simp only [tget_cons, if_true, Obt_some, Kn_normal, Nat.zero_add, fldA_ptr, Option.map_some, if_true, r154, tend, tresAll, tresC, Option.bind_some, mapMem, retv_gptr, tup_one, nilP']))
    | (revert hK; intro hK; (with_reducible refine hK _ ?_; clear hK K)))
  · simp only [Cell.fn, Cell.off]
    refine Fw_funK rfl Tryz.func155 s155 (Nat.le_of_ble_eq_true rfl) (fun Q hqr hqn => ?_)
    rw [show ∀ a, cin (An.pure 155) a = a from fun _ => rfl]
    simp only [tinit, Nat.reduceAdd, c155]
    repeat' (first
    | with_reducible refine Tx_ret ?_
    | (with_reducible (first | (refine Tx_regK (fun K hK => ?_); (first | refine t155r0 ?_ | refine t155r1 ?_)) | refine hqr _ ?_); (try simp only [tget_cons, if_true, Obt_some, Kn_normal, Nat.zero_add, fldA_ptr, Option.map_some, if_true, r155, tend, tresAll, tresC, Option.bind_some, mapMem, retv_gptr, tup_one, nilP']))
    | (revert hK; intro hK; (with_reducible refine hK _ ?_; clear hK K)))
  · simp only [Cell.fn, Cell.off]
    refine Fw_funK rfl Tryz.func110 s110 (Nat.le_of_ble_eq_true rfl) (fun Q hqr hqn => ?_)
    rw [show ∀ a, cin (An.pure 110) a = a from fun _ => rfl]
    simp only [tinit, Nat.reduceAdd, c110]
    repeat' (first
    | with_reducible refine Tx_ret ?_
    | (with_reducible (first | (refine Tx_regK (fun K hK => ?_); (first | refine t110r0 ?_ | refine t110r1 ?_)) | refine hqr _ ?_); (try simp only [tget_cons, if_true, Obt_some, Kn_normal, Nat.zero_add, fldA_ptr, Option.map_some, if_true, r110, tend, tresAll, tresC, Option.bind_some, mapMem, retv_gptr, tup_one, nilP']))
    | (revert hK; intro hK; (with_reducible refine hK _ ?_; clear hK K)))
  · simp only [Cell.fn, Cell.off]
    refine Fw_funK rfl Tryz.func165 s165 (Nat.le_of_ble_eq_true rfl) (fun Q hqr hqn => ?_)
    rw [show ∀ a, cin (An.pure 165) a = a from fun _ => rfl]
    simp only [tinit, Nat.reduceAdd, c165]
    repeat' (first
    | with_reducible refine Tx_ret ?_
    | (with_reducible (first | (refine Tx_regK (fun K hK => ?_); (first | refine t165r0 ?_ | refine t165r1 ?_)) | refine hqr _ ?_); (try simp only [tget_cons, if_true, Obt_some, Kn_normal, Nat.zero_add, fldA_ptr, Option.map_some, if_true, r165, tend, tresAll, tresC, Option.bind_some, mapMem, retv_gptr, tup_one, nilP']))
    | (revert hK; intro hK; (with_reducible refine hK _ ?_; clear hK K)))
theorem kcell (c : Cell) (x : Nat) {fid : FuncId} {t : Tmp} {m : Mem} : callC An FF fid (some t) c.fn [.ptr (.g x) 1 0] m = some (.ptr (.g x) 1 c.off, m) := by
  rw [callC_I (by cases c <;> rfl) rfl (xcell c x m.H), adopt_ptr]
theorem rc_get (c : Cell) (r : Rc) : (rcC r)[c.off]? = some (.int .i64 (c.get r)) := by cases c <;> rfl
theorem x161 (c : Cell) {x k : Nat} {r : Rc} {H : List HO} (h1 : H[k]? = some (atF c.fn)) (h2 : H[x]? = some (.var 1 (rcC r) 0)) : FF 161 [.ptr (.g x) 1 0, .ptr (.g k) 1 0] H = some (.int .i64 (c.get r), H) := by
  have hk := fun (t : Tmp) (m : Mem) => kcell c x (fid := 161) (t := t) (m := m)
  have hl1 : ∀ L, ld1 ⟨L, H⟩ (.ptr (.g k) 1 0) = some (.func (.func c.fn) [] []) := fun L => by rw [ld1_g, h1]; rfl
  have hl2 : ∀ L, ld1 ⟨L, H⟩ (.ptr (.g x) 1 c.off) = some (.int .i64 (c.get r)) := fun L => by
    rw [ld1_g, h2]; simp only [rd1_var, if_true]; exact rc_get c r
  refine Fw_funK rfl Tryz.func161 s161 (Nat.le_of_ble_eq_true rfl) (fun Q hqr hqn => ?_)
  rw [show ∀ a, cin (An.pure 161) a = a from fun _ => rfl]
  simp only [tinit, Nat.reduceAdd, c161]
  repeat' (first
  | with_reducible refine Tx_ret ?_
  | (with_reducible (first | (refine Tx_regK (fun K hK => ?_); (first | refine t161r0 ?_ | refine t161r1 ?_)) | refine hqr _ ?_); (try simp only [tget_cons, if_true, if_false, Nat.reduceEqDiff, Obt_some, Kn_normal, Option.map_some, List.nil_append, List.append_nil, if_false, if_true, r161, tend, tresAll, tresC, Option.bind_some, mapMem, retv_int, tup_one, nilP', hl1, hl2, hk, invokeC_func]))
  | (revert hK; intro hK; (with_reducible refine hK _ ?_; clear hK K)))
theorem rc_set (c : Cell) (r : Rc) (v : Int) : splice (rcC r) c.off [.int .i64 v] = rcC (c.set r v) := by cases c <;> rfl
theorem x162 (c : Cell) {x k : Nat} {r : Rc} {H : List HO} (v : Int) (h1 : H[k]? = some (atF c.fn)) (h2 : H[x]? = some (.var 1 (rcC r) 0)) : FF 162 [.ptr (.g x) 1 0, .int .i64 v, .ptr (.g k) 1 0] H = some (.tuple [], H.set x (.var 1 (rcC (c.set r v)) 0)) := by
  have hk := fun (t : Tmp) (m : Mem) => kcell c x (fid := 162) (t := t) (m := m)
  have hl1 : ∀ L, ld1 ⟨L, H⟩ (.ptr (.g k) 1 0) = some (.func (.func c.fn) [] []) := fun L => by rw [ld1_g, h1]; rfl
  have hst : ∀ L, stX 1 ⟨L, H⟩ (.ptr (.g x) 1 c.off) (.int .i64 v) = some ⟨L, H.set x (.var 1 (rcC (c.set r v)) 0)⟩ := fun L => by
    have hc : ccells (.int .i64 v) = some [.int .i64 v] := rfl
    rw [stX_g, h2, hc, ← rc_set]
    cases c <;> rfl
  refine Fw_funK rfl Tryz.func162 s162 (Nat.le_of_ble_eq_true rfl) (fun Q hqr hqn => ?_)
  rw [show ∀ a, cin (An.pure 162) a = a from fun _ => rfl]
  simp only [tinit, Nat.reduceAdd, c162]
  repeat' (first
  | (with_reducible (first | (refine Tx_regE (fun K hK => ?_); refine t162r0 ?_) | refine hqn _ ?_); (try simp only [tget_cons, if_true, if_false, Nat.reduceEqDiff, Obt_some, Kn_normal, Option.map_some, List.nil_append, List.append_nil, if_false, if_true, r162, tend, tresAll, Option.bind_some, mapMem, tup_nil, nilP', hl1, hst, hk, invokeC_func]))
  | (revert hK; intro hK; (with_reducible refine hK _ ?_; clear hK K)))
theorem x163 (x : Nat) (H : List HO) : FF 163 [.ptr (.g x) 1 0] H = some (.int .i64 0, H) := by
  refine Fw_funK rfl Tryz.func163 s163 (Nat.le_of_ble_eq_true rfl) (fun Q hqr hqn => ?_)
  rw [show ∀ a, cin (An.pure 163) a = a from fun _ => rfl]
  simp only [tinit, Nat.reduceAdd, c163]
  repeat' (first
  | with_reducible refine Tx_ret ?_
  | (with_reducible (first | (refine Tx_regK (fun K hK => ?_); (first | refine t163r0 ?_ | refine t163r1 ?_)) | refine hqr _ ?_); (try simp only [tget_cons, if_true, Obt_some, Kn_normal, Option.map_some, if_true, r163, tend, tresAll, tresC, Option.bind_some, mapMem, retv_int, tup_one]))
  | (revert hK; intro hK; (with_reducible refine hK _ ?_; clear hK K)))
theorem x164 (x : Nat) (v : Int) (H : List HO) : FF 164 [.ptr (.g x) 1 0, .int .i64 v] H = some (.tuple [], H) := by
  refine Fw_funK rfl Tryz.func164 s164 (Nat.le_of_ble_eq_true rfl) (fun Q hqr hqn => ?_)
  rw [show ∀ a, cin (An.pure 164) a = a from fun _ => rfl]
  simp only [tinit, Nat.reduceAdd, c164]
  repeat' (first
  | with_reducible refine Tx_nop ?_
  | (with_reducible refine hqn _ ?_; (try simp only [Obt_some, Option.map_some, r164, tend, tresAll, Option.bind_some, mapMem, tup_nil])))
theorem x157 (b : Bool) : FF 157 [.bool b] [] = some (.int .i64 (if b then 1 else 0), []) := by
  cases b
  · refine Fw_funK rfl Tryz.func157 s157 (Nat.le_of_ble_eq_true rfl) (fun Q hqr hqn => ?_)
    rw [cin_t (show An.pure 157 = true from rfl) (by simp only [cans, can_int, can_bool, can_agg, can_str])]
    simp only [tinit, Nat.reduceAdd, c157]
    repeat' (first
    | with_reducible (first | refine Tx_assoc ?_ | refine Tx_nopK ?_ | refine Tx_noK rfl ?_ | refine Tx_ret ?_)
    | (with_reducible (first | (refine Tx_regK (fun K hK => ?_); (first | refine t157r0 ?_ | refine t157r1 ?_ | refine t157r3 ?_)) | refine hqr _ ?_); (try simp only [tget_cons, if_true, if_false, Obt_some, Kn_normal, Option.map_some, Bool.false_eq_true, if_false, if_true, r157, tend, tresAll, tresC, Option.bind_some, mapMem, retv_int, tup_one]))
    | (revert hK; intro hK; (with_reducible refine hK _ ?_; clear hK K)))
    all_goals rfl
  · refine Fw_funK rfl Tryz.func157 s157 (Nat.le_of_ble_eq_true rfl) (fun Q hqr hqn => ?_)
    rw [cin_t (show An.pure 157 = true from rfl) (by simp only [cans, can_int, can_bool, can_agg, can_str])]
    simp only [tinit, Nat.reduceAdd, c157]
    repeat' (first
    | with_reducible (first | refine Tx_assoc ?_ | refine Tx_yesK rfl ?_ | refine Tx_retK ?_)
    | (with_reducible (first | (refine Tx_regK (fun K hK => ?_); (first | refine t157r0 ?_ | refine t157r1 ?_ | refine t157r2 ?_)) | refine hqr _ ?_); (try simp only [tget_cons, if_true, Obt_some, Kn_normal, Option.map_some, if_true, r157, tend, tresAll, tresC, Option.bind_some, mapMem, retv_int, tup_one]))
    | (revert hK; intro hK; (with_reducible refine hK _ ?_; clear hK K)))
    all_goals rfl
theorem x156 {x : Nat} {r : Rc} {H : List HO} (h2 : H[x]? = some (.var 1 (rcC r) 0)) : FF 156 [.ptr (.g x) 1 0] H = some (.int .i64 (if r.wide then 1 else 0), H) := by
  have hl2 : ∀ L, ld1 ⟨L, H⟩ (.ptr (.g x) 1 5) = some (.bool r.wide) := fun L => by
    rw [ld1_g, h2]; rfl
  have hk := fun (t : Tmp) (m : Mem) => callC_V (fid := 156) (d := t) (m := m) (x157 r.wide) (fun _ _ _ => rfl) rfl (args := [.bool r.wide]) rfl rfl rfl rfl
  refine Fw_funK rfl Tryz.func156 s156 (Nat.le_of_ble_eq_true rfl) (fun Q hqr hqn => ?_)
  rw [show ∀ a, cin (An.pure 156) a = a from fun _ => rfl]
  simp only [tinit, Nat.reduceAdd, c156]
  repeat' (first
  | with_reducible refine Tx_ret ?_
  | (with_reducible (first | (refine Tx_regK (fun K hK => ?_); (first | refine t156r0 ?_ | refine t156r1 ?_)) | refine hqr _ ?_); (try simp only [tget_cons, if_true, Obt_some, Kn_normal, Nat.zero_add, fldA_ptr, Option.map_some, if_true, r156, tend, tresAll, tresC, Option.bind_some, mapMem, retv_int, tup_one, nilP', hl2, hk]))
  | (revert hK; intro hK; (with_reducible refine hK _ ?_; clear hK K)))
theorem x158 {x : Nat} {r : Rc} {H : List HO} (v : Int) (h2 : H[x]? = some (.var 1 (rcC r) 0)) : FF 158 [.ptr (.g x) 1 0, .int .i64 v] H = some (.tuple [], H.set x (.var 1 (rcC { r with wide := decide (0 < v) }) 0)) := by
  have hst : ∀ L b, stX 1 ⟨L, H⟩ (.ptr (.g x) 1 5) (.bool b) = some ⟨L, H.set x (.var 1 (rcC { r with wide := b }) 0)⟩ := fun L b => by
    have hc : ccells (.bool b) = some [.bool b] := rfl
    rw [stX_g, h2, hc]; rfl
  by_cases hv : 0 < v
  · have hv' : v > 0 := hv
    refine Fw_funK rfl Tryz.func158 s158 (Nat.le_of_ble_eq_true rfl) (fun Q hqr hqn => ?_)
    rw [show ∀ a, cin (An.pure 158) a = a from fun _ => rfl]
    simp only [tinit, Nat.reduceAdd, c158]
    repeat' (first
    | (with_reducible (first | (refine Tx_regE (fun K hK => ?_); refine t158r0 ?_) | refine hqn _ ?_); (try simp only [true_implies, false_implies, not_true_eq_false, tget_cons, if_true, if_false, Nat.reduceEqDiff, Obt_some, Kn_normal, Nat.zero_add, fldA_ptr, Obt_gtr, Option.map_some, and_true, decide_true, if_false, if_true, r158, tend, tresAll, Option.bind_some, mapMem, tup_nil, nilP', hst, hv, hv', gt_iff_lt]))
    | (revert hK; intro hK; (with_reducible refine hK _ ?_; clear hK K)))
    all_goals trace_state
    all_goals sorry
  · refine Fw_funK rfl Tryz.func158 s158 (Nat.le_of_ble_eq_true rfl) (fun Q hqr hqn => ?_)
    rw [show ∀ a, cin (An.pure 158) a = a from fun _ => rfl]
    simp only [tinit, Nat.reduceAdd, c158]
    repeat' (first
    | (with_reducible (first | (refine Tx_regE (fun K hK => ?_); refine t158r0 ?_) | refine hqn _ ?_); (try simp only [true_implies, false_implies, not_false_eq_true, tget_cons, if_true, if_false, Nat.reduceEqDiff, Obt_some, Kn_normal, Nat.zero_add, fldA_ptr, Obt_gtr, Option.map_some, true_and, decide_false, if_false, if_true, r158, tend, tresAll, Option.bind_some, mapMem, tup_nil, nilP', hst, hv, gt_iff_lt]))
    | (revert hK; intro hK; (with_reducible refine hK _ ?_; clear hK K)))
    all_goals trace_state
    all_goals sorry
theorem x159 {x : Nat} {r : Rc} {H : List HO} (h2 : H[x]? = some (.var 1 (rcC r) 0)) : FF 159 [.ptr (.g x) 1 0] H = some (.int .i64 (IntKind.i64.wrap (r.fn.tdiv 16)), H) := by
  have hl2 : ∀ L, ld1 ⟨L, H⟩ (.ptr (.g x) 1 4) = some (.int .i64 r.fn) := fun L => by rw [ld1_g, h2]; rfl
  refine Fw_funK rfl Tryz.func159 s159 (Nat.le_of_ble_eq_true rfl) (fun Q hqr hqn => ?_)
  rw [show ∀ a, cin (An.pure 159) a = a from fun _ => rfl]
  simp only [tinit, Nat.reduceAdd, c159]
  repeat' (first
  | with_reducible refine Tx_ret ?_
  | (with_reducible (first | (refine Tx_regK (fun K hK => ?_); (first | refine t159r0 ?_ | refine t159r1 ?_)) | refine hqr _ ?_); (try simp only [tget_cons, if_true, Obt_some, Kn_normal, Nat.zero_add, fldA_ptr, Option.map_some, Obt_quo, if_true, r159, tend, tresAll, tresC, Option.bind_some, mapMem, retv_int, tup_one, nilP', hl2]))
  | (revert hK; intro hK; (first | refine And.intro ?_ ?_ | intro _ | omega | (with_reducible refine hK _ ?_; clear hK K))))
  all_goals trace_state
  all_goals sorry
theorem x160 {x : Nat} {r : Rc} {H : List HO} (v : Int) (h2 : H[x]? = some (.var 1 (rcC r) 0)) : FF 160 [.ptr (.g x) 1 0, .int .i64 v] H = some (.tuple [], H.set x (.var 1 (rcC { r with fn := IntKind.i64.wrap (16 * v) }) 0)) := by
  have hst : ∀ L y, stX 1 ⟨L, H⟩ (.ptr (.g x) 1 4) (.int .i64 y) = some ⟨L, H.set x (.var 1 (rcC { r with fn := y }) 0)⟩ := fun L y => by
    have hc : ccells (.int .i64 y) = some [.int .i64 y] := rfl
    rw [stX_g, h2, hc]; rfl
  refine Fw_funK rfl Tryz.func160 s160 (Nat.le_of_ble_eq_true rfl) (fun Q hqr hqn => ?_)
  rw [show ∀ a, cin (An.pure 160) a = a from fun _ => rfl]
  simp only [tinit, Nat.reduceAdd, c160]
  repeat' (first
  | (with_reducible (first | (refine Tx_regE (fun K hK => ?_); refine t160r0 ?_) | refine hqn _ ?_); (try simp only [tget_cons, if_true, if_false, Nat.reduceEqDiff, Obt_some, Kn_normal, Nat.zero_add, fldA_ptr, Option.map_some, Obt_mul, if_false, if_true, r160, tend, tresAll, Option.bind_some, mapMem, tup_nil, nilP', hst]))
  | (revert hK; intro hK; (with_reducible refine hK _ ?_; clear hK K)))
  all_goals trace_state
  all_goals sorry
def bnd (n : Int) (s : Bool) : Int × Int := if s then (-(2 ^ (n.toNat - 1)), 2 ^ (n.toNat - 1) - 1) else (0, 2 ^ n.toNat - 1)
def okB (n : Int) (s : Bool) : Prop := (s = false ∧ (n = 1 ∨ n = 2 ∨ n = 3 ∨ n = 4 ∨ n = 5 ∨ n = 16 ∨ n = 26)) ∨ (s = true ∧ (n = 11 ∨ n = 16 ∨ n = 26))
theorem x75 (n : Int) (s : Bool) (g t : CV) (H : List HO) (h : okB n s) : FF 75 [.agg [.int .i64 n, .bool s, g, t]] H = some (.tuple [.int .i64 (bnd n s).1, .int .i64 (bnd n s).2], H) := by
  rcases h with ⟨rfl, h⟩ | ⟨rfl, h⟩
  · rcases h with rfl | rfl | rfl | rfl | rfl | rfl | rfl <;> exact Fw_iff.2 ⟨10, by kernel_rfl⟩
  · rcases h with rfl | rfl | rfl <;> exact Fw_iff.2 ⟨10, by kernel_rfl⟩
end Go.Cm

namespace Go.Cm
open Go.Proofs Go.Pk
def condsI : List Int := [16, 32, 48, 64, 80, 96, 112, 160, 176, 192, 208]
def condsL : List CV := condsI.flatMap intC
def condsH : HO := .arr 1 1 condsL 0
theorem x166 : FF 166 [] [] = some (.agg condsL, []) := Fw_iff.2 ⟨10, by kernel_rfl⟩
theorem k166 {fid : FuncId} {t : Tmp} {m : Mem} : callC An FF fid (some t) 166 [] m = some (.agg condsL, m) := callC_V x166 (fun _ _ _ => rfl) rfl rfl rfl rfl rfl
theorem stW_conds (L : List (Nat × HO)) (H : List HO) : stW 11 ⟨L, H ++ [.arr 1 1 [.int .i64 0, .int .i64 0, .int .i64 0, .int .i64 0, .int .i64 0, .int .i64 0, .int .i64 0, .int .i64 0, .int .i64 0, .int .i64 0, .int .i64 0] 0]⟩ H.length 1 0 (some condsL)
    (some (.arr 1 1 [.int .i64 0, .int .i64 0, .int .i64 0, .int .i64 0, .int .i64 0, .int .i64 0, .int .i64 0, .int .i64 0, .int .i64 0, .int .i64 0, .int .i64 0] 0)) = some ⟨L, H ++ [condsH]⟩ := by
  rw [stW_arr rfl (by simp), if_pos ⟨rfl, by decide, Nat.le_refl _⟩]
  simp only [setG]
  rw [List.set_append_right _ _ (Nat.le_refl _), Nat.sub_self]
  rfl
theorem esc_fn {f k : Nat} {m : Mem} : esc 5 (.func (.func f) [] [.ptr (.g k) 1 0]) m = some (.func (.func f) [] [.ptr (.g k) 1 0], m) := rfl
theorem x113 (H : List HO) : FF 113 [] H = some (.agg (fdC H.length), H ++ [condsH]) := by
  refine Fw_funK rfl Tryz.func113 s113 (Nat.le_of_ble_eq_true rfl) (fun Q hqr hqn => ?_)
  rw [show ∀ a, cin (An.pure 113) a = a from fun _ => rfl]
  simp only [tinit, Nat.reduceAdd, c113]
  repeat' (first
  | (with_reducible (refine Tx_regK (fun K hK => ?_); (first | refine t113r0 ?_ | refine t113r1 ?_)); (try simp only [tget_cons, if_true, ccells, Obt_some, Kn_normal, newL_eq, newP_eq, setL_H, List.getElem?_cons_zero, if_true, ld1_g, ldA_g, getH, getH0, setH, setH0, gnewL_eq, gnewP_eq, gnewA_eq, gnewR_eq, gnewM_eq, gnewK_eq, nmA_t, nmR_t, setG, stX_g, stW_var, List.append_assoc, List.length_append, List.set_cons_succ, List.set_cons_zero, escQ_list, escQ, mmX, invokeC_func, k166]))
  | (revert hK; intro hK; (with_reducible refine hK _ ?_; clear hK K)))
  rw [stW_conds, Obt_some]
  refine hK _ ?_
  clear hK K
  repeat' (first
  | with_reducible refine Tx_ret ?_
  | (with_reducible (first | (refine Tx_regK (fun K hK => ?_); refine t113r2 ?_) | refine hqr _ ?_); (try simp only [tget_cons, if_true, if_false, Nat.reduceEqDiff, ccells, Obt_some, Kn_normal, lget_setL, setL_H, Nat.reduceAdd, Nat.zero_add, List.drop_zero, ldA_l, Option.map_some, fillX, stX_l, stV_var, splice, List.take_zero, List.take_succ_cons, List.drop_succ_cons, List.drop_nil, List.nil_append, List.cons_append, List.append_nil, List.length_cons, List.length_nil, Nat.reduceLeDiff, and_self, and_true, Nat.le_refl, rdA_var, if_false, if_true, r113, cl157, tend, tresAll, tresC, Option.bind_some, mapMem, retv_agc, esc_i, esc_b, tup_one, Prod.mk.injEq, ld1_g, ldA_g, getH, getH0, setH, setH0, gnewL_eq, gnewP_eq, gnewA_eq, gnewR_eq, gnewM_eq, gnewK_eq, nmA_t, nmR_t, setG, stX_g, stW_var, List.append_assoc, List.length_append, List.set_cons_succ, List.set_cons_zero, escQ_list, escQ, mmX, invokeC_func, esc_fn]))
  | (revert hK; intro hK; (with_reducible refine hK _ ?_; clear hK K)))
  all_goals rfl
theorem x105 (h : HO) : FF 105 [] [h] = some (.agg (fdP 5 false 1), [h, atF 154]) := Fw_iff.2 ⟨20, by kernel_rfl⟩
theorem x106 (h a : HO) : FF 106 [] [h, a] = some (.agg (fdP 5 false 2), [h, a, atF 155]) := Fw_iff.2 ⟨20, by kernel_rfl⟩
theorem x107 (H : List HO) : FF 107 [] H = some (.agg fdW, H) := Fw_iff.2 ⟨20, by kernel_rfl⟩
theorem x112 (h a b c : HO) : FF 112 [.int .i64 11, .bool true] [h, a, b, c] = some (.agg (fdP 11 true 4), [h, a, b, c, atF 165]) := Fw_iff.2 ⟨20, by kernel_rfl⟩
def lay20C : List CV := fdP 5 false 1 ++ (fdP 5 false 2 ++ (fdC 3 ++ (fdW ++ fdP 11 true 4)))
def lay20V : CV := .own 5 4 lay20C 0
theorem lay20 (h : HO) : FF 74 [.int .i64 20] [h] = some (lay20V, [h, atF 154, atF 155, condsH, atF 165]) := by
  have hsetL : ∀ (L : List (Nat × HO)) (H : List HO) i x, setL ⟨L, H⟩ i x = ⟨lset L i x, H⟩ := fun _ _ _ _ => rfl
  have h1 : ∀ L t, callC An FF 74 (some t) 105 [] ⟨L, [h]⟩ = some (.agg (fdP 5 false 1), ⟨L, [h, atF 154]⟩) := fun L t => by rw [callC_I rfl rfl (x105 h), adopt_agg]
  have h2 : ∀ L t, callC An FF 74 (some t) 106 [] ⟨L, [h, atF 154]⟩ = some (.agg (fdP 5 false 2), ⟨L, [h, atF 154, atF 155]⟩) := fun L t => by rw [callC_I rfl rfl (x106 h _), adopt_agg]
  have h3 : ∀ L t, callC An FF 74 (some t) 113 [] ⟨L, [h, atF 154, atF 155]⟩ = some (.agg (fdC 3), ⟨L, [h, atF 154, atF 155, condsH]⟩) := fun L t => by rw [callC_I rfl rfl (x113 _), adopt_agg]; rfl
  have h4 : ∀ L t, callC An FF 74 (some t) 107 [] ⟨L, [h, atF 154, atF 155, condsH]⟩ = some (.agg fdW, ⟨L, [h, atF 154, atF 155, condsH]⟩) := fun L t => by rw [callC_I rfl rfl (x107 _), adopt_agg]
  have h5 : ∀ L t, callC An FF 74 (some t) 112 [.int .i64 11, .bool true] ⟨L, [h, atF 154, atF 155, condsH]⟩ = some (.agg (fdP 11 true 4), ⟨L, [h, atF 154, atF 155, condsH, atF 165]⟩) := fun L t => by rw [callC_I rfl rfl (x112 _ _ _ _), adopt_agg]
  refine Fw_funK rfl Tryz.func74 s74 (Nat.le_of_ble_eq_true rfl) (fun Q hqr hqn => ?_)
  rw [show ∀ a, cin (An.pure 74) a = a from fun _ => rfl]
  simp only [tinit, Nat.reduceAdd, c74]
  repeat' (first
  | with_reducible (first | refine Tx_assoc ?_ | refine Tx_yesK rfl ?_ | refine Tx_no rfl ?_ | refine Tx_exitK ?_ | refine Tx_nop ?_ | refine Tx_blockK (id := 0) (fun Q0 hn0 hx0 hr0 ho0 => ?_) | refine hn0 _ ?_ | refine Tx_blockK (id := 1) (fun Q1 hn1 hx1 hr1 ho1 => ?_) | refine Tx_blockK (id := 9) (fun Q9 hn9 hx9 hr9 ho9 => ?_) | refine Tx_blockK (id := 8) (fun Q8 hn8 hx8 hr8 ho8 => ?_) | refine Tx_blockE (id := 7) (fun Q7 hn7 hx7 hr7 ho7 => ?_) | refine Tx_blockK (id := 6) (fun Q6 hn6 hx6 hr6 ho6 => ?_) | refine Tx_blockE (id := 5) (fun Q5 hn5 hx5 hr5 ho5 => ?_) | refine Tx_blockK (id := 4) (fun Q4 hn4 hx4 hr4 ho4 => ?_) | refine Tx_blockK (id := 3) (fun Q3 hn3 hx3 hr3 ho3 => ?_) | refine Tx_blockK (id := 2) (fun Q2 hn2 hx2 hr2 ho2 => ?_) | refine hx2 _ ?_)
  | (with_reducible (refine Tx_regK (fun K hK => ?_); (first | refine t74r0 ?_ | refine t74r1 ?_ | refine t74r3 ?_ | refine t74r5 ?_ | refine t74r7 ?_ | refine t74r9 ?_ | refine t74r10 ?_ | refine t74r18 ?_)); (try simp only [true_implies, false_implies, not_true_eq_false, tget_cons, if_true, if_false, Nat.reduceEqDiff, Obt_some, Kn_normal, Obt_lss, Obt_geq, Obt_eql, gdO_tt, gdO_tf, gdO_ff, gdO_ft, pickX_t, pickX_f, Obt_map, and_true, if_false, if_true, hsetL, h1, h2, h3, h4, h5]))
  | (revert hK; intro hK; (first | refine And.intro ?_ ?_ | intro _ | omega | (with_reducible refine hK _ ?_; clear hK K))))
  rw [bslX_E (cs := lay20C) rfl (xs := lay20C) rfl, Obt_some]
  refine hK _ ?_
  clear hK K
  repeat' (first
  | with_reducible (first | refine Tx_retK ?_ | refine hr1 _ ?_ | refine hr9 _ ?_ | refine hr8 _ ?_ | refine hr7 _ ?_ | refine hr6 _ ?_ | refine hr5 _ ?_ | refine hr4 _ ?_ | refine hr3 _ ?_)
  | (with_reducible refine hqr _ ?_; (try simp only [tget_cons, if_true, Obt_some, lget_lset, Nat.reduceMul, List.drop_zero, Option.map_some, and_true, if_true, r74, tend, tresAll, tresC, Option.bind_some, mapMem, retv_l, retR_arr, Nat.sub_self, tup_one, Prod.mk.injEq, hsetL])))
  all_goals rfl
end Go.Cm
