import Derived.Test.YtlflghggdpbcnaaGreatGwV
import Derived.Test.YtlflghggdpbcnaaGreatGwQ
set_option linter.unusedSimpArgs false
set_option linter.unusedVariables false
namespace Go.Cm
open Go.Proofs Go.Pk
def regK (n : Int) : Bool := decide (0 ≤ n ∧ n ≤ 31)
def inK (n a b : Int) : Bool := decide (a ≤ n ∧ n ≤ b)
def bare25 (r : Rc) : Rc × Bool :=
  if r.op = 1 then (⟨r.op, r.d, r.a, r.b, r.fn, r.wide, 0, 0⟩, aluK r.fn)
  else if r.op = 2 ∨ r.op = 3 then (⟨r.op, r.d, 0, 0, 0, false, r.part, r.imm⟩, inK r.part 0 3 && inK r.imm 0 65535)
  else if 4 ≤ r.op ∧ r.op < 12 then (⟨r.op, r.d, r.a, 0, 0, false, 0, r.imm⟩, inK r.imm (-32768) 32767)
  else if 12 ≤ r.op ∧ r.op < 20 then (⟨r.op, 0, r.a, 0, 0, false, 0, r.imm⟩, inK r.imm (-32768) 32767)
  else if r.op = 20 then (⟨r.op, 0, r.a, r.b, r.fn, r.wide, 0, r.imm⟩, decide (0 ≤ idxOf condsI r.fn) && inK r.imm (-1024) 1023)
  else if r.op = 21 then (⟨r.op, 0, 0, 0, 0, false, 0, r.imm⟩, inK r.imm (-33554432) 33554431)
  else if r.op = 22 then (⟨r.op, 0, 0, 0, 0, false, 0, r.imm⟩, inK r.imm 1 5)
  else if r.op = 23 then (⟨r.op, 0, 0, 0, 0, false, 0, 0⟩, true)
  else if r.op = 24 ∨ r.op = 25 then (⟨r.op, r.d, 0, 0, 0, false, 0, r.imm⟩, inK r.imm 0 255)
  else if r.op = 26 ∨ r.op = 27 then (⟨r.op, r.d, 0, 0, 0, false, 0, 0⟩, true)
  else (⟨r.op, 0, 0, 0, 0, false, 0, r.imm⟩, false)
def chk25 (r : Rc) : Bool := (bare25 r).2 && (rcEq r (bare25 r).1 && (regK r.d && (regK r.a && regK r.b)))
structure Facts25 (r b : Rc) (q d1 d2 d3 : Bool) : Prop where
  e : ∀ x y, cbin Tryz.prog .eql 52 x y (.agg (rcC r)) (.agg (rcC b)) = some (.bool q)
  d : ∀ t m, callC An FF 25 (some t) 51 [.int .i64 r.d] m = some (.bool d1, m)
  a : ∀ t m, callC An FF 25 (some t) 51 [.int .i64 r.a] m = some (.bool d2, m)
  b : ∀ t m, callC An FF 25 (some t) 51 [.int .i64 r.b] m = some (.bool d3, m)
theorem facts25 (r b : Rc) : Facts25 r b (rcEq r b) (regK r.d) (regK r.a) (regK r.b) :=
  ⟨fun x y => rc_eql r b, fun t m => k51 r.d, fun t m => k51 r.a, fun t m => k51 r.b⟩
theorem five (o q a b : Bool) : o = false ∨ (o = true ∧ q = false) ∨ (o = true ∧ q = true ∧ a = false) ∨ (o = true ∧ q = true ∧ a = true ∧ b = false) ∨ (o = true ∧ q = true ∧ a = true ∧ b = true) := by
  cases o <;> cases q <;> cases a <;> cases b <;> simp
theorem x25_op1 (r : Rc) (h : r.op = 1) (o q d1 d2 d3 : Bool) (ho : aluK r.fn = o) (hF : Facts25 r ⟨r.op, r.d, r.a, r.b, r.fn, r.wide, 0, 0⟩ q d1 d2 d3) : FF 25 [.agg (rcC r)] [] = some (.bool (o && (q && (d1 && (d2 && d3)))), []) := by
  obtain ⟨_, ⟨y, H', rfl⟩, hA⟩ := x49 r.fn
  rw [ho] at hA
  have hA : ∀ m, callC An FF 25 (some 21) 49 [.int .i64 r.fn, .int .u64 0, .int .u64 0, .bool true] m = some (.tuple [.int .u64 y, .bool o], m) := fun m =>
    callC_V hA (fun _ _ _ => rfl) rfl rfl rfl rfl rfl
  clear ho
  obtain ⟨hq, hd1, hd2, hd3⟩ := hF
  obtain ⟨op, d, a, b, fn, w, p, i⟩ := r
  simp only at h
  subst h
  simp only [rcC] at hq hd1 hd2 hd3 hA ⊢
  rcases five o q d1 d2 with rfl | ⟨rfl, rfl⟩ | ⟨rfl, rfl, rfl⟩ | ⟨rfl, rfl, rfl, rfl⟩ | ⟨rfl, rfl, rfl, rfl⟩
  all_goals
    refine Fw_funK rfl Tryz.func25 s25 (Nat.le_of_ble_eq_true rfl) (fun Q hqr hqn => ?_)
    rw [cin_t (show An.pure 25 = true from rfl) (by simp only [cans, can_int, can_bool, can_agg, can_str])]
    simp only [tinit, Nat.reduceAdd, c25]
    repeat' (first
    | with_reducible (first | refine Tx_yes rfl ?_ | refine Tx_ret ?_ | refine Tx_blockK (id := 0) (fun Q0 hn0 hx0 hr0 ho0 => ?_) | refine hn0 _ ?_)
    | (with_reducible (first | ((first | refine Tx_regK (fun K hK => ?_) | refine Tx_regE (fun K hK => ?_)); (first | refine t25r0 ?_ | refine t25r1 ?_ | refine t25r2 ?_ | refine t25r3 ?_ | refine t25r4 ?_ | refine t25r5 ?_ | refine t25r6 ?_ | refine t25r7 ?_ | refine t25r33 ?_)) | refine hqr _ ?_); (try simp only [true_implies, false_implies, not_true_eq_false, tget_cons, if_true, if_false, Nat.reduceEqDiff, ccells, Obt_some, Kn_normal, newL_eq, newP_eq, gn_var, gnext_setL, lget_setL, setL_setL, setL_H, Nat.reduceMul, Nat.reduceAdd, Nat.zero_add, fldA_ptr, List.drop_zero, ld1_l, ldA_l, rd1_var, List.getElem?_cons_zero, List.getElem?_cons_succ, Obt_eql, gdO_tt, gdO_ft, Option.map_some, pickX_t, pickX_f, Obt_map, Obt_ext, Obt_ite', fillX, stX_l, stV_var, splice, List.take_zero, List.take_succ_cons, List.drop_succ_cons, List.drop_nil, List.nil_append, List.cons_append, List.append_nil, List.length_cons, List.length_nil, Nat.reduceLeDiff, and_self, and_true, true_and, Nat.le_refl, Nat.zero_le, rdA_var, Bool.true_and, offK_l, keyL_nil, keyL_f, decide_false, Bool.or_false, Bool.false_eq_true, if_false, if_true, r25, tend, tresAll, tresC, Option.bind_some, mapMem, retv_bool, tup_one, Prod.mk.injEq, CV.bool.injEq, offP_t, offP_f, offP_nil, Obt_offSL, sameL_nil, sameL_t, sameL_f, escList_nil, Nat.lt_irrefl, Nat.reduceLT, List.take_nil, Nat.zero_mul, offP_f, offP_nil, offP_t, ldA_l, hA, hq, hd1, hd2, hd3]))
    | (revert hK; intro hK; (with_reducible refine hK _ ?_; clear hK K)))
  all_goals rfl
theorem x25_op4 (r : Rc) (h : 4 ≤ r.op ∧ r.op < 12) (o q d1 d2 d3 : Bool) (ho : inK r.imm (-32768) 32767 = o) (hF : Facts25 r ⟨r.op, r.d, r.a, 0, 0, false, 0, r.imm⟩ q d1 d2 d3) : FF 25 [.agg (rcC r)] [] = some (.bool (o && (q && (d1 && (d2 && d3)))), []) := by
  have hA : ∀ t m, callC An FF 25 (some t) 50 [.int .i64 r.imm, .int .i64 (-32768), .int .i64 (32767)] m = some (.bool o, m) := fun t m => by rw [k50, ← ho]; rfl
  clear ho
  obtain ⟨hq, hd1, hd2, hd3⟩ := hF
  obtain ⟨op, d, a, b, fn, w, p, i⟩ := r
  simp only at h
  have n1 : ¬ op = 1 := by omega
  have n2 : ¬ op = 2 := by omega
  have n3 : ¬ op = 3 := by omega
  have n4 : 4 ≤ op := h.1
  have n5 : op < 12 := h.2
  simp only [rcC] at hq hd1 hd2 hd3 hA ⊢
  rcases five o q d1 d2 with rfl | ⟨rfl, rfl⟩ | ⟨rfl, rfl, rfl⟩ | ⟨rfl, rfl, rfl, rfl⟩ | ⟨rfl, rfl, rfl, rfl⟩
  all_goals
    refine Fw_funK rfl Tryz.func25 s25 (Nat.le_of_ble_eq_true rfl) (fun Q hqr hqn => ?_)
    rw [cin_t (show An.pure 25 = true from rfl) (by simp only [cans, can_int, can_bool, can_agg, can_str])]
    simp only [tinit, Nat.reduceAdd, c25]
    repeat' (first
    | with_reducible (first | refine Tx_yes rfl ?_ | refine Tx_no rfl ?_ | refine Tx_ret ?_ | refine Tx_blockK (id := 0) (fun Q0 hn0 hx0 hr0 ho0 => ?_) | refine hn0 _ ?_)
    | (with_reducible (first | ((first | refine Tx_regK (fun K hK => ?_) | refine Tx_regE (fun K hK => ?_)); (first | refine t25r0 ?_ | refine t25r1 ?_ | refine t25r2 ?_ | refine t25r3 ?_ | refine t25r4 ?_ | refine t25r8 ?_ | refine t25r11 ?_ | refine t25r12 ?_ | refine t25r13 ?_ | refine t25r33 ?_)) | refine hqr _ ?_); (try simp only [true_implies, false_implies, not_true_eq_false, not_false_eq_true, tget_cons, if_true, if_false, Nat.reduceEqDiff, ccells, Obt_some, Kn_normal, newL_eq, newP_eq, gn_var, gnext_setL, lget_setL, setL_setL, setL_H, Nat.reduceMul, Nat.reduceAdd, Nat.zero_add, fldA_ptr, List.drop_zero, ld1_l, ldA_l, rd1_var, List.getElem?_cons_zero, List.getElem?_cons_succ, Obt_lss, Obt_geq, Obt_eql, gdO_tt, gdO_tf, gdO_ff, gdO_ft, Option.map_some, pickX_t, pickX_f, Obt_map, Obt_ite', fillX, stX_l, stV_var, splice, List.take_zero, List.take_succ_cons, List.drop_succ_cons, List.drop_nil, List.nil_append, List.cons_append, List.append_nil, List.length_cons, List.length_nil, Nat.reduceLeDiff, and_self, and_true, true_and, Nat.le_refl, Nat.zero_le, rdA_var, Bool.true_and, offK_l, keyL_nil, keyL_f, decide_false, Bool.or_false, Bool.false_eq_true, if_false, if_true, r25, tend, tresAll, tresC, Option.bind_some, mapMem, retv_bool, tup_one, Prod.mk.injEq, CV.bool.injEq, offP_t, offP_f, offP_nil, Obt_offSL, sameL_nil, sameL_t, sameL_f, escList_nil, Nat.lt_irrefl, Nat.reduceLT, List.take_nil, Nat.zero_mul, offP_f, offP_nil, offP_t, ldA_l, n1, n2, n3, n4, n5, ge_iff_le, hA, hq, hd1, hd2, hd3]))
    | (revert hK; intro hK; (with_reducible refine hK _ ?_; clear hK K)))
  all_goals rfl
theorem x25_op12 (r : Rc) (h : 12 ≤ r.op ∧ r.op < 20) (o q d1 d2 d3 : Bool) (ho : inK r.imm (-32768) 32767 = o) (hF : Facts25 r ⟨r.op, 0, r.a, 0, 0, false, 0, r.imm⟩ q d1 d2 d3) : FF 25 [.agg (rcC r)] [] = some (.bool (o && (q && (d1 && (d2 && d3)))), []) := by
  have hA : ∀ t m, callC An FF 25 (some t) 50 [.int .i64 r.imm, .int .i64 (-32768), .int .i64 (32767)] m = some (.bool o, m) := fun t m => by rw [k50, ← ho]; rfl
  clear ho
  obtain ⟨hq, hd1, hd2, hd3⟩ := hF
  obtain ⟨op, d, a, b, fn, w, p, i⟩ := r
  simp only at h
  have n1 : ¬ op = 1 := by omega
  have n2 : ¬ op = 2 := by omega
  have n3 : ¬ op = 3 := by omega
  have n4 : 4 ≤ op := by omega
  have n5 : ¬ op < 12 := by omega
  have n6 : 12 ≤ op := h.1
  have n7 : op < 20 := h.2
  simp only [rcC] at hq hd1 hd2 hd3 hA ⊢
  rcases five o q d1 d2 with rfl | ⟨rfl, rfl⟩ | ⟨rfl, rfl, rfl⟩ | ⟨rfl, rfl, rfl, rfl⟩ | ⟨rfl, rfl, rfl, rfl⟩
  all_goals
    refine Fw_funK rfl Tryz.func25 s25 (Nat.le_of_ble_eq_true rfl) (fun Q hqr hqn => ?_)
    rw [cin_t (show An.pure 25 = true from rfl) (by simp only [cans, can_int, can_bool, can_agg, can_str])]
    simp only [tinit, Nat.reduceAdd, c25]
    repeat' (first
    | with_reducible (first | refine Tx_yes rfl ?_ | refine Tx_no rfl ?_ | refine Tx_ret ?_ | refine Tx_blockK (id := 0) (fun Q0 hn0 hx0 hr0 ho0 => ?_) | refine hn0 _ ?_)
    | (with_reducible (first | ((first | refine Tx_regK (fun K hK => ?_) | refine Tx_regE (fun K hK => ?_)); (first | refine t25r0 ?_ | refine t25r1 ?_ | refine t25r2 ?_ | refine t25r3 ?_ | refine t25r4 ?_ | refine t25r8 ?_ | refine t25r11 ?_ | refine t25r14 ?_ | refine t25r15 ?_ | refine t25r16 ?_ | refine t25r33 ?_)) | refine hqr _ ?_); (try simp only [true_implies, false_implies, not_true_eq_false, not_false_eq_true, tget_cons, if_true, if_false, Nat.reduceEqDiff, ccells, Obt_some, Kn_normal, newL_eq, newP_eq, gn_var, gnext_setL, lget_setL, setL_setL, setL_H, Nat.reduceAdd, Nat.zero_add, fldA_ptr, List.drop_zero, ld1_l, ldA_l, rd1_var, List.getElem?_cons_zero, List.getElem?_cons_succ, Obt_lss, Obt_geq, Obt_eql, gdO_tt, gdO_tf, gdO_ff, gdO_ft, Option.map_some, pickX_t, pickX_f, Obt_map, Obt_ite', fillX, stX_l, stV_var, splice, List.take_zero, List.take_succ_cons, List.drop_succ_cons, List.drop_nil, List.nil_append, List.cons_append, List.append_nil, List.length_cons, List.length_nil, Nat.reduceLeDiff, and_self, and_true, true_and, Nat.le_refl, Nat.zero_le, rdA_var, Bool.true_and, if_false, if_true, r25, tend, tresAll, tresC, Option.bind_some, mapMem, retv_bool, tup_one, Prod.mk.injEq, CV.bool.injEq, offP_t, offP_f, offP_nil, Obt_offSL, sameL_nil, sameL_t, sameL_f, escList_nil, Nat.lt_irrefl, Nat.reduceLT, List.take_nil, Nat.zero_mul, offP_f, offP_nil, offP_t, ldA_l, n1, n2, n3, n4, n5, n6, n7, ge_iff_le, hA, hq, hd1, hd2, hd3]))
    | (revert hK; intro hK; (with_reducible refine hK _ ?_; clear hK K)))
  all_goals rfl
theorem x25_op21 (r : Rc) (h : r.op = 21) (o q d1 d2 d3 : Bool) (ho : inK r.imm (-33554432) 33554431 = o) (hF : Facts25 r ⟨r.op, 0, 0, 0, 0, false, 0, r.imm⟩ q d1 d2 d3) : FF 25 [.agg (rcC r)] [] = some (.bool (o && (q && (d1 && (d2 && d3)))), []) := by
  have hA : ∀ t m, callC An FF 25 (some t) 50 [.int .i64 r.imm, .int .i64 (-33554432), .int .i64 (33554431)] m = some (.bool o, m) := fun t m => by rw [k50, ← ho]; rfl
  clear ho
  obtain ⟨hq, hd1, hd2, hd3⟩ := hF
  obtain ⟨op, d, a, b, fn, w, p, i⟩ := r
  simp only at h
  subst h
  simp only [rcC] at hq hd1 hd2 hd3 hA ⊢
  rcases five o q d1 d2 with rfl | ⟨rfl, rfl⟩ | ⟨rfl, rfl, rfl⟩ | ⟨rfl, rfl, rfl, rfl⟩ | ⟨rfl, rfl, rfl, rfl⟩
  all_goals
    refine Fw_funK rfl Tryz.func25 s25 (Nat.le_of_ble_eq_true rfl) (fun Q hqr hqn => ?_)
    rw [cin_t (show An.pure 25 = true from rfl) (by simp only [cans, can_int, can_bool, can_agg, can_str])]
    simp only [tinit, Nat.reduceAdd, c25]
    repeat' (first
    | with_reducible (first | refine Tx_yes rfl ?_ | refine Tx_no rfl ?_ | refine Tx_ret ?_ | refine Tx_blockK (id := 0) (fun Q0 hn0 hx0 hr0 ho0 => ?_) | refine hn0 _ ?_)
    | (with_reducible (first | ((first | refine Tx_regK (fun K hK => ?_) | refine Tx_regE (fun K hK => ?_)); (first | refine t25r0 ?_ | refine t25r1 ?_ | refine t25r2 ?_ | refine t25r3 ?_ | refine t25r4 ?_ | refine t25r8 ?_ | refine t25r11 ?_ | refine t25r14 ?_ | refine t25r17 ?_ | refine t25r20 ?_ | refine t25r21 ?_ | refine t25r33 ?_)) | refine hqr _ ?_); (try simp only [true_implies, false_implies, not_true_eq_false, tget_cons, if_true, if_false, Nat.reduceEqDiff, ccells, Obt_some, Kn_normal, newL_eq, newP_eq, gn_var, gnext_setL, lget_setL, setL_setL, setL_H, Nat.reduceAdd, Nat.zero_add, fldA_ptr, List.drop_zero, ld1_l, ldA_l, rd1_var, List.getElem?_cons_zero, List.getElem?_cons_succ, Obt_lss, Obt_geq, Obt_eql, gdO_tt, gdO_tf, gdO_ff, gdO_ft, Option.map_some, pickX_t, pickX_f, Obt_map, Obt_ite', fillX, stX_l, stV_var, splice, List.take_zero, List.take_succ_cons, List.drop_succ_cons, List.drop_nil, List.nil_append, List.cons_append, List.append_nil, List.length_cons, List.length_nil, Nat.reduceLeDiff, and_self, and_true, true_and, Nat.le_refl, rdA_var, Bool.true_and, if_false, if_true, r25, tend, tresAll, tresC, Option.bind_some, mapMem, retv_bool, tup_one, Prod.mk.injEq, CV.bool.injEq, offP_t, offP_f, offP_nil, Obt_offSL, sameL_nil, sameL_t, sameL_f, escList_nil, Nat.lt_irrefl, Nat.reduceLT, List.take_nil, Nat.zero_mul, offP_f, offP_nil, offP_t, ldA_l, hA, hq, hd1, hd2, hd3]))
    | (revert hK; intro hK; (first | refine And.intro ?_ ?_ | intro _ | omega | (with_reducible refine hK _ ?_; clear hK K))))
  all_goals rfl
theorem x25_op22 (r : Rc) (h : r.op = 22) (o q d1 d2 d3 : Bool) (ho : inK r.imm 1 5 = o) (hF : Facts25 r ⟨r.op, 0, 0, 0, 0, false, 0, r.imm⟩ q d1 d2 d3) : FF 25 [.agg (rcC r)] [] = some (.bool (o && (q && (d1 && (d2 && d3)))), []) := by
  have hA : ∀ t m, callC An FF 25 (some t) 50 [.int .i64 r.imm, .int .i64 (1), .int .i64 (5)] m = some (.bool o, m) := fun t m => by rw [k50, ← ho]; rfl
  clear ho
  obtain ⟨hq, hd1, hd2, hd3⟩ := hF
  obtain ⟨op, d, a, b, fn, w, p, i⟩ := r
  simp only at h
  subst h
  simp only [rcC] at hq hd1 hd2 hd3 hA ⊢
  rcases five o q d1 d2 with rfl | ⟨rfl, rfl⟩ | ⟨rfl, rfl, rfl⟩ | ⟨rfl, rfl, rfl, rfl⟩ | ⟨rfl, rfl, rfl, rfl⟩
  all_goals
    refine Fw_funK rfl Tryz.func25 s25 (Nat.le_of_ble_eq_true rfl) (fun Q hqr hqn => ?_)
    rw [cin_t (show An.pure 25 = true from rfl) (by simp only [cans, can_int, can_bool, can_agg, can_str])]
    simp only [tinit, Nat.reduceAdd, c25]
    repeat' (first
    | with_reducible (first | refine Tx_yes rfl ?_ | refine Tx_no rfl ?_ | refine Tx_ret ?_ | refine Tx_blockK (id := 0) (fun Q0 hn0 hx0 hr0 ho0 => ?_) | refine hn0 _ ?_)
    | (with_reducible (first | ((first | refine Tx_regK (fun K hK => ?_) | refine Tx_regE (fun K hK => ?_)); (first | refine t25r0 ?_ | refine t25r1 ?_ | refine t25r2 ?_ | refine t25r3 ?_ | refine t25r4 ?_ | refine t25r8 ?_ | refine t25r11 ?_ | refine t25r14 ?_ | refine t25r17 ?_ | refine t25r20 ?_ | refine t25r22 ?_ | refine t25r23 ?_ | refine t25r33 ?_)) | refine hqr _ ?_); (try simp only [true_implies, false_implies, not_true_eq_false, tget_cons, if_true, if_false, Nat.reduceEqDiff, ccells, Obt_some, Kn_normal, newL_eq, newP_eq, gn_var, gnext_setL, lget_setL, setL_setL, setL_H, Nat.reduceAdd, Nat.zero_add, fldA_ptr, List.drop_zero, ld1_l, ldA_l, rd1_var, List.getElem?_cons_zero, List.getElem?_cons_succ, Obt_lss, Obt_geq, Obt_eql, gdO_tt, gdO_tf, gdO_ff, gdO_ft, Option.map_some, pickX_t, pickX_f, Obt_map, Obt_ite', fillX, stX_l, stV_var, splice, List.take_zero, List.take_succ_cons, List.drop_succ_cons, List.drop_nil, List.nil_append, List.cons_append, List.append_nil, List.length_cons, List.length_nil, Nat.reduceLeDiff, and_self, and_true, true_and, Nat.le_refl, rdA_var, Bool.true_and, if_false, if_true, r25, tend, tresAll, tresC, Option.bind_some, mapMem, retv_bool, tup_one, Prod.mk.injEq, CV.bool.injEq, offP_t, offP_f, offP_nil, Obt_offSL, sameL_nil, sameL_t, sameL_f, escList_nil, Nat.lt_irrefl, Nat.reduceLT, List.take_nil, Nat.zero_mul, offP_f, offP_nil, offP_t, ldA_l, hA, hq, hd1, hd2, hd3]))
    | (revert hK; intro hK; (first | refine And.intro ?_ ?_ | intro _ | omega | (with_reducible refine hK _ ?_; clear hK K))))
  all_goals rfl
theorem x25_op23 (r : Rc) (h : r.op = 23) (q d1 d2 d3 : Bool) (hF : Facts25 r ⟨r.op, 0, 0, 0, 0, false, 0, 0⟩ q d1 d2 d3) : FF 25 [.agg (rcC r)] [] = some (.bool (q && (d1 && (d2 && d3))), []) := by
  obtain ⟨hq, hd1, hd2, hd3⟩ := hF
  obtain ⟨op, d, a, b, fn, w, p, i⟩ := r
  simp only at h
  subst h
  simp only [rcC] at hq hd1 hd2 hd3 ⊢
  rcases five true q d1 d2 with h9 | ⟨_, rfl⟩ | ⟨_, rfl, rfl⟩ | ⟨_, rfl, rfl, rfl⟩ | ⟨_, rfl, rfl, rfl⟩
  · cases h9
  all_goals
    refine Fw_funK rfl Tryz.func25 s25 (Nat.le_of_ble_eq_true rfl) (fun Q hqr hqn => ?_)
    rw [cin_t (show An.pure 25 = true from rfl) (by simp only [cans, can_int, can_bool, can_agg, can_str])]
    simp only [tinit, Nat.reduceAdd, c25]
    repeat' (first
    | with_reducible (first | refine Tx_yes rfl ?_ | refine Tx_no rfl ?_ | refine Tx_ret ?_ | refine Tx_blockK (id := 0) (fun Q0 hn0 hx0 hr0 ho0 => ?_) | refine hn0 _ ?_)
    | (with_reducible (first | ((first | refine Tx_regK (fun K hK => ?_) | refine Tx_regE (fun K hK => ?_)); (first | refine t25r0 ?_ | refine t25r1 ?_ | refine t25r2 ?_ | refine t25r3 ?_ | refine t25r4 ?_ | refine t25r8 ?_ | refine t25r11 ?_ | refine t25r14 ?_ | refine t25r17 ?_ | refine t25r20 ?_ | refine t25r22 ?_ | refine t25r24 ?_ | refine t25r25 ?_ | refine t25r26 ?_ | refine t25r33 ?_)) | refine hqr _ ?_); (try simp only [true_implies, false_implies, not_true_eq_false, tget_cons, if_true, if_false, Nat.reduceEqDiff, ccells, Obt_some, Kn_normal, newL_eq, newP_eq, gn_var, gnext_setL, lget_setL, setL_setL, setL_H, Nat.reduceAdd, Nat.zero_add, fldA_ptr, List.drop_zero, ld1_l, ldA_l, rd1_var, List.getElem?_cons_zero, List.getElem?_cons_succ, Obt_lss, Obt_geq, Obt_eql, gdO_tt, gdO_tf, gdO_ff, gdO_ft, Option.map_some, pickX_t, pickX_f, Obt_map, Obt_ite', fillX, stX_l, stV_var, splice, List.take_zero, List.take_succ_cons, List.drop_succ_cons, List.drop_nil, List.nil_append, List.cons_append, List.append_nil, List.length_cons, List.length_nil, Nat.reduceLeDiff, and_self, and_true, true_and, Nat.le_refl, Nat.zero_le, rdA_var, Bool.true_and, if_false, if_true, r25, tend, tresAll, tresC, Option.bind_some, mapMem, retv_bool, tup_one, Prod.mk.injEq, CV.bool.injEq, offP_t, offP_f, offP_nil, Obt_offSL, sameL_nil, sameL_t, sameL_f, escList_nil, Nat.lt_irrefl, Nat.reduceLT, List.take_nil, Nat.zero_mul, offP_f, offP_nil, offP_t, ldA_l, hq, hd1, hd2, hd3]))
    | (revert hK; intro hK; (first | refine And.intro ?_ ?_ | intro _ | omega | (with_reducible refine hK _ ?_; clear hK K))))
  all_goals rfl
theorem x25_op24 (r : Rc) (h : r.op = 24) (o q d1 d2 d3 : Bool) (ho : inK r.imm 0 255 = o) (hF : Facts25 r ⟨r.op, r.d, 0, 0, 0, false, 0, r.imm⟩ q d1 d2 d3) : FF 25 [.agg (rcC r)] [] = some (.bool (o && (q && (d1 && (d2 && d3)))), []) := by
  have hA : ∀ t m, callC An FF 25 (some t) 50 [.int .i64 r.imm, .int .i64 (0), .int .i64 (255)] m = some (.bool o, m) := fun t m => by rw [k50, ← ho]; rfl
  clear ho
  obtain ⟨hq, hd1, hd2, hd3⟩ := hF
  obtain ⟨op, d, a, b, fn, w, p, i⟩ := r
  simp only at h
  subst h
  simp only [rcC] at hq hd1 hd2 hd3 hA ⊢
  rcases five o q d1 d2 with rfl | ⟨rfl, rfl⟩ | ⟨rfl, rfl, rfl⟩ | ⟨rfl, rfl, rfl, rfl⟩ | ⟨rfl, rfl, rfl, rfl⟩
  all_goals
    refine Fw_funK rfl Tryz.func25 s25 (Nat.le_of_ble_eq_true rfl) (fun Q hqr hqn => ?_)
    rw [cin_t (show An.pure 25 = true from rfl) (by simp only [cans, can_int, can_bool, can_agg, can_str])]
    simp only [tinit, Nat.reduceAdd, c25]
    repeat' (first
    | with_reducible (first | refine Tx_yes rfl ?_ | refine Tx_no rfl ?_ | refine Tx_ret ?_ | refine Tx_blockK (id := 0) (fun Q0 hn0 hx0 hr0 ho0 => ?_) | refine hn0 _ ?_)
    | (with_reducible (first | ((first | refine Tx_regK (fun K hK => ?_) | refine Tx_regE (fun K hK => ?_)); (first | refine t25r0 ?_ | refine t25r1 ?_ | refine t25r2 ?_ | refine t25r3 ?_ | refine t25r4 ?_ | refine t25r8 ?_ | refine t25r11 ?_ | refine t25r14 ?_ | refine t25r17 ?_ | refine t25r20 ?_ | refine t25r22 ?_ | refine t25r24 ?_ | refine t25r27 ?_ | refine t25r28 ?_ | refine t25r29 ?_ | refine t25r33 ?_)) | refine hqr _ ?_); (try simp only [true_implies, false_implies, not_true_eq_false, tget_cons, if_true, if_false, Nat.reduceEqDiff, ccells, Obt_some, Kn_normal, newL_eq, newP_eq, gn_var, gnext_setL, lget_setL, setL_setL, setL_H, Nat.reduceAdd, Nat.zero_add, fldA_ptr, List.drop_zero, ld1_l, ldA_l, rd1_var, List.getElem?_cons_zero, List.getElem?_cons_succ, Obt_lss, Obt_geq, Obt_eql, gdO_tt, gdO_tf, gdO_ff, gdO_ft, Option.map_some, pickX_t, pickX_f, Obt_map, Obt_ite', fillX, stX_l, stV_var, splice, List.take_zero, List.take_succ_cons, List.drop_succ_cons, List.drop_nil, List.nil_append, List.cons_append, List.append_nil, List.length_cons, List.length_nil, Nat.reduceLeDiff, and_self, and_true, true_and, Nat.le_refl, Nat.zero_le, rdA_var, Bool.true_and, if_false, if_true, r25, tend, tresAll, tresC, Option.bind_some, mapMem, retv_bool, tup_one, Prod.mk.injEq, CV.bool.injEq, offP_t, offP_f, offP_nil, Obt_offSL, sameL_nil, sameL_t, sameL_f, escList_nil, Nat.lt_irrefl, Nat.reduceLT, List.take_nil, Nat.zero_mul, offP_f, offP_nil, offP_t, ldA_l, hA, hq, hd1, hd2, hd3]))
    | (revert hK; intro hK; (first | refine And.intro ?_ ?_ | intro _ | omega | (with_reducible refine hK _ ?_; clear hK K))))
  all_goals rfl
theorem x25_op25 (r : Rc) (h : r.op = 25) (o q d1 d2 d3 : Bool) (ho : inK r.imm 0 255 = o) (hF : Facts25 r ⟨r.op, r.d, 0, 0, 0, false, 0, r.imm⟩ q d1 d2 d3) : FF 25 [.agg (rcC r)] [] = some (.bool (o && (q && (d1 && (d2 && d3)))), []) := by
  have hA : ∀ t m, callC An FF 25 (some t) 50 [.int .i64 r.imm, .int .i64 (0), .int .i64 (255)] m = some (.bool o, m) := fun t m => by rw [k50, ← ho]; rfl
  clear ho
  obtain ⟨hq, hd1, hd2, hd3⟩ := hF
  obtain ⟨op, d, a, b, fn, w, p, i⟩ := r
  simp only at h
  subst h
  simp only [rcC] at hq hd1 hd2 hd3 hA ⊢
  rcases five o q d1 d2 with rfl | ⟨rfl, rfl⟩ | ⟨rfl, rfl, rfl⟩ | ⟨rfl, rfl, rfl, rfl⟩ | ⟨rfl, rfl, rfl, rfl⟩
  all_goals
    refine Fw_funK rfl Tryz.func25 s25 (Nat.le_of_ble_eq_true rfl) (fun Q hqr hqn => ?_)
    rw [cin_t (show An.pure 25 = true from rfl) (by simp only [cans, can_int, can_bool, can_agg, can_str])]
    simp only [tinit, Nat.reduceAdd, c25]
    repeat' (first
    | with_reducible (first | refine Tx_yes rfl ?_ | refine Tx_no rfl ?_ | refine Tx_ret ?_ | refine Tx_blockK (id := 0) (fun Q0 hn0 hx0 hr0 ho0 => ?_) | refine hn0 _ ?_)
    | (with_reducible (first | ((first | refine Tx_regK (fun K hK => ?_) | refine Tx_regE (fun K hK => ?_)); (first | refine t25r0 ?_ | refine t25r1 ?_ | refine t25r2 ?_ | refine t25r3 ?_ | refine t25r4 ?_ | refine t25r8 ?_ | refine t25r11 ?_ | refine t25r14 ?_ | refine t25r17 ?_ | refine t25r20 ?_ | refine t25r22 ?_ | refine t25r24 ?_ | refine t25r27 ?_ | refine t25r28 ?_ | refine t25r29 ?_ | refine t25r33 ?_)) | refine hqr _ ?_); (try simp only [true_implies, false_implies, not_true_eq_false, tget_cons, if_true, if_false, Nat.reduceEqDiff, ccells, Obt_some, Kn_normal, newL_eq, newP_eq, gn_var, gnext_setL, lget_setL, setL_setL, setL_H, Nat.reduceAdd, Nat.zero_add, fldA_ptr, List.drop_zero, ld1_l, ldA_l, rd1_var, List.getElem?_cons_zero, List.getElem?_cons_succ, Obt_lss, Obt_geq, Obt_eql, gdO_tt, gdO_tf, gdO_ff, gdO_ft, Option.map_some, pickX_t, pickX_f, Obt_map, Obt_ite', fillX, stX_l, stV_var, splice, List.take_zero, List.take_succ_cons, List.drop_succ_cons, List.drop_nil, List.nil_append, List.cons_append, List.append_nil, List.length_cons, List.length_nil, Nat.reduceLeDiff, and_self, and_true, true_and, Nat.le_refl, Nat.zero_le, rdA_var, Bool.true_and, if_false, if_true, r25, tend, tresAll, tresC, Option.bind_some, mapMem, retv_bool, tup_one, Prod.mk.injEq, CV.bool.injEq, offP_t, offP_f, offP_nil, Obt_offSL, sameL_nil, sameL_t, sameL_f, escList_nil, Nat.lt_irrefl, Nat.reduceLT, List.take_nil, Nat.zero_mul, offP_f, offP_nil, offP_t, ldA_l, hA, hq, hd1, hd2, hd3]))
    | (revert hK; intro hK; (first | refine And.intro ?_ ?_ | intro _ | omega | (with_reducible refine hK _ ?_; clear hK K))))
  all_goals rfl
theorem x25_op26 (r : Rc) (h : r.op = 26) (q d1 d2 d3 : Bool) (hF : Facts25 r ⟨r.op, r.d, 0, 0, 0, false, 0, 0⟩ q d1 d2 d3) : FF 25 [.agg (rcC r)] [] = some (.bool (q && (d1 && (d2 && d3))), []) := by
  obtain ⟨hq, hd1, hd2, hd3⟩ := hF
  obtain ⟨op, d, a, b, fn, w, p, i⟩ := r
  simp only at h
  subst h
  simp only [rcC] at hq hd1 hd2 hd3 ⊢
  rcases five true q d1 d2 with h9 | ⟨_, rfl⟩ | ⟨_, rfl, rfl⟩ | ⟨_, rfl, rfl, rfl⟩ | ⟨_, rfl, rfl, rfl⟩
  · cases h9
  all_goals
    refine Fw_funK rfl Tryz.func25 s25 (Nat.le_of_ble_eq_true rfl) (fun Q hqr hqn => ?_)
    rw [cin_t (show An.pure 25 = true from rfl) (by simp only [cans, can_int, can_bool, can_agg, can_str])]
    simp only [tinit, Nat.reduceAdd, c25]
    repeat' (first
    | with_reducible (first | refine Tx_yes rfl ?_ | refine Tx_no rfl ?_ | refine Tx_ret ?_ | refine Tx_blockK (id := 0) (fun Q0 hn0 hx0 hr0 ho0 => ?_) | refine hn0 _ ?_)
    | (with_reducible (first | ((first | refine Tx_regK (fun K hK => ?_) | refine Tx_regE (fun K hK => ?_)); (first | refine t25r0 ?_ | refine t25r1 ?_ | refine t25r2 ?_ | refine t25r3 ?_ | refine t25r4 ?_ | refine t25r8 ?_ | refine t25r11 ?_ | refine t25r14 ?_ | refine t25r17 ?_ | refine t25r20 ?_ | refine t25r22 ?_ | refine t25r24 ?_ | refine t25r27 ?_ | refine t25r30 ?_ | refine t25r31 ?_ | refine t25r32 ?_ | refine t25r33 ?_)) | refine hqr _ ?_); (try simp only [true_implies, false_implies, not_true_eq_false, tget_cons, if_true, if_false, Nat.reduceEqDiff, ccells, Obt_some, Kn_normal, newL_eq, newP_eq, gn_var, gnext_setL, lget_setL, setL_setL, setL_H, Nat.reduceAdd, Nat.zero_add, fldA_ptr, List.drop_zero, ld1_l, ldA_l, rd1_var, List.getElem?_cons_zero, List.getElem?_cons_succ, Obt_lss, Obt_geq, Obt_eql, gdO_tt, gdO_tf, gdO_ff, gdO_ft, Option.map_some, pickX_t, pickX_f, Obt_map, Obt_ite', fillX, stX_l, stV_var, splice, List.take_zero, List.take_succ_cons, List.drop_succ_cons, List.drop_nil, List.nil_append, List.cons_append, List.append_nil, List.length_cons, List.length_nil, Nat.reduceLeDiff, and_self, and_true, true_and, Nat.le_refl, Nat.zero_le, rdA_var, Bool.true_and, if_false, if_true, r25, tend, tresAll, tresC, Option.bind_some, mapMem, retv_bool, tup_one, Prod.mk.injEq, CV.bool.injEq, offP_t, offP_f, offP_nil, Obt_offSL, sameL_nil, sameL_t, sameL_f, escList_nil, Nat.lt_irrefl, Nat.reduceLT, List.take_nil, Nat.zero_mul, offP_f, offP_nil, offP_t, ldA_l, hq, hd1, hd2, hd3]))
    | (revert hK; intro hK; (first | refine And.intro ?_ ?_ | intro _ | omega | (with_reducible refine hK _ ?_; clear hK K))))
  all_goals rfl
theorem x25_op27 (r : Rc) (h : r.op = 27) (q d1 d2 d3 : Bool) (hF : Facts25 r ⟨r.op, r.d, 0, 0, 0, false, 0, 0⟩ q d1 d2 d3) : FF 25 [.agg (rcC r)] [] = some (.bool (q && (d1 && (d2 && d3))), []) := by
  obtain ⟨hq, hd1, hd2, hd3⟩ := hF
  obtain ⟨op, d, a, b, fn, w, p, i⟩ := r
  simp only at h
  subst h
  simp only [rcC] at hq hd1 hd2 hd3 ⊢
  rcases five true q d1 d2 with h9 | ⟨_, rfl⟩ | ⟨_, rfl, rfl⟩ | ⟨_, rfl, rfl, rfl⟩ | ⟨_, rfl, rfl, rfl⟩
  · cases h9
  all_goals
    refine Fw_funK rfl Tryz.func25 s25 (Nat.le_of_ble_eq_true rfl) (fun Q hqr hqn => ?_)
    rw [cin_t (show An.pure 25 = true from rfl) (by simp only [cans, can_int, can_bool, can_agg, can_str])]
    simp only [tinit, Nat.reduceAdd, c25]
    repeat' (first
    | with_reducible (first | refine Tx_yes rfl ?_ | refine Tx_no rfl ?_ | refine Tx_ret ?_ | refine Tx_blockK (id := 0) (fun Q0 hn0 hx0 hr0 ho0 => ?_) | refine hn0 _ ?_)
    | (with_reducible (first | ((first | refine Tx_regK (fun K hK => ?_) | refine Tx_regE (fun K hK => ?_)); (first | refine t25r0 ?_ | refine t25r1 ?_ | refine t25r2 ?_ | refine t25r3 ?_ | refine t25r4 ?_ | refine t25r8 ?_ | refine t25r11 ?_ | refine t25r14 ?_ | refine t25r17 ?_ | refine t25r20 ?_ | refine t25r22 ?_ | refine t25r24 ?_ | refine t25r27 ?_ | refine t25r30 ?_ | refine t25r31 ?_ | refine t25r32 ?_ | refine t25r33 ?_)) | refine hqr _ ?_); (try simp only [true_implies, false_implies, not_true_eq_false, tget_cons, if_true, if_false, Nat.reduceEqDiff, ccells, Obt_some, Kn_normal, newL_eq, newP_eq, gn_var, gnext_setL, lget_setL, setL_setL, setL_H, Nat.reduceAdd, Nat.zero_add, fldA_ptr, List.drop_zero, ld1_l, ldA_l, rd1_var, List.getElem?_cons_zero, List.getElem?_cons_succ, Obt_lss, Obt_geq, Obt_eql, gdO_tt, gdO_tf, gdO_ff, gdO_ft, Option.map_some, pickX_t, pickX_f, Obt_map, Obt_ite', fillX, stX_l, stV_var, splice, List.take_zero, List.take_succ_cons, List.drop_succ_cons, List.drop_nil, List.nil_append, List.cons_append, List.append_nil, List.length_cons, List.length_nil, Nat.reduceLeDiff, and_self, and_true, true_and, Nat.le_refl, Nat.zero_le, rdA_var, Bool.true_and, if_false, if_true, r25, tend, tresAll, tresC, Option.bind_some, mapMem, retv_bool, tup_one, Prod.mk.injEq, CV.bool.injEq, offP_t, offP_f, offP_nil, Obt_offSL, sameL_nil, sameL_t, sameL_f, escList_nil, Nat.lt_irrefl, Nat.reduceLT, List.take_nil, Nat.zero_mul, offP_f, offP_nil, offP_t, ldA_l, hq, hd1, hd2, hd3]))
    | (revert hK; intro hK; (first | refine And.intro ?_ ?_ | intro _ | omega | (with_reducible refine hK _ ?_; clear hK K))))
  all_goals rfl
theorem x25_none (r : Rc) (h : r.op < 1 ∨ 27 < r.op) : FF 25 [.agg (rcC r)] [] = some (.bool false, []) := by
  obtain ⟨op, d, a, b, fn, w, p, i⟩ := r
  simp only at h
  have n1 : ¬ op = 1 := by omega
  have n2 : ¬ op = 2 := by omega
  have n3 : ¬ op = 3 := by omega
  have n20 : ¬ op = 20 := by omega
  have n21 : ¬ op = 21 := by omega
  have n22 : ¬ op = 22 := by omega
  have n23 : ¬ op = 23 := by omega
  have n24 : ¬ op = 24 := by omega
  have n25 : ¬ op = 25 := by omega
  have n26 : ¬ op = 26 := by omega
  have n27 : ¬ op = 27 := by omega
  simp only [rcC]
  rcases h with h | h
  · have m1 : ¬ 4 ≤ op := by omega
    have m2 : ¬ 12 ≤ op := by omega
    refine Fw_funK rfl Tryz.func25 s25 (Nat.le_of_ble_eq_true rfl) (fun Q hqr hqn => ?_)
    rw [cin_t (show An.pure 25 = true from rfl) (by simp only [cans, can_int, can_bool, can_agg, can_str])]
    simp only [tinit, Nat.reduceAdd, c25]
    repeat' (first
    | with_reducible (first | refine Tx_no rfl ?_ | refine Tx_ret ?_ | refine Tx_nop ?_ | refine Tx_blockK (id := 0) (fun Q0 hn0 hx0 hr0 ho0 => ?_) | refine hn0 _ ?_)
    | (with_reducible (first | (refine Tx_regK (fun K hK => ?_); (first | refine t25r0 ?_ | refine t25r1 ?_ | refine t25r2 ?_ | refine t25r3 ?_ | refine t25r4 ?_ | refine t25r8 ?_ | refine t25r11 ?_ | refine t25r14 ?_ | refine t25r17 ?_ | refine t25r20 ?_ | refine t25r22 ?_ | refine t25r24 ?_ | refine t25r27 ?_ | refine t25r30 ?_ | refine t25r33 ?_)) | refine hqr _ ?_); (try simp only [true_implies, false_implies, not_false_eq_true, tget_cons, if_true, if_false, Nat.reduceEqDiff, ccells, Obt_some, Kn_normal, newL_eq, newP_eq, gn_var, gnext_setL, lget_setL, setL_setL, setL_H, Nat.reduceAdd, Nat.zero_add, fldA_ptr, List.drop_zero, ld1_l, ldA_l, rd1_var, List.getElem?_cons_zero, List.getElem?_cons_succ, Obt_lss, Obt_geq, Obt_eql, gdO_tt, gdO_tf, gdO_ff, gdO_ft, Option.map_some, pickX_t, pickX_f, Obt_map, Obt_ite', fillX, stX_l, stV_var, splice, List.take_zero, List.take_succ_cons, List.drop_succ_cons, List.drop_nil, List.nil_append, List.cons_append, List.append_nil, List.length_cons, List.length_nil, Nat.reduceLeDiff, and_self, and_true, true_and, Nat.le_refl, rdA_var, if_false, if_true, r25, tend, tresAll, tresC, Option.bind_some, mapMem, retv_bool, tup_one, offP_t, offP_f, offP_nil, Obt_offSL, sameL_nil, sameL_t, sameL_f, escList_nil, Nat.lt_irrefl, Nat.reduceLT, List.take_nil, Nat.zero_mul, ldA_l, n1, n2, n3, n20, n21, n22, n23, n24, n25, n26, n27, m1, m2, ge_iff_le]))
    | (revert hK; intro hK; (with_reducible refine hK _ ?_; clear hK K)))
  · have m1 : 4 ≤ op := by omega
    have m2 : 12 ≤ op := by omega
    have m3 : ¬ op < 12 := by omega
    have m4 : ¬ op < 20 := by omega
    refine Fw_funK rfl Tryz.func25 s25 (Nat.le_of_ble_eq_true rfl) (fun Q hqr hqn => ?_)
    rw [cin_t (show An.pure 25 = true from rfl) (by simp only [cans, can_int, can_bool, can_agg, can_str])]
    simp only [tinit, Nat.reduceAdd, c25]
    repeat' (first
    | with_reducible (first | refine Tx_no rfl ?_ | refine Tx_ret ?_ | refine Tx_nop ?_ | refine Tx_blockK (id := 0) (fun Q0 hn0 hx0 hr0 ho0 => ?_) | refine hn0 _ ?_)
    | (with_reducible (first | (refine Tx_regK (fun K hK => ?_); (first | refine t25r0 ?_ | refine t25r1 ?_ | refine t25r2 ?_ | refine t25r3 ?_ | refine t25r4 ?_ | refine t25r8 ?_ | refine t25r11 ?_ | refine t25r14 ?_ | refine t25r17 ?_ | refine t25r20 ?_ | refine t25r22 ?_ | refine t25r24 ?_ | refine t25r27 ?_ | refine t25r30 ?_ | refine t25r33 ?_)) | refine hqr _ ?_); (try simp only [true_implies, false_implies, not_true_eq_false, not_false_eq_true, tget_cons, if_true, if_false, Nat.reduceEqDiff, ccells, Obt_some, Kn_normal, newL_eq, newP_eq, gn_var, gnext_setL, lget_setL, setL_setL, setL_H, Nat.reduceAdd, Nat.zero_add, fldA_ptr, List.drop_zero, ld1_l, ldA_l, rd1_var, List.getElem?_cons_zero, List.getElem?_cons_succ, Obt_lss, Obt_geq, Obt_eql, gdO_tt, gdO_tf, gdO_ff, gdO_ft, Option.map_some, pickX_t, pickX_f, Obt_map, Obt_ite', fillX, stX_l, stV_var, splice, List.take_zero, List.take_succ_cons, List.drop_succ_cons, List.drop_nil, List.nil_append, List.cons_append, List.append_nil, List.length_cons, List.length_nil, Nat.reduceLeDiff, and_self, and_true, true_and, Nat.le_refl, rdA_var, if_false, if_true, r25, tend, tresAll, tresC, Option.bind_some, mapMem, retv_bool, tup_one, offP_t, offP_f, offP_nil, Obt_offSL, sameL_nil, sameL_t, sameL_f, escList_nil, Nat.lt_irrefl, Nat.reduceLT, List.take_nil, Nat.zero_mul, ldA_l, n1, n2, n3, n20, n21, n22, n23, n24, n25, n26, n27, m1, m2, m3, m4, ge_iff_le]))
    | (revert hK; intro hK; (with_reducible refine hK _ ?_; clear hK K)))
end Go.Cm

namespace Go.Cm
open Go.Proofs Go.Pk
theorem x25_op23' (r : Rc) (h : r.op = 2 ∨ r.op = 3) (o1 o q d1 d2 d3 : Bool) (h1 : inK r.part 0 3 = o1) (ho : inK r.imm 0 65535 = o) (hF : Facts25 r ⟨r.op, r.d, 0, 0, 0, false, r.part, r.imm⟩ q d1 d2 d3) : FF 25 [.agg (rcC r)] [] = some (.bool ((o1 && o) && (q && (d1 && (d2 && d3)))), []) := by
  have hA : ∀ t m, callC An FF 25 (some t) 50 [.int .i64 r.part, .int .i64 0, .int .i64 3] m = some (.bool o1, m) := fun t m => by rw [k50, ← h1]; rfl
  have hB : ∀ t m, callC An FF 25 (some t) 50 [.int .i64 r.imm, .int .i64 0, .int .i64 65535] m = some (.bool o, m) := fun t m => by rw [k50, ← ho]; rfl
  clear ho h1
  obtain ⟨hq, hd1, hd2, hd3⟩ := hF
  obtain ⟨op, d, a, b, fn, w, p, i⟩ := r
  simp only at h
  simp only [rcC] at hq hd1 hd2 hd3 hA hB ⊢
  cases o1 with
  | false =>
    rcases h with rfl | rfl
    all_goals
      refine Fw_funK rfl Tryz.func25 s25 (Nat.le_of_ble_eq_true rfl) (fun Q hqr hqn => ?_)
      rw [cin_t (show An.pure 25 = true from rfl) (by simp only [cans, can_int, can_bool, can_agg, can_str])]
      simp only [tinit, Nat.reduceAdd, c25]
      repeat' (first
      | with_reducible (first | refine Tx_yes rfl ?_ | refine Tx_no rfl ?_ | refine Tx_ret ?_ | refine Tx_blockK (id := 0) (fun Q0 hn0 hx0 hr0 ho0 => ?_) | refine hn0 _ ?_)
      | (with_reducible (first | ((first | refine Tx_regK (fun K hK => ?_) | refine Tx_regE (fun K hK => ?_)); (first | refine t25r0 ?_ | refine t25r1 ?_ | refine t25r2 ?_ | refine t25r3 ?_ | refine t25r4 ?_ | refine t25r8 ?_ | refine t25r9 ?_ | refine t25r10 ?_ | refine t25r33 ?_)) | refine hqr _ ?_); (try simp only [true_implies, false_implies, not_true_eq_false, tget_cons, if_true, if_false, Nat.reduceEqDiff, ccells, Obt_some, Kn_normal, newL_eq, newP_eq, gn_var, gnext_setL, lget_setL, setL_setL, setL_H, Nat.reduceMul, Nat.reduceAdd, Nat.zero_add, fldA_ptr, List.drop_zero, ld1_l, ldA_l, rd1_var, List.getElem?_cons_zero, List.getElem?_cons_succ, Obt_eql, gdO_tf, gdO_ff, gdO_ft, Option.map_some, pickX_t, pickX_f, Obt_map, Obt_ite', fillX, stX_l, stV_var, splice, List.take_zero, List.take_succ_cons, List.drop_succ_cons, List.drop_nil, List.nil_append, List.cons_append, List.append_nil, List.length_cons, List.length_nil, Nat.reduceLeDiff, and_self, and_true, true_and, Nat.le_refl, Nat.zero_le, rdA_var, offK_l, keyL_nil, keyL_f, decide_false, Bool.or_false, Bool.false_eq_true, if_false, if_true, r25, tend, tresAll, tresC, Option.bind_some, mapMem, retv_bool, tup_one, Prod.mk.injEq, CV.bool.injEq, offP_t, offP_f, offP_nil, Obt_offSL, sameL_nil, sameL_t, sameL_f, escList_nil, Nat.lt_irrefl, Nat.reduceLT, List.take_nil, Nat.zero_mul, offP_f, offP_nil, offP_t, ldA_l, hA, hB, hq, hd1, hd2, hd3]))
      | (revert hK; intro hK; (first | refine And.intro ?_ ?_ | intro _ | omega | (with_reducible refine hK _ ?_; clear hK K))))
    all_goals rfl
  | true =>
    rcases h with rfl | rfl
    all_goals rcases five o q d1 d2 with rfl | ⟨rfl, rfl⟩ | ⟨rfl, rfl, rfl⟩ | ⟨rfl, rfl, rfl, rfl⟩ | ⟨rfl, rfl, rfl, rfl⟩
    all_goals
      refine Fw_funK rfl Tryz.func25 s25 (Nat.le_of_ble_eq_true rfl) (fun Q hqr hqn => ?_)
      rw [cin_t (show An.pure 25 = true from rfl) (by simp only [cans, can_int, can_bool, can_agg, can_str])]
      simp only [tinit, Nat.reduceAdd, c25]
      repeat' (first
      | with_reducible (first | refine Tx_yes rfl ?_ | refine Tx_no rfl ?_ | refine Tx_ret ?_ | refine Tx_blockK (id := 0) (fun Q0 hn0 hx0 hr0 ho0 => ?_) | refine hn0 _ ?_)
      | (with_reducible (first | ((first | refine Tx_regK (fun K hK => ?_) | refine Tx_regE (fun K hK => ?_)); (first | refine t25r0 ?_ | refine t25r1 ?_ | refine t25r2 ?_ | refine t25r3 ?_ | refine t25r4 ?_ | refine t25r8 ?_ | refine t25r9 ?_ | refine t25r10 ?_ | refine t25r33 ?_)) | refine hqr _ ?_); (try simp only [true_implies, false_implies, not_true_eq_false, tget_cons, if_true, if_false, Nat.reduceEqDiff, ccells, Obt_some, Kn_normal, newL_eq, newP_eq, gn_var, gnext_setL, lget_setL, setL_setL, setL_H, Nat.reduceMul, Nat.reduceAdd, Nat.zero_add, fldA_ptr, List.drop_zero, ld1_l, ldA_l, rd1_var, List.getElem?_cons_zero, List.getElem?_cons_succ, Obt_eql, gdO_tt, gdO_tf, gdO_ff, gdO_ft, Option.map_some, pickX_t, pickX_f, Obt_map, Obt_ite', fillX, stX_l, stV_var, splice, List.take_zero, List.take_succ_cons, List.drop_succ_cons, List.drop_nil, List.nil_append, List.cons_append, List.append_nil, List.length_cons, List.length_nil, Nat.reduceLeDiff, and_self, and_true, true_and, Nat.le_refl, Nat.zero_le, rdA_var, Bool.and_self, Bool.true_and, offK_l, keyL_nil, keyL_f, decide_false, Bool.or_false, Bool.false_eq_true, if_false, if_true, r25, tend, tresAll, tresC, Option.bind_some, mapMem, retv_bool, tup_one, Prod.mk.injEq, CV.bool.injEq, offP_t, offP_f, offP_nil, Obt_offSL, sameL_nil, sameL_t, sameL_f, escList_nil, Nat.lt_irrefl, Nat.reduceLT, List.take_nil, Nat.zero_mul, offP_f, offP_nil, offP_t, ldA_l, hA, hB, hq, hd1, hd2, hd3]))
      | (revert hK; intro hK; (first | refine And.intro ?_ ?_ | intro _ | omega | (with_reducible refine hK _ ?_; clear hK K))))
    all_goals rfl
theorem x25_op20 (r : Rc) (h : r.op = 20) (o q d1 d2 d3 : Bool) (ho : inK r.imm (-1024) 1023 = o) (hF : Facts25 r ⟨r.op, 0, r.a, r.b, r.fn, r.wide, 0, r.imm⟩ q d1 d2 d3) : FF 25 [.agg (rcC r)] [] = some (.bool ((decide (0 ≤ idxOf condsI r.fn) && o) && (q && (d1 && (d2 && d3)))), []) := by
  have hA : ∀ t m, callC An FF 25 (some t) 50 [.int .i64 r.imm, .int .i64 (-1024), .int .i64 1023] m = some (.bool o, m) := fun t m => by rw [k50, ← ho]; rfl
  have hN := fun (t : Tmp) (m : Mem) => k37 r.fn (fid := 25) (t := t) (m := m)
  clear ho
  obtain ⟨hq, hd1, hd2, hd3⟩ := hF
  obtain ⟨op, d, a, b, fn, w, p, i⟩ := r
  simp only at h
  subst h
  simp only [rcC] at hq hd1 hd2 hd3 hA hN ⊢
  by_cases g : 0 ≤ idxOf condsI fn
  · rw [decide_eq_true g]
    rcases five o q d1 d2 with rfl | ⟨rfl, rfl⟩ | ⟨rfl, rfl, rfl⟩ | ⟨rfl, rfl, rfl, rfl⟩ | ⟨rfl, rfl, rfl, rfl⟩
    all_goals
      refine Fw_funK rfl Tryz.func25 s25 (Nat.le_of_ble_eq_true rfl) (fun Q hqr hqn => ?_)
      rw [cin_t (show An.pure 25 = true from rfl) (by simp only [cans, can_int, can_bool, can_agg, can_str])]
      simp only [tinit, Nat.reduceAdd, c25]
      repeat' (first
      | with_reducible (first | refine Tx_yes rfl ?_ | refine Tx_no rfl ?_ | refine Tx_ret ?_ | refine Tx_blockK (id := 0) (fun Q0 hn0 hx0 hr0 ho0 => ?_) | refine hn0 _ ?_)
      | (with_reducible (first | ((first | refine Tx_regK (fun K hK => ?_) | refine Tx_regE (fun K hK => ?_)); (first | refine t25r0 ?_ | refine t25r1 ?_ | refine t25r2 ?_ | refine t25r3 ?_ | refine t25r4 ?_ | refine t25r8 ?_ | refine t25r11 ?_ | refine t25r14 ?_ | refine t25r17 ?_ | refine t25r18 ?_ | refine t25r19 ?_ | refine t25r33 ?_)) | refine hqr _ ?_); (try simp only [true_implies, false_implies, not_true_eq_false, tget_cons, if_true, if_false, Nat.reduceEqDiff, ccells, Obt_some, Kn_normal, newL_eq, newP_eq, gn_var, gnext_setL, lget_setL, setL_setL, setL_H, Nat.reduceMul, Nat.reduceAdd, Nat.zero_add, fldA_ptr, List.drop_zero, ld1_l, ldA_l, rd1_var, List.getElem?_cons_zero, List.getElem?_cons_succ, Obt_lss, Obt_geq, Obt_eql, gdO_tt, gdO_tf, gdO_ff, gdO_ft, Option.map_some, pickX_t, pickX_f, Obt_map, Obt_ite', fillX, stX_l, stV_var, splice, List.take_zero, List.take_succ_cons, List.drop_succ_cons, List.drop_nil, List.nil_append, List.cons_append, List.append_nil, List.length_cons, List.length_nil, Nat.reduceLeDiff, and_self, and_true, true_and, Nat.le_refl, Nat.zero_le, rdA_var, Bool.and_self, Bool.true_and, offK_l, keyL_nil, keyL_f, decide_false, Bool.or_false, Bool.false_eq_true, if_false, if_true, r25, tend, tresAll, tresC, Option.bind_some, mapMem, retv_bool, tup_one, Prod.mk.injEq, CV.bool.injEq, offP_t, offP_f, offP_nil, Obt_offSL, sameL_nil, sameL_t, sameL_f, escList_nil, Nat.lt_irrefl, Nat.reduceLT, List.take_nil, Nat.zero_mul, offP_f, offP_nil, offP_t, ldA_l, hA, hN, g, ge_iff_le, hq, hd1, hd2, hd3]))
      | (revert hK; intro hK; (first | refine And.intro ?_ ?_ | intro _ | omega | (with_reducible refine hK _ ?_; clear hK K))))
    all_goals rfl
  · rw [decide_eq_false g]
    refine Fw_funK rfl Tryz.func25 s25 (Nat.le_of_ble_eq_true rfl) (fun Q hqr hqn => ?_)
    rw [cin_t (show An.pure 25 = true from rfl) (by simp only [cans, can_int, can_bool, can_agg, can_str])]
    simp only [tinit, Nat.reduceAdd, c25]
    repeat' (first
    | with_reducible (first | refine Tx_yes rfl ?_ | refine Tx_no rfl ?_ | refine Tx_ret ?_ | refine Tx_blockK (id := 0) (fun Q0 hn0 hx0 hr0 ho0 => ?_) | refine hn0 _ ?_)
    | (with_reducible (first | ((first | refine Tx_regK (fun K hK => ?_) | refine Tx_regE (fun K hK => ?_)); (first | refine t25r0 ?_ | refine t25r1 ?_ | refine t25r2 ?_ | refine t25r3 ?_ | refine t25r4 ?_ | refine t25r8 ?_ | refine t25r11 ?_ | refine t25r14 ?_ | refine t25r17 ?_ | refine t25r18 ?_ | refine t25r19 ?_ | refine t25r33 ?_)) | refine hqr _ ?_); (try simp only [true_implies, false_implies, not_true_eq_false, not_false_eq_true, tget_cons, if_true, if_false, Nat.reduceEqDiff, ccells, Obt_some, Kn_normal, newL_eq, newP_eq, gn_var, gnext_setL, lget_setL, setL_setL, setL_H, Nat.reduceMul, Nat.reduceAdd, Nat.zero_add, fldA_ptr, List.drop_zero, ld1_l, ldA_l, rd1_var, List.getElem?_cons_zero, List.getElem?_cons_succ, Obt_lss, Obt_geq, Obt_eql, gdO_tt, gdO_tf, gdO_ff, gdO_ft, Option.map_some, pickX_t, pickX_f, Obt_map, Obt_ite', fillX, stX_l, stV_var, splice, List.take_zero, List.take_succ_cons, List.drop_succ_cons, List.drop_nil, List.nil_append, List.cons_append, List.append_nil, List.length_cons, List.length_nil, Nat.reduceLeDiff, and_self, and_true, true_and, Nat.le_refl, Nat.zero_le, rdA_var, offK_l, keyL_nil, keyL_f, decide_false, Bool.or_false, Bool.false_eq_true, if_false, if_true, r25, tend, tresAll, tresC, Option.bind_some, mapMem, retv_bool, tup_one, Prod.mk.injEq, CV.bool.injEq, offP_t, offP_f, offP_nil, Obt_offSL, sameL_nil, sameL_t, sameL_f, escList_nil, Nat.lt_irrefl, Nat.reduceLT, List.take_nil, Nat.zero_mul, offP_f, offP_nil, offP_t, ldA_l, hA, hN, g, ge_iff_le, hq, hd1, hd2, hd3]))
    | (revert hK; intro hK; (first | refine And.intro ?_ ?_ | intro _ | omega | (with_reducible refine hK _ ?_; clear hK K))))
    all_goals rfl
theorem x25 (r : Rc) : FF 25 [.agg (rcC r)] [] = some (.bool (chk25 r), []) := by
  have hF := fun b => facts25 r b
  unfold chk25 bare25
  by_cases h1 : r.op = 1
  · rw [if_pos h1]; exact x25_op1 r h1 _ _ _ _ _ rfl (hF _)
  rw [if_neg h1]
  by_cases h2 : r.op = 2 ∨ r.op = 3
  · rw [if_pos h2]; exact x25_op23' r h2 _ _ _ _ _ _ rfl rfl (hF _)
  rw [if_neg h2]
  by_cases h3 : 4 ≤ r.op ∧ r.op < 12
  · rw [if_pos h3]; exact x25_op4 r h3 _ _ _ _ _ rfl (hF _)
  rw [if_neg h3]
  by_cases h4 : 12 ≤ r.op ∧ r.op < 20
  · rw [if_pos h4]; exact x25_op12 r h4 _ _ _ _ _ rfl (hF _)
  rw [if_neg h4]
  by_cases h5 : r.op = 20
  · rw [if_pos h5]; exact x25_op20 r h5 _ _ _ _ _ rfl (hF _)
  rw [if_neg h5]
  by_cases h6 : r.op = 21
  · rw [if_pos h6]; exact x25_op21 r h6 _ _ _ _ _ rfl (hF _)
  rw [if_neg h6]
  by_cases h7 : r.op = 22
  · rw [if_pos h7]; exact x25_op22 r h7 _ _ _ _ _ rfl (hF _)
  rw [if_neg h7]
  by_cases h8 : r.op = 23
  · rw [if_pos h8]; dsimp only; rw [Bool.true_and]; exact x25_op23 r h8 _ _ _ _ (hF _)
  rw [if_neg h8]
  by_cases h9 : r.op = 24 ∨ r.op = 25
  · rw [if_pos h9]
    rcases h9 with h | h
    · exact x25_op24 r h _ _ _ _ _ rfl (hF _)
    · exact x25_op25 r h _ _ _ _ _ rfl (hF _)
  rw [if_neg h9]
  by_cases h10 : r.op = 26 ∨ r.op = 27
  · rw [if_pos h10]
    rcases h10 with h | h
    · dsimp only; rw [Bool.true_and]; exact x25_op26 r h _ _ _ _ (hF _)
    · dsimp only; rw [Bool.true_and]; exact x25_op27 r h _ _ _ _ (hF _)
  rw [if_neg h10]
  exact x25_none r (by omega)
end Go.Cm

namespace Go.Cm
open Go.Proofs Go.Pk
theorem regK_iff {n : Int} : regK n = true ↔ 0 ≤ n ∧ n ≤ 31 := by simp [regK]
theorem inK_iff {n a b : Int} : inK n a b = true ↔ a ≤ n ∧ n ≤ b := by simp [inK]
theorem alu_back {n : Int} (h : aluK n = true) : 0 ≤ IntKind.i64.wrap (n.tdiv 16) ∧ IntKind.i64.wrap (n.tdiv 16) ≤ 15 ∧ IntKind.i64.wrap (16 * IntKind.i64.wrap (n.tdiv 16)) = n := by
  simp only [aluK, List.contains_eq_mem, List.mem_cons, List.not_mem_nil, or_false, decide_eq_true_eq] at h
  rcases h with rfl | rfl | rfl | rfl | rfl | rfl | rfl | rfl | rfl | rfl | rfl | rfl | rfl <;> decide
theorem idx_le : ∀ (l : List Int) (v : Int), -1 ≤ idxOf l v ∧ idxOf l v < l.length
  | [], v => by simp [idxOf]
  | a :: l, v => by
    have h := idx_le l v
    simp only [idxOf, List.length_cons]
    split
    · omega
    · split <;> omega
theorem cond_back {v : Int} (h : 0 ≤ idxOf condsI v) : condAt (idxOf condsI v) = v := by
  by_cases g : v ∈ condsI
  · simp only [condsI, List.mem_cons, List.not_mem_nil, or_false] at g
    rcases g with rfl | rfl | rfl | rfl | rfl | rfl | rfl | rfl | rfl | rfl | rfl <;> decide
  · rw [idxOf_none (fun x hx e => g (by rw [← e]; exact hx))] at h
    omega
theorem wide_back {w : Bool} : decide ((0 : Int) < if w = true then 1 else 0) = w := by cases w <;> rfl
theorem wide_in {w : Bool} : ((0 : Int) ≤ (if w = true then 1 else 0) ∧ (if w = true then (1 : Int) else 0) ≤ 1) ↔ True := by cases w <;> simp
theorem runF_cons {f : Fd} {fs : List Fd} {r s t : Rc} : runF (f :: fs) r s = some t ↔ (f.lo ≤ f.get r ∧ f.get r ≤ f.hi) ∧ runF fs r (f.set s (f.get r)) = some t := by
  rw [runF]
  by_cases g : f.get r < f.lo ∨ f.hi < f.get r
  · rw [if_pos g]
    constructor
    · intro h; cases h
    · intro h; omega
  · rw [if_neg g]
    constructor
    · intro h; exact ⟨by omega, h⟩
    · intro h; exact h.2
theorem runF_nil {r s t : Rc} : runF [] r s = some t ↔ s = t := by simp [runF]
theorem chk48_iff (r : Rc) : chk48 r = true ↔ runF (layOf r.op).1 r ⟨r.op, 0, 0, 0, 0, false, 0, 0⟩ = some r ∧ (layOf r.op).1.isEmpty = false ∧ moreK r = true := by
  unfold chk48
  cases h : runF (layOf r.op).1 r ⟨r.op, 0, 0, 0, 0, false, 0, 0⟩ with
  | none => simp
  | some s => simp [rcEq_iff]; constructor <;> (intro g; simp_all)
theorem chk25_iff (r : Rc) : chk25 r = true ↔ (bare25 r).2 = true ∧ r = (bare25 r).1 ∧ (0 ≤ r.d ∧ r.d ≤ 31) ∧ (0 ≤ r.a ∧ r.a ≤ 31) ∧ (0 ≤ r.b ∧ r.b ≤ 31) := by
  unfold chk25
  simp only [Bool.and_eq_true, rcEq_iff, regK_iff]
theorem e5 : (2 : Int) ^ (5 : Int).toNat - 1 = 31 := by decide
theorem e2 : (2 : Int) ^ (2 : Int).toNat - 1 = 3 := by decide
theorem e3 : (2 : Int) ^ (3 : Int).toNat - 1 = 7 := by decide
theorem e1 : (2 : Int) ^ (1 : Int).toNat - 1 = 1 := by decide
theorem e4 : (2 : Int) ^ (4 : Int).toNat - 1 = 15 := by decide
theorem e16 : (2 : Int) ^ (16 : Int).toNat - 1 = 65535 := by decide
theorem e26 : (2 : Int) ^ (26 : Int).toNat - 1 = 67108863 := by decide
theorem f16 : (2 : Int) ^ ((16 : Int).toNat - 1) = 32768 := by decide
theorem f26 : (2 : Int) ^ ((26 : Int).toNat - 1) = 33554432 := by decide
theorem f11 : (2 : Int) ^ ((11 : Int).toNat - 1) = 1024 := by decide
theorem chk_eq (r : Rc) : chk48 r = chk25 r := by
  rw [Bool.eq_iff_iff, chk48_iff, chk25_iff]
  have hl := idx_le condsI r.fn
  have h11 : condsI.length = 11 := rfl
  rw [h11] at hl
  obtain ⟨op, d, a, b, fn, w, p, i⟩ := r
  unfold bare25 layOf moreK
  simp only at hl ⊢
  by_cases h1 : op = 1
  · subst h1
    simp only [if_true, runF_cons, runF_nil, Fd.get, Fd.set, Fd.lo, Fd.hi, Fd.n, Fd.s, bnd, Cell.get, Cell.set, Rc.mk.injEq, wide_in, wide_back, e1, e5, e4, List.isEmpty_cons, Bool.false_eq_true, if_false, and_self, true_and, and_true, and_assoc]
    constructor
    · rintro h
      have ha : aluK fn = true := by simp only [h]
      obtain ⟨q1, q2, q3⟩ := alu_back ha
      repeat' (first | omega | assumption | rfl | constructor | (cases w <;> simp_all <;> done))
    · rintro h
      have ha := h.1
      obtain ⟨q1, q2, q3⟩ := alu_back ha
      repeat' (first | omega | assumption | rfl | constructor | (cases w <;> simp_all <;> done))
  by_cases h2 : op = 2 ∨ op = 3
  · have n22 : ¬ op = 22 := by omega
    have n24 : ¬ (op = 24 ∨ op = 25) := by omega
    simp only [h1, h2, n22, n24, if_true, runF_cons, runF_nil, Fd.get, Fd.set, Fd.lo, Fd.hi, Fd.n, Fd.s, bnd, Cell.get, Cell.set, Rc.mk.injEq, inK_iff, Bool.and_eq_true, e5, e2, e3, e16, List.isEmpty_cons, Bool.false_eq_true, if_false, and_self, true_and, and_true, and_assoc]
    constructor
    · rintro h
      repeat' (first | omega | assumption | rfl | constructor | (cases w <;> simp_all <;> done))
    · rintro h
      repeat' (first | omega | assumption | rfl | constructor | (cases w <;> simp_all <;> done))
  by_cases h3 : 4 ≤ op ∧ op < 12
  · have n22 : ¬ op = 22 := by omega
    have n24 : ¬ (op = 24 ∨ op = 25) := by omega
    simp only [h1, h2, h3, n22, n24, if_true, runF_cons, runF_nil, Fd.get, Fd.set, Fd.lo, Fd.hi, Fd.n, Fd.s, bnd, Cell.get, Cell.set, Rc.mk.injEq, inK_iff, Bool.and_eq_true, e5, f16, List.isEmpty_cons, Bool.false_eq_true, if_false, and_self, true_and, and_true, and_assoc]
    constructor
    · rintro h
      repeat' (first | omega | assumption | rfl | constructor | (cases w <;> simp_all <;> done))
    · rintro h
      repeat' (first | omega | assumption | rfl | constructor | (cases w <;> simp_all <;> done))
  by_cases h4 : 12 ≤ op ∧ op < 20
  · have n22 : ¬ op = 22 := by omega
    have n24 : ¬ (op = 24 ∨ op = 25) := by omega
    simp only [h1, h2, h3, h4, n22, n24, if_true, runF_cons, runF_nil, Fd.get, Fd.set, Fd.lo, Fd.hi, Fd.n, Fd.s, bnd, Cell.get, Cell.set, Rc.mk.injEq, inK_iff, Bool.and_eq_true, e5, f16, List.isEmpty_cons, Bool.false_eq_true, if_false, and_self, true_and, and_true, and_assoc]
    constructor
    · rintro h
      repeat' (first | omega | assumption | rfl | constructor | (cases w <;> simp_all <;> done))
    · rintro h
      repeat' (first | omega | assumption | rfl | constructor | (cases w <;> simp_all <;> done))
  by_cases h5 : op = 20
  · subst h5
    simp only [h1, h2, h3, h4, if_true, runF_cons, runF_nil, Fd.get, Fd.set, Fd.lo, Fd.hi, Fd.n, Fd.s, bnd, Cell.get, Cell.set, Rc.mk.injEq, inK_iff, Bool.and_eq_true, wide_in, wide_back, e1, e5, e4, f11, List.isEmpty_cons, Bool.false_eq_true, if_false, and_self, true_and, and_true, and_assoc, decide_eq_true_eq]
    constructor
    · rintro h
      have := cond_back (v := fn) (by omega)
      repeat' (first | omega | assumption | rfl | constructor | (cases w <;> simp_all <;> done))
    · rintro h
      have := cond_back (v := fn) (by omega)
      repeat' (first | omega | assumption | rfl | constructor | (cases w <;> simp_all <;> done))
  by_cases h6 : op = 21
  · subst h6
    simp only [h1, h2, h3, h4, h5, if_true, runF_cons, runF_nil, Fd.get, Fd.set, Fd.lo, Fd.hi, Fd.n, Fd.s, bnd, Cell.get, Cell.set, Rc.mk.injEq, inK_iff, f26, List.isEmpty_cons, Bool.false_eq_true, if_false, and_self, true_and, and_true, and_assoc]
    constructor
    · rintro h
      repeat' (first | omega | assumption | rfl | constructor | (cases w <;> simp_all <;> done))
    · rintro h
      repeat' (first | omega | assumption | rfl | constructor | (cases w <;> simp_all <;> done))
  by_cases h7 : op = 22
  · subst h7
    simp only [h1, h2, h3, h4, h5, h6, if_true, runF_cons, runF_nil, Fd.get, Fd.set, Fd.lo, Fd.hi, Fd.n, Fd.s, bnd, Cell.get, Cell.set, Rc.mk.injEq, inK_iff, e26, List.isEmpty_cons, Bool.false_eq_true, if_false, and_self, true_and, and_true, and_assoc, decide_eq_true_eq]
    constructor
    · rintro h
      repeat' (first | omega | assumption | rfl | constructor | (cases w <;> simp_all <;> done))
    · rintro h
      repeat' (first | omega | assumption | rfl | constructor | (cases w <;> simp_all <;> done))
  by_cases h8 : op = 23
  · subst h8
    simp only [h1, h2, h3, h4, h5, h6, h7, if_true, runF_cons, runF_nil, Fd.get, Fd.set, Fd.lo, Fd.hi, Fd.n, Fd.s, bnd, Cell.get, Cell.set, Rc.mk.injEq, inK_iff, e1, List.isEmpty_cons, Bool.false_eq_true, if_false, and_self, true_and, and_true, and_assoc]
    constructor
    · rintro h
      repeat' (first | omega | assumption | rfl | constructor | (cases w <;> simp_all <;> done))
    · rintro h
      repeat' (first | omega | assumption | rfl | constructor | (cases w <;> simp_all <;> done))
  by_cases h9 : op = 24 ∨ op = 25
  · simp only [h1, h2, h3, h4, h5, h6, h7, h8, h9, if_true, runF_cons, runF_nil, Fd.get, Fd.set, Fd.lo, Fd.hi, Fd.n, Fd.s, bnd, Cell.get, Cell.set, Rc.mk.injEq, inK_iff, e5, e16, List.isEmpty_cons, Bool.false_eq_true, if_false, and_self, true_and, and_true, and_assoc, decide_eq_true_eq]
    constructor
    · rintro h
      repeat' (first | omega | assumption | rfl | constructor | (cases w <;> simp_all <;> done))
    · rintro h
      repeat' (first | omega | assumption | rfl | constructor | (cases w <;> simp_all <;> done))
  by_cases h10 : op = 26 ∨ op = 27
  · simp only [h1, h2, h3, h4, h5, h6, h7, h8, h9, h10, if_true, runF_cons, runF_nil, Fd.get, Fd.set, Fd.lo, Fd.hi, Fd.n, Fd.s, bnd, Cell.get, Cell.set, Rc.mk.injEq, e5, List.isEmpty_cons, Bool.false_eq_true, if_false, and_self, true_and, and_true, and_assoc]
    constructor
    · rintro h
      repeat' (first | omega | assumption | rfl | constructor | (cases w <;> simp_all <;> done))
    · rintro h
      repeat' (first | omega | assumption | rfl | constructor | (cases w <;> simp_all <;> done))
  simp [h1, h2, h3, h4, h5, h6, h7, h8, h9, h10]
end Go.Cm
