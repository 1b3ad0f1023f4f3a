import Derived.Test.YtlflghggdpbcnaaGreatGwN
import Derived.Test.YtlflghggdpbcnaaGreatGyE
set_option linter.unusedSimpArgs false
set_option linter.unusedVariables false
namespace Go.Cm
open Go.Proofs Go.Pk
def aluK (op : Int) : Bool := [0, 16, 32, 48, 64, 80, 96, 112, 128, 144, 160, 176, 192].contains op
def pairN : Option (CV × List HO) → Option Bool
  | some (.tuple [.int .u64 _, .bool b], _) => some b
  | _ => none
theorem pairN_of {n : Nat} {f : FuncId} {a : List CV} {b : Bool} (h : pairN (tcall Tryz.prog An EE n f a []) = some b) : ∃ r, (∃ x H', r = (CV.tuple [.int .u64 x, .bool b], H')) ∧ FF f a [] = some r := by
  unfold pairN at h
  split at h
  · rename_i x y H he
    simp only [Option.some.injEq] at h
    subst h
    exact ⟨_, ⟨x, H, rfl⟩, Fw_iff.2 ⟨n, he⟩⟩
  · cases h
theorem alu_cases {op : Int} : op = 0 ∨ op = 16 ∨ op = 32 ∨ op = 48 ∨ op = 64 ∨ op = 80 ∨ op = 96 ∨ op = 112 ∨ op = 128 ∨ op = 144 ∨ op = 160 ∨ op = 176 ∨ op = 192 ∨
    (aluK op = false ∧ ¬ op = 0 ∧ ¬ op = 16 ∧ ¬ op = 32 ∧ ¬ op = 48 ∧ ¬ op = 64 ∧ ¬ op = 80 ∧ ¬ op = 96 ∧ ¬ op = 112 ∧ ¬ op = 128 ∧ ¬ op = 144 ∧ ¬ op = 160 ∧ ¬ op = 176 ∧ ¬ op = 192) := by
  by_cases h : aluK op = true
  · simp [aluK] at h; omega
  · refine .inr (.inr (.inr (.inr (.inr (.inr (.inr (.inr (.inr (.inr (.inr (.inr (.inr ⟨by simpa using h, ?_⟩))))))))))))
    simp [aluK] at h; omega
theorem low0 {fid : FuncId} {d : Tmp} {m : Mem} : callC An FF fid (some d) 169 [.int .u64 0, .bool true] m = some (.int .u64 0, m) :=
  callC_V (H' := []) (Fw_iff.2 ⟨20, by kernel_rfl⟩) (fun _ _ _ => rfl) rfl rfl rfl rfl rfl
theorem x171 {op : Int} (h : ¬ op = 0 ∧ ¬ op = 16 ∧ ¬ op = 32 ∧ ¬ op = 64 ∧ ¬ op = 80 ∧ ¬ op = 128 ∧ ¬ op = 160 ∧ ¬ op = 176) : FF 171 [.int .i64 op, .int .u64 0, .int .u64 0] [] = some (.tuple [.int .u64 0, .bool false], []) := by
  refine Fw_funK rfl Tryz.func171 s171 (Nat.le_of_ble_eq_true rfl) (fun Q hqr hqn => ?_)
  rw [cin_t (show An.pure 171 = true from rfl) (by simp only [cans, can_int, can_bool, can_agg, can_str])]
  simp only [tinit, Nat.reduceAdd, c171]
  repeat' (first
  | with_reducible (first | refine Tx_assoc ?_ | refine Tx_no rfl ?_ | refine Tx_ret ?_ | refine Tx_nop ?_ | refine Tx_blockK (id := 0) (fun Q0 hn0 hx0 hr0 ho0 => ?_) | refine hn0 _ ?_)
  | (with_reducible (first | (refine Tx_regK (fun K hK => ?_); (first | refine t171r0 ?_ | refine t171r1 ?_ | refine t171r2 ?_ | refine t171r4 ?_ | refine t171r6 ?_ | refine t171r8 ?_ | refine t171r10 ?_ | refine t171r12 ?_ | refine t171r14 ?_ | refine t171r16 ?_ | refine t171r18 ?_)) | refine hqr _ ?_); (try simp only [true_implies, false_implies, not_false_eq_true, tget_cons, if_true, if_false, Nat.reduceEqDiff, Obt_some, Kn_normal, Obt_eql, Option.map_some, true_and, if_false, if_true, r171, tend, tresAll, tresC, Option.bind_some, mapMem, retv_int, retv_bool, tup_two, h]))
  | (revert hK; intro hK; (with_reducible refine hK _ ?_; clear hK K)))
  all_goals first | rfl | trivial | simp
theorem x114 (op : Int) : ∃ r, (∃ b H', r = (CV.tuple [.int .u64 b, .bool (aluK op)], H')) ∧ FF 114 [.int .i64 op, .int .u64 0, .int .u64 0, .bool true] [] = some r := by
  rcases alu_cases (op := op) with rfl | rfl | rfl | rfl | rfl | rfl | rfl | rfl | rfl | rfl | rfl | rfl | rfl | ⟨hf, h⟩
  iterate 13 exact pairN_of (n := 20) (by kernel_rfl)
  have hk : ∀ m, callC An FF 114 (some 49) 171 [.int .i64 op, .int .u64 0, .int .u64 0] m = some (.tuple [.int .u64 0, .bool false], m) := fun m => callC_V (x171 (by simp only [h, not_false_eq_true, and_self])) (fun _ _ _ => rfl) rfl rfl rfl rfl rfl
  rw [hf]
  refine Fw_funE rfl Tryz.func114 s114 (Nat.le_of_ble_eq_true rfl) (fun Q hqr hqn => ?_)
  rw [cin_t (show An.pure 114 = true from rfl) (by simp only [cans, can_int, can_bool, can_agg, can_str])]
  simp only [tinit, Nat.reduceAdd, c114]
  repeat' (first
  | with_reducible (first | refine Tx_assoc ?_ | refine Tx_noK rfl ?_ | refine Tx_no rfl ?_ | refine Tx_ret ?_ | refine Tx_nop ?_ | refine Tx_blockK (id := 0) (fun Q0 hn0 hx0 hr0 ho0 => ?_) | refine hn0 _ ?_)
  | (with_reducible (first | (refine Tx_regK (fun K hK => ?_); (first | refine t114r0 ?_ | refine t114r1 ?_ | refine t114r2 ?_ | refine t114r3 ?_ | refine t114r7 ?_ | refine t114r11 ?_ | refine t114r12 ?_ | refine t114r13 ?_ | refine t114r15 ?_ | refine t114r16 ?_)) | refine hqr _ ?_); (try simp only [true_implies, false_implies, not_false_eq_true, tget_cons, if_true, if_false, Nat.reduceEqDiff, Obt_some, Kn_normal, List.getElem?_cons_zero, List.getElem?_cons_succ, Obt_eql, Option.map_some, Obt_ext, true_and, if_false, if_true, r114, tend, tresAll, tresC, Option.bind_some, mapMem, retv_int, retv_bool, tup_two, Prod.mk.injEq, low0, hk, h]))
  | (revert hK; intro hK; (with_reducible refine hK _ ?_; clear hK K)))
  all_goals first | exact ⟨_, _, rfl, rfl⟩ | exact ⟨_, _, rfl⟩ | simp
theorem x49 (op : Int) : ∃ r, (∃ b H', r = (CV.tuple [.int .u64 b, .bool (aluK op)], H')) ∧ FF 49 [.int .i64 op, .int .u64 0, .int .u64 0, .bool true] [] = some r := by
  rcases alu_cases (op := op) with rfl | rfl | rfl | rfl | rfl | rfl | rfl | rfl | rfl | rfl | rfl | rfl | rfl | ⟨hf, h⟩
  iterate 13 exact pairN_of (n := 20) (by kernel_rfl)
  rw [hf]
  refine Fw_funE rfl Tryz.func49 s49 (Nat.le_of_ble_eq_true rfl) (fun Q hqr hqn => ?_)
  rw [cin_t (show An.pure 49 = true from rfl) (by simp only [cans, can_int, can_bool, can_agg, can_str])]
  simp only [tinit, Nat.reduceAdd, c49]
  repeat' (first
  | with_reducible (first | refine Tx_assoc ?_ | refine Tx_nopK ?_ | refine Tx_noK rfl ?_ | refine Tx_no rfl ?_ | refine Tx_ret ?_ | refine Tx_blockK (id := 0) (fun Q0 hn0 hx0 hr0 ho0 => ?_) | refine hr0 _ ?_)
  | (with_reducible (first | (refine Tx_regK (fun K hK => ?_); (first | refine t49r0 ?_ | refine t49r1 ?_ | refine t49r2 ?_ | refine t49r6 ?_ | refine t49r7 ?_ | refine t49r9 ?_ | refine t49r11 ?_ | refine t49r13 ?_ | refine t49r15 ?_ | refine t49r18 ?_ | refine t49r22 ?_ | refine t49r24 ?_ | refine t49r26 ?_ | refine t49r28 ?_ | refine t49r29 ?_ | refine t49r30 ?_ | refine t49r32 ?_ | refine t49r34 ?_ | refine t49r8 ?_)) | refine hqr _ ?_); (try simp only [true_implies, false_implies, not_false_eq_true, tget_cons, if_true, if_false, Nat.reduceEqDiff, Obt_some, Kn_normal, Obt_eql, Obt_not, Option.map_some, Bool.not_true, true_and, if_false, if_true, r49, tend, tresAll, tresC, Option.bind_some, mapMem, retv_int, retv_bool, tup_two, Prod.mk.injEq, h]))
  | (revert hK; intro hK; (with_reducible refine hK _ ?_; clear hK K)))
  all_goals first | exact ⟨_, _, rfl, rfl⟩ | exact ⟨_, _, rfl⟩ | simp
def moreK (r : Rc) : Bool := if r.op = 1 then aluK r.fn else if r.op = 22 then decide (1 ≤ r.imm ∧ r.imm ≤ 5) else if r.op = 24 ∨ r.op = 25 then decide (r.imm < 256) else true
theorem x76 (r : Rc) : FF 76 [.agg (rcC r)] [] = some (.bool (moreK r), []) := by
  obtain ⟨_, ⟨y, H', rfl⟩, hA⟩ := x114 r.fn
  have hA : ∀ m, callC An FF 76 (some 12) 114 [.int .i64 r.fn, .int .u64 0, .int .u64 0, .bool true] m = some (.tuple [.int .u64 y, .bool (aluK r.fn)], m) := fun m =>
    callC_V hA (fun _ _ _ => rfl) rfl rfl rfl rfl rfl
  by_cases h1 : r.op = 1
  · have he : moreK r = aluK r.fn := by simp [moreK, h1]
    refine Fw_funK rfl Tryz.func76 s76 (Nat.le_of_ble_eq_true rfl) (fun Q hqr hqn => ?_)
    rw [cin_t (show An.pure 76 = true from rfl) (by simp only [cans, can_int, can_bool, can_agg, can_str, rcE.can])]
    simp only [tinit, Nat.reduceAdd, c76]
    repeat' (first
    | with_reducible (first | refine Tx_assoc ?_ | refine Tx_yes rfl ?_ | refine Tx_ret ?_ | refine Tx_blockK (id := 0) (fun Q0 hn0 hx0 hr0 ho0 => ?_) | refine hr0 _ ?_)
    | (with_reducible (first | (refine Tx_regK (fun K hK => ?_); (first | refine t76r0 ?_ | refine t76r1 ?_ | refine t76r2 ?_ | refine t76r3 ?_ | refine t76r4 ?_)) | refine hqr _ ?_); (try simp only [true_implies, false_implies, not_true_eq_false, tget_cons, if_true, if_false, Nat.reduceEqDiff, ccells, Obt_some, Kn_normal, newL_eq, newP_eq, lget_setL, setL_H, Nat.zero_add, fldA_ptr, ld1_l, rd1_var, List.getElem?_cons_zero, List.getElem?_cons_succ, Obt_eql, Option.map_some, Obt_ext, and_true, if_false, if_true, r76, tend, tresAll, tresC, Option.bind_some, mapMem, retv_bool, tup_one, rcC, h1, hA, he]))
    | (revert hK; intro hK; (with_reducible refine hK _ ?_; clear hK K)))
  by_cases h2 : r.op = 22
  · have he : moreK r = decide (1 ≤ r.imm ∧ r.imm ≤ 5) := by simp [moreK, h2]
    by_cases g1 : 1 ≤ r.imm
    · by_cases g2 : r.imm ≤ 5
      · have he' : moreK r = true := by rw [he]; simp [g1, g2]
        refine Fw_funK rfl Tryz.func76 s76 (Nat.le_of_ble_eq_true rfl) (fun Q hqr hqn => ?_)
        rw [cin_t (show An.pure 76 = true from rfl) (by simp only [cans, can_int, can_bool, can_agg, can_str, rcE.can])]
        simp only [tinit, Nat.reduceAdd, c76]
        repeat' (first
        | with_reducible (first | refine Tx_assoc ?_ | refine Tx_yes rfl ?_ | refine Tx_no rfl ?_ | refine Tx_ret ?_ | refine Tx_blockK (id := 0) (fun Q0 hn0 hx0 hr0 ho0 => ?_) | refine hr0 _ ?_)
        | (with_reducible (first | (refine Tx_regK (fun K hK => ?_); (first | refine t76r0 ?_ | refine t76r1 ?_ | refine t76r2 ?_ | refine t76r5 ?_ | refine t76r6 ?_)) | refine hqr _ ?_); (try simp only [true_implies, false_implies, not_true_eq_false, tget_cons, if_true, if_false, Nat.reduceEqDiff, ccells, Obt_some, Kn_normal, newL_eq, newP_eq, lget_setL, setL_H, Nat.zero_add, fldA_ptr, ld1_l, rd1_var, List.getElem?_cons_zero, List.getElem?_cons_succ, Obt_leq, Obt_geq, Obt_eql, gdO_tt, gdO_ft, Option.map_some, pickX_t, pickX_f, Obt_map, and_true, if_false, if_true, r76, tend, tresAll, tresC, Option.bind_some, mapMem, retv_bool, tup_one, rcC, h2, he', g1, g2, ge_iff_le]))
        | (revert hK; intro hK; (first | refine And.intro ?_ ?_ | intro _ | omega | (with_reducible refine hK _ ?_; clear hK K))))
      · have he' : moreK r = false := by rw [he]; simp [g2]
        refine Fw_funK rfl Tryz.func76 s76 (Nat.le_of_ble_eq_true rfl) (fun Q hqr hqn => ?_)
        rw [cin_t (show An.pure 76 = true from rfl) (by simp only [cans, can_int, can_bool, can_agg, can_str, rcE.can])]
        simp only [tinit, Nat.reduceAdd, c76]
        repeat' (first
        | with_reducible (first | refine Tx_assoc ?_ | refine Tx_yes rfl ?_ | refine Tx_no rfl ?_ | refine Tx_ret ?_ | refine Tx_blockK (id := 0) (fun Q0 hn0 hx0 hr0 ho0 => ?_) | refine hr0 _ ?_)
        | (with_reducible (first | (refine Tx_regK (fun K hK => ?_); (first | refine t76r0 ?_ | refine t76r1 ?_ | refine t76r2 ?_ | refine t76r5 ?_ | refine t76r6 ?_)) | refine hqr _ ?_); (try simp only [true_implies, false_implies, not_true_eq_false, not_false_eq_true, tget_cons, if_true, if_false, Nat.reduceEqDiff, ccells, Obt_some, Kn_normal, newL_eq, newP_eq, lget_setL, setL_H, Nat.zero_add, fldA_ptr, ld1_l, rd1_var, List.getElem?_cons_zero, List.getElem?_cons_succ, Obt_leq, Obt_geq, Obt_eql, gdO_tt, gdO_ft, Option.map_some, pickX_t, pickX_f, Obt_map, and_true, true_and, if_false, if_true, r76, tend, tresAll, tresC, Option.bind_some, mapMem, retv_bool, tup_one, rcC, h2, he', g1, g2, ge_iff_le]))
        | (revert hK; intro hK; (first | refine And.intro ?_ ?_ | intro _ | omega | (with_reducible refine hK _ ?_; clear hK K))))
    · have he' : moreK r = false := by rw [he]; simp [g1]
      refine Fw_funK rfl Tryz.func76 s76 (Nat.le_of_ble_eq_true rfl) (fun Q hqr hqn => ?_)
      rw [cin_t (show An.pure 76 = true from rfl) (by simp only [cans, can_int, can_bool, can_agg, can_str, rcE.can])]
      simp only [tinit, Nat.reduceAdd, c76]
      repeat' (first
      | with_reducible (first | refine Tx_assoc ?_ | refine Tx_yes rfl ?_ | refine Tx_no rfl ?_ | refine Tx_ret ?_ | refine Tx_blockK (id := 0) (fun Q0 hn0 hx0 hr0 ho0 => ?_) | refine hr0 _ ?_)
      | (with_reducible (first | (refine Tx_regK (fun K hK => ?_); (first | refine t76r0 ?_ | refine t76r1 ?_ | refine t76r2 ?_ | refine t76r5 ?_ | refine t76r6 ?_)) | refine hqr _ ?_); (try simp only [true_implies, false_implies, not_true_eq_false, not_false_eq_true, tget_cons, if_true, if_false, Nat.reduceEqDiff, ccells, Obt_some, Kn_normal, newL_eq, newP_eq, lget_setL, setL_H, Nat.zero_add, fldA_ptr, ld1_l, rd1_var, List.getElem?_cons_zero, List.getElem?_cons_succ, Obt_leq, Obt_geq, Obt_eql, gdO_tt, gdO_ft, Option.map_some, pickX_t, pickX_f, Obt_map, and_true, true_and, if_false, if_true, r76, tend, tresAll, tresC, Option.bind_some, mapMem, retv_bool, tup_one, rcC, h2, he', g1, ge_iff_le]))
      | (revert hK; intro hK; (first | refine And.intro ?_ ?_ | intro _ | omega | (with_reducible refine hK _ ?_; clear hK K))))
  by_cases h3 : r.op = 24
  · have he : moreK r = decide (r.imm < 256) := by simp [moreK, h3]
    by_cases g : r.imm < 256
    · have he' : moreK r = true := by rw [he]; simp [g]
      refine Fw_funK rfl Tryz.func76 s76 (Nat.le_of_ble_eq_true rfl) (fun Q hqr hqn => ?_)
      rw [cin_t (show An.pure 76 = true from rfl) (by simp only [cans, can_int, can_bool, can_agg, can_str, rcE.can])]
      simp only [tinit, Nat.reduceAdd, c76]
      repeat' (first
      | with_reducible (first | refine Tx_assoc ?_ | refine Tx_nopK ?_ | refine Tx_yesK rfl ?_ | refine Tx_yes rfl ?_ | refine Tx_no rfl ?_ | refine Tx_ret ?_ | refine Tx_blockK (id := 0) (fun Q0 hn0 hx0 hr0 ho0 => ?_) | refine hr0 _ ?_)
      | (with_reducible (first | (refine Tx_regK (fun K hK => ?_); (first | refine t76r0 ?_ | refine t76r1 ?_ | refine t76r2 ?_ | refine t76r5 ?_ | refine t76r7 ?_ | refine t76r9 ?_)) | refine hqr _ ?_); (try simp only [true_implies, false_implies, not_true_eq_false, tget_cons, if_true, if_false, Nat.reduceEqDiff, ccells, Obt_some, Kn_normal, newL_eq, newP_eq, lget_setL, setL_H, Nat.zero_add, fldA_ptr, ld1_l, rd1_var, List.getElem?_cons_zero, List.getElem?_cons_succ, Obt_lss, Obt_eql, Option.map_some, and_true, if_false, if_true, r76, tend, tresAll, tresC, Option.bind_some, mapMem, retv_bool, tup_one, rcC, h3, he', g]))
      | (revert hK; intro hK; (first | refine And.intro ?_ ?_ | intro _ | omega | (with_reducible refine hK _ ?_; clear hK K))))
    · have he' : moreK r = false := by rw [he]; simp [g]
      refine Fw_funK rfl Tryz.func76 s76 (Nat.le_of_ble_eq_true rfl) (fun Q hqr hqn => ?_)
      rw [cin_t (show An.pure 76 = true from rfl) (by simp only [cans, can_int, can_bool, can_agg, can_str, rcE.can])]
      simp only [tinit, Nat.reduceAdd, c76]
      repeat' (first
      | with_reducible (first | refine Tx_assoc ?_ | refine Tx_nopK ?_ | refine Tx_yesK rfl ?_ | refine Tx_yes rfl ?_ | refine Tx_no rfl ?_ | refine Tx_ret ?_ | refine Tx_blockK (id := 0) (fun Q0 hn0 hx0 hr0 ho0 => ?_) | refine hr0 _ ?_)
      | (with_reducible (first | (refine Tx_regK (fun K hK => ?_); (first | refine t76r0 ?_ | refine t76r1 ?_ | refine t76r2 ?_ | refine t76r5 ?_ | refine t76r7 ?_ | refine t76r9 ?_)) | refine hqr _ ?_); (try simp only [true_implies, false_implies, not_true_eq_false, not_false_eq_true, tget_cons, if_true, if_false, Nat.reduceEqDiff, ccells, Obt_some, Kn_normal, newL_eq, newP_eq, lget_setL, setL_H, Nat.zero_add, fldA_ptr, ld1_l, rd1_var, List.getElem?_cons_zero, List.getElem?_cons_succ, Obt_lss, Obt_eql, Option.map_some, and_true, true_and, if_false, if_true, r76, tend, tresAll, tresC, Option.bind_some, mapMem, retv_bool, tup_one, rcC, h3, he', g]))
      | (revert hK; intro hK; (first | refine And.intro ?_ ?_ | intro _ | omega | (with_reducible refine hK _ ?_; clear hK K))))
  by_cases h4 : r.op = 25
  · have he : moreK r = decide (r.imm < 256) := by simp [moreK, h4]
    by_cases g : r.imm < 256
    · have he' : moreK r = true := by rw [he]; simp [g]
      refine Fw_funK rfl Tryz.func76 s76 (Nat.le_of_ble_eq_true rfl) (fun Q hqr hqn => ?_)
      rw [cin_t (show An.pure 76 = true from rfl) (by simp only [cans, can_int, can_bool, can_agg, can_str, rcE.can])]
      simp only [tinit, Nat.reduceAdd, c76]
      repeat' (first
      | with_reducible (first | refine Tx_assoc ?_ | refine Tx_noK rfl ?_ | refine Tx_yes rfl ?_ | refine Tx_no rfl ?_ | refine Tx_ret ?_ | refine Tx_blockK (id := 0) (fun Q0 hn0 hx0 hr0 ho0 => ?_) | refine hr0 _ ?_)
      | (with_reducible (first | (refine Tx_regK (fun K hK => ?_); (first | refine t76r0 ?_ | refine t76r1 ?_ | refine t76r2 ?_ | refine t76r5 ?_ | refine t76r7 ?_ | refine t76r8 ?_ | refine t76r9 ?_)) | refine hqr _ ?_); (try simp only [true_implies, false_implies, not_true_eq_false, tget_cons, if_true, if_false, Nat.reduceEqDiff, ccells, Obt_some, Kn_normal, newL_eq, newP_eq, lget_setL, setL_H, Nat.zero_add, fldA_ptr, ld1_l, rd1_var, List.getElem?_cons_zero, List.getElem?_cons_succ, Obt_lss, Obt_eql, Option.map_some, and_true, if_false, if_true, r76, tend, tresAll, tresC, Option.bind_some, mapMem, retv_bool, tup_one, rcC, h4, he', g]))
      | (revert hK; intro hK; (first | refine And.intro ?_ ?_ | intro _ | omega | (with_reducible refine hK _ ?_; clear hK K))))
    · have he' : moreK r = false := by rw [he]; simp [g]
      refine Fw_funK rfl Tryz.func76 s76 (Nat.le_of_ble_eq_true rfl) (fun Q hqr hqn => ?_)
      rw [cin_t (show An.pure 76 = true from rfl) (by simp only [cans, can_int, can_bool, can_agg, can_str, rcE.can])]
      simp only [tinit, Nat.reduceAdd, c76]
      repeat' (first
      | with_reducible (first | refine Tx_assoc ?_ | refine Tx_noK rfl ?_ | refine Tx_yes rfl ?_ | refine Tx_no rfl ?_ | refine Tx_ret ?_ | refine Tx_blockK (id := 0) (fun Q0 hn0 hx0 hr0 ho0 => ?_) | refine hr0 _ ?_)
      | (with_reducible (first | (refine Tx_regK (fun K hK => ?_); (first | refine t76r0 ?_ | refine t76r1 ?_ | refine t76r2 ?_ | refine t76r5 ?_ | refine t76r7 ?_ | refine t76r8 ?_ | refine t76r9 ?_)) | refine hqr _ ?_); (try simp only [true_implies, false_implies, not_true_eq_false, not_false_eq_true, tget_cons, if_true, if_false, Nat.reduceEqDiff, ccells, Obt_some, Kn_normal, newL_eq, newP_eq, lget_setL, setL_H, Nat.zero_add, fldA_ptr, ld1_l, rd1_var, List.getElem?_cons_zero, List.getElem?_cons_succ, Obt_lss, Obt_eql, Option.map_some, and_true, true_and, if_false, if_true, r76, tend, tresAll, tresC, Option.bind_some, mapMem, retv_bool, tup_one, rcC, h4, he', g]))
      | (revert hK; intro hK; (first | refine And.intro ?_ ?_ | intro _ | omega | (with_reducible refine hK _ ?_; clear hK K))))
  have he : moreK r = true := by simp [moreK, h1, h2, h3, h4]
  refine Fw_funK rfl Tryz.func76 s76 (Nat.le_of_ble_eq_true rfl) (fun Q hqr hqn => ?_)
  rw [cin_t (show An.pure 76 = true from rfl) (by simp only [cans, can_int, can_bool, can_agg, can_str, rcE.can])]
  simp only [tinit, Nat.reduceAdd, c76]
  repeat' (first
  | with_reducible (first | refine Tx_assoc ?_ | refine Tx_noK rfl ?_ | refine Tx_no rfl ?_ | refine Tx_ret ?_ | refine Tx_nop ?_ | refine Tx_blockK (id := 0) (fun Q0 hn0 hx0 hr0 ho0 => ?_) | refine hn0 _ ?_)
  | (with_reducible (first | (refine Tx_regK (fun K hK => ?_); (first | refine t76r0 ?_ | refine t76r1 ?_ | refine t76r2 ?_ | refine t76r5 ?_ | refine t76r7 ?_ | refine t76r8 ?_ | refine t76r10 ?_)) | refine hqr _ ?_); (try simp only [true_implies, false_implies, not_false_eq_true, tget_cons, if_true, if_false, Nat.reduceEqDiff, ccells, Obt_some, Kn_normal, newL_eq, newP_eq, lget_setL, setL_H, Nat.zero_add, fldA_ptr, ld1_l, rd1_var, List.getElem?_cons_zero, Obt_eql, Option.map_some, true_and, if_false, if_true, r76, tend, tresAll, tresC, Option.bind_some, mapMem, retv_bool, tup_one, rcC, h1, h2, h3, h4, he]))
  | (revert hK; intro hK; (with_reducible refine hK _ ?_; clear hK K)))
end Go.Cm

namespace Go.Cm
open Go.Proofs Go.Pk
def chk48 (r : Rc) : Bool := match runF (layOf r.op).1 r ⟨r.op, 0, 0, 0, 0, false, 0, 0⟩ with
  | none => false
  | some s => !((layOf r.op).1.isEmpty) && (rcEq s r && moreK r)
theorem k76 (r : Rc) {fid : FuncId} {t : Tmp} {m : Mem} : callC An FF fid (some t) 76 [.agg (rcC r)] m = some (.bool (moreK r), m) :=
  callC_V (x76 r) (fun _ _ _ => rfl) rfl (by simp only [cans, can_agg, rcE.can]) rfl rfl rfl
theorem box_r {r : Rc} {L : List (Nat × HO)} : boxG (.agg (rcC r)) ⟨L, []⟩ = some (.ptr (.g 0) 1 0, ⟨L, [.var 1 (rcC r) 0]⟩) := rfl
theorem new_s {r : Rc} {o : Int} {L : List (Nat × HO)} {ats : List HO} : stX 8 (gnewL ⟨L, .var 1 (rcC r) 0 :: ats⟩ [.int .i64 0, .int .i64 0, .int .i64 0, .int .i64 0, .int .i64 0, .bool false, .int .i64 0, .int .i64 0]) (.ptr (.g (ats.length + 1)) 1 0) (.agg [.int .i64 o, .int .i64 0, .int .i64 0, .int .i64 0, .int .i64 0, .bool false, .int .i64 0, .int .i64 0]) =
    some ⟨L, HC r ⟨o, 0, 0, 0, 0, false, 0, 0⟩ ats⟩ := by
  have h : gnewL ⟨L, .var 1 (rcC r) 0 :: ats⟩ [.int .i64 0, .int .i64 0, .int .i64 0, .int .i64 0, .int .i64 0, .bool false, .int .i64 0, .int .i64 0] = ⟨L, HC r ⟨0, 0, 0, 0, 0, false, 0, 0⟩ ats⟩ := rfl
  have hc : ccells (.agg [.int .i64 o, .int .i64 0, .int .i64 0, .int .i64 0, .int .i64 0, .bool false, .int .i64 0, .int .i64 0]) = some (rcC ⟨o, 0, 0, 0, 0, false, 0, 0⟩) := rfl
  have e : stX 8 ⟨L, HC r ⟨0, 0, 0, 0, 0, false, 0, 0⟩ ats⟩ (.ptr (.g (ats.length + 1)) 1 0) (.agg [.int .i64 o, .int .i64 0, .int .i64 0, .int .i64 0, .int .i64 0, .bool false, .int .i64 0, .int .i64 0]) = some ⟨L, (HC r ⟨0, 0, 0, 0, 0, false, 0, 0⟩ ats).set (ats.length + 1) (.var 1 (rcC ⟨o, 0, 0, 0, 0, false, 0, 0⟩) 0)⟩ := by
    rw [stX_g, HC_e, hc]; rfl
  rw [h, e, HC_set]
theorem gnewP_s {r : Rc} {L : List (Nat × HO)} {ats : List HO} : gnewP ⟨L, .var 1 (rcC r) 0 :: ats⟩ = .ptr (.g (ats.length + 1)) 1 0 := rfl
section
variable {r s : Rc} {ats : List HO} {L : List (Nat × HO)}
theorem HC_op1 : ld1 ⟨L, .var 1 (rcC r) 0 :: ats⟩ (.ptr (.g 0) 1 0) = some (.int .i64 r.op) := rfl
theorem HC_ld0 : ldA 8 ⟨L, HC r s ats⟩ (.ptr (.g 0) 1 0) = some (.agg (rcC r)) := rfl
theorem HC_lde : ldA 8 ⟨L, HC r s ats⟩ (.ptr (.g (ats.length + 1)) 1 0) = some (.agg (rcC s)) := by
  rw [ldA_g]; simp only [HC_e, rdA_var]; rfl
end
set_option maxHeartbeats 2000000 in
theorem x48 (r : Rc) : ∃ q, (∃ H', q = (CV.bool (chk48 r), H')) ∧ FF 48 [.agg (rcC r)] [] = some q := by
  obtain ⟨fs, hfs⟩ : ∃ fs, fs = (layOf r.op).1 := ⟨_, rfl⟩
  obtain ⟨ats, hats⟩ : ∃ ats, ats = (layOf r.op).2 := ⟨_, rfl⟩
  obtain ⟨hlay, hok⟩ := lay_all (.var 1 (rcC r) 0) r.op
  rw [← hats, ← hfs] at hlay
  rw [← hats, ← hfs] at hok
  have hchk : chk48 r = match runF fs r ⟨r.op, 0, 0, 0, 0, false, 0, 0⟩ with
      | none => false
      | some s => !(fs.isEmpty) && (rcEq s r && moreK r) := by unfold chk48; rw [hfs]
  have hfl : fs.length ≤ 5 := by
    rw [hfs]; unfold layOf
    repeat' (first | (split; · simp) | simp)
  have hcall : ∀ (m : Mem) (K : CV × Mem → Prop), m.H = [.var 1 (rcC r) 0] → (∀ v L, OwnE Fd.cv 4 ⟨L, .var 1 (rcC r) 0 :: ats⟩ 192 v fs → K (v, ⟨L, .var 1 (rcC r) 0 :: ats⟩)) → Obt (callC An FF 48 (some 12) 74 [.int .i64 r.op] m) K := fun m K hm hK => by
    rw [callC_I (A := An) (H' := .var 1 (rcC r) 0 :: ats) rfl rfl (by rw [hm]; exact hlay), Obt_some]
    obtain ⟨v, m', h1, h2, h3, h4⟩ := adopt_ownC (e := Fd.cv) (sz := 4) (m := ⟨m.L, .var 1 (rcC r) 0 :: ats⟩) (l := fs) (d := 12) (gl := (An.glob 48).contains 12) rfl
    rw [h1]
    obtain ⟨L', H'⟩ := m'
    simp only at h3
    subst h3
    exact hK v L' h2
  have hsetL : ∀ (L : List (Nat × HO)) (H : List HO) i x, setL ⟨L, H⟩ i x = ⟨lset L i x, H⟩ := fun _ _ _ _ => rfl
  refine Fw_funE rfl Tryz.func48 s48 (Nat.le_of_ble_eq_true rfl) (fun Q hqr hqn => ?_)
  rw [cin_t (show An.pure 48 = true from rfl) (by simp only [cans, can_int, can_bool, can_agg, can_str, rcE.can])]
  simp only [tinit, Nat.reduceAdd, c48]
  repeat' (first
  | (with_reducible (refine Tx_regK (fun K hK => ?_); (first | refine t48r0 ?_ | refine t48r1 ?_)); (try simp only [tget_cons, if_true, Obt_some, Kn_normal, Nat.zero_add, fldA_ptr, if_true, box_r, HC_op1]))
  | (revert hK; intro hK; (with_reducible refine hK _ ?_; clear hK K)))
  refine hcall _ _ rfl fun v L hO => ?_
  refine hK _ ?_
  clear hK K
  repeat' (first
  | with_reducible (first | refine Tx_assoc ?_ | refine Tx_blockK (id := 0) (fun Q0 hn0 hx0 hr0 ho0 => ?_))
  | (with_reducible (refine Tx_regK (fun K hK => ?_); (first | refine t48r2 ?_ | refine t48r3 ?_)); (try simp only [tget_cons, if_true, if_false, Nat.reduceEqDiff, ccells, Obt_some, Kn_normal, Nat.reduceAdd, Nat.zero_add, fldA_ptr, List.drop_zero, Option.map_some, lenS, Obt_map, fillX, splice, List.take_zero, List.drop_succ_cons, List.nil_append, List.cons_append, List.length_cons, List.length_nil, Nat.reduceLeDiff, and_true, if_false, if_true, HC_op1, gnewP_s, new_s, hO.len]))
  | (revert hK; intro hK; (with_reducible refine hK _ ?_; clear hK K)))
  obtain ⟨s0, hs0⟩ : ∃ s0 : Rc, s0 = ⟨r.op, 0, 0, 0, 0, false, 0, 0⟩ := ⟨_, rfl⟩
  rw [← hs0] at hchk ⊢
  refine Tx_loopK (fun k st => ∃ (dn td : List Fd) (s : Rc) (L : List (Nat × HO)), fs = dn ++ td ∧ k = td.length ∧ runF fs r s0 = runF td r s ∧ OwnE Fd.cv 4 ⟨L, HC r s ats⟩ 192 v fs ∧
      st = ⟨[(1, .ptr (.g 0) 1 0), (3, v), (4, .ptr (.g (ats.length + 1)) 1 0), (16, v), (17, .int .i64 fs.length), (18, .int .i64 dn.length)], ⟨L, HC r s ats⟩⟩) _ ⟨[], fs, s0, L, rfl, rfl, rfl, hO.keep rfl, rfl⟩ ?_
  rintro k st ⟨dn, td, s, L, h2, rfl, hrun, hO, rfl⟩ QL0 hnL0 hxL0 hrL0
  have hlen := congrArg List.length h2
  simp only [List.length_append] at hlen
  simp only [c48l0]
  cases td with
  | nil =>
    simp only [List.length_nil] at hlen
    have hge : ¬ ((dn.length : Int) < fs.length) := by omega
    rw [hrun] at hchk
    simp only [runF] at hchk
    have hq := fun (x y : Operand) => rc_eql s r (x := x) (y := y)
    by_cases h0 : (0 : Int) < fs.length
    · have he : fs.isEmpty = false := by cases fs with
        | nil => simp at h0
        | cons a l => rfl
      rw [he] at hchk
      cases hb : rcEq s r with
      | false =>
        rw [hb] at hq hchk
        simp only [Bool.not_false, Bool.true_and, Bool.false_and] at hchk
        repeat' (first
        | with_reducible (first | refine Tx_noK rfl ?_ | refine Tx_exitK ?_ | refine Tx_ret ?_ | refine hx0 _ ?_ | refine hxL0 _ _ ?_)
        | (with_reducible (first | (refine Tx_regK (fun K hK => ?_); (first | refine t48r4 ?_ | refine t48r12 ?_)) | refine hqr _ ?_); (try simp only [true_implies, false_implies, not_true_eq_false, not_false_eq_true, tget_cons, if_true, if_false, Nat.reduceEqDiff, Obt_some, Kn_normal, Obt_lss, Obt_gtr, gdO_tt, gdO_ft, Option.map_some, pickX_t, pickX_f, lenS, Obt_map, and_true, true_and, if_false, if_true, r48, tend, tresAll, tresC, Option.bind_some, mapMem, retv_bool, tup_one, Prod.mk.injEq, hge, hO.len, h0, HC_lde, HC_ld0, hq, gt_iff_lt, hchk]))
        | (revert hK; intro hK; (with_reducible refine hK _ ?_; clear hK K)))
        all_goals exact ⟨_, rfl⟩
      | true =>
        rw [hb] at hq hchk
        simp only [Bool.not_false, Bool.true_and] at hchk
        repeat' (first
        | with_reducible (first | refine Tx_noK rfl ?_ | refine Tx_exitK ?_ | refine Tx_ret ?_ | refine hx0 _ ?_ | refine hxL0 _ _ ?_)
        | (with_reducible (first | (refine Tx_regK (fun K hK => ?_); (first | refine t48r4 ?_ | refine t48r12 ?_)) | refine hqr _ ?_); (try simp only [true_implies, false_implies, not_true_eq_false, not_false_eq_true, tget_cons, if_true, if_false, Nat.reduceEqDiff, Obt_some, Kn_normal, Obt_lss, Obt_gtr, gdO_tt, gdO_ft, Option.map_some, pickX_t, pickX_f, lenS, Obt_map, and_true, true_and, if_false, if_true, r48, tend, tresAll, tresC, Option.bind_some, mapMem, retv_bool, tup_one, Prod.mk.injEq, hge, hO.len, h0, HC_lde, HC_ld0, hq, gt_iff_lt, hchk, k76]))
        | (revert hK; intro hK; (with_reducible refine hK _ ?_; clear hK K)))
        all_goals exact ⟨_, rfl⟩
    · have he : fs.isEmpty = true := by cases fs with
        | nil => rfl
        | cons a l => simp at h0
      rw [he] at hchk
      simp only [Bool.not_true, Bool.false_and] at hchk
      repeat' (first
      | with_reducible (first | refine Tx_noK rfl ?_ | refine Tx_exitK ?_ | refine Tx_ret ?_ | refine hx0 _ ?_ | refine hxL0 _ _ ?_)
      | (with_reducible (first | (refine Tx_regK (fun K hK => ?_); (first | refine t48r4 ?_ | refine t48r12 ?_)) | refine hqr _ ?_); (try simp only [true_implies, false_implies, not_false_eq_true, tget_cons, if_true, if_false, Nat.reduceEqDiff, Obt_some, Kn_normal, Obt_lss, Obt_gtr, gdO_tt, gdO_ft, Option.map_some, pickX_t, pickX_f, lenS, Obt_map, true_and, if_false, if_true, r48, tend, tresAll, tresC, Option.bind_some, mapMem, retv_bool, tup_one, Prod.mk.injEq, hge, hO.len, h0, gt_iff_lt, hchk]))
      | (revert hK; intro hK; (with_reducible refine hK _ ?_; clear hK K)))
      all_goals exact ⟨_, rfl⟩
  | cons f td =>
    simp only [List.length_cons] at hlen
    have hfo := hok f (by rw [h2]; simp)
    have hlt : (dn.length : Int) < fs.length := by omega
    have hw : IntKind.i64.wrap ((dn.length : Int) + 1) = dn.length + 1 := wI (by omega) (by omega)
    have hget : fs[dn.length]? = some f := by rw [h2]; simp
    obtain ⟨g, rfl, hL, hi⟩ := hO.get hget
    have hidx : idxS 4 (.ref (.l 192) g 0 fs.length) (.int .i64 dn.length) = some (.ptr (.l 192) g (dn.length * 4)) := by
      rw [idxS_ref, if_pos ⟨by omega, by omega⟩]; simp
    obtain ⟨q1, q2⟩ := flat_at (e := Fd.cv) (sz := 4) Fd.cv_len hget
    have hld : rdA g (dn.length * 4) 4 (lget L 192) = some (.agg [.int .i64 f.n, .bool f.s, f.g, f.t]) := by
      simp only [hL, rdA_arr]; rw [if_pos q2, q1]; rfl
    have hkg := fun (L : List (Nat × HO)) (t : Tmp) => kget (L := L) (fid := 48) (t := t) (r := r) (s := s) hfo
    have hkb : ∀ (t : Tmp) (m : Mem), callC An FF 48 (some t) 75 [.agg [.int .i64 f.n, .bool f.s, f.g, f.t]] m = some (.tuple [.int .i64 f.lo, .int .i64 f.hi], m) := fun t m => k75 hfo
    have hnext : ∀ (s' : Rc) L', runF fs r s0 = runF td r s' → OwnE Fd.cv 4 ⟨L', HC r s' ats⟩ 192 (.ref (.l 192) g 0 fs.length) fs →
        QL0 .normal ⟨[(1, .ptr (.g 0) 1 0), (3, .ref (.l 192) g 0 fs.length), (4, .ptr (.g (ats.length + 1)) 1 0), (16, .ref (.l 192) g 0 fs.length), (17, .int .i64 fs.length), (18, .int .i64 ((dn.length : Int) + 1))], ⟨L', HC r s' ats⟩⟩ := fun s' L' q1 q2 => by
      have e : ((dn.length : Int) + 1) = ((dn ++ [f]).length : Int) := by simp
      rw [e]
      exact hnL0 td.length _ (by simp) ⟨dn ++ [f], td, s', L', by simp [h2], rfl, q1, q2, rfl⟩
    by_cases h3 : f.get r < f.lo
    · have hc : chk48 r = false := by rw [hchk, hrun]; simp [runF, h3]
      repeat' (first
      | with_reducible (first | refine Tx_assoc ?_ | refine Tx_nopK ?_ | refine Tx_yesK rfl ?_ | refine Tx_retK ?_ | refine hr0 _ ?_ | refine Tx_blockK (id := 1) (fun Q1 hn1 hx1 hr1 ho1 => ?_) | refine hr1 _ ?_ | refine hrL0 _ ?_)
      | (with_reducible (first | (refine Tx_regK (fun K hK => ?_); (first | refine t48r4 ?_ | refine t48r5 ?_ | refine t48r6 ?_ | refine t48r7 ?_ | refine t48r8 ?_ | refine t48r9 ?_)) | refine hqr _ ?_); (try simp only [true_implies, false_implies, not_true_eq_false, tget_cons, if_true, if_false, Nat.reduceEqDiff, ccells, Obt_some, Kn_normal, newL_eq, newP_eq, lget_lset, Nat.reduceAdd, Nat.zero_add, fldA_ptr, List.drop_zero, ld1_l, ldA_l, rd1_var, List.getElem?_cons_zero, List.getElem?_cons_succ, Obt_lss, Obt_gtr, gdO_tf, gdO_ff, Option.map_some, pickX_t, pickX_f, Obt_map, Obt_ext, stX_l, stV_var, splice, List.take_zero, List.take_succ_cons, List.drop_succ_cons, List.drop_nil, List.nil_append, List.append_nil, List.length_cons, List.length_nil, and_self, and_true, true_and, Nat.le_refl, rdA_var, if_false, if_true, r48, tend, tresAll, tresC, Option.bind_some, mapMem, retv_bool, tup_one, Prod.mk.injEq, hlt, hidx, hld, hkg, hkb, h3, hc, hsetL]))
      | (revert hK; intro hK; (with_reducible refine hK _ ?_; clear hK K)))
      all_goals exact ⟨_, rfl⟩
    by_cases h4 : f.hi < f.get r
    · have hc : chk48 r = false := by rw [hchk, hrun]; simp [runF, h4]
      repeat' (first
      | with_reducible (first | refine Tx_assoc ?_ | refine Tx_nopK ?_ | refine Tx_yesK rfl ?_ | refine Tx_retK ?_ | refine hr0 _ ?_ | refine Tx_blockK (id := 1) (fun Q1 hn1 hx1 hr1 ho1 => ?_) | refine hr1 _ ?_ | refine hrL0 _ ?_)
      | (with_reducible (first | (refine Tx_regK (fun K hK => ?_); (first | refine t48r4 ?_ | refine t48r5 ?_ | refine t48r6 ?_ | refine t48r7 ?_ | refine t48r8 ?_ | refine t48r9 ?_)) | refine hqr _ ?_); (try simp only [true_implies, false_implies, not_true_eq_false, not_false_eq_true, tget_cons, if_true, if_false, Nat.reduceEqDiff, ccells, Obt_some, Kn_normal, newL_eq, newP_eq, lget_lset, Nat.reduceAdd, Nat.zero_add, fldA_ptr, List.drop_zero, ld1_l, ldA_l, rd1_var, List.getElem?_cons_zero, List.getElem?_cons_succ, Obt_lss, Obt_gtr, gdO_tf, gdO_ff, Option.map_some, pickX_t, pickX_f, Obt_map, Obt_ext, stX_l, stV_var, splice, List.take_zero, List.take_succ_cons, List.drop_succ_cons, List.drop_nil, List.nil_append, List.append_nil, List.length_cons, List.length_nil, and_self, and_true, true_and, Nat.le_refl, rdA_var, if_false, if_true, r48, tend, tresAll, tresC, Option.bind_some, mapMem, retv_bool, tup_one, Prod.mk.injEq, hlt, hidx, hld, hkg, hkb, h3, h4, hc, hsetL, gt_iff_lt]))
      | (revert hK; intro hK; (with_reducible refine hK _ ?_; clear hK K)))
      all_goals exact ⟨_, rfl⟩
    have hks := fun (L : List (Nat × HO)) (t : Tmp) => kset (L := L) (fid := 48) (t := t) (r := r) (s := s) hfo (v := f.get r) (by omega)
    have hr2 : runF fs r s0 = runF td r (f.set s (f.get r)) := by rw [hrun, runF, if_neg (by omega)]
    repeat' (first
    | with_reducible (first | refine Tx_assoc ?_ | refine Tx_nopK ?_ | refine Tx_yesK rfl ?_ | refine Tx_noK rfl ?_ | refine Tx_blockK (id := 1) (fun Q1 hn1 hx1 hr1 ho1 => ?_) | refine hn1 _ ?_)
    | (with_reducible ((first | refine Tx_regK (fun K hK => ?_) | refine Tx_regE (fun K hK => ?_)); (first | refine t48r4 ?_ | refine t48r5 ?_ | refine t48r6 ?_ | refine t48r7 ?_ | refine t48r8 ?_ | refine t48r10 ?_ | refine t48r11 ?_)); (try simp only [true_implies, false_implies, not_true_eq_false, not_false_eq_true, tget_cons, if_true, if_false, Nat.reduceEqDiff, ccells, Obt_some, Kn_normal, newL_eq, newP_eq, lget_lset, Nat.reduceAdd, Nat.zero_add, fldA_ptr, List.drop_zero, ld1_l, ldA_l, rd1_var, List.getElem?_cons_zero, List.getElem?_cons_succ, Obt_lss, Obt_gtr, gdO_tf, gdO_ff, pickX_t, pickX_f, Obt_map, Obt_add, Obt_ext, stX_l, stV_var, splice, List.take_zero, List.take_succ_cons, List.drop_succ_cons, List.drop_nil, List.nil_append, List.append_nil, List.length_cons, List.length_nil, and_self, and_true, true_and, Nat.le_refl, rdA_var, if_false, if_true, hlt, hidx, hld, hkg, hkb, h3, h4, hks, hw, hsetL, gt_iff_lt]))
    | (revert hK; intro hK; (with_reducible refine hK _ ?_; clear hK K)))
    exact hnext _ _ hr2 (hO.keep (by simp [lget_lset]))
end Go.Cm

namespace Go.Cm
open Go.Proofs Go.Pk
structure Dr where
  ins : Rc
  mark : Int
def drC (d : Dr) : List CV := [.int .i64 d.ins.op, .int .i64 d.ins.d, .int .i64 d.ins.a, .int .i64 d.ins.b, .int .i64 d.ins.fn, .bool d.ins.wide, .int .i64 d.ins.part, .int .i64 d.ins.imm, .int .i64 d.mark]
theorem drE : Enc drC 9 := ⟨fun _ => rfl, fun _ => rfl, fun _ => rfl, fun _ => rfl⟩
theorem ldA_r9 {m : Mem} {a0 a1 a2 a3 a4 a5 a6 a7 a8 : CV} {r : List CV} : ldA 9 m (.rptr (a0 :: a1 :: a2 :: a3 :: a4 :: a5 :: a6 :: a7 :: a8 :: r)) = some (.agg [a0, a1, a2, a3, a4, a5, a6, a7, a8]) := by
  simp only [ldA, cellsAt, List.length_cons, Option.map_some]
  rw [if_pos (by omega)]; rfl
theorem k48 (r : Rc) {fid : FuncId} {t : Tmp} {m : Mem} : callC An FF fid (some t) 48 [.agg [.int .i64 r.op, .int .i64 r.d, .int .i64 r.a, .int .i64 r.b, .int .i64 r.fn, .bool r.wide, .int .i64 r.part, .int .i64 r.imm]] m = some (.bool (chk48 r), m) := by
  obtain ⟨_, ⟨H', rfl⟩, h⟩ := x48 r
  exact callC_V h (fun _ _ _ => rfl) rfl (by simp only [cans, can_agg, can_int, can_bool]; rfl) rfl rfl rfl
def drOk (n : Nat) (x : Dr) : Bool := decide (0 ≤ x.mark) && (decide (x.mark ≤ n) && ((decide (x.mark ≤ 0) || ((decide (x.ins.op = 21) || decide (x.ins.op = 20)) && decide (x.ins.imm = 0))) && chk48 x.ins))
def mayD (l : List Dr) (marks : List Int) : Bool := decide (l.length ≤ 100000) && (marks.all (fun m => decide (0 ≤ m) && decide (m ≤ l.length)) && l.all (drOk marks.length))
set_option maxHeartbeats 2000000 in
theorem x44 (l : List Dr) (marks : List Int) (hm : marks.length ≤ 9223372036854775807) (hl : l.length ≤ 9223372036854775807) : FF 44 [sl drC l, sl intC marks] [] = some (.bool (mayD l marks), []) := by
  by_cases h0 : (l.length : Int) > 100000
  · have he : mayD l marks = false := by
      unfold mayD; rw [decide_eq_false (by omega)]; rfl
    refine Fw_funK rfl Tryz.func44 s44 (Nat.le_of_ble_eq_true rfl) (fun Q hqr hqn => ?_)
    rw [cin_t (show An.pure 44 = true from rfl) (by simp only [cans, can_int, can_bool, can_agg, can_str, drE.can_sl, intE.can_sl])]
    simp only [tinit, Nat.reduceAdd, c44]
    repeat' (first
    | with_reducible (first | refine Tx_assoc ?_ | refine Tx_yesK rfl ?_ | refine Tx_retK ?_)
    | (with_reducible (first | (refine Tx_regK (fun K hK => ?_); (first | refine t44r0 ?_ | refine t44r1 ?_ | refine t44r2 ?_)) | refine hqr _ ?_); (try simp only [true_implies, false_implies, not_true_eq_false, tget_cons, if_true, if_false, Nat.reduceEqDiff, Obt_some, Kn_normal, Obt_gtr, Option.map_some, lenS, and_true, if_false, if_true, r44, tend, tresAll, tresC, Option.bind_some, mapMem, retv_bool, tup_one, clen_sl, h0, he, gt_iff_lt, gt_iff_lt.1 h0]))
    | (revert hK; intro hK; (with_reducible refine hK _ ?_; clear hK K)))
  have h0' : ¬ (100000 : Int) < l.length := h0
  have hd0 : decide (l.length ≤ 100000) = true := decide_eq_true (by omega)
  refine Fw_funK rfl Tryz.func44 s44 (Nat.le_of_ble_eq_true rfl) (fun Q hqr hqn => ?_)
  rw [cin_t (show An.pure 44 = true from rfl) (by simp only [cans, can_int, can_bool, can_agg, can_str, drE.can_sl, intE.can_sl])]
  simp only [tinit, Nat.reduceAdd, c44]
  repeat' (first
  | with_reducible (first | refine Tx_assoc ?_ | refine Tx_nopK ?_ | refine Tx_noK rfl ?_ | refine Tx_blockK (id := 0) (fun Q0 hn0 hx0 hr0 ho0 => ?_))
  | (with_reducible (refine Tx_regK (fun K hK => ?_); (first | refine t44r0 ?_ | refine t44r1 ?_ | refine t44r3 ?_)); (try simp only [true_implies, false_implies, not_false_eq_true, tget_cons, if_true, if_false, Nat.reduceEqDiff, Obt_some, Kn_normal, Obt_gtr, Option.map_some, lenS, true_and, if_false, if_true, clen_sl, h0, h0', gt_iff_lt]))
  | (revert hK; intro hK; (with_reducible refine hK _ ?_; clear hK K)))
  refine Tx_loopK (fun k s => ∃ (dn td : List Int) (L : List (Nat × HO)), marks = dn ++ td ∧ k = td.length ∧ dn.all (fun m => decide (0 ≤ m) && decide (m ≤ l.length)) = true ∧
      s = ⟨[(0, sl drC l), (1, sl intC marks), (13, sl intC marks), (14, .int .i64 marks.length), (15, .int .i64 dn.length)], ⟨L, []⟩⟩) _ ⟨[], marks, _, rfl, rfl, rfl, rfl⟩ ?_
  rintro k s ⟨dn, td, L, h2, rfl, hall, rfl⟩ QL0 hnL0 hxL0 hrL0
  have hlen := congrArg List.length h2
  simp only [List.length_append] at hlen
  simp only [c44l0]
  cases td with
  | cons a td =>
    simp only [List.length_cons] at hlen
    have hlt : (dn.length : Int) < marks.length := by omega
    have hw : IntKind.i64.wrap ((dn.length : Int) + 1) = dn.length + 1 := wI (by omega) (by omega)
    have hbad : (decide (0 ≤ a) && decide (a ≤ (l.length : Int))) = false → mayD l marks = false := fun h => by
      unfold mayD
      rw [h2, List.all_append, List.all_cons, h]; simp
    by_cases g1 : a < 0
    · have hb := hbad (by rw [decide_eq_false (by omega)]; rfl)
      repeat' (first
      | with_reducible (first | refine Tx_nopK ?_ | refine Tx_yesK rfl ?_ | refine Tx_yes rfl ?_ | refine Tx_ret ?_ | refine hr0 _ ?_ | refine Tx_blockK (id := 1) (fun Q1 hn1 hx1 hr1 ho1 => ?_) | refine hr1 _ ?_ | refine hrL0 _ ?_)
      | (with_reducible (first | (refine Tx_regK (fun K hK => ?_); (first | refine t44r4 ?_ | refine t44r5 ?_ | refine t44r6 ?_ | refine t44r7 ?_)) | refine hqr _ ?_); (try simp only [true_implies, false_implies, not_true_eq_false, tget_cons, if_true, if_false, Nat.reduceEqDiff, Obt_some, Kn_normal, ld1_r, Obt_lss, Obt_gtr, gdO_tf, gdO_ff, Option.map_some, pickX_t, pickX_f, lenS, Obt_map, List.nil_append, List.cons_append, and_true, if_false, if_true, r44, tend, tresAll, tresC, Option.bind_some, mapMem, retv_bool, tup_one, hlt, idxS_split intC_len (by omega) h2, intC, clen_sl, g1, hb]))
      | (revert hK; intro hK; (with_reducible refine hK _ ?_; clear hK K)))
    by_cases g2 : (l.length : Int) < a
    · have hb := hbad (by rw [decide_eq_false (p := a ≤ (l.length : Int)) (by omega), Bool.and_false])
      repeat' (first
      | with_reducible (first | refine Tx_nopK ?_ | refine Tx_yesK rfl ?_ | refine Tx_yes rfl ?_ | refine Tx_ret ?_ | refine hr0 _ ?_ | refine Tx_blockK (id := 1) (fun Q1 hn1 hx1 hr1 ho1 => ?_) | refine hr1 _ ?_ | refine hrL0 _ ?_)
      | (with_reducible (first | (refine Tx_regK (fun K hK => ?_); (first | refine t44r4 ?_ | refine t44r5 ?_ | refine t44r6 ?_ | refine t44r7 ?_)) | refine hqr _ ?_); (try simp only [true_implies, false_implies, not_true_eq_false, not_false_eq_true, tget_cons, if_true, if_false, Nat.reduceEqDiff, Obt_some, Kn_normal, ld1_r, Obt_lss, Obt_gtr, gdO_tf, gdO_ff, Option.map_some, pickX_t, pickX_f, lenS, Obt_map, List.nil_append, List.cons_append, and_true, true_and, if_false, if_true, r44, tend, tresAll, tresC, Option.bind_some, mapMem, retv_bool, tup_one, hlt, idxS_split intC_len (by omega) h2, intC, clen_sl, g1, g2, gt_iff_lt, hb]))
      | (revert hK; intro hK; (with_reducible refine hK _ ?_; clear hK K)))
    repeat' (first
    | with_reducible (first | refine Tx_nopK ?_ | refine Tx_yesK rfl ?_ | refine Tx_no rfl ?_ | refine Tx_nop ?_ | refine Tx_blockK (id := 1) (fun Q1 hn1 hx1 hr1 ho1 => ?_) | refine hn1 _ ?_)
    | (with_reducible ((first | refine Tx_regK (fun K hK => ?_) | refine Tx_regE (fun K hK => ?_)); (first | refine t44r4 ?_ | refine t44r5 ?_ | refine t44r6 ?_ | refine t44r8 ?_)); (try simp only [true_implies, false_implies, not_true_eq_false, not_false_eq_true, tget_cons, if_true, if_false, Nat.reduceEqDiff, Obt_some, Kn_normal, ld1_r, Obt_lss, Obt_gtr, gdO_tf, gdO_ff, pickX_t, pickX_f, lenS, Obt_map, Obt_add, List.nil_append, List.cons_append, and_true, true_and, if_false, if_true, hlt, idxS_split intC_len (by omega) h2, intC, clen_sl, g1, g2, gt_iff_lt, hw]))
    | (revert hK; intro hK; (with_reducible refine hK _ ?_; clear hK K)))
    refine hnL0 td.length _ (by simp) ⟨dn ++ [a], td, L, by simp [h2], rfl, ?_, by simp⟩
    rw [List.all_append, hall]
    simp only [List.all_cons, List.all_nil, Bool.and_true, Bool.true_and, Bool.and_eq_true, decide_eq_true_eq]
    omega
  | nil =>
    simp only [List.length_nil] at hlen
    rw [List.append_nil] at h2
    have hge : ¬ ((dn.length : Int) < marks.length) := by omega
    rw [← h2] at hall
    repeat' (first
    | with_reducible (first | refine Tx_assoc ?_ | refine Tx_noK rfl ?_ | refine Tx_exitK ?_ | refine hx0 _ ?_ | refine Tx_blockK (id := 2) (fun Q2 hn2 hx2 hr2 ho2 => ?_) | refine hxL0 _ _ ?_)
    | (with_reducible (refine Tx_regK (fun K hK => ?_); (first | refine t44r4 ?_ | refine t44r9 ?_)); (try simp only [true_implies, false_implies, not_false_eq_true, tget_cons, if_true, if_false, Nat.reduceEqDiff, Obt_some, Kn_normal, Obt_lss, Option.map_some, lenS, true_and, if_false, if_true, hge, clen_sl]))
    | (revert hK; intro hK; (with_reducible refine hK _ ?_; clear hK K)))
    refine Tx_loopK (fun k s => ∃ (dn td : List Dr) (L : List (Nat × HO)), l = dn ++ td ∧ k = td.length ∧ dn.all (drOk marks.length) = true ∧
        s = ⟨[(1, sl intC marks), (28, sl drC l), (29, .int .i64 l.length), (30, .int .i64 dn.length)], ⟨L, []⟩⟩) _ ⟨[], l, L, rfl, rfl, rfl, rfl⟩ ?_
    rintro k s ⟨dn, td, L, h3, rfl, hall2, rfl⟩ QL1 hnL1 hxL1 hrL1
    have hlen2 := congrArg List.length h3
    simp only [List.length_append] at hlen2
    simp only [c44l1]
    cases td with
    | nil =>
      simp only [List.length_nil] at hlen2
      rw [List.append_nil] at h3
      have hge2 : ¬ ((dn.length : Int) < l.length) := by omega
      have he : mayD l marks = true := by unfold mayD; rw [hd0, hall, h3, hall2]; rfl
      repeat' (first
      | with_reducible (first | refine Tx_noK rfl ?_ | refine Tx_exitK ?_ | refine Tx_ret ?_ | refine hx2 _ ?_ | refine hxL1 _ _ ?_)
      | (with_reducible (first | (refine Tx_regK (fun K hK => ?_); (first | refine t44r10 ?_ | refine t44r16 ?_)) | refine hqr _ ?_); (try simp only [true_implies, false_implies, not_false_eq_true, tget_cons, if_true, if_false, Nat.reduceEqDiff, Obt_some, Kn_normal, Obt_lss, Option.map_some, true_and, if_false, if_true, r44, tend, tresAll, tresC, Option.bind_some, mapMem, retv_bool, tup_one, hge2, he]))
      | (revert hK; intro hK; (with_reducible refine hK _ ?_; clear hK K)))
    | cons x td =>
      simp only [List.length_cons] at hlen2
      have hlt2 : (dn.length : Int) < l.length := by omega
      have hw2 : IntKind.i64.wrap ((dn.length : Int) + 1) = dn.length + 1 := wI (by omega) (by omega)
      have hsetL : ∀ (L : List (Nat × HO)) (H : List HO) i x, setL ⟨L, H⟩ i x = ⟨lset L i x, H⟩ := fun _ _ _ _ => rfl
      have hbad : drOk marks.length x = false → mayD l marks = false := fun h => by
        unfold mayD
        rw [h3, List.all_append, List.all_cons, h]; simp
      have hk := fun (t : Tmp) (m : Mem) => k48 x.ins (fid := 44) (t := t) (m := m)
      have hix := idxS_split (k := .i64) drE.len (by omega : 0 < 9) h3
      have hnext : drOk marks.length x = true → ∀ L', QL1 .normal ⟨[(1, sl intC marks), (28, sl drC l), (29, .int .i64 l.length), (30, .int .i64 ((dn.length : Int) + 1))], ⟨L', []⟩⟩ := fun hx L' => by
        have e : ((dn.length : Int) + 1) = ((dn ++ [x]).length : Int) := by simp
        rw [e]
        exact hnL1 td.length _ (by simp) ⟨dn ++ [x], td, L', by simp [h3], rfl, by rw [List.all_append, hall2]; simp [hx], rfl⟩
      by_cases g1 : x.mark < 0
      · have hb := hbad (by unfold drOk; rw [decide_eq_false (by omega)]; rfl)
        repeat' (first
        | with_reducible (first | refine Tx_nopK ?_ | refine Tx_yesK rfl ?_ | refine Tx_yes rfl ?_ | refine Tx_ret ?_ | refine hr2 _ ?_ | refine Tx_blockK (id := 3) (fun Q3 hn3 hx3 hr3 ho3 => ?_) | refine hr3 _ ?_ | refine hrL1 _ ?_)
        | (with_reducible (first | (refine Tx_regK (fun K hK => ?_); (first | refine t44r10 ?_ | refine t44r11 ?_ | refine t44r12 ?_ | refine t44r13 ?_ | refine t44r14 ?_)) | refine hqr _ ?_); (try simp only [true_implies, false_implies, not_true_eq_false, tget_cons, if_true, if_false, Nat.reduceEqDiff, ccells, Obt_some, Kn_normal, newL_eq, newP_eq, lget_lset, Nat.reduceAdd, Nat.zero_add, fldA_ptr, List.drop_zero, ld1_l, ldA_l, rd1_var, List.getElem?_cons_zero, List.getElem?_cons_succ, Obt_lss, Obt_gtr, Obt_eql, Obt_neq, Obt_not, gdO_tt, gdO_tf, gdO_ff, gdO_ft, gdO_skip, Option.map_some, pickX_t, pickX_f, Bool.not_true, Bool.not_false, lenS, Obt_map, stX_l, stV_var, splice, List.take_zero, List.take_succ_cons, List.drop_succ_cons, List.drop_nil, List.nil_append, List.cons_append, List.append_nil, List.length_cons, List.length_nil, Nat.reduceLeDiff, and_self, and_true, Nat.le_refl, rdA_var, if_false, if_true, r44, tend, tresAll, tresC, Option.bind_some, mapMem, retv_bool, tup_one, hlt2, hix, ldA_r9, drC, clen_sl, hsetL, gt_iff_lt, g1, hb]))
        | (revert hK; intro hK; (first | refine And.intro ?_ ?_ | intro _ | (with_reducible refine hK _ ?_; clear hK K))))
      have d1 : decide (0 ≤ x.mark) = true := decide_eq_true (by omega)
      by_cases g2 : (marks.length : Int) < x.mark
      · have hb := hbad (by unfold drOk; rw [decide_eq_false (p := x.mark ≤ (marks.length : Int)) (by omega), Bool.false_and, Bool.and_false])
        repeat' (first
        | with_reducible (first | refine Tx_nopK ?_ | refine Tx_yesK rfl ?_ | refine Tx_yes rfl ?_ | refine Tx_ret ?_ | refine hr2 _ ?_ | refine Tx_blockK (id := 3) (fun Q3 hn3 hx3 hr3 ho3 => ?_) | refine hr3 _ ?_ | refine hrL1 _ ?_)
        | (with_reducible (first | (refine Tx_regK (fun K hK => ?_); (first | refine t44r10 ?_ | refine t44r11 ?_ | refine t44r12 ?_ | refine t44r13 ?_ | refine t44r14 ?_)) | refine hqr _ ?_); (try simp only [true_implies, false_implies, not_true_eq_false, not_false_eq_true, tget_cons, if_true, if_false, Nat.reduceEqDiff, ccells, Obt_some, Kn_normal, newL_eq, newP_eq, lget_lset, Nat.reduceAdd, Nat.zero_add, fldA_ptr, List.drop_zero, ld1_l, ldA_l, rd1_var, List.getElem?_cons_zero, List.getElem?_cons_succ, Obt_lss, Obt_gtr, Obt_eql, Obt_neq, Obt_not, gdO_tt, gdO_tf, gdO_ff, gdO_ft, gdO_skip, Option.map_some, pickX_t, pickX_f, Bool.not_true, Bool.not_false, lenS, Obt_map, stX_l, stV_var, splice, List.take_zero, List.take_succ_cons, List.drop_succ_cons, List.drop_nil, List.nil_append, List.cons_append, List.append_nil, List.length_cons, List.length_nil, Nat.reduceLeDiff, and_self, and_true, true_and, Nat.le_refl, rdA_var, if_false, if_true, r44, tend, tresAll, tresC, Option.bind_some, mapMem, retv_bool, tup_one, hlt2, hix, ldA_r9, drC, clen_sl, hsetL, gt_iff_lt, g1, g2, hb]))
        | (revert hK; intro hK; (first | refine And.intro ?_ ?_ | intro _ | (with_reducible refine hK _ ?_; clear hK K))))
      have d2 : decide (x.mark ≤ (marks.length : Int)) = true := decide_eq_true (by omega)
      by_cases g3 : 0 < x.mark
      · have d3 : decide (x.mark ≤ 0) = false := decide_eq_false (by omega)
        by_cases w1 : x.ins.op = 21
        · by_cases g4 : x.ins.imm = 0
          · cases hc : chk48 x.ins with
            | false =>
              rw [hc] at hk
              simp only [w1, g4] at hk
              have hb := hbad (by unfold drOk; rw [hc]; simp)
              repeat' (first
              | with_reducible (first | refine Tx_nopK ?_ | refine Tx_yesK rfl ?_ | refine Tx_yes rfl ?_ | refine Tx_ret ?_ | refine hr2 _ ?_ | refine Tx_blockK (id := 3) (fun Q3 hn3 hx3 hr3 ho3 => ?_) | refine hr3 _ ?_ | refine hrL1 _ ?_)
              | (with_reducible (first | (refine Tx_regK (fun K hK => ?_); (first | refine t44r10 ?_ | refine t44r11 ?_ | refine t44r12 ?_ | refine t44r13 ?_ | refine t44r14 ?_)) | refine hqr _ ?_); (try simp only [true_implies, false_implies, not_true_eq_false, not_false_eq_true, tget_cons, if_true, if_false, Nat.reduceEqDiff, ccells, Obt_some, Kn_normal, newL_eq, newP_eq, lget_lset, Nat.reduceAdd, Nat.zero_add, fldA_ptr, List.drop_zero, ld1_l, ldA_l, rd1_var, List.getElem?_cons_zero, List.getElem?_cons_succ, Obt_lss, Obt_gtr, Obt_eql, Obt_neq, Obt_not, gdO_tt, gdO_tf, gdO_ff, gdO_ft, gdO_skip, Option.map_some, pickX_t, pickX_f, Bool.not_true, Bool.not_false, lenS, Obt_map, stX_l, stV_var, splice, List.take_zero, List.take_succ_cons, List.drop_succ_cons, List.drop_nil, List.nil_append, List.cons_append, List.append_nil, List.length_cons, List.length_nil, Nat.reduceLeDiff, and_self, and_true, true_and, Nat.le_refl, rdA_var, if_false, if_true, r44, tend, tresAll, tresC, Option.bind_some, mapMem, retv_bool, tup_one, hlt2, hix, ldA_r9, drC, clen_sl, hsetL, gt_iff_lt, g1, g2, g3, w1, g4, hk, hb]))
              | (revert hK; intro hK; (with_reducible refine hK _ ?_; clear hK K)))
            | true =>
              rw [hc] at hk
              simp only [w1, g4] at hk
              have hx : drOk marks.length x = true := by unfold drOk; rw [d1, d2, d3, hc]; simp [w1, g4]
              repeat' (first
              | with_reducible (first | refine Tx_nopK ?_ | refine Tx_yesK rfl ?_ | refine Tx_no rfl ?_ | refine Tx_nop ?_ | refine Tx_blockK (id := 3) (fun Q3 hn3 hx3 hr3 ho3 => ?_) | refine hn3 _ ?_)
              | (with_reducible ((first | refine Tx_regK (fun K hK => ?_) | refine Tx_regE (fun K hK => ?_)); (first | refine t44r10 ?_ | refine t44r11 ?_ | refine t44r12 ?_ | refine t44r13 ?_ | refine t44r15 ?_)); (try simp only [true_implies, false_implies, not_true_eq_false, not_false_eq_true, tget_cons, if_true, if_false, Nat.reduceEqDiff, ccells, Obt_some, Kn_normal, newL_eq, newP_eq, lget_lset, Nat.reduceAdd, Nat.zero_add, fldA_ptr, List.drop_zero, ld1_l, ldA_l, rd1_var, List.getElem?_cons_zero, List.getElem?_cons_succ, Obt_lss, Obt_gtr, Obt_eql, Obt_neq, Obt_not, gdO_tt, gdO_tf, gdO_ff, gdO_ft, gdO_skip, Option.map_some, pickX_t, pickX_f, Bool.not_true, lenS, Obt_map, Obt_add, stX_l, stV_var, splice, List.take_zero, List.take_succ_cons, List.drop_succ_cons, List.drop_nil, List.nil_append, List.cons_append, List.append_nil, List.length_cons, List.length_nil, Nat.reduceLeDiff, and_self, and_true, true_and, Nat.le_refl, rdA_var, if_false, if_true, hlt2, hix, ldA_r9, drC, clen_sl, hsetL, gt_iff_lt, g1, g2, g3, w1, g4, hk, hw2]))
              | (revert hK; intro hK; (with_reducible refine hK _ ?_; clear hK K)))
              all_goals exact hnext hx _
          · have hb := hbad (by unfold drOk; rw [d3]; simp [g4])
            repeat' (first
            | with_reducible (first | refine Tx_nopK ?_ | refine Tx_yesK rfl ?_ | refine Tx_yes rfl ?_ | refine Tx_ret ?_ | refine hr2 _ ?_ | refine Tx_blockK (id := 3) (fun Q3 hn3 hx3 hr3 ho3 => ?_) | refine hr3 _ ?_ | refine hrL1 _ ?_)
            | (with_reducible (first | (refine Tx_regK (fun K hK => ?_); (first | refine t44r10 ?_ | refine t44r11 ?_ | refine t44r12 ?_ | refine t44r13 ?_ | refine t44r14 ?_)) | refine hqr _ ?_); (try simp only [true_implies, false_implies, not_true_eq_false, not_false_eq_true, tget_cons, if_true, if_false, Nat.reduceEqDiff, ccells, Obt_some, Kn_normal, newL_eq, newP_eq, lget_lset, Nat.reduceAdd, Nat.zero_add, fldA_ptr, List.drop_zero, ld1_l, ldA_l, rd1_var, List.getElem?_cons_zero, List.getElem?_cons_succ, Obt_lss, Obt_gtr, Obt_eql, Obt_neq, Obt_not, gdO_tt, gdO_tf, gdO_ff, gdO_ft, gdO_skip, Option.map_some, pickX_t, pickX_f, Bool.not_true, lenS, Obt_map, stX_l, stV_var, splice, List.take_zero, List.take_succ_cons, List.drop_succ_cons, List.drop_nil, List.nil_append, List.cons_append, List.append_nil, List.length_cons, List.length_nil, Nat.reduceLeDiff, and_self, and_true, true_and, Nat.le_refl, rdA_var, if_false, if_true, r44, tend, tresAll, tresC, Option.bind_some, mapMem, retv_bool, tup_one, hlt2, hix, ldA_r9, drC, clen_sl, hsetL, gt_iff_lt, g1, g2, g3, w1, g4, hb]))
            | (revert hK; intro hK; (with_reducible refine hK _ ?_; clear hK K)))
        · by_cases w2 : x.ins.op = 20
          · by_cases g4 : x.ins.imm = 0
            · cases hc : chk48 x.ins with
              | false =>
                rw [hc] at hk
                simp only [w2, g4] at hk
                have hb := hbad (by unfold drOk; rw [hc]; simp)
                repeat' (first
                | with_reducible (first | refine Tx_nopK ?_ | refine Tx_yesK rfl ?_ | refine Tx_yes rfl ?_ | refine Tx_ret ?_ | refine hr2 _ ?_ | refine Tx_blockK (id := 3) (fun Q3 hn3 hx3 hr3 ho3 => ?_) | refine hr3 _ ?_ | refine hrL1 _ ?_)
                | (with_reducible (first | (refine Tx_regK (fun K hK => ?_); (first | refine t44r10 ?_ | refine t44r11 ?_ | refine t44r12 ?_ | refine t44r13 ?_ | refine t44r14 ?_)) | refine hqr _ ?_); (try simp only [true_implies, false_implies, not_true_eq_false, not_false_eq_true, tget_cons, if_true, if_false, Nat.reduceEqDiff, ccells, Obt_some, Kn_normal, newL_eq, newP_eq, lget_lset, Nat.reduceAdd, Nat.zero_add, fldA_ptr, List.drop_zero, ld1_l, ldA_l, rd1_var, List.getElem?_cons_zero, List.getElem?_cons_succ, Obt_lss, Obt_gtr, Obt_eql, Obt_neq, Obt_not, gdO_tt, gdO_tf, gdO_ff, gdO_ft, gdO_skip, Option.map_some, pickX_t, pickX_f, Bool.not_true, Bool.not_false, lenS, Obt_map, stX_l, stV_var, splice, List.take_zero, List.take_succ_cons, List.drop_succ_cons, List.drop_nil, List.nil_append, List.cons_append, List.append_nil, List.length_cons, List.length_nil, Nat.reduceLeDiff, and_self, and_true, true_and, Nat.le_refl, rdA_var, if_false, if_true, r44, tend, tresAll, tresC, Option.bind_some, mapMem, retv_bool, tup_one, hlt2, hix, ldA_r9, drC, clen_sl, hsetL, gt_iff_lt, g1, g2, g3, w2, g4, hk, hb]))
                | (revert hK; intro hK; (first | refine And.intro ?_ ?_ | intro _ | omega | (with_reducible refine hK _ ?_; clear hK K))))
              | true =>
                rw [hc] at hk
                simp only [w2, g4] at hk
                have hx : drOk marks.length x = true := by unfold drOk; rw [d1, d2, d3, hc]; simp [w2, g4]
                repeat' (first
                | with_reducible (first | refine Tx_nopK ?_ | refine Tx_yesK rfl ?_ | refine Tx_no rfl ?_ | refine Tx_nop ?_ | refine Tx_blockK (id := 3) (fun Q3 hn3 hx3 hr3 ho3 => ?_) | refine hn3 _ ?_)
                | (with_reducible ((first | refine Tx_regK (fun K hK => ?_) | refine Tx_regE (fun K hK => ?_)); (first | refine t44r10 ?_ | refine t44r11 ?_ | refine t44r12 ?_ | refine t44r13 ?_ | refine t44r15 ?_)); (try simp only [true_implies, false_implies, not_true_eq_false, not_false_eq_true, tget_cons, if_true, if_false, Nat.reduceEqDiff, ccells, Obt_some, Kn_normal, newL_eq, newP_eq, lget_lset, Nat.reduceAdd, Nat.zero_add, fldA_ptr, List.drop_zero, ld1_l, ldA_l, rd1_var, List.getElem?_cons_zero, List.getElem?_cons_succ, Obt_lss, Obt_gtr, Obt_eql, Obt_neq, Obt_not, gdO_tt, gdO_tf, gdO_ff, gdO_ft, gdO_skip, Option.map_some, pickX_t, pickX_f, Bool.not_true, lenS, Obt_map, Obt_add, stX_l, stV_var, splice, List.take_zero, List.take_succ_cons, List.drop_succ_cons, List.drop_nil, List.nil_append, List.cons_append, List.append_nil, List.length_cons, List.length_nil, Nat.reduceLeDiff, and_self, and_true, true_and, Nat.le_refl, rdA_var, if_false, if_true, hlt2, hix, ldA_r9, drC, clen_sl, hsetL, gt_iff_lt, g1, g2, g3, w2, g4, hk, hw2]))
                | (revert hK; intro hK; (first | refine And.intro ?_ ?_ | intro _ | omega | (with_reducible refine hK _ ?_; clear hK K))))
                all_goals exact hnext hx _
            · have hb := hbad (by unfold drOk; rw [d3]; simp [g4])
              repeat' (first
              | with_reducible (first | refine Tx_nopK ?_ | refine Tx_yesK rfl ?_ | refine Tx_yes rfl ?_ | refine Tx_ret ?_ | refine hr2 _ ?_ | refine Tx_blockK (id := 3) (fun Q3 hn3 hx3 hr3 ho3 => ?_) | refine hr3 _ ?_ | refine hrL1 _ ?_)
              | (with_reducible (first | (refine Tx_regK (fun K hK => ?_); (first | refine t44r10 ?_ | refine t44r11 ?_ | refine t44r12 ?_ | refine t44r13 ?_ | refine t44r14 ?_)) | refine hqr _ ?_); (try simp only [true_implies, false_implies, not_true_eq_false, not_false_eq_true, tget_cons, if_true, if_false, Nat.reduceEqDiff, ccells, Obt_some, Kn_normal, newL_eq, newP_eq, lget_lset, Nat.reduceAdd, Nat.zero_add, fldA_ptr, List.drop_zero, ld1_l, ldA_l, rd1_var, List.getElem?_cons_zero, List.getElem?_cons_succ, Obt_lss, Obt_gtr, Obt_eql, Obt_neq, Obt_not, gdO_tt, gdO_tf, gdO_ff, gdO_ft, gdO_skip, Option.map_some, pickX_t, pickX_f, Bool.not_true, lenS, Obt_map, stX_l, stV_var, splice, List.take_zero, List.take_succ_cons, List.drop_succ_cons, List.drop_nil, List.nil_append, List.cons_append, List.append_nil, List.length_cons, List.length_nil, Nat.reduceLeDiff, and_self, and_true, true_and, Nat.le_refl, rdA_var, if_false, if_true, r44, tend, tresAll, tresC, Option.bind_some, mapMem, retv_bool, tup_one, hlt2, hix, ldA_r9, drC, clen_sl, hsetL, gt_iff_lt, g1, g2, g3, w2, g4, hb]))
              | (revert hK; intro hK; (first | refine And.intro ?_ ?_ | intro _ | omega | (with_reducible refine hK _ ?_; clear hK K))))
          · have hb := hbad (by unfold drOk; rw [d3]; simp [w1, w2])
            repeat' (first
            | with_reducible (first | refine Tx_nopK ?_ | refine Tx_yesK rfl ?_ | refine Tx_yes rfl ?_ | refine Tx_ret ?_ | refine hr2 _ ?_ | refine Tx_blockK (id := 3) (fun Q3 hn3 hx3 hr3 ho3 => ?_) | refine hr3 _ ?_ | refine hrL1 _ ?_)
            | (with_reducible (first | (refine Tx_regK (fun K hK => ?_); (first | refine t44r10 ?_ | refine t44r11 ?_ | refine t44r12 ?_ | refine t44r13 ?_ | refine t44r14 ?_)) | refine hqr _ ?_); (try simp only [true_implies, false_implies, not_true_eq_false, not_false_eq_true, tget_cons, if_true, if_false, Nat.reduceEqDiff, ccells, Obt_some, Kn_normal, newL_eq, newP_eq, lget_lset, Nat.reduceAdd, Nat.zero_add, fldA_ptr, List.drop_zero, ld1_l, ldA_l, rd1_var, List.getElem?_cons_zero, List.getElem?_cons_succ, Obt_lss, Obt_gtr, Obt_eql, Obt_not, gdO_tt, gdO_tf, gdO_ff, gdO_ft, gdO_skip, Option.map_some, pickX_t, pickX_f, Bool.not_false, lenS, Obt_map, stX_l, stV_var, splice, List.take_zero, List.take_succ_cons, List.drop_succ_cons, List.drop_nil, List.nil_append, List.cons_append, List.append_nil, List.length_cons, List.length_nil, Nat.reduceLeDiff, and_self, and_true, true_and, Nat.le_refl, rdA_var, if_false, if_true, r44, tend, tresAll, tresC, Option.bind_some, mapMem, retv_bool, tup_one, hlt2, hix, ldA_r9, drC, clen_sl, hsetL, gt_iff_lt, g1, g2, g3, w1, w2, hb]))
            | (revert hK; intro hK; (with_reducible refine hK _ ?_; clear hK K)))
      · have d3 : decide (x.mark ≤ 0) = true := decide_eq_true (by omega)
        cases hc : chk48 x.ins with
        | false =>
          rw [hc] at hk
          have hb := hbad (by unfold drOk; rw [hc]; simp)
          repeat' (first
          | with_reducible (first | refine Tx_nopK ?_ | refine Tx_yesK rfl ?_ | refine Tx_yes rfl ?_ | refine Tx_ret ?_ | refine hr2 _ ?_ | refine Tx_blockK (id := 3) (fun Q3 hn3 hx3 hr3 ho3 => ?_) | refine hr3 _ ?_ | refine hrL1 _ ?_)
          | (with_reducible (first | (refine Tx_regK (fun K hK => ?_); (first | refine t44r10 ?_ | refine t44r11 ?_ | refine t44r12 ?_ | refine t44r13 ?_ | refine t44r14 ?_)) | refine hqr _ ?_); (try simp only [true_implies, false_implies, not_true_eq_false, not_false_eq_true, tget_cons, if_true, if_false, Nat.reduceEqDiff, ccells, Obt_some, Kn_normal, newL_eq, newP_eq, lget_lset, Nat.reduceAdd, Nat.zero_add, fldA_ptr, List.drop_zero, ld1_l, ldA_l, rd1_var, List.getElem?_cons_zero, List.getElem?_cons_succ, Obt_lss, Obt_gtr, Obt_eql, Obt_neq, Obt_not, gdO_tt, gdO_tf, gdO_ff, gdO_ft, gdO_skip, Option.map_some, pickX_t, pickX_f, Bool.not_true, Bool.not_false, lenS, Obt_map, stX_l, stV_var, splice, List.take_zero, List.take_succ_cons, List.drop_succ_cons, List.drop_nil, List.nil_append, List.cons_append, List.append_nil, List.length_cons, List.length_nil, Nat.reduceLeDiff, and_self, and_true, true_and, Nat.le_refl, rdA_var, if_false, if_true, r44, tend, tresAll, tresC, Option.bind_some, mapMem, retv_bool, tup_one, hlt2, hix, ldA_r9, drC, clen_sl, hsetL, gt_iff_lt, g1, g2, g3, hk, hb]))
          | (revert hK; intro hK; (first | refine And.intro ?_ ?_ | intro _ | (with_reducible refine hK _ ?_; clear hK K))))
        | true =>
          rw [hc] at hk
          have hx : drOk marks.length x = true := by unfold drOk; rw [d1, d2, d3, hc]; simp
          repeat' (first
          | with_reducible (first | refine Tx_nopK ?_ | refine Tx_yesK rfl ?_ | refine Tx_no rfl ?_ | refine Tx_nop ?_ | refine Tx_blockK (id := 3) (fun Q3 hn3 hx3 hr3 ho3 => ?_) | refine hn3 _ ?_)
          | (with_reducible ((first | refine Tx_regK (fun K hK => ?_) | refine Tx_regE (fun K hK => ?_)); (first | refine t44r10 ?_ | refine t44r11 ?_ | refine t44r12 ?_ | refine t44r13 ?_ | refine t44r15 ?_)); (try simp only [true_implies, false_implies, not_true_eq_false, not_false_eq_true, tget_cons, if_true, if_false, Nat.reduceEqDiff, ccells, Obt_some, Kn_normal, newL_eq, newP_eq, lget_lset, Nat.reduceAdd, Nat.zero_add, fldA_ptr, List.drop_zero, ld1_l, ldA_l, rd1_var, List.getElem?_cons_zero, List.getElem?_cons_succ, Obt_lss, Obt_gtr, Obt_eql, Obt_neq, Obt_not, gdO_tt, gdO_tf, gdO_ff, gdO_ft, gdO_skip, Option.map_some, pickX_t, pickX_f, Bool.not_true, Bool.not_false, lenS, Obt_map, Obt_add, stX_l, stV_var, splice, List.take_zero, List.take_succ_cons, List.drop_succ_cons, List.drop_nil, List.nil_append, List.cons_append, List.append_nil, List.length_cons, List.length_nil, Nat.reduceLeDiff, and_self, and_true, true_and, Nat.le_refl, rdA_var, if_false, if_true, hlt2, hix, ldA_r9, drC, clen_sl, hsetL, gt_iff_lt, g1, g2, g3, hk, hw2]))
          | (revert hK; intro hK; (first | refine And.intro ?_ ?_ | intro _ | (with_reducible refine hK _ ?_; clear hK K))))
          all_goals exact hnext hx _
end Go.Cm
