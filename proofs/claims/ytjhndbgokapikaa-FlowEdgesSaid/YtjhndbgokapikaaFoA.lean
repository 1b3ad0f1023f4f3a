import Derived.Test.YtjhndbgokapikaaFpD
import Derived.Test.YtjhndbgokapikaaCxH
set_option linter.unusedSimpArgs false
set_option linter.unusedVariables false
namespace Go.Cm
open Go.Proofs Go.Fl
def inC (x : In) : List CV := [.int .i64 x.op, .int .i64 x.dst, .int .i64 x.src, .int .i64 x.off, .int .i64 x.imm, .int .u64 x.wide]
theorem inE : Enc inC 6 := ⟨fun _ => rfl, fun _ => rfl, fun _ => rfl, fun _ => rfl⟩
theorem low0 {fid : FuncId} {d : Tmp} {m : Mem} : callC An FF fid (some d) 63 [.int .u64 0, .bool true] m = some (.int .u64 0, m) :=
  callC_V (H' := []) (Fw_iff.2 ⟨20, by kernel_rfl⟩) (fun _ _ _ => rfl) rfl rfl rfl rfl rfl
def pairB : Option (CV × List HO) → Option Bool
  | some (.tuple [.bool _, .bool b], _) => some b
  | _ => none
def pairN : Option (CV × List HO) → Option Bool
  | some (.tuple [.int .u64 _, .bool b], _) => some b
  | _ => none
theorem pairB_of {n : Nat} {f : FuncId} {a : List CV} {b : Bool} (h : pairB (tcall Try.prog An EE n f a []) = some b) : ∃ r, (∃ x H', r = (CV.tuple [.bool x, .bool b], H')) ∧ FF f a [] = some r := by
  unfold pairB at h
  split at h
  · rename_i x y H he
    simp only [Option.some.injEq] at h
    subst h
    exact ⟨_, ⟨x, H, rfl⟩, Fw_iff.2 ⟨n, he⟩⟩
  · cases h
theorem pairN_of {n : Nat} {f : FuncId} {a : List CV} {b : Bool} (h : pairN (tcall Try.prog An EE n f a []) = some b) : ∃ r, (∃ x H', r = (CV.tuple [.int .u64 x, .bool b], H')) ∧ FF f a [] = some r := by
  unfold pairN at h
  split at h
  · rename_i x y H he
    simp only [Option.some.injEq] at h
    subst h
    exact ⟨_, ⟨x, H, rfl⟩, Fw_iff.2 ⟨n, he⟩⟩
  · cases h
theorem cond_cases {op : Int} : op = 16 ∨ op = 32 ∨ op = 48 ∨ op = 64 ∨ op = 80 ∨ op = 96 ∨ op = 112 ∨ op = 160 ∨ op = 176 ∨ op = 192 ∨ op = 208 ∨
    (condOk op = false ∧ ¬ op = 16 ∧ ¬ op = 32 ∧ ¬ op = 48 ∧ ¬ op = 64 ∧ ¬ op = 80 ∧ ¬ op = 96 ∧ ¬ op = 112 ∧ ¬ op = 160 ∧ ¬ op = 176 ∧ ¬ op = 192 ∧ ¬ op = 208) := by
  by_cases h : condOk op = true
  · simp [condOk] at h; omega
  · refine .inr (.inr (.inr (.inr (.inr (.inr (.inr (.inr (.inr (.inr (.inr ⟨by simpa using h, ?_⟩))))))))))
    simp [condOk] at h; omega
theorem alu_cases {op : Int} : op = 0 ∨ op = 16 ∨ op = 32 ∨ op = 48 ∨ op = 64 ∨ op = 80 ∨ op = 96 ∨ op = 112 ∨ op = 128 ∨ op = 144 ∨ op = 160 ∨ op = 176 ∨ op = 192 ∨
    (aluOk op = false ∧ ¬ op = 0 ∧ ¬ op = 16 ∧ ¬ op = 32 ∧ ¬ op = 48 ∧ ¬ op = 64 ∧ ¬ op = 80 ∧ ¬ op = 96 ∧ ¬ op = 112 ∧ ¬ op = 128 ∧ ¬ op = 144 ∧ ¬ op = 160 ∧ ¬ op = 176 ∧ ¬ op = 192) := by
  by_cases h : aluOk op = true
  · simp [aluOk] at h; omega
  · refine .inr (.inr (.inr (.inr (.inr (.inr (.inr (.inr (.inr (.inr (.inr (.inr (.inr ⟨by simpa using h, ?_⟩))))))))))))
    simp [aluOk] at h; omega
theorem x64 {op : Int} (h1 : ¬ op = 96) (h2 : ¬ op = 112) (h3 : ¬ op = 192) (h4 : ¬ op = 208) : FF 64 [.int .i64 op, .int .u64 0, .int .u64 0, .bool true] [] = some (.int .i64 0, []) := by
  have hk : ∀ m, callC An FF 64 (some 36) 80 [.int .u64 0, .int .u64 0] m = some (.int .i64 0, m) := fun m => callC_V (H' := []) (Fw_iff.2 ⟨20, by kernel_rfl⟩) (fun _ _ _ => rfl) rfl rfl rfl rfl rfl
  refine Fw_funK rfl Try.func64 s64 (Nat.le_of_ble_eq_true rfl) (fun Q hqr hqn => ?_)
  rw [cin_t (show An.pure 64 = true from rfl) (by simp only [cans, can_int, can_bool, can_agg, can_str])]
  simp only [tinit, Nat.reduceAdd, c64]
  repeat' (first
  | with_reducible (first | refine Tx_assoc ?_ | refine Tx_nopK ?_ | refine Tx_noK rfl ?_ | refine Tx_ret ?_ | refine Tx_exit ?_ | refine Tx_blockK (id := 0) (fun Q0 hn0 hx0 hr0 ho0 => ?_) | refine hx0 _ ?_ | refine Tx_blockK (id := 4) (fun Q4 hn4 hx4 hr4 ho4 => ?_) | refine ho4 _ _ (by decide) ?_ | refine Tx_blockE (id := 3) (fun Q3 hn3 hx3 hr3 ho3 => ?_) | refine ho3 _ _ (by decide) ?_ | refine Tx_blockE (id := 2) (fun Q2 hn2 hx2 hr2 ho2 => ?_) | refine ho2 _ _ (by decide) ?_ | refine Tx_blockE (id := 1) (fun Q1 hn1 hx1 hr1 ho1 => ?_) | refine ho1 _ _ (by decide) ?_)
  | (with_reducible (first | (refine Tx_regK (fun K hK => ?_); (first | refine t64r0 ?_ | refine t64r1 ?_ | refine t64r2 ?_ | refine t64r3 ?_ | refine t64r4 ?_ | refine t64r5 ?_ | refine t64r9 ?_)) | refine hqr _ ?_); (try simp only [true_implies, false_implies, not_false_eq_true, tget_cons, if_true, if_false, Nat.reduceEqDiff, Obt_some, Kn_normal, Obt_eql, Option.map_some, true_and, if_false, if_true, r64, tend, tresAll, tresC, Option.bind_some, mapMem, retv_int, tup_one, h1, h2, h3, h4, hk]))
  | (revert hK; intro hK; (with_reducible refine hK _ ?_; clear hK K)))
  all_goals first | rfl | trivial | simp
theorem x52 (op : Int) : ∃ r, (∃ b H', r = (CV.tuple [.bool b, .bool (condOk op)], H')) ∧ FF 52 [.int .i64 op, .int .u64 0, .int .u64 0, .bool true] [] = some r := by
  rcases cond_cases (op := op) with rfl | rfl | rfl | rfl | rfl | rfl | rfl | rfl | rfl | rfl | rfl | ⟨hf, h⟩
  iterate 11 exact pairB_of (n := 20) (by kernel_rfl)
  have hk : ∀ m, callC An FF 52 (some 21) 64 [.int .i64 op, .int .u64 0, .int .u64 0, .bool true] m = some (.int .i64 0, m) := fun m => callC_V (x64 h.2.2.2.2.2.1 h.2.2.2.2.2.2.1 h.2.2.2.2.2.2.2.2.2.1 h.2.2.2.2.2.2.2.2.2.2) (fun _ _ _ => rfl) rfl rfl rfl rfl rfl
  rw [hf]
  refine Fw_funE rfl Try.func52 s52 (Nat.le_of_ble_eq_true rfl) (fun Q hqr hqn => ?_)
  rw [cin_t (show An.pure 52 = true from rfl) (by simp only [cans, can_int, can_bool, can_agg, can_str])]
  simp only [tinit, Nat.reduceAdd, c52]
  repeat' (first
  | with_reducible (first | refine Tx_assoc ?_ | refine Tx_noK rfl ?_ | refine Tx_no rfl ?_ | refine Tx_ret ?_ | refine Tx_nop ?_ | refine Tx_blockK (id := 0) (fun Q0 hn0 hx0 hr0 ho0 => ?_) | refine hn0 _ ?_)
  | (with_reducible (first | (refine Tx_regK (fun K hK => ?_); (first | refine t52r0 ?_ | refine t52r1 ?_ | refine t52r2 ?_ | refine t52r3 ?_ | refine t52r4 ?_ | refine t52r6 ?_ | refine t52r8 ?_ | refine t52r10 ?_ | refine t52r11 ?_ | refine t52r13 ?_ | refine t52r14 ?_ | refine t52r16 ?_ | refine t52r17 ?_ | refine t52r19 ?_ | refine t52r20 ?_ | refine t52r22 ?_)) | refine hqr _ ?_); (try simp only [true_implies, false_implies, not_false_eq_true, tget_cons, if_true, if_false, Nat.reduceEqDiff, Obt_some, Kn_normal, Obt_eql, Option.map_some, true_and, if_false, if_true, r52, tend, tresAll, tresC, Option.bind_some, mapMem, retv_bool, tup_two, Prod.mk.injEq, low0, hk, h]))
  | (revert hK; intro hK; (with_reducible refine hK _ ?_; clear hK K)))
  all_goals first | exact ⟨_, _, rfl, rfl⟩ | exact ⟨_, _, rfl⟩ | simp
theorem x78 {op : Int} (h : ¬ op = 0 ∧ ¬ op = 16 ∧ ¬ op = 32 ∧ ¬ op = 64 ∧ ¬ op = 80 ∧ ¬ op = 128 ∧ ¬ op = 160 ∧ ¬ op = 176) : FF 78 [.int .i64 op, .int .u64 0, .int .u64 0] [] = some (.tuple [.int .u64 0, .bool false], []) := by
  refine Fw_funK rfl Try.func78 s78 (Nat.le_of_ble_eq_true rfl) (fun Q hqr hqn => ?_)
  rw [cin_t (show An.pure 78 = true from rfl) (by simp only [cans, can_int, can_bool, can_agg, can_str])]
  simp only [tinit, Nat.reduceAdd, c78]
  repeat' (first
  | with_reducible (first | refine Tx_assoc ?_ | refine Tx_no rfl ?_ | refine Tx_ret ?_ | refine Tx_nop ?_ | refine Tx_blockK (id := 0) (fun Q0 hn0 hx0 hr0 ho0 => ?_) | refine hn0 _ ?_)
  | (with_reducible (first | (refine Tx_regK (fun K hK => ?_); (first | refine t78r0 ?_ | refine t78r1 ?_ | refine t78r2 ?_ | refine t78r4 ?_ | refine t78r6 ?_ | refine t78r8 ?_ | refine t78r10 ?_ | refine t78r12 ?_ | refine t78r14 ?_ | refine t78r16 ?_ | refine t78r18 ?_)) | refine hqr _ ?_); (try simp only [true_implies, false_implies, not_false_eq_true, tget_cons, if_true, if_false, Nat.reduceEqDiff, Obt_some, Kn_normal, Obt_eql, Option.map_some, true_and, if_false, if_true, r78, tend, tresAll, tresC, Option.bind_some, mapMem, retv_int, retv_bool, tup_two, h]))
  | (revert hK; intro hK; (with_reducible refine hK _ ?_; clear hK K)))
  all_goals first | rfl | trivial | simp
theorem x62 (op : Int) : ∃ r, (∃ b H', r = (CV.tuple [.int .u64 b, .bool (aluOk op)], H')) ∧ FF 62 [.int .i64 op, .int .u64 0, .int .u64 0, .bool true] [] = some r := by
  rcases alu_cases (op := op) with rfl | rfl | rfl | rfl | rfl | rfl | rfl | rfl | rfl | rfl | rfl | rfl | rfl | ⟨hf, h⟩
  iterate 13 exact pairN_of (n := 20) (by kernel_rfl)
  have hk : ∀ m, callC An FF 62 (some 49) 78 [.int .i64 op, .int .u64 0, .int .u64 0] m = some (.tuple [.int .u64 0, .bool false], m) := fun m => callC_V (x78 (by simp only [h, not_false_eq_true, and_self])) (fun _ _ _ => rfl) rfl rfl rfl rfl rfl
  rw [hf]
  refine Fw_funE rfl Try.func62 s62 (Nat.le_of_ble_eq_true rfl) (fun Q hqr hqn => ?_)
  rw [cin_t (show An.pure 62 = true from rfl) (by simp only [cans, can_int, can_bool, can_agg, can_str])]
  simp only [tinit, Nat.reduceAdd, c62]
  repeat' (first
  | with_reducible (first | refine Tx_assoc ?_ | refine Tx_noK rfl ?_ | refine Tx_no rfl ?_ | refine Tx_ret ?_ | refine Tx_nop ?_ | refine Tx_blockK (id := 0) (fun Q0 hn0 hx0 hr0 ho0 => ?_) | refine hn0 _ ?_)
  | (with_reducible (first | (refine Tx_regK (fun K hK => ?_); (first | refine t62r0 ?_ | refine t62r1 ?_ | refine t62r2 ?_ | refine t62r3 ?_ | refine t62r7 ?_ | refine t62r11 ?_ | refine t62r12 ?_ | refine t62r13 ?_ | refine t62r15 ?_ | refine t62r16 ?_)) | refine hqr _ ?_); (try simp only [true_implies, false_implies, not_false_eq_true, tget_cons, if_true, if_false, Nat.reduceEqDiff, Obt_some, Kn_normal, List.getElem?_cons_zero, List.getElem?_cons_succ, Obt_eql, Option.map_some, Obt_ext, true_and, if_false, if_true, r62, tend, tresAll, tresC, Option.bind_some, mapMem, retv_int, retv_bool, tup_two, Prod.mk.injEq, low0, hk, h]))
  | (revert hK; intro hK; (with_reducible refine hK _ ?_; clear hK K)))
  all_goals first | exact ⟨_, _, rfl, rfl⟩ | exact ⟨_, _, rfl⟩ | simp
theorem x44 (op : Int) : FF 44 [.int .i64 op] [] = some (.int .i64 (cls op), []) := by
  by_cases h1 : op < 0
  · have he : cls op = -1 := by simp [cls, h1]
    refine Fw_funK rfl Try.func44 s44 (Nat.le_of_ble_eq_true rfl) (fun Q hqr hqn => ?_)
    rw [cin_t (show An.pure 44 = true from rfl) (by simp only [cans, can_int, can_bool, can_agg, can_str])]
    simp only [tinit, Nat.reduceAdd, c44]
    repeat' (first
    | with_reducible (first | refine Tx_assoc ?_ | refine Tx_yesK rfl ?_ | refine Tx_retK ?_)
    | (with_reducible (first | (refine Tx_regK (fun K hK => ?_); (first | refine t44r0 ?_ | refine t44r1 ?_ | refine t44r2 ?_)) | refine hqr _ ?_); (try simp only [true_implies, false_implies, not_true_eq_false, tget_cons, if_true, Obt_some, Kn_normal, Obt_lss, Obt_gtr, gdO_tf, gdO_ff, Option.map_some, pickX_t, pickX_f, Obt_map, and_true, if_true, r44, tend, tresAll, tresC, Option.bind_some, mapMem, retv_int, tup_one, h1, he]))
    | (revert hK; intro hK; (with_reducible refine hK _ ?_; clear hK K)))
  · by_cases h2 : (255 : Int) < op
    · have he : cls op = -1 := by simp [cls, h2]
      refine Fw_funK rfl Try.func44 s44 (Nat.le_of_ble_eq_true rfl) (fun Q hqr hqn => ?_)
      rw [cin_t (show An.pure 44 = true from rfl) (by simp only [cans, can_int, can_bool, can_agg, can_str])]
      simp only [tinit, Nat.reduceAdd, c44]
      repeat' (first
      | with_reducible (first | refine Tx_assoc ?_ | refine Tx_yesK rfl ?_ | refine Tx_retK ?_)
      | (with_reducible (first | (refine Tx_regK (fun K hK => ?_); (first | refine t44r0 ?_ | refine t44r1 ?_ | refine t44r2 ?_)) | refine hqr _ ?_); (try simp only [true_implies, false_implies, not_true_eq_false, not_false_eq_true, tget_cons, if_true, Obt_some, Kn_normal, Obt_lss, Obt_gtr, gdO_tf, gdO_ff, Option.map_some, pickX_t, pickX_f, Obt_map, and_true, true_and, if_true, r44, tend, tresAll, tresC, Option.bind_some, mapMem, retv_int, tup_one, h1, h2, he, gt_iff_lt]))
      | (revert hK; intro hK; (with_reducible refine hK _ ?_; clear hK K)))
    · have he : cls op = bitop .and .i64 op 7 := by simp [cls, h1, h2]
      refine Fw_funK rfl Try.func44 s44 (Nat.le_of_ble_eq_true rfl) (fun Q hqr hqn => ?_)
      rw [cin_t (show An.pure 44 = true from rfl) (by simp only [cans, can_int, can_bool, can_agg, can_str])]
      simp only [tinit, Nat.reduceAdd, c44]
      repeat' (first
      | with_reducible (first | refine Tx_assoc ?_ | refine Tx_nopK ?_ | refine Tx_noK rfl ?_ | refine Tx_ret ?_)
      | (with_reducible (first | (refine Tx_regK (fun K hK => ?_); (first | refine t44r0 ?_ | refine t44r1 ?_ | refine t44r3 ?_)) | refine hqr _ ?_); (try simp only [true_implies, false_implies, not_false_eq_true, tget_cons, if_true, if_false, Nat.reduceEqDiff, Obt_some, Kn_normal, Obt_lss, Obt_gtr, gdO_tf, gdO_ff, Option.map_some, pickX_t, pickX_f, Obt_map, Obt_and, true_and, if_false, if_true, r44, tend, tresAll, tresC, Option.bind_some, mapMem, retv_int, tup_one, h1, h2, he, gt_iff_lt]))
      | (revert hK; intro hK; (with_reducible refine hK _ ?_; clear hK K)))
theorem k44 {op : Int} {fid : FuncId} {d : Tmp} {m : Mem} : callC An FF fid (some d) 44 [.int .i64 op] m = some (.int .i64 (cls op), m) :=
  callC_V (x44 op) (fun _ _ _ => rfl) rfl rfl rfl rfl rfl
def jT (op : Int) : CV := if jB op = true then .tuple [.int .i64 (hi op), .bool (decide (cls op = 5)), .bool true] else .tuple [.int .i64 0, .bool false, .bool false]
def aT (op : Int) : CV := if aB op = true then .tuple [.int .i64 (hi op), .bool (decide (cls op = 7)), .bool true] else .tuple [.int .i64 0, .bool false, .bool false]
theorem jT_eq (op : Int) : ∃ a b, jT op = .tuple [.int .i64 a, .bool b, .bool (jB op)] := by
  unfold jT
  split
  · rename_i h; exact ⟨_, _, by rw [h]⟩
  · rename_i h; exact ⟨0, false, by rw [Bool.not_eq_true] at h; rw [h]⟩
theorem x36 (op : Int) : FF 36 [.int .i64 op] [] = some (jT op, []) := by
  obtain ⟨_, ⟨b, H', rfl⟩, hc⟩ := x52 (hi op)
  have hk : ∀ t m, callC An FF 36 (some t) 52 [.int .i64 (bitop .and .i64 op 240), .int .u64 0, .int .u64 0, .bool true] m = some (.tuple [.bool b, .bool (condOk (hi op))], m) := fun t m => callC_V hc (fun _ _ _ => rfl) rfl rfl rfl rfl rfl
  by_cases h5 : cls op = 5
  · cases h : condOk (hi op) with
    | true =>
      rw [h] at hk
      have he : jT op = .tuple [.int .i64 (hi op), .bool true, .bool true] := by simp [jT, jB, h5, h]
      rw [he]
      refine Fw_funK rfl Try.func36 s36 (Nat.le_of_ble_eq_true rfl) (fun Q hqr hqn => ?_)
      rw [cin_t (show An.pure 36 = true from rfl) (by simp only [cans, can_int, can_bool, can_agg, can_str])]
      simp only [tinit, Nat.reduceAdd, c36]
      repeat' (first
      | with_reducible (first | refine Tx_assoc ?_ | refine Tx_nopK ?_ | refine Tx_noK rfl ?_ | refine Tx_ret ?_)
      | (with_reducible (first | (refine Tx_regK (fun K hK => ?_); (first | refine t36r0 ?_ | refine t36r1 ?_ | refine t36r2 ?_ | refine t36r3 ?_ | refine t36r5 ?_)) | refine hqr _ ?_); (try simp only [true_implies, false_implies, not_true_eq_false, tget_cons, if_true, if_false, Nat.reduceEqDiff, Obt_some, Kn_normal, List.getElem?_cons_zero, List.getElem?_cons_succ, Obt_eql, Obt_neq, Obt_not, gdO_tt, gdO_tf, gdO_ff, gdO_ft, Option.map_some, pickX_t, pickX_f, Bool.not_true, Obt_map, Obt_and, Obt_ext, and_true, if_false, if_true, r36, tend, tresAll, tresC, Option.bind_some, mapMem, retv_int, retv_bool, tup_two, k44, hk, h5, ne_eq, hi]))
      | (revert hK; intro hK; (with_reducible refine hK _ ?_; clear hK K)))
      all_goals first | rfl | simp [hi]
    | false =>
      rw [h] at hk
      have he : jT op = .tuple [.int .i64 0, .bool false, .bool false] := by simp [jT, jB, h]
      rw [he]
      refine Fw_funK rfl Try.func36 s36 (Nat.le_of_ble_eq_true rfl) (fun Q hqr hqn => ?_)
      rw [cin_t (show An.pure 36 = true from rfl) (by simp only [cans, can_int, can_bool, can_agg, can_str])]
      simp only [tinit, Nat.reduceAdd, c36]
      repeat' (first
      | with_reducible (first | refine Tx_assoc ?_ | refine Tx_yesK rfl ?_ | refine Tx_retK ?_)
      | (with_reducible (first | (refine Tx_regK (fun K hK => ?_); (first | refine t36r0 ?_ | refine t36r1 ?_ | refine t36r2 ?_ | refine t36r3 ?_ | refine t36r4 ?_)) | refine hqr _ ?_); (try simp only [true_implies, false_implies, not_true_eq_false, tget_cons, if_true, if_false, Nat.reduceEqDiff, Obt_some, Kn_normal, List.getElem?_cons_zero, List.getElem?_cons_succ, Obt_neq, Obt_not, gdO_tt, gdO_tf, gdO_ff, gdO_ft, Option.map_some, pickX_t, pickX_f, Bool.not_false, Obt_map, Obt_and, Obt_ext, and_true, if_false, if_true, r36, tend, tresAll, tresC, Option.bind_some, mapMem, retv_int, retv_bool, tup_two, k44, hk, h5, ne_eq]))
      | (revert hK; intro hK; (with_reducible refine hK _ ?_; clear hK K)))
      all_goals first | rfl | simp
  · by_cases h6 : cls op = 6
    · cases h : condOk (hi op) with
      | true =>
        rw [h] at hk
        have he : jT op = .tuple [.int .i64 (hi op), .bool false, .bool true] := by simp [jT, jB, h6, h]
        rw [he]
        refine Fw_funK rfl Try.func36 s36 (Nat.le_of_ble_eq_true rfl) (fun Q hqr hqn => ?_)
        rw [cin_t (show An.pure 36 = true from rfl) (by simp only [cans, can_int, can_bool, can_agg, can_str])]
        simp only [tinit, Nat.reduceAdd, c36]
        repeat' (first
        | with_reducible (first | refine Tx_assoc ?_ | refine Tx_nopK ?_ | refine Tx_noK rfl ?_ | refine Tx_ret ?_)
        | (with_reducible (first | (refine Tx_regK (fun K hK => ?_); (first | refine t36r0 ?_ | refine t36r1 ?_ | refine t36r2 ?_ | refine t36r3 ?_ | refine t36r5 ?_)) | refine hqr _ ?_); (try simp only [true_implies, false_implies, not_true_eq_false, tget_cons, if_true, if_false, Nat.reduceEqDiff, Obt_some, Kn_normal, List.getElem?_cons_zero, List.getElem?_cons_succ, Obt_eql, Obt_neq, Obt_not, gdO_tt, gdO_tf, gdO_ff, gdO_ft, Option.map_some, pickX_t, pickX_f, Bool.not_true, Obt_map, Obt_and, Obt_ext, and_true, if_false, if_true, r36, tend, tresAll, tresC, Option.bind_some, mapMem, retv_int, retv_bool, tup_two, k44, hk, h6, ne_eq, hi]))
        | (revert hK; intro hK; (first | refine And.intro ?_ ?_ | intro _ | omega | (with_reducible refine hK _ ?_; clear hK K))))
        all_goals first | rfl | simp [hi]
      | false =>
        rw [h] at hk
        have he : jT op = .tuple [.int .i64 0, .bool false, .bool false] := by simp [jT, jB, h]
        rw [he]
        refine Fw_funK rfl Try.func36 s36 (Nat.le_of_ble_eq_true rfl) (fun Q hqr hqn => ?_)
        rw [cin_t (show An.pure 36 = true from rfl) (by simp only [cans, can_int, can_bool, can_agg, can_str])]
        simp only [tinit, Nat.reduceAdd, c36]
        repeat' (first
        | with_reducible (first | refine Tx_assoc ?_ | refine Tx_yesK rfl ?_ | refine Tx_retK ?_)
        | (with_reducible (first | (refine Tx_regK (fun K hK => ?_); (first | refine t36r0 ?_ | refine t36r1 ?_ | refine t36r2 ?_ | refine t36r3 ?_ | refine t36r4 ?_)) | refine hqr _ ?_); (try simp only [true_implies, false_implies, not_true_eq_false, tget_cons, if_true, if_false, Nat.reduceEqDiff, Obt_some, Kn_normal, List.getElem?_cons_zero, List.getElem?_cons_succ, Obt_neq, Obt_not, gdO_tt, gdO_tf, gdO_ff, gdO_ft, Option.map_some, pickX_t, pickX_f, Bool.not_false, Obt_map, Obt_and, Obt_ext, and_true, if_false, if_true, r36, tend, tresAll, tresC, Option.bind_some, mapMem, retv_int, retv_bool, tup_two, k44, hk, h6, ne_eq]))
        | (revert hK; intro hK; (first | refine And.intro ?_ ?_ | intro _ | omega | (with_reducible refine hK _ ?_; clear hK K))))
        all_goals first | rfl | simp
    · have he : jT op = .tuple [.int .i64 0, .bool false, .bool false] := by simp [jT, jB, h5, h6]
      rw [he]
      refine Fw_funK rfl Try.func36 s36 (Nat.le_of_ble_eq_true rfl) (fun Q hqr hqn => ?_)
      rw [cin_t (show An.pure 36 = true from rfl) (by simp only [cans, can_int, can_bool, can_agg, can_str])]
      simp only [tinit, Nat.reduceAdd, c36]
      repeat' (first
      | with_reducible (first | refine Tx_assoc ?_ | refine Tx_yesK rfl ?_ | refine Tx_retK ?_)
      | (with_reducible (first | (refine Tx_regK (fun K hK => ?_); (first | refine t36r0 ?_ | refine t36r1 ?_ | refine t36r2 ?_ | refine t36r3 ?_ | refine t36r4 ?_)) | refine hqr _ ?_); (try simp only [true_implies, false_implies, not_false_eq_true, tget_cons, if_true, if_false, Nat.reduceEqDiff, Obt_some, Kn_normal, List.getElem?_cons_zero, List.getElem?_cons_succ, Obt_neq, Obt_not, gdO_tt, gdO_tf, gdO_ff, gdO_ft, Option.map_some, pickX_t, pickX_f, Obt_map, Obt_and, Obt_ext, true_and, if_false, if_true, r36, tend, tresAll, tresC, Option.bind_some, mapMem, retv_int, retv_bool, tup_two, k44, hk, h5, h6, ne_eq]))
      | (revert hK; intro hK; (with_reducible refine hK _ ?_; clear hK K)))
      all_goals first | rfl | simp
theorem x43 (op : Int) : FF 43 [.int .i64 op] [] = some (aT op, []) := by
  obtain ⟨_, ⟨b, H', rfl⟩, hc⟩ := x62 (hi op)
  have hk : ∀ t m, callC An FF 43 (some t) 62 [.int .i64 (bitop .and .i64 op 240), .int .u64 0, .int .u64 0, .bool true] m = some (.tuple [.int .u64 b, .bool (aluOk (hi op))], m) := fun t m => callC_V hc (fun _ _ _ => rfl) rfl rfl rfl rfl rfl
  have hf : (aluOk (hi op) && !(decide (hi op = 128) && decide (0 < byReg op))) = false → aT op = .tuple [.int .i64 0, .bool false, .bool false] := fun h => by simp only [aT, aB, h, Bool.and_false, Bool.false_eq_true, if_false]
  have ht : (aluOk (hi op) && !(decide (hi op = 128) && decide (0 < byReg op))) = true → (cls op = 4 ∨ cls op = 7) → aT op = .tuple [.int .i64 (hi op), .bool (decide (cls op = 7)), .bool true] := fun h h2 => by
    have : (decide (cls op = 4) || decide (cls op = 7)) = true := by simpa using h2
    simp only [aT, aB, h, this, Bool.and_self, if_true]
  by_cases hx : cls op = 4 ∨ cls op = 7
  · have hcl : (cls op = 4 ∧ ¬ cls op = 7) ∨ (¬ cls op = 4 ∧ cls op = 7) := by omega
    cases h : aluOk (hi op) with
    | false =>
      rw [h] at hk
      rw [hf (by rw [h]; rfl)]
      rcases hcl with ⟨h4, h7⟩ | ⟨h4, h7⟩
      · refine Fw_funK rfl Try.func43 s43 (Nat.le_of_ble_eq_true rfl) (fun Q hqr hqn => ?_)
        rw [cin_t (show An.pure 43 = true from rfl) (by simp only [cans, can_int, can_bool, can_agg, can_str])]
        simp only [tinit, Nat.reduceAdd, c43]
        repeat' (first
        | with_reducible (first | refine Tx_assoc ?_ | refine Tx_yesK rfl ?_ | refine Tx_retK ?_)
        | (with_reducible (first | (refine Tx_regK (fun K hK => ?_); (first | refine t43r0 ?_ | refine t43r1 ?_ | refine t43r2 ?_ | refine t43r3 ?_ | refine t43r4 ?_)) | refine hqr _ ?_); (try simp only [true_implies, false_implies, not_true_eq_false, tget_cons, if_true, if_false, Nat.reduceEqDiff, Obt_some, Kn_normal, List.getElem?_cons_zero, List.getElem?_cons_succ, Obt_neq, Obt_not, gdO_tt, gdO_tf, gdO_ff, gdO_ft, gdO_skip, Option.map_some, pickX_t, pickX_f, Bool.not_false, Obt_map, Obt_and, Obt_ext, and_true, if_false, if_true, r43, tend, tresAll, tresC, Option.bind_some, mapMem, retv_int, retv_bool, tup_two, k44, hk, h4, h7, ne_eq]))
        | (revert hK; intro hK; (with_reducible refine hK _ ?_; clear hK K)))
        all_goals first | rfl | simp
      · refine Fw_funK rfl Try.func43 s43 (Nat.le_of_ble_eq_true rfl) (fun Q hqr hqn => ?_)
        rw [cin_t (show An.pure 43 = true from rfl) (by simp only [cans, can_int, can_bool, can_agg, can_str])]
        simp only [tinit, Nat.reduceAdd, c43]
        repeat' (first
        | with_reducible (first | refine Tx_assoc ?_ | refine Tx_yesK rfl ?_ | refine Tx_retK ?_)
        | (with_reducible (first | (refine Tx_regK (fun K hK => ?_); (first | refine t43r0 ?_ | refine t43r1 ?_ | refine t43r2 ?_ | refine t43r3 ?_ | refine t43r4 ?_)) | refine hqr _ ?_); (try simp only [true_implies, false_implies, not_true_eq_false, tget_cons, if_true, if_false, Nat.reduceEqDiff, Obt_some, Kn_normal, List.getElem?_cons_zero, List.getElem?_cons_succ, Obt_neq, Obt_not, gdO_tt, gdO_tf, gdO_ff, gdO_ft, gdO_skip, Option.map_some, pickX_t, pickX_f, Bool.not_false, Obt_map, Obt_and, Obt_ext, and_true, if_false, if_true, r43, tend, tresAll, tresC, Option.bind_some, mapMem, retv_int, retv_bool, tup_two, k44, hk, h4, h7, ne_eq]))
        | (revert hK; intro hK; (first | refine And.intro ?_ ?_ | intro _ | omega | (with_reducible refine hK _ ?_; clear hK K))))
        all_goals first | rfl | simp
    | true =>
      rw [h] at hk
      by_cases h8 : bitop .and .i64 op 240 = 128
      · have hk8 := hk
        rw [h8] at hk8
        clear hk
        by_cases hr : (0 : Int) < bitop .and .i64 op 8
        · rw [hf (by simp only [hi, h8, byReg, hr, decide_true, Bool.and_self, Bool.not_true, Bool.and_false])]
          rcases hcl with ⟨h4, h7⟩ | ⟨h4, h7⟩
          · refine Fw_funK rfl Try.func43 s43 (Nat.le_of_ble_eq_true rfl) (fun Q hqr hqn => ?_)
            rw [cin_t (show An.pure 43 = true from rfl) (by simp only [cans, can_int, can_bool, can_agg, can_str])]
            simp only [tinit, Nat.reduceAdd, c43]
            repeat' (first
            | with_reducible (first | refine Tx_assoc ?_ | refine Tx_yesK rfl ?_ | refine Tx_retK ?_)
            | (with_reducible (first | (refine Tx_regK (fun K hK => ?_); (first | refine t43r0 ?_ | refine t43r1 ?_ | refine t43r2 ?_ | refine t43r3 ?_ | refine t43r4 ?_)) | refine hqr _ ?_); (try simp only [true_implies, false_implies, not_true_eq_false, tget_cons, if_true, if_false, Nat.reduceEqDiff, Obt_some, Kn_normal, List.getElem?_cons_zero, List.getElem?_cons_succ, Obt_gtr, Obt_eql, Obt_neq, Obt_not, gdO_tt, gdO_tf, gdO_ff, gdO_ft, gdO_skip, Option.map_some, pickX_t, pickX_f, Bool.not_true, Obt_map, Obt_and, Obt_ext, and_true, if_false, if_true, r43, tend, tresAll, tresC, Option.bind_some, mapMem, retv_int, retv_bool, tup_two, k44, hk8, h4, h7, ne_eq, h8, hr, gt_iff_lt]))
            | (revert hK; intro hK; (with_reducible refine hK _ ?_; clear hK K)))
            all_goals first | rfl | simp
          · refine Fw_funK rfl Try.func43 s43 (Nat.le_of_ble_eq_true rfl) (fun Q hqr hqn => ?_)
            rw [cin_t (show An.pure 43 = true from rfl) (by simp only [cans, can_int, can_bool, can_agg, can_str])]
            simp only [tinit, Nat.reduceAdd, c43]
            repeat' (first
            | with_reducible (first | refine Tx_assoc ?_ | refine Tx_yesK rfl ?_ | refine Tx_retK ?_)
            | (with_reducible (first | (refine Tx_regK (fun K hK => ?_); (first | refine t43r0 ?_ | refine t43r1 ?_ | refine t43r2 ?_ | refine t43r3 ?_ | refine t43r4 ?_)) | refine hqr _ ?_); (try simp only [true_implies, false_implies, not_true_eq_false, tget_cons, if_true, if_false, Nat.reduceEqDiff, Obt_some, Kn_normal, List.getElem?_cons_zero, List.getElem?_cons_succ, Obt_gtr, Obt_eql, Obt_neq, Obt_not, gdO_tt, gdO_tf, gdO_ff, gdO_ft, gdO_skip, Option.map_some, pickX_t, pickX_f, Bool.not_true, Obt_map, Obt_and, Obt_ext, and_true, if_false, if_true, r43, tend, tresAll, tresC, Option.bind_some, mapMem, retv_int, retv_bool, tup_two, k44, hk8, h4, h7, ne_eq, h8, hr, gt_iff_lt]))
            | (revert hK; intro hK; (first | refine And.intro ?_ ?_ | intro _ | omega | (with_reducible refine hK _ ?_; clear hK K))))
            all_goals first | rfl | simp
        · rw [ht (by rw [h]; simp only [hi, h8, byReg, hr, decide_true, decide_false, Bool.and_false, Bool.not_false, Bool.and_self]) hx]
          rcases hcl with ⟨h4, h7⟩ | ⟨h4, h7⟩
          · refine Fw_funK rfl Try.func43 s43 (Nat.le_of_ble_eq_true rfl) (fun Q hqr hqn => ?_)
            rw [cin_t (show An.pure 43 = true from rfl) (by simp only [cans, can_int, can_bool, can_agg, can_str])]
            simp only [tinit, Nat.reduceAdd, c43]
            repeat' (first
            | with_reducible (first | refine Tx_assoc ?_ | refine Tx_nopK ?_ | refine Tx_noK rfl ?_ | refine Tx_ret ?_)
            | (with_reducible (first | (refine Tx_regK (fun K hK => ?_); (first | refine t43r0 ?_ | refine t43r1 ?_ | refine t43r2 ?_ | refine t43r3 ?_ | refine t43r5 ?_)) | refine hqr _ ?_); (try simp only [true_implies, false_implies, not_true_eq_false, not_false_eq_true, tget_cons, if_true, if_false, Nat.reduceEqDiff, Obt_some, Kn_normal, List.getElem?_cons_zero, List.getElem?_cons_succ, Obt_gtr, Obt_eql, Obt_neq, Obt_not, gdO_tt, gdO_tf, gdO_ff, gdO_ft, gdO_skip, Option.map_some, pickX_t, pickX_f, Bool.not_true, Obt_map, Obt_and, Obt_ext, and_true, true_and, if_false, if_true, r43, tend, tresAll, tresC, Option.bind_some, mapMem, retv_int, retv_bool, tup_two, Prod.mk.injEq, k44, hk8, h4, h7, ne_eq, h8, hr, gt_iff_lt]))
            | (revert hK; intro hK; (first | refine And.intro ?_ ?_ | intro _ | omega | (with_reducible refine hK _ ?_; clear hK K))))
            all_goals first | rfl | simp [hi, h7, h8]
          · refine Fw_funK rfl Try.func43 s43 (Nat.le_of_ble_eq_true rfl) (fun Q hqr hqn => ?_)
            rw [cin_t (show An.pure 43 = true from rfl) (by simp only [cans, can_int, can_bool, can_agg, can_str])]
            simp only [tinit, Nat.reduceAdd, c43]
            repeat' (first
            | with_reducible (first | refine Tx_assoc ?_ | refine Tx_nopK ?_ | refine Tx_noK rfl ?_ | refine Tx_ret ?_)
            | (with_reducible (first | (refine Tx_regK (fun K hK => ?_); (first | refine t43r0 ?_ | refine t43r1 ?_ | refine t43r2 ?_ | refine t43r3 ?_ | refine t43r5 ?_)) | refine hqr _ ?_); (try simp only [true_implies, false_implies, not_true_eq_false, not_false_eq_true, tget_cons, if_true, if_false, Nat.reduceEqDiff, Obt_some, Kn_normal, List.getElem?_cons_zero, List.getElem?_cons_succ, Obt_gtr, Obt_eql, Obt_neq, Obt_not, gdO_tt, gdO_tf, gdO_ff, gdO_ft, gdO_skip, Option.map_some, pickX_t, pickX_f, Bool.not_true, Obt_map, Obt_and, Obt_ext, and_true, true_and, decide_true, if_false, if_true, r43, tend, tresAll, tresC, Option.bind_some, mapMem, retv_int, retv_bool, tup_two, Prod.mk.injEq, k44, hk8, h4, h7, ne_eq, h8, hr, gt_iff_lt]))
            | (revert hK; intro hK; (first | refine And.intro ?_ ?_ | intro _ | omega | (with_reducible refine hK _ ?_; clear hK K))))
            all_goals first | rfl | simp [hi, h7, h8]
      · rw [ht (by rw [h]; simp only [hi, h8, decide_false, Bool.false_and, Bool.not_false, Bool.and_self]) hx]
        rcases hcl with ⟨h4, h7⟩ | ⟨h4, h7⟩
        · refine Fw_funK rfl Try.func43 s43 (Nat.le_of_ble_eq_true rfl) (fun Q hqr hqn => ?_)
          rw [cin_t (show An.pure 43 = true from rfl) (by simp only [cans, can_int, can_bool, can_agg, can_str])]
          simp only [tinit, Nat.reduceAdd, c43]
          repeat' (first
          | with_reducible (first | refine Tx_assoc ?_ | refine Tx_nopK ?_ | refine Tx_noK rfl ?_ | refine Tx_ret ?_)
          | (with_reducible (first | (refine Tx_regK (fun K hK => ?_); (first | refine t43r0 ?_ | refine t43r1 ?_ | refine t43r2 ?_ | refine t43r3 ?_ | refine t43r5 ?_)) | refine hqr _ ?_); (try simp only [true_implies, false_implies, not_true_eq_false, not_false_eq_true, tget_cons, if_true, if_false, Nat.reduceEqDiff, Obt_some, Kn_normal, List.getElem?_cons_zero, List.getElem?_cons_succ, Obt_gtr, Obt_eql, Obt_neq, Obt_not, gdO_tt, gdO_tf, gdO_ff, gdO_ft, gdO_skip, Option.map_some, pickX_t, pickX_f, Bool.not_true, Obt_map, Obt_and, Obt_ext, and_true, true_and, if_false, if_true, r43, tend, tresAll, tresC, Option.bind_some, mapMem, retv_int, retv_bool, tup_two, Prod.mk.injEq, k44, hk, h4, h7, ne_eq, h8]))
          | (revert hK; intro hK; (first | refine And.intro ?_ ?_ | intro _ | omega | (with_reducible refine hK _ ?_; clear hK K))))
          all_goals first | rfl | simp [hi, h7]
        · refine Fw_funK rfl Try.func43 s43 (Nat.le_of_ble_eq_true rfl) (fun Q hqr hqn => ?_)
          rw [cin_t (show An.pure 43 = true from rfl) (by simp only [cans, can_int, can_bool, can_agg, can_str])]
          simp only [tinit, Nat.reduceAdd, c43]
          repeat' (first
          | with_reducible (first | refine Tx_assoc ?_ | refine Tx_nopK ?_ | refine Tx_noK rfl ?_ | refine Tx_ret ?_)
          | (with_reducible (first | (refine Tx_regK (fun K hK => ?_); (first | refine t43r0 ?_ | refine t43r1 ?_ | refine t43r2 ?_ | refine t43r3 ?_ | refine t43r5 ?_)) | refine hqr _ ?_); (try simp only [true_implies, false_implies, not_true_eq_false, not_false_eq_true, tget_cons, if_true, if_false, Nat.reduceEqDiff, Obt_some, Kn_normal, List.getElem?_cons_zero, List.getElem?_cons_succ, Obt_gtr, Obt_eql, Obt_neq, Obt_not, gdO_tt, gdO_tf, gdO_ff, gdO_ft, gdO_skip, Option.map_some, pickX_t, pickX_f, Bool.not_true, Obt_map, Obt_and, Obt_ext, and_true, true_and, decide_true, if_false, if_true, r43, tend, tresAll, tresC, Option.bind_some, mapMem, retv_int, retv_bool, tup_two, Prod.mk.injEq, k44, hk, h4, h7, ne_eq, h8]))
          | (revert hK; intro hK; (first | refine And.intro ?_ ?_ | intro _ | omega | (with_reducible refine hK _ ?_; clear hK K))))
          all_goals first | rfl | simp [hi, h7]
  · have h4 : ¬ cls op = 4 := fun h => hx (.inl h)
    have h7 : ¬ cls op = 7 := fun h => hx (.inr h)
    have he : aT op = .tuple [.int .i64 0, .bool false, .bool false] := by simp [aT, aB, h4, h7]
    rw [he]
    refine Fw_funK rfl Try.func43 s43 (Nat.le_of_ble_eq_true rfl) (fun Q hqr hqn => ?_)
    rw [cin_t (show An.pure 43 = true from rfl) (by simp only [cans, can_int, can_bool, can_agg, can_str])]
    simp only [tinit, Nat.reduceAdd, c43]
    repeat' (first
    | with_reducible (first | refine Tx_assoc ?_ | refine Tx_yesK rfl ?_ | refine Tx_retK ?_)
    | (with_reducible (first | (refine Tx_regK (fun K hK => ?_); (first | refine t43r0 ?_ | refine t43r1 ?_ | refine t43r2 ?_ | refine t43r3 ?_ | refine t43r4 ?_)) | refine hqr _ ?_); (try simp only [true_implies, false_implies, not_false_eq_true, tget_cons, if_true, if_false, Nat.reduceEqDiff, Obt_some, Kn_normal, List.getElem?_cons_zero, List.getElem?_cons_succ, Obt_gtr, Obt_eql, Obt_neq, Obt_not, gdO_tt, gdO_tf, gdO_ff, gdO_ft, gdO_skip, Option.map_some, pickX_t, pickX_f, Obt_pickS, Obt_gdF, Obt_map, Obt_and, Obt_ext, true_and, if_false, if_true, r43, tend, tresAll, tresC, Option.bind_some, mapMem, retv_int, retv_bool, tup_two, k44, hk, h4, h7, ne_eq]))
    | (revert hK; intro hK; (with_reducible refine hK _ ?_; clear hK K)))
    all_goals first | rfl | simp
end Go.Cm
