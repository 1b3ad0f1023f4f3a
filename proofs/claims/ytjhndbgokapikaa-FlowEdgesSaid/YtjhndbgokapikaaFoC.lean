import Derived.Test.YtjhndbgokapikaaFoB
set_option linter.unusedSimpArgs false
set_option linter.unusedVariables false
namespace Go.Cm
open Go.Proofs Go.Fl
theorem x50 (x : In) : FF 50 [.agg (inC x)] [] = some (.bool (twoOk x), []) := by
  have n1 : ∀ {t : Tmp} {m : Mem} {j g : Nat}, lget m.L j = some (.arr g 1 [.int .i64 x.off] 0) → callC An FF 50 (some t) 48 [.ref (.l j) g 0 1] m = some (.bool (decide (x.off = 0)), m) := k48_1
  by_cases h0 : x.off = 0
  · by_cases h1 : IntKind.u32.wrap x.wide = IntKind.u32.wrap x.imm
    · by_cases h2 : x.src = 1
      · have he : twoOk x = (inB x.imm 0 7 && decide (hiW x.wide = 0)) := by simp [twoOk, h0, h1, h2]
        obtain ⟨c, hc⟩ : ∃ c, c = inB x.imm 0 7 := ⟨_, rfl⟩
        have k2 : ∀ t m, callC An FF 50 (some t) 49 [.int .i64 x.imm, .int .i64 0, .int .i64 7] m = some (.bool c, m) := fun t m => by rw [hc, k49]
        rw [he, ← hc]
        cases c with
        | false =>
          refine Fw_funK rfl Try.func50 s50 (Nat.le_of_ble_eq_true rfl) (fun Q hqr hqn => ?_)
          rw [cin_t (show An.pure 50 = true from rfl) (by simp only [cans, can_int, can_bool, can_agg, can_str, can_agg, inE.can])]
          simp only [tinit, Nat.reduceAdd, c50]
          repeat' (first
          | with_reducible (first | refine Tx_yes rfl ?_ | refine Tx_no rfl ?_ | refine Tx_ret ?_ | refine Tx_blockK (id := 0) (fun Q0 hn0 hx0 hr0 ho0 => ?_) | refine hr0 _ ?_)
          | (with_reducible (first | (refine Tx_regK (fun K hK => ?_); (first | refine t50r0 ?_ | refine t50r1 ?_ | refine t50r3 ?_ | refine t50r4 ?_)) | refine hqr _ ?_); (try simp only [true_implies, false_implies, not_true_eq_false, tget_cons, if_true, if_false, Nat.reduceEqDiff, ccells, Obt_some, Kn_normal, newL_eq, newP_eq, nmA_f, nmR_f, gn_var, gnext_setL, lget_setL, setL_H, Nat.zero_add, fldA_ptr, ld1_l, rd1_var, List.getElem?_cons_zero, List.getElem?_cons_succ, Obt_eql, Obt_neq, Obt_not, gdO_ff, gdO_ft, Option.map_some, pickX_f, Bool.not_true, Obt_map, Obt_conv, Obt_bind, fillX, bslX, escP_list, splice, List.take_zero, List.drop_succ_cons, List.drop_nil, List.nil_append, List.append_nil, List.length_cons, List.length_nil, and_true, Nat.le_refl, escP, List.all_cons, List.all_nil, Bool.and_self, decide_true, if_false, if_true, r50, tend, tresAll, tresC, Option.bind_some, mapMem, retv_bool, tup_one, Prod.mk.injEq, CV.bool.injEq, inC, n1, eq_true h0, h1, eq_true h2, k2, ne_eq]))
          | (revert hK; intro hK; (with_reducible refine hK _ ?_; clear hK K)))
          all_goals first | rfl | simp_all
        | true =>
          refine Fw_funK rfl Try.func50 s50 (Nat.le_of_ble_eq_true rfl) (fun Q hqr hqn => ?_)
          rw [cin_t (show An.pure 50 = true from rfl) (by simp only [cans, can_int, can_bool, can_agg, can_str, can_agg, inE.can])]
          simp only [tinit, Nat.reduceAdd, c50]
          repeat' (first
          | with_reducible (first | refine Tx_yes rfl ?_ | refine Tx_no rfl ?_ | refine Tx_ret ?_ | refine Tx_blockK (id := 0) (fun Q0 hn0 hx0 hr0 ho0 => ?_) | refine hr0 _ ?_)
          | (with_reducible (first | (refine Tx_regK (fun K hK => ?_); (first | refine t50r0 ?_ | refine t50r1 ?_ | refine t50r3 ?_ | refine t50r4 ?_)) | refine hqr _ ?_); (try simp only [true_implies, false_implies, not_true_eq_false, tget_cons, if_true, if_false, Nat.reduceEqDiff, ccells, Obt_some, Kn_normal, newL_eq, newP_eq, nmA_f, nmR_f, gn_var, gnext_setL, lget_setL, setL_H, Nat.zero_add, fldA_ptr, ld1_l, rd1_var, List.getElem?_cons_zero, List.getElem?_cons_succ, Obt_eql, Obt_neq, Obt_not, gdO_tt, gdO_ff, Option.map_some, pickX_t, pickX_f, Bool.not_true, Obt_map, Obt_shr, Obt_conv, Obt_bind, fillX, bslX, escP_list, splice, List.take_zero, List.drop_succ_cons, List.drop_nil, List.nil_append, List.append_nil, List.length_cons, List.length_nil, and_true, Nat.le_refl, escP, List.all_cons, List.all_nil, Bool.and_self, Bool.true_and, decide_true, if_false, if_true, r50, tend, tresAll, tresC, Option.bind_some, mapMem, retv_bool, tup_one, Prod.mk.injEq, CV.bool.injEq, inC, n1, eq_true h0, h1, eq_true h2, k2, ne_eq]))
          | (revert hK; intro hK; (first | refine And.intro ?_ ?_ | intro _ | omega | (with_reducible refine hK _ ?_; clear hK K))))
          all_goals first | rfl | simp_all [hiW, IntKind.bits]
      · have he : twoOk x = decide (x.src = 0) := by simp [twoOk, h0, h1, h2]
        rw [he]
        refine Fw_funK rfl Try.func50 s50 (Nat.le_of_ble_eq_true rfl) (fun Q hqr hqn => ?_)
        rw [cin_t (show An.pure 50 = true from rfl) (by simp only [cans, can_int, can_bool, can_agg, can_str, can_agg, inE.can])]
        simp only [tinit, Nat.reduceAdd, c50]
        repeat' (first
        | with_reducible (first | refine Tx_no rfl ?_ | refine Tx_ret ?_ | refine Tx_nop ?_ | refine Tx_blockK (id := 0) (fun Q0 hn0 hx0 hr0 ho0 => ?_) | refine hn0 _ ?_)
        | (with_reducible (first | (refine Tx_regK (fun K hK => ?_); (first | refine t50r0 ?_ | refine t50r1 ?_ | refine t50r3 ?_ | refine t50r5 ?_)) | refine hqr _ ?_); (try simp only [true_implies, false_implies, not_true_eq_false, not_false_eq_true, tget_cons, if_true, if_false, Nat.reduceEqDiff, ccells, Obt_some, Kn_normal, newL_eq, newP_eq, nmA_f, nmR_f, gn_var, gnext_setL, lget_setL, setL_H, Nat.zero_add, fldA_ptr, ld1_l, rd1_var, List.getElem?_cons_zero, List.getElem?_cons_succ, Obt_eql, Obt_neq, Obt_not, gdO_ff, Option.map_some, pickX_f, Bool.not_true, Obt_map, Obt_conv, Obt_bind, fillX, bslX, escP_list, splice, List.take_zero, List.drop_succ_cons, List.drop_nil, List.nil_append, List.append_nil, List.length_cons, List.length_nil, and_true, true_and, Nat.le_refl, escP, List.all_cons, List.all_nil, Bool.and_self, decide_true, if_false, if_true, r50, tend, tresAll, tresC, Option.bind_some, mapMem, retv_bool, tup_one, Prod.mk.injEq, CV.bool.injEq, inC, n1, eq_true h0, h1, h2, ne_eq]))
        | (revert hK; intro hK; (first | refine And.intro ?_ ?_ | intro _ | (with_reducible refine hK _ ?_; clear hK K))))
        all_goals first | rfl | simp_all
    · have he : twoOk x = false := by simp [twoOk, h1]
      rw [he]
      refine Fw_funK rfl Try.func50 s50 (Nat.le_of_ble_eq_true rfl) (fun Q hqr hqn => ?_)
      rw [cin_t (show An.pure 50 = true from rfl) (by simp only [cans, can_int, can_bool, can_agg, can_str, can_agg, inE.can])]
      simp only [tinit, Nat.reduceAdd, c50]
      repeat' (first
      | with_reducible (first | refine Tx_yes rfl ?_ | refine Tx_ret ?_ | refine Tx_blockK (id := 0) (fun Q0 hn0 hx0 hr0 ho0 => ?_) | refine hr0 _ ?_)
      | (with_reducible (first | (refine Tx_regK (fun K hK => ?_); (first | refine t50r0 ?_ | refine t50r1 ?_ | refine t50r2 ?_)) | refine hqr _ ?_); (try simp only [true_implies, false_implies, not_false_eq_true, tget_cons, if_true, if_false, Nat.reduceEqDiff, ccells, Obt_some, Kn_normal, newL_eq, newP_eq, nmA_f, nmR_f, gn_var, gnext_setL, lget_setL, setL_H, Nat.zero_add, fldA_ptr, ld1_l, rd1_var, List.getElem?_cons_zero, List.getElem?_cons_succ, Obt_neq, Obt_not, gdO_ff, Option.map_some, pickX_f, Bool.not_true, Obt_map, Obt_conv, Obt_bind, fillX, bslX, escP_list, splice, List.take_zero, List.drop_succ_cons, List.drop_nil, List.nil_append, List.append_nil, List.length_cons, List.length_nil, and_true, true_and, Nat.le_refl, escP, List.all_cons, List.all_nil, Bool.and_self, decide_true, if_false, if_true, r50, tend, tresAll, tresC, Option.bind_some, mapMem, retv_bool, tup_one, inC, n1, eq_true h0, h1, ne_eq]))
      | (revert hK; intro hK; (with_reducible refine hK _ ?_; clear hK K)))
      all_goals first | rfl | simp_all
  · have he : twoOk x = false := by simp [twoOk, h0]
    rw [he]
    refine Fw_funK rfl Try.func50 s50 (Nat.le_of_ble_eq_true rfl) (fun Q hqr hqn => ?_)
    rw [cin_t (show An.pure 50 = true from rfl) (by simp only [cans, can_int, can_bool, can_agg, can_str, can_agg, inE.can])]
    simp only [tinit, Nat.reduceAdd, c50]
    repeat' (first
    | with_reducible (first | refine Tx_yes rfl ?_ | refine Tx_ret ?_ | refine Tx_blockK (id := 0) (fun Q0 hn0 hx0 hr0 ho0 => ?_) | refine hr0 _ ?_)
    | (with_reducible (first | (refine Tx_regK (fun K hK => ?_); (first | refine t50r0 ?_ | refine t50r1 ?_ | refine t50r2 ?_)) | refine hqr _ ?_); (try simp only [tget_cons, if_true, if_false, Nat.reduceEqDiff, ccells, Obt_some, Kn_normal, newL_eq, newP_eq, nmA_f, nmR_f, gn_var, gnext_setL, lget_setL, setL_H, Nat.zero_add, fldA_ptr, ld1_l, rd1_var, List.getElem?_cons_zero, List.getElem?_cons_succ, Obt_not, gdO_tf, Option.map_some, pickX_t, Bool.not_false, Obt_map, Obt_bind, fillX, bslX, escP_list, splice, List.take_zero, List.drop_succ_cons, List.drop_nil, List.nil_append, List.append_nil, List.length_cons, List.length_nil, and_true, Nat.le_refl, escP, List.all_cons, List.all_nil, Bool.and_self, decide_false, if_false, if_true, r50, tend, tresAll, tresC, Option.bind_some, mapMem, retv_bool, tup_one, inC, n1, h0, ne_eq]))
    | (revert hK; intro hK; (with_reducible refine hK _ ?_; clear hK K)))
    all_goals first | rfl | simp_all
theorem k50 {x : In} {fid : FuncId} {d : Tmp} {m : Mem} : callC An FF fid (some d) 50 [.agg (inC x)] m = some (.bool (twoOk x), m) :=
  callC_V (x50 x) (fun _ _ _ => rfl) rfl (by simp only [cans, can_agg, inE.can]) rfl rfl rfl
theorem cls24 : cls 24 = 0 := by decide
set_option maxHeartbeats 8000000 in
theorem x35 (x : In) : FF 35 [.agg (inC x)] [] = some (.bool (insB x), []) := by
  obtain ⟨ja, jb, hj⟩ := jT_eq x.op
  obtain ⟨J, hJ⟩ : ∃ J, J = jB x.op := ⟨_, rfl⟩
  have kJ : ∀ t m, callC An FF 35 (some t) 36 [.int .i64 x.op] m = some (.tuple [.int .i64 ja, .bool jb, .bool J], m) := fun t m => by
    rw [hJ, ← hj]
    have h := x36 x.op
    rw [hj] at h ⊢
    exact callC_V h (fun _ _ _ => rfl) rfl rfl rfl rfl rfl
  obtain ⟨A, hA⟩ : ∃ A, A = aB x.op := ⟨_, rfl⟩
  obtain ⟨aa, ab, kA, hAt⟩ : ∃ aa ab, (∀ t m, callC An FF 35 (some t) 43 [.int .i64 x.op] m = some (.tuple [.int .i64 aa, .bool ab, .bool A], m)) ∧ (A = true → aluB x aa ab = aluB x (hi x.op) (decide (cls x.op = 7))) := by
    have h := x43 x.op
    rw [hA]
    by_cases hA' : aB x.op = true
    · rw [aT, if_pos hA'] at h
      exact ⟨_, _, fun t m => by rw [hA']; exact callC_V h (fun _ _ _ => rfl) rfl rfl rfl rfl rfl, fun _ => rfl⟩
    · rw [aT, if_neg hA'] at h
      exact ⟨0, false, fun t m => by rw [show aB x.op = false by simpa using hA']; exact callC_V h (fun _ _ _ => rfl) rfl rfl rfl rfl rfl, fun h => absurd h hA'⟩
  have n1 : ∀ (a : Int) {t : Tmp} {m : Mem} {j g : Nat}, lget m.L j = some (.arr g 1 [.int .i64 a] 0) → callC An FF 35 (some t) 48 [.ref (.l j) g 0 1] m = some (.bool (decide (a = 0)), m) := fun a => k48_1
  have n1a := @n1 x.src
  have n1b := @n1 x.imm
  have n3 : ∀ (a b c : Int) {t : Tmp} {m : Mem} {j g : Nat}, lget m.L j = some (.arr g 1 [.int .i64 a, .int .i64 b, .int .i64 c] 0) → callC An FF 35 (some t) 48 [.ref (.l j) g 0 3] m = some (.bool (zB [a, b, c]), m) := fun a b c => k48_3
  have n3a := @n3 x.dst x.src x.imm
  have n3b := @n3 x.dst x.src x.off
  have n4 : ∀ {t : Tmp} {m : Mem} {j g : Nat}, lget m.L j = some (.arr g 1 [.int .i64 x.dst, .int .i64 x.src, .int .i64 x.off, .int .i64 x.imm] 0) → callC An FF 35 (some t) 48 [.ref (.l j) g 0 4] m = some (.bool (zB [x.dst, x.src, x.off, x.imm]), m) := k48_4
  have kC : ∀ t m, callC An FF 35 (some t) 44 [.int .i64 x.op] m = some (.int .i64 (cls x.op), m) := fun t m => k44
  have kS : ∀ t m, callC An FF 35 (some t) 51 [.int .i64 x.op] m = some (.int .i64 (szO x.op), m) := fun t m => k51
  have kO : ∀ t m, callC An FF 35 (some t) 47 [.agg [.int .i64 x.op, .int .i64 x.dst, .int .i64 x.src, .int .i64 x.off, .int .i64 x.imm, .int .u64 x.wide]] m = some (.bool (opdB x), m) := fun t m => k47
  have kT : ∀ t m, callC An FF 35 (some t) 50 [.agg [.int .i64 x.op, .int .i64 x.dst, .int .i64 x.src, .int .i64 x.off, .int .i64 x.imm, .int .u64 x.wide]] m = some (.bool (twoOk x), m) := fun t m => k50
  have kL : ∀ t m, callC An FF 35 (some t) 46 [.agg [.int .i64 x.op, .int .i64 x.dst, .int .i64 x.src, .int .i64 x.off, .int .i64 x.imm, .int .u64 x.wide], .int .i64 aa, .bool ab] m = some (.bool (aluB x aa ab), m) := fun t m => k46
  have kF : ∀ d t m, callC An FF 35 (some t) 45 [.agg [.int .i64 x.op, .int .i64 x.dst, .int .i64 x.src, .int .i64 x.off, .int .i64 x.imm, .int .u64 x.wide], .int .i64 d] m = some (.bool (fldB x d), m) := fun d t m => k45
  have kW : ∀ t m, callC An FF 35 (some t) 49 [.int .i64 x.imm, .int .i64 1, .int .i64 5] m = some (.bool (inB x.imm 1 5), m) := fun t m => k49
  have w9 : IntKind.i64.wrap (10 - 1) = 9 := rfl
  obtain ⟨F, hF⟩ : ∃ F, F = fldB x (dstB x) := ⟨_, rfl⟩
  have hins : insB x = if F = false ∨ (x.op ≠ 24 ∧ x.wide ≠ 0) then false
      else if A = true then aluB x (hi x.op) (decide (cls x.op = 7))
      else if J = true then opdB x
      else if x.op = 5 then zB [x.dst, x.src, x.imm]
      else if x.op = 133 then zB [x.dst, x.src, x.off] && inB x.imm 1 5
      else if x.op = 149 then zB [x.dst, x.src, x.off, x.imm]
      else if x.op = 24 then twoOk x
      else if szO x.op = 0 then false
      else if cls x.op = 2 then decide (x.src = 0)
      else decide (x.imm = 0) := by rw [hF, hA, hJ]; rfl
  have hdst : dstB x = if A = true ∨ cls x.op = 1 ∨ x.op = 24 then 9 else 10 := by rw [hA]; rfl
  clear hJ hj
  by_cases h24 : x.op = 24
  · have h1 : ¬ cls x.op = 1 := by rw [h24, cls24]; decide
    cases A with
    | true =>
      have hAt := hAt rfl
      have hd : dstB x = 9 := by rw [hdst]; simp
      rw [hd] at hF
      have kf := kF 9
      rw [← hF] at kf
      clear kF hF
      cases F with
      | false =>
        rw [show insB x = false from by rw [hins]; simp]
        refine Fw_funK rfl Try.func35 s35 (Nat.le_of_ble_eq_true rfl) (fun Q hqr hqn => ?_)
        rw [cin_t (show An.pure 35 = true from rfl) (by simp only [cans, can_int, can_bool, can_agg, can_str, can_agg, inE.can])]
        simp only [tinit, Nat.reduceAdd, c35]
        repeat' (first
        | with_reducible (first | refine Tx_assoc ?_ | refine Tx_yesK rfl ?_ | refine Tx_retK ?_)
        | (with_reducible (first | (refine Tx_regK (fun K hK => ?_); (first | refine t35r0 ?_ | refine t35r1 ?_ | refine t35r2 ?_ | refine t35r3 ?_ | refine t35r4 ?_ | refine t35r5 ?_ | refine t35r6 ?_ | refine t35r7 ?_)) | refine hqr _ ?_); (try simp only [tget_cons, if_true, if_false, Nat.reduceEqDiff, ccells, Obt_some, Kn_normal, newL_eq, newP_eq, lget_setL, setL_H, Nat.reduceAdd, Nat.zero_add, fldA_ptr, List.drop_zero, ld1_l, ldA_l, rd1_var, List.getElem?_cons_zero, List.getElem?_cons_succ, Obt_not, gdO_tf, gdO_skip, Option.map_some, pickX_t, Bool.not_false, Obt_sub, Obt_ext, List.take_zero, List.take_succ_cons, List.length_cons, List.length_nil, Nat.le_refl, rdA_var, if_false, if_true, r35, tend, tresAll, tresC, Option.bind_some, mapMem, retv_bool, tup_one, inC, kJ, kA, kC, ne_eq, eq_true h24, kf, w9]))
        | (revert hK; intro hK; (with_reducible refine hK _ ?_; clear hK K)))
        all_goals first | rfl | simp_all
      | true =>
        rw [show insB x = aluB x (hi x.op) (decide (cls x.op = 7)) from by rw [hins]; simp [h24]]
        refine Fw_funK rfl Try.func35 s35 (Nat.le_of_ble_eq_true rfl) (fun Q hqr hqn => ?_)
        rw [cin_t (show An.pure 35 = true from rfl) (by simp only [cans, can_int, can_bool, can_agg, can_str, can_agg, inE.can])]
        simp only [tinit, Nat.reduceAdd, c35]
        repeat' (first
        | with_reducible (first | refine Tx_assoc ?_ | refine Tx_nopK ?_ | refine Tx_yesK rfl ?_ | refine Tx_noK rfl ?_ | refine Tx_yes rfl ?_ | refine Tx_ret ?_ | refine Tx_blockK (id := 0) (fun Q0 hn0 hx0 hr0 ho0 => ?_) | refine hr0 _ ?_)
        | (with_reducible (first | (refine Tx_regK (fun K hK => ?_); (first | refine t35r0 ?_ | refine t35r1 ?_ | refine t35r2 ?_ | refine t35r3 ?_ | refine t35r4 ?_ | refine t35r5 ?_ | refine t35r6 ?_ | refine t35r8 ?_ | refine t35r9 ?_)) | refine hqr _ ?_); (try simp only [true_implies, false_implies, not_true_eq_false, tget_cons, if_true, if_false, Nat.reduceEqDiff, ccells, Obt_some, Kn_normal, newL_eq, newP_eq, lget_setL, setL_H, Nat.reduceAdd, Nat.zero_add, fldA_ptr, List.drop_zero, ld1_l, ldA_l, rd1_var, List.getElem?_cons_zero, List.getElem?_cons_succ, Obt_neq, Obt_not, gdO_tt, gdO_tf, gdO_ff, gdO_ft, Option.map_some, pickX_t, pickX_f, Bool.not_true, Obt_map, Obt_sub, Obt_ext, List.take_zero, List.take_succ_cons, List.length_cons, List.length_nil, and_true, Nat.le_refl, rdA_var, if_false, if_true, r35, tend, tresAll, tresC, Option.bind_some, mapMem, retv_bool, tup_one, inC, kJ, kA, kC, ne_eq, eq_true h24, kf, w9, kL, hAt]))
        | (revert hK; intro hK; (with_reducible refine hK _ ?_; clear hK K)))
        all_goals first | rfl | simp_all
    | false =>
      have hd : dstB x = 9 := by rw [hdst]; simp [h24]
      rw [hd] at hF
      have kf := kF 9
      rw [← hF] at kf
      clear kF hF
      cases F with
      | false =>
        rw [show insB x = false from by rw [hins]; simp]
        refine Fw_funK rfl Try.func35 s35 (Nat.le_of_ble_eq_true rfl) (fun Q hqr hqn => ?_)
        rw [cin_t (show An.pure 35 = true from rfl) (by simp only [cans, can_int, can_bool, can_agg, can_str, can_agg, inE.can])]
        simp only [tinit, Nat.reduceAdd, c35]
        repeat' (first
        | with_reducible (first | refine Tx_assoc ?_ | refine Tx_yesK rfl ?_ | refine Tx_retK ?_)
        | (with_reducible (first | (refine Tx_regK (fun K hK => ?_); (first | refine t35r0 ?_ | refine t35r1 ?_ | refine t35r2 ?_ | refine t35r3 ?_ | refine t35r4 ?_ | refine t35r5 ?_ | refine t35r6 ?_ | refine t35r7 ?_)) | refine hqr _ ?_); (try simp only [true_implies, false_implies, not_true_eq_false, not_false_eq_true, tget_cons, if_true, if_false, Nat.reduceEqDiff, ccells, Obt_some, Kn_normal, newL_eq, newP_eq, lget_setL, setL_H, Nat.reduceAdd, Nat.zero_add, fldA_ptr, List.drop_zero, ld1_l, ldA_l, rd1_var, List.getElem?_cons_zero, List.getElem?_cons_succ, Obt_eql, Obt_not, gdO_tf, gdO_ff, gdO_skip, Option.map_some, pickX_t, pickX_f, Bool.not_false, Obt_map, Obt_sub, Obt_ext, List.take_zero, List.take_succ_cons, List.length_cons, List.length_nil, and_true, true_and, Nat.le_refl, rdA_var, if_false, if_true, r35, tend, tresAll, tresC, Option.bind_some, mapMem, retv_bool, tup_one, inC, kJ, kA, kC, ne_eq, eq_true h24, h1, kf, w9]))
        | (revert hK; intro hK; (with_reducible refine hK _ ?_; clear hK K)))
        all_goals first | rfl | simp_all
      | true =>
        cases J with
        | true =>
          rw [show insB x = opdB x from by rw [hins]; simp [h24, h1]]
          refine Fw_funK rfl Try.func35 s35 (Nat.le_of_ble_eq_true rfl) (fun Q hqr hqn => ?_)
          rw [cin_t (show An.pure 35 = true from rfl) (by simp only [cans, can_int, can_bool, can_agg, can_str, can_agg, inE.can])]
          simp only [tinit, Nat.reduceAdd, c35]
          repeat' (first
          | with_reducible (first | refine Tx_assoc ?_ | refine Tx_nopK ?_ | refine Tx_yesK rfl ?_ | refine Tx_noK rfl ?_ | refine Tx_yes rfl ?_ | refine Tx_no rfl ?_ | refine Tx_ret ?_ | refine Tx_blockK (id := 0) (fun Q0 hn0 hx0 hr0 ho0 => ?_) | refine hr0 _ ?_)
          | (with_reducible (first | (refine Tx_regK (fun K hK => ?_); (first | refine t35r0 ?_ | refine t35r1 ?_ | refine t35r2 ?_ | refine t35r3 ?_ | refine t35r4 ?_ | refine t35r5 ?_ | refine t35r6 ?_ | refine t35r8 ?_ | refine t35r10 ?_ | refine t35r11 ?_)) | refine hqr _ ?_); (try simp only [true_implies, false_implies, not_true_eq_false, not_false_eq_true, tget_cons, if_true, if_false, Nat.reduceEqDiff, ccells, Obt_some, Kn_normal, newL_eq, newP_eq, lget_setL, setL_H, Nat.reduceAdd, Nat.zero_add, fldA_ptr, List.drop_zero, ld1_l, ldA_l, rd1_var, List.getElem?_cons_zero, List.getElem?_cons_succ, Obt_eql, Obt_neq, Obt_not, gdO_tt, gdO_tf, gdO_ff, gdO_ft, Option.map_some, pickX_t, pickX_f, Bool.not_true, Obt_map, Obt_sub, Obt_ext, List.take_zero, List.take_succ_cons, List.length_cons, List.length_nil, and_true, true_and, Nat.le_refl, rdA_var, if_false, if_true, r35, tend, tresAll, tresC, Option.bind_some, mapMem, retv_bool, tup_one, inC, kJ, kA, kC, ne_eq, eq_true h24, h1, kf, w9, kO]))
          | (revert hK; intro hK; (with_reducible refine hK _ ?_; clear hK K)))
          all_goals first | rfl | simp_all
        | false =>
          rw [show insB x = twoOk x from by rw [hins]; simp [h24, h1]]
          refine Fw_funK rfl Try.func35 s35 (Nat.le_of_ble_eq_true rfl) (fun Q hqr hqn => ?_)
          rw [cin_t (show An.pure 35 = true from rfl) (by simp only [cans, can_int, can_bool, can_agg, can_str, can_agg, inE.can])]
          simp only [tinit, Nat.reduceAdd, c35]
          repeat' (first
          | with_reducible (first | refine Tx_assoc ?_ | refine Tx_nopK ?_ | refine Tx_yesK rfl ?_ | refine Tx_noK rfl ?_ | refine Tx_yes rfl ?_ | refine Tx_no rfl ?_ | refine Tx_ret ?_ | refine Tx_blockK (id := 0) (fun Q0 hn0 hx0 hr0 ho0 => ?_) | refine hr0 _ ?_)
          | (with_reducible (first | (refine Tx_regK (fun K hK => ?_); (first | refine t35r0 ?_ | refine t35r1 ?_ | refine t35r2 ?_ | refine t35r3 ?_ | refine t35r4 ?_ | refine t35r5 ?_ | refine t35r6 ?_ | refine t35r8 ?_ | refine t35r10 ?_ | refine t35r12 ?_ | refine t35r14 ?_ | refine t35r16 ?_ | refine t35r18 ?_ | refine t35r19 ?_)) | refine hqr _ ?_); (try simp only [true_implies, false_implies, not_true_eq_false, not_false_eq_true, tget_cons, if_true, if_false, Nat.reduceEqDiff, ccells, Obt_some, Kn_normal, newL_eq, newP_eq, lget_setL, setL_H, Nat.reduceAdd, Nat.zero_add, fldA_ptr, List.drop_zero, ld1_l, ldA_l, rd1_var, List.getElem?_cons_zero, List.getElem?_cons_succ, Obt_eql, Obt_neq, Obt_not, gdO_tt, gdO_tf, gdO_ff, gdO_ft, Option.map_some, pickX_t, pickX_f, Bool.not_true, Obt_map, Obt_sub, Obt_ext, List.take_zero, List.take_succ_cons, List.length_cons, List.length_nil, and_true, true_and, Nat.le_refl, rdA_var, if_false, if_true, r35, tend, tresAll, tresC, Option.bind_some, mapMem, retv_bool, tup_one, inC, kJ, kA, kC, ne_eq, eq_true h24, h1, kf, w9, kT]))
          | (revert hK; intro hK; (first | refine And.intro ?_ ?_ | intro _ | omega | (with_reducible refine hK _ ?_; clear hK K))))
          all_goals first | rfl | simp_all
  · cases A with
    | true =>
      have hAt := hAt rfl
      have hd : dstB x = 9 := by rw [hdst]; simp
      rw [hd] at hF
      have kf := kF 9
      rw [← hF] at kf
      clear kF hF
      cases F with
      | false =>
        rw [show insB x = false from by rw [hins]; simp]
        refine Fw_funK rfl Try.func35 s35 (Nat.le_of_ble_eq_true rfl) (fun Q hqr hqn => ?_)
        rw [cin_t (show An.pure 35 = true from rfl) (by simp only [cans, can_int, can_bool, can_agg, can_str, can_agg, inE.can])]
        simp only [tinit, Nat.reduceAdd, c35]
        repeat' (first
        | with_reducible (first | refine Tx_assoc ?_ | refine Tx_yesK rfl ?_ | refine Tx_retK ?_)
        | (with_reducible (first | (refine Tx_regK (fun K hK => ?_); (first | refine t35r0 ?_ | refine t35r1 ?_ | refine t35r2 ?_ | refine t35r3 ?_ | refine t35r4 ?_ | refine t35r5 ?_ | refine t35r6 ?_ | refine t35r7 ?_)) | refine hqr _ ?_); (try simp only [tget_cons, if_true, if_false, Nat.reduceEqDiff, ccells, Obt_some, Kn_normal, newL_eq, newP_eq, lget_setL, setL_H, Nat.reduceAdd, Nat.zero_add, fldA_ptr, List.drop_zero, ld1_l, ldA_l, rd1_var, List.getElem?_cons_zero, List.getElem?_cons_succ, Obt_not, gdO_tf, gdO_skip, Option.map_some, pickX_t, Bool.not_false, Obt_sub, Obt_ext, List.take_zero, List.take_succ_cons, List.length_cons, List.length_nil, Nat.le_refl, rdA_var, if_false, if_true, r35, tend, tresAll, tresC, Option.bind_some, mapMem, retv_bool, tup_one, inC, kJ, kA, kC, ne_eq, h24, kf, w9]))
        | (revert hK; intro hK; (with_reducible refine hK _ ?_; clear hK K)))
        all_goals first | rfl | simp_all
      | true =>
        by_cases hw : x.wide = 0
        · skip
          rw [show insB x = aluB x (hi x.op) (decide (cls x.op = 7)) from by rw [hins]; simp [hw]]
          refine Fw_funK rfl Try.func35 s35 (Nat.le_of_ble_eq_true rfl) (fun Q hqr hqn => ?_)
          rw [cin_t (show An.pure 35 = true from rfl) (by simp only [cans, can_int, can_bool, can_agg, can_str, can_agg, inE.can])]
          simp only [tinit, Nat.reduceAdd, c35]
          repeat' (first
          | with_reducible (first | refine Tx_assoc ?_ | refine Tx_nopK ?_ | refine Tx_yesK rfl ?_ | refine Tx_noK rfl ?_ | refine Tx_yes rfl ?_ | refine Tx_ret ?_ | refine Tx_blockK (id := 0) (fun Q0 hn0 hx0 hr0 ho0 => ?_) | refine hr0 _ ?_)
          | (with_reducible (first | (refine Tx_regK (fun K hK => ?_); (first | refine t35r0 ?_ | refine t35r1 ?_ | refine t35r2 ?_ | refine t35r3 ?_ | refine t35r4 ?_ | refine t35r5 ?_ | refine t35r6 ?_ | refine t35r8 ?_ | refine t35r9 ?_)) | refine hqr _ ?_); (try simp only [true_implies, false_implies, not_true_eq_false, not_false_eq_true, tget_cons, if_true, if_false, Nat.reduceEqDiff, ccells, Obt_some, Kn_normal, newL_eq, newP_eq, lget_setL, setL_H, Nat.reduceAdd, Nat.zero_add, fldA_ptr, List.drop_zero, ld1_l, ldA_l, rd1_var, List.getElem?_cons_zero, List.getElem?_cons_succ, Obt_neq, Obt_not, gdO_tt, gdO_tf, gdO_ff, gdO_ft, Option.map_some, pickX_t, pickX_f, Bool.not_true, Obt_map, Obt_sub, Obt_ext, List.take_zero, List.take_succ_cons, List.length_cons, List.length_nil, and_true, true_and, Nat.le_refl, rdA_var, if_false, if_true, r35, tend, tresAll, tresC, Option.bind_some, mapMem, retv_bool, tup_one, inC, kJ, kA, kC, ne_eq, h24, kf, w9, eq_true hw, kL, hAt]))
          | (revert hK; intro hK; (with_reducible refine hK _ ?_; clear hK K)))
          all_goals first | rfl | simp_all
        · skip
          rw [show insB x = false from by rw [hins]; simp [hw, h24]]
          refine Fw_funK rfl Try.func35 s35 (Nat.le_of_ble_eq_true rfl) (fun Q hqr hqn => ?_)
          rw [cin_t (show An.pure 35 = true from rfl) (by simp only [cans, can_int, can_bool, can_agg, can_str, can_agg, inE.can])]
          simp only [tinit, Nat.reduceAdd, c35]
          repeat' (first
          | with_reducible (first | refine Tx_assoc ?_ | refine Tx_yesK rfl ?_ | refine Tx_retK ?_)
          | (with_reducible (first | (refine Tx_regK (fun K hK => ?_); (first | refine t35r0 ?_ | refine t35r1 ?_ | refine t35r2 ?_ | refine t35r3 ?_ | refine t35r4 ?_ | refine t35r5 ?_ | refine t35r6 ?_ | refine t35r7 ?_)) | refine hqr _ ?_); (try simp only [true_implies, false_implies, not_false_eq_true, tget_cons, if_true, if_false, Nat.reduceEqDiff, ccells, Obt_some, Kn_normal, newL_eq, newP_eq, lget_setL, setL_H, Nat.reduceAdd, Nat.zero_add, fldA_ptr, List.drop_zero, ld1_l, ldA_l, rd1_var, List.getElem?_cons_zero, List.getElem?_cons_succ, Obt_neq, Obt_not, gdO_tt, gdO_tf, gdO_ff, gdO_ft, Option.map_some, pickX_t, pickX_f, Bool.not_true, Obt_map, Obt_sub, Obt_ext, List.take_zero, List.take_succ_cons, List.length_cons, List.length_nil, true_and, Nat.le_refl, rdA_var, if_false, if_true, r35, tend, tresAll, tresC, Option.bind_some, mapMem, retv_bool, tup_one, inC, kJ, kA, kC, ne_eq, h24, kf, w9, hw]))
          | (revert hK; intro hK; (with_reducible refine hK _ ?_; clear hK K)))
          all_goals first | rfl | simp_all
    | false =>
      by_cases h1 : cls x.op = 1
      · skip
        have hd : dstB x = 9 := by rw [hdst]; simp [h1]
        rw [hd] at hF
        have kf := kF 9
        rw [← hF] at kf
        clear kF hF
        cases F with
        | false =>
          rw [show insB x = false from by rw [hins]; simp]
          refine Fw_funK rfl Try.func35 s35 (Nat.le_of_ble_eq_true rfl) (fun Q hqr hqn => ?_)
          rw [cin_t (show An.pure 35 = true from rfl) (by simp only [cans, can_int, can_bool, can_agg, can_str, can_agg, inE.can])]
          simp only [tinit, Nat.reduceAdd, c35]
          repeat' (first
          | with_reducible (first | refine Tx_assoc ?_ | refine Tx_yesK rfl ?_ | refine Tx_retK ?_)
          | (with_reducible (first | (refine Tx_regK (fun K hK => ?_); (first | refine t35r0 ?_ | refine t35r1 ?_ | refine t35r2 ?_ | refine t35r3 ?_ | refine t35r4 ?_ | refine t35r5 ?_ | refine t35r6 ?_ | refine t35r7 ?_)) | refine hqr _ ?_); (try simp only [true_implies, false_implies, not_true_eq_false, not_false_eq_true, tget_cons, if_true, if_false, Nat.reduceEqDiff, ccells, Obt_some, Kn_normal, newL_eq, newP_eq, lget_setL, setL_H, Nat.reduceAdd, Nat.zero_add, fldA_ptr, List.drop_zero, ld1_l, ldA_l, rd1_var, List.getElem?_cons_zero, List.getElem?_cons_succ, Obt_eql, Obt_not, gdO_tf, gdO_ff, gdO_skip, Option.map_some, pickX_t, pickX_f, Bool.not_false, Obt_map, Obt_sub, Obt_ext, List.take_zero, List.take_succ_cons, List.length_cons, List.length_nil, and_true, true_and, Nat.le_refl, rdA_var, if_false, if_true, r35, tend, tresAll, tresC, Option.bind_some, mapMem, retv_bool, tup_one, inC, kJ, kA, kC, ne_eq, h24, h1, kf, w9]))
          | (revert hK; intro hK; (with_reducible refine hK _ ?_; clear hK K)))
          all_goals first | rfl | simp_all
        | true =>
          by_cases hw : x.wide = 0
          · skip
            cases J with
            | true =>
              rw [show insB x = opdB x from by rw [hins]; simp [h24, h1, hw]]
              refine Fw_funK rfl Try.func35 s35 (Nat.le_of_ble_eq_true rfl) (fun Q hqr hqn => ?_)
              rw [cin_t (show An.pure 35 = true from rfl) (by simp only [cans, can_int, can_bool, can_agg, can_str, can_agg, inE.can])]
              simp only [tinit, Nat.reduceAdd, c35]
              repeat' (first
              | with_reducible (first | refine Tx_assoc ?_ | refine Tx_nopK ?_ | refine Tx_yesK rfl ?_ | refine Tx_noK rfl ?_ | refine Tx_yes rfl ?_ | refine Tx_no rfl ?_ | refine Tx_ret ?_ | refine Tx_blockK (id := 0) (fun Q0 hn0 hx0 hr0 ho0 => ?_) | refine hr0 _ ?_)
              | (with_reducible (first | (refine Tx_regK (fun K hK => ?_); (first | refine t35r0 ?_ | refine t35r1 ?_ | refine t35r2 ?_ | refine t35r3 ?_ | refine t35r4 ?_ | refine t35r5 ?_ | refine t35r6 ?_ | refine t35r8 ?_ | refine t35r10 ?_ | refine t35r11 ?_)) | refine hqr _ ?_); (try simp only [true_implies, false_implies, not_true_eq_false, not_false_eq_true, tget_cons, if_true, if_false, Nat.reduceEqDiff, ccells, Obt_some, Kn_normal, newL_eq, newP_eq, lget_setL, setL_H, Nat.reduceAdd, Nat.zero_add, fldA_ptr, List.drop_zero, ld1_l, ldA_l, rd1_var, List.getElem?_cons_zero, List.getElem?_cons_succ, Obt_eql, Obt_neq, Obt_not, gdO_tt, gdO_tf, gdO_ff, gdO_ft, Option.map_some, pickX_t, pickX_f, Bool.not_true, Obt_map, Obt_sub, Obt_ext, List.take_zero, List.take_succ_cons, List.length_cons, List.length_nil, and_true, true_and, Nat.le_refl, rdA_var, if_false, if_true, r35, tend, tresAll, tresC, Option.bind_some, mapMem, retv_bool, tup_one, inC, kJ, kA, kC, ne_eq, h24, h1, kf, w9, eq_true hw, kO]))
              | (revert hK; intro hK; (with_reducible refine hK _ ?_; clear hK K)))
              all_goals first | rfl | simp_all
            | false =>
              by_cases h5 : x.op = 5
              · skip
                rw [show insB x = zB [x.dst, x.src, x.imm] from by rw [hins]; simp [h24, h1, hw, h5]]
                refine Fw_funK rfl Try.func35 s35 (Nat.le_of_ble_eq_true rfl) (fun Q hqr hqn => ?_)
                rw [cin_t (show An.pure 35 = true from rfl) (by simp only [cans, can_int, can_bool, can_agg, can_str, can_agg, inE.can])]
                simp only [tinit, Nat.reduceAdd, c35]
                repeat' (first
                | with_reducible (first | refine Tx_assoc ?_ | refine Tx_nopK ?_ | refine Tx_yesK rfl ?_ | refine Tx_noK rfl ?_ | refine Tx_yes rfl ?_ | refine Tx_no rfl ?_ | refine Tx_ret ?_ | refine Tx_blockK (id := 0) (fun Q0 hn0 hx0 hr0 ho0 => ?_) | refine hr0 _ ?_)
                | (with_reducible (first | (refine Tx_regK (fun K hK => ?_); (first | refine t35r0 ?_ | refine t35r1 ?_ | refine t35r2 ?_ | refine t35r3 ?_ | refine t35r4 ?_ | refine t35r5 ?_ | refine t35r6 ?_ | refine t35r8 ?_ | refine t35r10 ?_ | refine t35r12 ?_ | refine t35r13 ?_)) | refine hqr _ ?_); (try simp only [true_implies, false_implies, not_true_eq_false, not_false_eq_true, tget_cons, if_true, if_false, Nat.reduceEqDiff, ccells, Obt_some, Kn_normal, newL_eq, newP_eq, nmA_f, nmR_f, gn_var, gnext_setL, lget_setL, setL_H, Nat.reduceAdd, Nat.zero_add, fldA_ptr, List.drop_zero, ld1_l, ldA_l, rd1_var, List.getElem?_cons_zero, List.getElem?_cons_succ, Obt_eql, Obt_neq, Obt_not, gdO_tt, gdO_tf, gdO_ff, gdO_ft, Option.map_some, pickX_t, pickX_f, Bool.not_true, Obt_map, Obt_sub, Obt_ext, Obt_bind, fillX, bslX, escP_list, splice, List.take_zero, List.take_succ_cons, List.drop_succ_cons, List.drop_nil, List.nil_append, List.cons_append, List.length_cons, List.length_nil, Nat.reduceLeDiff, and_true, true_and, Nat.le_refl, rdA_var, escP, List.all_cons, List.all_nil, Bool.and_self, if_false, if_true, r35, tend, tresAll, tresC, Option.bind_some, mapMem, retv_bool, tup_one, inC, kJ, kA, kC, ne_eq, h24, h1, kf, w9, eq_true hw, eq_true h5, n3a, n3b]))
                | (revert hK; intro hK; (with_reducible refine hK _ ?_; clear hK K)))
                all_goals first | rfl | simp_all
              by_cases h133 : x.op = 133
              · cases hz : zB [x.dst, x.src, x.off] with
                | false =>
                  rw [show insB x = false from by rw [hins]; simp [h24, h1, hw, h133, hz]]
                  refine Fw_funK rfl Try.func35 s35 (Nat.le_of_ble_eq_true rfl) (fun Q hqr hqn => ?_)
                  rw [cin_t (show An.pure 35 = true from rfl) (by simp only [cans, can_int, can_bool, can_agg, can_str, can_agg, inE.can])]
                  simp only [tinit, Nat.reduceAdd, c35]
                  repeat' (first
                  | with_reducible (first | refine Tx_assoc ?_ | refine Tx_nopK ?_ | refine Tx_yesK rfl ?_ | refine Tx_noK rfl ?_ | refine Tx_yes rfl ?_ | refine Tx_no rfl ?_ | refine Tx_ret ?_ | refine Tx_blockK (id := 0) (fun Q0 hn0 hx0 hr0 ho0 => ?_) | refine hr0 _ ?_)
                  | (with_reducible (first | (refine Tx_regK (fun K hK => ?_); (first | refine t35r0 ?_ | refine t35r1 ?_ | refine t35r2 ?_ | refine t35r3 ?_ | refine t35r4 ?_ | refine t35r5 ?_ | refine t35r6 ?_ | refine t35r8 ?_ | refine t35r10 ?_ | refine t35r12 ?_ | refine t35r14 ?_ | refine t35r15 ?_)) | refine hqr _ ?_); (try simp only [true_implies, false_implies, not_true_eq_false, not_false_eq_true, tget_cons, if_true, if_false, Nat.reduceEqDiff, ccells, Obt_some, Kn_normal, newL_eq, newP_eq, nmA_f, nmR_f, gn_var, gnext_setL, lget_setL, setL_H, Nat.reduceAdd, Nat.zero_add, fldA_ptr, List.drop_zero, ld1_l, ldA_l, rd1_var, List.getElem?_cons_zero, List.getElem?_cons_succ, Obt_eql, Obt_neq, Obt_not, gdO_tt, gdO_tf, gdO_ff, gdO_ft, Option.map_some, pickX_t, pickX_f, Bool.not_true, Obt_map, Obt_sub, Obt_ext, Obt_bind, fillX, bslX, escP_list, splice, List.take_zero, List.take_succ_cons, List.drop_succ_cons, List.drop_nil, List.nil_append, List.cons_append, List.length_cons, List.length_nil, Nat.reduceLeDiff, and_true, true_and, Nat.le_refl, rdA_var, escP, List.all_cons, List.all_nil, Bool.and_self, if_false, if_true, r35, tend, tresAll, tresC, Option.bind_some, mapMem, retv_bool, tup_one, inC, kJ, kA, kC, ne_eq, h24, h1, kf, w9, eq_true hw, h5, eq_true h133, n3a, n3b, hz]))
                  | (revert hK; intro hK; (with_reducible refine hK _ ?_; clear hK K)))
                  all_goals first | rfl | simp_all
                | true =>
                  rw [show insB x = inB x.imm 1 5 from by rw [hins]; simp [h24, h1, hw, h133, hz]]
                  refine Fw_funK rfl Try.func35 s35 (Nat.le_of_ble_eq_true rfl) (fun Q hqr hqn => ?_)
                  rw [cin_t (show An.pure 35 = true from rfl) (by simp only [cans, can_int, can_bool, can_agg, can_str, can_agg, inE.can])]
                  simp only [tinit, Nat.reduceAdd, c35]
                  repeat' (first
                  | with_reducible (first | refine Tx_assoc ?_ | refine Tx_nopK ?_ | refine Tx_yesK rfl ?_ | refine Tx_noK rfl ?_ | refine Tx_yes rfl ?_ | refine Tx_no rfl ?_ | refine Tx_ret ?_ | refine Tx_blockK (id := 0) (fun Q0 hn0 hx0 hr0 ho0 => ?_) | refine hr0 _ ?_)
                  | (with_reducible (first | (refine Tx_regK (fun K hK => ?_); (first | refine t35r0 ?_ | refine t35r1 ?_ | refine t35r2 ?_ | refine t35r3 ?_ | refine t35r4 ?_ | refine t35r5 ?_ | refine t35r6 ?_ | refine t35r8 ?_ | refine t35r10 ?_ | refine t35r12 ?_ | refine t35r14 ?_ | refine t35r15 ?_)) | refine hqr _ ?_); (try simp only [true_implies, false_implies, not_true_eq_false, not_false_eq_true, tget_cons, if_true, if_false, Nat.reduceEqDiff, ccells, Obt_some, Kn_normal, newL_eq, newP_eq, nmA_f, nmR_f, gn_var, gnext_setL, lget_setL, setL_H, Nat.reduceAdd, Nat.zero_add, fldA_ptr, List.drop_zero, ld1_l, ldA_l, rd1_var, List.getElem?_cons_zero, List.getElem?_cons_succ, Obt_eql, Obt_neq, Obt_not, gdO_tt, gdO_tf, gdO_ff, gdO_ft, Option.map_some, pickX_t, pickX_f, Bool.not_true, Obt_map, Obt_sub, Obt_ext, Obt_bind, fillX, bslX, escP_list, splice, List.take_zero, List.take_succ_cons, List.drop_succ_cons, List.drop_nil, List.nil_append, List.cons_append, List.length_cons, List.length_nil, Nat.reduceLeDiff, and_true, true_and, Nat.le_refl, rdA_var, escP, List.all_cons, List.all_nil, Bool.and_self, if_false, if_true, r35, tend, tresAll, tresC, Option.bind_some, mapMem, retv_bool, tup_one, inC, kJ, kA, kC, ne_eq, h24, h1, kf, w9, eq_true hw, h5, eq_true h133, n3a, n3b, hz, kW]))
                  | (revert hK; intro hK; (with_reducible refine hK _ ?_; clear hK K)))
                  all_goals first | rfl | simp_all
              by_cases h149 : x.op = 149
              · skip
                rw [show insB x = zB [x.dst, x.src, x.off, x.imm] from by rw [hins]; simp [h24, h1, hw, h149]]
                refine Fw_funK rfl Try.func35 s35 (Nat.le_of_ble_eq_true rfl) (fun Q hqr hqn => ?_)
                rw [cin_t (show An.pure 35 = true from rfl) (by simp only [cans, can_int, can_bool, can_agg, can_str, can_agg, inE.can])]
                simp only [tinit, Nat.reduceAdd, c35]
                repeat' (first
                | with_reducible (first | refine Tx_assoc ?_ | refine Tx_nopK ?_ | refine Tx_yesK rfl ?_ | refine Tx_noK rfl ?_ | refine Tx_yes rfl ?_ | refine Tx_no rfl ?_ | refine Tx_ret ?_ | refine Tx_blockK (id := 0) (fun Q0 hn0 hx0 hr0 ho0 => ?_) | refine hr0 _ ?_)
                | (with_reducible (first | (refine Tx_regK (fun K hK => ?_); (first | refine t35r0 ?_ | refine t35r1 ?_ | refine t35r2 ?_ | refine t35r3 ?_ | refine t35r4 ?_ | refine t35r5 ?_ | refine t35r6 ?_ | refine t35r8 ?_ | refine t35r10 ?_ | refine t35r12 ?_ | refine t35r14 ?_ | refine t35r16 ?_ | refine t35r17 ?_)) | refine hqr _ ?_); (try simp only [true_implies, false_implies, not_true_eq_false, not_false_eq_true, tget_cons, if_true, if_false, Nat.reduceEqDiff, ccells, Obt_some, Kn_normal, newL_eq, newP_eq, nmA_f, nmR_f, gn_var, gnext_setL, lget_setL, setL_H, Nat.reduceAdd, Nat.zero_add, fldA_ptr, List.drop_zero, ld1_l, ldA_l, rd1_var, List.getElem?_cons_zero, List.getElem?_cons_succ, Obt_eql, Obt_neq, Obt_not, gdO_tt, gdO_tf, gdO_ff, gdO_ft, Option.map_some, pickX_t, pickX_f, Bool.not_true, Obt_map, Obt_sub, Obt_ext, Obt_bind, fillX, bslX, escP_list, splice, List.take_zero, List.take_succ_cons, List.drop_succ_cons, List.drop_nil, List.nil_append, List.cons_append, List.length_cons, List.length_nil, Nat.reduceLeDiff, and_true, true_and, Nat.le_refl, rdA_var, escP, List.all_cons, List.all_nil, Bool.and_self, if_false, if_true, r35, tend, tresAll, tresC, Option.bind_some, mapMem, retv_bool, tup_one, inC, kJ, kA, kC, ne_eq, h24, h1, kf, w9, eq_true hw, h5, h133, eq_true h149, n4]))
                | (revert hK; intro hK; (with_reducible refine hK _ ?_; clear hK K)))
                all_goals first | rfl | simp_all
              by_cases hs : szO x.op = 0
              · skip
                rw [show insB x = false from by rw [hins]; simp [h24, h1, hw, h5, h133, h149, hs]]
                refine Fw_funK rfl Try.func35 s35 (Nat.le_of_ble_eq_true rfl) (fun Q hqr hqn => ?_)
                rw [cin_t (show An.pure 35 = true from rfl) (by simp only [cans, can_int, can_bool, can_agg, can_str, can_agg, inE.can])]
                simp only [tinit, Nat.reduceAdd, c35]
                repeat' (first
                | with_reducible (first | refine Tx_assoc ?_ | refine Tx_nopK ?_ | refine Tx_yesK rfl ?_ | refine Tx_noK rfl ?_ | refine Tx_yes rfl ?_ | refine Tx_no rfl ?_ | refine Tx_ret ?_ | refine Tx_blockK (id := 0) (fun Q0 hn0 hx0 hr0 ho0 => ?_) | refine hr0 _ ?_)
                | (with_reducible (first | (refine Tx_regK (fun K hK => ?_); (first | refine t35r0 ?_ | refine t35r1 ?_ | refine t35r2 ?_ | refine t35r3 ?_ | refine t35r4 ?_ | refine t35r5 ?_ | refine t35r6 ?_ | refine t35r8 ?_ | refine t35r10 ?_ | refine t35r12 ?_ | refine t35r14 ?_ | refine t35r16 ?_ | refine t35r18 ?_ | refine t35r20 ?_ | refine t35r21 ?_)) | refine hqr _ ?_); (try simp only [true_implies, false_implies, not_true_eq_false, not_false_eq_true, tget_cons, if_true, if_false, Nat.reduceEqDiff, ccells, Obt_some, Kn_normal, newL_eq, newP_eq, lget_setL, setL_H, Nat.reduceAdd, Nat.zero_add, fldA_ptr, List.drop_zero, ld1_l, ldA_l, rd1_var, List.getElem?_cons_zero, List.getElem?_cons_succ, Obt_eql, Obt_neq, Obt_not, gdO_tt, gdO_tf, gdO_ff, gdO_ft, Option.map_some, pickX_t, pickX_f, Bool.not_true, Obt_map, Obt_sub, Obt_ext, List.take_zero, List.take_succ_cons, List.length_cons, List.length_nil, and_true, true_and, Nat.le_refl, rdA_var, if_false, if_true, r35, tend, tresAll, tresC, Option.bind_some, mapMem, retv_bool, tup_one, inC, kJ, kA, kC, ne_eq, h24, h1, kf, w9, eq_true hw, h5, h133, h149, kS, hs]))
                | (revert hK; intro hK; (with_reducible refine hK _ ?_; clear hK K)))
                all_goals first | rfl | simp_all
              rw [show insB x = decide (x.imm = 0) from by rw [hins]; simp [h24, h1, hw, h5, h133, h149, hs]]
              refine Fw_funK rfl Try.func35 s35 (Nat.le_of_ble_eq_true rfl) (fun Q hqr hqn => ?_)
              rw [cin_t (show An.pure 35 = true from rfl) (by simp only [cans, can_int, can_bool, can_agg, can_str, can_agg, inE.can])]
              simp only [tinit, Nat.reduceAdd, c35]
              repeat' (first
              | with_reducible (first | refine Tx_assoc ?_ | refine Tx_nopK ?_ | refine Tx_yesK rfl ?_ | refine Tx_noK rfl ?_ | refine Tx_no rfl ?_ | refine Tx_ret ?_ | refine Tx_nop ?_ | refine Tx_blockK (id := 0) (fun Q0 hn0 hx0 hr0 ho0 => ?_) | refine hn0 _ ?_)
              | (with_reducible (first | (refine Tx_regK (fun K hK => ?_); (first | refine t35r0 ?_ | refine t35r1 ?_ | refine t35r2 ?_ | refine t35r3 ?_ | refine t35r4 ?_ | refine t35r5 ?_ | refine t35r6 ?_ | refine t35r8 ?_ | refine t35r10 ?_ | refine t35r12 ?_ | refine t35r14 ?_ | refine t35r16 ?_ | refine t35r18 ?_ | refine t35r20 ?_ | refine t35r22 ?_ | refine t35r24 ?_)) | refine hqr _ ?_); (try simp only [true_implies, false_implies, not_true_eq_false, not_false_eq_true, tget_cons, if_true, if_false, Nat.reduceEqDiff, ccells, Obt_some, Kn_normal, newL_eq, newP_eq, nmA_f, nmR_f, gn_var, gnext_setL, lget_setL, setL_H, Nat.reduceAdd, Nat.zero_add, fldA_ptr, List.drop_zero, ld1_l, ldA_l, rd1_var, List.getElem?_cons_zero, List.getElem?_cons_succ, Obt_eql, Obt_neq, Obt_not, gdO_tt, gdO_tf, gdO_ff, gdO_ft, Option.map_some, pickX_t, pickX_f, Bool.not_true, Obt_map, Obt_sub, Obt_ext, Obt_bind, fillX, bslX, escP_list, splice, List.take_zero, List.take_succ_cons, List.drop_succ_cons, List.drop_nil, List.nil_append, List.append_nil, List.length_cons, List.length_nil, and_true, true_and, Nat.le_refl, rdA_var, escP, List.all_cons, List.all_nil, Bool.and_self, if_false, if_true, r35, tend, tresAll, tresC, Option.bind_some, mapMem, retv_bool, tup_one, inC, kJ, kA, kC, ne_eq, h24, h1, kf, w9, eq_true hw, h5, h133, h149, kS, hs, n1a, n1b]))
              | (revert hK; intro hK; (first | refine And.intro ?_ ?_ | intro _ | omega | (with_reducible refine hK _ ?_; clear hK K))))
              all_goals first | rfl | simp_all
          · skip
            rw [show insB x = false from by rw [hins]; simp [hw, h24]]
            refine Fw_funK rfl Try.func35 s35 (Nat.le_of_ble_eq_true rfl) (fun Q hqr hqn => ?_)
            rw [cin_t (show An.pure 35 = true from rfl) (by simp only [cans, can_int, can_bool, can_agg, can_str, can_agg, inE.can])]
            simp only [tinit, Nat.reduceAdd, c35]
            repeat' (first
            | with_reducible (first | refine Tx_assoc ?_ | refine Tx_yesK rfl ?_ | refine Tx_retK ?_)
            | (with_reducible (first | (refine Tx_regK (fun K hK => ?_); (first | refine t35r0 ?_ | refine t35r1 ?_ | refine t35r2 ?_ | refine t35r3 ?_ | refine t35r4 ?_ | refine t35r5 ?_ | refine t35r6 ?_ | refine t35r7 ?_)) | refine hqr _ ?_); (try simp only [true_implies, false_implies, not_true_eq_false, not_false_eq_true, tget_cons, if_true, if_false, Nat.reduceEqDiff, ccells, Obt_some, Kn_normal, newL_eq, newP_eq, lget_setL, setL_H, Nat.reduceAdd, Nat.zero_add, fldA_ptr, List.drop_zero, ld1_l, ldA_l, rd1_var, List.getElem?_cons_zero, List.getElem?_cons_succ, Obt_eql, Obt_neq, Obt_not, gdO_tt, gdO_tf, gdO_ff, gdO_ft, Option.map_some, pickX_t, pickX_f, Bool.not_true, Obt_map, Obt_sub, Obt_ext, List.take_zero, List.take_succ_cons, List.length_cons, List.length_nil, and_true, true_and, Nat.le_refl, rdA_var, if_false, if_true, r35, tend, tresAll, tresC, Option.bind_some, mapMem, retv_bool, tup_one, inC, kJ, kA, kC, ne_eq, h24, h1, kf, w9, hw]))
            | (revert hK; intro hK; (with_reducible refine hK _ ?_; clear hK K)))
            all_goals first | rfl | simp_all
      · skip
        have hd : dstB x = 10 := by rw [hdst]; simp [h1, h24]
        rw [hd] at hF
        have kf := kF 10
        rw [← hF] at kf
        clear kF hF
        cases F with
        | false =>
          rw [show insB x = false from by rw [hins]; simp]
          refine Fw_funK rfl Try.func35 s35 (Nat.le_of_ble_eq_true rfl) (fun Q hqr hqn => ?_)
          rw [cin_t (show An.pure 35 = true from rfl) (by simp only [cans, can_int, can_bool, can_agg, can_str, can_agg, inE.can])]
          simp only [tinit, Nat.reduceAdd, c35]
          repeat' (first
          | with_reducible (first | refine Tx_assoc ?_ | refine Tx_nopK ?_ | refine Tx_yesK rfl ?_ | refine Tx_noK rfl ?_ | refine Tx_retK ?_)
          | (with_reducible (first | (refine Tx_regK (fun K hK => ?_); (first | refine t35r0 ?_ | refine t35r1 ?_ | refine t35r2 ?_ | refine t35r3 ?_ | refine t35r4 ?_ | refine t35r6 ?_ | refine t35r7 ?_)) | refine hqr _ ?_); (try simp only [true_implies, false_implies, not_false_eq_true, tget_cons, if_true, if_false, Nat.reduceEqDiff, ccells, Obt_some, Kn_normal, newL_eq, newP_eq, lget_setL, setL_H, Nat.reduceAdd, Nat.zero_add, fldA_ptr, List.drop_zero, ld1_l, ldA_l, rd1_var, List.getElem?_cons_zero, List.getElem?_cons_succ, Obt_eql, Obt_not, gdO_tf, gdO_ff, gdO_skip, Option.map_some, pickX_t, pickX_f, Bool.not_false, Obt_map, Obt_ext, List.take_zero, List.take_succ_cons, List.length_cons, List.length_nil, true_and, Nat.le_refl, rdA_var, if_false, if_true, r35, tend, tresAll, tresC, Option.bind_some, mapMem, retv_bool, tup_one, inC, kJ, kA, kC, ne_eq, h24, h1, kf, w9]))
          | (revert hK; intro hK; (with_reducible refine hK _ ?_; clear hK K)))
          all_goals first | rfl | simp_all
        | true =>
          by_cases hw : x.wide = 0
          · skip
            cases J with
            | true =>
              rw [show insB x = opdB x from by rw [hins]; simp [h24, h1, hw]]
              refine Fw_funK rfl Try.func35 s35 (Nat.le_of_ble_eq_true rfl) (fun Q hqr hqn => ?_)
              rw [cin_t (show An.pure 35 = true from rfl) (by simp only [cans, can_int, can_bool, can_agg, can_str, can_agg, inE.can])]
              simp only [tinit, Nat.reduceAdd, c35]
              repeat' (first
              | with_reducible (first | refine Tx_assoc ?_ | refine Tx_nopK ?_ | refine Tx_noK rfl ?_ | refine Tx_yes rfl ?_ | refine Tx_no rfl ?_ | refine Tx_ret ?_ | refine Tx_blockK (id := 0) (fun Q0 hn0 hx0 hr0 ho0 => ?_) | refine hr0 _ ?_)
              | (with_reducible (first | (refine Tx_regK (fun K hK => ?_); (first | refine t35r0 ?_ | refine t35r1 ?_ | refine t35r2 ?_ | refine t35r3 ?_ | refine t35r4 ?_ | refine t35r6 ?_ | refine t35r8 ?_ | refine t35r10 ?_ | refine t35r11 ?_)) | refine hqr _ ?_); (try simp only [true_implies, false_implies, not_true_eq_false, not_false_eq_true, tget_cons, if_true, if_false, Nat.reduceEqDiff, ccells, Obt_some, Kn_normal, newL_eq, newP_eq, lget_setL, setL_H, Nat.reduceAdd, Nat.zero_add, fldA_ptr, List.drop_zero, ld1_l, ldA_l, rd1_var, List.getElem?_cons_zero, List.getElem?_cons_succ, Obt_eql, Obt_neq, Obt_not, gdO_tt, gdO_tf, gdO_ff, gdO_ft, Option.map_some, pickX_t, pickX_f, Bool.not_true, Obt_map, Obt_ext, List.take_zero, List.take_succ_cons, List.length_cons, List.length_nil, and_true, true_and, Nat.le_refl, rdA_var, if_false, if_true, r35, tend, tresAll, tresC, Option.bind_some, mapMem, retv_bool, tup_one, inC, kJ, kA, kC, ne_eq, h24, h1, kf, w9, eq_true hw, kO]))
              | (revert hK; intro hK; (with_reducible refine hK _ ?_; clear hK K)))
              all_goals first | rfl | simp_all
            | false =>
              by_cases h5 : x.op = 5
              · skip
                rw [show insB x = zB [x.dst, x.src, x.imm] from by rw [hins]; simp [h24, h1, hw, h5]]
                refine Fw_funK rfl Try.func35 s35 (Nat.le_of_ble_eq_true rfl) (fun Q hqr hqn => ?_)
                rw [cin_t (show An.pure 35 = true from rfl) (by simp only [cans, can_int, can_bool, can_agg, can_str, can_agg, inE.can])]
                simp only [tinit, Nat.reduceAdd, c35]
                repeat' (first
                | with_reducible (first | refine Tx_assoc ?_ | refine Tx_nopK ?_ | refine Tx_noK rfl ?_ | refine Tx_yes rfl ?_ | refine Tx_no rfl ?_ | refine Tx_ret ?_ | refine Tx_blockK (id := 0) (fun Q0 hn0 hx0 hr0 ho0 => ?_) | refine hr0 _ ?_)
                | (with_reducible (first | (refine Tx_regK (fun K hK => ?_); (first | refine t35r0 ?_ | refine t35r1 ?_ | refine t35r2 ?_ | refine t35r3 ?_ | refine t35r4 ?_ | refine t35r6 ?_ | refine t35r8 ?_ | refine t35r10 ?_ | refine t35r12 ?_ | refine t35r13 ?_)) | refine hqr _ ?_); (try simp only [true_implies, false_implies, not_true_eq_false, not_false_eq_true, tget_cons, if_true, if_false, Nat.reduceEqDiff, ccells, Obt_some, Kn_normal, newL_eq, newP_eq, nmA_f, nmR_f, gn_var, gnext_setL, lget_setL, setL_H, Nat.reduceAdd, Nat.zero_add, fldA_ptr, List.drop_zero, ld1_l, ldA_l, rd1_var, List.getElem?_cons_zero, List.getElem?_cons_succ, Obt_eql, Obt_neq, Obt_not, gdO_tt, gdO_tf, gdO_ff, gdO_ft, Option.map_some, pickX_t, pickX_f, Bool.not_true, Obt_map, Obt_ext, Obt_bind, fillX, bslX, escP_list, splice, List.take_zero, List.take_succ_cons, List.drop_succ_cons, List.drop_nil, List.nil_append, List.cons_append, List.length_cons, List.length_nil, Nat.reduceLeDiff, and_true, true_and, Nat.le_refl, rdA_var, escP, List.all_cons, List.all_nil, Bool.and_self, if_false, if_true, r35, tend, tresAll, tresC, Option.bind_some, mapMem, retv_bool, tup_one, inC, kJ, kA, kC, ne_eq, h24, h1, kf, w9, eq_true hw, eq_true h5, n3a, n3b]))
                | (revert hK; intro hK; (with_reducible refine hK _ ?_; clear hK K)))
                all_goals first | rfl | simp_all
              by_cases h133 : x.op = 133
              · cases hz : zB [x.dst, x.src, x.off] with
                | false =>
                  rw [show insB x = false from by rw [hins]; simp [h24, h1, hw, h133, hz]]
                  refine Fw_funK rfl Try.func35 s35 (Nat.le_of_ble_eq_true rfl) (fun Q hqr hqn => ?_)
                  rw [cin_t (show An.pure 35 = true from rfl) (by simp only [cans, can_int, can_bool, can_agg, can_str, can_agg, inE.can])]
                  simp only [tinit, Nat.reduceAdd, c35]
                  repeat' (first
                  | with_reducible (first | refine Tx_assoc ?_ | refine Tx_nopK ?_ | refine Tx_noK rfl ?_ | refine Tx_yes rfl ?_ | refine Tx_no rfl ?_ | refine Tx_ret ?_ | refine Tx_blockK (id := 0) (fun Q0 hn0 hx0 hr0 ho0 => ?_) | refine hr0 _ ?_)
                  | (with_reducible (first | (refine Tx_regK (fun K hK => ?_); (first | refine t35r0 ?_ | refine t35r1 ?_ | refine t35r2 ?_ | refine t35r3 ?_ | refine t35r4 ?_ | refine t35r6 ?_ | refine t35r8 ?_ | refine t35r10 ?_ | refine t35r12 ?_ | refine t35r14 ?_ | refine t35r15 ?_)) | refine hqr _ ?_); (try simp only [true_implies, false_implies, not_true_eq_false, not_false_eq_true, tget_cons, if_true, if_false, Nat.reduceEqDiff, ccells, Obt_some, Kn_normal, newL_eq, newP_eq, nmA_f, nmR_f, gn_var, gnext_setL, lget_setL, setL_H, Nat.reduceAdd, Nat.zero_add, fldA_ptr, List.drop_zero, ld1_l, ldA_l, rd1_var, List.getElem?_cons_zero, List.getElem?_cons_succ, Obt_eql, Obt_neq, Obt_not, gdO_tt, gdO_tf, gdO_ff, gdO_ft, Option.map_some, pickX_t, pickX_f, Bool.not_true, Obt_map, Obt_ext, Obt_bind, fillX, bslX, escP_list, splice, List.take_zero, List.take_succ_cons, List.drop_succ_cons, List.drop_nil, List.nil_append, List.cons_append, List.length_cons, List.length_nil, Nat.reduceLeDiff, and_true, true_and, Nat.le_refl, rdA_var, escP, List.all_cons, List.all_nil, Bool.and_self, if_false, if_true, r35, tend, tresAll, tresC, Option.bind_some, mapMem, retv_bool, tup_one, inC, kJ, kA, kC, ne_eq, h24, h1, kf, w9, eq_true hw, h5, eq_true h133, n3a, n3b, hz]))
                  | (revert hK; intro hK; (with_reducible refine hK _ ?_; clear hK K)))
                  all_goals first | rfl | simp_all
                | true =>
                  rw [show insB x = inB x.imm 1 5 from by rw [hins]; simp [h24, h1, hw, h133, hz]]
                  refine Fw_funK rfl Try.func35 s35 (Nat.le_of_ble_eq_true rfl) (fun Q hqr hqn => ?_)
                  rw [cin_t (show An.pure 35 = true from rfl) (by simp only [cans, can_int, can_bool, can_agg, can_str, can_agg, inE.can])]
                  simp only [tinit, Nat.reduceAdd, c35]
                  repeat' (first
                  | with_reducible (first | refine Tx_assoc ?_ | refine Tx_nopK ?_ | refine Tx_noK rfl ?_ | refine Tx_yes rfl ?_ | refine Tx_no rfl ?_ | refine Tx_ret ?_ | refine Tx_blockK (id := 0) (fun Q0 hn0 hx0 hr0 ho0 => ?_) | refine hr0 _ ?_)
                  | (with_reducible (first | (refine Tx_regK (fun K hK => ?_); (first | refine t35r0 ?_ | refine t35r1 ?_ | refine t35r2 ?_ | refine t35r3 ?_ | refine t35r4 ?_ | refine t35r6 ?_ | refine t35r8 ?_ | refine t35r10 ?_ | refine t35r12 ?_ | refine t35r14 ?_ | refine t35r15 ?_)) | refine hqr _ ?_); (try simp only [true_implies, false_implies, not_true_eq_false, not_false_eq_true, tget_cons, if_true, if_false, Nat.reduceEqDiff, ccells, Obt_some, Kn_normal, newL_eq, newP_eq, nmA_f, nmR_f, gn_var, gnext_setL, lget_setL, setL_H, Nat.reduceAdd, Nat.zero_add, fldA_ptr, List.drop_zero, ld1_l, ldA_l, rd1_var, List.getElem?_cons_zero, List.getElem?_cons_succ, Obt_eql, Obt_neq, Obt_not, gdO_tt, gdO_tf, gdO_ff, gdO_ft, Option.map_some, pickX_t, pickX_f, Bool.not_true, Obt_map, Obt_ext, Obt_bind, fillX, bslX, escP_list, splice, List.take_zero, List.take_succ_cons, List.drop_succ_cons, List.drop_nil, List.nil_append, List.cons_append, List.length_cons, List.length_nil, Nat.reduceLeDiff, and_true, true_and, Nat.le_refl, rdA_var, escP, List.all_cons, List.all_nil, Bool.and_self, if_false, if_true, r35, tend, tresAll, tresC, Option.bind_some, mapMem, retv_bool, tup_one, inC, kJ, kA, kC, ne_eq, h24, h1, kf, w9, eq_true hw, h5, eq_true h133, n3a, n3b, hz, kW]))
                  | (revert hK; intro hK; (with_reducible refine hK _ ?_; clear hK K)))
                  all_goals first | rfl | simp_all
              by_cases h149 : x.op = 149
              · skip
                rw [show insB x = zB [x.dst, x.src, x.off, x.imm] from by rw [hins]; simp [h24, h1, hw, h149]]
                refine Fw_funK rfl Try.func35 s35 (Nat.le_of_ble_eq_true rfl) (fun Q hqr hqn => ?_)
                rw [cin_t (show An.pure 35 = true from rfl) (by simp only [cans, can_int, can_bool, can_agg, can_str, can_agg, inE.can])]
                simp only [tinit, Nat.reduceAdd, c35]
                repeat' (first
                | with_reducible (first | refine Tx_assoc ?_ | refine Tx_nopK ?_ | refine Tx_noK rfl ?_ | refine Tx_yes rfl ?_ | refine Tx_no rfl ?_ | refine Tx_ret ?_ | refine Tx_blockK (id := 0) (fun Q0 hn0 hx0 hr0 ho0 => ?_) | refine hr0 _ ?_)
                | (with_reducible (first | (refine Tx_regK (fun K hK => ?_); (first | refine t35r0 ?_ | refine t35r1 ?_ | refine t35r2 ?_ | refine t35r3 ?_ | refine t35r4 ?_ | refine t35r6 ?_ | refine t35r8 ?_ | refine t35r10 ?_ | refine t35r12 ?_ | refine t35r14 ?_ | refine t35r16 ?_ | refine t35r17 ?_)) | refine hqr _ ?_); (try simp only [true_implies, false_implies, not_true_eq_false, not_false_eq_true, tget_cons, if_true, if_false, Nat.reduceEqDiff, ccells, Obt_some, Kn_normal, newL_eq, newP_eq, nmA_f, nmR_f, gn_var, gnext_setL, lget_setL, setL_H, Nat.reduceAdd, Nat.zero_add, fldA_ptr, List.drop_zero, ld1_l, ldA_l, rd1_var, List.getElem?_cons_zero, List.getElem?_cons_succ, Obt_eql, Obt_neq, Obt_not, gdO_tt, gdO_tf, gdO_ff, gdO_ft, Option.map_some, pickX_t, pickX_f, Bool.not_true, Obt_map, Obt_ext, Obt_bind, fillX, bslX, escP_list, splice, List.take_zero, List.take_succ_cons, List.drop_succ_cons, List.drop_nil, List.nil_append, List.cons_append, List.length_cons, List.length_nil, Nat.reduceLeDiff, and_true, true_and, Nat.le_refl, rdA_var, escP, List.all_cons, List.all_nil, Bool.and_self, if_false, if_true, r35, tend, tresAll, tresC, Option.bind_some, mapMem, retv_bool, tup_one, inC, kJ, kA, kC, ne_eq, h24, h1, kf, w9, eq_true hw, h5, h133, eq_true h149, n4]))
                | (revert hK; intro hK; (with_reducible refine hK _ ?_; clear hK K)))
                all_goals first | rfl | simp_all
              by_cases hs : szO x.op = 0
              · skip
                rw [show insB x = false from by rw [hins]; simp [h24, h1, hw, h5, h133, h149, hs]]
                refine Fw_funK rfl Try.func35 s35 (Nat.le_of_ble_eq_true rfl) (fun Q hqr hqn => ?_)
                rw [cin_t (show An.pure 35 = true from rfl) (by simp only [cans, can_int, can_bool, can_agg, can_str, can_agg, inE.can])]
                simp only [tinit, Nat.reduceAdd, c35]
                repeat' (first
                | with_reducible (first | refine Tx_assoc ?_ | refine Tx_nopK ?_ | refine Tx_noK rfl ?_ | refine Tx_yes rfl ?_ | refine Tx_no rfl ?_ | refine Tx_ret ?_ | refine Tx_blockK (id := 0) (fun Q0 hn0 hx0 hr0 ho0 => ?_) | refine hr0 _ ?_)
                | (with_reducible (first | (refine Tx_regK (fun K hK => ?_); (first | refine t35r0 ?_ | refine t35r1 ?_ | refine t35r2 ?_ | refine t35r3 ?_ | refine t35r4 ?_ | refine t35r6 ?_ | refine t35r8 ?_ | refine t35r10 ?_ | refine t35r12 ?_ | refine t35r14 ?_ | refine t35r16 ?_ | refine t35r18 ?_ | refine t35r20 ?_ | refine t35r21 ?_)) | refine hqr _ ?_); (try simp only [true_implies, false_implies, not_true_eq_false, not_false_eq_true, tget_cons, if_true, if_false, Nat.reduceEqDiff, ccells, Obt_some, Kn_normal, newL_eq, newP_eq, lget_setL, setL_H, Nat.reduceAdd, Nat.zero_add, fldA_ptr, List.drop_zero, ld1_l, ldA_l, rd1_var, List.getElem?_cons_zero, List.getElem?_cons_succ, Obt_eql, Obt_neq, Obt_not, gdO_tt, gdO_tf, gdO_ff, gdO_ft, Option.map_some, pickX_t, pickX_f, Bool.not_true, Obt_map, Obt_ext, List.take_zero, List.take_succ_cons, List.length_cons, List.length_nil, and_true, true_and, Nat.le_refl, rdA_var, if_false, if_true, r35, tend, tresAll, tresC, Option.bind_some, mapMem, retv_bool, tup_one, inC, kJ, kA, kC, ne_eq, h24, h1, kf, w9, eq_true hw, h5, h133, h149, kS, hs]))
                | (revert hK; intro hK; (with_reducible refine hK _ ?_; clear hK K)))
                all_goals first | rfl | simp_all
              by_cases h2 : cls x.op = 2
              · skip
                rw [show insB x = decide (x.src = 0) from by rw [hins]; simp [h24, h1, hw, h5, h133, h149, hs, h2]]
                refine Fw_funK rfl Try.func35 s35 (Nat.le_of_ble_eq_true rfl) (fun Q hqr hqn => ?_)
                rw [cin_t (show An.pure 35 = true from rfl) (by simp only [cans, can_int, can_bool, can_agg, can_str, can_agg, inE.can])]
                simp only [tinit, Nat.reduceAdd, c35]
                repeat' (first
                | with_reducible (first | refine Tx_assoc ?_ | refine Tx_nopK ?_ | refine Tx_noK rfl ?_ | refine Tx_yes rfl ?_ | refine Tx_no rfl ?_ | refine Tx_ret ?_ | refine Tx_blockK (id := 0) (fun Q0 hn0 hx0 hr0 ho0 => ?_) | refine hr0 _ ?_)
                | (with_reducible (first | (refine Tx_regK (fun K hK => ?_); (first | refine t35r0 ?_ | refine t35r1 ?_ | refine t35r2 ?_ | refine t35r3 ?_ | refine t35r4 ?_ | refine t35r6 ?_ | refine t35r8 ?_ | refine t35r10 ?_ | refine t35r12 ?_ | refine t35r14 ?_ | refine t35r16 ?_ | refine t35r18 ?_ | refine t35r20 ?_ | refine t35r22 ?_ | refine t35r23 ?_)) | refine hqr _ ?_); (try simp only [true_implies, false_implies, not_true_eq_false, not_false_eq_true, tget_cons, if_true, if_false, Nat.reduceEqDiff, ccells, Obt_some, Kn_normal, newL_eq, newP_eq, nmA_f, nmR_f, gn_var, gnext_setL, lget_setL, setL_H, Nat.reduceAdd, Nat.zero_add, fldA_ptr, List.drop_zero, ld1_l, ldA_l, rd1_var, List.getElem?_cons_zero, List.getElem?_cons_succ, Obt_eql, Obt_neq, Obt_not, gdO_tt, gdO_tf, gdO_ff, gdO_ft, Option.map_some, pickX_t, pickX_f, Bool.not_true, Obt_map, Obt_ext, Obt_bind, fillX, bslX, escP_list, splice, List.take_zero, List.take_succ_cons, List.drop_succ_cons, List.drop_nil, List.nil_append, List.append_nil, List.length_cons, List.length_nil, and_true, true_and, Nat.le_refl, rdA_var, escP, List.all_cons, List.all_nil, Bool.and_self, if_false, if_true, r35, tend, tresAll, tresC, Option.bind_some, mapMem, retv_bool, tup_one, inC, kJ, kA, kC, ne_eq, h24, h1, kf, w9, eq_true hw, h5, h133, h149, kS, hs, h2, n1a, n1b]))
                | (revert hK; intro hK; (first | refine And.intro ?_ ?_ | intro _ | omega | (with_reducible refine hK _ ?_; clear hK K))))
                all_goals first | rfl | simp_all
              rw [show insB x = decide (x.imm = 0) from by rw [hins]; simp [h24, h1, hw, h5, h133, h149, hs, h2]]
              refine Fw_funK rfl Try.func35 s35 (Nat.le_of_ble_eq_true rfl) (fun Q hqr hqn => ?_)
              rw [cin_t (show An.pure 35 = true from rfl) (by simp only [cans, can_int, can_bool, can_agg, can_str, can_agg, inE.can])]
              simp only [tinit, Nat.reduceAdd, c35]
              repeat' (first
              | with_reducible (first | refine Tx_assoc ?_ | refine Tx_nopK ?_ | refine Tx_noK rfl ?_ | refine Tx_no rfl ?_ | refine Tx_ret ?_ | refine Tx_nop ?_ | refine Tx_blockK (id := 0) (fun Q0 hn0 hx0 hr0 ho0 => ?_) | refine hn0 _ ?_)
              | (with_reducible (first | (refine Tx_regK (fun K hK => ?_); (first | refine t35r0 ?_ | refine t35r1 ?_ | refine t35r2 ?_ | refine t35r3 ?_ | refine t35r4 ?_ | refine t35r6 ?_ | refine t35r8 ?_ | refine t35r10 ?_ | refine t35r12 ?_ | refine t35r14 ?_ | refine t35r16 ?_ | refine t35r18 ?_ | refine t35r20 ?_ | refine t35r22 ?_ | refine t35r24 ?_)) | refine hqr _ ?_); (try simp only [true_implies, false_implies, not_true_eq_false, not_false_eq_true, tget_cons, if_true, if_false, Nat.reduceEqDiff, ccells, Obt_some, Kn_normal, newL_eq, newP_eq, nmA_f, nmR_f, gn_var, gnext_setL, lget_setL, setL_H, Nat.reduceAdd, Nat.zero_add, fldA_ptr, List.drop_zero, ld1_l, ldA_l, rd1_var, List.getElem?_cons_zero, List.getElem?_cons_succ, Obt_eql, Obt_neq, Obt_not, gdO_tt, gdO_tf, gdO_ff, gdO_ft, Option.map_some, pickX_t, pickX_f, Bool.not_true, Obt_map, Obt_ext, Obt_bind, fillX, bslX, escP_list, splice, List.take_zero, List.take_succ_cons, List.drop_succ_cons, List.drop_nil, List.nil_append, List.append_nil, List.length_cons, List.length_nil, and_true, true_and, Nat.le_refl, rdA_var, escP, List.all_cons, List.all_nil, Bool.and_self, if_false, if_true, r35, tend, tresAll, tresC, Option.bind_some, mapMem, retv_bool, tup_one, inC, kJ, kA, kC, ne_eq, h24, h1, kf, w9, eq_true hw, h5, h133, h149, kS, hs, h2, n1a, n1b]))
              | (revert hK; intro hK; (with_reducible refine hK _ ?_; clear hK K)))
              all_goals first | rfl | simp_all
          · skip
            rw [show insB x = false from by rw [hins]; simp [hw, h24]]
            refine Fw_funK rfl Try.func35 s35 (Nat.le_of_ble_eq_true rfl) (fun Q hqr hqn => ?_)
            rw [cin_t (show An.pure 35 = true from rfl) (by simp only [cans, can_int, can_bool, can_agg, can_str, can_agg, inE.can])]
            simp only [tinit, Nat.reduceAdd, c35]
            repeat' (first
            | with_reducible (first | refine Tx_assoc ?_ | refine Tx_nopK ?_ | refine Tx_yesK rfl ?_ | refine Tx_noK rfl ?_ | refine Tx_retK ?_)
            | (with_reducible (first | (refine Tx_regK (fun K hK => ?_); (first | refine t35r0 ?_ | refine t35r1 ?_ | refine t35r2 ?_ | refine t35r3 ?_ | refine t35r4 ?_ | refine t35r6 ?_ | refine t35r7 ?_)) | refine hqr _ ?_); (try simp only [true_implies, false_implies, not_false_eq_true, tget_cons, if_true, if_false, Nat.reduceEqDiff, ccells, Obt_some, Kn_normal, newL_eq, newP_eq, lget_setL, setL_H, Nat.reduceAdd, Nat.zero_add, fldA_ptr, List.drop_zero, ld1_l, ldA_l, rd1_var, List.getElem?_cons_zero, List.getElem?_cons_succ, Obt_eql, Obt_neq, Obt_not, gdO_tt, gdO_tf, gdO_ff, gdO_ft, Option.map_some, pickX_t, pickX_f, Bool.not_true, Obt_map, Obt_ext, List.take_zero, List.take_succ_cons, List.length_cons, List.length_nil, true_and, Nat.le_refl, rdA_var, if_false, if_true, r35, tend, tresAll, tresC, Option.bind_some, mapMem, retv_bool, tup_one, inC, kJ, kA, kC, ne_eq, h24, h1, kf, w9, hw]))
            | (revert hK; intro hK; (with_reducible refine hK _ ?_; clear hK K)))
            all_goals first | rfl | simp_all
theorem k35 {x : In} {fid : FuncId} {d : Tmp} {m : Mem} : callC An FF fid (some d) 35 [.agg (inC x)] m = some (.bool (insB x), m) :=
  callC_V (x35 x) (fun _ _ _ => rfl) rfl (by simp only [cans, can_agg, inE.can]) rfl rfl rfl
end Go.Cm
