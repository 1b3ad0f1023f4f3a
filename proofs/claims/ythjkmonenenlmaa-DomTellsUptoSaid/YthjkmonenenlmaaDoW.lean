/-
  Graphs: the document's walk: what one may come to, a node left out.
-/
import Derived.Test.YthjkmonenenlmaaDoA
import Derived.Test.YthjkmonenenlmaaDyW
set_option linter.unusedSimpArgs false
set_option linter.unusedVariables false
namespace Go.Cm
open Go.Proofs Go.Gr
open Classical in
/-- may one come to a node, not through another one? -/
noncomputable def avL (g : List (List Int)) (w : Int) : List Bool := (List.range g.length).map fun (i : Nat) => decide (Av g w (i : Int))
/-- all elements of rows that are not looked at yet -/
def um (g : List (List Int)) (M : List Int) : Nat := ((List.range g.length).map fun (i : Nat) => if (i : Int) ∈ M then 0 else (g.getD i []).length).sum
theorem sum_one {l : List Nat} (hl : l.Nodup) {i : Nat} (hi : i ∈ l) {f f' : Nat → Nat} (h1 : ∀ j, j ≠ i → f' j = f j) (h2 : f' i = 0) : (l.map f').sum + f i = (l.map f).sum := by
  induction l with
  | nil => cases hi
  | cons a l ih =>
    simp only [List.map_cons, List.sum_cons]
    rw [List.nodup_cons] at hl
    rcases List.mem_cons.1 hi with rfl | hi'
    · have : l.map f' = l.map f := List.map_congr_left fun j hj => h1 j fun e => hl.1 (e ▸ hj)
      rw [this, h2]; omega
    · have hne : a ≠ i := fun e => hl.1 (e ▸ hi')
      have := ih hl.2 hi'
      rw [h1 a hne]; omega
theorem um_cons {g : List (List Int)} {M : List Int} {x : Int} {r : List Int} (h0 : 0 ≤ x) (hr : g[x.toNat]? = some r) (hx : x ∉ M) : um g (x :: M) + r.length = um g M := by
  have hlt := (List.getElem?_eq_some_iff.1 hr).1
  have hxn : ((x.toNat : Nat) : Int) = x := by omega
  have := sum_one (l := List.range g.length) List.nodup_range (i := x.toNat) (by simpa using hlt) (f := fun (i : Nat) => if (i : Int) ∈ M then 0 else (g.getD i []).length) (f' := fun (i : Nat) => if (i : Int) ∈ x :: M then 0 else (g.getD i []).length)
    (fun j hj => by
      have : ((j : Int) ∈ x :: M) ↔ (j : Int) ∈ M := by
        simp only [List.mem_cons]
        exact ⟨fun h => h.elim (fun h => absurd (by omega) hj) id, .inr⟩
      simp only [this]) (by simp [hxn])
  simp only [hxn, hx, if_false, List.getD_eq_getElem?_getD, hr, Option.getD_some] at this
  exact this
theorem slcX_l {m : Mem} {j gn n k : Nat} {cs : List CV} {vl : Nat} (hm : lget m.L j = some (.arr gn 1 cs vl)) (hk : k ≤ n) : slcX 1 (.ref (.l j) gn 0 n) none (some (.int .i64 k)) none m = some (.ref (.l j) gn 0 k) := by
  have hb : bounds n none (some (.int .i64 k)) = some (0, k) := by simp [bounds, asNat, hk]
  simp only [slcX, mxOK, clen, hb, Mem.get, hm, and_self, if_true, Nat.zero_mul, Nat.zero_add, Nat.sub_zero]
/-- may one go there? -/
def goB (g : List (List Int)) (w y : Int) : Bool := decide (0 ≤ y ∧ y < g.length ∧ y ≠ w)
theorem ins_goB {g : List (List Int)} {w x y : Int} {r : List Int} (hr : g[x.toNat]? = some r) : (y ∈ ins g x ∧ y ≠ w) ↔ y ∈ r.filter (goB g w) := by
  simp only [ins, List.getD_eq_getElem?_getD, hr, Option.getD_some, List.mem_filter, goB, decide_eq_true_eq]
  exact ⟨fun h => ⟨h.1.1, h.1.2.1, h.1.2.2, h.2⟩, fun h => ⟨⟨h.1, h.2.1, h.2.2.1⟩, h.2.2.2⟩⟩
theorem av_none {g : List (List Int)} {w : Int} (hw0 : g = [] ∨ w = 0) : ∀ x, ¬ Av g w x := by
  intro x h
  induction h with
  | zero h1 h2 =>
    rcases hw0 with h3 | h3
    · exact h1 h3
    · exact h2 h3
  | step _ _ _ ih => exact ih
theorem avL_len {g : List (List Int)} {w : Int} : (avL g w).length = g.length := by simp [avL]
theorem avL_eq {g : List (List Int)} {w : Int} {c : List Bool} {M : List Int} (h1 : c.length = g.length) (h2 : ∀ j : Nat, j < g.length → c[j]? = some (decide ((j : Int) ∈ M))) (h3 : ∀ j : Nat, j < g.length → ((j : Int) ∈ M ↔ Av g w j)) : c = avL g w := by
  refine List.ext_getElem? fun j => ?_
  by_cases hj : j < g.length
  · have := h3 j hj
    rw [h2 j hj, avL, List.getElem?_map, List.getElem?_range hj]
    simp [this]
  · rw [List.getElem?_eq_none (by omega), List.getElem?_eq_none (by rw [avL_len]; omega)]
theorem x27 (g : List (List Int)) (hg : Sm g) (ht : um g [] ≤ 17179869184) (gv : CV) (hgv : IsRows gv g) (w : Int) : ∃ r, (∃ H', r = (ownN boolC 1 (avL g w), H')) ∧ FF 27 [gv, .int .i64 w] [] = some r := by
  have hgl := hg.1
  have hmk := fun m => mkX_l (j := 192) (sz := 1) (b := 1) (z := [.bool false]) (k := .i64) (n := g.length) (m := m) rfl (by omega) (by omega)
  have hrep : ∀ j : Nat, j < g.length → (List.replicate g.length false)[j]? = some (decide ((j : Int) ∈ ([] : List Int))) := fun j hj => by simp [hj]
  have fin : ∀ c : List Bool, c = avL g w → CV.own g.length 1 (List.take (g.length * 1) (c.flatMap boolC)) 0 = ownN boolC 1 (avL g w) := fun c hc => by
    rw [hc, ownN, avL_len, List.take_of_length_le (by rw [flat_len boolC_len, avL_len]; omega)]
  by_cases hg0 : g = []
  · subst hg0
    have hmk0 : ∀ m, mkX false 192 1 1 [.bool false] (.int .i64 0) (.int .i64 0) m = some (.ref (.l 192) (gnext m.L 192) 0 0, setL m 192 (.arr (gnext m.L 192) 1 (reps 0 [.bool false]) 0)) := fun m => mkX_l (n := 0) rfl (by omega) (by omega)
    have hclen : clen gv = some 0 := hgv.len
    have hav : ownN boolC 1 (avL [] w) = .own 0 1 [] 0 := rfl
    rw [hav]
    refine Fw_funE rfl Try.func27 s27 (Nat.le_of_ble_eq_true rfl) (fun Q hqr hqn => ?_)
    simp only [tinit, Nat.reduceAdd, c27]
    repeat' (first
    | with_reducible refine Tx_assoc ?_
    | with_reducible refine Tx_yesK rfl ?_
    | with_reducible refine Tx_retK ?_
    | ((first | (with_reducible refine Tx_regK (fun K hK => ?_); (first | with_reducible refine t27r0 ?_ | with_reducible refine t27r1 ?_ | with_reducible refine t27r2 ?_ | with_reducible refine t27r3 ?_)) | with_reducible refine hqr _ ?_); (try simp only [true_implies, false_implies, not_true_eq_false, not_false_eq_true, tget_cons, if_true, if_false, Nat.reduceEqDiff, ccells, Obt_some, Kn_normal, newL_eq, newP_eq, newA_eq, newM_eq, newR_eq, newK_eq, nmA_f, nmR_f, gn_var, gn_arr, gn_map, gnext_setL, lget_setL, lget_lset, gnext_lset, setL_setL, setL_H, Nat.reduceMul, Nat.reduceAdd, Nat.zero_add, fldA_ptr, fldA_rptr, List.drop_zero, ld1_l, ld1_r, ldA_l, rd1_var, rd1_arr, List.getElem?_cons_zero, List.getElem?_cons_succ, Obt_lss, Obt_leq, Obt_gtr, Obt_geq, Obt_eql, Obt_neq, Obt_not, gdO_tt, gdO_tf, gdO_ff, gdO_ft, gdO_skip, Option.map_some, pickX_t, pickX_f, Obt_pickS, Obt_gdT, Obt_gdF, Bool.not_true, Bool.not_false, lenS, Obt_map, Obt_add, Obt_sub, Obt_mul, Obt_quo, Obt_rem, Obt_and, Obt_or, Obt_xor, Obt_andNot, Obt_shl, Obt_shr, Obt_neg, Obt_cpl, Obt_conv, Obt_ext, Obt_bind, Obt_ite', appX_l, appX_n, appR_arr, appN_some, content_l, conR_arr, content_nil, clen_n, clen_r, idxS_ref, fillX, bslX, escP_list, List.all_append, stX_l, stV_var, stV_arr, splice, List.take_zero, List.take_succ_cons, List.drop_succ_cons, List.drop_nil, List.nil_append, List.cons_append, List.append_nil, List.length_cons, List.length_nil, Nat.reduceLeDiff, and_self, and_true, true_and, Nat.le_refl, Nat.zero_le, rdA_var, rdA_arr, escP, List.all_cons, List.all_nil, Bool.and_self, Bool.true_and, Bool.and_true, r27, tend, tresAll, tresC, Option.bind_some, mapMem, retv_agc, esc_i, esc_b, esc_n, esc_m, esc_s, retv_l, retR_arr, retv_gref, retv_gmap, retv_gptr, Nat.zero_sub, Nat.sub_self, retv_int, retv_bool, retv_nil, retv_imm, retv_inil, retv_pnil, tup_nil, tup_one, tup_two, Prod.mk.injEq, CV.int.injEq, CV.bool.injEq, hclen, hmk0, Int.natCast_zero, Nat.zero_mul, List.take_zero]))
    | (revert hK; intro hK; (with_reducible refine hK _ ?_; clear hK K)))
    all_goals exact ⟨_, rfl⟩
  · have hlen : 0 < g.length := List.length_pos_iff.2 hg0
    have hl0 : ¬ (g.length : Int) = 0 := by omega
    by_cases hw0 : w = 0
    · have hav := avL_eq (w := w) (c := List.replicate g.length false) (by simp) hrep fun j hj => ⟨fun h => by simp at h, fun h => absurd h (av_none (.inr hw0) _)⟩
      subst hw0
      refine Fw_funE rfl Try.func27 s27 (Nat.le_of_ble_eq_true rfl) (fun Q hqr hqn => ?_)
      simp only [tinit, Nat.reduceAdd, c27]
      repeat' (first
      | with_reducible refine Tx_assoc ?_
      | with_reducible refine Tx_yesK rfl ?_
      | with_reducible refine Tx_retK ?_
      | ((first | (with_reducible refine Tx_regK (fun K hK => ?_); (first | with_reducible refine t27r0 ?_ | with_reducible refine t27r1 ?_ | with_reducible refine t27r2 ?_ | with_reducible refine t27r3 ?_)) | with_reducible refine hqr _ ?_); (try simp only [true_implies, false_implies, not_true_eq_false, not_false_eq_true, tget_cons, if_true, if_false, Nat.reduceEqDiff, ccells, Obt_some, Kn_normal, newL_eq, newP_eq, newA_eq, newM_eq, newR_eq, newK_eq, nmA_f, nmR_f, gn_var, gn_arr, gn_map, gnext_setL, lget_setL, lget_lset, gnext_lset, setL_setL, setL_H, Nat.reduceMul, Nat.reduceAdd, Nat.zero_add, fldA_ptr, fldA_rptr, List.drop_zero, ld1_l, ld1_r, ldA_l, rd1_var, rd1_arr, List.getElem?_cons_zero, List.getElem?_cons_succ, Obt_lss, Obt_leq, Obt_gtr, Obt_geq, Obt_eql, Obt_neq, Obt_not, gdO_tt, gdO_tf, gdO_ff, gdO_ft, gdO_skip, Option.map_some, pickX_t, pickX_f, Obt_pickS, Obt_gdT, Obt_gdF, Bool.not_true, Bool.not_false, lenS, Obt_map, Obt_add, Obt_sub, Obt_mul, Obt_quo, Obt_rem, Obt_and, Obt_or, Obt_xor, Obt_andNot, Obt_shl, Obt_shr, Obt_neg, Obt_cpl, Obt_conv, Obt_ext, Obt_bind, Obt_ite', appX_l, appX_n, appR_arr, appN_some, content_l, conR_arr, content_nil, clen_n, clen_r, idxS_ref, fillX, bslX, escP_list, List.all_append, stX_l, stV_var, stV_arr, splice, List.take_zero, List.take_succ_cons, List.drop_succ_cons, List.drop_nil, List.nil_append, List.cons_append, List.append_nil, List.length_cons, List.length_nil, Nat.reduceLeDiff, and_self, and_true, true_and, Nat.le_refl, Nat.zero_le, rdA_var, rdA_arr, escP, List.all_cons, List.all_nil, Bool.and_self, Bool.true_and, Bool.and_true, r27, tend, tresAll, tresC, Option.bind_some, mapMem, retv_agc, esc_i, esc_b, esc_n, esc_m, esc_s, retv_l, retR_arr, retv_gref, retv_gmap, retv_gptr, Nat.zero_sub, Nat.sub_self, retv_int, retv_bool, retv_nil, retv_imm, retv_inil, retv_pnil, tup_nil, tup_one, tup_two, Prod.mk.injEq, CV.int.injEq, CV.bool.injEq, hgv.len, hmk, hl0, reps_bool]))
      | (revert hK; intro hK; (with_reducible refine hK _ ?_; clear hK K)))
      exact ⟨_, by rw [fin _ hav], rfl⟩
    · refine Fw_funE rfl Try.func27 s27 (Nat.le_of_ble_eq_true rfl) (fun Q hqr hqn => ?_)
      simp only [tinit, Nat.reduceAdd, c27]
      repeat' (first
      | with_reducible refine Tx_assoc ?_
      | with_reducible refine Tx_nopK ?_
      | with_reducible refine Tx_noK rfl ?_
      | with_reducible refine Tx_blockK (id := 0) (fun Q0 hn0 hx0 hr0 ho0 => ?_)
      | ((with_reducible refine Tx_regK (fun K hK => ?_); (first | with_reducible refine t27r0 ?_ | with_reducible refine t27r1 ?_ | with_reducible refine t27r2 ?_ | with_reducible refine t27r4 ?_)); (try simp only [true_implies, false_implies, not_true_eq_false, not_false_eq_true, tget_cons, if_true, if_false, Nat.reduceEqDiff, ccells, Obt_some, Kn_normal, newL_eq, newP_eq, newA_eq, newM_eq, newR_eq, newK_eq, nmA_f, nmR_f, gn_var, gn_arr, gn_map, gnext_setL, lget_setL, lget_lset, gnext_lset, setL_setL, setL_H, Nat.reduceMul, Nat.reduceAdd, Nat.zero_add, fldA_ptr, fldA_rptr, List.drop_zero, ld1_l, ld1_r, ldA_l, rd1_var, rd1_arr, List.getElem?_cons_zero, List.getElem?_cons_succ, Obt_lss, Obt_leq, Obt_gtr, Obt_geq, Obt_eql, Obt_neq, Obt_not, gdO_tt, gdO_tf, gdO_ff, gdO_ft, gdO_skip, Option.map_some, pickX_t, pickX_f, Obt_pickS, Obt_gdT, Obt_gdF, Bool.not_true, Bool.not_false, lenS, Obt_map, Obt_add, Obt_sub, Obt_mul, Obt_quo, Obt_rem, Obt_and, Obt_or, Obt_xor, Obt_andNot, Obt_shl, Obt_shr, Obt_neg, Obt_cpl, Obt_conv, Obt_ext, Obt_bind, Obt_ite', appX_l, appX_n, appR_arr, appN_some, content_l, conR_arr, content_nil, clen_n, clen_r, idxS_ref, fillX, bslX, escP_list, List.all_append, stX_l, stV_var, stV_arr, splice, List.take_zero, List.take_succ_cons, List.drop_succ_cons, List.drop_nil, List.nil_append, List.cons_append, List.append_nil, List.length_cons, List.length_nil, Nat.reduceLeDiff, and_self, and_true, true_and, Nat.le_refl, Nat.zero_le, rdA_var, rdA_arr, escP, List.all_cons, List.all_nil, Bool.and_self, Bool.true_and, Bool.and_true, r27, tend, tresAll, tresC, Option.bind_some, mapMem, retv_agc, esc_i, esc_b, esc_n, esc_m, esc_s, retv_l, retR_arr, retv_gref, retv_gmap, retv_gptr, Nat.zero_sub, Nat.sub_self, retv_int, retv_bool, retv_nil, retv_imm, retv_inil, retv_pnil, tup_nil, tup_one, tup_two, Prod.mk.injEq, CV.int.injEq, CV.bool.injEq, hgv.len, hmk, hl0, hw0, reps_bool]))
      | (revert hK; intro hK; (with_reducible refine hK _ ?_; clear hK K)))
      refine Tx_loopK (fun k s => ∃ (M todo : List Int) (c : List Bool) (gn gc : Nat) (cs : List CV) (L : List (Nat × HO)) (sl : List (Nat × CV)),
        s = ⟨sl, ⟨L, []⟩⟩ ∧ k = um g M + todo.length ∧ um g M + todo.length ≤ um g [] + 1 ∧
        lget L 192 = some (.arr gc 1 (c.flatMap boolC) 0) ∧ c.length = g.length ∧ (∀ j : Nat, j < g.length → c[j]? = some (decide ((j : Int) ∈ M))) ∧
        lget L 336 = some (.arr gn 1 cs 0) ∧ cs.take todo.length = todo.flatMap intC ∧
        (∀ x ∈ M, Av g w x) ∧ (∀ x ∈ todo, Av g w x) ∧ (∀ x ∈ M, ∀ y ∈ ins g x, y ≠ w → y ∈ M ∨ y ∈ todo) ∧ (0 ∈ M ∨ 0 ∈ todo) ∧
        tget sl 0 = gv ∧ tget sl 1 = .int .i64 w ∧ tget sl 5 = .ref (.l 192) gc 0 g.length ∧ tget sl 6 = .ref (.l 336) gn 0 todo.length) _
        ⟨[], [0], List.replicate g.length false, gnext [] 336, gnext [] 192, [.int .i64 0], _, _, rfl, rfl, by simp, by simp [setL, lget_lset], by simp, hrep, by simp [setL, lget_lset], rfl, by simp, ?_, by simp, by simp, rfl, rfl, rfl, rfl⟩ ?_
      · intro x hx
        rw [List.mem_singleton] at hx
        subst hx
        exact .zero hg0 hw0
      rintro k s ⟨M, todo, c, gn, gc, cs, L, sl, rfl, rfl, hbd, hL1, hcl, hcM, hL2, hcs, hM, hT, hcl2, h0, t0, t1, t5, t6⟩ QL1 hnL1 hxL1 hrL1
      have hum : um g M ≤ um g [] + 1 := by omega
      simp only [c27l1]
      rcases List.eq_nil_or_concat todo with htd | ⟨todo, x, htd⟩
      · subst htd
        have hav := avL_eq (w := w) hcl hcM fun j hj => ⟨hM _, fun h => by
          have key : ∀ x, Av g w x → x ∈ M := by
            intro x hx
            induction hx with
            | zero _ _ => exact h0.elim id fun h => by simp at h
            | step _ hy hne ih => exact (hcl2 _ ih _ hy hne).elim id fun h => by simp at h
          exact key _ h⟩
        simp only [List.length_nil] at t6
        repeat' (first
        | with_reducible refine Tx_assoc ?_
        | with_reducible refine Tx_noK rfl ?_
        | with_reducible refine Tx_exitK ?_
        | with_reducible refine Tx_ret ?_
        | with_reducible refine hx0 _ ?_
        | with_reducible refine hxL1 _ _ ?_
        | ((first | (with_reducible refine Tx_regK (fun K hK => ?_); (first | with_reducible refine t27r5 ?_ | with_reducible refine t27r16 ?_)) | with_reducible refine hqr _ ?_); (try simp only [true_implies, false_implies, not_true_eq_false, not_false_eq_true, tget_cons, if_true, if_false, Nat.reduceEqDiff, ccells, Obt_some, Kn_normal, newL_eq, newP_eq, newA_eq, newM_eq, newR_eq, newK_eq, nmA_f, nmR_f, gn_var, gn_arr, gn_map, gnext_setL, lget_setL, lget_lset, gnext_lset, setL_setL, setL_H, Nat.reduceMul, Nat.reduceAdd, Nat.zero_add, fldA_ptr, fldA_rptr, List.drop_zero, ld1_l, ld1_r, ldA_l, rd1_var, rd1_arr, List.getElem?_cons_zero, List.getElem?_cons_succ, Obt_lss, Obt_leq, Obt_gtr, Obt_geq, Obt_eql, Obt_neq, Obt_not, gdO_tt, gdO_tf, gdO_ff, gdO_ft, gdO_skip, Option.map_some, pickX_t, pickX_f, Obt_pickS, Obt_gdT, Obt_gdF, Bool.not_true, Bool.not_false, lenS, Obt_map, Obt_add, Obt_sub, Obt_mul, Obt_quo, Obt_rem, Obt_and, Obt_or, Obt_xor, Obt_andNot, Obt_shl, Obt_shr, Obt_neg, Obt_cpl, Obt_conv, Obt_ext, Obt_bind, Obt_ite', appX_l, appX_n, appR_arr, appN_some, content_l, conR_arr, content_nil, clen_n, clen_r, idxS_ref, fillX, bslX, escP_list, List.all_append, stX_l, stV_var, stV_arr, splice, List.take_zero, List.take_succ_cons, List.drop_succ_cons, List.drop_nil, List.nil_append, List.cons_append, List.append_nil, List.length_cons, List.length_nil, Nat.reduceLeDiff, and_self, and_true, true_and, Nat.le_refl, Nat.zero_le, rdA_var, rdA_arr, escP, List.all_cons, List.all_nil, Bool.and_self, Bool.true_and, Bool.and_true, r27, tend, tresAll, tresC, Option.bind_some, mapMem, retv_agc, esc_i, esc_b, esc_n, esc_m, esc_s, retv_l, retR_arr, retv_gref, retv_gmap, retv_gptr, Nat.zero_sub, Nat.sub_self, retv_int, retv_bool, retv_nil, retv_imm, retv_inil, retv_pnil, tup_nil, tup_one, tup_two, Prod.mk.injEq, CV.int.injEq, CV.bool.injEq, hgv.len, t0, t1, t5, t6, hL1, Int.natCast_zero]))
        | (revert hK; intro hK; (first | refine And.intro ?_ ?_ | intro _ | omega | (with_reducible refine hK _ ?_; clear hK K))))
        exact ⟨_, by rw [fin _ hav], rfl⟩
      · rw [List.concat_eq_append] at htd
        subst htd
        have hxA := hT x (by simp)
        have hxr := hxA.rch.range
        have hxn : ((x.toNat : Nat) : Int) = x := by omega
        obtain ⟨r, hr⟩ : ∃ r, g[x.toNat]? = some r := ⟨_, List.getElem?_eq_getElem (by omega)⟩
        have hrl := hg.2 r (List.mem_of_getElem? hr)
        simp only [List.length_append, List.length_singleton] at hbd t6 hcs
        have hpos : (0 : Int) < ((todo.length + 1 : Nat) : Int) := by omega
        have hwm : IntKind.i64.wrap (((todo.length + 1 : Nat) : Int) - 1) = todo.length := by rw [wI (by omega) (by omega)]; omega
        have hi1 : idxS 1 (.ref (.l 336) gn 0 (todo.length + 1)) (.int .i64 todo.length) = some (.ptr (.l 336) gn todo.length) := by
          rw [idxS_ref, if_pos ⟨by omega, by omega⟩]; simp
        have hcx : cs[todo.length]? = some (.int .i64 x) := by
          have := congrArg (fun l => l[todo.length]?) hcs
          simp only [List.getElem?_take, Nat.lt_succ_self, if_true, List.flatMap_append] at this
          rw [this, List.getElem?_append_right (by rw [len_int]; exact Nat.le_refl _), len_int, Nat.sub_self]; rfl
        have hcs' : cs.take todo.length = todo.flatMap intC := by
          have := congrArg (List.take todo.length) hcs
          rw [List.take_take, Nat.min_eq_left (by omega), List.flatMap_append, List.take_append_of_le_length (by rw [len_int]; exact Nat.le_refl _), List.take_of_length_le (l := todo.flatMap intC) (by rw [len_int]; exact Nat.le_refl _)] at this
          exact this
        have hld1 : ld1 ⟨L, []⟩ (.ptr (.l 336) gn todo.length) = some (.int .i64 x) := by
          rw [ld1_l]; simp only [hL2, rd1_arr, hcx]
        have hsl := slcX_l (m := ⟨L, []⟩) (n := todo.length + 1) (k := todo.length) hL2 (by omega)
        have hi2 : idxS 1 (.ref (.l 192) gc 0 g.length) (.int .i64 x) = some (.ptr (.l 192) gc x.toNat) := by
          rw [idxS_ref, if_pos ⟨hxr.1, by omega⟩]; simp
        have hld2 : ld1 ⟨L, []⟩ (.ptr (.l 192) gc x.toNat) = some (.bool (decide (x ∈ M))) := by
          rw [ld1_l]; simp only [hL1, rd1_arr, flat_bool, hcM x.toNat (by omega), hxn]; rfl
        by_cases hxM : x ∈ M
        · simp only [hxM, decide_true] at hld2
          repeat' (first
          | with_reducible refine Tx_assoc ?_
          | with_reducible refine Tx_nopK ?_
          | with_reducible refine Tx_yesK rfl ?_
          | with_reducible refine Tx_exitK ?_
          | with_reducible refine Tx_blockE (id := 1) (fun Q1 hn1 hx1 hr1 ho1 => ?_)
          | with_reducible refine hx1 _ ?_
          | ((with_reducible refine Tx_regK (fun K hK => ?_); (first | with_reducible refine t27r5 ?_ | with_reducible refine t27r6 ?_ | with_reducible refine t27r7 ?_ | with_reducible refine t27r8 ?_)); (try simp only [true_implies, false_implies, not_true_eq_false, not_false_eq_true, tget_cons, if_true, if_false, Nat.reduceEqDiff, ccells, Obt_some, Kn_normal, newL_eq, newP_eq, newA_eq, newM_eq, newR_eq, newK_eq, nmA_f, nmR_f, gn_var, gn_arr, gn_map, gnext_setL, lget_setL, lget_lset, gnext_lset, setL_setL, setL_H, Nat.reduceMul, Nat.reduceAdd, Nat.zero_add, fldA_ptr, fldA_rptr, List.drop_zero, ld1_l, ld1_r, ldA_l, rd1_var, rd1_arr, List.getElem?_cons_zero, List.getElem?_cons_succ, Obt_lss, Obt_leq, Obt_gtr, Obt_geq, Obt_eql, Obt_neq, Obt_not, gdO_tt, gdO_tf, gdO_ff, gdO_ft, gdO_skip, Option.map_some, pickX_t, pickX_f, Obt_pickS, Obt_gdT, Obt_gdF, Bool.not_true, Bool.not_false, lenS, Obt_map, Obt_add, Obt_sub, Obt_mul, Obt_quo, Obt_rem, Obt_and, Obt_or, Obt_xor, Obt_andNot, Obt_shl, Obt_shr, Obt_neg, Obt_cpl, Obt_conv, Obt_ext, Obt_bind, Obt_ite', appX_l, appX_n, appR_arr, appN_some, content_l, conR_arr, content_nil, clen_n, clen_r, idxS_ref, fillX, bslX, escP_list, List.all_append, stX_l, stV_var, stV_arr, splice, List.take_zero, List.take_succ_cons, List.drop_succ_cons, List.drop_nil, List.nil_append, List.cons_append, List.append_nil, List.length_cons, List.length_nil, Nat.reduceLeDiff, and_self, and_true, true_and, Nat.le_refl, Nat.zero_le, rdA_var, rdA_arr, escP, List.all_cons, List.all_nil, Bool.and_self, Bool.true_and, Bool.and_true, r27, tend, tresAll, tresC, Option.bind_some, mapMem, retv_agc, esc_i, esc_b, esc_n, esc_m, esc_s, retv_l, retR_arr, retv_gref, retv_gmap, retv_gptr, Nat.zero_sub, Nat.sub_self, retv_int, retv_bool, retv_nil, retv_imm, retv_inil, retv_pnil, tup_nil, tup_one, tup_two, Prod.mk.injEq, CV.int.injEq, CV.bool.injEq, hgv.len, t0, t1, t5, t6, hpos, hwm, hi1, hld1, hsl, hi2, hld2]))
          | (revert hK; intro hK; (with_reducible refine hK _ ?_; clear hK K)))
          refine hnL1 (um g M + todo.length) _ (by simp) ⟨M, todo, c, gn, gc, cs, L, _, rfl, rfl, by omega, hL1, hcl, hcM, hL2, hcs', hM, fun y hy => hT y (by simp [hy]), fun z hz y hy hne => ?_, ?_, rfl, rfl, rfl, rfl⟩
          · rcases hcl2 z hz y hy hne with h | h
            · exact .inl h
            · rcases List.mem_append.1 h with h | h
              · exact .inr h
              · rw [List.mem_singleton] at h; exact .inl (h ▸ hxM)
          · rcases h0 with h | h
            · exact .inl h
            · rcases List.mem_append.1 h with h | h
              · exact .inr h
              · rw [List.mem_singleton] at h; exact .inl (h ▸ hxM)
        · simp only [hxM, decide_false] at hld2
          have hst : stX 1 ⟨L, []⟩ (.ptr (.l 192) gc x.toNat) (.bool true) = some ⟨lset L 192 (.arr gc 1 ((c.set x.toNat true).flatMap boolC) 0), []⟩ := by
            rw [stX_one_l hL1 (by rw [len_bool]; omega) rfl rfl, set_bool]; rfl
          have humx := um_cons hxr.1 hr hxM
          obtain ⟨wv, tl, hw1, hw2⟩ := hgv.idx hxr.1 hr (k := .i64)
          repeat' (first
          | with_reducible refine Tx_assoc ?_
          | with_reducible refine Tx_nopK ?_
          | with_reducible refine Tx_yesK rfl ?_
          | with_reducible refine Tx_noK rfl ?_
          | with_reducible refine Tx_blockE (id := 1) (fun Q1 hn1 hx1 hr1 ho1 => ?_)
          | with_reducible refine Tx_blockE (id := 2) (fun Q2 hn2 hx2 hr2 ho2 => ?_)
          | ((with_reducible refine Tx_regK (fun K hK => ?_); (first | with_reducible refine t27r5 ?_ | with_reducible refine t27r6 ?_ | with_reducible refine t27r7 ?_ | with_reducible refine t27r8 ?_ | with_reducible refine t27r9 ?_ | with_reducible refine t27r10 ?_)); (try simp only [true_implies, false_implies, not_true_eq_false, not_false_eq_true, tget_cons, if_true, if_false, Nat.reduceEqDiff, ccells, Obt_some, Kn_normal, newL_eq, newP_eq, newA_eq, newM_eq, newR_eq, newK_eq, nmA_f, nmR_f, gn_var, gn_arr, gn_map, gnext_setL, lget_setL, lget_lset, gnext_lset, setL_setL, setL_H, Nat.reduceMul, Nat.reduceAdd, Nat.zero_add, fldA_ptr, fldA_rptr, List.drop_zero, ld1_l, ld1_r, ldA_l, rd1_var, rd1_arr, List.getElem?_cons_zero, List.getElem?_cons_succ, Obt_lss, Obt_leq, Obt_gtr, Obt_geq, Obt_eql, Obt_neq, Obt_not, gdO_tt, gdO_tf, gdO_ff, gdO_ft, gdO_skip, Option.map_some, pickX_t, pickX_f, Obt_pickS, Obt_gdT, Obt_gdF, Bool.not_true, Bool.not_false, lenS, Obt_map, Obt_add, Obt_sub, Obt_mul, Obt_quo, Obt_rem, Obt_and, Obt_or, Obt_xor, Obt_andNot, Obt_shl, Obt_shr, Obt_neg, Obt_cpl, Obt_conv, Obt_ext, Obt_bind, Obt_ite', appX_l, appX_n, appR_arr, appN_some, content_l, conR_arr, content_nil, clen_n, clen_r, idxS_ref, fillX, bslX, escP_list, List.all_append, stX_l, stV_var, stV_arr, splice, List.take_zero, List.take_succ_cons, List.drop_succ_cons, List.drop_nil, List.nil_append, List.cons_append, List.append_nil, List.length_cons, List.length_nil, Nat.reduceLeDiff, and_self, and_true, true_and, Nat.le_refl, Nat.zero_le, rdA_var, rdA_arr, escP, List.all_cons, List.all_nil, Bool.and_self, Bool.true_and, Bool.and_true, r27, tend, tresAll, tresC, Option.bind_some, mapMem, retv_agc, esc_i, esc_b, esc_n, esc_m, esc_s, retv_l, retR_arr, retv_gref, retv_gmap, retv_gptr, Nat.zero_sub, Nat.sub_self, retv_int, retv_bool, retv_nil, retv_imm, retv_inil, retv_pnil, tup_nil, tup_one, tup_two, Prod.mk.injEq, CV.int.injEq, CV.bool.injEq, hgv.len, t0, t1, t5, t6, hpos, hwm, hi1, hld1, hsl, hi2, hld2, hst]))
          | (revert hK; intro hK; (with_reducible refine hK _ ?_; clear hK K)))
          refine Tx_loopK (fun k s => ∃ (d t : List Int) (gn' : Nat) (cs' : List CV) (L' : List (Nat × HO)), r = d ++ t ∧ k = t.length ∧
            s = ⟨[(0, gv), (1, .int .i64 w), (5, .ref (.l 192) gc 0 g.length), (6, .ref (.l 336) gn' 0 (todo ++ d.filter (goB g w)).length), (7, .int .i64 x), (8, .int .i64 d.length)], ⟨L', []⟩⟩ ∧
            lget L' 192 = some (.arr gc 1 ((c.set x.toNat true).flatMap boolC) 0) ∧ lget L' 336 = some (.arr gn' 1 cs' 0) ∧ cs'.take (todo ++ d.filter (goB g w)).length = (todo ++ d.filter (goB g w)).flatMap intC) _
            ⟨[], r, gn, cs, lset L 192 (.arr gc 1 ((c.set x.toNat true).flatMap boolC) 0), rfl, rfl, by simp, by simp [lget_lset], by simp [lget_lset, hL2], by simpa using hcs'⟩ ?_
          rintro k s ⟨d, t, gn', cs', L', h2, rfl, rfl, hL1', hL2', hcs2⟩ QL0 hnL0 hxL0 hrL0
          have hlen' := congrArg List.length h2
          simp only [List.length_append] at hlen'
          simp only [c27l0]
          cases t with
          | nil =>
            simp only [List.length_nil] at hlen'
            rw [List.append_nil] at h2
            repeat' (first
            | with_reducible refine Tx_assoc ?_
            | with_reducible refine Tx_noK rfl ?_
            | with_reducible refine Tx_exitK ?_
            | with_reducible refine hn1 _ ?_
            | with_reducible refine hx2 _ ?_
            | with_reducible refine hxL0 _ _ ?_
            | ((with_reducible refine Tx_regK (fun K hK => ?_); with_reducible refine t27r11 ?_); (try simp only [true_implies, false_implies, not_true_eq_false, not_false_eq_true, tget_cons, if_true, if_false, Nat.reduceEqDiff, ccells, Obt_some, Kn_normal, newL_eq, newP_eq, newA_eq, newM_eq, newR_eq, newK_eq, nmA_f, nmR_f, gn_var, gn_arr, gn_map, gnext_setL, lget_setL, lget_lset, gnext_lset, setL_setL, setL_H, Nat.reduceMul, Nat.reduceAdd, Nat.zero_add, fldA_ptr, fldA_rptr, List.drop_zero, ld1_l, ld1_r, ldA_l, rd1_var, rd1_arr, List.getElem?_cons_zero, List.getElem?_cons_succ, Obt_lss, Obt_leq, Obt_gtr, Obt_geq, Obt_eql, Obt_neq, Obt_not, gdO_tt, gdO_tf, gdO_ff, gdO_ft, gdO_skip, Option.map_some, pickX_t, pickX_f, Obt_pickS, Obt_gdT, Obt_gdF, Bool.not_true, Bool.not_false, lenS, Obt_map, Obt_add, Obt_sub, Obt_mul, Obt_quo, Obt_rem, Obt_and, Obt_or, Obt_xor, Obt_andNot, Obt_shl, Obt_shr, Obt_neg, Obt_cpl, Obt_conv, Obt_ext, Obt_bind, Obt_ite', appX_l, appX_n, appR_arr, appN_some, content_l, conR_arr, content_nil, clen_n, clen_r, idxS_ref, fillX, bslX, escP_list, List.all_append, stX_l, stV_var, stV_arr, splice, List.take_zero, List.take_succ_cons, List.drop_succ_cons, List.drop_nil, List.nil_append, List.cons_append, List.append_nil, List.length_cons, List.length_nil, Nat.reduceLeDiff, and_self, and_true, true_and, Nat.le_refl, Nat.zero_le, rdA_var, rdA_arr, escP, List.all_cons, List.all_nil, Bool.and_self, Bool.true_and, Bool.and_true, r27, tend, tresAll, tresC, Option.bind_some, mapMem, retv_agc, esc_i, esc_b, esc_n, esc_m, esc_s, retv_l, retR_arr, retv_gref, retv_gmap, retv_gptr, Nat.zero_sub, Nat.sub_self, retv_int, retv_bool, retv_nil, retv_imm, retv_inil, retv_pnil, tup_nil, tup_one, tup_two, Prod.mk.injEq, CV.int.injEq, CV.bool.injEq, hw1, (hw2 []).len]))
            | (revert hK; intro hK; (first | refine And.intro ?_ ?_ | intro _ | omega | (with_reducible refine hK _ ?_; clear hK K))))
            refine hnL1 (um g (x :: M) + (todo ++ d.filter (goB g w)).length) _ ?_ ⟨x :: M, todo ++ d.filter (goB g w), c.set x.toNat true, gn', gc, cs', L', _, rfl, rfl, ?_, hL1', by rw [List.length_set, hcl], fun j hj => ?_, hL2', hcs2, ?_, ?_, ?_, ?_, rfl, rfl, rfl, rfl⟩
            · have hfl := List.length_filter_le (goB g w) d
              simp only [List.length_append, List.length_singleton]; rw [← h2] at hfl ⊢; omega
            · have hfl := List.length_filter_le (goB g w) d
              simp only [List.length_append]; rw [← h2] at hfl ⊢; omega
            · by_cases hja : x.toNat = j
              · subst hja
                rw [List.getElem?_set_self (by omega), hxn]; simp
              · rw [List.getElem?_set_ne hja, hcM j hj]
                have : ((j : Int) ∈ x :: M) ↔ (j : Int) ∈ M := by
                  simp only [List.mem_cons]
                  exact ⟨fun h => h.elim (fun h => absurd (by omega) hja) id, .inr⟩
                simp only [this]
            · intro y hy
              rcases List.mem_cons.1 hy with rfl | hy
              · exact hxA
              · exact hM y hy
            · intro y hy
              rcases List.mem_append.1 hy with hy | hy
              · exact hT y (by simp [hy])
              · rw [← h2] at hy
                obtain ⟨h5, h6⟩ := (ins_goB hr).2 hy
                exact .step hxA h5 h6
            · intro z hz y hy hne
              rcases List.mem_cons.1 hz with rfl | hz
              · exact .inr (List.mem_append_right _ (by rw [← h2]; exact (ins_goB hr).1 ⟨hy, hne⟩))
              · rcases hcl2 z hz y hy hne with h | h
                · exact .inl (List.mem_cons_of_mem _ h)
                · rcases List.mem_append.1 h with h | h
                  · exact .inr (List.mem_append_left _ h)
                  · rw [List.mem_singleton] at h; exact .inl (h ▸ List.mem_cons_self)
            · rcases h0 with h | h
              · exact .inl (List.mem_cons_of_mem _ h)
              · rcases List.mem_append.1 h with h | h
                · exact .inr (List.mem_append_left _ h)
                · rw [List.mem_singleton] at h; exact .inl (h ▸ List.mem_cons_self)
          | cons a t =>
            simp only [List.length_cons] at hlen'
            have hal : r[d.length]? = some a := by rw [h2]; simp
            obtain ⟨p, hp1, hp2⟩ := (hw2 []).at hal (k := .i64)
            have hw' : IntKind.i64.wrap ((d.length : Int) + 1) = d.length + 1 := wI (by omega) (by omega)
            have hfl := List.length_filter_le (goB g w) d
            by_cases hgo : 0 ≤ a ∧ a < g.length ∧ a ≠ w
            · obtain ⟨g1, g2, g3⟩ := hgo
              have hgt : goB g w a = true := by simp [goB, g1, g2, g3]
              have hfe : todo ++ (d ++ [a]).filter (goB g w) = (todo ++ d.filter (goB g w)) ++ [a] := by
                rw [List.filter_append, List.filter_cons_of_pos hgt, List.filter_nil, List.append_assoc]
              have hsb : smallB 8 ((todo ++ d.filter (goB g w)).length + 1) = true := smallB_big (by omega) (by rw [List.length_append]; omega)
              repeat' (first
              | with_reducible refine Tx_assoc ?_
              | with_reducible refine Tx_nopK ?_
              | with_reducible refine Tx_yesK rfl ?_
              | with_reducible refine Tx_yes rfl ?_
              | with_reducible refine Tx_blockK (id := 3) (fun Q3 hn3 hx3 hr3 ho3 => ?_)
              | with_reducible refine hn3 _ ?_
              | (((first | with_reducible refine Tx_regK (fun K hK => ?_) | with_reducible refine Tx_regE (fun K hK => ?_)); (first | with_reducible refine t27r11 ?_ | with_reducible refine t27r13 ?_ | with_reducible refine t27r14 ?_ | with_reducible refine t27r15 ?_ | with_reducible refine t27r12 ?_)); (try simp only [true_implies, false_implies, not_true_eq_false, not_false_eq_true, tget_cons, if_true, if_false, Nat.reduceEqDiff, ccells, Obt_some, Kn_normal, newL_eq, newP_eq, newA_eq, newM_eq, newR_eq, newK_eq, nmA_f, nmR_f, gn_var, gn_arr, gn_map, gnext_setL, lget_setL, lget_lset, gnext_lset, setL_setL, setL_H, Nat.reduceMul, Nat.reduceAdd, Nat.zero_add, fldA_ptr, fldA_rptr, List.drop_zero, ld1_l, ld1_r, ldA_l, rd1_var, rd1_arr, List.getElem?_cons_zero, List.getElem?_cons_succ, Obt_lss, Obt_leq, Obt_gtr, Obt_geq, Obt_eql, Obt_neq, Obt_not, gdO_tt, gdO_tf, gdO_ff, gdO_ft, gdO_skip, Option.map_some, pickX_t, pickX_f, Obt_pickS, Obt_gdT, Obt_gdF, Bool.not_true, Bool.not_false, lenS, Obt_map, Obt_add, Obt_sub, Obt_mul, Obt_quo, Obt_rem, Obt_and, Obt_or, Obt_xor, Obt_andNot, Obt_shl, Obt_shr, Obt_neg, Obt_cpl, Obt_conv, Obt_ext, Obt_bind, Obt_ite', appX_l, appX_n, appR_arr, appN_some, content_l, conR_arr, content_nil, clen_n, clen_r, idxS_ref, fillX, bslX, escP_list, List.all_append, stX_l, stV_var, stV_arr, splice, List.take_zero, List.take_succ_cons, List.drop_succ_cons, List.drop_nil, List.nil_append, List.cons_append, List.append_nil, List.length_cons, List.length_nil, Nat.reduceLeDiff, and_self, and_true, true_and, Nat.le_refl, Nat.zero_le, rdA_var, rdA_arr, escP, List.all_cons, List.all_nil, Bool.and_self, Bool.true_and, Bool.and_true, r27, tend, tresAll, tresC, Option.bind_some, mapMem, retv_agc, esc_i, esc_b, esc_n, esc_m, esc_s, retv_l, retR_arr, retv_gref, retv_gmap, retv_gptr, Nat.zero_sub, Nat.sub_self, retv_int, retv_bool, retv_nil, retv_imm, retv_inil, retv_pnil, tup_nil, tup_one, tup_two, Prod.mk.injEq, CV.int.injEq, CV.bool.injEq, hw1, (hw2 []).len, hp1, hp2, hgv.len, g1, g2, g3, hL2', appR_arr, hsb, hw']))
              | (revert hK; intro hK; (first | refine And.intro ?_ ?_ | intro _ | omega | (with_reducible refine hK _ ?_; clear hK K))))
              refine hnL0 t.length _ (by simp) ⟨d ++ [a], t, gn' + 1, cs'.take ((todo ++ d.filter (goB g w)).length * 1) ++ [.int .i64 a],
                lset (lset L' 1184 (.arr (gnext L' 1184) 1 [.int .i64 a] 0)) 336 (.arr (gn' + 1) 1 (cs'.take ((todo ++ d.filter (goB g w)).length * 1) ++ [.int .i64 a]) 0), by simp [h2], rfl, ?_, by simp [lget_lset, hL1'], by simp [lget_lset], ?_⟩
              · simp only [hfe, List.length_append, List.length_singleton]; rfl
              · have hn : (cs'.take (todo ++ d.filter (goB g w)).length).length = (todo ++ d.filter (goB g w)).length := by rw [hcs2, len_int]
                rw [hfe, Nat.mul_one, List.take_of_length_le (by rw [List.length_append, hn, List.length_append (bs := [a])]; exact Nat.le_refl _), hcs2]; simp only [List.flatMap_append]; rfl
            · have hgt : ¬ goB g w a = true := by simpa [goB] using hgo
              have hfe : (d ++ [a]).filter (goB g w) = d.filter (goB g w) := by
                rw [List.filter_append, List.filter_cons_of_neg hgt, List.filter_nil, List.append_nil]
              by_cases g1 : 0 ≤ a <;> by_cases g2 : a < g.length <;> by_cases g3 : a = w
              all_goals first
                | (exfalso; exact hgo ⟨g1, g2, g3⟩)
                | skip
              all_goals
                repeat' (first
                | with_reducible refine Tx_assoc ?_
                | with_reducible refine Tx_nopK ?_
                | with_reducible refine Tx_yesK rfl ?_
                | with_reducible refine Tx_no rfl ?_
                | with_reducible refine Tx_nop ?_
                | with_reducible refine Tx_blockK (id := 3) (fun Q3 hn3 hx3 hr3 ho3 => ?_)
                | with_reducible refine hn3 _ ?_
                | (((first | with_reducible refine Tx_regK (fun K hK => ?_) | with_reducible refine Tx_regE (fun K hK => ?_)); (first | with_reducible refine t27r11 ?_ | with_reducible refine t27r13 ?_ | with_reducible refine t27r14 ?_ | with_reducible refine t27r12 ?_)); (try simp only [true_implies, false_implies, not_true_eq_false, not_false_eq_true, tget_cons, if_true, if_false, Nat.reduceEqDiff, ccells, Obt_some, Kn_normal, newL_eq, newP_eq, newA_eq, newM_eq, newR_eq, newK_eq, nmA_f, nmR_f, gn_var, gn_arr, gn_map, gnext_setL, lget_setL, lget_lset, gnext_lset, setL_setL, setL_H, Nat.reduceMul, Nat.reduceAdd, Nat.zero_add, fldA_ptr, fldA_rptr, List.drop_zero, ld1_l, ld1_r, ldA_l, rd1_var, rd1_arr, List.getElem?_cons_zero, List.getElem?_cons_succ, Obt_lss, Obt_leq, Obt_gtr, Obt_geq, Obt_eql, Obt_neq, Obt_not, gdO_tt, gdO_tf, gdO_ff, gdO_ft, gdO_skip, Option.map_some, pickX_t, pickX_f, Obt_pickS, Obt_gdT, Obt_gdF, Bool.not_true, Bool.not_false, lenS, Obt_map, Obt_add, Obt_sub, Obt_mul, Obt_quo, Obt_rem, Obt_and, Obt_or, Obt_xor, Obt_andNot, Obt_shl, Obt_shr, Obt_neg, Obt_cpl, Obt_conv, Obt_ext, Obt_bind, Obt_ite', appX_l, appX_n, appR_arr, appN_some, content_l, conR_arr, content_nil, clen_n, clen_r, idxS_ref, fillX, bslX, escP_list, List.all_append, stX_l, stV_var, stV_arr, splice, List.take_zero, List.take_succ_cons, List.drop_succ_cons, List.drop_nil, List.nil_append, List.cons_append, List.append_nil, List.length_cons, List.length_nil, Nat.reduceLeDiff, and_self, and_true, true_and, Nat.le_refl, Nat.zero_le, rdA_var, rdA_arr, escP, List.all_cons, List.all_nil, Bool.and_self, Bool.true_and, Bool.and_true, r27, tend, tresAll, tresC, Option.bind_some, mapMem, retv_agc, esc_i, esc_b, esc_n, esc_m, esc_s, retv_l, retR_arr, retv_gref, retv_gmap, retv_gptr, Nat.zero_sub, Nat.sub_self, retv_int, retv_bool, retv_nil, retv_imm, retv_inil, retv_pnil, tup_nil, tup_one, tup_two, Prod.mk.injEq, CV.int.injEq, CV.bool.injEq, hw1, (hw2 []).len, hp1, hp2, hgv.len, g1, g2, g3, hw']))
                | (revert hK; intro hK; (first | refine And.intro ?_ ?_ | intro _ | omega | (with_reducible refine hK _ ?_; clear hK K))))
                all_goals refine hnL0 t.length _ (by simp) ⟨d ++ [a], t, gn', cs', L', by simp [h2], rfl, by rw [hfe]; simp, hL1', hL2', by rw [hfe]; exact hcs2⟩
end Go.Cm
