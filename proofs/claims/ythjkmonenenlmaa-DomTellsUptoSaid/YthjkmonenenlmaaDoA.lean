/-
  Graphs: where a node leads; the nodes in their order.
-/
import Derived.Test.YthjkmonenenlmaaCxJ
import Derived.Test.YthjkmonenenlmaaGrA
import Derived.Test.YthjkmonenenlmaaDyA
import Derived.Test.YthjkmonenenlmaaDoY
set_option linter.unusedSimpArgs false
set_option linter.unusedVariables false
namespace Go.Cm
open Go.Proofs Go.Gr
/-- heads, run as it stands -/
def annG : Ann := { glob := fun _ => List.range 300 }
noncomputable def hx : Option (CV × List HO) := ccall Try.prog annG tab0 400 9 [] []
/-- numbers, out of their cells -/
def intsOf : List CV → Option (List Int)
  | [] => some []
  | .int .i64 x :: r => (intsOf r).map (x :: ·)
  | _ => none
theorem intsOf_flat : ∀ l : List Int, intsOf (l.flatMap intC) = some l
  | [] => rfl
  | x :: l => by
    show (intsOf (l.flatMap intC)).map (x :: ·) = _
    rw [intsOf_flat l]; rfl
theorem of_intsOf : ∀ {cs : List CV} {l : List Int}, intsOf cs = some l → cs = l.flatMap intC
  | [], l, h => by
    simp only [intsOf, Option.some.injEq] at h
    subst h; rfl
  | c :: cs, l, h => by
    unfold intsOf at h
    split at h
    · rename_i h0; cases h0
    · rename_i x r h0
      injection h0 with h1 h2
      subst h1 h2
      rw [Option.map_eq_some_iff] at h
      obtain ⟨l', h3, rfl⟩ := h
      rw [of_intsOf h3]; rfl
    · cases h
/-- slices.Sort: a row is sorted where it stands -/
def sortF (args : List CV) (H : List HO) : Option (CV × List HO) :=
  match args with
  | [.nil] => some (.tuple [], H)
  | [.ref (.g n) gn 0 len] =>
    match H[n]? with
    | some (.arr g 1 cs 0) =>
      match intsOf cs with
      | some l => if g = gn ∧ len = l.length ∧ l.length < 4611686018427387904 then some (.tuple [], H.set n (.arr gn 1 ((l.mergeSort fun x y => decide (x ≤ y)).flatMap intC) 0)) else none
      | none => none
    | _ => none
  | _ => none
theorem sortF_row {H : List HO} {n gn : Nat} {l : List Int} (hH : H[n]? = some (.arr gn 1 (l.flatMap intC) 0)) (hl : l.length < 4611686018427387904) :
    sortF [.ref (.g n) gn 0 l.length] H = some (.tuple [], H.set n (.arr gn 1 ((l.mergeSort fun x y => decide (x ≤ y)).flatMap intC) 0)) := by
  simp only [sortF, hH, intsOf_flat, hl, and_self, if_true]
noncomputable def EE : Oracle := tab 9 (fun a H => match a, H with | [], [] => hx | _, _ => none) (tab 23 sortF tab0)
theorem sortF_sim : Sim Try.prog (tab 23 sortF tab0) := by
  refine sim_tab ?_ (sim_tab0 _)
  intro args H r H' h
  unfold sortF at h
  split at h
  · simp only [Option.some.injEq, Prod.mk.injEq] at h
    obtain ⟨rfl, rfl⟩ := h
    exact sort_nil
  · split at h
    · rename_i hH
      split at h
      · rename_i hi
        split at h
        · rename_i hc
          obtain ⟨rfl, rfl, hl⟩ := hc
          simp only [Option.some.injEq, Prod.mk.injEq] at h
          obtain ⟨rfl, rfl⟩ := h
          rw [of_intsOf hi] at hH
          exact sort_sim hH hl
        · cases h
      · cases h
    · cases h
  · cases h
theorem EE_sim : Sim Try.prog EE := by
  refine sim_tab ?_ sortF_sim
  intro args H r H' h
  split at h
  · exact ccall_sim (sim_tab0 _) plainN mixed 400 _ _ _ _ _ h
  · cases h
noncomputable abbrev FF : Oracle := Fw Try.prog An EE
/-- a graph of a size that may be -/
def Sm (g : List (List Int)) : Prop := g.length ≤ 1048576 ∧ ∀ r ∈ g, r.length ≤ 17592186044416
theorem x29 (g : List (List Int)) (hg : Sm g) (gv : CV) (hgv : IsRows gv g) (x : Int) (h0 : 0 ≤ x) (h1 : x < g.length) : FF 29 [gv, .int .i64 x] [] = some (ownC intC 1 (ins g x), []) := by
  obtain ⟨r, hr⟩ : ∃ r, g[x.toNat]? = some r := ⟨_, List.getElem?_eq_getElem (by omega)⟩
  have hrl := hg.2 r (List.mem_of_getElem? hr)
  have hins : ins g x = r.filter fun (y : Int) => decide (0 ≤ y ∧ y < g.length) := by
    simp only [ins, List.getD_eq_getElem?_getD, hr, Option.getD_some]
  obtain ⟨w, tl, hw1, hw2⟩ := hgv.idx h0 hr (k := .i64)
  refine Fw_funK rfl Try.func29 s29 (Nat.le_of_ble_eq_true rfl) (fun Q hqr hqn => ?_)
  simp only [tinit, Nat.reduceAdd, c29]
  repeat' (first
  | with_reducible refine Tx_assoc ?_
  | with_reducible refine Tx_blockK (id := 0) (fun Q0 hn0 hx0 hr0 ho0 => ?_)
  | ((with_reducible refine Tx_regK (fun K hK => ?_); (first | with_reducible refine t29r0 ?_ | with_reducible refine t29r1 ?_ | with_reducible refine t29r2 ?_)); (try simp only [true_implies, false_implies, not_true_eq_false, not_false_eq_true, tget_cons, if_true, if_false, Nat.reduceEqDiff, ccells, Obt_some, Kn_normal, newL_eq, newP_eq, newA_eq, newM_eq, newR_eq, newK_eq, nmA_f, nmR_f, gn_var, gn_arr, gn_map, gnext_setL, lget_setL, lget_lset, gnext_lset, setL_setL, setL_H, Nat.reduceMul, Nat.reduceAdd, Nat.zero_add, fldA_ptr, fldA_rptr, List.drop_zero, ld1_l, ld1_r, ldA_l, rd1_var, rd1_arr, List.getElem?_cons_zero, List.getElem?_cons_succ, Obt_lss, Obt_leq, Obt_gtr, Obt_geq, Obt_eql, Obt_neq, Obt_not, gdO_tt, gdO_tf, gdO_ff, gdO_ft, gdO_skip, Option.map_some, pickX_t, pickX_f, Obt_pickS, Obt_gdT, Obt_gdF, Bool.not_true, Bool.not_false, lenS, Obt_map, Obt_add, Obt_sub, Obt_mul, Obt_quo, Obt_rem, Obt_and, Obt_or, Obt_xor, Obt_andNot, Obt_shl, Obt_shr, Obt_neg, Obt_cpl, Obt_conv, Obt_ext, Obt_bind, Obt_ite', appX_l, appX_n, appR_arr, appN_some, content_l, conR_arr, content_nil, clen_n, clen_r, idxS_ref, fillX, bslX, escP_list, List.all_append, stX_l, stV_var, stV_arr, splice, List.take_zero, List.take_succ_cons, List.drop_succ_cons, List.drop_nil, List.nil_append, List.cons_append, List.append_nil, List.length_cons, List.length_nil, Nat.reduceLeDiff, and_self, and_true, true_and, Nat.le_refl, Nat.zero_le, rdA_var, rdA_arr, escP, List.all_cons, List.all_nil, Bool.and_self, Bool.true_and, Bool.and_true, r29, tend, tresAll, tresC, Option.bind_some, mapMem, retv_agc, esc_i, esc_b, esc_n, esc_m, esc_s, retv_l, retR_arr, retv_gref, retv_gmap, retv_gptr, Nat.zero_sub, Nat.sub_self, retv_int, retv_bool, retv_nil, retv_imm, retv_inil, retv_pnil, tup_nil, tup_one, tup_two, Prod.mk.injEq, CV.int.injEq, CV.bool.injEq, hw1, (hw2 []).len]))
  | (revert hK; intro hK; (with_reducible refine hK _ ?_; clear hK K)))
  refine Tx_loopK (fun n s => ∃ d t v m, r = d ++ t ∧ n = t.length ∧ s = ⟨[(0, gv), (5, v), (11, w), (12, .int .i64 r.length), (13, .int .i64 d.length)], m⟩ ∧ m.H = [] ∧ OwnE intC 1 m 448 v (d.filter fun (y : Int) => decide (0 ≤ y ∧ y < g.length))) _ ⟨[], r, .nil, _, rfl, rfl, rfl, rfl, .nil⟩ ?_
  rintro n s ⟨d, t, v, m, h2, rfl, rfl, hH, hO⟩ QL0 hnL0 hxL0 hrL0
  have hlen := congrArg List.length h2
  simp only [List.length_append] at hlen
  cases t with
  | nil =>
    simp only [List.length_nil] at hlen
    simp only [c29l0]
    repeat' (first
    | with_reducible refine Tx_noK rfl ?_
    | with_reducible refine Tx_exitK ?_
    | with_reducible refine Tx_ret ?_
    | with_reducible refine hx0 _ ?_
    | with_reducible refine hxL0 _ _ ?_
    | ((first | (with_reducible refine Tx_regK (fun K hK => ?_); (first | with_reducible refine t29r3 ?_ | with_reducible refine t29r8 ?_)) | with_reducible refine hqr _ ?_); (try simp only [true_implies, false_implies, not_true_eq_false, not_false_eq_true, tget_cons, if_true, if_false, Nat.reduceEqDiff, ccells, Obt_some, Kn_normal, newL_eq, newP_eq, newA_eq, newM_eq, newR_eq, newK_eq, nmA_f, nmR_f, gn_var, gn_arr, gn_map, gnext_setL, lget_setL, lget_lset, gnext_lset, setL_setL, setL_H, Nat.reduceMul, Nat.reduceAdd, Nat.zero_add, fldA_ptr, fldA_rptr, List.drop_zero, ld1_l, ld1_r, ldA_l, rd1_var, rd1_arr, List.getElem?_cons_zero, List.getElem?_cons_succ, Obt_lss, Obt_leq, Obt_gtr, Obt_geq, Obt_eql, Obt_neq, Obt_not, gdO_tt, gdO_tf, gdO_ff, gdO_ft, gdO_skip, Option.map_some, pickX_t, pickX_f, Obt_pickS, Obt_gdT, Obt_gdF, Bool.not_true, Bool.not_false, lenS, Obt_map, Obt_add, Obt_sub, Obt_mul, Obt_quo, Obt_rem, Obt_and, Obt_or, Obt_xor, Obt_andNot, Obt_shl, Obt_shr, Obt_neg, Obt_cpl, Obt_conv, Obt_ext, Obt_bind, Obt_ite', appX_l, appX_n, appR_arr, appN_some, content_l, conR_arr, content_nil, clen_n, clen_r, idxS_ref, fillX, bslX, escP_list, List.all_append, stX_l, stV_var, stV_arr, splice, List.take_zero, List.take_succ_cons, List.drop_succ_cons, List.drop_nil, List.nil_append, List.cons_append, List.append_nil, List.length_cons, List.length_nil, Nat.reduceLeDiff, and_self, and_true, true_and, Nat.le_refl, Nat.zero_le, rdA_var, rdA_arr, escP, List.all_cons, List.all_nil, Bool.and_self, Bool.true_and, Bool.and_true, r29, tend, tresAll, tresC, Option.bind_some, mapMem, retv_agc, esc_i, esc_b, esc_n, esc_m, esc_s, retv_l, retR_arr, retv_gref, retv_gmap, retv_gptr, Nat.zero_sub, Nat.sub_self, retv_int, retv_bool, retv_nil, retv_imm, retv_inil, retv_pnil, tup_nil, tup_one, tup_two, Prod.mk.injEq, CV.int.injEq, CV.bool.injEq]))
    | (revert hK; intro hK; (first | refine And.intro ?_ ?_ | intro _ | omega | (with_reducible refine hK _ ?_; clear hK K))))
    rw [List.append_nil] at h2
    subst h2
    refine hO.ret intC_len fun m' hm' => ?_
    simp only [tup_one, Option.map_some, Obt_some, hins, hm', hH, and_self]
  | cons a t =>
    simp only [List.length_cons] at hlen
    simp only [c29l0]
    have hw : IntKind.i64.wrap ((d.length : Int) + 1) = d.length + 1 := wI (by omega) (by omega)
    have hrd : r[d.length]? = some a := by rw [h2]; simp
    obtain ⟨ML, MH⟩ := m
    simp only at hH
    subst hH
    obtain ⟨p, hp1, hp2⟩ := (hw2 []).at hrd (k := .i64)
    repeat' (first
    | with_reducible refine Tx_nopK ?_
    | with_reducible refine Tx_yesK rfl ?_
    | with_reducible refine Tx_yes rfl ?_
    | with_reducible refine Tx_no rfl ?_
    | with_reducible refine Tx_nop ?_
    | with_reducible refine Tx_blockK (id := 1) (fun Q1 hn1 hx1 hr1 ho1 => ?_)
    | with_reducible refine hn1 _ ?_
    | (((first | with_reducible refine Tx_regK (fun K hK => ?_) | with_reducible refine Tx_regE (fun K hK => ?_)); (first | with_reducible refine t29r3 ?_ | with_reducible refine t29r4 ?_ | with_reducible refine t29r5 ?_ | with_reducible refine t29r6 ?_ | with_reducible refine t29r7 ?_)); (try simp only [true_implies, false_implies, not_true_eq_false, not_false_eq_true, tget_cons, if_true, if_false, Nat.reduceEqDiff, ccells, Obt_some, Kn_normal, newL_eq, newP_eq, newA_eq, newM_eq, newR_eq, newK_eq, nmA_f, nmR_f, gn_var, gn_arr, gn_map, gnext_setL, lget_setL, lget_lset, gnext_lset, setL_setL, setL_H, Nat.reduceMul, Nat.reduceAdd, Nat.zero_add, fldA_ptr, fldA_rptr, List.drop_zero, ld1_l, ld1_r, ldA_l, rd1_var, rd1_arr, List.getElem?_cons_zero, List.getElem?_cons_succ, Obt_lss, Obt_leq, Obt_gtr, Obt_geq, Obt_eql, Obt_neq, Obt_not, gdO_tt, gdO_tf, gdO_ff, gdO_ft, gdO_skip, Option.map_some, pickX_t, pickX_f, Obt_pickS, Obt_gdT, Obt_gdF, Bool.not_true, Bool.not_false, lenS, Obt_map, Obt_add, Obt_sub, Obt_mul, Obt_quo, Obt_rem, Obt_and, Obt_or, Obt_xor, Obt_andNot, Obt_shl, Obt_shr, Obt_neg, Obt_cpl, Obt_conv, Obt_ext, Obt_bind, Obt_ite', appX_l, appX_n, appR_arr, appN_some, content_l, conR_arr, content_nil, clen_n, clen_r, idxS_ref, fillX, bslX, escP_list, List.all_append, stX_l, stV_var, stV_arr, splice, List.take_zero, List.take_succ_cons, List.drop_succ_cons, List.drop_nil, List.nil_append, List.cons_append, List.append_nil, List.length_cons, List.length_nil, Nat.reduceLeDiff, and_self, and_true, true_and, Nat.le_refl, Nat.zero_le, rdA_var, rdA_arr, escP, List.all_cons, List.all_nil, Bool.and_self, Bool.true_and, Bool.and_true, r29, tend, tresAll, tresC, Option.bind_some, mapMem, retv_agc, esc_i, esc_b, esc_n, esc_m, esc_s, retv_l, retR_arr, retv_gref, retv_gmap, retv_gptr, Nat.zero_sub, Nat.sub_self, retv_int, retv_bool, retv_nil, retv_imm, retv_inil, retv_pnil, tup_nil, tup_one, tup_two, Prod.mk.injEq, CV.int.injEq, CV.bool.injEq, hp1, hp2, hw, hgv.len]))
    | (revert hK; intro hK; (first | refine And.intro ?_ ?_ | intro _ | omega | (with_reducible refine hK _ ?_; clear hK K))))
    · have hfl := List.length_filter_le (fun (y : Int) => decide (0 ≤ y ∧ y < g.length)) d
      refine (hO.keepS (i := 432) (by decide)).app8 (ys := [a]) intC_len (by simp only [content_l, lget_setL, if_true, conR_arr]; rfl) rfl (by decide) (by simp only [List.length_cons, List.length_nil]; omega) fun v' m' hO' hH' hf => ?_
      refine hK _ ?_
      clear hK K
      repeat' (first
      | with_reducible refine hn1 _ ?_
      | ((with_reducible refine Tx_regE (fun K hK => ?_); with_reducible refine t29r7 ?_); (try simp only [true_implies, false_implies, not_true_eq_false, not_false_eq_true, tget_cons, if_true, if_false, Nat.reduceEqDiff, ccells, Obt_some, Kn_normal, newL_eq, newP_eq, newA_eq, newM_eq, newR_eq, newK_eq, nmA_f, nmR_f, gn_var, gn_arr, gn_map, gnext_setL, lget_setL, lget_lset, gnext_lset, setL_setL, setL_H, Nat.reduceMul, Nat.reduceAdd, Nat.zero_add, fldA_ptr, fldA_rptr, List.drop_zero, ld1_l, ld1_r, ldA_l, rd1_var, rd1_arr, List.getElem?_cons_zero, List.getElem?_cons_succ, Obt_lss, Obt_leq, Obt_gtr, Obt_geq, Obt_eql, Obt_neq, Obt_not, gdO_tt, gdO_tf, gdO_ff, gdO_ft, gdO_skip, Option.map_some, pickX_t, pickX_f, Obt_pickS, Obt_gdT, Obt_gdF, Bool.not_true, Bool.not_false, lenS, Obt_map, Obt_add, Obt_sub, Obt_mul, Obt_quo, Obt_rem, Obt_and, Obt_or, Obt_xor, Obt_andNot, Obt_shl, Obt_shr, Obt_neg, Obt_cpl, Obt_conv, Obt_ext, Obt_bind, Obt_ite', appX_l, appX_n, appR_arr, appN_some, content_l, conR_arr, content_nil, clen_n, clen_r, idxS_ref, fillX, bslX, escP_list, List.all_append, stX_l, stV_var, stV_arr, splice, List.take_zero, List.take_succ_cons, List.drop_succ_cons, List.drop_nil, List.nil_append, List.cons_append, List.append_nil, List.length_cons, List.length_nil, Nat.reduceLeDiff, and_self, and_true, true_and, Nat.le_refl, Nat.zero_le, rdA_var, rdA_arr, escP, List.all_cons, List.all_nil, Bool.and_self, Bool.true_and, Bool.and_true, r29, tend, tresAll, tresC, Option.bind_some, mapMem, retv_agc, esc_i, esc_b, esc_n, esc_m, esc_s, retv_l, retR_arr, retv_gref, retv_gmap, retv_gptr, Nat.zero_sub, Nat.sub_self, retv_int, retv_bool, retv_nil, retv_imm, retv_inil, retv_pnil, tup_nil, tup_one, tup_two, Prod.mk.injEq, CV.int.injEq, CV.bool.injEq, hw]))
      | (revert hK; intro hK; (with_reducible refine hK _ ?_; clear hK K)))
      refine hnL0 t.length _ (by simp) ⟨d ++ [a], t, v', m', by simp [h2], rfl, by simp, by rw [hH', setL_H], ?_⟩
      rw [List.filter_append, List.filter_cons_of_pos (by simp; omega)]
      exact hO'
    all_goals
      refine hnL0 t.length _ (by simp) ⟨d ++ [a], t, v, ⟨ML, []⟩, by simp [h2], rfl, by simp, rfl, ?_⟩
      rw [List.filter_append, List.filter_cons_of_neg (by simp; omega), List.filter_nil, List.append_nil]
      exact hO
/-- a call of it -/
theorem k29 (g : List (List Int)) (hg : Sm g) (gv : CV) (hgv : IsRows gv g) (x : Int) (h0 : 0 ≤ x) (h1 : x < g.length) {fid : FuncId} {d : Tmp} {m : Mem} {K : CV × Mem → Prop} (hgl : (An.glob fid).contains d = false)
    (hK : ∀ v m', OwnE intC 1 m' (16 * d) v (ins g x) → m'.H = m.H → (∀ i, i ≠ 16 * d → lget m'.L i = lget m.L i) → K (v, m')) : Obt (callC An FF fid (some d) 29 [gv, .int .i64 x] m) K := by
  rw [callC_P (x29 g hg gv hgv x h0 h1) rfl (by simp only [List.all_cons, List.all_nil, escP_escQ hgv.esc, escQ_int, Bool.and_self]) (by simp only [noGs, hgv.noG, noG_int, Bool.and_self]) (noG_ownC intC_N _), Obt_some]
  obtain ⟨v, m', h1, h2, h3, h4⟩ := adopt_ownC (e := intC) (sz := 1) (m := m) (l := ins g x) (d := d) hgl
  rw [h1]
  exact hK v m' h2 h3 h4
end Go.Cm
