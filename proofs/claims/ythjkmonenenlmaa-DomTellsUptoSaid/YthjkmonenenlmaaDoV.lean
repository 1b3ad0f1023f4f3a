/-
  Graphs: the document's walk that tells the order.
-/
import Derived.Test.YthjkmonenenlmaaDoB
import Derived.Test.YthjkmonenenlmaaDyC
set_option linter.unusedSimpArgs false
set_option linter.unusedVariables false
namespace Go.Cm
open Go.Proofs Go.Gr
def seenL (g : List (List Int)) (met : List Int) : List Bool := (List.range g.length).map fun (i : Nat) => decide ((i : Int) ∈ met)
theorem seenL_len {g : List (List Int)} {met : List Int} : (seenL g met).length = g.length := by simp [seenL]
theorem seenL_get {g : List (List Int)} {met : List Int} {x : Int} (h0 : 0 ≤ x) (h1 : x < g.length) : (seenL g met)[x.toNat]? = some (decide (x ∈ met)) := by
  have : ((x.toNat : Nat) : Int) = x := by omega
  rw [seenL, List.getElem?_map, List.getElem?_range (by omega)]
  simp [this]
theorem seenL_set {g : List (List Int)} {met : List Int} {x : Int} (h0 : 0 ≤ x) (h1 : x < g.length) : (seenL g met).set x.toNat true = seenL g (met ++ [x]) := by
  refine List.ext_getElem? fun j => ?_
  by_cases hj : x.toNat = j
  · subst hj
    rw [List.getElem?_set_self (by rw [seenL_len]; omega), seenL_get h0 h1]; simp
  · rw [List.getElem?_set_ne hj]
    by_cases hl : j < g.length
    · have : ((j : Int) ∈ met ++ [x]) ↔ (j : Int) ∈ met := by
        simp only [List.mem_append, List.mem_singleton]
        exact ⟨fun h => h.elim id fun h => absurd (by omega) hj, .inl⟩
      rw [seenL, seenL, List.getElem?_map, List.getElem?_map, List.getElem?_range hl]
      simp only [Option.map_some, this]
    · rw [List.getElem?_eq_none (by rw [seenL_len]; omega), List.getElem?_eq_none (by rw [seenL_len]; omega)]
def leftW (left : List Int) : CV := if left = [] then .nil else .ref (.g 2) left.length 0 left.length
/-- what the walk keeps -/
def wE (gv : CV) (g : List (List Int)) (met left : List Int) : List HO := .arr 1 1 ((seenL g met).flatMap boolC) 0 :: .var 1 [gv, .ref (.g 0) 1 0 g.length, leftW left] 0 :: leftH left
theorem leftW_step (gv : CV) (hgq : escP gv = true) (g : List (List Int)) {met left : List Int} {x : Int} {gt : Nat} {m : Mem} (hm : m.H = wE gv g met left) (ht : lget m.L 976 = some (.arr gt 1 [.int .i64 x] 0)) (hl : left.length + 1 ≤ 4294967296) :
    ∃ v H2, appX true 992 1 8 (leftW left) (.ref (.l 976) gt 0 1) m = some (v, ⟨m.L, H2⟩) ∧ stX 1 ⟨m.L, H2⟩ (.ptr (.g 1) 1 2) v = some ⟨m.L, wE gv g met (left ++ [x])⟩ := by
  have hc : content m 1 (.ref (.l 976) gt 0 1) = some [.int .i64 x] := by rw [content_l, ht, conR_arr]; rfl
  obtain ⟨ML, MH⟩ := m
  simp only at hm
  subst hm
  by_cases h0 : left = []
  · subst h0
    refine ⟨.ref (.g 2) 1 0 1, wE gv g met [] ++ [.arr 1 1 [.int .i64 x] 0], ?_, ?_⟩
    · simp only [leftW, if_true, appX_n, hc, clen_r]
      rw [appN_some (by decide), if_pos (smallB_ok (by decide) (by decide))]
      have hlen : (wE gv g met []).length = 2 := by simp [wE, leftH]
      simp only [nmR_t, nmA_t, hlen]
    · have e3 : (wE gv g met [] ++ [.arr 1 1 [.int .i64 x] 0])[1]? = some (.var 1 [gv, .ref (.g 0) 1 0 g.length, .nil] 0) := rfl
      simp only [stX_g, e3, ccells, stW_var, List.length_cons, List.length_nil]
      rw [if_pos (by decide), escP_list rfl]
      simp only [Option.map_some, setG]
      rfl
  · have hv : leftW left = .ref (.g 2) left.length 0 left.length := by simp only [leftW, h0, if_false]
    have e5 : (wE gv g met left)[2]? = some (.arr left.length 1 (left.flatMap intC) 0) := by
      simp only [wE, leftH, h0, if_false, List.getElem?_cons_succ, List.getElem?_cons_zero]
    have htk : (left.flatMap intC).take (left.length * 1) = left.flatMap intC := List.take_of_length_le (by rw [flat_len intC_len]; exact Nat.le_refl _)
    refine ⟨.ref (.g 2) (left.length + 1) 0 (left.length + 1), (wE gv g met left).set 2 (.arr (left.length + 1) 1 (left.flatMap intC ++ [.int .i64 x]) 0), ?_, ?_⟩
    · simp only [hv, appX_g, hc, clen_r, e5]
      rw [if_pos ⟨trivial, trivial, by omega, smallB_ok (by decide) hl⟩]
      simp only [setG, List.drop_zero, htk, Nat.zero_sub]
    · have e3 : ∀ o, ((wE gv g met left).set 2 o)[1]? = some (.var 1 [gv, .ref (.g 0) 1 0 g.length, leftW left] 0) := fun _ => rfl
      simp only [stX_g, e3, ccells, stW_var, List.length_cons, List.length_nil]
      rw [if_pos (by decide), escP_list rfl]
      simp only [Option.map_some, setG, splice]
      simp [wE, leftW, leftH, h0, intC]
/-- a node that may be none -/
def visI (g : List (List Int)) (k : Nat) (s : List Int × List Int) (y : Int) : List Int × List Int := if 0 ≤ y ∧ y < g.length then visit g k y s else s
theorem visI_fold {g : List (List Int)} {k : Nat} {r : List Int} : ∀ s, r.foldl (visI g k) s = (r.filter fun (y : Int) => decide (0 ≤ y ∧ y < g.length)).foldl (fun s y => visit g k y s) s := by
  induction r with
  | nil => intro s; rfl
  | cons a r ih =>
    intro s
    rw [List.foldl_cons, ih]
    by_cases h : 0 ≤ a ∧ a < g.length
    · rw [List.filter_cons_of_pos (by simpa using h), List.foldl_cons, visI, if_pos h]
    · rw [List.filter_cons_of_neg (by simpa using h), visI, if_neg h]
theorem x31 (g : List (List Int)) (hg : Sm g) (gv : CV) (hgv : IsRows gv g) : ∀ (k : Nat) (x : Int) (met left : List Int), unmet g met < k → (visI g k (met, left) x).2.length ≤ 1048576 →
    FF 31 [.ptr (.g 1) 1 0, .int .i64 x] (wE gv g met left) = some (.tuple [], wE gv g (visI g k (met, left) x).1 (visI g k (met, left) x).2)
  | 0, _, _, _, h, _ => by omega
  | k + 1, x, met, left, hk, hfin => by
    have q1 : ∀ m l, (wE gv g m l)[1]? = some (.var 1 [gv, .ref (.g 0) 1 0 g.length, leftW l] 0) := fun _ _ => rfl
    have q0 : ∀ m l, (wE gv g m l)[0]? = some (.arr 1 1 ((seenL g m).flatMap boolC) 0) := fun _ _ => rfl
    have hnl : nilX (.ptr (.g 1) 1 0) = some (.ptr (.g 1) 1 0) := rfl
    have hf0 : fldA 0 (.ptr (.g 1) 1 0) = some (.ptr (.g 1) 1 0) := rfl
    have hf1 : fldA 1 (.ptr (.g 1) 1 0) = some (.ptr (.g 1) 1 1) := rfl
    have hf2 : fldA 2 (.ptr (.g 1) 1 0) = some (.ptr (.g 1) 1 2) := rfl
    have hd0 : ∀ L m l, ld1 ⟨L, wE gv g m l⟩ (.ptr (.g 1) 1 0) = some gv := fun _ _ _ => rfl
    have hd1 : ∀ L m l, ld1 ⟨L, wE gv g m l⟩ (.ptr (.g 1) 1 1) = some (.ref (.g 0) 1 0 g.length) := fun _ _ _ => rfl
    have hd2 : ∀ L m l, ld1 ⟨L, wE gv g m l⟩ (.ptr (.g 1) 1 2) = some (leftW l) := fun _ _ _ => rfl
    by_cases hr : 0 ≤ x ∧ x < g.length
    · simp only [visI, hr, and_self, if_true] at hfin ⊢
      obtain ⟨h0, h1⟩ := hr
      have n1 : ¬ x < 0 := by omega
      have n2 : ¬ (g.length : Int) ≤ x := by omega
      have hi : idxS 1 (.ref (.g 0) 1 0 g.length) (.int .i64 x) = some (.ptr (.g 0) 1 x.toNat) := by
        rw [idxS_ref, if_pos ⟨h0, by omega⟩]; simp
      have hls : ∀ L m l, ld1 ⟨L, wE gv g m l⟩ (.ptr (.g 0) 1 x.toNat) = some (.bool (decide (x ∈ m))) := fun L m l => by
        rw [ld1_g]; simp only [q0, rd1_arr, flat_bool, seenL_get h0 h1]; rfl
      by_cases hx : x ∈ met
      · simp only [visit, hx, if_true] at hfin ⊢
        have hls' : ∀ L, ld1 ⟨L, wE gv g met left⟩ (.ptr (.g 0) 1 x.toNat) = some (.bool true) := fun L => by rw [hls, decide_eq_true hx]
        refine Fw_funK rfl Try.func31 s31 (Nat.le_of_ble_eq_true rfl) (fun Q hqr hqn => ?_)
        simp only [tinit, Nat.reduceAdd, c31]
        repeat' (first
        | with_reducible refine Tx_assoc ?_
        | with_reducible refine Tx_yesK rfl ?_
        | with_reducible refine Tx_retK ?_
        | ((first | (with_reducible refine Tx_regK (fun K hK => ?_); with_reducible refine t31r0 ?_) | with_reducible refine hqr _ ?_); (try simp only [true_implies, false_implies, not_true_eq_false, not_false_eq_true, tget_cons, if_true, if_false, Nat.reduceEqDiff, ccells, Obt_some, Kn_normal, newL_eq, newP_eq, newA_eq, newM_eq, newR_eq, newK_eq, nmA_f, nmR_f, gn_var, gn_arr, gn_map, gnext_setL, lget_setL, lget_lset, gnext_lset, setL_setL, setL_H, Nat.reduceMul, Nat.reduceAdd, Nat.zero_add, fldA_ptr, fldA_rptr, List.drop_zero, ld1_l, ld1_r, ldA_l, rd1_var, rd1_arr, List.getElem?_cons_zero, List.getElem?_cons_succ, Obt_lss, Obt_leq, Obt_gtr, Obt_geq, Obt_eql, Obt_neq, Obt_not, gdO_tt, gdO_tf, gdO_ff, gdO_ft, gdO_skip, Option.map_some, pickX_t, pickX_f, Obt_pickS, Obt_gdT, Obt_gdF, Bool.not_true, Bool.not_false, lenS, Obt_map, Obt_add, Obt_sub, Obt_mul, Obt_quo, Obt_rem, Obt_and, Obt_or, Obt_xor, Obt_andNot, Obt_shl, Obt_shr, Obt_neg, Obt_cpl, Obt_conv, Obt_ext, Obt_bind, Obt_ite', appX_l, appX_n, appR_arr, appN_some, content_l, conR_arr, content_nil, clen_n, clen_r, idxS_ref, fillX, bslX, escP_list, List.all_append, stX_l, stV_var, stV_arr, splice, List.take_zero, List.take_succ_cons, List.drop_succ_cons, List.drop_nil, List.nil_append, List.cons_append, List.append_nil, List.length_cons, List.length_nil, Nat.reduceLeDiff, and_self, and_true, true_and, Nat.le_refl, Nat.zero_le, rdA_var, rdA_arr, escP, List.all_cons, List.all_nil, Bool.and_self, Bool.true_and, Bool.and_true, r31, tend, tresAll, tresC, Option.bind_some, mapMem, retv_agc, esc_i, esc_b, esc_n, esc_m, esc_s, retv_l, retR_arr, retv_gref, retv_gmap, retv_gptr, Nat.zero_sub, Nat.sub_self, retv_int, retv_bool, retv_nil, retv_imm, retv_inil, retv_pnil, tup_nil, tup_one, tup_two, Prod.mk.injEq, CV.int.injEq, CV.bool.injEq, hnl, hf0, hf1, hf2, hd0, hd1, hd2, n1, n2, hgv.len, hi, hls']))
        | (revert hK; intro hK; (with_reducible refine hK _ ?_; clear hK K)))
      · have hvis : visit g (k + 1) x (met, left) = (((ins g x).foldl (fun s y => visit g k y s) (met ++ [x], left)).1, ((ins g x).foldl (fun s y => visit g k y s) (met ++ [x], left)).2 ++ [x]) := by simp only [visit, hx, if_false]
        rw [hvis] at hfin ⊢
        simp only [List.length_append, List.length_cons, List.length_nil] at hfin
        obtain ⟨r, hr⟩ : ∃ r, g[x.toNat]? = some r := ⟨_, List.getElem?_eq_getElem (by omega)⟩
        have hrl := hg.2 r (List.mem_of_getElem? hr)
        have hins : ins g x = r.filter fun (y : Int) => decide (0 ≤ y ∧ y < g.length) := by
          simp only [ins, List.getD_eq_getElem?_getD, hr, Option.getD_some]
        have hfold : ∀ s, r.foldl (visI g k) s = (ins g x).foldl (fun s y => visit g k y s) s := fun s => by rw [visI_fold, hins]
        have hls' : ∀ L, ld1 ⟨L, wE gv g met left⟩ (.ptr (.g 0) 1 x.toNat) = some (.bool false) := fun L => by rw [hls, decide_eq_false hx]
        have hst : ∀ L, stX 1 ⟨L, wE gv g met left⟩ (.ptr (.g 0) 1 x.toNat) (.bool true) = some ⟨L, wE gv g (met ++ [x]) left⟩ := fun L => by
          rw [stX_one (q0 met left) (by rw [len_bool, seenL_len]; omega) rfl rfl, set_bool, seenL_set h0 h1]; rfl
        obtain ⟨wv, tl, hw1, hw2⟩ := hgv.idx h0 hr (k := .i64)
        have hun := unmet_lt h0 h1 hx
        have hfd : ∀ d t, r = d ++ t → unmet g (d.foldl (visI g k) (met ++ [x], left)).1 < k ∧ (d.foldl (visI g k) (met ++ [x], left)).2.length ≤ (r.foldl (visI g k) (met ++ [x], left)).2.length := by
          intro d t hdt
          have hrange : ∀ (l : List Int), ∀ y ∈ l.filter fun (y : Int) => decide (0 ≤ y ∧ y < g.length), 0 ≤ y ∧ y < g.length := fun l y hy => by simpa using (List.mem_filter.1 hy).2
          obtain ⟨M, N, hv⟩ := fold_ok g k (d.filter fun (y : Int) => decide (0 ≤ y ∧ y < g.length)) (met ++ [x], left) (hrange d) (by simp only; omega)
          rw [← visI_fold] at hv
          have h4 : unmet g (d.foldl (visI g k) (met ++ [x], left)).1 < k := by
            rw [hv.met]; have := unmet_le g (met ++ [x]) M; simp only; omega
          refine ⟨h4, ?_⟩
          rw [hdt, List.foldl_append]
          obtain ⟨M2, N2, hv2⟩ := fold_ok g k (t.filter fun (y : Int) => decide (0 ≤ y ∧ y < g.length)) _ (hrange t) h4
          rw [← visI_fold] at hv2
          exact hv2.len_le
        rw [← hfold] at hfin ⊢
        refine Fw_funK rfl Try.func31 s31 (Nat.le_of_ble_eq_true rfl) (fun Q hqr hqn => ?_)
        simp only [tinit, Nat.reduceAdd, c31]
        repeat' (first
        | with_reducible refine Tx_assoc ?_
        | with_reducible refine Tx_nopK ?_
        | with_reducible refine Tx_noK rfl ?_
        | with_reducible refine Tx_blockK (id := 0) (fun Q0 hn0 hx0 hr0 ho0 => ?_)
        | ((with_reducible refine Tx_regK (fun K hK => ?_); (first | with_reducible refine t31r0 ?_ | with_reducible refine t31r1 ?_ | with_reducible refine t31r2 ?_)); (try simp only [true_implies, false_implies, not_true_eq_false, not_false_eq_true, tget_cons, if_true, if_false, Nat.reduceEqDiff, ccells, Obt_some, Kn_normal, newL_eq, newP_eq, newA_eq, newM_eq, newR_eq, newK_eq, nmA_f, nmR_f, gn_var, gn_arr, gn_map, gnext_setL, lget_setL, lget_lset, gnext_lset, setL_setL, setL_H, Nat.reduceMul, Nat.reduceAdd, Nat.zero_add, fldA_ptr, fldA_rptr, List.drop_zero, ld1_l, ld1_r, ldA_l, rd1_var, rd1_arr, List.getElem?_cons_zero, List.getElem?_cons_succ, Obt_lss, Obt_leq, Obt_gtr, Obt_geq, Obt_eql, Obt_neq, Obt_not, gdO_tt, gdO_tf, gdO_ff, gdO_ft, gdO_skip, Option.map_some, pickX_t, pickX_f, Obt_pickS, Obt_gdT, Obt_gdF, Bool.not_true, Bool.not_false, lenS, Obt_map, Obt_add, Obt_sub, Obt_mul, Obt_quo, Obt_rem, Obt_and, Obt_or, Obt_xor, Obt_andNot, Obt_shl, Obt_shr, Obt_neg, Obt_cpl, Obt_conv, Obt_ext, Obt_bind, Obt_ite', appX_l, appX_n, appR_arr, appN_some, content_l, conR_arr, content_nil, clen_n, clen_r, idxS_ref, fillX, bslX, escP_list, List.all_append, stX_l, stV_var, stV_arr, splice, List.take_zero, List.take_succ_cons, List.drop_succ_cons, List.drop_nil, List.nil_append, List.cons_append, List.append_nil, List.length_cons, List.length_nil, Nat.reduceLeDiff, and_self, and_true, true_and, Nat.le_refl, Nat.zero_le, rdA_var, rdA_arr, escP, List.all_cons, List.all_nil, Bool.and_self, Bool.true_and, Bool.and_true, r31, tend, tresAll, tresC, Option.bind_some, mapMem, retv_agc, esc_i, esc_b, esc_n, esc_m, esc_s, retv_l, retR_arr, retv_gref, retv_gmap, retv_gptr, Nat.zero_sub, Nat.sub_self, retv_int, retv_bool, retv_nil, retv_imm, retv_inil, retv_pnil, tup_nil, tup_one, tup_two, Prod.mk.injEq, CV.int.injEq, CV.bool.injEq, hnl, hf0, hf1, hf2, hd0, hd1, hd2, n1, n2, hgv.len, hi, hls', hst]))
        | (revert hK; intro hK; (with_reducible refine hK _ ?_; clear hK K)))
        refine Tx_loopK (fun n s => ∃ d t ML st, r = d ++ t ∧ n = t.length ∧ st = d.foldl (visI g k) (met ++ [x], left) ∧
          s = ⟨[(0, .ptr (.g 1) 1 0), (1, .int .i64 x), (4, .int .i64 d.length)], ⟨ML, wE gv g st.1 st.2⟩⟩) _ ⟨[], r, _, _, rfl, rfl, rfl, rfl⟩ ?_
        rintro n s ⟨d, t, ML, st, h2, rfl, h3, rfl⟩ QL0 hnL0 hxL0 hrL0
        have hlen := congrArg List.length h2
        simp only [List.length_append] at hlen
        obtain ⟨f1, f2⟩ := hfd d t h2
        rw [← h3] at f1 f2
        obtain ⟨sm, sl⟩ := st
        simp only at f1 f2
        cases t with
        | nil =>
          simp only [List.length_nil] at hlen
          rw [List.append_nil] at h2
          rw [h2, ← h3] at hfin hqr hqn
          simp only [c31l0]
          repeat' (first
          | with_reducible refine Tx_assoc ?_
          | with_reducible refine Tx_noK rfl ?_
          | with_reducible refine Tx_exitK ?_
          | with_reducible refine hx0 _ ?_
          | with_reducible refine hxL0 _ _ ?_
          | (((first | with_reducible refine Tx_regK (fun K hK => ?_) | with_reducible refine Tx_regE (fun K hK => ?_)); (first | with_reducible refine t31r3 ?_ | with_reducible refine t31r6 ?_)); (try simp only [true_implies, false_implies, not_true_eq_false, not_false_eq_true, tget_cons, if_true, if_false, Nat.reduceEqDiff, ccells, Obt_some, Kn_normal, newL_eq, newP_eq, newA_eq, newM_eq, newR_eq, newK_eq, nmA_f, nmR_f, gn_var, gn_arr, gn_map, gnext_setL, lget_setL, lget_lset, gnext_lset, setL_setL, setL_H, Nat.reduceMul, Nat.reduceAdd, Nat.zero_add, fldA_ptr, fldA_rptr, List.drop_zero, ld1_l, ld1_r, ldA_l, rd1_var, rd1_arr, List.getElem?_cons_zero, List.getElem?_cons_succ, Obt_lss, Obt_leq, Obt_gtr, Obt_geq, Obt_eql, Obt_neq, Obt_not, gdO_tt, gdO_tf, gdO_ff, gdO_ft, gdO_skip, Option.map_some, pickX_t, pickX_f, Obt_pickS, Obt_gdT, Obt_gdF, Bool.not_true, Bool.not_false, lenS, Obt_map, Obt_add, Obt_sub, Obt_mul, Obt_quo, Obt_rem, Obt_and, Obt_or, Obt_xor, Obt_andNot, Obt_shl, Obt_shr, Obt_neg, Obt_cpl, Obt_conv, Obt_ext, Obt_bind, Obt_ite', appX_l, appX_n, appR_arr, appN_some, content_l, conR_arr, content_nil, clen_n, clen_r, idxS_ref, fillX, bslX, escP_list, List.all_append, stX_l, stV_var, stV_arr, splice, List.take_zero, List.take_succ_cons, List.drop_succ_cons, List.drop_nil, List.nil_append, List.cons_append, List.append_nil, List.length_cons, List.length_nil, Nat.reduceLeDiff, and_self, and_true, true_and, Nat.le_refl, Nat.zero_le, rdA_var, rdA_arr, escP, List.all_cons, List.all_nil, Bool.and_self, Bool.true_and, Bool.and_true, r31, tend, tresAll, tresC, Option.bind_some, mapMem, retv_agc, esc_i, esc_b, esc_n, esc_m, esc_s, retv_l, retR_arr, retv_gref, retv_gmap, retv_gptr, Nat.zero_sub, Nat.sub_self, retv_int, retv_bool, retv_nil, retv_imm, retv_inil, retv_pnil, tup_nil, tup_one, tup_two, Prod.mk.injEq, CV.int.injEq, CV.bool.injEq, hnl, hf0, hf1, hf2, hd0, hd1, hd2, hw1, (hw2 (wE gv g sm sl)).len]))
          | (revert hK; intro hK; (first | refine And.intro ?_ ?_ | intro _ | omega | (with_reducible refine hK _ ?_; clear hK K))))
          simp only at hfin
          obtain ⟨v2, H2, a1, a2⟩ := leftW_step gv hgv.esc g (met := sm) (left := sl) (x := x) (gt := gnext ML 976) (m := setL ⟨ML, wE gv g sm sl⟩ 976 (.arr (gnext ML 976) 1 [.int .i64 x] 0)) rfl (by rw [lget_setL, if_pos rfl]) (by omega)
          simp only [a1, Obt_some, a2]
          refine hK _ ?_
          clear hK K
          repeat' (first
          | (with_reducible refine hqn _ ?_; (try simp only [true_implies, false_implies, not_true_eq_false, not_false_eq_true, tget_cons, if_true, if_false, Nat.reduceEqDiff, ccells, Obt_some, Kn_normal, newL_eq, newP_eq, newA_eq, newM_eq, newR_eq, newK_eq, nmA_f, nmR_f, gn_var, gn_arr, gn_map, gnext_setL, lget_setL, lget_lset, gnext_lset, setL_setL, setL_H, Nat.reduceMul, Nat.reduceAdd, Nat.zero_add, fldA_ptr, fldA_rptr, List.drop_zero, ld1_l, ld1_r, ldA_l, rd1_var, rd1_arr, List.getElem?_cons_zero, List.getElem?_cons_succ, Obt_lss, Obt_leq, Obt_gtr, Obt_geq, Obt_eql, Obt_neq, Obt_not, gdO_tt, gdO_tf, gdO_ff, gdO_ft, gdO_skip, Option.map_some, pickX_t, pickX_f, Obt_pickS, Obt_gdT, Obt_gdF, Bool.not_true, Bool.not_false, lenS, Obt_map, Obt_add, Obt_sub, Obt_mul, Obt_quo, Obt_rem, Obt_and, Obt_or, Obt_xor, Obt_andNot, Obt_shl, Obt_shr, Obt_neg, Obt_cpl, Obt_conv, Obt_ext, Obt_bind, Obt_ite', appX_l, appX_n, appR_arr, appN_some, content_l, conR_arr, content_nil, clen_n, clen_r, idxS_ref, fillX, bslX, escP_list, List.all_append, stX_l, stV_var, stV_arr, splice, List.take_zero, List.take_succ_cons, List.drop_succ_cons, List.drop_nil, List.nil_append, List.cons_append, List.append_nil, List.length_cons, List.length_nil, Nat.reduceLeDiff, and_self, and_true, true_and, Nat.le_refl, Nat.zero_le, rdA_var, rdA_arr, escP, List.all_cons, List.all_nil, Bool.and_self, Bool.true_and, Bool.and_true, r31, tend, tresAll, tresC, Option.bind_some, mapMem, retv_agc, esc_i, esc_b, esc_n, esc_m, esc_s, retv_l, retR_arr, retv_gref, retv_gmap, retv_gptr, Nat.zero_sub, Nat.sub_self, retv_int, retv_bool, retv_nil, retv_imm, retv_inil, retv_pnil, tup_nil, tup_one, tup_two, Prod.mk.injEq, CV.int.injEq, CV.bool.injEq])))
        | cons a t =>
          simp only [List.length_cons] at hlen
          have ha : r[d.length]? = some a := by rw [h2]; simp
          obtain ⟨p, hp1, hp2⟩ := (hw2 (wE gv g sm sl)).at ha (k := .i64)
          have hw : IntKind.i64.wrap ((d.length : Int) + 1) = d.length + 1 := wI (by omega) (by omega)
          have hst2 : visI g k (sm, sl) a = (d ++ [a]).foldl (visI g k) (met ++ [x], left) := by rw [List.foldl_append, ← h3]; rfl
          have h5 := (hfd (d ++ [a]) t (by rw [h2]; simp)).2
          rw [← hst2] at h5
          have ih := x31 g hg gv hgv k a sm sl f1 (by omega)
          have hcall : callC An FF 31 (some 54) 31 [.ptr (.g 1) 1 0, .int .i64 a] ⟨ML, wE gv g sm sl⟩ = some (.tuple [], ⟨ML, wE gv g (visI g k (sm, sl) a).1 (visI g k (sm, sl) a).2⟩) := by rw [callC_I rfl rfl ih, adopt_tuple rfl]
          simp only [c31l0]
          repeat' (first
          | with_reducible refine Tx_assoc ?_
          | with_reducible refine Tx_nopK ?_
          | with_reducible refine Tx_yesK rfl ?_
          | with_reducible refine Tx_blockK (id := 1) (fun Q1 hn1 hx1 hr1 ho1 => ?_)
          | with_reducible refine hn1 _ ?_
          | (((first | with_reducible refine Tx_regK (fun K hK => ?_) | with_reducible refine Tx_regE (fun K hK => ?_)); (first | with_reducible refine t31r3 ?_ | with_reducible refine t31r5 ?_ | with_reducible refine t31r4 ?_)); (try simp only [true_implies, false_implies, not_true_eq_false, not_false_eq_true, tget_cons, if_true, if_false, Nat.reduceEqDiff, ccells, Obt_some, Kn_normal, newL_eq, newP_eq, newA_eq, newM_eq, newR_eq, newK_eq, nmA_f, nmR_f, gn_var, gn_arr, gn_map, gnext_setL, lget_setL, lget_lset, gnext_lset, setL_setL, setL_H, Nat.reduceMul, Nat.reduceAdd, Nat.zero_add, fldA_ptr, fldA_rptr, List.drop_zero, ld1_l, ld1_r, ldA_l, rd1_var, rd1_arr, List.getElem?_cons_zero, List.getElem?_cons_succ, Obt_lss, Obt_leq, Obt_gtr, Obt_geq, Obt_eql, Obt_neq, Obt_not, gdO_tt, gdO_tf, gdO_ff, gdO_ft, gdO_skip, Option.map_some, pickX_t, pickX_f, Obt_pickS, Obt_gdT, Obt_gdF, Bool.not_true, Bool.not_false, lenS, Obt_map, Obt_add, Obt_sub, Obt_mul, Obt_quo, Obt_rem, Obt_and, Obt_or, Obt_xor, Obt_andNot, Obt_shl, Obt_shr, Obt_neg, Obt_cpl, Obt_conv, Obt_ext, Obt_bind, Obt_ite', appX_l, appX_n, appR_arr, appN_some, content_l, conR_arr, content_nil, clen_n, clen_r, idxS_ref, fillX, bslX, escP_list, List.all_append, stX_l, stV_var, stV_arr, splice, List.take_zero, List.take_succ_cons, List.drop_succ_cons, List.drop_nil, List.nil_append, List.cons_append, List.append_nil, List.length_cons, List.length_nil, Nat.reduceLeDiff, and_self, and_true, true_and, Nat.le_refl, Nat.zero_le, rdA_var, rdA_arr, escP, List.all_cons, List.all_nil, Bool.and_self, Bool.true_and, Bool.and_true, r31, tend, tresAll, tresC, Option.bind_some, mapMem, retv_agc, esc_i, esc_b, esc_n, esc_m, esc_s, retv_l, retR_arr, retv_gref, retv_gmap, retv_gptr, Nat.zero_sub, Nat.sub_self, retv_int, retv_bool, retv_nil, retv_imm, retv_inil, retv_pnil, tup_nil, tup_one, tup_two, Prod.mk.injEq, CV.int.injEq, CV.bool.injEq, hnl, hf0, hf1, hf2, hd0, hd1, hd2, hw1, (hw2 (wE gv g sm sl)).len, hp1, hp2, hcall, hw]))
          | (revert hK; intro hK; (first | refine And.intro ?_ ?_ | intro _ | omega | (with_reducible refine hK _ ?_; clear hK K))))
          refine hnL0 t.length _ (by simp) ⟨d ++ [a], t, ML, _, by simp [h2], rfl, hst2, by simp⟩
    · simp only [visI, hr, if_false] at hfin ⊢
      refine Fw_funK rfl Try.func31 s31 (Nat.le_of_ble_eq_true rfl) (fun Q hqr hqn => ?_)
      simp only [tinit, Nat.reduceAdd, c31]
      repeat' (first
      | with_reducible refine Tx_assoc ?_
      | with_reducible refine Tx_yesK rfl ?_
      | with_reducible refine Tx_retK ?_
      | ((first | (with_reducible refine Tx_regK (fun K hK => ?_); with_reducible refine t31r0 ?_) | with_reducible refine hqr _ ?_); (try simp only [true_implies, false_implies, not_true_eq_false, not_false_eq_true, tget_cons, if_true, if_false, Nat.reduceEqDiff, ccells, Obt_some, Kn_normal, newL_eq, newP_eq, newA_eq, newM_eq, newR_eq, newK_eq, nmA_f, nmR_f, gn_var, gn_arr, gn_map, gnext_setL, lget_setL, lget_lset, gnext_lset, setL_setL, setL_H, Nat.reduceMul, Nat.reduceAdd, Nat.zero_add, fldA_ptr, fldA_rptr, List.drop_zero, ld1_l, ld1_r, ldA_l, rd1_var, rd1_arr, List.getElem?_cons_zero, List.getElem?_cons_succ, Obt_lss, Obt_leq, Obt_gtr, Obt_geq, Obt_eql, Obt_neq, Obt_not, gdO_tt, gdO_tf, gdO_ff, gdO_ft, gdO_skip, Option.map_some, pickX_t, pickX_f, Obt_pickS, Obt_gdT, Obt_gdF, Bool.not_true, Bool.not_false, lenS, Obt_map, Obt_add, Obt_sub, Obt_mul, Obt_quo, Obt_rem, Obt_and, Obt_or, Obt_xor, Obt_andNot, Obt_shl, Obt_shr, Obt_neg, Obt_cpl, Obt_conv, Obt_ext, Obt_bind, Obt_ite', appX_l, appX_n, appR_arr, appN_some, content_l, conR_arr, content_nil, clen_n, clen_r, idxS_ref, fillX, bslX, escP_list, List.all_append, stX_l, stV_var, stV_arr, splice, List.take_zero, List.take_succ_cons, List.drop_succ_cons, List.drop_nil, List.nil_append, List.cons_append, List.append_nil, List.length_cons, List.length_nil, Nat.reduceLeDiff, and_self, and_true, true_and, Nat.le_refl, Nat.zero_le, rdA_var, rdA_arr, escP, List.all_cons, List.all_nil, Bool.and_self, Bool.true_and, Bool.and_true, r31, tend, tresAll, tresC, Option.bind_some, mapMem, retv_agc, esc_i, esc_b, esc_n, esc_m, esc_s, retv_l, retR_arr, retv_gref, retv_gmap, retv_gptr, Nat.zero_sub, Nat.sub_self, retv_int, retv_bool, retv_nil, retv_imm, retv_inil, retv_pnil, tup_nil, tup_one, tup_two, Prod.mk.injEq, CV.int.injEq, CV.bool.injEq, hnl, hf0, hf1, hf2, hd0, hd1, hd2, hgv.len]))
      | (revert hK; intro hK; (first | refine And.intro ?_ ?_ | intro _ | omega | (with_reducible refine hK _ ?_; clear hK K))))
end Go.Cm
