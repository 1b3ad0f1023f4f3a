/-
  Graphs: who dominates cannot be left out.
-/
import Derived.Test.YthjkmonenenlmaaDoG
import Derived.Test.YthjkmonenenlmaaDoH
import Derived.Test.YthjkmonenenlmaaDyB
import Derived.Test.YthjkmonenenlmaaDoK
set_option linter.unusedSimpArgs false
set_option linter.unusedVariables false
namespace Go.Cm
open Go.Proofs Go.Gr
theorem x8 (g : List (List Int)) (gv : CV) (hgv : IsRows gv g) : FF 8 [gv] [] = some (.bool (decide ((g.length : Int) ≤ 60)), []) := by
  refine Fw_funK rfl Try.func8 s8 (Nat.le_of_ble_eq_true rfl) (fun Q hqr hqn => ?_)
  simp only [tinit, Nat.reduceAdd, c8]
  repeat' (first
    | with_reducible refine Tx_assoc ?_
    | with_reducible refine Tx_nopK ?_
    | with_reducible refine Tx_yesK rfl ?_
    | with_reducible refine Tx_noK rfl ?_
    | with_reducible refine Tx_ifK rfl (fun _ => ?_) (fun _ => ?_)
    | with_reducible refine Tx_yes rfl ?_
    | with_reducible refine Tx_no rfl ?_
    | with_reducible refine Tx_if rfl (fun _ => ?_) (fun _ => ?_)
    | with_reducible refine Tx_retK ?_
    | with_reducible refine Tx_exitK ?_
    | with_reducible refine Tx_ret ?_
    | with_reducible refine Tx_exit ?_
    | with_reducible refine Tx_nop ?_
    | ((first | ((first | with_reducible refine Tx_regK (fun K hK => ?_) | with_reducible refine Tx_regE (fun K hK => ?_)); (first | with_reducible refine t8r0 ?_ | with_reducible refine t8r1 ?_)) | with_reducible refine hqr _ ?_ | with_reducible refine hqn _ ?_); (try simp only [true_implies, false_implies, not_true_eq_false, not_false_eq_true, tget_cons, if_true, if_false, Nat.reduceEqDiff, ccells, Obt_some, Kn_normal, newL_eq, newP_eq, newA_eq, newM_eq, newR_eq, newK_eq, nmA_f, nmR_f, gn_var, gn_arr, gn_map, gnext_setL, lget_setL, lget_lset, gnext_lset, setL_setL, setL_H, Nat.reduceMul, Nat.reduceAdd, Nat.zero_add, fldA_ptr, fldA_rptr, List.drop_zero, ld1_l, ld1_r, ldA_l, rd1_var, rd1_arr, List.getElem?_cons_zero, List.getElem?_cons_succ, Obt_lss, Obt_leq, Obt_gtr, Obt_geq, Obt_eql, Obt_neq, Obt_not, gdO_tt, gdO_tf, gdO_ff, gdO_ft, gdO_skip, Option.map_some, pickX_t, pickX_f, Obt_pickS, Obt_gdT, Obt_gdF, Bool.not_true, Bool.not_false, lenS, Obt_map, Obt_add, Obt_sub, Obt_mul, Obt_quo, Obt_rem, Obt_and, Obt_or, Obt_xor, Obt_andNot, Obt_shl, Obt_shr, Obt_neg, Obt_cpl, Obt_conv, Obt_ext, Obt_bind, Obt_ite', appX_l, appX_n, appR_arr, appN_some, content_l, conR_arr, content_nil, clen_n, clen_r, idxS_ref, fillX, bslX, escP_list, List.all_append, stX_l, stV_var, stV_arr, splice, List.take_zero, List.take_succ_cons, List.drop_succ_cons, List.drop_nil, List.nil_append, List.cons_append, List.append_nil, List.length_cons, List.length_nil, Nat.reduceLeDiff, and_self, and_true, true_and, Nat.le_refl, Nat.zero_le, rdA_var, rdA_arr, escP, List.all_cons, List.all_nil, Bool.and_self, Bool.true_and, Bool.and_true, r8, tend, tresAll, tresC, Option.bind_some, mapMem, retv_agc, esc_i, esc_b, esc_n, esc_m, esc_s, retv_l, retR_arr, retv_gref, retv_gmap, retv_gptr, Nat.zero_sub, Nat.sub_self, retv_int, retv_bool, retv_nil, retv_imm, retv_inil, retv_pnil, tup_nil, tup_one, tup_two, Prod.mk.injEq, CV.int.injEq, CV.bool.injEq, hgv.len]))
    | (revert hK; intro hK; (first | refine And.intro ?_ ?_ | (refine fun (h : (_ : Bool) = _) => ?_; subst h) | intro _ | omega | (with_reducible refine hK _ ?_; clear hK K))))
  all_goals simp [*]
theorem sm8 (g : List (List Int)) (gv : CV) (hgv : IsRows gv g) {fid : FuncId} {d : Tmp} {m : Mem} : callC An FF fid (some d) 8 [gv] m = some (.bool (decide ((g.length : Int) ≤ 60)), m) := by
  rw [callC_P (x8 g gv hgv) rfl (by simp only [List.all_cons, List.all_nil, escP_escQ hgv.esc, Bool.and_self]) (by simp only [noGs, hgv.noG, Bool.and_self]) rfl, adopt_bool]
theorem k8 (g : List (List Int)) (gv : CV) (hgv : IsRows gv g) (b : Bool) (hb : decide ((g.length : Int) ≤ 60) = b) {fid : FuncId} {d : Tmp} {m : Mem} : callC An FF fid (some d) 8 [gv] m = some (.bool b, m) := by
  rw [sm8 g gv hgv, hb]
theorem k11 (g : List (List Int)) (hg : Sm g) (gv : CV) (hgv : IsRows gv g) (a b : Int) {fid : FuncId} {d : Tmp} {m : Mem} : callC An FF fid (some d) 11 [gv, .int .i64 a, .int .i64 b] m = some (.bool (domB g a b), m) := by
  obtain ⟨_, ⟨H', rfl⟩, h⟩ := x11 g hg gv hgv a b
  rw [callC_P h rfl (by simp only [List.all_cons, List.all_nil, escP_escQ hgv.esc, escQ_int, Bool.and_self]) (by simp only [noGs, hgv.noG, noG_int, Bool.and_self]) rfl, adopt_bool]
/-- rows, one of them left out -/
def cutC (g : List (List Int)) (i : Nat) : List CV := (g.map (sl intC)).take (i * 1) ++ CV.nil :: (g.map (sl intC)).drop (i * 1 + 1)
theorem cutC_set {g : List (List Int)} {i : Nat} (hi : i < g.length) : cutC g i = (g.map (sl intC)).set i .nil := by
  rw [cutC, Nat.mul_one, List.set_eq_take_append_cons_drop, if_pos (by simpa using hi)]
theorem cutC_len {g : List (List Int)} {i : Nat} (hi : i < g.length) : (cutC g i).length = g.length := by rw [cutC_set hi]; simp
theorem IsRows.cut {g : List (List Int)} {i : Nat} (hi : i < g.length) : IsRows (.imm g.length (cutC g i)) (g.set i []) := by
  refine ⟨_, by rw [List.length_set], by rw [cutC_len hi, List.length_set], fun j r h => ?_, ?_⟩
  · rw [cutC_set hi]
    by_cases hj : i = j
    · subst hj
      rw [List.getElem?_set_self hi] at h
      injection h with h
      exact ⟨_, List.getElem?_set_self (by simpa using hi), .inr ⟨h.symm, rfl⟩⟩
    · rw [List.getElem?_set_ne hj] at h
      rw [List.getElem?_set_ne hj, List.getElem?_map, h]
      exact ⟨_, rfl, .inl rfl⟩
  · rw [cutC_set hi]
    have hm : noGs (g.map (sl intC)) = true := by rw [← flat_map]; exact noGs_flat rowC_N g
    have : ∀ (l : List CV) (i : Nat), noGs l = true → noGs (l.set i .nil) = true := by
      intro l
      induction l with
      | nil => intro i h; exact h
      | cons c l ih =>
        intro i h
        simp only [noGs, Bool.and_eq_true] at h
        cases i with
        | zero => simp only [List.set_cons_zero, noGs, h.2, Bool.and_true]; rfl
        | succ i => simp only [List.set_cons_succ, noGs, h.1, ih i h.2, Bool.and_self]
    exact this _ _ hm
theorem Sm.cut {g : List (List Int)} (h : Sm g) (i : Nat) : Sm (g.set i []) := by
  refine ⟨by rw [List.length_set]; exact h.1, fun r hr => ?_⟩
  rcases List.mem_or_eq_of_mem_set hr with h2 | rfl
  · exact h.2 r h2
  · simp
/-- a call of Reach on one's own rows -/
theorem ko10 {g : List (List Int)} (hg : Sm g) {cs : List CV} (hgv : IsRows (.imm g.length cs) g) (hl : cs.length = g.length) {fid : FuncId} {d : Tmp} {m : Mem} {j gn : Nat} (hm : lget m.L j = some (.arr gn 1 cs 0)) (hgl : (An.glob fid).contains d = false) :
    ∃ o, callC An FF fid (some d) 10 [.ref (.l j) gn 0 g.length] m = some (.ref (.l (16 * d)) (gnext (setL m j o).L (16 * d)) 0 g.length, setL (setL m j o) (16 * d) (.arr (gnext (setL m j o).L (16 * d)) 1 ((reachL g).flatMap boolC) 0)) := by
  obtain ⟨H', h⟩ := x10 g hg _ hgv
  have hrl : (reachL g).length = g.length := by simp [reachL]
  refine ⟨.arr gn 1 cs (max 0 (g.length * 1)), ?_⟩
  rw [callC_own (P := Try.prog) hm (by omega) rfl h rfl (by simp only [noGs, hgv.noG, Bool.and_self]) (noG_ownN boolC_N _), adopt_ownN hgl, hrl]
  rfl
theorem x3 (g : List (List Int)) (hr0 : ∀ r ∈ g, r.length ≤ 17592186044416) (a b : Int) : ∃ r, (∃ H', r = (CV.bool true, H')) ∧ FF 3 [rowsC g, .int .i64 a, .int .i64 b] [] = some r := by
  have hgv := IsRows.of g
  by_cases hr : (g.length : Int) ≤ 60 ∧ 1 ≤ a ∧ a < g.length ∧ 1 ≤ b ∧ b < g.length ∧ a ≠ b
  · obtain ⟨hs, ha0, ha1, hb0, hb1, hab⟩ := hr
    have hg : Sm g := Sm.of hs hr0
    have n1 : ¬ a < 1 := by omega
    have n2 : ¬ (g.length : Int) ≤ a := by omega
    have n3 : ¬ b < 1 := by omega
    have n4 : ¬ (g.length : Int) ≤ b := by omega
    have hkr := k10 g hg _ hgv (fid := 3) (d := 40) (m := ⟨[], []⟩) rfl
    have hct : ∀ m, content m 1 (rowsC g) = some (g.map (sl intC)) := fun m => by
      unfold rowsC
      rw [content_sl rowC_len, flat_map]
    have hen : ∀ m, escList m [] = some ([], m) := fun _ => rfl
    have hsb : smallB 24 g.length = true := smallB_ok (by omega) (by omega)
    refine Fw_funE rfl Try.func3 s3 (Nat.le_of_ble_eq_true rfl) (fun Q hqr hqn => ?_)
    simp only [tinit, Nat.reduceAdd, c3]
    repeat' (first
      | with_reducible refine Tx_assoc ?_
      | with_reducible refine Tx_nopK ?_
      | with_reducible refine Tx_yesK rfl ?_
      | with_reducible refine Tx_noK rfl ?_
      | with_reducible refine Tx_ifK rfl (fun _ => ?_) (fun _ => ?_)
      | with_reducible refine Tx_yes rfl ?_
      | with_reducible refine Tx_no rfl ?_
      | with_reducible refine Tx_if rfl (fun _ => ?_) (fun _ => ?_)
      | with_reducible refine Tx_retK ?_
      | with_reducible refine Tx_exitK ?_
      | with_reducible refine Tx_ret ?_
      | with_reducible refine Tx_exit ?_
      | with_reducible refine Tx_nop ?_
      | ((first | ((first | with_reducible refine Tx_regK (fun K hK => ?_) | with_reducible refine Tx_regE (fun K hK => ?_)); (first | with_reducible refine t3r0 ?_ | with_reducible refine t3r1 ?_ | with_reducible refine t3r2 ?_ | with_reducible refine t3r3 ?_ | with_reducible refine t3r4 ?_ | with_reducible refine t3r5 ?_ | with_reducible refine t3r6 ?_ | with_reducible refine t3r7 ?_ | with_reducible refine t3r8 ?_ | with_reducible refine t3r9 ?_ | with_reducible refine t3r10 ?_ | with_reducible refine t3r11 ?_)) | with_reducible refine hqr _ ?_ | with_reducible refine hqn _ ?_); (try simp only [true_implies, false_implies, not_true_eq_false, not_false_eq_true, tget_cons, if_true, if_false, Nat.reduceEqDiff, ccells, Obt_some, Kn_normal, newL_eq, newP_eq, newA_eq, newM_eq, newR_eq, newK_eq, nmA_f, nmR_f, gn_var, gn_arr, gn_map, gnext_setL, lget_setL, lget_lset, gnext_lset, setL_setL, setL_H, Nat.reduceMul, Nat.reduceAdd, Nat.zero_add, fldA_ptr, fldA_rptr, List.drop_zero, ld1_l, ld1_r, ldA_l, rd1_var, rd1_arr, List.getElem?_cons_zero, List.getElem?_cons_succ, Obt_lss, Obt_leq, Obt_gtr, Obt_geq, Obt_eql, Obt_neq, Obt_not, gdO_tt, gdO_tf, gdO_ff, gdO_ft, gdO_skip, Option.map_some, pickX_t, pickX_f, Obt_pickS, Obt_gdT, Obt_gdF, Bool.not_true, Bool.not_false, lenS, Obt_map, Obt_add, Obt_sub, Obt_mul, Obt_quo, Obt_rem, Obt_and, Obt_or, Obt_xor, Obt_andNot, Obt_shl, Obt_shr, Obt_neg, Obt_cpl, Obt_conv, Obt_ext, Obt_bind, Obt_ite', appX_l, appX_n, appR_arr, appN_some, content_l, conR_arr, content_nil, clen_n, clen_r, idxS_ref, fillX, bslX, escP_list, List.all_append, stX_l, stV_var, stV_arr, splice, List.take_zero, List.take_succ_cons, List.drop_succ_cons, List.drop_nil, List.nil_append, List.cons_append, List.append_nil, List.length_cons, List.length_nil, Nat.reduceLeDiff, and_self, and_true, true_and, Nat.le_refl, Nat.zero_le, rdA_var, rdA_arr, escP, List.all_cons, List.all_nil, Bool.and_self, Bool.true_and, Bool.and_true, r3, tend, tresAll, tresC, Option.bind_some, mapMem, retv_agc, esc_i, esc_b, esc_n, esc_m, esc_s, retv_l, retR_arr, retv_gref, retv_gmap, retv_gptr, Nat.zero_sub, Nat.sub_self, retv_int, retv_bool, retv_nil, retv_imm, retv_inil, retv_pnil, tup_nil, tup_one, tup_two, Prod.mk.injEq, CV.int.injEq, CV.bool.injEq, clen_rowsC, k8 g _ hgv true (decide_eq_true hs), n1, n2, n3, n4, hab, hkr, hct, hen, appR_arr, Nat.zero_add, hsb]))
      | (revert hK; intro hK; (first | refine And.intro ?_ ?_ | (refine fun (h : (_ : Bool) = _) => ?_; subst h) | intro _ | omega | (with_reducible refine hK _ ?_; clear hK K))))
    · simp only [List.length_map]; omega
    have hal : a.toNat < g.length := by omega
    have hlen2 : (g.set a.toNat []).length = g.length := List.length_set ..
    generalize hG : g.set a.toNat [] = G at hlen2
    have hcut : IsRows (.imm G.length (cutC g a.toNat)) G := by
      rw [hlen2, ← hG]; exact IsRows.cut hal
    have hgc : Sm G := by rw [← hG]; exact hg.cut _
    obtain ⟨o, hk2⟩ := ko10 hgc hcut (by rw [cutC_len hal, hlen2]) (fid := 3) (d := 48) (j := 656) (gn := gnext [] 656 + 1)
      (m := setL (setL { L := [], H := [] } 640 (HO.arr (gnext [] 640) 1 (List.flatMap boolC (reachL g)) 0)) 656 (HO.arr (gnext [] 656 + 1) 1 (cutC g a.toNat) 0)) (by simp only [lget_setL, if_true]) rfl
    rw [hlen2] at hk2
    have hk2' := hk2
    unfold cutC at hk2'
    have hix : ∀ j gn (x : Int), 0 ≤ x → x < g.length → idxS 1 (.ref (.l j) gn 0 g.length) (.int .i64 x) = some (.ptr (.l j) gn x.toNat) := fun j gn x h0 h1 => by
      rw [idxS_ref, if_pos ⟨h0, by omega⟩]; simp
    have hia := fun j gn => hix j gn a (by omega) ha1
    have hib := fun j gn => hix j gn b (by omega) hb1
    have hra := reachL_get (g := g) (x := a) (by omega) ha1
    have hrb := reachL_get (g := g) (x := b) (by omega) hb1
    have hrc := reachL_get (g := G) (x := b) (by omega) (by omega)
    have hcu : b ∈ ord G ↔ Av g a b := by rw [mem_ord, ← hG]; exact rch_cut ha0 (Ne.symm hab)
    rw [hk2', Obt_some]
    refine hK _ ?_
    clear hK K
    by_cases ha : a ∈ ord g
    · by_cases hb : b ∈ ord g
      · by_cases hc : b ∈ ord G
        · have hd : domB g a b = false := domB_false fun h => h.2.2 (hcu.1 hc)
          repeat' (first
            | with_reducible refine Tx_assoc ?_
            | with_reducible refine Tx_nopK ?_
            | with_reducible refine Tx_yesK rfl ?_
            | with_reducible refine Tx_noK rfl ?_
            | with_reducible refine Tx_ifK rfl (fun _ => ?_) (fun _ => ?_)
            | with_reducible refine Tx_yes rfl ?_
            | with_reducible refine Tx_no rfl ?_
            | with_reducible refine Tx_if rfl (fun _ => ?_) (fun _ => ?_)
            | with_reducible refine Tx_retK ?_
            | with_reducible refine Tx_exitK ?_
            | with_reducible refine Tx_ret ?_
            | with_reducible refine Tx_exit ?_
            | with_reducible refine Tx_nop ?_
            | ((first | ((first | with_reducible refine Tx_regK (fun K hK => ?_) | with_reducible refine Tx_regE (fun K hK => ?_)); (first | with_reducible refine t3r0 ?_ | with_reducible refine t3r1 ?_ | with_reducible refine t3r2 ?_ | with_reducible refine t3r3 ?_ | with_reducible refine t3r4 ?_ | with_reducible refine t3r5 ?_ | with_reducible refine t3r6 ?_ | with_reducible refine t3r7 ?_ | with_reducible refine t3r8 ?_ | with_reducible refine t3r9 ?_ | with_reducible refine t3r10 ?_ | with_reducible refine t3r11 ?_)) | with_reducible refine hqr _ ?_ | with_reducible refine hqn _ ?_); (try simp only [true_implies, false_implies, not_true_eq_false, not_false_eq_true, tget_cons, if_true, if_false, Nat.reduceEqDiff, ccells, Obt_some, Kn_normal, newL_eq, newP_eq, newA_eq, newM_eq, newR_eq, newK_eq, nmA_f, nmR_f, gn_var, gn_arr, gn_map, gnext_setL, lget_setL, lget_lset, gnext_lset, setL_setL, setL_H, Nat.reduceMul, Nat.reduceAdd, Nat.zero_add, fldA_ptr, fldA_rptr, List.drop_zero, ld1_l, ld1_r, ldA_l, rd1_var, rd1_arr, List.getElem?_cons_zero, List.getElem?_cons_succ, Obt_lss, Obt_leq, Obt_gtr, Obt_geq, Obt_eql, Obt_neq, Obt_not, gdO_tt, gdO_tf, gdO_ff, gdO_ft, gdO_skip, Option.map_some, pickX_t, pickX_f, Obt_pickS, Obt_gdT, Obt_gdF, Bool.not_true, Bool.not_false, lenS, Obt_map, Obt_add, Obt_sub, Obt_mul, Obt_quo, Obt_rem, Obt_and, Obt_or, Obt_xor, Obt_andNot, Obt_shl, Obt_shr, Obt_neg, Obt_cpl, Obt_conv, Obt_ext, Obt_bind, Obt_ite', appX_l, appX_n, appR_arr, appN_some, content_l, conR_arr, content_nil, clen_n, clen_r, idxS_ref, fillX, bslX, escP_list, List.all_append, stX_l, stV_var, stV_arr, splice, List.take_zero, List.take_succ_cons, List.drop_succ_cons, List.drop_nil, List.nil_append, List.cons_append, List.append_nil, List.length_cons, List.length_nil, Nat.reduceLeDiff, and_self, and_true, true_and, Nat.le_refl, Nat.zero_le, rdA_var, rdA_arr, escP, List.all_cons, List.all_nil, Bool.and_self, Bool.true_and, Bool.and_true, r3, tend, tresAll, tresC, Option.bind_some, mapMem, retv_agc, esc_i, esc_b, esc_n, esc_m, esc_s, retv_l, retR_arr, retv_gref, retv_gmap, retv_gptr, Nat.zero_sub, Nat.sub_self, retv_int, retv_bool, retv_nil, retv_imm, retv_inil, retv_pnil, tup_nil, tup_one, tup_two, Prod.mk.injEq, CV.int.injEq, CV.bool.injEq, clen_rowsC, hk2', hia, hib, hra, hrb, hrc, ha, hb, hc, flat_bool, decide_true, decide_false, hd, chk, noRef, isRef, Obt_eqB Try.underlying4, Bool.not_true, Bool.not_false, beq_self_eq_true, k11 g hg _ hgv a b, k9]))
            | (revert hK; intro hK; (first | refine And.intro ?_ ?_ | (refine fun (h : (_ : Bool) = _) => ?_; subst h) | intro _ | omega | (with_reducible refine hK _ ?_; clear hK K))))
          all_goals exact ⟨_, rfl⟩
        · have hd : domB g a b = true := domB_iff.2 ⟨(mem_ord g a).1 ha, (mem_ord g b).1 hb, fun h => hc (hcu.2 h)⟩
          repeat' (first
            | with_reducible refine Tx_assoc ?_
            | with_reducible refine Tx_nopK ?_
            | with_reducible refine Tx_yesK rfl ?_
            | with_reducible refine Tx_noK rfl ?_
            | with_reducible refine Tx_ifK rfl (fun _ => ?_) (fun _ => ?_)
            | with_reducible refine Tx_yes rfl ?_
            | with_reducible refine Tx_no rfl ?_
            | with_reducible refine Tx_if rfl (fun _ => ?_) (fun _ => ?_)
            | with_reducible refine Tx_retK ?_
            | with_reducible refine Tx_exitK ?_
            | with_reducible refine Tx_ret ?_
            | with_reducible refine Tx_exit ?_
            | with_reducible refine Tx_nop ?_
            | ((first | ((first | with_reducible refine Tx_regK (fun K hK => ?_) | with_reducible refine Tx_regE (fun K hK => ?_)); (first | with_reducible refine t3r0 ?_ | with_reducible refine t3r1 ?_ | with_reducible refine t3r2 ?_ | with_reducible refine t3r3 ?_ | with_reducible refine t3r4 ?_ | with_reducible refine t3r5 ?_ | with_reducible refine t3r6 ?_ | with_reducible refine t3r7 ?_ | with_reducible refine t3r8 ?_ | with_reducible refine t3r9 ?_ | with_reducible refine t3r10 ?_ | with_reducible refine t3r11 ?_)) | with_reducible refine hqr _ ?_ | with_reducible refine hqn _ ?_); (try simp only [true_implies, false_implies, not_true_eq_false, not_false_eq_true, tget_cons, if_true, if_false, Nat.reduceEqDiff, ccells, Obt_some, Kn_normal, newL_eq, newP_eq, newA_eq, newM_eq, newR_eq, newK_eq, nmA_f, nmR_f, gn_var, gn_arr, gn_map, gnext_setL, lget_setL, lget_lset, gnext_lset, setL_setL, setL_H, Nat.reduceMul, Nat.reduceAdd, Nat.zero_add, fldA_ptr, fldA_rptr, List.drop_zero, ld1_l, ld1_r, ldA_l, rd1_var, rd1_arr, List.getElem?_cons_zero, List.getElem?_cons_succ, Obt_lss, Obt_leq, Obt_gtr, Obt_geq, Obt_eql, Obt_neq, Obt_not, gdO_tt, gdO_tf, gdO_ff, gdO_ft, gdO_skip, Option.map_some, pickX_t, pickX_f, Obt_pickS, Obt_gdT, Obt_gdF, Bool.not_true, Bool.not_false, lenS, Obt_map, Obt_add, Obt_sub, Obt_mul, Obt_quo, Obt_rem, Obt_and, Obt_or, Obt_xor, Obt_andNot, Obt_shl, Obt_shr, Obt_neg, Obt_cpl, Obt_conv, Obt_ext, Obt_bind, Obt_ite', appX_l, appX_n, appR_arr, appN_some, content_l, conR_arr, content_nil, clen_n, clen_r, idxS_ref, fillX, bslX, escP_list, List.all_append, stX_l, stV_var, stV_arr, splice, List.take_zero, List.take_succ_cons, List.drop_succ_cons, List.drop_nil, List.nil_append, List.cons_append, List.append_nil, List.length_cons, List.length_nil, Nat.reduceLeDiff, and_self, and_true, true_and, Nat.le_refl, Nat.zero_le, rdA_var, rdA_arr, escP, List.all_cons, List.all_nil, Bool.and_self, Bool.true_and, Bool.and_true, r3, tend, tresAll, tresC, Option.bind_some, mapMem, retv_agc, esc_i, esc_b, esc_n, esc_m, esc_s, retv_l, retR_arr, retv_gref, retv_gmap, retv_gptr, Nat.zero_sub, Nat.sub_self, retv_int, retv_bool, retv_nil, retv_imm, retv_inil, retv_pnil, tup_nil, tup_one, tup_two, Prod.mk.injEq, CV.int.injEq, CV.bool.injEq, clen_rowsC, hk2', hia, hib, hra, hrb, hrc, ha, hb, hc, flat_bool, decide_true, decide_false, hd, chk, noRef, isRef, Obt_eqB Try.underlying4, Bool.not_true, Bool.not_false, beq_self_eq_true, k11 g hg _ hgv a b, k9]))
            | (revert hK; intro hK; (first | refine And.intro ?_ ?_ | (refine fun (h : (_ : Bool) = _) => ?_; subst h) | intro _ | omega | (with_reducible refine hK _ ?_; clear hK K))))
          all_goals exact ⟨_, rfl⟩
      · have hd : domB g a b = false := domB_false fun h => hb ((mem_ord g b).2 h.2.1)
        repeat' (first
          | with_reducible refine Tx_assoc ?_
          | with_reducible refine Tx_nopK ?_
          | with_reducible refine Tx_yesK rfl ?_
          | with_reducible refine Tx_noK rfl ?_
          | with_reducible refine Tx_ifK rfl (fun _ => ?_) (fun _ => ?_)
          | with_reducible refine Tx_yes rfl ?_
          | with_reducible refine Tx_no rfl ?_
          | with_reducible refine Tx_if rfl (fun _ => ?_) (fun _ => ?_)
          | with_reducible refine Tx_retK ?_
          | with_reducible refine Tx_exitK ?_
          | with_reducible refine Tx_ret ?_
          | with_reducible refine Tx_exit ?_
          | with_reducible refine Tx_nop ?_
          | ((first | ((first | with_reducible refine Tx_regK (fun K hK => ?_) | with_reducible refine Tx_regE (fun K hK => ?_)); (first | with_reducible refine t3r0 ?_ | with_reducible refine t3r1 ?_ | with_reducible refine t3r2 ?_ | with_reducible refine t3r3 ?_ | with_reducible refine t3r4 ?_ | with_reducible refine t3r5 ?_ | with_reducible refine t3r6 ?_ | with_reducible refine t3r7 ?_ | with_reducible refine t3r8 ?_ | with_reducible refine t3r9 ?_ | with_reducible refine t3r10 ?_ | with_reducible refine t3r11 ?_)) | with_reducible refine hqr _ ?_ | with_reducible refine hqn _ ?_); (try simp only [true_implies, false_implies, not_true_eq_false, not_false_eq_true, tget_cons, if_true, if_false, Nat.reduceEqDiff, ccells, Obt_some, Kn_normal, newL_eq, newP_eq, newA_eq, newM_eq, newR_eq, newK_eq, nmA_f, nmR_f, gn_var, gn_arr, gn_map, gnext_setL, lget_setL, lget_lset, gnext_lset, setL_setL, setL_H, Nat.reduceMul, Nat.reduceAdd, Nat.zero_add, fldA_ptr, fldA_rptr, List.drop_zero, ld1_l, ld1_r, ldA_l, rd1_var, rd1_arr, List.getElem?_cons_zero, List.getElem?_cons_succ, Obt_lss, Obt_leq, Obt_gtr, Obt_geq, Obt_eql, Obt_neq, Obt_not, gdO_tt, gdO_tf, gdO_ff, gdO_ft, gdO_skip, Option.map_some, pickX_t, pickX_f, Obt_pickS, Obt_gdT, Obt_gdF, Bool.not_true, Bool.not_false, lenS, Obt_map, Obt_add, Obt_sub, Obt_mul, Obt_quo, Obt_rem, Obt_and, Obt_or, Obt_xor, Obt_andNot, Obt_shl, Obt_shr, Obt_neg, Obt_cpl, Obt_conv, Obt_ext, Obt_bind, Obt_ite', appX_l, appX_n, appR_arr, appN_some, content_l, conR_arr, content_nil, clen_n, clen_r, idxS_ref, fillX, bslX, escP_list, List.all_append, stX_l, stV_var, stV_arr, splice, List.take_zero, List.take_succ_cons, List.drop_succ_cons, List.drop_nil, List.nil_append, List.cons_append, List.append_nil, List.length_cons, List.length_nil, Nat.reduceLeDiff, and_self, and_true, true_and, Nat.le_refl, Nat.zero_le, rdA_var, rdA_arr, escP, List.all_cons, List.all_nil, Bool.and_self, Bool.true_and, Bool.and_true, r3, tend, tresAll, tresC, Option.bind_some, mapMem, retv_agc, esc_i, esc_b, esc_n, esc_m, esc_s, retv_l, retR_arr, retv_gref, retv_gmap, retv_gptr, Nat.zero_sub, Nat.sub_self, retv_int, retv_bool, retv_nil, retv_imm, retv_inil, retv_pnil, tup_nil, tup_one, tup_two, Prod.mk.injEq, CV.int.injEq, CV.bool.injEq, clen_rowsC, hk2', hia, hib, hra, hrb, hrc, ha, hb, flat_bool, decide_true, decide_false, hd, k11 g hg _ hgv a b, k9]))
          | (revert hK; intro hK; (first | refine And.intro ?_ ?_ | (refine fun (h : (_ : Bool) = _) => ?_; subst h) | intro _ | omega | (with_reducible refine hK _ ?_; clear hK K))))
        all_goals exact ⟨_, rfl⟩
    · have hd : domB g a b = false := domB_false fun h => ha ((mem_ord g a).2 h.1)
      repeat' (first
        | with_reducible refine Tx_assoc ?_
        | with_reducible refine Tx_nopK ?_
        | with_reducible refine Tx_yesK rfl ?_
        | with_reducible refine Tx_noK rfl ?_
        | with_reducible refine Tx_ifK rfl (fun _ => ?_) (fun _ => ?_)
        | with_reducible refine Tx_yes rfl ?_
        | with_reducible refine Tx_no rfl ?_
        | with_reducible refine Tx_if rfl (fun _ => ?_) (fun _ => ?_)
        | with_reducible refine Tx_retK ?_
        | with_reducible refine Tx_exitK ?_
        | with_reducible refine Tx_ret ?_
        | with_reducible refine Tx_exit ?_
        | with_reducible refine Tx_nop ?_
        | ((first | ((first | with_reducible refine Tx_regK (fun K hK => ?_) | with_reducible refine Tx_regE (fun K hK => ?_)); (first | with_reducible refine t3r0 ?_ | with_reducible refine t3r1 ?_ | with_reducible refine t3r2 ?_ | with_reducible refine t3r3 ?_ | with_reducible refine t3r4 ?_ | with_reducible refine t3r5 ?_ | with_reducible refine t3r6 ?_ | with_reducible refine t3r7 ?_ | with_reducible refine t3r8 ?_ | with_reducible refine t3r9 ?_ | with_reducible refine t3r10 ?_ | with_reducible refine t3r11 ?_)) | with_reducible refine hqr _ ?_ | with_reducible refine hqn _ ?_); (try simp only [true_implies, false_implies, not_true_eq_false, not_false_eq_true, tget_cons, if_true, if_false, Nat.reduceEqDiff, ccells, Obt_some, Kn_normal, newL_eq, newP_eq, newA_eq, newM_eq, newR_eq, newK_eq, nmA_f, nmR_f, gn_var, gn_arr, gn_map, gnext_setL, lget_setL, lget_lset, gnext_lset, setL_setL, setL_H, Nat.reduceMul, Nat.reduceAdd, Nat.zero_add, fldA_ptr, fldA_rptr, List.drop_zero, ld1_l, ld1_r, ldA_l, rd1_var, rd1_arr, List.getElem?_cons_zero, List.getElem?_cons_succ, Obt_lss, Obt_leq, Obt_gtr, Obt_geq, Obt_eql, Obt_neq, Obt_not, gdO_tt, gdO_tf, gdO_ff, gdO_ft, gdO_skip, Option.map_some, pickX_t, pickX_f, Obt_pickS, Obt_gdT, Obt_gdF, Bool.not_true, Bool.not_false, lenS, Obt_map, Obt_add, Obt_sub, Obt_mul, Obt_quo, Obt_rem, Obt_and, Obt_or, Obt_xor, Obt_andNot, Obt_shl, Obt_shr, Obt_neg, Obt_cpl, Obt_conv, Obt_ext, Obt_bind, Obt_ite', appX_l, appX_n, appR_arr, appN_some, content_l, conR_arr, content_nil, clen_n, clen_r, idxS_ref, fillX, bslX, escP_list, List.all_append, stX_l, stV_var, stV_arr, splice, List.take_zero, List.take_succ_cons, List.drop_succ_cons, List.drop_nil, List.nil_append, List.cons_append, List.append_nil, List.length_cons, List.length_nil, Nat.reduceLeDiff, and_self, and_true, true_and, Nat.le_refl, Nat.zero_le, rdA_var, rdA_arr, escP, List.all_cons, List.all_nil, Bool.and_self, Bool.true_and, Bool.and_true, r3, tend, tresAll, tresC, Option.bind_some, mapMem, retv_agc, esc_i, esc_b, esc_n, esc_m, esc_s, retv_l, retR_arr, retv_gref, retv_gmap, retv_gptr, Nat.zero_sub, Nat.sub_self, retv_int, retv_bool, retv_nil, retv_imm, retv_inil, retv_pnil, tup_nil, tup_one, tup_two, Prod.mk.injEq, CV.int.injEq, CV.bool.injEq, clen_rowsC, hk2', hia, hib, hra, hrb, hrc, ha, flat_bool, decide_true, decide_false, hd, k11 g hg _ hgv a b, k9]))
        | (revert hK; intro hK; (first | refine And.intro ?_ ?_ | (refine fun (h : (_ : Bool) = _) => ?_; subst h) | intro _ | omega | (with_reducible refine hK _ ?_; clear hK K))))
      all_goals exact ⟨_, rfl⟩
  · by_cases h1 : (g.length : Int) ≤ 60
    · by_cases h2 : a < 1 <;> by_cases h3 : b < 1 <;> by_cases h4 : (g.length : Int) ≤ a <;> by_cases h5 : (g.length : Int) ≤ b <;> by_cases h6 : a = b
      all_goals first
        | (exfalso; exact hr ⟨h1, by omega, by omega, by omega, by omega, h6⟩)
        | skip
      all_goals
        refine Fw_funE rfl Try.func3 s3 (Nat.le_of_ble_eq_true rfl) (fun Q hqr hqn => ?_)
        simp only [tinit, Nat.reduceAdd, c3]
        repeat' (first
          | with_reducible refine Tx_assoc ?_
          | with_reducible refine Tx_nopK ?_
          | with_reducible refine Tx_yesK rfl ?_
          | with_reducible refine Tx_noK rfl ?_
          | with_reducible refine Tx_ifK rfl (fun _ => ?_) (fun _ => ?_)
          | with_reducible refine Tx_yes rfl ?_
          | with_reducible refine Tx_no rfl ?_
          | with_reducible refine Tx_if rfl (fun _ => ?_) (fun _ => ?_)
          | with_reducible refine Tx_retK ?_
          | with_reducible refine Tx_exitK ?_
          | with_reducible refine Tx_ret ?_
          | with_reducible refine Tx_exit ?_
          | with_reducible refine Tx_nop ?_
          | ((first | ((first | with_reducible refine Tx_regK (fun K hK => ?_) | with_reducible refine Tx_regE (fun K hK => ?_)); (first | with_reducible refine t3r0 ?_ | with_reducible refine t3r1 ?_ | with_reducible refine t3r2 ?_ | with_reducible refine t3r3 ?_ | with_reducible refine t3r4 ?_ | with_reducible refine t3r5 ?_ | with_reducible refine t3r6 ?_ | with_reducible refine t3r7 ?_ | with_reducible refine t3r8 ?_ | with_reducible refine t3r9 ?_ | with_reducible refine t3r10 ?_ | with_reducible refine t3r11 ?_)) | with_reducible refine hqr _ ?_ | with_reducible refine hqn _ ?_); (try simp only [true_implies, false_implies, not_true_eq_false, not_false_eq_true, tget_cons, if_true, if_false, Nat.reduceEqDiff, ccells, Obt_some, Kn_normal, newL_eq, newP_eq, newA_eq, newM_eq, newR_eq, newK_eq, nmA_f, nmR_f, gn_var, gn_arr, gn_map, gnext_setL, lget_setL, lget_lset, gnext_lset, setL_setL, setL_H, Nat.reduceMul, Nat.reduceAdd, Nat.zero_add, fldA_ptr, fldA_rptr, List.drop_zero, ld1_l, ld1_r, ldA_l, rd1_var, rd1_arr, List.getElem?_cons_zero, List.getElem?_cons_succ, Obt_lss, Obt_leq, Obt_gtr, Obt_geq, Obt_eql, Obt_neq, Obt_not, gdO_tt, gdO_tf, gdO_ff, gdO_ft, gdO_skip, Option.map_some, pickX_t, pickX_f, Obt_pickS, Obt_gdT, Obt_gdF, Bool.not_true, Bool.not_false, lenS, Obt_map, Obt_add, Obt_sub, Obt_mul, Obt_quo, Obt_rem, Obt_and, Obt_or, Obt_xor, Obt_andNot, Obt_shl, Obt_shr, Obt_neg, Obt_cpl, Obt_conv, Obt_ext, Obt_bind, Obt_ite', appX_l, appX_n, appR_arr, appN_some, content_l, conR_arr, content_nil, clen_n, clen_r, idxS_ref, fillX, bslX, escP_list, List.all_append, stX_l, stV_var, stV_arr, splice, List.take_zero, List.take_succ_cons, List.drop_succ_cons, List.drop_nil, List.nil_append, List.cons_append, List.append_nil, List.length_cons, List.length_nil, Nat.reduceLeDiff, and_self, and_true, true_and, Nat.le_refl, Nat.zero_le, rdA_var, rdA_arr, escP, List.all_cons, List.all_nil, Bool.and_self, Bool.true_and, Bool.and_true, r3, tend, tresAll, tresC, Option.bind_some, mapMem, retv_agc, esc_i, esc_b, esc_n, esc_m, esc_s, retv_l, retR_arr, retv_gref, retv_gmap, retv_gptr, Nat.zero_sub, Nat.sub_self, retv_int, retv_bool, retv_nil, retv_imm, retv_inil, retv_pnil, tup_nil, tup_one, tup_two, Prod.mk.injEq, CV.int.injEq, CV.bool.injEq, clen_rowsC, k8 g _ hgv true (decide_eq_true h1), h2, h3, h4, h5, h6, k9]))
          | (revert hK; intro hK; (first | refine And.intro ?_ ?_ | (refine fun (h : (_ : Bool) = _) => ?_; subst h) | intro _ | omega | (with_reducible refine hK _ ?_; clear hK K))))
        all_goals exact ⟨_, rfl⟩
    · refine Fw_funE rfl Try.func3 s3 (Nat.le_of_ble_eq_true rfl) (fun Q hqr hqn => ?_)
      simp only [tinit, Nat.reduceAdd, c3]
      repeat' (first
        | with_reducible refine Tx_assoc ?_
        | with_reducible refine Tx_nopK ?_
        | with_reducible refine Tx_yesK rfl ?_
        | with_reducible refine Tx_noK rfl ?_
        | with_reducible refine Tx_ifK rfl (fun _ => ?_) (fun _ => ?_)
        | with_reducible refine Tx_yes rfl ?_
        | with_reducible refine Tx_no rfl ?_
        | with_reducible refine Tx_if rfl (fun _ => ?_) (fun _ => ?_)
        | with_reducible refine Tx_retK ?_
        | with_reducible refine Tx_exitK ?_
        | with_reducible refine Tx_ret ?_
        | with_reducible refine Tx_exit ?_
        | with_reducible refine Tx_nop ?_
        | ((first | ((first | with_reducible refine Tx_regK (fun K hK => ?_) | with_reducible refine Tx_regE (fun K hK => ?_)); (first | with_reducible refine t3r0 ?_ | with_reducible refine t3r1 ?_ | with_reducible refine t3r2 ?_ | with_reducible refine t3r3 ?_ | with_reducible refine t3r4 ?_ | with_reducible refine t3r5 ?_ | with_reducible refine t3r6 ?_ | with_reducible refine t3r7 ?_ | with_reducible refine t3r8 ?_ | with_reducible refine t3r9 ?_ | with_reducible refine t3r10 ?_ | with_reducible refine t3r11 ?_)) | with_reducible refine hqr _ ?_ | with_reducible refine hqn _ ?_); (try simp only [true_implies, false_implies, not_true_eq_false, not_false_eq_true, tget_cons, if_true, if_false, Nat.reduceEqDiff, ccells, Obt_some, Kn_normal, newL_eq, newP_eq, newA_eq, newM_eq, newR_eq, newK_eq, nmA_f, nmR_f, gn_var, gn_arr, gn_map, gnext_setL, lget_setL, lget_lset, gnext_lset, setL_setL, setL_H, Nat.reduceMul, Nat.reduceAdd, Nat.zero_add, fldA_ptr, fldA_rptr, List.drop_zero, ld1_l, ld1_r, ldA_l, rd1_var, rd1_arr, List.getElem?_cons_zero, List.getElem?_cons_succ, Obt_lss, Obt_leq, Obt_gtr, Obt_geq, Obt_eql, Obt_neq, Obt_not, gdO_tt, gdO_tf, gdO_ff, gdO_ft, gdO_skip, Option.map_some, pickX_t, pickX_f, Obt_pickS, Obt_gdT, Obt_gdF, Bool.not_true, Bool.not_false, lenS, Obt_map, Obt_add, Obt_sub, Obt_mul, Obt_quo, Obt_rem, Obt_and, Obt_or, Obt_xor, Obt_andNot, Obt_shl, Obt_shr, Obt_neg, Obt_cpl, Obt_conv, Obt_ext, Obt_bind, Obt_ite', appX_l, appX_n, appR_arr, appN_some, content_l, conR_arr, content_nil, clen_n, clen_r, idxS_ref, fillX, bslX, escP_list, List.all_append, stX_l, stV_var, stV_arr, splice, List.take_zero, List.take_succ_cons, List.drop_succ_cons, List.drop_nil, List.nil_append, List.cons_append, List.append_nil, List.length_cons, List.length_nil, Nat.reduceLeDiff, and_self, and_true, true_and, Nat.le_refl, Nat.zero_le, rdA_var, rdA_arr, escP, List.all_cons, List.all_nil, Bool.and_self, Bool.true_and, Bool.and_true, r3, tend, tresAll, tresC, Option.bind_some, mapMem, retv_agc, esc_i, esc_b, esc_n, esc_m, esc_s, retv_l, retR_arr, retv_gref, retv_gmap, retv_gptr, Nat.zero_sub, Nat.sub_self, retv_int, retv_bool, retv_nil, retv_imm, retv_inil, retv_pnil, tup_nil, tup_one, tup_two, Prod.mk.injEq, CV.int.injEq, CV.bool.injEq, clen_rowsC, k8 g _ hgv false (decide_eq_false h1), k9]))
        | (revert hK; intro hK; (first | refine And.intro ?_ ?_ | (refine fun (h : (_ : Bool) = _) => ?_; subst h) | intro _ | omega | (with_reducible refine hK _ ?_; clear hK K))))
      all_goals exact ⟨_, rfl⟩
end Go.Cm
