/-
  Graphs: where dominance ends, by the program.
-/
import Derived.Test.YthjkmonenenlmaaDoU
import Derived.Test.YthjkmonenenlmaaDoG
import Derived.Test.YthjkmonenenlmaaDoH
import Derived.Test.YthjkmonenenlmaaDoK
import Derived.Test.YthjkmonenenlmaaDoM
set_option linter.unusedSimpArgs false
set_option linter.unusedVariables false
namespace Go.Cm
open Go.Proofs Go.Gr
/-- numbers in an old part of everybody's memory -/
def RefB (B : Nat) (H : List HO) (v : CV) (l : List Int) : Prop := (l = [] ∧ v = .nil) ∨ ∃ n g vl, n < B ∧ v = .ref (.g n) g 0 l.length ∧ H[n]? = some (.arr g 1 (l.flatMap intC) vl)
theorem RefG.old {H : List HO} {v : CV} {l : List Int} (h : RefG H v l) : RefB H.length H v l := by
  rcases h with h | ⟨n, g, vl, h1, h2⟩
  · exact .inl h
  · exact .inr ⟨n, g, vl, (List.getElem?_eq_some_iff.1 h2).1, h1, h2⟩
theorem RefB.mono {B : Nat} {H H' : List HO} {v : CV} {l : List Int} (h : RefB B H v l) (hH : ∀ i : Nat, i < B → H'[i]? = H[i]?) : RefB B H' v l := by
  rcases h with h | ⟨n, g, vl, h0, h1, h2⟩
  · exact .inl h
  · exact .inr ⟨n, g, vl, h0, h1, by rw [hH n h0, h2]⟩
theorem RefB.ref {B : Nat} {H : List HO} {v : CV} {l : List Int} (h : RefB B H v l) : RefG H v l := by
  rcases h with h | ⟨n, g, vl, _, h1, h2⟩
  · exact .inl h
  · exact .inr ⟨n, g, vl, h1, h2⟩
theorem frB_iff {g : List (List Int)} {u : Int → Int} (hch : ∀ x ∈ ord g, ∀ c, Ch u x c ↔ Dom g c x) (hV : Val g u) {x b : Int} (hb : b ∈ ord g) :
    frB g x b = true ↔ ∃ p ∈ prd g b, Pas u p (u b) x := by
  have hbr := ((mem_ord g b).1 hb).range
  have key : frB g x b = true ↔ ∃ p ∈ prd g b, Dom g x p ∧ (x = b ∨ ¬ Dom g x b) := by
    simp only [frB, Bool.and_eq_true, Bool.or_eq_true, decide_eq_true_eq, Bool.not_eq_true', leadsB, hb]
    constructor
    · rintro ⟨⟨⟨h1, _⟩, p, h2, h3, h4⟩, h5⟩
      have h6 : Dom g x p := by
        rw [tabRow, List.getElem?_map, List.getElem?_range h2] at h3
        exact domB_iff.1 (Option.some.inj h3)
      refine ⟨p, mem_prd.2 ⟨(mem_ord g p).2 h6.2.1, ?_⟩, h6, h5.imp id fun h hd => by rw [domB_iff.2 hd] at h; cases h⟩
      simp only [ins, Int.toNat_natCast, List.mem_filter, decide_eq_true_eq]
      exact ⟨h4, hbr⟩
    · rintro ⟨p, h1, h2, h3⟩
      obtain ⟨h4, h5⟩ := mem_prd.1 h1
      have hpr := ((mem_ord g p).1 h4).range
      have hpn : ((p.toNat : Nat) : Int) = p := by omega
      refine ⟨⟨⟨(mem_ord g x).2 h2.1, trivial⟩, p.toNat, by omega, ?_, ?_⟩, h3.imp id fun h => domB_false h⟩
      · rw [tabRow, List.getElem?_map, List.getElem?_range (by omega), Option.map_some]; simp only [hpn, domB_iff.2 h2]
      · simp only [ins, List.mem_filter] at h5
        exact h5.1
  rw [key]
  constructor
  · rintro ⟨p, h1, h2⟩
    exact ⟨p, h1, (front_iff hch hV hb h1).2 h2⟩
  · rintro ⟨p, h1, h2⟩
    exact ⟨p, h1, (front_iff hch hV hb h1).1 h2⟩
open Classical in
/-- a row on the way -/
noncomputable def addRow (g : List (List Int)) (d : List Int) (y : Int) (Q : Int → Prop) (x : Nat) : List Int := (d.filter fun z => frB g x z) ++ if Q x then [y] else []
theorem addRow_len {g : List (List Int)} {d : List Int} {y : Int} {Q : Int → Prop} {x : Nat} : (addRow g d y Q x).length ≤ d.length + 1 := by
  have := List.length_filter_le (fun z => frB g x z) d
  rw [addRow, List.length_append]
  split <;> simp <;> omega
theorem addRow_none {g : List (List Int)} {d : List Int} {y : Int} {Q : Int → Prop} (h : ∀ x, ¬ Q x) : addRow g d y Q = fun (x : Nat) => d.filter fun z => frB g x z := by
  funext x; rw [addRow, if_neg (h _), List.append_nil]
theorem addRow_mem {g : List (List Int)} {d : List Int} {y : Int} {Q : Int → Prop} {x : Nat} (hy : y ∉ d) : y ∈ addRow g d y Q x ↔ Q x := by
  rw [addRow, List.mem_append]
  constructor
  · rintro (h | h)
    · exact absurd (List.mem_filter.1 h).1 hy
    · split at h
      · assumption
      · cases h
  · intro h
    rw [if_pos h]
    exact .inr (List.mem_singleton.2 rfl)
theorem addRow_congr {g : List (List Int)} {d : List Int} {y : Int} {Q Q' : Int → Prop} (h : ∀ x, Q x ↔ Q' x) : addRow g d y Q = addRow g d y Q' := by
  funext x
  by_cases hq : Q x
  · simp only [addRow, if_pos hq, if_pos ((h _).1 hq)]
  · simp only [addRow, if_neg hq, if_neg fun h' => hq ((h _).2 h')]
theorem addRow_more {g : List (List Int)} {d : List Int} {y : Int} {Q Q' : Int → Prop} {c : Nat} (hc : ¬ Q c) (h : ∀ x, Q' x ↔ Q x ∨ x = c) : (fun z => if z = c then addRow g d y Q c ++ [y] else addRow g d y Q z) = addRow g d y Q' := by
  funext z
  by_cases hz : z = c
  · subst hz
    simp [addRow, hc, (h z).2 (.inr rfl)]
  · have : Q' z ↔ Q z := by rw [h]; exact ⟨fun h => h.elim id fun h => absurd (by omega) hz, .inl⟩
    rw [if_neg hz]
    by_cases hq : Q z
    · simp only [addRow, if_pos hq, if_pos (this.2 hq)]
    · simp only [addRow, if_neg hq, if_neg fun h' => hq (this.1 h')]
set_option maxHeartbeats 2000000 in
theorem x12 (g : List (List Int)) (hg : Sm g) (gv : CV) (hgv : IsRows gv g) :
    ∃ r, (∃ no cs H', r = (CV.ref (.g no) 1 0 g.length, H') ∧ H'[no]? = some (.arr 1 1 cs 0) ∧ ∀ x, x < g.length → ∃ v, cs[x]? = some v ∧ RefG H' v (frRow g x g.length)) ∧ FF 12 [gv] [] = some r := by
  have hgl := hg.1
  have hol := ord_len g
  have hord : ∀ x ∈ ord g, 0 ≤ x ∧ x < g.length := fun x hx => ((mem_ord g x).1 hx).range
  obtain ⟨vo, T, ho1, ho2⟩ := x19 g hg gv hgv []
  simp only [List.nil_append] at ho1 ho2
  have hc1 : ∀ L, callC An FF 12 (some 14) 19 [gv] ⟨L, []⟩ = some (vo, ⟨L, T⟩) := fun L => by
    rw [callC_I rfl (by simp only [List.all_cons, List.all_nil, escP_escQ hgv.esc, Bool.and_self]) ho1]
    rcases ho2 with ⟨_, rfl⟩ | ⟨n, gn, vl, rfl, _⟩ <;> rfl
  obtain ⟨_, ⟨v, H', up, rfl, ⟨nu, hnu, rfl, hup⟩, hul, hok, hout, hold⟩, hid⟩ := x16 g hg gv hgv T
  have hc2 : ∀ L, callC An FF 12 (some 16) 16 [gv] ⟨L, T⟩ = some (.ref (.g nu) 1 0 g.length, ⟨L, H'⟩) := fun L => by
    rw [callC_I rfl (by simp only [List.all_cons, List.all_nil, escP_escQ hgv.esc, Bool.and_self]) hid]; rfl
  have hTn : T.length ≤ H'.length := by
    have := (List.getElem?_eq_some_iff.1 hup).1
    omega
  have hmk := fun m => mkX_g (j := 304) (sz := 1) (b := 24) (z := [.nil]) (k := .i64) (n := g.length) (m := m) rfl (by omega) (by omega)
  obtain ⟨H2, hH2⟩ : ∃ H2, H2 = H' ++ [.arr 1 1 (reps g.length [.nil]) 0] := ⟨_, rfl⟩
  have hH2l : H2.length = H'.length + 1 := by rw [hH2]; simp
  have hno2 : H2[H'.length]? = some (.arr 1 1 (reps g.length [.nil]) 0) := by rw [hH2]; simp
  have hold2 : ∀ i, i < H'.length → H2[i]? = H'[i]? := fun i hi => by rw [hH2, List.getElem?_append_left hi]
  have hvo2 : RefB H'.length H2 vo (ord g) := by
    have h1 : RefB T.length H' vo (ord g) := ho2.old.mono fun i hi => hold i hi
    rcases h1 with h | ⟨n, gn, vl, h0, h1, h2⟩
    · exact .inl h
    · exact .inr ⟨n, gn, vl, by omega, h1, by rw [hold2 n (by omega), h2]⟩
  obtain ⟨H3, l, hp1, hP⟩ := x21 g hg gv hgv H2 vo (ord g) (.inr hvo2.ref) hord (by omega) (ord_nodup g)
  have hc3 : ∀ L, callC An FF 12 (some 22) 21 [gv, vo] ⟨L, H2⟩ = some (.map (.g H2.length) 1, ⟨L, H3⟩) := fun L => by
    rw [callC_I rfl (by simp only [List.all_cons, List.all_nil, escP_escQ hgv.esc, RdI.esc (.inr hvo2.ref), Bool.and_self]) hp1]; rfl
  have hR0 : RInv H3.length g.length H'.length H3 H3 (reps g.length [.nil]) (fun (x : Nat) => ([] : List Int).filter fun z => frB g x z) := by
    refine ⟨Nat.le_refl _, by have := hP.len; omega, by rw [hP.old _ (by omega), hno2], reps_len, fun x hx => .inl ⟨?_, rfl⟩, fun x y k gn gn' l l' h => ?_, fun i _ _ => rfl⟩
    · have : ∀ n x : Nat, x < n → (reps n [CV.nil])[x]? = some .nil := by
        intro n
        induction n with
        | zero => intro x hx; omega
        | succ n ih =>
          intro x hx
          cases x with
          | zero => rfl
          | succ x => exact ih x (by omega)
      exact this _ _ hx
    · have : ∀ n x : Nat, (reps n [CV.nil])[x]? = some .nil ∨ (reps n [CV.nil])[x]? = none := by
        intro n
        induction n with
        | zero => intro x; exact .inr rfl
        | succ n ih =>
          intro x
          cases x with
          | zero => exact .inl rfl
          | succ x => exact ih x
      rcases this g.length x with h' | h' <;> rw [h'] at h <;> cases h
  -- what stays
  have keep : ∀ {H cs f}, RInv H3.length g.length H'.length H3 H cs f → ∀ i, i < H3.length → i ≠ H'.length → H[i]? = H3[i]? := fun h => h.old
  have hvo : ∀ {H cs f}, RInv H3.length g.length H'.length H3 H cs f → RefG H vo (ord g) := fun {H cs f} h => by
    refine RefB.ref (B := H'.length) (hvo2.mono fun i hi => ?_)
    have := hP.len
    rw [h.old i (by omega) (by omega), hP.old i (by omega)]
  have hfr : ∀ {H cs f}, RInv H3.length g.length H'.length H3 H cs f → H[H2.length]? = some (.map 1 (esI .i64 l)) := fun {H cs f} h => by
    rw [h.old _ hP.len (by omega), hP.map]
  have hfrow : ∀ {H cs f}, RInv H3.length g.length H'.length H3 H cs f → ∀ y, RefG H ((al l y).getD .nil) (prd g y) := fun {H cs f} h y => by
    rcases hP.row y with ⟨h1, h2⟩ | ⟨n, gn, h1, hn, h2⟩
    · rw [h1]; exact .inl ⟨h2, rfl⟩
    · rw [h1]
      have := (List.getElem?_eq_some_iff.1 h2).1
      exact .inr ⟨n, gn, 0, rfl, by rw [h.old n this (by omega), h2]; rfl⟩
  have hupl : ∀ {H cs f}, RInv H3.length g.length H'.length H3 H cs f → ∀ x : Int, 0 ≤ x → x < g.length → ∀ L, ld1 ⟨L, H⟩ (.ptr (.g nu) 1 x.toNat) = some (.int .i64 (uf up x)) := fun {H cs f} h x h0 h1 L => by
    have h2 := (List.getElem?_eq_some_iff.1 hup).1
    have h3 := hP.len
    have h4 : H[nu]? = some (.arr 1 1 (up.flatMap intC) 0) := by rw [h.old nu (by omega) (by omega), hP.old nu (by omega), hold2 nu h2, hup]
    rw [ld1_g]
    simp only [h4, rd1_arr, flat_int]
    rw [List.getElem?_eq_getElem (by omega)]
    simp only [uf, if_pos h0, List.getD_eq_getElem?_getD, List.getElem?_eq_getElem (show x.toNat < up.length by omega), Option.getD_some, Option.map_some]
  have hidx : ∀ (n : Nat) (x : Int), 0 ≤ x → x < g.length → idxS 1 (.ref (.g n) 1 0 g.length) (.int .i64 x) = some (.ptr (.g n) 1 x.toNat) := fun n x h0 h1 => by
    rw [idxS_ref, if_pos ⟨h0, by omega⟩]; simp
  refine Fw_funE rfl Try.func12 s12 (Nat.le_of_ble_eq_true rfl) (fun Q hqr hqn => ?_)
  simp only [tinit, Nat.reduceAdd, c12]
  repeat' (first
  | ((with_reducible refine Tx_regK (fun K hK => ?_); (first | with_reducible refine t12r0 ?_ | with_reducible refine t12r1 ?_ | with_reducible refine t12r2 ?_ | with_reducible refine t12r3 ?_ | with_reducible refine t12r4 ?_)); (try simp only [true_implies, false_implies, not_true_eq_false, not_false_eq_true, tget_cons, if_true, if_false, Nat.reduceEqDiff, ccells, Obt_some, Kn_normal, newL_eq, newP_eq, newA_eq, newM_eq, newR_eq, newK_eq, nmA_f, nmR_f, gn_var, gn_arr, gn_map, gnext_setL, lget_setL, lget_lset, gnext_lset, setL_setL, setL_H, Nat.reduceMul, Nat.reduceAdd, Nat.zero_add, fldA_ptr, fldA_rptr, List.drop_zero, ld1_l, ld1_r, ldA_l, rd1_var, rd1_arr, List.getElem?_cons_zero, List.getElem?_cons_succ, Obt_lss, Obt_leq, Obt_gtr, Obt_geq, Obt_eql, Obt_neq, Obt_not, gdO_tt, gdO_tf, gdO_ff, gdO_ft, gdO_skip, Option.map_some, pickX_t, pickX_f, Obt_pickS, Obt_gdT, Obt_gdF, Bool.not_true, Bool.not_false, lenS, Obt_map, Obt_add, Obt_sub, Obt_mul, Obt_quo, Obt_rem, Obt_and, Obt_or, Obt_xor, Obt_andNot, Obt_shl, Obt_shr, Obt_neg, Obt_cpl, Obt_conv, Obt_ext, Obt_bind, Obt_ite', appX_l, appX_n, appR_arr, appN_some, content_l, conR_arr, content_nil, clen_n, clen_r, idxS_ref, fillX, bslX, escP_list, List.all_append, stX_l, stV_var, stV_arr, splice, List.take_zero, List.take_succ_cons, List.drop_succ_cons, List.drop_nil, List.nil_append, List.cons_append, List.append_nil, List.length_cons, List.length_nil, Nat.reduceLeDiff, and_self, and_true, true_and, Nat.le_refl, Nat.zero_le, rdA_var, rdA_arr, escP, List.all_cons, List.all_nil, Bool.and_self, Bool.true_and, Bool.and_true, r12, tend, tresAll, tresC, Option.bind_some, mapMem, retv_agc, esc_i, esc_b, esc_n, esc_m, esc_s, retv_l, retR_arr, retv_gref, retv_gmap, retv_gptr, Nat.zero_sub, Nat.sub_self, retv_int, retv_bool, retv_nil, retv_imm, retv_inil, retv_pnil, tup_nil, tup_one, tup_two, Prod.mk.injEq, CV.int.injEq, CV.bool.injEq, ld1_g, ldA_g, getH, getH0, setH, setH0, gnewL_eq, gnewP_eq, gnewA_eq, gnewR_eq, gnewM_eq, gnewK_eq, nmA_t, nmR_t, setG, stX_g, stW_var, List.append_assoc, List.length_append, List.set_cons_succ, List.set_cons_zero, escQ_list, escQ, mmX, invokeC_func, hgv.len, hc1, hc2, hmk]))
  | (revert hK; intro hK; (with_reducible refine hK _ ?_; clear hK K)))
  rw [← hH2, hc3]
  simp only [Obt_some]
  refine hK _ ?_
  clear hK K
  repeat' (first
  | with_reducible refine Tx_assoc ?_
  | with_reducible refine Tx_blockK (id := 0) (fun Q0 hn0 hx0 hr0 ho0 => ?_)
  | ((with_reducible refine Tx_regK (fun K hK => ?_); with_reducible refine t12r5 ?_); (try simp only [true_implies, false_implies, not_true_eq_false, not_false_eq_true, tget_cons, if_true, if_false, Nat.reduceEqDiff, ccells, Obt_some, Kn_normal, newL_eq, newP_eq, newA_eq, newM_eq, newR_eq, newK_eq, nmA_f, nmR_f, gn_var, gn_arr, gn_map, gnext_setL, lget_setL, lget_lset, gnext_lset, setL_setL, setL_H, Nat.reduceMul, Nat.reduceAdd, Nat.zero_add, fldA_ptr, fldA_rptr, List.drop_zero, ld1_l, ld1_r, ldA_l, rd1_var, rd1_arr, List.getElem?_cons_zero, List.getElem?_cons_succ, Obt_lss, Obt_leq, Obt_gtr, Obt_geq, Obt_eql, Obt_neq, Obt_not, gdO_tt, gdO_tf, gdO_ff, gdO_ft, gdO_skip, Option.map_some, pickX_t, pickX_f, Obt_pickS, Obt_gdT, Obt_gdF, Bool.not_true, Bool.not_false, lenS, Obt_map, Obt_add, Obt_sub, Obt_mul, Obt_quo, Obt_rem, Obt_and, Obt_or, Obt_xor, Obt_andNot, Obt_shl, Obt_shr, Obt_neg, Obt_cpl, Obt_conv, Obt_ext, Obt_bind, Obt_ite', appX_l, appX_n, appR_arr, appN_some, content_l, conR_arr, content_nil, clen_n, clen_r, idxS_ref, fillX, bslX, escP_list, List.all_append, stX_l, stV_var, stV_arr, splice, List.take_zero, List.take_succ_cons, List.drop_succ_cons, List.drop_nil, List.nil_append, List.cons_append, List.append_nil, List.length_cons, List.length_nil, Nat.reduceLeDiff, and_self, and_true, true_and, Nat.le_refl, Nat.zero_le, rdA_var, rdA_arr, escP, List.all_cons, List.all_nil, Bool.and_self, Bool.true_and, Bool.and_true, r12, tend, tresAll, tresC, Option.bind_some, mapMem, retv_agc, esc_i, esc_b, esc_n, esc_m, esc_s, retv_l, retR_arr, retv_gref, retv_gmap, retv_gptr, Nat.zero_sub, Nat.sub_self, retv_int, retv_bool, retv_nil, retv_imm, retv_inil, retv_pnil, tup_nil, tup_one, tup_two, Prod.mk.injEq, CV.int.injEq, CV.bool.injEq, ld1_g, ldA_g, getH, getH0, setH, setH0, gnewL_eq, gnewP_eq, gnewA_eq, gnewR_eq, gnewM_eq, gnewK_eq, nmA_t, nmR_t, setG, stX_g, stW_var, List.append_assoc, List.length_append, List.set_cons_succ, List.set_cons_zero, escQ_list, escQ, mmX, invokeC_func, (show clen vo = some (ord g).length from hvo2.ref.len)]))
  | (revert hK; intro hK; (with_reducible refine hK _ ?_; clear hK K)))
  have hvu : g ≠ [] → IdomOK g up := hok
  refine Tx_loopK (fun k s => ∃ (d t : List Int) (L : List (Nat × HO)) (H : List HO) (cs : List CV), ord g = d ++ t ∧ k = t.length ∧ RInv H3.length g.length H'.length H3 H cs (fun (x : Nat) => d.filter fun z => frB g x z) ∧
    s = ⟨[(4, .ref (.g nu) 1 0 g.length), (5, .ref (.g H'.length) 1 0 g.length), (6, .map (.g H2.length) 1), (23, vo), (24, .int .i64 (ord g).length), (25, .int .i64 d.length)], ⟨L, H⟩⟩) _ ⟨[], ord g, _, _, _, rfl, rfl, hR0, rfl⟩ ?_
  rintro k s ⟨d, t, L, H, cs, h3, rfl, hR, rfl⟩ QL2 hnL2 hxL2 hrL2
  have hlen := congrArg List.length h3
  simp only [List.length_append] at hlen
  simp only [c12l2]
  cases t with
  | nil =>
    simp only [List.length_nil] at hlen
    rw [List.append_nil] at h3
    subst h3
    repeat' (first
    | with_reducible refine Tx_assoc ?_
    | with_reducible refine Tx_noK rfl ?_
    | with_reducible refine Tx_exitK ?_
    | with_reducible refine hx0 _ ?_
    | with_reducible refine Tx_blockK (id := 6) (fun Q6 hn6 hx6 hr6 ho6 => ?_)
    | with_reducible refine hxL2 _ _ ?_
    | ((with_reducible refine Tx_regK (fun K hK => ?_); (first | with_reducible refine t12r6 ?_ | with_reducible refine t12r17 ?_)); (try simp only [true_implies, false_implies, not_true_eq_false, not_false_eq_true, tget_cons, if_true, if_false, Nat.reduceEqDiff, ccells, Obt_some, Kn_normal, newL_eq, newP_eq, newA_eq, newM_eq, newR_eq, newK_eq, nmA_f, nmR_f, gn_var, gn_arr, gn_map, gnext_setL, lget_setL, lget_lset, gnext_lset, setL_setL, setL_H, Nat.reduceMul, Nat.reduceAdd, Nat.zero_add, fldA_ptr, fldA_rptr, List.drop_zero, ld1_l, ld1_r, ldA_l, rd1_var, rd1_arr, List.getElem?_cons_zero, List.getElem?_cons_succ, Obt_lss, Obt_leq, Obt_gtr, Obt_geq, Obt_eql, Obt_neq, Obt_not, gdO_tt, gdO_tf, gdO_ff, gdO_ft, gdO_skip, Option.map_some, pickX_t, pickX_f, Obt_pickS, Obt_gdT, Obt_gdF, Bool.not_true, Bool.not_false, lenS, Obt_map, Obt_add, Obt_sub, Obt_mul, Obt_quo, Obt_rem, Obt_and, Obt_or, Obt_xor, Obt_andNot, Obt_shl, Obt_shr, Obt_neg, Obt_cpl, Obt_conv, Obt_ext, Obt_bind, Obt_ite', appX_l, appX_n, appR_arr, appN_some, content_l, conR_arr, content_nil, clen_n, clen_r, idxS_ref, fillX, bslX, escP_list, List.all_append, stX_l, stV_var, stV_arr, splice, List.take_zero, List.take_succ_cons, List.drop_succ_cons, List.drop_nil, List.nil_append, List.cons_append, List.append_nil, List.length_cons, List.length_nil, Nat.reduceLeDiff, and_self, and_true, true_and, Nat.le_refl, Nat.zero_le, rdA_var, rdA_arr, escP, List.all_cons, List.all_nil, Bool.and_self, Bool.true_and, Bool.and_true, r12, tend, tresAll, tresC, Option.bind_some, mapMem, retv_agc, esc_i, esc_b, esc_n, esc_m, esc_s, retv_l, retR_arr, retv_gref, retv_gmap, retv_gptr, Nat.zero_sub, Nat.sub_self, retv_int, retv_bool, retv_nil, retv_imm, retv_inil, retv_pnil, tup_nil, tup_one, tup_two, Prod.mk.injEq, CV.int.injEq, CV.bool.injEq, clen_r]))
    | (revert hK; intro hK; (first | refine And.intro ?_ ?_ | intro _ | omega | (with_reducible refine hK _ ?_; clear hK K))))
    refine Tx_loopK (fun k s => ∃ (i : Nat) (L : List (Nat × HO)) (H : List HO), i ≤ g.length ∧ k = g.length - i ∧ RInv H3.length g.length H'.length H3 H cs (fun (x : Nat) => if x < i then ((ord g).filter fun z => frB g x z).mergeSort (fun x y => decide (x ≤ y)) else (ord g).filter fun z => frB g x z) ∧
      s = ⟨[(5, .ref (.g H'.length) 1 0 g.length), (70, .ref (.g H'.length) 1 0 g.length), (71, .int .i64 g.length), (72, .int .i64 i)], ⟨L, H⟩⟩) _ ⟨0, _, _, Nat.zero_le _, rfl, by simpa using hR, rfl⟩ ?_
    rintro k s ⟨i, L3, H4, hi, rfl, hRs, rfl⟩ QL3 hnL3 hxL3 hrL3
    simp only [c12l3]
    by_cases hig : i = g.length
    · subst hig
      repeat' (first
      | with_reducible refine Tx_noK rfl ?_
      | with_reducible refine Tx_exitK ?_
      | with_reducible refine Tx_ret ?_
      | with_reducible refine hx6 _ ?_
      | with_reducible refine hxL3 _ _ ?_
      | ((first | (with_reducible refine Tx_regK (fun K hK => ?_); (first | with_reducible refine t12r18 ?_ | with_reducible refine t12r22 ?_)) | with_reducible refine hqr _ ?_); (try simp only [true_implies, false_implies, not_true_eq_false, not_false_eq_true, tget_cons, if_true, if_false, Nat.reduceEqDiff, ccells, Obt_some, Kn_normal, newL_eq, newP_eq, newA_eq, newM_eq, newR_eq, newK_eq, nmA_f, nmR_f, gn_var, gn_arr, gn_map, gnext_setL, lget_setL, lget_lset, gnext_lset, setL_setL, setL_H, Nat.reduceMul, Nat.reduceAdd, Nat.zero_add, fldA_ptr, fldA_rptr, List.drop_zero, ld1_l, ld1_r, ldA_l, rd1_var, rd1_arr, List.getElem?_cons_zero, List.getElem?_cons_succ, Obt_lss, Obt_leq, Obt_gtr, Obt_geq, Obt_eql, Obt_neq, Obt_not, gdO_tt, gdO_tf, gdO_ff, gdO_ft, gdO_skip, Option.map_some, pickX_t, pickX_f, Obt_pickS, Obt_gdT, Obt_gdF, Bool.not_true, Bool.not_false, lenS, Obt_map, Obt_add, Obt_sub, Obt_mul, Obt_quo, Obt_rem, Obt_and, Obt_or, Obt_xor, Obt_andNot, Obt_shl, Obt_shr, Obt_neg, Obt_cpl, Obt_conv, Obt_ext, Obt_bind, Obt_ite', appX_l, appX_n, appR_arr, appN_some, content_l, conR_arr, content_nil, clen_n, clen_r, idxS_ref, fillX, bslX, escP_list, List.all_append, stX_l, stV_var, stV_arr, splice, List.take_zero, List.take_succ_cons, List.drop_succ_cons, List.drop_nil, List.nil_append, List.cons_append, List.append_nil, List.length_cons, List.length_nil, Nat.reduceLeDiff, and_self, and_true, true_and, Nat.le_refl, Nat.zero_le, rdA_var, rdA_arr, escP, List.all_cons, List.all_nil, Bool.and_self, Bool.true_and, Bool.and_true, r12, tend, tresAll, tresC, Option.bind_some, mapMem, retv_agc, esc_i, esc_b, esc_n, esc_m, esc_s, retv_l, retR_arr, retv_gref, retv_gmap, retv_gptr, Nat.zero_sub, Nat.sub_self, retv_int, retv_bool, retv_nil, retv_imm, retv_inil, retv_pnil, tup_nil, tup_one, tup_two, Prod.mk.injEq, CV.int.injEq, CV.bool.injEq]))
      | (revert hK; intro hK; (first | refine And.intro ?_ ?_ | intro _ | omega | (with_reducible refine hK _ ?_; clear hK K))))
      refine ⟨H'.length, cs, H4, ⟨rfl, rfl⟩, hRs.tab, fun x hx => ?_⟩
      obtain ⟨v, hv1, hv2⟩ := hRs.get hx
      refine ⟨v, hv1, ?_⟩
      rw [if_pos hx, sort_eq (n := g.length) (p := fun (b : Nat) => frB g x b) ((ord_nodup g).sublist List.filter_sublist)] at hv2
      · exact hv2
      · intro z
        rw [List.mem_filter]
        constructor
        · rintro ⟨h1, h2⟩
          have := hord z h1
          have hz : ((z.toNat : Nat) : Int) = z := by omega
          exact ⟨z.toNat, by omega, by rw [hz]; exact h2, hz⟩
        · rintro ⟨b, h1, h2, rfl⟩
          refine ⟨?_, h2⟩
          simp only [frB, Bool.and_eq_true, decide_eq_true_eq] at h2
          exact h2.1.1.2
    · have hilt : (i : Int) < g.length := by omega
      have hwi : IntKind.i64.wrap ((i : Int) + 1) = ((i + 1 : Nat) : Int) := by rw [wI (by omega) (by omega)]; rfl
      obtain ⟨v, hv1, hv2⟩ := hRs.get (x := i) (by omega)
      have hix := hidx H'.length (i : Int) (by omega) hilt
      rw [Int.toNat_natCast] at hix
      have hld := fun (L : List (Nat × HO)) => hRs.ld hv1 (L := L)
      have hfl := List.length_filter_le (fun z => frB g i z) (ord g)
      obtain ⟨H5, hs1, hs2⟩ := hRs.sort (x := i) (by omega) hv1 (by simp; omega)
      have hcs : ∀ L, callC An FF 12 (some 77) 23 [v] ⟨L, H4⟩ = some (.tuple [], ⟨L, H5⟩) := fun L => by
        have hE := RdI.esc (.inr hv2)
        rw [callC_I rfl (by simp only [List.all_cons, hE]; rfl) (show FF 23 [v] H4 = some (.tuple [], H5) from Fw_iff.2 ⟨1, by simp only [tcall, hs1]⟩)]; rfl
      repeat' (first
      | with_reducible refine Tx_nopK ?_
      | with_reducible refine Tx_yesK rfl ?_
      | with_reducible refine Tx_blockK (id := 7) (fun Q7 hn7 hx7 hr7 ho7 => ?_)
      | with_reducible refine hn7 _ ?_
      | (((first | with_reducible refine Tx_regK (fun K hK => ?_) | with_reducible refine Tx_regE (fun K hK => ?_)); (first | with_reducible refine t12r18 ?_ | with_reducible refine t12r19 ?_ | with_reducible refine t12r20 ?_ | with_reducible refine t12r21 ?_)); (try simp only [true_implies, false_implies, not_true_eq_false, not_false_eq_true, tget_cons, if_true, if_false, Nat.reduceEqDiff, ccells, Obt_some, Kn_normal, newL_eq, newP_eq, newA_eq, newM_eq, newR_eq, newK_eq, nmA_f, nmR_f, gn_var, gn_arr, gn_map, gnext_setL, lget_setL, lget_lset, gnext_lset, setL_setL, setL_H, Nat.reduceMul, Nat.reduceAdd, Nat.zero_add, fldA_ptr, fldA_rptr, List.drop_zero, ld1_l, ld1_r, ldA_l, rd1_var, rd1_arr, List.getElem?_cons_zero, List.getElem?_cons_succ, Obt_lss, Obt_leq, Obt_gtr, Obt_geq, Obt_eql, Obt_neq, Obt_not, gdO_tt, gdO_tf, gdO_ff, gdO_ft, gdO_skip, Option.map_some, pickX_t, pickX_f, Obt_pickS, Obt_gdT, Obt_gdF, Bool.not_true, Bool.not_false, lenS, Obt_map, Obt_add, Obt_sub, Obt_mul, Obt_quo, Obt_rem, Obt_and, Obt_or, Obt_xor, Obt_andNot, Obt_shl, Obt_shr, Obt_neg, Obt_cpl, Obt_conv, Obt_ext, Obt_bind, Obt_ite', appX_l, appX_n, appR_arr, appN_some, content_l, conR_arr, content_nil, clen_n, clen_r, idxS_ref, fillX, bslX, escP_list, List.all_append, stX_l, stV_var, stV_arr, splice, List.take_zero, List.take_succ_cons, List.drop_succ_cons, List.drop_nil, List.nil_append, List.cons_append, List.append_nil, List.length_cons, List.length_nil, Nat.reduceLeDiff, and_self, and_true, true_and, Nat.le_refl, Nat.zero_le, rdA_var, rdA_arr, escP, List.all_cons, List.all_nil, Bool.and_self, Bool.true_and, Bool.and_true, r12, tend, tresAll, tresC, Option.bind_some, mapMem, retv_agc, esc_i, esc_b, esc_n, esc_m, esc_s, retv_l, retR_arr, retv_gref, retv_gmap, retv_gptr, Nat.zero_sub, Nat.sub_self, retv_int, retv_bool, retv_nil, retv_imm, retv_inil, retv_pnil, tup_nil, tup_one, tup_two, Prod.mk.injEq, CV.int.injEq, CV.bool.injEq, hilt, hix, hld, hcs, hwi]))
      | (revert hK; intro hK; (with_reducible refine hK _ ?_; clear hK K)))
      refine hnL3 (g.length - (i + 1)) _ (by omega) ⟨i + 1, _, H5, by omega, rfl, ?_, rfl⟩
      have : (fun (x : Nat) => if x < i + 1 then ((ord g).filter fun z => frB g x z).mergeSort (fun x y => decide (x ≤ y)) else (ord g).filter fun z => frB g x z) =
          fun z => if z = i then (if i < i then ((ord g).filter fun z => frB g i z).mergeSort (fun x y => decide (x ≤ y)) else (ord g).filter fun z => frB g i z).mergeSort (fun x y => decide (x ≤ y)) else if z < i then ((ord g).filter fun x => frB g z x).mergeSort (fun x y => decide (x ≤ y)) else (ord g).filter fun x => frB g z x := by
        funext z
        by_cases hz : z = i
        · subst hz; simp
        · have : z < i + 1 ↔ z < i := by omega
          simp only [this, hz, if_false]
      rw [this]
      exact hs2
  | cons y t =>
    simp only [List.length_cons] at hlen
    have hyl : (ord g)[d.length]? = some y := by rw [h3]; simp
    have hyo := List.mem_of_getElem? hyl
    have hyr := hord y hyo
    have hyd : y ∉ d := by
      intro h
      have hnd := ord_nodup g
      rw [h3, List.nodup_append] at hnd
      exact hnd.2.2 y h y List.mem_cons_self rfl
    have hgn : g ≠ [] := fun h => by rw [h] at hyo; simp [ord] at hyo
    obtain ⟨hI, hF⟩ := hok hgn
    have hV := hI.toVal
    have hch : ∀ x ∈ ord g, ∀ c, Ch (uf up) x c ↔ Dom g c x := fun x hx c => hI.final hF hx
    obtain ⟨p, hp1, hp2⟩ := RdI.at (.inr (hvo hR)) hyl (k := .i64)
    have hw : IntKind.i64.wrap ((d.length : Int) + 1) = d.length + 1 := wI (by omega) (by omega)
    have hlk := fun {L : List (Nat × HO)} => lookX_int (t := 3) (a := y) (z := .nil) (ok := false) Try.underlying3 (mapOf_g (m := ⟨L, H⟩) (hfr hR))
    simp only [Bool.false_eq_true, if_false] at hlk
    have hfl : (prd g y).length ≤ g.length := Nat.le_trans (List.length_filter_le _ _) hol
    generalize hvf : (al l y).getD .nil = vf at hlk
    have hvfl : clen vf = some (prd g y).length := by rw [← hvf]; exact (hfrow hR y).len
    repeat' (first
    | with_reducible refine Tx_nopK ?_
    | with_reducible refine Tx_yesK rfl ?_
    | with_reducible refine Tx_blockK (id := 1) (fun Q1 hn1 hx1 hr1 ho1 => ?_)
    | with_reducible refine Tx_blockE (id := 2) (fun Q2 hn2 hx2 hr2 ho2 => ?_)
    | ((with_reducible refine Tx_regK (fun K hK => ?_); (first | with_reducible refine t12r6 ?_ | with_reducible refine t12r7 ?_ | with_reducible refine t12r8 ?_)); (try simp only [true_implies, false_implies, not_true_eq_false, not_false_eq_true, tget_cons, if_true, if_false, Nat.reduceEqDiff, ccells, Obt_some, Kn_normal, newL_eq, newP_eq, newA_eq, newM_eq, newR_eq, newK_eq, nmA_f, nmR_f, gn_var, gn_arr, gn_map, gnext_setL, lget_setL, lget_lset, gnext_lset, setL_setL, setL_H, Nat.reduceMul, Nat.reduceAdd, Nat.zero_add, fldA_ptr, fldA_rptr, List.drop_zero, ld1_l, ld1_r, ldA_l, rd1_var, rd1_arr, List.getElem?_cons_zero, List.getElem?_cons_succ, Obt_lss, Obt_leq, Obt_gtr, Obt_geq, Obt_eql, Obt_neq, Obt_not, gdO_tt, gdO_tf, gdO_ff, gdO_ft, gdO_skip, Option.map_some, pickX_t, pickX_f, Obt_pickS, Obt_gdT, Obt_gdF, Bool.not_true, Bool.not_false, lenS, Obt_map, Obt_add, Obt_sub, Obt_mul, Obt_quo, Obt_rem, Obt_and, Obt_or, Obt_xor, Obt_andNot, Obt_shl, Obt_shr, Obt_neg, Obt_cpl, Obt_conv, Obt_ext, Obt_bind, Obt_ite', appX_l, appX_n, appR_arr, appN_some, content_l, conR_arr, content_nil, clen_n, clen_r, idxS_ref, fillX, bslX, escP_list, List.all_append, stX_l, stV_var, stV_arr, splice, List.take_zero, List.take_succ_cons, List.drop_succ_cons, List.drop_nil, List.nil_append, List.cons_append, List.append_nil, List.length_cons, List.length_nil, Nat.reduceLeDiff, and_self, and_true, true_and, Nat.le_refl, Nat.zero_le, rdA_var, rdA_arr, escP, List.all_cons, List.all_nil, Bool.and_self, Bool.true_and, Bool.and_true, r12, tend, tresAll, tresC, Option.bind_some, mapMem, retv_agc, esc_i, esc_b, esc_n, esc_m, esc_s, retv_l, retR_arr, retv_gref, retv_gmap, retv_gptr, Nat.zero_sub, Nat.sub_self, retv_int, retv_bool, retv_nil, retv_imm, retv_inil, retv_pnil, tup_nil, tup_one, tup_two, Prod.mk.injEq, CV.int.injEq, CV.bool.injEq, hp1, hp2, hlk, hvfl]))
    | (revert hK; intro hK; (first | refine And.intro ?_ ?_ | intro _ | omega | (with_reducible refine hK _ ?_; clear hK K))))
    refine Tx_loopK (fun k s => ∃ (d' t' : List Int) (L : List (Nat × HO)) (H : List HO) (cs : List CV), prd g y = d' ++ t' ∧ k = t'.length ∧ RInv H3.length g.length H'.length H3 H cs (addRow g d y fun x => ∃ q ∈ d', Pas (uf up) q (uf up y) x) ∧
      s = ⟨[(4, .ref (.g nu) 1 0 g.length), (5, .ref (.g H'.length) 1 0 g.length), (6, .map (.g H2.length) 1), (8, .int .i64 y), (23, vo), (24, .int .i64 (ord g).length), (25, .int .i64 d.length), (31, vf), (32, .int .i64 (prd g y).length), (33, .int .i64 d'.length)], ⟨L, H⟩⟩) _ ⟨[], prd g y, _, _, cs, rfl, rfl, ?_, rfl⟩ ?_
    · rw [addRow_none (by simp)]; exact hR
    rintro k s ⟨d', t', L2, Ha, csa, h4, rfl, hRa, rfl⟩ QL1 hnL1 hxL1 hrL1
    have hlen' := congrArg List.length h4
    simp only [List.length_append] at hlen'
    simp only [c12l1]
    cases t' with
    | nil =>
      simp only [List.length_nil] at hlen'
      rw [List.append_nil] at h4
      repeat' (first
      | with_reducible refine Tx_noK rfl ?_
      | with_reducible refine Tx_exitK ?_
      | with_reducible refine hn1 _ ?_
      | with_reducible refine hx2 _ ?_
      | with_reducible refine hxL1 _ _ ?_
      | (((first | with_reducible refine Tx_regK (fun K hK => ?_) | with_reducible refine Tx_regE (fun K hK => ?_)); (first | with_reducible refine t12r9 ?_ | with_reducible refine t12r16 ?_)); (try simp only [true_implies, false_implies, not_true_eq_false, not_false_eq_true, tget_cons, if_true, if_false, Nat.reduceEqDiff, ccells, Obt_some, Kn_normal, newL_eq, newP_eq, newA_eq, newM_eq, newR_eq, newK_eq, nmA_f, nmR_f, gn_var, gn_arr, gn_map, gnext_setL, lget_setL, lget_lset, gnext_lset, setL_setL, setL_H, Nat.reduceMul, Nat.reduceAdd, Nat.zero_add, fldA_ptr, fldA_rptr, List.drop_zero, ld1_l, ld1_r, ldA_l, rd1_var, rd1_arr, List.getElem?_cons_zero, List.getElem?_cons_succ, Obt_lss, Obt_leq, Obt_gtr, Obt_geq, Obt_eql, Obt_neq, Obt_not, gdO_tt, gdO_tf, gdO_ff, gdO_ft, gdO_skip, Option.map_some, pickX_t, pickX_f, Obt_pickS, Obt_gdT, Obt_gdF, Bool.not_true, Bool.not_false, lenS, Obt_map, Obt_add, Obt_sub, Obt_mul, Obt_quo, Obt_rem, Obt_and, Obt_or, Obt_xor, Obt_andNot, Obt_shl, Obt_shr, Obt_neg, Obt_cpl, Obt_conv, Obt_ext, Obt_bind, Obt_ite', appX_l, appX_n, appR_arr, appN_some, content_l, conR_arr, content_nil, clen_n, clen_r, idxS_ref, fillX, bslX, escP_list, List.all_append, stX_l, stV_var, stV_arr, splice, List.take_zero, List.take_succ_cons, List.drop_succ_cons, List.drop_nil, List.nil_append, List.cons_append, List.append_nil, List.length_cons, List.length_nil, Nat.reduceLeDiff, and_self, and_true, true_and, Nat.le_refl, Nat.zero_le, rdA_var, rdA_arr, escP, List.all_cons, List.all_nil, Bool.and_self, Bool.true_and, Bool.and_true, r12, tend, tresAll, tresC, Option.bind_some, mapMem, retv_agc, esc_i, esc_b, esc_n, esc_m, esc_s, retv_l, retR_arr, retv_gref, retv_gmap, retv_gptr, Nat.zero_sub, Nat.sub_self, retv_int, retv_bool, retv_nil, retv_imm, retv_inil, retv_pnil, tup_nil, tup_one, tup_two, Prod.mk.injEq, CV.int.injEq, CV.bool.injEq, hw]))
      | (revert hK; intro hK; (first | refine And.intro ?_ ?_ | intro _ | omega | (with_reducible refine hK _ ?_; clear hK K))))
      refine hnL2 t.length _ (by simp) ⟨d ++ [y], t, L2, Ha, csa, by simp [h3], rfl, ?_, by simp⟩
      have : (fun (x : Nat) => (d ++ [y]).filter fun z => frB g x z) = addRow g d y fun x => ∃ q ∈ d', Pas (uf up) q (uf up y) x := by
        funext x
        rw [filter_snoc, addRow]
        congr 1
        have := frB_iff hch hV (x := x) hyo
        rw [h4] at this
        by_cases hq : ∃ q ∈ d', Pas (uf up) q (uf up y) x
        · rw [if_pos hq, if_pos (this.2 hq)]
        · rw [if_neg hq, if_neg fun h => hq (this.1 h)]
      rw [this]; exact hRa
    | cons q t' =>
      simp only [List.length_cons] at hlen'
      have hql : (prd g y)[d'.length]? = some q := by rw [h4]; simp
      have hqp := List.mem_of_getElem? hql
      have hqo := (mem_prd.1 hqp).1
      have hqr := hord q hqo
      obtain ⟨p', hq1, hq2⟩ := RdI.at (.inr (by have := hfrow hRa y; rw [hvf] at this; exact this)) hql (k := .i64)
      have hw' : IntKind.i64.wrap ((d'.length : Int) + 1) = d'.length + 1 := wI (by omega) (by omega)
      repeat' (first
      | with_reducible refine Tx_nopK ?_
      | with_reducible refine Tx_yesK rfl ?_
      | with_reducible refine Tx_blockK (id := 3) (fun Q3 hn3 hx3 hr3 ho3 => ?_)
      | with_reducible refine Tx_blockE (id := 4) (fun Q4 hn4 hx4 hr4 ho4 => ?_)
      | ((with_reducible refine Tx_regK (fun K hK => ?_); (first | with_reducible refine t12r9 ?_ | with_reducible refine t12r10 ?_)); (try simp only [true_implies, false_implies, not_true_eq_false, not_false_eq_true, tget_cons, if_true, if_false, Nat.reduceEqDiff, ccells, Obt_some, Kn_normal, newL_eq, newP_eq, newA_eq, newM_eq, newR_eq, newK_eq, nmA_f, nmR_f, gn_var, gn_arr, gn_map, gnext_setL, lget_setL, lget_lset, gnext_lset, setL_setL, setL_H, Nat.reduceMul, Nat.reduceAdd, Nat.zero_add, fldA_ptr, fldA_rptr, List.drop_zero, ld1_l, ld1_r, ldA_l, rd1_var, rd1_arr, List.getElem?_cons_zero, List.getElem?_cons_succ, Obt_lss, Obt_leq, Obt_gtr, Obt_geq, Obt_eql, Obt_neq, Obt_not, gdO_tt, gdO_tf, gdO_ff, gdO_ft, gdO_skip, Option.map_some, pickX_t, pickX_f, Obt_pickS, Obt_gdT, Obt_gdF, Bool.not_true, Bool.not_false, lenS, Obt_map, Obt_add, Obt_sub, Obt_mul, Obt_quo, Obt_rem, Obt_and, Obt_or, Obt_xor, Obt_andNot, Obt_shl, Obt_shr, Obt_neg, Obt_cpl, Obt_conv, Obt_ext, Obt_bind, Obt_ite', appX_l, appX_n, appR_arr, appN_some, content_l, conR_arr, content_nil, clen_n, clen_r, idxS_ref, fillX, bslX, escP_list, List.all_append, stX_l, stV_var, stV_arr, splice, List.take_zero, List.take_succ_cons, List.drop_succ_cons, List.drop_nil, List.nil_append, List.cons_append, List.append_nil, List.length_cons, List.length_nil, Nat.reduceLeDiff, and_self, and_true, true_and, Nat.le_refl, Nat.zero_le, rdA_var, rdA_arr, escP, List.all_cons, List.all_nil, Bool.and_self, Bool.true_and, Bool.and_true, r12, tend, tresAll, tresC, Option.bind_some, mapMem, retv_agc, esc_i, esc_b, esc_n, esc_m, esc_s, retv_l, retR_arr, retv_gref, retv_gmap, retv_gptr, Nat.zero_sub, Nat.sub_self, retv_int, retv_bool, retv_nil, retv_imm, retv_inil, retv_pnil, tup_nil, tup_one, tup_two, Prod.mk.injEq, CV.int.injEq, CV.bool.injEq, hq1, hq2]))
      | (revert hK; intro hK; (first | refine And.intro ?_ ?_ | intro _ | omega | (with_reducible refine hK _ ?_; clear hK K))))
      refine Tx_loopK (fun k s => ∃ (c : Int) (L : List (Nat × HO)) (H : List HO) (cs : List CV), ((uf up y ≠ -1 → c ≠ -1 ∧ Ch (uf up) c (uf up y)) ∧ (c = -1 ∨ (c ∈ ord g ∧ Ch (uf up) q c))) ∧ k = (if c = -1 then 0 else pl g c + 1) ∧
        RInv H3.length g.length H'.length H3 H cs (addRow g d y fun x => (∃ q ∈ d', Pas (uf up) q (uf up y) x) ∨ Pas (uf up) q c x) ∧
        s = ⟨[(4, .ref (.g nu) 1 0 g.length), (5, .ref (.g H'.length) 1 0 g.length), (6, .map (.g H2.length) 1), (8, .int .i64 y), (10, .int .i64 c), (23, vo), (24, .int .i64 (ord g).length), (25, .int .i64 d.length), (31, vf), (32, .int .i64 (prd g y).length), (33, .int .i64 d'.length)], ⟨L, H⟩⟩) _
        ⟨q, _, _, csa, ⟨fun h => ⟨by omega, up_ahead hch hV hyo hqp h⟩, .inr ⟨hqo, .self _⟩⟩, rfl, ?_, rfl⟩ ?_
      · rw [addRow_congr (Q' := fun x => ∃ q ∈ d', Pas (uf up) q (uf up y) x) fun x => ⟨fun h => h.elim id fun h => absurd h (Pas.start (by omega)), .inl⟩]
        exact hRa
      rintro k s ⟨c, L3, Hb, csb, ⟨hc1', hc2'⟩, rfl, hRb, rfl⟩ QL0 hnL0 hxL0 hrL0
      simp only [c12l0]
      have fin : (c = uf up y) → QL1 .normal ⟨[(4, .ref (.g nu) 1 0 g.length), (5, .ref (.g H'.length) 1 0 g.length), (6, .map (.g H2.length) 1), (8, .int .i64 y), (23, vo), (24, .int .i64 (ord g).length), (25, .int .i64 d.length), (31, vf), (32, .int .i64 (prd g y).length), (33, .int .i64 (d'.length + 1))], ⟨L3, Hb⟩⟩ := fun hc => by
        refine hnL1 t'.length _ (by simp) ⟨d' ++ [q], t', L3, Hb, csb, by simp [h4], rfl, ?_, by simp⟩
        rw [addRow_congr (Q' := fun x => (∃ q ∈ d', Pas (uf up) q (uf up y) x) ∨ Pas (uf up) q c x) fun x => ?_]
        · exact hRb
        · subst hc
          constructor
          · rintro ⟨z, h1, h2⟩
            rcases List.mem_append.1 h1 with h1 | h1
            · exact .inl ⟨z, h1, h2⟩
            · rw [List.mem_singleton.1 h1] at h2; exact .inr h2
          · rintro (⟨z, h1, h2⟩ | h)
            · exact ⟨z, List.mem_append_left _ h1, h2⟩
            · exact ⟨q, by simp, h⟩
      by_cases hcm : c = -1
      · subst hcm
        have hum : uf up y = -1 := by
          by_cases h : uf up y = -1
          · exact h
          · exact absurd rfl (hc1' h).1
        have n1 : ¬ (0 : Int) ≤ -1 := by omega
        repeat' (first
        | with_reducible refine Tx_assoc ?_
        | with_reducible refine Tx_noK rfl ?_
        | with_reducible refine Tx_exitK ?_
        | with_reducible refine hn3 _ ?_
        | with_reducible refine hx4 _ ?_
        | with_reducible refine hxL0 _ _ ?_
        | (((first | with_reducible refine Tx_regK (fun K hK => ?_) | with_reducible refine Tx_regE (fun K hK => ?_)); (first | with_reducible refine t12r11 ?_ | with_reducible refine t12r15 ?_)); (try simp only [true_implies, false_implies, not_true_eq_false, not_false_eq_true, tget_cons, if_true, if_false, Nat.reduceEqDiff, ccells, Obt_some, Kn_normal, newL_eq, newP_eq, newA_eq, newM_eq, newR_eq, newK_eq, nmA_f, nmR_f, gn_var, gn_arr, gn_map, gnext_setL, lget_setL, lget_lset, gnext_lset, setL_setL, setL_H, Nat.reduceMul, Nat.reduceAdd, Nat.zero_add, fldA_ptr, fldA_rptr, List.drop_zero, ld1_l, ld1_r, ldA_l, rd1_var, rd1_arr, List.getElem?_cons_zero, List.getElem?_cons_succ, Obt_lss, Obt_leq, Obt_gtr, Obt_geq, Obt_eql, Obt_neq, Obt_not, gdO_tt, gdO_tf, gdO_ff, gdO_ft, gdO_skip, Option.map_some, pickX_t, pickX_f, Obt_pickS, Obt_gdT, Obt_gdF, Bool.not_true, Bool.not_false, lenS, Obt_map, Obt_add, Obt_sub, Obt_mul, Obt_quo, Obt_rem, Obt_and, Obt_or, Obt_xor, Obt_andNot, Obt_shl, Obt_shr, Obt_neg, Obt_cpl, Obt_conv, Obt_ext, Obt_bind, Obt_ite', appX_l, appX_n, appR_arr, appN_some, content_l, conR_arr, content_nil, clen_n, clen_r, idxS_ref, fillX, bslX, escP_list, List.all_append, stX_l, stV_var, stV_arr, splice, List.take_zero, List.take_succ_cons, List.drop_succ_cons, List.drop_nil, List.nil_append, List.cons_append, List.append_nil, List.length_cons, List.length_nil, Nat.reduceLeDiff, and_self, and_true, true_and, Nat.le_refl, Nat.zero_le, rdA_var, rdA_arr, escP, List.all_cons, List.all_nil, Bool.and_self, Bool.true_and, Bool.and_true, r12, tend, tresAll, tresC, Option.bind_some, mapMem, retv_agc, esc_i, esc_b, esc_n, esc_m, esc_s, retv_l, retR_arr, retv_gref, retv_gmap, retv_gptr, Nat.zero_sub, Nat.sub_self, retv_int, retv_bool, retv_nil, retv_imm, retv_inil, retv_pnil, tup_nil, tup_one, tup_two, Prod.mk.injEq, CV.int.injEq, CV.bool.injEq, n1, hw']))
        | (revert hK; intro hK; (with_reducible refine hK _ ?_; clear hK K)))
        exact fin hum.symm
      · obtain ⟨hco, hcq⟩ : c ∈ ord g ∧ Ch (uf up) q c := hc2'.resolve_left hcm
        have hcr := hord c hco
        have n1 : (0 : Int) ≤ c := by omega
        have hiu := hidx nu y hyr.1 hyr.2
        have hlu := hupl hRb y hyr.1 hyr.2
        have hicu := hidx nu c hcr.1 hcr.2
        have hlcu := hupl hRb c hcr.1 hcr.2
        by_cases hcu : c = uf up y
        · repeat' (first
          | with_reducible refine Tx_assoc ?_
          | with_reducible refine Tx_noK rfl ?_
          | with_reducible refine Tx_exitK ?_
          | with_reducible refine hn3 _ ?_
          | with_reducible refine hx4 _ ?_
          | with_reducible refine hxL0 _ _ ?_
          | (((first | with_reducible refine Tx_regK (fun K hK => ?_) | with_reducible refine Tx_regE (fun K hK => ?_)); (first | with_reducible refine t12r11 ?_ | with_reducible refine t12r15 ?_)); (try simp only [true_implies, false_implies, not_true_eq_false, not_false_eq_true, tget_cons, if_true, if_false, Nat.reduceEqDiff, ccells, Obt_some, Kn_normal, newL_eq, newP_eq, newA_eq, newM_eq, newR_eq, newK_eq, nmA_f, nmR_f, gn_var, gn_arr, gn_map, gnext_setL, lget_setL, lget_lset, gnext_lset, setL_setL, setL_H, Nat.reduceMul, Nat.reduceAdd, Nat.zero_add, fldA_ptr, fldA_rptr, List.drop_zero, ld1_l, ld1_r, ldA_l, rd1_var, rd1_arr, List.getElem?_cons_zero, List.getElem?_cons_succ, Obt_lss, Obt_leq, Obt_gtr, Obt_geq, Obt_eql, Obt_neq, Obt_not, gdO_tt, gdO_tf, gdO_ff, gdO_ft, gdO_skip, Option.map_some, pickX_t, pickX_f, Obt_pickS, Obt_gdT, Obt_gdF, Bool.not_true, Bool.not_false, lenS, Obt_map, Obt_add, Obt_sub, Obt_mul, Obt_quo, Obt_rem, Obt_and, Obt_or, Obt_xor, Obt_andNot, Obt_shl, Obt_shr, Obt_neg, Obt_cpl, Obt_conv, Obt_ext, Obt_bind, Obt_ite', appX_l, appX_n, appR_arr, appN_some, content_l, conR_arr, content_nil, clen_n, clen_r, idxS_ref, fillX, bslX, escP_list, List.all_append, stX_l, stV_var, stV_arr, splice, List.take_zero, List.take_succ_cons, List.drop_succ_cons, List.drop_nil, List.nil_append, List.cons_append, List.append_nil, List.length_cons, List.length_nil, Nat.reduceLeDiff, and_self, and_true, true_and, Nat.le_refl, Nat.zero_le, rdA_var, rdA_arr, escP, List.all_cons, List.all_nil, Bool.and_self, Bool.true_and, Bool.and_true, r12, tend, tresAll, tresC, Option.bind_some, mapMem, retv_agc, esc_i, esc_b, esc_n, esc_m, esc_s, retv_l, retR_arr, retv_gref, retv_gmap, retv_gptr, Nat.zero_sub, Nat.sub_self, retv_int, retv_bool, retv_nil, retv_imm, retv_inil, retv_pnil, tup_nil, tup_one, tup_two, Prod.mk.injEq, CV.int.injEq, CV.bool.injEq, n1, hiu, hlu, ← hcu, hw']))
          | (revert hK; intro hK; (with_reducible refine hK _ ?_; clear hK K)))
          first | exact fin hcu | trivial
        · have hico := hidx H'.length c hcr.1 hcr.2
          obtain ⟨v, hv1, hv2⟩ := hRb.get (x := c.toNat) (by omega)
          have hcn : ((c.toNat : Nat) : Int) = c := by omega
          have hld := fun (L : List (Nat × HO)) => hRb.ld hv1 (L := L)
          have hrl := addRow_len (g := g) (d := d) (y := y) (Q := fun x => (∃ q ∈ d', Pas (uf up) q (uf up y) x) ∨ Pas (uf up) q c x) (x := c.toNat)
          have hct : ∀ L, callC An FF 12 (some 56) 22 [v, .int .i64 y] ⟨L, Hb⟩ = some (.bool (decide (y ∈ addRow g d y (fun x => (∃ q ∈ d', Pas (uf up) q (uf up y) x) ∨ Pas (uf up) q c x) c.toNat)), ⟨L, Hb⟩) := fun L => by
            have hE := RdI.esc (.inr hv2)
            rw [callC_I rfl (by simp only [List.all_cons, hE]; rfl) (x22 Hb _ _ y (.inr hv2) (by omega)), adopt_bool]
          have hmem := addRow_mem (g := g) (Q := fun x => (∃ q ∈ d', Pas (uf up) q (uf up y) x) ∨ Pas (uf up) q c x) (x := c.toNat) hyd
          rw [hcn] at hmem
          have hnx : ∀ x, ((∃ q ∈ d', Pas (uf up) q (uf up y) x) ∨ Pas (uf up) q (uf up c) x) ↔ ((∃ q ∈ d', Pas (uf up) q (uf up y) x) ∨ Pas (uf up) q c x) ∨ x = c := fun x => by
            rw [Pas.next hV hcq hcm, or_assoc]
          have next : ∀ L H cs, RInv H3.length g.length H'.length H3 H cs (addRow g d y fun x => (∃ q ∈ d', Pas (uf up) q (uf up y) x) ∨ Pas (uf up) q (uf up c) x) →
              QL0 .normal ⟨[(4, .ref (.g nu) 1 0 g.length), (5, .ref (.g H'.length) 1 0 g.length), (6, .map (.g H2.length) 1), (8, .int .i64 y), (10, .int .i64 (uf up c)), (23, vo), (24, .int .i64 (ord g).length), (25, .int .i64 d.length), (31, vf), (32, .int .i64 (prd g y).length), (33, .int .i64 d'.length)], ⟨L, H⟩⟩ := fun L H cs hRc => by
            refine hnL0 (if uf up c = -1 then 0 else pl g (uf up c) + 1) _ ?_ ⟨uf up c, L, H, cs, ⟨fun h => ?_, ?_⟩, rfl, hRc, rfl⟩
            · rw [if_neg hcm]
              split
              · omega
              · rename_i h; have := (hV.up c h).2.2; omega
            · cases (hc1' h).2 with
              | self => exact absurd rfl hcu
              | step h1 h2 => exact ⟨h1, h2⟩
            · by_cases h : uf up c = -1
              · exact .inl h
              · exact .inr ⟨(hV.up c h).2.1, hcq.trans (.step h (.self _))⟩
          by_cases hin : (∃ q ∈ d', Pas (uf up) q (uf up y) c) ∨ Pas (uf up) q c c
          · have hdt : decide (y ∈ addRow g d y (fun x => (∃ q ∈ d', Pas (uf up) q (uf up y) x) ∨ Pas (uf up) q c x) c.toNat) = true := decide_eq_true (hmem.2 hin)
            rw [hdt] at hct
            repeat' (first
            | with_reducible refine Tx_assoc ?_
            | with_reducible refine Tx_nopK ?_
            | with_reducible refine Tx_yesK rfl ?_
            | with_reducible refine Tx_no rfl ?_
            | with_reducible refine Tx_nop ?_
            | with_reducible refine Tx_blockK (id := 5) (fun Q5 hn5 hx5 hr5 ho5 => ?_)
            | with_reducible refine hn5 _ ?_
            | (((first | with_reducible refine Tx_regK (fun K hK => ?_) | with_reducible refine Tx_regE (fun K hK => ?_)); (first | with_reducible refine t12r11 ?_ | with_reducible refine t12r13 ?_ | with_reducible refine t12r12 ?_)); (try simp only [true_implies, false_implies, not_true_eq_false, not_false_eq_true, tget_cons, if_true, if_false, Nat.reduceEqDiff, ccells, Obt_some, Kn_normal, newL_eq, newP_eq, newA_eq, newM_eq, newR_eq, newK_eq, nmA_f, nmR_f, gn_var, gn_arr, gn_map, gnext_setL, lget_setL, lget_lset, gnext_lset, setL_setL, setL_H, Nat.reduceMul, Nat.reduceAdd, Nat.zero_add, fldA_ptr, fldA_rptr, List.drop_zero, ld1_l, ld1_r, ldA_l, rd1_var, rd1_arr, List.getElem?_cons_zero, List.getElem?_cons_succ, Obt_lss, Obt_leq, Obt_gtr, Obt_geq, Obt_eql, Obt_neq, Obt_not, gdO_tt, gdO_tf, gdO_ff, gdO_ft, gdO_skip, Option.map_some, pickX_t, pickX_f, Obt_pickS, Obt_gdT, Obt_gdF, Bool.not_true, Bool.not_false, lenS, Obt_map, Obt_add, Obt_sub, Obt_mul, Obt_quo, Obt_rem, Obt_and, Obt_or, Obt_xor, Obt_andNot, Obt_shl, Obt_shr, Obt_neg, Obt_cpl, Obt_conv, Obt_ext, Obt_bind, Obt_ite', appX_l, appX_n, appR_arr, appN_some, content_l, conR_arr, content_nil, clen_n, clen_r, idxS_ref, fillX, bslX, escP_list, List.all_append, stX_l, stV_var, stV_arr, splice, List.take_zero, List.take_succ_cons, List.drop_succ_cons, List.drop_nil, List.nil_append, List.cons_append, List.append_nil, List.length_cons, List.length_nil, Nat.reduceLeDiff, and_self, and_true, true_and, Nat.le_refl, Nat.zero_le, rdA_var, rdA_arr, escP, List.all_cons, List.all_nil, Bool.and_self, Bool.true_and, Bool.and_true, r12, tend, tresAll, tresC, Option.bind_some, mapMem, retv_agc, esc_i, esc_b, esc_n, esc_m, esc_s, retv_l, retR_arr, retv_gref, retv_gmap, retv_gptr, Nat.zero_sub, Nat.sub_self, retv_int, retv_bool, retv_nil, retv_imm, retv_inil, retv_pnil, tup_nil, tup_one, tup_two, Prod.mk.injEq, CV.int.injEq, CV.bool.injEq, n1, hiu, hlu, hcu, hico, hld, hct, hicu, hlcu]))
            | (revert hK; intro hK; (with_reducible refine hK _ ?_; clear hK K)))
            refine next _ _ csb ?_
            rw [addRow_congr fun x => (hnx x).trans ⟨fun h => h.elim id fun h => by rw [h]; exact hin, .inl⟩]
            exact hRb
          · have hdt : decide (y ∈ addRow g d y (fun x => (∃ q ∈ d', Pas (uf up) q (uf up y) x) ∨ Pas (uf up) q c x) c.toNat) = false := decide_eq_false fun h => hin (hmem.1 h)
            rw [hdt] at hct
            repeat' (first
            | with_reducible refine Tx_assoc ?_
            | with_reducible refine Tx_nopK ?_
            | with_reducible refine Tx_yesK rfl ?_
            | with_reducible refine Tx_yes rfl ?_
            | with_reducible refine Tx_blockK (id := 5) (fun Q5 hn5 hx5 hr5 ho5 => ?_)
            | (((first | with_reducible refine Tx_regK (fun K hK => ?_) | with_reducible refine Tx_regE (fun K hK => ?_)); (first | with_reducible refine t12r11 ?_ | with_reducible refine t12r13 ?_ | with_reducible refine t12r14 ?_)); (try simp only [true_implies, false_implies, not_true_eq_false, not_false_eq_true, tget_cons, if_true, if_false, Nat.reduceEqDiff, ccells, Obt_some, Kn_normal, newL_eq, newP_eq, newA_eq, newM_eq, newR_eq, newK_eq, nmA_f, nmR_f, gn_var, gn_arr, gn_map, gnext_setL, lget_setL, lget_lset, gnext_lset, setL_setL, setL_H, Nat.reduceMul, Nat.reduceAdd, Nat.zero_add, fldA_ptr, fldA_rptr, List.drop_zero, ld1_l, ld1_r, ldA_l, rd1_var, rd1_arr, List.getElem?_cons_zero, List.getElem?_cons_succ, Obt_lss, Obt_leq, Obt_gtr, Obt_geq, Obt_eql, Obt_neq, Obt_not, gdO_tt, gdO_tf, gdO_ff, gdO_ft, gdO_skip, Option.map_some, pickX_t, pickX_f, Obt_pickS, Obt_gdT, Obt_gdF, Bool.not_true, Bool.not_false, lenS, Obt_map, Obt_add, Obt_sub, Obt_mul, Obt_quo, Obt_rem, Obt_and, Obt_or, Obt_xor, Obt_andNot, Obt_shl, Obt_shr, Obt_neg, Obt_cpl, Obt_conv, Obt_ext, Obt_bind, Obt_ite', appX_l, appX_n, appR_arr, appN_some, content_l, conR_arr, content_nil, clen_n, clen_r, idxS_ref, fillX, bslX, escP_list, List.all_append, stX_l, stV_var, stV_arr, splice, List.take_zero, List.take_succ_cons, List.drop_succ_cons, List.drop_nil, List.nil_append, List.cons_append, List.append_nil, List.length_cons, List.length_nil, Nat.reduceLeDiff, and_self, and_true, true_and, Nat.le_refl, Nat.zero_le, rdA_var, rdA_arr, escP, List.all_cons, List.all_nil, Bool.and_self, Bool.true_and, Bool.and_true, r12, tend, tresAll, tresC, Option.bind_some, mapMem, retv_agc, esc_i, esc_b, esc_n, esc_m, esc_s, retv_l, retR_arr, retv_gref, retv_gmap, retv_gptr, Nat.zero_sub, Nat.sub_self, retv_int, retv_bool, retv_nil, retv_imm, retv_inil, retv_pnil, tup_nil, tup_one, tup_two, Prod.mk.injEq, CV.int.injEq, CV.bool.injEq, n1, hiu, hlu, hcu, hico, hld, hct, hicu, hlcu]))
            | (revert hK; intro hK; (with_reducible refine hK _ ?_; clear hK K)))
            have hmore := addRow_more (g := g) (d := d) (y := y) (c := c.toNat) (Q := fun x => (∃ q ∈ d', Pas (uf up) q (uf up y) x) ∨ Pas (uf up) q c x) (Q' := fun x => (∃ q ∈ d', Pas (uf up) q (uf up y) x) ∨ Pas (uf up) q (uf up c) x) (by rw [hcn]; exact hin) (by rw [hcn]; exact hnx)
            obtain ⟨w, H4, H5, cs5, a1, a2, a3⟩ := hRb.step (x := c.toNat) (by omega) hv1 y (j := 1056) (jt := 1040) (gt := gnext L3 1040) (L := (setL ⟨L3, Hb⟩ 1040 (.arr (gnext L3 1040) 1 [.int .i64 y] 0)).L) (by rw [lget_setL, if_pos rfl]) (by omega)
            rw [hmore] at a3
            refine Obt_of a1 ?_
            simp only [hico, Obt_some]
            refine Obt_of a2 ?_
            refine hK _ ?_
            clear hK K
            have hlcu' := hupl a3 c hcr.1 hcr.2
            repeat' (first
            | with_reducible refine hn5 _ ?_
            | ((with_reducible refine Tx_regE (fun K hK => ?_); with_reducible refine t12r12 ?_); (try simp only [true_implies, false_implies, not_true_eq_false, not_false_eq_true, tget_cons, if_true, if_false, Nat.reduceEqDiff, ccells, Obt_some, Kn_normal, newL_eq, newP_eq, newA_eq, newM_eq, newR_eq, newK_eq, nmA_f, nmR_f, gn_var, gn_arr, gn_map, gnext_setL, lget_setL, lget_lset, gnext_lset, setL_setL, setL_H, Nat.reduceMul, Nat.reduceAdd, Nat.zero_add, fldA_ptr, fldA_rptr, List.drop_zero, ld1_l, ld1_r, ldA_l, rd1_var, rd1_arr, List.getElem?_cons_zero, List.getElem?_cons_succ, Obt_lss, Obt_leq, Obt_gtr, Obt_geq, Obt_eql, Obt_neq, Obt_not, gdO_tt, gdO_tf, gdO_ff, gdO_ft, gdO_skip, Option.map_some, pickX_t, pickX_f, Obt_pickS, Obt_gdT, Obt_gdF, Bool.not_true, Bool.not_false, lenS, Obt_map, Obt_add, Obt_sub, Obt_mul, Obt_quo, Obt_rem, Obt_and, Obt_or, Obt_xor, Obt_andNot, Obt_shl, Obt_shr, Obt_neg, Obt_cpl, Obt_conv, Obt_ext, Obt_bind, Obt_ite', appX_l, appX_n, appR_arr, appN_some, content_l, conR_arr, content_nil, clen_n, clen_r, idxS_ref, fillX, bslX, escP_list, List.all_append, stX_l, stV_var, stV_arr, splice, List.take_zero, List.take_succ_cons, List.drop_succ_cons, List.drop_nil, List.nil_append, List.cons_append, List.append_nil, List.length_cons, List.length_nil, Nat.reduceLeDiff, and_self, and_true, true_and, Nat.le_refl, Nat.zero_le, rdA_var, rdA_arr, escP, List.all_cons, List.all_nil, Bool.and_self, Bool.true_and, Bool.and_true, r12, tend, tresAll, tresC, Option.bind_some, mapMem, retv_agc, esc_i, esc_b, esc_n, esc_m, esc_s, retv_l, retR_arr, retv_gref, retv_gmap, retv_gptr, Nat.zero_sub, Nat.sub_self, retv_int, retv_bool, retv_nil, retv_imm, retv_inil, retv_pnil, tup_nil, tup_one, tup_two, Prod.mk.injEq, CV.int.injEq, CV.bool.injEq, hicu, hlcu']))
            | (revert hK; intro hK; (with_reducible refine hK _ ?_; clear hK K)))
            exact next _ _ cs5 a3
end Go.Cm

/-
  Graphs: who dominates whom: the law.
-/
namespace Go.Cm
open Go.Proofs Go.Gr
theorem k11 (g : List (List Int)) (hg : Sm g) (gv : CV) (hgv : IsRows gv g) (a b : Int) {fid : FuncId} {d : Tmp} {m : Mem} : callC An FF fid (some d) 11 [gv, .int .i64 a, .int .i64 b] m = some (.bool (domB g a b), m) := by
  obtain ⟨_, ⟨H', rfl⟩, h⟩ := x11 g hg gv hgv a b
  rw [callC_P h rfl (by simp only [List.all_cons, List.all_nil, escP_escQ hgv.esc, escQ_int, Bool.and_self]) (by simp only [noGs, hgv.noG, noG_int, Bool.and_self]) rfl, adopt_bool]
set_option maxHeartbeats 1000000 in
theorem x4 (g : List (List Int)) (hr0 : ∀ r ∈ g, r.length ≤ 17592186044416) (ht : um g [] ≤ 17179869184) (a b : Int) : ∃ r, (∃ H', r = (CV.bool true, H')) ∧ FF 4 [rowsC g, .int .i64 a, .int .i64 b] [] = some r := by
  have hgv := IsRows.of g
  by_cases hs : (g.length : Int) ≤ 60
  · have hg : Sm g := Sm.of hs hr0
    have hgl := hg.1
    obtain ⟨_, ⟨no, cs, H1, rfl, htab, hrow⟩, hfr⟩ := x12 g hg _ hgv
    have hc1 : ∀ L, callC An FF 4 (some 15) 12 [rowsC g] ⟨L, []⟩ = some (.ref (.g no) 1 0 g.length, ⟨L, H1⟩) := fun L => by
      rw [callC_I rfl (by simp only [List.all_cons, List.all_nil, escP_escQ hgv.esc, Bool.and_self]) hfr]; rfl
    obtain ⟨_, ⟨H2, rfl⟩, hfr2⟩ := x13 g hg ht _ hgv
    obtain ⟨vy, m', ha1, ha2, ha3, ha4⟩ := adopt_ownC (e := rowIC) (sz := 1) (m := ⟨[], H1⟩) (l := frL g) (d := 17) (show (An.glob 4).contains 17 = false from rfl)
    have hc2 : callC An FF 4 (some 17) 13 [rowsC g] ⟨[], H1⟩ = some (vy, m') := by
      rw [callC_P hfr2 rfl (by simp only [List.all_cons, List.all_nil, escP_escQ hgv.esc, Bool.and_self]) (by simp only [noGs, hgv.noG, Bool.and_self]) (noG_ownC rowIC_N _), ha1]
    obtain ⟨L1, H1'⟩ := m'
    simp only at ha3
    subst ha3
    have hd := fun m => k11 g hg _ hgv a b (fid := 4) (d := 27) (m := m)
    obtain ⟨_, ⟨H3, rfl⟩, hd2⟩ := x14 g hg ht _ hgv a b
    have hd2' : ∀ m, callC An FF 4 (some 31) 14 [rowsC g, .int .i64 a, .int .i64 b] m = some (.bool (domB g a b), m) := fun m => by
      rw [callC_P hd2 rfl (by simp only [List.all_cons, List.all_nil, escP_escQ hgv.esc, escQ_int, Bool.and_self]) (by simp only [noGs, hgv.noG, noG_int, Bool.and_self]) rfl, adopt_bool]
    obtain ⟨_, ⟨v, H4, up, rfl, ⟨nu, hnu, rfl, hup⟩, hul, hok, hout, hold⟩, hid⟩ := x16 g hg _ hgv H1'
    have hc3 : ∀ L, callC An FF 4 (some 36) 16 [rowsC g] ⟨L, H1'⟩ = some (.ref (.g nu) 1 0 g.length, ⟨L, H4⟩) := fun L => by
      rw [callC_I rfl (by simp only [List.all_cons, List.all_nil, escP_escQ hgv.esc, Bool.and_self]) hid]; rfl
    have hupid : up = idL g := by
      refine List.ext_getElem? fun j => ?_
      by_cases hj : j < g.length
      · have hgn : g ≠ [] := fun h => by rw [h] at hj; simp at hj
        obtain ⟨hI, hF⟩ := hok hgn
        have h1 := idS_eq (fun x hx c => hI.final hF hx) hI.toVal (fun i hi => hout i (by omega) hi) (b := j)
        rw [idL, List.getElem?_map, List.getElem?_range hj, Option.map_some, ← h1, uf, if_pos (by omega), Int.toNat_natCast, List.getD_eq_getElem?_getD, List.getElem?_eq_getElem (by omega)]
        rfl
      · rw [List.getElem?_eq_none (by omega), List.getElem?_eq_none (by rw [idL_len]; omega)]
    obtain ⟨_, ⟨H5, rfl⟩, hid2⟩ := x17 g hg ht _ hgv
    obtain ⟨v2, E2, hb1, hb2⟩ := adopt_ownG (l := idL g) (d := 38) (H := H4) (show (An.glob 4).contains 38 = true from rfl)
    have hc4 : ∀ L, callC An FF 4 (some 38) 17 [rowsC g] ⟨L, H4⟩ = some (v2, ⟨L, H4 ++ E2⟩) := fun L => by
      rw [callC_P hid2 rfl (by simp only [List.all_cons, List.all_nil, escP_escQ hgv.esc, Bool.and_self]) (by simp only [noGs, hgv.noG, Bool.and_self]) (noG_ownC intC_N _), hb1]
    have hupR : RefG H4 (.ref (.g nu) 1 0 g.length) (idL g) := .inr ⟨nu, 1, 0, by rw [idL_len], by rw [← hupid]; exact hup⟩
    have hints := x15 (H4 ++ E2) (.ref (.g nu) 1 0 g.length) v2 (idL g) (idL g) (.inr hupR.app) (.inr hb2) (by rw [idL_len]; omega)
    simp only [decide_true] at hints
    have hc5 : ∀ L, callC An FF 4 (some 39) 15 [.ref (.g nu) 1 0 g.length, v2] ⟨L, H4 ++ E2⟩ = some (.bool true, ⟨L, H4 ++ E2⟩) := fun L => by
      rw [callC_I rfl (by simp only [List.all_cons, List.all_nil, (RdI.esc (H := H4) (.inr hupR)), (RdI.esc (.inr hb2)), Bool.and_self]) hints]; rfl
    have hold2 : ∀ i : Nat, i < H1'.length → (H4 ++ E2)[i]? = H1'[i]? := fun i hi => by
      rw [List.getElem?_append_left (by have := (List.getElem?_eq_some_iff.1 hup).1; omega), hold i hi]
    have hnol := (List.getElem?_eq_some_iff.1 htab).1
    have htab2 : (H4 ++ E2)[no]? = some (.arr 1 1 cs 0) := by rw [hold2 no hnol, htab]
    have hyl : clen vy = some g.length := by rw [ha2.len, frL_len]
    refine Fw_funE rfl Try.func4 s4 (Nat.le_of_ble_eq_true rfl) (fun Q hqr hqn => ?_)
    simp only [tinit, Nat.reduceAdd, c4]
    repeat' (first
    | with_reducible refine Tx_assoc ?_
    | with_reducible refine Tx_nopK ?_
    | with_reducible refine Tx_noK rfl ?_
    | with_reducible refine Tx_blockK (id := 0) (fun Q0 hn0 hx0 hr0 ho0 => ?_)
    | ((with_reducible refine Tx_regK (fun K hK => ?_); (first | with_reducible refine t4r0 ?_ | with_reducible refine t4r1 ?_ | with_reducible refine t4r3 ?_ | with_reducible refine t4r4 ?_ | with_reducible refine t4r6 ?_)); (try simp only [true_implies, false_implies, not_true_eq_false, not_false_eq_true, tget_cons, if_true, if_false, Nat.reduceEqDiff, ccells, Obt_some, Kn_normal, newL_eq, newP_eq, newA_eq, newM_eq, newR_eq, newK_eq, nmA_f, nmR_f, gn_var, gn_arr, gn_map, gnext_setL, lget_setL, lget_lset, gnext_lset, setL_setL, setL_H, Nat.reduceMul, Nat.reduceAdd, Nat.zero_add, fldA_ptr, fldA_rptr, List.drop_zero, ld1_l, ld1_r, ldA_l, rd1_var, rd1_arr, List.getElem?_cons_zero, List.getElem?_cons_succ, Obt_lss, Obt_leq, Obt_gtr, Obt_geq, Obt_eql, Obt_neq, Obt_not, gdO_tt, gdO_tf, gdO_ff, gdO_ft, gdO_skip, Option.map_some, pickX_t, pickX_f, Obt_pickS, Obt_gdT, Obt_gdF, Bool.not_true, Bool.not_false, lenS, Obt_map, Obt_add, Obt_sub, Obt_mul, Obt_quo, Obt_rem, Obt_and, Obt_or, Obt_xor, Obt_andNot, Obt_shl, Obt_shr, Obt_neg, Obt_cpl, Obt_conv, Obt_ext, Obt_bind, Obt_ite', appX_l, appX_n, appR_arr, appN_some, content_l, conR_arr, content_nil, clen_n, clen_r, idxS_ref, fillX, bslX, escP_list, List.all_append, stX_l, stV_var, stV_arr, splice, List.take_zero, List.take_succ_cons, List.drop_succ_cons, List.drop_nil, List.nil_append, List.cons_append, List.append_nil, List.length_cons, List.length_nil, Nat.reduceLeDiff, and_self, and_true, true_and, Nat.le_refl, Nat.zero_le, rdA_var, rdA_arr, escP, List.all_cons, List.all_nil, Bool.and_self, Bool.true_and, Bool.and_true, r4, tend, tresAll, tresC, Option.bind_some, mapMem, retv_agc, esc_i, esc_b, esc_n, esc_m, esc_s, retv_l, retR_arr, retv_gref, retv_gmap, retv_gptr, Nat.zero_sub, Nat.sub_self, retv_int, retv_bool, retv_nil, retv_imm, retv_inil, retv_pnil, tup_nil, tup_one, tup_two, Prod.mk.injEq, CV.int.injEq, CV.bool.injEq, clen_rowsC, clen_r, k8 g _ hgv true (decide_eq_true hs), hc1, hc2, hyl, hd, hd2', Obt_neB Try.underlying4, beq_self_eq_true, Bool.not_true, hc3, hc4, hc5]))
    | (revert hK; intro hK; (with_reducible refine hK _ ?_; clear hK K)))
    refine Tx_loopK (fun k s => ∃ (i : Nat) (L : List (Nat × HO)), i ≤ g.length ∧ k = g.length - i ∧ OwnE rowIC 1 ⟨L, H4 ++ E2⟩ (16 * 17) vy (frL g) ∧
      s = ⟨[(7, .ref (.g no) 1 0 g.length), (8, vy), (9, .int .i64 i)], ⟨L, H4 ++ E2⟩⟩) _ ⟨0, _, Nat.zero_le _, rfl, ha2.keep rfl, rfl⟩ ?_
    rintro k s ⟨i, L, hi, rfl, hO, rfl⟩ QL0 hnL0 hxL0 hrL0
    simp only [c4l0]
    by_cases hig : i = g.length
    · subst hig
      repeat' (first
      | with_reducible refine Tx_assoc ?_
      | with_reducible refine Tx_noK rfl ?_
      | with_reducible refine Tx_exitK ?_
      | with_reducible refine Tx_ret ?_
      | with_reducible refine hx0 _ ?_
      | with_reducible refine hxL0 _ _ ?_
      | ((first | (with_reducible refine Tx_regK (fun K hK => ?_); (first | with_reducible refine t4r7 ?_ | with_reducible refine t4r11 ?_)) | with_reducible refine hqr _ ?_); (try simp only [true_implies, false_implies, not_true_eq_false, not_false_eq_true, tget_cons, if_true, if_false, Nat.reduceEqDiff, ccells, Obt_some, Kn_normal, newL_eq, newP_eq, newA_eq, newM_eq, newR_eq, newK_eq, nmA_f, nmR_f, gn_var, gn_arr, gn_map, gnext_setL, lget_setL, lget_lset, gnext_lset, setL_setL, setL_H, Nat.reduceMul, Nat.reduceAdd, Nat.zero_add, fldA_ptr, fldA_rptr, List.drop_zero, ld1_l, ld1_r, ldA_l, rd1_var, rd1_arr, List.getElem?_cons_zero, List.getElem?_cons_succ, Obt_lss, Obt_leq, Obt_gtr, Obt_geq, Obt_eql, Obt_neq, Obt_not, gdO_tt, gdO_tf, gdO_ff, gdO_ft, gdO_skip, Option.map_some, pickX_t, pickX_f, Obt_pickS, Obt_gdT, Obt_gdF, Bool.not_true, Bool.not_false, lenS, Obt_map, Obt_add, Obt_sub, Obt_mul, Obt_quo, Obt_rem, Obt_and, Obt_or, Obt_xor, Obt_andNot, Obt_shl, Obt_shr, Obt_neg, Obt_cpl, Obt_conv, Obt_ext, Obt_bind, Obt_ite', appX_l, appX_n, appR_arr, appN_some, content_l, conR_arr, content_nil, clen_n, clen_r, idxS_ref, fillX, bslX, escP_list, List.all_append, stX_l, stV_var, stV_arr, splice, List.take_zero, List.take_succ_cons, List.drop_succ_cons, List.drop_nil, List.nil_append, List.cons_append, List.append_nil, List.length_cons, List.length_nil, Nat.reduceLeDiff, and_self, and_true, true_and, Nat.le_refl, Nat.zero_le, rdA_var, rdA_arr, escP, List.all_cons, List.all_nil, Bool.and_self, Bool.true_and, Bool.and_true, r4, tend, tresAll, tresC, Option.bind_some, mapMem, retv_agc, esc_i, esc_b, esc_n, esc_m, esc_s, retv_l, retR_arr, retv_gref, retv_gmap, retv_gptr, Nat.zero_sub, Nat.sub_self, retv_int, retv_bool, retv_nil, retv_imm, retv_inil, retv_pnil, tup_nil, tup_one, tup_two, Prod.mk.injEq, CV.int.injEq, CV.bool.injEq, clen_r, k9]))
      | (revert hK; intro hK; (first | refine And.intro ?_ ?_ | intro _ | omega | (with_reducible refine hK _ ?_; clear hK K))))
      all_goals first | exact ⟨_, rfl, rfl⟩ | exact ⟨_, rfl⟩
    · have hilt : (i : Int) < g.length := by omega
      have hw : IntKind.i64.wrap ((i : Int) + 1) = ((i + 1 : Nat) : Int) := by rw [wI (by omega) (by omega)]; rfl
      obtain ⟨v, hv1, hv2⟩ := hrow i (by omega)
      have hv3 : RefG (H4 ++ E2) v (frRow g i g.length) := hv2.mono hold2
      have hix : idxS 1 (.ref (.g no) 1 0 g.length) (.int .i64 i) = some (.ptr (.g no) 1 i) := by
        rw [idxS_ref, if_pos ⟨by omega, by omega⟩]; simp
      have hld : ld1 ⟨L, H4 ++ E2⟩ (.ptr (.g no) 1 i) = some v := by rw [ld1_g]; simp only [htab2, rd1_arr, hv1]
      have hfi : (frL g)[i]? = some (frRow g i g.length) := by rw [frL, List.getElem?_map, List.getElem?_range (by omega)]; rfl
      obtain ⟨gn, rfl, h2, h3⟩ := hO.get hfi
      have hix2 : idxS 1 (.ref (.l (16 * 17)) gn 0 (frL g).length) (.int .i64 i) = some (.ptr (.l (16 * 17)) gn i) := by
        rw [idxS_ref, if_pos ⟨by omega, by omega⟩]; simp
      have hld2 : ld1 ⟨L, H4 ++ E2⟩ (.ptr (.l (16 * 17)) gn i) = some (if frRow g i g.length = [] then .nil else sl intC (frRow g i g.length)) := by
        have h5 := flat_get (e := rowIC) (sz := 1) (off := 0) rowIC_len hfi (by omega)
        rw [ld1_l, h2, rd1_arr]
        simpa [rowIC] using h5
      have hfl := frRow_len g i g.length
      have hin := x15 (H4 ++ E2) v _ _ _ (.inr hv3) (rowIC_rd (r := frRow g i g.length)) (by omega)
      simp only [decide_true] at hin
      have hc6 : callC An FF 4 (some 56) 15 [v, if frRow g i g.length = [] then .nil else sl intC (frRow g i g.length)] ⟨L, H4 ++ E2⟩ = some (.bool true, ⟨L, H4 ++ E2⟩) := by
        rw [callC_I rfl (by simp only [List.all_cons, List.all_nil, (RdI.esc (.inr hv3)), (RdI.esc (H := H4) rowIC_rd), Bool.and_self]) hin]; rfl
      generalize (if frRow g i g.length = [] then CV.nil else sl intC (frRow g i g.length)) = w at hld2 hc6
      simp only [Nat.reduceMul] at hix2 hld2
      repeat' (first
      | with_reducible refine Tx_assoc ?_
      | with_reducible refine Tx_nopK ?_
      | with_reducible refine Tx_yesK rfl ?_
      | with_reducible refine Tx_no rfl ?_
      | with_reducible refine Tx_nop ?_
      | with_reducible refine Tx_blockK (id := 1) (fun Q1 hn1 hx1 hr1 ho1 => ?_)
      | with_reducible refine hn1 _ ?_
      | (((first | with_reducible refine Tx_regK (fun K hK => ?_) | with_reducible refine Tx_regE (fun K hK => ?_)); (first | with_reducible refine t4r7 ?_ | with_reducible refine t4r9 ?_ | with_reducible refine t4r8 ?_)); (try simp only [true_implies, false_implies, not_true_eq_false, not_false_eq_true, tget_cons, if_true, if_false, Nat.reduceEqDiff, ccells, Obt_some, Kn_normal, newL_eq, newP_eq, newA_eq, newM_eq, newR_eq, newK_eq, nmA_f, nmR_f, gn_var, gn_arr, gn_map, gnext_setL, lget_setL, lget_lset, gnext_lset, setL_setL, setL_H, Nat.reduceMul, Nat.reduceAdd, Nat.zero_add, fldA_ptr, fldA_rptr, List.drop_zero, ld1_l, ld1_r, ldA_l, rd1_var, rd1_arr, List.getElem?_cons_zero, List.getElem?_cons_succ, Obt_lss, Obt_leq, Obt_gtr, Obt_geq, Obt_eql, Obt_neq, Obt_not, gdO_tt, gdO_tf, gdO_ff, gdO_ft, gdO_skip, Option.map_some, pickX_t, pickX_f, Obt_pickS, Obt_gdT, Obt_gdF, Bool.not_true, Bool.not_false, lenS, Obt_map, Obt_add, Obt_sub, Obt_mul, Obt_quo, Obt_rem, Obt_and, Obt_or, Obt_xor, Obt_andNot, Obt_shl, Obt_shr, Obt_neg, Obt_cpl, Obt_conv, Obt_ext, Obt_bind, Obt_ite', appX_l, appX_n, appR_arr, appN_some, content_l, conR_arr, content_nil, clen_n, clen_r, idxS_ref, fillX, bslX, escP_list, List.all_append, stX_l, stV_var, stV_arr, splice, List.take_zero, List.take_succ_cons, List.drop_succ_cons, List.drop_nil, List.nil_append, List.cons_append, List.append_nil, List.length_cons, List.length_nil, Nat.reduceLeDiff, and_self, and_true, true_and, Nat.le_refl, Nat.zero_le, rdA_var, rdA_arr, escP, List.all_cons, List.all_nil, Bool.and_self, Bool.true_and, Bool.and_true, r4, tend, tresAll, tresC, Option.bind_some, mapMem, retv_agc, esc_i, esc_b, esc_n, esc_m, esc_s, retv_l, retR_arr, retv_gref, retv_gmap, retv_gptr, Nat.zero_sub, Nat.sub_self, retv_int, retv_bool, retv_nil, retv_imm, retv_inil, retv_pnil, tup_nil, tup_one, tup_two, Prod.mk.injEq, CV.int.injEq, CV.bool.injEq, clen_r, hilt, hix, hld, hix2, hld2, hc6, hw]))
      | (revert hK; intro hK; (with_reducible refine hK _ ?_; clear hK K)))
      all_goals exact hnL0 (g.length - (i + 1)) _ (by omega) ⟨i + 1, L, by omega, rfl, hO, rfl⟩
  · refine Fw_funE rfl Try.func4 s4 (Nat.le_of_ble_eq_true rfl) (fun Q hqr hqn => ?_)
    simp only [tinit, Nat.reduceAdd, c4]
    repeat' (first
    | with_reducible refine Tx_assoc ?_
    | with_reducible refine Tx_yesK rfl ?_
    | with_reducible refine Tx_retK ?_
    | ((first | (with_reducible refine Tx_regK (fun K hK => ?_); (first | with_reducible refine t4r0 ?_ | with_reducible refine t4r1 ?_ | with_reducible refine t4r2 ?_)) | with_reducible refine hqr _ ?_); (try simp only [true_implies, false_implies, not_true_eq_false, not_false_eq_true, tget_cons, if_true, if_false, Nat.reduceEqDiff, ccells, Obt_some, Kn_normal, newL_eq, newP_eq, newA_eq, newM_eq, newR_eq, newK_eq, nmA_f, nmR_f, gn_var, gn_arr, gn_map, gnext_setL, lget_setL, lget_lset, gnext_lset, setL_setL, setL_H, Nat.reduceMul, Nat.reduceAdd, Nat.zero_add, fldA_ptr, fldA_rptr, List.drop_zero, ld1_l, ld1_r, ldA_l, rd1_var, rd1_arr, List.getElem?_cons_zero, List.getElem?_cons_succ, Obt_lss, Obt_leq, Obt_gtr, Obt_geq, Obt_eql, Obt_neq, Obt_not, gdO_tt, gdO_tf, gdO_ff, gdO_ft, gdO_skip, Option.map_some, pickX_t, pickX_f, Obt_pickS, Obt_gdT, Obt_gdF, Bool.not_true, Bool.not_false, lenS, Obt_map, Obt_add, Obt_sub, Obt_mul, Obt_quo, Obt_rem, Obt_and, Obt_or, Obt_xor, Obt_andNot, Obt_shl, Obt_shr, Obt_neg, Obt_cpl, Obt_conv, Obt_ext, Obt_bind, Obt_ite', appX_l, appX_n, appR_arr, appN_some, content_l, conR_arr, content_nil, clen_n, clen_r, idxS_ref, fillX, bslX, escP_list, List.all_append, stX_l, stV_var, stV_arr, splice, List.take_zero, List.take_succ_cons, List.drop_succ_cons, List.drop_nil, List.nil_append, List.cons_append, List.append_nil, List.length_cons, List.length_nil, Nat.reduceLeDiff, and_self, and_true, true_and, Nat.le_refl, Nat.zero_le, rdA_var, rdA_arr, escP, List.all_cons, List.all_nil, Bool.and_self, Bool.true_and, Bool.and_true, r4, tend, tresAll, tresC, Option.bind_some, mapMem, retv_agc, esc_i, esc_b, esc_n, esc_m, esc_s, retv_l, retR_arr, retv_gref, retv_gmap, retv_gptr, Nat.zero_sub, Nat.sub_self, retv_int, retv_bool, retv_nil, retv_imm, retv_inil, retv_pnil, tup_nil, tup_one, tup_two, Prod.mk.injEq, CV.int.injEq, CV.bool.injEq, clen_rowsC, k8 g _ hgv false (decide_eq_false hs), k9]))
    | (revert hK; intro hK; (with_reducible refine hK _ ?_; clear hK K)))
    all_goals first | exact ⟨_, rfl, rfl⟩ | exact ⟨_, rfl⟩
end Go.Cm
