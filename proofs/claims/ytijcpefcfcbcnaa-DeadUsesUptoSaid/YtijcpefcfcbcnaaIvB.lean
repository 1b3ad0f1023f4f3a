import Derived.Test.YtijcpefcfcbcnaaIvA
import Derived.Test.YtijcpefcfcbcnaaIuA
set_option linter.unusedSimpArgs false
set_option linter.unusedVariables false
namespace Go.Cm
open Go.Proofs Go.Ir Go.Gr
theorem slcX_l {m : Mem} {j gn n k : Nat} {cs : List CV} {vl : Nat} (hm : lget m.L j = some (.arr gn 1 cs vl)) (hk : k ≤ n) : slcX 1 (.ref (.l j) gn 0 n) none (some (.int .i64 k)) none m = some (.ref (.l j) gn 0 k) := by
  have hb : bounds n none (some (.int .i64 k)) = some (0, k) := by simp [bounds, asNat, hk]
  simp only [slcX, mxOK, clen, hb, Mem.get, hm, and_self, if_true, Nat.zero_mul, Nat.zero_add, Nat.sub_zero]
def OwnP (js : List Nat) (m : Mem) (v : CV) (l : List Int) : Prop := (l = [] ∧ v = .nil) ∨ ∃ j ∈ js, ∃ g cs, v = .ref (.l j) g 0 l.length ∧ lget m.L j = some (.arr g 1 cs 0) ∧ cs.take l.length = l.flatMap intC
theorem OwnE.own {j : Nat} {js : List Nat} (hj : j ∈ js) {m : Mem} {v : CV} {l : List Int} (h : OwnE intC 1 m j v l) : OwnP js m v l := by
  rcases h with h | ⟨_, g, h1, h2⟩
  · exact .inl h
  · exact .inr ⟨j, hj, g, _, h1, h2, by rw [List.take_of_length_le (by rw [len_int]; exact Nat.le_refl _)]⟩
theorem OwnP.len {js : List Nat} {m : Mem} {v : CV} {l : List Int} (h : OwnP js m v l) : clen v = some l.length := by
  rcases h with ⟨rfl, rfl⟩ | ⟨j, _, g, cs, rfl, _⟩ <;> rfl
theorem OwnP.keep {js : List Nat} {m m' : Mem} {v : CV} {l : List Int} (h : OwnP js m v l) (hm : ∀ j ∈ js, lget m'.L j = lget m.L j) : OwnP js m' v l := by
  rcases h with h | ⟨j, hj, g, cs, h1, h2, h3⟩
  · exact .inl h
  · exact .inr ⟨j, hj, g, cs, h1, by rw [hm j hj]; exact h2, h3⟩
theorem OwnP.last {js : List Nat} {m : Mem} {v : CV} {l : List Int} {a : Int} (h : OwnP js m v (l ++ [a])) :
    ∃ pt v', idxS 1 v (.int .i64 l.length) = some pt ∧ ld1 m pt = some (.int .i64 a) ∧ slcX 1 v none (some (.int .i64 l.length)) none m = some v' ∧ OwnP js m v' l := by
  rcases h with ⟨h, _⟩ | ⟨j, hj, g, cs, rfl, h2, h3⟩
  · simp at h
  · have hll : (l ++ [a]).length = l.length + 1 := by simp
    rw [hll] at h3
    have hcs : cs[l.length]? = some (.int .i64 a) := by
      have := congrArg (fun x => x[l.length]?) h3
      simp only [List.getElem?_take, if_pos (Nat.lt_succ_self l.length)] at this
      rw [this, flat_int]; simp
    refine ⟨.ptr (.l j) g l.length, .ref (.l j) g 0 l.length, ?_, ?_, ?_, .inr ⟨j, hj, g, cs, rfl, h2, ?_⟩⟩
    · rw [idxS_ref, if_pos ⟨by omega, by omega⟩]; simp
    · rw [ld1_l, h2, rd1_arr, hcs]
    · rw [hll]; exact slcX_l h2 (by omega)
    · have := congrArg (List.take l.length) h3
      rw [List.take_take, Nat.min_eq_left (by omega)] at this
      rw [this, List.flatMap_append, List.take_left' (by rw [len_int])]
theorem OwnP.app {js : List Nat} {m : Mem} {v : CV} {l ys : List Int} (h : OwnP js m v l) {j b : Nat} {x : CV} {K : CV × Mem → Prop} (hj : j ∈ js) (hx : Cm.content m 1 x = some (ys.flatMap intC)) (hn : clen x = some ys.length)
    (hb : b ≤ 8) (hl : l.length + ys.length ≤ 17592186044416) (hK : ∀ v' m', OwnP js m' v' (l ++ ys) → m'.H = m.H → (∀ i, i ∉ js → lget m'.L i = lget m.L i) → K (v', m')) : Obt (appX false j 1 b v x m) K := by
  rcases h with ⟨rfl, rfl⟩ | ⟨j0, hj0, g, cs, rfl, h2, h3⟩
  · exact OwnE.app8 (.inl ⟨rfl, rfl⟩) intC_len hx hn hb hl fun v' m' h1 h2 h3 => hK v' m' (h1.own hj) h2 fun i hi => h3 i fun e => hi (e ▸ hj)
  · have hsm : smallB b (l.length + ys.length) = true := by
      unfold smallB most
      simp only [decide_eq_true_eq, Bool.and_eq_true]
      refine ⟨by omega, by omega, ?_⟩
      calc (l.length + ys.length) * b ≤ 17592186044416 * 8 := Nat.mul_le_mul hl hb
        _ ≤ 140737488355328 := by decide
    rw [appX_l, hx, hn, h2, appR_arr, if_pos ⟨by omega, hsm⟩, Obt_some]
    refine hK _ _ (.inr ⟨j0, hj0, g + 1, _, by rw [List.length_append], by rw [lget_setL, if_pos rfl], ?_⟩) rfl fun i hi => by
      have : j0 ≠ i := fun e => hi (e ▸ hj0)
      rw [lget_setL, if_neg this]
    simp only [List.drop_zero, Nat.mul_one, h3]
    rw [List.flatMap_append, List.take_of_length_le (by rw [List.length_append, len_int, len_int, List.length_append]; omega)]
theorem RdI.con {v : CV} {l : List Int} (h : ∀ H, RdI H v l) (m : Mem) : content m 1 v = some (l.flatMap intC) ∧ clen v = some l.length := by
  refine ⟨?_, (h []).len⟩
  rcases h [] with rfl | ⟨rfl, rfl⟩ | ⟨n, g, vl, rfl, h2⟩
  · exact content_sl intC_len
  · rfl
  · simp at h2
def fls (c : List Bool) : Nat := (c.filter fun b => !b).length
theorem fls_set : ∀ {c : List Bool} {i : Nat}, c[i]? = some false → fls (c.set i true) + 1 = fls c
  | [], i, h => by simp at h
  | b :: c, 0, h => by
    simp only [List.getElem?_cons_zero, Option.some.injEq] at h
    subst h
    simp [fls]
  | b :: c, i + 1, h => by
    simp only [List.getElem?_cons_succ] at h
    have := fls_set h
    cases b <;> simp only [fls, List.set_cons_succ, List.filter_cons, Bool.not_true, Bool.not_false, if_true, Bool.false_eq_true, if_false, List.length_cons] at this ⊢ <;> omega
theorem fls_le (c : List Bool) : fls c ≤ c.length := List.length_filter_le _ _
set_option maxHeartbeats 2000000 in
theorem x24 (f : Cd) (hf : Sized f) (hB : ∀ x ∈ upds f, x.2.length ≤ 1048576) (hw : (wantA f).length ≤ 8388608) :
    ∃ r, (∃ H', r = ((if codeOk f = true then ownN boolC 1 (needL f) else CV.nil), H')) ∧ FF 24 [.agg (codeC f)] [] = some r := by
  have hkc : ∀ d m, callC An FF 24 (some d) 36 [.agg [sl ptC f.parts, .int .i64 f.values]] m = _ := fun d m => k36 f hf (fid := 24) (d := d) (m := m)
  cases hc : codeOk f with
  | false =>
    rw [hc, if_neg (by decide)] at hkc
    refine Fw_funE rfl Try.func24 s24 (Nat.le_of_ble_eq_true rfl) (fun Q hqr hqn => ?_)
    rw [cin_t (show An.pure 24 = true from rfl) (by simp only [cans, can_int, can_bool, can_agg, can_str, codeE.can])]
    simp only [tinit, Nat.reduceAdd, c24]
    repeat' (first
    | with_reducible (first | refine Tx_assoc ?_ | refine Tx_yesK rfl ?_ | refine Tx_retK ?_)
    | (with_reducible (first | (refine Tx_regK (fun K hK => ?_); (first | refine t24r0 ?_ | refine t24r1 ?_ | refine t24r2 ?_)) | refine hqr _ ?_); (try simp only [SS, ccells, Nat.reduceAdd, Obt_neq, Bool.false_eq_true, r24, tend, tresAll, tresC, mapMem, retv_nil, codeC, hkc]))
    | (revert hK; intro hK; (first | refine And.intro ?_ ?_ | intro _ | omega | (with_reducible refine hK _ ?_; clear hK K))))
    exact ⟨_, rfl⟩
  | true =>
    rw [hc, if_pos rfl] at hkc
    have hfi := codeOk_fine hc
    obtain ⟨n, hn⟩ : ∃ n : Nat, f.values = (n : Int) := ⟨f.values.toNat, by have := hfi.values.1; omega⟩
    have hn1 : n ≤ 65536 := by have := hfi.values.2; omega
    have hnt : f.values.toNat = n := by omega
    obtain ⟨_, ⟨l, rfl, hM⟩, hwa⟩ := x55 f hf (by omega) []
    simp only [List.nil_append, List.length_nil] at hwa
    have hmk := fun m => mkX_l (j := 192) (sz := 1) (b := 1) (z := [.bool false]) (k := .i64) (n := n) (m := m) rfl (by omega) (by omega)
    have hca : ∀ L, callC An FF 24 (some 15) 55 [.agg [sl ptC f.parts, .int .i64 n]] ⟨L, []⟩ = some (adopt false 15 (.tuple [.map (.g 0) 1, ownC intC 1 (wantA f)]) ⟨L, [.map 1 (esI .i64 l)]⟩) := fun L => by
      have : (CV.agg (codeC f)) = .agg [sl ptC f.parts, .int .i64 n] := by rw [codeC, hn]
      rw [← this, callC_I rfl rfl hwa]; rfl
    have had : ∀ L, ∃ v L', adopt false 15 (.tuple [.map (.g 0) 1, ownC intC 1 (wantA f)]) ⟨L, [.map 1 (esI .i64 l)]⟩ = (.tuple [.map (.g 0) 1, v], ⟨L', [.map 1 (esI .i64 l)]⟩) ∧ OwnP [242, 704] ⟨L', [.map 1 (esI .i64 l)]⟩ v (wantA f) ∧ ∀ i, i ≠ 242 → lget L' i = lget L i := fun L => by
      by_cases hwn : wantA f = []
      · exact ⟨.nil, L, by rw [hwn]; rfl, .inl ⟨hwn, rfl⟩, fun _ _ => rfl⟩
      · refine ⟨.ref (.l 242) (gnext L 242) 0 (wantA f).length, lset L 242 (.arr (gnext L 242) 1 ((wantA f).flatMap intC) 0), by rw [ownC, if_neg hwn]; rfl, .inr ⟨242, by simp, gnext L 242, (wantA f).flatMap intC, rfl, by simp [lget_lset], ?_⟩, fun i hi => by simp [lget_lset, Ne.symm hi]⟩
        rw [List.take_of_length_le (by rw [len_int]; exact Nat.le_refl _)]
    have hsetL : ∀ (L : List (Nat × HO)) (H : List HO) j o, setL ⟨L, H⟩ j o = ⟨lset L j o, H⟩ := fun _ _ _ _ => rfl
    rw [hn] at hkc
    refine Fw_funE rfl Try.func24 s24 (Nat.le_of_ble_eq_true rfl) (fun Q hqr hqn => ?_)
    rw [cin_t (show An.pure 24 = true from rfl) (by simp only [cans, can_int, can_bool, can_agg, can_str, codeE.can])]
    simp only [tinit, Nat.reduceAdd, c24]
    rw [codeC, hn]
    repeat' (first
    | with_reducible (first | refine Tx_assoc ?_ | refine Tx_nopK ?_ | refine Tx_noK rfl ?_)
    | (with_reducible (refine Tx_regK (fun K hK => ?_); (first | refine t24r0 ?_ | refine t24r1 ?_ | refine t24r3 ?_ | refine t24r4 ?_)); (try simp only [SS, Nat.reduceEqDiff, ccells, gn_var, gnext_lset, Nat.reduceAdd, Obt_neq, hkc, hmk, hsetL]))
    | (revert hK; intro hK; (with_reducible refine hK _ ?_; clear hK K)))
    rw [hca]
    obtain ⟨v0, L0, e0, hO0, hk0⟩ := had (lset (lset [] 16 (HO.var (gnext [] 16) [sl ptC f.parts, CV.int IntKind.i64 ↑n] 0)) 192 (HO.arr (gnext [] 192) 1 (reps n [CV.bool false]) 0))
    rw [e0, Obt_some]
    simp only [Obt_ext, extX, List.getElem?_cons_zero, List.getElem?_cons_succ, Obt_some]
    refine hK _ ?_
    clear hK K
    have h192 : lget L0 192 = some (.arr (gnext [] 192) 1 ((List.replicate n false).flatMap boolC) 0) := by
      rw [hk0 192 (by decide), ← reps_bool]; simp [lget_lset]
    generalize gnext [] 192 = gn at h192
    obtain ⟨Hm, hHm⟩ : ∃ Hm : List HO, Hm = [.map 1 (esI .i64 l)] := ⟨_, rfl⟩
    rw [← hHm] at hO0 ⊢
    have hlk := fun L (a : Int) => lookX_int (P := Try.prog) (t := 3) (a := a) (z := .nil) (ok := false) Try.underlying3 (mapOf_g (m := ⟨L, Hm⟩) (a := 0) (g := 1) (l := esI .i64 l) (by rw [hHm]; rfl))
    have hix : ∀ x : Int, 0 ≤ x → x < n → idxS 1 (.ref (.l 192) gn 0 n) (.int .i64 x) = some (.ptr (.l 192) gn x.toNat) := fun x h0 h1 => by
      rw [idxS_ref, if_pos ⟨h0, by omega⟩]; simp
    repeat' (first
    | with_reducible refine Tx_blockK (id := 0) (fun Q0 hn0 hx0 hr0 ho0 => ?_))
    refine Tx_loopK (fun k s => ∃ (c : List Bool) (todo : List Int) (v : CV) (L : List (Nat × HO)) (sl : List (Nat × CV)), k = todo.length + 1048576 * fls c ∧ k ≤ (wantA f).length + 1048576 * n ∧ c.length = n ∧ (∀ i : Nat, c[i]? = some true → Need f i) ∧ (∀ id ∈ todo, Need f id) ∧
        (∀ id ∈ wantA f, id ∈ todo ∨ c[id.toNat]? = some true) ∧ (∀ i : Nat, c[i]? = some true → ∀ b ∈ byL (upds f) i, b ∈ todo ∨ c[b.toNat]? = some true) ∧
        lget L 192 = some (.arr gn 1 (c.flatMap boolC) 0) ∧ OwnP [242, 704] ⟨L, Hm⟩ v todo ∧
        s = ⟨sl, ⟨L, Hm⟩⟩ ∧ tget sl 3 = .ref (.l 192) gn 0 n ∧ tget sl 4 = .map (.g 0) 1 ∧ tget sl 5 = v) _
      ⟨List.replicate n false, wantA f, v0, L0, _, rfl, by have := fls_le (List.replicate n false); rw [List.length_replicate] at this; have := Nat.mul_le_mul_left 1048576 this; omega, by simp, fun i hi => by
        rw [List.getElem?_replicate] at hi; split at hi <;> simp at hi, fun id hid => .base hid, fun id hid => .inl hid, fun i hi => by
        rw [List.getElem?_replicate] at hi; split at hi <;> simp at hi, h192, hO0, rfl, rfl, rfl, rfl⟩ ?_
    rintro k s ⟨c, todo, v, L, sl0, rfl, hkM, hcl, hs1, hs2, hs3, hs4, hL, hO, rfl, hS3, hS4, hS5⟩ QL0 hnL0 hxL0 hrL0
    simp only [c24l0]
    rcases List.eq_nil_or_concat todo with rfl | ⟨td, a, rfl⟩
    · have hlen := hO.len
      have hcn : c = needL f := by
        rw [needL, hnt]
        refine List.ext_getElem? fun i => ?_
        by_cases hi : i < n
        · rw [List.getElem?_map, List.getElem?_range hi]
          simp only [Option.map_some]
          have hci : c[i]? = some c[i] := List.getElem?_eq_getElem (by omega)
          rw [hci]
          congr 1
          have full : ∀ id, Need f id → c[id.toNat]? = some true := by
            intro id h
            induction h with
            | base h => rcases hs3 _ h with h | h; cases h; exact h
            | step h h2 ih =>
              rename_i i b
              have h0 := h.lt hfi
              have e : ((i.toNat : Nat) : Int) = i := by omega
              rcases hs4 i.toNat ih b (by rw [e]; exact h2) with h | h
              · cases h
              · exact h
          cases hb : c[i] with
          | true =>
            have := hs1 i (by rw [hci, hb])
            simp [needB, this]
          | false =>
            have : ¬ Need f i := fun h => by
              have := full _ h
              rw [Int.toNat_natCast, hci, hb] at this
              simp at this
            simp [needB, this]
        · rw [List.getElem?_eq_none (by omega), List.getElem?_eq_none (by simp; omega)]
      simp only [List.length_nil] at hlen
      have hng : ¬ (0 : Int) < ((0 : Nat) : Int) := by decide
      subst hcn
      repeat' (first
      | with_reducible (first | refine Tx_assoc ?_ | refine Tx_noK rfl ?_ | refine Tx_exitK ?_ | refine Tx_ret ?_ | refine hx0 _ ?_ | refine hxL0 _ _ ?_)
      | (with_reducible (first | (refine Tx_regK (fun K hK => ?_); (first | refine t24r5 ?_ | refine t24r11 ?_)) | refine hqr _ ?_); (try simp only [SS, Nat.reduceEqDiff, Obt_gtr, lenS, r24, tend, tresAll, tresC, mapMem, retv_l, retR_arr, Nat.sub_self, hlen, hng, hL, hS3, hS4, hS5]))
      | (revert hK; intro hK; (with_reducible refine hK _ ?_; clear hK K)))
      refine ⟨_, ?_, rfl⟩
      rw [Nat.mul_one, List.take_of_length_le (by rw [flat_len boolC_len]; omega), ownN, hcl]
    · simp only [List.concat_eq_append] at *
      have hlen := hO.len
      obtain ⟨pt, v1, p1, p2, p3, hO1⟩ := hO.last
      have hll : (td ++ [a]).length = td.length + 1 := by simp
      rw [hll] at hlen
      have hnd := hs2 a (by simp)
      have hal := hnd.lt hfi
      have hg1 : (0 : Int) < ((td.length + 1 : Nat) : Int) := by omega
      have hw1 : IntKind.i64.wrap (((td.length + 1 : Nat) : Int) - 1) = ((td.length : Nat) : Int) := by
        rw [wI (by omega) (by omega)]; omega
      have hix1 := hix a hal.1 (by omega)
      obtain ⟨b, hb⟩ : ∃ b, c[a.toNat]? = some b := ⟨_, List.getElem?_eq_getElem (by omega)⟩
      have hcb : (c.flatMap boolC)[a.toNat]? = some (.bool b) := by rw [flat_bool, hb]; rfl
      cases b with
      | true =>
        repeat' (first
        | with_reducible (first | refine Tx_assoc ?_ | refine Tx_nopK ?_ | refine Tx_yesK rfl ?_ | refine Tx_no rfl ?_ | refine Tx_nop ?_ | refine Tx_blockE (id := 1) (fun Q1 hn1 hx1 hr1 ho1 => ?_) | refine hn1 _ ?_)
        | (with_reducible (refine Tx_regK (fun K hK => ?_); (first | refine t24r5 ?_ | refine t24r6 ?_ | refine t24r7 ?_ | refine t24r8 ?_)); (try simp only [SS, Nat.reduceEqDiff, rd1_arr, Obt_gtr, Bool.not_true, lenS, Obt_sub, hlen, hg1, hw1, p1, p2, p3, hix1, hL, hcb, hS3, hS4, hS5]))
        | (revert hK; intro hK; (with_reducible refine hK _ ?_; clear hK K)))
        refine hnL0 (td.length + 1048576 * fls c) _ (by rw [hll]; omega) ⟨c, td, v1, L, _, rfl, by rw [hll] at hkM; omega, hcl, hs1, fun id h => hs2 id (by simp [h]), fun id h => ?_, fun i h b hb2 => ?_, hL, hO1, rfl, rfl, rfl, rfl⟩
        · rcases hs3 id h with h2 | h2
          · rcases List.mem_append.1 h2 with h3 | h3
            · exact .inl h3
            · simp only [List.mem_singleton] at h3; rw [h3]; exact .inr hb
          · exact .inr h2
        · rcases hs4 i h b hb2 with h2 | h2
          · rcases List.mem_append.1 h2 with h3 | h3
            · exact .inl h3
            · simp only [List.mem_singleton] at h3; rw [h3]; exact .inr hb
          · exact .inr h2
      | false =>
        have hsp : List.take a.toNat (c.flatMap boolC) ++ CV.bool true :: List.drop (a.toNat + 1) (c.flatMap boolC) = (c.set a.toNat true).flatMap boolC := by
          have := flat_splice (e := boolC) (sz := 1) (new := [.bool true]) (off := 0) boolC_len hb (a' := true) rfl (by decide)
          simpa [splice] using this
        have hbl : (c.flatMap boolC).length = n := by rw [flat_len boolC_len, hcl, Nat.mul_one]
        have hfs := fls_set hb
        obtain ⟨x, hxl, hxr⟩ : ∃ x, (al l a).getD .nil = x ∧ ∀ H, RdI H x (byL (upds f) a) := by
          rcases hM a with ⟨h1, h2, _⟩ | ⟨v, h1, h2⟩
          · exact ⟨.nil, by rw [h1]; rfl, fun H => by rw [h2]; exact .inr (.inl ⟨rfl, rfl⟩)⟩
          · exact ⟨v, by rw [h1]; rfl, h2⟩
        have hyl : (byL (upds f) a).length ≤ 1048576 := byL_len hB
        repeat' (first
        | with_reducible (first | refine Tx_assoc ?_ | refine Tx_nopK ?_ | refine Tx_yesK rfl ?_ | refine Tx_yes rfl ?_ | refine Tx_blockE (id := 1) (fun Q1 hn1 hx1 hr1 ho1 => ?_))
        | (with_reducible ((first | refine Tx_regK (fun K hK => ?_) | refine Tx_regE (fun K hK => ?_)); (first | refine t24r5 ?_ | refine t24r6 ?_ | refine t24r7 ?_ | refine t24r8 ?_ | refine t24r9 ?_ | refine t24r10 ?_)); (try simp only [SS, Nat.reduceEqDiff, ccells, rd1_arr, Obt_gtr, Bool.not_false, lenS, Obt_sub, Obt_ite', stV_arr, splice, Nat.zero_le, escP, List.all_cons, List.all_nil, Bool.and_self, hlen, hg1, hw1, p1, p2, p3, hix1, hL, hcb, hS3, hS4, hS5]))
        | (revert hK; intro hK; (first | refine And.intro ?_ ?_ | omega | (with_reducible refine hK _ ?_; clear hK K))))
        rw [hsp]
        simp only [setL]
        rw [hlk, Obt_some]
        rw [if_neg (by decide), hxl]
        have hkeep : OwnP [242, 704] ⟨lset L 192 (HO.arr gn 1 (List.flatMap boolC (c.set a.toNat true)) 0), Hm⟩ v1 td := hO1.keep fun j hj => by simp at hj; rcases hj with rfl | rfl <;> simp [lget_lset]
        rw [hll] at hkM
        refine hkeep.app (j := 704) (by simp) (RdI.con hxr _).1 (RdI.con hxr ⟨[], []⟩).2 (by decide) (by omega) fun v' m' r1 r2 r3 => ?_
        obtain ⟨L', H'⟩ := m'
        simp only at r2
        subst r2
        refine hK _ ?_
        clear hK K
        repeat' (first
        | with_reducible refine hn1 _ ?_)
        have hset : ∀ i : Nat, (c.set a.toNat true)[i]? = some true ↔ i = a.toNat ∨ c[i]? = some true := fun i => by
          rw [List.getElem?_set]
          by_cases e : a.toNat = i
          · subst e; simp; omega
          · rw [if_neg e]
            constructor
            · exact .inr
            · rintro (h | h)
              · exact absurd h.symm e
              · exact h
        have h192' : lget L' 192 = some (.arr gn 1 ((c.set a.toNat true).flatMap boolC) 0) := by
          have := r3 192 (by simp)
          simp only at this
          rw [this]; simp [lget_lset]
        refine hnL0 ((td ++ byL (upds f) a).length + 1048576 * fls (c.set a.toNat true)) _ (by rw [hll, List.length_append]; omega)
          ⟨c.set a.toNat true, td ++ byL (upds f) a, v', L', _, rfl, by rw [List.length_append]; omega, by rw [List.length_set, hcl], fun i hi => ?_, fun id hid => ?_, fun id hid => ?_, fun i hi b hb2 => ?_, h192', r1, rfl, rfl, rfl, rfl⟩
        · rcases (hset i).1 hi with rfl | h
          · rw [show ((a.toNat : Nat) : Int) = a by omega]; exact hnd
          · exact hs1 i h
        · rcases List.mem_append.1 hid with h | h
          · exact hs2 id (by simp [h])
          · exact .step hnd h
        · rcases hs3 id hid with h2 | h2
          · rcases List.mem_append.1 h2 with h3 | h3
            · exact .inl (List.mem_append_left _ h3)
            · simp only [List.mem_singleton] at h3; rw [h3]; exact .inr ((hset _).2 (.inl rfl))
          · exact .inr ((hset _).2 (.inr h2))
        · rcases (hset i).1 hi with rfl | h
          · rw [show ((a.toNat : Nat) : Int) = a by omega] at hb2
            exact .inl (List.mem_append_right _ hb2)
          · rcases hs4 i h b hb2 with h2 | h2
            · rcases List.mem_append.1 h2 with h3 | h3
              · exact .inl (List.mem_append_left _ h3)
              · simp only [List.mem_singleton] at h3; rw [h3]; exact .inr ((hset _).2 (.inl rfl))
            · exact .inr ((hset _).2 (.inr h2))
end Go.Cm

namespace Go.Cm
open Go.Proofs Go.Ir Go.Gr
def ptR (p : Pt) : List CV := [sl intC p.pred, rowC phC p.phis, rowC ndC p.nodes, .int .i64 p.fin.op, .int .i64 p.fin.cond, .bool p.fin.wide, .int .i64 p.fin.a, .int .i64 p.fin.b, .int .i64 p.fin.to, .int .i64 p.fin.els]
theorem ptR_len (p : Pt) : (ptR p).length = 10 := rfl
theorem ptR_N (p : Pt) : noGs (ptR p) = true := by simp only [ptR, noGs, noG_int, noG_bool, intE.noG_sl, noG_rowC phE.noG, noG_rowC ndE.noG, Bool.and_self]
theorem escList_cons {a x : CV} {r xs : List CV} {m m1 m2 : Mem} (h : esc deep a m = some (x, m1)) (h2 : escList m1 r = some (xs, m2)) : escList m (a :: r) = some (x :: xs, m2) := by
  unfold escList at h2 ⊢
  simp only [mapMem, h, Option.bind_some, h2, Option.map_some]
theorem esc_Q {a : CV} {m : Mem} (h : escQ a = true) : esc deep a m = some (a, m) := by
  have := escQ_list (m := m) (cs := [a]) (by simp [h])
  unfold escList at this
  simp only [mapMem, Option.bind_eq_some_iff, Option.map_some] at this
  obtain ⟨⟨y1, y2⟩, hy, h2⟩ := this
  simp only [Option.some.injEq, Prod.mk.injEq, List.cons.injEq, and_true] at h2
  rw [hy, h2.1, h2.2]
theorem bslX_E {j sz n : Nat} {z cs xs : List CV} {ps : List (Nat × Nat × CV)} {m m1 : Mem} (hf : fillX z ps = some cs) (he : escList m cs = some (xs, m1)) :
    bslX false j sz n z ps m = some (.ref (.l j) (gnext m1.L j) 0 n, setL m1 j (.arr (gnext m1.L j) sz xs 0)) := by
  unfold bslX
  rw [hf]
  simp only [Option.bind_some, he, Option.map_some]
  rfl

theorem OwnV.esc5 {α : Type} {e : α → List CV} {sz j : Nat} {m : Mem} {v : CV} {l : List α} (h : OwnV e sz m j v l) (hs : ∀ a, (e a).length = sz) : ∃ m1, esc 5 v m = some (rowC e l, m1) ∧ m1.H = m.H := by
  rcases h with ⟨rfl, rfl⟩ | ⟨hne, g, vl, rfl, h1, _⟩
  · exact ⟨m, rfl, rfl⟩
  · refine ⟨setL m j (.arr g sz (l.flatMap e) (max vl (l.length * sz))), ?_, rfl⟩
    have hr : rowC e l = .imm l.length (l.flatMap e) := by
      cases l with
      | nil => exact absurd rfl hne
      | cons a l => rfl
    simp only [esc, h1, if_true, List.drop_zero, HO.seen, Nat.zero_add, hr]
    rw [List.take_of_length_le (by rw [flat_len hs]; exact Nat.le_refl _)]; rfl
theorem need_at {f : Cd} (hfi : Fine f) {id : Int} (h0 : 0 ≤ id) (h1 : id < f.values) : ((needL f).flatMap boolC)[id.toNat]? = some (.bool (needB f id)) := by
  rw [flat_bool, needL, List.getElem?_map, List.getElem?_range (by omega)]
  simp only [Option.map_some]
  rw [show ((id.toNat : Nat) : Int) = id by omega]
set_option maxHeartbeats 4000000 in
theorem x22 (f : Cd) (hf : Sized f) (hS : ∀ p ∈ f.parts, p.phis.length ≤ 1048576 ∧ p.nodes.length ≤ 1048576) (hB : ∀ x ∈ upds f, x.2.length ≤ 1048576) (hw : (wantA f).length ≤ 8388608) :
    ∃ r, (∃ H', r = (if codeOk f = true then CV.tuple [.agg [rowC ptR (deadF f).parts, .int .i64 f.values], .int .i64 0] else CV.tuple [.agg [.nil, .int .i64 0], .int .i64 160], H')) ∧ FF 22 [.agg (codeC f)] [] = some r := by
  have hkc : ∀ d m, callC An FF 22 (some d) 36 [.agg [sl ptC f.parts, .int .i64 f.values]] m = _ := fun d m => k36 f hf (fid := 22) (d := d) (m := m)
  cases hc : codeOk f with
  | false =>
    rw [hc, if_neg (by decide)] at hkc
    refine Fw_funE rfl Try.func22 s22 (Nat.le_of_ble_eq_true rfl) (fun Q hqr hqn => ?_)
    rw [cin_t (show An.pure 22 = true from rfl) (by simp only [cans, can_int, can_bool, can_agg, can_str, codeE.can])]
    simp only [tinit, Nat.reduceAdd, c22]
    repeat' (first
    | with_reducible (first | refine Tx_assoc ?_ | refine Tx_yesK rfl ?_ | refine Tx_retK ?_)
    | (with_reducible (first | (refine Tx_regK (fun K hK => ?_); (first | refine t22r0 ?_ | refine t22r1 ?_ | refine t22r2 ?_ | refine t22r3 ?_)) | refine hqr _ ?_); (try simp only [SS, Nat.reduceEqDiff, ccells, gn_var, gnext_setL, setL_setL, Nat.reduceAdd, Obt_neq, fillX, splice, Bool.false_eq_true, r22, cl29, tend, tresAll, tresC, mapMem, retv_agc, esc_i, esc_n, retv_int, tup_two, codeC, hkc]))
    | (revert hK; intro hK; (first | refine And.intro ?_ ?_ | intro _ | omega | (with_reducible refine hK _ ?_; clear hK K))))
    all_goals exact ⟨_, rfl⟩
  | true =>
    rw [hc, if_pos rfl] at hkc
    have hfi := codeOk_fine hc
    obtain ⟨n, hn⟩ : ∃ n : Nat, f.values = (n : Int) := ⟨f.values.toNat, by have := hfi.values.1; omega⟩
    have hn1 : n ≤ 65536 := by have := hfi.values.2; omega
    have hnt : f.values.toNat = n := by omega
    obtain ⟨_, ⟨H', rfl⟩, hne⟩ := x24 f hf hB hw
    rw [hc, if_pos rfl] at hne
    have hnl : (needL f).length = n := by simp [needL, hnt]
    have hcn : ∀ m, callC An FF 22 (some 21) 24 [.agg [sl ptC f.parts, .int .i64 f.values]] m = some (.ref (.l 336) (gnext m.L 336) 0 n, setL m 336 (.arr (gnext m.L 336) 1 ((needL f).flatMap boolC) 0)) := fun m => by
      have := callC_K (fid := 22) (d := 21) (m := m) (args := [.agg (codeC f)]) hne rfl (by simp only [cans, can_agg, codeE.can]) rfl (by simp only [noGs, noG, codeE.noG, Bool.and_self]) (noG_ownN boolC_N _)
      rw [adopt_ownN (show (An.glob 22).contains 21 = false from rfl), hnl] at this
      exact this
    have hsetL : ∀ (L : List (Nat × HO)) (H : List HO) j o, setL ⟨L, H⟩ j o = ⟨lset L j o, H⟩ := fun _ _ _ _ => rfl
    refine Fw_funE rfl Try.func22 s22 (Nat.le_of_ble_eq_true rfl) (fun Q hqr hqn => ?_)
    rw [cin_t (show An.pure 22 = true from rfl) (by simp only [cans, can_int, can_bool, can_agg, can_str, codeE.can])]
    simp only [tinit, Nat.reduceAdd, c22]
    repeat' (first
    | with_reducible (first | refine Tx_assoc ?_ | refine Tx_nopK ?_ | refine Tx_noK rfl ?_ | refine Tx_blockK (id := 0) (fun Q0 hn0 hx0 hr0 ho0 => ?_))
    | (with_reducible (refine Tx_regK (fun K hK => ?_); (first | refine t22r0 ?_ | refine t22r1 ?_ | refine t22r2 ?_ | refine t22r4 ?_ | refine t22r5 ?_ | refine t22r6 ?_)); (try simp only [SS, Nat.reduceEqDiff, ccells, gn_var, gn_arr, gnext_lset, Nat.reduceAdd, Obt_neq, lenS, Obt_ite', fillX, splice, codeC, hkc, hcn, hsetL, clen_sl]))
    | (revert hK; intro hK; (with_reducible refine hK _ ?_; clear hK K)))
    obtain ⟨g2, hg2⟩ : ∃ g, gnext [] 32 = g := ⟨_, rfl⟩
    obtain ⟨gn, hgn⟩ : ∃ g, gnext [] 336 = g := ⟨_, rfl⟩
    obtain ⟨g6, hg6⟩ : ∃ g, gnext [] 96 = g := ⟨_, rfl⟩
    rw [hg2, hgn, hg6]
    refine Tx_loopK (fun k s => ∃ (d t : List Pt) (vG : CV) (L : List (Nat × HO)), f.parts = d ++ t ∧ k = t.length ∧ (lget L 32 = some (.var g2 [.nil, .int .i64 0] 0) ∧ lget L 336 = some (.arr gn 1 ((needL f).flatMap boolC) 0) ∧ lget L 96 = some (.var g6 [vG, .int .i64 f.values] 0) ∧ OwnE ptR 10 ⟨L, []⟩ 1328 vG (d.map (deadP f))) ∧
      s = ⟨[(2, .ptr (.l 32) g2 0), (5, .ref (.l 336) gn 0 n), (6, .ptr (.l 96) g6 0), (26, sl ptC f.parts), (27, .int .i64 f.parts.length), (28, .int .i64 d.length)], ⟨L, []⟩⟩) _ ⟨[], f.parts, .nil, _, rfl, rfl, ⟨by simp [lget_lset], by simp [lget_lset], by simp [lget_lset], .inl ⟨rfl, rfl⟩⟩, rfl⟩ ?_
    rintro k s ⟨d, t, vG, L, h2, rfl, hBase, rfl⟩ QL2 hnL2 hxL2 hrL2
    have hlen := congrArg List.length h2
    simp only [List.length_append] at hlen
    have hpl := hf.parts
    simp only [c22l2]
    cases t with
    | nil =>
      simp only [List.length_nil] at hlen
      rw [List.append_nil] at h2
      obtain ⟨b1, b2, b3, b4⟩ := hBase
      rw [← h2] at b4
      repeat' (first
      | with_reducible (first | refine Tx_noK rfl ?_ | refine Tx_exitK ?_ | refine Tx_ret ?_ | refine hx0 _ ?_ | refine hxL2 _ _ ?_)
      | (with_reducible (first | (refine Tx_regK (fun K hK => ?_); (first | refine t22r7 ?_ | refine t22r24 ?_)) | refine hqr _ ?_); (try simp only [SS, Nat.reduceEqDiff, ccells, Nat.reduceAdd, Obt_bind, splice, r22, cl29, tend, tresAll, tresC, mapMem, retv_agc, esc_i, retv_int, tup_two, b1, b3]))
      | (revert hK; intro hK; (first | refine And.intro ?_ ?_ | intro _ | omega | (with_reducible refine hK _ ?_; clear hK K))))
      have b5 : OwnE ptR 10 (setL { L := L, H := [] } 32 (HO.var g2 [vG, CV.int IntKind.i64 f.values] 0)) 1328 vG (f.parts.map (deadP f)) := b4.keep (by simp [setL, lget_lset])
      obtain ⟨m1, e1, e2⟩ := b5.seen.esc5 ptR_len
      rw [e1, Obt_some]
      exact ⟨_, rfl, rfl⟩
    | cons p t =>
      simp only [List.length_cons] at hlen
      have hpm : p ∈ f.parts := by rw [h2]; simp
      obtain ⟨hphl, hphs⟩ := hf.phis p hpm
      obtain ⟨hndl, hnds⟩ := hf.nodes p hpm
      have hwd : IntKind.i64.wrap ((d.length : Int) + 1) = d.length + 1 := wI (by omega) (by omega)
      obtain ⟨Base, hBd⟩ : ∃ Base : List (Nat × HO) → Prop, Base = fun L => (lget L 32 = some (.var g2 [.nil, .int .i64 0] 0) ∧ lget L 336 = some (.arr gn 1 ((needL f).flatMap boolC) 0) ∧ lget L 96 = some (.var g6 [vG, .int .i64 f.values] 0) ∧ OwnE ptR 10 ⟨L, []⟩ 1328 vG (d.map (deadP f))) := ⟨_, rfl⟩
      have hBk : ∀ {L L'}, Base L → (∀ i, i = 32 ∨ i = 336 ∨ i = 96 ∨ i = 1328 → lget L' i = lget L i) → Base L' := fun {L L'} h hk => by
        rw [hBd] at h ⊢
        exact ⟨by rw [hk 32 (by simp)]; exact h.1, by rw [hk 336 (by simp)]; exact h.2.1, by rw [hk 96 (by simp)]; exact h.2.2.1, h.2.2.2.keep (hk 1328 (by simp))⟩
      have hB0 : Base L := by rw [hBd]; exact hBase
      have hidp : ∀ id ∈ idsP p, 0 ≤ id ∧ id < f.values := fun id hid => hfi.ids id (List.mem_flatMap.2 ⟨p, hpm, hid⟩)
      have hfill : fillX [.nil, .nil, .nil, .int .i64 0, .int .i64 0, .bool false, .int .i64 0, .int .i64 0, .int .i64 0, .int .i64 0] [(0, 1, sl intC p.pred), (3, 7, .agg [.int .i64 p.fin.op, .int .i64 p.fin.cond, .bool p.fin.wide, .int .i64 p.fin.a, .int .i64 p.fin.b, .int .i64 p.fin.to, .int .i64 p.fin.els])] =
          some [sl intC p.pred, .nil, .nil, .int .i64 p.fin.op, .int .i64 p.fin.cond, .bool p.fin.wide, .int .i64 p.fin.a, .int .i64 p.fin.b, .int .i64 p.fin.to, .int .i64 p.fin.els] := rfl
      repeat' (first
      | with_reducible (first | refine Tx_assoc ?_ | refine Tx_nopK ?_ | refine Tx_yesK rfl ?_ | refine Tx_blockK (id := 1) (fun Q1 hn1 hx1 hr1 ho1 => ?_) | refine Tx_blockK (id := 2) (fun Q2 hn2 hx2 hr2 ho2 => ?_))
      | (with_reducible (refine Tx_regK (fun K hK => ?_); (first | refine t22r7 ?_ | refine t22r8 ?_ | refine t22r9 ?_ | refine t22r10 ?_)); (try simp only [SS, Nat.reduceEqDiff, ccells, gn_var, gnext_lset, Nat.reduceAdd, lenS, Obt_ite', splice, idxS_split ptE.len (by omega) h2, ldA_r10, ptC, hsetL, clen_sl, hfill]))
      | (revert hK; intro hK; (first | refine And.intro ?_ ?_ | intro _ | omega | (with_reducible refine hK _ ?_; clear hK K))))
      obtain ⟨g8, hg8⟩ : ∃ g, gnext L 128 = g := ⟨_, rfl⟩
      obtain ⟨g9, hg9⟩ : ∃ g, gnext L 144 = g := ⟨_, rfl⟩
      rw [hg8, hg9]
      refine Tx_loopK (fun k s => ∃ (d1 t1 : List Ph) (vP : CV) (L : List (Nat × HO)), p.phis = d1 ++ t1 ∧ k = t1.length ∧ Base L ∧ lget L 128 = some (.var g8 (ptC p) 0) ∧
        lget L 144 = some (.var g9 [sl intC p.pred, vP, .nil, .int .i64 p.fin.op, .int .i64 p.fin.cond, .bool p.fin.wide, .int .i64 p.fin.a, .int .i64 p.fin.b, .int .i64 p.fin.to, .int .i64 p.fin.els] 0) ∧
        OwnE phC 2 ⟨L, []⟩ 848 vP (d1.filter fun x => needB f x.id) ∧
        s = ⟨[(2, .ptr (.l 32) g2 0), (5, .ref (.l 336) gn 0 n), (6, .ptr (.l 96) g6 0), (8, .ptr (.l 128) g8 0), (9, .ptr (.l 144) g9 0), (26, sl ptC f.parts), (27, .int .i64 f.parts.length), (28, .int .i64 d.length), (38, sl phC p.phis), (39, .int .i64 p.phis.length), (40, .int .i64 d1.length)], ⟨L, []⟩⟩) _
        ⟨[], p.phis, .nil, _, rfl, rfl, hBk hB0 (by rintro i (rfl | rfl | rfl | rfl) <;> simp [lget_lset]), by simp [lget_lset, ptC], by simp [lget_lset], .inl ⟨rfl, rfl⟩, rfl⟩ ?_
      rintro k s ⟨d1, t1, vP, L1, h3, rfl, hB1, hL8, hL9, hO1, rfl⟩ QL0 hnL0 hxL0 hrL0
      have hlen1 := congrArg List.length h3
      simp only [List.length_append] at hlen1
      simp only [c22l0]
      cases t1 with
      | cons x t1 =>
        simp only [List.length_cons] at hlen1
        have hw1 : IntKind.i64.wrap ((d1.length : Int) + 1) = d1.length + 1 := wI (by omega) (by omega)
        obtain ⟨hx0, hx1⟩ := hidp x.id (List.mem_append_left _ (List.mem_map.2 ⟨x, by rw [h3]; simp, rfl⟩))
        have hnx := need_at hfi hx0 hx1
        have hix : idxS 1 (.ref (.l 336) gn 0 n) (.int .i64 x.id) = some (.ptr (.l 336) gn x.id.toNat) := by rw [idxS_ref, if_pos ⟨hx0, by omega⟩]; simp
        have h336 : lget L1 336 = some (.arr gn 1 ((needL f).flatMap boolC) 0) := by rw [hBd] at hB1; exact hB1.2.1
        have hnext : ∀ vP' L', Base L' → lget L' 128 = some (.var g8 (ptC p) 0) → lget L' 144 = some (.var g9 [sl intC p.pred, vP', .nil, .int .i64 p.fin.op, .int .i64 p.fin.cond, .bool p.fin.wide, .int .i64 p.fin.a, .int .i64 p.fin.b, .int .i64 p.fin.to, .int .i64 p.fin.els] 0) →
            OwnE phC 2 ⟨L', []⟩ 848 vP' ((d1 ++ [x]).filter fun x => needB f x.id) → QL0 .normal ⟨[(2, .ptr (.l 32) g2 0), (5, .ref (.l 336) gn 0 n), (6, .ptr (.l 96) g6 0), (8, .ptr (.l 128) g8 0), (9, .ptr (.l 144) g9 0), (26, sl ptC f.parts), (27, .int .i64 f.parts.length), (28, .int .i64 d.length), (38, sl phC p.phis), (39, .int .i64 p.phis.length), (40, .int .i64 (d1.length + 1))], ⟨L', []⟩⟩ := fun vP' L' q1 q2 q3 q4 => by
          rw [show ((d1.length : Int) + 1) = ((d1 ++ [x]).length : Int) by simp]
          exact hnL0 t1.length _ (by simp) ⟨d1 ++ [x], t1, vP', L', by simp [h3], rfl, q1, q2, q3, q4, rfl⟩
        cases hb : needB f x.id with
        | false =>
          rw [hb] at hnx
          repeat' (first
          | with_reducible (first | refine Tx_nopK ?_ | refine Tx_yesK rfl ?_ | refine Tx_no rfl ?_ | refine Tx_nop ?_ | refine Tx_blockK (id := 3) (fun Q3 hn3 hx3 hr3 ho3 => ?_) | refine hn3 _ ?_)
          | (with_reducible ((first | refine Tx_regK (fun K hK => ?_) | refine Tx_regE (fun K hK => ?_)); (first | refine t22r11 ?_ | refine t22r12 ?_ | refine t22r13 ?_ | refine t22r15 ?_)); (try simp only [SS, Nat.reduceEqDiff, ccells, Nat.reduceAdd, rd1_arr, splice, idxS_split phE.len (by omega) h3, ldA_r2, phC, hsetL, hix, h336, hnx, hw1]))
          | (revert hK; intro hK; (first | refine And.intro ?_ ?_ | intro _ | omega | (with_reducible refine hK _ ?_; clear hK K))))
          refine hnext vP _ (hBk hB1 (by rintro i (rfl | rfl | rfl | rfl) <;> simp [lget_lset])) (by simp [lget_lset, hL8]) (by simp [lget_lset, hL9]) ?_
          rw [List.filter_append]
          simp only [List.filter_cons, hb, Bool.false_eq_true, if_false, List.filter_nil, List.append_nil]
          exact hO1.keep (by simp [lget_lset])
        | true =>
          rw [hb] at hnx
          repeat' (first
          | with_reducible (first | refine Tx_nopK ?_ | refine Tx_yesK rfl ?_ | refine Tx_yes rfl ?_ | refine Tx_blockK (id := 3) (fun Q3 hn3 hx3 hr3 ho3 => ?_))
          | (with_reducible ((first | refine Tx_regK (fun K hK => ?_) | refine Tx_regE (fun K hK => ?_)); (first | refine t22r11 ?_ | refine t22r12 ?_ | refine t22r13 ?_ | refine t22r14 ?_)); (try simp only [SS, Nat.reduceEqDiff, ccells, Nat.reduceAdd, rd1_arr, splice, idxS_split phE.len (by omega) h3, ldA_r2, phC, hsetL, hix, h336, hnx, hL9]))
          | (revert hK; intro hK; (first | refine And.intro ?_ ?_ | intro _ | omega | (with_reducible refine hK _ ?_; clear hK K))))
          have hf1 : fillX [CV.int IntKind.i64 0, CV.nil] [(0, 2, CV.agg [CV.int IntKind.i64 x.id, sl intC x.src])] = some (phC x) := rfl
          rw [bslX_E hf1 (escQ_list rfl), Obt_some]
          have hSp := (hS p hpm).1
          have hfl := List.length_filter_le (fun x => needB f x.id) d1
          refine OwnE.app (l := d1.filter fun x => needB f x.id) (ys := [x]) ?_ phE.len (by simp only [content_l, lget_setL, if_true, conR_arr]; rfl) rfl (by decide) (by simp only [List.length_singleton]; omega) fun v' m' r1 r2 r3 => ?_
          · exact hO1.keep (by simp [setL, lget_lset])
          obtain ⟨L', H'⟩ := m'
          simp only [setL_H] at r2
          subst r2
          rcases r1 with ⟨h, _⟩ | ⟨hne, gv, rfl, hr1⟩
          · simp at h
          have h144 : lget L' 144 = some (.var g9 [sl intC p.pred, vP, .nil, .int .i64 p.fin.op, .int .i64 p.fin.cond, .bool p.fin.wide, .int .i64 p.fin.a, .int .i64 p.fin.b, .int .i64 p.fin.to, .int .i64 p.fin.els] 0) := by
            have := r3 144 (by decide)
            simp only at this
            rw [this]; simp [setL, lget_lset, hL9]
          simp only [h144, stV_var, List.length_singleton, List.length_cons, List.length_nil]
          rw [if_pos ⟨trivial, by decide, by decide⟩, Obt_some]
          refine hK _ ?_
          clear hK K
          repeat' (first
          | with_reducible refine hn3 _ ?_
          | (with_reducible (refine Tx_regE (fun K hK => ?_); refine t22r15 ?_); (try simp only [SS, Nat.reduceEqDiff, Nat.reduceAdd, splice, hw1, hsetL]))
          | (revert hK; intro hK; (with_reducible refine hK _ ?_; clear hK K)))
          have hkp : ∀ i, i ≠ 848 → i ≠ 832 → i ≠ 176 → i ≠ 144 → lget (lset L' 144 (.var g9 [sl intC p.pred, .ref (.l 848) gv 0 ((d1.filter fun x => needB f x.id) ++ [x]).length, .nil, .int .i64 p.fin.op, .int .i64 p.fin.cond, .bool p.fin.wide, .int .i64 p.fin.a, .int .i64 p.fin.b, .int .i64 p.fin.to, .int .i64 p.fin.els] 0)) i = lget L1 i := fun i n1 n2 n3 n4 => by
            have := r3 i n1
            simp only at this
            rw [lget_lset, if_neg (Ne.symm n4), this]
            simp [setL, lget_lset, Ne.symm n2, Ne.symm n3]
          refine hnext (.ref (.l 848) gv 0 ((d1.filter fun x => needB f x.id) ++ [x]).length) _ (hBk hB1 (by rintro i (rfl | rfl | rfl | rfl) <;> exact hkp _ (by decide) (by decide) (by decide) (by decide))) (by rw [hkp 128 (by decide) (by decide) (by decide) (by decide)]; exact hL8) (by simp [lget_lset]) ?_
          rw [List.filter_append]
          simp only [List.filter_cons, hb, if_true, List.filter_nil]
          exact .inr ⟨hne, gv, rfl, by rw [lget_lset, if_neg (by decide)]; exact hr1⟩
      | nil =>
        simp only [List.length_nil] at hlen1
        rw [List.append_nil] at h3
        rw [← h3] at hO1
        obtain ⟨keepN, hkN⟩ : ∃ keepN : Nd → Bool, keepN = fun n => staysB n || needB f n.id := ⟨_, rfl⟩
        repeat' (first
        | with_reducible (first | refine Tx_assoc ?_ | refine Tx_noK rfl ?_ | refine Tx_exitK ?_ | refine hx2 _ ?_ | refine Tx_blockK (id := 4) (fun Q4 hn4 hx4 hr4 ho4 => ?_) | refine hxL0 _ _ ?_)
        | (with_reducible (refine Tx_regK (fun K hK => ?_); (first | refine t22r11 ?_ | refine t22r16 ?_)); (try simp only [SS, Nat.reduceEqDiff, lenS, hL8, ptC, clen_sl]))
        | (revert hK; intro hK; (first | refine And.intro ?_ ?_ | intro _ | omega | (with_reducible refine hK _ ?_; clear hK K))))
        refine Tx_loopK (fun k s => ∃ (d2 t2 : List Nd) (vN : CV) (L : List (Nat × HO)), p.nodes = d2 ++ t2 ∧ k = t2.length ∧ Base L ∧
          lget L 144 = some (.var g9 [sl intC p.pred, vP, vN, .int .i64 p.fin.op, .int .i64 p.fin.cond, .bool p.fin.wide, .int .i64 p.fin.a, .int .i64 p.fin.b, .int .i64 p.fin.to, .int .i64 p.fin.els] 0) ∧
          OwnE phC 2 ⟨L, []⟩ 848 vP (p.phis.filter fun x => needB f x.id) ∧ OwnE ndC 12 ⟨L, []⟩ 1216 vN (d2.filter keepN) ∧
          s = ⟨[(2, .ptr (.l 32) g2 0), (5, .ref (.l 336) gn 0 n), (6, .ptr (.l 96) g6 0), (9, .ptr (.l 144) g9 0), (26, sl ptC f.parts), (27, .int .i64 f.parts.length), (28, .int .i64 d.length), (57, sl ndC p.nodes), (58, .int .i64 p.nodes.length), (59, .int .i64 d2.length)], ⟨L, []⟩⟩) _
          ⟨[], p.nodes, .nil, _, rfl, rfl, hB1, hL9, hO1, .inl ⟨rfl, rfl⟩, rfl⟩ ?_
        rintro k s ⟨d2, t2, vN, L2, h4, rfl, hB2, hQ2, hP2, hO2, rfl⟩ QL1 hnL1 hxL1 hrL1
        have hlen2 := congrArg List.length h4
        simp only [List.length_append] at hlen2
        simp only [c22l1]
        cases t2 with
        | cons x t2 =>
          simp only [List.length_cons] at hlen2
          have hw2 : IntKind.i64.wrap ((d2.length : Int) + 1) = d2.length + 1 := wI (by omega) (by omega)
          have hks := fun d m => k53 x (fid := 22) (d := d) (m := m)
          simp only [ndC] at hks
          have h336 : lget L2 336 = some (.arr gn 1 ((needL f).flatMap boolC) 0) := by rw [hBd] at hB2; exact hB2.2.1
          have hnext : ∀ vN' L', Base L' → lget L' 144 = some (.var g9 [sl intC p.pred, vP, vN', .int .i64 p.fin.op, .int .i64 p.fin.cond, .bool p.fin.wide, .int .i64 p.fin.a, .int .i64 p.fin.b, .int .i64 p.fin.to, .int .i64 p.fin.els] 0) → OwnE phC 2 ⟨L', []⟩ 848 vP (p.phis.filter fun x => needB f x.id) → OwnE ndC 12 ⟨L', []⟩ 1216 vN' ((d2 ++ [x]).filter keepN) →
              QL1 .normal ⟨[(2, .ptr (.l 32) g2 0), (5, .ref (.l 336) gn 0 n), (6, .ptr (.l 96) g6 0), (9, .ptr (.l 144) g9 0), (26, sl ptC f.parts), (27, .int .i64 f.parts.length), (28, .int .i64 d.length), (57, sl ndC p.nodes), (58, .int .i64 p.nodes.length), (59, .int .i64 (d2.length + 1))], ⟨L', []⟩⟩ := fun vN' L' q1 q2 q3 q4 => by
            rw [show ((d2.length : Int) + 1) = ((d2 ++ [x]).length : Int) by simp]
            exact hnL1 t2.length _ (by simp) ⟨d2 ++ [x], t2, vN', L', by simp [h4], rfl, q1, q2, q3, q4, rfl⟩
          have hgrow : ∀ g20 L3, (∀ i, i ≠ 208 → lget L3 i = lget L2 i) → lget L3 208 = some (.var g20 (ndC x) 0) → keepN x = true → ∀ K : CV × Mem → Prop, True := fun _ _ _ _ _ _ => trivial
          have happ : keepN x = true → ∀ (L3 : List (Nat × HO)) (K : Mem → Prop), (∀ i, i ≠ 208 → lget L3 i = lget L2 i) → (∀ vN' L', Base L' → lget L' 144 = some (.var g9 [sl intC p.pred, vP, vN', .int .i64 p.fin.op, .int .i64 p.fin.cond, .bool p.fin.wide, .int .i64 p.fin.a, .int .i64 p.fin.b, .int .i64 p.fin.to, .int .i64 p.fin.els] 0) → OwnE phC 2 ⟨L', []⟩ 848 vP (p.phis.filter fun x => needB f x.id) → OwnE ndC 12 ⟨L', []⟩ 1216 vN' ((d2 ++ [x]).filter keepN) → K ⟨L', []⟩) →
              Obt (bslX false 1200 12 1 [.int .i64 0, .int .i64 0, .int .i64 0, .bool false, .int .i64 0, .int .i64 0, .int .u64 0, .int .i64 0, .int .i64 0, .bool false, .nil, .int .i64 0] [(0, 12, .agg (ndC x))] ⟨L3, []⟩) fun a3 =>
                Obt (appX false 1216 12 112 vN a3.1 a3.2) fun a4 => Obt (stV 1 a4.2 144 g9 2 (ccells a4.1) (lget a4.2.L 144)) K := fun hk L3 K hL3 hK => by
            have hf1 : fillX [.int .i64 0, .int .i64 0, .int .i64 0, .bool false, .int .i64 0, .int .i64 0, .int .u64 0, .int .i64 0, .int .i64 0, .bool false, .nil, .int .i64 0] [(0, 12, .agg (ndC x))] = some (ndC x) := rfl
            rw [bslX_E hf1 (escQ_list rfl), Obt_some]
            have hSp := (hS p hpm).2
            have hfl := List.length_filter_le keepN d2
            refine OwnE.app (l := d2.filter keepN) (ys := [x]) ?_ ndE.len (by simp only [content_l, lget_setL, if_true, conR_arr]; rfl) rfl (by decide) (by simp only [List.length_singleton]; omega) fun v' m' r1 r2 r3 => ?_
            · exact hO2.keep (by simp [setL, lget_lset, hL3])
            obtain ⟨L', H'⟩ := m'
            simp only [setL_H] at r2
            subst r2
            rcases r1 with ⟨h, _⟩ | ⟨hne, gv, rfl, hr1⟩
            · simp at h
            have hk0 : ∀ i, i ≠ 1216 → i ≠ 1200 → i ≠ 208 → lget L' i = lget L2 i := fun i n1 n2 n3 => by
              have := r3 i n1
              simp only at this
              rw [this]; simp [setL, lget_lset, Ne.symm n2, hL3 i n3]
            have h144 : lget L' 144 = some (.var g9 [sl intC p.pred, vP, vN, .int .i64 p.fin.op, .int .i64 p.fin.cond, .bool p.fin.wide, .int .i64 p.fin.a, .int .i64 p.fin.b, .int .i64 p.fin.to, .int .i64 p.fin.els] 0) := by rw [hk0 144 (by decide) (by decide) (by decide)]; exact hQ2
            simp only [ccells, h144, stV_var, List.length_singleton, List.length_cons, List.length_nil]
            rw [if_pos ⟨trivial, by decide, by decide⟩, Obt_some]
            refine hK (.ref (.l 1216) gv 0 (d2.filter keepN ++ [x]).length) _ (hBk hB2 (by rintro i (rfl | rfl | rfl | rfl) <;> (rw [lget_lset, if_neg (by decide)]; exact hk0 _ (by decide) (by decide) (by decide)))) (by rw [lget_lset, if_pos rfl]; rfl) (hP2.keep (by rw [lget_lset, if_neg (by decide)]; exact hk0 _ (by decide) (by decide) (by decide))) ?_
            rw [List.filter_append]
            simp only [List.filter_cons, hk, if_true, List.filter_nil]
            exact .inr ⟨hne, gv, rfl, by rw [lget_lset, if_neg (by decide)]; exact hr1⟩
          cases hs : staysB x with
          | true =>
            rw [hs] at hks
            have hk : keepN x = true := by rw [hkN]; simp [hs]
            repeat' (first
            | with_reducible (first | refine Tx_nopK ?_ | refine Tx_yesK rfl ?_ | refine Tx_yes rfl ?_ | refine Tx_blockK (id := 5) (fun Q5 hn5 hx5 hr5 ho5 => ?_))
            | (with_reducible ((first | refine Tx_regK (fun K hK => ?_) | refine Tx_regE (fun K hK => ?_)); (first | refine t22r17 ?_ | refine t22r18 ?_ | refine t22r19 ?_ | refine t22r20 ?_)); (try simp only [SS, Nat.reduceEqDiff, ccells, Nat.reduceAdd, splice, idxS_split ndE.len (by omega) h4, ldA_r12, ndC, hsetL, hks, hQ2]))
            | (revert hK; intro hK; (first | refine And.intro ?_ ?_ | intro _ | omega | (with_reducible refine hK _ ?_; clear hK K))))
            refine happ hk _ _ (fun i hi => by simp [lget_lset, Ne.symm hi]) fun vN' L' q1 q2 q3 q4 => ?_
            refine hK _ ?_
            clear hK K
            repeat' (first
            | with_reducible refine hn5 _ ?_
            | (with_reducible (refine Tx_regE (fun K hK => ?_); refine t22r21 ?_); (try simp only [SS, Nat.reduceEqDiff, hw2]))
            | (revert hK; intro hK; (with_reducible refine hK _ ?_; clear hK K)))
            exact hnext vN' L' q1 q2 q3 q4
          | false =>
            rw [hs] at hks
            have h6 : ¬ x.op = 6 := fun h => by simp [staysB, h] at hs
            obtain ⟨hx0, hx1⟩ := hidp x.id (List.mem_append_right _ (List.mem_map.2 ⟨x, List.mem_filter.2 ⟨by rw [h4]; simp, by simp [h6]⟩, rfl⟩))
            have hnx := need_at hfi hx0 hx1
            have hix : idxS 1 (.ref (.l 336) gn 0 n) (.int .i64 x.id) = some (.ptr (.l 336) gn x.id.toNat) := by rw [idxS_ref, if_pos ⟨hx0, by omega⟩]; simp
            cases hb : needB f x.id with
            | true =>
              rw [hb] at hnx
              have hk : keepN x = true := by rw [hkN]; simp [hb]
              repeat' (first
              | with_reducible (first | refine Tx_nopK ?_ | refine Tx_yesK rfl ?_ | refine Tx_yes rfl ?_ | refine Tx_blockK (id := 5) (fun Q5 hn5 hx5 hr5 ho5 => ?_))
              | (with_reducible ((first | refine Tx_regK (fun K hK => ?_) | refine Tx_regE (fun K hK => ?_)); (first | refine t22r17 ?_ | refine t22r18 ?_ | refine t22r19 ?_ | refine t22r20 ?_)); (try simp only [SS, Nat.reduceEqDiff, ccells, Nat.reduceAdd, rd1_arr, splice, idxS_split ndE.len (by omega) h4, ldA_r12, ndC, hsetL, hks, hix, h336, hnx, hQ2]))
              | (revert hK; intro hK; (first | refine And.intro ?_ ?_ | intro _ | omega | (with_reducible refine hK _ ?_; clear hK K))))
              refine happ hk _ _ (fun i hi => by simp [lget_lset, Ne.symm hi]) fun vN' L' q1 q2 q3 q4 => ?_
              refine hK _ ?_
              clear hK K
              repeat' (first
              | with_reducible refine hn5 _ ?_
              | (with_reducible (refine Tx_regE (fun K hK => ?_); refine t22r21 ?_); (try simp only [SS, Nat.reduceEqDiff, hw2]))
              | (revert hK; intro hK; (with_reducible refine hK _ ?_; clear hK K)))
              exact hnext vN' L' q1 q2 q3 q4
            | false =>
              rw [hb] at hnx
              have hk : keepN x = false := by rw [hkN]; simp [hs, hb]
              repeat' (first
              | with_reducible (first | refine Tx_nopK ?_ | refine Tx_yesK rfl ?_ | refine Tx_no rfl ?_ | refine Tx_nop ?_ | refine Tx_blockK (id := 5) (fun Q5 hn5 hx5 hr5 ho5 => ?_) | refine hn5 _ ?_)
              | (with_reducible ((first | refine Tx_regK (fun K hK => ?_) | refine Tx_regE (fun K hK => ?_)); (first | refine t22r17 ?_ | refine t22r18 ?_ | refine t22r19 ?_ | refine t22r21 ?_)); (try simp only [SS, Nat.reduceEqDiff, ccells, Nat.reduceAdd, rd1_arr, splice, idxS_split ndE.len (by omega) h4, ldA_r12, ndC, hsetL, hks, hix, h336, hnx, hw2]))
              | (revert hK; intro hK; (first | refine And.intro ?_ ?_ | intro _ | omega | (with_reducible refine hK _ ?_; clear hK K))))
              refine hnext vN _ (hBk hB2 (by rintro i (rfl | rfl | rfl | rfl) <;> simp [lget_lset])) (by simp [lget_lset, hQ2]) (hP2.keep (by simp [lget_lset])) ?_
              rw [List.filter_append]
              simp only [List.filter_cons, hk, Bool.false_eq_true, if_false, List.filter_nil, List.append_nil]
              exact hO2.keep (by simp [lget_lset])
        | nil =>
          simp only [List.length_nil] at hlen2
          rw [List.append_nil] at h4
          rw [← h4] at hO2
          obtain ⟨b1, b2, b3, b4⟩ : lget L2 32 = some (.var g2 [.nil, .int .i64 0] 0) ∧ lget L2 336 = some (.arr gn 1 ((needL f).flatMap boolC) 0) ∧ lget L2 96 = some (.var g6 [vG, .int .i64 f.values] 0) ∧ OwnE ptR 10 ⟨L2, []⟩ 1328 vG (d.map (deadP f)) := by rw [hBd] at hB2; exact hB2
          repeat' (first
          | with_reducible (first | refine Tx_noK rfl ?_ | refine Tx_exitK ?_ | refine hx4 _ ?_ | refine hxL1 _ _ ?_)
          | (with_reducible ((first | refine Tx_regK (fun K hK => ?_) | refine Tx_regE (fun K hK => ?_)); (first | refine t22r17 ?_ | refine t22r22 ?_)); (try simp only [SS, Nat.reduceEqDiff, ccells, Nat.reduceAdd, b3, hQ2]))
          | (revert hK; intro hK; (first | refine And.intro ?_ ?_ | intro _ | omega | (with_reducible refine hK _ ?_; clear hK K))))
          obtain ⟨m1, e1, e2, e3, _⟩ := hP2.seen.esc1 phE.len
          have hN1 : OwnE ndC 12 m1 1216 vN (p.nodes.filter keepN) := hO2.keep (by rw [e3 1216 (by decide)])
          obtain ⟨m2, f1, f2, f3, _⟩ := hN1.seen.esc1 ndE.len
          have hfil : fillX [.nil, .nil, .nil, .int .i64 0, .int .i64 0, .bool false, .int .i64 0, .int .i64 0, .int .i64 0, .int .i64 0] [(0, 10, .agg [sl intC p.pred, vP, vN, .int .i64 p.fin.op, .int .i64 p.fin.cond, .bool p.fin.wide, .int .i64 p.fin.a, .int .i64 p.fin.b, .int .i64 p.fin.to, .int .i64 p.fin.els])] = some [sl intC p.pred, vP, vN, .int .i64 p.fin.op, .int .i64 p.fin.cond, .bool p.fin.wide, .int .i64 p.fin.a, .int .i64 p.fin.b, .int .i64 p.fin.to, .int .i64 p.fin.els] := rfl
          have hesc : escList ⟨L2, []⟩ [sl intC p.pred, vP, vN, .int .i64 p.fin.op, .int .i64 p.fin.cond, .bool p.fin.wide, .int .i64 p.fin.a, .int .i64 p.fin.b, .int .i64 p.fin.to, .int .i64 p.fin.els] = some (ptR (deadP f p), m2) := by
            have hpost : escList m2 [.int .i64 p.fin.op, .int .i64 p.fin.cond, .bool p.fin.wide, .int .i64 p.fin.a, .int .i64 p.fin.b, .int .i64 p.fin.to, .int .i64 p.fin.els] = some ([.int .i64 p.fin.op, .int .i64 p.fin.cond, .bool p.fin.wide, .int .i64 p.fin.a, .int .i64 p.fin.b, .int .i64 p.fin.to, .int .i64 p.fin.els], m2) := escQ_list rfl
            have := escList_cons (esc_Q (m := ⟨L2, []⟩) (a := sl intC p.pred) escQ_sl) (escList_cons e1 (escList_cons f1 hpost))
            rw [hkN] at this
            exact this
          rw [bslX_E hfil hesc, Obt_some]
          have hfr : ∀ i, i ≠ 848 → i ≠ 1216 → lget m2.L i = lget L2 i := fun i n1 n2 => by rw [f3 i n2, e3 i n1]
          refine OwnE.app (l := d.map (deadP f)) (ys := [deadP f p]) ?_ ptR_len (by simp only [content_l, lget_setL, if_true, conR_arr]; rfl) rfl (by decide) (by simp only [List.length_singleton, List.length_map]; omega) fun v' m' r1 r2 r3 => ?_
          · exact b4.keep (by simp [setL, lget_lset, hfr])
          obtain ⟨L', H'⟩ := m'
          simp only [setL_H, f2, e2] at r2
          subst r2
          rcases r1 with ⟨h, _⟩ | ⟨hne, gv, rfl, hr1⟩
          · simp at h
          have hk0 : ∀ i, i ≠ 1328 → i ≠ 1312 → i ≠ 848 → i ≠ 1216 → lget L' i = lget L2 i := fun i n1 n2 n3 n4 => by
            have := r3 i n1
            simp only at this
            rw [this]; simp [setL, lget_lset, Ne.symm n2, hfr i n3 n4]
          have h96 : lget L' 96 = some (.var g6 [vG, .int .i64 f.values] 0) := by rw [hk0 96 (by decide) (by decide) (by decide) (by decide)]; exact b3
          simp only [h96, stV_var, List.length_singleton, List.length_cons, List.length_nil]
          rw [if_pos ⟨trivial, by decide, by decide⟩, Obt_some]
          refine hK _ ?_
          clear hK K
          repeat' (first
          | with_reducible refine hn1 _ ?_
          | (with_reducible (refine Tx_regE (fun K hK => ?_); refine t22r23 ?_); (try simp only [SS, Nat.reduceEqDiff, splice, hwd, hsetL]))
          | (revert hK; intro hK; (with_reducible refine hK _ ?_; clear hK K)))
          rw [show ((d.length : Int) + 1) = ((d ++ [p]).length : Int) by simp]
          refine hnL2 t.length _ (by simp) ⟨d ++ [p], t, .ref (.l 1328) gv 0 (d.map (deadP f) ++ [deadP f p]).length, _, by simp [h2], rfl, ⟨?_, ?_, ?_, ?_⟩, rfl⟩
          · rw [lget_lset, if_neg (by decide), hk0 32 (by decide) (by decide) (by decide) (by decide)]; exact b1
          · rw [lget_lset, if_neg (by decide), hk0 336 (by decide) (by decide) (by decide) (by decide)]; exact b2
          · rw [lget_lset, if_pos rfl]
          · rw [List.map_append]
            exact .inr ⟨hne, gv, rfl, by rw [lget_lset, if_neg (by decide)]; exact hr1⟩
end Go.Cm
