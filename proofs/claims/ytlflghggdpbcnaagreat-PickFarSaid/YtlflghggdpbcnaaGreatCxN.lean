import Derived.Test.YtlflghggdpbcnaaGreatCwA
import Derived.Test.YtlflghggdpbcnaaGreatCxH
import Derived.Shelf.SlIterI.Nil
import Derived.Maps.OwnSet
set_option linter.unusedSimpArgs false
set_option linter.unusedVariables false
namespace Go.Cm
open Go.Maps Go.RowKit
open Go.WideElems (Fit rd rg)
section
variable {K : KM} {Q : PM} {P : Program} {w w' : World} {m : Mem}
theorem get_gm' (H : List HO) : Mem.get ⟨[], H⟩ = gm H := by
  funext k
  cases k with
  | l j => rfl
  | g n => rfl
theorem Trans_below (hR : MR K m.get Q w) (hB : Below w.heap.size w w') : Trans K m Q w K m Q w' := by
  have hb : ∀ {b o : Nat} {v : Value}, w.cell? ⟨b, o, none⟩ = some v → b < w.heap.size := fun {b o v} h => by
    unfold World.cell? at h
    cases hx : w.heap[b]? with
    | none => simp [hx] at h
    | some _ => exact (Array.getElem?_eq_some_iff.1 hx).1
  refine ⟨hR.apart (fun _ _ _ h => h) (fun b o v hv => ?_) (fun _ _ _ _ h => h) (fun b hb => hB.block b hb) hB.size, fun _ _ _ h => h, Grow.refl _ _ _, hB.size, fun b hb _ => hB.block b hb, fun _ _ _ h => .inl h, fun k q h => .inl ⟨q, h, rfl⟩, hB.os, hB.output, fun a ha => ?_, hB.size⟩
  · have := hR.stab b o v hv
    rw [← this]
    exact cell?_of_heap (hB.block b (hb this))
  · simp only [World.frozen?, hB.block a.block ha]
theorem fresh_copy (hR : MR K m.get Q w) (glob : Bool) (j : Nat) {es : List (CV × CV)} {xs : Array MapEntry} {clk : Nat} (hw : Pushed w w' (.map xs clk)) (hs : xs.size = es.length)
    (he : ∀ (i : Nat) (e : CV × CV), es[i]? = some e → ∃ x, xs[i]? = some x ∧ EntryOK K m.get Q e x) (hst : MapKept.Stamped xs clk) :
    ∃ Q', Trans K m Q w K (m.add glob j fun g => .map g es).2.2 Q' w' ∧
      Vt K (m.add glob j fun g => .map g es).2.2 Q' (.map (m.add glob j fun g => .map g es).1 (m.add glob j fun g => .map g es).2.1) (.map (some w.heap.size)) := by
  obtain ⟨hget, hgen⟩ := add_spec m glob j (fun g => HO.map g es) (fun _ => rfl)
  generalize (m.add glob j fun g => HO.map g es).1 = key at *
  generalize (m.add glob j fun g => HO.map g es).2.1 = gn at *
  generalize (m.add glob j fun g => HO.map g es).2.2 = m2 at *
  have hsz : w'.heap.size = w.heap.size + 1 := by rw [hw.1]; simp
  have hold : ∀ b, b < w.heap.size → w'.heap[b]? = w.heap[b]? := fun b hb => by rw [hw.1, Array.getElem?_push]; rw [if_neg (by omega)]
  have hGrow : Grow true m.get Q (upd m.get key (.map gn es)) (updP Q key (some ⟨w.heap.size, 0, 0⟩)) :=
    Grow.upd fun y hy => ⟨Nat.le_of_lt (hgen y hy), fun he => absurd he (Nat.ne_of_lt (hgen y hy))⟩
  have hmove : MR K (upd m.get key (.map gn es)) (updP Q key (some ⟨w.heap.size, 0, 0⟩)) w' := by
    refine hR.move hgen hold (by omega) (fun p hp => by simp only [Option.some.injEq] at hp; subst hp; exact ⟨Nat.le_refl _, by show w.heap.size < w'.heap.size; omega⟩) ?_
    intro q hq
    simp only [updP, if_true, Option.some.injEq] at hq
    subst hq
    exact (show MapOK K (upd m.get key (.map gn es)) (updP Q key (some ⟨w.heap.size, 0, 0⟩)) w' es ⟨w.heap.size, 0, 0⟩ from ⟨xs, clk, by rw [hw.1]; simp, hs, fun i e hi => by
      obtain ⟨x, hx, ha, hb⟩ := he i e hi
      exact ⟨x, hx, V_mono (fun _ _ _ h => h) hGrow.sub (fun h => h) hGrow.sub _ _ ha, V_mono (fun _ _ _ h => h) hGrow.sub (fun h => h) hGrow.sub _ _ hb⟩, hst⟩)
  refine ⟨updP Q key (some ⟨w.heap.size, 0, 0⟩), ⟨by rw [hget]; exact hmove, fun _ _ _ h => h, by rw [hget]; exact hGrow, by omega, fun b hb _ => hold b hb, fun _ _ _ h => .inl h, fun k q hq => ?_, hw.kept (.inr ⟨_, _, rfl⟩)⟩, ?_⟩
  · simp only [updP] at hq
    split at hq
    · rename_i he; subst he
      simp only [Option.some.injEq] at hq; subst hq; exact .inr ⟨Nat.le_refl _, fun h hh => ⟨.map gn es, by rw [hget]; simp [upd], hgen h hh⟩⟩
    · exact .inl ⟨q, hq, rfl⟩
  · simp only [Vt, V]
    exact ⟨by cases key <;> simp [keyOK], .map gn es, _, by rw [hget]; simp [upd], Nat.le_refl _, rfl, fun _ => ⟨_, by simp [updP]; rfl, rfl⟩⟩
theorem map_at {H : List HO} (hR : MR K (gm H) Q w) {n gn : Nat} {es : List (CV × CV)} (hH : H[n]? = some (.map gn es)) {vs : Array Value} (hV : Vs K (gm H) Q false [.map (.g n) gn] vs.toList) :
    ∃ b xs clk, vs = #[.map (some b)] ∧ w.heap[b]? = some (.map xs clk) ∧ xs.size = es.length ∧ (∀ (i : Nat) (e : CV × CV), es[i]? = some e → ∃ x, xs[i]? = some x ∧ EntryOK K (gm H) Q e x) ∧ MapKept.Stamped xs clk := by
  simp only [Vs] at hV
  obtain ⟨v, r, hvs, hv, hr⟩ := hV
  subst hr
  obtain rfl : vs = #[v] := by cases vs; simpa using hvs
  simp only [V] at hv
  obtain ⟨_, h, b, hh, _, rfl, hc⟩ := hv
  have hh' : h = .map gn es := by
    have : gm H (.g n) = H[n]? := rfl
    rw [this, hH] at hh
    injection hh with hh
    exact hh.symm
  subst hh'
  obtain ⟨q, hq, rfl⟩ := hc rfl
  obtain ⟨xs, clk, h1, h2, h3, h4⟩ := hR.objs (.g n) _ hh q hq
  exact ⟨_, xs, clk, rfl, h1, h2, h3, h4⟩
theorem clone_sim {f : FuncId} (hf : ∃ fn, P.funcs[f]? = some fn ∧ fn.body.isSome = true)
    (hC : ∀ (b : Nat) (es : Array MapEntry) (clock : Nat) (w : World), w.heap[b]? = some (.map es clock) → Calls P f #[.map (some b)] w fun e w' => e = .returned (.map (some w.heap.size)) ∧ w' = w.alloc (.map es clock))
    {n gn : Nat} {es : List (CV × CV)} {H : List HO} (hH : H[n]? = some (.map gn es)) :
    SimAt P f [.map (.g n) gn] H (.map (.g H.length) 1) (H ++ [.map 1 es]) := by
  refine ⟨hf, fun K Q w vs hR hV => ?_⟩
  obtain ⟨b, xs, clk, rfl, h1, h2, h3, h4⟩ := map_at hR hH hV
  refine (hC b xs clk w h1).mono ?_
  rintro e w' ⟨rfl, rfl⟩
  have hR' : MR K (Mem.get ⟨[], H⟩) Q w := by rw [get_gm']; exact hR
  obtain ⟨Q', hT, hv⟩ := fresh_copy (w' := w.alloc (.map xs clk)) (es := es) hR' true 0 (xs := xs) (clk := clk) ⟨rfl, rfl, rfl⟩ h2 (by rw [get_gm']; exact h3) h4
  simp only [Mem.add, if_true] at hT hv
  obtain ⟨t1, t2, t3, t4, t5, t6, t7, t8⟩ := hT
  rw [get_gm'] at t1 t3 t7
  rw [get_gm'] at t3 t7
  refine ⟨_, K, Q', rfl, t1, ⟨t5, t4, t2, t6, t3.sub, t7, t8⟩, none, rfl, ?_⟩
  simp only [Vt, V, get_gm'] at hv ⊢
  exact ⟨by simp [keyOK], hv.2⟩
def keysI : List (CV × CV) → Option (List Int)
  | [] => some []
  | (.int .i64 x, _) :: r => if (Lit.int .i64 x).wf then (keysI r).map (x :: ·) else none
  | _ => none
theorem keysI_get : ∀ {es : List (CV × CV)} {ks : List Int}, keysI es = some ks → ks.length = es.length ∧ ∀ (i : Nat) (e : CV × CV), es[i]? = some e → ∃ x, ks[i]? = some x ∧ e.1 = .int .i64 x ∧ (Lit.int .i64 x).wf = true
  | [], ks, h => by
    simp only [keysI, Option.some.injEq] at h
    subst h
    exact ⟨rfl, fun i e he => by simp at he⟩
  | e :: es, ks, h => by
    unfold keysI at h
    split at h
    · rename_i h0; cases h0
    · rename_i x c r h0
      injection h0 with h1 h2
      subst h1 h2
      split at h
      · rename_i hw
        rw [Option.map_eq_some_iff] at h
        obtain ⟨l', h3, rfl⟩ := h
        obtain ⟨h4, h5⟩ := keysI_get h3
        refine ⟨by simp [h4], fun i e he => ?_⟩
        cases i with
        | zero =>
          simp only [List.getElem?_cons_zero, Option.some.injEq] at he
          subst he
          exact ⟨x, rfl, rfl, hw⟩
        | succ i => exact h5 i e (by simpa using he)
      · cases h
    · cases h
def sortI (l : List Int) : List Int := l.mergeSort fun x y => decide (x ≤ y)
def listR (ks : List Int) : CV := if ks = [] then .nil else .own ks.length 1 ((sortI ks).flatMap intC) 0
def RU : Value → Option (DataW Unit × List MemPlace) := fun _ => some (.nil, [])
theorem keys_perm {tk : TypeId} (hk : P.underlying tk = some (.int .i64)) {xs : Array MapEntry} {ks : List Int} (hl : ks.length = xs.size)
    (hx : ∀ (i : Nat) (x : MapEntry), xs[i]? = some x → ∃ z, ks[i]? = some z ∧ x.key = .int .i64 z ∧ (Lit.int .i64 z).wf = true) :
    (∀ x ∈ xs.toList, ∃ y, rd P tk RU x = some y) ∧ (intKeys (DataW.map ((xs.toList.map (rg P tk RU)).foldr DataW.insert []))).Perm ks := by
  have hr : ∀ (i : Nat) (x : MapEntry), xs[i]? = some x → ∃ z, ks[i]? = some z ∧ rd P tk RU x = some (.int .i64 z, .nil) := fun i x hi => by
    obtain ⟨z, h1, h2, h3⟩ := hx i x hi
    refine ⟨z, h1, ?_⟩
    simp only [rd, h2, Go.Maps.keyOf_int_mk hk h3, RU, Option.bind_some, Option.map_some]
  refine ⟨fun x h => ?_, ?_⟩
  · obtain ⟨i, hi⟩ := List.getElem?_of_mem h
    rw [Array.getElem?_toList] at hi
    obtain ⟨z, _, h2⟩ := hr i x hi
    exact ⟨_, h2⟩
  · simp only [intKeys]
    refine ((WideShapes.sorted_perm _).map _).trans (List.Perm.of_eq ?_)
    refine List.ext_getElem? fun i => ?_
    simp only [List.getElem?_map, Array.getElem?_toList]
    cases hi : xs[i]? with
    | none =>
      have : xs.size ≤ i := by simpa using hi
      simp [hl, this]
    | some x =>
      obtain ⟨z, h1, h2⟩ := hr i x hi
      rw [h1]
      simp [rg, h2]; rfl
theorem list_sim {f tk : Nat} (hf : ∃ fn, P.funcs[f]? = some fn ∧ fn.body.isSome = true) (hk : P.underlying tk = some (.int .i64))
    (hL : ∀ (b nn : Nat) (D0 : DataW Unit) (R : Value → Option (DataW Unit × List MemPlace)) (w : World), w.ownsMap P tk R b nn D0 → Maps.size D0 ≤ maxLen → Maps.size D0 * 8 ≤ 140737488355328 →
      Calls P f #[.map (some b)] w fun e w' => ∃ (v : Value) (ss : List Int), e = .returned v ∧ ss.Perm (intKeys D0) ∧
        w'.ownsRow w.heap.size tk 1 v ss.length ((ss.mergeSort (fun x y => decide (x ≤ y))).map encZ) ∧ (v = .slice none 0 0 ↔ ss = []) ∧ Below w.heap.size w w')
    {n gn : Nat} {es : List (CV × CV)} {ks : List Int} {H : List HO} (hH : H[n]? = some (.map gn es)) (hks : keysI es = some ks) (hlen : es.length ≤ 1000000) :
    SimAt P f [.map (.g n) gn] H (listR ks) H := by
  refine ⟨hf, fun K Q w vs hR hV => ?_⟩
  obtain ⟨b, xs, clk, rfl, h1, h2, h3, h4⟩ := map_at hR hH hV
  obtain ⟨hkl, hkg⟩ := keysI_get hks
  obtain ⟨hrd, hperm⟩ := keys_perm (P := P) hk (xs := xs) (ks := ks) (by omega) (fun i x hi => by
    have hi' : i < es.length := by have := (Array.getElem?_eq_some_iff.1 hi).1; omega
    obtain ⟨x', hx', hE, _⟩ := h3 i _ (List.getElem?_eq_getElem hi')
    rw [hi] at hx'
    simp only [Option.some.injEq] at hx'
    subst hx'
    obtain ⟨z, hz1, hz2, hz3⟩ := hkg i _ (List.getElem?_eq_getElem hi')
    rw [hz2] at hE
    simp only [V] at hE
    exact ⟨z, hz1, hE, hz3⟩)
  have hsz : Maps.size (DataW.map ((xs.toList.map (rg P tk RU)).foldr DataW.insert [])) = xs.size := by simp [Maps.size, length_sorted]
  have hmx : (1000000 : Nat) ≤ maxLen := by decide
  have hown : w.ownsMap P tk RU b xs.size (DataW.map ((xs.toList.map (rg P tk RU)).foldr DataW.insert [])) := ⟨xs, clk, h1, ⟨by omega, h4, hrd⟩, Nat.le_refl _, rfl⟩
  refine (hL b _ _ _ w hown (by omega) (by omega)).mono ?_
  rintro e w' ⟨v, ss, rfl, hp, hrow, hnil, hB⟩
  have hps : ss.Perm ks := hp.trans hperm
  have hsort : (ss.mergeSort fun x y => decide (x ≤ y)) = sortI ks := mergeSort_of_perm_i hps
  have hsl : ss.length = ks.length := hps.length_eq
  rw [hsort, hsl] at hrow
  have hR' : MR K (Mem.get ⟨[], H⟩) Q w := by rw [get_gm']; exact hR
  have hT := Trans_below (m := ⟨[], H⟩) hR' hB
  obtain ⟨t1, t2, t3, t4, t5, t6, t7, t8⟩ := hT
  rw [get_gm'] at t1 t3 t7
  refine ⟨v, K, Q, rfl, t1, ⟨t5, t4, t2, t6, t3.sub, t7, t8⟩, ?_⟩
  have hSl : (sortI ks).length = ks.length := List.length_mergeSort _
  by_cases hk0 : ks = []
  · have hs0 : ss = [] := List.eq_nil_of_length_eq_zero (by rw [hsl, hk0]; rfl)
    rw [listR, if_pos hk0]
    exact ⟨none, rfl, by simp only [V]; exact hnil.2 hs0⟩
  · rw [listR, if_neg hk0]
    rcases hrow.2 with ⟨_, h0⟩ | ⟨g, cap, cur, rfl, hbase, hgb, r1, r2, r3, r4⟩
    · exact absurd (List.eq_nil_of_length_eq_zero h0) hk0
    · refine ⟨some g, .inr ⟨⟨g, 0, cap⟩, cap, rfl, hbase, fun k p hkp hpe => ?_, rfl, r1, by simp, by rw [len_int, hSl]; omega, ⟨cur, tk, hgb, by simpa using r3, fun i c hc => ?_⟩, ?_, fun o ho => ?_⟩⟩
      · have := (hR.dom k p hkp).2
        simp only [] at hpe
        omega
      · rw [flat_int] at hc
        cases hx : (sortI ks)[i]? with
        | none => rw [hx] at hc; simp at hc
        | some x =>
          rw [hx] at hc
          simp only [Option.map_some, Option.some.injEq] at hc
          subst hc
          refine ⟨rfl, .int .i64 x, ?_, by simp only [V]⟩
          have hi : i < ks.length := by have := (List.getElem?_eq_some_iff.1 hx).1; omega
          have e1 := congrArg (·[i]?) r4
          simp only [List.getElem?_map, hx, Option.map_some, Nat.mul_one] at e1
          rw [List.getElem?_take, if_pos hi, Array.getElem?_toList] at e1
          simpa [encZ] using e1
      · show 0 + ((sortI ks).flatMap intC).length ≤ cap
        rw [len_int, hSl]; omega
      · cases hko : K g o with
        | none => rfl
        | some v =>
          have := hR.stab _ _ _ hko
          have hlt : g < w.heap.size := by
            unfold World.cell? at this
            cases hx : w.heap[g]? with
            | none => simp [hx] at this
            | some _ => exact (Array.getElem?_eq_some_iff.1 hx).1
          omega
end
end Go.Cm
