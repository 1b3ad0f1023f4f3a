/-
  Drawn regions run as the text does; code without what the machine does not look at runs as the code.
-/
import Derived.Test.YthjkmonenenlmaaCwE
set_option linter.unusedSimpArgs false
set_option linter.unusedVariables false
namespace Go.Cm

section
variable {P : Program} {A : Ann} {F : Oracle} {fid : FuncId} {nt : Nat} {m m' : Mem}

theorem evL_ev {ops : List Oper} {o : Oper} {sl : List CV} {x : Operand} (hx : x ∈ o.op.operands.toList) : evL (looks ops o) sl x = ev sl x := by
  cases x with
  | tmp t =>
    have : t ∈ looks ops o := by
      simp only [looks]
      refine List.mem_append_left _ (List.mem_filterMap.2 ⟨.tmp t, hx, rfl⟩)
    simp only [evL, ev]
    rw [if_pos (by simpa using this)]
  | const v => rfl
  | global g => rfl
  | func f => rfl

theorem drows_of {ops : List Oper} : ∀ (l : List Oper) (i : Nat) (xs : List SO) (s s' : CS), stripOs nt ops l = some xs → (∀ o ∈ l, plainAlloc P o = false) → sops P A F fid true xs s = some s' →
    ∃ rows, drows P A F fid nt ops [] i l s.sl s.m = some (rows, s'.sl, s'.m) ∧
      ∀ x ∈ rows, (calmOp A x.o.op = true → SeenEq x.m x.m') ∧ (x.go = true → quietOp x.o.op = true → cval P A F fid (evL (looks ops x.o) x.sl) x.o x.m = some (x.v, x.m))
  | [], i, xs, s, s', hx, _, h => by
    simp only [stripOs, Option.some.injEq] at hx
    subst hx
    simp only [sops, Option.some.injEq] at h
    subst h
    exact ⟨[], rfl, fun x hx => by simp at hx⟩
  | o :: l, i, xs, s, s', hx, hpa, h => by
    simp only [stripOs, Option.bind_eq_some_iff, Option.map_eq_some_iff] at hx
    obtain ⟨x, hx1, ys, hx2, rfl⟩ := hx
    simp only [sops, Option.bind_eq_some_iff] at h
    obtain ⟨s1, h1, h2⟩ := h
    obtain ⟨e1, e2, e3, e4⟩ := stripO_spec hx1
    have hp := hpa o List.mem_cons_self
    have step : ∃ y : Row, drow P A F fid nt ops [] i o s.sl s.m = some y ∧ y.o = o ∧ s1 = { sl := sput s.sl o.dst y.v, m := y.m' } ∧
        (calmOp A y.o.op = true → SeenEq y.m y.m') ∧ (y.go = true → quietOp y.o.op = true → cval P A F fid (evL (looks ops y.o) y.sl) y.o y.m = some (y.v, y.m)) := by
      unfold sop at h1
      rw [cval_up o e2 e3] at h1
      unfold drow
      rw [if_neg (by simp [e1]), e4, hp]
      have hc : cval P A F fid (evL (looks ops o) s.sl) o s.m = cval P A F fid (ev s.sl) o s.m := cval_congr fun y hy => evL_ev hy
      split at h1
      · rename_i hg
        simp only [hg, Bool.false_eq_true, if_false]
        simp only [Option.bind_eq_some_iff] at h1
        obtain ⟨⟨c, m1⟩, hy, h1⟩ := h1
        split at h1
        · cases h1
        · rename_i hnr
          simp only [Option.some.injEq] at h1
          rw [hc, hy]
          refine ⟨_, rfl, rfl, ?_, fun hcalm => ?_, fun _ hq => ?_⟩
          · simp only [← h1, e2]
            by_cases hq : quietOp o.op = true
            · simp only [hq, if_true]
              rw [quiet_mem hq hy]
            · simp only [hq, if_false]; rfl
          · simp only at hcalm ⊢
            split
            · exact SeenEq.refl _
            · refine calm_seen hcalm hy (fun f => rfl) ?_
              rw [e3, hcalm] at hnr
              simpa using hnr
          · simp only at hq ⊢
            rw [hc, hy, quiet_mem hq hy]
      · rename_i hg
        simp only [Option.some.injEq] at h1
        simp only [hg]
        exact ⟨_, rfl, rfl, by simp only [← h1, e2], fun _ => SeenEq.refl _, fun hgo => by cases hgo⟩
      · cases h1
    obtain ⟨y, hy1, hy2, hy3, hy4, hy5⟩ := step
    subst hy3
    obtain ⟨rows, g1, g2⟩ := drows_of l (i + 1) ys _ s' hx2 (fun o ho => hpa o (List.mem_cons_of_mem _ ho)) h2
    refine ⟨y :: rows, ?_, fun x hx => ?_⟩
    · simp only at g1
      simp only [drows, hy1, Option.bind_some, g1, Option.map_some]
    · rcases List.mem_cons.1 hx with rfl | hx
      · exact ⟨hy4, hy5⟩
      · exact g2 x hx

theorem memo_at {eff : Row → Bool} : ∀ (rows : List Row) (m : Mem), (∀ (k : Nat) (x : Row), rows[k]? = some x → x.m = mF (rows.take k) m ∧ (eff x = false → x.m' = x.m)) →
    ∀ (k : Nat) (x : Row), rows[k]? = some x → x.m = memo (rows.filter eff) (mF rows m) ((rows.take k).filter eff).length
  | [], m, _, k, x, hx => by simp at hx
  | y :: r, m, h, k, x, hx => by
    have hy := h 0 y (by simp)
    simp only [List.take_zero] at hy
    have hm : y.m = m := hy.1
    have hr : ∀ (k : Nat) (x : Row), r[k]? = some x → x.m = mF (r.take k) y.m' ∧ (eff x = false → x.m' = x.m) := fun k z hz => by
      have := h (k + 1) z (by simpa using hz)
      simpa [mF, List.take_succ_cons] using this
    have hF : mF (y :: r) m = mF r y.m' := rfl
    rw [hF]
    cases k with
    | zero =>
      simp only [List.getElem?_cons_zero, Option.some.injEq] at hx
      subst hx
      have := (memo_spec (eff := eff) (y :: r) m h).1
      rw [hF] at this
      simpa [hm] using this.symm
    | succ k =>
      simp only [List.getElem?_cons_succ] at hx
      have ih := memo_at (eff := eff) r y.m' hr k x hx
      rw [List.take_succ_cons]
      by_cases he : eff y = true
      · rw [List.filter_cons_of_pos he, List.filter_cons_of_pos he, List.length_cons]
        rw [ih]
        simp [memo]
      · rw [List.filter_cons_of_neg he, List.filter_cons_of_neg he]
        exact ih

theorem sdraw_ok {ops : List Oper} {xs : List SO} {s s' : CS} (hst : statOK P A ops = true) (hx : stripOs nt ops ops = some xs) (h : sops P A F fid true xs s = some s') : cdraw P A F fid nt ops s = some s' := by
  simp only [statOK, Bool.and_eq_true] at hst
  obtain ⟨hreg, hstat⟩ := hst
  have hsl := statL_spec ops 0 hstat
  have hpa : ∀ o ∈ ops, plainAlloc P o = false := fun o ho => by
    obtain ⟨k, hk⟩ := List.getElem?_of_mem ho
    exact (hsl k o hk).2
  obtain ⟨rows, hr, hrows⟩ := drows_of ops 0 xs s s' hx hpa h
  obtain ⟨r1, r2, r3, r4⟩ := drows_spec _ _ _ _ _ _ _ hr
  have hq0 : ∀ (k : Nat) (x : Row), rows[k]? = some x → x.m = mF (rows.take k) s.m ∧ (effOp P x.o = false → x.m' = x.m) := fun k x hx => ⟨(r4 k x hx).2.2.2.1, fun he => by
    obtain ⟨_, hc⟩ := drow_cases (r4 k x hx).2.2.2.2
    rcases hc with ⟨_, _, hm⟩ | ⟨_, _, hm, _⟩ | ⟨_, _, _, _, hm⟩ | ⟨_, hp, hq, _⟩
    · exact hm
    · exact hm
    · exact hm
    · simp [effOp, hp, hq] at he⟩
  have hnext := (memo_spec (eff := fun x => effOp P x.o) rows s.m hq0).2
  have hat := memo_at (eff := fun x => effOp P x.o) rows s.m hq0
  have hidx : ∀ (k : Nat) (x : Row), rows[k]? = some x → x.i = k := fun k x hx => by have := (r4 k x hx).2.1; omega
  have hops : rows.map (·.o) = ops := by
    apply List.ext_getElem?
    intro k
    rw [List.getElem?_map]
    cases hk : rows[k]? with
    | none =>
      rw [List.getElem?_eq_none_iff] at hk
      simp only [Option.map_none]
      exact (List.getElem?_eq_none (by omega)).symm
    | some x =>
      simp only [Option.map_some]
      exact (r4 k x hk).1.symm
  have hes : effIx P A 0 ops = (rows.filter fun x => effOp P x.o).map fun x => (x.i, calmOp A x.o.op) := by
    have := effIx_rows (P := P) (A := A) rows 0 fun k x hx => by rw [Nat.zero_add]; exact hidx k x hx
    rwa [hops] at this
  unfold cdraw
  simp only [hreg, if_true, hoist_none ops 0 s.m hpa, Option.bind_some, hr]
  rw [if_pos]
  simp only [keysOK, List.all_nil, Bool.and_self, Bool.true_and]
  rw [List.all_eq_true]
  intro x hxm
  simp only [Bool.or_eq_true, Bool.not_eq_true', Bool.and_eq_false_iff]
  by_cases hgo : x.go = true
  case neg => exact .inl (.inl (by simpa using hgo))
  by_cases hq : quietOp x.o.op = true
  case neg => exact .inl (.inr (by simpa using hq))
  right
  obtain ⟨i, hi⟩ := List.getElem?_of_mem hxm
  have hxi := hidx i x hi
  have hcv := (hrows x hxm).2 hgo hq
  have fin : ∀ mm, cval P A F fid (evL (looks ops x.o) x.sl) x.o mm = some (x.v, mm) → steadyAt P A F fid ops x mm = true := fun mm hmm => by
    simp only [steadyAt, hmm]
    exact beq_refl _
  refine steady_of _ fun k hk h1 h2 => fin _ ?_
  rcases (hsl i x.o (r4 i x hi).1).1 hq with hmf | hsi
  · exact cval_memFree hmf hcv _
  · refine cval_seen hq ?_ hcv
    rw [Nat.zero_add] at hsi
    -- where the row stands among what does something
    generalize hesd : (rows.filter fun x => effOp P x.o) = es at *
    have hxm' : x.m = memo es s'.m ((rows.take i).filter fun x => effOp P x.o).length := by rw [r3]; exact hat i x hi
    generalize hp : ((rows.take i).filter fun x => effOp P x.o).length = p at hxm'
    have hpos : ∀ (j : Nat) (e : Row), es[j]? = some e → (j < p → e.i < i) ∧ (p ≤ j → i < e.i) := by
      intro j e he
      have hsplit : es = ((rows.take i).filter fun x => effOp P x.o) ++ ((rows.drop i).filter fun x => effOp P x.o) := by
        rw [← hesd, ← List.filter_append, List.take_append_drop]
      rw [hsplit] at he
      refine ⟨fun hj => ?_, fun hj => ?_⟩
      · rw [List.getElem?_append_left (by omega)] at he
        have hm := List.mem_of_getElem? he
        rw [List.mem_filter] at hm
        obtain ⟨q, hqq⟩ := List.getElem?_of_mem hm.1
        rw [List.getElem?_take] at hqq
        split at hqq
        · rw [hidx q e hqq]; assumption
        · cases hqq
      · rw [List.getElem?_append_right (by omega)] at he
        have hm := List.mem_of_getElem? he
        rw [List.mem_filter] at hm
        obtain ⟨q, hqq⟩ := List.getElem?_of_mem hm.1
        rw [List.getElem?_drop] at hqq
        have hei := hidx _ e hqq
        rcases Nat.eq_zero_or_pos q with h0 | h0
        · subst h0
          rw [Nat.add_zero, hi] at hqq
          simp only [Option.some.injEq] at hqq
          subst hqq
          have : effOp P x.o = false := quiet_noeff hq
          rw [this] at hm
          cases hm.2
        · omega
    have hcalm : ∀ (j : Nat) (e : Row), es[j]? = some e → calmOp A e.o.op = true ∨ (j < p ∧ ∀ (j' : Nat) (e' : Row), j' ≤ j → es[j']? = some e' → ((amasks ops []).getD i 0).testBit e'.i = true) ∨ (p ≤ j ∧ ((amasks ops []).getD e.i 0).testBit i = true) := by
      intro j e he
      have hlt := (List.getElem?_eq_some_iff.1 he).1
      simp only [statI, List.all_eq_true, List.mem_range, hes, List.length_map] at hsi
      have := hsi j hlt
      rw [List.getElem?_map, he] at this
      simp only [Option.map_some, Bool.or_eq_true, Bool.and_eq_true, decide_eq_true_eq] at this
      rcases this with (hc | ⟨hlt', hall⟩) | ⟨hlt', hb⟩
      · exact .inl hc
      · refine .inr (.inl ⟨?_, fun j' e' hj' he' => ?_⟩)
        · rcases Nat.lt_or_ge j p with h | h
          · exact h
          · have := (hpos j e he).2 h; omega
        · have := List.all_eq_true.1 hall (e'.i, calmOp A e'.o.op) (by
            rw [← List.map_take]
            refine List.mem_map.2 ⟨e', List.mem_of_getElem? (i := j') ?_, rfl⟩
            rw [List.getElem?_take, if_pos (by omega)]; exact he')
          simpa using this
      · refine .inr (.inr ⟨?_, hb⟩)
        rcases Nat.lt_or_ge j p with h | h
        · have := (hpos j e he).1 h; omega
        · exact h
    have hseen : ∀ (j : Nat) (e : Row), es[j]? = some e → calmOp A e.o.op = true → SeenEq (memo es s'.m j) (memo es s'.m (j + 1)) := by
      intro j e he hc
      have hin : e ∈ rows := by
        have := List.mem_of_getElem? he
        rw [← hesd, List.mem_filter] at this
        exact this.1
      have h3 : memo es s'.m (j + 1) = e.m' := by rw [r3]; exact hnext j e he
      rw [h3]
      have h4 : memo es s'.m j = e.m := by simp [memo, he]
      rw [h4]
      exact (hrows e hin).1 hc
    have chain : ∀ (d a : Nat), (∀ (j : Nat) (e : Row), a ≤ j → j < a + d → es[j]? = some e → calmOp A e.o.op = true) → a + d ≤ es.length → SeenEq (memo es s'.m a) (memo es s'.m (a + d)) := by
      intro d
      induction d with
      | zero => intro a _ _; exact SeenEq.refl _
      | succ d ih =>
        intro a hc hl
        have h3 := ih a (fun j e hj1 hj2 he => hc j e hj1 (by omega) he) (by omega)
        have hlt : a + d < es.length := by omega
        have h4 := hseen (a + d) es[a + d] (List.getElem?_eq_getElem hlt) (hc (a + d) _ (by omega) (by omega) (List.getElem?_eq_getElem hlt))
        exact h3.trans h4
    rw [hxm']
    have hpl : p ≤ es.length := by
      have hsplit : es = ((rows.take i).filter fun x => effOp P x.o) ++ ((rows.drop i).filter fun x => effOp P x.o) := by
        rw [← hesd, ← List.filter_append, List.take_append_drop]
      rw [hsplit, List.length_append]; omega
    rcases Nat.le_total k p with hkp | hkp
    · have := chain (p - k) k (fun j e hj1 hj2 he => by
        rcases hcalm j e he with hc | ⟨_, hall⟩ | ⟨hge, _⟩
        · exact hc
        · have hlt := (List.getElem?_eq_some_iff.1 he).1
          have hk' : es[k]? = some es[k] := List.getElem?_eq_getElem (by omega)
          have h5 := hall k _ hj1 hk'
          have h6 := h2 _ hk'
          rw [hxi, h5] at h6
          cases h6
        · omega) (by omega)
      rw [show k + (p - k) = p from by omega] at this
      exact this.symm
    · have := chain (k - p) p (fun j e hj1 hj2 he => by
        rcases hcalm j e he with hc | ⟨hlt, _⟩ | ⟨_, hb⟩
        · exact hc
        · omega
        · have h6 := h1 j e (by omega) he
          rw [hxi, hb] at h6
          cases h6) (by omega)
      rwa [show p + (k - p) = k from by omega] at this

theorem sexec_cexec : ∀ (c : Code) (x : SC), strip P A fid nt c = some x → ∀ (n : Nat) (s : CS) (r : CE × CS), sexec P A F fid n x s = some r → cexec P A F fid nt n c s = some r := by
  intro c
  induction c with
  | skip =>
    intro x hx n s r h
    simp only [strip, Option.some.injEq] at hx; subst hx
    simpa only [sexec, cexec] using h
  | label =>
    intro x hx n s r h
    simp only [strip, Option.some.injEq] at hx; subst hx
    simpa only [sexec, cexec] using h
  | region id ops draw =>
    intro x hx n s r h
    simp only [strip] at hx
    cases draw with
    | true =>
      simp only [if_true] at hx
      split at hx
      · rename_i hst
        simp only [Option.map_eq_some_iff] at hx
        obtain ⟨xs, hxs, rfl⟩ := hx
        simp only [sexec, Option.map_eq_some_iff] at h
        obtain ⟨s', h, rfl⟩ := h
        simp only [cexec, if_true, sdraw_ok hst hxs h, Option.map_some]
      · cases hx
    | false =>
      simp only [Bool.false_eq_true, if_false, Option.map_eq_some_iff] at hx
      obtain ⟨xs, hxs, rfl⟩ := hx
      simp only [sexec, Option.map_eq_some_iff] at h
      obtain ⟨s', h, rfl⟩ := h
      simp only [cexec, Bool.false_eq_true, if_false, sops_cops _ _ _ _ hxs h, Option.map_some]
  | seq a b iha ihb =>
    intro x hx n s r h
    simp only [strip, Option.bind_eq_some_iff, Option.map_eq_some_iff] at hx
    obtain ⟨y, hy, z, hz, rfl⟩ := hx
    simp only [sexec, cexec, Option.bind_eq_some_iff] at h ⊢
    obtain ⟨⟨e, s1⟩, h1, h2⟩ := h
    refine ⟨_, iha y hy _ _ _ h1, ?_⟩
    cases e
    case normal => exact ihb z hz _ _ _ h2
    all_goals exact h2
  | cond c a b iha ihb =>
    intro x hx n s r h
    simp only [strip, Option.bind_eq_some_iff, Option.map_eq_some_iff] at hx
    obtain ⟨y, hy, z, hz, rfl⟩ := hx
    simp only [sexec, cexec] at h ⊢
    split at h
    · rename_i hc; simp only [hc]; exact iha y hy _ _ _ h
    · rename_i hc; simp only [hc]; exact ihb z hz _ _ _ h
    · cases h
  | block id c ih =>
    intro x hx n s r h
    simp only [strip, Option.map_eq_some_iff] at hx
    obtain ⟨y, hy, rfl⟩ := hx
    simp only [sexec, cexec, Option.map_eq_some_iff] at h ⊢
    obtain ⟨r1, h1, h2⟩ := h
    exact ⟨r1, ih y hy _ _ _ h1, h2⟩
  | loop c ih =>
    intro x hx n s r h
    simp only [strip, Option.map_eq_some_iff] at hx
    obtain ⟨y, hy, rfl⟩ := hx
    simp only [sexec, cexec] at h ⊢
    exact iter_mono (fun s r h => ih y hy _ _ _ h) _ _ _ _ (Nat.le_refl _) h
  | exit id =>
    intro x hx n s r h
    simp only [strip, Option.some.injEq] at hx; subst hx
    simpa only [sexec, cexec] using h
  | ret =>
    intro x hx n s r h
    simp only [strip, Option.some.injEq] at hx; subst hx
    simpa only [sexec, cexec] using h
  | _ => intro x hx; simp [strip] at hx
end
end Go.Cm
