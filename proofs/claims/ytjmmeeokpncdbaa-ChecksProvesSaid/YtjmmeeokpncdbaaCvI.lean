/-
  The C machine, ninth part: slices' parts, places of elements and fields, maps that are asked; all operations that only answer.
-/
import Derived.Test.YtjmmeeokpncdbaaCvH
set_option linter.unusedSimpArgs false
set_option linter.unusedVariables false
namespace Go.Cm

section
variable {K : KM} {Q : PM} {P : Program} {w : World} {m : Mem}

theorem clen_run {c : CV} {n : Nat} {v : Value} (hv : Vt K m Q c v) (h : clen c = some n) : ∃ a cap, v = .slice a n cap ∧ n ≤ cap := by
  unfold clen at h
  split at h <;> simp only [Option.some.injEq, reduceCtorEq] at h <;> subst h <;> simp only [Vt, V] at hv
  · exact ⟨_, _, hv, Nat.le_refl _⟩
  · obtain ⟨_, a, cap, h1, h2, _⟩ := hv; exact ⟨a, cap, h1, h2⟩
  · obtain ⟨_, _, a, cap, _, _, h1, h2, _, _⟩ := hv; exact ⟨a, cap, h1, h2⟩

theorem addr_add (b o n : Nat) : (⟨b, o, Option.none⟩ : Addr).add n = ⟨b, o + n, Option.none⟩ := Addr.add_none b o n

theorem cslice_run (hR : MR K m.get Q w) {t : TypeId} {x : CV} {lo hi mx : Option CV} {c : CV} {v : Value} {lo' hi' mx' : Option Value} (hv : Vt K m Q x v)
    (hlo : optV K m Q lo lo') (hhi : optV K m Q hi hi') (hmx : optV K m Q mx mx') (h : cslice P t x lo hi mx m = some c) :
    ∃ r, (Instr.sliceAt t v lo' hi' mx').run P w = .ok r w ∧ Vt K m Q c r := by
  unfold cslice at h
  split at h
  · simp at h
  · rename_i hm
    split at h
    · rename_i e hu
      cases hs : tsize P e with
      | none => simp [hs] at h
      | some sz =>
        cases hl : clen x with
        | none => simp [hs, hl] at h
        | some len =>
          simp only [hs, hl] at h
          cases hb : bounds len lo hi with
          | none => simp [hb] at h
          | some lh =>
            obtain ⟨l, hh⟩ := lh
            simp only [hb] at h
            obtain ⟨a, cap, rfl, hcap⟩ := clen_run hv hl
            obtain ⟨c0, h1, h2, h3, h4, h5⟩ := bounds_run (P := P) (w := w) (b := true) hcap hlo hhi hmx hm hb
            have hrun : (Instr.sliceAt t (.slice a len cap) lo' hi' mx').run P w = .ok (.slice (if c0 = l then a else a.map (·.add (l * sz))) (hh - l) (c0 - l)) w := by
              simp only [Instr.sliceAt, Instr.slice, Sem.run_bind, run_tunder hu, Result.andThen_ok, h1, run_tsize hs, Sem.run_pure]
            refine ⟨_, hrun, ?_⟩
            cases x <;> simp only [clen, Option.some.injEq, reduceCtorEq] at hl <;> simp only [] at h
            · simp only [Option.some.injEq] at h; subst h
              simp only [Vt, V] at hv
              simp only [Value.slice.injEq] at hv
              obtain ⟨rfl, rfl, rfl⟩ := hv
              have : l = 0 := by omega
              subst this
              have : hh = 0 := by omega
              subst this
              have : c0 = 0 := by omega
              subst this
              simp [Vt, V]
            · rename_i n cs
              simp only [Option.some.injEq] at h; subst h
              simp only [Vt, V] at hv ⊢
              obtain ⟨hall, a', cap', hv', hn, hc⟩ := hv
              simp only [Value.slice.injEq] at hv'
              obtain ⟨rfl, rfl, rfl⟩ := hv'
              refine ⟨List.all_eq_true.2 fun y hy => List.all_eq_true.1 hall y (List.mem_of_mem_drop (List.mem_of_mem_take hy)), _, _, rfl, by omega, ?_⟩
              rcases hc with rfl | ⟨b, o, rfl, hk⟩
              · exact .inl (by simp)
              · by_cases he : c0 = l
                · left
                  rw [show hh - l = 0 from by omega]; simp
                · right
                  refine ⟨b, o + l * sz, ?_, Vk_take (Vk_drop hk _) _⟩
                  simp [he, addr_add]
            · rename_i k gn off n
              split at h
              · rename_i g s' cs0 vl0 hget
                split at h
                · rename_i hcond
                  obtain ⟨rfl, rfl⟩ := hcond
                  simp only [Option.some.injEq] at h; subst h
                  simp only [Vt, V] at hv ⊢
                  obtain ⟨hk, x, a', cap', hx, hg, hv', hn, hs', hc⟩ := hv
                  simp only [Value.slice.injEq] at hv'
                  obtain ⟨rfl, rfl, rfl⟩ := hv'
                  rw [hx] at hget
                  simp only [Option.some.injEq] at hget; subst hget
                  refine ⟨hk, _, _, _, hx, hg, rfl, by omega, ?_, fun hge => ⟨_, _, _, rfl, ?_⟩⟩
                  · rcases hs' with hz | hz
                    · left; omega
                    · right; split <;> simp [hz]
                  · obtain ⟨sz', cs, vl, hxe, hc⟩ := hc rfl
                    simp only [HO.arr.injEq] at hxe
                    obtain ⟨_, rfl, rfl, rfl⟩ := hxe
                    rcases hc with hz | ⟨q, hq, rfl, hb1, hb2⟩
                    · left; omega
                    · by_cases he : c0 = l
                      · left; omega
                      · right
                        have e1 : l * s' + (c0 - l) * s' = c0 * s' := by rw [← Nat.add_mul]; congr 1; omega
                        have e2 : l * s' + (hh - l) * s' = hh * s' := by rw [← Nat.add_mul]; congr 1; omega
                        have e3 : c0 * s' ≤ cap * s' := Nat.mul_le_mul_right _ h3
                        have e4 : hh * s' ≤ len * s' := Nat.mul_le_mul_right _ h5
                        exact ⟨q, hq, by simp [he, addr_add]; omega, by omega, by omega⟩
                · simp at h
              · simp at h
            all_goals simp at h
    · rename_i n e hu
      cases hs : tsize P e with
      | none => simp [hs] at h
      | some sz =>
        cases hb : bounds n lo hi with
        | none => simp [hs, hb] at h
        | some lh =>
          obtain ⟨l, hh⟩ := lh
          simp only [hs, hb] at h
          cases x <;> simp only [reduceCtorEq] at h
          rename_i k gn off
          split at h
          · rename_i g s' cs0 vl0 hget
            split at h
            · rename_i hcond
              obtain ⟨rfl, rfl, hfit⟩ := hcond
              simp only [Option.some.injEq] at h; subst h
              obtain ⟨c0, h1, h2, h3, h4, h5⟩ := bounds_run (P := P) (w := w) (b := false) (Nat.le_refl n) hlo hhi hmx hm hb
              simp only [Vt, V] at hv
              obtain ⟨hk, x, a, hx, hg, rfl, hc⟩ := hv
              rw [hx] at hget
              simp only [Option.some.injEq] at hget; subst hget
              refine ⟨_, by simp only [Instr.sliceAt, Instr.sureAddr, Sem.run_bind, run_tunder hu, Result.andThen_ok, h1, run_tsize hs, Sem.run_pure]; rfl, ?_⟩
              simp only [Vt, V]
              refine ⟨hk, _, _, _, hx, hg, rfl, by omega, .inr rfl, fun hge => ⟨_, _, _, rfl, ?_⟩⟩
              obtain ⟨q, hq, rfl⟩ := hc rfl
              have hfits := (hR.objs _ _ hx q hq).fits
              simp only [HO.cells] at hfits
              have e1 : l * s' + (c0 - l) * s' = c0 * s' := by rw [← Nat.add_mul]; congr 1; omega
              have e2 : l * s' + (hh - l) * s' = hh * s' := by rw [← Nat.add_mul]; congr 1; omega
              have e3 : c0 * s' ≤ n * s' := Nat.mul_le_mul_right _ h3
              have e4 : hh * s' ≤ n * s' := Nat.mul_le_mul_right _ h5
              by_cases he : c0 = l
              · left; omega
              · right
                exact ⟨q, hq, by simp [he, addr_add]; omega, by omega, by omega⟩
            · simp at h
          · simp at h
    · simp at h

theorem cindexAddr_run {t : TypeId} {x i c : CV} {v j : Value} (hv : Vt K m Q x v) (hj : Vt K m Q i j) (h : cindexAddr P t x i = some c) :
    ∃ r, (Instr.indexAt t v j).run P w = .ok r w ∧ Vt K m Q c r := by
  unfold cindexAddr at h
  cases ha : asNat i with
  | none => simp [ha] at h
  | some n =>
    obtain ⟨k, z, rfl, h0, hz⟩ := asNat_run hj ha
    simp only [ha] at h
    split at h
    · rename_i e hu
      have base : ∀ (a : Addr) (len cap sz : Nat), tsize P e = some sz → n < len → (Instr.indexAt t (.slice (some a) len cap) (.int k z)).run P w = .ok (.pointer (some (a.add (n * sz)))) w := by
        intro a len cap sz hs hlt
        simp only [Instr.indexAt, asIntOf, Sem.run_bind, Sem.run_pure, run_tunder hu, Result.andThen_ok]
        rw [if_pos ⟨h0, by omega⟩]
        simp only [Sem.run_bind, run_tsize hs, Result.andThen_ok, Sem.run_pure, hz]
      split at h
      · rename_i sz n' cs hs
        split at h
        · rename_i hlt
          simp only [Option.some.injEq] at h; subst h
          simp only [Vt, V] at hv
          obtain ⟨hall, a, cap, rfl, hn, hc⟩ := hv
          rcases hc with rfl | ⟨b, o, rfl, hk⟩
          · simp at hlt
          · refine ⟨_, base _ _ _ _ hs hlt.1, ?_⟩
            simp only [Vt, V]
            exact ⟨List.all_eq_true.2 fun y hy => List.all_eq_true.1 hall y (List.mem_of_mem_drop hy), b, o + n * sz, by rw [addr_add], Vk_drop hk _⟩
        · simp at h
      · rename_i sz kk gn off len hs
        split at h
        · rename_i hlt
          simp only [Option.some.injEq] at h; subst h
          simp only [Vt, V] at hv
          obtain ⟨hk, x, a, cap, hx, hg, rfl, hn, hsome, hc⟩ := hv
          obtain ⟨a', rfl⟩ : ∃ a', a = some a' := by
            rcases hsome with hz' | hz'
            · omega
            · exact Option.isSome_iff_exists.1 hz'
          refine ⟨_, base _ _ _ _ hs hlt, ?_⟩
          simp only [Vt, V]
          refine ⟨hk, x, _, hx, hg, rfl, fun hge => ?_⟩
          obtain ⟨sz', cs, vl, hxe, hc⟩ := hc hge
          rcases hc with hz' | ⟨q, hq, ha', _, _⟩
          · omega
          · simp only [Option.some.injEq] at ha'; subst ha'
            exact ⟨q, hq, by rw [addr_add, Nat.add_assoc]⟩
        · simp at h
      · simp at h
    · rename_i n' e hu
      have base : ∀ (a : Addr) (sz : Nat), tsize P e = some sz → n < n' → (Instr.indexAt t (.pointer (some a)) (.int k z)).run P w = .ok (.pointer (some (a.add (n * sz)))) w := by
        intro a sz hs hlt
        simp only [Instr.indexAt, Instr.sureAddr, asIntOf, Sem.run_bind, Sem.run_pure, run_tunder hu, Result.andThen_ok]
        rw [if_pos ⟨h0, by omega⟩]
        simp only [Sem.run_bind, run_tsize hs, Result.andThen_ok, Sem.run_pure, hz]
      split at h
      · rename_i sz kk gn off hs
        split at h
        · rename_i hlt
          simp only [Option.some.injEq] at h; subst h
          simp only [Vt, V] at hv
          obtain ⟨hk, x, a, hx, hg, rfl, hc⟩ := hv
          refine ⟨_, base _ _ hs hlt, ?_⟩
          simp only [Vt, V]
          refine ⟨hk, x, _, hx, hg, rfl, fun hge => ?_⟩
          obtain ⟨q, hq, rfl⟩ := hc hge
          exact ⟨q, hq, by rw [addr_add, Nat.add_assoc]⟩
        · simp at h
      · rename_i sz cs hs
        split at h
        · rename_i hlt
          simp only [Option.some.injEq] at h; subst h
          simp only [Vt, V] at hv
          obtain ⟨hall, b, o, rfl, hk⟩ := hv
          refine ⟨_, base _ _ hs hlt, ?_⟩
          simp only [Vt, V]
          exact ⟨List.all_eq_true.2 fun y hy => List.all_eq_true.1 hall y (List.mem_of_mem_drop hy), b, o + n * sz, by rw [addr_add], Vk_drop hk _⟩
        · simp at h
      · simp at h
    · simp at h

theorem cfieldAddr_run {t : TypeId} {x c : CV} {f : Nat} {v : Value} (hv : Vt K m Q x v) (h : cfieldAddr P t x f = some c) :
    ∃ r, (Instr.fieldAt t v f).run P w = .ok r w ∧ Vt K m Q c r := by
  unfold cfieldAddr at h
  split at h
  · simp at h
  · rename_i off ft hf
    obtain ⟨fs, fd, hu, hfd, rfl, rfl⟩ := run_tfield hf
    split at h
    · rename_i sz hs
      have base : ∀ (a : Addr), (Instr.fieldAt t (.pointer (some a)) f).run P w = .ok (.pointer (some (a.add fd.offset))) w := by
        intro a
        simp [Instr.fieldAt, Instr.sureAddr, run_tunder hu, hfd, fieldPlace, run_tsize hs]
      split at h
      · simp only [Option.some.injEq] at h; subst h
        simp only [Vt, V] at hv
        obtain ⟨hk, x, a, hx, hg, rfl, hc⟩ := hv
        refine ⟨_, base _, ?_⟩
        simp only [Vt, V]
        refine ⟨hk, x, _, hx, hg, rfl, fun hge => ?_⟩
        obtain ⟨q, hq, rfl⟩ := hc hge
        exact ⟨q, hq, by rw [addr_add, Nat.add_assoc]⟩
      · simp only [Option.some.injEq] at h; subst h
        simp only [Vt, V] at hv
        obtain ⟨hall, b, o, rfl, hk⟩ := hv
        refine ⟨_, base _, ?_⟩
        simp only [Vt, V]
        exact ⟨List.all_eq_true.2 fun y hy => List.all_eq_true.1 hall y (List.mem_of_mem_drop hy), b, o + fd.offset, by rw [addr_add], Vk_drop hk _⟩
      · simp at h
    · simp at h

/-- maps -/
theorem ckey_run {M : MM} {loc : Bool} {t : TypeId} (ht : plainKey P t = true) {d : TypeDesc} (hd : P.underlying t = some d) {k : CV} {kv : Value} (hk : V K M Q loc k kv) :
    ∀ (es : List (CV × CV)) (xs : List MapEntry) (i : Nat) (r : Option (Nat × CV)), xs.length = es.length →
      (∀ (j : Nat) (e : CV × CV), es[j]? = some e → ∃ x, xs[j]? = some x ∧ EntryOK K M Q e x) → ckey P t k es i = some r →
      ∃ r', Instr.findNow d kv xs i = some r' ∧ match r, r' with
        | none, none => True
        | some (a, c), some (b, v) => a = b ∧ V K M Q false c v ∧ i ≤ a ∧ a < i + es.length
        | _, _ => False := by
  intro es
  induction es with
  | nil =>
    intro xs i r hl _ h
    have : xs = [] := List.eq_nil_of_length_eq_zero (by simpa using hl)
    subst this
    simp only [ckey, Option.some.injEq] at h; subst h
    exact ⟨none, by simp [Instr.findNow], trivial⟩
  | cons e es ih =>
    intro xs i r hl he h
    cases xs with
    | nil => simp at hl
    | cons x xs =>
      obtain ⟨x', hx', h1, h2⟩ := he 0 e (by simp)
      simp only [List.getElem?_cons_zero, Option.some.injEq] at hx'; subst hx'
      simp only [ckey] at h
      have hnow : ∀ b, ceq P 20 t k e.1 = some b → Instr.sameNow d kv x.key = some b := by
        intro b hb
        unfold plainKey at ht
        unfold ceq at hb
        rw [hd] at ht hb
        cases d <;> simp only [Bool.false_eq_true] at ht <;> simp only [] at hb
        · split at hb
          · rename_i a b' ha hb'
            simp only [V] at hk
            rw [hb'] at h1; simp only [V] at h1
            subst hk
            rw [h1]
            simpa [Instr.sameNow] using hb
          · simp at hb
        · split at hb
          · rename_i kk a kk' b' ha hb'
            simp only [V] at hk
            rw [hb'] at h1; simp only [V] at h1
            subst hk
            rw [h1]
            simpa [Instr.sameNow] using hb
          · simp at hb
      simp only [Instr.findNow]
      cases hc : ceq P 20 t k e.1 with
      | none => simp [hc] at h
      | some b =>
        rw [hnow b hc]
        simp only [hc] at h
        cases b with
        | true =>
          simp only [Option.some.injEq] at h; subst h
          exact ⟨some (i, x.val), rfl, rfl, h2, Nat.le_refl _, by simp⟩
        | false =>
          simp only [] at h
          obtain ⟨r', hr, hm⟩ := ih xs (i + 1) r (by simpa using hl) (fun j e' hj => he (j + 1) e' (by simpa using hj)) h
          refine ⟨r', hr, ?_⟩
          cases r <;> cases r' <;> simp only [] at hm ⊢
          exact ⟨hm.1, hm.2.1, by omega, by simp; omega⟩

theorem checkKey_run {e : Bool} {n : Nat} {t : TypeId} {v : Value} (ht : plainKey P t = true) : (Instr.checkKey e (n + 1) t v).run P w = .ok () w := by
  unfold plainKey at ht
  split at ht
  · rename_i hu
    simp [Instr.checkKey, run_tunder hu]
  · rename_i hu
    simp [Instr.checkKey, run_tunder hu]
  · simp at ht
end
end Go.Cm
