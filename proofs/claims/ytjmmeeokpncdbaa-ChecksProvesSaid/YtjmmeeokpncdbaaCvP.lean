/-
  The C machine, sixteenth part: the operations that do something, calls of functions left out.
-/
import Derived.Test.YtjmmeeokpncdbaaCvO
set_option linter.unusedSimpArgs false
set_option linter.unusedVariables false
namespace Go.Cm

section
variable {K : KM} {Q : PM} {P : Program} {w w' : World} {m : Mem}

theorem ckey_found {t : TypeId} {k : CV} : ∀ (es : List (CV × CV)) (i0 i : Nat) (c : CV), ckey P t k es i0 = some (some (i, c)) → i0 ≤ i ∧ ∃ e, es[i - i0]? = some e ∧ ceq P 20 t k e.1 = some true := by
  intro es
  induction es with
  | nil => intro i0 i c h; simp [ckey] at h
  | cons e es ih =>
    intro i0 i c h
    simp only [ckey] at h
    cases hc : ceq P 20 t k e.1 with
    | none => simp [hc] at h
    | some b =>
      simp only [hc] at h
      cases b with
      | true =>
        simp only [Option.some.injEq, Prod.mk.injEq] at h
        obtain ⟨rfl, _⟩ := h
        exact ⟨Nat.le_refl _, e, by simp, hc⟩
      | false =>
        simp only [] at h
        obtain ⟨h1, e', h2, h3⟩ := ih (i0 + 1) i c h
        exact ⟨by omega, e', by rw [show i - i0 = i - (i0 + 1) + 1 from by omega]; simpa using h2, h3⟩

theorem sameBits_of {t : TypeId} (ht : plainKey P t = true) {a b : CV} {x y : Value} {l1 l2 : Bool} {M : MM} (ha : V K M Q l1 a x) (hb : V K M Q l2 b y) (h : ceq P 20 t a b = some true) : Instr.sameBits 10000 y x = true := by
  unfold plainKey at ht
  unfold ceq at h
  split at ht <;> simp only [Bool.false_eq_true] at ht
  · rename_i hu
    rw [hu] at h; simp only [] at h
    split at h
    · simp only [V] at ha hb; subst ha hb
      split at h
      · rename_i he; subst he
        simp at h; subst h
        simp [Instr.sameBits]
      · simp at h
    · simp at h
  · rename_i hu
    rw [hu] at h; simp only [] at h
    split at h
    · simp only [V] at ha hb; subst ha hb
      simp at h; subst h
      simp [Instr.sameBits]
    · simp at h

theorem run_setObj_map {r : Nat} {xs : Array MapEntry} {clk : Nat} {o : Obj} (h : w.heap[r]? = some (.map xs clk)) : (setObj r o).run P w = .ok () { w with heap := w.heap.setIfInBounds r o } := by
  simp [setObj, Sem.run, h]

theorem isKey_V {loc : Bool} {M : MM} {c : CV} {v : Value} (hk : isKey c = true) (h : V K M Q loc c v) : ∀ {K' : KM} {M' : MM} {Q' : PM} {loc' : Bool}, V K' M' Q' loc' c v := by
  intro K' M' Q' loc'
  cases c <;> simp only [isKey, Bool.false_eq_true] at hk
  · simpa [V] using h
  · simpa [V] using h

/-- where a live map lies -/
theorem map_live (hR : MR K m.get Q w) {k : Key} {g : Nat} {es : List (CV × CV)} {v : Value} (hv : Vt K m Q (.map k g) v) (hget : m.get k = some (.map g es)) :
    ∃ q xs clk, Q k = some q ∧ v = .map (some q.blk) ∧ w.heap[q.blk]? = some (.map xs clk) ∧ xs.size = es.length ∧ (∀ (i : Nat) (e : CV × CV), es[i]? = some e → ∃ x, xs[i]? = some x ∧ EntryOK K m.get Q e x) ∧
      q.blk < w.heap.size ∧ ∀ o, K q.blk o = none := by
  simp only [Vt, V] at hv
  obtain ⟨_, x, r, hx, _, rfl, hc⟩ := hv
  rw [hget] at hx; simp only [Option.some.injEq] at hx; subst hx
  obtain ⟨q, hq, rfl⟩ := hc rfl
  obtain ⟨xs, clk, h1, h2, h3⟩ := hR.objs _ _ hget q hq
  refine ⟨q, xs, clk, hq, rfl, h1, h2, h3, (hR.dom k q hq).2, fun o => ?_⟩
  cases hk : K q.blk o with
  | none => rfl
  | some v =>
    have := hR.stab _ _ _ hk
    simp [World.cell?, h1] at this

theorem mapUp_run (hR : MR K m.get Q w) {t : TypeId} {x k v c : CV} {xv kv vv : Value} {m' : Mem} (hx : Vt K m Q x xv) (hk : Vt K m Q k kv) (hv : Vt K m Q v vv) (h : cval.mapUp P m t x k v = some (c, m')) :
    ∃ K' w', (Instr.mapUpdate t xv kv vv).run P w = .ok () w' ∧ Trans K m Q w K' m' Q w' ∧ c = .dead := by
  unfold cval.mapUp at h
  split at h
  · rename_i kt et key gn ht
    cases he : escList m [v] with
    | none => simp [he] at h
    | some r =>
      obtain ⟨l, m1⟩ := r
      simp only [he, Option.bind_some] at h
      obtain ⟨K1, hl, hV1, -, hlen⟩ := escList_run hR (vs := [vv]) (by simp only [Vs]; exact ⟨vv, [], rfl, hv, rfl⟩) he
      split at h
      · rename_i g es v' hget
        split at h
        · rename_i hc
          obtain ⟨rfl, hp, hik⟩ := hc
          have hx1 := hl.V (loc := true) hx
          obtain ⟨q, xs, clk, hq, rfl, hheap, hsz, hrows, hlt, hnc⟩ := map_live hl.mr hx1 hget
          simp only [Vs] at hV1
          obtain ⟨vv', _, hvv, hVv, _⟩ := hV1
          simp only [List.cons.injEq] at hvv
          obtain ⟨rfl, _⟩ := hvv
          have hu := run_tmap ht
          obtain ⟨d, hd⟩ : ∃ d, P.underlying kt = some d := by
            unfold plainKey at hp; split at hp <;> first | exact ⟨_, by assumption⟩ | simp at hp
          have hkf : V K1 m1.get Q false k kv := isKey_V hik hk
          cases hck : ckey P kt k es 0 with
          | none => simp [hck] at h
          | some r =>
            obtain ⟨r', hr1, hr2⟩ := ckey_run (M := m1.get) (Q := Q) (K := K1) hp hd hkf es xs.toList 0 r (by simpa using hsz) (by simpa using hrows) hck
            have hfind : (Instr.findKey kt kv xs.toList).run P w = .ok r' w := by simp [Instr.findKey, run_tunder hd, hr1]
            simp only [hck] at h
            cases r with
            | some p =>
              obtain ⟨i, c0⟩ := p
              cases r' with
              | none => simp at hr2
              | some p' =>
                obtain ⟨i', v0⟩ := p'
                obtain ⟨rfl, _, _, hlt'⟩ := hr2
                simp only [Option.some.injEq, Prod.mk.injEq] at h
                obtain ⟨rfl, rfl⟩ := h
                obtain ⟨_, e, hee, hce⟩ := ckey_found es 0 i c0 hck
                simp only [Nat.sub_zero] at hee
                obtain ⟨xe, hxe, hxk, _⟩ := hrows i e hee
                have hsb := sameBits_of (P := P) hp hkf hxk hce
                refine ⟨K1, _, ?_, (hl.toTrans).trans (map_write hl.mr hget hq (xs' := xs.modify i fun e => { e with key := kv, val := vv }) (clk' := clk) (by simp [hsz]) (fun j e' hj => ?_) hlt hnc ⟨_, _, hheap⟩), rfl⟩
                · simp only [Instr.mapUpdate, Sem.run_bind, run_tunder hu, Result.andThen_ok, run_getObj_map hheap, checkKey_run hp, hfind]
                  simp only [hxe, Option.map_some, Option.getD_some, Instr.keyThatStays, hsb, if_true, Sem.run_pure, Result.andThen_ok, run_setObj_map hheap]
                · rw [List.getElem?_set] at hj
                  split at hj
                  · rename_i hij
                    subst hij
                    have hj' : (k, v') = e' := by
                      rw [if_pos (by omega)] at hj; simpa using hj
                    subst hj'
                    exact ⟨{ xe with key := kv, val := vv }, by rw [Array.getElem?_modify, if_pos rfl, hxe]; rfl, hkf, hVv⟩
                  · rename_i hij
                    obtain ⟨x2, h1, h2⟩ := hrows j e' hj
                    exact ⟨x2, by rw [Array.getElem?_modify, if_neg hij]; exact h1, h2⟩
            | none =>
              cases r' with
              | some p' => simp at hr2
              | none =>
                simp only [Option.some.injEq, Prod.mk.injEq] at h
                obtain ⟨rfl, rfl⟩ := h
                refine ⟨K1, _, ?_, (hl.toTrans).trans (map_write hl.mr hget hq (xs' := xs.push { key := kv, val := vv, born := clk }) (clk' := clk + 1) (by simp [hsz]) (fun j e' hj => ?_) hlt hnc ⟨_, _, hheap⟩), rfl⟩
                · simp only [Instr.mapUpdate, Sem.run_bind, run_tunder hu, Result.andThen_ok, run_getObj_map hheap, checkKey_run hp, hfind, run_setObj_map hheap]
                · rw [List.getElem?_append] at hj
                  split at hj
                  · rename_i hjl
                    obtain ⟨x2, h1, h2⟩ := hrows j e' hj
                    exact ⟨x2, by rw [Array.getElem?_push, if_neg (by omega)]; exact h1, h2⟩
                  · rename_i hjl
                    have hj0 : j = es.length := by
                      have := (List.getElem?_eq_some_iff.1 hj).1; simp at this; omega
                    subst hj0
                    simp at hj; subst hj
                    exact ⟨{ key := kv, val := vv, born := clk }, by rw [Array.getElem?_push, if_pos hsz.symm], hkf, hVv⟩
        · simp at h
      · simp at h
  · simp at h

theorem delete_run (hR : MR K m.get Q w) {ts : Array TypeId} {t ty kt et : TypeId} {k : CV} {key : Key} {g : Nat} {es : List (CV × CV)} {xv kv : Value} {c : CV} {m' : Mem} (h0 : ts[0]? = some t) (ht : tmap P t = some (kt, et))
    (hx : Vt K m Q (.map key g) xv) (hk : Vt K m Q k kv) (hget : m.get key = some (.map g es)) (hp : plainKey P kt = true)
    (h : (match ckey P kt k es 0 with
              | some (some (i, _)) => some (CV.tuple [], m.set key (.map g (es.eraseIdx i)))
              | some none => some (.tuple [], m.set key (.map g es))
              | none => none) = some (c, m')) :
    ∃ w', (Builtin.delete_ ts ty #[xv, kv]).run P w = .ok (.tuple #[]) w' ∧ Trans K m Q w K m' Q w' ∧ c = .tuple [] := by
  obtain ⟨q, xs, clk, hq, rfl, hheap, hsz, hrows, hlt, hnc⟩ := map_live hR hx hget
  have hu := run_tmap ht
  obtain ⟨d, hd⟩ : ∃ d, P.underlying kt = some d := by
    unfold plainKey at hp; split at hp <;> first | exact ⟨_, by assumption⟩ | simp at hp
  cases hck : ckey P kt k es 0 with
  | none => simp [hck] at h
  | some r =>
    obtain ⟨r', hr1, hr2⟩ := ckey_run (M := m.get) (Q := Q) (K := K) hp hd hk es xs.toList 0 r (by simpa using hsz) (by simpa using hrows) hck
    have hfind : (Instr.findKey kt kv xs.toList).run P w = .ok r' w := by simp [Instr.findKey, run_tunder hd, hr1]
    simp only [hck] at h
    cases r with
    | some p =>
      obtain ⟨i, c0⟩ := p
      cases r' with
      | none => simp at hr2
      | some p' =>
        obtain ⟨i', v0⟩ := p'
        obtain ⟨rfl, _, _, hlt'⟩ := hr2
        simp only [Option.some.injEq, Prod.mk.injEq] at h
        obtain ⟨rfl, rfl⟩ := h
        refine ⟨_, ?_, map_write hR hget hq (xs' := xs.eraseIdxIfInBounds i) (clk' := clk) ?_ (fun j e' hj => ?_) hlt hnc ⟨_, _, hheap⟩, rfl⟩
        · simp [Builtin.delete_, h0, run_tunder hu, run_getObj_map hheap, checkKey_run hp, hfind, run_setObj_map hheap]
        · have : i < xs.size := by omega
          have e2 : i < es.length := by omega
          simp only [Array.eraseIdxIfInBounds, this, dite_true, Array.size_eraseIdx, List.length_eraseIdx, e2, if_true]; omega
        · have hi : i < xs.size := by omega
          have e1 : (xs.eraseIdxIfInBounds i)[j]? = if j < i then xs[j]? else xs[j + 1]? := by
            simp only [Array.eraseIdxIfInBounds, hi, dite_true]
            rw [Array.getElem?_eraseIdx]
          rw [List.getElem?_eraseIdx] at hj
          rw [e1]
          split at hj
          · rename_i hji
            rw [if_pos hji]; exact hrows j e' hj
          · rename_i hji
            rw [if_neg hji]; exact hrows (j + 1) e' hj
    | none =>
      cases r' with
      | some p' => simp at hr2
      | none =>
        simp only [Option.some.injEq, Prod.mk.injEq] at h
        obtain ⟨rfl, rfl⟩ := h
        refine ⟨_, ?_, map_write hR hget hq (xs' := xs) (clk' := clk) hsz hrows hlt hnc ⟨_, _, hheap⟩, rfl⟩
        simp [Builtin.delete_, h0, run_tunder hu, run_getObj_map hheap, checkKey_run hp, hfind, run_setObj_map hheap]
end
end Go.Cm
