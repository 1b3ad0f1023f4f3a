/-
  What comes in, second part: arguments; what goes out: the input reads as it did.
-/
import Derived.Test.YtjmmeeokpncdbaaCwA
import Derived.RowKit3
import Derived.ChangeSame
import Derived.WideKeyArgs
set_option linter.unusedSimpArgs false
set_option linter.unusedVariables false
namespace Go.Cm

section
variable {P : Program} {w : World} {H : Type} {enc : TypeId × Value → H} {base b0 : Nat} {sp : Nat → Bool} {held : Bool} {Q : PM} {M : MM}

theorem value_D {n : Nat} {t : TypeId} {v : Value} {d0 : DataW H} {ps : List MemPlace} (hr : readTy P n t = true) (hval : Value.okWide P w .any b0 t v) (h : DataW.Trod enc P w base sp held t v d0 ps) :
    ∃ d, D.ok P n t d ∧ V (allK w) M Q false d.cv v := by
  obtain ⟨fuel, hf⟩ := h
  obtain ⟨d, h1, _, h3, h4⟩ := trod_D (M := M) (Q := Q) n t _ _ fuel hr hf
  refine ⟨d, h1, ?_⟩
  cases n with
  | zero => simp [readTy] at hr
  | succ n =>
    have one : ∀ {c : CV}, (∀ cs, v ≠ .agg cs) → d.cells = [c] → V (allK w) M Q false c v := by
      intro c hna hc
      have : v.cells.toList = [v] := by cases v <;> first | rfl | exact absurd rfl (hna _)
      rw [this, hc] at h4
      simp only [Vs] at h4
      obtain ⟨v', r, he, hv, _⟩ := h4
      simp only [List.cons.injEq] at he
      rw [he.1]; exact hv
    simp only [D.ok] at h1
    unfold Value.okWide at hval
    split at h1
    · rename_i ht
      obtain ⟨x, rfl⟩ := h1
      refine one (fun cs he => ?_) rfl
      subst he
      simp [ht, Cell.okWide, Cell.ok] at hval
    · rename_i k ht
      obtain ⟨m, rfl, _⟩ := h1
      refine one (fun cs he => ?_) rfl
      subst he
      simp [ht, Cell.okWide, Cell.ok] at hval
    · rename_i ht
      obtain ⟨x, rfl⟩ := h1
      refine one (fun cs he => ?_) rfl
      subst he
      simp [ht, Cell.okWide, Cell.ok] at hval
    · rename_i e ht
      obtain ⟨ds, rfl, _⟩ := h1
      refine one (fun cs he => ?_) rfl
      subst he
      simp [ht, Cell.okWide, Cell.ok] at hval
    · rename_i fs ht
      obtain ⟨ds, rfl, _⟩ := h1
      simp only [ht] at hval
      obtain ⟨cs, rfl, _⟩ := hval
      simp only [D.cv, V]
      exact ⟨by simpa [D.cells] using h3, cs, rfl, h4⟩
    · cases h1

theorem args_D {n : Nat} : ∀ (ts : List TypeId) (vs : List Value) (ds : List (DataW H)) (ps : List MemPlace), ts.all (readTy P n) = true →
    (∀ (j : Nat) (t : TypeId) (v : Value), ts[j]? = some t → vs[j]? = some v → Value.okWide P w .any b0 t v) → DataW.TrodAll enc P w base sp held ts vs ds ps →
    ∃ as : List D, oks (D.ok P n) ts as ∧ Vs (allK w) M Q false (as.map D.cv) vs
  | [], [], [], _, _, _, _ => ⟨[], trivial, by simp [Vs]⟩
  | t :: ts, v :: vs, d :: ds, ps, hr, hval, h => by
    obtain ⟨p, q, h1, h2, _⟩ := h
    simp only [List.all_cons, Bool.and_eq_true] at hr
    obtain ⟨a, e1, e2⟩ := value_D (M := M) (Q := Q) hr.1 (hval 0 t v rfl rfl) h1
    obtain ⟨as, g1, g2⟩ := args_D ts vs ds q hr.2 (fun j t v ht hv => hval (j + 1) t v (by simpa using ht) (by simpa using hv)) h2
    exact ⟨a :: as, ⟨e1, g1⟩, by simp only [List.map_cons, Vs]; exact ⟨v, vs, rfl, e2, g2⟩⟩

theorem TrodAll_stays {ts : List TypeId} (hl : laidOutB P = true) (hr : ∀ t ∈ ts, P.readableRec t = true ∧ t < P.types.size) {W W' : World} {sp' : Nat → Bool} : ∀ {vs : List Value} {ds : List (DataW H)} {ps : List MemPlace},
    DataW.TrodAll enc P W base (fun _ => true) true ts vs ds ps → (∀ p ∈ ps, W.sameAt W' p) → (∀ p ∈ ps, sp' p.block = true) → DataW.TrodAll enc P W' base sp' true ts vs ds ps := by
  induction ts with
  | nil =>
    intro vs ds ps h _ _
    cases vs <;> cases ds <;> first | exact h | exact h.elim
  | cons t ts ih =>
    intro vs ds ps h hs hp
    cases vs with
    | nil => exact h.elim
    | cons v vs =>
      cases ds with
      | nil => exact h.elim
      | cons d ds =>
        obtain ⟨p, q, h1, h2, rfl⟩ := h
        obtain ⟨hr1, hr2⟩ := hr t List.mem_cons_self
        exact ⟨p, q, WideElems.Trod_stays hl hr1 hr2 h1 (fun x hx => hs x (List.mem_append_left _ hx)) (fun x hx => hp x (List.mem_append_left _ hx)),
          ih (fun t ht => hr t (List.mem_cons_of_mem _ ht)) h2 (fun x hx => hs x (List.mem_append_right _ hx)) (fun x hx => hp x (List.mem_append_right _ hx)), rfl⟩


open Go.RowKit Go.ChangeShapes in
/-- a function that answers true at all data: its claim's contract -/
theorem contract_true {n : Nat} {f : FuncId} {fn : Func} {s : ChangeSpec} {apart fresh handsOn again : Bool} {tb : TypeId} (hl : laidOutB P = true)
    (hr : (fn.params.toList.all fun t => P.readableRec t && decide (t < P.types.size) && readTy P n t) = true) (hvars : s.vars = []) (hres : fn.resultTypes = #[tb]) (htb : P.underlying tb = some .bool)
    (hspec : ∀ ds : List (DataW H), ds.length = fn.params.size → s.fn H ds = { results := [.lit (.bool true)], args := ds, vars := [] })
    (hsim : ∀ as : List D, oks (D.ok P n) fn.params.toList as → ∃ H', SimAt P f (as.map D.cv) [] (.bool true) H')
    {W : World} {args : Array Value} {ds gs : List (DataW H)} {before : List MemPlace} (hval : ∀ (j : Nat) (t : TypeId) (v : Value), fn.params[j]? = some t → args[j]? = some v → Value.okWide P W .any b0 t v)
    (hW : DataW.Whole enc P fn.params.toList s.vars apart W args.toList ds gs before) :
    Calls P f args W fun e W' => ∃ v, e = .returned v ∧ s.post enc P fn apart fresh handsOn again W args v W' := by
  have hW' := hW
  obtain ⟨p, q, hA, hV, rfl, hfz, hnd⟩ := hW
  rw [hvars] at hV
  obtain ⟨rfl, rfl⟩ := trodVars_none hV
  have hr' := fun t ht => List.all_eq_true.1 hr t ht
  simp only [Bool.and_eq_true, decide_eq_true_eq] at hr'
  obtain ⟨as, g1, g2⟩ := args_D (M := gm []) (Q := fun _ => none) (n := n) _ _ _ _ (List.all_eq_true.2 fun t ht => (hr' t ht).2) (fun j t v ht hv => hval j t v (by simpa using ht) (by simpa using hv)) hA
  obtain ⟨H', _, hs⟩ := hsim as g1
  have hlen : ds.length = fn.params.size := by
    have : ∀ (ts : List TypeId) (vs : List Value) (ds : List (DataW H)) (ps : List MemPlace), DataW.TrodAll enc P W 0 (fun _ => true) true ts vs ds ps → ds.length = ts.length := by
      intro ts
      induction ts with
      | nil => intro vs ds ps h; cases vs <;> cases ds <;> first | rfl | exact h.elim
      | cons t ts ih =>
        intro vs ds ps h
        cases vs <;> cases ds <;> first | exact h.elim | skip
        obtain ⟨_, _, _, h, _⟩ := h
        simp [ih _ _ _ h]
    simpa using this _ _ _ _ hA
  have hsp := hspec (ds ++ []) (by simpa using hlen)
  refine (hs (allK W) (fun _ => none) W args (MR.none fun b o v h => h) g2).mono ?_
  rintro e W' ⟨v, K', Q', rfl, _, hsi, hrv⟩
  have hv : v = .bool true := by
    simp only [RV, RV1, V] at hrv
    obtain ⟨_, _, h⟩ := hrv
    exact h
  subst hv
  have hold : ∀ b, b < W.heap.size → W'.heap[b]? = W.heap[b]? := fun b hb => hsi.frame b hb (by simp)
  have hsame : ∀ x ∈ p, W.sameAt W' x := by
    intro x hx
    have hlt := hW'.lt x (by simpa using hx)
    cases x with
    | cell b o => exact cell?_of_heap (hold b hlt)
    | map b => exact hold b hlt
  refine ⟨_, rfl, post_of_same (pa := p) (pv := []) hW' (fun _ _ _ => ?_) (fun sp' hsp' => ?_) (fun _ _ => ?_) rfl ?_ hsi.io.fz (ok_one hres rfl (okWide_bool_mk htb _))⟩
  · rw [hsp, hres]
    exact trodAll_mk1 (shut_bool htb _)
  · rw [hsp]
    simp only [List.append_nil]
    exact TrodAll_stays hl (fun t ht => (hr' t ht).1) hA hsame (fun x hx => hsp' x (by simpa using hx))
  · rw [hsp, hvars]; rfl
  · refine ⟨hsi.io.os, hsi.io.out, fun i hi => ?_⟩
    rw [hold i hi]
    cases h : W.heap[i]? with
    | none => simp
    | some o => cases o <;> simp
end
end Go.Cm
