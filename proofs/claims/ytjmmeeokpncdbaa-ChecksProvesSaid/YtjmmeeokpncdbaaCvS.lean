/-
  The C machine, nineteenth part: every operation, as the walk asks for it.
-/
import Derived.Test.YtjmmeeokpncdbaaCvR
set_option linter.unusedSimpArgs false
set_option linter.unusedVariables false
namespace Go.Cm

section
variable {K K' K2 : KM} {Q Q' Q2 : PM} {P : Program} {w w' w0 w2 : World} {m m' m2 : Mem} {M M' : MM}

theorem fresh_ptr (hR : MR K m.get Q w) (glob : Bool) (j : Nat) (mk : Nat → HO) (hg : ∀ g, (mk g).gn = g) (hm : ∀ g, (mk g).isMap = false) (hv0 : ∀ g, (mk g).vl = 0)
    {cs : List CV} (hcs : ∀ g, (mk g).cells = cs) {es : Array Value} {t : TypeId} (hall : cs.all leafV = true) (loc : Bool) (hloc : ∀ g, loc = true → flag (m.add glob j mk).1 (mk g) = true)
    (hV : Vs K m.get Q loc cs es.toList) (hw : Pushed w w' (.cells es t (0, 0))) :
    ∃ Q', Trans K m Q w K (m.add glob j mk).2.2 Q' w' ∧ Vt K (m.add glob j mk).2.2 Q' (.ptr (m.add glob j mk).1 (m.add glob j mk).2.1 0) (.pointer (some ⟨w.heap.size, 0, none⟩)) := by
  obtain ⟨Q', hT, hq⟩ := new_cells hR glob j mk hg hm hv0 hcs hall loc hloc hV (fun i v hv => by simpa using hv) hw
  obtain ⟨hget, _⟩ := add_spec m glob j mk hg
  refine ⟨Q', hT, ?_⟩
  have := new_ptr hT (h := mk (m.add glob j mk).2.1) (by rw [hget]; simp [upd]) hq
  rwa [hg] at this
theorem fresh_ref (hR : MR K m.get Q w) (glob : Bool) (j : Nat) {sz n : Nat} {cs : List CV} {es : Array Value} {t : TypeId} (hall : cs.all leafV = true)
    (hV : Vs K m.get Q false cs es.toList) (hw : Pushed w w' (.cells es t (0, 0))) (hn : n * sz = cs.length) :
    ∃ Q', Trans K m Q w K (m.add glob j fun g => .arr g sz cs 0).2.2 Q' w' ∧
      Vt K (m.add glob j fun g => .arr g sz cs 0).2.2 Q' (.ref (m.add glob j fun g => .arr g sz cs 0).1 (m.add glob j fun g => .arr g sz cs 0).2.1 0 n) (.slice (some ⟨w.heap.size, 0, none⟩) n n) := by
  obtain ⟨Q', hT, hq⟩ := new_cells hR glob j (fun g => .arr g sz cs 0) (fun _ => rfl) (fun _ => rfl) (fun _ => rfl) (cs := cs) (fun _ => rfl) hall false (by simp) hV (fun i v hv => by simpa using hv) hw
  obtain ⟨hget, _⟩ := add_spec m glob j (fun g => HO.arr g sz cs 0) (fun _ => rfl)
  have hl := Vs_length hV
  simp only [Array.length_toList] at hl
  exact ⟨Q', hT, new_ref (g := (m.add glob j fun g => HO.arr g sz cs 0).2.1) (sz := sz) (vl := 0) (cs := cs) (by rw [hget]; simp [upd]) hq (Nat.le_refl _) (by simp only; omega) (by omega)⟩

theorem fresh_map (hR : MR K m.get Q w) (glob : Bool) (j : Nat) (hw : Pushed w w' (.map #[] 0)) :
    ∃ Q', Trans K m Q w K (m.add glob j fun g => .map g []).2.2 Q' w' ∧
      Vt K (m.add glob j fun g => .map g []).2.2 Q' (.map (m.add glob j fun g => .map g []).1 (m.add glob j fun g => .map g []).2.1) (.map (some w.heap.size)) := by
  obtain ⟨hget, hgen⟩ := add_spec m glob j (fun g => HO.map g []) (fun _ => rfl)
  generalize (m.add glob j fun g => HO.map g []).1 = key at *
  generalize (m.add glob j fun g => HO.map g []).2.1 = gn at *
  generalize (m.add glob j fun g => HO.map g []).2.2 = m2 at *
  have hsz : w'.heap.size = w.heap.size + 1 := by rw [hw.1]; simp
  have hold : ∀ b, b < w.heap.size → w'.heap[b]? = w.heap[b]? := fun b hb => by rw [hw.1, Array.getElem?_push]; rw [if_neg (by omega)]
  have hGrow : Grow true m.get Q (upd m.get key (.map gn [])) (updP Q key (some ⟨w.heap.size, 0, 0⟩)) :=
    Grow.upd fun y hy => ⟨Nat.le_of_lt (hgen y hy), fun he => absurd he (Nat.ne_of_lt (hgen y hy))⟩
  have hmove : MR K (upd m.get key (.map gn [])) (updP Q key (some ⟨w.heap.size, 0, 0⟩)) w' := by
    refine hR.move hgen hold (by omega) (fun p hp => by simp only [Option.some.injEq] at hp; subst hp; exact ⟨Nat.le_refl _, by show w.heap.size < w'.heap.size; omega⟩) ?_
    intro q hq
    simp only [updP, if_true, Option.some.injEq] at hq
    subst hq
    exact (show MapOK K (upd m.get key (.map gn [])) (updP Q key (some ⟨w.heap.size, 0, 0⟩)) w' [] ⟨w.heap.size, 0, 0⟩ from ⟨#[], 0, by rw [hw.1]; simp, rfl, fun i e he => by simp at he⟩)
  refine ⟨updP Q key (some ⟨w.heap.size, 0, 0⟩), ⟨by rw [hget]; exact hmove, fun _ _ _ h => h, by rw [hget]; exact hGrow, by omega, fun b hb _ => hold b hb, fun _ _ _ h => .inl h, fun k q hq => ?_, hw.kept (.inr ⟨_, _, rfl⟩)⟩, ?_⟩
  · simp only [updP] at hq
    split at hq
    · rename_i he; subst he
      simp only [Option.some.injEq] at hq; subst hq; exact .inr ⟨Nat.le_refl _, fun h hh => ⟨.map gn [], by rw [hget]; simp [upd], hgen h hh⟩⟩
    · exact .inl ⟨q, hq, rfl⟩
  · simp only [Vt, V]
    exact ⟨by cases key <;> simp [keyOK], .map gn [], _, by rw [hget]; simp [upd], Nat.le_refl _, rfl, fun _ => ⟨_, by simp [updP]; rfl, rfl⟩⟩

/-- an operation goes on as the machine says -/
def Goes (P : Program) (o : Oper) (a : Act) (K : KM) (m : Mem) (Q : PM) (w : World) (c : CV) (m' : Mem) : Prop :=
  ∀ (next : Act → World → Prop) (Qx : Exit → Act → World → Prop), (∀ r w' K' Q', Trans K m Q w K' m' Q' w' → Vt K' m' Q' c r → next (a.put o.dst r) w') → o.wp P a w next Qx

theorem goes_value {o : Oper} {a : Act} {c : CV} {r : Value} (hr : (execOp a.eval o).run P w = .ok (.value r) w') (hT : Trans K m Q w K' m' Q' w') (hv : Vt K' m' Q' c r) : Goes P o a K m Q w c m' := by
  intro next Qx hn
  simp only [Oper.wp, hr, Oper.upon_value]
  exact hn r w' K' Q' hT hv
theorem goes_skip {o : Oper} {a : Act} {c : CV} (hr : (execOp a.eval o).run P w = .ok .skip w') (hT : Trans K m Q w K' m' Q' w') (hc : c = .dead) : Goes P o a K m Q w c m' := by
  intro next Qx hn
  simp only [Oper.wp, hr, Oper.upon_skip]
  exact hn undef w' K' Q' hT (by subst hc; simp [Vt, V])
theorem goes_enter {o : Oper} {a : Act} {c : CV} {f : FuncId} {vs : Array Value} (hr : (execOp a.eval o).run P w = .ok (.enter f vs) w)
    (hc : Calls P f vs w fun e w' => ∃ v K' Q', e = .returned v ∧ Trans K m Q w K' m' Q' w' ∧ Vt K' m' Q' c v) : Goes P o a K m Q w c m' := by
  intro next Qx hn
  simp only [Oper.wp, hr, Oper.upon_enter]
  refine hc.mono ?_
  rintro e w' ⟨v, K', Q', rfl, hT, hv⟩
  exact hn v w' K' Q' hT hv

/-- no function with a body has the one name that the model gives another meaning -/
def plainNames (P : Program) : Bool := P.funcs.toList.all fun fn => fn.body.isNone || fn.name != "runtime.NumGoroutine"

theorem run_callFunc (hN : plainNames P = true) {f : FuncId} (hf : ∃ fn, P.funcs[f]? = some fn ∧ fn.body.isSome = true) {vs : Array Value} : (callFunc f vs).run P w = .ok (.enter f vs) w := by
  obtain ⟨fn, h1, h2⟩ := hf
  have h3 := List.all_eq_true.1 hN fn (by
    obtain ⟨h, he⟩ := Array.getElem?_eq_some_iff.1 h1
    exact Array.mem_toList_iff.2 (by rw [← he]; exact Array.getElem_mem h))
  have h4 : fn.body.isNone = false := by cases hb : fn.body <;> simp_all
  simp only [h4, Bool.false_or, bne_iff_ne, ne_eq] at h3
  have h5 : fn.body ≠ none := by intro h; simp [h] at h2
  simp [callFunc, h1, h3, h5]

theorem methodC_run {t : TypeId} {x y : CV} {name : String} {f : FuncId} {u : Value} {loc : Bool} (h : methodC P t x name = some (f, y)) (fuel : Nat) :
    y = x ∧ (method (fuel + 1) t u name).run P w = .ok (f, u) w := by
  unfold methodC at h
  split at h
  · simp at h
  · rename_i i hi
    split at h
    · simp at h
    · rename_i mt hm
      split at h
      · rename_i f' ptr hpath hfunc
        split at h <;> simp only [Option.some.injEq, Prod.mk.injEq, reduceCtorEq] at h
        · rename_i e hu
          obtain ⟨rfl, rfl⟩ := h
          refine ⟨rfl, ?_⟩
          simp [method, typeInfo, hi, hm, hpath, hfunc, follow, receiverAt, run_underlying hu, Place.get]
        · rename_i d hne hu
          obtain ⟨rfl, rfl⟩ := h
          refine ⟨rfl, ?_⟩
          cases d <;> first
            | (exfalso; exact hne _ rfl; done)
            | simp [method, typeInfo, hi, hm, hpath, hfunc, follow, receiverAt, run_underlying hu, Place.get]
      · simp at h


theorem op_goes {F : Oracle} (hS : Sim P F) (hN : plainNames P = true) {A : Ann} {fid : FuncId} {a : Act} {ρ : Operand → CV} (hR : MR K m.get Q w) (hρ : ∀ x, Vt K m Q (ρ x) (a.eval x)) {o : Oper} {c : CV}
    (h : cval P A F fid ρ o m = some (c, m')) : Goes P o a K m Q w c m' := by
  by_cases hq : quietOp o.op = true
  · obtain ⟨rfl, r, h1, h2⟩ := quiet_run hR hρ hq h
    exact goes_value h1 (Trans.refl hR) h2
  obtain ⟨dst, op, ty, pos, after, guard⟩ := o
  cases op <;> simp only [quietOp, not_true_eq_false] at hq <;> simp only [cval, reduceCtorEq] at h
  case alloc t =>
    split at h
    · rename_i z hz
      simp only [Option.some.injEq, Prod.mk.injEq] at h
      obtain ⟨rfl, rfl⟩ := h
      obtain ⟨v, hv, hall, hV, _⟩ := run_tzcells (K := K) (M := m.get) (Q := Q) (w := w) (loc := false) hz
      obtain ⟨Q', hT, hp⟩ := fresh_ptr hR _ _ (fun g => match tarr P t with | some (_, e) => .arr g ((tsize P e).getD 0) z 0 | none => .var g z 0) (by intro g; split <;> rfl) (by intro g; split <;> rfl) (by intro g; split <;> rfl)
        (cs := z) (by intro g; split <;> rfl) (t := t) hall false (by simp) hV (w' := { w with heap := w.heap.push (.cells v.cells t (0, 0)) }) ⟨rfl, rfl, rfl⟩
      exact goes_value (by simp [execOp, Instr.alloc, hv, newVar, newRow]) hT hp
    · simp at h
  case box t x =>
    generalize gslot (A.glob fid) dst = glob at h
    generalize dslot dst = j at h
    split at h
    · rename_i cs n e hcc hta
      simp only [Option.map_eq_some_iff, Prod.mk.injEq] at h
      obtain ⟨⟨ys, m1⟩, hy, rfl, rfl⟩ := h
      obtain ⟨hall, hVc⟩ := ccells_V hcc (hρ x)
      obtain ⟨K1, hl, hV1, hall1, _⟩ := escList_run hR hVc hy
      obtain ⟨Q', hT, hp⟩ := fresh_ptr hl.mr _ _ (fun g => .arr g ((tsize P e).getD 0) ys 0) (fun _ => rfl) (fun _ => rfl) (fun _ => rfl) (cs := ys) (fun _ => rfl) (t := t) (hall1 hall) false (by simp) hV1
        (w' := { w with heap := w.heap.push (.cells (a.eval x).cells t (0, 0)) }) ⟨rfl, rfl, rfl⟩
      exact goes_value (by simp [execOp, Instr.box, newVar, newRow]) (hl.toTrans.trans hT) hp
    · rename_i cs hcc hta
      obtain ⟨hall, hVc⟩ := ccells_V hcc (hρ x)
      split at h
      · simp only [Option.map_eq_some_iff, Prod.mk.injEq] at h
        obtain ⟨⟨ys, m1⟩, hy, rfl, rfl⟩ := h
        obtain ⟨K1, hl, hV1, hall1, _⟩ := escList_run hR hVc hy
        obtain ⟨Q', hT, hp⟩ := fresh_ptr hl.mr _ _ (fun g => .var g ys 0) (fun _ => rfl) (fun _ => rfl) (fun _ => rfl) (cs := ys) (fun _ => rfl) (t := t) (hall1 hall) false (by simp) hV1
          (w' := { w with heap := w.heap.push (.cells (a.eval x).cells t (0, 0)) }) ⟨rfl, rfl, rfl⟩
        exact goes_value (by simp [execOp, Instr.box, newVar, newRow]) (hl.toTrans.trans hT) hp
      · rename_i hgl
        simp only [Option.some.injEq, Prod.mk.injEq] at h
        obtain ⟨rfl, rfl⟩ := h
        have hgf : glob = false := by simpa using hgl
        subst hgf
        obtain ⟨Q', hT, hp⟩ := fresh_ptr hR false j (fun g => .var g cs 0) (fun _ => rfl) (fun _ => rfl) (fun _ => rfl) (cs := cs) (fun _ => rfl) (t := t) hall true
          (fun g _ => rfl) hVc
          (w' := { w with heap := w.heap.push (.cells (a.eval x).cells t (0, 0)) }) ⟨rfl, rfl, rfl⟩
        exact goes_value (by simp [execOp, Instr.box, newVar, newRow]) hT hp
    · simp at h
  case buildSlice t n parts =>
    split at h
    · rename_i e he
      split at h
      · rename_i s z hs hz
        split at h
        · rename_i hcond
          obtain ⟨hsmall, hzl⟩ := hcond
          simp only [Option.bind_eq_some_iff, Option.map_eq_some_iff, Prod.mk.injEq] at h
          obtain ⟨cs, hfill, ⟨ys, m1⟩, hy, rfl, rfl⟩ := h
          obtain ⟨v, hv, hall, hV, _⟩ := run_tzcells (K := K) (M := m.get) (Q := Q) (w := w) (loc := true) hz
          have hlen : (parts.toList.map fun p => (p.1, ρ p.2)).length = (parts.toList.map fun p => (p.1, a.eval p.2)).length := by simp
          have hparts : ∀ (i : Nat) (x : Nat × CV) (y : Nat × Value), (parts.toList.map fun p => (p.1, ρ p.2))[i]? = some x → (parts.toList.map fun p => (p.1, a.eval p.2))[i]? = some y → x.1 = y.1 ∧ V K m.get Q true x.2 y.2 := by
            intro i x y ha hb
            simp only [List.getElem?_map, Option.map_eq_some_iff] at ha hb
            obtain ⟨p, hp, rfl⟩ := ha
            obtain ⟨p', hp', rfl⟩ := hb
            rw [hp] at hp'; simp only [Option.some.injEq] at hp'; subst hp'
            exact ⟨rfl, hρ _⟩
          obtain ⟨vs', hf1, hf2, hf3, hf4⟩ := fill_run _ _ _ ((Array.range (n * s)).map (v.cells[· % v.cells.size]!)) _ hlen hparts (reps_all (n := n) hall) (Vs_reps hzl hV) hfill
          obtain ⟨K1, hl, hV1, hall1, hl1⟩ := escList_run hR hf3 hy
          have hmap : (parts.map fun p => (p.1, a.eval p.2)).toList = parts.toList.map fun p => (p.1, a.eval p.2) := by simp
          obtain ⟨Q', hT, hp⟩ := fresh_ref (sz := s) (n := n) (t := e) hl.mr _ _ (hall1 hf2) hV1 (w' := { w with heap := w.heap.push (.cells vs' e (0, 0)) }) ⟨rfl, rfl, rfl⟩ (by
            rw [hl1, hf4, reps_length, hzl])
          refine goes_value ?_ (hl.toTrans.trans hT) hp
          have hu := run_telem he
          by_cases h0 : n * s = 0
          · have hsame : ∀ z0 : Array Value, ((Array.range (n * s)).map fun i => z0[i % z0.size]!) = #[] := by intro z0; rw [h0]; simp
            rw [hsame] at hf1
            simp [execOp, Instr.buildSlice, run_underlying hu, run_tsize hs, h0, newRow, hf1, Array.range_zero']
          · simp [execOp, Instr.buildSlice, run_underlying hu, run_tsize hs, h0, hv, newRow, hf1, show ¬ (16777216 < n * s) by omega]
        · simp at h
      · simp at h
    · simp at h
  case makeSlice t l c' =>
    split at h
    · rename_i e he
      split at h
      · rename_i s z k1 x k2 y hs hz hl hc
        split at h
        · rename_i hcond
          obtain ⟨h0, rfl, hsm, hzl⟩ := hcond
          simp only [Option.some.injEq, Prod.mk.injEq] at h
          obtain ⟨rfl, rfl⟩ := h
          obtain ⟨v, hv, hall, hV, i, hi, hiz⟩ := run_tzcells (K := K) (M := m.get) (Q := Q) (w := w) (loc := false) hz
          obtain ⟨i', hi', hb, hn⟩ := small_spec hsm
          rw [hi] at hi'; simp only [Option.some.injEq] at hi'; subst hi'
          have hl' := hρ l; rw [hl] at hl'; simp only [Vt, V] at hl'
          have hc' := hρ c'; rw [hc] at hc'; simp only [Vt, V] at hc'
          have hsz : s = i.size := by simp [tsize, hi] at hs; omega
          have hbx : (i.bytes : Int) * x ≤ 281474976710656 := by
            have h1 : (i.bytes : Int) ≤ 1024 := by omega
            have h2 : x ≤ 4294967296 := by omega
            calc (i.bytes : Int) * x ≤ 1024 * x := Int.mul_le_mul_of_nonneg_right h1 h0
              _ ≤ 281474976710656 := by omega
          have hrun := run_make (P := P) w t e i v (run_telem he) hi hiz k1 k2 x x h0 (Int.le_refl _) hbx (by omega)
          obtain ⟨Q', hT, hp⟩ := fresh_ref (sz := s) (n := x.toNat) (cs := reps x.toNat z) (t := e) (es := madeCells v.cells (x.toNat * i.size)) hR _ _ (reps_all hall) (by
            have := Vs_reps (n := x.toNat) hzl hV
            rw [hsz] at this
            exact this) (w' := w.alloc (.cells (madeCells v.cells (x.toNat * i.size)) e)) ⟨rfl, rfl, rfl⟩ (by rw [reps_length, hzl])
          exact goes_value (by simp only [execOp, hl', hc', Sem.run_bind, hrun, Result.andThen_ok, Sem.run_pure]) hT hp
        · simp at h
      · simp at h
    · simp at h
  case makeMap t r =>
    cases r with
    | none =>
      simp only at h
      split at h
      · simp only [Option.some.injEq, Prod.mk.injEq] at h
        obtain ⟨rfl, rfl⟩ := h
        obtain ⟨Q', hT, hp⟩ := fresh_map hR _ _ (w' := { w with heap := w.heap.push (.map #[] 0) }) ⟨rfl, rfl, rfl⟩
        exact goes_value (by simp [execOp, Instr.makeMap]) hT hp
      · simp at h
    | some r =>
      simp only at h
      split at h
      · rename_i x k i ht hr
        simp only [Option.some.injEq, Prod.mk.injEq] at h
        obtain ⟨rfl, rfl⟩ := h
        have hr' := hρ r; rw [hr] at hr'; simp only [Vt, V] at hr'
        obtain ⟨Q', hT, hp⟩ := fresh_map hR _ _ (w' := { w with heap := w.heap.push (.map #[] 0) }) ⟨rfl, rfl, rfl⟩
        exact goes_value (by simp [execOp, Instr.makeMap, hr', run_underlying (run_tmap ht), asInt, asIntOf]) hT hp
      · simp at h
  case store t p x =>
    simp only [Option.map_eq_some_iff, Prod.mk.injEq] at h
    obtain ⟨m1, h1, h2, rfl⟩ := h
    obtain ⟨K', Q', w', hrun, hT⟩ := cstore_run hR (hρ p) (hρ x) h1
    exact goes_skip (by simp [execOp, hrun]) hT h2.symm
  case mapUpdate t x k v =>
    obtain ⟨K', w', hrun, hT, hc⟩ := mapUp_run hR (hρ x) (hρ k) (hρ v) h
    exact goes_skip (by simp [execOp, hrun]) hT hc
  case insert t x k v =>
    obtain ⟨K', w', hrun, hT, hc⟩ := mapUp_run hR (hρ x) (hρ k) (hρ v) h
    exact goes_skip (by simp [execOp, hrun]) hT hc
  case call c0 =>
    have hargs : Vs K m.get Q true (c0.args.toList.map ρ) (c0.args.map a.eval).toList := by
      rw [Array.toList_map]
      exact Vs_map hρ _
    have hr : ∀ {d : Deferred}, (resolve a.eval c0 ty).run P w = .ok d w → ∀ {x : Result Next}, (invoke d.target d.args).run P w = x → (execOp a.eval ⟨dst, .call c0, ty, pos, after, guard⟩).run P w = x := by
      intro d h1 x h2
      simp only [execOp, Sem.run_bind, h1, Result.andThen_ok, h2]
    obtain ⟨callee, args, argTypes⟩ := c0
    cases callee with
    | value f =>
      simp only at h
      unfold invokeC at h
      split at h
      · rename_i f' first captured hf
        have hfv := hρ f
        rw [hf] at hfv
        simp only [Vt, V] at hfv
        obtain ⟨x, y, hfe, hx, hy⟩ := hfv
        have hall : Vs K m.get Q true (first ++ args.toList.map ρ ++ captured) (x ++ args.map a.eval ++ y).toList := by
          simp only [Array.toList_append]
          exact Vs_append (Vs_append hx hargs) hy
        obtain ⟨hex, hc⟩ := callC_run hS hR hall h
        refine goes_enter (hr (d := { target := .fn (.func f') y, args := x ++ args.map a.eval }) ?_ ?_) hc
        · simp [resolve, hfe, Deferred.ofValue]
        · simp only [invoke]; exact run_callFunc hN hex
      · simp at h
    | invoke recv name =>
      simp only at h
      split at h
      · rename_i t x hx
        simp only [Option.bind_eq_some_iff] at h
        obtain ⟨⟨f, y⟩, hm, h⟩ := h
        have hrv := hρ recv
        rw [hx] at hrv
        simp only [Vt, V] at hrv
        obtain ⟨u, hre, hu⟩ := hrv
        obtain ⟨rfl, _⟩ := methodC_run (w := w) (u := u) (loc := true) hm 0
        have hall : Vs K m.get Q true (y :: args.toList.map ρ) (#[u] ++ args.map a.eval).toList := by
          simp only [Array.toList_append, List.cons_append, List.nil_append, Vs]
          exact ⟨u, _, rfl, hu, hargs⟩
        obtain ⟨hex, hc⟩ := callC_run hS hR hall h
        refine goes_enter (hr (d := { target := .fn (.method name) #[], args := #[a.eval recv] ++ args.map a.eval }) ?_ ?_) hc
        · simp [resolve]
        · have hext : (#[a.eval recv] ++ args.map a.eval).extract 1 (#[a.eval recv] ++ args.map a.eval).size = args.map a.eval := by
            apply Array.ext'; simp [List.take_of_length_le]
          have hget : (#[a.eval recv] ++ args.map a.eval)[0]? = some (.iface t u) := by rw [hre, ← Array.getElem?_toList]; simp
          simp only [invoke, hget, hext, callMethod, Sem.run_bind]
          have hd : ∀ n, n + Made.depth = (n + Made.depth - 1) + 1 := by intro n; simp [Made.depth]
          simp only [run_program, Result.andThen_ok]
          rw [hd, (methodC_run (w := w) (u := u) (loc := true) hm _).2]
          simp only [Result.andThen_ok]
          exact run_callFunc hN hex
      · simp at h
    | builtin b =>
      have hb : ∀ {r : Value} {w' : World}, (builtin b argTypes ty (args.map fun | .const _ => true | _ => false) (args.map a.eval)).run P w = .ok (.value r) w' →
          (execOp a.eval ⟨dst, .call ⟨.builtin b, args, argTypes⟩, ty, pos, after, guard⟩).run P w = .ok (.value r) w' := by
        intro r w' h2
        refine hr (d := { target := .builtin b argTypes ty (args.map fun | .const _ => true | _ => false), args := args.map a.eval }) ?_ ?_
        · simp only [resolve, Sem.run_pure, Result.ok.injEq, Deferred.mk.injEq, Target.builtin.injEq, and_true, true_and]
          refine Array.map_congr_left fun x _ => ?_
          cases x <;> rfl
        · simpa [invoke] using h2
      have hal : args.map a.eval = (args.toList.map a.eval).toArray := by apply Array.ext'; simp
      cases b <;> simp only [quietB, not_true_eq_false] at hq <;> simp only [reduceCtorEq] at h
      case append =>
        split at h
        · rename_i s x t u ts hc1 hc2
          split at h
          · rename_i e e' he he'
            rw [hc1] at hargs
            simp only [Vs] at hargs
            obtain ⟨sv, r1, h1, hsv, xv, r2, h2, hxv, rfl⟩ := hargs
            subst h2
            have e1 : args.map a.eval = #[sv, xv] := by apply Array.ext'; simpa using h1
            have e2 : argTypes[0]? = some t := by rw [← Array.getElem?_toList, hc2]; rfl
            have e3 : argTypes[1]? = some u := by rw [← Array.getElem?_toList, hc2]; rfl
            obtain ⟨Q', w', r, hrun, hT, hV⟩ := cappend_run (ty := ty) hR e2 e3 (run_telem he) (run_telem he') hsv hxv h
            refine goes_value (hb ?_) hT hV
            rw [e1]
            simp [builtin, hrun]
          · simp at h
        · simp at h
      case copy =>
        split at h
        · rename_i d x t ts hc1 hc2
          split at h
          · rename_i e he
            rw [hc1] at hargs
            simp only [Vs] at hargs
            obtain ⟨sv, r1, h1, hsv, xv, r2, h2, hxv, rfl⟩ := hargs
            subst h2
            have e1 : args.map a.eval = #[sv, xv] := by apply Array.ext'; simpa using h1
            have e2 : argTypes[0]? = some t := by rw [← Array.getElem?_toList, hc2]; rfl
            obtain ⟨Q', w', r, hrun, hT, hV⟩ := ccopy_run (ty := ty) hR e2 (run_telem he) hsv hxv h
            refine goes_value (hb ?_) hT hV
            rw [e1]
            simp [builtin, hrun]
          · simp at h
        · simp at h
      case delete =>
        split at h
        · rename_i x k t ts hc1 hc2
          rw [hc1] at hargs
          simp only [Vs] at hargs
          obtain ⟨sv, r1, h1, hsv, xv, r2, h2, hxv, rfl⟩ := hargs
          subst h2
          have e1 : args.map a.eval = #[sv, xv] := by apply Array.ext'; simpa using h1
          have e2 : argTypes[0]? = some t := by rw [← Array.getElem?_toList, hc2]; rfl
          split at h
          · rename_i key gn kt et ht
            split at h
            · rename_i g es hget
              split at h
              · rename_i hcond
                obtain ⟨rfl, hp⟩ := hcond
                obtain ⟨w', hrun, hT, hc⟩ := delete_run (ty := ty) hR e2 ht hsv hxv hget hp h
                refine goes_value (r := .tuple #[]) (hb ?_) hT ?_
                · rw [e1]; simp [builtin, hrun]
                · subst hc; simp [Vt, V, Vs]
              · simp at h
            · simp at h
          · simp at h
        · simp at h
end
end Go.Cm
