/-
  The C machine, tenth part: all operations that only answer a value.
-/
import Derived.Test.YtjmmeeokpncdbaaCvI
import Derived.Laws.Build
set_option linter.unusedSimpArgs false
set_option linter.unusedVariables false
namespace Go.Cm

section
variable {K : KM} {Q : PM} {P : Program} {w : World} {m : Mem}

theorem mapOf_run (hR : MR K m.get Q w) {x : CV} {es : List (CV × CV)} {v : Value} (hv : Vt K m Q x v) (h : mapOf m x = some es) :
    (v = .map none ∧ es = []) ∨ ∃ r xs clk, v = .map (some r) ∧ w.heap[r]? = some (.map xs clk) ∧ xs.size = es.length ∧ ∀ (i : Nat) (e : CV × CV), es[i]? = some e → ∃ x, xs[i]? = some x ∧ EntryOK K m.get Q e x := by
  unfold mapOf at h
  split at h
  · simp only [Vt, V] at hv
    simp only [Option.some.injEq] at h
    exact .inl ⟨hv, h.symm⟩
  · rename_i k gn
    split at h
    · rename_i g es' hget
      split at h
      · rename_i hg
        subst hg
        simp only [Option.some.injEq] at h; subst h
        simp only [Vt, V] at hv
        obtain ⟨_, x, r, hx, _, rfl, hc⟩ := hv
        rw [hget] at hx
        simp only [Option.some.injEq] at hx; subst hx
        obtain ⟨q, hq, rfl⟩ := hc rfl
        obtain ⟨xs, clk, h1, h2, h3⟩ := hR.objs _ _ hget q hq
        exact .inr ⟨q.blk, xs, clk, rfl, h1, h2, h3⟩
      · simp at h
    · simp at h
  · simp at h

theorem run_getObj_map {r : Nat} {xs : Array MapEntry} {clk : Nat} (h : w.heap[r]? = some (.map xs clk)) : (getObj r).run P w = .ok (.map xs clk) w := by
  simp [getObj, Sem.run, h]

theorem lookup_shape {t : TypeId} {ok : Bool} {v j : Value} {kt et : TypeId} (hu : P.underlying t = some (.map kt et)) (hp : plainKey P kt = true)
    {arr : Array MapEntry} (hv : (v = .map none ∧ arr = #[]) ∨ ∃ r clk, v = .map (some r) ∧ w.heap[r]? = some (.map arr clk)) {r' : Option (Nat × Value)} (hf : (Instr.findKey kt j arr.toList).run P w = .ok r' w) :
    (Instr.lookup t v j ok).run P w = match r' with
      | some (_, u) => .ok (if ok then .tuple #[u, .bool true] else u) w
      | none => ((zeroValue et).run P w).andThen fun z w' => .ok (if ok then .tuple #[z, .bool false] else z) w' := by
  rcases hv with ⟨rfl, rfl⟩ | ⟨r, clk, rfl, h1⟩
  · simp only [Instr.lookup, Sem.run_bind, run_tunder hu, Result.andThen_ok, checkKey_run hp, hf, Sem.run_pure]
    cases r' <;> simp
  · simp only [Instr.lookup, Sem.run_bind, run_tunder hu, Result.andThen_ok, run_getObj_map h1, checkKey_run hp, hf, Sem.run_pure]
    cases r' <;> simp

theorem lookup_run (hR : MR K m.get Q w) {t : TypeId} {x i : CV} {ok : Bool} {v j : Value} {kt et : TypeId} {es : List (CV × CV)} {c : CV} (hv : Vt K m Q x v) (hj : Vt K m Q i j)
    (ht : tmap P t = some (kt, et)) (hm : mapOf m x = some es) (hp : plainKey P kt = true)
    (h : (match ckey P kt i es 0, tzero P et with
        | some (some (_, v)), _ => some (if ok then CV.tuple [v, .bool true] else v, m)
        | some none, some z => some (if ok then CV.tuple [z, .bool false] else z, m)
        | _, _ => none) = some (c, m)) :
    ∃ r, (Instr.lookup t v j ok).run P w = .ok r w ∧ Vt K m Q c r := by
  have hu := run_tmap ht
  obtain ⟨d, hd⟩ : ∃ d, P.underlying kt = some d := by
    unfold plainKey at hp; split at hp <;> first | exact ⟨_, by assumption⟩ | simp at hp
  have fin : ∀ (b : Bool) (c0 : CV) (r0 : Value), Vt K m Q c0 r0 → Vt K m Q (if ok then CV.tuple [c0, .bool b] else c0) (if ok then .tuple #[r0, .bool b] else r0) := by
    intro b c0 r0 h0
    cases ok
    · simpa using h0
    · simp only [if_true, Vt, V, Vs]
      exact ⟨_, rfl, r0, [.bool b], rfl, h0, .bool b, [], rfl, rfl, rfl⟩
  obtain ⟨arr, hv', hlen, hrows⟩ : ∃ arr : Array MapEntry, ((v = .map none ∧ arr = #[]) ∨ ∃ r clk, v = .map (some r) ∧ w.heap[r]? = some (.map arr clk)) ∧
      arr.toList.length = es.length ∧ ∀ (j : Nat) (e : CV × CV), es[j]? = some e → ∃ x, arr.toList[j]? = some x ∧ EntryOK K m.get Q e x := by
    rcases mapOf_run hR hv hm with ⟨rfl, rfl⟩ | ⟨r, xs, clk, rfl, h1, h2, h3⟩
    · exact ⟨#[], .inl ⟨rfl, rfl⟩, rfl, by simp⟩
    · exact ⟨xs, .inr ⟨r, clk, rfl, h1⟩, by simpa using h2, by simpa using h3⟩
  cases hc : ckey P kt i es 0 with
  | none => simp [hc] at h
  | some r =>
    obtain ⟨r', hr1, hr2⟩ := ckey_run (M := m.get) (Q := Q) (K := K) hp hd hj es arr.toList 0 r hlen hrows hc
    simp only [hc] at h
    have hfind : (Instr.findKey kt j arr.toList).run P w = .ok r' w := by
      simp [Instr.findKey, run_tunder hd, hr1]
    rw [lookup_shape hu hp hv' hfind]
    cases r with
    | some p =>
      obtain ⟨a, c0⟩ := p
      cases r' with
      | none => simp at hr2
      | some q =>
        obtain ⟨b, v0⟩ := q
        simp only [Option.some.injEq, Prod.mk.injEq] at h
        obtain ⟨rfl, _⟩ := h
        exact ⟨_, rfl, fin true c0 v0 (V_loc hr2.2.1)⟩
    | none =>
      cases r' with
      | some q => simp at hr2
      | none =>
        cases hz : tzero P et with
        | none => simp [hz] at h
        | some z =>
          simp only [hz, Option.some.injEq, Prod.mk.injEq] at h
          obtain ⟨rfl, _⟩ := h
          obtain ⟨v0, hz1, hz2, _⟩ := run_tzero (K := K) (M := m.get) (Q := Q) (w := w) (loc := true) hz
          exact ⟨_, by simp only [hz1, Result.andThen_ok], fin false z v0 hz2⟩

theorem minmax_run {b : Bool} {cs : List CV} {c : CV} {vs : List Value} (hv : Vs K m.get Q true cs vs) (h : minmax b cs = some c) (ts : Array TypeId) (ty : TypeId) :
    ∃ r, (if b then Builtin.max_ ts ty vs.toArray else Builtin.min_ ts ty vs.toArray).run P w = .ok r w ∧ Vt K m Q c r := by
  unfold minmax at h
  split at h
  · rename_i k a k' c'
    split at h
    · rename_i he; subst he
      simp only [Option.some.injEq] at h; subst h
      simp only [Vs, V] at hv
      obtain ⟨v, r, rfl, rfl, u, r', rfl, rfl, rfl⟩ := hv
      cases b
      · exact ⟨_, by simp [Builtin.min_, Builtin.min2]; rfl, by simp [Vt, V]⟩
      · exact ⟨_, by simp [Builtin.max_, Builtin.max2]; rfl, by simp [Vt, V]⟩
    · simp at h
  · simp at h

theorem Vs_map {ρ : Operand → CV} {ρ' : Operand → Value} (hρ : ∀ x, Vt K m Q (ρ x) (ρ' x)) : ∀ (l : List Operand), Vs K m.get Q true (l.map ρ) (l.map ρ')
  | [] => by simp [Vs]
  | x :: l => by simp only [List.map_cons, Vs]; exact ⟨_, _, rfl, hρ x, Vs_map hρ l⟩

theorem optV_map {ρ : Operand → CV} {ρ' : Operand → Value} (hρ : ∀ x, Vt K m Q (ρ x) (ρ' x)) (o : Option Operand) : optV K m Q (o.map ρ) (o.map ρ') := by
  cases o <;> simp [optV, hρ]

theorem least_some : ∀ (l : List String), l ≠ [] → ∃ s, Instr.least l = some s
  | [], h => absurd rfl h
  | _ :: _, _ => ⟨_, rfl⟩
theorem missing_none {want : Array (String × TypeId)} {got : Array Method} (h : (want.toList.all fun w => got.any fun x => x.name == w.1 && x.sig == w.2) = true) : Instr.missingMethod want got = none := by
  have : (want.toList.filter fun (x : String × TypeId) => !got.any fun m => m.name == x.1 && m.sig == x.2) = [] := by
    rw [List.filter_eq_nil_iff]
    intro x hx
    simpa using List.all_eq_true.1 h x hx
  unfold Instr.missingMethod
  simp only [this]
  rfl
theorem missing_some {want : Array (String × TypeId)} {got : Array Method} (h : (want.toList.all fun w => got.any fun x => x.name == w.1 && x.sig == w.2) = false) : ∃ s, Instr.missingMethod want got = some s := by
  have : (want.toList.filter fun (x : String × TypeId) => !got.any fun m => m.name == x.1 && m.sig == x.2) ≠ [] := by
    intro hn
    rw [List.filter_eq_nil_iff] at hn
    have : (want.toList.all fun w => got.any fun x => x.name == w.1 && x.sig == w.2) = true := List.all_eq_true.2 fun x hx => by simpa using hn x hx
    rw [this] at h; cases h
  unfold Instr.missingMethod
  generalize hf : (want.toList.filter fun (x : String × TypeId) => !got.any fun m => m.name == x.1 && m.sig == x.2) = l at this
  cases l with
  | nil => exact absurd rfl this
  | cons a l =>
    simp only [List.map_cons]
    generalize hp : (a.1 :: l.map (·.1)).partition (·.contains '.') = pr
    obtain ⟨p1, p2⟩ := pr
    simp only []
    cases p2 with
    | cons b p2 => exact ⟨_, rfl⟩
    | nil =>
      cases p1 with
      | cons c p1 => exact ⟨_, rfl⟩
      | nil =>
        exfalso
        rw [List.partition_eq_filter_filter] at hp
        simp only [Prod.mk.injEq, List.filter_eq_nil_iff] at hp
        have h1 := hp.1 a.1 (by simp)
        have h2 := hp.2 a.1 (by simp)
        cases hc : a.1.contains '.'
        · simp [Function.comp, hc] at h2
        · exact h1 hc

theorem quiet_run (hR : MR K m.get Q w) {A : Ann} {F : Oracle} {fid : FuncId} {ρ : Operand → CV} {ρ' : Operand → Value} (hρ : ∀ x, Vt K m Q (ρ x) (ρ' x)) {o : Oper} {c : CV} {m' : Mem}
    (hq : quietOp o.op = true) (h : cval P A F fid ρ o m = some (c, m')) :
    m' = m ∧ ∃ r, (execOp ρ' o).run P w = .ok (.value r) w ∧ Vt K m Q c r := by
  obtain ⟨dst, op, ty, pos, after, guard⟩ := o
  cases op <;> simp only [quietOp, Bool.false_eq_true] at hq <;> simp only [cval] at h
  case move x => simp only [Option.some.injEq, Prod.mk.injEq] at h; exact ⟨h.2.symm, ρ' x, by simp [execOp], by rw [← h.1]; exact hρ x⟩
  case assign x => simp only [Option.some.injEq, Prod.mk.injEq] at h; exact ⟨h.2.symm, ρ' x, by simp [execOp], by rw [← h.1]; exact hρ x⟩
  case pick c' a b =>
    have hc := hρ c'
    split at h <;> first | (simp only [Option.some.injEq, Prod.mk.injEq] at h) | (simp at h; done)
    · rename_i he; rw [he] at hc; simp only [Vt, V] at hc
      exact ⟨h.2.symm, ρ' a, by simp [execOp, hc, asBool], by rw [← h.1]; exact hρ a⟩
    · rename_i he; rw [he] at hc; simp only [Vt, V] at hc
      exact ⟨h.2.symm, ρ' b, by simp [execOp, hc, asBool], by rw [← h.1]; exact hρ b⟩
  case build t parts =>
    have hparts : ∀ (i : Nat) (a : Nat × CV) (b : Nat × Value), (parts.toList.map fun p => (p.1, ρ p.2))[i]? = some a → (parts.toList.map fun p => (p.1, ρ' p.2))[i]? = some b → a.1 = b.1 ∧ V K m.get Q true a.2 b.2 := by
      intro i a b ha hb
      simp only [List.getElem?_map, Option.map_eq_some_iff] at ha hb
      obtain ⟨p, hp, rfl⟩ := ha
      obtain ⟨p', hp', rfl⟩ := hb
      rw [hp] at hp'; simp only [Option.some.injEq] at hp'; subst hp'
      exact ⟨rfl, hρ _⟩
    have hlen : (parts.toList.map fun p => (p.1, ρ p.2)).length = (parts.toList.map fun p => (p.1, ρ' p.2)).length := by simp
    have hmap : (parts.map fun p => (p.1, ρ' p.2)).toList = parts.toList.map fun p => (p.1, ρ' p.2) := by simp
    split at h
    · rename_i z fields hz hu
      split at h
      · rename_i hall
        simp only [Option.map_eq_some_iff, Prod.mk.injEq] at h
        obtain ⟨cs, hcs, rfl, rfl⟩ := h
        obtain ⟨v0, hz1, hz2, hz3, _⟩ := run_tzcells (K := K) (M := m.get) (Q := Q) (w := w) (loc := true) hz
        obtain ⟨vs', h1, h2, h3, _⟩ := fill_run (K := K) (Q := Q) _ _ _ _ _ hlen hparts hz2 hz3 hcs
        have hmm := run_mapM (P := P) (fun f : Field => do pure (f.offset, ← sizeOf f.type)) (fun f : Field => (f.offset, (tsize P f.type).getD 0)) w fields fun f hf => by
          have := List.all_eq_true.1 hall f hf
          obtain ⟨s, hs⟩ := Option.isSome_iff_exists.1 this
          simp [run_tsize hs, hs]
        have hpl : (fun i : Nat => (fields[i]?).bind fun f => (tsize P f.type).map fun s => (f.offset, s)) = fun i : Nat => (fields.map fun f : Field => (f.offset, (tsize P f.type).getD 0))[i]? := by
          funext i
          simp only [Array.getElem?_map]
          cases hf : fields[i]? with
          | none => simp
          | some f =>
            have hf' : f ∈ fields.toList := by
              have := Array.mem_of_getElem? hf
              exact Array.mem_toList_iff.2 this
            obtain ⟨s, hs⟩ := Option.isSome_iff_exists.1 (List.all_eq_true.1 hall f hf')
            simp [hs]
        rw [hpl] at h1
        refine ⟨rfl, .agg vs', ?_, by simp only [Vt, V]; exact ⟨h2, vs', rfl, h3⟩⟩
        simp only [execOp, Instr.build, Sem.run_bind, hz1, Result.andThen_ok, run_tunder hu, hmm, hmap, h1, Sem.run_pure]
      · simp at h
    · rename_i z n e hz hu
      cases hs : tsize P e with
      | none => simp [hs] at h
      | some s =>
        simp only [hs, Option.bind_some, Option.map_eq_some_iff, Prod.mk.injEq] at h
        obtain ⟨cs, hcs, rfl, rfl⟩ := h
        obtain ⟨v0, hz1, hz2, hz3, _⟩ := run_tzcells (K := K) (M := m.get) (Q := Q) (w := w) (loc := true) hz
        obtain ⟨vs', h1, h2, h3, _⟩ := fill_run (K := K) (Q := Q) _ _ _ _ _ hlen hparts hz2 hz3 hcs
        refine ⟨rfl, .agg vs', ?_, by simp only [Vt, V]; exact ⟨h2, vs', rfl, h3⟩⟩
        simp only [execOp, Instr.build, Sem.run_bind, hz1, Result.andThen_ok, run_tunder hu, run_tsize hs, hmap, h1, Sem.run_pure]
    · simp at h
  case load t a =>
    simp only [Option.map_eq_some_iff, Prod.mk.injEq] at h
    obtain ⟨v, hv, rfl, rfl⟩ := h
    obtain ⟨u, h1, h2⟩ := cload_run (P := P) hR (hρ a) hv
    exact ⟨rfl, u, by simp [execOp, h1], h2⟩
  case nilCheck x =>
    have hx := hρ x
    split at h <;> first | (simp only [Option.some.injEq, Prod.mk.injEq] at h) | (simp at h; done)
    · rename_i he; rw [he] at hx
      obtain ⟨rfl, rfl⟩ := h
      have hx' := hx
      simp only [Vt, V] at hx'
      obtain ⟨_, _, a, _, _, hv, _⟩ := hx'
      exact ⟨rfl, ρ' x, by simp [execOp, hv], hx⟩
    · rename_i he; rw [he] at hx
      obtain ⟨rfl, rfl⟩ := h
      have hx' := hx
      simp only [Vt, V] at hx'
      obtain ⟨_, b, o, hv, _⟩ := hx'
      exact ⟨rfl, ρ' x, by simp [execOp, hv], hx⟩
  case binOp op t x y yt =>
    simp only [Option.map_eq_some_iff, Prod.mk.injEq] at h
    obtain ⟨v, hv, rfl, rfl⟩ := h
    obtain ⟨u, h1, h2⟩ := cbin_run (P := P) (w := w) (hρ x) (hρ y) hv
    refine ⟨rfl, u, ?_, h2⟩
    simp only [execOp, Sem.run_bind] at h1 ⊢
    rw [h1]; simp
  case unOp op t x =>
    simp only [Option.map_eq_some_iff, Prod.mk.injEq] at h
    obtain ⟨v, hv, rfl, rfl⟩ := h
    obtain ⟨u, h1, h2⟩ := cun_run (P := P) (w := w) (hρ x) hv
    exact ⟨rfl, u, by simp [execOp, h1], h2⟩
  case convert src dst' x =>
    have hx := hρ x
    split at h
    · rename_i d k k' n hs hk he
      simp only [Option.some.injEq, Prod.mk.injEq] at h
      obtain ⟨rfl, rfl⟩ := h
      rw [he] at hx; simp only [Vt, V] at hx
      have hk' : P.underlying dst' = some (.int k) := by unfold tkind at hk; split at hk <;> simp_all
      exact ⟨rfl, .int k (k.wrap n), by simp [execOp, convert, run_tunder hs, run_tunder hk', hx, Conv.intToInt], by simp [Vt, V]⟩
    · simp at h
  case makeInterface t x =>
    split at h
    · simp at h
    · rename_i hn
      simp only [Option.some.injEq, Prod.mk.injEq] at h
      obtain ⟨rfl, rfl⟩ := h
      have hcon : P.concrete t = true := by
        unfold isIface at hn; unfold Program.concrete
        cases hu : P.underlying t with
        | none => simp [hu] at hn
        | some d => cases d <;> simp [hu] at hn ⊢
      refine ⟨rfl, .iface t (ρ' x), by simp [execOp, run_makeInterface w t (ρ' x) hcon], ?_⟩
      simp only [Vt, V]; exact ⟨_, rfl, hρ x⟩
  case makeFunc fn first captured =>
    simp only [Option.some.injEq, Prod.mk.injEq] at h
    obtain ⟨rfl, rfl⟩ := h
    refine ⟨rfl, .func fn (first.map ρ') (captured.map ρ'), by simp [execOp, Instr.makeFunc], ?_⟩
    simp only [Vt, V]
    exact ⟨_, _, rfl, by simpa using Vs_map hρ first.toList, by simpa using Vs_map hρ captured.toList⟩
  case slice t x lo hi mx =>
    simp only [Option.map_eq_some_iff, Prod.mk.injEq] at h
    obtain ⟨v, hv, rfl, rfl⟩ := h
    obtain ⟨u, h1, h2⟩ := cslice_run (P := P) hR (hρ x) (optV_map hρ lo) (optV_map hρ hi) (optV_map hρ mx) hv
    exact ⟨rfl, u, by simp [execOp, h1], h2⟩
  case fieldAddr t x f =>
    simp only [Option.map_eq_some_iff, Prod.mk.injEq] at h
    obtain ⟨v, hv, rfl, rfl⟩ := h
    obtain ⟨u, h1, h2⟩ := cfieldAddr_run (P := P) (w := w) (hρ x) hv
    exact ⟨rfl, u, by simp [execOp, h1], h2⟩
  case field t x f =>
    have hx := hρ x
    split at h
    · rename_i off ft cs hf he
      simp only [Option.map_eq_some_iff, Prod.mk.injEq] at h
      obtain ⟨v, hv, rfl, rfl⟩ := h
      rw [he] at hx; simp only [Vt, V] at hx
      obtain ⟨hall, vs, hvs, hs⟩ := hx
      obtain ⟨fs, fd, hu, hfd, rfl, rfl⟩ := run_tfield hf
      obtain ⟨u, h1, h2⟩ := partC_run (P := P) (w := w) hall hs hv
      exact ⟨rfl, u, by simp [execOp, Instr.field, run_tunder hu, hfd, hvs, asAgg, h1], h2⟩
    · simp at h
  case indexAddr t x i =>
    simp only [Option.map_eq_some_iff, Prod.mk.injEq] at h
    obtain ⟨v, hv, rfl, rfl⟩ := h
    obtain ⟨u, h1, h2⟩ := cindexAddr_run (P := P) (w := w) (hρ x) (hρ i) hv
    exact ⟨rfl, u, by simp [execOp, h1], h2⟩
  case index t x i =>
    have hx := hρ x
    split at h
    · rename_i cs n he ha
      obtain ⟨k, z, hi, h0, hzn⟩ := asNat_run (hρ i) ha
      rw [he] at hx; simp only [Vt, V] at hx
      obtain ⟨hall, vs, hvs, hs⟩ := hx
      split at h
      · rename_i n' e ht
        split at h
        · rename_i hlt
          cases hs' : tsize P e with
          | none => simp [hs'] at h
          | some s =>
            simp only [hs', Option.bind_some, Option.map_eq_some_iff, Prod.mk.injEq] at h
            obtain ⟨v, hv, rfl, rfl⟩ := h
            obtain ⟨u, h1, h2⟩ := partC_run (P := P) (w := w) hall hs hv
            refine ⟨rfl, u, ?_, h2⟩
            simp only [execOp, Instr.index, hvs, hi, asIntOf, Sem.run_bind, Sem.run_pure, Result.andThen_ok, run_tunder (run_tarr ht)]
            rw [if_pos ⟨h0, by omega⟩]
            simp only [Sem.run_bind, run_tsize hs', Result.andThen_ok, hzn, h1, Sem.run_pure]
        · simp at h
      · simp at h
    · rename_i s n he ha
      obtain ⟨k, z, hi, h0, hzn⟩ := asNat_run (hρ i) ha
      rw [he] at hx; simp only [Vt, V] at hx
      split at h
      · rename_i hu
        simp only [Option.map_eq_some_iff, Prod.mk.injEq] at h
        obtain ⟨b, hb, rfl, rfl⟩ := h
        refine ⟨rfl, .int .u8 b.toNat, ?_, by simp [Vt, V]⟩
        simp only [execOp, Instr.index, hx, hi, asIntOf, Sem.run_bind, Sem.run_pure, Result.andThen_ok, run_tunder hu, h0, if_true, hzn, hb]
      · simp at h
    · simp at h
  case lookup t x i ok =>
    split at h
    · rename_i kt et es ht hm
      split at h
      · rename_i hp
        have hm' : m' = m := by
          revert h
          split <;> intro h <;> simp only [Option.some.injEq, Prod.mk.injEq, reduceCtorEq] at h
          · exact h.2.symm
          · exact h.2.symm
        subst hm'
        obtain ⟨u, h1, h2⟩ := lookup_run hR (hρ x) (hρ i) ht hm hp h
        exact ⟨rfl, u, by simp [execOp, h1], h2⟩
      · simp at h
    · simp at h
  case typeAssert x xt t ok =>
    have hx := hρ x
    have holds : ∀ (c0 : CV) (r0 : Value), Vt K m Q c0 r0 → Vt K m Q (if ok = true then CV.tuple [c0, .bool true] else c0) (if ok = true then .tuple #[r0, .bool true] else r0) := by
      intro c0 r0 h0
      cases ok
      · simpa using h0
      · simp only [if_true, Vt, V, Vs]
        exact ⟨_, rfl, r0, _, rfl, h0, _, _, rfl, rfl, rfl⟩
    split at h
    · simp at h
    · rename_i d hd
      split at h
      · rename_i he
        rw [he] at hx; simp only [Vt, V] at hx
        split at h
        · rename_i hok
          subst hok
          simp only [Option.map_eq_some_iff, Prod.mk.injEq] at h
          obtain ⟨z, hz, rfl, rfl⟩ := h
          obtain ⟨v0, h1, h2, _⟩ := run_tzero (K := K) (M := m.get) (Q := Q) (w := w) (loc := true) hz
          refine ⟨rfl, .tuple #[v0, .bool false], ?_, by simp only [Vt, V, Vs]; exact ⟨_, rfl, v0, _, rfl, h2, _, _, rfl, rfl, rfl⟩⟩
          cases d <;> simp [execOp, Instr.typeAssert, run_tunder hd, hx, h1]
        · simp at h
      · rename_i u v he
        rw [he] at hx; simp only [Vt, V] at hx
        obtain ⟨z, hxz, hz⟩ := hx
        cases d
        case interface want =>
          simp only [] at h
          cases hi : P.info? u with
          | none => simp [hi] at h
          | some i =>
            simp only [hi, Option.map_some] at h
            have hti : (typeInfo u).run P w = .ok i w := by simp [typeInfo, hi]
            split at h
            · rename_i hall
              simp only [Option.some.injEq] at hall
              simp only [Option.some.injEq, Prod.mk.injEq] at h
              obtain ⟨rfl, rfl⟩ := h
              have hmiss : Instr.missingMethod want i.methods = none := missing_none hall
              refine ⟨rfl, _, ?_, holds (.iface u v) (.iface u z) (by simp only [Vt, V]; exact ⟨z, rfl, hz⟩)⟩
              simp only [execOp, Instr.typeAssert, Sem.run_bind, run_tunder hd, Result.andThen_ok, hxz, hti, hmiss, Sem.run_pure]
            · rename_i hall
              simp only [Option.some.injEq] at hall
              split at h
              · rename_i hok
                subst hok
                simp only [Option.map_eq_some_iff, Prod.mk.injEq] at h
                obtain ⟨z0, hz0, rfl, rfl⟩ := h
                obtain ⟨v0, h1, h2, _⟩ := run_tzero (K := K) (M := m.get) (Q := Q) (w := w) (loc := true) hz0
                refine ⟨rfl, .tuple #[v0, .bool false], ?_, by simp only [Vt, V, Vs]; exact ⟨_, rfl, v0, _, rfl, h2, _, _, rfl, rfl, rfl⟩⟩
                obtain ⟨s, hs⟩ := missing_some hall
                simp only [execOp, Instr.typeAssert, Sem.run_bind, run_tunder hd, Result.andThen_ok, hxz, hti, hs, if_true, h1, Sem.run_pure]
              · simp at h
            · simp at h
        all_goals
          simp only [] at h
          by_cases hut : u = t
          · simp only [hut, decide_true, Option.some.injEq, Prod.mk.injEq] at h
            obtain ⟨rfl, rfl⟩ := h
            refine ⟨rfl, _, ?_, holds v z hz⟩
            simp [execOp, Instr.typeAssert, run_tunder hd, hxz, hut]
          · simp only [hut, decide_false] at h
            split at h
            · rename_i hok
              subst hok
              simp only [Option.map_eq_some_iff, Prod.mk.injEq] at h
              obtain ⟨z0, hz0, rfl, rfl⟩ := h
              obtain ⟨v0, h1, h2, _⟩ := run_tzero (K := K) (M := m.get) (Q := Q) (w := w) (loc := true) hz0
              refine ⟨rfl, .tuple #[v0, .bool false], ?_, by simp only [Vt, V, Vs]; exact ⟨_, rfl, v0, _, rfl, h2, _, _, rfl, rfl, rfl⟩⟩
              simp [execOp, Instr.typeAssert, run_tunder hd, hxz, hut, h1]
            · simp at h
      · simp at h
  case extract t i =>
    have hx := hρ t
    split at h
    · rename_i vs he
      simp only [Option.map_eq_some_iff, Prod.mk.injEq] at h
      obtain ⟨v, hv, rfl, rfl⟩ := h
      rw [he] at hx; simp only [Vt, V] at hx
      obtain ⟨us, hus, hs⟩ := hx
      obtain ⟨u, h1, h2⟩ := Vs_get hs hv
      simp only [Array.getElem?_toList] at h1
      exact ⟨rfl, u, by simp [execOp, Instr.extract, hus, h1], h2⟩
    · simp at h
  case call cl =>
    obtain ⟨callee, args, argTypes⟩ := cl
    simp only [] at hq
    cases callee with
    | value f => simp at hq
    | invoke r n => simp at hq
    | builtin b =>
      have hargs := Vs_map hρ args.toList
      have hres : ∀ (x : Sem Value), (∀ consts, builtin b argTypes ty consts (args.map ρ') = (do pure (.value (← x)))) → ∀ r, x.run P w = .ok r w →
          (execOp ρ' { dst := dst, op := .call { callee := .builtin b, args := args, argTypes := argTypes }, type := ty, pos := pos, after := after, guard := guard }).run P w = .ok (.value r) w := by
        intro x hx r hr
        simp only [execOp, resolve, Sem.run_bind, Sem.run_pure, Result.andThen_ok, invoke]
        rw [hx]
        simp [hr]
      cases b <;> simp only [quietB, Bool.false_eq_true] at hq <;> simp only [] at h
      · split at h
        · rename_i x t hax hat
          rw [hax] at hargs
          simp only [Vs] at hargs
          obtain ⟨v, r, hv, hxv, rfl⟩ := hargs
          have ha' : args.map ρ' = #[v] := by apply Array.ext'; simpa using hv
          have ht' : argTypes = #[t] := by apply Array.ext'; simpa using hat
          split at h
          · rename_i e hu
            simp only [Option.map_eq_some_iff, Prod.mk.injEq] at h
            obtain ⟨n, hn, rfl, rfl⟩ := h
            obtain ⟨a, cap, rfl, _⟩ := clen_run hxv hn
            refine ⟨rfl, .int .i64 n, hres _ (fun _ => rfl) _ ?_, by simp [Vt, V]⟩
            simp [Builtin.len_, ha', ht', run_tunder hu, goInt]
          · rename_i k e hu
            simp only [Option.map_eq_some_iff, Prod.mk.injEq] at h
            obtain ⟨es, hes, rfl, rfl⟩ := h
            refine ⟨rfl, .int .i64 es.length, hres _ (fun _ => rfl) _ ?_, by simp [Vt, V]⟩
            rcases mapOf_run hR hxv hes with ⟨rfl, rfl⟩ | ⟨r, xs, clk, rfl, h1, h2, h3⟩
            · simp [Builtin.len_, ha', ht', run_tunder hu, goInt]
            · simp [Builtin.len_, ha', ht', run_tunder hu, goInt, run_getObj_map h1, h2]
          · rename_i hu
            split at h
            · rename_i s
              simp only [Option.some.injEq, Prod.mk.injEq] at h
              obtain ⟨rfl, rfl⟩ := h
              simp only [V] at hxv; subst hxv
              refine ⟨rfl, .int .i64 s.size, hres _ (fun _ => rfl) _ ?_, by simp [Vt, V]⟩
              simp [Builtin.len_, ha', ht', run_tunder hu, goInt]
            · simp at h
          · rename_i n e hu
            simp only [Option.some.injEq, Prod.mk.injEq] at h
            obtain ⟨rfl, rfl⟩ := h
            refine ⟨rfl, .int .i64 n, hres _ (fun _ => rfl) _ ?_, by simp [Vt, V]⟩
            cases v <;> simp [Builtin.len_, ha', ht', run_tunder hu, goInt]
          · simp at h
        · simp at h
      · simp only [Option.map_eq_some_iff, Prod.mk.injEq] at h
        obtain ⟨v, hv, rfl, rfl⟩ := h
        obtain ⟨u, h1, h2⟩ := minmax_run (P := P) (w := w) hargs hv argTypes ty
        refine ⟨rfl, u, hres _ (fun _ => rfl) _ ?_, h2⟩
        have : args.map ρ' = (args.toList.map ρ').toArray := by apply Array.ext'; simp
        rw [this]; simpa using h1
      · simp only [Option.map_eq_some_iff, Prod.mk.injEq] at h
        obtain ⟨v, hv, rfl, rfl⟩ := h
        obtain ⟨u, h1, h2⟩ := minmax_run (P := P) (w := w) hargs hv argTypes ty
        refine ⟨rfl, u, hres _ (fun _ => rfl) _ ?_, h2⟩
        have : args.map ρ' = (args.toList.map ρ').toArray := by apply Array.ext'; simp
        rw [this]; simpa using h1
end
end Go.Cm
