/-
  The C machine, last part: what the machine says of a call holds of the program.
-/
import Derived.Test.YtjmmeeokpncdbaaCvY
set_option linter.unusedSimpArgs false
set_option linter.unusedVariables false
namespace Go.Cm

section
variable {P : Program} {A : Ann}

theorem get_nil (H : List HO) : ({ L := [], H := H } : Mem).get = gm H := by
  funext k
  cases k <;> simp [Mem.get, gm, lget]

theorem body_goes {F : Oracle} (hS : Sim P F) (hN : plainNames P = true) (hM : P.follows .mixedOrders = true) {f : FuncId} {fn : Func} {c : Code} {n : Nat} {args : List CV} {H : List HO} {r : CE × CS} {vs xs : List CV} {m' : Mem}
    (hf : P.funcs[f]? = some fn) (hb : fn.body = some c) (hlen : args.length ≤ fn.ntmps) (he : cexec P A F f fn.ntmps n c { sl := args, m := { L := [], H := H } } = some r) (hne : ∀ i, r.1 ≠ .exit i)
    (hv : resAll P r.2.sl r.2.m fn.results.toList = some vs) (hx : mapMem retv vs r.2.m = some (xs, m')) : SimAt P f args H (tup xs) m'.H := by
  refine ⟨⟨fn, hf, by rw [hb]; rfl⟩, fun K Q w us hR hV => ?_⟩
  have hl := Vs_length hV
  simp only [Array.length_toList] at hl
  have hA : At fn.ntmps K { L := [], H := H } Q w { sl := args, m := { L := [], H := H } } { tmps := us ++ Array.replicate (fn.ntmps - us.size) undef, defers := [] } w := by
    refine ⟨K, Q, Trans.refl (by rw [get_nil]; exact hR), fun t => ?_, by simp; omega, rfl⟩
    show Vt K { L := [], H := H } Q (sget args t) _
    have hget : ∀ (l : List CV) (t : Nat), sget l t = (l[t]?).getD .dead := by
      intro l
      induction l with
      | nil => intro t; simp [sget]
      | cons x l ih => intro t; cases t <;> simp [sget, ih]
    rw [hget]
    cases ht : args[t]? with
    | none => simp [Vt, V]
    | some x =>
      obtain ⟨v, h1, h2⟩ := Vs_get hV ht
      have hlt : t < us.size := by
        have := (List.getElem?_eq_some_iff.1 ht).1; omega
      have : (us ++ Array.replicate (fn.ntmps - us.size) undef).getD t undef = v := by
        rw [Array.getD_eq_getD_getElem?, Array.getElem?_append_left hlt]
        rw [Array.getElem?_toList] at h1
        rw [h1]; rfl
      simp only [this, Option.getD_some, Vt]
      rw [get_nil]
      exact V_loc h2
  refine calls_of_wp hf hb (wp_mono (cexec_goes hS hN hM n c _ r _ w hA he) fun e a w' hp => ?_)
  have fin : At fn.ntmps K { L := [], H := H } Q w r.2 a w' → a.defers = [] ∧ ∃ v, (results fn a.tmps).run P w' = .ok v w' ∧ (fun e w' => ∃ v K' Q', e = Ending.returned v ∧ MR K' (gm m'.H) Q' w' ∧ Since w H K Q w' m'.H K' Q' ∧ RV K' (gm m'.H) Q' w w' (tup xs) v) (.returned v) w' := by
    rintro ⟨K1, Q1, hT, hs, hsz, hd⟩
    refine ⟨hd, ?_⟩
    have hQl : ∀ j, Q (.l j) = none := by
      intro j
      cases hq : Q (.l j) with
      | none => rfl
      | some q => obtain ⟨⟨x, hx⟩, _⟩ := hR.dom _ _ hq; simp [gm] at hx
    have hloc : ∀ j q, Q1 (.l j) = some q → w.heap.size ≤ q.blk := by
      intro j q hq
      rcases hT.pn _ _ hq with ⟨q0, h0, _⟩ | ⟨h1, _⟩
      · rw [hQl] at h0; cases h0
      · exact h1
    obtain ⟨ul, hu1, hu2, hu3⟩ := resAll_run hT.mr hs _ _ hv
    obtain ⟨K2, Q2, hO, hRs⟩ := retvs_run w vs xs ul K1 r.2.m m' Q1 [] hT.mr hloc (by simp) hu3 hx
    have hmap : (fn.results.mapM (resSem a.tmps)).run P w' = .ok ul.toArray w' := by
      rw [Array.mapM_eq_mapM_toList]
      have key : ∀ (rs : List ResultVar) (ul : List Value), ul.length = rs.length → (∀ (i : Nat) (r : ResultVar), rs[i]? = some r → ∃ u, ul[i]? = some u ∧ (resSem a.tmps r).run P w' = .ok u w') →
          (rs.mapM (resSem a.tmps)).run P w' = .ok ul w' := by
        intro rs
        induction rs with
        | nil => intro ul hl _; have : ul = [] := List.eq_nil_of_length_eq_zero hl; subst this; rfl
        | cons r rs ih =>
          intro ul hl h
          obtain ⟨u, h1, h2⟩ := h 0 r (by simp)
          cases ul with
          | nil => simp at hl
          | cons u' ul =>
            simp only [List.getElem?_cons_zero, Option.some.injEq] at h1
            subst h1
            have ih' := ih ul (by simpa using hl) fun i r' hr' => by simpa using h (i + 1) r' (by simpa using hr')
            rw [List.mapM_cons, Sem.run_bind, h2, Result.andThen_ok, Sem.run_bind, ih', Result.andThen_ok, Sem.run_pure]
      rw [Sem.run_map, key fn.results.toList ul hu1 fun i r hr => by
        obtain ⟨u, h1, h2⟩ := hu2 i r hr
        exact ⟨u, h1, h2⟩]
      rfl
    have hrun : (results fn a.tmps).run P w' = .ok (if h : ul.toArray.size = 1 then ul.toArray[0] else .tuple ul.toArray) w' := by
      rw [results_eq, Sem.run_bind, hmap, Result.andThen_ok, Sem.run_pure]
    refine ⟨_, hrun, _, K2, gp Q2, rfl, hO.mr.glob, ⟨?_, ?_, ?_, ?_, ?_, ?_, hT.io⟩, ?_⟩
    · exact fun b hb hne => hT.frame b hb hne
    · exact hT.size
    · exact fun b o v h => hO.kk _ _ _ (hT.kk _ _ _ h)
    · intro b o v h
      rcases hO.kn _ _ _ h with h | ⟨k, q, hq, he⟩
      · exact hT.kn _ _ _ h
      · rcases hT.pn _ _ hq with ⟨q0, h0, he0⟩ | ⟨h1, _⟩
        · exact .inr (.inl ⟨k, q0, h0, by omega⟩)
        · exact .inr (.inr (by omega))
    · have hg1 := hT.grow.trans hO.grow
      rw [get_nil] at hg1
      intro k x hk hx
      cases k with
      | l j => simp [keyOK] at hk
      | g n =>
        obtain ⟨x', hx', hle, hp⟩ := hg1 (.g n) x trivial hx
        exact ⟨x', hx', hle, hp⟩
    · intro k q hq
      cases k with
      | l j => simp [gp] at hq
      | g n =>
        have hq1 := hO.sub _ _ hq
        have := hT.pn' hO.grow hq1
        rw [get_nil] at this
        rcases this with h | ⟨h1, h2⟩
        · exact .inl h
        · exact .inr ⟨h1, fun h hh => h2 h hh⟩
    · have hG := Grow.glob (m := m') (Q := Q2)
      have hRs' : RVs K2 (gm m'.H) (gp Q2) w w' xs ul [] := hRs.mono (fun c v hg hv => by
        rcases hg with hg | hg
        · exact noG_V c v hg hv
        · exact V_mono (fun _ _ _ h => h) hg (fun h => h) hg c v hv) (.inr hG) (fun b _ hne k p hp => by
          cases k with
          | l j => simp [gp] at hp
          | g n => exact hne _ p hp)
      have hxl : xs.length = ul.length := by
        clear hrun hmap
        have : ∀ (xs : List CV) (ul : List Value) (used : List Nat), RVs K2 (gm m'.H) (gp Q2) w w' xs ul used → xs.length = ul.length := by
          intro xs
          induction xs with
          | nil => intro ul used h; simp only [RVs] at h; simp [h]
          | cons c cs ih =>
            intro ul used h
            simp only [RVs] at h
            obtain ⟨v, r, o, rfl, _, _, h⟩ := h
            simp [ih _ _ h]
        exact this _ _ _ hRs'
      by_cases h1 : ul.length = 1
      · obtain ⟨u, rfl⟩ := List.length_eq_one_iff.1 h1
        obtain ⟨x, rfl⟩ := List.length_eq_one_iff.1 (hxl.trans h1)
        simp only [RVs] at hRs'
        obtain ⟨v, r, o, hvr, hr1, _⟩ := hRs'
        simp only [List.cons.injEq] at hvr
        obtain ⟨rfl, _⟩ := hvr
        show RV _ _ _ _ _ (tup [x]) u
        simp only [tup]
        cases x
        case tuple cs =>
          simp only [RV1] at hr1
          exact RV_of_V hr1.2
        all_goals exact ⟨o, hr1⟩
      · have h2 : ¬ ul.toArray.size = 1 := by simpa using h1
        rw [dif_neg h2]
        have htup : tup xs = .tuple xs := by
          unfold tup
          split
          · simp at hxl; omega
          · rfl
        rw [htup]
        exact ⟨_, rfl, hRs'⟩
  cases e with
  | normal => exact fin hp.2
  | ret => exact fin hp.2
  | exit i => exact absurd hp.1 (hne i)
  | goto l => exact hp.elim
  | panic ch => exact hp.elim
  | outgrown => exact hp.elim

/-- the machine is right -/
theorem ccall_sim {E : Oracle} (hE : Sim P E) (hN : plainNames P = true) (hM : P.follows .mixedOrders = true) : ∀ n, Sim P (ccall P A E n) := by
  intro n
  induction n with
  | zero => intro f args H r H' h; simp [ccall] at h
  | succ n ih =>
    intro f args H r H' h
    simp only [ccall] at h
    split at h
    · rename_i r' hr
      simp only [Option.some.injEq] at h
      subst h
      exact hE _ _ _ _ _ hr
    · split at h
      · simp at h
      · rename_i fn hfn
        split at h
        · simp at h
        · rename_i c hc
          split at h
          · rename_i hlen
            simp only [Option.bind_eq_some_iff] at h
            obtain ⟨r1, he, h⟩ := h
            split at h
            · simp at h
            · rename_i hne
              simp only [Option.bind_eq_some_iff, Option.map_eq_some_iff, Prod.mk.injEq] at h
              obtain ⟨vs, hv, ⟨xs, m'⟩, hx, rfl, rfl⟩ := h
              exact body_goes ih hN hM hfn hc hlen he (fun i hi => hne i hi) hv hx
          · simp at h
end
end Go.Cm
