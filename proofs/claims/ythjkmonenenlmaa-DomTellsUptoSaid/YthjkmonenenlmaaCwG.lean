/-
  How a function is told: runs of stripped code without a number of rounds.
-/
import Derived.Test.YthjkmonenenlmaaCwF
set_option linter.unusedSimpArgs false
set_option linter.unusedVariables false
namespace Go.Cm

section
variable {P : Program} {A : Ann} {F : Oracle} {fid : FuncId}

theorem sexec_mono : ∀ (c : SC) (n n' : Nat) (s : CS) (r : CE × CS), n ≤ n' → sexec P A F fid n c s = some r → sexec P A F fid n' c s = some r := by
  intro c
  induction c with
  | seq x y ihx ihy =>
    intro n n' s r hle h
    simp only [sexec, Option.bind_eq_some_iff] at h ⊢
    obtain ⟨⟨e, s1⟩, h1, h2⟩ := h
    refine ⟨_, ihx _ _ _ _ hle h1, ?_⟩
    cases e
    case normal => exact ihy _ _ _ _ hle h2
    all_goals exact h2
  | cond c x y ihx ihy =>
    intro n n' s r hle h
    simp only [sexec] at h ⊢
    split at h
    · exact ihx _ _ _ _ hle h
    · exact ihy _ _ _ _ hle h
    · cases h
  | block id c ih =>
    intro n n' s r hle h
    simp only [sexec, Option.map_eq_some_iff] at h ⊢
    obtain ⟨r1, h1, h2⟩ := h
    exact ⟨r1, ih _ _ _ _ hle h1, h2⟩
  | loop c ih =>
    intro n n' s r hle h
    simp only [sexec] at h ⊢
    exact iter_mono (fun s r h => ih _ _ _ _ hle h) _ _ _ _ hle h
  | _ => intro n n' s r hle h; simpa only [sexec] using h

/-- code runs so -/
def Sx (P : Program) (A : Ann) (F : Oracle) (fid : FuncId) (c : SC) (s : CS) (r : CE × CS) : Prop := ∃ n, sexec P A F fid n c s = some r

theorem Sx.of {c : SC} {s : CS} {r : CE × CS} (h : sexec P A F fid 0 c s = some r) : Sx P A F fid c s r := ⟨0, h⟩
theorem Sx.seq {x y : SC} {s s1 : CS} {r : CE × CS} (h1 : Sx P A F fid x s (.normal, s1)) (h2 : Sx P A F fid y s1 r) : Sx P A F fid (.seq x y) s r := by
  obtain ⟨n1, h1⟩ := h1
  obtain ⟨n2, h2⟩ := h2
  refine ⟨max n1 n2, ?_⟩
  simp only [sexec, sexec_mono _ _ _ _ _ (Nat.le_max_left n1 n2) h1, Option.bind_some]
  exact sexec_mono _ _ _ _ _ (Nat.le_max_right n1 n2) h2
theorem Sx.seq_out {x y : SC} {s s1 : CS} {e : CE} (h1 : Sx P A F fid x s (e, s1)) (he : e ≠ .normal) : Sx P A F fid (.seq x y) s (e, s1) := by
  obtain ⟨n1, h1⟩ := h1
  refine ⟨n1, ?_⟩
  simp only [sexec, h1, Option.bind_some]
theorem Sx.cond_true {c : Operand} {x y : SC} {s : CS} {r : CE × CS} (hc : ev s.sl c = .bool true) (h : Sx P A F fid x s r) : Sx P A F fid (.cond c x y) s r := by
  obtain ⟨n, h⟩ := h
  exact ⟨n, by simp only [sexec, hc]; exact h⟩
theorem Sx.cond_false {c : Operand} {x y : SC} {s : CS} {r : CE × CS} (hc : ev s.sl c = .bool false) (h : Sx P A F fid y s r) : Sx P A F fid (.cond c x y) s r := by
  obtain ⟨n, h⟩ := h
  exact ⟨n, by simp only [sexec, hc]; exact h⟩
theorem Sx.block {id : Nat} {c : SC} {s : CS} {r r' : CE × CS} (h : Sx P A F fid c s r) (hr : r' = (match r.1 with | .exit i => if i = id then (.normal, r.2) else r | _ => r)) : Sx P A F fid (.block id c) s r' := by
  obtain ⟨n, h⟩ := h
  refine ⟨n, ?_⟩
  subst hr
  simp only [sexec, h, Option.map_some]
  obtain ⟨e, s1⟩ := r
  cases e <;> rfl
theorem Sx.loop_next {c : SC} {s s1 : CS} {r : CE × CS} (h1 : Sx P A F fid c s (.normal, s1)) (h2 : Sx P A F fid (.loop c) s1 r) : Sx P A F fid (.loop c) s r := by
  obtain ⟨n1, h1⟩ := h1
  obtain ⟨n2, h2⟩ := h2
  simp only [sexec] at h2
  refine ⟨max n1 n2 + 1, ?_⟩
  simp only [sexec, iter, sexec_mono _ _ _ _ _ (show n1 ≤ max n1 n2 + 1 by omega) h1, Option.bind_some]
  exact iter_mono (fun s r h => sexec_mono _ _ _ _ _ (by omega) h) _ _ _ _ (Nat.le_max_right n1 n2) h2
theorem Sx.loop_out {c : SC} {s s1 : CS} {e : CE} (h1 : Sx P A F fid c s (e, s1)) (he : e ≠ .normal) : Sx P A F fid (.loop c) s (e, s1) := by
  obtain ⟨n1, h1⟩ := h1
  refine ⟨n1 + 1, ?_⟩
  simp only [sexec, iter, sexec_mono _ _ _ _ _ (Nat.le_succ n1) h1, Option.bind_some]


theorem Sx.sim (hS : Sim P F) (hN : plainNames P = true) (hM : P.follows .mixedOrders = true) {f : FuncId} {fn : Func} {c : SC} {args : List CV} {H : List HO} {r : CE × CS} {vs xs : List CV} {m' : Mem} {v : CV} {H' : List HO}
    (hf : P.funcs[f]? = some fn) (hb : fn.body.bind (strip P A f fn.ntmps) = some c) (hlen : args.length ≤ fn.ntmps) (he : Sx P A F f c { sl := args, m := { L := [], H := H } } r) (hne : ∀ i, r.1 ≠ .exit i)
    (hv : resAll P r.2.sl r.2.m fn.results.toList = some vs) (hx : mapMem retv vs r.2.m = some (xs, m')) (hvv : v = tup xs) (hH : H' = m'.H) : SimAt P f args H v H' := by
  obtain ⟨n, he⟩ := he
  simp only [Option.bind_eq_some_iff] at hb
  obtain ⟨c0, hb, hs⟩ := hb
  subst hvv hH
  exact body_goes hS hN hM hf hb hlen (sexec_cexec _ _ hs _ _ _ he) hne hv hx
end
end Go.Cm
