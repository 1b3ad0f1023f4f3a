/-
  How a function is told: runs without a number of rounds; tables of what functions answer.
-/
import Derived.Test.YtjmmeeokpncdbaaCwB
set_option linter.unusedSimpArgs false
set_option linter.unusedVariables false
namespace Go.Cm

section
variable {P : Program} {A : Ann} {F : Oracle} {fid : FuncId} {nt : Nat}

theorem iter_mono {f f' : CS → Option (CE × CS)} (hf : ∀ s r, f s = some r → f' s = some r) : ∀ (n n' : Nat) (s : CS) (r : CE × CS), n ≤ n' → iter n f s = some r → iter n' f' s = some r
  | 0, _, _, _, _, h => by simp [iter] at h
  | n + 1, 0, _, _, hle, _ => by omega
  | n + 1, n' + 1, s, r, hle, h => by
    simp only [iter, Option.bind_eq_some_iff] at h ⊢
    obtain ⟨r1, h1, h2⟩ := h
    refine ⟨r1, hf _ _ h1, ?_⟩
    obtain ⟨e, s1⟩ := r1
    cases e
    case normal => exact iter_mono hf n n' _ _ (by omega) h2
    all_goals exact h2

end

/-- tables -/
abbrev Contract := List CV → List HO → Option (CV × List HO)
def tab0 : Oracle := fun _ _ _ => none
def tab (f : FuncId) (c : Contract) (F : Oracle) : Oracle := fun g args H => if g = f then c args H else F g args H
theorem sim_tab0 (P : Program) : Sim P tab0 := fun _ _ _ _ _ h => by cases h
theorem sim_tab {P : Program} {f : FuncId} {c : Contract} {F : Oracle} (hc : ∀ args H r H', c args H = some (r, H') → SimAt P f args H r H') (hF : Sim P F) : Sim P (tab f c F) := by
  intro g args H r H' h
  unfold tab at h
  split at h
  · rename_i he; subst he; exact hc _ _ _ _ h
  · exact hF _ _ _ _ _ h
end Go.Cm
