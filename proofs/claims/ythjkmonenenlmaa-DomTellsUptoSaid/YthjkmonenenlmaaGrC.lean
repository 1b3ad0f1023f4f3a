/-
  Dominators: the nearest one, and where a node's dominance ends, as the document finds them.
-/
import Derived.Test.YthjkmonenenlmaaGrA
set_option linter.unusedSimpArgs false
set_option linter.unusedVariables false
namespace Go.Gr
open Classical in
/-- the nearest dominator so far -/
noncomputable def idS (g : List (List Int)) (b : Int) : Nat → Int
  | 0 => -1
  | a + 1 => if (a : Int) ≠ b ∧ Dom g a b ∧ (idS g b a < 0 ∨ Dom g (idS g b a) a) then a else idS g b a
section
variable {g : List (List Int)} {u : Int → Int} (hch : ∀ x ∈ ord g, ∀ c, Ch u x c ↔ Dom g c x)
include hch
theorem dom_linear {a b c : Int} (ha : Dom g a c) (hb : Dom g b c) : Dom g a b ∨ Dom g b a := by
  have hc := (mem_ord g c).2 ha.2.1
  rcases Ch.linear ((hch c hc a).2 ha) ((hch c hc b).2 hb) with h | h
  · exact .inr ((hch a ((mem_ord g a).2 ha.1) b).1 h)
  · exact .inl ((hch b ((mem_ord g b).2 hb.1) a).1 h)
theorem dom_trans {a b c : Int} (ha : Dom g a b) (hb : Dom g b c) : Dom g a c := by
  have hc := (mem_ord g c).2 hb.2.1
  have hb' := (mem_ord g b).2 hb.1
  exact (hch c hc a).1 (((hch c hc b).2 hb).trans ((hch b hb' a).2 ha))
theorem dom_anti (hV : Val g u) {a b : Int} (ha : Dom g a b) (hb : Dom g b a) : a = b := by
  have hb' := (mem_ord g b).2 ha.2.1
  have ha' := (mem_ord g a).2 ha.1
  have h1 := hV.le' ((hch b hb' a).2 ha)
  have h2 := hV.le' ((hch a ha' b).2 hb)
  exact pl_inj ha' hb' (by omega)
theorem idS_spec (b : Int) : ∀ a : Nat, (idS g b a = -1 ∧ ∀ c : Nat, c < a → (c : Int) ≠ b → ¬ Dom g c b) ∨
    (0 ≤ idS g b a ∧ idS g b a < a ∧ Dom g (idS g b a) b ∧ idS g b a ≠ b ∧ ∀ c : Nat, c < a → (c : Int) ≠ b → Dom g c b → Dom g c (idS g b a))
  | 0 => .inl ⟨rfl, fun c h => by omega⟩
  | a + 1 => by
    rw [idS]
    have ih := idS_spec b a
    generalize idS g b a = x at ih ⊢
    by_cases h1 : (a : Int) ≠ b ∧ Dom g a b ∧ (x < 0 ∨ Dom g x a)
    · rw [if_pos h1]
      refine .inr ⟨by omega, by omega, h1.2.1, h1.1, fun c hc hcb hd => ?_⟩
      by_cases hca : c = a
      · rw [hca]; exact Dom.self h1.2.1.1
      · rcases ih with ⟨_, ih⟩ | ⟨i1, _, i3, _, i5⟩
        · exact absurd hd (ih c (by omega) hcb)
        · have h2 := h1.2.2
          have h3 : Dom g x a := by
            rcases h2 with h | h
            · omega
            · exact h
          exact dom_trans hch (i5 c (by omega) hcb hd) h3
    · rw [if_neg h1]
      rcases ih with ⟨i0, ih⟩ | ⟨i1, i2, i3, i4, i5⟩
      · refine .inl ⟨i0, fun c hc hcb hd => ?_⟩
        by_cases hca : c = a
        · subst hca; exact h1 ⟨hcb, hd, .inl (by omega)⟩
        · exact ih c (by omega) hcb hd
      · refine .inr ⟨i1, by omega, i3, i4, fun c hc hcb hd => ?_⟩
        by_cases hca : c = a
        · subst hca
          rcases dom_linear hch hd i3 with h | h
          · exact h
          · exact absurd ⟨hcb, hd, .inr h⟩ h1
        · exact i5 c (by omega) hcb hd
theorem idS_eq (hV : Val g u) (hout : ∀ i : Nat, (i : Int) ∉ ord g → u i = -1) {b : Nat} : u b = idS g b g.length := by
  have sp := idS_spec hch (b : Int) g.length
  generalize idS g (b : Int) g.length = x at sp ⊢
  by_cases hb : (b : Int) ∈ ord g
  · by_cases hu : u b = -1
    · rcases sp with ⟨h, _⟩ | ⟨_, _, h3, h4, _⟩
      · rw [hu, h]
      · have := (hch b hb x).2 h3
        cases this with
        | self => exact absurd rfl h4
        | step h _ => exact absurd hu h
    · have hup := hV.up b hu
      have hud : Dom g (u b) b := (hch b hb _).1 (.step hu (.self _))
      have hur := hud.1.range
      have hun : (((u b).toNat : Nat) : Int) = u b := by omega
      have hne : u b ≠ b := fun h => by rw [h] at hup; omega
      rcases sp with ⟨_, h⟩ | ⟨h1, h2, h3, h4, h5⟩
      · exact absurd (by rw [hun]; exact hud) (h (u b).toNat (by omega) (by rw [hun]; exact hne))
      · have h6 := h5 (u b).toNat (by omega) (by rw [hun]; exact hne) (by rw [hun]; exact hud)
        rw [hun] at h6
        have h7 := (hch b hb x).2 h3
        cases h7 with
        | self => exact absurd rfl h4
        | step _ h8 => exact dom_anti hch hV h6 ((hch _ hup.2.1 x).1 h8)
  · rw [hout b hb]
    rcases sp with ⟨h, _⟩ | ⟨_, _, h3, _, _⟩
    · exact h.symm
    · exact absurd ((mem_ord g b).2 h3.2.1) hb
/-- the nodes on the way up from who leads to a node, below its nearest dominator: there its dominance ends -/
theorem front_iff (hV : Val g u) {b p x : Int} (hb : b ∈ ord g) (hp : p ∈ prd g b) : (Ch u p x ∧ ¬ (u b ≠ -1 ∧ Ch u (u b) x)) ↔ (Dom g x p ∧ (x = b ∨ ¬ Dom g x b)) := by
  obtain ⟨hp1, hp2⟩ := mem_prd.1 hp
  rw [hch p hp1 x]
  refine and_congr_right fun hd => ?_
  constructor
  · intro h
    by_cases hxb : x = b
    · exact .inl hxb
    · refine .inr fun hdb => ?_
      cases (hch b hb x).2 hdb with
      | self => exact hxb rfl
      | step h1 h2 => exact h ⟨h1, h2⟩
  · rintro (h | h) ⟨h1, h2⟩
    · subst h
      have := hV.le' h2
      have := (hV.up x h1).2.2
      omega
    · exact h ((hch b hb x).1 (.step h1 h2))
/-- the nearest dominator stands on the way up from who leads there -/
theorem up_ahead (hV : Val g u) {b p : Int} (hb : b ∈ ord g) (hp : p ∈ prd g b) (hu : u b ≠ -1) : Ch u p (u b) := by
  obtain ⟨hp1, hp2⟩ := mem_prd.1 hp
  have hd : Dom g (u b) b := (hch b hb _).1 (.step hu (.self _))
  have hne : u b ≠ b := fun h => by have := (hV.up b hu).2.2; rw [h] at this; omega
  exact (hch p hp1 _).2 (hd.pred hne ((mem_ord g p).1 hp1) hp2)
end
end Go.Gr
namespace Go.Gr
/-- who has been passed on the way up -/
def Pas (u : Int → Int) (p c x : Int) : Prop := Ch u p x ∧ ¬ (c ≠ -1 ∧ Ch u c x)
theorem Pas.start {u : Int → Int} {p x : Int} (hp : p ≠ -1) : ¬ Pas u p p x := fun h => h.2 ⟨hp, h.1⟩
theorem Pas.off {u : Int → Int} {p c : Int} (hc : c ≠ -1) : ¬ Pas u p c c := fun h => h.2 ⟨hc, .self _⟩
theorem Pas.next {g : List (List Int)} {u : Int → Int} (hV : Val g u) {p c x : Int} (hc : Ch u p c) (h1 : c ≠ -1) : Pas u p (u c) x ↔ Pas u p c x ∨ x = c := by
  constructor
  · rintro ⟨h2, h3⟩
    by_cases hx : x = c
    · exact .inr hx
    · refine .inl ⟨h2, fun h4 => ?_⟩
      cases h4.2 with
      | self => exact hx rfl
      | step h5 h6 => exact h3 ⟨h5, h6⟩
  · rintro (⟨h2, h3⟩ | rfl)
    · exact ⟨h2, fun h4 => h3 ⟨h1, .step h4.1 h4.2⟩⟩
    · refine ⟨hc, fun h4 => ?_⟩
      have := hV.le' h4.2
      have := (hV.up x h4.1).2.2
      omega
end Go.Gr
