import Derived.Test.YtlflghggdpbcnaaGreatGpC
set_option linter.unusedSimpArgs false
set_option linter.unusedVariables false
namespace Go.Pk
def wordN (op j n : Nat) : Nat := op * 67108864 + 2097152 + j * 524288 + n
section
variable {d : Int} {x i : Nat}
theorem wd_pre : ∀ i, i ≤ 4 → ∀ (pre post : List Rc) (op : Int) (j n : Nat), wd d x i = pre ++ mk op d j n :: post → pre.foldl fvl 0 < 2 ^ (16 * j) ∧ (op = 2 ↔ pre = [])
  | 0, _, pre, post, op, j, n, h => by simp [wd] at h
  | i + 1, hi, pre, post, op, j, n, h => by
    have ih := wd_pre i (by omega)
    simp only [wd] at h
    split at h
    · exact ih pre post op j n h
    · rcases List.eq_nil_or_concat post with rfl | ⟨q, r, rfl⟩
      · have h1 := List.append_inj_left' h (by simp)
        have h2 := List.append_inj_right' h (by simp)
        simp only [List.cons.injEq, and_true, mk, Rc.mk.injEq] at h2
        have hj : (i : Int) = j := h2.2.2.2.2.2.2.1
        have hj' : j = i := by omega
        subst hj'
        rw [← h1, fold_wd j (by omega)]
        refine ⟨Nat.mod_lt _ (Nat.pow_pos (by decide)), ?_⟩
        rw [← h2.1]
        by_cases hl : (wd d x j).length = 0
        · simp [List.length_eq_zero_iff.1 hl]
        · have : wd d x j ≠ [] := fun e => hl (by rw [e]; rfl)
          simp [hl, this]
      · rw [List.concat_eq_append, ← List.cons_append, ← List.append_assoc] at h
        exact ih pre q op j n (List.append_inj_left' h (by simp))
theorem wide4_pre {pre post : List Rc} {op : Int} {j n : Nat} (h : wide4 d x = pre ++ mk op d j n :: post) : pre.foldl fvl 0 < 2 ^ (16 * j) ∧ (op = 2 ↔ pre = []) := by
  unfold wide4 at h
  split at h
  · rcases pre with _ | ⟨a, l⟩
    · simp only [List.nil_append, List.cons.injEq, mk, Rc.mk.injEq] at h
      exact ⟨Nat.pow_pos (by decide), by simp [← h.1.1]⟩
    · have := congrArg List.length h
      simp at this
  · exact wd_pre 4 (Nat.le_refl _) pre post op j n h
end
theorem word_op {op j n : Nat} (hj : j < 4) (hn : n < 65536) : wordN op j n / 2 ^ 26 = op := by unfold wordN; omega
theorem word_d {op j n : Nat} (hj : j < 4) (hn : n < 65536) : wordN op j n / 2 ^ 21 % 32 = 1 := by unfold wordN; omega
theorem word_j {op j n : Nat} (hj : j < 4) (hn : n < 65536) : wordN op j n / 2 ^ 19 % 4 = j := by unfold wordN; omega
theorem word_n {op j n : Nat} (hn : n < 65536) : wordN op j n % 65536 = n := by unfold wordN; omega
theorem word_lt {op j n : Nat} (ho : op ≤ 3) (hj : j < 4) (hn : n < 65536) : wordN op j n < 2 ^ 32 := by unfold wordN; omega
end Go.Pk
