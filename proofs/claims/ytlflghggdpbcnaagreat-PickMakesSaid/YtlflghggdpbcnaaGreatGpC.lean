import Derived.Test.YtlflghggdpbcnaaGreatGpA
import Derived.Test.YtlflghggdpbcnaaGreatGyA
import Derived.KernelRfl
set_option linter.unusedSimpArgs false
set_option linter.unusedVariables false
namespace Go.Cm
open Go.Proofs
def annL : Ann := { glob := fun f => if f == 43 || f == 21 then [] else List.range 300, pure := fun f => f == 55 || f == 29 || f == 43 }
noncomputable def fv : CV := match ccall Tryz.prog annL EL 40 43 [] [] with | some (v, _) => v | none => .nil
noncomputable def run55 : Option (CV × List HO) := ccall Tryz.prog annL EL 40 55 [fv] []
noncomputable def run29 : Option (CV × List HO) := ccall Tryz.prog annL EL 40 29 [fv, .imm 1 [.int .i64 0]] []
def hOf : Option (CV × List HO) → List HO
  | some (_, H) => H
  | none => []
def isZero : Option (CV × List HO) → Bool
  | some (.int .i64 0, _) => true
  | _ => false
def isFalse25 : Option (CV × List HO) → Bool
  | some (.bool false, _) => true
  | _ => false
def isTrue25 : Option (CV × List HO) → Bool
  | some (.bool true, _) => true
  | _ => false
theorem isZero_of {x : Option (CV × List HO)} (h : isZero x = true) : x = some (.int .i64 0, hOf x) := by
  unfold isZero at h
  split at h
  · rfl
  · cases h
theorem isF25_of {x : Option (CV × List HO)} (h : isFalse25 x = true) : x = some (.bool false, hOf x) := by
  unfold isFalse25 at h
  split at h
  · rfl
  · cases h
theorem isT25_of {x : Option (CV × List HO)} (h : isTrue25 x = true) : x = some (.bool true, hOf x) := by
  unfold isTrue25 at h
  split at h
  · rfl
  · cases h
noncomputable def e55 (a : List CV) (H : List HO) : Option (CV × List HO) := if (beqs a [fv] && H.isEmpty) = true then some (.int .i64 0, hOf run55) else none
noncomputable def e29 (a : List CV) (H : List HO) : Option (CV × List HO) := if (beqs a [fv, .imm 1 [.int .i64 0]] && H.isEmpty) = true then some (.bool false, hOf run29) else none
noncomputable def E3 : Oracle := tab 55 e55 (tab 29 e29 EL)
noncomputable def hx25 : Option (CV × List HO) := ccall Tryz.prog annL E3 40 21 [] []
def only0 (h : Option (CV × List HO)) : List CV → List HO → Option (CV × List HO) := fun a H => match a, H with | [], [] => h | _, _ => none
def lay0 : CV := .agg [.int .i64 0, .bool false, .imm 0 []]
noncomputable def run17 : Option (CV × List HO) := ccall Tryz.prog An EL 40 17 [lay0] []
def csOf : Option (CV × List HO) → List CV
  | some (.tuple [.own _ _ cs _, _], _) => cs
  | some (.own _ _ cs _, _) => cs
  | _ => []
noncomputable def cs0 : List CV := csOf run17
noncomputable def mv0 : CV := .imm 2 cs0
noncomputable def run38 : Option (CV × List HO) := ccall Tryz.prog An EL 40 38 [lay0, mv0] []
noncomputable def run39 : Option (CV × List HO) := ccall Tryz.prog An EL 40 39 [mv0] []
noncomputable def cs1 : List CV := csOf run39
def only1 (x : List CV) (h : Option (CV × List HO)) : List CV → List HO → Option (CV × List HO) := fun a H => if (beqs a x && H.isEmpty) = true then h else none
noncomputable def EE : Oracle := tab 21 (only0 hx25) (tab 17 (only1 [lay0] run17) (tab 38 (only1 [lay0, mv0] run38) (tab 39 (only1 [mv0] run39) EL)))
noncomputable abbrev FF : Oracle := Fw Tryz.prog An EE
end Go.Cm

namespace Go.Pk
structure Rc where
  op : Int
  d : Int
  a : Int
  b : Int
  fn : Int
  wide : Bool
  part : Int
  imm : Int
def nOf (x i : Nat) : Nat := x / 2 ^ (16 * i) % 65536
def mk (op d : Int) (i n : Nat) : Rc := ⟨op, d, 0, 0, 0, false, i, n⟩
def wd (d : Int) (x : Nat) : Nat → List Rc
  | 0 => []
  | i + 1 => if nOf x i = 0 then wd d x i else wd d x i ++ [mk (if (wd d x i).length = 0 then 2 else 3) d i (nOf x i)]
def wide4 (d : Int) (x : Nat) : List Rc := if (wd d x 4).length = 0 then [mk 2 d 0 0] else wd d x 4
def wideL (d : Int) (x : Nat) : List Rc := if d < 0 ∨ 32 ≤ d then [] else wide4 d x
def fvl (v : Nat) (r : Rc) : Nat := (if r.op = 2 then 0 else v) ||| (r.imm.toNat * 2 ^ (16 * r.part.toNat)) % 2 ^ 64
section
variable {d : Int} {x i : Nat}
theorem nOf_lt : nOf x i < 65536 := Nat.mod_lt _ (by decide)
theorem mod_step : x % 2 ^ (16 * (i + 1)) = nOf x i * 2 ^ (16 * i) + x % 2 ^ (16 * i) := by
  have e : 2 ^ (16 * (i + 1)) = 2 ^ (16 * i) * 65536 := by rw [show 16 * (i + 1) = 16 * i + 16 from by omega, Nat.pow_add]
  rw [e, Nat.mod_mul, nOf, Nat.add_comm, Nat.mul_comm (2 ^ (16 * i))]
theorem wd_nil : ∀ i, (wd d x i).length = 0 → x % 2 ^ (16 * i) = 0
  | 0, _ => by simp [Nat.mod_one]
  | i + 1, h => by
    simp only [wd] at h
    split at h
    · rename_i h0
      rw [mod_step, h0, wd_nil i h]; simp
    · simp at h
theorem fold_wd : ∀ i, i ≤ 4 → (wd d x i).foldl fvl 0 = x % 2 ^ (16 * i)
  | 0, _ => by simp [wd, Nat.mod_one]
  | i + 1, h => by
    rw [mod_step]
    have ih := fold_wd i (by omega)
    simp only [wd]
    split
    · rename_i h0
      rw [ih, h0]; simp
    · rename_i h0
      rw [List.foldl_append, ih]
      simp only [List.foldl_cons, List.foldl_nil, fvl, mk, Int.toNat_natCast]
      have hlt : x % 2 ^ (16 * i) < 2 ^ (16 * i) := Nat.mod_lt _ (Nat.pow_pos (by decide))
      have hn : nOf x i < 65536 := nOf_lt
      have hs : nOf x i * 2 ^ (16 * i) < 2 ^ 64 := by
        have e : (2 : Nat) ^ 64 = 65536 * 2 ^ 48 := by decide
        rw [e]
        exact Nat.lt_of_lt_of_le (Nat.mul_lt_mul_of_pos_right hn (Nat.pow_pos (by decide))) (Nat.mul_le_mul_left _ (Nat.pow_le_pow_right (by decide) (by omega)))
      rw [Nat.mod_eq_of_lt hs]
      have hor : nOf x i * 2 ^ (16 * i) + x % 2 ^ (16 * i) = x % 2 ^ (16 * i) ||| nOf x i * 2 ^ (16 * i) := by
        have := Nat.two_pow_add_eq_or_of_lt hlt (nOf x i)
        rw [Nat.mul_comm (2 ^ (16 * i))] at this
        rw [this, Nat.or_comm]
      by_cases hl : (wd d x i).length = 0
      · have := wd_nil i hl
        simp [hl, this]
      · simp only [hl, if_false]
        rw [if_neg (by decide)]
        exact hor.symm
theorem wd_len : ∀ i, (wd d x i).length ≤ i
  | 0 => Nat.le_refl _
  | i + 1 => by
    have := wd_len i
    simp only [wd]
    split
    · omega
    · simp; omega
theorem wd_mem : ∀ i (r : Rc), r ∈ wd d x i → ∃ (op : Int) (j n : Nat), r = mk op d j n ∧ (op = 2 ∨ op = 3) ∧ j < i ∧ n < 65536
  | 0, r, h => by simp [wd] at h
  | i + 1, r, h => by
    have old : r ∈ wd d x i → ∃ (op : Int) (j n : Nat), r = mk op d j n ∧ (op = 2 ∨ op = 3) ∧ j < i + 1 ∧ n < 65536 := fun h => by
      obtain ⟨op, j, n, h1, h2, h3, h4⟩ := wd_mem i r h
      exact ⟨op, j, n, h1, h2, by omega, h4⟩
    simp only [wd] at h
    split at h
    · exact old h
    · rcases List.mem_append.1 h with h | h
      · exact old h
      · rw [List.mem_singleton] at h
        exact ⟨_, _, _, h, by split <;> simp, by omega, nOf_lt⟩
theorem wide4_mem {r : Rc} (h : r ∈ wide4 d x) : ∃ (op : Int) (j n : Nat), r = mk op d j n ∧ (op = 2 ∨ op = 3) ∧ j < 4 ∧ n < 65536 := by
  unfold wide4 at h
  split at h
  · rw [List.mem_singleton] at h
    exact ⟨_, _, _, h, .inl rfl, by omega, by omega⟩
  · exact wd_mem 4 r h
theorem wide4_len : (wide4 d x).length ≤ 4 := by
  unfold wide4
  split
  · simp
  · exact wd_len 4
theorem wide4_pos : 0 < (wide4 d x).length := by
  unfold wide4
  split
  · simp
  · omega
theorem fold_wide4 (hx : x < 2 ^ 64) : (wide4 d x).foldl fvl 0 = x := by
  unfold wide4
  split
  · rename_i h
    have := wd_nil 4 h
    rw [Nat.mod_eq_of_lt hx] at this
    rw [this]; simp [fvl, mk]
  · rw [fold_wd 4 (Nat.le_refl _), Nat.mod_eq_of_lt hx]
end
end Go.Pk
