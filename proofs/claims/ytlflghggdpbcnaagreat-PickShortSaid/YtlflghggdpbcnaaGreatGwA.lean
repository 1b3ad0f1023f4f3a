import Derived.KernelRfl
import Derived.Test.YtlflghggdpbcnaaGreatCxM
import Derived.Test.YtlflghggdpbcnaaGreatGpA
set_option linter.unusedSimpArgs false
set_option linter.unusedVariables false
namespace Go.Pk
structure Rc where
  op : Int
  d : Int
  a : Int
  b : Int
  fn : Int
  wide : Bool
  part : Int
  imm : Int
def mk (op d : Int) (i n : Nat) : Rc := ⟨op, d, 0, 0, 0, false, i, n⟩
section
variable {d : Int} {x i : Nat}
end
end Go.Pk

namespace Go.Cm
open Go.Proofs Go.Pk
def rcC (r : Rc) : List CV := [.int .i64 r.op, .int .i64 r.d, .int .i64 r.a, .int .i64 r.b, .int .i64 r.fn, .bool r.wide, .int .i64 r.part, .int .i64 r.imm]
theorem rcE : Enc rcC 8 := ⟨fun _ => rfl, fun _ => rfl, fun _ => rfl, fun _ => rfl⟩
theorem bslX_E {j sz n : Nat} {z cs xs : List CV} {ps : List (Nat × Nat × CV)} {m m1 : Mem} (hf : fillX z ps = some cs) (he : escList m cs = some (xs, m1)) :
    bslX false j sz n z ps m = some (.ref (.l j) (gnext m1.L j) 0 n, setL m1 j (.arr (gnext m1.L j) sz xs 0)) := by
  unfold bslX
  rw [hf]
  simp only [Option.bind_some, he, Option.map_some]
  rfl
section
variable {α : Type} {e : α → List CV} {sz : Nat} {m m' : Mem} {j : Nat} {v : CV} {l : List α}
theorem OwnE.appN (h : OwnE e sz m j v l) (h0 : l ≠ []) {j' b : Nat} {x : CV} {ys : List α} {K : CV × Mem → Prop} (hs : ∀ a, (e a).length = sz) (hx : Cm.content m sz x = some (ys.flatMap e)) (hn : clen x = some ys.length)
    (hb : b ≤ 1024) (hl : l.length + ys.length ≤ 4294967296) (hK : ∀ v' m', OwnE e sz m' j v' (l ++ ys) → m'.H = m.H → (∀ i, i ≠ j → lget m'.L i = lget m.L i) → K (v', m')) : Obt (appX false j' sz b v x m) K := by
  rcases h with ⟨rfl, rfl⟩ | ⟨hne, g, rfl, h⟩
  · exact absurd rfl h0
  · rw [appX_l, hx, hn, h, appR_arr, if_pos ⟨by omega, smallB_ok hb hl⟩, Obt_some]
    refine hK _ _ (.inr ⟨by simp [hne], g + 1, by simp, ?_⟩) rfl ?_
    · rw [lget_setL, if_pos rfl, List.drop_zero, List.take_of_length_le (by rw [flat_len hs]; exact Nat.le_refl _), List.flatMap_append]
    · intro i hi; rw [lget_setL, if_neg (Ne.symm hi)]
end
end Go.Cm
