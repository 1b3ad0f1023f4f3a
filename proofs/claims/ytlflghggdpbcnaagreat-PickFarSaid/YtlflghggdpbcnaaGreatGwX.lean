import Derived.Test.YtlflghggdpbcnaaGreatGwV
import Derived.Test.YtlflghggdpbcnaaGreatGpH
import Derived.Test.YtlflghggdpbcnaaGreatCxH
set_option linter.unusedSimpArgs false
set_option linter.unusedVariables false
namespace Go.Cm
open Go.Proofs Go.Pk
end Go.Cm

namespace Go.Cm
open Go.Proofs Go.Pk
set_option maxRecDepth 100000 in
theorem risc_of {n : Nat} {d : D} (h : D.ok Tryz.prog (n + 2) 52 d) : ∃ r : Rc, d.cells = rcC r := by
  obtain ⟨ds, rfl, h1⟩ := ok_struct (ts := [50, 3, 3, 3, 3, 4, 3, 3]) Tryz.underlying52 (by kernel_rfl) h
  obtain ⟨d1, r1, rfl, k1, h1⟩ := oks_cons h1
  obtain ⟨d2, r2, rfl, k2, h1⟩ := oks_cons h1
  obtain ⟨d3, r3, rfl, k3, h1⟩ := oks_cons h1
  obtain ⟨d4, r4, rfl, k4, h1⟩ := oks_cons h1
  obtain ⟨d5, r5, rfl, k5, h1⟩ := oks_cons h1
  obtain ⟨d6, r6, rfl, k6, h1⟩ := oks_cons h1
  obtain ⟨d7, r7, rfl, k7, h1⟩ := oks_cons h1
  obtain ⟨d8, r8, rfl, k8, h1⟩ := oks_cons h1
  obtain rfl := oks_nil h1
  obtain ⟨x1, rfl, _⟩ := ok_i64 Tryz.underlying50 k1
  obtain ⟨x2, rfl, _⟩ := ok_i64 Tryz.underlying3 k2
  obtain ⟨x3, rfl, _⟩ := ok_i64 Tryz.underlying3 k3
  obtain ⟨x4, rfl, _⟩ := ok_i64 Tryz.underlying3 k4
  obtain ⟨x5, rfl, _⟩ := ok_i64 Tryz.underlying3 k5
  obtain ⟨x6, rfl⟩ := ok_bool Tryz.underlying4 k6
  obtain ⟨x7, rfl, _⟩ := ok_i64 Tryz.underlying3 k7
  obtain ⟨x8, rfl, _⟩ := ok_i64 Tryz.underlying3 k8
  exact ⟨⟨x1, x2, x3, x4, x5, x6, x7, x8⟩, rfl⟩
set_option maxRecDepth 100000 in
theorem draft_of {n : Nat} {d : D} (h : D.ok Tryz.prog (n + 3) 68 d) : ∃ x : Dr, d.cells = drC x ∧ True := by
  obtain ⟨ds, rfl, h1⟩ := ok_struct (ts := [52, 3]) Tryz.underlying68 (by kernel_rfl) h
  obtain ⟨d1, r1, rfl, k1, h1⟩ := oks_cons h1
  obtain ⟨d2, r2, rfl, k2, h1⟩ := oks_cons h1
  obtain rfl := oks_nil h1
  obtain ⟨r, e1⟩ := risc_of (n := n) k1
  obtain ⟨x2, rfl, _⟩ := ok_i64 Tryz.underlying3 k2
  refine ⟨⟨r, x2⟩, ?_, trivial⟩
  simp only [D.cells, D.cellsL, e1, rcC, drC, List.append_nil, List.cons_append, List.nil_append]
set_option maxRecDepth 100000 in
theorem drafts_of {n : Nat} {d : D} (h : D.ok Tryz.prog (n + 4) 64 d) : ∃ l : List Dr, d.cv = sl drC l ∧ l.length ≤ 9223372036854775807 := by
  obtain ⟨l, _, e2, w2⟩ := slice_of (e := drC) (W := fun _ => True) Tryz.underlying64 (fun x hx => draft_of (n := n) hx) h
  exact ⟨l, e2, w2.1⟩
set_option maxRecDepth 100000 in
theorem ints_of {n : Nat} {d : D} (h : D.ok Tryz.prog (n + 2) 22 d) : ∃ l : List Int, d.cv = sl intC l ∧ l.length ≤ 9223372036854775807 := by
  obtain ⟨l, _, e2, w2⟩ := slice_of (e := intC) (W := fun _ => True) Tryz.underlying22 (fun x hx => by
    obtain ⟨a, rfl, _⟩ := ok_i64 Tryz.underlying3 hx
    exact ⟨a, rfl, trivial⟩) h
  exact ⟨l, e2, w2.1⟩
end Go.Cm
