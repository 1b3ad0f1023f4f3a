import Derived.Test.YtijcpefcfcbcnaaCxH
import Derived.Test.YtijcpefcfcbcnaaIzA
import Derived.Test.YtijcpefcfcbcnaaIzF
set_option linter.unusedSimpArgs false
set_option linter.unusedVariables false
namespace Go.Cm
open Go.Proofs Go.Ir
structure Fit (f : Cd) : Prop where
  pred : ∀ p ∈ f.parts, p.pred.length ≤ 17592186044416
  phis : ∀ p ∈ f.parts, p.phis.length ≤ 17592186044416 ∧ ∀ x ∈ p.phis, x.src.length ≤ 17592186044416
  nodes : ∀ p ∈ f.parts, p.nodes.length ≤ 17592186044416 ∧ ∀ n ∈ p.nodes, n.args.length ≤ 17592186044416 ∧ 0 ≤ n.imm
theorem Fit.sized {f : Cd} (h : Fit f) (hp : f.parts.length ≤ 1048576) : Sized f := ⟨hp, h.pred, h.phis, h.nodes⟩
structure Nd.wf (n : Nd) : Prop where
  op : isI64 n.op
  id : isI64 n.id
  alu : isI64 n.alu
  a : isI64 n.a
  b : isI64 n.b
  imm : isU64 n.imm
  size : isI64 n.size
  off : isI64 n.off
  at_ : isI64 n.at_
structure Tm.wf (e : Tm) : Prop where
  op : isI64 e.op
  cond : isI64 e.cond
  a : isI64 e.a
  b : isI64 e.b
  to : isI64 e.to
  els : isI64 e.els
set_option maxRecDepth 100000 in
theorem term_of {n : Nat} {d : D} (h : D.ok Try.prog (n + 2) 56 d) : ∃ x : Tm, d.cells = tmC x ∧ Tm.wf x := by
  obtain ⟨ds, rfl, h1⟩ := ok_struct (ts := [54, 3, 4, 3, 3, 3, 3]) Try.underlying56 (by kernel_rfl) h
  obtain ⟨d1, r1, rfl, k1, h1⟩ := oks_cons h1
  obtain ⟨d2, r2, rfl, k2, h1⟩ := oks_cons h1
  obtain ⟨d3, r3, rfl, k3, h1⟩ := oks_cons h1
  obtain ⟨d4, r4, rfl, k4, h1⟩ := oks_cons h1
  obtain ⟨d5, r5, rfl, k5, h1⟩ := oks_cons h1
  obtain ⟨d6, r6, rfl, k6, h1⟩ := oks_cons h1
  obtain ⟨d7, r7, rfl, k7, h1⟩ := oks_cons h1
  obtain rfl := oks_nil h1
  obtain ⟨x1, rfl, w1⟩ := ok_i64 Try.underlying54 k1
  obtain ⟨x2, rfl, w2⟩ := ok_i64 Try.underlying3 k2
  obtain ⟨x3, rfl⟩ := ok_bool Try.underlying4 k3
  obtain ⟨x4, rfl, w4⟩ := ok_i64 Try.underlying3 k4
  obtain ⟨x5, rfl, w5⟩ := ok_i64 Try.underlying3 k5
  obtain ⟨x6, rfl, w6⟩ := ok_i64 Try.underlying3 k6
  obtain ⟨x7, rfl, w7⟩ := ok_i64 Try.underlying3 k7
  exact ⟨⟨x1, x2, x3, x4, x5, x6, x7⟩, rfl, ⟨w1, w2, w4, w5, w6, w7⟩⟩
structure Pt.wf (p : Pt) : Prop where
  pred : p.pred.length ≤ 17592186044416 ∧ ∀ a ∈ p.pred, isI64 a
  phis : p.phis.length ≤ 17592186044416 ∧ ∀ x ∈ p.phis, isI64 x.id ∧ x.src.length ≤ 17592186044416 ∧ ∀ a ∈ x.src, isI64 a
  nodes : p.nodes.length ≤ 17592186044416 ∧ ∀ n ∈ p.nodes, Nd.wf n ∧ n.args.length ≤ 17592186044416 ∧ ∀ a ∈ n.args, isI64 a
  fin : Tm.wf p.fin
structure Cd.wf (f : Cd) : Prop where
  parts : ∀ p ∈ f.parts, Pt.wf p
  values : isI64 f.values
theorem Cd.wf.fit {f : Cd} (h : Cd.wf f) : Fit f where
  pred p hp := (h.parts p hp).pred.1
  phis p hp := ⟨(h.parts p hp).phis.1, fun x hx => ((h.parts p hp).phis.2 x hx).2.1⟩
  nodes p hp := ⟨(h.parts p hp).nodes.1, fun x hx => ⟨((h.parts p hp).nodes.2 x hx).2.1, ((h.parts p hp).nodes.2 x hx).1.imm.1⟩⟩
end Go.Cm
