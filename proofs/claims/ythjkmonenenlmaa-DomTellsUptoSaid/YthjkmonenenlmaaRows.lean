/-
  No cell of these rows narrows 'for every input' (looked for: loops, veiled, ifaces, maps, wideKeys, modest, calm, conditions, laid).
  DERIVED. THE GIVEN ROWS OF THIS SEAT. 5 by the template 'for every input the law returns true; each argument reads behind the call as it read before'; 0 by the template 'total and deterministic' (their statements: YthjkmonenenlmaaTotals.lean).
  GIVEN WITH THE SEED: the statements are not yours to turn. If you find one false, say at which input.
  Laid BY PROGRAM, IN A SANDBOX (cutbox-rows.mjs): the forced cells as the released guide's own fill.sh prints them over the translation 012899430a3877b5… (all of the seat's roots in one cut). By AI agents, Wed Nov 11 2026. No macro, syntax, notation, axiom, sorry.
-/
import Derived.Test.YthjkmonenenlmaaChecked
import GoSem.Claim
import GoSem.ClaimJoined
import GoSem.ClaimMapViews
import Derived.JoinedTies
import Derived.KernelRfl
namespace Go.Proofs.Ythjkmonenenlmaa
/- THE CELL 'sum', in the pinned program and in every row, IS THE sha256 OF THE DUMP (.gsa) THAT YthjkmonenenlmaaProg.lean LOADS. Nothing in Lean hashes anything: it is a label: what it is worth is what the hold of that sum in a sandbox is worth. -/
noncomputable def Try.pinned : Pinned := { name := "ythjkmonenenlmaa", sum := "012899430a3877b5308af97272131e0f2db25b3b413be2c30fdf3e48283499d9", checked := Try.checked }
namespace Rows
def none {H : Type} : Left H := { results := [], args := [] }

/-- 'clevislaw15.DomCut': WHATEVER THE INPUT: true; the input reads as it did. -/
def domCutSpec : ChangeSpec := { name := "domCut", fn := fun _ => fun
  | [d1, d2, d3] => { results := [.lit (.bool true)], args := [d1, d2, d3] }
  | _ => none }
def domCutRow : OpenClaim := { program := "ythjkmonenenlmaa", sum := "012899430a3877b5308af97272131e0f2db25b3b413be2c30fdf3e48283499d9", func := "clevis/clevislaw15.DomCut", spec := "domCut", unfollowed := true, recurses := true, apart := false }
def DomCutSaid : Prop := domCutRow.holds Try.pinned (OpenSpec.ofChange domCutSpec)

/-- ITS FALSE NEIGHBOUR: 'it returns false'. Refute it at one input. -/
def domCutWrong : ChangeSpec := { name := "domCut", fn := fun _ => fun
  | [d1, d2, d3] => { results := [.lit (.bool false)], args := [d1, d2, d3] }
  | _ => none }
def DomCutWrongFalsely : Prop := domCutRow.holds Try.pinned (OpenSpec.ofChange domCutWrong)

/-- 'clevislaw15.DomTells': WHATEVER THE INPUT: true; the input reads as it did. -/
def domTellsSpec : ChangeSpec := { name := "domTells", fn := fun _ => fun
  | [d1, d2, d3] => { results := [.lit (.bool true)], args := [d1, d2, d3] }
  | _ => none }
def domTellsRow : OpenClaim := { program := "ythjkmonenenlmaa", sum := "012899430a3877b5308af97272131e0f2db25b3b413be2c30fdf3e48283499d9", func := "clevis/clevislaw15.DomTells", spec := "domTells", unfollowed := true, recurses := true, apart := false }
def DomTellsSaid : Prop := domTellsRow.holds Try.pinned (OpenSpec.ofChange domTellsSpec)

/-- ITS FALSE NEIGHBOUR: 'it returns false'. Refute it at one input. -/
def domTellsWrong : ChangeSpec := { name := "domTells", fn := fun _ => fun
  | [d1, d2, d3] => { results := [.lit (.bool false)], args := [d1, d2, d3] }
  | _ => none }
def DomTellsWrongFalsely : Prop := domTellsRow.holds Try.pinned (OpenSpec.ofChange domTellsWrong)

/-- 'clevislaw15.DomOrders': WHATEVER THE INPUT: true; the input reads as it did. -/
def domOrdersSpec : ChangeSpec := { name := "domOrders", fn := fun _ => fun
  | [d] => { results := [.lit (.bool true)], args := [d] }
  | _ => none }
def domOrdersRow : OpenClaim := { program := "ythjkmonenenlmaa", sum := "012899430a3877b5308af97272131e0f2db25b3b413be2c30fdf3e48283499d9", func := "clevis/clevislaw15.DomOrders", spec := "domOrders", unfollowed := true, recurses := true, apart := false }
def DomOrdersSaid : Prop := domOrdersRow.holds Try.pinned (OpenSpec.ofChange domOrdersSpec)

/-- ITS FALSE NEIGHBOUR: 'it returns false'. Refute it at one input. -/
def domOrdersWrong : ChangeSpec := { name := "domOrders", fn := fun _ => fun
  | [d] => { results := [.lit (.bool false)], args := [d] }
  | _ => none }
def DomOrdersWrongFalsely : Prop := domOrdersRow.holds Try.pinned (OpenSpec.ofChange domOrdersWrong)

/-- 'clevislaw15.DomRow': WHATEVER THE INPUT: true; the input reads as it did. -/
def domRowSpec : ChangeSpec := { name := "domRow", fn := fun _ => fun
  | [d1, d2, d3] => { results := [.lit (.bool true)], args := [d1, d2, d3] }
  | _ => none }
def domRowRow : OpenClaim := { program := "ythjkmonenenlmaa", sum := "012899430a3877b5308af97272131e0f2db25b3b413be2c30fdf3e48283499d9", func := "clevis/clevislaw15.DomRow", spec := "domRow", unfollowed := true, recurses := true, apart := false }
def DomRowSaid : Prop := domRowRow.holds Try.pinned (OpenSpec.ofChange domRowSpec)

/-- ITS FALSE NEIGHBOUR: 'it returns false'. Refute it at one input. -/
def domRowWrong : ChangeSpec := { name := "domRow", fn := fun _ => fun
  | [d1, d2, d3] => { results := [.lit (.bool false)], args := [d1, d2, d3] }
  | _ => none }
def DomRowWrongFalsely : Prop := domRowRow.holds Try.pinned (OpenSpec.ofChange domRowWrong)

/-- 'clevislaw15.DomFirst': WHATEVER THE INPUT: true; the input reads as it did. -/
def domFirstSpec : ChangeSpec := { name := "domFirst", fn := fun _ => fun
  | [d] => { results := [.lit (.bool true)], args := [d] }
  | _ => none }
def domFirstRow : OpenClaim := { program := "ythjkmonenenlmaa", sum := "012899430a3877b5308af97272131e0f2db25b3b413be2c30fdf3e48283499d9", func := "clevis/clevislaw15.DomFirst", spec := "domFirst", unfollowed := true, recurses := true, apart := false }
def DomFirstSaid : Prop := domFirstRow.holds Try.pinned (OpenSpec.ofChange domFirstSpec)

/-- ITS FALSE NEIGHBOUR: 'it returns false'. Refute it at one input. -/
def domFirstWrong : ChangeSpec := { name := "domFirst", fn := fun _ => fun
  | [d] => { results := [.lit (.bool false)], args := [d] }
  | _ => none }
def DomFirstWrongFalsely : Prop := domFirstRow.holds Try.pinned (OpenSpec.ofChange domFirstWrong)

/- THE SECOND FORM. 'bulk': how many values and letters a reading holds, each counted each time it is reached (what is shared counts as often as it is met; a slice's spare places count too). A statement '..UptoSaid' is the law's where the arguments, and the package variables that the reading takes, are together of bulk at most 1048576: NARROWER than '..Said'. Prove '..Said' where nothing that the law and all that it calls make is longer than what came in: it says more and counts as full. Else prove '..UptoSaid'. A law counts once. -/
mutual
def uptoBulk {H : Type} : DataW H → Nat
  | .lit (.string bytes) => bytes.length + 1
  | .lit _ => 1
  | .nil => 1
  | .ptr d => uptoBulk d + 1
  | .slice elems spare => uptoBulkAll elems + uptoBulkAll spare + 1
  | .agg parts => uptoBulkAll parts + 1
  | .iface _ d => uptoBulk d + 1
  | .map entries => uptoBulkEntries entries + 1
  | .held _ => 1
def uptoBulkAll {H : Type} : List (DataW H) → Nat
  | [] => 0
  | d :: r => uptoBulk d + uptoBulkAll r
def uptoBulkEntries {H : Type} : List (Lit × DataW H) → Nat
  | [] => 0
  | x :: r => uptoBulkEntry x + uptoBulkEntries r
def uptoBulkEntry {H : Type} : Lit × DataW H → Nat
  | (.string bytes, d) => bytes.length + uptoBulk d + 1
  | (_, d) => uptoBulk d + 1
 end
def uptoSmall : (H : Type) → List (DataW H) → Bool := fun _ ds => decide (uptoBulkAll ds ≤ 1048576)
def OpenSpec.upto (s : _root_.Go.ChangeSpec) : _root_.Go.OpenSpec := { _root_.Go.OpenSpec.ofChange s with cond := some uptoSmall }

/-- 'clevislaw15.DomCut', WHERE WHAT IT READS IS OF BULK AT MOST 1048576: true; the input reads as it did. -/
def domCutUptoRow : OpenClaim := { program := "ythjkmonenenlmaa", sum := "012899430a3877b5308af97272131e0f2db25b3b413be2c30fdf3e48283499d9", func := "clevis/clevislaw15.DomCut", spec := "domCut", unfollowed := true, recurses := true, apart := false, narrowed := true }
def DomCutUptoSaid : Prop := domCutUptoRow.holds Try.pinned (OpenSpec.upto domCutSpec)

/-- 'clevislaw15.DomTells', WHERE WHAT IT READS IS OF BULK AT MOST 1048576: true; the input reads as it did. -/
def domTellsUptoRow : OpenClaim := { program := "ythjkmonenenlmaa", sum := "012899430a3877b5308af97272131e0f2db25b3b413be2c30fdf3e48283499d9", func := "clevis/clevislaw15.DomTells", spec := "domTells", unfollowed := true, recurses := true, apart := false, narrowed := true }
def DomTellsUptoSaid : Prop := domTellsUptoRow.holds Try.pinned (OpenSpec.upto domTellsSpec)

/-- 'clevislaw15.DomOrders', WHERE WHAT IT READS IS OF BULK AT MOST 1048576: true; the input reads as it did. -/
def domOrdersUptoRow : OpenClaim := { program := "ythjkmonenenlmaa", sum := "012899430a3877b5308af97272131e0f2db25b3b413be2c30fdf3e48283499d9", func := "clevis/clevislaw15.DomOrders", spec := "domOrders", unfollowed := true, recurses := true, apart := false, narrowed := true }
def DomOrdersUptoSaid : Prop := domOrdersUptoRow.holds Try.pinned (OpenSpec.upto domOrdersSpec)

/-- 'clevislaw15.DomRow', WHERE WHAT IT READS IS OF BULK AT MOST 1048576: true; the input reads as it did. -/
def domRowUptoRow : OpenClaim := { program := "ythjkmonenenlmaa", sum := "012899430a3877b5308af97272131e0f2db25b3b413be2c30fdf3e48283499d9", func := "clevis/clevislaw15.DomRow", spec := "domRow", unfollowed := true, recurses := true, apart := false, narrowed := true }
def DomRowUptoSaid : Prop := domRowUptoRow.holds Try.pinned (OpenSpec.upto domRowSpec)

/-- 'clevislaw15.DomFirst', WHERE WHAT IT READS IS OF BULK AT MOST 1048576: true; the input reads as it did. -/
def domFirstUptoRow : OpenClaim := { program := "ythjkmonenenlmaa", sum := "012899430a3877b5308af97272131e0f2db25b3b413be2c30fdf3e48283499d9", func := "clevis/clevislaw15.DomFirst", spec := "domFirst", unfollowed := true, recurses := true, apart := false, narrowed := true }
def DomFirstUptoSaid : Prop := domFirstUptoRow.holds Try.pinned (OpenSpec.upto domFirstSpec)

end Rows
end Go.Proofs.Ythjkmonenenlmaa
