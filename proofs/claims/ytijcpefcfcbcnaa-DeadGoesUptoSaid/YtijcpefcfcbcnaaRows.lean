/-
  No cell of these rows narrows 'for every input' (looked for: loops, veiled, ifaces, maps, wideKeys, modest, calm, conditions, laid).
  DERIVED. THE GIVEN ROWS OF THIS SEAT. 9 by the template 'for every input the law returns true; each argument reads behind the call as it read before'; 0 by the template 'total and deterministic' (their statements: YtijcpefcfcbcnaaTotals.lean).
  GIVEN WITH THE SEED: the statements are not yours to turn. If you find one false, say at which input.
  Laid BY PROGRAM, IN A SANDBOX (cutbox-rows.mjs): the forced cells as the released guide's own fill.sh prints them over the translation 5d6994dbac6c46b0… (all of the seat's roots in one cut). By AI agents, Wed Nov 11 2026. No macro, syntax, notation, axiom, sorry.
-/
import Derived.Test.YtijcpefcfcbcnaaChecked
import GoSem.Claim
import GoSem.ClaimJoined
import GoSem.ClaimMapViews
import Derived.JoinedTies
import Derived.KernelRfl
namespace Go.Proofs.Ytijcpefcfcbcnaa
/- THE CELL 'sum', in the pinned program and in every row, IS THE sha256 OF THE DUMP (.gsa) THAT YtijcpefcfcbcnaaProg.lean LOADS. Nothing in Lean hashes anything: it is a label: what it is worth is what the hold of that sum in a sandbox is worth. -/
noncomputable def Try.pinned : Pinned := { name := "ytijcpefcfcbcnaa", sum := "5d6994dbac6c46b0b786c7a49f6aed8da8e7528aa9d0c3d0681a41db9a7148a5", checked := Try.checked }
namespace Rows
def none {H : Type} : Left H := { results := [], args := [] }

/-- 'clevislaw20.ChecksNone': WHATEVER THE INPUT: true; the input reads as it did. -/
def checksNoneSpec : ChangeSpec := { name := "checksNone", fn := fun _ => fun
  | [d1, d2, d3] => { results := [.lit (.bool true)], args := [d1, d2, d3] }
  | _ => none }
def checksNoneRow : OpenClaim := { program := "ytijcpefcfcbcnaa", sum := "5d6994dbac6c46b0b786c7a49f6aed8da8e7528aa9d0c3d0681a41db9a7148a5", func := "clevis/clevislaw20.ChecksNone", spec := "checksNone", inPlace := ["internal/reflectlite.TypeOf"], unfollowed := true, recurses := true, apart := false }
def ChecksNoneSaid : Prop := checksNoneRow.holds Try.pinned (OpenSpec.ofChange checksNoneSpec)

/-- ITS FALSE NEIGHBOUR: 'it returns false'. Refute it at one input. -/
def checksNoneWrong : ChangeSpec := { name := "checksNone", fn := fun _ => fun
  | [d1, d2, d3] => { results := [.lit (.bool false)], args := [d1, d2, d3] }
  | _ => none }
def ChecksNoneWrongFalsely : Prop := checksNoneRow.holds Try.pinned (OpenSpec.ofChange checksNoneWrong)

/-- 'clevislaw20.ChecksFree': WHATEVER THE INPUT: true; the input reads as it did. -/
def checksFreeSpec : ChangeSpec := { name := "checksFree", fn := fun _ => fun
  | [d1, d2, d3, d4] => { results := [.lit (.bool true)], args := [d1, d2, d3, d4] }
  | _ => none }
def checksFreeRow : OpenClaim := { program := "ytijcpefcfcbcnaa", sum := "5d6994dbac6c46b0b786c7a49f6aed8da8e7528aa9d0c3d0681a41db9a7148a5", func := "clevis/clevislaw20.ChecksFree", spec := "checksFree", inPlace := ["internal/reflectlite.TypeOf"], unfollowed := true, recurses := true, apart := false }
def ChecksFreeSaid : Prop := checksFreeRow.holds Try.pinned (OpenSpec.ofChange checksFreeSpec)

/-- ITS FALSE NEIGHBOUR: 'it returns false'. Refute it at one input. -/
def checksFreeWrong : ChangeSpec := { name := "checksFree", fn := fun _ => fun
  | [d1, d2, d3, d4] => { results := [.lit (.bool false)], args := [d1, d2, d3, d4] }
  | _ => none }
def ChecksFreeWrongFalsely : Prop := checksFreeRow.holds Try.pinned (OpenSpec.ofChange checksFreeWrong)

/-- 'clevislaw19.DeadGoes': WHATEVER THE INPUT: true; the input reads as it did. -/
def deadGoesSpec : ChangeSpec := { name := "deadGoes", fn := fun _ => fun
  | [d] => { results := [.lit (.bool true)], args := [d] }
  | _ => none }
def deadGoesRow : OpenClaim := { program := "ytijcpefcfcbcnaa", sum := "5d6994dbac6c46b0b786c7a49f6aed8da8e7528aa9d0c3d0681a41db9a7148a5", func := "clevis/clevislaw19.DeadGoes", spec := "deadGoes", inPlace := ["internal/reflectlite.TypeOf"], unfollowed := true, recurses := true, apart := false }
def DeadGoesSaid : Prop := deadGoesRow.holds Try.pinned (OpenSpec.ofChange deadGoesSpec)

/-- ITS FALSE NEIGHBOUR: 'it returns false'. Refute it at one input. -/
def deadGoesWrong : ChangeSpec := { name := "deadGoes", fn := fun _ => fun
  | [d] => { results := [.lit (.bool false)], args := [d] }
  | _ => none }
def DeadGoesWrongFalsely : Prop := deadGoesRow.holds Try.pinned (OpenSpec.ofChange deadGoesWrong)

/-- 'clevislaw19.DeadOnce': WHATEVER THE INPUT: true; the input reads as it did. -/
def deadOnceSpec : ChangeSpec := { name := "deadOnce", fn := fun _ => fun
  | [d] => { results := [.lit (.bool true)], args := [d] }
  | _ => none }
def deadOnceRow : OpenClaim := { program := "ytijcpefcfcbcnaa", sum := "5d6994dbac6c46b0b786c7a49f6aed8da8e7528aa9d0c3d0681a41db9a7148a5", func := "clevis/clevislaw19.DeadOnce", spec := "deadOnce", inPlace := ["internal/reflectlite.TypeOf"], unfollowed := true, recurses := true, apart := false }
def DeadOnceSaid : Prop := deadOnceRow.holds Try.pinned (OpenSpec.ofChange deadOnceSpec)

/-- ITS FALSE NEIGHBOUR: 'it returns false'. Refute it at one input. -/
def deadOnceWrong : ChangeSpec := { name := "deadOnce", fn := fun _ => fun
  | [d] => { results := [.lit (.bool false)], args := [d] }
  | _ => none }
def DeadOnceWrongFalsely : Prop := deadOnceRow.holds Try.pinned (OpenSpec.ofChange deadOnceWrong)

/-- 'clevislaw19.DeadUses': WHATEVER THE INPUT: true; the input reads as it did. -/
def deadUsesSpec : ChangeSpec := { name := "deadUses", fn := fun _ => fun
  | [d] => { results := [.lit (.bool true)], args := [d] }
  | _ => none }
def deadUsesRow : OpenClaim := { program := "ytijcpefcfcbcnaa", sum := "5d6994dbac6c46b0b786c7a49f6aed8da8e7528aa9d0c3d0681a41db9a7148a5", func := "clevis/clevislaw19.DeadUses", spec := "deadUses", inPlace := ["internal/reflectlite.TypeOf"], unfollowed := true, recurses := true, apart := false }
def DeadUsesSaid : Prop := deadUsesRow.holds Try.pinned (OpenSpec.ofChange deadUsesSpec)

/-- ITS FALSE NEIGHBOUR: 'it returns false'. Refute it at one input. -/
def deadUsesWrong : ChangeSpec := { name := "deadUses", fn := fun _ => fun
  | [d] => { results := [.lit (.bool false)], args := [d] }
  | _ => none }
def DeadUsesWrongFalsely : Prop := deadUsesRow.holds Try.pinned (OpenSpec.ofChange deadUsesWrong)

/-- 'clevislaw18.FoldOnce': WHATEVER THE INPUT: true; the input reads as it did. -/
def foldOnceSpec : ChangeSpec := { name := "foldOnce", fn := fun _ => fun
  | [d] => { results := [.lit (.bool true)], args := [d] }
  | _ => none }
def foldOnceRow : OpenClaim := { program := "ytijcpefcfcbcnaa", sum := "5d6994dbac6c46b0b786c7a49f6aed8da8e7528aa9d0c3d0681a41db9a7148a5", func := "clevis/clevislaw18.FoldOnce", spec := "foldOnce", inPlace := ["internal/reflectlite.TypeOf"], unfollowed := true, recurses := true, apart := false }
def FoldOnceSaid : Prop := foldOnceRow.holds Try.pinned (OpenSpec.ofChange foldOnceSpec)

/-- ITS FALSE NEIGHBOUR: 'it returns false'. Refute it at one input. -/
def foldOnceWrong : ChangeSpec := { name := "foldOnce", fn := fun _ => fun
  | [d] => { results := [.lit (.bool false)], args := [d] }
  | _ => none }
def FoldOnceWrongFalsely : Prop := foldOnceRow.holds Try.pinned (OpenSpec.ofChange foldOnceWrong)

/-- 'clevislaw16.IrUses': WHATEVER THE INPUT: true; the input reads as it did. -/
def irUsesSpec : ChangeSpec := { name := "irUses", fn := fun _ => fun
  | [d1, d2] => { results := [.lit (.bool true)], args := [d1, d2] }
  | _ => none }
def irUsesRow : OpenClaim := { program := "ytijcpefcfcbcnaa", sum := "5d6994dbac6c46b0b786c7a49f6aed8da8e7528aa9d0c3d0681a41db9a7148a5", func := "clevis/clevislaw16.IrUses", spec := "irUses", inPlace := ["internal/reflectlite.TypeOf"], unfollowed := true, recurses := true, apart := false }
def IrUsesSaid : Prop := irUsesRow.holds Try.pinned (OpenSpec.ofChange irUsesSpec)

/-- ITS FALSE NEIGHBOUR: 'it returns false'. Refute it at one input. -/
def irUsesWrong : ChangeSpec := { name := "irUses", fn := fun _ => fun
  | [d1, d2] => { results := [.lit (.bool false)], args := [d1, d2] }
  | _ => none }
def IrUsesWrongFalsely : Prop := irUsesRow.holds Try.pinned (OpenSpec.ofChange irUsesWrong)

/-- 'clevislaw16.IrMore': WHATEVER THE INPUT: true; the input reads as it did. -/
def irMoreSpec : ChangeSpec := { name := "irMore", fn := fun _ => fun
  | [d1, d2, d3, d4, d5, d6] => { results := [.lit (.bool true)], args := [d1, d2, d3, d4, d5, d6] }
  | _ => none }
def irMoreRow : OpenClaim := { program := "ytijcpefcfcbcnaa", sum := "5d6994dbac6c46b0b786c7a49f6aed8da8e7528aa9d0c3d0681a41db9a7148a5", func := "clevis/clevislaw16.IrMore", spec := "irMore", inPlace := ["internal/reflectlite.TypeOf"], unfollowed := true, recurses := true, apart := false }
def IrMoreSaid : Prop := irMoreRow.holds Try.pinned (OpenSpec.ofChange irMoreSpec)

/-- ITS FALSE NEIGHBOUR: 'it returns false'. Refute it at one input. -/
def irMoreWrong : ChangeSpec := { name := "irMore", fn := fun _ => fun
  | [d1, d2, d3, d4, d5, d6] => { results := [.lit (.bool false)], args := [d1, d2, d3, d4, d5, d6] }
  | _ => none }
def IrMoreWrongFalsely : Prop := irMoreRow.holds Try.pinned (OpenSpec.ofChange irMoreWrong)

/-- 'clevislaw16.IrPlaces': WHATEVER THE INPUT: true; the input reads as it did. -/
def irPlacesSpec : ChangeSpec := { name := "irPlaces", fn := fun _ => fun
  | [d1, d2, d3, d4] => { results := [.lit (.bool true)], args := [d1, d2, d3, d4] }
  | _ => none }
def irPlacesRow : OpenClaim := { program := "ytijcpefcfcbcnaa", sum := "5d6994dbac6c46b0b786c7a49f6aed8da8e7528aa9d0c3d0681a41db9a7148a5", func := "clevis/clevislaw16.IrPlaces", spec := "irPlaces", inPlace := ["internal/reflectlite.TypeOf"], unfollowed := true, recurses := true, apart := false }
def IrPlacesSaid : Prop := irPlacesRow.holds Try.pinned (OpenSpec.ofChange irPlacesSpec)

/-- ITS FALSE NEIGHBOUR: 'it returns false'. Refute it at one input. -/
def irPlacesWrong : ChangeSpec := { name := "irPlaces", fn := fun _ => fun
  | [d1, d2, d3, d4] => { results := [.lit (.bool false)], args := [d1, d2, d3, d4] }
  | _ => none }
def IrPlacesWrongFalsely : Prop := irPlacesRow.holds Try.pinned (OpenSpec.ofChange irPlacesWrong)

/- THE SECOND FORM. 'bulk': how many values and letters a reading holds, each counted each time it is reached (what is shared counts as often as it is met; a slice's spare places count too). A statement '..UptoSaid' is the law's where the arguments, and the package variables that the reading takes, are together of bulk at most 1048576: NARROWER than '..Said'. Prove '..Said' where nothing that the law and all that it calls make is longer than what came in: it says more and counts as full. Else prove '..UptoSaid'. A law counts once. -/
mutual
def uptoBulk {H : Type} : DataW H → Nat
  | .lit (.string bytes) => bytes.length + 1
  | .lit _ => 1
  | .nil => 1
  | .ptr d => uptoBulk d + 1
  | .slice elems spare => uptoBulkAll elems + uptoBulkAll spare + 1
  | .agg parts => uptoBulkAll parts + 1
  | .iface _ d => uptoBulk d + 1
  | .map entries => uptoBulkEntries entries + 1
  | .held _ => 1
def uptoBulkAll {H : Type} : List (DataW H) → Nat
  | [] => 0
  | d :: r => uptoBulk d + uptoBulkAll r
def uptoBulkEntries {H : Type} : List (Lit × DataW H) → Nat
  | [] => 0
  | x :: r => uptoBulkEntry x + uptoBulkEntries r
def uptoBulkEntry {H : Type} : Lit × DataW H → Nat
  | (.string bytes, d) => bytes.length + uptoBulk d + 1
  | (_, d) => uptoBulk d + 1
 end
def uptoSmall : (H : Type) → List (DataW H) → Bool := fun _ ds => decide (uptoBulkAll ds ≤ 1048576)
def OpenSpec.upto (s : _root_.Go.ChangeSpec) : _root_.Go.OpenSpec := { _root_.Go.OpenSpec.ofChange s with cond := some uptoSmall }

/-- 'clevislaw20.ChecksNone', WHERE WHAT IT READS IS OF BULK AT MOST 1048576: true; the input reads as it did. -/
def checksNoneUptoRow : OpenClaim := { program := "ytijcpefcfcbcnaa", sum := "5d6994dbac6c46b0b786c7a49f6aed8da8e7528aa9d0c3d0681a41db9a7148a5", func := "clevis/clevislaw20.ChecksNone", spec := "checksNone", inPlace := ["internal/reflectlite.TypeOf"], unfollowed := true, recurses := true, apart := false, narrowed := true }
def ChecksNoneUptoSaid : Prop := checksNoneUptoRow.holds Try.pinned (OpenSpec.upto checksNoneSpec)

/-- 'clevislaw20.ChecksFree', WHERE WHAT IT READS IS OF BULK AT MOST 1048576: true; the input reads as it did. -/
def checksFreeUptoRow : OpenClaim := { program := "ytijcpefcfcbcnaa", sum := "5d6994dbac6c46b0b786c7a49f6aed8da8e7528aa9d0c3d0681a41db9a7148a5", func := "clevis/clevislaw20.ChecksFree", spec := "checksFree", inPlace := ["internal/reflectlite.TypeOf"], unfollowed := true, recurses := true, apart := false, narrowed := true }
def ChecksFreeUptoSaid : Prop := checksFreeUptoRow.holds Try.pinned (OpenSpec.upto checksFreeSpec)

/-- 'clevislaw19.DeadGoes', WHERE WHAT IT READS IS OF BULK AT MOST 1048576: true; the input reads as it did. -/
def deadGoesUptoRow : OpenClaim := { program := "ytijcpefcfcbcnaa", sum := "5d6994dbac6c46b0b786c7a49f6aed8da8e7528aa9d0c3d0681a41db9a7148a5", func := "clevis/clevislaw19.DeadGoes", spec := "deadGoes", inPlace := ["internal/reflectlite.TypeOf"], unfollowed := true, recurses := true, apart := false, narrowed := true }
def DeadGoesUptoSaid : Prop := deadGoesUptoRow.holds Try.pinned (OpenSpec.upto deadGoesSpec)

/-- 'clevislaw19.DeadOnce', WHERE WHAT IT READS IS OF BULK AT MOST 1048576: true; the input reads as it did. -/
def deadOnceUptoRow : OpenClaim := { program := "ytijcpefcfcbcnaa", sum := "5d6994dbac6c46b0b786c7a49f6aed8da8e7528aa9d0c3d0681a41db9a7148a5", func := "clevis/clevislaw19.DeadOnce", spec := "deadOnce", inPlace := ["internal/reflectlite.TypeOf"], unfollowed := true, recurses := true, apart := false, narrowed := true }
def DeadOnceUptoSaid : Prop := deadOnceUptoRow.holds Try.pinned (OpenSpec.upto deadOnceSpec)

/-- 'clevislaw19.DeadUses', WHERE WHAT IT READS IS OF BULK AT MOST 1048576: true; the input reads as it did. -/
def deadUsesUptoRow : OpenClaim := { program := "ytijcpefcfcbcnaa", sum := "5d6994dbac6c46b0b786c7a49f6aed8da8e7528aa9d0c3d0681a41db9a7148a5", func := "clevis/clevislaw19.DeadUses", spec := "deadUses", inPlace := ["internal/reflectlite.TypeOf"], unfollowed := true, recurses := true, apart := false, narrowed := true }
def DeadUsesUptoSaid : Prop := deadUsesUptoRow.holds Try.pinned (OpenSpec.upto deadUsesSpec)

/-- 'clevislaw18.FoldOnce', WHERE WHAT IT READS IS OF BULK AT MOST 1048576: true; the input reads as it did. -/
def foldOnceUptoRow : OpenClaim := { program := "ytijcpefcfcbcnaa", sum := "5d6994dbac6c46b0b786c7a49f6aed8da8e7528aa9d0c3d0681a41db9a7148a5", func := "clevis/clevislaw18.FoldOnce", spec := "foldOnce", inPlace := ["internal/reflectlite.TypeOf"], unfollowed := true, recurses := true, apart := false, narrowed := true }
def FoldOnceUptoSaid : Prop := foldOnceUptoRow.holds Try.pinned (OpenSpec.upto foldOnceSpec)

/-- 'clevislaw16.IrUses', WHERE WHAT IT READS IS OF BULK AT MOST 1048576: true; the input reads as it did. -/
def irUsesUptoRow : OpenClaim := { program := "ytijcpefcfcbcnaa", sum := "5d6994dbac6c46b0b786c7a49f6aed8da8e7528aa9d0c3d0681a41db9a7148a5", func := "clevis/clevislaw16.IrUses", spec := "irUses", inPlace := ["internal/reflectlite.TypeOf"], unfollowed := true, recurses := true, apart := false, narrowed := true }
def IrUsesUptoSaid : Prop := irUsesUptoRow.holds Try.pinned (OpenSpec.upto irUsesSpec)

/-- 'clevislaw16.IrMore', WHERE WHAT IT READS IS OF BULK AT MOST 1048576: true; the input reads as it did. -/
def irMoreUptoRow : OpenClaim := { program := "ytijcpefcfcbcnaa", sum := "5d6994dbac6c46b0b786c7a49f6aed8da8e7528aa9d0c3d0681a41db9a7148a5", func := "clevis/clevislaw16.IrMore", spec := "irMore", inPlace := ["internal/reflectlite.TypeOf"], unfollowed := true, recurses := true, apart := false, narrowed := true }
def IrMoreUptoSaid : Prop := irMoreUptoRow.holds Try.pinned (OpenSpec.upto irMoreSpec)

/-- 'clevislaw16.IrPlaces', WHERE WHAT IT READS IS OF BULK AT MOST 1048576: true; the input reads as it did. -/
def irPlacesUptoRow : OpenClaim := { program := "ytijcpefcfcbcnaa", sum := "5d6994dbac6c46b0b786c7a49f6aed8da8e7528aa9d0c3d0681a41db9a7148a5", func := "clevis/clevislaw16.IrPlaces", spec := "irPlaces", inPlace := ["internal/reflectlite.TypeOf"], unfollowed := true, recurses := true, apart := false, narrowed := true }
def IrPlacesUptoSaid : Prop := irPlacesUptoRow.holds Try.pinned (OpenSpec.upto irPlacesSpec)

end Rows
end Go.Proofs.Ytijcpefcfcbcnaa
