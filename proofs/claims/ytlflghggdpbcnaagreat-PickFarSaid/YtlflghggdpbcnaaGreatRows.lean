/-
  No cell of these rows narrows 'for every input' (looked for: loops, veiled, ifaces, maps, wideKeys, modest, calm, conditions, laid).
  DERIVED. THE GIVEN ROWS OF THIS SEAT. 8 by the template 'for every input the law returns true; each argument reads behind the call as it read before'; 0 by the template 'total and deterministic' (their statements: YtlflghggdpbcnaaGreatTotals.lean).
  GIVEN WITH THE SEED: the statements are not yours to turn. If you find one false, say at which input.
  Laid BY PROGRAM, IN A SANDBOX (cutbox-rows.mjs): the forced cells as the released guide's own fill.sh prints them over the translation 6e37a5b7d3bd2c3a… (all of the seat's roots in one cut). By AI agents, Wed Nov 11 2026. No macro, syntax, notation, axiom, sorry.
-/
import Derived.Test.YtlflghggdpbcnaaGreatChecked
import GoSem.Claim
import GoSem.ClaimJoined
import GoSem.ClaimMapViews
import Derived.JoinedTies
import Derived.KernelRfl
namespace Go.Proofs.YtlflghggdpbcnaaGreat
/- THE CELL 'sum', in the pinned program and in every row, IS THE sha256 OF THE DUMP (.gsa) THAT YtlflghggdpbcnaaGreatProg.lean LOADS. Nothing in Lean hashes anything: it is a label: what it is worth is what the hold of that sum in a sandbox is worth. -/
noncomputable def Tryz.pinned : Pinned := { name := "ytlflghggdpbcnaagreat", sum := "6e37a5b7d3bd2c3ac94ee9374f5637071bd800df3f11bcf7a9905097ea424ae8", checked := Tryz.checked }
namespace Rows
def none {H : Type} : Left H := { results := [], args := [] }

/-- 'clevislaw22.AllocStraight': WHATEVER THE INPUT: true; the input reads as it did. -/
def allocStraightSpec : ChangeSpec := { name := "allocStraight", fn := fun _ => fun
  | [d] => { results := [.lit (.bool true)], args := [d] }
  | _ => none }
def allocStraightRow : OpenClaim := { program := "ytlflghggdpbcnaagreat", sum := "6e37a5b7d3bd2c3ac94ee9374f5637071bd800df3f11bcf7a9905097ea424ae8", func := "clevis/clevislaw22.AllocStraight", spec := "allocStraight", inPlace := ["internal/reflectlite.TypeOf", "maps.clone"], unfollowed := true, recurses := true, plainKeys := false, apart := false }
def AllocStraightSaid : Prop := allocStraightRow.holds Tryz.pinned (OpenSpec.ofChange allocStraightSpec)

/-- ITS FALSE NEIGHBOUR: 'it returns false'. Refute it at one input. -/
def allocStraightWrong : ChangeSpec := { name := "allocStraight", fn := fun _ => fun
  | [d] => { results := [.lit (.bool false)], args := [d] }
  | _ => none }
def AllocStraightWrongFalsely : Prop := allocStraightRow.holds Tryz.pinned (OpenSpec.ofChange allocStraightWrong)

/-- 'clevislaw22.AllocMoves': WHATEVER THE INPUT: true; the input reads as it did. -/
def allocMovesSpec : ChangeSpec := { name := "allocMoves", fn := fun _ => fun
  | [d1, d2, d3] => { results := [.lit (.bool true)], args := [d1, d2, d3] }
  | _ => none }
def allocMovesRow : OpenClaim := { program := "ytlflghggdpbcnaagreat", sum := "6e37a5b7d3bd2c3ac94ee9374f5637071bd800df3f11bcf7a9905097ea424ae8", func := "clevis/clevislaw22.AllocMoves", spec := "allocMoves", inPlace := ["internal/reflectlite.TypeOf", "maps.clone"], unfollowed := true, recurses := true, plainKeys := false, apart := false }
def AllocMovesSaid : Prop := allocMovesRow.holds Tryz.pinned (OpenSpec.ofChange allocMovesSpec)

/-- ITS FALSE NEIGHBOUR: 'it returns false'. Refute it at one input. -/
def allocMovesWrong : ChangeSpec := { name := "allocMoves", fn := fun _ => fun
  | [d1, d2, d3] => { results := [.lit (.bool false)], args := [d1, d2, d3] }
  | _ => none }
def AllocMovesWrongFalsely : Prop := allocMovesRow.holds Tryz.pinned (OpenSpec.ofChange allocMovesWrong)

/-- 'clevislaw22.AllocDoes': WHATEVER THE INPUT: true; the input reads as it did. -/
def allocDoesSpec : ChangeSpec := { name := "allocDoes", fn := fun _ => fun
  | [d1, d2] => { results := [.lit (.bool true)], args := [d1, d2] }
  | _ => none }
def allocDoesRow : OpenClaim := { program := "ytlflghggdpbcnaagreat", sum := "6e37a5b7d3bd2c3ac94ee9374f5637071bd800df3f11bcf7a9905097ea424ae8", func := "clevis/clevislaw22.AllocDoes", spec := "allocDoes", inPlace := ["internal/reflectlite.TypeOf", "maps.clone"], unfollowed := true, recurses := true, plainKeys := false, apart := false }
def AllocDoesSaid : Prop := allocDoesRow.holds Tryz.pinned (OpenSpec.ofChange allocDoesSpec)

/-- ITS FALSE NEIGHBOUR: 'it returns false'. Refute it at one input. -/
def allocDoesWrong : ChangeSpec := { name := "allocDoes", fn := fun _ => fun
  | [d1, d2] => { results := [.lit (.bool false)], args := [d1, d2] }
  | _ => none }
def AllocDoesWrongFalsely : Prop := allocDoesRow.holds Tryz.pinned (OpenSpec.ofChange allocDoesWrong)

/-- 'clevislaw25.PickMakes': WHATEVER THE INPUT: true; the input reads as it did. -/
def pickMakesSpec : ChangeSpec := { name := "pickMakes", fn := fun _ => fun
  | [d] => { results := [.lit (.bool true)], args := [d] }
  | _ => none }
def pickMakesRow : OpenClaim := { program := "ytlflghggdpbcnaagreat", sum := "6e37a5b7d3bd2c3ac94ee9374f5637071bd800df3f11bcf7a9905097ea424ae8", func := "clevis/clevislaw25.PickMakes", spec := "pickMakes", inPlace := ["internal/reflectlite.TypeOf", "maps.clone"], unfollowed := true, recurses := true, plainKeys := false, apart := false }
def PickMakesSaid : Prop := pickMakesRow.holds Tryz.pinned (OpenSpec.ofChange pickMakesSpec)

/-- ITS FALSE NEIGHBOUR: 'it returns false'. Refute it at one input. -/
def pickMakesWrong : ChangeSpec := { name := "pickMakes", fn := fun _ => fun
  | [d] => { results := [.lit (.bool false)], args := [d] }
  | _ => none }
def PickMakesWrongFalsely : Prop := pickMakesRow.holds Tryz.pinned (OpenSpec.ofChange pickMakesWrong)

/-- 'clevislaw25.PickShort': WHATEVER THE INPUT: true; the input reads as it did. -/
def pickShortSpec : ChangeSpec := { name := "pickShort", fn := fun _ => fun
  | [d1, d2] => { results := [.lit (.bool true)], args := [d1, d2] }
  | _ => none }
def pickShortRow : OpenClaim := { program := "ytlflghggdpbcnaagreat", sum := "6e37a5b7d3bd2c3ac94ee9374f5637071bd800df3f11bcf7a9905097ea424ae8", func := "clevis/clevislaw25.PickShort", spec := "pickShort", inPlace := ["internal/reflectlite.TypeOf", "maps.clone"], unfollowed := true, recurses := true, plainKeys := false, apart := false }
def PickShortSaid : Prop := pickShortRow.holds Tryz.pinned (OpenSpec.ofChange pickShortSpec)

/-- ITS FALSE NEIGHBOUR: 'it returns false'. Refute it at one input. -/
def pickShortWrong : ChangeSpec := { name := "pickShort", fn := fun _ => fun
  | [d1, d2] => { results := [.lit (.bool false)], args := [d1, d2] }
  | _ => none }
def PickShortWrongFalsely : Prop := pickShortRow.holds Tryz.pinned (OpenSpec.ofChange pickShortWrong)

/-- 'clevislaw25.PickWide': WHATEVER THE INPUT: true; the input reads as it did. -/
def pickWideSpec : ChangeSpec := { name := "pickWide", fn := fun _ => fun
  | [d1, d2] => { results := [.lit (.bool true)], args := [d1, d2] }
  | _ => none }
def pickWideRow : OpenClaim := { program := "ytlflghggdpbcnaagreat", sum := "6e37a5b7d3bd2c3ac94ee9374f5637071bd800df3f11bcf7a9905097ea424ae8", func := "clevis/clevislaw25.PickWide", spec := "pickWide", inPlace := ["internal/reflectlite.TypeOf", "maps.clone"], unfollowed := true, recurses := true, plainKeys := false, apart := false }
def PickWideSaid : Prop := pickWideRow.holds Tryz.pinned (OpenSpec.ofChange pickWideSpec)

/-- ITS FALSE NEIGHBOUR: 'it returns false'. Refute it at one input. -/
def pickWideWrong : ChangeSpec := { name := "pickWide", fn := fun _ => fun
  | [d1, d2] => { results := [.lit (.bool false)], args := [d1, d2] }
  | _ => none }
def PickWideWrongFalsely : Prop := pickWideRow.holds Tryz.pinned (OpenSpec.ofChange pickWideWrong)

/-- 'clevislaw25.PickRelaxes': WHATEVER THE INPUT: true; the input reads as it did. -/
def pickRelaxesSpec : ChangeSpec := { name := "pickRelaxes", fn := fun _ => fun
  | [d1, d2] => { results := [.lit (.bool true)], args := [d1, d2] }
  | _ => none }
def pickRelaxesRow : OpenClaim := { program := "ytlflghggdpbcnaagreat", sum := "6e37a5b7d3bd2c3ac94ee9374f5637071bd800df3f11bcf7a9905097ea424ae8", func := "clevis/clevislaw25.PickRelaxes", spec := "pickRelaxes", inPlace := ["internal/reflectlite.TypeOf", "maps.clone"], unfollowed := true, recurses := true, plainKeys := false, apart := false }
def PickRelaxesSaid : Prop := pickRelaxesRow.holds Tryz.pinned (OpenSpec.ofChange pickRelaxesSpec)

/-- ITS FALSE NEIGHBOUR: 'it returns false'. Refute it at one input. -/
def pickRelaxesWrong : ChangeSpec := { name := "pickRelaxes", fn := fun _ => fun
  | [d1, d2] => { results := [.lit (.bool false)], args := [d1, d2] }
  | _ => none }
def PickRelaxesWrongFalsely : Prop := pickRelaxesRow.holds Tryz.pinned (OpenSpec.ofChange pickRelaxesWrong)

/-- 'clevislaw25.PickFar': WHATEVER THE INPUT: true; the input reads as it did. -/
def pickFarSpec : ChangeSpec := { name := "pickFar", fn := fun _ => fun
  | [d1, d2, d3, d4] => { results := [.lit (.bool true)], args := [d1, d2, d3, d4] }
  | _ => none }
def pickFarRow : OpenClaim := { program := "ytlflghggdpbcnaagreat", sum := "6e37a5b7d3bd2c3ac94ee9374f5637071bd800df3f11bcf7a9905097ea424ae8", func := "clevis/clevislaw25.PickFar", spec := "pickFar", inPlace := ["internal/reflectlite.TypeOf", "maps.clone"], unfollowed := true, recurses := true, plainKeys := false, apart := false }
def PickFarSaid : Prop := pickFarRow.holds Tryz.pinned (OpenSpec.ofChange pickFarSpec)

/-- ITS FALSE NEIGHBOUR: 'it returns false'. Refute it at one input. -/
def pickFarWrong : ChangeSpec := { name := "pickFar", fn := fun _ => fun
  | [d1, d2, d3, d4] => { results := [.lit (.bool false)], args := [d1, d2, d3, d4] }
  | _ => none }
def PickFarWrongFalsely : Prop := pickFarRow.holds Tryz.pinned (OpenSpec.ofChange pickFarWrong)

/- THE SECOND FORM. 'bulk': how many values and letters a reading holds, each counted each time it is reached (what is shared counts as often as it is met; a slice's spare places count too). A statement '..UptoSaid' is the law's where the arguments, and the package variables that the reading takes, are together of bulk at most 1048576: NARROWER than '..Said'. Prove '..Said' where nothing that the law and all that it calls make is longer than what came in: it says more and counts as full. Else prove '..UptoSaid'. A law counts once. -/
mutual
def uptoBulk {H : Type} : DataW H → Nat
  | .lit (.string bytes) => bytes.length + 1
  | .lit _ => 1
  | .nil => 1
  | .ptr d => uptoBulk d + 1
  | .slice elems spare => uptoBulkAll elems + uptoBulkAll spare + 1
  | .agg parts => uptoBulkAll parts + 1
  | .iface _ d => uptoBulk d + 1
  | .map entries => uptoBulkEntries entries + 1
  | .held _ => 1
def uptoBulkAll {H : Type} : List (DataW H) → Nat
  | [] => 0
  | d :: r => uptoBulk d + uptoBulkAll r
def uptoBulkEntries {H : Type} : List (Lit × DataW H) → Nat
  | [] => 0
  | x :: r => uptoBulkEntry x + uptoBulkEntries r
def uptoBulkEntry {H : Type} : Lit × DataW H → Nat
  | (.string bytes, d) => bytes.length + uptoBulk d + 1
  | (_, d) => uptoBulk d + 1
 end
def uptoSmall : (H : Type) → List (DataW H) → Bool := fun _ ds => decide (uptoBulkAll ds ≤ 1048576)
def OpenSpec.upto (s : _root_.Go.ChangeSpec) : _root_.Go.OpenSpec := { _root_.Go.OpenSpec.ofChange s with cond := some uptoSmall }

/-- 'clevislaw22.AllocStraight', WHERE WHAT IT READS IS OF BULK AT MOST 1048576: true; the input reads as it did. -/
def allocStraightUptoRow : OpenClaim := { program := "ytlflghggdpbcnaagreat", sum := "6e37a5b7d3bd2c3ac94ee9374f5637071bd800df3f11bcf7a9905097ea424ae8", func := "clevis/clevislaw22.AllocStraight", spec := "allocStraight", inPlace := ["internal/reflectlite.TypeOf", "maps.clone"], unfollowed := true, recurses := true, plainKeys := false, apart := false, narrowed := true }
def AllocStraightUptoSaid : Prop := allocStraightUptoRow.holds Tryz.pinned (OpenSpec.upto allocStraightSpec)

/-- 'clevislaw22.AllocMoves', WHERE WHAT IT READS IS OF BULK AT MOST 1048576: true; the input reads as it did. -/
def allocMovesUptoRow : OpenClaim := { program := "ytlflghggdpbcnaagreat", sum := "6e37a5b7d3bd2c3ac94ee9374f5637071bd800df3f11bcf7a9905097ea424ae8", func := "clevis/clevislaw22.AllocMoves", spec := "allocMoves", inPlace := ["internal/reflectlite.TypeOf", "maps.clone"], unfollowed := true, recurses := true, plainKeys := false, apart := false, narrowed := true }
def AllocMovesUptoSaid : Prop := allocMovesUptoRow.holds Tryz.pinned (OpenSpec.upto allocMovesSpec)

/-- 'clevislaw22.AllocDoes', WHERE WHAT IT READS IS OF BULK AT MOST 1048576: true; the input reads as it did. -/
def allocDoesUptoRow : OpenClaim := { program := "ytlflghggdpbcnaagreat", sum := "6e37a5b7d3bd2c3ac94ee9374f5637071bd800df3f11bcf7a9905097ea424ae8", func := "clevis/clevislaw22.AllocDoes", spec := "allocDoes", inPlace := ["internal/reflectlite.TypeOf", "maps.clone"], unfollowed := true, recurses := true, plainKeys := false, apart := false, narrowed := true }
def AllocDoesUptoSaid : Prop := allocDoesUptoRow.holds Tryz.pinned (OpenSpec.upto allocDoesSpec)

/-- 'clevislaw25.PickMakes', WHERE WHAT IT READS IS OF BULK AT MOST 1048576: true; the input reads as it did. -/
def pickMakesUptoRow : OpenClaim := { program := "ytlflghggdpbcnaagreat", sum := "6e37a5b7d3bd2c3ac94ee9374f5637071bd800df3f11bcf7a9905097ea424ae8", func := "clevis/clevislaw25.PickMakes", spec := "pickMakes", inPlace := ["internal/reflectlite.TypeOf", "maps.clone"], unfollowed := true, recurses := true, plainKeys := false, apart := false, narrowed := true }
def PickMakesUptoSaid : Prop := pickMakesUptoRow.holds Tryz.pinned (OpenSpec.upto pickMakesSpec)

/-- 'clevislaw25.PickShort', WHERE WHAT IT READS IS OF BULK AT MOST 1048576: true; the input reads as it did. -/
def pickShortUptoRow : OpenClaim := { program := "ytlflghggdpbcnaagreat", sum := "6e37a5b7d3bd2c3ac94ee9374f5637071bd800df3f11bcf7a9905097ea424ae8", func := "clevis/clevislaw25.PickShort", spec := "pickShort", inPlace := ["internal/reflectlite.TypeOf", "maps.clone"], unfollowed := true, recurses := true, plainKeys := false, apart := false, narrowed := true }
def PickShortUptoSaid : Prop := pickShortUptoRow.holds Tryz.pinned (OpenSpec.upto pickShortSpec)

/-- 'clevislaw25.PickWide', WHERE WHAT IT READS IS OF BULK AT MOST 1048576: true; the input reads as it did. -/
def pickWideUptoRow : OpenClaim := { program := "ytlflghggdpbcnaagreat", sum := "6e37a5b7d3bd2c3ac94ee9374f5637071bd800df3f11bcf7a9905097ea424ae8", func := "clevis/clevislaw25.PickWide", spec := "pickWide", inPlace := ["internal/reflectlite.TypeOf", "maps.clone"], unfollowed := true, recurses := true, plainKeys := false, apart := false, narrowed := true }
def PickWideUptoSaid : Prop := pickWideUptoRow.holds Tryz.pinned (OpenSpec.upto pickWideSpec)

/-- 'clevislaw25.PickRelaxes', WHERE WHAT IT READS IS OF BULK AT MOST 1048576: true; the input reads as it did. -/
def pickRelaxesUptoRow : OpenClaim := { program := "ytlflghggdpbcnaagreat", sum := "6e37a5b7d3bd2c3ac94ee9374f5637071bd800df3f11bcf7a9905097ea424ae8", func := "clevis/clevislaw25.PickRelaxes", spec := "pickRelaxes", inPlace := ["internal/reflectlite.TypeOf", "maps.clone"], unfollowed := true, recurses := true, plainKeys := false, apart := false, narrowed := true }
def PickRelaxesUptoSaid : Prop := pickRelaxesUptoRow.holds Tryz.pinned (OpenSpec.upto pickRelaxesSpec)

/-- 'clevislaw25.PickFar', WHERE WHAT IT READS IS OF BULK AT MOST 1048576: true; the input reads as it did. -/
def pickFarUptoRow : OpenClaim := { program := "ytlflghggdpbcnaagreat", sum := "6e37a5b7d3bd2c3ac94ee9374f5637071bd800df3f11bcf7a9905097ea424ae8", func := "clevis/clevislaw25.PickFar", spec := "pickFar", inPlace := ["internal/reflectlite.TypeOf", "maps.clone"], unfollowed := true, recurses := true, plainKeys := false, apart := false, narrowed := true }
def PickFarUptoSaid : Prop := pickFarUptoRow.holds Tryz.pinned (OpenSpec.upto pickFarSpec)

end Rows
end Go.Proofs.YtlflghggdpbcnaaGreat
