/-
  No cell of these rows narrows 'for every input' (looked for: loops, veiled, ifaces, maps, wideKeys, modest, calm, conditions, laid).
  DERIVED. THE GIVEN ROWS OF THIS SEAT. 7 by the template 'for every input the law returns true; each argument reads behind the call as it read before'; 0 by the template 'total and deterministic' (their statements: YtjmmeeokpncdbaaTotals.lean).
  GIVEN WITH THE SEED: the statements are not yours to turn. If you find one false, say at which input.
  Laid BY PROGRAM, IN A SANDBOX (cutbox-rows.mjs): the forced cells as the released guide's own fill.sh prints them over the translation 9f4e4f53a30dc1d1… (all of the seat's roots in one cut). By AI agents, Wed Nov 11 2026. No macro, syntax, notation, axiom, sorry.
-/
import Derived.Test.YtjmmeeokpncdbaaChecked
import GoSem.Claim
import GoSem.ClaimJoined
import GoSem.ClaimMapViews
import Derived.JoinedTies
import Derived.KernelRfl
namespace Go.Proofs.Ytjmmeeokpncdbaa
/- THE CELL 'sum', in the pinned program and in every row, IS THE sha256 OF THE DUMP (.gsa) THAT YtjmmeeokpncdbaaProg.lean LOADS. Nothing in Lean hashes anything: it is a label: what it is worth is what the hold of that sum in a sandbox is worth. -/
noncomputable def Try.pinned : Pinned := { name := "ytjmmeeokpncdbaa", sum := "9f4e4f53a30dc1d1a564b94ef984d2124c5c053a660a883c80067ec0353837d4", checked := Try.checked }
namespace Rows
def none {H : Type} : Left H := { results := [], args := [] }

/-- 'clevislaw20.ChecksNone': WHATEVER THE INPUT: true; the input reads as it did. -/
def checksNoneSpec : ChangeSpec := { name := "checksNone", fn := fun _ => fun
  | [d1, d2, d3] => { results := [.lit (.bool true)], args := [d1, d2, d3] }
  | _ => none }
def checksNoneRow : OpenClaim := { program := "ytjmmeeokpncdbaa", sum := "9f4e4f53a30dc1d1a564b94ef984d2124c5c053a660a883c80067ec0353837d4", func := "clevis/clevislaw20.ChecksNone", spec := "checksNone", inPlace := ["internal/reflectlite.TypeOf"], unfollowed := true, recurses := true, apart := false }
def ChecksNoneSaid : Prop := checksNoneRow.holds Try.pinned (OpenSpec.ofChange checksNoneSpec)

/-- ITS FALSE NEIGHBOUR: 'it returns false'. Refute it at one input. -/
def checksNoneWrong : ChangeSpec := { name := "checksNone", fn := fun _ => fun
  | [d1, d2, d3] => { results := [.lit (.bool false)], args := [d1, d2, d3] }
  | _ => none }
def ChecksNoneWrongFalsely : Prop := checksNoneRow.holds Try.pinned (OpenSpec.ofChange checksNoneWrong)

/-- 'clevislaw20.ChecksFree': WHATEVER THE INPUT: true; the input reads as it did. -/
def checksFreeSpec : ChangeSpec := { name := "checksFree", fn := fun _ => fun
  | [d1, d2, d3, d4] => { results := [.lit (.bool true)], args := [d1, d2, d3, d4] }
  | _ => none }
def checksFreeRow : OpenClaim := { program := "ytjmmeeokpncdbaa", sum := "9f4e4f53a30dc1d1a564b94ef984d2124c5c053a660a883c80067ec0353837d4", func := "clevis/clevislaw20.ChecksFree", spec := "checksFree", inPlace := ["internal/reflectlite.TypeOf"], unfollowed := true, recurses := true, apart := false }
def ChecksFreeSaid : Prop := checksFreeRow.holds Try.pinned (OpenSpec.ofChange checksFreeSpec)

/-- ITS FALSE NEIGHBOUR: 'it returns false'. Refute it at one input. -/
def checksFreeWrong : ChangeSpec := { name := "checksFree", fn := fun _ => fun
  | [d1, d2, d3, d4] => { results := [.lit (.bool false)], args := [d1, d2, d3, d4] }
  | _ => none }
def ChecksFreeWrongFalsely : Prop := checksFreeRow.holds Try.pinned (OpenSpec.ofChange checksFreeWrong)

/-- 'clevislaw20.ChecksProves': WHATEVER THE INPUT: true; the input reads as it did. -/
def checksProvesSpec : ChangeSpec := { name := "checksProves", fn := fun _ => fun
  | [d1, d2, d3, d4, d5] => { results := [.lit (.bool true)], args := [d1, d2, d3, d4, d5] }
  | _ => none }
def checksProvesRow : OpenClaim := { program := "ytjmmeeokpncdbaa", sum := "9f4e4f53a30dc1d1a564b94ef984d2124c5c053a660a883c80067ec0353837d4", func := "clevis/clevislaw20.ChecksProves", spec := "checksProves", inPlace := ["internal/reflectlite.TypeOf"], unfollowed := true, recurses := true, apart := false }
def ChecksProvesSaid : Prop := checksProvesRow.holds Try.pinned (OpenSpec.ofChange checksProvesSpec)

/-- ITS FALSE NEIGHBOUR: 'it returns false'. Refute it at one input. -/
def checksProvesWrong : ChangeSpec := { name := "checksProves", fn := fun _ => fun
  | [d1, d2, d3, d4, d5] => { results := [.lit (.bool false)], args := [d1, d2, d3, d4, d5] }
  | _ => none }
def ChecksProvesWrongFalsely : Prop := checksProvesRow.holds Try.pinned (OpenSpec.ofChange checksProvesWrong)

/-- 'clevislaw19.DeadGoes': WHATEVER THE INPUT: true; the input reads as it did. -/
def deadGoesSpec : ChangeSpec := { name := "deadGoes", fn := fun _ => fun
  | [d] => { results := [.lit (.bool true)], args := [d] }
  | _ => none }
def deadGoesRow : OpenClaim := { program := "ytjmmeeokpncdbaa", sum := "9f4e4f53a30dc1d1a564b94ef984d2124c5c053a660a883c80067ec0353837d4", func := "clevis/clevislaw19.DeadGoes", spec := "deadGoes", inPlace := ["internal/reflectlite.TypeOf"], unfollowed := true, recurses := true, apart := false }
def DeadGoesSaid : Prop := deadGoesRow.holds Try.pinned (OpenSpec.ofChange deadGoesSpec)

/-- ITS FALSE NEIGHBOUR: 'it returns false'. Refute it at one input. -/
def deadGoesWrong : ChangeSpec := { name := "deadGoes", fn := fun _ => fun
  | [d] => { results := [.lit (.bool false)], args := [d] }
  | _ => none }
def DeadGoesWrongFalsely : Prop := deadGoesRow.holds Try.pinned (OpenSpec.ofChange deadGoesWrong)

/-- 'clevislaw19.DeadOnce': WHATEVER THE INPUT: true; the input reads as it did. -/
def deadOnceSpec : ChangeSpec := { name := "deadOnce", fn := fun _ => fun
  | [d] => { results := [.lit (.bool true)], args := [d] }
  | _ => none }
def deadOnceRow : OpenClaim := { program := "ytjmmeeokpncdbaa", sum := "9f4e4f53a30dc1d1a564b94ef984d2124c5c053a660a883c80067ec0353837d4", func := "clevis/clevislaw19.DeadOnce", spec := "deadOnce", inPlace := ["internal/reflectlite.TypeOf"], unfollowed := true, recurses := true, apart := false }
def DeadOnceSaid : Prop := deadOnceRow.holds Try.pinned (OpenSpec.ofChange deadOnceSpec)

/-- ITS FALSE NEIGHBOUR: 'it returns false'. Refute it at one input. -/
def deadOnceWrong : ChangeSpec := { name := "deadOnce", fn := fun _ => fun
  | [d] => { results := [.lit (.bool false)], args := [d] }
  | _ => none }
def DeadOnceWrongFalsely : Prop := deadOnceRow.holds Try.pinned (OpenSpec.ofChange deadOnceWrong)

/-- 'clevislaw19.DeadUses': WHATEVER THE INPUT: true; the input reads as it did. -/
def deadUsesSpec : ChangeSpec := { name := "deadUses", fn := fun _ => fun
  | [d] => { results := [.lit (.bool true)], args := [d] }
  | _ => none }
def deadUsesRow : OpenClaim := { program := "ytjmmeeokpncdbaa", sum := "9f4e4f53a30dc1d1a564b94ef984d2124c5c053a660a883c80067ec0353837d4", func := "clevis/clevislaw19.DeadUses", spec := "deadUses", inPlace := ["internal/reflectlite.TypeOf"], unfollowed := true, recurses := true, apart := false }
def DeadUsesSaid : Prop := deadUsesRow.holds Try.pinned (OpenSpec.ofChange deadUsesSpec)

/-- ITS FALSE NEIGHBOUR: 'it returns false'. Refute it at one input. -/
def deadUsesWrong : ChangeSpec := { name := "deadUses", fn := fun _ => fun
  | [d] => { results := [.lit (.bool false)], args := [d] }
  | _ => none }
def DeadUsesWrongFalsely : Prop := deadUsesRow.holds Try.pinned (OpenSpec.ofChange deadUsesWrong)

/-- 'clevislaw18.FoldOnce': WHATEVER THE INPUT: true; the input reads as it did. -/
def foldOnceSpec : ChangeSpec := { name := "foldOnce", fn := fun _ => fun
  | [d] => { results := [.lit (.bool true)], args := [d] }
  | _ => none }
def foldOnceRow : OpenClaim := { program := "ytjmmeeokpncdbaa", sum := "9f4e4f53a30dc1d1a564b94ef984d2124c5c053a660a883c80067ec0353837d4", func := "clevis/clevislaw18.FoldOnce", spec := "foldOnce", inPlace := ["internal/reflectlite.TypeOf"], unfollowed := true, recurses := true, apart := false }
def FoldOnceSaid : Prop := foldOnceRow.holds Try.pinned (OpenSpec.ofChange foldOnceSpec)

/-- ITS FALSE NEIGHBOUR: 'it returns false'. Refute it at one input. -/
def foldOnceWrong : ChangeSpec := { name := "foldOnce", fn := fun _ => fun
  | [d] => { results := [.lit (.bool false)], args := [d] }
  | _ => none }
def FoldOnceWrongFalsely : Prop := foldOnceRow.holds Try.pinned (OpenSpec.ofChange foldOnceWrong)

/- THE SECOND FORM. 'bulk': how many values and letters a reading holds, each counted each time it is reached (what is shared counts as often as it is met; a slice's spare places count too). A statement '..UptoSaid' is the law's where the arguments, and the package variables that the reading takes, are together of bulk at most 1048576: NARROWER than '..Said'. Prove '..Said' where nothing that the law and all that it calls make is longer than what came in: it says more and counts as full. Else prove '..UptoSaid'. A law counts once. -/
mutual
def uptoBulk {H : Type} : DataW H → Nat
  | .lit (.string bytes) => bytes.length + 1
  | .lit _ => 1
  | .nil => 1
  | .ptr d => uptoBulk d + 1
  | .slice elems spare => uptoBulkAll elems + uptoBulkAll spare + 1
  | .agg parts => uptoBulkAll parts + 1
  | .iface _ d => uptoBulk d + 1
  | .map entries => uptoBulkEntries entries + 1
  | .held _ => 1
def uptoBulkAll {H : Type} : List (DataW H) → Nat
  | [] => 0
  | d :: r => uptoBulk d + uptoBulkAll r
def uptoBulkEntries {H : Type} : List (Lit × DataW H) → Nat
  | [] => 0
  | x :: r => uptoBulkEntry x + uptoBulkEntries r
def uptoBulkEntry {H : Type} : Lit × DataW H → Nat
  | (.string bytes, d) => bytes.length + uptoBulk d + 1
  | (_, d) => uptoBulk d + 1
 end
def uptoSmall : (H : Type) → List (DataW H) → Bool := fun _ ds => decide (uptoBulkAll ds ≤ 1048576)
def OpenSpec.upto (s : _root_.Go.ChangeSpec) : _root_.Go.OpenSpec := { _root_.Go.OpenSpec.ofChange s with cond := some uptoSmall }

/-- 'clevislaw20.ChecksNone', WHERE WHAT IT READS IS OF BULK AT MOST 1048576: true; the input reads as it did. -/
def checksNoneUptoRow : OpenClaim := { program := "ytjmmeeokpncdbaa", sum := "9f4e4f53a30dc1d1a564b94ef984d2124c5c053a660a883c80067ec0353837d4", func := "clevis/clevislaw20.ChecksNone", spec := "checksNone", inPlace := ["internal/reflectlite.TypeOf"], unfollowed := true, recurses := true, apart := false, narrowed := true }
def ChecksNoneUptoSaid : Prop := checksNoneUptoRow.holds Try.pinned (OpenSpec.upto checksNoneSpec)

/-- 'clevislaw20.ChecksFree', WHERE WHAT IT READS IS OF BULK AT MOST 1048576: true; the input reads as it did. -/
def checksFreeUptoRow : OpenClaim := { program := "ytjmmeeokpncdbaa", sum := "9f4e4f53a30dc1d1a564b94ef984d2124c5c053a660a883c80067ec0353837d4", func := "clevis/clevislaw20.ChecksFree", spec := "checksFree", inPlace := ["internal/reflectlite.TypeOf"], unfollowed := true, recurses := true, apart := false, narrowed := true }
def ChecksFreeUptoSaid : Prop := checksFreeUptoRow.holds Try.pinned (OpenSpec.upto checksFreeSpec)

/-- 'clevislaw20.ChecksProves', WHERE WHAT IT READS IS OF BULK AT MOST 1048576: true; the input reads as it did. -/
def checksProvesUptoRow : OpenClaim := { program := "ytjmmeeokpncdbaa", sum := "9f4e4f53a30dc1d1a564b94ef984d2124c5c053a660a883c80067ec0353837d4", func := "clevis/clevislaw20.ChecksProves", spec := "checksProves", inPlace := ["internal/reflectlite.TypeOf"], unfollowed := true, recurses := true, apart := false, narrowed := true }
def ChecksProvesUptoSaid : Prop := checksProvesUptoRow.holds Try.pinned (OpenSpec.upto checksProvesSpec)

/-- 'clevislaw19.DeadGoes', WHERE WHAT IT READS IS OF BULK AT MOST 1048576: true; the input reads as it did. -/
def deadGoesUptoRow : OpenClaim := { program := "ytjmmeeokpncdbaa", sum := "9f4e4f53a30dc1d1a564b94ef984d2124c5c053a660a883c80067ec0353837d4", func := "clevis/clevislaw19.DeadGoes", spec := "deadGoes", inPlace := ["internal/reflectlite.TypeOf"], unfollowed := true, recurses := true, apart := false, narrowed := true }
def DeadGoesUptoSaid : Prop := deadGoesUptoRow.holds Try.pinned (OpenSpec.upto deadGoesSpec)

/-- 'clevislaw19.DeadOnce', WHERE WHAT IT READS IS OF BULK AT MOST 1048576: true; the input reads as it did. -/
def deadOnceUptoRow : OpenClaim := { program := "ytjmmeeokpncdbaa", sum := "9f4e4f53a30dc1d1a564b94ef984d2124c5c053a660a883c80067ec0353837d4", func := "clevis/clevislaw19.DeadOnce", spec := "deadOnce", inPlace := ["internal/reflectlite.TypeOf"], unfollowed := true, recurses := true, apart := false, narrowed := true }
def DeadOnceUptoSaid : Prop := deadOnceUptoRow.holds Try.pinned (OpenSpec.upto deadOnceSpec)

/-- 'clevislaw19.DeadUses', WHERE WHAT IT READS IS OF BULK AT MOST 1048576: true; the input reads as it did. -/
def deadUsesUptoRow : OpenClaim := { program := "ytjmmeeokpncdbaa", sum := "9f4e4f53a30dc1d1a564b94ef984d2124c5c053a660a883c80067ec0353837d4", func := "clevis/clevislaw19.DeadUses", spec := "deadUses", inPlace := ["internal/reflectlite.TypeOf"], unfollowed := true, recurses := true, apart := false, narrowed := true }
def DeadUsesUptoSaid : Prop := deadUsesUptoRow.holds Try.pinned (OpenSpec.upto deadUsesSpec)

/-- 'clevislaw18.FoldOnce', WHERE WHAT IT READS IS OF BULK AT MOST 1048576: true; the input reads as it did. -/
def foldOnceUptoRow : OpenClaim := { program := "ytjmmeeokpncdbaa", sum := "9f4e4f53a30dc1d1a564b94ef984d2124c5c053a660a883c80067ec0353837d4", func := "clevis/clevislaw18.FoldOnce", spec := "foldOnce", inPlace := ["internal/reflectlite.TypeOf"], unfollowed := true, recurses := true, apart := false, narrowed := true }
def FoldOnceUptoSaid : Prop := foldOnceUptoRow.holds Try.pinned (OpenSpec.upto foldOnceSpec)

end Rows
end Go.Proofs.Ytjmmeeokpncdbaa
