import Derived.Test.YtijcpefcfcbcnaaCxD
import Derived.Test.YtijcpefcfcbcnaaCxH
import Derived.Test.YtijcpefcfcbcnaaIyG
import Derived.Test.YtijcpefcfcbcnaaGrB
import Derived.Test.YtijcpefcfcbcnaaIdA
set_option linter.unusedSimpArgs false
set_option linter.unusedVariables false
namespace Go.Cm
open Go.Proofs
def fh (l:Lay) (f:Fact) (n:Int) (w:Bool):Bool:=
 match df l f.region with
 |none=>false
 |some a=>f.seen&&decide (1≤n∧n≤a.size)&&(!w||a.write)&&decide (0≤f.low∧f.low≤f.high∧f.high≤a.size - n)
end Go.Cm
namespace Go.Cm
open Go.Proofs
noncomputable section
abbrev R42:=rg 42 Try.f42
def c42:SC:=
 (.seq (.reg false (some [0]) (R42 0)) (.seq (.seq (.reg false (some [0,4]) (R42 1)) (.cond (.tmp 4) (.seq (.reg false (some [2]) (R42 2)) .ret) .nop)) (.seq (.reg false (some [2]) (R42 3)) .ret)))
theorem s42:Try.f42.body.bind (bh Try.prog An 42 Try.f42.ntmps)=some c42:=by kernel_rfl
theorem g42:An.glob 42=[]:=rfl
theorem r42:Try.f42.results.toList=[(.tmp 2)]:=by kernel_rfl
abbrev R43:=rg 43 Try.f43
def c43:SC:=
 (.seq (.reg false (some [0]) (R43 0)) (.seq (.seq (.reg false (some [0,4]) (R43 1)) (.cond (.tmp 4) (.seq (.reg false (some [2]) (R43 2)) .ret) .nop)) (.seq (.reg false (some [2]) (R43 3)) .ret)))
theorem s43:Try.f43.body.bind (bh Try.prog An 43 Try.f43.ntmps)=some c43:=by kernel_rfl
theorem g43:An.glob 43=[]:=rfl
theorem r43:Try.f43.results.toList=[(.tmp 2)]:=by kernel_rfl
end
end Go.Cm
namespace Go.Cm
open Go.Proofs Go.Ir Go.Gr
end Go.Cm
