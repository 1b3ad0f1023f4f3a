/-
 For every layout, code and facts the law says true: without facts nothing changes, with them once is enough, and its arguments read as they did.
-/
import Derived.Test.YtijcpefcfcbcnaaRows
import Derived.WalkKit
import Derived.ProofKit
import Derived.OpenShut
import Derived.SizedLaws
import Derived.Test.YtijcpefcfcbcnaaIeE
import Derived.Test.YtijcpefcfcbcnaaIxC
set_option linter.unusedSimpArgs false
set_option linter.unusedVariables false
namespace Go.Proofs.Ytijcpefcfcbcnaa.checksNone
open Go.ChangeShapes Go.WideShapes Go.ChangeAt Go.RowKit Go.Cm
theorem own:ownKnob Try.prog.godebug=none:=by kernel_rfl
theorem laid:laidOutB Try.prog=true:=by kernel_rfl
set_option maxRecDepth 100000 in
theorem lifted (os:Os) (started:os.Started) (H:Type) (enc:TypeId×Value→H) :
  ReturnsInHanded {} Try.checked os 3 .any (Rows.checksNoneSpec.pre6 enc Try.prog Try.f3 Rows.checksNoneRow.domain false) (Rows.checksNoneSpec.post enc Try.prog Try.f3 false true false false):=by
 refine returnsInHanded_of_change_sized (C:=Try.checked) own started (by kernel_rfl) Try.func3
  (ChangeSpec.witness6 (enc:=enc) (C:=Try.checked) false ⟨#[],#[.agg #[.int .i64 0,.bool false,.slice none 0 0],.agg #[.slice none 0 0,.int .i64 0],.slice none 0 0],[]⟩ 8 (by kernel_rfl) (by kernel_rfl) (by kernel_rfl) (by kernel_rfl)) ?_
 intro W base args ds gs before hval hW hcnd hwt _
 refine nA (n:=8) laid (by kernel_rfl) rfl (tb:=4) (by kernel_rfl) Try.underlying4 ?_ ?_ hval hwt hW
 ·intro ds hl
  have hl':ds.length=3:=hl
  match ds,hl' with
  |[d0,d1,d2],_=>rfl
 ·intro xs h hf
  have h:oks (D.ok Try.prog 8) Try.f3.params.toList xs:=h
  have hf:oks (D.fit Try.prog 8) Try.f3.params.toList xs:=hf
  rw[Try.params3] at h hf
  obtain⟨e1,r1,rfl,k1,h⟩:=bm h
  obtain⟨e2,r2,rfl,k2,h⟩:=bm h
  obtain⟨e3,r3,rfl,k3,h⟩:=bm h
  obtain rfl:=fA h
  obtain⟨l,⟨_,q1⟩,_⟩:=lay_of (n:=4) k1
  obtain⟨f,q2,w2⟩:=code_of (n:=1) k2 hf.2.1
  obtain⟨fs,q3,w3⟩:=DW (n:=5) k3
  obtain⟨_,⟨H',rfl⟩,this⟩:=Go.Cm.x3 l f fs w2.fit w3 (fun p hp=>(w2.parts p hp).nb)
  refine⟨H',?_⟩
  have:=Fw_sim EE_sim Ee mg _ _ _ _ _ this
  rw[←q1,←q2,←q3] at this
  exact this
theorem over:Rows.checksNoneRow.holds Try.pinned (OpenSpec.ofChange Rows.checksNoneSpec):=
 OpenClaim.holds_of_wide 3 Try.f3 rfl rfl rfl rfl rfl rfl rfl ⟨rfl,rfl,rfl,rfl,rfl⟩ rfl rfl rfl rfl rfl (by kernel_rfl) Try.func3 (by kernel_rfl)
  (of_decide_eq_true (by kernel_rfl)) (by unfold Func.isWrapper;first|(rw[if_pos (by decide +kernel)];kernel_rfl)|(rw[if_neg (by decide +kernel)];exact⟨rfl,rfl⟩))
  (fun os started H enc _=>lifted os started H enc)
theorem proved:Rows.ChecksNoneSaid:=over
end Go.Proofs.Ytijcpefcfcbcnaa.checksNone
