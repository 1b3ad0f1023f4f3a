/-
 For every layout, code, facts and size the law says true: which guards facts make needless is as the document says, and its arguments read as they did.
-/
import Derived.Test.YtijcpefcfcbcnaaRows
import Derived.WalkKit
import Derived.ProofKit
import Derived.OpenShut
import Derived.SizedLaws
import Derived.Test.YtijcpefcfcbcnaaIeE
import Derived.Test.YtijcpefcfcbcnaaIxC
set_option linter.unusedSimpArgs false
set_option linter.unusedVariables false
namespace Go.Proofs.Ytijcpefcfcbcnaa.checksFree
open Go.ChangeShapes Go.WideShapes Go.ChangeAt Go.RowKit Go.Cm
theorem own:ownKnob Try.prog.godebug=none:=by kernel_rfl
theorem laid:laidOutB Try.prog=true:=by kernel_rfl
set_option maxRecDepth 100000 in
theorem lifted (os:Os) (started:os.Started) (H:Type) (enc:TypeId×Value→H) :
  ReturnsInHanded {} Try.checked os 4 .any (Rows.checksFreeSpec.pre6 enc Try.prog Try.f4 Rows.checksFreeRow.domain false) (Rows.checksFreeSpec.post enc Try.prog Try.f4 false true false false):=by
 refine returnsInHanded_of_change_sized (C:=Try.checked) own started (by kernel_rfl) Try.func4
  (ChangeSpec.witness6 (enc:=enc) (C:=Try.checked) false ⟨#[],#[.agg #[.int .i64 0,.bool false,.slice none 0 0],.agg #[.slice none 0 0,.int .i64 0],.slice none 0 0,.int .i64 0],[]⟩ 8 (by kernel_rfl) (by kernel_rfl) (by kernel_rfl) (by kernel_rfl)) ?_
 intro W base args ds gs before hval hW hcnd hwt _
 refine nA (n:=8) laid (by kernel_rfl) rfl (tb:=4) (by kernel_rfl) Try.underlying4 ?_ ?_ hval hwt hW
 ·intro ds hl
  have hl':ds.length=4:=hl
  match ds,hl' with
  |[d0,d1,d2,d3],_=>rfl
 ·intro xs h hf
  have h:oks (D.ok Try.prog 8) Try.f4.params.toList xs:=h
  have hf:oks (D.fit Try.prog 8) Try.f4.params.toList xs:=hf
  rw[Try.params4] at h hf
  obtain⟨e1,r1,rfl,k1,h⟩:=bm h
  obtain⟨e2,r2,rfl,k2,h⟩:=bm h
  obtain⟨e3,r3,rfl,k3,h⟩:=bm h
  obtain⟨e4,r4,rfl,k4,h⟩:=bm h
  obtain rfl:=fA h
  obtain⟨l,⟨_,q1⟩,_⟩:=lay_of (n:=4) k1
  obtain⟨f,q2,w2⟩:=code_of (n:=1) k2 hf.2.1
  obtain⟨fs,q3,w3⟩:=DW (n:=5) k3
  obtain⟨x4,rfl,_⟩:=dp Try.underlying3 k4
  obtain⟨_,⟨H',rfl⟩,this⟩:=Go.Cm.x4 l f fs x4 w2.fit w3 (fun p hp=>(w2.parts p hp).nb)
  refine⟨H',?_⟩
  have:=Fw_sim EE_sim Ee mg _ _ _ _ _ this
  rw[←q1,←q2,←q3] at this
  exact this
theorem over:Rows.checksFreeRow.holds Try.pinned (OpenSpec.ofChange Rows.checksFreeSpec):=
 OpenClaim.holds_of_wide 4 Try.f4 rfl rfl rfl rfl rfl rfl rfl ⟨rfl,rfl,rfl,rfl,rfl⟩ rfl rfl rfl rfl rfl (by kernel_rfl) Try.func4 (by kernel_rfl)
  (of_decide_eq_true (by kernel_rfl)) (by unfold Func.isWrapper;first|(rw[if_pos (by decide +kernel)];kernel_rfl)|(rw[if_neg (by decide +kernel)];exact⟨rfl,rfl⟩))
  (fun os started H enc _=>lifted os started H enc)
theorem proved:Rows.ChecksFreeSaid:=over
end Go.Proofs.Ytijcpefcfcbcnaa.checksFree
