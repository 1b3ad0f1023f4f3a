/-
 For every program and place the law says true: its blocks, what one may come to, and where a place is, are as the document says.
-/
import Derived.Test.YtjhndbgokapikaaRows
import Derived.WalkKit
import Derived.ProofKit
import Derived.OpenShut
import Derived.SizedLaws
import Derived.Test.YtjhndbgokapikaaFqA
set_option linter.unusedSimpArgs false
set_option linter.unusedVariables false
namespace Go.Proofs.Ytjhndbgokapikaa.flowBlocks
open Go.ChangeShapes Go.WideShapes Go.ChangeAt Go.RowKit Go.Cm
theorem own:ownKnob Try.prog.godebug=none:=by kernel_rfl
theorem laid:laidOutB Try.prog=true:=by kernel_rfl
set_option maxRecDepth 100000 in
theorem lifted (os:Os) (started:os.Started) (H:Type) (enc:TypeId×Value→H) :
  ReturnsInHanded {} Try.checked os 3 .any (Rows.flowBlocksSpec.pre6 enc Try.prog Try.f3 Rows.flowBlocksRow.domain false) (Rows.flowBlocksSpec.post enc Try.prog Try.f3 false true false false):=by
 refine returnsInHanded_of_change_sized (C:=Try.checked) own started (by kernel_rfl) Try.func3
  (ChangeSpec.witness6 (enc:=enc) (C:=Try.checked) false ⟨#[],#[.slice none 0 0,.int .i64 0],[]⟩ 8 (by kernel_rfl) (by kernel_rfl) (by kernel_rfl) (by kernel_rfl)) ?_
 intro W base args ds gs before hval hW hcnd hwt _;refine nA (n:=8) laid (by kernel_rfl) rfl (tb:=4) (by kernel_rfl) Try.underlying4 ?_ ?_ hval hwt hW
 ·intro ds hl
  have hl':ds.length=2:=hl
  match ds,hl' with
  |[d0,d1],_=>rfl
 ·intro xs h hf
  have h:oks (D.ok Try.prog 8) Try.f3.params.toList xs:=h;have hf:oks (D.fit Try.prog 8) Try.f3.params.toList xs:=hf;rw[Try.params3] at h hf;obtain⟨e1,r1,rfl,k1,h⟩:=bm h;obtain⟨e2,r2,rfl,k2,h⟩:=bm h
  obtain rfl:=fA h
  obtain⟨p,q1,w1,w2⟩:=prog_of (n:=5) k1;obtain⟨i,rfl,_⟩:=dp Try.underlying3 k2;obtain⟨_,⟨H',rfl⟩,this⟩:=Go.Cm.x3 p i w1 w2
  refine⟨H',?_⟩
  have:=Fw_sim EE_sim Ee mixed _ _ _ _ _ this;rw[←q1] at this;exact this
theorem over:Rows.flowBlocksRow.holds Try.pinned (OpenSpec.ofChange Rows.flowBlocksSpec):=
 OpenClaim.holds_of_wide 3 Try.f3 rfl rfl rfl rfl rfl rfl rfl ⟨rfl,rfl,rfl,rfl,rfl⟩ rfl rfl rfl rfl rfl (by kernel_rfl) Try.func3 (by kernel_rfl)
  (of_decide_eq_true (by kernel_rfl)) (by unfold Func.isWrapper;first|(rw[if_pos (by decide +kernel)];kernel_rfl)|(rw[if_neg (by decide +kernel)];exact⟨rfl,rfl⟩))
  (λos started H enc _=>lifted os started H enc)
theorem proved:Rows.FlowBlocksSaid:=over
end Go.Proofs.Ytjhndbgokapikaa.flowBlocks
