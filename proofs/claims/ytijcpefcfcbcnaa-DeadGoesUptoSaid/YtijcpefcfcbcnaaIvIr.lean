/-
 For every code of which little comes in the law says true: which values are needed and what code becomes is as the document says, and its argument reads as it did.
-/
import Derived.Test.YtijcpefcfcbcnaaRows
import Derived.WalkKit
import Derived.ProofKit
import Derived.OpenShut
import Derived.JoinedCond
import Derived.Test.YtijcpefcfcbcnaaIvI
set_option linter.unusedSimpArgs false
set_option linter.unusedVariables false
namespace Go.Proofs.Ytijcpefcfcbcnaa.deadGoes
open Go.ChangeShapes Go.WideShapes Go.ChangeAt Go.RowKit Go.Cm
theorem own:ownKnob Try.prog.godebug=none:=by kernel_rfl
theorem laid:laidOutB Try.prog=true:=by kernel_rfl
theorem bulkAll {H:Type}(l:List (DataW H)):Rows.uptoBulkAll l=(l.map Rows.uptoBulk).sum:=by
 induction l with
 |nil=>rfl
 |cons d l ih=>simp only[Rows.uptoBulkAll,ih,List.map_cons,List.sum_cons]
theorem bulkOK {H:Type}:BulkOK (H:=H) Rows.uptoBulk where
 lit l:=by cases l<;>simp[Rows.uptoBulk]
 str b:=by simp[Rows.uptoBulk]
 nil:=by simp[Rows.uptoBulk]
 slice es sp:=by simp only[Rows.uptoBulk,bulkAll];omega
 agg ps:=by simp only[Rows.uptoBulk,bulkAll];omega
set_option maxRecDepth 100000 in
theorem lifted (os:Os) (started:os.Started) (H:Type) (enc:TypeId×Value→H) (F:Stop.Interp) :
  ReturnsInHanded {} Try.checked os 5 .any ((Rows.OpenSpec.upto Rows.deadGoesSpec).pre6 enc Try.prog Try.f5 Rows.deadGoesUptoRow.domain false) (((Rows.OpenSpec.upto Rows.deadGoesSpec).at F).post enc Try.prog Try.f5 false true false false):=by
 refine returnsInHanded_of_cond (C:=Try.checked) (s:=Rows.OpenSpec.upto Rows.deadGoesSpec) (k:=Rows.uptoSmall) rfl own started (by kernel_rfl) Try.func5
  (OpenSpec.witness (enc:=enc) (C:=Try.checked) (s:=Rows.OpenSpec.upto Rows.deadGoesSpec) (k:=Rows.uptoSmall) rfl false ⟨#[],#[.agg #[.slice none 0 0,.int .i64 0]],[]⟩ 8 (by kernel_rfl) (by kernel_rfl) (by kernel_rfl)
   (x:=([.agg [.nil,.lit (.int .i64 0)]],[],[])) (by kernel_rfl) rfl (by kernel_rfl)) ?_
 intro W base args ds gs before hval hW _ hk _;have hB:((ds++gs).map Rows.uptoBulk).sum≤1048576:=by
  rw[←bulkAll];exact of_decide_eq_true hk
 refine HQ (n:=8) (s:=Rows.deadGoesSpec) laid (by kernel_rfl) rfl (tb:=4) (by kernel_rfl) Try.underlying4 ?_ ?_ hval _ bulkOK hB hW
 ·intro ds hl
  have hl':ds.length=1:=hl
  match ds,hl' with
  |[d0],_=>rfl
 ·intro xs h hb
  have h:oks (D.ok Try.prog 8) Try.f5.params.toList xs:=h;rw[Try.params5] at h;obtain⟨e1,r1,rfl,k1,h⟩:=bm h
  obtain rfl:=fA h
  simp only[D.bulkL] at hb;obtain⟨f,q1,w0,w1⟩:=Jc (n:=1) k1;obtain⟨m1,m2,m3⟩:=Jp (B:=1048576) (f:=f) (by omega);obtain⟨_,⟨H',rfl⟩,this⟩:=Go.Cm.x5 f (fitB w0 m1) (λp hp=>⟨(m1 p hp).2.1,(m1 p hp).2.2.1⟩) (λx hx=>Nat.le_trans (m2 x hx) (by decide)) (by omega)
  refine⟨H',?_⟩
  have:=Fw_sim EE_sim Ee mg _ _ _ _ _ this;rw[←q1] at this;exact this
theorem over:Rows.deadGoesUptoRow.holds Try.pinned (Rows.OpenSpec.upto Rows.deadGoesSpec):=
 OpenClaim.holds_of_cond 5 Try.f5 rfl rfl rfl rfl rfl rfl rfl ⟨rfl,rfl,rfl,rfl,rfl⟩ rfl rfl rfl rfl rfl (by kernel_rfl) Try.func5 (by kernel_rfl)
  (of_decide_eq_true (by kernel_rfl)) (by unfold Func.isWrapper;first|(rw[if_pos (by decide +kernel)];kernel_rfl)|(rw[if_neg (by decide +kernel)];exact⟨rfl,rfl⟩))
  (λos started H enc _ F=>lifted os started H enc F)
theorem proved:Rows.DeadGoesUptoSaid:=over
end Go.Proofs.Ytijcpefcfcbcnaa.deadGoes
