import Derived.Test.YtijcpefcfcbcnaaCxH
import Derived.Test.YtijcpefcfcbcnaaGrB
import Derived.Test.YtijcpefcfcbcnaaIzF
import Derived.Test.YtijcpefcfcbcnaaIzK
import Derived.Test.YtijcpefcfcbcnaaIyG
import Derived.Test.YtijcpefcfcbcnaaIrB
import Derived.Test.YtijcpefcfcbcnaaCxM
set_option linter.unusedSimpArgs false
set_option linter.unusedVariables false
namespace Go.Cm
open Go.Proofs Go.Ir
structure Fit (f:Cd):Prop where
 pred:∀p∈f.parts,p.pred.length≤17592186044416
 phis:∀p∈f.parts,p.phis.length≤17592186044416∧∀x∈p.phis,x.src.length≤17592186044416
 nodes:∀p∈f.parts,p.nodes.length≤17592186044416∧∀n∈p.nodes,n.args.length≤17592186044416∧0≤n.imm
theorem Fit.sized {f:Cd}(h:Fit f) (hp:f.parts.length≤1048576):Sized f:=⟨hp,h.pred,h.phis,h.nodes⟩
structure Nd.wf (n:Nd):Prop where
 op:du n.op
 id:du n.id
 alu:du n.alu
 a:du n.a
 b:du n.b
 imm:isU64 n.imm
 size:du n.size
 off:du n.off
 at_:du n.at_
structure Tm.wf (e:Tm):Prop where
 op:du e.op
 cond:du e.cond
 a:du e.a
 b:du e.b
 to:du e.to
 els:du e.els
set_option maxRecDepth 100000 in
theorem term_of {n:Nat}{d:D}(h:D.ok Try.prog (n+2) 56 d):∃x:Tm,d.cells=tmC x∧Tm.wf x:=by
 obtain⟨ds,rfl,h1⟩:=eL (ts:=[54,3,4,3,3,3,3]) Try.underlying56 (by kernel_rfl) h;obtain⟨d1,r1,rfl,k1,h1⟩:=bm h1;obtain⟨d2,r2,rfl,k2,h1⟩:=bm h1;obtain⟨d3,r3,rfl,k3,h1⟩:=bm h1;obtain⟨d4,r4,rfl,k4,h1⟩:=bm h1;obtain⟨d5,r5,rfl,k5,h1⟩:=bm h1;obtain⟨d6,r6,rfl,k6,h1⟩:=bm h1;obtain⟨d7,r7,rfl,k7,h1⟩:=bm h1
 obtain rfl:=fA h1
 obtain⟨x1,rfl,w1⟩:=dp Try.underlying54 k1;obtain⟨x2,rfl,w2⟩:=dp Try.underlying3 k2;obtain⟨x3,rfl⟩:=kW Try.underlying4 k3;obtain⟨x4,rfl,w4⟩:=dp Try.underlying3 k4;obtain⟨x5,rfl,w5⟩:=dp Try.underlying3 k5;obtain⟨x6,rfl,w6⟩:=dp Try.underlying3 k6;obtain⟨x7,rfl,w7⟩:=dp Try.underlying3 k7
 exact⟨⟨x1,x2,x3,x4,x5,x6,x7⟩,rfl,⟨w1,w2,w4,w5,w6,w7⟩⟩
structure Pt.wf (p:Pt):Prop where
 pred:p.pred.length≤17592186044416∧∀a∈p.pred,du a
 phis:p.phis.length≤17592186044416∧∀x∈p.phis,du x.id∧x.src.length≤17592186044416∧∀a∈x.src,du a
 nodes:p.nodes.length≤17592186044416∧∀n∈p.nodes,Nd.wf n∧n.args.length≤17592186044416∧∀a∈n.args,du a
 fin:Tm.wf p.fin
 nb:p.nodes.length*112≤140737488355328
structure Cd.wf (f:Cd):Prop where
 parts:∀p∈f.parts,Pt.wf p
 values:du f.values
theorem Cd.wf.fit {f:Cd}(h:Cd.wf f):Fit f where
 pred p hp:=(h.parts p hp).pred.1
 phis p hp:=⟨(h.parts p hp).phis.1,λx hx=>((h.parts p hp).phis.2 x hx).2.1⟩
 nodes p hp:=⟨(h.parts p hp).nodes.1,λx hx=>⟨((h.parts p hp).nodes.2 x hx).2.1,((h.parts p hp).nodes.2 x hx).1.imm.1⟩⟩
end Go.Cm
namespace Go.Cm
open Go.Proofs Go.Ir Go.Gr
theorem k36 (f:Cd) (hf:Sized f) {fid:FuncId}{d:Tmp}{m:Mem}:aB An FF fid (some d) 36 [.agg (aZ f)] m=some (.int .i64 (if bG f=true then 0 else 160),m):=by
 obtain⟨_,⟨H',rfl⟩,h⟩:=x36 f hf;exact cr h (λ_ _ _=>rfl) rfl (by simp only[cans,aC,codeE.can]) rfl (by simp only[noGs,noG,codeE.noG,Bool.and_self]) rfl
theorem gd {α:Type}{e:α→List CV}{sz:Nat}(hs:∀a,(e a).length=sz) {new:List CV}{off:Nat}:∀{l:List α}{i:Nat}{a a':α},l[i]?=some a→e a'=ay (e a) off new→off+new.length≤sz →
  ay (l.flatMap e) (i*sz+off) new=(l.set i a').flatMap e
 |[],i,a,a',h,_,_=>by simp at h
 |b::l,0,a,a',h,he,ho=>by
  simp only[List.getElem?_cons_zero,Option.some.injEq] at h;subst h;simp only[List.set_cons_zero,List.flatMap_cons,Nat.zero_mul,Nat.zero_add,he,ay];have:=hs b;rw[List.take_append_of_le_length (by omega),List.drop_append_of_le_length (by omega)];simp only[List.append_assoc]
 |b::l,i+1,a,a',h,he,ho=>by
  simp only[List.getElem?_cons_succ] at h;have ih:=gd hs h he ho;simp only[List.set_cons_succ,List.flatMap_cons,←ih,ay];have hb:=hs b;have e1:(i+1)*sz+off=(e b).length+(i*sz+off):=by rw[hb,Nat.succ_mul];omega
  have e2:(i+1)*sz+off+new.length=(e b).length+(i*sz+off+new.length):=by omega
  rw[e2,e1,List.take_length_add_append,List.drop_length_add_append];simp only[List.append_assoc]
end Go.Cm
