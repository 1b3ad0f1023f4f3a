import Derived.Test.YtijcpefcfcbcnaaCxH
import Derived.Test.YtijcpefcfcbcnaaIzA
import Derived.Test.YtijcpefcfcbcnaaIzF
set_option linter.unusedSimpArgs false
set_option linter.unusedVariables false
namespace Go.Cm
open Go.Proofs Go.Ir
structure Fit (f:Cd):Prop where
 pred:∀ p ∈ f.parts,p.pred.length≤17592186044416
 phis:∀ p ∈ f.parts,p.phis.length≤17592186044416∧∀ x ∈ p.phis,x.src.length≤17592186044416
 nodes:∀ p ∈ f.parts,p.nodes.length≤17592186044416∧∀ n ∈ p.nodes,n.args.length≤17592186044416∧0≤n.imm
theorem Fit.sized {f:Cd}(h:Fit f) (hp:f.parts.length≤1048576):Sized f:=⟨hp,h.pred,h.phis,h.nodes⟩
structure Nd.wf (n:Nd):Prop where
 op:du n.op
 id:du n.id
 alu:du n.alu
 a:du n.a
 b:du n.b
 imm:isU64 n.imm
 size:du n.size
 off:du n.off
 at_:du n.at_
structure Tm.wf (e:Tm):Prop where
 op:du e.op
 cond:du e.cond
 a:du e.a
 b:du e.b
 to:du e.to
 els:du e.els
theorem wU:Try.prog.bytesOf 3=8:=by kernel_rfl
theorem wV:Try.prog.bytesOf 62=32:=by kernel_rfl
theorem tu:Try.prog.bytesOf 67=112:=by kernel_rfl
theorem tv:Try.prog.bytesOf 58=128:=by kernel_rfl
theorem xg {P:Program}{n:Nat}{t e:TypeId}{ds:List D}(hu:P.underlying t=some (.slice e)) (h:D.fit P (n+1) t (.sl ds)):ds.length*P.bytesOf e≤reachBytes∧∀ x ∈ ds,D.fit P n e x:=by
 simp only[D.fit,hu] at h
 exact h ds rfl
theorem gZ {P:Program}{n:Nat}{t:TypeId}{fs:Array Field}{ts:List TypeId}{ds:List D}(hu:P.underlying t=some (.struct fs)) (ht:fs.toList.map (·.type)=ts) (h:D.fit P (n+1) t (.ag ds)):oks (D.fit P n) ts ds:=by
 simp only[D.fit,hu,ht] at h
 exact h ds rfl
theorem sC {α:Type}{e:α→List CV}{W:α→Prop}{P:Program}{n:Nat}{t et:TypeId}{d:D}{b:Nat}(hu:P.underlying t=some (.slice et)) (hb:P.bytesOf et=b) (hb8:8≤b)
  (he:∀ x,D.ok P n et x→D.fit P n et x→∃ a,x.cells=e a∧W a) (h:D.ok P (n+1) t d) (hf:D.fit P (n+1) t d):∃ l:List α,(d.cells=[sl e l]∧d.cv=sl e l)∧l.length*b≤140737488355328∧l.length≤17592186044416∧∀ a ∈ l,W a:=by
 obtain⟨ds,rfl,h1,h2⟩:=sq hu h
 obtain⟨hf1,hf2⟩:=xg hu hf
 rw[hb] at hf1
 obtain⟨l,h3,h4,h5⟩:=qH (e:=e) (W:=W) fun x hx=>he x (h2 x hx) (hf2 x hx)
 have:sl e l=.imm ds.length (D.cellsL ds):=by simp only[sl,h3,h4]
 have hr:reachBytes=140737488351232:=rfl
 have hm:ds.length*8≤ds.length*b:=Nat.mul_le_mul_left _ hb8
 refine⟨l,⟨by simp only[D.cells,this],by simp only[D.cv,this]⟩,?_,?_,h5⟩
 ·have hl:l.length*b=ds.length*b:=by rw[h4]
  omega
 ·omega
theorem qW {α:Type}{e:α→List CV}{W:α→Prop}{P:Program}{n:Nat}{t et:TypeId}{d:D}{b:Nat}(hu:P.underlying t=some (.slice et)) (hb:P.bytesOf et=b) (hb8:8≤b)
  (he:∀ x,D.ok P n et x→D.fit P n et x→∃ a,x.cells=e a∧W a) (h:D.ok P (n+1) t d) (hf:D.fit P (n+1) t d):∃ l:List α,(d.cells=[sl e l]∧d.cv=sl e l)∧l.length≤17592186044416∧∀ a ∈ l,W a:=by
 obtain⟨l,h1,_,h2⟩:=sC hu hb hb8 he h hf
 exact⟨l,h1,h2⟩
set_option maxRecDepth 100000 in
theorem qC {n:Nat}{d:D}(h:D.ok Try.prog (n+2) 51 d) (hf:D.fit Try.prog (n+2) 51 d):∃ l:List Int,(d.cells=[sl aX l]∧d.cv=sl aX l)∧l.length≤17592186044416∧∀ a ∈ l,du a:=
 qW Try.underlying51 wU (by decide) (fun x hx _=>by obtain⟨m,rfl,w⟩:=dp Try.underlying3 hx;exact⟨m,rfl,w⟩) h hf
set_option maxRecDepth 100000 in
theorem phi_of {n:Nat}{d:D}(h:D.ok Try.prog (n+3) 62 d) (hf:D.fit Try.prog (n+3) 62 d):∃ x:Ph,d.cells=phC x∧(du x.id∧x.src.length≤17592186044416∧∀ a ∈ x.src,du a):=by
 obtain⟨ds,rfl,h1⟩:=eL (ts:=[3,51]) Try.underlying62 (by kernel_rfl) h
 have hf1:=gZ (ts:=[3,51]) Try.underlying62 (by kernel_rfl) hf
 obtain⟨d1,r1,rfl,k1,h1⟩:=bm h1
 obtain⟨d2,r2,rfl,k2,h1⟩:=bm h1
 obtain rfl:=fA h1
 obtain⟨x1,rfl,w1⟩:=dp Try.underlying3 k1
 obtain⟨l,⟨e2,_⟩,w2,w3⟩:=qC (n:=n) k2 hf1.2.1
 exact⟨⟨x1,l⟩,by simp only[D.cells,D.cellsL,e2,phC,List.append_nil,List.cons_append,List.nil_append],w1,w2,w3⟩
set_option maxRecDepth 100000 in
theorem node_of {n:Nat}{d:D}(h:D.ok Try.prog (n+3) 67 d) (hf:D.fit Try.prog (n+3) 67 d):∃ x:Nd,d.cells=ndC x∧(Nd.wf x∧x.args.length≤17592186044416∧∀ a ∈ x.args,du a):=by
 obtain⟨ds,rfl,h1⟩:=eL (ts:=[64,3,3,4,3,3,65,3,3,4,51,3]) Try.underlying67 (by kernel_rfl) h
 have hf1:=gZ (ts:=[64,3,3,4,3,3,65,3,3,4,51,3]) Try.underlying67 (by kernel_rfl) hf
 obtain⟨d1,r1,rfl,k1,h1⟩:=bm h1
 obtain⟨d2,r2,rfl,k2,h1⟩:=bm h1
 obtain⟨d3,r3,rfl,k3,h1⟩:=bm h1
 obtain⟨d4,r4,rfl,k4,h1⟩:=bm h1
 obtain⟨d5,r5,rfl,k5,h1⟩:=bm h1
 obtain⟨d6,r6,rfl,k6,h1⟩:=bm h1
 obtain⟨d7,r7,rfl,k7,h1⟩:=bm h1
 obtain⟨d8,r8,rfl,k8,h1⟩:=bm h1
 obtain⟨d9,r9,rfl,k9,h1⟩:=bm h1
 obtain⟨d10,r10,rfl,k10,h1⟩:=bm h1
 obtain⟨d11,r11,rfl,k11,h1⟩:=bm h1
 obtain⟨d12,r12,rfl,k12,h1⟩:=bm h1
 obtain rfl:=fA h1
 obtain⟨x1,rfl,w1⟩:=dp Try.underlying64 k1
 obtain⟨x2,rfl,w2⟩:=dp Try.underlying3 k2
 obtain⟨x3,rfl,w3⟩:=dp Try.underlying3 k3
 obtain⟨x4,rfl⟩:=kW Try.underlying4 k4
 obtain⟨x5,rfl,w5⟩:=dp Try.underlying3 k5
 obtain⟨x6,rfl,w6⟩:=dp Try.underlying3 k6
 obtain⟨x7,rfl,w7⟩:=ok_u64 Try.underlying65 k7
 obtain⟨x8,rfl,w8⟩:=dp Try.underlying3 k8
 obtain⟨x9,rfl,w9⟩:=dp Try.underlying3 k9
 obtain⟨x10,rfl⟩:=kW Try.underlying4 k10
 obtain⟨l,⟨e11,_⟩,w11,w11'⟩:=qC (n:=n) k11 hf1.2.2.2.2.2.2.2.2.2.2.1
 obtain⟨x12,rfl,w12⟩:=dp Try.underlying3 k12
 exact⟨⟨x1,x2,x3,x4,x5,x6,x7,x8,x9,x10,l,x12⟩,by simp only[D.cells,D.cellsL,e11,ndC,List.append_nil,List.cons_append,List.nil_append],⟨w1,w2,w3,w5,w6,w7,w8,w9,w12⟩,w11,w11'⟩
set_option maxRecDepth 100000 in
theorem term_of {n:Nat}{d:D}(h:D.ok Try.prog (n+2) 56 d):∃ x:Tm,d.cells=tmC x∧Tm.wf x:=by
 obtain⟨ds,rfl,h1⟩:=eL (ts:=[54,3,4,3,3,3,3]) Try.underlying56 (by kernel_rfl) h
 obtain⟨d1,r1,rfl,k1,h1⟩:=bm h1
 obtain⟨d2,r2,rfl,k2,h1⟩:=bm h1
 obtain⟨d3,r3,rfl,k3,h1⟩:=bm h1
 obtain⟨d4,r4,rfl,k4,h1⟩:=bm h1
 obtain⟨d5,r5,rfl,k5,h1⟩:=bm h1
 obtain⟨d6,r6,rfl,k6,h1⟩:=bm h1
 obtain⟨d7,r7,rfl,k7,h1⟩:=bm h1
 obtain rfl:=fA h1
 obtain⟨x1,rfl,w1⟩:=dp Try.underlying54 k1
 obtain⟨x2,rfl,w2⟩:=dp Try.underlying3 k2
 obtain⟨x3,rfl⟩:=kW Try.underlying4 k3
 obtain⟨x4,rfl,w4⟩:=dp Try.underlying3 k4
 obtain⟨x5,rfl,w5⟩:=dp Try.underlying3 k5
 obtain⟨x6,rfl,w6⟩:=dp Try.underlying3 k6
 obtain⟨x7,rfl,w7⟩:=dp Try.underlying3 k7
 exact⟨⟨x1,x2,x3,x4,x5,x6,x7⟩,rfl,⟨w1,w2,w4,w5,w6,w7⟩⟩
structure Pt.wf (p:Pt):Prop where
 pred:p.pred.length≤17592186044416∧∀ a ∈ p.pred,du a
 phis:p.phis.length≤17592186044416∧∀ x ∈ p.phis,du x.id∧x.src.length≤17592186044416∧∀ a ∈ x.src,du a
 nodes:p.nodes.length≤17592186044416∧∀ n ∈ p.nodes,Nd.wf n∧n.args.length≤17592186044416∧∀ a ∈ n.args,du a
 fin:Tm.wf p.fin
 nb:p.nodes.length*112≤140737488355328
set_option maxRecDepth 100000 in
theorem part_of {n:Nat}{d:D}(h:D.ok Try.prog (n+5) 58 d) (hf:D.fit Try.prog (n+5) 58 d):∃ p:Pt,d.cells=ptC p∧Pt.wf p:=by
 obtain⟨ds,rfl,h1⟩:=eL (ts:=[51,52,53,56]) Try.underlying58 (by kernel_rfl) h
 have hf1:=gZ (ts:=[51,52,53,56]) Try.underlying58 (by kernel_rfl) hf
 obtain⟨d1,r1,rfl,k1,h1⟩:=bm h1
 obtain⟨d2,r2,rfl,k2,h1⟩:=bm h1
 obtain⟨d3,r3,rfl,k3,h1⟩:=bm h1
 obtain⟨d4,r4,rfl,k4,h1⟩:=bm h1
 obtain rfl:=fA h1
 obtain⟨l1,⟨e1,_⟩,w1⟩:=qC (n:=n+2) k1 hf1.1
 obtain⟨l2,⟨e2,_⟩,w2⟩:=qW Try.underlying52 wV (by decide) (fun x hx hfx=>phi_of (n:=n) hx hfx) k2 hf1.2.1
 obtain⟨l3,⟨e3,_⟩,w5,w3⟩:=sC Try.underlying53 tu (by decide) (fun x hx hfx=>node_of (n:=n) hx hfx) k3 hf1.2.2.1
 obtain⟨x4,e4,w4⟩:=term_of (n:=n+2) k4
 exact⟨⟨l1,l2,l3,x4⟩,by simp only[D.cells,D.cellsL,e1,e2,e3,e4,ptC,tmC,List.append_nil,List.cons_append,List.nil_append],w1,w2,w3,w4,w5⟩
structure Cd.wf (f:Cd):Prop where
 parts:∀ p ∈ f.parts,Pt.wf p
 values:du f.values
theorem Cd.wf.fit {f:Cd}(h:Cd.wf f):Fit f where
 pred p hp:=(h.parts p hp).pred.1
 phis p hp:=⟨(h.parts p hp).phis.1,fun x hx=>((h.parts p hp).phis.2 x hx).2.1⟩
 nodes p hp:=⟨(h.parts p hp).nodes.1,fun x hx=>⟨((h.parts p hp).nodes.2 x hx).2.1,((h.parts p hp).nodes.2 x hx).1.imm.1⟩⟩
set_option maxRecDepth 100000 in
theorem code_of {n:Nat}{d:D}(h:D.ok Try.prog (n+7) 29 d) (hf:D.fit Try.prog (n+7) 29 d):∃ f:Cd,d.cv=.agg (aZ f)∧Cd.wf f:=by
 obtain⟨ds,rfl,h1⟩:=eL (ts:=[27,3]) Try.underlying29 (by kernel_rfl) h
 have hf1:=gZ (ts:=[27,3]) Try.underlying29 (by kernel_rfl) hf
 obtain⟨d1,r1,rfl,k1,h1⟩:=bm h1
 obtain⟨d2,r2,rfl,k2,h1⟩:=bm h1
 obtain rfl:=fA h1
 obtain⟨l,⟨e1,_⟩,_,w1⟩:=qW Try.underlying27 tv (by decide) (fun x hx hfx=>part_of (n:=n) hx hfx) k1 hf1.1
 obtain⟨x2,rfl,w2⟩:=dp Try.underlying3 k2
 exact⟨⟨l,x2⟩,by simp only[D.cv,D.cellsL,e1,aZ,D.cells,List.append_nil,List.cons_append,List.nil_append],w1,w2⟩
end Go.Cm
