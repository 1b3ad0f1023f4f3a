import Derived.Test.YtijcpefcfcbcnaaIlA
import Derived.Test.YtijcpefcfcbcnaaIxA
set_option linter.unusedSimpArgs false
set_option linter.unusedVariables false
namespace Go.Cm
open Go.Proofs
set_option maxRecDepth 100000 in
theorem vd {n:Nat}{d:D}(h:D.ok Try.prog (n+2) 23 d):∃ a:Area,(d.cells=dc a∧d.cv=.agg (dc a))∧a.wf:=by
 obtain⟨ds,rfl,h1⟩:=eL (ts:=[3,4]) Try.underlying23 (by kernel_rfl) h
 obtain⟨d1,r1,rfl,k1,h1⟩:=bm h1
 obtain⟨d2,r2,rfl,k2,h1⟩:=bm h1
 obtain rfl:=fA h1
 obtain⟨x1,rfl,w1⟩:=dp Try.underlying3 k1
 obtain⟨x2,rfl⟩:=kW Try.underlying4 k2
 exact⟨⟨x1,x2⟩,⟨rfl,rfl⟩,w1⟩
set_option maxRecDepth 100000 in
theorem lay_of {n:Nat}{d:D}(h:D.ok Try.prog (n+4) 26 d):∃ l:Lay,(d.cells=cX l∧d.cv=.agg (cX l))∧l.wf:=by
 obtain⟨ds,rfl,h1⟩:=eL (ts:=[23,24]) Try.underlying26 (by kernel_rfl) h
 obtain⟨d1,r1,rfl,k1,h1⟩:=bm h1
 obtain⟨d2,r2,rfl,k2,h1⟩:=bm h1
 obtain rfl:=fA h1
 obtain⟨a,⟨e1,_⟩,w1⟩:=vd (n:=n+1) k1
 obtain⟨l,e2,_,w2⟩:=sK (e:=dc) (W:=Area.wf) Try.underlying24 (fun x hx=>by
  obtain⟨a,⟨e,_⟩,w⟩:=vd (n:=n) hx
  exact⟨a,e,w⟩) k2
 refine⟨⟨a,l⟩,?_,w1,w2⟩
 have:D.cellsL [d1,d2]=cX ⟨a,l⟩:=by simp only[D.cellsL,e1,e2,dc,cX,List.append_nil,List.cons_append,List.nil_append]
 exact⟨by simp only[D.cells,this],by simp only[D.cv,this]⟩
set_option maxRecDepth 100000 in
theorem fact_of {n:Nat}{d:D}(h:D.ok Try.prog (n+2) 42 d):∃ f:Fact,(d.cells=cx f∧d.cv=.agg (cx f))∧f.wf:=by
 obtain⟨ds,rfl,h1⟩:=eL (ts:=[4,3,2,2]) Try.underlying42 (by kernel_rfl) h
 obtain⟨d1,r1,rfl,k1,h1⟩:=bm h1
 obtain⟨d2,r2,rfl,k2,h1⟩:=bm h1
 obtain⟨d3,r3,rfl,k3,h1⟩:=bm h1
 obtain⟨d4,r4,rfl,k4,h1⟩:=bm h1
 obtain rfl:=fA h1
 obtain⟨x1,rfl⟩:=kW Try.underlying4 k1
 obtain⟨x2,rfl,w2⟩:=dp Try.underlying3 k2
 obtain⟨x3,rfl,w3⟩:=dp Try.underlying2 k3
 obtain⟨x4,rfl,w4⟩:=dp Try.underlying2 k4
 exact⟨⟨x1,x2,x3,x4⟩,⟨rfl,rfl⟩,w2,w3,w4⟩
set_option maxRecDepth 100000 in
theorem DW {n:Nat}{d:D}(h:D.ok Try.prog (n+3) 30 d):∃ l:List Fact,d.cv=sl cx l∧∀ a ∈ l,Fact.wf a:=by
 obtain⟨l,_,e2,w2⟩:=sK (e:=cx) (W:=Fact.wf) Try.underlying30 (fun x hx=>by
  obtain⟨a,⟨e,_⟩,w⟩:=fact_of (n:=n) hx
  exact⟨a,e,w⟩) h
 exact⟨l,e2,w2.2⟩
end Go.Cm
