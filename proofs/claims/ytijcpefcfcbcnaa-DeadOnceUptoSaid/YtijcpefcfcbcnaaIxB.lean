import Derived.Test.YtijcpefcfcbcnaaIxA
import Derived.Test.YtijcpefcfcbcnaaIrC
import Derived.Test.YtijcpefcfcbcnaaIzH
set_option linter.unusedSimpArgs false
set_option linter.unusedVariables false
namespace Go.Cm
open Go.Proofs Go.Ir
theorem HX {α:Type}{e:α→List CV}{W:α→Prop}{μ:α→Nat}:∀ {ds:List D},(∀ x ∈ ds,∃ a,x.cells=e a∧W a∧μ a≤D.bulk x)→∃ l:List α,D.cellsL ds=l.flatMap e∧l.length=ds.length∧(∀ a ∈ l,W a)∧(l.map μ).sum≤D.bulkL ds
 |[],_=>⟨[],rfl,rfl,by simp,by simp[D.bulkL]⟩
 |d::ds,h=>by
  obtain⟨a,h1,h2,h3⟩:=h d List.mem_cons_self
  obtain⟨l,g1,g2,g3,g4⟩:=HX fun x hx=>h x (List.mem_cons_of_mem _ hx)
  refine⟨a::l,by simp only[D.cellsL,h1,g1,List.flatMap_cons],by simp[g2],fun b hb=>?_,?_⟩
  ·rcases List.mem_cons.1 hb with rfl|hb
   ·exact h2
   ·exact g3 b hb
  ·simp only[List.map_cons,List.sum_cons,D.bulkL];omega
theorem Ht {α:Type}{e:α→List CV}{W:α→Prop}{μ:α→Nat}{P:Program}{n:Nat}{t et:TypeId}{d:D}(hu:P.underlying t=some (.slice et))
  (he:∀ x,D.ok P n et x→∃ a,x.cells=e a∧W a∧μ a≤D.bulk x) (h:D.ok P (n+1) t d):∃ l:List α,(d.cells=[sl e l]∧d.cv=sl e l)∧(∀ a ∈ l,W a)∧(l.map μ).sum+1≤D.bulk d:=by
 obtain⟨ds,rfl,h1,h2⟩:=sq hu h
 obtain⟨l,h3,h4,h5,h6⟩:=HX (e:=e) (W:=W) (μ:=μ) fun x hx=>he x (h2 x hx)
 have:sl e l=.imm ds.length (D.cellsL ds):=by simp only[sl,h3,h4]
 exact⟨l,⟨by simp only[D.cells,this],by simp only[D.cv,this]⟩,h5,by simp only[D.bulk];omega⟩
theorem Jj {α:Type}(l:List α):(l.map fun _=>1).sum=l.length:=by induction l with
 |nil=>rfl
 |cons a l ih=>simp only[List.map_cons,List.sum_cons,ih,List.length_cons];omega
def G9 (x:Ph):Nat:=1+x.src.length
def GR (n:Nd):Nat:=1+n.args.length
def G4 (p:Pt):Nat:=1+p.pred.length+(p.phis.map G9).sum+(p.nodes.map GR).sum
def mass (f:Cd):Nat:=(f.parts.map G4).sum
set_option maxRecDepth 100000 in
theorem Hw {n:Nat}{d:D}(h:D.ok Try.prog (n+2) 51 d):∃ l:List Int,(d.cells=[sl aX l]∧d.cv=sl aX l)∧(∀ a ∈ l,du a)∧l.length+1≤D.bulk d:=by
 obtain⟨l,h1,h2,h3⟩:=Ht (e:=aX) (W:=du) (μ:=fun _=>1) Try.underlying51 (fun x hx=>by obtain⟨m,rfl,w⟩:=dp Try.underlying3 hx;exact⟨m,rfl,w,Nat.le_refl _⟩) h
 rw[Jj] at h3
 exact⟨l,h1,h2,h3⟩
set_option maxRecDepth 100000 in
theorem phiB_of {n:Nat}{d:D}(h:D.ok Try.prog (n+3) 62 d):∃ x:Ph,d.cells=phC x∧(du x.id∧∀ a ∈ x.src,du a)∧G9 x≤D.bulk d:=by
 obtain⟨ds,rfl,h1⟩:=eL (ts:=[3,51]) Try.underlying62 (by kernel_rfl) h
 obtain⟨d1,r1,rfl,k1,h1⟩:=bm h1
 obtain⟨d2,r2,rfl,k2,h1⟩:=bm h1
 obtain rfl:=fA h1
 obtain⟨x1,rfl,w1⟩:=dp Try.underlying3 k1
 obtain⟨l,⟨e2,_⟩,w3,w2⟩:=Hw (n:=n) k2
 exact⟨⟨x1,l⟩,by simp only[D.cells,D.cellsL,e2,phC,List.append_nil,List.cons_append,List.nil_append],⟨w1,w3⟩,by simp only[G9,D.bulk,D.bulkL];omega⟩
set_option maxRecDepth 100000 in
theorem Jh {n:Nat}{d:D}(h:D.ok Try.prog (n+3) 67 d):∃ x:Nd,d.cells=ndC x∧(Nd.wf x∧∀ a ∈ x.args,du a)∧GR x≤D.bulk d:=by
 obtain⟨ds,rfl,h1⟩:=eL (ts:=[64,3,3,4,3,3,65,3,3,4,51,3]) Try.underlying67 (by kernel_rfl) h
 obtain⟨d1,r1,rfl,k1,h1⟩:=bm h1
 obtain⟨d2,r2,rfl,k2,h1⟩:=bm h1
 obtain⟨d3,r3,rfl,k3,h1⟩:=bm h1
 obtain⟨d4,r4,rfl,k4,h1⟩:=bm h1
 obtain⟨d5,r5,rfl,k5,h1⟩:=bm h1
 obtain⟨d6,r6,rfl,k6,h1⟩:=bm h1
 obtain⟨d7,r7,rfl,k7,h1⟩:=bm h1
 obtain⟨d8,r8,rfl,k8,h1⟩:=bm h1
 obtain⟨d9,r9,rfl,k9,h1⟩:=bm h1
 obtain⟨d10,r10,rfl,k10,h1⟩:=bm h1
 obtain⟨d11,r11,rfl,k11,h1⟩:=bm h1
 obtain⟨d12,r12,rfl,k12,h1⟩:=bm h1
 obtain rfl:=fA h1
 obtain⟨x1,rfl,w1⟩:=dp Try.underlying64 k1
 obtain⟨x2,rfl,w2⟩:=dp Try.underlying3 k2
 obtain⟨x3,rfl,w3⟩:=dp Try.underlying3 k3
 obtain⟨x4,rfl⟩:=kW Try.underlying4 k4
 obtain⟨x5,rfl,w5⟩:=dp Try.underlying3 k5
 obtain⟨x6,rfl,w6⟩:=dp Try.underlying3 k6
 obtain⟨x7,rfl,w7⟩:=ok_u64 Try.underlying65 k7
 obtain⟨x8,rfl,w8⟩:=dp Try.underlying3 k8
 obtain⟨x9,rfl,w9⟩:=dp Try.underlying3 k9
 obtain⟨x10,rfl⟩:=kW Try.underlying4 k10
 obtain⟨l,⟨e11,_⟩,w11',w11⟩:=Hw (n:=n) k11
 obtain⟨x12,rfl,w12⟩:=dp Try.underlying3 k12
 exact⟨⟨x1,x2,x3,x4,x5,x6,x7,x8,x9,x10,l,x12⟩,by simp only[D.cells,D.cellsL,e11,ndC,List.append_nil,List.cons_append,List.nil_append],⟨⟨w1,w2,w3,w5,w6,w7,w8,w9,w12⟩,w11'⟩,by simp only[GR,D.bulk,D.bulkL];omega⟩
set_option maxRecDepth 100000 in
theorem Ji {n:Nat}{d:D}(h:D.ok Try.prog (n+5) 58 d):∃ p:Pt,d.cells=ptC p∧((∀ a ∈ p.pred,du a)∧(∀ x ∈ p.phis,du x.id∧∀ a ∈ x.src,du a)∧(∀ n ∈ p.nodes,Nd.wf n∧∀ a ∈ n.args,du a)∧Tm.wf p.fin)∧G4 p≤D.bulk d:=by
 obtain⟨ds,rfl,h1⟩:=eL (ts:=[51,52,53,56]) Try.underlying58 (by kernel_rfl) h
 obtain⟨d1,r1,rfl,k1,h1⟩:=bm h1
 obtain⟨d2,r2,rfl,k2,h1⟩:=bm h1
 obtain⟨d3,r3,rfl,k3,h1⟩:=bm h1
 obtain⟨d4,r4,rfl,k4,h1⟩:=bm h1
 obtain rfl:=fA h1
 obtain⟨l1,⟨e1,_⟩,w1,b1⟩:=Hw (n:=n+2) k1
 obtain⟨l2,⟨e2,_⟩,w2,b2⟩:=Ht Try.underlying52 (fun x hx=>phiB_of (n:=n) hx) k2
 obtain⟨l3,⟨e3,_⟩,w3,b3⟩:=Ht Try.underlying53 (fun x hx=>Jh (n:=n) hx) k3
 obtain⟨x4,e4,w4⟩:=term_of (n:=n+2) k4
 exact⟨⟨l1,l2,l3,x4⟩,by simp only[D.cells,D.cellsL,e1,e2,e3,e4,ptC,tmC,List.append_nil,List.cons_append,List.nil_append],⟨w1,w2,w3,w4⟩,by simp only[G4,D.bulk,D.bulkL];omega⟩
set_option maxRecDepth 100000 in
theorem Jc {n:Nat}{d:D}(h:D.ok Try.prog (n+7) 29 d):∃ f:Cd,d.cv=.agg (aZ f)∧(∀ p ∈ f.parts,(∀ a ∈ p.pred,du a)∧(∀ x ∈ p.phis,du x.id∧∀ a ∈ x.src,du a)∧(∀ n ∈ p.nodes,Nd.wf n∧∀ a ∈ n.args,du a)∧Tm.wf p.fin)∧mass f≤D.bulk d:=by
 obtain⟨ds,rfl,h1⟩:=eL (ts:=[27,3]) Try.underlying29 (by kernel_rfl) h
 obtain⟨d1,r1,rfl,k1,h1⟩:=bm h1
 obtain⟨d2,r2,rfl,k2,h1⟩:=bm h1
 obtain rfl:=fA h1
 obtain⟨l,⟨e1,_⟩,w1,b1⟩:=Ht Try.underlying27 (fun x hx=>Ji (n:=n) hx) k1
 obtain⟨x2,rfl,w2⟩:=dp Try.underlying3 k2
 exact⟨⟨l,x2⟩,by simp only[D.cv,D.cellsL,e1,aZ,D.cells,List.append_nil,List.cons_append,List.nil_append],w1,by simp only[mass,D.bulk,D.bulkL];omega⟩
theorem Hr {α:Type}{μ:α→Nat}{a:α}:∀ {l:List α},a ∈ l→μ a≤(l.map μ).sum
 |b::l,h=>by
  simp only[List.map_cons,List.sum_cons]
  rcases List.mem_cons.1 h with rfl|h
  ·omega
  ·have:=Hr (μ:=μ) h;omega
theorem HV {α:Type}{μ:α→Nat}(h1:∀ a,1≤μ a):∀ (l:List α),l.length≤(l.map μ).sum
 |[]=>by simp
 |a::l=>by
  have:=HV h1 l
  have:=h1 a
  simp only[List.length_cons,List.map_cons,List.sum_cons];omega
theorem Hv {α β:Type}{μ:α→Nat}{g:α→List β}{k:Nat}(h:∀ a,(g a).length≤k*μ a):∀ (l:List α),(l.flatMap g).length≤k*(l.map μ).sum
 |[]=>by simp
 |a::l=>by
  have:=Hv h l
  have:=h a
  simp only[List.flatMap_cons,List.length_append,List.map_cons,List.sum_cons,Nat.mul_add];omega
theorem IA (n:Nd):(eF n).length≤2*GR n:=by
 unfold eF GR
 split
 ·simp only[List.length_cons,List.length_nil];omega
 ·split
  ·simp only[List.length_cons,List.length_nil];omega
  ·split
   ·omega
   ·simp
theorem HB {α:Type}{μ:α→Nat}{q:α→Bool}:∀ (l:List α),((l.filter q).map μ).sum≤(l.map μ).sum
 |[]=>by simp
 |a::l=>by
  have:=HB (μ:=μ) (q:=q) l
  simp only[List.filter_cons]
  split<;>simp only[List.map_cons,List.sum_cons]<;>omega
theorem Jp {f:Cd}{B:Nat}(hB:mass f≤B):(∀ p ∈ f.parts,p.pred.length≤B∧p.phis.length≤B∧p.nodes.length≤B∧(∀ x ∈ p.phis,x.src.length≤B)∧∀ n ∈ p.nodes,n.args.length≤B) ∧
  (∀ x ∈ GS f,x.2.length≤max 2 B)∧(F0 f).length≤4*B:=by
 have hp:∀ p ∈ f.parts,G4 p≤B:=fun p hp=>Nat.le_trans (Hr (μ:=G4) hp) hB
 have hx:∀ p ∈ f.parts,∀ x ∈ p.phis,G9 x≤B:=fun p hp' x hx=>by
  have h1:=Hr (μ:=G9) hx
  have h2:=hp p hp'
  unfold G4 at h2;omega
 have hn:∀ p ∈ f.parts,∀ x ∈ p.nodes,GR x≤B:=fun p hp' x hx=>by
  have h1:=Hr (μ:=GR) hx
  have h2:=hp p hp'
  unfold G4 at h2;omega
 refine⟨fun p hp'=>?_,fun x hx'=>?_,?_⟩
 ·have h2:=hp p hp'
  have h3:=HV (μ:=G9) (fun x=>by unfold G9;omega) p.phis
  have h4:=HV (μ:=GR) (fun x=>by unfold GR;omega) p.nodes
  unfold G4 at h2
  refine⟨by omega,by omega,by omega,fun x hx'=>?_,fun n hn'=>?_⟩
  ·have:=hx p hp' x hx';unfold G9 at this;omega
  ·have:=hn p hp' n hn';unfold GR at this;omega
 ·simp only[GS,List.mem_flatMap,Ir.bB,List.mem_append,List.mem_map,List.mem_filter] at hx'
  obtain⟨p,hp',⟨y,hy,rfl⟩|⟨n,⟨hn',_⟩,rfl⟩⟩:=hx'
  ·have:=hx p hp' y hy;unfold G9 at this;simp only;omega
  ·have h1:=hn p hp' n hn'
   unfold GR at h1
   simp only
   unfold eF
   split
   ·simp only[List.length_cons,List.length_nil];omega
   ·split
    ·simp only[List.length_cons,List.length_nil];omega
    ·split
     ·omega
     ·simp
 ·have:=Hv (μ:=G4) (g:=Gx) (k:=4) (fun p=>by
   have h1:=Hv (μ:=GR) (g:=eF) (k:=2) IA (p.nodes.filter ee)
   have h2:=HB (μ:=GR) (q:=ee) p.nodes
   have h3:=rM p.fin
   unfold G4
   rw[Gx,List.length_append]
   omega) f.parts
  unfold mass at hB
  rw[F0]
  omega
theorem fitB {f:Cd}(hw:∀ p ∈ f.parts,(∀ a ∈ p.pred,du a)∧(∀ x ∈ p.phis,du x.id∧∀ a ∈ x.src,du a)∧(∀ n ∈ p.nodes,Nd.wf n∧∀ a ∈ n.args,du a)∧Tm.wf p.fin)
  (hm:∀ p ∈ f.parts,p.pred.length≤1048576∧p.phis.length≤1048576∧p.nodes.length≤1048576∧(∀ x ∈ p.phis,x.src.length≤1048576)∧∀ n ∈ p.nodes,n.args.length≤1048576):Fit f where
 pred p hp:=Nat.le_trans (hm p hp).1 (by decide)
 phis p hp:=⟨Nat.le_trans (hm p hp).2.1 (by decide),fun x hx=>Nat.le_trans ((hm p hp).2.2.2.1 x hx) (by decide)⟩
 nodes p hp:=⟨Nat.le_trans (hm p hp).2.2.1 (by decide),fun n hn=>⟨Nat.le_trans ((hm p hp).2.2.2.2 n hn) (by decide),((hw p hp).2.2.1 n hn).1.imm.1⟩⟩
end Go.Cm
