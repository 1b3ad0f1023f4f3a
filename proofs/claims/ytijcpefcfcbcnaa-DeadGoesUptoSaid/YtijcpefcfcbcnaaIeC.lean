import Derived.Test.YtijcpefcfcbcnaaIxA
import Derived.Test.YtijcpefcfcbcnaaIrC
import Derived.Test.YtijcpefcfcbcnaaIlA
import Derived.Test.YtijcpefcfcbcnaaIvB
import Derived.Test.YtijcpefcfcbcnaaIcE
set_option linter.unusedSimpArgs false
set_option linter.unusedVariables false
namespace Go.Cm
open Go.Proofs Go.Ir Go.Gr
def gB (l:Lay) (fs:List Fact) (n:Nd):Bool:=
 (decide (n.op=5)||decide (n.op=6))&&n.grd&&decide (0≤n.at_)&&match fs[n.at_.toNat]? with|some x=>fh l x n.size (decide (n.op=6))|none=>false
def cH (l:Lay) (fs:List Fact) (n:Nd):Nd:=if gB l fs n=true then { n with grd:=false } else n
def bU (l:Lay) (fs:List Fact) (p:Pt):Pt:={ p with nodes:=p.nodes.map (cH l fs) }
def de (l:Lay) (fs:List Fact) (f:Cd):Cd:=⟨f.parts.map (bU l fs),f.values⟩
def NodesV (j:Nat) (L:List (Nat×HO)) (v:CV) (ns:List Nd):Prop:=(ns=[]∧v=.imm 0 [])∨∃g,v=.ref (.l j) g 0 ns.length∧aK L j=some (.arr g 12 (ns.flatMap ndC) 0)
section
variable {j:Nat}{L:List (Nat×HO)}{v:CV}{ns:List Nd}
theorem NodesV.len (h:NodesV j L v ns):cK v=some ns.length:=by rcases h with⟨rfl,rfl⟩|⟨g,rfl,_⟩<;>rfl
theorem NodesV.cells (h:NodesV j L v ns):ap v=some [v]:=by rcases h with⟨_,rfl⟩|⟨g,rfl,_⟩<;>rfl
theorem NodesV.keep (h:NodesV j L v ns) {L':List (Nat×HO)}(hk:aK L' j=aK L j):NodesV j L' v ns:=by
 rcases h with h|⟨g,h1,h2⟩
 ·exact .inl h
 ·exact .inr ⟨g,h1,by rw[hk,h2]⟩
theorem NodesV.esc1 (h:NodesV j L v ns) {H:List HO}:∃m1,esc iC v ⟨L,H⟩=some (sl ndC ns,m1)∧m1.H=H∧∀i,i≠j→aK m1.L i=aK L i:=by
 rcases h with⟨rfl,rfl⟩|⟨g,rfl,h1⟩
 ·exact⟨⟨L,H⟩,rfl,rfl,λ_ _=>rfl⟩
 ·refine⟨bi ⟨L,H⟩ j (.arr g 12 (ns.flatMap ndC) (max 0 (ns.length*12))),?_,rfl,λi hi=>by rw[ba,if_neg (Ne.symm hi)]⟩
  simp only[iC,esc,h1,if_true,List.drop_zero,HO.seen,Nat.zero_add];rw[List.take_of_length_le (by rw[bC ndE.len];exact Nat.le_refl _)];rfl
end
theorem eC {cs:List CV}:ap (.agg cs)=some cs:=rfl
end Go.Cm
namespace Go.Cm
open Go.Proofs Go.Ir Go.Gr
theorem k16 (f:Cd) (hf:Sized f) {fid:FuncId}{d:Tmp}{m:Mem}:aB An FF fid (some d) 16 [.agg (aZ f)] m=some (.int .i64 (if bG f=true then 0 else 160),m):=by
 obtain⟨_,⟨H',rfl⟩,h⟩:=x16 f hf;exact cr h (λ_ _ _=>rfl) rfl (by simp only[cans,aC,codeE.can]) rfl (by simp only[noGs,noG,codeE.noG,Bool.and_self]) rfl
end Go.Cm
