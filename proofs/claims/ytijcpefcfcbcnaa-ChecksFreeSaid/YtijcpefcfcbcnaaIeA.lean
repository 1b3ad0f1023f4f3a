import Derived.Test.YtijcpefcfcbcnaaIcD
import Derived.Test.YtijcpefcfcbcnaaIyG
import Derived.Test.YtijcpefcfcbcnaaIuA
import Derived.Test.YtijcpefcfcbcnaaIrC
import Derived.Test.YtijcpefcfcbcnaaIeB
set_option linter.unusedSimpArgs false
set_option linter.unusedVariables false
namespace Go.Cm
open Go.Proofs Go.Ir Go.Gr
theorem kB {b:Bool}{m:Mem}:chk true (some (.bool b,m))=some (.bool b,m):=rfl
theorem kk44 (a:List Int) (hal:a.length≤17592186044416) {fid:FuncId}{d:Tmp}{m:Mem}:aB An FF fid (some d) 44 [sl aX a,sl aX a] m=some (.bool true,m):=by
 have h:=x44 a a hal
 rw[decide_eq_true rfl] at h
 exact cr h (fun _ _ _=>rfl) rfl (by simp only[cans,intE.can_sl]) rfl (by simp only[noGs,intE.noG_sl,Bool.and_self]) rfl
theorem x45 (n:Nd) (ha:n.args.length≤17592186044416):FF 45 [.agg (ndC n),.agg (ndC n)] []=some (.bool true,[]):=by
 have hk:=fun d m=>kk44 n.args ha (fid:=45) (d:=d) (m:=m)
 refine aL rfl Try.func45 s45 (Nat.le_of_ble_eq_true rfl) (fun Q hqr hqn=>?_)
 rw[bf (show An.pure 45=true from rfl) (by simp only[cans,aG,az,aC,aH,ndE.can])]
 simp only[aO,Nat.reduceAdd,c45]
 repeat' (first
 |with_reducible refine aF ?_
 |(with_reducible (first|(refine ah (fun K hK=>?_);(first|refine t45r0 ?_|refine t45r1 ?_))|refine hqr _ ?_);(try simp only[SS,Nat.reduceEqDiff,ap,bv,aR,r45,aQ,ak,aD,am,ndC,hk,F1 Try.underlying4,beq_self_eq_true]))
 |(revert hK;intro hK;(with_reducible refine hK _ ?_;clear hK K)))
theorem k45 (n:Nd) (ha:n.args.length≤17592186044416) {fid:FuncId}{d:Tmp}{m:Mem}:aB An FF fid (some d) 45 [.agg (ndC n),.agg (ndC n)] m=some (.bool true,m):=
 cr (x45 n ha) (fun _ _ _=>rfl) rfl (by simp only[cans,aC,ndE.can]) rfl (by simp only[noGs,noG,ndE.noG,Bool.and_self]) rfl
def l8 (b:Bool) (X:Option Bool):Option Bool:=match (some b:Option Bool) with
 |some true=>X
 |r=>r
theorem tm_ceq (o c a b t l:Int) (w:Bool):ceq Try.prog 20 56 (.agg [.int .i64 o,.int .i64 c,.bool w,.int .i64 a,.int .i64 b,.int .i64 t,.int .i64 l]) (.agg [.int .i64 o,.int .i64 c,.bool w,.int .i64 a,.int .i64 b,.int .i64 t,.int .i64 l]) =
  l8 (o==o) (l8 (c==c) (l8 (w==w) (l8 (a==a) (l8 (b==b) (l8 (t==t) (l8 (l==l) (some true))))))):=by
 kernel_rfl
theorem tm_ne {o c a b t l:Int}{w:Bool}{x y:Operand}:aw Try.prog .neq 56 x y (.agg [.int .i64 o,.int .i64 c,.bool w,.int .i64 a,.int .i64 b,.int .i64 t,.int .i64 l]) (.agg [.int .i64 o,.int .i64 c,.bool w,.int .i64 a,.int .i64 b,.int .i64 t,.int .i64 l])=some (.bool false):=by
 have hg:Try.prog.eqGuardType Try.prog.depth 56=false:=by kernel_rfl
 simp only[aw,eqC,hg,tm_ceq,l8,beq_self_eq_true]
 rfl
set_option maxHeartbeats 2000000 in
theorem x15 (f:Cd) (hf:Sized f):∃ r,(∃ H',r=(CV.bool true,H'))∧FF 15 [.agg (aZ f),.agg (aZ f)] []=some r:=by
 have hpl:=hf.parts
 have hkI:=fun a h d m=>kk44 a h (fid:=15) (d:=d) (m:=m)
 refine bA rfl Try.func15 s15 (Nat.le_of_ble_eq_true rfl) (fun Q hqr hqn=>?_)
 rw[bf (show An.pure 15=true from rfl) (by simp only[cans,aG,az,aC,aH,codeE.can])]
 simp only[aO,Nat.reduceAdd,c15]
 repeat' (first
 |with_reducible (first|refine ai ?_|refine ar ?_|refine ax rfl ?_|refine aj (id:=0) (fun Q0 hn0 hx0 hr0 ho0=>?_))
 |(with_reducible (refine ah (fun K hK=>?_);(first|refine t15r0 ?_|refine t15r1 ?_|refine t15r3 ?_));(try simp only[SS,Nat.reduceEqDiff,ap,bv,aR,br,lenS,aZ,aP]))
 |(revert hK;intro hK;(with_reducible refine hK _ ?_;clear hK K)))
 refine aU (fun k s=>∃ (d t:List Pt) (g g':Nat) (L:List (Nat×HO)),f.parts=d++t∧k=t.length∧aK L 32=some (.var g (aZ f) 0)∧aK L 48=some (.var g' (aZ f) 0) ∧
  s=⟨[(2,.ptr (.l 32) g 0),(3,.ptr (.l 48) g' 0),(5,.int .i64 d.length)],⟨L,[]⟩⟩) _ ⟨[],f.parts,_,_,_,rfl,rfl,by simp[bi,aq,aZ],by simp[bi,aq,aZ],rfl⟩ ?_
 rintro k s ⟨d,t,g,g',L,h3,rfl,hL,hL',rfl⟩ QL2 hnL2 hxL2 hrL2
 have hlen:=congrArg List.length h3
 simp only[List.length_append] at hlen
 simp only[c15l2]
 cases t with
 |nil=>
  simp only[List.length_nil] at hlen
  repeat' (first
  |with_reducible (first|refine ai ?_|refine ax rfl ?_|refine aN ?_|refine aF ?_|refine hx0 _ ?_|refine hxL2 _ _ ?_)
  |(with_reducible (first|(refine ah (fun K hK=>?_);(first|refine t15r4 ?_|refine t15r19 ?_))|refine hqr _ ?_);(try simp only[SS,Nat.reduceEqDiff,lenS,r15,aQ,ak,aD,am,hL,hL',aZ,aP]))
  |(revert hK;intro hK;(first|refine And.intro ?_ ?_|intro _|omega|(with_reducible refine hK _ ?_;clear hK K))))
  exact⟨_,rfl⟩
 |cons p t=>
  simp only[List.length_cons] at hlen
  have hpm:p ∈ f.parts:=by rw[h3];simp
  have hlt:(d.length:Int)<f.parts.length:=by omega
  have hwd:IntKind.i64.wrap ((d.length:Int)+1)=d.length+1:=wI (by omega) (by omega)
  have hip:=hkI p.pred (hf.pred p hpm)
  obtain⟨hphl,hphs⟩:=hf.phis p hpm
  obtain⟨hndl,hnds⟩:=hf.nodes p hpm
  repeat' (first
  |with_reducible (first|refine ai ?_|refine ar ?_|refine au rfl ?_|refine ax rfl ?_|refine aj (id:=1) (fun Q1 hn1 hx1 hr1 ho1=>?_)|refine aj (id:=2) (fun Q2 hn2 hx2 hr2 ho2=>?_))
  |(with_reducible (refine ah (fun K hK=>?_);(first|refine t15r4 ?_|refine t15r6 ?_|refine t15r7 ?_|refine t15r9 ?_));(try simp only[SS,Nat.reduceEqDiff,ap,bv,aR,Nat.reduceMul,Nat.reduceAdd,br,Bool.not_true,lenS,ay,offK_r,uc,sa,keyL_f,decide_false,Bool.or_false,Bool.false_eq_true,hL,hL',aZ,aP,hlt,aM ptE.len (by omega) h3,ct,ptC,hip,tm_ne]))
  |(revert hK;intro hK;(with_reducible refine hK _ ?_;clear hK K)))
  refine aU (fun k s=>∃ (d1 t1:List Ph) (g6 g7:Nat) (L:List (Nat×HO)),p.phis=d1++t1∧k=t1.length∧aK L 32=some (.var g (aZ f) 0)∧aK L 48=some (.var g' (aZ f) 0)∧aK L 96=some (.var g6 (ptC p) 0)∧aK L 112=some (.var g7 (ptC p) 0) ∧
   s=⟨[(2,.ptr (.l 32) g 0),(3,.ptr (.l 48) g' 0),(5,.int .i64 d.length),(6,.ptr (.l 96) g6 0),(7,.ptr (.l 112) g7 0),(8,.int .i64 d1.length)],⟨L,[]⟩⟩) _ ⟨[],p.phis,_,_,_,rfl,rfl,by simp[bi,aq,hL],by simp[bi,aq,hL'],by simp[bi,aq,ptC],by simp[bi,aq,ptC],rfl⟩ ?_
  rintro k s ⟨d1,t1,g6,g7,L1,h4,rfl,a1,a2,a3,a4,rfl⟩ QL0 hnL0 hxL0 hrL0
  have hlen1:=congrArg List.length h4
  simp only[List.length_append] at hlen1
  simp only[c15l0]
  cases t1 with
  |nil=>
   simp only[List.length_nil] at hlen1
   repeat' (first
   |with_reducible (first|refine ai ?_|refine ax rfl ?_|refine aN ?_|refine hx2 _ ?_|refine bl (id:=4) (fun Q4 hn4 hx4 hr4 ho4=>?_)|refine hxL0 _ _ ?_)
   |(with_reducible (refine ah (fun K hK=>?_);(first|refine EO ?_|refine t15r14 ?_));(try simp only[SS,Nat.reduceEqDiff,lenS,a3,a4,ptC,aP]))
   |(revert hK;intro hK;(first|refine And.intro ?_ ?_|intro _|omega|(with_reducible refine hK _ ?_;clear hK K))))
   refine aU (fun k s=>∃ (d2 t2:List Nd) (L:List (Nat×HO)),p.nodes=d2++t2∧k=t2.length∧aK L 32=some (.var g (aZ f) 0)∧aK L 48=some (.var g' (aZ f) 0)∧aK L 96=some (.var g6 (ptC p) 0)∧aK L 112=some (.var g7 (ptC p) 0) ∧
    s=⟨[(2,.ptr (.l 32) g 0),(3,.ptr (.l 48) g' 0),(5,.int .i64 d.length),(6,.ptr (.l 96) g6 0),(7,.ptr (.l 112) g7 0),(9,.int .i64 d2.length)],⟨L,[]⟩⟩) _ ⟨[],p.nodes,_,rfl,rfl,a1,a2,a3,a4,rfl⟩ ?_
   rintro k s ⟨d2,t2,L2,h5,rfl,b1,b2,b3,b4,rfl⟩ QL1 hnL1 hxL1 hrL1
   have hlen2:=congrArg List.length h5
   simp only[List.length_append] at hlen2
   simp only[c15l1]
   cases t2 with
   |nil=>
    simp only[List.length_nil] at hlen2
    repeat' (first
    |with_reducible (first|refine ai ?_|refine ax rfl ?_|refine aN ?_|refine hn1 _ ?_|refine hx4 _ ?_|refine hxL1 _ _ ?_)
    |(with_reducible ((first|refine ah (fun K hK=>?_)|refine aI (fun K hK=>?_));(first|refine EP ?_|refine t15r5 ?_));(try simp only[SS,Nat.reduceEqDiff,lenS,b3,b4,ptC,aP,hwd]))
    |(revert hK;intro hK;(first|refine And.intro ?_ ?_|intro _|omega|(with_reducible refine hK _ ?_;clear hK K))))
    rw[show((d.length:Int)+1)=((d++[p]).length:Int) by simp]
    exact hnL2 t.length _ (by simp) ⟨d++[p],t,g,g',L2,by simp[h3],rfl,b1,b2,rfl⟩
   |cons x t2=>
    simp only[List.length_cons] at hlen2
    have hxa:=(hnds x (by rw[h5];simp)).1
    have hlt2:(d2.length:Int)<p.nodes.length:=by omega
    have hw2:IntKind.i64.wrap ((d2.length:Int)+1)=d2.length+1:=wI (by omega) (by omega)
    have hkn:=fun d m=>k45 x hxa (fid:=15) (d:=d) (m:=m)
    simp only[ndC] at hkn
    repeat' (first
    |with_reducible (first|refine ai ?_|refine ar ?_|refine au rfl ?_|refine bn rfl ?_|refine bx ?_|refine aj (id:=5) (fun Q5 hn5 hx5 hr5 ho5=>?_)|refine hn5 _ ?_)
    |(with_reducible ((first|refine ah (fun K hK=>?_)|refine aI (fun K hK=>?_));(first|refine EP ?_|refine t15r17 ?_|refine t15r16 ?_));(try simp only[SS,Nat.reduceEqDiff,Bool.not_true,lenS,b3,b4,ptC,aP,hlt2,aM ndE.len (by omega) h5,eR,ndC,hkn,kB,hw2]))
    |(revert hK;intro hK;(with_reducible refine hK _ ?_;clear hK K)))
    rw[show((d2.length:Int)+1)=((d2++[x]).length:Int) by simp]
    exact hnL1 t2.length _ (by simp) ⟨d2++[x],t2,L2,by simp[h5],rfl,b1,b2,b3,b4,rfl⟩
  |cons x t1=>
   simp only[List.length_cons] at hlen1
   have hlt1:(d1.length:Int)<p.phis.length:=by omega
   have hw1:IntKind.i64.wrap ((d1.length:Int)+1)=d1.length+1:=wI (by omega) (by omega)
   have hix:=hkI x.src (hphs x (by rw[h4];simp))
   repeat' (first
   |with_reducible (first|refine ai ?_|refine ar ?_|refine au rfl ?_|refine bn rfl ?_|refine bx ?_|refine aj (id:=3) (fun Q3 hn3 hx3 hr3 ho3=>?_)|refine hn3 _ ?_)
   |(with_reducible ((first|refine ah (fun K hK=>?_)|refine aI (fun K hK=>?_));(first|refine EO ?_|refine t15r12 ?_|refine t15r11 ?_));(try simp only[SS,Nat.reduceEqDiff,bL,dw,br,Bool.not_true,lenS,a3,a4,ptC,aP,hlt1,aM phE.len (by omega) h4,phC,hix,kB,hw1]))
   |(revert hK;intro hK;(with_reducible refine hK _ ?_;clear hK K)))
   rw[show((d1.length:Int)+1)=((d1++[x]).length:Int) by simp]
   exact hnL0 t1.length _ (by simp) ⟨d1++[x],t1,g6,g7,L1,by simp[h4],rfl,a1,a2,a3,a4,rfl⟩
end Go.Cm
namespace Go.Cm
open Go.Proofs Go.Ir Go.Gr
def gB (l:Lay) (fs:List Fact) (n:Nd):Bool:=
 (decide (n.op=5)||decide (n.op=6))&&n.grd&&decide (0≤n.at_)&&match fs[n.at_.toNat]? with|some x=>fh l x n.size (decide (n.op=6))|none=>false
def cH (l:Lay) (fs:List Fact) (n:Nd):Nd:=if gB l fs n=true then { n with grd:=false } else n
def bU (l:Lay) (fs:List Fact) (p:Pt):Pt:={ p with nodes:=p.nodes.map (cH l fs) }
def de (l:Lay) (fs:List Fact) (f:Cd):Cd:=⟨f.parts.map (bU l fs),f.values⟩
def ec (l:Lay) (fs:List Fact) (ns:List Nd):Nat:=(ns.filter (gB l fs)).length
def cO (l:Lay) (fs:List Fact) (ps:List Pt):Nat:=(ps.map fun p=>ec l fs p.nodes).sum
theorem D1 {l:Lay}{fs:List Fact}{n:Nd}(h5:¬ n.op=5) (h6:¬ n.op=6):gB l fs n=false:=by
 unfold gB;rw[decide_eq_false h5,decide_eq_false h6];rfl
theorem gB_in {l:Lay}{fs:List Fact}{n:Nd}(h:n.op=5∨n.op=6) :
  (n.grd=false∧gB l fs n=false)∨(n.grd=true∧¬ 0≤n.at_∧gB l fs n=false)∨(n.grd=true∧0≤n.at_∧¬ n.at_<(fs.length:Int)∧gB l fs n=false) ∨
  (n.grd=true∧0≤n.at_∧n.at_<(fs.length:Int)∧∃ y,fs[n.at_.toNat]?=some y∧fh l y n.size (decide (n.op=6))=gB l fs n):=by
 have ho:(decide (n.op=5)||decide (n.op=6))=true:=by rcases h with h|h<;>simp[h]
 cases hg:n.grd with
 |false=>left;unfold gB;rw[hg];simp
 |true=>
  by_cases ha:0≤n.at_
  ·by_cases hl:n.at_<(fs.length:Int)
   ·obtain⟨y,hy⟩:∃ y,fs[n.at_.toNat]?=some y:=⟨_,List.getElem?_eq_getElem (by omega)⟩
    refine .inr (.inr (.inr ⟨rfl,ha,hl,y,hy,?_⟩))
    unfold gB;rw[ho,hg,decide_eq_true ha,hy];rfl
   ·refine .inr (.inr (.inl ⟨rfl,ha,hl,?_⟩))
    unfold gB;rw[List.getElem?_eq_none (by omega)];simp
  ·refine .inr (.inl ⟨rfl,ha,?_⟩)
   unfold gB;rw[decide_eq_false ha];simp
theorem kJ {l:Lay}{fs:List Fact}{n:Nd}(h:gB l fs n=false):cH l fs n=n:=by rw[cH,h,if_neg (by decide)]
theorem qw {l:Lay}{fs:List Fact}{n:Nd}(h:gB l fs n=true):cH l fs n={ n with grd:=false }:=by rw[cH,h,if_pos rfl]
theorem hX {l:Lay}{fs:List Fact}{ns:List Nd}{n:Nd}:ec l fs (ns++[n])=ec l fs ns+if gB l fs n=true then 1 else 0:=by
 unfold ec
 rw[List.filter_append,List.length_append]
 cases h:gB l fs n<;>simp[h]
theorem nQ {l:Lay}{fs:List Fact}{ns:List Nd}:ec l fs ns≤ns.length:=List.length_filter_le _ _
theorem rU {l:Lay}{fs:List Fact}{ps:List Pt}(h:∀ p ∈ ps,p.nodes.length*112≤140737488355328):cO l fs ps≤ps.length*1256584717459:=by
 induction ps with
 |nil=>simp[cO]
 |cons p ps ih=>
  have h1:=ih fun q hq=>h q (List.mem_cons_of_mem _ hq)
  have h2:=h p (List.mem_cons_self ..)
  have h3:=nQ (l:=l) (fs:=fs) (ns:=p.nodes)
  have h4:cO l fs (p::ps)=ec l fs p.nodes+cO l fs ps:=by simp[cO]
  rw[h4,List.length_cons,Nat.add_mul,Nat.one_mul]
  omega
theorem nP {l:Lay}{fs:List Fact}{ps:List Pt}{p:Pt}:cO l fs (ps++[p])=cO l fs ps+ec l fs p.nodes:=by
 simp only[cO,List.map_append,List.map_cons,List.map_nil,List.sum_append,List.sum_cons,List.sum_nil,Nat.add_zero]
def NodesV (j:Nat) (L:List (Nat×HO)) (v:CV) (ns:List Nd):Prop:=(ns=[]∧v=.imm 0 [])∨∃ g,v=.ref (.l j) g 0 ns.length∧aK L j=some (.arr g 12 (ns.flatMap ndC) 0)
section
variable {j:Nat}{L:List (Nat×HO)}{v:CV}{ns:List Nd}
theorem NodesV.len (h:NodesV j L v ns):cK v=some ns.length:=by rcases h with⟨rfl,rfl⟩|⟨g,rfl,_⟩<;>rfl
theorem NodesV.cells (h:NodesV j L v ns):ap v=some [v]:=by rcases h with⟨_,rfl⟩|⟨g,rfl,_⟩<;>rfl
theorem NodesV.keep (h:NodesV j L v ns) {L':List (Nat×HO)}(hk:aK L' j=aK L j):NodesV j L' v ns:=by
 rcases h with h|⟨g,h1,h2⟩
 ·exact .inl h
 ·exact .inr ⟨g,h1,by rw[hk,h2]⟩
theorem NodesV.esc1 (h:NodesV j L v ns) {H:List HO}:∃ m1,esc iC v ⟨L,H⟩=some (sl ndC ns,m1)∧m1.H=H∧∀ i,i≠j→aK m1.L i=aK L i:=by
 rcases h with⟨rfl,rfl⟩|⟨g,rfl,h1⟩
 ·exact⟨⟨L,H⟩,rfl,rfl,fun _ _=>rfl⟩
 ·refine⟨bi ⟨L,H⟩ j (.arr g 12 (ns.flatMap ndC) (max 0 (ns.length*12))),?_,rfl,fun i hi=>by rw[ba,if_neg (Ne.symm hi)]⟩
  simp only[iC,esc,h1,if_true,List.drop_zero,HO.seen,Nat.zero_add]
  rw[List.take_of_length_le (by rw[bC ndE.len];exact Nat.le_refl _)];rfl
end
theorem rO {j:Nat}{L:List (Nat×HO)}{H:List HO}{v:CV}{p:Pt}{ns:List Nd}(h:NodesV j L v ns):∃ m1,bp ⟨L,H⟩ [sl aX p.pred,sl phC p.phis,v,.int .i64 p.fin.op,.int .i64 p.fin.cond,.bool p.fin.wide,.int .i64 p.fin.a,.int .i64 p.fin.b,.int .i64 p.fin.to,.int .i64 p.fin.els]=some (ptC { p with nodes:=ns },m1)∧m1.H=H∧∀ i,i≠j→aK m1.L i=aK L i:=by
 obtain⟨m1,h1,h2,h3⟩:=h.esc1 (H:=H)
 refine⟨m1,?_,h2,h3⟩
 exact ed (a:=[sl aX p.pred,sl phC p.phis]) (cn (m:=⟨L,H⟩) rfl) (ed (a:=[v]) (dh h1) (cn (m:=m1) (cs:=[.int .i64 p.fin.op,.int .i64 p.fin.cond,.bool p.fin.wide,.int .i64 p.fin.a,.int .i64 p.fin.b,.int .i64 p.fin.to,.int .i64 p.fin.els]) rfl))
theorem stX_ag {m m1:Mem}{j g off n sz:Nat}{cells cs xs:List CV}(hm:aK m.L j=some (.arr g sz cells 0)) (hx:bp m cs=some (xs,m1)) (h1:aK m1.L j=aK m.L j) (hn:cs.length=n) (hb:off+n≤cells.length) :
  stX n m (.ptr (.l j) g off) (.agg cs)=some (bi m1 j (.arr g sz (ay cells off xs) 0)):=by
 rw[p6,hm]
 subst hn
 simp only[stV,ap,if_true,wrA,true_and]
 rw[if_pos ⟨hb,Nat.zero_le _⟩,hx,Option.bind_some]
 simp only[Mem.get,h1,hm,true_and,Nat.zero_le,if_true]
 rfl
theorem rH (p:Pt) (hN:p.nodes.length*112≤140737488355328) {fid:FuncId}{d:Tmp}{m:Mem}{K:CV×Mem→Prop}(hgl:(An.glob fid).contains d=false)
  (hK:∀ v m',NodesV (16*d) m'.L v p.nodes→m'.H=m.H→(∀ i,i≠16*d→aK m'.L i=aK m.L i)→K (v,m')):Obt (aB An FF fid (some d) 43 [sl ndC p.nodes] m) K:=by
 have hF:=x43 p.nodes hN
 rw[ek hF rfl (by simp only[cans,ndE.can_sl]) rfl (by simp only[noGs,ndE.noG_sl,Bool.and_self]) (ib ndE.noG _),aJ,hgl]
 cases hp:p.nodes with
 |nil=>rw[hp] at hK;exact hK _ _ (.inl ⟨rfl,rfl⟩) rfl fun _ _=>rfl
 |cons a r=>
  rw[hp] at hK
  refine hK (.ref (.l (16*d)) (bj m.L (16*d)) 0 (r.length+1)) (bi m (16*d) (.arr (bj m.L (16*d)) 12 ((a::r).flatMap ndC) 0)) (.inr ⟨_,rfl,by rw[ba,if_pos rfl]⟩) rfl fun i hi=>by rw[ba,if_neg (Ne.symm hi)]
theorem qX {α β:Type}{f:α→β}{d:List α}{a b:β}{t:List β}:(d.map f++a::t).set d.length b=d.map f++b::t:=by simp[List.set_append]
theorem eC {cs:List CV}:ap (.agg cs)=some cs:=rfl
theorem jm {b:Bool}:ap (.bool b)=some [.bool b]:=rfl
set_option maxHeartbeats 4000000 in
theorem x14 (l:Lay) (f:Cd) (fs:List Fact) (hf:Sized f) (hfs:∀ x ∈ fs,x.wf) (hN:∀ p ∈ f.parts,p.nodes.length*112≤140737488355328) :
  ∃ r,(∃ H',r=(if bG f=true then CV.tuple [.agg [sl ptC (de l fs f).parts,.int .i64 f.values],.int .i64 (cO l fs f.parts),.int .i64 0] else CV.tuple [.agg [.nil,.int .i64 0],.int .i64 0,.int .i64 160],H'))∧FF 14 [.agg (cX l),.agg (aZ f),sl cx fs] []=some r:=by
 have hkc:∀ d m,aB An FF 14 (some d) 36 [.agg [sl ptC f.parts,.int .i64 f.values]] m=_:=fun d m=>k36 f hf (fid:=14) (d:=d) (m:=m)
 cases hc:bG f with
 |false=>
  rw[hc,if_neg (by decide)] at hkc
  refine bA rfl Try.func14 s14 (Nat.le_of_ble_eq_true rfl) (fun Q hqr hqn=>?_)
  rw[bf (show An.pure 14=true from rfl) (by simp only[cans,aG,az,aC,aH,codeE.can,layE.can,factE.can_sl])]
  simp only[aO,Nat.reduceAdd,c14]
  repeat' (first
  |with_reducible (first|refine ai ?_|refine au rfl ?_|refine be ?_)
  |(with_reducible (first|(refine ah (fun K hK=>?_);(first|refine t14r0 ?_|refine t14r1 ?_|refine t14r2 ?_|refine t14r3 ?_))|refine hqr _ ?_);(try simp only[SS,Nat.reduceEqDiff,ap,bv,aR,aS,Nat.reduceAdd,br,bg,ay,Bool.false_eq_true,r14,cl29,aQ,ak,aD,am,dD,gI,vV,bz,bW,aZ,bR,cY,hkc]))
  |(revert hK;intro hK;(first|refine And.intro ?_ ?_|intro _|omega|(with_reducible refine hK _ ?_;clear hK K))))
  all_goals exact⟨_,rfl⟩
 |true=>
  rw[hc,if_pos rfl] at hkc
  have hfi:=l6 hc
  have hpl:=hf.parts
  obtain⟨n,hn⟩:∃ n:Nat,f.parts.length=n:=⟨_,rfl⟩
  have hn0:1≤n:=by rw[←hn];exact hfi.parts.1
  have hk42:∀ m,aB An FF 14 (some 26) 42 [sl ptC f.parts] m=some (.ref (.l 416) (bj m.L 416) 0 n,bi m 416 (.arr (bj m.L 416) 10 (f.parts.flatMap ptC) 0)):=fun m=>by
   have hF:=x42 f.parts (by omega)
   rw[ek hF rfl (by simp only[cans,ptE.can_sl]) rfl (by simp only[noGs,ptE.noG_sl,Bool.and_self]) (ib ptE.noG _)]
   subst hn
   cases hp:f.parts with
   |nil=>rw[hp] at hn0;simp at hn0
   |cons a r=>rfl
  refine bA rfl Try.func14 s14 (Nat.le_of_ble_eq_true rfl) (fun Q hqr hqn=>?_)
  rw[bf (show An.pure 14=true from rfl) (by simp only[cans,aG,az,aC,aH,codeE.can,layE.can,factE.can_sl])]
  simp only[aO,Nat.reduceAdd,c14]
  repeat' (first
  |with_reducible (first|refine ai ?_|refine ar ?_|refine ax rfl ?_|refine aj (id:=0) (fun Q0 hn0 hx0 hr0 ho0=>?_))
  |(with_reducible (refine ah (fun K hK=>?_);(first|refine t14r0 ?_|refine t14r1 ?_|refine t14r2 ?_|refine t14r4 ?_|refine t14r5 ?_|refine t14r6 ?_));(try simp only[SS,Nat.reduceEqDiff,ap,bv,aR,Nat.reduceMul,Nat.reduceAdd,br,lenS,dy,bg,ay,Nat.reduceLeDiff,Ea,offR_f,uc,sa,keyL_t,decide_false,Bool.or_false,Bool.false_eq_true,wM,xE,sameL_t,sameL_f,ma,Nat.lt_irrefl,Nat.reduceLT,List.take_nil,Nat.zero_mul,aZ,bR,cY,hkc,hk42]))
  |(revert hK;intro hK;(with_reducible refine hK _ ?_;clear hK K)))
  refine aU (fun k s=>∃ (d t:List Pt) (cs:List CV) (g3 g6 g11 gp:Nat) (L:List (Nat×HO)),f.parts=d++t∧k=t.length∧cs=(d.map (bU l fs)++t).flatMap ptC ∧
   (aK L 48=some (.var g3 (cX l) 0)∧aK L 96=some (.var g6 [.nil,.int .i64 0] 0)∧aK L 176=some (.var g11 [.ref (.l 416) gp 0 n,.int .i64 f.values] 0)∧aK L 416=some (.arr gp 10 cs 0)) ∧
   s=⟨[(2,sl cx fs),(3,.ptr (.l 48) g3 0),(6,.ptr (.l 96) g6 0),(10,.int .i64 (cO l fs d)),(11,.ptr (.l 176) g11 0),(29,.ref (.l 416) gp 0 n),(30,.int .i64 n),(31,.int .i64 d.length)],⟨L,[]⟩⟩) _
   ⟨[],f.parts,_,_,_,_,_,_,rfl,rfl,rfl,⟨by simp[bi,aq],by simp[bi,aq],by simp[bi,aq],by simp[bi,aq]⟩,rfl⟩ ?_
  rintro k s ⟨d,t,cs,g3,g6,g11,gp,L,h2,rfl,hcs,⟨b1,b2,b3,b4⟩,rfl⟩ QL1 hnL1 hxL1 hrL1
  have hlen:=congrArg List.length h2
  simp only[List.length_append] at hlen
  simp only[c14l1]
  cases t with
  |nil=>
   simp only[List.length_nil] at hlen
   rw[List.append_nil] at h2
   rw[List.append_nil,←h2] at hcs
   have hdn:d.length=n:=by omega
   repeat' (first
   |with_reducible (first|refine ax rfl ?_|refine aN ?_|refine aF ?_|refine hx0 _ ?_|refine hxL1 _ _ ?_)
   |(with_reducible (first|(refine ah (fun K hK=>?_);(first|refine t14r7 ?_|refine t14r23 ?_))|refine hqr _ ?_);(try simp only[SS,Nat.reduceEqDiff,ap,Nat.reduceAdd,cD,ay,r14,cl29,aQ,ak,aD,am,dD,gI,bz,bW,b1,b2,b3]))
   |(revert hK;intro hK;(first|refine And.intro ?_ ?_|intro _|omega|(with_reducible refine hK _ ?_;clear hK K))))
   have hO:OwnV ptC 10 (bi ⟨L,[]⟩ 96 (HO.var g6 [.ref (.l 416) gp 0 n,CV.int IntKind.i64 f.values] 0)) 416 (.ref (.l 416) gp 0 n) (f.parts.map (bU l fs)):=
    .inr ⟨by intro h;have:=congrArg List.length h;simp at this;rw[this] at hn;simp at hn;omega,gp,0,by rw[List.length_map,hn],by rw[ba,if_neg (by decide),←hcs];exact b4,Nat.zero_le _⟩
   obtain⟨m1,e1,e2⟩:=hO.esc5 ptE.len
   rw[e1,aJ,←h2]
   have hr:rowC ptC (f.parts.map (bU l fs))=sl ptC (f.parts.map (bU l fs)):=by
    cases hp:f.parts with
    |nil=>rw[hp] at hn;simp at hn;omega
    |cons a r=>rfl
   rw[hr]
   exact⟨_,rfl,rfl⟩
  |cons p t=>
   simp only[List.length_cons] at hlen
   have hpm:p ∈ f.parts:=by rw[h2];simp
   have hpN:=hN p hpm
   have hgl:=rU (l:=l) (fs:=fs) (ps:=d) fun q hq=>hN q (by rw[h2];exact List.mem_append_left _ hq)
   have hwd:IntKind.i64.wrap ((d.length:Int)+1)=d.length+1:=wI (by omega) (by omega)
   have hci:(d.map (bU l fs)++p::t)[d.length]?=some p:=by rw[List.getElem?_append_right (by simp)];simp
   obtain⟨htk,hof⟩:=hJ ptE.len hci
   rw[←hcs] at htk hof
   have hix:bd 10 (.ref (.l 416) gp 0 n) (.int .i64 d.length)=some (.ptr (.l 416) gp (d.length*10)):=by rw[bD,if_pos ⟨by omega,by omega⟩];simp
   have hltd:(d.length:Int)<n:=by omega
   simp only[ptC] at htk
   repeat' (first
   |with_reducible (first|refine ar ?_|refine au rfl ?_|refine aj (id:=1) (fun Q1 hn1 hx1 hr1 ho1=>?_))
   |(with_reducible (refine ah (fun K hK=>?_);(first|refine t14r7 ?_|refine t14r8 ?_|refine t14r9 ?_));(try simp only[SS,Nat.reduceEqDiff,aS,Nat.reduceAdd,ay,fB,b1,b2,b3,b4,hltd,hix,hof,htk,eC]))
   |(revert hK;intro hK;(with_reducible refine hK _ ?_;clear hK K)))
   obtain⟨g13,hg13⟩:∃ g,bj L 208=g:=⟨_,rfl⟩
   rw[hg13]
   refine rH p hpN rfl fun v m' hV hH hfr=>?_
   have h208:aK m'.L 208=some (.var g13 [sl aX p.pred,sl phC p.phis,sl ndC p.nodes,.int .i64 p.fin.op,.int .i64 p.fin.cond,.bool p.fin.wide,.int .i64 p.fin.a,.int .i64 p.fin.b,.int .i64 p.fin.to,.int .i64 p.fin.els] 0):=by rw[hfr 208 (by decide)];simp[bi,aq]
   have hfr1:∀ i,i≠608→i≠208→aK m'.L i=aK L i:=fun i n1 n2=>by rw[hfr i n1];simp[bi,aq,Ne.symm n2]
   obtain⟨L1,H1⟩:=m'
   simp only[ik] at hH
   subst hH
   simp only[hV.cells,h208,lj,List.length_cons,List.length_nil]
   rw[if_pos ⟨trivial,by decide,by decide⟩,aJ]
   refine hK _ ?_
   clear hK K
   have hVl:=hV.len
   repeat' (first
   |with_reducible (first|refine ai ?_|refine aj (id:=2) (fun Q2 hn2 hx2 hr2 ho2=>?_))
   |(with_reducible (refine ah (fun K hK=>?_);refine t14r10 ?_);(try simp only[SS,Nat.reduceEqDiff,Nat.reduceAdd,lenS,ay,hVl,eC]))
   |(revert hK;intro hK;(with_reducible refine hK _ ?_;clear hK K)))
   refine aU (fun k s=>∃ (d2 t2:List Nd) (L:List (Nat×HO)),p.nodes=d2++t2∧k=t2.length ∧
    (aK L 48=some (.var g3 (cX l) 0)∧aK L 96=some (.var g6 [.nil,.int .i64 0] 0)∧aK L 176=some (.var g11 [.ref (.l 416) gp 0 n,.int .i64 f.values] 0)∧aK L 416=some (.arr gp 10 cs 0)) ∧
    aK L 208=some (.var g13 [sl aX p.pred,sl phC p.phis,v,.int .i64 p.fin.op,.int .i64 p.fin.cond,.bool p.fin.wide,.int .i64 p.fin.a,.int .i64 p.fin.b,.int .i64 p.fin.to,.int .i64 p.fin.els] 0)∧NodesV 608 L v (d2.map (cH l fs)++t2) ∧
    s=⟨[(2,sl cx fs),(3,.ptr (.l 48) g3 0),(6,.ptr (.l 96) g6 0),(10,.int .i64 ((cO l fs d+ec l fs d2:Nat):Int)),(11,.ptr (.l 176) g11 0),(12,.int .i64 d.length),(13,.ptr (.l 208) g13 0),(29,.ref (.l 416) gp 0 n),(30,.int .i64 n),(31,.int .i64 d.length),(42,.int .i64 p.nodes.length),(43,.int .i64 d2.length)],⟨L,[]⟩⟩) _
    ⟨[],p.nodes,_,rfl,rfl,⟨by simp[bi,aq,hfr1,b1],by simp[bi,aq,hfr1,b2],by simp[bi,aq,hfr1,b3],by simp[bi,aq,hfr1,b4]⟩,by simp[bi,aq],hV.keep (by simp[bi,aq]),rfl⟩ ?_
   rintro k s ⟨d2,t2,L2,h3,rfl,⟨c1,c2,c3,c4⟩,c5,hV2,rfl⟩ QL0 hnL0 hxL0 hrL0
   have hlen2:=congrArg List.length h3
   simp only[List.length_append] at hlen2
   have hgn:=nQ (l:=l) (fs:=fs) (ns:=d2)
   simp only[c14l0]
   cases t2 with
   |nil=>
    simp only[List.length_nil] at hlen2
    rw[List.append_nil] at h3 hV2
    rw[←h3] at hV2
    obtain⟨m1,e1,e2,e3⟩:=rO (p:=p) (H:=[]) hV2
    have hst:=stX_ag (n:=10) (off:=d.length*10) (m:=⟨L2,[]⟩) c4 e1 (e3 416 (by decide)) rfl hof
    have hsp:ay cs (d.length*10) (ptC { p with nodes:=p.nodes.map (cH l fs) })=(d.map (bU l fs)++bU l fs p::t).flatMap ptC:=by
     have:=gd ptE.len (new:=ptC (bU l fs p)) (off:=0) (a':=bU l fs p) hci (by simp[ay,ptC]) (by simp[ptC])
     rw[hcs,←Nat.add_zero (d.length*10)]
     refine this.trans ?_
     rw[qX]
    rw[hsp] at hst
    obtain⟨L3,H3⟩:=m1
    simp only at e2 e3
    subst e2
    repeat' (first
    |with_reducible (first|refine ax rfl ?_|refine aN ?_|refine hn1 _ ?_|refine hx2 _ ?_|refine hxL0 _ _ ?_)
    |(with_reducible ((first|refine ah (fun K hK=>?_)|refine aI (fun K hK=>?_));(first|refine lO ?_|refine t14r21 ?_|refine t14r22 ?_));(try simp only[b9,if_true,if_false,Nat.reduceEqDiff,aJ,dg,Nat.reduceAdd,Nat.zero_add,ez,List.drop_zero,eX,kM,cw,List.getElem?_cons_zero,eN,f9,List.take_zero,List.take_succ_cons,List.length_cons,List.length_nil,Nat.le_refl,gi,if_false,if_true,c3,c5,hix,hst,hwd,eC]))
    |(revert hK;intro hK;(first|refine And.intro ?_ ?_|intro _|omega|(with_reducible refine hK _ ?_;clear hK K))))
    rw[show((d.length:Int)+1)=((d++[p]).length:Int) by simp,←h3,←nP]
    have hk3:∀ i,i≠416→i≠608→aK (cF L3 416 (.arr gp 10 ((d.map (bU l fs)++bU l fs p::t).flatMap ptC) 0)) i=aK L2 i:=fun i n1 n2=>by rw[aq,if_neg (Ne.symm n1),e3 i n2]
    exact hnL1 t.length _ (by simp) ⟨d++[p],t,(d.map (bU l fs)++bU l fs p::t).flatMap ptC,g3,g6,g11,gp,cF L3 416 (.arr gp 10 ((d.map (bU l fs)++bU l fs p::t).flatMap ptC) 0),by simp[h2],rfl,by simp,
     ⟨by rw[hk3 48 (by decide) (by decide)];exact c1,by rw[hk3 96 (by decide) (by decide)];exact c2,by rw[hk3 176 (by decide) (by decide)];exact c3,by rw[aq,if_pos rfl]⟩,rfl⟩
   |cons x t2=>
    simp only[List.length_cons] at hlen2
    have hw2:IntKind.i64.wrap ((d2.length:Int)+1)=d2.length+1:=wI (by omega) (by omega)
    have hwg:IntKind.i64.wrap (((cO l fs d+ec l fs d2:Nat):Int)+1)=((cO l fs d+ec l fs d2+1:Nat):Int):=by rw[wI (by omega) (by omega)];rfl
    obtain⟨g8,rfl,hL8⟩:∃ g,v=.ref (.l 608) g 0 p.nodes.length∧aK L2 608=some (.arr g 12 ((d2.map (cH l fs)++x::t2).flatMap ndC) 0):=by
     rcases hV2 with⟨h,_⟩|⟨g,h1,h2⟩
     ·simp at h
     ·exact⟨g,by rw[h1,h3];simp,h2⟩
    have hci2:(d2.map (cH l fs)++x::t2)[d2.length]?=some x:=by rw[List.getElem?_append_right (by simp)];simp
    obtain⟨_,hof2⟩:=hJ ndE.len hci2
    have q0:=dA (off:=0) ndE.len hci2 (by omega)
    have q7:=dA (off:=7) ndE.len hci2 (by omega)
    have q9:=dA (off:=9) ndE.len hci2 (by omega)
    have q11:=dA (off:=11) ndE.len hci2 (by omega)
    have hspl:=gd ndE.len (new:=[CV.bool false]) (off:=9) (a':={ x with grd:=false }) hci2 rfl (by decide)
    obtain⟨cs2,hcs2⟩:∃ cs2,(d2.map (cH l fs)++x::t2).flatMap ndC=cs2:=⟨_,rfl⟩
    rw[hcs2] at hL8 hof2 q0 q7 q9 q11 hspl
    simp only[ndC,List.getElem?_cons_zero,List.getElem?_cons_succ] at q0 q7 q9 q11
    rw[Nat.add_zero] at q0
    have hst:stX 1 ⟨L2,[]⟩ (.ptr (.l 608) g8 (d2.length*12+9)) (.bool false)=some (bi ⟨L2,[]⟩ 608 (.arr g8 12 (ay cs2 (d2.length*12+9) [.bool false]) 0)):=by
     rw[p6,hL8,jm,q6 rfl hL8,if_pos ⟨rfl,by omega,by omega⟩]
    have hix2:bd 12 (.ref (.l 608) g8 0 p.nodes.length) (.int .i64 d2.length)=some (.ptr (.l 608) g8 (d2.length*12)):=by rw[bD,if_pos ⟨by omega,by omega⟩];simp
    have hlt2:(d2.length:Int)<p.nodes.length:=by omega
    have skip:gB l fs x=false→QL0 .normal ⟨[(2,sl cx fs),(3,.ptr (.l 48) g3 0),(6,.ptr (.l 96) g6 0),(10,.int .i64 ((cO l fs d+ec l fs d2:Nat):Int)),(11,.ptr (.l 176) g11 0),(12,.int .i64 d.length),(13,.ptr (.l 208) g13 0),(29,.ref (.l 416) gp 0 n),(30,.int .i64 n),(31,.int .i64 d.length),(42,.int .i64 p.nodes.length),(43,.int .i64 (d2.length+1))],⟨L2,[]⟩⟩:=fun hb=>by
     rw[show((d2.length:Int)+1)=((d2++[x]).length:Int) by simp]
     refine hnL0 t2.length _ (by simp) ⟨d2++[x],t2,L2,by simp[h3],rfl,⟨c1,c2,c3,c4⟩,c5,?_,by rw[hX,hb];rfl⟩
     rw[List.map_append,List.map_cons,List.map_nil,kJ hb,List.append_assoc]
     exact hV2
    have done:gB l fs x=true→QL0 .normal ⟨[(2,sl cx fs),(3,.ptr (.l 48) g3 0),(6,.ptr (.l 96) g6 0),(10,.int .i64 ((cO l fs d+ec l fs d2+1:Nat):Int)),(11,.ptr (.l 176) g11 0),(12,.int .i64 d.length),(13,.ptr (.l 208) g13 0),(29,.ref (.l 416) gp 0 n),(30,.int .i64 n),(31,.int .i64 d.length),(42,.int .i64 p.nodes.length),(43,.int .i64 (d2.length+1))],bi ⟨L2,[]⟩ 608 (.arr g8 12 (ay cs2 (d2.length*12+9) [.bool false]) 0)⟩:=fun hb=>by
     rw[show((d2.length:Int)+1)=((d2++[x]).length:Int) by simp]
     refine hnL0 t2.length _ (by simp) ⟨d2++[x],t2,cF L2 608 (.arr g8 12 (ay cs2 (d2.length*12+9) [.bool false]) 0),by simp[h3],rfl,⟨by simp[aq,c1],by simp[aq,c2],by simp[aq,c3],by simp[aq,c4]⟩,by simp[aq,c5],?_,by rw[hX,hb];rfl⟩
     rw[List.map_append,List.map_cons,List.map_nil,qw hb,List.append_assoc]
     refine .inr ⟨g8,by rw[h3];simp,?_⟩
     rw[aq,if_pos rfl,hspl,qX];rfl
    have ho:(¬ x.op=5∧¬ x.op=6)∨((x.op=5)=True∧¬ x.op=6)∨(¬ x.op=5∧(x.op=6)=True):=by
     by_cases h5:x.op=5
     ·exact .inr (.inl ⟨eq_true h5,by omega⟩)
     ·by_cases h6:x.op=6
      ·exact .inr (.inr ⟨h5,eq_true h6⟩)
      ·exact .inl ⟨h5,h6⟩
    rcases ho with⟨o5,o6⟩|ho
    ·repeat' (first
     |with_reducible (first|refine ai ?_|refine ar ?_|refine au rfl ?_|refine ax rfl ?_|refine gV ?_|refine aj (id:=3) (fun Q3 hn3 hx3 hr3 ho3=>?_)|refine hn3 _ ?_|refine bl (id:=4) (fun Q4 hn4 hx4 hr4 ho4=>?_)|refine hx4 _ ?_|refine aj (id:=6) (fun Q6 hn6 hx6 hr6 ho6=>?_)|refine ho6 _ _ (by decide) ?_|refine bl (id:=5) (fun Q5 hn5 hx5 hr5 ho5=>?_)|refine ho5 _ _ (by decide) ?_)
     |(with_reducible ((first|refine ah (fun K hK=>?_)|refine aI (fun K hK=>?_));(first|refine lO ?_|refine oz ?_|refine oA ?_|refine oB ?_|refine oC ?_|refine oD ?_|refine oE ?_));(try simp only[true_implies,false_implies,not_true_eq_false,not_false_eq_true,b9,if_true,if_false,Nat.reduceEqDiff,aJ,dg,Nat.zero_add,ez,eX,cw,bM,List.getElem?_cons_zero,List.getElem?_cons_succ,eN,gT,f9,and_true,true_and,if_false,if_true,c5,hL8,q0,hix2,hlt2,b7,o5,o6,hw2,Nat.add_zero,eC]))
     |(revert hK;intro hK;(with_reducible refine hK _ ?_;clear hK K)))
     exact skip (D1 o5 o6)
    have ho':x.op=5∨x.op=6:=by rcases ho with⟨h,_⟩|⟨_,h⟩<;>simp[of_eq_true h]
    rcases gB_in (l:=l) (fs:=fs) ho' with⟨hg,hb⟩|⟨hg,ha,hb⟩|⟨hg,ha,hl,hb⟩|⟨hg,ha,hl,y,hy,hb⟩
    ·rw[hg] at q9
     rcases ho with⟨o5,o6⟩|⟨o5,o6⟩
     all_goals
      repeat' (first
      |with_reducible (first|refine ai ?_|refine ar ?_|refine au rfl ?_|refine ax rfl ?_|refine aN ?_|refine gV ?_|refine aj (id:=3) (fun Q3 hn3 hx3 hr3 ho3=>?_)|refine hn3 _ ?_|refine bl (id:=4) (fun Q4 hn4 hx4 hr4 ho4=>?_)|refine hx4 _ ?_|refine aj (id:=6) (fun Q6 hn6 hx6 hr6 ho6=>?_)|refine hn6 _ ?_|refine hx6 _ ?_|refine bl (id:=5) (fun Q5 hn5 hx5 hr5 ho5=>?_)|refine hx5 _ ?_|refine ho5 _ _ (by decide) ?_)
      |(with_reducible ((first|refine ah (fun K hK=>?_)|refine aI (fun K hK=>?_));(first|refine lO ?_|refine oz ?_|refine oA ?_|refine oB ?_|refine oC ?_|refine oD ?_|refine q8 ?_|refine oE ?_));(try simp only[true_implies,false_implies,not_true_eq_false,not_false_eq_true,b9,if_true,if_false,Nat.reduceEqDiff,aJ,dg,Nat.zero_add,ez,eX,kM,cw,bM,List.getElem?_cons_zero,List.getElem?_cons_succ,eN,gT,lw,gf,lenS,f9,and_true,true_and,if_false,if_true,c5,hL8,q0,q9,hix2,hlt2,b7,o5,o6,hw2,Nat.add_zero,eC]))
      |(revert hK;intro hK;(with_reducible refine hK _ ?_;clear hK K)))
      exact skip hb
    ·rw[hg] at q9
     rcases ho with⟨o5,o6⟩|⟨o5,o6⟩
     all_goals
      repeat' (first
      |with_reducible (first|refine ai ?_|refine ar ?_|refine au rfl ?_|refine ax rfl ?_|refine aN ?_|refine gV ?_|refine aj (id:=3) (fun Q3 hn3 hx3 hr3 ho3=>?_)|refine hn3 _ ?_|refine bl (id:=4) (fun Q4 hn4 hx4 hr4 ho4=>?_)|refine hx4 _ ?_|refine aj (id:=6) (fun Q6 hn6 hx6 hr6 ho6=>?_)|refine hn6 _ ?_|refine hx6 _ ?_|refine bl (id:=5) (fun Q5 hn5 hx5 hr5 ho5=>?_)|refine hx5 _ ?_|refine ho5 _ _ (by decide) ?_)
      |(with_reducible ((first|refine ah (fun K hK=>?_)|refine aI (fun K hK=>?_));(first|refine lO ?_|refine oz ?_|refine oA ?_|refine oB ?_|refine oC ?_|refine oD ?_|refine q8 ?_|refine oE ?_));(try simp only[true_implies,false_implies,not_true_eq_false,not_false_eq_true,b9,if_true,if_false,Nat.reduceEqDiff,aJ,dg,Nat.zero_add,ez,eX,kM,cw,bM,List.getElem?_cons_zero,List.getElem?_cons_succ,eN,gU,gT,nL,lw,ic,gf,lenS,dU,f9,and_true,true_and,if_false,if_true,c5,hL8,q0,q9,q11,hix2,hlt2,b7,o5,o6,ha,hw2,Nat.add_zero,eC]))
      |(revert hK;intro hK;(with_reducible refine hK _ ?_;clear hK K)))
      exact skip hb
    ·rw[hg] at q9
     rcases ho with⟨o5,o6⟩|⟨o5,o6⟩
     all_goals
      repeat' (first
      |with_reducible (first|refine ai ?_|refine ar ?_|refine au rfl ?_|refine ax rfl ?_|refine aN ?_|refine gV ?_|refine aj (id:=3) (fun Q3 hn3 hx3 hr3 ho3=>?_)|refine hn3 _ ?_|refine bl (id:=4) (fun Q4 hn4 hx4 hr4 ho4=>?_)|refine hx4 _ ?_|refine aj (id:=6) (fun Q6 hn6 hx6 hr6 ho6=>?_)|refine hn6 _ ?_|refine hx6 _ ?_|refine bl (id:=5) (fun Q5 hn5 hx5 hr5 ho5=>?_)|refine hx5 _ ?_|refine ho5 _ _ (by decide) ?_)
      |(with_reducible ((first|refine ah (fun K hK=>?_)|refine aI (fun K hK=>?_));(first|refine lO ?_|refine oz ?_|refine oA ?_|refine oB ?_|refine oC ?_|refine oD ?_|refine q8 ?_|refine oE ?_));(try simp only[true_implies,false_implies,not_true_eq_false,not_false_eq_true,b9,if_true,if_false,Nat.reduceEqDiff,aJ,dg,Nat.zero_add,ez,eX,kM,cw,bM,List.getElem?_cons_zero,List.getElem?_cons_succ,eN,gU,gT,nL,lw,ic,gf,lenS,dU,f9,and_true,true_and,if_false,if_true,c5,hL8,q0,q9,q11,hix2,hlt2,b7,o5,o6,ha,hl,hw2,aP,Nat.add_zero,eC]))
      |(revert hK;intro hK;(with_reducible refine hK _ ?_;clear hK K)))
      exact skip hb
    ·rw[hg] at q9
     have hyw:=hfs y (List.mem_of_getElem? hy)
     have hiy:=hY (k:=.i64) eI (by omega) ha hy
     have hkp:=fun m=>k18 l y hyw x.size (decide (x.op=6)) (fid:=14) (d:=96) (m:=m)
     rw[hb] at hkp
     cases hbb:gB l fs x
     all_goals
      rw[hbb] at hkp
      rcases ho with⟨o5,o6⟩|⟨o5,o6⟩
      all_goals
       simp only[o6,decide_true,decide_false] at hkp
       repeat' (first
       |with_reducible (first|refine ai ?_|refine ar ?_|refine au rfl ?_|refine ax rfl ?_|refine aN ?_|refine gV ?_|refine aj (id:=3) (fun Q3 hn3 hx3 hr3 ho3=>?_)|refine hn3 _ ?_|refine bl (id:=4) (fun Q4 hn4 hx4 hr4 ho4=>?_)|refine hx4 _ ?_|refine aj (id:=6) (fun Q6 hn6 hx6 hr6 ho6=>?_)|refine hn6 _ ?_|refine hx6 _ ?_|refine bl (id:=5) (fun Q5 hn5 hx5 hr5 ho5=>?_)|refine hx5 _ ?_|refine ho5 _ _ (by decide) ?_)
       |(with_reducible ((first|refine ah (fun K hK=>?_)|refine aI (fun K hK=>?_));(first|refine lO ?_|refine oz ?_|refine oA ?_|refine oB ?_|refine oC ?_|refine oD ?_|refine q8 ?_|refine t14r18 ?_|refine t14r19 ?_|refine oE ?_));(try simp only[true_implies,false_implies,not_true_eq_false,not_false_eq_true,b9,if_true,if_false,Nat.reduceEqDiff,aJ,dg,Nat.zero_add,ez,List.drop_zero,eX,kM,cw,bM,List.getElem?_cons_zero,List.getElem?_cons_succ,eN,gU,gT,nL,lw,Option.map_some,ic,gf,lenS,dU,f9,ay,List.nil_append,List.cons_append,List.length_cons,List.length_nil,and_true,true_and,Nat.le_refl,gi,if_false,if_true,c1,c5,hL8,q0,q7,q9,q11,hix2,hlt2,b7,o5,o6,ha,hl,hw2,aP,bR,cY,hiy,wa (eI y),hkp,kB,hst,hwg,Nat.add_zero,eC]))
       |(revert hK;intro hK;(with_reducible refine hK _ ?_;clear hK K)))
       first|exact skip hbb|exact done hbb
end Go.Cm
namespace Go.Cm
open Go.Proofs Go.Ir Go.Gr
theorem k16 (f:Cd) (hf:Sized f) {fid:FuncId}{d:Tmp}{m:Mem}:aB An FF fid (some d) 16 [.agg (aZ f)] m=some (.int .i64 (if bG f=true then 0 else 160),m):=by
 obtain⟨_,⟨H',rfl⟩,h⟩:=x16 f hf
 exact cr h (fun _ _ _=>rfl) rfl (by simp only[cans,aC,codeE.can]) rfl (by simp only[noGs,noG,codeE.noG,Bool.and_self]) rfl
theorem wR {i j g:Nat}{ns:List Nd}(hN:ns.length*112≤140737488355328) {m:Mem}(hm:aK m.L j=some (.arr g 12 [] 0)) {K:CV×Mem→Prop}
  (hK:∀ v m',NodesV j m'.L v ns→m'.H=m.H→(∀ i,i≠j→aK m'.L i=aK m.L i)→K (v,m')):Obt (ej false i 12 112 (.ref (.l j) g 0 0) (sl ndC ns) m) K:=by
 have hc:content m 12 (sl ndC ns)=some (ns.flatMap ndC):=by simp only[content,sl,bC ndE.len,if_true]
 have hb:cN 112 (0+ns.length)=true:=lJ (by decide) (by omega) (by omega)
 rw[fP,hc,aP,hm]
 simp only[ea]
 rw[if_pos (by simp only[hb,and_true,true_and];simp),aJ]
 refine hK _ _ (.inr ⟨g+1,by rw[Nat.zero_add],?_⟩) rfl fun i hi=>by rw[ba,if_neg (Ne.symm hi)]
 rw[ba,if_pos rfl];simp
set_option maxHeartbeats 4000000 in
theorem x17 (l:Lay) (f:Cd) (fs:List Fact) (hf:Sized f) (hfs:∀ x ∈ fs,x.wf) (hN:∀ p ∈ f.parts,p.nodes.length*112≤140737488355328) :
  ∃ r,(∃ H',r=(if bG f=true then CV.tuple [.agg [sl ptC (de l fs f).parts,.int .i64 f.values],.int .i64 (cO l fs f.parts),.int .i64 0] else CV.tuple [.agg [.nil,.int .i64 0],.int .i64 0,.int .i64 160],H'))∧FF 17 [.agg (cX l),.agg (aZ f),sl cx fs] []=some r:=by
 have hkc:∀ d m,aB An FF 17 (some d) 16 [.agg [sl ptC f.parts,.int .i64 f.values]] m=_:=fun d m=>k16 f hf (fid:=17) (d:=d) (m:=m)
 cases hc:bG f with
 |false=>
  rw[hc,if_neg (by decide)] at hkc
  refine bA rfl Try.func17 s17 (Nat.le_of_ble_eq_true rfl) (fun Q hqr hqn=>?_)
  rw[bf (show An.pure 17=true from rfl) (by simp only[cans,aG,az,aC,aH,codeE.can,layE.can,factE.can_sl])]
  simp only[aO,Nat.reduceAdd,c17]
  repeat' (first
  |with_reducible (first|refine ai ?_|refine au rfl ?_|refine be ?_)
  |(with_reducible (first|(refine ah (fun K hK=>?_);(first|refine t17r0 ?_|refine t17r1 ?_|refine t17r2 ?_))|refine hqr _ ?_);(try simp only[SS,Nat.reduceEqDiff,ap,bv,aR,aS,Nat.reduceAdd,br,bg,ay,Bool.false_eq_true,r17,cl29,aQ,ak,aD,am,dD,gI,vV,bz,bW,aZ,bR,cY,hkc]))
  |(revert hK;intro hK;(first|refine And.intro ?_ ?_|intro _|omega|(with_reducible refine hK _ ?_;clear hK K))))
  all_goals exact⟨_,rfl⟩
 |true=>
  rw[hc,if_pos rfl] at hkc
  have hfi:=l6 hc
  have hpl:=hf.parts
  obtain⟨n,hn⟩:∃ n:Nat,f.parts.length=n:=⟨_,rfl⟩
  have hn0:1≤n:=by rw[←hn];exact hfi.parts.1
  refine bA rfl Try.func17 s17 (Nat.le_of_ble_eq_true rfl) (fun Q hqr hqn=>?_)
  rw[bf (show An.pure 17=true from rfl) (by simp only[cans,aG,az,aC,aH,codeE.can,layE.can,factE.can_sl])]
  simp only[aO,Nat.reduceAdd,c17]
  repeat' (first
  |with_reducible (first|refine ai ?_|refine ar ?_|refine ax rfl ?_|refine aj (id:=0) (fun Q0 hn0 hx0 hr0 ho0=>?_))
  |(with_reducible (refine ah (fun K hK=>?_);(first|refine t17r0 ?_|refine t17r1 ?_|refine t17r3 ?_|refine t17r4 ?_|refine t17r5 ?_));(try simp only[SS,Nat.reduceEqDiff,ap,bv,aR,aS,Nat.reduceAdd,br,dy,bg,ay,aZ,bR,cY,hkc]))
  |(revert hK;intro hK;(with_reducible refine hK _ ?_;clear hK K)))
  refine aU (fun k s=>∃ (d t:List Pt) (vG:CV) (g3 g4 g6 g9:Nat) (L:List (Nat×HO)),f.parts=d++t∧k=t.length ∧
   (aK L 48=some (.var g3 (cX l) 0)∧aK L 64=some (.var g4 [sl ptC f.parts,.int .i64 f.values] 0)∧aK L 96=some (.var g6 [.nil,.int .i64 0] 0)∧aK L 144=some (.var g9 [vG,.int .i64 f.values] 0)∧OwnE ptC 10 ⟨L,[]⟩ 1632 vG (d.map (bU l fs))) ∧
   s=⟨[(2,sl cx fs),(3,.ptr (.l 48) g3 0),(4,.ptr (.l 64) g4 0),(6,.ptr (.l 96) g6 0),(9,.ptr (.l 144) g9 0),(10,.int .i64 (cO l fs d)),(11,.int .i64 d.length)],⟨L,[]⟩⟩) _
   ⟨[],f.parts,.nil,_,_,_,_,_,rfl,rfl,⟨by simp[bi,aq],by simp[bi,aq],by simp[bi,aq],by simp[bi,aq],.nil⟩,rfl⟩ ?_
  rintro k s ⟨d,t,vG,g3,g4,g6,g9,L,h2,rfl,⟨b1,b2,b3,b4,b5⟩,rfl⟩ QL1 hnL1 hxL1 hrL1
  have hlen:=congrArg List.length h2
  simp only[List.length_append] at hlen
  simp only[c17l1]
  cases t with
  |nil=>
   simp only[List.length_nil] at hlen
   rw[List.append_nil] at h2
   rw[←h2] at b5
   repeat' (first
   |with_reducible (first|refine ai ?_|refine ax rfl ?_|refine aN ?_|refine aF ?_|refine hx0 _ ?_|refine hxL1 _ _ ?_)
   |(with_reducible (first|(refine ah (fun K hK=>?_);(first|refine t17r6 ?_|refine t17r19 ?_))|refine hqr _ ?_);(try simp only[SS,Nat.reduceEqDiff,ap,Nat.reduceAdd,lenS,cD,ay,r17,cl29,aQ,ak,aD,am,dD,gI,bz,bW,b2,b3,b4,aP]))
   |(revert hK;intro hK;(first|refine And.intro ?_ ?_|intro _|omega|(with_reducible refine hK _ ?_;clear hK K))))
   have b6:OwnE ptC 10 (bi ⟨L,[]⟩ 96 (HO.var g6 [vG,CV.int IntKind.i64 f.values] 0)) 1632 vG (f.parts.map (bU l fs)):=b5.keep (by simp[bi,aq])
   obtain⟨m1,e1,e2⟩:=b6.seen.esc5 ptE.len
   rw[e1,aJ,←h2]
   have hr:rowC ptC (f.parts.map (bU l fs))=sl ptC (f.parts.map (bU l fs)):=by
    cases hp:f.parts with
    |nil=>rw[hp] at hn;simp at hn;omega
    |cons a r=>rfl
   rw[hr]
   exact⟨_,rfl,rfl⟩
  |cons p t=>
   simp only[List.length_cons] at hlen
   have hpm:p ∈ f.parts:=by rw[h2];simp
   have hpN:=hN p hpm
   have hgl:=rU (l:=l) (fs:=fs) (ps:=d) fun q hq=>hN q (by rw[h2];exact List.mem_append_left _ hq)
   have hwd:IntKind.i64.wrap ((d.length:Int)+1)=d.length+1:=wI (by omega) (by omega)
   have hb0:∀ m,cd false 560 12 0 [] [] m=some (.ref (.l 560) (bj m.L 560) 0 0,bi m 560 (.arr (bj m.L 560) 12 [] 0)):=fun m=>rfl
   repeat' (first
   |with_reducible (first|refine ai ?_|refine ar ?_|refine au rfl ?_|refine aj (id:=1) (fun Q1 hn1 hx1 hr1 ho1=>?_))
   |(with_reducible (refine ah (fun K hK=>?_);(first|refine t17r6 ?_|refine t17r8 ?_|refine t17r9 ?_));(try simp only[SS,Nat.reduceEqDiff,bv,aR,aS,Nat.reduceAdd,lenS,ay,b2,aP,aM ptE.len (by omega) h2,ct,ptC,hb0,eC]))
   |(revert hK;intro hK;(first|refine And.intro ?_ ?_|intro _|omega|(with_reducible refine hK _ ?_;clear hK K))))
   obtain⟨g12,hg12⟩:∃ g,bj L 192=g:=⟨_,rfl⟩
   rw[hg12]
   refine wR hpN (by rw[ba,if_pos rfl]) fun v m' hV hH hfr=>?_
   have h192:aK m'.L 192=some (.var g12 [sl aX p.pred,sl phC p.phis,sl ndC p.nodes,.int .i64 p.fin.op,.int .i64 p.fin.cond,.bool p.fin.wide,.int .i64 p.fin.a,.int .i64 p.fin.b,.int .i64 p.fin.to,.int .i64 p.fin.els] 0):=by rw[hfr 192 (by decide)];simp[bi,aq]
   have hfr1:∀ i,i≠560→i≠192→aK m'.L i=aK L i:=fun i n1 n2=>by rw[hfr i n1];simp[bi,aq,Ne.symm n1,Ne.symm n2]
   obtain⟨L1,H1⟩:=m'
   simp only[ik] at hH
   subst hH
   simp only[hV.cells,h192,lj,List.length_cons,List.length_nil]
   rw[if_pos ⟨trivial,by decide,by decide⟩,aJ]
   refine hK _ ?_
   clear hK K
   repeat' (first
   |with_reducible (first|refine ai ?_|refine aj (id:=2) (fun Q2 hn2 hx2 hr2 ho2=>?_))
   |(with_reducible (refine ah (fun K hK=>?_);refine t17r10 ?_);(try simp only[SS,Nat.reduceEqDiff,Nat.reduceAdd,ay]))
   |(revert hK;intro hK;(with_reducible refine hK _ ?_;clear hK K)))
   refine aU (fun k s=>∃ (d2 t2:List Nd) (L:List (Nat×HO)),p.nodes=d2++t2∧k=t2.length ∧
    (aK L 48=some (.var g3 (cX l) 0)∧aK L 64=some (.var g4 [sl ptC f.parts,.int .i64 f.values] 0)∧aK L 96=some (.var g6 [.nil,.int .i64 0] 0)∧aK L 144=some (.var g9 [vG,.int .i64 f.values] 0)∧OwnE ptC 10 ⟨L,[]⟩ 1632 vG (d.map (bU l fs))) ∧
    aK L 192=some (.var g12 [sl aX p.pred,sl phC p.phis,v,.int .i64 p.fin.op,.int .i64 p.fin.cond,.bool p.fin.wide,.int .i64 p.fin.a,.int .i64 p.fin.b,.int .i64 p.fin.to,.int .i64 p.fin.els] 0)∧NodesV 560 L v (d2.map (cH l fs)++t2) ∧
    s=⟨[(2,sl cx fs),(3,.ptr (.l 48) g3 0),(4,.ptr (.l 64) g4 0),(6,.ptr (.l 96) g6 0),(9,.ptr (.l 144) g9 0),(10,.int .i64 (((cO l fs d+ec l fs d2:Nat):Int))),(11,.int .i64 d.length),(12,.ptr (.l 192) g12 0),(13,.int .i64 d2.length)],⟨L,[]⟩⟩) _
    ⟨[],p.nodes,cF L1 192 (.var g12 [sl aX p.pred,sl phC p.phis,v,.int .i64 p.fin.op,.int .i64 p.fin.cond,.bool p.fin.wide,.int .i64 p.fin.a,.int .i64 p.fin.b,.int .i64 p.fin.to,.int .i64 p.fin.els] 0),rfl,rfl,⟨by simp[aq,hfr1,b1],by simp[aq,hfr1,b2],by simp[aq,hfr1,b3],by simp[aq,hfr1,b4],b5.keep (by simp[aq,hfr1])⟩,by simp[aq],hV.keep (by simp[aq]),rfl⟩ ?_
   rintro k s ⟨d2,t2,L2,h3,rfl,hBase,c5,hV2,rfl⟩ QL0 hnL0 hxL0 hrL0
   have hlen2:=congrArg List.length h3
   simp only[List.length_append] at hlen2
   have hgn:=nQ (l:=l) (fs:=fs) (ns:=d2)
   have hcl:=hV2.len
   have hnl:(d2.map (cH l fs)++t2).length=p.nodes.length:=by rw[h3];simp
   rw[hnl] at hcl
   simp only[c17l0]
   cases t2 with
   |nil=>
    simp only[List.length_nil] at hlen2
    rw[List.append_nil] at h3 hV2
    rw[←h3] at hV2
    obtain⟨c1,c2,c3,c4,c6⟩:=hBase
    obtain⟨m1,e1,e2,e3⟩:=rO (p:=p) (H:=[]) hV2
    repeat' (first
    |with_reducible (first|refine ai ?_|refine ax rfl ?_|refine aN ?_|refine hx2 _ ?_|refine hxL0 _ _ ?_)
    |(with_reducible ((first|refine ah (fun K hK=>?_)|refine aI (fun K hK=>?_));(first|refine lP ?_|refine t17r18 ?_));(try simp only[SS,Nat.reduceEqDiff,Nat.reduceAdd,lenS,c4,c5,hcl,eC]))
    |(revert hK;intro hK;(first|refine And.intro ?_ ?_|intro _|omega|(with_reducible refine hK _ ?_;clear hK K))))
    have hfil:bg [.nil,.nil,.nil,.int .i64 0,.int .i64 0,.bool false,.int .i64 0,.int .i64 0,.int .i64 0,.int .i64 0] [(0,10,.agg [sl aX p.pred,sl phC p.phis,v,.int .i64 p.fin.op,.int .i64 p.fin.cond,.bool p.fin.wide,.int .i64 p.fin.a,.int .i64 p.fin.b,.int .i64 p.fin.to,.int .i64 p.fin.els])]=some [sl aX p.pred,sl phC p.phis,v,.int .i64 p.fin.op,.int .i64 p.fin.cond,.bool p.fin.wide,.int .i64 p.fin.a,.int .i64 p.fin.b,.int .i64 p.fin.to,.int .i64 p.fin.els]:=rfl
    rw[bslX_E hfil e1,aJ]
    refine OwnE.app (l:=d.map (bU l fs)) (ys:=[bU l fs p]) ?_ ptE.len (by simp only[cU,ba,if_true,dz];rfl) rfl (by decide) (by simp only[List.length_singleton,List.length_map];omega) fun v' m' r1 r2 r3=>?_
    ·exact c6.keep (by simp[bi,aq,e3])
    obtain⟨L',H'⟩:=m'
    simp only[ik,e2] at r2
    subst r2
    have hk0:∀ i,i≠1632→i≠1616→i≠560→aK L' i=aK L2 i:=fun i n1 n2 n3=>by
     have:=r3 i n1
     simp only at this
     rw[this];simp[bi,aq,Ne.symm n2,e3 i n3]
    have h144:aK L' 144=some (.var g9 [vG,.int .i64 f.values] 0):=by rw[hk0 144 (by decide) (by decide) (by decide)];exact c4
    have hcv:ap v'=some [v']:=by rcases r1 with⟨h,_⟩|⟨_,_,rfl,_⟩;simp at h;rfl
    simp only[hcv,h144,lj,List.length_singleton,List.length_cons,List.length_nil]
    rw[if_pos ⟨trivial,by decide,by decide⟩,aJ]
    refine hK _ ?_
    clear hK K
    repeat' (first
    |with_reducible refine hn1 _ ?_
    |(with_reducible (refine aI (fun K hK=>?_);refine t17r7 ?_);(try simp only[SS,Nat.reduceEqDiff,ay,hwd]))
    |(revert hK;intro hK;(with_reducible refine hK _ ?_;clear hK K)))
    rw[show((d.length:Int)+1)=((d++[p]).length:Int) by simp,←h3,←nP]
    refine hnL1 t.length _ (by simp) ⟨d++[p],t,v',g3,g4,g6,g9,cF L' 144 (.var g9 [v',.int .i64 f.values] 0),by simp[h2],rfl,⟨?_,?_,?_,?_,?_⟩,rfl⟩
    ·rw[aq,if_neg (by decide),hk0 48 (by decide) (by decide) (by decide)];exact c1
    ·rw[aq,if_neg (by decide),hk0 64 (by decide) (by decide) (by decide)];exact c2
    ·rw[aq,if_neg (by decide),hk0 96 (by decide) (by decide) (by decide)];exact c3
    ·rw[aq,if_pos rfl]
    ·rw[List.map_append]
     exact r1.keep (by simp[aq])
   |cons x t2=>
    simp only[List.length_cons] at hlen2
    have hw2:IntKind.i64.wrap ((d2.length:Int)+1)=d2.length+1:=wI (by omega) (by omega)
    have hwg:IntKind.i64.wrap (((cO l fs d+ec l fs d2:Nat):Int)+1)=((cO l fs d+ec l fs d2+1:Nat):Int):=by rw[wI (by omega) (by omega)];rfl
    obtain⟨g8,rfl,hL8⟩:∃ g,v=.ref (.l 560) g 0 p.nodes.length∧aK L2 560=some (.arr g 12 ((d2.map (cH l fs)++x::t2).flatMap ndC) 0):=by
     rcases hV2 with⟨h,_⟩|⟨g,h1,h2⟩
     ·simp at h
     ·exact⟨g,by rw[h1,hnl],h2⟩
    have hci2:(d2.map (cH l fs)++x::t2)[d2.length]?=some x:=by rw[List.getElem?_append_right (by simp)];simp
    obtain⟨htk2,hof2⟩:=hJ ndE.len hci2
    have hspl:=gd ndE.len (new:=[CV.bool false]) (off:=9) (a':={ x with grd:=false }) hci2 rfl (by decide)
    obtain⟨cs2,hcs2⟩:∃ cs2,(d2.map (cH l fs)++x::t2).flatMap ndC=cs2:=⟨_,rfl⟩
    rw[hcs2] at hL8 hof2 htk2 hspl
    simp only[ndC] at htk2
    have hof3:d2.length*12+9+1≤cs2.length:=by omega
    have hix2:bd 12 (.ref (.l 560) g8 0 p.nodes.length) (.int .i64 d2.length)=some (.ptr (.l 560) g8 (d2.length*12)):=by rw[bD,if_pos ⟨by omega,by omega⟩];simp
    have hlt2:(d2.length:Int)<p.nodes.length:=by omega
    obtain⟨c1,c2,c3,c4,c6⟩:=hBase
    have skip:gB l fs x=false→∀ g14,QL0 .normal ⟨[(2,sl cx fs),(3,.ptr (.l 48) g3 0),(4,.ptr (.l 64) g4 0),(6,.ptr (.l 96) g6 0),(9,.ptr (.l 144) g9 0),(10,.int .i64 (((cO l fs d+ec l fs d2:Nat):Int))),(11,.int .i64 d.length),(12,.ptr (.l 192) g12 0),(13,.int .i64 (d2.length+1))],bi ⟨L2,[]⟩ 224 (.var g14 (ndC x) 0)⟩:=fun hb g14=>by
     rw[show((d2.length:Int)+1)=((d2++[x]).length:Int) by simp]
     refine hnL0 t2.length _ (by simp) ⟨d2++[x],t2,cF L2 224 (.var g14 (ndC x) 0),by simp[h3],rfl,⟨by simp[aq,c1],by simp[aq,c2],by simp[aq,c3],by simp[aq,c4],c6.keep (by simp[aq])⟩,by simp[aq,c5],?_,by rw[hX,hb];rfl⟩
     rw[List.map_append,List.map_cons,List.map_nil,kJ hb,List.append_assoc]
     exact hV2.keep (by simp[aq])
    have done:gB l fs x=true→∀ g14,QL0 .normal ⟨[(2,sl cx fs),(3,.ptr (.l 48) g3 0),(4,.ptr (.l 64) g4 0),(6,.ptr (.l 96) g6 0),(9,.ptr (.l 144) g9 0),(10,.int .i64 (((cO l fs d+ec l fs d2+1:Nat):Int))),(11,.int .i64 d.length),(12,.ptr (.l 192) g12 0),(13,.int .i64 (d2.length+1))],bi (bi ⟨L2,[]⟩ 224 (.var g14 (ndC x) 0)) 560 (.arr g8 12 (ay cs2 (d2.length*12+9) [.bool false]) 0)⟩:=fun hb g14=>by
     rw[show((d2.length:Int)+1)=((d2++[x]).length:Int) by simp]
     refine hnL0 t2.length _ (by simp) ⟨d2++[x],t2,cF (cF L2 224 (.var g14 (ndC x) 0)) 560 (.arr g8 12 (ay cs2 (d2.length*12+9) [.bool false]) 0),by simp[h3],rfl,⟨by simp[aq,c1],by simp[aq,c2],by simp[aq,c3],by simp[aq,c4],c6.keep (by simp[aq])⟩,by simp[aq,c5],?_,by rw[hX,hb];rfl⟩
     rw[List.map_append,List.map_cons,List.map_nil,qw hb,List.append_assoc]
     refine .inr ⟨g8,by rw[←hnl];simp,?_⟩
     rw[aq,if_pos rfl,hspl,qX];rfl
    have ho:(¬ x.op=5∧¬ x.op=6)∨((x.op=5)=True∧¬ x.op=6)∨(¬ x.op=5∧(x.op=6)=True):=by
     by_cases h5:x.op=5
     ·exact .inr (.inl ⟨eq_true h5,by omega⟩)
     ·by_cases h6:x.op=6
      ·exact .inr (.inr ⟨h5,eq_true h6⟩)
      ·exact .inl ⟨h5,h6⟩
    rcases ho with⟨o5,o6⟩|ho
    ·repeat' (first
     |with_reducible (first|refine ai ?_|refine ar ?_|refine au rfl ?_|refine bn rfl ?_|refine bx ?_|refine aj (id:=3) (fun Q3 hn3 hx3 hr3 ho3=>?_)|refine hn3 _ ?_)
     |(with_reducible ((first|refine ah (fun K hK=>?_)|refine aI (fun K hK=>?_));(first|refine lP ?_|refine oG ?_|refine oH ?_|refine oI ?_|refine oF ?_));(try simp only[SS,Nat.reduceEqDiff,aS,Nat.reduceAdd,lenS,ay,fB,c5,hcl,hL8,htk2,hof2,hix2,hlt2,o5,o6,hw2,eC,jm]))
     |(revert hK;intro hK;(with_reducible refine hK _ ?_;clear hK K)))
     exact skip (D1 o5 o6) _
    have ho':x.op=5∨x.op=6:=by rcases ho with⟨h,_⟩|⟨_,h⟩<;>simp[of_eq_true h]
    rcases gB_in (l:=l) (fs:=fs) ho' with⟨hg,hb⟩|⟨hg,ha,hb⟩|⟨hg,ha,hl,hb⟩|⟨hg,ha,hl,y,hy,hb⟩
    ·rcases ho with⟨o5,o6⟩|⟨o5,o6⟩
     all_goals
      repeat' (first
      |with_reducible (first|refine ai ?_|refine ar ?_|refine au rfl ?_|refine bn rfl ?_|refine bx ?_|refine aj (id:=3) (fun Q3 hn3 hx3 hr3 ho3=>?_)|refine hn3 _ ?_)
      |(with_reducible ((first|refine ah (fun K hK=>?_)|refine aI (fun K hK=>?_));(first|refine lP ?_|refine oG ?_|refine oH ?_|refine oI ?_|refine oF ?_));(try simp only[SS,Nat.reduceEqDiff,aS,Nat.reduceAdd,lenS,ay,fB,c5,hcl,hL8,htk2,hof2,hix2,hlt2,o5,o6,hg,hw2,eC,jm]))
      |(revert hK;intro hK;(with_reducible refine hK _ ?_;clear hK K)))
      first|exact skip hb _|(rw[←hg];exact skip hb _)
    ·rcases ho with⟨o5,o6⟩|⟨o5,o6⟩
     all_goals
      repeat' (first
      |with_reducible (first|refine ai ?_|refine ar ?_|refine au rfl ?_|refine bn rfl ?_|refine bx ?_|refine aj (id:=3) (fun Q3 hn3 hx3 hr3 ho3=>?_)|refine hn3 _ ?_)
      |(with_reducible ((first|refine ah (fun K hK=>?_)|refine aI (fun K hK=>?_));(first|refine lP ?_|refine oG ?_|refine oH ?_|refine oI ?_|refine oF ?_));(try simp only[SS,Nat.reduceEqDiff,aS,Nat.reduceAdd,lenS,ay,fB,c5,hcl,hL8,htk2,hof2,hix2,hlt2,o5,o6,hg,ha,hw2,eC,jm]))
      |(revert hK;intro hK;(with_reducible refine hK _ ?_;clear hK K)))
      first|exact skip hb _|(rw[←hg];exact skip hb _)
    ·rcases ho with⟨o5,o6⟩|⟨o5,o6⟩
     all_goals
      repeat' (first
      |with_reducible (first|refine ai ?_|refine ar ?_|refine au rfl ?_|refine bn rfl ?_|refine bx ?_|refine aj (id:=3) (fun Q3 hn3 hx3 hr3 ho3=>?_)|refine hn3 _ ?_)
      |(with_reducible ((first|refine ah (fun K hK=>?_)|refine aI (fun K hK=>?_));(first|refine lP ?_|refine oG ?_|refine oH ?_|refine oI ?_|refine oF ?_));(try simp only[SS,Nat.reduceEqDiff,aS,Nat.reduceAdd,lenS,ay,fB,c5,hcl,hL8,htk2,hof2,hix2,hlt2,o5,o6,hg,ha,hl,aP,hw2,eC,jm]))
      |(revert hK;intro hK;(with_reducible refine hK _ ?_;clear hK K)))
      first|exact skip hb _|(rw[←hg];exact skip hb _)
    ·have hyw:=hfs y (List.mem_of_getElem? hy)
     have hiy:=hY (k:=.i64) eI (by omega) ha hy
     have hkp:=fun m=>k19 l y hyw x.size (decide (x.op=6)) (fid:=17) (d:=89) (m:=m)
     rw[hb] at hkp
     cases hbb:gB l fs x
     all_goals
      rw[hbb] at hkp
      rcases ho with⟨o5,o6⟩|⟨o5,o6⟩
      all_goals
       simp only[o6,decide_true,decide_false] at hkp
       repeat' (first
       |with_reducible (first|refine ai ?_|refine ar ?_|refine au rfl ?_|refine bc rfl ?_|refine bn rfl ?_|refine bx ?_|refine aj (id:=3) (fun Q3 hn3 hx3 hr3 ho3=>?_)|refine hn3 _ ?_)
       |(with_reducible ((first|refine ah (fun K hK=>?_)|refine aI (fun K hK=>?_));(first|refine lP ?_|refine oG ?_|refine oH ?_|refine oI ?_|refine t17r16 ?_|refine t17r17 ?_|refine oF ?_));(try simp only[SS,Nat.reduceEqDiff,aS,Nat.reduceAdd,lenS,q6,ay,Nat.zero_le,fB,cz,List.all_cons,List.all_nil,Bool.and_self,c1,c5,hcl,hL8,htk2,hof2,hof3,hix2,hlt2,o5,o6,hg,ha,hl,aP,bR,cY,hiy,wa (eI y),hkp,kB,hwg,hw2,eC,jm]))
       |(revert hK;intro hK;(with_reducible refine hK _ ?_;clear hK K)))
       first|exact skip hbb _|exact done hbb _|(rw[←hg];exact skip hbb _)|(rw[←hg];exact done hbb _)
end Go.Cm
