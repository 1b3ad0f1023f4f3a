import Derived.Test.YtijcpefcfcbcnaaIhD
import Derived.Test.YtijcpefcfcbcnaaIvF
import Derived.Test.YtijcpefcfcbcnaaIxA
import Derived.Test.YtijcpefcfcbcnaaIrC
import Derived.Test.YtijcpefcfcbcnaaIzH
set_option linter.unusedSimpArgs false
set_option linter.unusedVariables false
namespace Go.Cm
open Go.Proofs Go.Ir Go.Gr
theorem x27 (f:Cd) (hf:f.parts.length≤1048576) (hS:∀p∈f.parts,p.phis.length≤1048576∧p.nodes.length≤1048576):FF 27 [.agg (aZ f)] []=some (.int .i64 (GQ f.parts),[]):=by
 refine aL rfl Try.func27 s27 (Nat.le_of_ble_eq_true rfl) (λQ hqr hqn=>?_);rw[bf (show An.pure 27=true from rfl) (by simp only[cans,aG,az,aC,aH,codeE.can])];simp only[aO,Nat.reduceAdd,c27]
 repeat' (first
 |with_reducible (first|refine ai ?_|refine aj (id:=0) (λQ0 hn0 hx0 hr0 ho0=>?_))
 |(with_reducible (refine ah (λK hK=>?_);(first|refine t27r0 ?_|refine t27r1 ?_|refine t27r2 ?_));(try simp only[SS,Nat.reduceEqDiff,ap,aZ,aP]))
 |(with_reducible refine hK _ ?_;clear hK K))
 refine aU (λk s=>∃(d t:List Pt) (g:Nat) (L:List (Nat×HO)),f.parts=d++t∧k=t.length∧aK L 16=some (.var g [sl ptC f.parts,.int .i64 f.values] 0) ∧
  s=⟨[(1,.ptr (.l 16) g 0),(3,.int .i64 (GQ d)),(4,.int .i64 d.length)],⟨L,[]⟩⟩) _ ⟨[],f.parts,_,_,rfl,rfl,by simp[bi,aq],rfl⟩ ?_
 rintro k s ⟨d,t,g,L,h3,rfl,hL,rfl⟩ QL0 hnL0 hxL0 hrL0;have hlen:=congrArg List.length h3;simp only[List.length_append] at hlen;simp only[c27l0]
 cases t with
 |nil=>
  simp only[List.length_nil] at hlen;rw[List.append_nil] at h3
  repeat' (first
  |with_reducible (first|refine ai ?_|refine ax rfl ?_|refine aN ?_|refine aF ?_|refine hx0 _ ?_|refine hxL0 _ _ ?_)
  |(with_reducible (first|(refine ah (λK hK=>?_);(first|refine t27r3 ?_|refine t27r6 ?_))|refine hqr _ ?_);(try simp only[SS,Nat.reduceEqDiff,lenS,r27,aQ,ak,aD,am,bz,CV.int.injEq,hL,aP]))
  |(revert hK;intro hK;(first|refine And.intro ?_ ?_|intro _|omega|(with_reducible refine hK _ ?_;clear hK K))))
  rw[h3]
 |cons p t=>
  simp only[List.length_cons] at hlen;have hp:=hS p (by rw[h3];simp);have hc:=J7 (ps:=d) λq hq=>hS q (by rw[h3];exact List.mem_append_left _ hq);have hlt:(d.length:Int)<f.parts.length:=by omega
  have hwd:IntKind.i64.wrap ((d.length:Int)+1)=d.length+1:=wI (by omega) (by omega);have hw1:IntKind.i64.wrap ((GQ d:Int)+p.phis.length)=GQ d+p.phis.length:=wI (by omega) (by omega);have hw2:IntKind.i64.wrap ((GQ d:Int)+p.phis.length+p.nodes.length)=GQ d+p.phis.length+p.nodes.length:=wI (by omega) (by omega)
  repeat' (first
  |with_reducible (first|refine ai ?_|refine ar ?_|refine au rfl ?_|refine aj (id:=1) (λQ1 hn1 hx1 hr1 ho1=>?_)|refine hn1 _ ?_)
  |(with_reducible ((first|refine ah (λK hK=>?_)|refine aI (λK hK=>?_));(first|refine t27r3 ?_|refine t27r5 ?_|refine t27r4 ?_));(try simp only[SS,Nat.reduceEqDiff,bL,dw,lenS,hL,hlt,aM ptE.len (by omega) h3,ptC,aP,hw1,hw2,hwd]))
  |(with_reducible refine hK _ ?_;clear hK K))
  rw[show((d.length:Int)+1)=((d++[p]).length:Int) by simp,show((GQ d:Int)+p.phis.length+p.nodes.length)=((GQ (d++[p]):Nat):Int) by rw[Iw];omega];exact hnL0 t.length _ (by simp) ⟨d++[p],t,g,L,by simp[h3],rfl,hL,rfl⟩
theorem x5 (f:Cd) (hfit:Fit f) (hS:∀p∈f.parts,p.phis.length≤1048576∧p.nodes.length≤1048576) (hB:∀x∈GS f,x.2.length≤1048576) (hw:(F0 f).length≤8388608) :
  ∃r,(∃H',r=(CV.bool true,H'))∧FF 5 [.agg (aZ f)] []=some r:=by
 have hkh:=λd m=>k21 (fid:=5) (d:=d) (m:=m);obtain⟨b,hb⟩:∃b,(decide ((f.parts.length:Int)≤100)&&decide (f.values≤1000))=b:=⟨_,rfl⟩;have hks:∀d m,aB An FF 5 (some d) 20 [.agg [sl ptC f.parts,.int .i64 f.values]] m=_:=λd m=>k20 f (fid:=5) (d:=d) (m:=m) hb
 cases b with
 |false=>
  refine bA rfl Try.func5 s5 (Nat.le_of_ble_eq_true rfl) (λQ hqr hqn=>?_);rw[bf (show An.pure 5=true from rfl) (by simp only[cans,aG,az,aC,aH,codeE.can])];simp only[aO,Nat.reduceAdd,c5]
  repeat' (first
  |with_reducible (first|refine ai ?_|refine au rfl ?_|refine b6 ?_)
  |(with_reducible (first|(refine ah (λK hK=>?_);(first|refine t5r0 ?_|refine t5r1 ?_|refine t5r2 ?_))|refine hqr _ ?_);(try simp only[SS,ap,Nat.reduceAdd,Bool.not_false,r5,aQ,ak,aD,am,aZ,hks,hkh]))
  |(with_reducible refine hK _ ?_;clear hK K))
  exact⟨_,rfl⟩
 |true=>
  have hf:Sized f:=hfit.sized (by simp only[Bool.and_eq_true,decide_eq_true_eq] at hb;omega);have hcan:cans [.agg (aZ f)]=[.agg (aZ f)]:=by simp only[cans,aC,codeE.can]
  have hno:noGs [.agg (aZ f)]=true:=by simp only[noGs,noG,codeE.noG,Bool.and_self]
  obtain⟨_,⟨H1,rfl⟩,h22⟩:=x22 f hf hS hB hw;obtain⟨_,⟨H2,rfl⟩,h23⟩:=x23 f hf hS;obtain⟨_,⟨H3,rfl⟩,h24⟩:=x24 f hf hB hw;have h25:=x25 f hf;have k26:∀d m,aB An FF 5 (some d) 26 [.agg [sl ptC f.parts,.int .i64 f.values]] m=some (.int .i64 (GQ f.parts),m):=λd m=>
   cr (args:=[.agg (aZ f)]) (x26 f hf.parts hS) (λ_ _ _=>rfl) rfl hcan rfl hno rfl
  have k27:∀d m,aB An FF 5 (some d) 27 [.agg [sl ptC f.parts,.int .i64 f.values]] m=some (.int .i64 (GQ f.parts),m):=λd m=>
   cr (args:=[.agg (aZ f)]) (x27 f hf.parts hS) (λ_ _ _=>rfl) rfl hcan rfl hno rfl
  have hch:∀k x m,chk true (some (.int k x,m))=some (.int k x,m):=λ_ _ _=>rfl;have hsetL:∀(L:List (Nat×HO)) (H:List HO) j o,bi ⟨L,H⟩ j o=⟨cF L j o,H⟩:=λ_ _ _ _=>rfl
  cases hc:bG f with
  |false=>
   rw[hc,if_neg (by decide)] at h22 h23 h24 h25;have k22:∀d m,aB An FF 5 (some d) 22 [.agg [sl ptC f.parts,.int .i64 f.values]] m=some (.tuple [.agg [.nil,.int .i64 0],.int .i64 160],m):=λd m=>
    ek (args:=[.agg (aZ f)]) h22 rfl hcan rfl hno rfl
   have k23:∀d m,aB An FF 5 (some d) 23 [.agg [sl ptC f.parts,.int .i64 f.values]] m=some (.tuple [.agg [.nil,.int .i64 0],.int .i64 160],m):=λd m=>
    ek (args:=[.agg (aZ f)]) h23 rfl hcan rfl hno rfl
   have k24:∀d m,aB An FF 5 (some d) 24 [.agg [sl ptC f.parts,.int .i64 f.values]] m=some (.nil,m):=λd m=>
    ek (args:=[.agg (aZ f)]) h24 rfl hcan rfl hno rfl
   have k25:∀d L,aB An FF 5 (some d) 25 [.agg [sl ptC f.parts,.int .i64 f.values]] ⟨L,[]⟩=some (.nil,⟨L,[]⟩):=λd L=>
    cf (m:=⟨L,[]⟩) (args:=[.agg (aZ f)]) (A:=An) rfl rfl h25
   obtain⟨_,⟨H4,rfl⟩,h15⟩:=x15 ⟨[],0⟩ ⟨by simp,by simp,by simp,by simp⟩;have k15:∀d m,aB An FF 5 (some d) 15 [.agg [.nil,.int .i64 0],.agg [.nil,.int .i64 0]] m=some (.bool true,m):=λd m=>
    cr h15 (λ_ _ _=>rfl) rfl rfl rfl rfl rfl
   refine bA rfl Try.func5 s5 (Nat.le_of_ble_eq_true rfl) (λQ hqr hqn=>?_);rw[bf (show An.pure 5=true from rfl) (by simp only[cans,aG,az,aC,aH,codeE.can])];simp only[aO,Nat.reduceAdd,c5]
   repeat' (first
   |with_reducible (first|refine ai ?_|refine ar ?_|refine ax rfl ?_|refine aj (id:=0) (λQ0 hn0 hx0 hr0 ho0=>?_))
   |(with_reducible (refine ah (λK hK=>?_);(first|refine t5r0 ?_|refine t5r1 ?_|refine t5r3 ?_|refine t5r4 ?_|refine t5r5 ?_|refine t5r6 ?_|refine t5r8 ?_));(try simp only[SS,Nat.reduceEqDiff,ap,bv,eE,Nat.reduceMul,Nat.reduceAdd,br,Bool.not_true,lenS,Gk,ay,Nat.reduceLeDiff,uc,sa,Gs,decide_false,Bool.or_false,Bool.false_eq_true,aZ,hsetL,hks,k22,k23,k24,k25,cV]))
   |(with_reducible refine hK _ ?_;clear hK K))
   refine aU (λk s=>∃(g1 g3 g5:Nat) (L:List (Nat×HO)),aK L 16=some (.var g1 [sl ptC f.parts,.int .i64 f.values] 0)∧aK L 48=some (.var g3 [.nil,.int .i64 0] 0)∧aK L 80=some (.var g5 [.nil,.int .i64 0] 0) ∧
    s=⟨[(1,.ptr (.l 16) g1 0),(3,.ptr (.l 48) g3 0),(4,.int .i64 160),(5,.ptr (.l 80) g5 0),(6,.int .i64 160),(7,.nil),(8,.nil),(9,.int .i64 0)],⟨L,[]⟩⟩) 0 ⟨_,_,_,_,by simp[aq],by simp[aq],by simp[aq],rfl⟩ ?_
   rintro k s ⟨g1,g3,g5,L,a1,a2,a3,rfl⟩ QL0 hnL0 hxL0 hrL0;simp only[c5l0]
   repeat' (first
   |with_reducible (first|refine ai ?_|refine ax rfl ?_|refine aN ?_|refine aF ?_|refine hx0 _ ?_|refine hxL0 _ _ ?_)
   |(with_reducible (first|(refine ah (λK hK=>?_);(first|refine t5r9 ?_|refine t5r13 ?_))|refine hqr _ ?_);(try simp only[SS,Nat.reduceEqDiff,Nat.reduceAdd,lenS,Gk,r5,aQ,ak,aD,am,a1,a2,a3,k15,k26,k27,hkh,kB,hch]))
   |(revert hK;intro hK;(first|refine And.intro ?_ ?_|intro _|omega|(with_reducible refine hK _ ?_;clear hK K))))
   exact⟨_,rfl⟩
  |true=>
   rw[hc,if_pos rfl] at h22 h23 h24 h25;have hfi:=l6 hc;obtain⟨n,hn⟩:∃n:Nat,f.values.toNat=n:=⟨_,rfl⟩;have hn1:n≤65536:=by have:=hfi.values;omega
   have hnl:(G6 f).length=n:=by simp[G6,hn]
   obtain⟨R,hR⟩:∃R,rowC ptR (F4 f).parts=R:=⟨_,rfl⟩;have hRR:=RowR.of (F4 f).parts;rw[hR] at h22 h23 hRR;rw[hn] at h25;have hnoT:noG (.tuple [.agg [R,.int .i64 f.values],.int .i64 0])=true:=by simp only[noGs,noG,eo,hRR.noG,Bool.and_self]
   have k22:∀d m,aB An FF 5 (some d) 22 [.agg [sl ptC f.parts,.int .i64 f.values]] m=some (.tuple [.agg [R,.int .i64 f.values],.int .i64 0],m):=λd m=>
    ek (args:=[.agg (aZ f)]) h22 rfl hcan rfl hno hnoT
   have k23:∀d m,aB An FF 5 (some d) 23 [.agg [sl ptC f.parts,.int .i64 f.values]] m=some (.tuple [.agg [R,.int .i64 f.values],.int .i64 0],m):=λd m=>
    ek (args:=[.agg (aZ f)]) h23 rfl hcan rfl hno hnoT
   have k24:∀m,aB An FF 5 (some 25) 24 [.agg [sl ptC f.parts,.int .i64 f.values]] m=some (.ref (.l 400) (bj m.L 400) 0 n,bi m 400 (.arr (bj m.L 400) 1 ((G6 f).flatMap bS) 0)):=λm=>by
    have:=ek (fid:=5) (d:=25) (m:=m) (args:=[.agg (aZ f)]) h24 rfl hcan rfl hno (iT jk _);rw[fO (show(An.glob 5).contains 25=false from rfl),hnl] at this;exact this
   have k25:∀d L,aB An FF 5 (some d) 25 [.agg [sl ptC f.parts,.int .i64 f.values]] ⟨L,[]⟩=some (.ref (.g 0) 1 0 n,⟨L,[.arr 1 1 ((G6 f).flatMap bS) 0]⟩):=λd L=>
    cf (m:=⟨L,[]⟩) (args:=[.agg (aZ f)]) (A:=An) rfl rfl h25
   obtain⟨_,⟨H4,rfl⟩,h15⟩:=x15 (F4 f) hf.dead;have k15:∀d m,aB An FF 5 (some d) 15 [.agg [R,.int .i64 f.values],.agg [R,.int .i64 f.values]] m=some (.bool true,m):=λd m=>by
    have h1:can (.agg [R,.int .i64 f.values])=.agg (aZ (F4 f)):=by simp only[aC,cans,aG,hRR.can];rfl
    refine cr h15 (λ_ _ _=>rfl) rfl (by simp only[cans,h1]) ?_ ?_ rfl
    ·simp only[List.all_cons,List.all_nil,eV,hRR.esc,Bool.and_true,Bool.true_and];rfl
    ·simp only[noGs,noG,eo,hRR.noG,Bool.and_self]
   refine bA rfl Try.func5 s5 (Nat.le_of_ble_eq_true rfl) (λQ hqr hqn=>?_);rw[bf (show An.pure 5=true from rfl) (by simp only[cans,aG,az,aC,aH,codeE.can])];simp only[aO,Nat.reduceAdd,c5]
   repeat' (first
   |with_reducible (first|refine ai ?_|refine ar ?_|refine ax rfl ?_|refine aj (id:=0) (λQ0 hn0 hx0 hr0 ho0=>?_))
   |(with_reducible (refine ah (λK hK=>?_);(first|refine t5r0 ?_|refine t5r1 ?_|refine t5r3 ?_|refine t5r4 ?_|refine t5r5 ?_|refine t5r6 ?_|refine t5r8 ?_));(try simp only[SS,Nat.reduceEqDiff,ap,bv,eE,Nat.reduceMul,Nat.reduceAdd,br,Bool.not_true,lenS,ay,Nat.reduceLeDiff,uc,sa,Gs,decide_false,Bool.or_false,Bool.false_eq_true,aZ,hsetL,hks,k22,k23,k24,k25,cV]))
   |(with_reducible refine hK _ ?_;clear hK K))
   refine aU (λk s=>∃(i g1 g3 g5 g7:Nat) (L:List (Nat×HO)),i≤n∧k=n - i∧aK L 16=some (.var g1 [sl ptC f.parts,.int .i64 f.values] 0)∧aK L 48=some (.var g3 [R,.int .i64 f.values] 0)∧aK L 80=some (.var g5 [R,.int .i64 f.values] 0)∧aK L 400=some (.arr g7 1 ((G6 f).flatMap bS) 0) ∧
    s=⟨[(1,.ptr (.l 16) g1 0),(3,.ptr (.l 48) g3 0),(4,.int .i64 0),(5,.ptr (.l 80) g5 0),(6,.int .i64 0),(7,.ref (.l 400) g7 0 n),(8,.ref (.g 0) 1 0 n),(9,.int .i64 i)],⟨L,[.arr 1 1 ((G6 f).flatMap bS) 0]⟩⟩) _
    ⟨0,_,_,_,_,_,Nat.zero_le _,rfl,by simp[aq],by simp[aq],by simp[aq],by simp[aq],rfl⟩ ?_
   rintro k s ⟨i,g1,g3,g5,g7,L,hi,rfl,a1,a2,a3,a4,rfl⟩ QL0 hnL0 hxL0 hrL0;simp only[c5l0]
   by_cases hin:i=n
   ·have hlt:¬(i:Int)<n:=by omega
    repeat' (first
    |with_reducible (first|refine ai ?_|refine ax rfl ?_|refine aN ?_|refine aF ?_|refine hx0 _ ?_|refine hxL0 _ _ ?_)
    |(with_reducible (first|(refine ah (λK hK=>?_);(first|refine t5r9 ?_|refine t5r13 ?_))|refine hqr _ ?_);(try simp only[SS,Nat.reduceEqDiff,Nat.reduceAdd,lenS,r5,aQ,ak,aD,am,hlt,a1,a2,a3,k15,k26,k27,hkh,kB,hch]))
    |(with_reducible refine hK _ ?_;clear hK K))
    exact⟨_,rfl⟩
   ·have hlt:(i:Int)<n:=by omega
    have hw1:IntKind.i64.wrap ((i:Int)+1)=((i+1:Nat):Int):=by rw[wI (by omega) (by omega)];rfl
    obtain⟨y,hy⟩:∃y,(G6 f)[i]?=some y:=⟨_,List.getElem?_eq_getElem (by omega)⟩;have hfb:((G6 f).flatMap bS)[i]?=some (.bool y):=by rw[fI,hy];rfl
    have hix:∀k g,bd 1 (.ref k g 0 n) (.int .i64 i)=some (.ptr k g i):=λk g=>by rw[bD,if_pos ⟨by omega,by omega⟩];simp
    have hl1:∀L',aK L' 400=some (.arr g7 1 ((G6 f).flatMap bS) 0)→∀H,ld1 ⟨L',H⟩ (.ptr (.l 400) g7 i)=some (.bool y):=λL' h H=>by rw[eX];simp only[h,bM,hfb]
    have hl2:∀L',ld1 ⟨L',[HO.arr 1 1 ((G6 f).flatMap bS) 0]⟩ (.ptr (.g 0) 1 i)=some (.bool y):=λL'=>by
     have h0:([HO.arr 1 1 ((G6 f).flatMap bS) 0]:List HO)[0]?=some (.arr 1 1 ((G6 f).flatMap bS) 0):=rfl;rw[ce,h0,bM,hfb]
    have hl1':=hl1 L a4 [HO.arr 1 1 ((G6 f).flatMap bS) 0]
    repeat' (first
    |with_reducible (first|refine ai ?_|refine ar ?_|refine au rfl ?_|refine bn rfl ?_|refine bx ?_|refine aj (id:=1) (λQ1 hn1 hx1 hr1 ho1=>?_)|refine hn1 _ ?_)
    |(with_reducible ((first|refine ah (λK hK=>?_)|refine aI (λK hK=>?_));(first|refine t5r9 ?_|refine t5r11 ?_|refine t5r10 ?_));(try simp only[SS,Nat.reduceEqDiff,Bool.not_true,lenS,hlt,hix,hl1',hl2,a4,hfb,Obt_neB Try.underlying4,beq_self_eq_true,hw1]))
    |(with_reducible refine hK _ ?_;clear hK K))
    exact hnL0 (n - (i+1)) _ (by omega) ⟨i+1,g1,g3,g5,g7,L,by omega,rfl,a1,a2,a3,a4,rfl⟩
end Go.Cm
namespace Go.Cm
open Go.Proofs Go.Ir
theorem HX {α:Type}{e:α→List CV}{W:α→Prop}{μ:α→Nat}:∀{ds:List D},(∀x∈ds,∃a,x.cells=e a∧W a∧μ a≤D.bulk x)→∃l:List α,D.cellsL ds=l.flatMap e∧l.length=ds.length∧(∀a∈l,W a)∧(l.map μ).sum≤D.bulkL ds
 |[],_=>⟨[],rfl,rfl,by simp,by simp[D.bulkL]⟩
 |d::ds,h=>by
  obtain⟨a,h1,h2,h3⟩:=h d List.mem_cons_self;obtain⟨l,g1,g2,g3,g4⟩:=HX λx hx=>h x (List.mem_cons_of_mem _ hx)
  refine⟨a::l,by simp only[D.cellsL,h1,g1,List.flatMap_cons],by simp[g2],λb hb=>?_,?_⟩
  ·rcases List.mem_cons.1 hb with rfl|hb
   ·exact h2
   ·exact g3 b hb
  ·simp only[List.map_cons,List.sum_cons,D.bulkL];omega
theorem Ht {α:Type}{e:α→List CV}{W:α→Prop}{μ:α→Nat}{P:Program}{n:Nat}{t et:TypeId}{d:D}(hu:P.underlying t=some (.slice et))
  (he:∀x,D.ok P n et x→∃a,x.cells=e a∧W a∧μ a≤D.bulk x) (h:D.ok P (n+1) t d):∃l:List α,(d.cells=[sl e l]∧d.cv=sl e l)∧(∀a∈l,W a)∧(l.map μ).sum+1≤D.bulk d:=by
 obtain⟨ds,rfl,h1,h2⟩:=sq hu h;obtain⟨l,h3,h4,h5,h6⟩:=HX (e:=e) (W:=W) (μ:=μ) λx hx=>he x (h2 x hx);have:sl e l=.imm ds.length (D.cellsL ds):=by simp only[sl,h3,h4]
 exact⟨l,⟨by simp only[D.cells,this],by simp only[D.cv,this]⟩,h5,by simp only[D.bulk];omega⟩
theorem Jj {α:Type}(l:List α):(l.map λ_=>1).sum=l.length:=by induction l with
 |nil=>rfl
 |cons a l ih=>simp only[List.map_cons,List.sum_cons,ih,List.length_cons];omega
def G9 (x:Ph):Nat:=1+x.src.length
def GR (n:Nd):Nat:=1+n.args.length
def G4 (p:Pt):Nat:=1+p.pred.length+(p.phis.map G9).sum+(p.nodes.map GR).sum
def mass (f:Cd):Nat:=(f.parts.map G4).sum
set_option maxRecDepth 100000 in
theorem Hw {n:Nat}{d:D}(h:D.ok Try.prog (n+2) 51 d):∃l:List Int,(d.cells=[sl aX l]∧d.cv=sl aX l)∧(∀a∈l,du a)∧l.length+1≤D.bulk d:=by
 obtain⟨l,h1,h2,h3⟩:=Ht (e:=aX) (W:=du) (μ:=λ_=>1) Try.underlying51 (λx hx=>by obtain⟨m,rfl,w⟩:=dp Try.underlying3 hx;exact⟨m,rfl,w,Nat.le_refl _⟩) h;rw[Jj] at h3
 exact⟨l,h1,h2,h3⟩
set_option maxRecDepth 100000 in
theorem phiB_of {n:Nat}{d:D}(h:D.ok Try.prog (n+3) 62 d):∃x:Ph,d.cells=phC x∧(du x.id∧∀a∈x.src,du a)∧G9 x≤D.bulk d:=by
 obtain⟨ds,rfl,h1⟩:=eL (ts:=[3,51]) Try.underlying62 (by kernel_rfl) h;obtain⟨d1,r1,rfl,k1,h1⟩:=bm h1;obtain⟨d2,r2,rfl,k2,h1⟩:=bm h1
 obtain rfl:=fA h1
 obtain⟨x1,rfl,w1⟩:=dp Try.underlying3 k1;obtain⟨l,⟨e2,_⟩,w3,w2⟩:=Hw (n:=n) k2
 exact⟨⟨x1,l⟩,by simp only[D.cells,D.cellsL,e2,phC,List.append_nil,List.cons_append,List.nil_append],⟨w1,w3⟩,by simp only[G9,D.bulk,D.bulkL];omega⟩
set_option maxRecDepth 100000 in
theorem Jh {n:Nat}{d:D}(h:D.ok Try.prog (n+3) 67 d):∃x:Nd,d.cells=ndC x∧(Nd.wf x∧∀a∈x.args,du a)∧GR x≤D.bulk d:=by
 obtain⟨ds,rfl,h1⟩:=eL (ts:=[64,3,3,4,3,3,65,3,3,4,51,3]) Try.underlying67 (by kernel_rfl) h;obtain⟨d1,r1,rfl,k1,h1⟩:=bm h1;obtain⟨d2,r2,rfl,k2,h1⟩:=bm h1;obtain⟨d3,r3,rfl,k3,h1⟩:=bm h1;obtain⟨d4,r4,rfl,k4,h1⟩:=bm h1;obtain⟨d5,r5,rfl,k5,h1⟩:=bm h1;obtain⟨d6,r6,rfl,k6,h1⟩:=bm h1;obtain⟨d7,r7,rfl,k7,h1⟩:=bm h1;obtain⟨d8,r8,rfl,k8,h1⟩:=bm h1;obtain⟨d9,r9,rfl,k9,h1⟩:=bm h1;obtain⟨d10,r10,rfl,k10,h1⟩:=bm h1;obtain⟨d11,r11,rfl,k11,h1⟩:=bm h1;obtain⟨d12,r12,rfl,k12,h1⟩:=bm h1
 obtain rfl:=fA h1
 obtain⟨x1,rfl,w1⟩:=dp Try.underlying64 k1;obtain⟨x2,rfl,w2⟩:=dp Try.underlying3 k2;obtain⟨x3,rfl,w3⟩:=dp Try.underlying3 k3;obtain⟨x4,rfl⟩:=kW Try.underlying4 k4;obtain⟨x5,rfl,w5⟩:=dp Try.underlying3 k5;obtain⟨x6,rfl,w6⟩:=dp Try.underlying3 k6;obtain⟨x7,rfl,w7⟩:=ok_u64 Try.underlying65 k7;obtain⟨x8,rfl,w8⟩:=dp Try.underlying3 k8;obtain⟨x9,rfl,w9⟩:=dp Try.underlying3 k9;obtain⟨x10,rfl⟩:=kW Try.underlying4 k10;obtain⟨l,⟨e11,_⟩,w11',w11⟩:=Hw (n:=n) k11;obtain⟨x12,rfl,w12⟩:=dp Try.underlying3 k12
 exact⟨⟨x1,x2,x3,x4,x5,x6,x7,x8,x9,x10,l,x12⟩,by simp only[D.cells,D.cellsL,e11,ndC,List.append_nil,List.cons_append,List.nil_append],⟨⟨w1,w2,w3,w5,w6,w7,w8,w9,w12⟩,w11'⟩,by simp only[GR,D.bulk,D.bulkL];omega⟩
set_option maxRecDepth 100000 in
theorem Ji {n:Nat}{d:D}(h:D.ok Try.prog (n+5) 58 d):∃p:Pt,d.cells=ptC p∧((∀a∈p.pred,du a)∧(∀x∈p.phis,du x.id∧∀a∈x.src,du a)∧(∀n∈p.nodes,Nd.wf n∧∀a∈n.args,du a)∧Tm.wf p.fin)∧G4 p≤D.bulk d:=by
 obtain⟨ds,rfl,h1⟩:=eL (ts:=[51,52,53,56]) Try.underlying58 (by kernel_rfl) h;obtain⟨d1,r1,rfl,k1,h1⟩:=bm h1;obtain⟨d2,r2,rfl,k2,h1⟩:=bm h1;obtain⟨d3,r3,rfl,k3,h1⟩:=bm h1;obtain⟨d4,r4,rfl,k4,h1⟩:=bm h1
 obtain rfl:=fA h1
 obtain⟨l1,⟨e1,_⟩,w1,b1⟩:=Hw (n:=n+2) k1;obtain⟨l2,⟨e2,_⟩,w2,b2⟩:=Ht Try.underlying52 (λx hx=>phiB_of (n:=n) hx) k2;obtain⟨l3,⟨e3,_⟩,w3,b3⟩:=Ht Try.underlying53 (λx hx=>Jh (n:=n) hx) k3;obtain⟨x4,e4,w4⟩:=term_of (n:=n+2) k4
 exact⟨⟨l1,l2,l3,x4⟩,by simp only[D.cells,D.cellsL,e1,e2,e3,e4,ptC,tmC,List.append_nil,List.cons_append,List.nil_append],⟨w1,w2,w3,w4⟩,by simp only[G4,D.bulk,D.bulkL];omega⟩
set_option maxRecDepth 100000 in
theorem Jc {n:Nat}{d:D}(h:D.ok Try.prog (n+7) 29 d):∃f:Cd,d.cv=.agg (aZ f)∧(∀p∈f.parts,(∀a∈p.pred,du a)∧(∀x∈p.phis,du x.id∧∀a∈x.src,du a)∧(∀n∈p.nodes,Nd.wf n∧∀a∈n.args,du a)∧Tm.wf p.fin)∧mass f≤D.bulk d:=by
 obtain⟨ds,rfl,h1⟩:=eL (ts:=[27,3]) Try.underlying29 (by kernel_rfl) h;obtain⟨d1,r1,rfl,k1,h1⟩:=bm h1;obtain⟨d2,r2,rfl,k2,h1⟩:=bm h1
 obtain rfl:=fA h1
 obtain⟨l,⟨e1,_⟩,w1,b1⟩:=Ht Try.underlying27 (λx hx=>Ji (n:=n) hx) k1;obtain⟨x2,rfl,w2⟩:=dp Try.underlying3 k2
 exact⟨⟨l,x2⟩,by simp only[D.cv,D.cellsL,e1,aZ,D.cells,List.append_nil,List.cons_append,List.nil_append],w1,by simp only[mass,D.bulk,D.bulkL];omega⟩
theorem Hr {α:Type}{μ:α→Nat}{a:α}:∀{l:List α},a∈l→μ a≤(l.map μ).sum
 |b::l,h=>by
  simp only[List.map_cons,List.sum_cons];rcases List.mem_cons.1 h with rfl|h
  ·omega
  ·have:=Hr (μ:=μ) h;omega
theorem HV {α:Type}{μ:α→Nat}(h1:∀a,1≤μ a):∀(l:List α),l.length≤(l.map μ).sum
 |[]=>by simp
 |a::l=>by
  have:=HV h1 l;have:=h1 a;simp only[List.length_cons,List.map_cons,List.sum_cons];omega
theorem Hv {α β:Type}{μ:α→Nat}{g:α→List β}{k:Nat}(h:∀a,(g a).length≤k*μ a):∀(l:List α),(l.flatMap g).length≤k*(l.map μ).sum
 |[]=>by simp
 |a::l=>by
  have:=Hv h l;have:=h a;simp only[List.flatMap_cons,List.length_append,List.map_cons,List.sum_cons,Nat.mul_add];omega
theorem IA (n:Nd):(eF n).length≤2*GR n:=by
 unfold eF GR;split
 ·simp only[List.length_cons,List.length_nil];omega
 ·split
  ·simp only[List.length_cons,List.length_nil];omega
  ·split
   ·omega
   ·simp
theorem HB {α:Type}{μ:α→Nat}{q:α→Bool}:∀(l:List α),((l.filter q).map μ).sum≤(l.map μ).sum
 |[]=>by simp
 |a::l=>by
  have:=HB (μ:=μ) (q:=q) l;simp only[List.filter_cons]
  split<;>simp only[List.map_cons,List.sum_cons]<;>omega
theorem Jp {f:Cd}{B:Nat}(hB:mass f≤B):(∀p∈f.parts,p.pred.length≤B∧p.phis.length≤B∧p.nodes.length≤B∧(∀x∈p.phis,x.src.length≤B)∧∀n∈p.nodes,n.args.length≤B) ∧
  (∀x∈GS f,x.2.length≤max 2 B)∧(F0 f).length≤4*B:=by
 have hp:∀p∈f.parts,G4 p≤B:=λp hp=>Nat.le_trans (Hr (μ:=G4) hp) hB;have hx:∀p∈f.parts,∀x∈p.phis,G9 x≤B:=λp hp' x hx=>by
  have h1:=Hr (μ:=G9) hx;have h2:=hp p hp';unfold G4 at h2;omega
 have hn:∀p∈f.parts,∀x∈p.nodes,GR x≤B:=λp hp' x hx=>by
  have h1:=Hr (μ:=GR) hx;have h2:=hp p hp';unfold G4 at h2;omega
 refine⟨λp hp'=>?_,λx hx'=>?_,?_⟩
 ·have h2:=hp p hp'
  have h3:=HV (μ:=G9) (λx=>by unfold G9;omega) p.phis;have h4:=HV (μ:=GR) (λx=>by unfold GR;omega) p.nodes;unfold G4 at h2
  refine⟨by omega,by omega,by omega,λx hx'=>?_,λn hn'=>?_⟩
  ·have:=hx p hp' x hx';unfold G9 at this;omega
  ·have:=hn p hp' n hn';unfold GR at this;omega
 ·simp only[GS,List.mem_flatMap,Ir.bB,List.mem_append,List.mem_map,List.mem_filter] at hx'
  obtain⟨p,hp',⟨y,hy,rfl⟩|⟨n,⟨hn',_⟩,rfl⟩⟩:=hx'
  ·have:=hx p hp' y hy;unfold G9 at this;simp only;omega
  ·have h1:=hn p hp' n hn'
   unfold GR at h1
   simp only
   unfold eF;split
   ·simp only[List.length_cons,List.length_nil];omega
   ·split
    ·simp only[List.length_cons,List.length_nil];omega
    ·split
     ·omega
     ·simp
 ·have:=Hv (μ:=G4) (g:=Gx) (k:=4) (λp=>by
   have h1:=Hv (μ:=GR) (g:=eF) (k:=2) IA (p.nodes.filter ee);have h2:=HB (μ:=GR) (q:=ee) p.nodes;have h3:=rM p.fin;unfold G4;rw[Gx,List.length_append]
   omega) f.parts
  unfold mass at hB;rw[F0];omega
theorem fitB {f:Cd}(hw:∀p∈f.parts,(∀a∈p.pred,du a)∧(∀x∈p.phis,du x.id∧∀a∈x.src,du a)∧(∀n∈p.nodes,Nd.wf n∧∀a∈n.args,du a)∧Tm.wf p.fin)
  (hm:∀p∈f.parts,p.pred.length≤1048576∧p.phis.length≤1048576∧p.nodes.length≤1048576∧(∀x∈p.phis,x.src.length≤1048576)∧∀n∈p.nodes,n.args.length≤1048576):Fit f where
 pred p hp:=Nat.le_trans (hm p hp).1 (by decide)
 phis p hp:=⟨Nat.le_trans (hm p hp).2.1 (by decide),λx hx=>Nat.le_trans ((hm p hp).2.2.2.1 x hx) (by decide)⟩
 nodes p hp:=⟨Nat.le_trans (hm p hp).2.2.1 (by decide),λn hn=>⟨Nat.le_trans ((hm p hp).2.2.2.2 n hn) (by decide),((hw p hp).2.2.1 n hn).1.imm.1⟩⟩
end Go.Cm
