import Derived.Test.YtijcpefcfcbcnaaIzK
import Derived.Test.YtijcpefcfcbcnaaIyG
import Derived.Test.YtijcpefcfcbcnaaIrC
set_option linter.unusedSimpArgs false
set_option linter.unusedVariables false
namespace Go.Cm
open Go.Proofs Go.Ir Go.Gr
theorem x53 (n:Nd):FF 53 [.agg (ndC n)] []=some (.bool (ee n),[]):=by
 by_cases h6:n.op=6
 ·have h6':=eq_true h6
  refine aL rfl Try.func53 s53 (Nat.le_of_ble_eq_true rfl) (λQ hqr hqn=>?_);rw[bf (show An.pure 53=true from rfl) (by simp only[cans,aG,az,aC,aH,ndE.can])];simp only[aO,Nat.reduceAdd,c53]
  repeat' (first
  |with_reducible refine aF ?_
  |(with_reducible (first|(refine ah (λK hK=>?_);(first|refine Is ?_|refine It ?_))|refine hqr _ ?_);(try simp only[SS,ap,bI,r53,aQ,ak,aD,am,ndC,h6']))
  |(with_reducible refine hK _ ?_;clear hK K))
  all_goals simp[ee,h6]
 by_cases h7:n.op=7
 ·have h7':=eq_true h7
  refine aL rfl Try.func53 s53 (Nat.le_of_ble_eq_true rfl) (λQ hqr hqn=>?_);rw[bf (show An.pure 53=true from rfl) (by simp only[cans,aG,az,aC,aH,ndE.can])];simp only[aO,Nat.reduceAdd,c53]
  repeat' (first
  |with_reducible refine aF ?_
  |(with_reducible (first|(refine ah (λK hK=>?_);(first|refine Is ?_|refine It ?_))|refine hqr _ ?_);(try simp only[SS,ap,bI,r53,aQ,ak,aD,am,ndC,h6,h7']))
  |(with_reducible refine hK _ ?_;clear hK K))
  all_goals simp[ee,h7]
 by_cases h5:n.op=5
 ·have h5':=eq_true h5
  cases hg:n.grd
  all_goals
   refine aL rfl Try.func53 s53 (Nat.le_of_ble_eq_true rfl) (λQ hqr hqn=>?_);rw[bf (show An.pure 53=true from rfl) (by simp only[cans,aG,az,aC,aH,ndE.can])];simp only[aO,Nat.reduceAdd,c53]
   repeat' (first
   |with_reducible refine aF ?_
   |(with_reducible (first|(refine ah (λK hK=>?_);(first|refine Is ?_|refine It ?_))|refine hqr _ ?_);(try simp only[SS,ap,bI,r53,aQ,ak,aD,am,ndC,h6,h7,h5',hg]))
   |(with_reducible refine hK _ ?_;clear hK K))
   all_goals simp[ee,h6,h7,h5,hg]
 ·refine aL rfl Try.func53 s53 (Nat.le_of_ble_eq_true rfl) (λQ hqr hqn=>?_)
  rw[bf (show An.pure 53=true from rfl) (by simp only[cans,aG,az,aC,aH,ndE.can])];simp only[aO,Nat.reduceAdd,c53]
  repeat' (first
  |with_reducible refine aF ?_
  |(with_reducible (first|(refine ah (λK hK=>?_);(first|refine Is ?_|refine It ?_))|refine hqr _ ?_);(try simp only[SS,ap,bI,r53,aQ,ak,aD,am,ndC,h6,h7,h5]))
  |(with_reducible refine hK _ ?_;clear hK K))
  all_goals simp[ee,h6,h7,h5]
def OwnA (js:List Nat) (m:Mem) (v:CV) (l:List Int):Prop:=∃j∈js,OwnE aX 1 m j v l
theorem OwnA.app {js:List Nat}{m:Mem}{v:CV}{l ys:List Int}(h:OwnA js m v l) {j b:Nat}{x:CV}{K:CV×Mem→Prop}(hj:j∈js) (hx:Cm.content m 1 x=some (ys.flatMap aX)) (hn:cK x=some ys.length)
  (hb:b≤8) (hl:l.length+ys.length≤17592186044416) (hK:∀v' m',OwnA js m' v' (l++ys)→m'.H=m.H→(∀i,i∉js→aK m'.L i=aK m.L i)→K (v',m')):Obt (ej false j 1 b v x m) K:=by
 obtain⟨j0,hj0,h⟩:=h;rcases h with⟨rfl,rfl⟩|⟨hne,g,rfl,h⟩
 ·exact OwnE.app8 (.inl ⟨rfl,rfl⟩) dB hx hn hb hl λv' m' h1 h2 h3=>hK v' m' ⟨j,hj,h1⟩ h2 λi hi=>h3 i λe=>hi (e ▸ hj)
 ·have:ej false j 1 b (.ref (.l j0) g 0 l.length) x m=ej false j0 1 b (.ref (.l j0) g 0 l.length) x m:=rfl
  rw[this];exact OwnE.app8 (.inr ⟨hne,g,rfl,h⟩) dB hx hn hb hl λv' m' h1 h2 h3=>hK v' m' ⟨j0,hj0,h1⟩ h2 λi hi=>h3 i λe=>hi (e ▸ hj0)
theorem OwnA.keep {js:List Nat}{m m':Mem}{v:CV}{l:List Int}(h:OwnA js m v l) (hm:∀j∈js,aK m'.L j=aK m.L j):OwnA js m' v l:=by
 obtain⟨j,hj,h⟩:=h
 exact⟨j,hj,h.keep (hm j hj)⟩
def MapR (l:List (Int×CV)) (u:List (Int×List Int)):Prop:=∀a,(al l a=none∧byL u a=[]∧∀x∈u,x.1≠a)∨∃v,al l a=some v∧∀H,RdI H v (byL u a)
theorem MapR.nil:MapR [] []:=λa=>.inl ⟨rfl,rfl,by simp⟩
theorem MapR.set {l:List (Int×CV)}{u:List (Int×List Int)}(h:MapR l u) {a:Int}{v:CV}{r:List Int}(hv:∀H,RdI H v r):MapR (jP l a v) (u++[(a,r)]):=by
 intro b;rw[kr,Ib]
 by_cases hab:a=b
 ·rw[if_pos hab,if_pos hab];exact .inr ⟨v,rfl,hv⟩
 ·rw[if_neg hab,if_neg hab]
  rcases h b with⟨h1,h2,h3⟩|h1
  ·refine .inl ⟨h1,h2,λx hx=>?_⟩
   rcases List.mem_append.1 hx with hx|hx
   ·exact h3 x hx
   ·simp only[List.mem_singleton] at hx;rw[hx];exact hab
  ·exact .inr h1
theorem mupX_E {P:Program}{t:TypeId}{k:IntKind}(hu:P.underlying t=some (.int k)) {key:Key}{g:Nat}{a:Int}{v x:CV}{m m1:Mem}{l:List (Int×CV)}(he:esc iC v m=some (x,m1)) (hg:m1.get key=some (.map g (esI k l))) :
  mB P t (.map key g) (.int k a) v m=some (m1.set key (.map g (esI k (jP l a x)))):=by
 have hs:=In (k:=k) (l:=l) (a:=a) (v:=x) 0 l;simp only[mB,dh he,Option.bind_some,hg,rZ,true_and,if_true,nm hu a l 0]
 cases hf:fix l a 0 with
 |none=>rw[hf] at hs;simp only at hs ⊢;rw[hs]
 |some q=>
  obtain⟨i,c⟩:=q;rw[hf] at hs;simp only[Nat.sub_zero] at hs ⊢;rw[hs]
theorem OwnV.con {m:Mem}{j:Nat}{v:CV}{l:List Int}(h:OwnV aX 1 m j v l):content m 1 v=some (l.flatMap aX):=by
 rcases h with⟨rfl,rfl⟩|⟨_,g,vl,rfl,h1,_⟩
 ·rfl
 ·rw[cU,h1,dz,List.drop_zero,List.take_of_length_le (by rw[bC dB];omega)]
theorem k279 (n:Nd) (hl:n.args.length≤17592186044416) {fid:FuncId}{d:Tmp}{m:Mem}{K:CV×Mem→Prop}(hgl:(An.glob fid).contains d=false)
  (hK:∀v m',EscI m' (16*d) v (eF n)→content m' 1 v=some ((eF n).flatMap aX)→cK v=some (eF n).length→m'.H=m.H→(∀i,i≠16*d→aK m'.L i=aK m.L i)→K (v,m')):Obt (aB An FF fid (some d) 79 [.agg (ndC n)] m) K:=by
 have hF:=x79 n hl
 by_cases h7:n.op=7
 ·have hu:eF n=n.args:=by unfold eF;rw[if_neg (by omega),if_neg (by omega),if_pos h7]
  rw[ln,if_pos h7] at hF;rw[hu] at hK;rw[ek hF rfl (by simp only[cans,aC,ndE.can]) rfl (by simp only[noGs,noG,ndE.noG,Bool.and_self]) (ib fY _),aJ,hgl]
  cases ha:n.args with
  |nil=>rw[ha] at hK;exact hK _ _ .imm rfl rfl rfl (λ_ _=>rfl)
  |cons a l=>
   rw[ha] at hK;have hO:OwnV aX 1 (bi m (16*d) (.arr (bj m.L (16*d)) 1 ((a::l).flatMap aX) 0)) (16*d) (.ref (.l (16*d)) (bj m.L (16*d)) 0 (a::l).length) (a::l):=
    .inr ⟨by simp,_,0,rfl,by rw[ba,if_pos rfl],Nat.zero_le _⟩
   refine hK _ _ hO.escI hO.con rfl rfl ?_;intro i hi;show aK (bi m (16*d) _).L i=_;rw[ba,if_neg (Ne.symm hi)]
 ·rw[ln,if_neg h7] at hF
  exact gX hF rfl (by simp only[cans,aC,ndE.can]) rfl (by simp only[noGs,noG,ndE.noG,Bool.and_self]) fY hgl λv m' h1 h2 h3=>hK v m' h1.seen.escI h1.seen.con h1.seen.len h2 h3
theorem k53 (n:Nd) {fid:FuncId}{d:Tmp}{m:Mem}:aB An FF fid (some d) 53 [.agg (ndC n)] m=some (.bool (ee n),m):=
 cr (x53 n) (λ_ _ _=>rfl) rfl (by simp only[cans,aC,ndE.can]) rfl (by simp only[noGs,noG,ndE.noG,Bool.and_self]) rfl
set_option maxHeartbeats 4000000 in
theorem x55 (f:Cd) (hf:Sized f) (hw:(F0 f).length≤17592186044416) (H0:List HO) :
  ∃r,(∃l,r=(CV.tuple [.map (.g H0.length) 1,eA aX 1 (F0 f)],H0++[HO.map 1 (esI .i64 l)])∧MapR l (GS f))∧FF 55 [.agg (aZ f)] H0=some r:=by
 obtain⟨Hm,hHm⟩:∃Hm:List (Int×CV)→List HO,Hm=λl=>H0++[HO.map 1 (esI .i64 l)]:=⟨_,rfl⟩;have hHm':∀l,H0++[HO.map 1 (esI .i64 l)]=Hm l:=λl=>by rw[hHm]
 have hH0:H0++[HO.map 1 []]=Hm []:=by rw[hHm];rfl
 have hget:∀l,(Hm l)[H0.length]?=some (.map 1 (esI .i64 l)):=λl=>by rw[←hHm'];simp
 have hset:∀l l',(Hm l).set H0.length (.map 1 (esI .i64 l'))=Hm l':=λl l'=>by rw[←hHm',List.set_append_right _ _ (Nat.le_refl _)];simp[hHm]
 have hmu:∀L l (k:Int) v,eV v=true→mB Try.prog 3 (.map (.g H0.length) 1) (.int .i64 k) v ⟨L,Hm l⟩=some ⟨L,Hm (jP l k v)⟩:=λL l k v hv=>by
  have:=kR (P:=Try.prog) (t:=3) (k:=.i64) (key:=.g H0.length) (g:=1) (a:=k) (v:=v) (m:=⟨L,Hm l⟩) (l:=l) Try.underlying3 hv (hget l);rw[this];simp only[Mem.set,hset]
 have hsetL:∀(L:List (Nat×HO)) (H:List HO) j o,bi ⟨L,H⟩ j o=⟨cF L j o,H⟩:=λ_ _ _ _=>rfl;have hpl:=hf.parts;refine bA rfl Try.func55 s55 (Nat.le_of_ble_eq_true rfl) (λQ hqr hqn=>?_);rw[show ∀a,cin (An.pure 55) a=a from λ_=>rfl];simp only[aO,Nat.reduceAdd,c55]
 repeat' (first
 |with_reducible (first|refine ai ?_|refine aj (id:=0) (λQ0 hn0 hx0 hr0 ho0=>?_))
 |(with_reducible (refine ah (λK hK=>?_);(first|refine t55r0 ?_|refine t55r1 ?_|refine t55r2 ?_|refine t55r3 ?_));(try simp only[SS,Nat.reduceEqDiff,ap,lenS,aZ,aP,iJ,iL,hH0,hsetL]))
 |(with_reducible refine hK _ ?_;clear hK K))
 refine aU (λk s=>∃(d t:List Pt) (v:CV) (L:List (Nat×HO)) (l:List (Int×CV)),f.parts=d++t∧k=t.length∧OwnA [848,1088,1216] ⟨L,Hm l⟩ v (d.flatMap Gx)∧MapR l (d.flatMap Ir.bB) ∧
  s=⟨[(4,.map (.g H0.length) 1),(5,v),(14,sl ptC f.parts),(15,.int .i64 f.parts.length),(16,.int .i64 d.length)],⟨L,Hm l⟩⟩) _ ⟨[],f.parts,.nil,_,[],rfl,rfl,⟨848,by simp,.inl ⟨rfl,rfl⟩⟩,MapR.nil,rfl⟩ ?_
 rintro k s ⟨d,t,v,L,l,h2,rfl,hO,hM,rfl⟩ QL2 hnL2 hxL2 hrL2;have hlen:=congrArg List.length h2;simp only[List.length_append] at hlen;simp only[c55l2]
 cases t with
 |nil=>
  simp only[List.length_nil] at hlen;rw[List.append_nil] at h2
  repeat' (first
  |with_reducible (first|refine ax rfl ?_|refine aN ?_|refine aF ?_|refine hx0 _ ?_|refine hxL2 _ _ ?_)
  |(with_reducible (first|(refine ah (λK hK=>?_);(first|refine t55r4 ?_|refine t55r25 ?_))|refine hqr _ ?_);(try simp only[SS,Nat.reduceEqDiff,cD,r55,aQ,ak,aD,am,xA,bW]))
  |(revert hK;intro hK;(first|refine And.intro ?_ ?_|intro _|omega|(with_reducible refine hK _ ?_;clear hK K))))
  obtain⟨j,_,hO⟩:=hO;refine hO.ret dB λm' hm'=>?_;have e1:d.flatMap Gx=F0 f:=by rw[F0,h2]
  have e2:d.flatMap Ir.bB=GS f:=by rw[GS,h2]
  rw[e1];rw[e2] at hM
  exact⟨l,⟨rfl,by rw[hHm'];exact hm'⟩,hM⟩
 |cons p t=>
  simp only[List.length_cons] at hlen;have hpm:p∈f.parts:=by rw[h2];simp
  obtain⟨hphl,hphs⟩:=hf.phis p hpm;obtain⟨hndl,hnds⟩:=hf.nodes p hpm;have hwd:IntKind.i64.wrap ((d.length:Int)+1)=d.length+1:=wI (by omega) (by omega);have hwl:(d.flatMap Gx).length+(Gx p).length≤(F0 f).length:=by
   rw[F0,h2];simp only[List.flatMap_append,List.flatMap_cons,List.length_append];omega
  repeat' (first
  |with_reducible (first|refine ai ?_|refine ar ?_|refine au rfl ?_|refine aj (id:=1) (λQ1 hn1 hx1 hr1 ho1=>?_)|refine aj (id:=2) (λQ2 hn2 hx2 hr2 ho2=>?_))
  |(with_reducible (refine ah (λK hK=>?_);(first|refine t55r4 ?_|refine t55r5 ?_|refine t55r6 ?_));(try simp only[SS,Nat.reduceEqDiff,ap,Nat.reduceAdd,lenS,ay,aM ptE.len (by omega) h2,ct,ptC,hsetL,aP]))
  |(revert hK;intro hK;(first|refine And.intro ?_ ?_|intro _|omega|(with_reducible refine hK _ ?_;clear hK K))))
  generalize bj L 112=g7;refine aU (λk s=>∃(d1 t1:List Ph) (L:List (Nat×HO)) (l:List (Int×CV)),p.phis=d1++t1∧k=t1.length∧aK L 112=some (.var g7 (ptC p) 0)∧OwnA [848,1088,1216] ⟨L,Hm l⟩ v (d.flatMap Gx) ∧
   MapR l (d.flatMap Ir.bB++d1.map λx=>(x.id,x.src)) ∧
   s=⟨[(4,.map (.g H0.length) 1),(5,v),(7,.ptr (.l 112) g7 0),(14,sl ptC f.parts),(15,.int .i64 f.parts.length),(16,.int .i64 d.length),(21,sl phC p.phis),(22,.int .i64 p.phis.length),(23,.int .i64 d1.length)],⟨L,Hm l⟩⟩) _
   ⟨[],p.phis,_,l,rfl,rfl,by simp[aq,ptC],hO.keep (by intro j hj;simp at hj;rcases hj with rfl|rfl|rfl<;>simp[aq]),by simpa using hM,rfl⟩ ?_
  rintro k s ⟨d1,t1,L1,l1,h3,rfl,hL1,hO1,hM1,rfl⟩ QL0 hnL0 hxL0 hrL0;have hlen1:=congrArg List.length h3;simp only[List.length_append] at hlen1;simp only[c55l0]
  cases t1 with
  |cons x t1=>
   simp only[List.length_cons] at hlen1;have hw1:IntKind.i64.wrap ((d1.length:Int)+1)=d1.length+1:=wI (by omega) (by omega);have hmx:=λL=>hmu L l1 x.id (sl aX x.src) Im
   repeat' (first
   |with_reducible (first|refine ar ?_|refine au rfl ?_|refine aj (id:=3) (λQ3 hn3 hx3 hr3 ho3=>?_)|refine hn3 _ ?_)
   |(with_reducible ((first|refine ah (λK hK=>?_)|refine aI (λK hK=>?_));(first|refine t55r7 ?_|refine t55r8 ?_|refine t55r9 ?_|refine t55r10 ?_));(try simp only[SS,Nat.reduceEqDiff,ap,Nat.reduceAdd,ay,aM phE.len (by omega) h3,qG,phC,hsetL,hmx,hw1]))
   |(revert hK;intro hK;(first|refine And.intro ?_ ?_|intro _|omega|(with_reducible refine hK _ ?_;clear hK K))))
   rw[show((d1.length:Int)+1)=((d1++[x]).length:Int) by simp];refine hnL0 t1.length _ (by simp) ⟨d1++[x],t1,_,_,by simp[h3],rfl,by simp[aq,hL1],hO1.keep (by intro j hj;simp at hj;rcases hj with rfl|rfl|rfl<;>simp[aq]),?_,rfl⟩;have:=hM1.set (a:=x.id) (v:=sl aX x.src) (r:=x.src) λ_=>.inl rfl;simpa using this
  |nil=>
   simp only[List.length_nil] at hlen1;rw[List.append_nil] at h3;rw[←h3] at hM1
   repeat' (first
   |with_reducible (first|refine ai ?_|refine ax rfl ?_|refine aN ?_|refine hx2 _ ?_|refine aj (id:=4) (λQ4 hn4 hx4 hr4 ho4=>?_)|refine hxL0 _ _ ?_)
   |(with_reducible (refine ah (λK hK=>?_);(first|refine t55r7 ?_|refine t55r11 ?_));(try simp only[SS,Nat.reduceEqDiff,lenS,hL1,ptC,aP]))
   |(revert hK;intro hK;(first|refine And.intro ?_ ?_|intro _|omega|(with_reducible refine hK _ ?_;clear hK K))))
   refine aU (λk s=>∃(d2 t2:List Nd) (v:CV) (L:List (Nat×HO)) (l:List (Int×CV)),p.nodes=d2++t2∧k=t2.length∧aK L 112=some (.var g7 (ptC p) 0)∧OwnA [848,1088,1216] ⟨L,Hm l⟩ v (d.flatMap Gx++(d2.filter ee).flatMap eF) ∧
    MapR l (d.flatMap Ir.bB++p.phis.map (λx=>(x.id,x.src))++(d2.filter λn=>!decide (n.op=6)).map λn=>(n.id,eF n)) ∧
    s=⟨[(4,.map (.g H0.length) 1),(5,v),(7,.ptr (.l 112) g7 0),(14,sl ptC f.parts),(15,.int .i64 f.parts.length),(16,.int .i64 d.length),(34,sl ndC p.nodes),(35,.int .i64 p.nodes.length),(36,.int .i64 d2.length)],⟨L,Hm l⟩⟩) _
    ⟨[],p.nodes,v,_,l1,rfl,rfl,hL1,by simpa using hO1,by simpa using hM1,rfl⟩ ?_
   rintro k s ⟨d2,t2,v2,L2,l2,h4,rfl,hL2,hO2,hM2,rfl⟩ QL1 hnL1 hxL1 hrL1;have hlen2:=congrArg List.length h4;simp only[List.length_append] at hlen2;simp only[c55l1]
   cases t2 with
   |cons n t2=>
    simp only[List.length_cons] at hlen2;have hna:=(hnds n (by rw[h4];simp)).1;have hw2:IntKind.i64.wrap ((d2.length:Int)+1)=d2.length+1:=wI (by omega) (by omega);have hks:=λd m=>k53 n (fid:=55) (d:=d) (m:=m);simp only[ndC] at hks;have hgrow:ee n=true→(d.flatMap Gx++(d2.filter ee).flatMap eF).length+(eF n).length≤17592186044416:=λhs=>by
     have:((d2.filter ee).flatMap eF).length+(eF n).length≤(Gx p).length:=by
      rw[Gx,h4];simp only[List.filter_append,List.filter_cons,hs,if_true,List.flatMap_append,List.flatMap_cons,List.length_append];omega
     rw[List.length_append];omega
    have fin:∀v' L' l',aK L' 112=some (.var g7 (ptC p) 0)→OwnA [848,1088,1216] ⟨L',Hm l'⟩ v' (d.flatMap Gx++((d2++[n]).filter ee).flatMap eF) →
      MapR l' (d.flatMap Ir.bB++p.phis.map (λx=>(x.id,x.src))++((d2++[n]).filter λn=>!decide (n.op=6)).map λn=>(n.id,eF n)) →
      QL1 .normal ⟨[(4,.map (.g H0.length) 1),(5,v'),(7,.ptr (.l 112) g7 0),(14,sl ptC f.parts),(15,.int .i64 f.parts.length),(16,.int .i64 d.length),(34,sl ndC p.nodes),(35,.int .i64 p.nodes.length),(36,.int .i64 (d2.length+1))],⟨L',Hm l'⟩⟩:=λv' L' l' q1 q2 q3=>by
     rw[show((d2.length:Int)+1)=((d2++[n]).length:Int) by simp];exact hnL1 t2.length _ (by simp) ⟨d2++[n],t2,v',L',l',by simp[h4],rfl,q1,q2,q3,rfl⟩
    have hU:∀(L3:List (Nat×HO)) (l3:List (Int×CV)) (K:CV×Mem→Prop),ee n=true→aK L3 112=some (.var g7 (ptC p) 0)→OwnA [848,1088,1216] ⟨L3,Hm l3⟩ v2 (d.flatMap Gx++(d2.filter ee).flatMap eF) →
      (∀v' L',aK L' 112=some (.var g7 (ptC p) 0)→OwnA [848,1088,1216] ⟨L',Hm l3⟩ v' (d.flatMap Gx++((d2++[n]).filter ee).flatMap eF)→K (v',⟨L',Hm l3⟩)) →
      Obt (aB An FF 55 (some 52) 79 [.agg (ndC n)] ⟨L3,Hm l3⟩) λa1=>Obt (ej false 848 1 8 v2 a1.1 a1.2) K:=λL3 l3 K hs q1 q2 hK=>by
     refine k279 n hna rfl λv3 m3 hE hcon hlen3 hH3 hf3=>?_;have hO3:OwnA [848,1088,1216] m3 v2 (d.flatMap Gx++(d2.filter ee).flatMap eF):=q2.keep λj hj=>hf3 j (by simp at hj;rcases hj with rfl|rfl|rfl<;>decide);refine hO3.app (j:=848) (by simp) hcon hlen3 (by decide) (hgrow hs) λv' m' r1 r2 r3=>?_;obtain⟨L',H'⟩:=m';simp only[hH3] at r2;subst r2;refine hK v' L' ?_ ?_
     ·have:=r3 112 (by simp)
      simp only at this;rw[this,hf3 112 (by decide)];exact q1
     ·simp only[List.filter_append,List.filter_cons,hs,if_true,List.filter_nil,List.flatMap_append,List.flatMap_cons,List.flatMap_nil,List.append_nil]
      rw[←List.append_assoc];exact r1
    have hnoU:ee n=false→((d2++[n]).filter ee).flatMap eF=(d2.filter ee).flatMap eF:=λhs=>by simp[hs]
    by_cases h6:n.op=6
    ·have hs:ee n=true:=by simp[ee,h6]
     have h6':=eq_true h6;rw[hs] at hks
     repeat' (first
     |with_reducible (first|refine ai ?_|refine ar ?_|refine au rfl ?_|refine ax rfl ?_|refine bc rfl ?_|refine aj (id:=5) (λQ5 hn5 hx5 hr5 ho5=>?_))
     |(with_reducible ((first|refine ah (λK hK=>?_)|refine aI (λK hK=>?_));(first|refine HP ?_|refine Jk ?_|refine Jl ?_|refine Ie ?_|refine Jm ?_));(try simp only[SS,Nat.reduceEqDiff,ap,Nat.reduceAdd,br,ay,aM ndE.len (by omega) h4,eR,ndC,hsetL,h6',hks]))
     |(revert hK;intro hK;(first|refine And.intro ?_ ?_|intro _|omega|(with_reducible refine hK _ ?_;clear hK K))))
     refine hU _ l2 _ hs (by simp[aq,hL2]) (hO2.keep (by intro j hj;simp at hj;rcases hj with rfl|rfl|rfl<;>simp[aq])) λv' L' q1 q2=>?_;refine hK _ ?_;clear hK K
     repeat' (first
     |with_reducible refine hn5 _ ?_
     |(with_reducible (refine aI (λK hK=>?_);refine If ?_);(try simp only[SS,Nat.reduceEqDiff,hw2]))
     |(with_reducible refine hK _ ?_;clear hK K))
     exact fin v' L' l2 q1 q2 (by simpa[h6] using hM2)
    ·have hoff:∀α (y:Option α),n6 [(true,47)] (.ptr (.l 176) (bj L2 176) 1) y=y:=λα y=>by simp[uc,pd]
     repeat' (first
     |with_reducible (first|refine ai ?_|refine ar ?_|refine au rfl ?_|refine aj (id:=5) (λQ5 hn5 hx5 hr5 ho5=>?_))
     |(with_reducible (refine ah (λK hK=>?_);(first|refine HP ?_|refine Jk ?_|refine Jl ?_|refine t55r15 ?_));(try simp only[SS,Nat.reduceEqDiff,ap,Nat.reduceAdd,br,ay,aM ndE.len (by omega) h4,eR,ndC,hsetL,h6,hoff]))
     |(revert hK;intro hK;(first|refine And.intro ?_ ?_|intro _|omega|(with_reducible refine hK _ ?_;clear hK K))))
     refine k279 n hna rfl λv3 m3 hE hcon hlen3 hH3 hf3=>?_;obtain⟨x,m4,q1,q2,q3,q4⟩:=hE;obtain⟨L4,H4⟩:=m4;simp only[hH3] at q3;subst q3;have hmE:=mupX_E (P:=Try.prog) (t:=3) (k:=.i64) (key:=.g H0.length) (g:=1) (a:=n.id) (l:=l2) Try.underlying3 q1 (hget l2);simp only[Mem.set,hset] at hmE;simp only[hmE,aJ];have hkeep:∀i,i≠752→i≠176→aK L4 i=aK L2 i:=λi h1 h2=>by
      have:=q4 i h1;simp only at this;rw[this,hf3 i h1];simp[aq,Ne.symm h2]
     have h176:aK L4 176=some (.var (bj L2 176) (ndC n) 0):=by
      have:=q4 176 (by decide);simp only at this;rw[this,hf3 176 (by decide)];simp[aq,ndC]
     simp only[ndC] at h176;have hO4:OwnA [848,1088,1216] ⟨L4,Hm (jP l2 n.id x)⟩ v2 (d.flatMap Gx++(d2.filter ee).flatMap eF):=hO2.keep λj hj=>hkeep j (by simp at hj;rcases hj with rfl|rfl|rfl<;>decide) (by simp at hj;rcases hj with rfl|rfl|rfl<;>decide);have hM4:MapR (jP l2 n.id x) (d.flatMap Ir.bB++p.phis.map (λx=>(x.id,x.src))++((d2++[n]).filter λn=>!decide (n.op=6)).map λn=>(n.id,eF n)):=by
      have:=hM2.set (a:=n.id) (v:=x) (r:=eF n) q2;simpa[h6] using this
     refine hK _ ?_;clear hK K
     cases hs:ee n with
     |true=>
      rw[hs] at hks
      repeat' (first
      |with_reducible refine bc rfl ?_
      |(with_reducible ((first|refine ah (λK hK=>?_)|refine aI (λK hK=>?_));(first|refine Ie ?_|refine Jm ?_));(try simp only[SS,Nat.reduceEqDiff,Nat.reduceAdd,h176,hks]))
      |(with_reducible refine hK _ ?_;clear hK K))
      refine hU _ (jP l2 n.id x) _ hs (by rw[hkeep 112 (by decide) (by decide)];exact hL2) hO4 λv' L' q1 q2=>?_;refine hK _ ?_;clear hK K
      repeat' (first
      |with_reducible refine hn5 _ ?_
      |(with_reducible (refine aI (λK hK=>?_);refine If ?_);(try simp only[SS,Nat.reduceEqDiff,hw2]))
      |(with_reducible refine hK _ ?_;clear hK K))
      exact fin v' L' _ q1 q2 hM4
     |false=>
      rw[hs] at hks
      repeat' (first
      |with_reducible (first|refine bn rfl ?_|refine bx ?_|refine hn5 _ ?_)
      |(with_reducible ((first|refine ah (λK hK=>?_)|refine aI (λK hK=>?_));(first|refine Ie ?_|refine If ?_));(try simp only[SS,Nat.reduceEqDiff,Nat.reduceAdd,h176,hks,hw2]))
      |(with_reducible refine hK _ ?_;clear hK K))
      exact fin v2 L4 _ (by rw[hkeep 112 (by decide) (by decide)];exact hL2) (by rw[hnoU hs];exact hO4) hM4
   |nil=>
    simp only[List.length_nil] at hlen2;rw[List.append_nil] at h4;rw[←h4] at hO2 hM2;have hM5:MapR l2 ((d++[p]).flatMap Ir.bB):=by
     simp only[List.flatMap_append,List.flatMap_cons,List.flatMap_nil,List.append_nil,Ir.bB];rw[←List.append_assoc];exact hM2
    have fin:∀v' L',OwnA [848,1088,1216] ⟨L',Hm l2⟩ v' (d.flatMap Gx++(p.nodes.filter ee).flatMap eF++jC p.fin) →
      QL2 .normal ⟨[(4,.map (.g H0.length) 1),(5,v'),(14,sl ptC f.parts),(15,.int .i64 f.parts.length),(16,.int .i64 (d.length+1))],⟨L',Hm l2⟩⟩:=λv' L' q=>by
     rw[show((d.length:Int)+1)=((d++[p]).length:Int) by simp];refine hnL2 t.length _ (by simp) ⟨d++[p],t,v',L',l2,by simp[h2],rfl,?_,hM5,rfl⟩;simp only[List.flatMap_append,List.flatMap_cons,List.flatMap_nil,List.append_nil,Gx];rw[←List.append_assoc];exact q
    have hgr:(d.flatMap Gx++(p.nodes.filter ee).flatMap eF).length+(jC p.fin).length≤17592186044416:=by
     have:(Gx p).length=((p.nodes.filter ee).flatMap eF).length+(jC p.fin).length:=by rw[Gx,List.length_append]
     rw[List.length_append];omega
    by_cases h2':p.fin.op=2
    ·have he:jC p.fin=[p.fin.a,p.fin.b]:=by unfold jC;rw[if_neg (by omega),if_pos h2']
     have h2'':=eq_true h2'
     repeat' (first
     |with_reducible (first|refine ax rfl ?_|refine bc rfl ?_|refine aN ?_|refine hx4 _ ?_|refine bl (id:=6) (λQ6 hn6 hx6 hr6 ho6=>?_)|refine hxL1 _ _ ?_)
     |(with_reducible ((first|refine ah (λK hK=>?_)|refine aI (λK hK=>?_));(first|refine HP ?_|refine Ig ?_|refine Ih ?_|refine t55r21 ?_));(try simp only[SS,Nat.reduceEqDiff,Nat.reduceAdd,hL2,ptC,h2'',Iu]))
     |(revert hK;intro hK;(first|refine And.intro ?_ ?_|intro _|omega|(with_reducible refine hK _ ?_;clear hK K))))
     refine OwnA.app (js:=[848,1088,1216]) (l:=d.flatMap Gx++(p.nodes.filter ee).flatMap eF) (ys:=[p.fin.a,p.fin.b]) ?_ (by simp) (by rw[cU,ba,if_pos rfl,dz];rfl) rfl (by decide) (by rw[he] at hgr;exact hgr) λv' m' r1 r2 r3=>?_
     ·exact hO2.keep (by intro j hj;simp at hj;rcases hj with rfl|rfl|rfl<;>simp[bi,aq])
     obtain⟨L',H'⟩:=m';simp only[ik] at r2;subst r2;refine hK _ ?_;clear hK K
     repeat' (first
     |with_reducible (first|refine hn1 _ ?_|refine hn6 _ ?_)
     |(with_reducible (refine aI (λK hK=>?_);refine Ii ?_);(try simp only[SS,Nat.reduceEqDiff,hwd]))
     |(with_reducible refine hK _ ?_;clear hK K))
     exact fin v' L' (by rw[he];exact r1)
    by_cases h3':p.fin.op=3
    ·have he:jC p.fin=[p.fin.a]:=by unfold jC;rw[if_pos h3']
     have h3'':=eq_true h3'
     repeat' (first
     |with_reducible (first|refine ax rfl ?_|refine bc rfl ?_|refine bn rfl ?_|refine aN ?_|refine hx4 _ ?_|refine bl (id:=6) (λQ6 hn6 hx6 hr6 ho6=>?_)|refine hxL1 _ _ ?_)
     |(with_reducible ((first|refine ah (λK hK=>?_)|refine aI (λK hK=>?_));(first|refine HP ?_|refine Ig ?_|refine Ih ?_|refine Jn ?_|refine t55r23 ?_));(try simp only[SS,Nat.reduceEqDiff,Nat.reduceAdd,hL2,ptC,h2',h3'',gG]))
     |(revert hK;intro hK;(first|refine And.intro ?_ ?_|intro _|omega|(with_reducible refine hK _ ?_;clear hK K))))
     refine OwnA.app (js:=[848,1088,1216]) (l:=d.flatMap Gx++(p.nodes.filter ee).flatMap eF) (ys:=[p.fin.a]) ?_ (by simp) (by rw[cU,ba,if_pos rfl,dz];rfl) rfl (by decide) (by rw[he] at hgr;exact hgr) λv' m' r1 r2 r3=>?_
     ·exact hO2.keep (by intro j hj;simp at hj;rcases hj with rfl|rfl|rfl<;>simp[bi,aq])
     obtain⟨L',H'⟩:=m';simp only[ik] at r2;subst r2;refine hK _ ?_;clear hK K
     repeat' (first
     |with_reducible (first|refine hn1 _ ?_|refine hn6 _ ?_)
     |(with_reducible (refine aI (λK hK=>?_);refine Ii ?_);(try simp only[SS,Nat.reduceEqDiff,hwd]))
     |(with_reducible refine hK _ ?_;clear hK K))
     exact fin v' L' (by rw[he];exact r1)
    ·have he:jC p.fin=[]:=by unfold jC;rw[if_neg h3',if_neg h2']
     repeat' (first
     |with_reducible (first|refine ax rfl ?_|refine bn rfl ?_|refine aN ?_|refine bx ?_|refine hn1 _ ?_|refine hx4 _ ?_|refine bl (id:=6) (λQ6 hn6 hx6 hr6 ho6=>?_)|refine hn6 _ ?_|refine hxL1 _ _ ?_)
     |(with_reducible ((first|refine ah (λK hK=>?_)|refine aI (λK hK=>?_));(first|refine HP ?_|refine Ig ?_|refine Ih ?_|refine Jn ?_|refine Ii ?_));(try simp only[SS,Nat.reduceEqDiff,Nat.reduceAdd,hL2,ptC,h2',h3',hwd]))
     |(revert hK;intro hK;(first|refine And.intro ?_ ?_|intro _|omega|(with_reducible refine hK _ ?_;clear hK K))))
     exact fin v2 L2 (by rw[he,List.append_nil];exact hO2)
end Go.Cm
