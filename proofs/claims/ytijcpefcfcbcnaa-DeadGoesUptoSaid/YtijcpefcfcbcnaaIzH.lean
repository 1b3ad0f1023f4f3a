import Derived.Test.YtijcpefcfcbcnaaIzF
set_option linter.unusedSimpArgs false
set_option linter.unusedVariables false
namespace Go.Cm
open Go.Proofs Go.Ir Go.Gr
theorem dO {n k:Nat}{p:Nat→Bool}(hk:k<n) (h:p k=false):(List.range n).all p=false:=by
 rw[List.all_eq_false];exact⟨k,List.mem_range.2 hk,by simp[h]⟩
theorem dZ {n:Nat}{p:Nat→Bool}(h:∀k,k<n→p k=true):(List.range n).all p=true:=by
 rw[List.all_eq_true];exact λk hk=>h k (List.mem_range.1 hk)
theorem k79 (n:Nd) (hl:n.args.length≤17592186044416) {fid:FuncId}{d:Tmp}{m:Mem}{K:CV×Mem→Prop}(hgl:(An.glob fid).contains d=false)
  (hK:∀v m',EscI m' (16*d) v (eF n)→m'.H=m.H→(∀i,i≠16*d→aK m'.L i=aK m.L i)→K (v,m')):Obt (aB An FF fid (some d) 79 [.agg (ndC n)] m) K:=by
 have hF:=x79 n hl
 by_cases h7:n.op=7
 ·have hu:eF n=n.args:=by unfold eF;rw[if_neg (by omega),if_neg (by omega),if_pos h7]
  rw[ln,if_pos h7] at hF;rw[hu] at hK;rw[ek hF rfl (by simp only[cans,aC,ndE.can]) rfl (by simp only[noGs,noG,ndE.noG,Bool.and_self]) (ib fY _),aJ,hgl]
  cases ha:n.args with
  |nil=>rw[ha] at hK;exact hK _ _ .imm rfl (λ_ _=>rfl)
  |cons a l=>
   rw[ha] at hK;refine hK _ _ (OwnV.escI (.inr ⟨by simp,_,0,rfl,?_,Nat.zero_le _⟩)) rfl ?_
   ·show aK (bi m (16*d) _).L (16*d)=_
    rw[ba,if_pos rfl];rfl
   ·intro i hi
    show aK (bi m (16*d) _).L i=_;rw[ba,if_neg (Ne.symm hi)]
 ·rw[ln,if_neg h7] at hF
  exact gX hF rfl (by simp only[cans,aC,ndE.can]) rfl (by simp only[noGs,noG,ndE.noG,Bool.and_self]) fY hgl λv m' h1 h2 h3=>hK v m' h1.seen.escI h2 h3
theorem k93 (e:Tm) {fid:FuncId}{d:Tmp}{m:Mem}{K:CV×Mem→Prop}(hgl:(An.glob fid).contains d=false)
  (hK:∀v m',EscI m' (16*d) v (jC e)→m'.H=m.H→(∀i,i≠16*d→aK m'.L i=aK m.L i)→K (v,m')):Obt (aB An FF fid (some d) 93 [.agg (tmC e)] m) K:=
 gX (x93 e) rfl (by simp only[cans,aC,tmE.can]) rfl rfl fY hgl λv m' h1 h2 h3=>hK v m' h1.seen.escI h2 h3
theorem rM (e:Tm):(jC e).length≤2:=by
 unfold jC;split
 ·simp
 ·split<;>simp
theorem th (x:Nd) (h:x.args.length≤17592186044416):(eF x).length≤17592186044416:=by
 unfold eF;split
 ·simp
 ·split
  ·simp
  ·split
   ·exact h
   ·simp
theorem CEnv.app {f:Cd}{l:List (Option (Int×Int))}{up:List Int}{nc np nu:Nat}{H:List HO}(h:CEnv f l up nc np nu H) (E:List HO):CEnv f l up nc np nu (H++E) where
 ctx:=by rw[List.getElem?_append_left (List.getElem?_eq_some_iff.1 h.ctx).1,h.ctx]
 pls:=by rw[List.getElem?_append_left (List.getElem?_eq_some_iff.1 h.pls).1,h.pls]
 ups:=by rw[List.getElem?_append_left (List.getElem?_eq_some_iff.1 h.ups).1,h.ups]
 pos:=h.pos
 small:=h.small
theorem k92 (f:Cd) (g:List (List Int)) (l:List (Option (Int×Int))) (up:List Int) (nc np nu:Nat) (m:Mem) (hE:CEnv f l up nc np nu m.H) (hok:IdomOK g up) (hul:up.length=g.length) (hgl:g.length≤1048576)
  (part at_:Int) (hpart:part∈ord g) (v:CV) (j:Nat) (ids:List Int) (hv:EscI m j v ids) (hil:ids.length≤17592186044416) {fid:FuncId}{d:Tmp}{K:CV×Mem→Prop}
  (hK:∀m',m'.H=m.H→(∀i,i≠j→aK m'.L i=aK m.L i)→K (.bool (ids.all (bu g l part at_)),m')):Obt (aB An FF fid (some d) 92 [.ptr (.g nc) 1 0,.agg [.int .i64 part,.int .i64 at_],v] m) K:=by
 obtain⟨x,m1,h1,h2,h3,h4⟩:=hv;have hF:=x92 f g l up nc np nu m1.H (by rw[h3];exact hE) hok hul hgl part at_ hpart x ids (h2 _) hil;have hx:bp m [.ptr (.g nc) 1 0,.agg [.int .i64 part,.int .i64 at_],v]=some ([.ptr (.g nc) 1 0,.agg [.int .i64 part,.int .i64 at_],x],m1):=kG (pre:=[.ptr (.g nc) 1 0,.agg [.int .i64 part,.int .i64 at_]]) rfl h1;rw[m9 rfl hx hF,aJ,eY];exact hK _ h3 h4
noncomputable def fl (g:List (List Int)) (l:List (Option (Int×Int))) (p:Pt) (x:Ph):Bool:=decide (x.src.length=p.pred.length)&&(List.range x.src.length).all λk=>bu g l (p.pred.getD k 0) eD (x.src.getD k 0)
noncomputable def jD (g:List (List Int)) (l:List (Option (Int×Int))) (i:Int) (p:Pt) (k:Nat):Bool:=match p.nodes[k]? with|some n=>(eF n).all (bu g l i ((k+1:Nat):Int))|none=>true
theorem ep {g:List (List Int)}{l:List (Option (Int×Int))}{i:Int}{p:Pt}:eg g l i p=(p.phis.all (fl g l p)&&((List.range p.nodes.length).all (jD g l i p))&&(jC p.fin).all (bu g l i eD)):=rfl
theorem kY {f:Cd}(h:bY f=true) {i:Nat}(hi:i<f.parts.length):(i:Int)∈ord (aE f):=by
 simp only[bY,Bool.and_eq_true,List.all_eq_true,List.mem_range,decide_eq_true_eq] at h
 exact(h.1.2 i hi).1
theorem fb (f:Cd):(aE f).length=f.parts.length:=by simp[aE]
theorem wi {f:Cd}(h:bY f=true) {i:Nat}{p:Pt}(hp:f.parts[i]?=some p):p.pred=bP (aE f) i f.parts.length:=by
 have hi:=(List.getElem?_eq_some_iff.1 hp).1;simp only[bY,Bool.and_eq_true,List.all_eq_true,List.mem_range,decide_eq_true_eq] at h;have:=(h.1.2 i hi).2;rw[this,List.getD_eq_getElem?_getD,List.getElem?_map,hp];rfl
theorem oe {f:Cd}(h:bY f=true) {i:Nat}{p:Pt}(hp:f.parts[i]?=some p) {y:Int}(hy:y∈p.pred):y∈ord (aE f):=by
 rw[wi h hp,bP,List.mem_flatMap] at hy;obtain⟨a,ha,hy⟩:=hy;rw[List.mem_map] at hy;obtain⟨_,_,rfl⟩:=hy;exact kY h (List.mem_range.1 ha)
theorem gu {f:Cd}(hf:Sized f):Sm (aE f):=⟨by rw[fb];exact hf.parts,λr hr=>by
 rw[aE,List.mem_map] at hr;obtain⟨p,_,rfl⟩:=hr;have:=He p.fin
 omega⟩
theorem IsRows.rowC {g:List (List Int)}(hg:g≠[]):IsRows (rowC dV g) g:=by
 cases g with
 |nil=>exact absurd rfl hg
 |cons a g=>
  refine⟨_,rfl,by rw[bC dE];omega,λi r hr=>?_,eJ ij _⟩
  have:=dA (e:=dV) (sz:=1) (off:=0) dE hr (by omega);rw[Nat.mul_one,Nat.add_zero] at this
  refine⟨_,this.trans rfl,?_⟩
  cases r with
  |nil=>exact .inr ⟨rfl,rfl⟩
  |cons b r=>exact .inl rfl
set_option maxHeartbeats 4000000 in
theorem x62 (H:List HO) (f:Cd) (l:List (Option (Int×Int))) (nc np:Nat) (hf:Sized f) (hf1:f.parts≠[]) (hw:bY f=true)
  (hnc:H[nc]?=some (.var 1 [sl ptC f.parts,.int .i64 f.values,.ref (.g np) 1 0 l.length,.nil] 0)) (hnp:H[np]?=some (.arr 1 2 (l.flatMap plC) 0)) (hpos:∀(i:Nat) (x:Int×Int),l[i]?=some (some x)→0≤x.1) (hls:l.length≤1048576) :
  ∃r,(∃v H',r=(v,H')∧(∀i,i<H.length→i≠nc→H'[i]?=H[i]?)∧(if ew f l=true then v=.inil else lV H' v 3))∧FF 62 [.ptr (.g nc) 1 0] H=some r:=by
 have hSm:=gu hf;have hgl:(aE f).length≤1048576:=hSm.1;have hsne:aE f≠[]:=by simpa[aE] using hf1
 have hncl:=(List.getElem?_eq_some_iff.1 hnc).1;obtain⟨_,⟨H1,rfl⟩,hsu⟩:=x66 f hf.parts;have hld:∀L,ldA 2 ⟨L,H⟩ (.ptr (.g nc) 1 0)=some (.agg (aZ f)):=λL=>by rw[kL];simp only[hnc,gi];rfl
 refine bA rfl Try.func62 s62 (Nat.le_of_ble_eq_true rfl) (λQ hqr hqn=>?_);rw[show ∀a,cin (An.pure 62) a=a from λ_=>rfl];simp only[aO,Nat.reduceAdd,c62]
 repeat' (first
 |(with_reducible (refine ah (λK hK=>?_);(first|refine t62r0 ?_|refine t62r1 ?_));(try simp only[SS,b7,hld]))
 |(with_reducible refine hK _ ?_;clear hK K))
 refine gX hsu rfl (by simp only[cans,aC,codeE.can]) rfl (by simp only[noGs,noG,codeE.noG,Bool.and_self]) ij rfl λv1 m1 hO1 hH1 hf1'=>?_;obtain⟨m2,e1,e2,e3,_⟩:=hO1.seen.esc1 dE;obtain⟨_,⟨_,H',up,rfl,⟨nu,hnu,rfl,hup⟩,hul,hok,hout,hold⟩,hid⟩:=x91 (aE f) hSm (rowC dV (aE f)) (IsRows.rowC hsne) H;have hok:=hok hsne;have hidc:aB An FF 62 (some 18) 91 [v1] m1=some (.ref (.g nu) 1 0 (aE f).length,⟨m2.L,H'⟩):=by
  rw[m9 (m1:=m2) rfl (dh e1) (by rw[e2,hH1];exact hid)];rfl
 have hnc':H'[nc]?=some (.var 1 [sl ptC f.parts,.int .i64 f.values,.ref (.g np) 1 0 l.length,.nil] 0):=by rw[hold nc hncl,hnc]
 have hncl':=(List.getElem?_eq_some_iff.1 hnc').1;obtain⟨Hu,hHu⟩:∃Hu,Hu=H'.set nc (.var 1 [sl ptC f.parts,.int .i64 f.values,.ref (.g np) 1 0 l.length,.ref (.g nu) 1 0 (aE f).length] 0):=⟨_,rfl⟩;have hst:∀L,stX 1 ⟨L,H'⟩ (.ptr (.g nc) 1 3) (.ref (.g nu) 1 0 (aE f).length)=some ⟨L,Hu⟩:=λL=>by
  rw[gQ,hnc',show ap (.ref (.g nu) 1 0 (aE f).length)=some [.ref (.g nu) 1 0 (aE f).length] from rfl,fD,if_pos ⟨rfl,by simp,Nat.zero_le _⟩,bF rfl,hHu];rfl
 have hnpc:np≠nc:=λe=>by rw[e,hnc] at hnp;cases hnp
 have hnpl:=(List.getElem?_eq_some_iff.1 hnp).1;have hE0:CEnv f l up nc np nu Hu:=⟨by rw[hHu,List.getElem?_set_self hncl',hul],by rw[hHu,List.getElem?_set_ne (Ne.symm hnpc),hold np hnpl,hnp],by rw[hHu,List.getElem?_set_ne (by omega),hup],hpos,hls⟩;have hHul:Hu.length=H'.length:=by rw[hHu,List.length_set]
 have hHle:H.length≤H'.length:=by have:=(List.getElem?_eq_some_iff.1 hup).1;omega
 have hkeep:∀(E:List HO) i,i<H.length→i≠nc→(Hu++E)[i]?=H[i]?:=λE i hi hn=>by
  rw[List.getElem?_append_left (by omega),hHu,List.getElem?_set_ne (Ne.symm hn),hold i hi]
 have hgn:(((aE f).length:Nat):Int)=f.parts.length:=by rw[fb]
 simp only[hidc,hst,aJ];refine hK _ ?_;clear hK K;have hfp:∀(E:List HO) L,ld1 ⟨L,Hu++E⟩ (.ptr (.g nc) 1 0)=some (sl ptC f.parts):=λE L=>by rw[ce];simp only[(hE0.app E).ctx,cw];rfl
 have hfp0:∀L,ld1 ⟨L,Hu⟩ (.ptr (.g nc) 1 0)=some (sl ptC f.parts):=λL=>by have:=hfp [] L;rwa [List.append_nil] at this
 have hsetL:∀(L:List (Nat×HO)) (H:List HO) j o,bi ⟨L,H⟩ j o=⟨cF L j o,H⟩:=λ_ _ _ _=>rfl;have hpl:=hf.parts
 repeat' (first
 |with_reducible (first|refine ai ?_|refine aj (id:=0) (λQ0 hn0 hx0 hr0 ho0=>?_))
 |(with_reducible (refine ah (λK hK=>?_);refine t62r2 ?_);(try simp only[SS,lenS,b7,hfp0,aP]))
 |(with_reducible refine hK _ ?_;clear hK K))
 refine aU (λk s=>∃(d t:List Pt) (E:List HO) (L:List (Nat×HO)),f.parts=d++t∧k=t.length∧(∀(i:Nat) (p:Pt),d[i]?=some p→eg (aE f) l (i:Int) p=true) ∧
  s=⟨[(0,.ptr (.g nc) 1 0),(25,sl ptC f.parts),(26,.int .i64 f.parts.length),(27,.int .i64 d.length)],⟨L,Hu++E⟩⟩) _ ⟨[],f.parts,[],_,rfl,rfl,λi p h=>by simp at h,by rw[List.append_nil];rfl⟩ ?_
 rintro k s ⟨d,t,E,L,h3,rfl,hd,rfl⟩ QL3 hnL3 hxL3 hrL3;have hlen:=congrArg List.length h3;simp only[List.length_append] at hlen;simp only[c62l3]
 cases t with
 |nil=>
  simp only[List.length_nil] at hlen;rw[List.append_nil] at h3
  repeat' (first
  |with_reducible (first|refine ax rfl ?_|refine aN ?_|refine aF ?_|refine hx0 _ ?_|refine hxL3 _ _ ?_)
  |(with_reducible (first|(refine ah (λK hK=>?_);(first|refine t62r3 ?_|refine t62r27 ?_))|refine hqr _ ?_);(try simp only[SS,Nat.reduceEqDiff,r62,aQ,ak,aD,am,lI]))
  |(revert hK;intro hK;(first|refine And.intro ?_ ?_|intro _|omega|(with_reducible refine hK _ ?_;clear hK K))))
  refine⟨_,_,⟨rfl,rfl⟩,hkeep _,?_⟩
  rw[if_pos];refine dZ λi hi=>?_;have:f.parts[i]?=some f.parts[i]:=List.getElem?_eq_getElem hi;rw[this];exact hd i _ (by rw[←h3,this])
 |cons p t=>
  simp only[List.length_cons] at hlen;have hpi:f.parts[d.length]?=some p:=by rw[h3];simp
  have hpm:p∈f.parts:=List.mem_of_getElem? hpi;obtain⟨hphl,hphs⟩:=hf.phis p hpm;obtain⟨hndl,hnds⟩:=hf.nodes p hpm;have hprl:=hf.pred p hpm;have hdo:(d.length:Int)∈ord (aE f):=kY hw (by omega);have hwd:IntKind.i64.wrap ((d.length:Int)+1)=d.length+1:=wI (by omega) (by omega);obtain⟨HE,hHE⟩:∃HE,HE=Hu++(E++[.var 1 [.int .i64 d.length,.int .i64 3] 0]):=⟨_,rfl⟩;have hHE':(Hu++E)++[HO.var 1 [.int .i64 d.length,.int .i64 3] 0]=HE:=by rw[hHE,List.append_assoc]
  have hEE:CEnv f l up nc np nu HE:=by rw[hHE];exact hE0.app _
  have hno:HE[(Hu++E).length]?=some (.var 1 [.int .i64 d.length,.int .i64 3] 0):=by rw[←hHE'];simp
  have hkE:∀i,i<H.length→i≠nc→HE[i]?=H[i]?:=by rw[hHE];exact hkeep _
  have bad:eg (aE f) l d.length p=false→(∀i,i<H.length→i≠nc→HE[i]?=H[i]?)∧(if ew f l=true then CV.iface 152 (.ptr (.g (Hu++E).length) 1 0)=.inil else lV HE (.iface 152 (.ptr (.g (Hu++E).length) 1 0)) 3):=λhb=>by
   refine⟨hkE,?_⟩
   have:ew f l=false:=dO (k:=d.length) (by omega) (by rw[hpi];exact hb);rw[this,if_neg (by decide)]
   exact⟨_,_,rfl,hno⟩
  have hbox:∀L,iB (.agg [.int .i64 d.length,.int .i64 3]) ⟨L,Hu++E⟩=some (.ptr (.g (Hu++E).length) 1 0,⟨L,HE⟩):=λL=>by rw[e7,hHE']
  generalize (Hu++E).length=n5 at hno bad hbox
  repeat' (first
  |with_reducible (first|refine ai ?_|refine ar ?_|refine au rfl ?_|refine aj (id:=1) (λQ1 hn1 hx1 hr1 ho1=>?_)|refine aj (id:=2) (λQ2 hn2 hx2 hr2 ho2=>?_))
  |(with_reducible (refine ah (λK hK=>?_);(first|refine t62r3 ?_|refine t62r4 ?_|refine t62r5 ?_|refine t62r6 ?_));(try simp only[SS,Nat.reduceEqDiff,ap,Nat.reduceAdd,lenS,bg,ay,Nat.reduceLeDiff,aM ptE.len (by omega) h3,ct,ptC,hsetL,er,hbox,aP]))
  |(revert hK;intro hK;(first|refine And.intro ?_ ?_|intro _|omega|(with_reducible refine hK _ ?_;clear hK K))))
  refine aU (λk s=>∃(d1 t1:List Ph) (g4:Nat) (L:List (Nat×HO)),p.phis=d1++t1∧k=t1.length∧(∀x∈d1,fl (aE f) l p x=true)∧aK L 64=some (.var g4 (ptC p) 0) ∧
   s=⟨[(0,.ptr (.g nc) 1 0),(3,.int .i64 d.length),(4,.ptr (.l 64) g4 0),(5,.ptr (.g n5) 1 0),(25,sl ptC f.parts),(26,.int .i64 f.parts.length),(27,.int .i64 d.length),(36,sl phC p.phis),(37,.int .i64 p.phis.length),(38,.int .i64 d1.length)],⟨L,HE⟩⟩) _
   ⟨[],p.phis,_,_,rfl,rfl,by simp,by simp[aq,ptC],rfl⟩ ?_
  rintro k s ⟨d1,t1,g4,L1,h4,rfl,hd1,hL1,rfl⟩ QL1 hnL1 hxL1 hrL1;have hlen1:=congrArg List.length h4;simp only[List.length_append] at hlen1;simp only[c62l1]
  cases t1 with
  |nil=>
   simp only[List.length_nil] at hlen1;rw[List.append_nil] at h4;have hph:p.phis.all (fl (aE f) l p)=true:=by rw[h4,List.all_eq_true];exact hd1
   repeat' (first
   |with_reducible (first|refine ai ?_|refine ax rfl ?_|refine aN ?_|refine hx2 _ ?_|refine aj (id:=6) (λQ6 hn6 hx6 hr6 ho6=>?_)|refine hxL1 _ _ ?_)
   |(with_reducible (refine ah (λK hK=>?_);(first|refine Fr ?_|refine t62r18 ?_));(try simp only[SS,Nat.reduceEqDiff,lenS,hL1,ptC,aP]))
   |(revert hK;intro hK;(first|refine And.intro ?_ ?_|intro _|omega|(with_reducible refine hK _ ?_;clear hK K))))
   refine aU (λk s=>∃(d2 t2:List Nd) (L:List (Nat×HO)),p.nodes=d2++t2∧k=t2.length∧(∀i,i<d2.length→jD (aE f) l d.length p i=true)∧aK L 64=some (.var g4 (ptC p) 0) ∧
    s=⟨[(0,.ptr (.g nc) 1 0),(3,.int .i64 d.length),(4,.ptr (.l 64) g4 0),(5,.ptr (.g n5) 1 0),(25,sl ptC f.parts),(26,.int .i64 f.parts.length),(27,.int .i64 d.length),(75,sl ndC p.nodes),(76,.int .i64 p.nodes.length),(77,.int .i64 d2.length)],⟨L,HE⟩⟩) _
    ⟨[],p.nodes,_,rfl,rfl,λi h=>by simp at h,hL1,rfl⟩ ?_
   rintro k s ⟨d2,t2,L2,h5,rfl,hd2,hL2,rfl⟩ QL2 hnL2 hxL2 hrL2;have hlen2:=congrArg List.length h5;simp only[List.length_append] at hlen2;simp only[c62l2]
   cases t2 with
   |nil=>
    simp only[List.length_nil] at hlen2;have hnd:(List.range p.nodes.length).all (jD (aE f) l d.length p)=true:=dZ λi hi=>hd2 i (by omega);have hpk:eg (aE f) l d.length p=(jC p.fin).all (bu (aE f) l d.length eD):=by rw[ep,hph,hnd];simp
    repeat' (first
    |with_reducible (first|refine ax rfl ?_|refine aN ?_|refine hx6 _ ?_|refine hxL2 _ _ ?_)
    |(with_reducible (refine ah (λK hK=>?_);(first|refine Fq ?_|refine t62r24 ?_));(try simp only[SS,Nat.reduceEqDiff,ap,Nat.reduceAdd,bg,ay,Nat.reduceLeDiff,hL2,ptC,er]))
    |(revert hK;intro hK;(first|refine And.intro ?_ ?_|intro _|omega|(with_reducible refine hK _ ?_;clear hK K))))
    refine k93 p.fin rfl λv3 m3 hv3 hH3 hf3=>?_;refine k92 f (aE f) l up nc np nu m3 (by rw[hH3];exact hEE) hok hul hgl d.length 1073741824 hdo v3 _ (jC p.fin) hv3 (by have:=rM p.fin;omega) λm4 hH4 hf4=>?_;obtain⟨L4,H4⟩:=m4;simp only[hH3] at hH4;subst hH4;rw[show(1073741824:Int)=eD from rfl,←hpk]
    cases hpo:eg (aE f) l d.length p with
    |false=>
     simp only[fc,Bool.not_false];refine hK _ ?_;clear hK K
     repeat' (first
     |with_reducible (first|refine bc rfl ?_|refine aF ?_|refine hr0 _ ?_|refine hr1 _ ?_|refine hrL3 _ ?_)
     |(with_reducible (first|(refine ah (λK hK=>?_);refine t62r25 ?_)|refine hqr _ ?_);(try simp only[SS,Nat.reduceEqDiff,r62,aQ,ak,aD,am,cP]))
     |(with_reducible refine hK _ ?_;clear hK K))
     exact⟨_,_,⟨rfl,rfl⟩,bad hpo⟩
    |true=>
     simp only[fc,Bool.not_true];refine hK _ ?_;clear hK K
     repeat' (first
     |with_reducible (first|refine bn rfl ?_|refine bx ?_|refine hn1 _ ?_)
     |(with_reducible (refine aI (λK hK=>?_);refine t62r26 ?_);(try simp only[SS,Nat.reduceEqDiff,hwd]))
     |(with_reducible refine hK _ ?_;clear hK K))
     refine hnL3 t.length _ (by simp) ⟨d++[p],t,E++[.var 1 [.int .i64 d.length,.int .i64 3] 0],L4,by simp[h3],rfl,λi q hq=>?_,by rw[hHE];simp⟩
     by_cases hi:i<d.length
     ·rw[List.getElem?_append_left hi] at hq
      exact hd i q hq
     ·have:i=d.length:=by have:=(List.getElem?_eq_some_iff.1 hq).1;simp at this;omega
      subst this;simp at hq;subst hq;exact hpo
   |cons x t2=>
    simp only[List.length_cons] at hlen2;have hxi:p.nodes[d2.length]?=some x:=by rw[h5];simp
    have hxa:=(hnds x (List.mem_of_getElem? hxi)).1;have hw2:IntKind.i64.wrap ((d2.length:Int)+1)=((d2.length+1:Nat):Int):=by rw[wI (by omega) (by omega)];rfl
    have hul':(eF x).length≤17592186044416:=th x hxa;have hnk:jD (aE f) l d.length p d2.length=(eF x).all (bu (aE f) l d.length ((d2.length+1:Nat):Int)):=by unfold jD;rw[hxi]
    repeat' (first
    |with_reducible (first|refine ar ?_|refine au rfl ?_|refine aj (id:=7) (λQ7 hn7 hx7 hr7 ho7=>?_))
    |(with_reducible (refine ah (λK hK=>?_);(first|refine Fq ?_|refine t62r20 ?_|refine t62r21 ?_));(try simp only[SS,Nat.reduceEqDiff,ap,Nat.reduceAdd,bg,ay,Nat.reduceLeDiff,aM ndE.len (by omega) h5,eR,ndC,hsetL,hw2,er]))
    |(revert hK;intro hK;(first|refine And.intro ?_ ?_|intro _|omega|(with_reducible refine hK _ ?_;clear hK K))))
    refine k79 x hxa rfl λv3 m3 hv3 hH3 hf3=>?_;refine k92 f (aE f) l up nc np nu m3 (by rw[hH3];exact hEE) hok hul hgl d.length ((d2.length+1:Nat):Int) hdo v3 _ (eF x) hv3 hul' λm4 hH4 hf4=>?_;have h64:aK m4.L 64=some (.var g4 (ptC p) 0):=by rw[hf4 64 (by decide),hf3 64 (by decide)];simp[aq,hL2]
    obtain⟨L4,H4⟩:=m4;simp only[hH3] at hH4;subst hH4;rw[←hnk]
    cases hpo:jD (aE f) l d.length p d2.length with
    |false=>
     simp only[fc,Bool.not_false];refine hK _ ?_;clear hK K
     repeat' (first
     |with_reducible (first|refine bc rfl ?_|refine aF ?_|refine hr0 _ ?_|refine hr1 _ ?_|refine hr6 _ ?_|refine hr7 _ ?_|refine hrL2 _ ?_|refine hrL3 _ ?_)
     |(with_reducible (first|(refine ah (λK hK=>?_);refine t62r22 ?_)|refine hqr _ ?_);(try simp only[SS,Nat.reduceEqDiff,r62,aQ,ak,aD,am,cP]))
     |(with_reducible refine hK _ ?_;clear hK K))
     refine⟨_,_,⟨rfl,rfl⟩,bad ?_⟩
     rw[ep,dO (k:=d2.length) (by omega) hpo];simp
    |true=>
     simp only[fc,Bool.not_true];refine hK _ ?_;clear hK K
     repeat' (first
     |with_reducible (first|refine bn rfl ?_|refine bx ?_|refine hn7 _ ?_)
     |(with_reducible (refine aI (λK hK=>?_);refine t62r23 ?_);(try simp only[SS,Nat.reduceEqDiff,hw2]))
     |(with_reducible refine hK _ ?_;clear hK K))
     rw[show((d2.length+1:Nat):Int)=((d2++[x]).length:Int) by simp];refine hnL2 t2.length _ (by simp) ⟨d2++[x],t2,L4,by simp[h5],rfl,λi hi=>?_,h64,rfl⟩
     by_cases hi2:i<d2.length
     ·exact hd2 i hi2
     ·have:i=d2.length:=by simp at hi;omega
      subst this;exact hpo
  |cons x t1=>
   simp only[List.length_cons] at hlen1;have hxm:x∈p.phis:=by rw[h4];simp
   have hxs:=hphs x hxm;have hw1:IntKind.i64.wrap ((d1.length:Int)+1)=d1.length+1:=wI (by omega) (by omega)
   by_cases hsl:x.src.length=p.pred.length
   ·have hsl':((x.src.length:Nat):Int)=p.pred.length:=by omega
    repeat' (first
    |with_reducible (first|refine ai ?_|refine ar ?_|refine au rfl ?_|refine ax rfl ?_|refine aj (id:=3) (λQ3 hn3 hx3 hr3 ho3=>?_)|refine bl (id:=4) (λQ4 hn4 hx4 hr4 ho4=>?_))
    |(with_reducible (refine ah (λK hK=>?_);(first|refine Fr ?_|refine t62r8 ?_|refine t62r9 ?_|refine t62r11 ?_));(try simp only[SS,Nat.reduceEqDiff,ap,Nat.reduceAdd,br,lenS,ay,aM phE.len (by omega) h4,qG,phC,hsetL,hL1,ptC,aP,hsl']))
    |(revert hK;intro hK;(first|refine And.intro ?_ ?_|intro _|omega|(with_reducible refine hK _ ?_;clear hK K))))
    refine aU (λk s=>∃(d5 t5:List Int) (L:List (Nat×HO)),x.src=d5++t5∧k=t5.length∧(∀i,i<d5.length→bu (aE f) l (p.pred.getD i 0) eD (x.src.getD i 0)=true)∧aK L 64=some (.var g4 (ptC p) 0) ∧
     s=⟨[(0,.ptr (.g nc) 1 0),(3,.int .i64 d.length),(4,.ptr (.l 64) g4 0),(5,.ptr (.g n5) 1 0),(25,sl ptC f.parts),(26,.int .i64 f.parts.length),(27,.int .i64 d.length),(36,sl phC p.phis),(37,.int .i64 p.phis.length),(38,.int .i64 d1.length),(52,sl aX x.src),(53,.int .i64 p.pred.length),(54,.int .i64 d5.length)],⟨L,HE⟩⟩) _
     ⟨[],x.src,_,rfl,rfl,λi h=>by simp at h,by simp[aq,hL1,ptC],rfl⟩ ?_
    rintro k s ⟨d5,t5,L5,h6,rfl,hd5,hL5,rfl⟩ QL0 hnL0 hxL0 hrL0;have hlen5:=congrArg List.length h6;simp only[List.length_append] at hlen5;simp only[c62l0]
    cases t5 with
    |nil=>
     simp only[List.length_nil] at hlen5;rw[List.append_nil] at h6
     repeat' (first
     |with_reducible (first|refine ax rfl ?_|refine aN ?_|refine hn3 _ ?_|refine hx4 _ ?_|refine hxL0 _ _ ?_)
     |(with_reducible ((first|refine ah (λK hK=>?_)|refine aI (λK hK=>?_));(first|refine Fp ?_|refine t62r17 ?_));(try simp only[SS,Nat.reduceEqDiff,hw1]))
     |(revert hK;intro hK;(first|refine And.intro ?_ ?_|intro _|omega|(with_reducible refine hK _ ?_;clear hK K))))
     rw[show((d1.length:Int)+1)=((d1++[x]).length:Int) by simp];refine hnL1 t1.length _ (by simp) ⟨d1++[x],t1,g4,L5,by simp[h4],rfl,λy hy=>?_,hL5,rfl⟩;rcases List.mem_append.1 hy with hy|hy
     ·exact hd1 y hy
     ·simp only[List.mem_singleton] at hy
      subst hy;unfold fl;simp only[hsl,decide_true,Bool.true_and];exact dZ λi hi=>hd5 i (by omega)
    |cons y t5=>
     simp only[List.length_cons] at hlen5;have hw5:IntKind.i64.wrap ((d5.length:Int)+1)=d5.length+1:=wI (by omega) (by omega);have hpp:p.pred[((d5.length:Nat):Int).toNat]?=some (p.pred.getD d5.length 0):=by
      rw[Int.toNat_natCast,List.getD_eq_getElem?_getD,List.getElem?_eq_getElem (by omega)];rfl
     have hpr:p.pred.getD d5.length 0∈ord (aE f):=oe hw hpi (List.mem_of_getElem? hpp);have hxy:x.src.getD d5.length 0=y:=by rw[h6];simp
     repeat' (first
     |with_reducible (first|refine ar ?_|refine au rfl ?_|refine aj (id:=5) (λQ5 hn5 hx5 hr5 ho5=>?_))
     |(with_reducible (refine ah (λK hK=>?_);(first|refine Fp ?_|refine t62r13 ?_|refine t62r14 ?_));(try simp only[SS,Nat.reduceEqDiff,ap,Nat.reduceAdd,dw,bg,ay,Nat.reduceLeDiff,gG,aM dB (by omega) h6,hY dB (by omega) (show(0:Int)≤(d5.length:Int) by omega) hpp,hL5,ptC,er,aX]))
     |(revert hK;intro hK;(first|refine And.intro ?_ ?_|intro _|omega|(with_reducible refine hK _ ?_;clear hK K))))
     have hv3:EscI (bi ⟨L5,HE⟩ 1072 (HO.arr (bj L5 1072) 1 [CV.int IntKind.i64 y] 0)) 1072 (.ref (.l 1072) (bj L5 1072) 0 1) [y]:=OwnV.escI (.inr ⟨by simp,_,0,rfl,by rw[ba,if_pos rfl];rfl,Nat.zero_le _⟩);refine k92 f (aE f) l up nc np nu _ hEE hok hul hgl (p.pred.getD d5.length 0) 1073741824 hpr _ _ [y] hv3 (by simp) λm4 hH4 hf4=>?_;have h64:aK m4.L 64=some (.var g4 (ptC p) 0):=by rw[hf4 64 (by decide),ba,if_neg (by decide)];exact hL5
     obtain⟨L4,H4⟩:=m4;simp only[ik] at hH4;subst hH4;have hone:([y].all (bu (aE f) l (p.pred.getD d5.length 0) 1073741824))=bu (aE f) l (p.pred.getD d5.length 0) eD (x.src.getD d5.length 0):=by rw[hxy];simp[eD]
     rw[hone]
     cases hpo:bu (aE f) l (p.pred.getD d5.length 0) eD (x.src.getD d5.length 0) with
     |false=>
      simp only[fc,Bool.not_false];refine hK _ ?_;clear hK K
      repeat' (first
      |with_reducible (first|refine bc rfl ?_|refine aF ?_|refine hr0 _ ?_|refine hr1 _ ?_|refine hr2 _ ?_|refine hr3 _ ?_|refine hr4 _ ?_|refine hr5 _ ?_|refine hrL0 _ ?_|refine hrL1 _ ?_|refine hrL3 _ ?_)
      |(with_reducible (first|(refine ah (λK hK=>?_);refine t62r15 ?_)|refine hqr _ ?_);(try simp only[SS,Nat.reduceEqDiff,r62,aQ,ak,aD,am,cP]))
      |(with_reducible refine hK _ ?_;clear hK K))
      have hpo2:fl (aE f) l p x=false:=by unfold fl;rw[dO (k:=d5.length) (by omega) hpo];simp
      have hpa:p.phis.all (fl (aE f) l p)=false:=by rw[List.all_eq_false];exact⟨x,hxm,by simp[hpo2]⟩
      exact⟨_,_,⟨rfl,rfl⟩,bad (by rw[ep,hpa];simp)⟩
     |true=>
      simp only[fc,Bool.not_true];refine hK _ ?_;clear hK K
      repeat' (first
      |with_reducible (first|refine bn rfl ?_|refine bx ?_|refine hn5 _ ?_)
      |(with_reducible (refine aI (λK hK=>?_);refine t62r16 ?_);(try simp only[SS,Nat.reduceEqDiff,hw5]))
      |(with_reducible refine hK _ ?_;clear hK K))
      rw[show((d5.length:Int)+1)=((d5++[y]).length:Int) by simp];refine hnL0 t5.length _ (by simp) ⟨d5++[y],t5,L4,by simp[h6],rfl,λi hi=>?_,h64,rfl⟩
      by_cases hi2:i<d5.length
      ·exact hd5 i hi2
      ·have:i=d5.length:=by simp at hi;omega
       subst this;exact hpo
   ·have hsl':¬((x.src.length:Nat):Int)=p.pred.length:=by omega
    have hpo:fl (aE f) l p x=false:=by unfold fl;simp[hsl]
    have hpa:p.phis.all (fl (aE f) l p)=false:=by rw[List.all_eq_false];exact⟨x,hxm,by simp[hpo]⟩
    repeat' (first
    |with_reducible (first|refine ai ?_|refine ar ?_|refine au rfl ?_|refine b6 ?_|refine hr0 _ ?_|refine hr1 _ ?_|refine hr2 _ ?_|refine aj (id:=3) (λQ3 hn3 hx3 hr3 ho3=>?_)|refine hr3 _ ?_|refine hrL1 _ ?_|refine hrL3 _ ?_)
    |(with_reducible (first|(refine ah (λK hK=>?_);(first|refine Fr ?_|refine t62r8 ?_|refine t62r9 ?_|refine t62r10 ?_))|refine hqr _ ?_);(try simp only[SS,Nat.reduceEqDiff,ap,Nat.reduceAdd,br,lenS,ay,r62,aQ,ak,aD,am,aM phE.len (by omega) h4,qG,phC,hsetL,hL1,ptC,aP,hsl',cP]))
    |(revert hK;intro hK;(first|refine And.intro ?_ ?_|intro _|omega|(with_reducible refine hK _ ?_;clear hK K))))
    exact⟨_,_,⟨rfl,rfl⟩,bad (by rw[ep,hpa];simp)⟩
end Go.Cm
namespace Go.Cm
open Go.Proofs Go.Ir Go.Gr
structure RInv (b n no:Nat) (H0 H:List HO) (cs:List CV) (f:Nat→List Int):Prop where
 len:b≤H.length
 nol:no<b
 tab:H[no]?=some (.arr 1 1 cs 0)
 csl:cs.length=n
 row:∀x:Nat,x<n→(cs[x]?=some .nil∧f x=[])∨∃k gn,cs[x]?=some (.ref (.g k) gn 0 (f x).length)∧b≤k∧H[k]?=some (.arr gn 1 ((f x).flatMap aX) 0)
 apart:∀(x y k gn gn' l l':Nat),cs[x]?=some (.ref (.g k) gn 0 l)→cs[y]?=some (.ref (.g k) gn' 0 l')→x=y
 old:∀i:Nat,i<b→i≠no→H[i]?=H0[i]?
section
variable {b n no:Nat}{H0 H:List HO}{cs:List CV}{f:Nat→List Int}
theorem RInv.get (h:RInv b n no H0 H cs f) {x:Nat}(hx:x<n):∃v,cs[x]?=some v∧RefG H v (f x):=by
 rcases h.row x hx with⟨h1,h2⟩|⟨k,gn,h1,_,h2⟩
 ·exact⟨_,h1,.inl ⟨h2,rfl⟩⟩
 ·exact⟨_,h1,.inr ⟨k,gn,0,rfl,h2⟩⟩
theorem RInv.idx (h:RInv b n no H0 H cs f) {x:Int}(h0:0≤x) (hx:x<n):bd 1 (.ref (.g no) 1 0 n) (.int .i64 x)=some (.ptr (.g no) 1 x.toNat):=by
 rw[bD,if_pos ⟨h0,by omega⟩];simp
theorem RInv.ld (h:RInv b n no H0 H cs f) {x:Nat}{v:CV}(hv:cs[x]?=some v) {L:List (Nat×HO)}:ld1 ⟨L,H⟩ (.ptr (.g no) 1 x)=some v:=by
 rw[ce];simp only[h.tab,bM,hv]
theorem RInv.step (h:RInv b n no H0 H cs f) {x:Nat}(hx:x<n) {v:CV}(hv:cs[x]?=some v) (a:Int) {gt j jt:Nat}{L:List (Nat×HO)}(ht:aK L jt=some (.arr gt 1 [.int .i64 a] 0)) (hl:(f x).length+1≤4294967296) :
  ∃w H2 H3 cs',ej true j 1 8 v (.ref (.l jt) gt 0 1) ⟨L,H⟩=some (w,⟨L,H2⟩)∧stX 1 ⟨L,H2⟩ (.ptr (.g no) 1 x) w=some ⟨L,H3⟩∧RInv b n no H0 H3 cs' (λz=>if z=x then f x++[a] else f z):=by
 have hc:content ⟨L,H⟩ 1 (.ref (.l jt) gt 0 1)=some [.int .i64 a]:=by rw[cU,ht,dz];rfl
 have hbl:=h.len;have hnb:=h.nol;have hcx:x<cs.length:=by rw[h.csl];exact hx
 have hfresh:∀(z n gn k:Nat),cs[z]?=some (.ref (.g n) gn 0 k)→n<H.length:=by
  intro z n gn k hz;rcases Nat.lt_or_ge z cs.length with hz'|hz'
  ·rcases h.row z (by rw[←h.csl];exact hz') with⟨h3,_⟩|⟨n',gn',h3,_,h4⟩
   ·rw[h3] at hz;cases hz
   ·rw[h3] at hz
    simp only[Option.some.injEq,CV.ref.injEq,Key.g.injEq] at hz;rw[←hz.1];exact(List.getElem?_eq_some_iff.1 h4).1
  ·rw[List.getElem?_eq_none hz'] at hz;cases hz
 rcases h.row x hx with⟨h1,h2⟩|⟨k,gn,h1,hbn,h2⟩
 · -- a new row
  rw[h1] at hv
  obtain rfl:=(Option.some.inj hv)
  have xl:(H++[HO.arr 1 1 [.int .i64 a] 0])[no]?=some (.arr 1 1 cs 0):=by rw[List.getElem?_append_left (by omega)];exact h.tab
  refine⟨.ref (.g H.length) 1 0 1,H++[HO.arr 1 1 [.int .i64 a] 0],_,cs.set x (.ref (.g H.length) 1 0 1),?_,jz (m:=⟨L,_⟩) xl hcx rfl rfl,?_⟩
  ·rw[iD,hc,fq,eG (by decide),if_pos (dI (by decide) (by decide))]
   rfl
  ·refine⟨by simp;omega,hnb,by simp only;rw[List.getElem?_set_self (by simp;omega)],by simp[h.csl],λz hz=>?_,λz w n gn gn' k k' hz hw=>?_,λi hi hi2=>?_⟩
   ·by_cases hzx:z=x
    ·subst hzx
     right
     refine⟨H.length,1,?_,hbl,?_⟩
     ·rw[List.getElem?_set_self hcx];simp[h2]
     ·simp only
      rw[List.getElem?_set_ne (by omega),List.getElem?_append_right (by omega)];simp[h2,aX]
    ·rw[List.getElem?_set_ne (Ne.symm hzx),if_neg hzx]
     rcases h.row z hz with h3|⟨n',gn',h3,h4,h5⟩
     ·exact .inl h3
     ·right
      have:=(List.getElem?_eq_some_iff.1 h5).1
      exact⟨n',gn',h3,h4,by simp only;rw[List.getElem?_set_ne (by omega),List.getElem?_append_left this,h5]⟩
   ·rw[List.getElem?_set] at hz hw
    split at hz<;>split at hw
    ·rename_i e1 e2;rw[←e1,←e2]
    ·simp only[Option.some.injEq,CV.ref.injEq,Key.g.injEq] at hz
     have:=hfresh w n gn' k' hw;omega
    ·simp only[Option.some.injEq,CV.ref.injEq,Key.g.injEq] at hw
     have:=hfresh z n gn k hz;omega
    ·exact h.apart z w n gn gn' k k' hz hw
   ·simp only
    rw[List.getElem?_set_ne (by omega),List.getElem?_append_left (by omega)];exact h.old i hi hi2
 · -- a row that is made longer
  rw[h1] at hv
  obtain rfl:=(Option.some.inj hv)
  have hnl:=(List.getElem?_eq_some_iff.1 h2).1;have xl:(H.set k (.arr (gn+1) 1 ((f x++[a]).flatMap aX) 0))[no]?=some (.arr 1 1 cs 0):=by rw[List.getElem?_set_ne (by omega)];exact h.tab
  refine⟨.ref (.g k) (gn+1) 0 ((f x).length+1),H.set k (.arr (gn+1) 1 ((f x++[a]).flatMap aX) 0),_,cs.set x (.ref (.g k) (gn+1) 0 ((f x).length+1)),?_,jz (m:=⟨L,_⟩) xl hcx rfl rfl,?_⟩
  ·have htk:((f x).flatMap aX).take ((f x).length*1)=(f x).flatMap aX:=List.take_of_length_le (by rw[dL];omega)
   rw[tt,hc,fq];simp only[h2];rw[if_pos ⟨trivial,trivial,by omega,dI (by decide) hl⟩];simp only[jE,List.drop_zero,htk,Nat.zero_sub,List.flatMap_append,List.flatMap_cons,List.flatMap_nil,List.append_nil,aX]
  ·refine⟨by simp;omega,hnb,by simp only;rw[List.getElem?_set_self (by simp;omega)],by simp[h.csl],λz hz=>?_,λz w n' g1 g2 l l' hz hw=>?_,λi hi hi2=>?_⟩
   ·by_cases hzx:z=x
    ·subst hzx
     right
     refine⟨k,gn+1,?_,hbn,?_⟩
     ·rw[List.getElem?_set_self hcx];simp
     ·simp only
      rw[List.getElem?_set_ne (by omega),List.getElem?_set_self hnl];simp
    ·rw[List.getElem?_set_ne (Ne.symm hzx),if_neg hzx]
     rcases h.row z hz with h3|⟨n',gn',h3,h4,h5⟩
     ·exact .inl h3
     ·right
      have hne:k≠n':=λe=>hzx (h.apart z x n' gn' gn _ _ h3 (by rw[←e];exact h1))
      exact⟨n',gn',h3,h4,by simp only;rw[List.getElem?_set_ne (by omega),List.getElem?_set_ne hne,h5]⟩
   ·rw[List.getElem?_set] at hz hw
    split at hz<;>split at hw
    ·rename_i e1 e2;rw[←e1,←e2]
    ·rename_i e1 e2
     simp only[Option.some.injEq,CV.ref.injEq,Key.g.injEq] at hz;rw[←hz.1] at hw;rw[←e1];exact h.apart x w k gn g2 _ _ h1 hw
    ·rename_i e1 e2
     simp only[Option.some.injEq,CV.ref.injEq,Key.g.injEq] at hw;rw[←hw.1] at hz;rw[←e2];exact(h.apart x z k gn g1 _ _ h1 hz).symm
    ·exact h.apart z w n' g1 g2 l l' hz hw
   ·simp only
    rw[List.getElem?_set_ne (by omega),List.getElem?_set_ne (by omega)];exact h.old i hi hi2
end
theorem sB:∀n x:Nat,x<n→(dM n [CV.nil])[x]?=some .nil:=by
 intro n
 induction n with
 |zero=>intro x hx;omega
 |succ n ih=>
  intro x hx
  cases x with
  |zero=>rfl
  |succ x=>exact ih x (by omega)
theorem OwnV.idx1 {m:Mem}{j:Nat}{v:CV}{l:List Int}(h:OwnV aX 1 m j v l) {a:Int}{i:Nat}(ha:l[i]?=some a):∃pt,bd 1 v (.int .i64 i)=some pt∧ld1 m pt=some (.int .i64 a):=by
 obtain⟨g,vl,rfl,h2,_⟩:=h.at dB ha (k:=.i64);have hi:=(List.getElem?_eq_some_iff.1 ha).1
 refine⟨.ptr (.l j) g i,by rw[bD,if_pos ⟨by omega,by omega⟩];simp,?_⟩
 rw[eX,h2];simp only[bM];rw[fX,ha];rfl
theorem ie {s:List (List Int)}{b:Int}{n:Nat}:bP s b (n+1)=bP s b n++((s.getD n []).filter λy=>decide (y=b)).map λ_=>(n:Int):=by
 simp only[bP,List.range_succ,List.flatMap_append,List.flatMap_cons,List.flatMap_nil,List.append_nil]
theorem fm {s:List (List Int)}(hs:∀i:Nat,(s.getD i []).length≤2) (b:Int):∀n,(bP s b n).length≤2*n
 |0=>by simp[bP]
 |n+1=>by
  rw[ie,List.length_append,List.length_map];have h1:=fm hs b n;have h2:=List.length_filter_le (λy=>decide (y=b)) (s.getD n []);have h3:=hs n;omega
end Go.Cm
namespace Go.Cm
open Go.Proofs Go.Ir Go.Gr
theorem pI {n:Nat}{e:Tm}(h:e.op<1∨3<e.op∨(e.op=2∧(cL e.cond=false∨e.to=e.els))):ip n e=false:=by
 unfold ip;rcases h with h|h|⟨h,h2|h2⟩
 ·rw[decide_eq_false (by omega:¬1≤e.op)];rfl
 ·rw[decide_eq_false (by omega:¬e.op≤3)];simp
 ·simp[h,h2]
 ·simp[h,h2]
theorem jo {n:Nat}{e:Tm}{y:Int}(h:y∈cE e) (h2:¬(0≤y∧y<n)):ip n e=false:=by
 rw[←Bool.not_eq_true];intro h3;simp only[ip,Bool.and_eq_true,List.all_eq_true,decide_eq_true_eq] at h3;exact h2 (h3.2 y h)
theorem nF {n:Nat}{e:Tm}(h1:¬e.op<1) (h2:¬3<e.op) (h3:e.op=2→cL e.cond=true∧¬e.to=e.els) (h4:∀y∈cE e,0≤y∧y<n):ip n e=true:=by
 unfold ip;rw[decide_eq_true (by omega:1≤e.op),decide_eq_true (by omega:e.op≤3),List.all_eq_true.2 (λy hy=>decide_eq_true (h4 y hy))]
 by_cases h:e.op=2
 ·simp[h,h3 h]
 ·simp[h]
theorem gS {f:Cd}{p:Pt}(hp:p∈f.parts) (h:ip f.parts.length p.fin=false):bY f=false:=by
 rw[←Bool.not_eq_true];intro h3;simp only[bY,Bool.and_eq_true,List.all_eq_true] at h3;rw[h3.1.1 p hp] at h;cases h
theorem jB {f:Cd}{i:Nat}{p:Pt}(hp:f.parts[i]?=some p) (h:¬((i:Int)∈ord (aE f)∧bP (aE f) i f.parts.length=p.pred)):bY f=false:=by
 rw[←Bool.not_eq_true];intro h3;refine h ⟨kY h3 (List.getElem?_eq_some_iff.1 hp).1,(wi h3 hp).symm⟩
theorem oS {f:Cd}{p:Pt}(hp:f.parts[0]?=some p) (h:p.pred≠[]):bY f=false:=by
 rw[←Bool.not_eq_true];intro h3;simp only[bY,Bool.and_eq_true,decide_eq_true_eq] at h3;refine h ?_;rw[←h3.2,List.getD_eq_getElem?_getD,List.getElem?_map,hp];rfl
theorem wL {f:Cd}(h1:∀p∈f.parts,ip f.parts.length p.fin=true) (h2:∀(i:Nat) (p:Pt),f.parts[i]?=some p→((i:Int)∈ord (aE f)∧bP (aE f) i f.parts.length=p.pred)∧(i=0→p.pred=[])) (hne:f.parts≠[]):bY f=true:=by
 have h0:0<f.parts.length:=List.length_pos_iff.2 hne;simp only[bY,Bool.and_eq_true,List.all_eq_true,decide_eq_true_eq,List.mem_range]
 refine⟨⟨h1,λi hi=>?_⟩,?_⟩
 ·have hp:f.parts[i]?=some f.parts[i]:=List.getElem?_eq_getElem hi
  have:=(h2 i _ hp).1
  refine⟨this.1,this.2.trans ?_⟩
  rw[List.getD_eq_getElem?_getD,List.getElem?_map,hp];rfl
 ·have hp:f.parts[0]?=some f.parts[0]:=List.getElem?_eq_getElem h0
  rw[List.getD_eq_getElem?_getD,List.getElem?_map,hp]
  exact(h2 0 _ hp).2 rfl
theorem p7 {f:Cd}{i:Nat}{p:Pt}(hp:f.parts[i]?=some p):(aE f).getD i []=cE p.fin:=by
 rw[aE,List.getD_eq_getElem?_getD,List.getElem?_map,hp];rfl
theorem fM (f:Cd) (i:Nat):((aE f).getD i []).length≤2:=by
 rw[aE,List.getD_eq_getElem?_getD,List.getElem?_map]
 cases f.parts[i]? with
 |none=>simp
 |some p=>exact He p.fin
set_option maxHeartbeats 4000000 in
theorem x60 (H:List HO) (f:Cd) (nc:Nat) (hf:Sized f) (hf1:f.parts≠[]) (h8:f.parts.length≤8192) (hnc:H[nc]?=some (.var 1 [sl ptC f.parts,.int .i64 f.values,.nil,.nil] 0)) :
  ∃r,(∃v H',r=(v,H')∧(∀i,i<H.length→H'[i]?=H[i]?)∧(if bY f=true then v=.inil else lV H' v 1))∧FF 60 [.ptr (.g nc) 1 0] H=some r:=by
 have hSm:=gu hf;have hncl:=(List.getElem?_eq_some_iff.1 hnc).1;have hsne:aE f≠[]:=by simpa[aE] using hf1
 obtain⟨H1,hH1⟩:∃H1,H1=H++[HO.arr 1 1 (dM f.parts.length [.nil]) 0]:=⟨_,rfl⟩;have hmk:∀L,mkX true 320 1 24 [.nil] (.int .i64 f.parts.length) (.int .i64 f.parts.length) ⟨L,H⟩=some (.ref (.g H.length) 1 0 f.parts.length,⟨L,H1⟩):=λL=>by
  have:=wd (j:=320) (sz:=1) (b:=24) (z:=[.nil]) (k:=.i64) (n:=f.parts.length) (m:=⟨L,H⟩) rfl (by omega) (by omega);rw[this,hH1]
 have hR0:RInv (H.length+1) f.parts.length H.length H1 H1 (dM f.parts.length [.nil]) (λ(x:Nat)=>bP (aE f) x 0):=by
  refine⟨by rw[hH1];simp,by omega,by rw[hH1];simp,sA,λx hx=>.inl ⟨sB _ _ hx,rfl⟩,λx y k gn gn' l l' h=>?_,λi _ _=>rfl⟩
  rcases Nat.lt_or_ge x f.parts.length with hx|hx
  ·rw[sB _ _ hx] at h;cases h
  ·rw[List.getElem?_eq_none (by rw[sA];exact hx)] at h;cases h
 have hold:∀{H2 cs g},RInv (H.length+1) f.parts.length H.length H1 H2 cs g→∀i,i<H.length→H2[i]?=H[i]?:=λ{H2 cs g} h i hi=>by
  rw[h.old i (by omega) (by omega),hH1,List.getElem?_append_left hi]
 have hfp:∀{H2 cs g},RInv (H.length+1) f.parts.length H.length H1 H2 cs g→∀L,ld1 ⟨L,H2⟩ (.ptr (.g nc) 1 0)=some (sl ptC f.parts):=λ{H2 cs g} h L=>by
  rw[ce,hold h nc hncl];simp only[hnc,cw];rfl
 have hfp0:∀L,ld1 ⟨L,H⟩ (.ptr (.g nc) 1 0)=some (sl ptC f.parts):=λL=>by rw[ce];simp only[hnc,cw];rfl
 have hfp1:=hfp hR0;have bad:∀{H2 cs g},RInv (H.length+1) f.parts.length H.length H1 H2 cs g→∀i:Int,bY f=false→∃v H',(CV.iface 152 (.ptr (.g H2.length) 1 0)=v∧H2++[HO.var 1 [.int .i64 i,.int .i64 1] 0]=H')∧(∀i,i<H.length→H'[i]?=H[i]?)∧(if bY f=true then v=.inil else lV H' v 1):=λ{H2 cs g} h i hw=>by
  refine⟨_,_,⟨rfl,rfl⟩,λj hj=>?_,?_⟩
  ·have:=h.len
   rw[List.getElem?_append_left (by omega)];exact hold h j hj
  ·rw[hw,if_neg (by decide)]
   exact⟨_,i,rfl,by simp⟩
 have hsetL:∀(L:List (Nat×HO)) (H:List HO) j o,bi ⟨L,H⟩ j o=⟨cF L j o,H⟩:=λ_ _ _ _=>rfl;have hpl:=hf.parts;refine bA rfl Try.func60 s60 (Nat.le_of_ble_eq_true rfl) (λQ hqr hqn=>?_);rw[show ∀a,cin (An.pure 60) a=a from λ_=>rfl];simp only[aO,Nat.reduceAdd,c60]
 repeat' (first
 |with_reducible (first|refine ai ?_|refine aj (id:=0) (λQ0 hn0 hx0 hr0 ho0=>?_))
 |(with_reducible (refine ah (λK hK=>?_);(first|refine t60r0 ?_|refine t60r1 ?_|refine t60r2 ?_));(try simp only[SS,Nat.reduceEqDiff,lenS,b7,hfp0,hfp1,aP,hmk]))
 |(with_reducible refine hK _ ?_;clear hK K))
 refine aU (λk s=>∃(d t:List Pt) (L:List (Nat×HO)) (H2:List HO) (cs:List CV),f.parts=d++t∧k=t.length∧(∀p∈d,ip f.parts.length p.fin=true)∧RInv (H.length+1) f.parts.length H.length H1 H2 cs (λ(x:Nat)=>bP (aE f) x d.length) ∧
  s=⟨[(0,.ptr (.g nc) 1 0),(3,.ref (.g H.length) 1 0 f.parts.length),(25,sl ptC f.parts),(26,.int .i64 f.parts.length),(27,.int .i64 d.length)],⟨L,H2⟩⟩) _ ⟨[],f.parts,_,_,_,rfl,rfl,by simp,hR0,rfl⟩ ?_
 rintro k s ⟨d,t,L,H2,cs,h3,rfl,hd,hR,rfl⟩ QL1 hnL1 hxL1 hrL1;have hlen:=congrArg List.length h3;simp only[List.length_append] at hlen;simp only[c60l1]
 cases t with
 |nil=>
  simp only[List.length_nil] at hlen;rw[List.append_nil] at h3;have hfpR:=hfp hR;have hldR:∀L,ldA 2 ⟨L,H2⟩ (.ptr (.g nc) 1 0)=some (.agg (aZ f)):=λL=>by rw[kL,hold hR nc hncl];simp only[hnc,gi];rfl
  obtain⟨_,⟨H5,rfl⟩,hsu⟩:=x66 f hf.parts;obtain⟨H6,hre⟩:=x84 (aE f) hSm (fo (aE f)) (IsRows.of _);rw[←h3] at hd;have hRn:RInv (H.length+1) f.parts.length H.length H1 H2 cs (λ(x:Nat)=>bP (aE f) x f.parts.length):=by rw[←h3] at hR;exact hR
  repeat' (first
  |with_reducible (first|refine ax rfl ?_|refine aN ?_|refine hx0 _ ?_|refine hxL1 _ _ ?_)
  |(with_reducible (refine ah (λK hK=>?_);(first|refine qb ?_|refine t60r17 ?_));(try simp only[SS,Nat.reduceEqDiff,b7,hldR]))
  |(revert hK;intro hK;(first|refine And.intro ?_ ?_|intro _|omega|(with_reducible refine hK _ ?_;clear hK K))))
  refine gX hsu rfl (by simp only[cans,aC,codeE.can]) rfl (by simp only[noGs,noG,codeE.noG,Bool.and_self]) ij rfl λv1 m1 hO1 hm1 hf1'=>?_;obtain⟨m2,e1,e2,e3,_⟩:=hO1.seen.esc1 dE;have hrl:(bO (aE f)).length=f.parts.length:=by simp[bO,aE]
  have hpos:0<f.parts.length:=List.length_pos_iff.2 hf1;have hre':FF 84 [fo (aE f)] []=some (eA bS 1 (bO (aE f)),H6):=by
   rw[hre,eA,if_neg (by intro h;rw[h] at hrl;simp at hrl;omega)];rfl
  refine rC hre' rfl (dh e1) (by simp only[cans,jQ]) (by simp only[noGs,kV ij,Bool.and_self]) jk rfl λv2 m3 hO2 hm3 hf2=>?_;have hm3':m3.H=H2:=by rcases hm3 with h|h<;>rw[h];exact hm1;rw[e2];exact hm1
  obtain⟨gn,hv2,hl2⟩:∃gn,v2=.ref (.l 1664) gn 0 f.parts.length∧aK m3.L 1664=some (.arr gn 1 ((bO (aE f)).flatMap bS) 0):=by
   rcases hO2 with⟨h,_⟩|⟨_,g,h1,h2⟩
   ·rw[h] at hrl;simp at hrl;omega
   ·exact⟨g,by rw[h1,hrl],h2⟩
  obtain⟨L3,H3⟩:=m3;simp only at hm3';subst hm3';subst hv2;refine hK _ ?_;clear hK K
  repeat' (first
  |with_reducible (first|refine ai ?_|refine aj (id:=4) (λQ4 hn4 hx4 hr4 ho4=>?_))
  |(with_reducible (refine ah (λK hK=>?_);refine t60r18 ?_);(try simp only[SS,Nat.reduceEqDiff,lenS,b7,hfpR,aP]))
  |(with_reducible refine hK _ ?_;clear hK K))
  refine aU (λk s=>∃(d2 t2:List Pt) (L:List (Nat×HO)),f.parts=d2++t2∧k=t2.length∧(∀(i:Nat) (p:Pt),d2[i]?=some p→((i:Int)∈ord (aE f)∧bP (aE f) i f.parts.length=p.pred)∧(i=0→p.pred=[]))∧aK L 1664=some (.arr gn 1 ((bO (aE f)).flatMap bS) 0) ∧
   s=⟨[(3,.ref (.g H.length) 1 0 f.parts.length),(11,.ref (.l 1664) gn 0 f.parts.length),(109,sl ptC f.parts),(110,.int .i64 f.parts.length),(111,.int .i64 d2.length)],⟨L,H3⟩⟩) _ ⟨[],f.parts,_,rfl,rfl,λi p h=>by simp at h,hl2,rfl⟩ ?_
  rintro k s ⟨d2,t2,L,h4,rfl,hd2,hL,rfl⟩ QL2 hnL2 hxL2 hrL2;have hlen2:=congrArg List.length h4;simp only[List.length_append] at hlen2;simp only[c60l2]
  cases t2 with
  |nil=>
   simp only[List.length_nil] at hlen2;rw[List.append_nil] at h4
   repeat' (first
   |with_reducible (first|refine ax rfl ?_|refine aN ?_|refine aF ?_|refine hx4 _ ?_|refine hxL2 _ _ ?_)
   |(with_reducible (first|(refine ah (λK hK=>?_);(first|refine lQ ?_|refine t60r24 ?_))|refine hqr _ ?_);(try simp only[SS,Nat.reduceEqDiff,r60,aQ,ak,aD,am,lI]))
   |(revert hK;intro hK;(first|refine And.intro ?_ ?_|intro _|omega|(with_reducible refine hK _ ?_;clear hK K))))
   refine⟨_,_,⟨rfl,rfl⟩,hold hR,?_⟩
   rw[←h4] at hd2;rw[if_pos (wL hd hd2 hf1)]
  |cons p t2=>
   simp only[List.length_cons] at hlen2;have hpi:f.parts[d2.length]?=some p:=by rw[h4];simp
   have hwd:IntKind.i64.wrap ((d2.length:Int)+1)=d2.length+1:=wI (by omega) (by omega);have hre1:(bO (aE f))[d2.length]?=some (decide ((d2.length:Int)∈ord (aE f))):=by
    rw[bO,List.getElem?_map,List.getElem?_range (by rw[fb];omega)];rfl
   have hre2:bd 1 (.ref (.l 1664) gn 0 f.parts.length) (.int .i64 d2.length)=some (.ptr (.l 1664) gn d2.length):=by
    rw[bD,if_pos ⟨by omega,by omega⟩];simp
   have hre3:((bO (aE f)).flatMap bS)[d2.length]?=some (.bool (decide ((d2.length:Int)∈ord (aE f)))):=by rw[fI,hre1];rfl
   obtain⟨vr,hvr,hrg⟩:=hRn.get (x:=d2.length) (by omega);have hxi:=hRn.idx (x:=(d2.length:Int)) (by omega) (by omega);rw[Int.toNat_natCast] at hxi;have hxl:=λL=>hRn.ld hvr (L:=L);have hpbl:=fm (fM f) (d2.length:Int) f.parts.length;have hEq:=x88 H3 vr (sl aX p.pred) _ p.pred (.inr hrg) (.inl rfl) (by omega);have hEqc:∀L,aB An FF 60 (some 128) 88 [vr,sl aX p.pred] ⟨L,H3⟩=some (.bool (decide (bP (aE f) d2.length f.parts.length=p.pred)),⟨L,H3⟩):=λL=>by
    rw[cf rfl (by simp only[List.all_cons,List.all_nil,RdI.esc (.inr hrg),dQ escP_sl,Bool.and_self]) hEq];rfl
   have hnext:(((d2.length:Int)∈ord (aE f))∧bP (aE f) d2.length f.parts.length=p.pred)→(d2.length=0→p.pred=[])→∀L',aK L' 1664=some (.arr gn 1 ((bO (aE f)).flatMap bS) 0)→QL2 .normal ⟨[(3,.ref (.g H.length) 1 0 f.parts.length),(11,.ref (.l 1664) gn 0 f.parts.length),(109,sl ptC f.parts),(110,.int .i64 f.parts.length),(111,.int .i64 (d2.length+1))],⟨L',H3⟩⟩:=λh1 h2 L' hL'=>by
    rw[show((d2.length:Int)+1)=((d2++[p]).length:Int) by simp];refine hnL2 t2.length _ (by simp) ⟨d2++[p],t2,L',by simp[h4],rfl,λi q hq=>?_,hL',rfl⟩
    by_cases hi:i<d2.length
    ·rw[List.getElem?_append_left hi] at hq
     exact hd2 i q hq
    ·have:i=d2.length:=by have:=(List.getElem?_eq_some_iff.1 hq).1;simp at this;omega
     subst this;simp at hq;subst hq
     exact⟨h1,h2⟩
   by_cases hb1:(d2.length:Int)∈ord (aE f)
   ·rw[decide_eq_true hb1] at hre3
    by_cases hb2:bP (aE f) d2.length f.parts.length=p.pred
    ·rw[decide_eq_true hb2] at hEqc
     by_cases hb3:d2.length=0
     ·have hb3':decide (((d2.length:Nat):Int)=0)=true:=decide_eq_true (by omega)
      cases hp:p.pred with
      |nil=>
       have hl0:¬(0:Int)<((p.pred.length:Nat):Int):=by rw[hp];simp
       repeat' (first
       |with_reducible (first|refine ar ?_|refine au rfl ?_|refine bn rfl ?_|refine bx ?_|refine aj (id:=5) (λQ5 hn5 hx5 hr5 ho5=>?_)|refine hn5 _ ?_)
       |(with_reducible ((first|refine ah (λK hK=>?_)|refine aI (λK hK=>?_));(first|refine lQ ?_|refine oK ?_|refine oL ?_|refine Fj ?_));(try simp only[SS,Nat.reduceEqDiff,ap,Nat.reduceAdd,bM,bq,Bool.not_true,lenS,ay,aM ptE.len (by omega) h4,ct,ptC,hsetL,hL,hre2,hre3,hxi,hxl,hEqc,hb3',hl0,aP,hwd]))
       |(revert hK;intro hK;(first|refine And.intro ?_ ?_|intro _|omega|(with_reducible refine hK _ ?_;clear hK K))))
       exact hnext ⟨hb1,hb2⟩ (λ_=>hp) _ (by simp[aq,hL])
      |cons z zs=>
       have hl0:(0:Int)<((p.pred.length:Nat):Int):=by rw[hp];simp
       repeat' (first
       |with_reducible (first|refine ar ?_|refine au rfl ?_|refine bc rfl ?_|refine aF ?_|refine hr4 _ ?_|refine aj (id:=5) (λQ5 hn5 hx5 hr5 ho5=>?_)|refine hr5 _ ?_|refine hrL2 _ ?_)
       |(with_reducible (first|(refine ah (λK hK=>?_);(first|refine lQ ?_|refine oK ?_|refine oL ?_|refine uz ?_))|refine hqr _ ?_);(try simp only[SS,Nat.reduceEqDiff,ap,Nat.reduceAdd,bM,bq,Bool.not_true,lenS,bg,ay,Nat.reduceLeDiff,r60,aQ,ak,aD,am,aM ptE.len (by omega) h4,ct,ptC,hsetL,hL,hre2,hre3,hxi,hxl,hEqc,hb3',hl0,aP,er,e7,cP]))
       |(revert hK;intro hK;(first|refine And.intro ?_ ?_|intro _|omega|(with_reducible refine hK _ ?_;clear hK K))))
       exact bad hR _ (oS (by rw[←hb3];exact hpi) (by rw[hp];simp))
     ·have hb3':¬((d2.length:Nat):Int)=0:=by omega
      repeat' (first
      |with_reducible (first|refine ar ?_|refine au rfl ?_|refine bn rfl ?_|refine bx ?_|refine aj (id:=5) (λQ5 hn5 hx5 hr5 ho5=>?_)|refine hn5 _ ?_)
      |(with_reducible ((first|refine ah (λK hK=>?_)|refine aI (λK hK=>?_));(first|refine lQ ?_|refine oK ?_|refine oL ?_|refine Fj ?_));(try simp only[SS,Nat.reduceEqDiff,ap,Nat.reduceAdd,bM,bq,Bool.not_true,lenS,ay,aM ptE.len (by omega) h4,ct,ptC,hsetL,hL,hre2,hre3,hxi,hxl,hEqc,hb3',hwd]))
      |(revert hK;intro hK;(first|refine And.intro ?_ ?_|intro _|omega|(with_reducible refine hK _ ?_;clear hK K))))
      exact hnext ⟨hb1,hb2⟩ (λh=>absurd h hb3) _ (by simp[aq,hL])
    ·rw[decide_eq_false hb2] at hEqc
     repeat' (first
     |with_reducible (first|refine ar ?_|refine au rfl ?_|refine bc rfl ?_|refine aF ?_|refine hr4 _ ?_|refine aj (id:=5) (λQ5 hn5 hx5 hr5 ho5=>?_)|refine hr5 _ ?_|refine hrL2 _ ?_)
     |(with_reducible (first|(refine ah (λK hK=>?_);(first|refine lQ ?_|refine oK ?_|refine oL ?_|refine uz ?_))|refine hqr _ ?_);(try simp only[SS,Nat.reduceEqDiff,ap,Nat.reduceAdd,bM,bI,Bool.not_true,Bool.not_false,lenS,bg,ay,Nat.reduceLeDiff,r60,aQ,ak,aD,am,aM ptE.len (by omega) h4,ct,ptC,hsetL,hL,hre2,hre3,hxi,hxl,hEqc,er,e7,cP]))
     |(revert hK;intro hK;(first|refine And.intro ?_ ?_|intro _|omega|(with_reducible refine hK _ ?_;clear hK K))))
     exact bad hR _ (jB hpi λh=>hb2 h.2)
   ·rw[decide_eq_false hb1] at hre3
    repeat' (first
    |with_reducible (first|refine ar ?_|refine au rfl ?_|refine bc rfl ?_|refine aF ?_|refine hr4 _ ?_|refine aj (id:=5) (λQ5 hn5 hx5 hr5 ho5=>?_)|refine hr5 _ ?_|refine hrL2 _ ?_)
    |(with_reducible (first|(refine ah (λK hK=>?_);(first|refine lQ ?_|refine oK ?_|refine oL ?_|refine uz ?_))|refine hqr _ ?_);(try simp only[SS,Nat.reduceEqDiff,ap,Nat.reduceAdd,bM,bI,Bool.not_false,lenS,bg,ay,Nat.reduceLeDiff,r60,aQ,ak,aD,am,aM ptE.len (by omega) h4,ct,ptC,hsetL,hL,hre2,hre3,er,e7,cP]))
    |(revert hK;intro hK;(first|refine And.intro ?_ ?_|intro _|omega|(with_reducible refine hK _ ?_;clear hK K))))
    exact bad hR _ (jB hpi λh=>hb1 h.1)
 |cons p t=>
  simp only[List.length_cons] at hlen;have hpi:f.parts[d.length]?=some p:=by rw[h3];simp
  have hpm:p∈f.parts:=List.mem_of_getElem? hpi;have hwd:IntKind.i64.wrap ((d.length:Int)+1)=d.length+1:=wI (by omega) (by omega);have hsg:=p7 hpi;obtain⟨_,⟨xb,H7,rfl⟩,hC⟩:=x86 p.fin.cond;have hC:∀m,aB An FF 60 (some 37) 86 [.int .i64 p.fin.cond,.int .u64 0,.int .u64 0,.bool true] m=some (.tuple [.bool xb,.bool (cL p.fin.cond)],m):=λm=>
   cr hC (λ_ _ _=>rfl) rfl rfl rfl rfl rfl
  have hb:=λ(h:p.fin.op<1∨3<p.fin.op∨(p.fin.op=2∧(cL p.fin.cond=false∨p.fin.to=p.fin.els)))=>bad hR d.length (gS hpm (pI h));have hgo:p.fin.op<1∨3<p.fin.op∨(p.fin.op=2∧(cL p.fin.cond=false∨p.fin.to=p.fin.els))∨(¬p.fin.op<1∧¬3<p.fin.op∧(p.fin.op=2→cL p.fin.cond=true∧¬p.fin.to=p.fin.els)):=by
   by_cases h1:p.fin.op<1
   ·exact .inl h1
   ·by_cases h2:3<p.fin.op
    ·exact .inr (.inl h2)
    ·by_cases h3:p.fin.op=2→cL p.fin.cond=true∧¬p.fin.to=p.fin.els
     ·exact .inr (.inr (.inr ⟨h1,h2,h3⟩))
     ·right;right;left
      cases hcb:cL p.fin.cond
      ·by_cases h4:p.fin.op=2
       ·exact⟨h4,.inl rfl⟩
       ·exact absurd (λh=>absurd h h4) h3
      ·rw[hcb] at h3
       by_cases h4:p.fin.op=2
       ·by_cases h5:p.fin.to=p.fin.els
        ·exact⟨h4,.inr h5⟩
        ·exact absurd (λ_=>⟨rfl,h5⟩) h3
       ·exact absurd (λh=>absurd h h4) h3
  rcases hgo with h1|h1|⟨h1,h2⟩|⟨h1,h2,h2'⟩
  ·have hb:=hb (.inl h1)
   repeat' (first
   |with_reducible (first|refine ai ?_|refine ar ?_|refine au rfl ?_|refine b6 ?_|refine hr0 _ ?_|refine aj (id:=1) (λQ1 hn1 hx1 hr1 ho1=>?_)|refine hr1 _ ?_|refine hrL1 _ ?_)
   |(with_reducible (first|(refine ah (λK hK=>?_);(first|refine qb ?_|refine sZ ?_|refine ta ?_|refine tc ?_|refine JX ?_|refine wC ?_))|refine hqr _ ?_);(try simp only[SS,Nat.reduceEqDiff,ap,bv,eE,Nat.reduceAdd,bq,bI,fE,jj,bg,ay,Nat.reduceLeDiff,r60,aQ,ak,aD,am,aM ptE.len (by omega) h3,ct,ptC,hsetL,cV,hC,h1,er,e7,cP]))
   |(revert hK;intro hK;(first|refine And.intro ?_ ?_|intro _|omega|(with_reducible refine hK _ ?_;clear hK K))))
   exact hb
  ·have hb:=hb (.inr (.inl h1))
   have h0:¬p.fin.op<1:=by omega
   repeat' (first
   |with_reducible (first|refine ai ?_|refine ar ?_|refine au rfl ?_|refine b6 ?_|refine hr0 _ ?_|refine aj (id:=1) (λQ1 hn1 hx1 hr1 ho1=>?_)|refine hr1 _ ?_|refine hrL1 _ ?_)
   |(with_reducible (first|(refine ah (λK hK=>?_);(first|refine qb ?_|refine sZ ?_|refine ta ?_|refine tc ?_|refine JX ?_|refine wC ?_))|refine hqr _ ?_);(try simp only[SS,Nat.reduceEqDiff,ap,bv,eE,Nat.reduceAdd,bq,bI,fE,jj,bg,ay,Nat.reduceLeDiff,r60,aQ,ak,aD,am,aM ptE.len (by omega) h3,ct,ptC,hsetL,cV,hC,h0,h1,er,e7,cP]))
   |(revert hK;intro hK;(first|refine And.intro ?_ ?_|intro _|omega|(with_reducible refine hK _ ?_;clear hK K))))
   exact hb
  ·have hb:=hb (.inr (.inr ⟨h1,h2⟩))
   cases hcb:cL p.fin.cond with
   |false=>
    rw[hcb] at hC
    repeat' (first
    |with_reducible (first|refine ai ?_|refine ar ?_|refine au rfl ?_|refine b6 ?_|refine hr0 _ ?_|refine aj (id:=1) (λQ1 hn1 hx1 hr1 ho1=>?_)|refine hr1 _ ?_|refine hrL1 _ ?_)
    |(with_reducible (first|(refine ah (λK hK=>?_);(first|refine qb ?_|refine sZ ?_|refine ta ?_|refine tc ?_|refine JX ?_|refine wC ?_))|refine hqr _ ?_);(try simp only[SS,Nat.reduceEqDiff,ap,bv,eE,Nat.reduceAdd,bq,bI,Bool.not_false,bg,ay,Nat.reduceLeDiff,r60,aQ,ak,aD,am,aM ptE.len (by omega) h3,ct,ptC,hsetL,cV,hC,h1,er,e7,cP]))
    |(revert hK;intro hK;(first|refine And.intro ?_ ?_|intro _|omega|(with_reducible refine hK _ ?_;clear hK K))))
    exact hb
   |true=>
    rw[hcb] at hC h2;have h2:p.fin.to=p.fin.els:=by rcases h2 with h|h;cases h;exact h
    repeat' (first
    |with_reducible (first|refine ai ?_|refine ar ?_|refine au rfl ?_|refine b6 ?_|refine hr0 _ ?_|refine aj (id:=1) (λQ1 hn1 hx1 hr1 ho1=>?_)|refine hr1 _ ?_|refine hrL1 _ ?_)
    |(with_reducible (first|(refine ah (λK hK=>?_);(first|refine qb ?_|refine sZ ?_|refine ta ?_|refine tc ?_|refine JX ?_|refine wC ?_))|refine hqr _ ?_);(try simp only[SS,Nat.reduceEqDiff,ap,bv,eE,Nat.reduceAdd,bq,bI,Bool.not_true,bg,ay,Nat.reduceLeDiff,r60,aQ,ak,aD,am,aM ptE.len (by omega) h3,ct,ptC,hsetL,cV,hC,h1,h2,er,e7,cP]))
    |(revert hK;intro hK;(first|refine And.intro ?_ ?_|intro _|omega|(with_reducible refine hK _ ?_;clear hK K))))
    exact hb
  ·have hnx:=He p.fin
   have h456:((p.fin.op=2)=True∧cL p.fin.cond=true∧¬p.fin.to=p.fin.els)∨(¬p.fin.op=2∧¬p.fin.op=2∧¬p.fin.op=2):=by
    by_cases h4:p.fin.op=2
    ·exact .inl ⟨eq_true h4,h2' h4⟩
    ·exact .inr ⟨h4,h4,h4⟩
   rcases h456 with⟨h4,h5,h6⟩|⟨h4,h5,h6⟩
   all_goals
    repeat' (first
    |with_reducible (first|refine ai ?_|refine ar ?_|refine au rfl ?_|refine ax rfl ?_|refine aj (id:=1) (λQ1 hn1 hx1 hr1 ho1=>?_))
    |(with_reducible (refine ah (λK hK=>?_);(first|refine qb ?_|refine sZ ?_|refine ta ?_|refine tc ?_|refine JX ?_|refine t60r9 ?_));(try simp only[SS,Nat.reduceEqDiff,ap,bv,eE,Nat.reduceAdd,bq,bI,fE,jj,Bool.not_true,lenS,ay,aM ptE.len (by omega) h3,ct,ptC,hsetL,cV,hC,h1,h2,h4,h5,h6]))
    |(revert hK;intro hK;(first|refine And.intro ?_ ?_|intro _|omega|(with_reducible refine hK _ ?_;clear hK K))))
    refine k87 p.fin rfl λv1 m1 hO1 hm1 hf1'=>?_;obtain⟨L1,H5⟩:=m1;simp only at hm1;subst hm1;simp only[hO1.seen.len,aJ];refine hK _ ?_;clear hK K
    repeat' (first
    |with_reducible refine bl (id:=2) (λQ2 hn2 hx2 hr2 ho2=>?_))
    refine aU (λk s=>∃(d2 t2:List Int) (L:List (Nat×HO)) (H5:List HO) (cs5:List CV),cE p.fin=d2++t2∧k=t2.length∧(∀y∈d2,0≤y∧y<(f.parts.length:Int))∧OwnV aX 1 ⟨L,H5⟩ 1104 v1 (cE p.fin) ∧
     RInv (H.length+1) f.parts.length H.length H1 H5 cs5 (λ(x:Nat)=>bP (aE f) x d.length++(d2.filter λy=>decide (y=(x:Int))).map λ_=>(d.length:Int)) ∧
     s=⟨[(0,.ptr (.g nc) 1 0),(3,.ref (.g H.length) 1 0 f.parts.length),(4,.int .i64 d.length),(25,sl ptC f.parts),(26,.int .i64 f.parts.length),(27,.int .i64 d.length),(69,v1),(70,.int .i64 (cE p.fin).length),(71,.int .i64 d2.length)],⟨L,H5⟩⟩) _ ⟨[],cE p.fin,_,_,cs,rfl,rfl,by simp,hO1.seen,by simpa using hR,rfl⟩ ?_
    rintro k s ⟨d2,t2,L2,H5,cs5,h7,rfl,hd2,hO2,hR2,rfl⟩ QL0 hnL0 hxL0 hrL0;have hlen2:=congrArg List.length h7;simp only[List.length_append] at hlen2;simp only[c60l0]
    cases t2 with
    |nil=>
     simp only[List.length_nil] at hlen2;rw[List.append_nil] at h7
     repeat' (first
     |with_reducible (first|refine ax rfl ?_|refine aN ?_|refine hn1 _ ?_|refine hx2 _ ?_|refine hxL0 _ _ ?_)
     |(with_reducible ((first|refine ah (λK hK=>?_)|refine aI (λK hK=>?_));(first|refine rf ?_|refine t60r16 ?_));(try simp only[SS,Nat.reduceEqDiff,hwd]))
     |(revert hK;intro hK;(first|refine And.intro ?_ ?_|intro _|omega|(with_reducible refine hK _ ?_;clear hK K))))
     rw[show((d.length:Int)+1)=((d++[p]).length:Int) by simp];refine hnL1 t.length _ (by simp) ⟨d++[p],t,L2,H5,cs5,by simp[h3],rfl,λq hq=>?_,?_,rfl⟩
     ·rcases List.mem_append.1 hq with hq|hq
      ·exact hd q hq
      ·simp only[List.mem_singleton] at hq
       subst hq;exact nF h1 h2 h2' (by rw[h7];exact hd2)
     ·rw[List.length_append,List.length_singleton]
      have:(λ(x:Nat)=>bP (aE f) x (d.length+1))=λ(x:Nat)=>bP (aE f) x d.length++(d2.filter λy=>decide (y=(x:Int))).map λ_=>(d.length:Int):=by
       funext x
       rw[ie,hsg,h7]
      rw[this];exact hR2
    |cons y t2=>
     simp only[List.length_cons] at hlen2;have hyi:(cE p.fin)[d2.length]?=some y:=by rw[h7];simp
     have hym:y∈cE p.fin:=List.mem_of_getElem? hyi;have hw2:IntKind.i64.wrap ((d2.length:Int)+1)=d2.length+1:=wI (by omega) (by omega);obtain⟨pt,hp1,hp2⟩:=hO2.idx1 hyi
     by_cases h8:y<0
     ·have hb:=bad hR2 d.length (gS hpm (jo hym (by omega)))
      repeat' (first
      |with_reducible (first|refine ai ?_|refine ar ?_|refine au rfl ?_|refine b6 ?_|refine hr0 _ ?_|refine hr1 _ ?_|refine hr2 _ ?_|refine aj (id:=3) (λQ3 hn3 hx3 hr3 ho3=>?_)|refine hr3 _ ?_|refine hrL0 _ ?_|refine hrL1 _ ?_)
      |(with_reducible (first|(refine ah (λK hK=>?_);(first|refine rf ?_|refine ux ?_|refine uy ?_|refine Fi ?_))|refine hqr _ ?_);(try simp only[SS,Nat.reduceEqDiff,ap,Nat.reduceAdd,lenS,bg,ay,Nat.reduceLeDiff,r60,aQ,ak,aD,am,hp1,hp2,h8,er,e7,cP]))
      |(revert hK;intro hK;(first|refine And.intro ?_ ?_|intro _|omega|(with_reducible refine hK _ ?_;clear hK K))))
      exact hb
     ·by_cases h9:y<(f.parts.length:Int)
      ·have h9':¬((f.parts.length:Nat):Int)≤y:=by omega
       obtain⟨vr,hvr,hrg⟩:=hR2.get (x:=y.toNat) (by omega);have hxi:=hR2.idx (x:=y) (by omega) (by omega);have hxl:=λL=>hR2.ld hvr (L:=L);have hpbl:=fm (fM f) ((y.toNat:Nat):Int) d.length;have hfl:=List.length_filter_le (λz=>decide (z=((y.toNat:Nat):Int))) d2
       repeat' (first
       |with_reducible (first|refine ai ?_|refine ar ?_|refine au rfl ?_|refine ax rfl ?_|refine aj (id:=3) (λQ3 hn3 hx3 hr3 ho3=>?_))
       |(with_reducible ((first|refine ah (λK hK=>?_)|refine aI (λK hK=>?_));(first|refine rf ?_|refine ux ?_|refine uy ?_|refine t60r14 ?_));(try simp only[SS,Nat.reduceEqDiff,lenS,gG,hp1,hp2,h8,h9,h9',hxi,hxl,hsetL]))
       |(revert hK;intro hK;(first|refine And.intro ?_ ?_|intro _|omega|(with_reducible refine hK _ ?_;clear hK K))))
       obtain⟨w,H6,H7,cs',e1,e2,hR3⟩:=hR2.step (x:=y.toNat) (by omega) hvr (d.length:Int) (gt:=bj L2 1504) (j:=1520) (jt:=1504) (L:=cF L2 1504 (HO.arr (bj L2 1504) 1 [CV.int IntKind.i64 ↑d.length] 0)) (by rw[aq,if_pos rfl]) (by simp only[List.length_append,List.length_map];omega);rw[e1,aJ];simp only[e2,aJ];refine hK _ ?_;clear hK K
       repeat' (first
       |with_reducible refine hn3 _ ?_
       |(with_reducible (refine aI (λK hK=>?_);refine t60r15 ?_);(try simp only[SS,Nat.reduceEqDiff,hw2]))
       |(with_reducible refine hK _ ?_;clear hK K))
       rw[show((d2.length:Int)+1)=((d2++[y]).length:Int) by simp];refine hnL0 t2.length _ (by simp) ⟨d2++[y],t2,_,H7,cs',by simp[h7],rfl,λz hz=>?_,hO2.keep ?_,?_,rfl⟩
       ·rcases List.mem_append.1 hz with hz|hz
        ·exact hd2 z hz
        ·simp only[List.mem_singleton] at hz
         subst hz
         exact⟨by omega,h9⟩
       ·rw[aq,if_neg (by decide)]
       ·have:(λ(x:Nat)=>bP (aE f) x d.length++((d2++[y]).filter λz=>decide (z=(x:Int))).map λ_=>(d.length:Int)) =
          λx=>if x=y.toNat then (bP (aE f) (y.toNat:Nat) d.length++(d2.filter λz=>decide (z=((y.toNat:Nat):Int))).map λ_=>(d.length:Int))++[(d.length:Int)] else bP (aE f) x d.length++(d2.filter λz=>decide (z=(x:Int))).map λ_=>(d.length:Int):=by
         funext x
         have hy:((y.toNat:Nat):Int)=y:=by omega
         split
         ·rename_i hx
          subst hx;rw[List.filter_append,List.map_append,←List.append_assoc];simp[hy]
         ·rename_i hx
          rw[List.filter_append,List.map_append];have:¬y=(x:Int):=by omega
          simp[this]
        rw[this];exact hR3
      ·have hb:=bad hR2 d.length (gS hpm (jo hym (by omega)))
       have h9':((f.parts.length:Nat):Int)≤y:=by omega
       repeat' (first
       |with_reducible (first|refine ai ?_|refine ar ?_|refine au rfl ?_|refine b6 ?_|refine hr0 _ ?_|refine hr1 _ ?_|refine hr2 _ ?_|refine aj (id:=3) (λQ3 hn3 hx3 hr3 ho3=>?_)|refine hr3 _ ?_|refine hrL0 _ ?_|refine hrL1 _ ?_)
       |(with_reducible (first|(refine ah (λK hK=>?_);(first|refine rf ?_|refine ux ?_|refine uy ?_|refine Fi ?_))|refine hqr _ ?_);(try simp only[SS,Nat.reduceEqDiff,ap,Nat.reduceAdd,lenS,bg,ay,Nat.reduceLeDiff,r60,aQ,ak,aD,am,hp1,hp2,h8,h9,h9',er,e7,cP]))
       |(revert hK;intro hK;(first|refine And.intro ?_ ?_|intro _|omega|(with_reducible refine hK _ ?_;clear hK K))))
       exact hb
end Go.Cm
