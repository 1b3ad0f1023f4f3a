import Derived.Test.YtijcpefcfcbcnaaIcA
import Derived.Test.YtijcpefcfcbcnaaIzDr
set_option linter.unusedSimpArgs false
set_option linter.unusedVariables false
namespace Go.Cm
open Go.Proofs Go.Ir Go.Gr
theorem rowC_ne {α:Type}{e:α→List CV}{l:List α}(h:l≠[]):rowC e l=sl e l:=by
 cases l with
 |nil=>exact absurd rfl h
 |cons a l=>rfl
theorem tab_row {g:List (List Int)}{x:Int}(h0:0≤x) (h1:x<g.length):(kl g)[x.toNat]?=some (km g x):=by
 rw[kl,List.getElem?_map,List.getElem?_range (by omega)]
 simp only[Option.map_some,Int.toNat_of_nonneg h0]
theorem FU {g:List (List Int)}{a x:Int}(h0:0≤x) (h1:x<g.length):(km g a)[x.toNat]?=some (mz g a x):=by
 rw[km,List.getElem?_map,List.getElem?_range (by omega)]
 simp only[Option.map_some,Int.toNat_of_nonneg h0]
structure REnv (f:Cd) (l:List (Option (Int×Int))) (vs:CV) (nc np:Nat) (H:List HO):Prop where
 ctx:H[nc]?=some (.var 1 [sl ptC f.parts,.int .i64 f.values,.ref (.g np) 1 0 l.length,vs,rowC gq (kl (aE f))] 0)
 pls:H[np]?=some (.arr 1 3 (l.flatMap p3C) 0)
 rng:∀ (i:Nat) (x:Int×Int),l[i]?=some (some x)→0≤x.1∧x.1<f.parts.length
theorem x104 (f:Cd) (l:List (Option (Int×Int))) (vs:CV) (nc np:Nat) (H:List HO) (hE:REnv f l vs nc np H) (part at_:Int) (hpart:part ∈ ord (aE f)) (id:Int) :
  FF 104 [.ptr (.g nc) 1 0,.int .i64 id,.int .i64 part,.int .i64 at_] H=some (.bool (bu (aE f) l part at_ id),H):=by
 have hfl:∀ L,ld1 ⟨L,H⟩ (.ptr (.g nc) 1 2)=some (.ref (.g np) 1 0 l.length):=fun L=>by rw[ce];simp only[hE.ctx,cw];rfl
 have hfu:∀ L,ld1 ⟨L,H⟩ (.ptr (.g nc) 1 4)=some (rowC gq (kl (aE f))):=fun L=>by rw[ce];simp only[hE.ctx,cw];rfl
 have hsetL:∀ L j o,bi ⟨L,H⟩ j o=⟨cF L j o,H⟩:=fun _ _ _=>rfl
 have hpr:=((cu _ part).1 hpart).range
 by_cases h0:id<0
 ·have hb:bu (aE f) l part at_ id=false:=by unfold bu;rw[if_neg (by omega)]
  refine aL rfl Try.func104 xC (Nat.le_of_ble_eq_true rfl) (fun Q hqr hqn=>?_)
  rw[show ∀ a,cin (An.pure 104) a=a from fun _=>rfl]
  simp only[aO,Nat.reduceAdd,tw]
  repeat' (first
  |with_reducible (first|refine ai ?_|refine au rfl ?_|refine be ?_)
  |(with_reducible (first|(refine ah (fun K hK=>?_);(first|refine lM ?_|refine lN ?_|refine uk ?_))|refine hqr _ ?_);(try simp only[SS,Nat.reduceEqDiff,lenS,xz,aQ,ak,aD,am,h0]))
  |(revert hK;intro hK;(with_reducible refine hK _ ?_;clear hK K)))
  rw[hb]
 by_cases h1:(l.length:Int)≤id
 ·have hb:bu (aE f) l part at_ id=false:=by unfold bu;rw[if_pos (by omega),List.getElem?_eq_none (by omega)]
  refine aL rfl Try.func104 xC (Nat.le_of_ble_eq_true rfl) (fun Q hqr hqn=>?_)
  rw[show ∀ a,cin (An.pure 104) a=a from fun _=>rfl]
  simp only[aO,Nat.reduceAdd,tw]
  repeat' (first
  |with_reducible (first|refine ai ?_|refine au rfl ?_|refine be ?_)
  |(with_reducible (first|(refine ah (fun K hK=>?_);(first|refine lM ?_|refine lN ?_|refine uk ?_))|refine hqr _ ?_);(try simp only[SS,Nat.reduceEqDiff,lenS,dy,bD,xz,aQ,ak,aD,am,h0,b7,hfl,h1]))
  |(revert hK;intro hK;(with_reducible refine hK _ ?_;clear hK K)))
  rw[hb]
 obtain⟨q,hq⟩:∃ q,l[id.toNat]?=some q:=⟨_,List.getElem?_eq_getElem (by omega)⟩
 obtain⟨i1,i2,i3⟩:=p3_at hE.pls (by omega) hq
 cases q with
 |none=>
  have hb:bu (aE f) l part at_ id=false:=by unfold bu;rw[if_pos (by omega),hq]
  simp only[Option.isSome] at i3
  refine aL rfl Try.func104 xC (Nat.le_of_ble_eq_true rfl) (fun Q hqr hqn=>?_)
  rw[show ∀ a,cin (An.pure 104) a=a from fun _=>rfl]
  simp only[aO,Nat.reduceAdd,tw]
  repeat' (first
  |with_reducible (first|refine ai ?_|refine au rfl ?_|refine be ?_)
  |(with_reducible (first|(refine ah (fun K hK=>?_);(first|refine lM ?_|refine lN ?_|refine uk ?_))|refine hqr _ ?_);(try simp only[SS,Nat.reduceEqDiff,Bool.not_false,lenS,xz,aQ,ak,aD,am,Nat.add_zero,h0,b7,hfl,h1,i1,i3]))
  |(revert hK;intro hK;(with_reducible refine hK _ ?_;clear hK K)))
  rw[hb]
 |some x=>
  simp only[Option.isSome] at i3
  obtain⟨hx0,hx1⟩:=hE.rng _ _ hq
  simp only[p3C] at i2
  have hab:bu (aE f) l part at_ id=if x.1=part then decide (x.2<at_) else mz (aE f) x.1 part:=by unfold bu;rw[if_pos (by omega),hq];rfl
  by_cases hxp:x.1=part
  ·rw[if_pos hxp] at hab
   by_cases hxa:x.2<at_
   ·refine aL rfl Try.func104 xC (Nat.le_of_ble_eq_true rfl) (fun Q hqr hqn=>?_)
    rw[show ∀ a,cin (An.pure 104) a=a from fun _=>rfl]
    simp only[aO,Nat.reduceAdd,tw]
    repeat' (first
    |with_reducible (first|refine ai ?_|refine ar ?_|refine au rfl ?_|refine ax rfl ?_|refine be ?_)
    |(with_reducible (first|(refine ah (fun K hK=>?_);(first|refine lM ?_|refine lN ?_|refine un ?_|refine uo ?_|refine Ev ?_))|refine hqr _ ?_);(try simp only[SS,Nat.reduceEqDiff,ap,Nat.reduceAdd,Bool.not_true,lenS,ay,xz,aQ,ak,aD,am,Nat.add_zero,h0,b7,hsetL,hfl,h1,i1,i2,i3,hxp,hxa]))
    |(revert hK;intro hK;(with_reducible refine hK _ ?_;clear hK K)))
    rw[hab,decide_eq_true hxa]
   ·have hxa':at_≤x.2:=by omega
    refine aL rfl Try.func104 xC (Nat.le_of_ble_eq_true rfl) (fun Q hqr hqn=>?_)
    rw[show ∀ a,cin (An.pure 104) a=a from fun _=>rfl]
    simp only[aO,Nat.reduceAdd,tw]
    repeat' (first
    |with_reducible (first|refine ai ?_|refine ar ?_|refine au rfl ?_|refine ax rfl ?_|refine be ?_)
    |(with_reducible (first|(refine ah (fun K hK=>?_);(first|refine lM ?_|refine lN ?_|refine un ?_|refine uo ?_|refine Ev ?_))|refine hqr _ ?_);(try simp only[SS,Nat.reduceEqDiff,ap,Nat.reduceAdd,Bool.not_true,lenS,ay,xz,aQ,ak,aD,am,Nat.add_zero,h0,b7,hsetL,hfl,h1,i1,i2,i3,hxp,hxa]))
    |(revert hK;intro hK;(with_reducible refine hK _ ?_;clear hK K)))
    rw[hab,decide_eq_false hxa]
  ·rw[if_neg hxp] at hab
   have hne:kl (aE f)≠[]:=by
    intro h
    have:=congrArg List.length h
    simp[kl] at this
    rw[this] at hpr
    simp at hpr;omega
   have hsl:(aE f).length=f.parts.length:=fb f
   have hu1:=hY (k:=.i64) (sz:=1) jy (by omega) hx0 (tab_row (g:=aE f) hx0 (by omega))
   have hu2:=hY (k:=.i64) (e:=bS) (sz:=1) (fun _=>rfl) (by omega) hpr.1 (FU (g:=aE f) (a:=x.1) hpr.1 hpr.2)
   rw[rowC_ne hne] at hfu
   refine aL rfl Try.func104 xC (Nat.le_of_ble_eq_true rfl) (fun Q hqr hqn=>?_)
   rw[show ∀ a,cin (An.pure 104) a=a from fun _=>rfl]
   simp only[aO,Nat.reduceAdd,tw]
   repeat' (first
   |with_reducible (first|refine ai ?_|refine ar ?_|refine ax rfl ?_|refine aF ?_)
   |(with_reducible (first|(refine ah (fun K hK=>?_);(first|refine lM ?_|refine lN ?_|refine un ?_|refine uo ?_|refine t104r6 ?_))|refine hqr _ ?_);(try simp only[SS,Nat.reduceEqDiff,ap,Nat.reduceAdd,dw,Bool.not_true,lenS,ay,xz,aQ,ak,aD,am,Nat.add_zero,h0,b7,hsetL,hfl,hfu,h1,i1,i2,i3,hxp,hu1,hu2,gq,bS]))
   |(revert hK;intro hK;(with_reducible refine hK _ ?_;clear hK K)))
   rw[hab]
theorem x76 (f:Cd) (l:List (Option (Int×Int))) (vs:CV) (nc np:Nat) (H:List HO) (hE:REnv f l vs nc np H) (part at_:Int) (hpart:part ∈ ord (aE f)) (va:CV) (ids:List Int) (hva:RdI H va ids) (hil:ids.length≤17592186044416) :
  FF 76 [.ptr (.g nc) 1 0,va,.int .i64 part,.int .i64 at_] H=some (.bool (ids.all (bu (aE f) l part at_)),H):=by
 have hA:∀ (L:List (Nat×HO)) id,aB An FF 76 (some 23) 104 [.ptr (.g nc) 1 0,.int .i64 id,.int .i64 part,.int .i64 at_] ⟨L,H⟩=some (.bool (bu (aE f) l part at_ id),⟨L,H⟩):=fun L id=>by
  rw[cf rfl rfl (x104 f l vs nc np H hE part at_ hpart id)];rfl
 refine aL rfl Try.func76 s76 (Nat.le_of_ble_eq_true rfl) (fun Q hqr hqn=>?_)
 rw[show ∀ a,cin (An.pure 76) a=a from fun _=>rfl]
 simp only[aO,Nat.reduceAdd,c76]
 repeat' (first
 |with_reducible (first|refine ai ?_|refine aj (id:=0) (fun Q0 hn0 hx0 hr0 ho0=>?_))
 |(with_reducible (refine ah (fun K hK=>?_);(first|refine t76r0 ?_|refine t76r1 ?_));(try simp only[SS,Nat.reduceEqDiff]))
 |(revert hK;intro hK;(with_reducible refine hK _ ?_;clear hK K)))
 refine aU (fun k s=>∃ (d t:List Int) (L:List (Nat×HO)),ids=d++t∧k=t.length∧d.all (bu (aE f) l part at_)=true ∧
  s=⟨[(0,.ptr (.g nc) 1 0),(1,va),(2,.int .i64 part),(3,.int .i64 at_),(9,.int .i64 d.length)],⟨L,H⟩⟩) _ ⟨[],ids,_,rfl,rfl,rfl,rfl⟩ ?_
 rintro k s ⟨d,t,L,h3,rfl,hd,rfl⟩ QL0 hnL0 hxL0 hrL0
 have hlen:=congrArg List.length h3
 simp only[List.length_append] at hlen
 simp only[c76l0]
 cases t with
 |nil=>
  simp only[List.length_nil] at hlen
  rw[List.append_nil] at h3
  repeat' (first
  |with_reducible (first|refine ai ?_|refine ax rfl ?_|refine aN ?_|refine aF ?_|refine hx0 _ ?_|refine hxL0 _ _ ?_)
  |(with_reducible (first|(refine ah (fun K hK=>?_);(first|refine FC ?_|refine t76r6 ?_))|refine hqr _ ?_);(try simp only[SS,Nat.reduceEqDiff,lenS,r76,aQ,ak,aD,am,hva.len]))
  |(revert hK;intro hK;(first|refine And.intro ?_ ?_|intro _|omega|(with_reducible refine hK _ ?_;clear hK K))))
  rw[h3,hd]
 |cons id t=>
  simp only[List.length_cons] at hlen
  have hidl:ids[d.length]?=some id:=by rw[h3];simp
  obtain⟨p,hp1,hp2⟩:=hva.at hidl (k:=.i64)
  have hw:IntKind.i64.wrap ((d.length:Int)+1)=d.length+1:=wI (by omega) (by omega)
  have hA:=fun L=>hA L id
  cases ha:bu (aE f) l part at_ id with
  |true=>
   simp only[ha] at hA
   repeat' (first
   |with_reducible (first|refine ai ?_|refine ar ?_|refine au rfl ?_|refine bn rfl ?_|refine bx ?_|refine aj (id:=1) (fun Q1 hn1 hx1 hr1 ho1=>?_)|refine hn1 _ ?_)
   |(with_reducible ((first|refine ah (fun K hK=>?_)|refine aI (fun K hK=>?_));(first|refine FC ?_|refine t76r4 ?_|refine t76r3 ?_));(try simp only[SS,Nat.reduceEqDiff,Bool.not_true,lenS,hva.len,hp1,hp2,hA,hw]))
   |(revert hK;intro hK;(first|refine And.intro ?_ ?_|intro _|omega|(with_reducible refine hK _ ?_;clear hK K))))
   exact hnL0 t.length _ (by simp) ⟨d++[id],t,L,by simp[h3],rfl,by simp[hd,ha],by simp⟩
  |false=>
   simp only[ha] at hA
   repeat' (first
   |with_reducible (first|refine ai ?_|refine ar ?_|refine au rfl ?_|refine bc rfl ?_|refine aF ?_|refine hr0 _ ?_|refine aj (id:=1) (fun Q1 hn1 hx1 hr1 ho1=>?_)|refine hr1 _ ?_|refine hrL0 _ ?_)
   |(with_reducible (first|(refine ah (fun K hK=>?_);(first|refine FC ?_|refine t76r4 ?_|refine t76r5 ?_))|refine hqr _ ?_);(try simp only[SS,Nat.reduceEqDiff,Bool.not_false,lenS,r76,aQ,ak,aD,am,hva.len,hp1,hp2,hA,hw]))
   |(revert hK;intro hK;(first|refine And.intro ?_ ?_|intro _|omega|(with_reducible refine hK _ ?_;clear hK K))))
   have:ids.all (bu (aE f) l part at_)=false:=by rw[h3];simp[ha]
   rw[this]
theorem EscI.arr {m:Mem}{j g vl:Nat}{l:List Int}(h:aK m.L j=some (.arr g 1 (l.flatMap aX) vl)):EscI m j (.ref (.l j) g 0 l.length) l:=by
 refine⟨sl aX l,bi m j (.arr g 1 (l.flatMap aX) (max vl (l.length*1))),?_,fun H=>.inl rfl,rfl,fun i hi=>by rw[ba,if_neg (Ne.symm hi)]⟩
 simp only[iC,esc,h,if_true,List.drop_zero,HO.seen,Nat.zero_add]
 rw[List.take_of_length_le (by rw[bC dB];exact Nat.le_refl _)]
 rfl
theorem k30 (n:Nd) (hl:n.args.length≤17592186044416) {fid:FuncId}{d:Tmp}{m:Mem}{K:CV×Mem→Prop}(hgl:(An.glob fid).contains d=false)
  (hK:∀ v m',EscI m' (16*d) v (eF n)→m'.H=m.H→(∀ i,i≠16*d→aK m'.L i=aK m.L i)→K (v,m')):Obt (aB An FF fid (some d) 30 [.agg (ndC n)] m) K:=by
 have hF:=x30 n hl
 by_cases h7:n.op=7
 ·have hu:eF n=n.args:=by unfold eF;rw[if_neg (by omega),if_neg (by omega),if_pos h7]
  rw[lm,if_pos h7] at hF
  rw[hu] at hK
  rw[ek hF rfl (by simp only[cans,aC,ndE.can]) rfl (by simp only[noGs,noG,ndE.noG,Bool.and_self]) (iT fY _),fO hgl,aJ]
  refine hK _ _ (EscI.arr (g:=bj m.L (16*d)) (vl:=0) (by rw[ba,if_pos rfl])) rfl fun i hi=>by rw[ba,if_neg (Ne.symm hi)]
 ·rw[lm,if_neg h7] at hF
  exact gX hF rfl (by simp only[cans,aC,ndE.can]) rfl (by simp only[noGs,noG,ndE.noG,Bool.and_self]) fY hgl fun v m' h1 h2 h3=>hK v m' h1.seen.escI h2 h3
theorem k29 (e:Tm) {fid:FuncId}{d:Tmp}{m:Mem}{K:CV×Mem→Prop}(hgl:(An.glob fid).contains d=false)
  (hK:∀ v m',EscI m' (16*d) v (jC e)→m'.H=m.H→(∀ i,i≠16*d→aK m'.L i=aK m.L i)→K (v,m')):Obt (aB An FF fid (some d) 29 [.agg (tmC e)] m) K:=
 gX (x29 e) rfl (by simp only[cans,aC,tmE.can]) rfl rfl fY hgl fun v m' h1 h2 h3=>hK v m' h1.seen.escI h2 h3
theorem k76 (f:Cd) (l:List (Option (Int×Int))) (vs:CV) (nc np:Nat) (m:Mem) (hE:REnv f l vs nc np m.H) (part at_:Int) (hpart:part ∈ ord (aE f)) (v:CV) (j:Nat) (ids:List Int) (hv:EscI m j v ids) (hil:ids.length≤17592186044416) {fid:FuncId}{d:Tmp}{K:CV×Mem→Prop}
  (hK:∀ m',m'.H=m.H→(∀ i,i≠j→aK m'.L i=aK m.L i)→K (.bool (ids.all (bu (aE f) l part at_)),m')):Obt (aB An FF fid (some d) 76 [.ptr (.g nc) 1 0,v,.int .i64 part,.int .i64 at_] m) K:=by
 obtain⟨x,m1,h1,h2,h3,h4⟩:=hv
 have hF:=x76 f l vs nc np m1.H (by rw[h3];exact hE) part at_ hpart x ids (h2 _) hil
 have hx:bp m [.ptr (.g nc) 1 0,v,.int .i64 part,.int .i64 at_]=some ([.ptr (.g nc) 1 0,x,.int .i64 part,.int .i64 at_],m1):=
  ed (a:=[.ptr (.g nc) 1 0]) (cn (m:=m) rfl) (jI (post:=[.int .i64 part,.int .i64 at_]) rfl h1)
 rw[m9 rfl hx hF,aJ,eY]
 exact hK _ h3 h4
end Go.Cm
namespace Go.Cm
open Go.Proofs Go.Ir Go.Gr
theorem Et {l:List Int}{j:Nat}{a:Int}(ha:l[j]?=some a) (m:Mem):sJ 1 (sl aX l) (some (.int .i64 j)) (some (.int .i64 ((j:Int)+1))) none m=some (sl aX [a]):=by
 have hj:=(List.getElem?_eq_some_iff.1 ha).1
 have h1:((j:Int)+1).toNat=j+1:=by omega
 have hb:fp l.length (some (.int .i64 j)) (some (.int .i64 ((j:Int)+1)))=some (j,j+1):=by
  simp only[fp,eH,Int.natCast_nonneg,if_true,Int.toNat_natCast,h1,if_pos (show(0:Int)≤(j:Int)+1 by omega)]
  rw[if_pos ⟨by omega,by omega⟩]
 have hcl:cK (.imm l.length (l.flatMap aX))=some l.length:=rfl
 simp only[sJ,qN,sl,hcl,hb]
 have:=(hJ (e:=aX) (sz:=1) dB ha).1
 rw[show j+1 - j=1 by omega,Nat.one_mul,this]
 rfl
set_option maxHeartbeats 2000000 in
theorem x50 (f:Cd) (l:List (Option (Int×Int))) (vs:CV) (nc np:Nat) (H:List HO) (hE:REnv f l vs nc np H) (hf:Sized f) (hw:bY f=true) (d t:List Pt) (p:Pt) (h3:f.parts=d++p::t) :
  FF 50 [.ptr (.g nc) 1 0,.int .i64 d.length] H=some (.bool (eg (aE f) l d.length p),H):=by
 have hfp:∀ L,ld1 ⟨L,H⟩ (.ptr (.g nc) 1 0)=some (sl ptC f.parts):=fun L=>by rw[ce];simp only[hE.ctx,cw];rfl
 have hsetL:∀ (L:List (Nat×HO)) (H:List HO) j o,bi ⟨L,H⟩ j o=⟨cF L j o,H⟩:=fun _ _ _ _=>rfl
 have hlen:=congrArg List.length h3
 simp only[List.length_append,List.length_cons] at hlen
 have hpi:f.parts[d.length]?=some p:=by rw[h3];simp
 have hpm:p ∈ f.parts:=List.mem_of_getElem? hpi
 obtain⟨hphl,hphs⟩:=hf.phis p hpm
 obtain⟨hndl,hnds⟩:=hf.nodes p hpm
 have hprl:=hf.pred p hpm
 have hfl:=hf.parts
 have hdo:(d.length:Int) ∈ ord (aE f):=kY hw (by omega)
 have hAll:∀ (L:List (Nat×HO)) (a part:Int),part ∈ ord (aE f)→aB An FF 50 (some 58) 76 [.ptr (.g nc) 1 0,sl aX [a],.int .i64 part,.int .i64 1073741824] ⟨L,H⟩=some (.bool (bu (aE f) l part eD a),⟨L,H⟩):=fun L a part hp=>by
  have:=x76 f l vs nc np H hE part 1073741824 hp (sl aX [a]) [a] (.inl rfl) (by simp)
  simp only[List.all_cons,List.all_nil,Bool.and_true] at this
  rw[cf rfl rfl this];rfl
 refine aL rfl Try.func50 s50 (Nat.le_of_ble_eq_true rfl) (fun Q hqr hqn=>?_)
 rw[show ∀ a,cin (An.pure 50) a=a from fun _=>rfl]
 simp only[aO,Nat.reduceAdd,c50]
 repeat' (first
 |with_reducible (first|refine ai ?_|refine aj (id:=0) (fun Q0 hn0 hx0 hr0 ho0=>?_))
 |(with_reducible (refine ah (fun K hK=>?_);(first|refine t50r0 ?_|refine t50r1 ?_|refine t50r2 ?_));(try simp only[SS,Nat.reduceEqDiff,ap,Nat.reduceAdd,ay,b7,hfp,aP,aM ptE.len (by omega) h3,ct,ptC,hsetL]))
 |(revert hK;intro hK;(with_reducible refine hK _ ?_;clear hK K)))
 obtain⟨g5,hg5⟩:∃ g,bj [] 80=g:=⟨_,rfl⟩
 rw[hg5]
 refine aU (fun k s=>∃ (d1 t1:List Ph) (L:List (Nat×HO)),p.phis=d1++t1∧k=t1.length∧(∀ x ∈ d1,fl (aE f) l p x=true)∧aK L 80=some (.var g5 (ptC p) 0) ∧
  s=⟨[(0,.ptr (.g nc) 1 0),(1,.int .i64 d.length),(5,.ptr (.l 80) g5 0),(6,.int .i64 d1.length)],⟨L,H⟩⟩) _ ⟨[],p.phis,_,rfl,rfl,by simp,by simp[aq,ptC],rfl⟩ ?_
 rintro k s ⟨d1,t1,L1,h4,rfl,hd1,hL1,rfl⟩ QL1 hnL1 hxL1 hrL1
 have hlen1:=congrArg List.length h4
 simp only[List.length_append] at hlen1
 simp only[c50l1]
 cases t1 with
 |nil=>
  simp only[List.length_nil] at hlen1
  rw[List.append_nil] at h4
  have hph:p.phis.all (fl (aE f) l p)=true:=by rw[h4,List.all_eq_true];exact hd1
  repeat' (first
  |with_reducible (first|refine ai ?_|refine ax rfl ?_|refine aN ?_|refine hx0 _ ?_|refine aj (id:=4) (fun Q4 hn4 hx4 hr4 ho4=>?_)|refine hxL1 _ _ ?_)
  |(with_reducible (refine ah (fun K hK=>?_);(first|refine Fe ?_|refine t50r12 ?_));(try simp only[SS,Nat.reduceEqDiff,lenS,hL1,ptC,aP]))
  |(revert hK;intro hK;(first|refine And.intro ?_ ?_|intro _|omega|(with_reducible refine hK _ ?_;clear hK K))))
  refine aU (fun k s=>∃ (d2 t2:List Nd) (L:List (Nat×HO)),p.nodes=d2++t2∧k=t2.length∧(∀ i,i<d2.length→jD (aE f) l d.length p i=true)∧aK L 80=some (.var g5 (ptC p) 0) ∧
   s=⟨[(0,.ptr (.g nc) 1 0),(1,.int .i64 d.length),(5,.ptr (.l 80) g5 0),(8,.int .i64 d2.length)],⟨L,H⟩⟩) _ ⟨[],p.nodes,_,rfl,rfl,fun i h=>by simp at h,hL1,rfl⟩ ?_
  rintro k s ⟨d2,t2,L2,h5,rfl,hd2,hL2,rfl⟩ QL2 hnL2 hxL2 hrL2
  have hlen2:=congrArg List.length h5
  simp only[List.length_append] at hlen2
  simp only[c50l2]
  cases t2 with
  |nil=>
   simp only[List.length_nil] at hlen2
   have hnd:(List.range p.nodes.length).all (jD (aE f) l d.length p)=true:=dZ fun i hi=>hd2 i (by omega)
   have hpk:eg (aE f) l d.length p=(jC p.fin).all (bu (aE f) l d.length eD):=by rw[ep,hph,hnd];simp
   repeat' (first
   |with_reducible (first|refine ai ?_|refine ax rfl ?_|refine aN ?_|refine hx4 _ ?_|refine hxL2 _ _ ?_)
   |(with_reducible (refine ah (fun K hK=>?_);(first|refine Fd ?_|refine t50r17 ?_));(try simp only[SS,Nat.reduceEqDiff,Nat.reduceAdd,lenS,hL2,ptC,aP]))
   |(revert hK;intro hK;(first|refine And.intro ?_ ?_|intro _|omega|(with_reducible refine hK _ ?_;clear hK K))))
   refine k29 p.fin rfl fun v3 m3 hv3 hH3 hf3=>?_
   refine k76 f l vs nc np m3 (by rw[hH3];exact hE) d.length 1073741824 hdo v3 _ (jC p.fin) hv3 (by have:=rM p.fin;omega) fun m4 hH4 hf4=>?_
   obtain⟨L4,H4⟩:=m4
   simp only[hH3] at hH4
   subst hH4
   rw[show(1073741824:Int)=eD from rfl,←hpk]
   refine hK _ ?_
   clear hK K
   repeat' (first
   |with_reducible refine aF ?_
   |(with_reducible refine hqr _ ?_;(try simp only[SS,r50,aQ,ak,aD,am])))
  |cons x t2=>
   simp only[List.length_cons] at hlen2
   have hxi:p.nodes[d2.length]?=some x:=by rw[h5];simp
   have hxa:=(hnds x (List.mem_of_getElem? hxi)).1
   have hw2:IntKind.i64.wrap ((d2.length:Int)+1)=((d2.length+1:Nat):Int):=by rw[wI (by omega) (by omega)];rfl
   have hul':(eF x).length≤17592186044416:=th x hxa
   have hnk:jD (aE f) l d.length p d2.length=(eF x).all (bu (aE f) l d.length ((d2.length+1:Nat):Int)):=by unfold jD;rw[hxi]
   repeat' (first
   |with_reducible (first|refine ai ?_|refine ar ?_|refine au rfl ?_|refine aj (id:=5) (fun Q5 hn5 hx5 hr5 ho5=>?_))
   |(with_reducible (refine ah (fun K hK=>?_);(first|refine Fd ?_|refine t50r15 ?_));(try simp only[SS,Nat.reduceEqDiff,lenS,hL2,ptC,aP,aM ndE.len (by omega) h5,eR,ndC,hw2]))
   |(revert hK;intro hK;(first|refine And.intro ?_ ?_|intro _|omega|(with_reducible refine hK _ ?_;clear hK K))))
   refine k30 x hxa rfl fun v3 m3 hv3 hH3 hf3=>?_
   refine k76 f l vs nc np m3 (by rw[hH3];exact hE) d.length ((d2.length+1:Nat):Int) hdo v3 _ (eF x) hv3 hul' fun m4 hH4 hf4=>?_
   have h80:aK m4.L 80=some (.var g5 (ptC p) 0):=by rw[hf4 80 (by decide),hf3 80 (by decide)];exact hL2
   obtain⟨L4,H4⟩:=m4
   simp only[hH3] at hH4
   subst hH4
   rw[←hnk]
   cases hpo:jD (aE f) l d.length p d2.length with
   |false=>
    simp only[fc,Bool.not_false]
    refine hK _ ?_
    clear hK K
    repeat' (first
    |with_reducible (first|refine bc rfl ?_|refine aF ?_|refine hr4 _ ?_|refine hr5 _ ?_|refine hrL2 _ ?_)
    |(with_reducible (first|(refine ah (fun K hK=>?_);refine t50r16 ?_)|refine hqr _ ?_);(try simp only[SS,r50,aQ,ak,aD,am]))
    |(revert hK;intro hK;(with_reducible refine hK _ ?_;clear hK K)))
    rw[ep,dO (k:=d2.length) (by omega) hpo];simp
   |true=>
    simp only[fc,Bool.not_true]
    refine hK _ ?_
    clear hK K
    repeat' (first
    |with_reducible (first|refine bn rfl ?_|refine bx ?_|refine hn5 _ ?_)
    |(with_reducible (refine aI (fun K hK=>?_);refine t50r14 ?_);(try simp only[SS,Nat.reduceEqDiff,hw2]))
    |(revert hK;intro hK;(with_reducible refine hK _ ?_;clear hK K)))
    rw[show((d2.length+1:Nat):Int)=((d2++[x]).length:Int) by simp]
    refine hnL2 t2.length _ (by simp) ⟨d2++[x],t2,L4,by simp[h5],rfl,fun i hi=>?_,h80,rfl⟩
    by_cases hi2:i<d2.length
    ·exact hd2 i hi2
    ·have:i=d2.length:=by simp at hi;omega
     rw[this];exact hpo
 |cons x t1=>
  simp only[List.length_cons] at hlen1
  have hxm:x ∈ p.phis:=by rw[h4];simp
  have hxs:=hphs x hxm
  have hw1:IntKind.i64.wrap ((d1.length:Int)+1)=d1.length+1:=wI (by omega) (by omega)
  have hbad:fl (aE f) l p x=false→eg (aE f) l d.length p=false:=fun h=>by
   rw[ep,List.all_eq_false.2 ⟨x,hxm,by rw[h];simp⟩];simp
  by_cases hxl:(x.src.length:Int)=p.pred.length
  ·have hxl':x.src.length=p.pred.length:=by omega
   repeat' (first
   |with_reducible (first|refine ai ?_|refine ar ?_|refine au rfl ?_|refine ax rfl ?_|refine aj (id:=1) (fun Q1 hn1 hx1 hr1 ho1=>?_)|refine bl (id:=2) (fun Q2 hn2 hx2 hr2 ho2=>?_))
   |(with_reducible (refine ah (fun K hK=>?_);(first|refine Fe ?_|refine t50r5 ?_|refine t50r7 ?_));(try simp only[SS,Nat.reduceEqDiff,bL,dw,br,lenS,hL1,ptC,aP,aM phE.len (by omega) h4,phC,hxl]))
   |(revert hK;intro hK;(first|refine And.intro ?_ ?_|intro _|omega|(with_reducible refine hK _ ?_;clear hK K))))
   refine aU (fun k s=>∃ (j:Nat) (L:List (Nat×HO)),j≤p.pred.length∧k=p.pred.length - j∧(∀ i,i<j→bu (aE f) l (p.pred.getD i 0) eD (x.src.getD i 0)=true)∧aK L 80=some (.var g5 (ptC p) 0) ∧
    s=⟨[(0,.ptr (.g nc) 1 0),(1,.int .i64 d.length),(5,.ptr (.l 80) g5 0),(6,.int .i64 d1.length),(7,.int .i64 j)],⟨L,H⟩⟩) _ ⟨0,_,Nat.zero_le _,rfl,fun i h=>by omega,hL1,rfl⟩ ?_
   rintro k s ⟨j,L2,hj,rfl,hjj,hL2,rfl⟩ QL0 hnL0 hxL0 hrL0
   simp only[c50l0]
   by_cases hjn:j=p.pred.length
   ·have hjn1:¬ (j:Int)<p.pred.length:=by omega
    have hok:fl (aE f) l p x=true:=by
     unfold fl
     rw[decide_eq_true hxl',Bool.true_and]
     exact dZ fun i hi=>hjj i (by omega)
    repeat' (first
    |with_reducible (first|refine ai ?_|refine ax rfl ?_|refine aN ?_|refine hn1 _ ?_|refine hx2 _ ?_|refine hxL0 _ _ ?_)
    |(with_reducible ((first|refine ah (fun K hK=>?_)|refine aI (fun K hK=>?_));(first|refine Ff ?_|refine t50r4 ?_));(try simp only[SS,Nat.reduceEqDiff,lenS,hL2,ptC,aP,hjn1,hw1]))
    |(revert hK;intro hK;(with_reducible refine hK _ ?_;clear hK K)))
    exact hnL1 t1.length _ (by simp) ⟨d1++[x],t1,L2,by simp[h4],rfl,fun y hy=>by
     rcases List.mem_append.1 hy with h|h
     ·exact hd1 y h
     ·rw[List.mem_singleton.1 h];exact hok,hL2,by simp⟩
   ·have hjlt:(j:Int)<p.pred.length:=by omega
    obtain⟨a,ha⟩:∃ a,x.src[j]?=some a:=⟨_,List.getElem?_eq_getElem (by omega)⟩
    obtain⟨b,hb⟩:∃ b,p.pred[j]?=some b:=⟨_,List.getElem?_eq_getElem (by omega)⟩
    have hbo:b ∈ ord (aE f):=oe hw hpi (List.mem_of_getElem? hb)
    have hA:=fun L=>hAll L a b hbo
    have hwj:IntKind.i64.wrap ((j:Int)+1)=(j:Int)+1:=wI (by omega) (by omega)
    obtain⟨q,hq1,hq2⟩:=(show RdI H (sl aX p.pred) p.pred from .inl rfl).at hb (k:=.i64)
    have hs1:=Et ha
    have hgb:p.pred.getD j 0=b:=by rw[List.getD_eq_getElem?_getD,hb];rfl
    have hga:x.src.getD j 0=a:=by rw[List.getD_eq_getElem?_getD,ha];rfl
    cases hab:bu (aE f) l b eD a with
    |true=>
     simp only[hab] at hA
     repeat' (first
     |with_reducible (first|refine ai ?_|refine ar ?_|refine au rfl ?_|refine bn rfl ?_|refine bx ?_|refine aj (id:=3) (fun Q3 hn3 hx3 hr3 ho3=>?_)|refine hn3 _ ?_)
     |(with_reducible ((first|refine ah (fun K hK=>?_)|refine aI (fun K hK=>?_));(first|refine Ff ?_|refine Fc ?_|refine t50r9 ?_));(try simp only[SS,Nat.reduceEqDiff,bL,dw,Bool.not_true,lenS,hL2,ptC,aP,aM phE.len (by omega) h4,phC,hjlt,hwj,hs1,hq1,hq2,hA]))
     |(revert hK;intro hK;(with_reducible refine hK _ ?_;clear hK K)))
     exact hnL0 (p.pred.length - (j+1)) _ (by omega) ⟨j+1,L2,by omega,rfl,fun i hi=>by
      by_cases hij:i<j
      ·exact hjj i hij
      ·have:i=j:=by omega
       rw[this,hgb,hga];exact hab,hL2,rfl⟩
    |false=>
     simp only[hab] at hA
     repeat' (first
     |with_reducible (first|refine ai ?_|refine ar ?_|refine au rfl ?_|refine bc rfl ?_|refine aF ?_|refine hr0 _ ?_|refine hr1 _ ?_|refine hr2 _ ?_|refine aj (id:=3) (fun Q3 hn3 hx3 hr3 ho3=>?_)|refine hr3 _ ?_|refine hrL0 _ ?_|refine hrL1 _ ?_)
     |(with_reducible (first|(refine ah (fun K hK=>?_);(first|refine Ff ?_|refine Fc ?_|refine t50r11 ?_))|refine hqr _ ?_);(try simp only[SS,Nat.reduceEqDiff,bL,dw,Bool.not_false,lenS,r50,aQ,ak,aD,am,hL2,ptC,aP,aM phE.len (by omega) h4,phC,hjlt,hwj,hs1,hq1,hq2,hA]))
     |(revert hK;intro hK;(with_reducible refine hK _ ?_;clear hK K)))
     rw[hbad]
     unfold fl
     rw[dO (k:=j) (by omega) (by rw[hgb,hga];exact hab),Bool.and_false]
  ·repeat' (first
   |with_reducible (first|refine ai ?_|refine ar ?_|refine au rfl ?_|refine be ?_|refine hr0 _ ?_|refine aj (id:=1) (fun Q1 hn1 hx1 hr1 ho1=>?_)|refine hr1 _ ?_|refine hrL1 _ ?_)
   |(with_reducible (first|(refine ah (fun K hK=>?_);(first|refine Fe ?_|refine t50r5 ?_|refine t50r6 ?_))|refine hqr _ ?_);(try simp only[SS,Nat.reduceEqDiff,bL,dw,br,lenS,r50,aQ,ak,aD,am,hL1,ptC,aP,aM phE.len (by omega) h4,phC,hxl]))
   |(revert hK;intro hK;(first|refine And.intro ?_ ?_|intro _|omega|(with_reducible refine hK _ ?_;clear hK K))))
   rw[hbad]
   unfold fl
   rw[decide_eq_false (by omega),Bool.false_and]
end Go.Cm
