import Derived.Test.YtijcpefcfcbcnaaIzE
import Derived.Test.YtijcpefcfcbcnaaIyG
set_option linter.unusedSimpArgs false
set_option linter.unusedVariables false
namespace Go.Cm
open Go.Proofs Go.Ir Go.Gr
theorem k47 (f:Cd) (hf:Sized f) (hf1:f.parts≠[]) (h8:f.parts.length≤8192) {v:CV}{m:Mem}{j:Nat}(hv:OwnV dV 1 m j v (aE f)) {fid:FuncId}{d:Tmp} :
  aB An FF fid (some d) 47 [.agg (aZ f),v] m=some (.bool (bY f),m):=by
 obtain⟨_,⟨H',rfl⟩,hF⟩:=x47 f hf hf1 h8;obtain⟨m1,h1,_⟩:=hv.esc1 dE;have hx:bp m [.agg (aZ f),v]=some ([.agg (aZ f),rowC dV (aE f)],m1):=kG (pre:=[.agg (aZ f)]) rfl h1;rw[na hF rfl hx (by simp only[cans,aC,codeE.can,jQ]) (by simp only[noGs,noG,codeE.noG,kV ij,Bool.and_self]) rfl];rfl
theorem box5 {m:Mem}{x0 x1 x2 v3 v1:CV}{j3 j1:Nat}{s:List (List Int)}{t:List (List Bool)}(hq:[x0,x1,x2].all eV=true) (h3:OwnV dV 1 m j3 v3 s) (h1:OwnV gq 1 m j1 v1 t) (hne:j1≠j3) {K:CV×Mem→Prop}
  (hK:∀L',(∀i,i≠j3→i≠j1→aK L' i=aK m.L i)→K (.ptr (.g m.H.length) 1 0,⟨L',m.H++[.var 1 [x0,x1,x2,rowC dV s,rowC gq t] 0]⟩)):Obt (iB (.agg [x0,x1,x2,v3,v1]) m) K:=by
 obtain⟨m1,a1,a2,a3,_⟩:=h3.esc1 dE;obtain⟨m2,b1,b2,b3,_⟩:=(h1.keep (m':=m1) (a3 j1 hne)).esc1 jy;have hx:bp m [x0,x1,x2,v3,v1]=some ([x0,x1,x2,rowC dV s,rowC gq t],m2):=
  ed (a:=[x0,x1,x2]) (cn (m:=m) hq) (ed (a:=[v3]) (dh a1) (dh b1))
 simp only[iB,ap,hx,Option.map_some,aJ];have:=hK m2.L λi hi hj=>by rw[b3 i hj,a3 i hi]
 rw[←a2,←b2] at this;exact this
theorem mw {f:Cd}{l:List (Option (Int×Int))}(h:∀(i:Nat) (p:Pt),f.parts[i]?=some p→eg (aE f) l (i:Int) p=true):ew f l=true:=by
 simp only[ew,List.all_eq_true,List.mem_range];intro i hi;have hp:f.parts[i]?=some f.parts[i]:=List.getElem?_eq_getElem hi;rw[hp];exact h i _ hp
theorem FY {f:Cd}{l:List (Option (Int×Int))}{i:Nat}{p:Pt}(hp:f.parts[i]?=some p) (h:eg (aE f) l (i:Int) p=false):ew f l=false:=by
 rw[←Bool.not_eq_true];intro h3;simp only[ew,List.all_eq_true,List.mem_range] at h3;have:=h3 i (List.getElem?_eq_some_iff.1 hp).1;rw[hp] at this;simp only at this;rw[h] at this;cases this
set_option maxHeartbeats 2000000 in
theorem x16 (f:Cd) (hf:Sized f):∃r,(∃H',r=(CV.int .i64 (if bG f=true then 0 else 160),H'))∧FF 16 [.agg (aZ f)] []=some r:=by
 by_cases h1:(f.parts.length:Int)<1
 ·have hc:bG f=false:=by unfold bG;rw[decide_eq_false (by omega:¬1≤f.parts.length)];rfl
  refine bA rfl Try.func16 s16 (Nat.le_of_ble_eq_true rfl) (λQ hqr hqn=>?_);rw[bf (show An.pure 16=true from rfl) (by simp only[cans,aG,az,aC,aH,codeE.can])];simp only[aO,Nat.reduceAdd,c16]
  repeat' (first
  |with_reducible (first|refine ai ?_|refine au rfl ?_|refine b6 ?_)
  |(with_reducible (first|(refine ah (λK hK=>?_);(first|refine sN ?_|refine sO ?_|refine wo ?_))|refine hqr _ ?_);(try simp only[SS,ap,bq,lenS,r16,aQ,ak,aD,am,bz,CV.int.injEq,aZ,aP,h1]))
  |(with_reducible refine hK _ ?_;clear hK K))
  rw[hc,if_neg (by decide)]
  exact⟨_,rfl,rfl⟩
 by_cases h2:(8192:Int)<f.parts.length
 ·have hc:bG f=false:=by unfold bG;rw[decide_eq_false (by omega:¬f.parts.length≤8192)];simp
  refine bA rfl Try.func16 s16 (Nat.le_of_ble_eq_true rfl) (λQ hqr hqn=>?_);rw[bf (show An.pure 16=true from rfl) (by simp only[cans,aG,az,aC,aH,codeE.can])];simp only[aO,Nat.reduceAdd,c16]
  repeat' (first
  |with_reducible (first|refine ai ?_|refine au rfl ?_|refine b6 ?_)
  |(with_reducible (first|(refine ah (λK hK=>?_);(first|refine sN ?_|refine sO ?_|refine wo ?_))|refine hqr _ ?_);(try simp only[SS,ap,bq,lenS,r16,aQ,ak,aD,am,bz,CV.int.injEq,aZ,aP,h1,h2]))
  |(with_reducible refine hK _ ?_;clear hK K))
  rw[hc,if_neg (by decide)]
  exact⟨_,rfl,rfl⟩
 by_cases h3:f.values<0
 ·have hc:bG f=false:=by unfold bG;rw[decide_eq_false (by omega:¬0≤f.values)];simp
  refine bA rfl Try.func16 s16 (Nat.le_of_ble_eq_true rfl) (λQ hqr hqn=>?_);rw[bf (show An.pure 16=true from rfl) (by simp only[cans,aG,az,aC,aH,codeE.can])];simp only[aO,Nat.reduceAdd,c16]
  repeat' (first
  |with_reducible (first|refine ai ?_|refine au rfl ?_|refine b6 ?_)
  |(with_reducible (first|(refine ah (λK hK=>?_);(first|refine sN ?_|refine sO ?_|refine wo ?_))|refine hqr _ ?_);(try simp only[SS,ap,bq,lenS,r16,aQ,ak,aD,am,bz,CV.int.injEq,aZ,aP,h1,h2,h3]))
  |(with_reducible refine hK _ ?_;clear hK K))
  rw[hc,if_neg (by decide)]
  exact⟨_,rfl,rfl⟩
 by_cases h4:65536<f.values
 ·have hc:bG f=false:=by unfold bG;rw[decide_eq_false (by omega:¬f.values≤65536)];simp
  refine bA rfl Try.func16 s16 (Nat.le_of_ble_eq_true rfl) (λQ hqr hqn=>?_);rw[bf (show An.pure 16=true from rfl) (by simp only[cans,aG,az,aC,aH,codeE.can])];simp only[aO,Nat.reduceAdd,c16]
  repeat' (first
  |with_reducible (first|refine ai ?_|refine au rfl ?_|refine b6 ?_)
  |(with_reducible (first|(refine ah (λK hK=>?_);(first|refine sN ?_|refine sO ?_|refine wo ?_))|refine hqr _ ?_);(try simp only[SS,ap,bq,lenS,r16,aQ,ak,aD,am,bz,CV.int.injEq,aZ,aP,h1,h2,h3,h4]))
  |(with_reducible refine hK _ ?_;clear hK K))
  rw[hc,if_neg (by decide)]
  exact⟨_,rfl,rfl⟩
 have hne:f.parts≠[]:=by rintro h;rw[h] at h1;simp at h1
 have hsne:aE f≠[]:=by simpa[aE] using hne
 have hSm:=gu hf;have hpl:=hf.parts;have hcode:bG f=(bY f&&match cq f with|some l=>ew f l|none=>false):=by
  unfold bG;rw[decide_eq_true (by omega:1≤f.parts.length),decide_eq_true (by omega:f.parts.length≤8192),decide_eq_true (by omega:0≤f.values),decide_eq_true (by omega:f.values≤65536)];rfl
 have hfa:∀(m:Mem) (g:Nat),aK m.L 16=some (.var g (aZ f) 0)→ldA 2 m (.ptr (.l 16) g 0)=some (.agg (aZ f)):=λm g h=>by rw[kM];simp only[h,gi];rfl
 obtain⟨_,⟨H5,rfl⟩,hsu⟩:=x46 f hf.parts;refine bA rfl Try.func16 s16 (Nat.le_of_ble_eq_true rfl) (λQ hqr hqn=>?_);rw[bf (show An.pure 16=true from rfl) (by simp only[cans,aG,az,aC,aH,codeE.can])];simp only[aO,Nat.reduceAdd,c16];rw[aZ]
 repeat' (first
 |with_reducible (first|refine ai ?_|refine ar ?_|refine ax rfl ?_)
 |(with_reducible (refine ah (λK hK=>?_);(first|refine sN ?_|refine sO ?_|refine t16r3 ?_));(try simp only[SS,Nat.reduceEqDiff,ap,Nat.reduceAdd,bq,lenS,aP,h1,h2,h3,h4]))
 |(with_reducible refine hK _ ?_;clear hK K))
 refine gX hsu rfl (by simp only[cans,aC,ptE.can_sl,aG];rfl) rfl (by simp only[noGs,noG,eo,ptE.noG_sl,Bool.and_self]) ij rfl λv3 m3 hO3 hH3 hf3=>?_;obtain⟨g,hg⟩:∃g,bj [] 16=g:=⟨_,rfl⟩;have hL3:aK m3.L 16=some (.var g (aZ f) 0):=by rw[hf3 16 (by decide),←hg];simp[bi,aq,aZ]
 rw[hg];obtain⟨L3,H3⟩:=m3;simp only[ik] at hH3;subst hH3;refine hK _ ?_;clear hK K;have hfa3:=hfa ⟨L3,[]⟩ g hL3;have hke:=k47 f hf hne (by omega) hO3.seen (fid:=16) (d:=32)
 cases hw:bY f with
 |false=>
  rw[hw] at hke
  repeat' (first
  |with_reducible (first|refine ai ?_|refine au rfl ?_|refine b6 ?_)
  |(with_reducible (first|(refine ah (λK hK=>?_);(first|refine ER ?_|refine t16r5 ?_))|refine hqr _ ?_);(try simp only[SS,Nat.reduceEqDiff,Bool.not_false,r16,aQ,ak,aD,am,bz,CV.int.injEq,hfa3,hke]))
  |(with_reducible refine hK _ ?_;clear hK K))
  rw[hcode,hw,Bool.false_and,if_neg (by decide)]
  exact⟨_,rfl,rfl⟩
 |true=>
  rw[hw] at hke;obtain⟨_,⟨vp,Hp,rfl,hp⟩,hpF⟩:=x48 [] f hf (by omega) (by omega)
  cases hpl2:cq f with
  |none=>
   rw[hpl2] at hp;subst hp;have hkp:aB An FF 16 (some 36) 48 [.agg (aZ f)] ⟨L3,[]⟩=some (.tuple [.nil,.bool false],⟨L3,Hp⟩):=by
    rw[cf rfl rfl hpF];rfl
   repeat' (first
   |with_reducible (first|refine ai ?_|refine ar ?_|refine au rfl ?_|refine ax rfl ?_|refine b6 ?_)
   |(with_reducible (first|(refine ah (λK hK=>?_);(first|refine ER ?_|refine t16r6 ?_|refine t16r7 ?_|refine t16r8 ?_))|refine hqr _ ?_);(try simp only[SS,Nat.reduceEqDiff,Bool.not_true,Bool.not_false,r16,aQ,ak,aD,am,bz,CV.int.injEq,hfa3,hke,hkp,cV]))
   |(with_reducible refine hK _ ?_;clear hK K))
   rw[hcode,hw,hpl2,Bool.and_false,if_neg (by decide)]
   exact⟨_,rfl,rfl⟩
  |some l=>
   rw[hpl2] at hp;obtain⟨rfl,hll,rfl,hrng⟩:=hp;obtain⟨Hp,hHp⟩:∃Hp:List HO,Hp=[]++[HO.arr 1 3 (l.flatMap p3C) 0]:=⟨_,rfl⟩;have hkp:aB An FF 16 (some 36) 48 [.agg (aZ f)] ⟨L3,[]⟩=some (.tuple [.ref (.g 0) 1 0 l.length,.bool true],⟨L3,Hp⟩):=by
    rw[cf rfl rfl hpF,hHp];rfl
   have hfa3p:=hfa ⟨L3,Hp⟩ g hL3;have hoff:∀α (y:Option α),n6 [(true,45)] (.ptr (.l 16) g 0) y=y:=λα y=>by simp[uc,pd]
   repeat' (first
   |with_reducible (first|refine ai ?_|refine ar ?_|refine ax rfl ?_)
   |(with_reducible (refine ah (λK hK=>?_);(first|refine ER ?_|refine t16r6 ?_|refine t16r7 ?_|refine t16r9 ?_));(try simp only[SS,Nat.reduceEqDiff,Bool.not_true,hfa3,hfa3p,hke,hkp,cV,hoff]))
   |(with_reducible refine hK _ ?_;clear hK K))
   have hO3p:OwnE dV 1 ⟨L3,Hp⟩ (16*29) v3 (aE f):=hO3;obtain⟨m4,e1,e2,e3,e4⟩:=hO3p.seen.esc1 dE;obtain⟨_,⟨H6,rfl⟩,htb⟩:=x49 (aE f) hSm (FX hpl) (fo (aE f)) (IsRows.of _);refine rC htb rfl (dh e1) (by simp only[cans,jQ]) (by simp only[noGs,kV ij,Bool.and_self]) rowBC_N rfl λv5 m5 hO5 hH5 hf5=>?_;have hO35:OwnV dV 1 m5 (16*29) v3 (aE f):=by
    rcases hf5 (16*29) (by decide) with h|h
    ·exact hO3p.seen.keep h
    ·exact e4.keep h
   have h16:aK m5.L 16=some (.var g (aZ f) 0):=by
    rcases hf5 16 (by decide) with h|h
    ·rw[h];exact hL3
    ·rw[h,e3 16 (by decide)];exact hL3
   have hH5':m5.H=Hp:=by
    rcases hH5 with h|h
    ·exact h
    ·rw[h,e2]
   have hfill:bg [.nil,.int .i64 0,.nil,.nil,.nil] [(0,2,.agg [sl ptC f.parts,.int .i64 f.values]),(2,1,.ref (.g 0) 1 0 l.length),(3,1,v3),(4,1,v5)]=some [sl ptC f.parts,.int .i64 f.values,.ref (.g 0) 1 0 l.length,v3,v5]:=by
    rcases hO35 with⟨_,rfl⟩|⟨_,_,_,rfl,_⟩<;>rcases hO5.seen with⟨_,rfl⟩|⟨_,_,_,rfl,_⟩<;>rfl
   simp only[aZ,hfill,aJ];refine box5 (x0:=sl ptC f.parts) (x1:=.int .i64 f.values) (x2:=.ref (.g 0) 1 0 l.length) (j3:=16*29) (j1:=16*45) rfl hO35 hO5.seen (by decide) λL6 hf6=>?_;rw[hH5',show Hp.length=1 by rw[hHp];rfl];obtain⟨HH,hHH⟩:∃HH,HH=Hp++[HO.var 1 [sl ptC f.parts,.int .i64 f.values,.ref (.g 0) 1 0 l.length,rowC dV (aE f),rowC gq (kl (aE f))] 0]:=⟨_,rfl⟩;rw[←hHH];have hE:REnv f l (rowC dV (aE f)) 1 0 HH:=⟨by rw[hHH,hHp];rfl,by rw[hHH,hHp];rfl,hrng⟩;have hL6:aK L6 16=some (.var g (aZ f) 0):=by rw[hf6 16 (by decide) (by decide)];exact h16
   refine hK _ ?_;clear hK K
   repeat' (first
   |with_reducible (first|refine ai ?_|refine aj (id:=0) (λQ0 hn0 hx0 hr0 ho0=>?_))
   |(with_reducible (refine ah (λK hK=>?_);refine t16r10 ?_);(try simp only[SS,Nat.reduceEqDiff]))
   |(with_reducible refine hK _ ?_;clear hK K))
   refine aU (λk s=>∃(d t:List Pt) (L:List (Nat×HO)),f.parts=d++t∧k=t.length∧(∀(i:Nat) (p:Pt),d[i]?=some p→eg (aE f) l (i:Int) p=true)∧aK L 16=some (.var g (aZ f) 0) ∧
    s=⟨[(1,.ptr (.l 16) g 0),(6,.ptr (.g 1) 1 0),(7,.int .i64 d.length)],⟨L,HH⟩⟩) _ ⟨[],f.parts,_,rfl,rfl,λi p h=>by simp at h,hL6,rfl⟩ ?_
   rintro k s ⟨d,t,L,h5,rfl,hd,hL,rfl⟩ QL0 hnL0 hxL0 hrL0;have hlen:=congrArg List.length h5;simp only[List.length_append] at hlen;simp only[c16l0]
   cases t with
   |nil=>
    simp only[List.length_nil] at hlen;rw[List.append_nil] at h5;rw[←h5] at hd
    repeat' (first
    |with_reducible (first|refine ai ?_|refine ax rfl ?_|refine aN ?_|refine aF ?_|refine hx0 _ ?_|refine hxL0 _ _ ?_)
    |(with_reducible (first|(refine ah (λK hK=>?_);(first|refine ur ?_|refine t16r15 ?_))|refine hqr _ ?_);(try simp only[SS,Nat.reduceEqDiff,lenS,r16,aQ,ak,aD,am,bz,CV.int.injEq,hL,aZ,aP]))
    |(revert hK;intro hK;(first|refine And.intro ?_ ?_|intro _|omega|(with_reducible refine hK _ ?_;clear hK K))))
    rw[hcode,hw,hpl2,Bool.true_and,if_pos (mw hd)]
    exact⟨_,rfl,rfl⟩
   |cons p t=>
    simp only[List.length_cons] at hlen;have hpi:f.parts[d.length]?=some p:=by rw[h5];simp
    have hlt:(d.length:Int)<f.parts.length:=by omega
    have hwd:IntKind.i64.wrap ((d.length:Int)+1)=d.length+1:=wI (by omega) (by omega);have hkp:aB An FF 16 (some 57) 50 [.ptr (.g 1) 1 0,.int .i64 d.length] ⟨L,HH⟩=some (.bool (eg (aE f) l d.length p),⟨L,HH⟩):=by
     rw[cf rfl rfl (x50 f l _ 1 0 HH hE hf hw d t p h5)];rfl
    cases hpo:eg (aE f) l d.length p with
    |false=>
     rw[hpo] at hkp
     repeat' (first
     |with_reducible (first|refine ai ?_|refine ar ?_|refine au rfl ?_|refine bc rfl ?_|refine aF ?_|refine hr0 _ ?_|refine aj (id:=1) (λQ1 hn1 hx1 hr1 ho1=>?_)|refine hr1 _ ?_|refine hrL0 _ ?_)
     |(with_reducible (first|(refine ah (λK hK=>?_);(first|refine ur ?_|refine EQ ?_|refine t16r14 ?_))|refine hqr _ ?_);(try simp only[SS,Nat.reduceEqDiff,Bool.not_false,lenS,r16,aQ,ak,aD,am,bz,CV.int.injEq,hL,aZ,aP,hlt,hkp]))
     |(with_reducible refine hK _ ?_;clear hK K))
     rw[hcode,hw,hpl2,Bool.true_and];simp only[FY hpi hpo]
     exact⟨_,rfl,rfl⟩
    |true=>
     rw[hpo] at hkp
     repeat' (first
     |with_reducible (first|refine ai ?_|refine ar ?_|refine au rfl ?_|refine bn rfl ?_|refine bx ?_|refine aj (id:=1) (λQ1 hn1 hx1 hr1 ho1=>?_)|refine hn1 _ ?_)
     |(with_reducible ((first|refine ah (λK hK=>?_)|refine aI (λK hK=>?_));(first|refine ur ?_|refine EQ ?_|refine t16r12 ?_));(try simp only[SS,Nat.reduceEqDiff,Bool.not_true,lenS,hL,aZ,aP,hlt,hkp,hwd]))
     |(with_reducible refine hK _ ?_;clear hK K))
     rw[show((d.length:Int)+1)=((d++[p]).length:Int) by simp];refine hnL0 t.length _ (by simp) ⟨d++[p],t,L,by simp[h5],rfl,λi q hq=>?_,hL,rfl⟩
     by_cases hi:i<d.length
     ·rw[List.getElem?_append_left hi] at hq
      exact hd i q hq
     ·have:i=d.length:=by have:=(List.getElem?_eq_some_iff.1 hq).1;simp at this;omega
      subst this;simp at hq;subst hq;exact hpo
end Go.Cm
namespace Go.Cm
open Go.Proofs Go.Ir Go.Gr
theorem kB {b:Bool}{m:Mem}:chk true (some (.bool b,m))=some (.bool b,m):=rfl
theorem kk44 (a:List Int) (hal:a.length≤17592186044416) {fid:FuncId}{d:Tmp}{m:Mem}:aB An FF fid (some d) 44 [sl aX a,sl aX a] m=some (.bool true,m):=by
 have h:=x44 a a hal;rw[decide_eq_true rfl] at h;exact cr h (λ_ _ _=>rfl) rfl (by simp only[cans,intE.can_sl]) rfl (by simp only[noGs,intE.noG_sl,Bool.and_self]) rfl
theorem x45 (n:Nd) (ha:n.args.length≤17592186044416):FF 45 [.agg (ndC n),.agg (ndC n)] []=some (.bool true,[]):=by
 have hk:=λd m=>kk44 n.args ha (fid:=45) (d:=d) (m:=m);refine aL rfl Try.func45 s45 (Nat.le_of_ble_eq_true rfl) (λQ hqr hqn=>?_);rw[bf (show An.pure 45=true from rfl) (by simp only[cans,aG,az,aC,aH,ndE.can])];simp only[aO,Nat.reduceAdd,c45]
 repeat' (first
 |with_reducible refine aF ?_
 |(with_reducible (first|(refine ah (λK hK=>?_);(first|refine t45r0 ?_|refine t45r1 ?_))|refine hqr _ ?_);(try simp only[SS,Nat.reduceEqDiff,ap,bv,aR,r45,aQ,ak,aD,am,ndC,hk,F1 Try.underlying4,beq_self_eq_true]))
 |(with_reducible refine hK _ ?_;clear hK K))
theorem k45 (n:Nd) (ha:n.args.length≤17592186044416) {fid:FuncId}{d:Tmp}{m:Mem}:aB An FF fid (some d) 45 [.agg (ndC n),.agg (ndC n)] m=some (.bool true,m):=
 cr (x45 n ha) (λ_ _ _=>rfl) rfl (by simp only[cans,aC,ndE.can]) rfl (by simp only[noGs,noG,ndE.noG,Bool.and_self]) rfl
def l8 (b:Bool) (X:Option Bool):Option Bool:=match (some b:Option Bool) with
 |some true=>X
 |r=>r
theorem tm_ceq (o c a b t l:Int) (w:Bool):ceq Try.prog 20 56 (.agg [.int .i64 o,.int .i64 c,.bool w,.int .i64 a,.int .i64 b,.int .i64 t,.int .i64 l]) (.agg [.int .i64 o,.int .i64 c,.bool w,.int .i64 a,.int .i64 b,.int .i64 t,.int .i64 l]) =
  l8 (o==o) (l8 (c==c) (l8 (w==w) (l8 (a==a) (l8 (b==b) (l8 (t==t) (l8 (l==l) (some true))))))):=by
 kernel_rfl
theorem tm_ne {o c a b t l:Int}{w:Bool}{x y:Operand}:aw Try.prog .neq 56 x y (.agg [.int .i64 o,.int .i64 c,.bool w,.int .i64 a,.int .i64 b,.int .i64 t,.int .i64 l]) (.agg [.int .i64 o,.int .i64 c,.bool w,.int .i64 a,.int .i64 b,.int .i64 t,.int .i64 l])=some (.bool false):=by
 have hg:Try.prog.eqGuardType Try.prog.depth 56=false:=by kernel_rfl
 simp only[aw,eqC,hg,tm_ceq,l8,beq_self_eq_true];rfl
set_option maxHeartbeats 2000000 in
theorem x15 (f:Cd) (hf:Sized f):∃r,(∃H',r=(CV.bool true,H'))∧FF 15 [.agg (aZ f),.agg (aZ f)] []=some r:=by
 have hpl:=hf.parts;have hkI:=λa h d m=>kk44 a h (fid:=15) (d:=d) (m:=m);refine bA rfl Try.func15 s15 (Nat.le_of_ble_eq_true rfl) (λQ hqr hqn=>?_);rw[bf (show An.pure 15=true from rfl) (by simp only[cans,aG,az,aC,aH,codeE.can])];simp only[aO,Nat.reduceAdd,c15]
 repeat' (first
 |with_reducible (first|refine ai ?_|refine ar ?_|refine ax rfl ?_|refine aj (id:=0) (λQ0 hn0 hx0 hr0 ho0=>?_))
 |(with_reducible (refine ah (λK hK=>?_);(first|refine t15r0 ?_|refine t15r1 ?_|refine t15r3 ?_));(try simp only[SS,Nat.reduceEqDiff,ap,bv,aR,br,lenS,aZ,aP]))
 |(with_reducible refine hK _ ?_;clear hK K))
 refine aU (λk s=>∃(d t:List Pt) (g g':Nat) (L:List (Nat×HO)),f.parts=d++t∧k=t.length∧aK L 32=some (.var g (aZ f) 0)∧aK L 48=some (.var g' (aZ f) 0) ∧
  s=⟨[(2,.ptr (.l 32) g 0),(3,.ptr (.l 48) g' 0),(5,.int .i64 d.length)],⟨L,[]⟩⟩) _ ⟨[],f.parts,_,_,_,rfl,rfl,by simp[bi,aq,aZ],by simp[bi,aq,aZ],rfl⟩ ?_
 rintro k s ⟨d,t,g,g',L,h3,rfl,hL,hL',rfl⟩ QL2 hnL2 hxL2 hrL2;have hlen:=congrArg List.length h3;simp only[List.length_append] at hlen;simp only[c15l2]
 cases t with
 |nil=>
  simp only[List.length_nil] at hlen
  repeat' (first
  |with_reducible (first|refine ai ?_|refine ax rfl ?_|refine aN ?_|refine aF ?_|refine hx0 _ ?_|refine hxL2 _ _ ?_)
  |(with_reducible (first|(refine ah (λK hK=>?_);(first|refine t15r4 ?_|refine t15r19 ?_))|refine hqr _ ?_);(try simp only[SS,Nat.reduceEqDiff,lenS,r15,aQ,ak,aD,am,hL,hL',aZ,aP]))
  |(revert hK;intro hK;(first|refine And.intro ?_ ?_|intro _|omega|(with_reducible refine hK _ ?_;clear hK K))))
  exact⟨_,rfl⟩
 |cons p t=>
  simp only[List.length_cons] at hlen;have hpm:p∈f.parts:=by rw[h3];simp
  have hlt:(d.length:Int)<f.parts.length:=by omega
  have hwd:IntKind.i64.wrap ((d.length:Int)+1)=d.length+1:=wI (by omega) (by omega);have hip:=hkI p.pred (hf.pred p hpm);obtain⟨hphl,hphs⟩:=hf.phis p hpm;obtain⟨hndl,hnds⟩:=hf.nodes p hpm
  repeat' (first
  |with_reducible (first|refine ai ?_|refine ar ?_|refine au rfl ?_|refine ax rfl ?_|refine aj (id:=1) (λQ1 hn1 hx1 hr1 ho1=>?_)|refine aj (id:=2) (λQ2 hn2 hx2 hr2 ho2=>?_))
  |(with_reducible (refine ah (λK hK=>?_);(first|refine t15r4 ?_|refine t15r6 ?_|refine t15r7 ?_|refine t15r9 ?_));(try simp only[SS,Nat.reduceEqDiff,ap,bv,aR,Nat.reduceMul,Nat.reduceAdd,br,Bool.not_true,lenS,ay,Gm,uc,sa,Gl,decide_false,Bool.or_false,Bool.false_eq_true,hL,hL',aZ,aP,hlt,aM ptE.len (by omega) h3,ct,ptC,hip,tm_ne]))
  |(with_reducible refine hK _ ?_;clear hK K))
  refine aU (λk s=>∃(d1 t1:List Ph) (g6 g7:Nat) (L:List (Nat×HO)),p.phis=d1++t1∧k=t1.length∧aK L 32=some (.var g (aZ f) 0)∧aK L 48=some (.var g' (aZ f) 0)∧aK L 96=some (.var g6 (ptC p) 0)∧aK L 112=some (.var g7 (ptC p) 0) ∧
   s=⟨[(2,.ptr (.l 32) g 0),(3,.ptr (.l 48) g' 0),(5,.int .i64 d.length),(6,.ptr (.l 96) g6 0),(7,.ptr (.l 112) g7 0),(8,.int .i64 d1.length)],⟨L,[]⟩⟩) _ ⟨[],p.phis,_,_,_,rfl,rfl,by simp[bi,aq,hL],by simp[bi,aq,hL'],by simp[bi,aq,ptC],by simp[bi,aq,ptC],rfl⟩ ?_
  rintro k s ⟨d1,t1,g6,g7,L1,h4,rfl,a1,a2,a3,a4,rfl⟩ QL0 hnL0 hxL0 hrL0;have hlen1:=congrArg List.length h4;simp only[List.length_append] at hlen1;simp only[c15l0]
  cases t1 with
  |nil=>
   simp only[List.length_nil] at hlen1
   repeat' (first
   |with_reducible (first|refine ai ?_|refine ax rfl ?_|refine aN ?_|refine hx2 _ ?_|refine bl (id:=4) (λQ4 hn4 hx4 hr4 ho4=>?_)|refine hxL0 _ _ ?_)
   |(with_reducible (refine ah (λK hK=>?_);(first|refine EO ?_|refine t15r14 ?_));(try simp only[SS,Nat.reduceEqDiff,lenS,a3,a4,ptC,aP]))
   |(revert hK;intro hK;(first|refine And.intro ?_ ?_|intro _|omega|(with_reducible refine hK _ ?_;clear hK K))))
   refine aU (λk s=>∃(d2 t2:List Nd) (L:List (Nat×HO)),p.nodes=d2++t2∧k=t2.length∧aK L 32=some (.var g (aZ f) 0)∧aK L 48=some (.var g' (aZ f) 0)∧aK L 96=some (.var g6 (ptC p) 0)∧aK L 112=some (.var g7 (ptC p) 0) ∧
    s=⟨[(2,.ptr (.l 32) g 0),(3,.ptr (.l 48) g' 0),(5,.int .i64 d.length),(6,.ptr (.l 96) g6 0),(7,.ptr (.l 112) g7 0),(9,.int .i64 d2.length)],⟨L,[]⟩⟩) _ ⟨[],p.nodes,_,rfl,rfl,a1,a2,a3,a4,rfl⟩ ?_
   rintro k s ⟨d2,t2,L2,h5,rfl,b1,b2,b3,b4,rfl⟩ QL1 hnL1 hxL1 hrL1;have hlen2:=congrArg List.length h5;simp only[List.length_append] at hlen2;simp only[c15l1]
   cases t2 with
   |nil=>
    simp only[List.length_nil] at hlen2
    repeat' (first
    |with_reducible (first|refine ai ?_|refine ax rfl ?_|refine aN ?_|refine hn1 _ ?_|refine hx4 _ ?_|refine hxL1 _ _ ?_)
    |(with_reducible ((first|refine ah (λK hK=>?_)|refine aI (λK hK=>?_));(first|refine EP ?_|refine t15r5 ?_));(try simp only[SS,Nat.reduceEqDiff,lenS,b3,b4,ptC,aP,hwd]))
    |(revert hK;intro hK;(first|refine And.intro ?_ ?_|intro _|omega|(with_reducible refine hK _ ?_;clear hK K))))
    rw[show((d.length:Int)+1)=((d++[p]).length:Int) by simp];exact hnL2 t.length _ (by simp) ⟨d++[p],t,g,g',L2,by simp[h3],rfl,b1,b2,rfl⟩
   |cons x t2=>
    simp only[List.length_cons] at hlen2;have hxa:=(hnds x (by rw[h5];simp)).1;have hlt2:(d2.length:Int)<p.nodes.length:=by omega
    have hw2:IntKind.i64.wrap ((d2.length:Int)+1)=d2.length+1:=wI (by omega) (by omega);have hkn:=λd m=>k45 x hxa (fid:=15) (d:=d) (m:=m);simp only[ndC] at hkn
    repeat' (first
    |with_reducible (first|refine ai ?_|refine ar ?_|refine au rfl ?_|refine bn rfl ?_|refine bx ?_|refine aj (id:=5) (λQ5 hn5 hx5 hr5 ho5=>?_)|refine hn5 _ ?_)
    |(with_reducible ((first|refine ah (λK hK=>?_)|refine aI (λK hK=>?_));(first|refine EP ?_|refine t15r17 ?_|refine t15r16 ?_));(try simp only[SS,Nat.reduceEqDiff,Bool.not_true,lenS,b3,b4,ptC,aP,hlt2,aM ndE.len (by omega) h5,eR,ndC,hkn,kB,hw2]))
    |(with_reducible refine hK _ ?_;clear hK K))
    rw[show((d2.length:Int)+1)=((d2++[x]).length:Int) by simp];exact hnL1 t2.length _ (by simp) ⟨d2++[x],t2,L2,by simp[h5],rfl,b1,b2,b3,b4,rfl⟩
  |cons x t1=>
   simp only[List.length_cons] at hlen1;have hlt1:(d1.length:Int)<p.phis.length:=by omega
   have hw1:IntKind.i64.wrap ((d1.length:Int)+1)=d1.length+1:=wI (by omega) (by omega);have hix:=hkI x.src (hphs x (by rw[h4];simp))
   repeat' (first
   |with_reducible (first|refine ai ?_|refine ar ?_|refine au rfl ?_|refine bn rfl ?_|refine bx ?_|refine aj (id:=3) (λQ3 hn3 hx3 hr3 ho3=>?_)|refine hn3 _ ?_)
   |(with_reducible ((first|refine ah (λK hK=>?_)|refine aI (λK hK=>?_));(first|refine EO ?_|refine t15r12 ?_|refine t15r11 ?_));(try simp only[SS,Nat.reduceEqDiff,bL,dw,br,Bool.not_true,lenS,a3,a4,ptC,aP,hlt1,aM phE.len (by omega) h4,phC,hix,kB,hw1]))
   |(with_reducible refine hK _ ?_;clear hK K))
   rw[show((d1.length:Int)+1)=((d1++[x]).length:Int) by simp];exact hnL0 t1.length _ (by simp) ⟨d1++[x],t1,g6,g7,L1,by simp[h4],rfl,a1,a2,a3,a4,rfl⟩
end Go.Cm
