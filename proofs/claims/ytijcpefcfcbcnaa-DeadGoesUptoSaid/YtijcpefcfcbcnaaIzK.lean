import Derived.Test.YtijcpefcfcbcnaaIzH
set_option linter.unusedSimpArgs false
set_option linter.unusedVariables false
namespace Go.Cm
open Go.Proofs Go.Ir Go.Gr
theorem isE_nil {y:Int}{H:List HO}:FF 63 [.inil,.iface 127 (.int .i64 y)] H=some (.bool false,H):=by
 refine xK.2 ⟨1,?_⟩;have:EE 63 [.inil,.iface 127 (.int .i64 y)] H=some (.bool false,H):=by simp only[EE,BB,tab,if_true,if_false,Nat.reduceEqDiff,isF_nil]
 simp only[dW,show An.pure 63=false from rfl,cin,Bool.false_eq_true,if_false,this]
theorem isE_ref {n:Nat}{p x y:Int}{H:List HO}(h:H[n]?=some (.var 1 [.int .i64 p,.int .i64 x] 0)):FF 63 [.iface 152 (.ptr (.g n) 1 0),.iface 127 (.int .i64 y)] H=some (.bool (x==y),H):=by
 refine xK.2 ⟨1,?_⟩;have:EE 63 [.iface 152 (.ptr (.g n) 1 0),.iface 127 (.int .i64 y)] H=some (.bool (x==y),H):=by simp only[EE,BB,tab,if_true,if_false,Nat.reduceEqDiff,isF_ref h]
 simp only[dW,show An.pure 63=false from rfl,cin,Bool.false_eq_true,if_false,this]
theorem isC_nil {fid:FuncId}{d:Tmp}{y:Int}{L:List (Nat×HO)}{H:List HO}:aB An FF fid (some d) 63 [.inil,.iface 127 (.int .i64 y)] ⟨L,H⟩=some (.bool false,⟨L,H⟩):=by
 rw[cf rfl rfl isE_nil];rfl
theorem isC_ref {fid:FuncId}{d:Tmp}{n:Nat}{p x y:Int}{L:List (Nat×HO)}{H:List HO}(h:H[n]?=some (.var 1 [.int .i64 p,.int .i64 x] 0)):aB An FF fid (some d) 63 [.iface 152 (.ptr (.g n) 1 0),.iface 127 (.int .i64 y)] ⟨L,H⟩=some (.bool (x==y),⟨L,H⟩):=by
 rw[cf rfl rfl (isE_ref h)];rfl
def uQ (f:Cd):Nat→List HO→Prop
 |0,H=>H=[.var 1 [sl ptC f.parts,.int .i64 f.values,.nil,.nil] 0]
 |1,H=>bY f=true∧H[0]?=some (.var 1 [sl ptC f.parts,.int .i64 f.values,.nil,.nil] 0)
 |2,H=>bY f=true∧∃l np,cq f=some l∧l.length=f.values.toNat∧H[0]?=some (.var 1 [sl ptC f.parts,.int .i64 f.values,.ref (.g np) 1 0 l.length,.nil] 0)∧H[np]?=some (.arr 1 2 (l.flatMap plC) 0)∧(∀(i:Nat) (x:Int×Int),l[i]?=some (some x)→0≤x.1)
 |_,_=>bY f=true∧∃l,cq f=some l∧ew f l=true
set_option maxHeartbeats 2000000 in
theorem x36 (f:Cd) (hf:Sized f):∃r,(∃H',r=(CV.int .i64 (if bG f=true then 0 else 160),H'))∧FF 36 [.agg (aZ f)] []=some r:=by
 have hsetL:∀(L:List (Nat×HO)) (H:List HO) j o,bi ⟨L,H⟩ j o=⟨cF L j o,H⟩:=λ_ _ _ _=>rfl
 by_cases h1:(f.parts.length:Int)<1
 ·have hc:bG f=false:=by unfold bG;rw[decide_eq_false (by omega:¬1≤f.parts.length)];rfl
  refine bA rfl Try.func36 s36 (Nat.le_of_ble_eq_true rfl) (λQ hqr hqn=>?_);rw[bf (show An.pure 36=true from rfl) (by simp only[cans,aG,az,aC,aH,codeE.can])];simp only[aO,Nat.reduceAdd,c36]
  repeat' (first
  |with_reducible (first|refine ai ?_|refine au rfl ?_|refine b6 ?_)
  |(with_reducible (first|(refine ah (λK hK=>?_);(first|refine sS ?_|refine sT ?_|refine wr ?_))|refine hqr _ ?_);(try simp only[SS,ap,bq,lenS,r36,aQ,ak,aD,am,bz,CV.int.injEq,aZ,aP,h1]))
  |(with_reducible refine hK _ ?_;clear hK K))
  rw[hc,if_neg (by decide)]
  exact⟨_,rfl,rfl⟩
 by_cases h2:(8192:Int)<f.parts.length
 ·have hc:bG f=false:=by unfold bG;rw[decide_eq_false (by omega:¬f.parts.length≤8192)];simp
  refine bA rfl Try.func36 s36 (Nat.le_of_ble_eq_true rfl) (λQ hqr hqn=>?_);rw[bf (show An.pure 36=true from rfl) (by simp only[cans,aG,az,aC,aH,codeE.can])];simp only[aO,Nat.reduceAdd,c36]
  repeat' (first
  |with_reducible (first|refine ai ?_|refine au rfl ?_|refine b6 ?_)
  |(with_reducible (first|(refine ah (λK hK=>?_);(first|refine sS ?_|refine sT ?_|refine wr ?_))|refine hqr _ ?_);(try simp only[SS,ap,bq,lenS,r36,aQ,ak,aD,am,bz,CV.int.injEq,aZ,aP,h1,h2]))
  |(with_reducible refine hK _ ?_;clear hK K))
  rw[hc,if_neg (by decide)]
  exact⟨_,rfl,rfl⟩
 by_cases h3:f.values<0
 ·have hc:bG f=false:=by unfold bG;rw[decide_eq_false (by omega:¬0≤f.values)];simp
  refine bA rfl Try.func36 s36 (Nat.le_of_ble_eq_true rfl) (λQ hqr hqn=>?_);rw[bf (show An.pure 36=true from rfl) (by simp only[cans,aG,az,aC,aH,codeE.can])];simp only[aO,Nat.reduceAdd,c36]
  repeat' (first
  |with_reducible (first|refine ai ?_|refine au rfl ?_|refine b6 ?_)
  |(with_reducible (first|(refine ah (λK hK=>?_);(first|refine sS ?_|refine sT ?_|refine wr ?_))|refine hqr _ ?_);(try simp only[SS,ap,bq,lenS,r36,aQ,ak,aD,am,bz,CV.int.injEq,aZ,aP,h1,h2,h3]))
  |(with_reducible refine hK _ ?_;clear hK K))
  rw[hc,if_neg (by decide)]
  exact⟨_,rfl,rfl⟩
 by_cases h4:65536<f.values
 ·have hc:bG f=false:=by unfold bG;rw[decide_eq_false (by omega:¬f.values≤65536)];simp
  refine bA rfl Try.func36 s36 (Nat.le_of_ble_eq_true rfl) (λQ hqr hqn=>?_);rw[bf (show An.pure 36=true from rfl) (by simp only[cans,aG,az,aC,aH,codeE.can])];simp only[aO,Nat.reduceAdd,c36]
  repeat' (first
  |with_reducible (first|refine ai ?_|refine au rfl ?_|refine b6 ?_)
  |(with_reducible (first|(refine ah (λK hK=>?_);(first|refine sS ?_|refine sT ?_|refine wr ?_))|refine hqr _ ?_);(try simp only[SS,ap,bq,lenS,r36,aQ,ak,aD,am,bz,CV.int.injEq,aZ,aP,h1,h2,h3,h4]))
  |(with_reducible refine hK _ ?_;clear hK K))
  rw[hc,if_neg (by decide)]
  exact⟨_,rfl,rfl⟩
 have hne:f.parts≠[]:=by rintro h;rw[h] at h1;simp at h1
 have hcode:bG f=(bY f&&match cq f with|some l=>ew f l|none=>false):=by
  unfold bG;rw[decide_eq_true (by omega:1≤f.parts.length),decide_eq_true (by omega:f.parts.length≤8192),decide_eq_true (by omega:0≤f.values),decide_eq_true (by omega:f.values≤65536)];rfl
 have hbox:∀L,iB (.agg [sl ptC f.parts,.int .i64 f.values,.nil,.nil]) ⟨L,[]⟩=some (.ptr (.g 0) 1 0,⟨L,[.var 1 [sl ptC f.parts,.int .i64 f.values,.nil,.nil] 0]⟩):=λ_=>rfl;obtain⟨fs,hfs⟩:∃fs,fs=[CV.func (.func 60) [.ptr (.g 0) 1 0] [],.func (.func 61) [.ptr (.g 0) 1 0] [],.func (.func 62) [.ptr (.g 0) 1 0] []]:=⟨_,rfl⟩;have hbs:∀L H,be false 576 1 3 [.nilf,.nilf,.nilf] [(0,1,.func (.func 60) [.ptr (.g 0) 1 0] []),(1,1,.func (.func 61) [.ptr (.g 0) 1 0] []),(2,1,.func (.func 62) [.ptr (.g 0) 1 0] [])] ⟨L,H⟩ =
   some (.ref (.l 576) (bj L 576) 0 3,⟨cF L 576 (.arr (bj L 576) 1 fs 0),H⟩):=λL H=>by rw[hfs];rfl
 refine bA rfl Try.func36 s36 (Nat.le_of_ble_eq_true rfl) (λQ hqr hqn=>?_);rw[bf (show An.pure 36=true from rfl) (by simp only[cans,aG,az,aC,aH,codeE.can])];simp only[aO,Nat.reduceAdd,c36]
 repeat' (first
 |with_reducible (first|refine ai ?_|refine ar ?_|refine ax rfl ?_|refine aj (id:=0) (λQ0 hn0 hx0 hr0 ho0=>?_))
 |(with_reducible (refine ah (λK hK=>?_);(first|refine sS ?_|refine sT ?_|refine t36r3 ?_|refine t36r4 ?_));(try simp only[SS,Nat.reduceEqDiff,ap,bv,eE,Nat.reduceAdd,bq,lenS,bg,ay,Nat.reduceLeDiff,aZ,aP,h1,h2,h3,h4,hsetL,hbox,hbs]))
 |(with_reducible refine hK _ ?_;clear hK K))
 refine aU (λk s=>∃(i:Nat) (gn:Nat) (L:List (Nat×HO)) (H:List HO),i≤3∧k=3 - i∧uQ f i H∧aK L 576=some (.arr gn 1 fs 0) ∧
  s=⟨[(36,.ref (.l 576) gn 0 3),(37,.int .i64 3),(38,.int .i64 i)],⟨L,H⟩⟩) _ ⟨0,_,_,_,by omega,rfl,rfl,by simp[aq],rfl⟩ ?_
 rintro k s ⟨i,gn,L,H,hi,rfl,hA,hL,rfl⟩ QL0 hnL0 hxL0 hrL0;simp only[c36l0];have hidx:∀j:Nat,j<3→bd 1 (.ref (.l 576) gn 0 3) (.int .i64 j)=some (.ptr (.l 576) gn j):=λj hj=>by rw[bD,if_pos ⟨by omega,by omega⟩];simp
 by_cases hi3:i=3
 ·subst hi3
  obtain⟨hw,l,hl,hu⟩:=hA;have hc:bG f=true:=by rw[hcode,hw,hl];simpa using hu
  have hlt:¬((3:Nat):Int)<3:=by decide
  repeat' (first
  |with_reducible (first|refine ax rfl ?_|refine aN ?_|refine aF ?_|refine hx0 _ ?_|refine hxL0 _ _ ?_)
  |(with_reducible (first|(refine ah (λK hK=>?_);(first|refine sU ?_|refine t36r11 ?_))|refine hqr _ ?_);(try simp only[SS,Nat.reduceEqDiff,r36,aQ,ak,aD,am,bz,CV.int.injEq,hlt]))
  |(with_reducible refine hK _ ?_;clear hK K))
  rw[hc,if_pos rfl]
  exact⟨_,rfl,rfl⟩
 obtain⟨fid,v,H',hfi,hF,hres⟩:∃fid v H',fs[i]?=some (.func (.func fid) [.ptr (.g 0) 1 0] [])∧aB An FF 36 (some 43) fid [.ptr (.g 0) 1 0] ⟨L,H⟩=some (v,⟨L,H'⟩) ∧
   ((v=.inil∧uQ f (i+1) H')∨(bG f=false∧∃why:Int,(why=1∨why=2∨why=3)∧lV H' v why)):=by
  have fin:∀fid v H',(fs[i]?=some (.func (.func fid) [.ptr (.g 0) 1 0] [])∧An.pure fid=false∧FF fid [.ptr (.g 0) 1 0] H=some (v,H') ∧
   ((v=.inil∧uQ f (i+1) H')∨(bG f=false∧∃why:Int,(why=1∨why=2∨why=3)∧lV H' v why)))→∃fid v H',fs[i]?=some (.func (.func fid) [.ptr (.g 0) 1 0] [])∧aB An FF 36 (some 43) fid [.ptr (.g 0) 1 0] ⟨L,H⟩=some (v,⟨L,H'⟩) ∧
   ((v=.inil∧uQ f (i+1) H')∨(bG f=false∧∃why:Int,(why=1∨why=2∨why=3)∧lV H' v why)):=by
   rintro fid v H' ⟨a1,a2,a3,a4⟩
   refine⟨fid,v,H',a1,?_,a4⟩
   rw[cf a2 rfl a3];rcases a4 with⟨rfl,_⟩|⟨_,why,_,n,p,rfl,_⟩<;>rfl
  match i,hi,hi3,hA with
  |i+3,hi,hi3,_=>omega
  |0,_,_,hA=>
   obtain⟨_,⟨v,H',rfl,hold,hv⟩,hF⟩:=x60 H f 0 hf hne (by omega) (by rw[hA];rfl);refine fin _ v H' ⟨by rw[hfs];rfl,rfl,hF,?_⟩
   cases hw:bY f with
   |true=>
    rw[hw,if_pos rfl] at hv;exact .inl ⟨hv,hw,by rw[hold 0 (by rw[hA];exact Nat.zero_lt_one),hA];rfl⟩
   |false=>
    rw[hw,if_neg (by decide)] at hv;exact .inr ⟨by rw[hcode,hw];rfl,1,.inl rfl,hv⟩
  |1,_,_,hA=>
   obtain⟨hw,hA⟩:=hA;obtain⟨_,⟨v,H',rfl,hold,hv⟩,hF⟩:=x61 H f 0 hf (by omega) (by omega) hA;refine fin _ v H' ⟨by rw[hfs];rfl,rfl,hF,?_⟩
   cases hl:cq f with
   |some l=>
    rw[hl] at hv;obtain⟨hv,hll,h1,h2,h3⟩:=hv;exact .inl ⟨hv,hw,l,_,hl,hll,h1,h2,h3⟩
   |none=>
    rw[hl] at hv;exact .inr ⟨by rw[hcode,hw,hl];rfl,2,.inr (.inl rfl),hv⟩
  |2,_,_,hA=>
   obtain⟨hw,l,np,hl,hll,h1,h2,h3⟩:=hA;obtain⟨_,⟨v,H',rfl,hold,hv⟩,hF⟩:=x62 H f l 0 np hf hne hw h1 h2 h3 (by omega);refine fin _ v H' ⟨by rw[hfs];rfl,rfl,hF,?_⟩
   cases hu:ew f l with
   |true=>
    rw[hu,if_pos rfl] at hv;exact .inl ⟨hv,hw,l,hl,hu⟩
   |false=>
    rw[hu,if_neg (by decide)] at hv;exact .inr ⟨by rw[hcode,hw,hl];simpa using hu,3,.inr (.inr rfl),hv⟩
 have hinv:dx An FF 36 (some 43) (.func (.func fid) [.ptr (.g 0) 1 0] []) [] ⟨L,H⟩=some (v,⟨L,H'⟩):=hF;have hlt:((i:Nat):Int)<3:=by omega
 have hw1:IntKind.i64.wrap (((i:Nat):Int)+1)=((i+1:Nat):Int):=by rw[wI (by omega) (by omega)];rfl
 have hidx:=hidx i (by omega);rcases hres with⟨rfl,hA2⟩|⟨hc,why,hwhy,n,p,rfl,hn⟩
 ·have hi1:∀y d,aB An FF 36 (some d) 63 [.inil,.iface 127 (.int .i64 y)] ⟨L,H'⟩=some (.bool false,⟨L,H'⟩):=λy d=>isC_nil
  repeat' (first
  |with_reducible (first|refine ar ?_|refine au rfl ?_|refine bn rfl ?_|refine bx ?_|refine aj (id:=1) (λQ1 hn1 hx1 hr1 ho1=>?_)|refine hn1 _ ?_)
  |(with_reducible ((first|refine ah (λK hK=>?_)|refine aI (λK hK=>?_));(first|refine sU ?_|refine ws ?_|refine wt ?_|refine wu ?_|refine t36r10 ?_));(try simp only[SS,Nat.reduceEqDiff,bM,hlt,hidx,hL,hfi,hinv,hi1,hw1]))
  |(with_reducible refine hK _ ?_;clear hK K))
  refine hnL0 (3 - (i+1)) _ (by omega) ⟨i+1,gn,L,H',by omega,rfl,hA2,hL,rfl⟩
 ·have hi1:∀y d,aB An FF 36 (some d) 63 [.iface 152 (.ptr (.g n) 1 0),.iface 127 (.int .i64 y)] ⟨L,H'⟩=some (.bool (why==y),⟨L,H'⟩):=λy d=>isC_ref hn
  have e1:=hi1 1;have e2:=hi1 2;have e3:=hi1 3;rcases hwhy with rfl|rfl|rfl
  ·rw[show((1:Int)==1)=true from rfl] at e1
   repeat' (first
   |with_reducible (first|refine ar ?_|refine au rfl ?_|refine bc rfl ?_|refine aF ?_|refine hr0 _ ?_|refine aj (id:=1) (λQ1 hn1 hx1 hr1 ho1=>?_)|refine hr1 _ ?_|refine hrL0 _ ?_)
   |(with_reducible (first|(refine ah (λK hK=>?_);(first|refine sU ?_|refine ws ?_|refine wt ?_|refine wu ?_|refine ET ?_))|refine hqr _ ?_);(try simp only[SS,Nat.reduceEqDiff,bM,r36,aQ,ak,aD,am,bz,CV.int.injEq,hlt,hidx,hL,hfi,hinv,e1]))
   |(with_reducible refine hK _ ?_;clear hK K))
   rw[hc,if_neg (by decide)]
   exact⟨_,rfl,rfl⟩
  ·rw[show((2:Int)==1)=false from rfl] at e1
   rw[show((2:Int)==2)=true from rfl] at e2
   repeat' (first
   |with_reducible (first|refine ar ?_|refine au rfl ?_|refine bc rfl ?_|refine aF ?_|refine hr0 _ ?_|refine aj (id:=1) (λQ1 hn1 hx1 hr1 ho1=>?_)|refine hr1 _ ?_|refine hrL0 _ ?_)
   |(with_reducible (first|(refine ah (λK hK=>?_);(first|refine sU ?_|refine ws ?_|refine wt ?_|refine wu ?_|refine ET ?_))|refine hqr _ ?_);(try simp only[SS,Nat.reduceEqDiff,bM,r36,aQ,ak,aD,am,bz,CV.int.injEq,hlt,hidx,hL,hfi,hinv,e1,e2]))
   |(with_reducible refine hK _ ?_;clear hK K))
   rw[hc,if_neg (by decide)]
   exact⟨_,rfl,rfl⟩
  ·rw[show((3:Int)==1)=false from rfl] at e1
   rw[show((3:Int)==2)=false from rfl] at e2;rw[show((3:Int)==3)=true from rfl] at e3
   repeat' (first
   |with_reducible (first|refine ar ?_|refine au rfl ?_|refine bc rfl ?_|refine aF ?_|refine hr0 _ ?_|refine aj (id:=1) (λQ1 hn1 hx1 hr1 ho1=>?_)|refine hr1 _ ?_|refine hrL0 _ ?_)
   |(with_reducible (first|(refine ah (λK hK=>?_);(first|refine sU ?_|refine ws ?_|refine wt ?_|refine wu ?_|refine ET ?_))|refine hqr _ ?_);(try simp only[SS,Nat.reduceEqDiff,bM,r36,aQ,ak,aD,am,bz,CV.int.injEq,hlt,hidx,hL,hfi,hinv,e1,e2,e3]))
   |(with_reducible refine hK _ ?_;clear hK K))
   rw[hc,if_neg (by decide)]
   exact⟨_,rfl,rfl⟩
end Go.Cm
