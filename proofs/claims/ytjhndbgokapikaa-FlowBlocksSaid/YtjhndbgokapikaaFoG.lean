import Derived.Test.YtjhndbgokapikaaFoF
import Derived.Test.YtjhndbgokapikaaFyB
set_option linter.unusedSimpArgs false
set_option linter.unusedVariables false
namespace Go.Cm
open Go.Proofs Go.Fl
structure BkS where
 fr:Int
 to:Int
 la:Int
 sv:CV
 pv:CV
def bkC (b:BkS):List CV:=[.int .i64 b.fr,.int .i64 b.to,.int .i64 b.la,b.sv,b.pv]
theorem KN (b:BkS):(bkC b).length=5:=rfl
def Esc (b:BkS):Prop:=cz b.sv=true∧cz b.pv=true
def Blks (H:List HO) (v:CV) (l:List BkS):Prop:=(l=[]∧v=.nil)∨(∃n gn,v=.ref (.g n) gn 0 l.length∧H[n]?=some (.arr gn 5 (l.flatMap bkC) 0))
theorem Blks.len {H:List HO}{v:CV}{l:List BkS}(h:Blks H v l):clen v=some l.length:=by
 rcases h with⟨rfl,rfl⟩|⟨n,gn,rfl,_⟩<;>rfl
theorem Blks.esc {H:List HO}{v:CV}{l:List BkS}(h:Blks H v l):eV v=true:=by
 rcases h with⟨rfl,rfl⟩|⟨n,gn,rfl,_⟩<;>rfl
theorem Blks.app {H E:List HO}{v:CV}{l:List BkS}(h:Blks H v l):Blks (H++E) v l:=by
 rcases h with h|⟨n,gn,h1,h2⟩
 ·exact .inl h
 ·exact .inr ⟨n,gn,h1,by rw[List.getElem?_append_left (List.getElem?_eq_some_iff.1 h2).1,h2]⟩
theorem Blks.at {H:List HO}{v:CV}{l:List BkS}(h:Blks H v l) {b:BkS}{i:Nat}(ha:l[i]?=some b) {k:IntKind}:∃n gn,v=.ref (.g n) gn 0 l.length∧bd 5 v (.int k i)=some (.ptr (.g n) gn (i*5))∧H[n]?=some (.arr gn 5 (l.flatMap bkC) 0) ∧
  (∀L,ldA 5 ⟨L,H⟩ (.ptr (.g n) gn (i*5))=some (.agg (bkC b)))∧∀o c,o<5→(bkC b)[o]?=some c→∀L,ld1 ⟨L,H⟩ (.ptr (.g n) gn (i*5+o))=some c:=by
 have hi:=(List.getElem?_eq_some_iff.1 ha).1;rcases h with⟨rfl,rfl⟩|⟨n,gn,rfl,h2⟩
 ·simp at hi
 ·refine⟨n,gn,rfl,?_,h2,λL=>?_,λo c ho hc L=>?_⟩
  ·rw[bD,if_pos ⟨by omega,by omega⟩];simp
  ·obtain⟨q1,q2⟩:=NH (e:=bkC) (sz:=5) KN ha
   rw[LP];simp only[h2,fB];rw[if_pos q2,q1]
  ·have h:=dA (e:=bkC) (sz:=5) (off:=o) KN ha ho
   rw[ce];simp only[h2,bM,if_true];rw[h];exact hc
def ns (x:Int):List BkS→Int
 |[]=>-1
 |b::l=>if b.fr≤x∧x<b.to then 0 else if ns x l<0 then -1 else ns x l+1
theorem KG {x:Int}:∀{l:List BkS},(∀b∈l,¬(b.fr≤x∧x<b.to))→ns x l = -1
 |[],_=>rfl
 |b::l,h=>by
  rw[ns,if_neg (h b (by simp)),KG λc hc=>h c (List.mem_cons_of_mem _ hc)];rfl
theorem LG {x:Int}:∀{d:List BkS}{b:BkS}{t:List BkS},(∀c∈d,¬(c.fr≤x∧x<c.to))→b.fr≤x∧x<b.to→ns x (d++b::t)=d.length
 |[],b,t,_,h=>by rw[List.nil_append,ns,if_pos h];rfl
 |c::d,b,t,h1,h=>by
  rw[List.cons_append,ns,if_neg (h1 c (by simp)),LG (λe he=>h1 e (List.mem_cons_of_mem _ he)) h,if_neg (by omega)];simp
theorem x31 (H:List HO) (b:BkS) (hb:Esc b) (k:Nat) (x:Int) (hk:H[k]?=some (.var 1 [.int .i64 x] 0)):FF 31 [.agg (bkC b),.ptr (.g k) 1 0] H=some (.bool (decide (b.fr≤x∧x<b.to)),H):=by
 have hld:∀L,ld1 ⟨L,H⟩ (.ptr (.g k) 1 0)=some (.int .i64 x):=λL=>by rw[ce,hk];rfl
 have hsetL:∀(L:List (Nat×HO)) (H:List HO) i x,bi ⟨L,H⟩ i x=⟨gb L i x,H⟩:=λ_ _ _ _=>rfl
 by_cases h1:b.fr≤x
 ·by_cases h2:x<b.to
  ·rw[decide_eq_true ⟨h1,h2⟩]
   refine aL rfl Try.func31 s31 (Nat.le_of_ble_eq_true rfl) (λQ hqr hqn=>?_);rw[show ∀a,cin (An.pure 31) a=a from λ_=>rfl];simp only[aO,Nat.reduceAdd,c31]
   repeat' (first
   |with_reducible refine aF ?_
   |(with_reducible (first|(refine ah (λK hK=>?_);(first|refine QA ?_|refine QB ?_))|refine hqr _ ?_);(try simp only[true_implies,false_implies,not_true_eq_false,b9,if_true,if_false,Nat.reduceEqDiff,ap,aJ,dg,qO,qP,aq,Nat.zero_add,cb,eX,cw,List.getElem?_cons_zero,List.getElem?_cons_succ,eN,gU,nL,lw,Option.map_some,ic,gf,dU,and_true,if_false,if_true,r31,aQ,ak,aD,Option.bind_some,am,jx,aV,bkC,hld,hsetL,h1,h2,ge_iff_le]))
   |(revert hK;intro hK;(with_reducible refine hK _ ?_;clear hK K)))
  ·rw[decide_eq_false λh=>h2 h.2]
   refine aL rfl Try.func31 s31 (Nat.le_of_ble_eq_true rfl) (λQ hqr hqn=>?_);rw[show ∀a,cin (An.pure 31) a=a from λ_=>rfl];simp only[aO,Nat.reduceAdd,c31]
   repeat' (first
   |with_reducible refine aF ?_
   |(with_reducible (first|(refine ah (λK hK=>?_);(first|refine QA ?_|refine QB ?_))|refine hqr _ ?_);(try simp only[true_implies,false_implies,not_true_eq_false,not_false_eq_true,b9,if_true,if_false,Nat.reduceEqDiff,ap,aJ,dg,qO,qP,aq,Nat.zero_add,cb,eX,cw,List.getElem?_cons_zero,List.getElem?_cons_succ,eN,gU,nL,lw,Option.map_some,ic,gf,dU,and_true,true_and,if_false,if_true,r31,aQ,ak,aD,Option.bind_some,am,jx,aV,bkC,hld,hsetL,h1,h2,ge_iff_le]))
   |(revert hK;intro hK;(with_reducible refine hK _ ?_;clear hK K)))
 ·rw[decide_eq_false λh=>h1 h.1]
  refine aL rfl Try.func31 s31 (Nat.le_of_ble_eq_true rfl) (λQ hqr hqn=>?_);rw[show ∀a,cin (An.pure 31) a=a from λ_=>rfl];simp only[aO,Nat.reduceAdd,c31]
  repeat' (first
  |with_reducible refine aF ?_
  |(with_reducible (first|(refine ah (λK hK=>?_);(first|refine QA ?_|refine QB ?_))|refine hqr _ ?_);(try simp only[true_implies,false_implies,not_false_eq_true,b9,if_true,if_false,Nat.reduceEqDiff,ap,aJ,dg,qO,qP,aq,Nat.zero_add,cb,eX,cw,List.getElem?_cons_zero,List.getElem?_cons_succ,eN,gU,nL,lw,Option.map_some,ic,gf,dU,true_and,if_false,if_true,r31,aQ,ak,aD,Option.bind_some,am,jx,aV,bkC,hld,hsetL,h1,ge_iff_le]))
  |(revert hK;intro hK;(with_reducible refine hK _ ?_;clear hK K)))
theorem escQ_bk {b:BkS}(h:Esc b):eV (.agg (bkC b))=true:=by
 obtain⟨h1,h2⟩:=h;simp only[eV,bkC,List.all_cons,List.all_nil,h1,h2,Bool.and_self,Bool.and_true];rfl
theorem x30 (H:List HO) (v:CV) (l:List BkS) (hv:Blks H v l) (hb:∀b∈l,Esc b) (hl:l.length≤1000000) (k:Nat) (x:Int) (hk:H[k]?=some (.var 1 [.int .i64 x] 0)) :
  FF 30 [v,.func (.func 31) [] [.ptr (.g k) 1 0]] H=some (.int .i64 (ns x l),H):=by
 refine aL rfl Try.func30 s30 (Nat.le_of_ble_eq_true rfl) (λQ hqr hqn=>?_);rw[show ∀a,cin (An.pure 30) a=a from λ_=>rfl];simp only[aO,Nat.reduceAdd,c30]
 repeat' (first
 |with_reducible (first|refine ai ?_|refine aj (id:=0) (λQ0 hn0 hx0 hr0 ho0=>?_))
 |(with_reducible (refine ah (λK hK=>?_);(first|refine sP ?_|refine sQ ?_));(try simp only[b9,if_true,if_false,Nat.reduceEqDiff,aJ,dg,Option.map_some,lenS,if_false,if_true,hv.len]))
 |(revert hK;intro hK;(with_reducible refine hK _ ?_;clear hK K)))
 refine aU (λk' s=>∃(d t:List BkS) (L:List (Nat×HO)),l=d++t∧k'=t.length∧(∀b∈d,¬(b.fr≤x∧x<b.to))∧s=⟨[(0,v),(1,.func (.func 31) [] [.ptr (.g k) 1 0]),(7,.int .i64 l.length),(8,.int .i64 d.length)],⟨L,H⟩⟩) _ ⟨[],l,_,rfl,rfl,(λb h=>by cases h),rfl⟩ ?_;rintro k' s ⟨d,t,L,h3,rfl,hd,rfl⟩ QL0 hnL0 hxL0 hrL0;have hlen:=congrArg List.length h3;simp only[List.length_append] at hlen;simp only[c30l0]
 cases t with
 |nil=>
  simp only[List.length_nil] at hlen;rw[List.append_nil] at h3;have hge:¬((d.length:Int)<l.length):=by omega
  have he:ns x l = -1:=KG (by rw[h3];exact hd)
  repeat' (first
  |with_reducible (first|refine ax rfl ?_|refine aN ?_|refine aF ?_|refine hx0 _ ?_|refine hxL0 _ _ ?_)
  |(with_reducible (first|(refine ah (λK hK=>?_);(first|refine sR ?_|refine t30r7 ?_))|refine hqr _ ?_);(try simp only[true_implies,false_implies,not_false_eq_true,b9,if_true,if_false,Nat.reduceEqDiff,aJ,dg,eN,Option.map_some,true_and,if_false,if_true,r30,aQ,ak,aD,Option.bind_some,am,bz,aV,hge,he]))
  |(revert hK;intro hK;(with_reducible refine hK _ ?_;clear hK K)))
 |cons b t=>
  simp only[List.length_cons] at hlen;have hlt:(d.length:Int)<l.length:=by omega
  have hget:l[d.length]?=some b:=by rw[h3];simp
  have hbe:=hb b (by rw[h3];simp);obtain⟨n,gn,hve,hix,hH,hlA,hl1⟩:=hv.at hget (k:=.i64);have hw:IntKind.i64.wrap ((d.length:Int)+1)=d.length+1:=wI (by omega) (by omega);have hcl:∀L,cd An FF 30 (some 16) 31 [.agg (bkC b),.ptr (.g k) 1 0] ⟨L,H⟩=some (.bool (decide (b.fr≤x∧x<b.to)),⟨L,H⟩):=λL=>by
   rw[cf (A:=An) (F:=FF) (fid:=30) (d:=16) (m:=⟨L,H⟩) rfl (by simp only[List.all_cons,List.all_nil,escQ_bk hbe];rfl) (x31 H b hbe k x hk)];rfl
  by_cases hc:b.fr≤x∧x<b.to
  ·rw[decide_eq_true hc] at hcl
   have he:ns x l=d.length:=by rw[h3];exact LG hd hc
   repeat' (first
   |with_reducible (first|refine ar ?_|refine au rfl ?_|refine bc rfl ?_|refine aF ?_|refine hr0 _ ?_|refine aj (id:=1) (λQ1 hn1 hx1 hr1 ho1=>?_)|refine hr1 _ ?_|refine hrL0 _ ?_)
   |(with_reducible (first|(refine ah (λK hK=>?_);(first|refine sR ?_|refine wq ?_|refine t30r4 ?_|refine ES ?_))|refine hqr _ ?_);(try simp only[true_implies,false_implies,not_true_eq_false,b9,if_true,if_false,Nat.reduceEqDiff,aJ,dg,eN,Option.map_some,List.nil_append,List.cons_append,and_true,if_false,if_true,r30,aQ,ak,aD,Option.bind_some,am,bz,aV,hlt,hix,hlA,dK,hcl,he]))
   |(revert hK;intro hK;(with_reducible refine hK _ ?_;clear hK K)))
  ·rw[decide_eq_false hc] at hcl
   repeat' (first
   |with_reducible (first|refine ar ?_|refine au rfl ?_|refine d7 rfl ?_|refine bx ?_|refine aj (id:=1) (λQ1 hn1 hx1 hr1 ho1=>?_)|refine hn1 _ ?_)
   |(with_reducible ((first|refine ah (λK hK=>?_)|refine aI (λK hK=>?_));(first|refine sR ?_|refine wq ?_|refine t30r4 ?_|refine t30r6 ?_));(try simp only[true_implies,false_implies,not_true_eq_false,b9,if_true,if_false,Nat.reduceEqDiff,aJ,dg,eN,cK,List.nil_append,List.cons_append,and_true,if_false,if_true,hlt,hix,hlA,dK,hcl,hw]))
   |(revert hK;intro hK;(with_reducible refine hK _ ?_;clear hK K)))
   exact hnL0 t.length _ (by simp) ⟨d++[b],t,L,by simp[h3],rfl,λc hc2=>by
    rcases List.mem_append.1 hc2 with h|h
    ·exact hd c h
    ·rw[List.mem_singleton.1 h];exact hc,by simp⟩
theorem x13 (H:List HO) (v:CV) (l:List BkS) (hv:Blks H v l) (hb:∀b∈l,Esc b) (hl:l.length≤1000000) (x:Int) :
  FF 13 [v,.int .i64 x] H=some (.int .i64 (ns x l),H++[.var 1 [.int .i64 x] 0]):=by
 have hE:=hv.app (E:=[.var 1 [.int .i64 x] 0]);have hvq:=hv.esc;have h:=x30 (H++[.var 1 [.int .i64 x] 0]) v l hE hb hl H.length x (by rw[List.getElem?_append_right (Nat.le_refl _),Nat.sub_self];rfl);have hc:∀L,cd An FF 13 (some 7) 30 [v,.func (.func 31) [] [.ptr (.g H.length) 1 0]] ⟨L,H++[.var 1 [.int .i64 x] 0]⟩=some (.int .i64 (ns x l),⟨L,H++[.var 1 [.int .i64 x] 0]⟩):=λL=>by
  have:=cf (A:=An) (F:=FF) (fid:=13) (d:=7) (f:=30) (args:=[v,.func (.func 31) [] [.ptr (.g H.length) 1 0]]) (m:=⟨L,H++[.var 1 [.int .i64 x] 0]⟩) rfl (by simp only[List.all_cons,List.all_nil,hvq];rfl) h;rw[pk] at this;exact this
 have hb:∀m,iB (.int .i64 x) m=some (eP m,ir m [.int .i64 x]):=λm=>ye rfl rfl;refine aL rfl Try.func13 s13 (Nat.le_of_ble_eq_true rfl) (λQ hqr hqn=>?_);rw[show ∀a,cin (An.pure 13) a=a from λ_=>rfl];simp only[aO,Nat.reduceAdd,c13]
 repeat' (first
 |with_reducible refine aF ?_
 |(with_reducible (first|(refine ah (λK hK=>?_);(first|refine t13r0 ?_|refine t13r1 ?_))|refine hqr _ ?_);(try simp only[b9,if_true,if_false,Nat.reduceEqDiff,aJ,dg,Option.map_some,if_false,if_true,r13,aQ,ak,aD,Option.bind_some,am,bz,aV,ce,LP,gA,nM,ot,p4,iK,iM,iI,iN,iL,iJ,pR,pS,jE,gQ,fD,List.append_assoc,List.length_append,List.set_cons_succ,List.set_cons_zero,cn,eV,mmX,dK,hb,hc]))
 |(revert hK;intro hK;(with_reducible refine hK _ ?_;clear hK K)))
theorem k13 {H:List HO}{v:CV}{l:List BkS}(hv:Blks H v l) (hb:∀b∈l,Esc b) (hl:l.length≤1000000) {x:Int}{fid:FuncId}{t:Tmp}{L:List (Nat×HO)} :
  cd An FF fid (some t) 13 [v,.int .i64 x] ⟨L,H⟩=some (.int .i64 (ns x l),⟨L,H++[.var 1 [.int .i64 x] 0]⟩):=by
 rw[cf (A:=An) (F:=FF) (fid:=fid) (d:=t) (m:=⟨L,H⟩) rfl (by simp only[List.all_cons,List.all_nil,hv.esc];rfl) (x13 H v l hv hb hl x)];rfl
def rW (l:List Int) (x:Int):Int:=if x∈l then l.idxOf x else -1
theorem x38 (H:List HO) (v:CV) (l:List Int) (x:Int) (hv:RdI H v l) (hl:l.length≤4294967296):FF 38 [v,.int .i64 x] H=some (.int .i64 (rW l x),H):=by
 refine aL rfl Try.func38 s38 (Nat.le_of_ble_eq_true rfl) (λQ hqr hqn=>?_);rw[show ∀a,cin (An.pure 38) a=a from λ_=>rfl];simp only[aO,Nat.reduceAdd,c38]
 repeat' (first
 |with_reducible (first|refine ai ?_|refine aj (id:=0) (λQ0 hn0 hx0 hr0 ho0=>?_))
 |(with_reducible (refine ah (λK hK=>?_);(first|refine t38r0 ?_|refine t38r1 ?_));(try simp only[b9,if_true,if_false,Nat.reduceEqDiff,aJ,dg,Option.map_some,lenS,if_false,if_true,hv.len]))
 |(revert hK;intro hK;(with_reducible refine hK _ ?_;clear hK K)))
 refine aU (λk s=>∃(d t:List Int),l=d++t∧k=t.length∧x∉d∧s=⟨[(0,v),(1,.int .i64 x),(7,.int .i64 l.length),(8,.int .i64 d.length)],⟨[],H⟩⟩) _ ⟨[],l,rfl,rfl,by simp,rfl⟩ ?_;rintro k s ⟨d,t,h3,rfl,hd,rfl⟩ QL0 hnL0 hxL0 hrL0;have hlen:=congrArg List.length h3;simp only[List.length_append] at hlen
 cases t with
 |nil=>
  simp only[List.length_nil] at hlen;simp only[Pe]
  repeat' (first
  |with_reducible (first|refine ax rfl ?_|refine aN ?_|refine aF ?_|refine hx0 _ ?_|refine hxL0 _ _ ?_)
  |(with_reducible (first|(refine ah (λK hK=>?_);(first|refine t38r2 ?_|refine t38r7 ?_))|refine hqr _ ?_);(try simp only[b9,if_true,if_false,Nat.reduceEqDiff,aJ,dg,eN,Option.map_some,and_true,true_and,if_false,if_true,r38,aQ,ak,aD,Option.bind_some,am,bz,aV,Prod.mk.injEq,CV.int.injEq]))
  |(revert hK;intro hK;(first|refine And.intro ?_ ?_|intro _|omega|(with_reducible refine hK _ ?_;clear hK K))))
  rw[List.append_nil] at h3;rw[rW,if_neg (by rw[h3];exact hd)]
 |cons a t=>
  simp only[List.length_cons] at hlen;have hal:l[d.length]?=some a:=by rw[h3];simp
  obtain⟨p,hp1,hp2⟩:=hv.at hal (k:=.i64);have hw:IntKind.i64.wrap ((d.length:Int)+1)=d.length+1:=wI (by omega) (by omega);simp only[Pe]
  repeat' (first
  |with_reducible (first|refine ar ?_|refine au rfl ?_|refine bc rfl ?_|refine d7 rfl ?_|refine aF ?_|refine bx ?_|refine hr0 _ ?_|refine aj (id:=1) (λQ1 hn1 hx1 hr1 ho1=>?_)|refine hn1 _ ?_|refine hr1 _ ?_|refine hrL0 _ ?_)
  |(with_reducible (first|((first|refine ah (λK hK=>?_)|refine aI (λK hK=>?_));(first|refine t38r2 ?_|refine t38r3 ?_|refine t38r4 ?_|refine t38r5 ?_|refine t38r6 ?_))|refine hqr _ ?_);(try simp only[b9,if_true,if_false,Nat.reduceEqDiff,aJ,dg,eN,gT,Option.map_some,cK,and_true,true_and,if_false,if_true,r38,aQ,ak,aD,Option.bind_some,am,bz,aV,Prod.mk.injEq,CV.int.injEq,hp1,hp2,hw]))
  |(revert hK;intro hK;(first|refine And.intro ?_ ?_|intro _|omega|(with_reducible refine hK _ ?_;clear hK K))))
  ·rename_i he
   rw[rW,if_pos (by rw[h3,he];simp),h3,he,List.idxOf_append,if_neg (by rw[←he];exact hd),List.idxOf_cons_self];simp
  ·rename_i he
   exact hnL0 t.length _ (by simp) ⟨d++[a],t,by simp[h3],rfl,by simp[hd,he],by simp⟩
theorem x22 (H:List HO) (v:CV) (l:List Int) (x:Int) (hv:RdI H v l) (hl:l.length≤4294967296):FF 22 [v,.int .i64 x] H=some (.bool (decide (x∈l)),H):=by
 have hc:cd An FF 22 (some 7) 38 [v,.int .i64 x] ⟨[],H⟩=some (.int .i64 (rW l x),⟨[],H⟩):=by
  rw[cf rfl (by simp only[List.all_cons,hv.esc];rfl) (x38 H v l x hv hl),pk]
 by_cases hx:x∈l
 ·have h1:0≤rW l x:=by rw[rW,if_pos hx];omega
  refine aL rfl Try.func22 s22 (Nat.le_of_ble_eq_true rfl) (λQ hqr hqn=>?_);rw[show ∀a,cin (An.pure 22) a=a from λ_=>rfl];simp only[aO,Nat.reduceAdd,c22]
  repeat' (first
  |with_reducible refine aF ?_
  |(with_reducible (first|(refine ah (λK hK=>?_);(first|refine GT ?_|refine GU ?_))|refine hqr _ ?_);(try simp only[b9,if_true,if_false,Nat.reduceEqDiff,aJ,dg,gU,Option.map_some,and_true,if_false,if_true,r22,aQ,ak,aD,Option.bind_some,am,jx,aV,Prod.mk.injEq,CV.bool.injEq,hc]))
  |(revert hK;intro hK;(first|refine And.intro ?_ ?_|intro _|omega|(with_reducible refine hK _ ?_;clear hK K))))
  simp[hx]
 ·have h1:¬0≤rW l x:=by rw[rW,if_neg hx];omega
  refine aL rfl Try.func22 s22 (Nat.le_of_ble_eq_true rfl) (λQ hqr hqn=>?_);rw[show ∀a,cin (An.pure 22) a=a from λ_=>rfl];simp only[aO,Nat.reduceAdd,c22]
  repeat' (first
  |with_reducible refine aF ?_
  |(with_reducible (first|(refine ah (λK hK=>?_);(first|refine GT ?_|refine GU ?_))|refine hqr _ ?_);(try simp only[b9,if_true,if_false,Nat.reduceEqDiff,aJ,dg,gU,Option.map_some,and_true,if_false,if_true,r22,aQ,ak,aD,Option.bind_some,am,jx,aV,Prod.mk.injEq,CV.bool.injEq,hc]))
  |(revert hK;intro hK;(first|refine And.intro ?_ ?_|intro _|omega|(with_reducible refine hK _ ?_;clear hK K))))
  simp[hx]
theorem k22 {H:List HO}{v:CV}{l:List Int}(hv:RdI H v l) (hl:l.length≤4294967296) {x:Int}{fid:FuncId}{t:Tmp}{L:List (Nat×HO)}:cd An FF fid (some t) 22 [v,.int .i64 x] ⟨L,H⟩=some (.bool (decide (x∈l)),⟨L,H⟩):=by
 rw[cf (A:=An) (F:=FF) (fid:=fid) (d:=t) (m:=⟨L,H⟩) rfl (by simp only[List.all_cons,hv.esc];rfl) (x22 H v l x hv hl),eY]
end Go.Cm
namespace Go.Cm
open Go.Proofs Go.Fl
theorem Lw {k:IntKind}{n:Int}{m:Mem}:Cm.chk true (some (.int k n,m))=some (.int k n,m):=rfl
theorem Mq {p:List In}{i:Nat}{x:In}(h:p[i]?=some x):(gP p).jmp i=vo x:=by
 show(match p[i]? with|some x=>jB x.op||decide (x.op=5)|none=>false)=_
 rw[h];rfl
theorem PV {p:List In}{i:Nat}{x:In}(h:p[i]?=some x):((gP p).wd i:Int)=wdI x:=by
 show(((match p[i]? with|some x=>if x.op=24 then 2 else 1|none=>1):Nat):Int)=_
 rw[h];simp only[wdI]
 split<;>rfl
set_option maxHeartbeats 4000000 in
theorem x21 (p:List In) (hp:gW p=0) (S:List Nat) (hS:∀x,x∈S↔Lead (gP p) x) (H:List HO) (n:Nat) (hH:H[n]?=some (.map 1 (esI .i64 (esB S)))) (a:Nat) (ha:R (gP p) a) :
  FF 21 [sl inC p,.map (.g n) 1,.int .i64 a] H=some (.agg [.int .i64 a,.int .i64 (toF (gP p) a),.int .i64 (last (gP p) a),.nil,.nil],H):=by
 have hg:=vE hp;obtain⟨hn1,hn2,_⟩:=nb hp;have hal:=ha.live hg;have hlk:∀(L:List (Nat×HO)) (s:Nat),gK Try.prog 3 (.bool false) (.map (.g n) 1) (.int .i64 s) false ⟨L,H⟩=some (.bool (decide (s∈S))):=λL s=>by
  rw[fK Try.underlying3 (jq (m:=⟨L,H⟩) (a:=n) (g:=1) hH)];simp only[Bool.false_eq_true,if_false,Nk]
 have hsetL:∀(L:List (Nat×HO)) (H:List HO) i x,bi ⟨L,H⟩ i x=⟨gb L i x,H⟩:=λ_ _ _ _=>rfl;refine aL rfl Try.func21 s21 (Nat.le_of_ble_eq_true rfl) (λQ hqr hqn=>?_);rw[show ∀a,cin (An.pure 21) a=a from λ_=>rfl];simp only[aO,Nat.reduceAdd,c21]
 repeat' (first
 |with_reducible refine bl (id:=0) (λQ0 hn0 hx0 hr0 ho0=>?_)
 |(with_reducible (refine ah (λK hK=>?_);(first|refine t21r0 ?_|refine t21r1 ?_));(try simp only[b9,if_true,if_false,Nat.reduceEqDiff,ap,aJ,dg,qO,qP,bv,aq,eE,Nat.reduceAdd,Nat.zero_add,List.drop_zero,Option.map_some,bg,p6,lj,ay,List.take_zero,List.take_succ_cons,List.drop_succ_cons,List.drop_nil,List.nil_append,List.cons_append,List.append_nil,List.length_cons,List.length_nil,Nat.reduceLeDiff,and_self,Nat.le_refl,if_false,if_true,hsetL]))
 |(revert hK;intro hK;(with_reducible refine hK _ ?_;clear hK K)))
 refine aU (λk s=>∃(i:Nat) (t:Int) (L:List (Nat×HO)) (ts:List (Nat×CV)) (g0 g1:Nat) (cs:List CV),Fl.Row (gP p) a i∧k=p.length - i∧cs.length=5∧aK L 96=some (.var g0 cs 0)∧aK L 112=some (.var g1 [.int .i64 a,.int .i64 t,.int .i64 i,.nil,.nil] 0) ∧
   ac ts 0=sl inC p∧ac ts 1=.map (.g n) 1∧ac ts 6=.ptr (.l 96) g0 0∧ac ts 7=.ptr (.l 112) g1 0∧s=⟨ts,⟨L,H⟩⟩) _ ⟨a,0,_,_,_,_,[.int .i64 0,.int .i64 0,.int .i64 0,.nil,.nil],.base,rfl,rfl,?_,?_,rfl,rfl,rfl,rfl,rfl⟩ ?_
 ·simp[aq]
 ·simp[aq]
 rintro k s ⟨i,t,L,ts,g0,g1,cs,hr,rfl,hcs,h96,h112,e0,e1,e6,e7,rfl⟩ QL0 hnL0 hxL0 hrL0;have hil:=hr.live hg hal;have hin:i<p.length:=hg.lt i hil;obtain⟨x,hx⟩:∃x,p[i]?=some x:=⟨_,List.getElem?_eq_getElem hin⟩;have hix:=hY (k:=.i64) (i:=(i:Int)) inE.len (by omega:0<6) (by omega) hx;have hjm:=Mq hx;have hwd:=PV hx;have hw2:wdI x=1∨wdI x=2:=by unfold wdI;split<;>simp
 have kW:∀t m,cd An FF 21 (some t) 37 [.agg [.int .i64 x.op,.int .i64 x.dst,.int .i64 x.src,.int .i64 x.off,.int .i64 x.imm,.int .u64 x.wide]] m=some (.int .i64 (wdI x),m):=λt m=>k37;have kJ:∀t m,cd An FF 21 (some t) 19 [.agg [.int .i64 x.op,.int .i64 x.dst,.int .i64 x.src,.int .i64 x.off,.int .i64 x.imm,.int .u64 x.wide]] m=some (.bool (vo x),m):=λt m=>k19;have hw:IntKind.i64.wrap ((i:Int)+wdI x)=i+wdI x:=wI (by omega) (by omega);have hld96:∀L',aK L' 96=aK L 96→∀v,stX 5 ⟨L',H⟩ (.ptr (.l 96) g0 0) (.agg v)=stV 5 ⟨L',H⟩ 96 g0 0 (some v) (aK L' 96):=λ_ _ _=>by rw[p6];rfl
 obtain⟨c0,c1,c2,c3,c4,rfl⟩:∃c0 c1 c2 c3 c4,cs=[c0,c1,c2,c3,c4]:=by
  match cs,hcs with
  |[c0,c1,c2,c3,c4],_=>exact⟨_,_,_,_,_,rfl⟩
 simp only[c21l0]
 repeat' (first
 |with_reducible refine bl (id:=1) (λQ1 hn1 hx1 hr1 ho1=>?_)
 |(with_reducible (refine ah (λK hK=>?_);(first|refine t21r2 ?_|refine t21r3 ?_));(try simp only[b9,if_true,if_false,Nat.reduceEqDiff,ap,aJ,dg,aq,Nat.reduceAdd,Nat.zero_add,cb,List.drop_zero,eX,cw,List.getElem?_cons_zero,List.getElem?_cons_succ,cK,p6,lj,ay,List.take_zero,List.take_succ_cons,List.drop_succ_cons,List.nil_append,List.cons_append,List.length_cons,List.length_nil,Nat.reduceLeDiff,and_self,Nat.zero_le,if_false,if_true,e0,e1,e6,e7,h96,h112,hix,inC,d9,kW,Lw,hw,hsetL]))
 |(revert hK;intro hK;(with_reducible refine hK _ ?_;clear hK K)))
 refine k20 (by omega) rfl λvs m' hO hH' hf=>?_;rw[gV hp hil] at hO;have f96:=hf 96 (by decide);have f112:=hf 112 (by decide);obtain⟨L',H'⟩:=m';simp only at hH' f96 f112;subst hH';simp only[aq,Nat.reduceEqDiff,if_true,if_false,h96] at f96 f112;refine hK _ ?_;clear hK K;have hdone:KK (gP p) i→(CV.agg [.int .i64 a,.int .i64 (i+wdI x),.int .i64 i,.nil,.nil])=.agg [.int .i64 a,.int .i64 (toF (gP p) a),.int .i64 (last (gP p) a),.nil,.nil]:=λhs=>by
  have h1:=hr.ends hg hal;rw[Ky hg hil hs] at h1;rw[toF,←h1,←hwd];simp
 obtain⟨sc,hsc⟩:∃sc,sc=(gP p).succ i:=⟨_,rfl⟩;rw[←hsc] at hO;have hlen:=hO.len;rw[d8] at hlen
 by_cases h1:sc.length=1
 ·obtain⟨s,rfl⟩:∃s,sc=[s]:=by
   match sc,h1 with
   |[s],_=>exact⟨s,rfl⟩
  have h1':((List.length [s]:Nat):Int)=1:=rfl;obtain⟨q,hq1,hq2⟩:=hO.at (i:=0) (a:=(s:Int)) rfl (k:=.i64);have hq1':bd 1 vs (.int .i64 0)=some q:=hq1;have hld:=λL'' (h:aK L'' 400=aK L' 400)=>hq2 ⟨L'',H'⟩ h;have hld0:ld1 ⟨L',H'⟩ q=some (.int .i64 s):=hq2 _ rfl
  cases hj:vo x with
  |true=>
   rw[hj] at kJ;have hd:=hdone (λh=>by rw[hjm,hj] at h;cases h.1)
   repeat' (first
   |with_reducible (first|refine ai ?_|refine au rfl ?_|refine b6 ?_|refine hr0 _ ?_|refine hr1 _ ?_|refine hrL0 _ ?_)
   |(with_reducible (first|(refine ah (λK hK=>?_);(first|refine NP ?_|refine Qu ?_))|refine hqr _ ?_);(try simp only[b9,if_true,if_false,Nat.reduceEqDiff,ap,aJ,dg,aq,Nat.reduceAdd,Nat.zero_add,cb,List.drop_zero,eX,kM,cw,List.getElem?_cons_zero,List.getElem?_cons_succ,br,qz,qy,Option.map_some,ic,gf,lenS,dU,p6,lj,ay,List.take_zero,List.take_succ_cons,List.drop_succ_cons,List.drop_nil,List.nil_append,List.cons_append,List.append_nil,List.length_cons,List.length_nil,and_self,Nat.le_refl,gi,if_false,if_true,r21,cl37,aQ,ak,aD,Option.bind_some,am,dD,gI,vV,aV,hlen,h1',ne_eq,eq_self,f96,f112,hix,inC,d9,kJ,hsetL,hd]))
   |(revert hK;intro hK;(first|refine And.intro ?_ ?_|intro _|omega|(with_reducible refine hK _ ?_;clear hK K))))
   skip
  |false=>
   rw[hj] at kJ
   by_cases hm:s∈S
   ·have hk:=hlk L' s
    rw[decide_eq_true hm] at hk;have hd:=hdone (λ⟨_,s',h2,h3⟩=>by
     rw[←hsc] at h2
     injection h2 with h2
     exact h3 (h2 ▸ (hS s).1 hm))
    repeat' (first
    |with_reducible (first|refine ai ?_|refine au rfl ?_|refine b6 ?_|refine hr0 _ ?_|refine hr1 _ ?_|refine hrL0 _ ?_)
    |(with_reducible (first|(refine ah (λK hK=>?_);(first|refine NP ?_|refine Qu ?_))|refine hqr _ ?_);(try simp only[b9,if_true,if_false,Nat.reduceEqDiff,ap,aJ,dg,aq,Nat.reduceAdd,Nat.zero_add,cb,List.drop_zero,eX,kM,cw,List.getElem?_cons_zero,List.getElem?_cons_succ,br,qz,qy,Option.map_some,ic,gf,lenS,dU,p6,lj,ay,List.take_zero,List.take_succ_cons,List.drop_succ_cons,List.drop_nil,List.nil_append,List.cons_append,List.append_nil,List.length_cons,List.length_nil,and_self,Nat.le_refl,gi,if_false,if_true,r21,cl37,aQ,ak,aD,Option.bind_some,am,dD,gI,vV,aV,hlen,h1',ne_eq,eq_self,f96,f112,hix,inC,d9,kJ,hq1',hld0,hk,hsetL,hd]))
    |(revert hK;intro hK;(first|refine And.intro ?_ ?_|intro _|omega|(with_reducible refine hK _ ?_;clear hK K))))
    skip
   ·have hk:=hlk L' s
    rw[decide_eq_false hm] at hk;have hns:¬KK (gP p) i:=λh=>h ⟨by rw[hjm,hj],s,hsc.symm,λh=>hm ((hS s).2 h)⟩;obtain⟨_,h4,_⟩:=HH hg hil hns;rw[←hsc] at h4
    injection h4 with h4
    repeat' (first
    |with_reducible (first|refine ai ?_|refine ar ?_|refine ax rfl ?_|refine hn1 _ ?_)
    |(with_reducible ((first|refine ah (λK hK=>?_)|refine aI (λK hK=>?_));(first|refine NP ?_|refine t21r6 ?_));(try simp only[b9,if_true,if_false,Nat.reduceEqDiff,ap,aJ,dg,Nat.reduceAdd,Nat.zero_add,cb,List.drop_zero,eX,cw,List.getElem?_cons_zero,List.getElem?_cons_succ,br,qz,qy,Option.map_some,ic,gf,lenS,dU,p6,lj,ay,List.take_zero,List.take_succ_cons,List.drop_succ_cons,List.nil_append,List.cons_append,List.length_cons,List.length_nil,Nat.reduceLeDiff,and_self,Nat.zero_le,if_false,if_true,hlen,h1',ne_eq,eq_self,f96,f112,hix,inC,d9,kJ,hq1',hld0,hk,hsetL]))
    |(revert hK;intro hK;(first|refine And.intro ?_ ?_|intro _|omega|(with_reducible refine hK _ ?_;clear hK K))))
    have hwp:=KJ hg hil;have e:(gP p).wd i≤2∧1≤(gP p).wd i:=by omega
    refine hnL0 (p.length - (i+(gP p).wd i)) _ (by omega) ⟨i+(gP p).wd i,i+wdI x,_,_,g0,g1,[c0,c1,c2,c3,c4],.step hr hns,rfl,rfl,?_,?_,rfl,rfl,rfl,rfl,rfl⟩
    ·simp[aq,f96]
    ·simp only[aq,if_true,h4]
 ·have h1':¬((sc.length:Nat):Int)=1:=by omega
  have hd:=hdone (λ⟨_,s',h2,_⟩=>h1 (by rw[hsc,h2];rfl))
  repeat' (first
  |with_reducible (first|refine ai ?_|refine au rfl ?_|refine b6 ?_|refine hr0 _ ?_|refine hr1 _ ?_|refine hrL0 _ ?_)
  |(with_reducible (first|(refine ah (λK hK=>?_);(first|refine NP ?_|refine Qu ?_))|refine hqr _ ?_);(try simp only[true_implies,false_implies,not_false_eq_true,b9,if_true,if_false,Nat.reduceEqDiff,ap,aJ,dg,aq,Nat.reduceAdd,Nat.zero_add,cb,List.drop_zero,eX,kM,cw,List.getElem?_cons_zero,List.getElem?_cons_succ,br,qz,qy,Option.map_some,ic,gf,lenS,dU,p6,lj,ay,List.take_zero,List.take_succ_cons,List.drop_succ_cons,List.drop_nil,List.nil_append,List.cons_append,List.append_nil,List.length_cons,List.length_nil,and_self,true_and,Nat.le_refl,gi,if_false,if_true,r21,cl37,aQ,ak,aD,Option.bind_some,am,dD,gI,vV,aV,hlen,h1',ne_eq,eq_self,f96,f112,hix,inC,d9,hsetL,hd]))
  |(revert hK;intro hK;(with_reducible refine hK _ ?_;clear hK K)))
  skip
end Go.Cm
namespace Go.Cm
open Go.Proofs Go.Fl
theorem MY {m:Mem}{a g i sz:Nat}{v:CV}{cells:List CV}(hn:m.H[a]?=some (.arr g sz cells 0)) (h:i<cells.length) (hp:cz v=true) (hc:ap v=some [v]) :
  stX 1 m (.ptr (.g a) g i) v=some ⟨m.L,m.H.set a (.arr g sz (cells.set i v) 0)⟩:=by
 rw[gQ,hn,hc,mO (by simp only[List.all_cons,List.all_nil,hp,Bool.and_self]) hn,if_pos ⟨rfl,by omega,by omega⟩,kg h];rfl
def BlksO (b:Nat) (H:List HO) (v:CV) (l:List BkS):Prop:=(l=[]∧v=.nil)∨(∃n gn,b≤n∧v=.ref (.g n) gn 0 l.length∧H[n]?=some (.arr gn 5 (l.flatMap bkC) 0))
theorem BlksO.blks {b:Nat}{H:List HO}{v:CV}{l:List BkS}(h:BlksO b H v l):Blks H v l:=by
 rcases h with h|⟨n,gn,_,h⟩
 ·exact .inl h
 ·exact .inr ⟨n,gn,h⟩
theorem BlksO.push {b:Nat}{H:List HO}{v:CV}{l:List BkS}(h:BlksO b H v l) (hb:b≤H.length) {L:List (Nat×HO)}{j jt gt:Nat}{x:BkS}(ht:aK L jt=some (.arr gt 5 (bkC x) 0)) (hl:l.length≤1000000) :
  ∃v' H',ej true j 5 72 v (.ref (.l jt) gt 0 1) ⟨L,H⟩=some (v',⟨L,H'⟩)∧BlksO b H' v' (l++[x])∧b≤H'.length∧∀i,i<b→H'[i]?=H[i]?:=by
 have hc:content ⟨L,H⟩ 5 (.ref (.l jt) gt 0 1)=some (bkC x):=by rw[cU,ht,dz];rfl
 rcases h with⟨rfl,rfl⟩|⟨n,gn,h1,rfl,h2⟩
 ·refine⟨.ref (.g H.length) 1 0 1,H++[HO.arr 1 5 (bkC x) 0],?_,.inr ⟨H.length,1,hb,rfl,?_⟩,by simp;omega,λi hi=>List.getElem?_append_left (by omega)⟩
  ·rw[iD,hc,fq,eG (by decide),if_pos (dI (by decide) (by decide))];rfl
  ·rw[List.getElem?_append_right (Nat.le_refl _),Nat.sub_self];rfl
 ·have hnl:=(List.getElem?_eq_some_iff.1 h2).1
  have htk:(l.flatMap bkC).take (l.length*5)=l.flatMap bkC:=List.take_of_length_le (by rw[bC KN];omega)
  refine⟨.ref (.g n) (gn+1) 0 (l.length+1),H.set n (.arr (gn+1) 5 ((l++[x]).flatMap bkC) 0),?_,.inr ⟨n,gn+1,h1,by simp,?_⟩,by simp;omega,λi hi=>List.getElem?_set_ne (by omega)⟩
  ·rw[tt,hc,fq]
   simp only[h2];rw[if_pos ⟨trivial,trivial,by omega,dI (by decide) (by omega)⟩];simp only[jE,List.drop_zero,htk,Nat.zero_sub,List.flatMap_append,List.flatMap_cons,List.flatMap_nil,List.append_nil]
  ·rw[List.getElem?_set_self hnl]
def sel (x:BkS) (c:Bool):CV:=if c then x.pv else x.sv
def upB (x:BkS) (c:Bool) (w:CV):BkS:=if c then { x with pv:=w } else { x with sv:=w }
def Oa (c:Bool):Nat:=if c then 4 else 3
def hdB (x:BkS):Int×Int×Int:=(x.fr,x.to,x.la)
structure BI (b n gn:Nat) (H0 H:List HO) (l:List BkS) (sp:Nat→Bool→List Int):Prop where
 bn:b≤n
 out:H[n]?=some (.arr gn 5 (l.flatMap bkC) 0)
 row:∀(j:Nat) (c:Bool) (x:BkS),l[j]?=some x→(sel x c=.nil∧sp j c=[])∨∃m g,sel x c=.ref (.g m) g 0 (sp j c).length∧b≤m∧m≠n∧H[m]?=some (.arr g 1 ((sp j c).flatMap aX) 0)
 apart:∀(j:Nat) (c:Bool) (x:BkS) (j':Nat) (c':Bool) (x':BkS) (m g g' k k':Nat),l[j]?=some x→l[j']?=some x'→sel x c=.ref (.g m) g 0 k→sel x' c'=.ref (.g m) g' 0 k'→j=j'∧c=c'
 old:∀i,i<b→H[i]?=H0[i]?
section
variable {b n gn:Nat}{H0 H:List HO}{l:List BkS}{sp:Nat→Bool→List Int}
theorem BI.ref (h:BI b n gn H0 H l sp) {j:Nat}{x:BkS}(hj:l[j]?=some x) (c:Bool):RdI H (sel x c) (sp j c):=by
 rcases h.row j c x hj with⟨h1,h2⟩|⟨m,g,h1,_,_,h2⟩
 ·rw[h1,h2];exact .inr (.inl ⟨rfl,rfl⟩)
 ·rw[h1];exact .inr (.inr ⟨m,g,0,rfl,h2⟩)
theorem BI.esc (h:BI b n gn H0 H l sp):∀x∈l,Esc x:=by
 intro x hx;obtain⟨j,hj⟩:=List.getElem?_of_mem hx;have f:∀c,cz (sel x c)=true:=λc=>by
  rcases h.row j c x hj with⟨h1,_⟩|⟨m,g,h1,_⟩<;>rw[h1]<;>rfl
 exact⟨f false,f true⟩
theorem BI.blks (h:BI b n gn H0 H l sp):Blks H (.ref (.g n) gn 0 l.length) l:=.inr ⟨n,gn,rfl,h.out⟩
theorem BI.more (h:BI b n gn H0 H l sp) (E:List HO):BI b n gn H0 (H++E) l sp where
 bn:=h.bn
 out:=by rw[List.getElem?_append_left (List.getElem?_eq_some_iff.1 h.out).1,h.out]
 row j c x hj:=by
  rcases h.row j c x hj with h1|⟨m,g,h1,h2,h3,h4⟩
  ·exact .inl h1
  ·exact .inr ⟨m,g,h1,h2,h3,by rw[List.getElem?_append_left (List.getElem?_eq_some_iff.1 h4).1,h4]⟩
 apart:=h.apart
 old i hi:=by
  have:=(List.getElem?_eq_some_iff.1 h.out).1;have:=h.bn;rw[List.getElem?_append_left (by omega),h.old i hi]
theorem MK {l:List BkS}{j:Nat}{x:BkS}(hj:l[j]?=some x) (c:Bool) (w:CV):(l.flatMap bkC).set (j*5+Oa c) w=(l.set j (upB x c w)).flatMap bkC:=by
 induction l generalizing j with
 |nil=>simp at hj
 |cons y l ih=>
  cases j with
  |zero=>
   simp only[List.getElem?_cons_zero,Option.some.injEq] at hj;subst hj
   cases c<;>rfl
  |succ j=>
   have:=ih (j:=j) (by simpa using hj);rw[List.set_cons_succ,List.flatMap_cons,List.flatMap_cons,←this,show(j+1)*5+Oa c=(bkC y).length+(j*5+Oa c) by rw[KN];omega,List.set_append_right _ _ (by omega),Nat.add_sub_cancel_left]
theorem Lx {x:BkS}{c c':Bool}{w:CV}:sel (upB x c w) c'=if c'=c then w else sel x c':=by
 cases c<;>cases c'<;>rfl
theorem hd_upB {x:BkS}{c:Bool}{w:CV}:hdB (upB x c w)=hdB x:=by cases c<;>rfl
theorem BI.step (h:BI b n gn H0 H l sp) {j:Nat}{c:Bool}{x:BkS}(hj:l[j]?=some x) (a:Int) {gt jj jt:Nat}{L:List (Nat×HO)}(ht:aK L jt=some (.arr gt 1 [.int .i64 a] 0)) (hl:(sp j c).length+1≤4294967296) :
  ∃w H2 H3,ej true jj 1 8 (sel x c) (.ref (.l jt) gt 0 1) ⟨L,H⟩=some (w,⟨L,H2⟩)∧stX 1 ⟨L,H2⟩ (.ptr (.g n) gn (j*5+Oa c)) w=some ⟨L,H3⟩ ∧
   BI b n gn H0 H3 (l.set j (upB x c w)) (λj' c'=>if j'=j∧c'=c then sp j c++[a] else sp j' c'):=by
 have hc:content ⟨L,H⟩ 1 (.ref (.l jt) gt 0 1)=some [.int .i64 a]:=by rw[cU,ht,dz];rfl
 have hnl:=(List.getElem?_eq_some_iff.1 h.out).1;have hjl:=(List.getElem?_eq_some_iff.1 hj).1;have hbn:=h.bn;have hfit:j*5+Oa c<(l.flatMap bkC).length:=by
  rw[bC KN];unfold Oa;split<;>omega
 have hget:∀(w:CV) (j':Nat),(l.set j (upB x c w))[j']?=if j'=j then some (upB x c w) else l[j']?:=λw j'=>by
  rw[List.getElem?_set]
  by_cases e:j'=j
  ·subst e;simp[hjl]
  ·rw[if_neg (Ne.symm e),if_neg e]
 rcases h.row j c x hj with⟨h1,h2⟩|⟨m,g,h1,h5,h6,h2⟩
 · -- a new row
  have hout:(H++[HO.arr 1 1 [.int .i64 a] 0])[n]?=some (.arr gn 5 (l.flatMap bkC) 0):=by rw[List.getElem?_append_left hnl];exact h.out
  refine⟨.ref (.g H.length) 1 0 1,H++[HO.arr 1 1 [.int .i64 a] 0],(H++[HO.arr 1 1 [.int .i64 a] 0]).set n (.arr gn 5 ((l.set j (upB x c (.ref (.g H.length) 1 0 1))).flatMap bkC) 0),?_,?_,?_⟩
  ·rw[h1,iD,hc,fq,eG (by decide),if_pos (dI (by decide) (by decide))];rfl
  ·rw[MY (m:=⟨L,H++[HO.arr 1 1 [.int .i64 a] 0]⟩) hout hfit rfl rfl,MK hj]
  ·have hfresh:∀(j':Nat) (c':Bool) (x':BkS) (m g k:Nat),l[j']?=some x'→sel x' c'=.ref (.g m) g 0 k→m<H.length:=by
    intro j' c' x' m g k hx' he;rcases h.row j' c' x' hx' with⟨h3,_⟩|⟨m',g',h3,_,_,h4⟩
    ·rw[h3] at he;cases he
    ·rw[h3] at he
     simp only[CV.ref.injEq,Key.g.injEq] at he;rw[←he.1];exact(List.getElem?_eq_some_iff.1 h4).1
   refine⟨hbn,by rw[List.getElem?_set_self (by simp;omega)],λj' c' x' hx'=>?_,λj1 c1 x1 j2 c2 x2 m g g' k k' e1 e2 s1 s2=>?_,λi hi=>?_⟩
   ·rw[hget] at hx'
    by_cases e:j'=j
    ·subst e
     rw[if_pos rfl] at hx';simp only[Option.some.injEq] at hx';subst hx';rw[Lx]
     by_cases ec:c'=c
     ·subst ec
      right
      refine⟨H.length,1,?_,by omega,by omega,?_⟩
      ·simp[h2]
      ·rw[List.getElem?_set_ne (by omega),List.getElem?_append_right (by omega)]
       simp[h2,aX]
     ·rw[if_neg ec,if_neg (λe=>ec e.2)]
      rcases h.row j' c' x hj with h3|⟨m',g',h3,h4,h5,h6⟩
      ·exact .inl h3
      ·have:=(List.getElem?_eq_some_iff.1 h6).1
       exact .inr ⟨m',g',h3,h4,h5,by rw[List.getElem?_set_ne (Ne.symm h5),List.getElem?_append_left this,h6]⟩
    ·rw[if_neg e] at hx'
     rw[if_neg (λe'=>e e'.1)];rcases h.row j' c' x' hx' with h3|⟨m',g',h3,h4,h5,h6⟩
     ·exact .inl h3
     ·have:=(List.getElem?_eq_some_iff.1 h6).1
      exact .inr ⟨m',g',h3,h4,h5,by rw[List.getElem?_set_ne (Ne.symm h5),List.getElem?_append_left this,h6]⟩
   ·have key:∀(j1:Nat) (c1:Bool) (x1:BkS) (m g k:Nat),(l.set j (upB x c (.ref (.g H.length) 1 0 1)))[j1]?=some x1→sel x1 c1=.ref (.g m) g 0 k→(j1=j∧c1=c∧m=H.length)∨(∃x',l[j1]?=some x'∧sel x' c1=.ref (.g m) g 0 k):=by
     intro j1 c1 x1 m g k e1 s1;rw[hget] at e1
     by_cases e:j1=j
     ·subst e
      rw[if_pos rfl] at e1;simp only[Option.some.injEq] at e1;subst e1;rw[Lx] at s1
      by_cases ec:c1=c
      ·rw[if_pos ec] at s1
       simp only[CV.ref.injEq,Key.g.injEq] at s1;exact .inl ⟨rfl,ec,s1.1.symm⟩
      ·rw[if_neg ec] at s1
       exact .inr ⟨x,hj,s1⟩
     ·rw[if_neg e] at e1
      exact .inr ⟨x1,e1,s1⟩
    rcases key _ _ _ _ _ _ e1 s1 with⟨a1,a2,a3⟩|⟨y1,a1,a2⟩<;>rcases key _ _ _ _ _ _ e2 s2 with⟨b1,b2,b3⟩|⟨y2,b1,b2⟩
    ·exact⟨a1.trans b1.symm,a2.trans b2.symm⟩
    ·have:=hfresh _ _ _ _ _ _ b1 b2;omega
    ·have:=hfresh _ _ _ _ _ _ a1 a2;omega
    ·exact h.apart _ _ _ _ _ _ _ _ _ _ _ a1 b1 a2 b2
   ·rw[List.getElem?_set_ne (by omega),List.getElem?_append_left (by omega)];exact h.old i hi
 · -- a row that is Hm longer
  have hml:=(List.getElem?_eq_some_iff.1 h2).1;have hout:(H.set m (.arr (g+1) 1 ((sp j c++[a]).flatMap aX) 0))[n]?=some (.arr gn 5 (l.flatMap bkC) 0):=by rw[List.getElem?_set_ne h6];exact h.out
  refine⟨.ref (.g m) (g+1) 0 ((sp j c).length+1),H.set m (.arr (g+1) 1 ((sp j c++[a]).flatMap aX) 0),(H.set m (.arr (g+1) 1 ((sp j c++[a]).flatMap aX) 0)).set n (.arr gn 5 ((l.set j (upB x c (.ref (.g m) (g+1) 0 ((sp j c).length+1)))).flatMap bkC) 0),?_,?_,?_⟩
  ·have htk:((sp j c).flatMap aX).take ((sp j c).length*1)=(sp j c).flatMap aX:=List.take_of_length_le (by rw[dL];omega)
   rw[h1,tt,hc,fq];simp only[h2];rw[if_pos ⟨trivial,trivial,by omega,dI (by decide) hl⟩];simp only[jE,List.drop_zero,htk,Nat.zero_sub,List.flatMap_append,List.flatMap_cons,List.flatMap_nil,List.append_nil,aX]
  ·rw[MY (m:=⟨L,H.set m (.arr (g+1) 1 ((sp j c++[a]).flatMap aX) 0)⟩) hout hfit rfl rfl,MK hj]
  ·refine⟨hbn,by rw[List.getElem?_set_self (by simp;omega)],λj' c' x' hx'=>?_,λj1 c1 x1 j2 c2 x2 m1 g1 g2 k k' e1 e2 s1 s2=>?_,λi hi=>?_⟩
   ·have hsame:∀(j':Nat) (c':Bool) (x':BkS),¬(j'=j∧c'=c)→l[j']?=some x'→(sel x' c'=.nil∧sp j' c'=[])∨∃m' g',sel x' c'=.ref (.g m') g' 0 (sp j' c').length∧b≤m'∧m'≠n ∧
      ((H.set m (.arr (g+1) 1 ((sp j c++[a]).flatMap aX) 0)).set n (.arr gn 5 ((l.set j (upB x c (.ref (.g m) (g+1) 0 ((sp j c).length+1)))).flatMap bkC) 0))[m']?=some (.arr g' 1 ((sp j' c').flatMap aX) 0):=by
     intro j' c' x' hne hx';rcases h.row j' c' x' hx' with h3|⟨m',g',h3,h4,h5,h7⟩
     ·exact .inl h3
     ·have hmm:m≠m':=λe=>hne (by
       have:=h.apart j c x j' c' x' m g g' _ _ hj hx' h1 (by rw[e];exact h3)
       exact⟨this.1.symm,this.2.symm⟩)
      exact .inr ⟨m',g',h3,h4,h5,by rw[List.getElem?_set_ne (Ne.symm h5),List.getElem?_set_ne hmm,h7]⟩
    rw[hget] at hx'
    by_cases e:j'=j
    ·subst e
     rw[if_pos rfl] at hx';simp only[Option.some.injEq] at hx';subst hx';rw[Lx]
     by_cases ec:c'=c
     ·subst ec
      right
      refine⟨m,g+1,?_,h5,h6,?_⟩
      ·simp
      ·rw[List.getElem?_set_ne (Ne.symm h6),List.getElem?_set_self hml]
       simp
     ·rw[if_neg ec,if_neg (λe=>ec e.2)]
      exact hsame j' c' x (λe=>ec e.2) hj
    ·rw[if_neg e] at hx'
     rw[if_neg (λe'=>e e'.1)];exact hsame j' c' x' (λe'=>e e'.1) hx'
   ·have key:∀(j1:Nat) (c1:Bool) (x1:BkS) (m1 g1 k:Nat),(l.set j (upB x c (.ref (.g m) (g+1) 0 ((sp j c).length+1))))[j1]?=some x1→sel x1 c1=.ref (.g m1) g1 0 k→∃x' g' k',l[j1]?=some x'∧sel x' c1=.ref (.g m1) g' 0 k':=by
     intro j1 c1 x1 m1 g1 k e1 s1;rw[hget] at e1
     by_cases e:j1=j
     ·subst e
      rw[if_pos rfl] at e1;simp only[Option.some.injEq] at e1;subst e1;rw[Lx] at s1
      by_cases ec:c1=c
      ·rw[if_pos ec] at s1
       simp only[CV.ref.injEq,Key.g.injEq] at s1
       exact⟨x,g,_,hj,by rw[ec,h1,s1.1]⟩
      ·rw[if_neg ec] at s1
       exact⟨x,g1,k,hj,s1⟩
     ·rw[if_neg e] at e1
      exact⟨x1,g1,k,e1,s1⟩
    obtain⟨y1,q1,r1,a1,a2⟩:=key _ _ _ _ _ _ e1 s1;obtain⟨y2,q2,r2,b1,b2⟩:=key _ _ _ _ _ _ e2 s2;exact h.apart _ _ _ _ _ _ _ _ _ _ _ a1 b1 a2 b2
   ·rw[List.getElem?_set_ne (by omega),List.getElem?_set_ne (by omega)];exact h.old i hi
end
end Go.Cm
namespace Go.Cm
open Go.Proofs Go.Fl
def N6 (S:List Nat) (s:Nat):List Nat:=if s∈S then S else S++[s]
theorem P6 {S:List Nat}{s x:Nat}:x∈N6 S s↔x∈S∨x=s:=by
 unfold N6;split
 ·rename_i h
  exact⟨.inl,λh2=>h2.elim id λe=>e ▸ h⟩
 ·simp
theorem MF:∀{l:List Int}{x:Int},x∈l→jP (l.map λy=>(y,CV.bool true)) x (.bool true)=l.map λy=>(y,.bool true)
 |[],_,h=>by cases h
 |a::l,x,h=>by
  simp only[List.map_cons,jP]
  by_cases e:a=x
  ·rw[if_pos e,e]
  ·rw[if_neg e,MF (by
    rcases List.mem_cons.1 h with h|h
    ·exact absurd h.symm e
    ·exact h)]
theorem NZ {S:List Nat}{s:Nat}:jP (esB S) s (.bool true)=esB (N6 S s):=by
 unfold N6;split
 ·rename_i h
  exact MF (nI_mem.2 h)
 ·rename_i h
  exact ME h
theorem NJ {S:List Nat}{s:Nat}{H0:List HO}{L:List (Nat×HO)}:mB Try.prog 3 (.map (.g H0.length) 1) (.int .i64 s) (.bool true) ⟨L,H0++[.map 1 (esI .i64 (esB S))]⟩=some ⟨L,H0++[.map 1 (esI .i64 (esB (N6 S s)))]⟩:=by
 have hh:=MS (P:=Try.prog) (t:=3) (k:=.i64) (key:=.g H0.length) (g:=1) (a:=(s:Int)) (v:=CV.bool true) (m:=⟨L,H0++[HO.map 1 (esI .i64 (esB S))]⟩) (l:=esB S) Try.underlying3 rfl (by show(H0++[HO.map 1 (esI .i64 (esB S))])[H0.length]?=_;rw[nM];rfl);rw[NZ] at hh;rw[hh];show some (Mem.mk L ((H0++[HO.map 1 (esI .i64 (esB S))]).set H0.length _))=_;rw[p4];rfl
theorem Om {a b c:Int}{s:Nat}{m:Mem}{z:List CV}(hz:z.length=5):be false s 5 1 z [(0,5,.agg [.int .i64 a,.int .i64 b,.int .i64 c,.nil,.nil])] m =
  some (.ref (.l s) (bj m.L s) 0 1,bi m s (.arr (bj m.L s) 5 (bkC ⟨a,b,c,.nil,.nil⟩) 0)):=by
 match z,hz with
 |[_,_,_,_,_],_=>rfl
noncomputable def hdF (g:Gp) (a:Nat):Int×Int×Int:=(a,toF g a,Fl.last g a)
noncomputable def bk0 (g:Gp) (a:Nat):BkS:=⟨a,toF g a,Fl.last g a,.nil,.nil⟩
theorem MJ {g:Gp}{x:Nat}:∀{l:List BkS}{ll:List Nat},l.map hdB=ll.map (hdF g)→ns x l=match HE g x ll with
  |some k=>(k:Int)
  |none=>-1
 |[],[],_=>rfl
 |[],_::_,h=>by simp at h
 |_::_,[],h=>by simp at h
 |b::l,a::ll,h=>by
  simp only[List.map_cons,List.cons.injEq] at h;obtain⟨h1,h2⟩:=h;simp only[hdB,hdF,Prod.mk.injEq] at h1;obtain⟨e1,e2,_⟩:=h1;have ih:=MJ (x:=x) h2;unfold ns HE
  by_cases hc:a≤x∧x<toF g a
  ·rw[if_pos (by rw[e1,e2];omega),if_pos hc];rfl
  ·rw[if_neg (by rw[e1,e2];omega),if_neg hc,ih]
   cases HE g x ll with
   |none=>rfl
   |some k=>
    simp only[Option.map_some];rw[if_neg (by omega)];simp
theorem LH {g:Gp}{x:Nat}{l:List BkS}(h:l.map hdB=(cj g).map (hdF g)):ns x l=fk g x:=by
 rw[MJ h];rfl
noncomputable def spA (g:Gp) (k:Nat) (D:List Int) (j:Nat) (c:Bool):List Int:=
 if c then tp g j 0 ((cj g).take k)++(if (j:Int)∈D then [(k:Int)] else [])
 else if j<k then (match (cj g)[j]? with|some a=>KI g a|none=>[]) else if j=k then D else []
theorem MW {g:Gp}{k a:Nat}(h:(cj g)[k]?=some a):spA g k (KI g a)=spA g (k+1) []:=by
 funext j c
 obtain⟨hk,hk2⟩:=List.getElem?_eq_some_iff.1 h
 cases c with
 |true=>
  simp only[spA,if_true,List.not_mem_nil,if_false,List.append_nil];rw[List.take_add_one,h,Option.toList_some,Mg,List.length_take,Nat.min_eq_left (by omega),Nat.zero_add]
 |false=>
  simp only[spA,Bool.false_eq_true,if_false]
  by_cases h1:j<k
  ·rw[if_pos h1,if_pos (by omega)]
  ·by_cases h2:j=k
   ·rw[if_neg h1,if_pos h2,if_pos (by omega),h2,h]
   ·rw[if_neg h1,if_neg h2,if_neg (by omega)]
    split<;>rfl
theorem MX {D:List Int}{t:Int}(ht:t∈D):dd D [t]=D:=by simp[dd,ht]
theorem NL {g:Gp}{k kt:Nat}{D:List Int}(ht:(kt:Int)∉D) (hk:k<(cj g).length) :
  (λj c=>if j=kt∧c=true then (λj' c'=>if j'=k∧c'=false then spA g k D k false++[(kt:Int)] else spA g k D j' c') kt true++[(k:Int)] else (λj' c'=>if j'=k∧c'=false then spA g k D k false++[(kt:Int)] else spA g k D j' c') j c)=spA g k (D++[(kt:Int)]):=by
 funext j c
 cases c with
 |true=>
  simp only[Bool.true_eq_false,and_false,if_false,and_true,spA,if_true,List.mem_append,List.mem_singleton]
  by_cases e:j=kt
  ·subst e
   rw[if_pos rfl,if_neg ht,if_pos (.inr rfl)];simp
  ·rw[if_neg e]
   by_cases h:(j:Int)∈D
   ·rw[if_pos h,if_pos (.inl h)]
   ·rw[if_neg h,if_neg (λh2=>h2.elim h λh3=>e (by omega))]
 |false=>
  simp only[Bool.false_eq_true,and_false,if_false,and_true,spA]
  by_cases h1:j=k
  ·subst h1
   simp
  ·rw[if_neg h1]
   by_cases h2:j<k
   ·rw[if_pos h2,if_pos h2]
   ·rw[if_neg h2,if_neg h2,if_neg h1,if_neg h1]
end Go.Cm
