import Derived.Test.YtjhndbgokapikaaCvX2
import Derived.ChangeArms
import Derived.SizedLaws
import Derived.RowKit3
import Derived.ChangeSame
import Derived.WideKeyArgs
set_option linter.unusedSimpArgs false
set_option linter.unusedVariables false
namespace Go.Cm
inductive D where
 |b (x:Bool)
 |i (k:IntKind) (n:Int)
 |s (x:ByteArray)
 |sl (ds:List D)
 |ag (ds:List D)
 deriving Inhabited
mutual
def D.cells:D→List CV
 |.b x=>[.bool x]
 |.i k n=>[.int k n]
 |.s x=>[.str x]
 |.sl ds=>[.imm ds.length (D.cellsL ds)]
 |.ag ds=>D.cellsL ds
def D.cellsL:List D→List CV
 |[]=>[]
 |d::ds=>D.cells d++D.cellsL ds
end
def D.cv:D→CV
 |.b x=>.bool x
 |.i k n=>.int k n
 |.s x=>.str x
 |.sl ds=>.imm ds.length (D.cellsL ds)
 |.ag ds=>.agg (D.cellsL ds)
section
variable (P:Program)
def Eb:Nat→List Field→Option Nat
 |o,[]=>some o
 |o,f::fs=>if f.offset=o then Eb (o+P.cellsOf f.type) fs else none
def ig:Nat→TypeId→Bool
 |0,_=>false
 |n+1,t=>
  match P.underlying t with
  |some .bool=>decide (P.cellsOf t=1)
  |some (.int _)=>decide (P.cellsOf t=1)
  |some .string=>decide (P.cellsOf t=1)
  |some (.slice e)=>decide (P.cellsOf t=1)&&decide (0<P.cellsOf e)&&ig n e
  |some (.struct fs)=>decide (Eb P 0 fs.toList=some (P.cellsOf t))&&fs.toList.all λf=>ig n f.type
  |_=>false
def oks (ok:TypeId→D→Prop):List TypeId→List D→Prop
 |[],[]=>True
 |t::ts,d::ds=>ok t d∧oks ok ts ds
 |_,_=>False
def D.ok:Nat→TypeId→D→Prop
 |0,_,_=>False
 |n+1,t,d=>
  match P.underlying t with
  |some .bool=>∃x,d=.b x
  |some (.int k)=>∃m,d=.i k m∧k.min≤m∧m≤k.max
  |some .string=>∃x,d=.s x
  |some (.slice e)=>∃ds,d=.sl ds∧ds.length≤maxLen∧∀x∈ds,D.ok n e x
  |some (.struct fs)=>∃ds,d=.ag ds∧oks (D.ok n) (fs.toList.map (·.type)) ds
  |_=>False
def D.fit:Nat→TypeId→D→Prop
 |0,_,_=>True
 |n+1,t,d=>
  match P.underlying t with
  |some (.slice e)=>∀ds,d=.sl ds→ds.length*P.bytesOf e≤reachBytes∧∀x∈ds,D.fit n e x
  |some (.struct fs)=>∀ds,d=.ag ds→oks (D.fit n) (fs.toList.map (·.type)) ds
  |_=>True
end
mutual
def D.bulk:D→Nat
 |.s x=>x.size+1
 |.sl ds=>D.bulkL ds+1
 |.ag ds=>D.bulkL ds+1
 |_=>1
def D.bulkL:List D→Nat
 |[]=>0
 |d::ds=>D.bulk d+D.bulkL ds
end
structure BulkOK {H:Type}(bk:DataW H→Nat):Prop where
 lit:∀l,1≤bk (.lit l)
 str:∀b,b.length+1≤bk (.lit (.string b))
 nil:1≤bk .nil
 slice:∀es sp,(es.map bk).sum+1≤bk (.slice es sp)
 agg:∀ps,(ps.map bk).sum+1≤bk (.agg ps)
theorem LC {H:Type}{bk:DataW H→Nat}:∀(ds:List D) (l:List (DataW H)),ds.length=l.length→(∀(i:Nat) (x:D) (e:DataW H),ds[i]?=some x→l[i]?=some e→D.bulk x≤bk e)→D.bulkL ds≤(l.map bk).sum
 |[],_,_,_=>by simp[D.bulkL]
 |d::ds,[],h,_=>by simp at h
 |d::ds,e::l,h,h2=>by
  have h3:=h2 0 d e rfl rfl;have h4:=LC ds l (by simpa using h) λi x e hx he=>h2 (i+1) x e (by simpa using hx) (by simpa using he);simp only[D.bulkL,List.map_cons,List.sum_cons];omega
theorem lC {A B:TypeId→D→Prop}{W:Prop}:∀{ts:List TypeId}{ds:List D},oks (λt d=>A t d∧(W→B t d)) ts ds→oks A ts ds∧(W→oks B ts ds)
 |[],[],_=>⟨trivial,λ_=>trivial⟩
 |_::_,_::_,h=>⟨⟨h.1.1,(lC h.2).1⟩,λw=>⟨h.1.2 w,(lC h.2).2 w⟩⟩
 |[],_::_,h=>h.elim
 |_::_,[],h=>h.elim
theorem iA {H:Type}{P:Program}{e:TypeId}:∀{l:List (DataW H)}{d:DataW H},d∈l→∀z∈d.weights P e,z∈DataW.weightsAll P e l
 |x::l,d,h,z,hz=>by
  simp only[DataW.weightsAll,List.mem_append];rcases List.mem_cons.1 h with rfl|h
  ·exact .inl hz
  ·exact .inr (iA h z hz)
section
variable {P:Program}{w:World}{H:Type}{enc:TypeId×Value→H}{base:Nat}{sp:Nat→Bool}{held:Bool}{Q:PM}{M:MM}
def oV (w:World):KM:=λb o=>w.cell? ⟨b,o,none⟩
theorem pj (a:Addr) (n:Nat):(a.add n).block=a.block:=by unfold Addr.add;split<;>rfl
theorem uY (a:Addr) (n:Nat):(a.add n).off=a.off+n:=by
 unfold Addr.add;split
 ·rename_i h;simp_all
 ·rfl
theorem add_zero (a:Addr):a.add 0=a:=by unfold Addr.add;simp
theorem ni {a:Addr}{n:Nat}{cs:List Value}(h:w.cells? base a n=some cs):cs.length=n∧(0<n→a.spot=none)∧∀(i:Nat) (v:Value),cs[i]?=some v→oV w a.block (a.off+i)=some v:=by
 unfold World.cells? at h
 split at h
 ·have key:∀(l:List Nat) (cs:List Value),(l.mapM λi=>w.cell? (a.add i))=some cs→cs.length=l.length∧∀(i:Nat) (v:Value),cs[i]?=some v→∃j,l[i]?=some j∧w.cell? (a.add j)=some v:=by
   intro l
   induction l with
   |nil=>intro cs h;simp at h;subst h;exact⟨rfl,λi v hv=>by simp at hv⟩
   |cons x l ih=>
    intro cs h;simp only[List.mapM_cons,Option.pure_def,Option.bind_eq_bind,Option.bind_eq_some_iff,Option.some.injEq] at h;obtain⟨v,hv,r,hr,rfl⟩:=h;obtain⟨h1,h2⟩:=ih r hr
    refine⟨by simp[h1],λi u hu=>?_⟩
    cases i with
    |zero=>simp only[List.getElem?_cons_zero,Option.some.injEq] at hu;subst hu;exact⟨x,rfl,hv⟩
    |succ i=>simp only[List.getElem?_cons_succ] at hu ⊢;exact h2 i u hu
  obtain⟨h1,h2⟩:=key _ _ h;have hcell:∀j v,w.cell? (a.add j)=some v→(a.add j).spot=none:=by
   intro j v hv;unfold World.cell? at hv
   split at hv
   ·split at hv
    ·cases hv
    ·rename_i hs;simpa using hs
   ·cases hv
  have hidx:∀{i:Nat}{j:Nat},(List.range n)[i]?=some j→j=i:=by
   intro i j hj;rw[List.getElem?_range (by have:=(List.getElem?_eq_some_iff.1 hj).1;simpa using this)] at hj;simpa using hj.symm
  refine⟨by simpa using h1,λhn=>?_,λi v hv=>?_⟩
  ·have hl:0<cs.length:=by simpa[h1] using hn
   obtain⟨j,hj0,hj⟩:=h2 0 cs[0] (List.getElem?_eq_getElem hl);have:=hidx hj0;subst this;have:=hcell _ _ hj
   rwa [add_zero] at this
  ·obtain⟨j,hj,hv'⟩:=h2 i v hv
   have hij:=hidx hj;subst hij;have hs:=hcell _ _ hv';simp only[oV];rw[←hv',←pj a j,←uY a j]
   congr 1
   generalize a.add j=x at hs;cases x;simp only at hs;rw[hs]
 ·cases h
variable {K:KM}
theorem mW {cs1 cs2:List CV}{vs:List Value}(n:Nat) (h1:Vs K M Q false cs1 (vs.take n)) (h2:Vs K M Q false cs2 (vs.drop n)):Vs K M Q false (cs1++cs2) vs:=by
 have:=gF h1 h2
 rwa [List.take_append_drop] at this
theorem pg:∀{cs cs':List CV}{b o:Nat},Vk K M Q b o cs→Vk K M Q b (o+cs.length) cs'→Vk K M Q b o (cs++cs')
 |[],cs',b,o,_,h=>by simpa using h
 |c::cs,cs',b,o,h,h'=>by
  simp only[Vk,List.cons_append] at h ⊢
  refine⟨h.1,pg h.2 ?_⟩
  rw[show o+1+cs.length=o+(c::cs).length from by simp;omega];exact h'
theorem xS {cs:List CV}{vs:List Value}{b o:Nat}(h:Vs K M Q false cs vs) (hk:∀(j:Nat) (v:Value),vs[j]?=some v→K b (o+j)=some v):Vk K M Q b o cs:=
 ph λi c hc=>by
  obtain⟨v,h1,h2⟩:=dX h hc
  exact⟨v,hk i v h1,h2⟩
theorem jF:∀(a b:List D),D.cellsL (a++b)=D.cellsL a++D.cellsL b
 |[],b=>rfl
 |d::a,b=>by simp only[List.cons_append,D.cellsL,jF a b,List.append_assoc]
theorem En {ok:Nat→D→Prop}{b o sz:Nat}:∀(len:Nat),(∀i,i<len→∃d:D,ok i d∧d.cells.length=sz∧d.cells.all bE=true∧Vk K M Q b (o+i*sz) d.cells) →
  ∃ds:List D,ds.length=len∧(∀(i:Nat) (x:D),ds[i]?=some x→ok i x)∧(D.cellsL ds).length=len*sz∧(D.cellsL ds).all bE=true∧Vk K M Q b o (D.cellsL ds)
 |0,_=>⟨[],rfl,by simp,by simp[D.cellsL],by simp[D.cellsL],by simp[D.cellsL,Vk]⟩
 |n+1,h=>by
  obtain⟨ds,h1,h2,h3,h4,h5⟩:=En n λi hi=>h i (by omega);obtain⟨d,e1,e2,e3,e4⟩:=h n (by omega);have hc:D.cellsL (ds++[d])=D.cellsL ds++d.cells:=by rw[jF];simp[D.cellsL]
  refine⟨ds++[d],by simp[h1],λi x hx=>?_,by rw[hc,List.length_append,h3,e2,Nat.succ_mul],by rw[hc,List.all_append,h4,e3];rfl,?_⟩
  ·by_cases hi:i<ds.length
   ·rw[List.getElem?_append_left hi] at hx;exact h2 i x hx
   ·have hlt:=(List.getElem?_eq_some_iff.1 hx).1
    simp only[List.length_append,List.length_singleton] at hlt
    obtain rfl:i=ds.length:=by omega
    rw[List.getElem?_append_right (Nat.le_refl _),Nat.sub_self] at hx;simp only[List.getElem?_cons_zero,Option.some.injEq] at hx;subst hx;rw[h1];exact e1
  ·rw[hc]
   refine pg h5 ?_;rw[h3];exact e4
theorem Ed {A:TypeId→D→Prop}:∀{ts:List TypeId}{ds:List D},ds.length=ts.length→(∀(i:Nat) (t:TypeId) (d:D),ts[i]?=some t→ds[i]?=some d→A t d)→oks A ts ds
 |[],[],_,_=>trivial
 |t::ts,d::ds,hl,h=>⟨h 0 t d rfl rfl,Ed (by simpa using hl) λi t' d' h1 h2=>h (i+1) t' d' (by simpa using h1) (by simpa using h2)⟩
 |[],_::_,hl,_=>by simp at hl
 |_::_,[],hl,_=>by simp at hl
theorem rP {cs:List Value}:∀(ok:Nat→TypeId→D→Prop) (fs:List Field) (o m:Nat),Eb P o fs=some m →
  (∀(i:Nat) (f:Field),fs[i]?=some f→∃d:D,ok i f.type d∧((cs.drop f.offset).take (P.cellsOf f.type)).length=P.cellsOf f.type∧d.cells.all bE=true∧Vs K M Q false d.cells ((cs.drop f.offset).take (P.cellsOf f.type))) →
  o≤m∧∃ds:List D,ds.length=fs.length∧(∀(i:Nat) (f:Field) (d:D),fs[i]?=some f→ds[i]?=some d→ok i f.type d)∧(D.cellsL ds).all bE=true∧Vs K M Q false (D.cellsL ds) ((cs.drop o).take (m - o))
 |ok,[],o,m,h,_=>by
  simp only[Eb,Option.some.injEq] at h;subst h
  exact⟨Nat.le_refl _,[],rfl,λi f d h=>by simp at h,by simp[D.cellsL],by simp[D.cellsL,Vs]⟩
 |ok,f::fs,o,m,h,hf=>by
  simp only[Eb] at h
  split at h
  ·rename_i ho
   obtain⟨hle,ds,hl,h1,h2,h3⟩:=rP (λi=>ok (i+1)) fs _ m h λi f' hf'=>hf (i+1) f' (by simpa using hf');obtain⟨d,e1,e2,e3,e4⟩:=hf 0 f rfl;rw[ho] at e2 e4
   refine⟨by omega,d::ds,by simp[hl],λi f' d' hi hd=>?_,by simp only[D.cellsL,List.all_append,e3,h2,Bool.and_self],?_⟩
   ·cases i with
    |zero=>
     simp only[List.getElem?_cons_zero,Option.some.injEq] at hi hd;subst hi;subst hd;exact e1
    |succ i=>exact h1 i f' d' (by simpa using hi) (by simpa using hd)
   simp only[D.cellsL];refine mW (P.cellsOf f.type) ?_ ?_
   ·rw[List.take_take,Nat.min_eq_left (by omega)]
    exact e4
   ·rw[List.drop_take,List.drop_drop,show m - o - P.cellsOf f.type=m - (o+P.cellsOf f.type) from by omega]
    exact h3
  ·cases h
theorem trod_D:∀(n:Nat) (t:TypeId) (cs:List Value) (x:DataW H×List MemPlace) (fuel:Nat),ig P n t=true→DataW.trod enc P w base sp held fuel t cs=some x →
  ∃d,D.ok P n t d∧cs.length=P.cellsOf t∧d.cells.all bE=true∧Vs (oV w) M Q false d.cells cs∧((∀z∈DataW.weights P t x.1,z≤reachBytes)→D.fit P n t d)∧∀bk,BulkOK bk→D.bulk d≤bk x.1:=by
 intro n
 induction n with
 |zero=>intro t cs x fuel h;simp[ig] at h
 |succ n ih=>
  intro t cs x fuel hr h;simp only[ig] at hr
  split at hr
  ·rename_i ht
   obtain⟨b,rfl,hxe⟩:=DataW.trod_bool ht h
   refine⟨.b b,by simp only[D.ok,ht];exact⟨b,rfl⟩,by simpa using(of_decide_eq_true hr).symm,by simp[D.cells,bE],?_,λ_=>by simp only[D.fit,ht],λbk hb=>by rw[hxe];exact hb.lit _⟩
   simp[D.cells,Vs,V]
  ·rename_i k ht
   obtain⟨m,rfl,hxe,hwf⟩:=DataW.trod_int ht h;simp only[Lit.wf,Bool.and_eq_true,decide_eq_true_eq] at hwf
   refine⟨.i k m,by simp only[D.ok,ht];exact⟨m,rfl,hwf.1,hwf.2⟩,by simpa using(of_decide_eq_true hr).symm,by simp[D.cells,bE],?_,λ_=>by simp only[D.fit,ht],λbk hb=>by rw[hxe];exact hb.lit _⟩
   simp[D.cells,Vs,V]
  ·rename_i ht
   obtain⟨s,rfl,hxe,_⟩:=DataW.trod_string ht h
   refine⟨.s s,by simp only[D.ok,ht];exact⟨s,rfl⟩,by simpa using(of_decide_eq_true hr).symm,by simp[D.cells,bE],?_,λ_=>by simp only[D.fit,ht],λbk hb=>by rw[hxe];have:=hb.str s.data.toList;rw[Array.length_toList] at this;exact this⟩
   simp[D.cells,Vs,V]
  ·rename_i e ht
   simp only[Bool.and_eq_true,decide_eq_true_eq] at hr;obtain⟨⟨h1,hsz⟩,hre⟩:=hr;rcases DataW.trod_slice ht h with⟨rfl,hxe⟩|⟨a,len,cap,elems,rest,fu,rfl,rfl,hxe,_,hlc,hcm,hel,hread,_⟩
   ·refine⟨.sl [],by simp only[D.ok,ht];exact⟨[],rfl,by simp,by simp⟩,by simpa using h1.symm,by simp[D.cells,bE],?_,λ_=>by
     simp only[D.fit,ht];intro ds hd
     injection hd with hd
     subst hd
     exact⟨by simp,by simp⟩,λbk hb=>by rw[hxe];exact hb.nil⟩
    simp only[D.cells,Vs,V,D.cellsL]
    exact⟨_,[],rfl,⟨by simp,none,0,rfl,by simp,.inl trivial⟩,rfl⟩
   ·generalize hWW:(∀z∈DataW.weights P t (DataW.slice (elems.map (·.1)) (rest.map (·.1))),z≤reachBytes)=WW
    have hrow:∀i,i<len→∃d:D,((D.ok P n e d∧(WW→D.fit P n e d))∧∀bk,BulkOK bk→∀y,elems[i]?=some y→D.bulk d≤bk y.1)∧d.cells.length=P.cellsOf e∧d.cells.all bE=true∧Vk (oV w) M Q a.block (a.off+i*P.cellsOf e) d.cells:=by
     intro i hi;have hb:=hread i hi;rw[List.getElem?_eq_getElem (by omega),Option.bind_eq_some_iff] at hb;obtain⟨ci,hci,hti⟩:=hb;obtain⟨d,e1,e2,e3,e4,e5,e6⟩:=ih e ci _ _ hre hti;obtain⟨_,_,hk⟩:=ni hci;rw[pj,uY] at hk
     refine⟨d,⟨⟨e1,λhw=>e5 λz hz=>?_⟩,λbk hb y hy=>by rw[List.getElem?_eq_getElem (by omega)] at hy;injection hy with hy;rw[←hy];exact e6 bk hb⟩,by rw[←e2];exact(bT e4).symm,e3,xS e4 hk⟩
     rw[←hWW] at hw;refine hw z ?_;simp only[DataW.weights,ht,List.mem_cons,List.mem_append];exact .inr (.inl (iA (List.mem_map_of_mem (List.getElem_mem _)) z hz))
    have hspot:0<len→a.spot=none:=by
     intro h0;have hb:=hread 0 h0;rw[List.getElem?_eq_getElem (by omega),Option.bind_eq_some_iff] at hb;obtain⟨ci,hci,_⟩:=hb;have:=(ni hci).2.1 hsz
     rwa [Nat.zero_mul,add_zero] at this
    obtain⟨ds,g1,g2,g3,g4,g5⟩:=En (K:=oV w) (M:=M) (Q:=Q) (ok:=λi d=>(D.ok P n e d∧(WW→D.fit P n e d))∧∀bk,BulkOK bk→∀y,elems[i]?=some y→D.bulk d≤bk y.1) len hrow;have g2':∀x∈ds,D.ok P n e x∧(WW→D.fit P n e x):=λx hx=>by
     obtain⟨i,hi⟩:=List.getElem?_of_mem hx
     exact(g2 i x hi).1
    refine⟨.sl ds,by simp only[D.ok,ht];exact⟨ds,rfl,by omega,λx hx=>(g2' x hx).1⟩,by simpa using h1.symm,by simp[D.cells,bE],?_,λhw=>by
     rw[hxe] at hw;simp only[D.fit,ht];intro ds' hd
     injection hd with hd
     subst hd;have hw':WW:=by rw[←hWW];exact hw
     refine⟨?_,λx hx=>(g2' x hx).2 hw'⟩
     have h9:=hw ((elems.length+rest.length)*P.bytesOf e) (by simp only[DataW.weights,ht,List.mem_cons,List.length_map,true_or]);have h8:ds.length*P.bytesOf e≤(elems.length+rest.length)*P.bytesOf e:=Nat.mul_le_mul (by omega) (Nat.le_refl _)
     omega,λbk hb=>by
      rw[hxe];have k1:=LC (bk:=bk) ds (elems.map (·.1)) (by rw[List.length_map];omega) (λi x y hx hy=>by
       rw[List.getElem?_map] at hy
       cases hy2:elems[i]? with
       |none=>rw[hy2] at hy;simp at hy
       |some q=>
        rw[hy2] at hy;simp only[Option.map_some,Option.some.injEq] at hy;rw[←hy]
        exact(g2 i x hx).2 bk hb q hy2)
      have k2:=hb.slice (elems.map (·.1)) (rest.map (·.1));simp only[D.bulk]
      omega⟩
    simp only[D.cells,Vs,V]
    refine⟨_,[],rfl,⟨g4,some a,cap,by rw[g1],by omega,?_⟩,rfl⟩
    rcases Nat.eq_zero_or_pos len with h0|h0
    ·left
     rw[h0] at g3;exact List.eq_nil_of_length_eq_zero (by simpa using g3)
    ·right
     obtain⟨ab,ao,as⟩:=a;have:=hspot h0;simp only at this;subst this
     exact⟨ab,ao,rfl,g5⟩
  ·rename_i fs ht
   simp only[Bool.and_eq_true,decide_eq_true_eq] at hr;obtain⟨xs,fu,rfl,hxe,hlen,hxl,hread⟩:=DataW.trod_struct ht h;generalize hWW:(∀z∈DataW.weights P t (DataW.agg (xs.map (·.1))),z≤reachBytes)=WW;obtain⟨_,ds,gl,g1,g2,g3⟩:=rP (K:=oV w) (M:=M) (Q:=Q) (cs:=cs) (λi t d=>(D.ok P n t d∧(WW→D.fit P n t d))∧∀bk,BulkOK bk→∀y,xs[i]?=some y→D.bulk d≤bk y.1) fs.toList 0 _ hr.1 λi f hf=>by
    have hi:=hf;rw[Array.getElem?_toList] at hi;have hb:=hread i f hi;have hxi:=List.getElem?_eq_getElem (by rw[hxl];exact(Array.getElem?_eq_some_iff.1 hi).1:i<xs.length);rw[hxi] at hb;obtain⟨d,e1,e2,e3,e4,e5,e6⟩:=ih f.type _ _ _ (List.all_eq_true.1 hr.2 f (List.mem_of_getElem? hf)) hb
    refine⟨d,⟨⟨e1,λhw=>e5 λz hz=>?_⟩,λbk hbk y hy=>?_⟩,e2,e3,e4⟩
    ·rw[←hWW] at hw
     refine hw z ?_;simp only[DataW.weights,ht];refine DataW.weights_mem_each (j:=i) (t:=f.type) ?_ ?_ z hz
     ·rw[List.getElem?_map,Array.getElem?_toList,hi];rfl
     ·rw[List.getElem?_map,hxi];rfl
    ·rw[hxi] at hy
     injection hy with hy
     rw[←hy];exact e6 bk hbk
   have gk:∀(i:Nat) (t:TypeId) (d:D),(fs.toList.map (·.type))[i]?=some t→ds[i]?=some d→(D.ok P n t d∧(WW→D.fit P n t d))∧∀bk,BulkOK bk→∀y,xs[i]?=some y→D.bulk d≤bk y.1:=λi t d hi hd=>by
    rw[List.getElem?_map] at hi
    cases hf:fs.toList[i]? with
    |none=>rw[hf] at hi;cases hi
    |some f=>
     rw[hf] at hi;simp only[Option.map_some,Option.some.injEq] at hi;subst hi;exact g1 i f d hf hd
   have gl':ds.length=(fs.toList.map (·.type)).length:=by rw[List.length_map];exact gl
   obtain⟨g1,g1'⟩:=lC (Ed (A:=λt d=>D.ok P n t d∧(WW→D.fit P n t d)) gl' λi t d h1 h2=>(gk i t d h1 h2).1)
   refine⟨.ag ds,by simp only[D.ok,ht];exact⟨ds,rfl,g1⟩,hlen,by simpa[D.cells] using g2,?_,λhw=>by
    rw[hxe] at hw;simp only[D.fit,ht];intro ds' hd
    injection hd with hd
    subst hd;have hw':WW:=by rw[←hWW];exact hw
    exact g1' hw',λbk hb=>by
    rw[hxe];have h0:=hb.agg (xs.map (·.1));have h1:=LC (bk:=bk) ds (xs.map (·.1)) (by rw[List.length_map,hxl,gl];simp) (λi x y hx hy=>by
     rw[List.getElem?_map] at hy
     cases hxi:xs[i]? with
     |none=>rw[hxi] at hy;cases hy
     |some z=>
      rw[hxi] at hy;simp only[Option.map_some,Option.some.injEq] at hy;subst hy;have hlt:=(List.getElem?_eq_some_iff.1 hx).1;have hti:(fs.toList.map (·.type))[i]?=some ((fs.toList.map (·.type))[i]'(by omega)):=List.getElem?_eq_getElem (by omega)
      exact(gk i _ x hti hx).2 bk hb z hxi)
    simp only[D.bulk];omega⟩
   simp only[D.cells]
   rwa [List.drop_zero,Nat.sub_zero,List.take_of_length_le (by omega)] at g3
  ·cases hr
end
end Go.Cm
namespace Go.Cm
section
variable {P:Program}{w:World}{H:Type}{enc:TypeId×Value→H}{base b0:Nat}{sp:Nat→Bool}{held:Bool}{Q:PM}{M:MM}
theorem value_D {n:Nat}{t:TypeId}{v:Value}{d0:DataW H}{ps:List MemPlace}(hr:ig P n t=true) (hval:Value.okWide P w .any b0 t v) (h:DataW.Trod enc P w base sp held t v d0 ps) :
  ∃d,D.ok P n t d∧V (oV w) M Q false d.cv v∧((∀z∈DataW.weights P t d0,z≤reachBytes)→D.fit P n t d)∧∀bk,BulkOK bk→D.bulk d≤bk d0:=by
 obtain⟨fuel,hf⟩:=h;obtain⟨d,h1,_,h3,h4,h5,h6⟩:=trod_D (M:=M) (Q:=Q) n t _ _ fuel hr hf
 refine⟨d,h1,?_,h5,h6⟩
 cases n with
 |zero=>simp[ig] at hr
 |succ n=>
  have one:∀{c:CV},(∀cs,v≠.agg cs)→d.cells=[c]→V (oV w) M Q false c v:=by
   intro c hna hc;have:v.cells.toList=[v]:=by cases v<;>first|rfl|exact absurd rfl (hna _)
   rw[this,hc] at h4;simp only[Vs] at h4;obtain⟨v',r,he,hv,_⟩:=h4;simp only[List.cons.injEq] at he;rw[he.1];exact hv
  simp only[D.ok] at h1;unfold Value.okWide at hval
  split at h1
  ·rename_i ht
   obtain⟨x,rfl⟩:=h1;refine one (λcs he=>?_) rfl;subst he;simp[ht,Cell.okWide,Cell.ok] at hval
  ·rename_i k ht
   obtain⟨m,rfl,_⟩:=h1;refine one (λcs he=>?_) rfl;subst he;simp[ht,Cell.okWide,Cell.ok] at hval
  ·rename_i ht
   obtain⟨x,rfl⟩:=h1;refine one (λcs he=>?_) rfl;subst he;simp[ht,Cell.okWide,Cell.ok] at hval
  ·rename_i e ht
   obtain⟨ds,rfl,_⟩:=h1;refine one (λcs he=>?_) rfl;subst he;simp[ht,Cell.okWide,Cell.ok] at hval
  ·rename_i fs ht
   obtain⟨ds,rfl,_⟩:=h1;simp only[ht] at hval;obtain⟨cs,rfl,_⟩:=hval;simp only[D.cv,V]
   exact⟨by simpa[D.cells] using h3,cs,rfl,h4⟩
  ·cases h1
theorem yb {n:Nat}:∀(ts:List TypeId) (vs:List Value) (ds:List (DataW H)) (ps:List MemPlace),ts.all (ig P n)=true →
  (∀(j:Nat) (t:TypeId) (v:Value),ts[j]?=some t→vs[j]?=some v→Value.okWide P w .any b0 t v)→DataW.TrodAll enc P w base sp held ts vs ds ps →
  ∃as:List D,oks (D.ok P n) ts as∧Vs (oV w) M Q false (as.map D.cv) vs∧((∀z∈DataW.weightsEach P ts ds,z≤reachBytes)→oks (D.fit P n) ts as)∧∀bk,BulkOK bk→D.bulkL as≤(ds.map bk).sum
 |[],[],[],_,_,_,_=>⟨[],trivial,by simp[Vs],λ_=>trivial,λbk _=>by simp[D.bulkL]⟩
 |t::ts,v::vs,d::ds,ps,hr,hval,h=>by
  obtain⟨p,q,h1,h2,_⟩:=h;simp only[List.all_cons,Bool.and_eq_true] at hr;obtain⟨a,e1,e2,e3,e4⟩:=value_D (M:=M) (Q:=Q) hr.1 (hval 0 t v rfl rfl) h1;obtain⟨as,g1,g2,g3,g4⟩:=yb ts vs ds q hr.2 (λj t v ht hv=>hval (j+1) t v (by simpa using ht) (by simpa using hv)) h2
  exact⟨a::as,⟨e1,g1⟩,by simp only[List.map_cons,Vs];exact⟨v,vs,rfl,e2,g2⟩,λhw=>⟨e3 λz hz=>hw z (by simp only[DataW.weightsEach,List.mem_append];exact .inl hz),
   g3 λz hz=>hw z (by simp only[DataW.weightsEach,List.mem_append];exact .inr hz)⟩,λbk hb=>by
   have:=e4 bk hb;have:=g4 bk hb;simp only[D.bulkL,List.map_cons,List.sum_cons];omega⟩
theorem oT {ts:List TypeId}(hl:laidOutB P=true) (hr:∀t∈ts,P.readableRec t=true∧t<P.types.size) {W W':World}{sp':Nat→Bool}:∀{vs:List Value}{ds:List (DataW H)}{ps:List MemPlace},
  DataW.TrodAll enc P W base (λ_=>true) true ts vs ds ps→(∀p∈ps,W.sameAt W' p)→(∀p∈ps,sp' p.block=true)→DataW.TrodAll enc P W' base sp' true ts vs ds ps:=by
 induction ts with
 |nil=>
  intro vs ds ps h _ _
  cases vs<;>cases ds<;>first|exact h|exact h.elim
 |cons t ts ih=>
  intro vs ds ps h hs hp
  cases vs with
  |nil=>exact h.elim
  |cons v vs=>
   cases ds with
   |nil=>exact h.elim
   |cons d ds=>
    obtain⟨p,q,h1,h2,rfl⟩:=h;obtain⟨hr1,hr2⟩:=hr t List.mem_cons_self
    exact⟨p,q,WideElems.Trod_stays hl hr1 hr2 h1 (λx hx=>hs x (List.mem_append_left _ hx)) (λx hx=>hp x (List.mem_append_left _ hx)),
     ih (λt ht=>hr t (List.mem_cons_of_mem _ ht)) h2 (λx hx=>hs x (List.mem_append_right _ hx)) (λx hx=>hp x (List.mem_append_right _ hx)),rfl⟩
open Go.RowKit Go.ChangeShapes Go.WideShapes in
theorem xy {f:Func}{s:ChangeSpec}{apart fresh handsOn again:Bool}{W W':World}{args:Array Value}{v:Value}{ds gs:List (DataW H)}{before pa pv:List MemPlace}
  (hW:DataW.Whole enc P f.params.toList s.vars apart W args.toList ds gs before)
  (hres:∀(b:Nat) (sp:Nat→Bool) (hd:Bool),DataW.TrodAll enc P W' b sp hd f.resultTypes.toList (v.resultList f.resultTypes.size) (s.fn H (ds++gs)).results [])
  (hargs:∀sp:Nat→Bool,(∀p∈before,sp p.block=true)→DataW.TrodAll enc P W' 0 sp true f.params.toList args.toList (s.fn H (ds++gs)).args pa)
  (hvars:∀sp:Nat→Bool,(∀p∈before,sp p.block=true)→DataW.TrodVars enc P W' sp s.vars (s.fn H (ds++gs)).vars pv)
  (hps:before=pa++pv) (hk:W.keptBut W' (·∈before)) (hfz:∀a:Addr,a.block<W.heap.size→W'.frozen? a=W.frozen? a)
  (hok:∀(j:Nat) (t:TypeId) (r:Value),f.resultTypes[j]?=some t→(v.resultList f.resultTypes.size)[j]?=some r→Value.okWide P W' .any 0 t r) :
  s.post enc P f apart fresh handsOn again W args v W':=by
 have hold:∀p∈before,(λb=>decide (b<W.heap.size)) p.block=true:=λp hp=>by simpa using hW.lt p hp
 have hlt:=hW.lt
 refine⟨ds,gs,before,[],pa,pv,hW,hres _ _ _,hargs _ hold,hvars _ hold,World.keptBut_mono (λp hp=>⟨hp,?_⟩) hk,λ_=>?_⟩
 ·rw[hps,List.mem_append] at hp
  exact Or.inr hp
 ·obtain⟨_,_,_,_,_,hz,hn⟩:=hW
  refine⟨hok,_,_,([]++pa)++pv,⟨[]++pa,pv,trodAll_append (hargs _ (λ_ _=>rfl)) (hres _ _ _),hvars _ (λ_ _=>rfl),rfl,?_,?_⟩,?_⟩
  ·intro b off hp
   have hp':MemPlace.cell b off∈before:=by rw[hps];simpa using hp
   rw[hfz _ (hlt _ hp')];exact hz b off hp'
  ·intro ha
   have:=hn ha;rw[hps] at this;simpa using this
  ·intro p hp _
   rw[hps];simpa using hp
open Go.RowKit Go.ChangeShapes in
theorem nA {n:Nat}{f:FuncId}{fn:Func}{s:ChangeSpec}{apart fresh handsOn again:Bool}{tb:TypeId}(hl:laidOutB P=true)
  (hr:(fn.params.toList.all λt=>P.readableRec t&&decide (t<P.types.size)&&ig P n t)=true) (hvars:s.vars=[]) (hres:fn.resultTypes=#[tb]) (htb:P.underlying tb=some .bool)
  (hspec:∀ds:List (DataW H),ds.length=fn.params.size→s.fn H ds={ results:=[.lit (.bool true)],args:=ds,vars:=[] })
  (hsim:∀as:List D,oks (D.ok P n) fn.params.toList as→oks (D.fit P n) fn.params.toList as→∃H',SimAt P f (as.map D.cv) [] (.bool true) H')
  {W:World}{args:Array Value}{ds gs:List (DataW H)}{before:List MemPlace}(hval:∀(j:Nat) (t:TypeId) (v:Value),fn.params[j]?=some t→args[j]?=some v→Value.okWide P W .any b0 t v)
  {T:List TypeId}(hwt:(DataW.weightsEach P (fn.params.toList++T) (ds++gs)).all (·≤reachBytes)=true)
  (hW:DataW.Whole enc P fn.params.toList s.vars apart W args.toList ds gs before) :
  Calls P f args W λe W'=>∃v,e=.returned v∧s.post enc P fn apart fresh handsOn again W args v W':=by
 have hW':=hW;obtain⟨p,q,hA,hV,rfl,hfz,hnd⟩:=hW;rw[hvars] at hV;obtain⟨rfl,rfl⟩:=trodVars_none hV;have hr':=λt ht=>List.all_eq_true.1 hr t ht;simp only[Bool.and_eq_true,decide_eq_true_eq] at hr';obtain⟨as,g1,g2,g3,_⟩:=yb (M:=gm []) (Q:=λ_=>none) (n:=n) _ _ _ _ (List.all_eq_true.2 λt ht=>(hr' t ht).2) (λj t v ht hv=>hval j t v (by simpa using ht) (by simpa using hv)) hA;have hwe:∀z∈DataW.weightsEach P fn.params.toList ds,z≤reachBytes:=by
  intro z hz;refine of_decide_eq_true (List.all_eq_true.1 hwt z ?_);have:∀(ts:List TypeId) (ds:List (DataW H)),z∈DataW.weightsEach P ts ds→z∈DataW.weightsEach P (ts++T) (ds++[]):=by
   intro ts
   induction ts with
   |nil=>intro ds h;cases ds<;>simp[DataW.weightsEach] at h
   |cons t ts ih=>
    intro ds h
    cases ds with
    |nil=>simp[DataW.weightsEach] at h
    |cons d ds=>
     simp only[List.cons_append,DataW.weightsEach,List.mem_append] at h ⊢;exact h.imp id (ih ds)
  exact this _ _ hz
 obtain⟨H',_,hs⟩:=hsim as g1 (g3 hwe);have hlen:ds.length=fn.params.size:=by
  have:∀(ts:List TypeId) (vs:List Value) (ds:List (DataW H)) (ps:List MemPlace),DataW.TrodAll enc P W 0 (λ_=>true) true ts vs ds ps→ds.length=ts.length:=by
   intro ts
   induction ts with
   |nil=>intro vs ds ps h;cases vs<;>cases ds<;>first|rfl|exact h.elim
   |cons t ts ih=>
    intro vs ds ps h
    cases vs<;>cases ds<;>first|exact h.elim|skip
    obtain⟨_,_,_,h,_⟩:=h;simp[ih _ _ _ h]
  simpa using this _ _ _ _ hA
 have hsp:=hspec (ds++[]) (by simpa using hlen)
 refine(hs (oV W) (λ_=>none) W args (MR.none λb o v h=>h) g2).mono ?_
 rintro e W' ⟨v,K',Q',rfl,_,hsi,hrv⟩;have hv:v=.bool true:=by
  simp only[RV,RV1,V] at hrv;obtain⟨_,_,h⟩:=hrv;exact h
 subst hv;have hold:∀b,b<W.heap.size→W'.heap[b]?=W.heap[b]?:=λb hb=>hsi.frame b hb (by simp);have hsame:∀x∈p,W.sameAt W' x:=by
  intro x hx;have hlt:=hW'.lt x (by simpa using hx)
  cases x with
  |cell b o=>exact cQ (hold b hlt)
  |map b=>exact hold b hlt
 refine⟨_,rfl,xy (pa:=p) (pv:=[]) hW' (λ_ _ _=>?_) (λsp' hsp'=>?_) (λ_ _=>?_) rfl ?_ hsi.io.fz (ok_one hres rfl (okWide_bool_mk htb _))⟩
 ·rw[hsp,hres]
  exact trodAll_mk1 (shut_bool htb _)
 ·rw[hsp]
  simp only[List.append_nil];exact oT hl (λt ht=>(hr' t ht).1) hA hsame (λx hx=>hsp' x (by simpa using hx))
 ·rw[hsp,hvars];rfl
 ·refine⟨hsi.io.os,hsi.io.out,λi hi=>?_⟩
  rw[hold i hi]
  cases h:W.heap[i]? with
  |none=>simp
  |some o=>cases o<;>simp
end
end Go.Cm
namespace Go.Cm
section
variable {P:Program}{A:Ann}{F:aW}{fid:FuncId}{nt:Nat}
theorem lz {f f':CS→Option (CE×CS)}(hf:∀s r,f s=some r→f' s=some r):∀(n n':Nat) (s:CS) (r:CE×CS),n≤n'→ly n f s=some r→ly n' f' s=some r
 |0,_,_,_,_,h=>by simp[ly] at h
 |n+1,0,_,_,hle,_=>by omega
 |n+1,n'+1,s,r,hle,h=>by
  simp only[ly,Option.bind_eq_some_iff] at h ⊢;obtain⟨r1,h1,h2⟩:=h
  refine⟨r1,hf _ _ h1,?_⟩
  obtain⟨e,s1⟩:=r1;cases e
  case normal=>exact lz hf n n' _ _ (by omega) h2
  all_goals exact h2
end
abbrev rp:=List CV→List HO→Option (CV×List HO)
def tab0:aW:=λ_ _ _=>none
def tab (f:FuncId) (c:rp) (F:aW):aW:=λg args H=>if g=f then c args H else F g args H
theorem Es (P:Program):Sim P tab0:=λ_ _ _ _ _ h=>by cases h
theorem qZ {P:Program}{f:FuncId}{c:rp}{F:aW}(hc:∀args H r H',c args H=some (r,H')→SimAt P f args H r H') (hF:Sim P F):Sim P (tab f c F):=by
 intro g args H r H' h;unfold tab at h
 split at h
 ·rename_i he;subst he;exact hc _ _ _ _ h
 ·exact hF _ _ _ _ _ h
end Go.Cm
namespace Go.Cm
section
variable {P:Program}{A:Ann}{F:aW}{fid:FuncId}{nt:Nat}{ρ ρ':Operand→CV}{m m':Mem}
theorem nB {o:Oper}(h:∀x∈o.op.operands.toList,ρ x=ρ' x):cval P A F fid ρ o m=cval P A F fid ρ' o m:=by
 obtain⟨dst,op,ty,pos,after,guard⟩:=o
 cases op<;>try (simp only[cval];done)
 case move x=>simp only[cval,h x (by simp[Op.operands])]
 case assign x=>simp only[cval,h x (by simp[Op.operands])]
 case pick c a b=>simp only[cval,h c (by simp[Op.operands]),h a (by simp[Op.operands]),h b (by simp[Op.operands])]
 case box t x=>simp only[cval,h x (by simp[Op.operands])]
 case build t ps=>
  have:(ps.toList.map λp=>(p.1,ρ p.2))=ps.toList.map λp=>(p.1,ρ' p.2):=by
   refine List.map_congr_left λp hp=>?_;rw[h p.2 (by simp only[Op.operands];exact List.mem_map.2 ⟨p,hp,rfl⟩)]
  simp only[cval,this]
 case buildSlice t n ps=>
  have:(ps.toList.map λp=>(p.1,ρ p.2))=ps.toList.map λp=>(p.1,ρ' p.2):=by
   refine List.map_congr_left λp hp=>?_;rw[h p.2 (by simp only[Op.operands];exact List.mem_map.2 ⟨p,hp,rfl⟩)]
  simp only[cval,this]
 case load t x=>simp only[cval,h x (by simp[Op.operands])]
 case store t a x=>simp only[cval,h a (by simp[Op.operands]),h x (by simp[Op.operands])]
 case nilCheck x=>simp only[cval,h x (by simp[Op.operands])]
 case binOp op t x y s=>simp only[cval,h x (by simp[Op.operands]),h y (by simp[Op.operands])]
 case unOp op t x=>simp only[cval,h x (by simp[Op.operands])]
 case convert s d x=>simp only[cval,h x (by simp[Op.operands])]
 case makeInterface t x=>simp only[cval,h x (by simp[Op.operands])]
 case makeFunc fn fi ca=>
  have h1:fi.toList.map ρ=fi.toList.map ρ':=List.map_congr_left λx hx=>h x (by simp only[Op.operands,Array.toList_append];exact List.mem_append_left _ hx);have h2:ca.toList.map ρ=ca.toList.map ρ':=List.map_congr_left λx hx=>h x (by simp only[Op.operands,Array.toList_append];exact List.mem_append_right _ hx);simp only[cval,h1,h2]
 case makeMap t r=>
  cases r with
  |none=>simp only[cval]
  |some r=>simp only[cval,h r (by simp[Op.operands])]
 case makeSlice t l c=>simp only[cval,h l (by simp[Op.operands]),h c (by simp[Op.operands])]
 case slice t x lo hi mx=>
  have h1:lo.map ρ=lo.map ρ':=by cases lo<;>simp;exact h _ (by simp[Op.operands])
  have h2:hi.map ρ=hi.map ρ':=by cases hi<;>simp;exact h _ (by simp[Op.operands])
  have h3:mx.map ρ=mx.map ρ':=by cases mx<;>simp;exact h _ (by simp[Op.operands])
  simp only[cval,h x (by simp[Op.operands]),h1,h2,h3]
 case fieldAddr s x f=>simp only[cval,h x (by simp[Op.operands])]
 case field t x f=>simp only[cval,h x (by simp[Op.operands])]
 case indexAddr t x i=>simp only[cval,h x (by simp[Op.operands]),h i (by simp[Op.operands])]
 case index t x i=>simp only[cval,h x (by simp[Op.operands]),h i (by simp[Op.operands])]
 case lookup t x i ok=>simp only[cval,h x (by simp[Op.operands]),h i (by simp[Op.operands])]
 case mapUpdate t x k v=>simp only[cval,h x (by simp[Op.operands]),h k (by simp[Op.operands]),h v (by simp[Op.operands])]
 case insert t x k v=>simp only[cval,h x (by simp[Op.operands]),h k (by simp[Op.operands]),h v (by simp[Op.operands])]
 case typeAssert x t1 t2 ok=>simp only[cval,h x (by simp[Op.operands])]
 case extract t i=>simp only[cval,h t (by simp[Op.operands])]
 case call c=>
  obtain⟨callee,args,argTypes⟩:=c;have h1:args.toList.map ρ=args.toList.map ρ':=List.map_congr_left λx hx=>h x (by simp only[Op.operands,Call.operands,Array.toList_append];exact List.mem_append_right _ hx)
  cases callee with
  |value f=>simp only[cval,h1,h f (by simp[Op.operands,Call.operands])]
  |invoke r n=>simp only[cval,h1,h r (by simp[Op.operands,Call.operands])]
  |builtin b=>cases b<;>simp only[cval,h1]
def HO.flat:HO→HO
 |.var g cs _=>.var g cs 0
 |.arr g s cs _=>.arr g s cs 0
 |.map g es=>.map g es
def SeenEq (m m':Mem):Prop:=∀k,(m.get k).map HO.flat=(m'.get k).map HO.flat
theorem SeenEq.refl (m:Mem):SeenEq m m:=λ_=>rfl
theorem SeenEq.symm (h:SeenEq m m'):SeenEq m' m:=λk=>(h k).symm
theorem SeenEq.trans {m'':Mem}(h:SeenEq m m') (h':SeenEq m' m''):SeenEq m m'':=λk=>(h k).trans (h' k)
theorem KO (h:SeenEq m m') (p:CV) (n:Nat):bN m p n=bN m' p n:=by
 cases p<;>try rfl
 case ptr k gn off=>
  have:=h k;simp only[bN]
  cases h1:m.get k<;>cases h2:m'.get k<;>rw[h1,h2] at this<;>simp only[Option.map_none,Option.map_some,reduceCtorEq] at this
  rename_i x y;simp only[Option.some.injEq] at this
  cases x<;>cases y<;>simp only[HO.flat,reduceCtorEq,HO.var.injEq,HO.arr.injEq,HO.map.injEq] at this<;>simp_all [HO.gn,HO.isMap,HO.cells]
theorem tJ (h:SeenEq m m') (t:TypeId) (p:CV):eW P m t p=eW P m' t p:=by
 unfold eW;split
 ·rw[show(λsz=>(bN m p sz).map CV.agg)=λsz=>(bN m' p sz).map CV.agg from funext λsz=>by rw[KO h]]
 ·rw[KO h]
 ·rfl
theorem nX (h:SeenEq m m') (p:CV):fx m p=fx m' p:=by
 cases p<;>try rfl
 case map k gn=>
  have:=h k;simp only[fx]
  cases h1:m.get k<;>cases h2:m'.get k<;>rw[h1,h2] at this<;>simp only[Option.map_none,Option.map_some,reduceCtorEq] at this
  rename_i x y;simp only[Option.some.injEq] at this
  cases x<;>cases y<;>simp only[HO.flat,reduceCtorEq,HO.var.injEq,HO.arr.injEq,HO.map.injEq] at this<;>simp_all
theorem rJ (h:SeenEq m m') (t:TypeId) (x:CV) (lo hi mx:Option CV):iH P t x lo hi mx m=iH P t x lo hi mx m':=by
 have hk:∀(k:Key) (gn off len s l hh:Nat),(match m.get k with
   |some (.arr g s' _ _)=>if g=gn∧s'=s then some (CV.ref k gn (off+l*s) (hh - l)) else none
   |_=>none)=(match m'.get k with
   |some (.arr g s' _ _)=>if g=gn∧s'=s then some (CV.ref k gn (off+l*s) (hh - l)) else none
   |_=>none):=by
  intro k gn off len s l hh;have:=h k
  cases h1:m.get k<;>cases h2:m'.get k<;>rw[h1,h2] at this<;>simp only[Option.map_none,Option.map_some,reduceCtorEq] at this
  rename_i x y;simp only[Option.some.injEq] at this
  cases x<;>cases y<;>simp only[HO.flat,reduceCtorEq,HO.var.injEq,HO.arr.injEq,HO.map.injEq] at this<;>simp_all
 have hk2:∀(k:Key) (gn off n s l hh:Nat),(match m.get k with
   |some (.arr g s' cs _)=>if g=gn∧s'=s∧off+n*s≤cs.length then some (CV.ref k gn (off+l*s) (hh - l)) else none
   |_=>none)=(match m'.get k with
   |some (.arr g s' cs _)=>if g=gn∧s'=s∧off+n*s≤cs.length then some (CV.ref k gn (off+l*s) (hh - l)) else none
   |_=>none):=by
  intro k gn off n s l hh;have:=h k
  cases h1:m.get k<;>cases h2:m'.get k<;>rw[h1,h2] at this<;>simp only[Option.map_none,Option.map_some,reduceCtorEq] at this
  rename_i x y;simp only[Option.some.injEq] at this
  cases x<;>cases y<;>simp only[HO.flat,reduceCtorEq,HO.var.injEq,HO.arr.injEq,HO.map.injEq] at this<;>simp_all
 unfold iH;split
 ·rfl
 ·split
  ·split
   ·split
    ·split
     ·rfl
     ·rfl
     ·exact hk _ _ _ 0 _ _ _
     ·rfl
    ·rfl
   ·rfl
  ·split
   ·exact hk2 _ _ _ _ _ _ _
   ·rfl
  ·rfl
theorem xf {o:Oper}(hq:bJ o.op=true) (h:SeenEq m m') {c:CV}(hc:cval P A F fid ρ o m=some (c,m)):cval P A F fid ρ o m'=some (c,m'):=by
 obtain⟨dst,op,ty,pos,after,guard⟩:=o;have mp:∀{x:Option CV},x.map (λv=>(v,m))=some (c,m)→x.map (λv=>(v,m'))=some (c,m'):=by
  intro x hx;simp only[Option.map_eq_some_iff,Prod.mk.injEq,and_true] at hx ⊢;exact hx
 cases op<;>simp only[bJ,Bool.false_eq_true] at hq<;>simp only[cval] at hc ⊢
 case move x=>simpa using hc
 case assign x=>simpa using hc
 case pick a b d=>split at hc<;>simp_all
 case build t ps=>
  split at hc
  ·split at hc
   ·rename_i h1;simp only[h1,if_true];simp only[Option.map_eq_some_iff,Prod.mk.injEq,and_true] at hc ⊢;exact hc
   ·cases hc
  ·simp only[Option.bind_eq_some_iff,Option.map_eq_some_iff,Prod.mk.injEq,and_true] at hc ⊢
   exact hc
  ·cases hc
 case load t a=>rw[←tJ h];exact mp hc
 case nilCheck x=>split at hc<;>simp_all
 case binOp=>exact mp hc
 case unOp=>exact mp hc
 case convert=>split at hc<;>simp_all
 case makeInterface t x=>split at hc<;>simp_all
 case makeFunc=>simpa using hc
 case slice=>rw[←rJ h];exact mp hc
 case fieldAddr=>exact mp hc
 case field=>split at hc;exact mp hc;cases hc
 case indexAddr=>exact mp hc
 case index t x i=>
  split at hc
  ·split at hc
   ·split at hc
    ·rename_i h1
     simp only[h1,if_true];simp only[Option.bind_eq_some_iff] at hc ⊢;obtain⟨s,h1,h2⟩:=hc
     exact⟨s,h1,mp h2⟩
    ·cases hc
   ·cases hc
  ·split at hc
   ·simp only[Option.map_eq_some_iff,Prod.mk.injEq,and_true] at hc ⊢
    exact hc
   ·cases hc
  ·cases hc
 case lookup t x i ok=>
  rw[←nX h]
  split at hc
  ·split at hc
   ·rename_i h1
    simp only[h1,if_true]
    split at hc<;>simp_all
   ·cases hc
  ·cases hc
 case typeAssert x t1 t2 ok=>
  split at hc
  ·cases hc
  ·split at hc
   ·split at hc
    ·rename_i h1;simp only[h1,if_true];simp only[Option.map_eq_some_iff,Prod.mk.injEq,and_true] at hc ⊢;exact hc
    ·cases hc
   ·split at hc
    ·simpa using hc
    ·split at hc
     ·rename_i h1;simp only[h1,if_true];simp only[Option.map_eq_some_iff,Prod.mk.injEq,and_true] at hc ⊢;exact hc
     ·cases hc
    ·cases hc
   ·cases hc
 case extract t i=>split at hc;exact mp hc;cases hc
 case call c0=>
  obtain⟨callee,args,argTypes⟩:=c0
  cases callee<;>simp only[Bool.false_eq_true] at hq
  rename_i b
  cases b<;>simp only[oi,Bool.false_eq_true] at hq<;>simp only at hc ⊢
  case len=>
   split at hc
   ·split at hc
    ·simp only[Option.map_eq_some_iff,Prod.mk.injEq,and_true] at hc ⊢;exact hc
    ·rw[←nX h];simp only[Option.map_eq_some_iff,Prod.mk.injEq,and_true] at hc ⊢;exact hc
    ·split at hc<;>simp_all
    ·simpa using hc
    ·cases hc
   ·cases hc
  case max=>exact mp hc
  case min=>exact mp hc
def ge:Op→Bool
 |.move _=>true
 |.assign _=>true
 |.pick _ _ _=>true
 |.build _ _=>true
 |.nilCheck _=>true
 |.binOp _ _ _ _ _=>true
 |.unOp _ _ _=>true
 |.convert _ _ _=>true
 |.makeInterface _ _=>true
 |.makeFunc _ _ _=>true
 |.fieldAddr _ _ _=>true
 |.field _ _ _=>true
 |.indexAddr _ _ _=>true
 |.index _ _ _=>true
 |.typeAssert _ _ _ _=>true
 |.extract _ _=>true
 |_=>false
theorem kD {o:Oper}(hq:ge o.op=true) {c:CV}(hc:cval P A F fid ρ o m=some (c,m)) (m':Mem):cval P A F fid ρ o m'=some (c,m'):=by
 obtain⟨dst,op,ty,pos,after,guard⟩:=o;have mp:∀{x:Option CV},x.map (λv=>(v,m))=some (c,m)→x.map (λv=>(v,m'))=some (c,m'):=by
  intro x hx;simp only[Option.map_eq_some_iff,Prod.mk.injEq,and_true] at hx ⊢;exact hx
 cases op<;>simp only[ge,Bool.false_eq_true] at hq<;>simp only[cval] at hc ⊢
 case move x=>simpa using hc
 case assign x=>simpa using hc
 case pick a b d=>split at hc<;>simp_all
 case build t ps=>
  split at hc
  ·split at hc
   ·rename_i h1;simp only[h1,if_true];simp only[Option.map_eq_some_iff,Prod.mk.injEq,and_true] at hc ⊢;exact hc
   ·cases hc
  ·simp only[Option.bind_eq_some_iff,Option.map_eq_some_iff,Prod.mk.injEq,and_true] at hc ⊢
   exact hc
  ·cases hc
 case nilCheck x=>split at hc<;>simp_all
 case binOp=>exact mp hc
 case unOp=>exact mp hc
 case convert=>split at hc<;>simp_all
 case makeInterface t x=>split at hc<;>simp_all
 case makeFunc=>simpa using hc
 case fieldAddr=>exact mp hc
 case field=>split at hc;exact mp hc;cases hc
 case indexAddr=>exact mp hc
 case index t x i=>
  split at hc
  ·split at hc
   ·split at hc
    ·rename_i h1
     simp only[h1,if_true];simp only[Option.bind_eq_some_iff] at hc ⊢;obtain⟨s,h1,h2⟩:=hc
     exact⟨s,h1,mp h2⟩
    ·cases hc
   ·cases hc
  ·split at hc
   ·simp only[Option.map_eq_some_iff,Prod.mk.injEq,and_true] at hc ⊢
    exact hc
   ·cases hc
  ·cases hc
 case typeAssert x t1 t2 ok=>
  split at hc
  ·cases hc
  ·split at hc
   ·split at hc
    ·rename_i h1;simp only[h1,if_true];simp only[Option.map_eq_some_iff,Prod.mk.injEq,and_true] at hc ⊢;exact hc
    ·cases hc
   ·split at hc
    ·simpa using hc
    ·split at hc
     ·rename_i h1;simp only[h1,if_true];simp only[Option.map_eq_some_iff,Prod.mk.injEq,and_true] at hc ⊢;exact hc
     ·cases hc
    ·cases hc
   ·cases hc
 case extract t i=>split at hc;exact mp hc;cases hc
theorem lG {o:Oper}(hq:bJ o.op=true) {c:CV}(hc:cval P A F fid ρ o m=some (c,m')):m'=m:=by
 obtain⟨dst,op,ty,pos,after,guard⟩:=o;have mp:∀{x:Option CV},x.map (λv=>(v,m))=some (c,m')→m'=m:=by
  intro x hx;simp only[Option.map_eq_some_iff,Prod.mk.injEq] at hx;obtain⟨_,_,_,h⟩:=hx;exact h.symm
 cases op<;>simp only[bJ,Bool.false_eq_true] at hq<;>simp only[cval] at hc
 case move x=>simp only[Option.some.injEq,Prod.mk.injEq] at hc;exact hc.2.symm
 case assign x=>simp only[Option.some.injEq,Prod.mk.injEq] at hc;exact hc.2.symm
 case pick a b d=>split at hc<;>simp only[Option.some.injEq,Prod.mk.injEq,reduceCtorEq] at hc<;>exact hc.2.symm
 case build t ps=>
  split at hc
  ·split at hc
   ·simp only[Option.map_eq_some_iff,Prod.mk.injEq] at hc;obtain⟨_,_,_,h⟩:=hc;exact h.symm
   ·cases hc
  ·simp only[Option.bind_eq_some_iff,Option.map_eq_some_iff,Prod.mk.injEq] at hc
   obtain⟨_,_,_,_,_,h⟩:=hc;exact h.symm
  ·cases hc
 case load t a=>exact mp hc
 case nilCheck x=>split at hc<;>simp only[Option.some.injEq,Prod.mk.injEq,reduceCtorEq] at hc<;>exact hc.2.symm
 case binOp=>exact mp hc
 case unOp=>exact mp hc
 case convert=>split at hc<;>simp only[Option.some.injEq,Prod.mk.injEq,reduceCtorEq] at hc;exact hc.2.symm
 case makeInterface t x=>split at hc<;>simp only[Option.some.injEq,Prod.mk.injEq,reduceCtorEq] at hc;exact hc.2.symm
 case makeFunc=>simp only[Option.some.injEq,Prod.mk.injEq] at hc;exact hc.2.symm
 case slice=>exact mp hc
 case fieldAddr=>exact mp hc
 case field=>split at hc;exact mp hc;cases hc
 case indexAddr=>exact mp hc
 case index t x i=>
  split at hc
  ·split at hc
   ·split at hc
    ·simp only[Option.bind_eq_some_iff] at hc
     obtain⟨s,h1,h2⟩:=hc;exact mp h2
    ·cases hc
   ·cases hc
  ·split at hc
   ·simp only[Option.map_eq_some_iff,Prod.mk.injEq] at hc;obtain⟨_,_,_,h⟩:=hc;exact h.symm
   ·cases hc
  ·cases hc
 case lookup t x i ok=>
  split at hc
  ·split at hc
   ·split at hc<;>simp only[Option.some.injEq,Prod.mk.injEq,reduceCtorEq] at hc<;>exact hc.2.symm
   ·cases hc
  ·cases hc
 case typeAssert x t1 t2 ok=>
  split at hc
  ·cases hc
  ·split at hc
   ·split at hc
    ·simp only[Option.map_eq_some_iff,Prod.mk.injEq] at hc;obtain⟨_,_,_,h⟩:=hc;exact h.symm
    ·cases hc
   ·split at hc
    ·simp only[Option.some.injEq,Prod.mk.injEq] at hc;exact hc.2.symm
    ·split at hc
     ·simp only[Option.map_eq_some_iff,Prod.mk.injEq] at hc;obtain⟨_,_,_,h⟩:=hc;exact h.symm
     ·cases hc
    ·cases hc
   ·cases hc
 case extract t i=>split at hc;exact mp hc;cases hc
 case call c0=>
  obtain⟨callee,args,argTypes⟩:=c0
  cases callee<;>simp only[Bool.false_eq_true] at hq
  rename_i b
  cases b<;>simp only[oi,Bool.false_eq_true] at hq<;>simp only at hc
  case len=>
   split at hc
   ·split at hc
    ·simp only[Option.map_eq_some_iff,Prod.mk.injEq] at hc;obtain⟨_,_,_,h⟩:=hc;exact h.symm
    ·simp only[Option.map_eq_some_iff,Prod.mk.injEq] at hc;obtain⟨_,_,_,h⟩:=hc;exact h.symm
    ·split at hc<;>simp only[Option.some.injEq,Prod.mk.injEq,reduceCtorEq] at hc;exact hc.2.symm
    ·simp only[Option.some.injEq,Prod.mk.injEq] at hc;exact hc.2.symm
    ·cases hc
   ·cases hc
  case max=>exact mp hc
  case min=>exact mp hc
theorem sG {j:Nat}{h:HO}(hj:aK m.L j=some h) (n:Nat):SeenEq m (m.set (.l j) (h.seen n)):=by
 intro k
 cases k with
 |g i=>rfl
 |l i=>
  simp only[Mem.get,Mem.set,aq]
  by_cases hi:j=i
  ·subst hi
   rw[hj]
   cases h<;>simp[HO.seen,HO.flat]
  ·simp[hi]
theorem kc {f:CV→Mem→Option (CV×Mem)}(hf:∀v m c m',f v m=some (c,m')→SeenEq m m'):∀(l cs:List CV) (m m':Mem),am f l m=some (cs,m')→SeenEq m m'
 |[],cs,m,m',h=>by
  simp only[am,Option.some.injEq,Prod.mk.injEq] at h;obtain⟨_,rfl⟩:=h;exact SeenEq.refl _
 |v::l,cs,m,m',h=>by
  simp only[am,Option.bind_eq_some_iff,Option.map_eq_some_iff,Prod.mk.injEq] at h;obtain⟨⟨c1,m1⟩,h1,⟨c2,m2⟩,h2,_,rfl⟩:=h
  exact(hf _ _ _ _ h1).trans (kc hf l c2 m1 m2 h2)
theorem DU:∀(n:Nat) (v:CV) (m:Mem) (c:CV) (m':Mem),esc n v m=some (c,m')→SeenEq m m':=by
 intro n
 induction n with
 |zero=>intro v m c m' h;simp[esc] at h
 |succ n ih=>
  intro v m c m' h;have same:∀{x:CV},some (x,m)=some (c,m')→SeenEq m m':=by
   intro x he;simp only[Option.some.injEq,Prod.mk.injEq] at he;rw[←he.2];exact SeenEq.refl _
  cases v<;>simp only[esc,reduceCtorEq] at h
  case bool=>exact same h
  case int=>exact same h
  case str=>exact same h
  case nil=>exact same h
  case imm=>exact same h
  case pnil=>exact same h
  case rptr=>exact same h
  case mnil=>exact same h
  case nilf=>exact same h
  case inil=>exact same h
  case agg cs=>
   simp only[Option.map_eq_some_iff,Prod.mk.injEq] at h;obtain⟨⟨a,b⟩,h1,_,rfl⟩:=h;exact kc ih _ _ _ _ h1
  case tuple cs=>
   simp only[Option.map_eq_some_iff,Prod.mk.injEq] at h;obtain⟨⟨a,b⟩,h1,_,rfl⟩:=h;exact kc ih _ _ _ _ h1
  case iface t x=>
   simp only[Option.map_eq_some_iff,Prod.mk.injEq] at h;obtain⟨⟨a,b⟩,h1,_,rfl⟩:=h;exact ih _ _ _ _ h1
  case func f a b=>
   simp only[Option.bind_eq_some_iff,Option.map_eq_some_iff,Prod.mk.injEq] at h;obtain⟨⟨a1,m1⟩,h1,⟨b1,m2⟩,h2,_,rfl⟩:=h
   exact(kc ih _ _ _ _ h1).trans (kc ih _ _ _ _ h2)
  case ref k gn off len=>
   cases k with
   |g i=>exact same (by simpa[esc] using h)
   |l j=>
    simp only[esc] at h
    split at h
    ·rename_i g sz cs vl hj
     split at h
     ·simp only[Option.some.injEq,Prod.mk.injEq] at h
      obtain⟨_,rfl⟩:=h;exact sG hj _
     ·cases h
    ·cases h
  case ptr k gn off=>
   cases k with
   |g i=>exact same (by simpa[esc] using h)
   |l j=>
    simp only[esc] at h
    split at h
    ·rename_i h0 hj
     split at h
     ·simp only[Option.bind_eq_some_iff] at h
      obtain⟨⟨xs,m1⟩,h1,h⟩:=h;simp only at h
      split at h
      ·rename_i h' hj'
       simp only[Option.some.injEq,Prod.mk.injEq] at h;obtain⟨_,rfl⟩:=h
       exact(kc ih _ _ _ _ h1).trans (sG hj' _)
      ·cases h
     ·cases h
    ·cases h
  case map k gn=>
   cases k with
   |g i=>exact same (by simpa[esc] using h)
   |l j=>simp[esc] at h
theorem fy {cs cs':List CV}(h:bp m cs=some (cs',m')):SeenEq m m':=kc (DU iC) _ _ _ _ h
mutual
theorem beq_refl:∀(a:CV),CV.beq a a=true
 |.dead=>rfl
 |.bool b=>by simp[CV.beq]
 |.int k n=>by simp[CV.beq]
 |.str s=>by simp[CV.beq]
 |.agg cs=>by simp only[CV.beq];exact beqs_refl cs
 |.nil=>rfl
 |.imm n cs=>by simp only[CV.beq,beqs_refl cs];simp
 |.own n s cs v=>by simp only[CV.beq,beqs_refl cs];simp
 |.ref k g o l=>by simp[CV.beq]
 |.pnil=>rfl
 |.ptr k g o=>by simp[CV.beq]
 |.rptr cs=>by simp only[CV.beq];exact beqs_refl cs
 |.mnil=>rfl
 |.map k g=>by simp[CV.beq]
 |.func f a b=>by simp only[CV.beq,beqs_refl a,beqs_refl b];simp
 |.nilf=>rfl
 |.inil=>rfl
 |.iface t v=>by simp only[CV.beq,beq_refl v];simp
 |.tuple cs=>by simp only[CV.beq];exact beqs_refl cs
theorem beqs_refl:∀(a:List CV),beqs a a=true
 |[]=>rfl
 |x::xs=>by simp only[beqs,beq_refl x,beqs_refl xs];rfl
end
end
end Go.Cm
