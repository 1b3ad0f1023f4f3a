import Derived.Test.YtjhndbgokapikaaCvE
import Derived.Laws.Build
import Derived.Laws.MakeOwn
import Derived.Laws.CopyRow
set_option linter.unusedSimpArgs false
set_option linter.unusedVariables false
namespace Go.Cm
section
variable {K:KM}{Q:PM}{P:Program}{w:World}{m:Mem}
theorem LE {c:CV}{n:Nat}{v:Value}(hv:Vt K m Q c v) (h:clen c=some n):∃a cap,v=.slice a n cap∧n≤cap:=by
 unfold clen at h
 split at h<;>simp only[Option.some.injEq,reduceCtorEq] at h<;>subst h<;>simp only[Vt,V] at hv
 ·exact⟨_,_,hv,Nat.le_refl _⟩
 ·obtain⟨_,a,cap,h1,h2,_⟩:=hv;exact⟨a,cap,h1,h2⟩
 ·obtain⟨_,_,a,cap,_,_,h1,h2,_,_⟩:=hv;exact⟨a,cap,h1,h2⟩
theorem dY (b o n:Nat):(⟨b,o,Option.none⟩:Addr).add n=⟨b,o+n,Option.none⟩:=Addr.add_none b o n
theorem tL (hR:MR K m.get Q w) {t:TypeId}{x:CV}{lo hi mx:Option CV}{c:CV}{v:Value}{lo' hi' mx':Option Value}(hv:Vt K m Q x v)
  (hlo:iU K m Q lo lo') (hhi:iU K m Q hi hi') (hmx:iU K m Q mx mx') (h:iH P t x lo hi mx m=some c) :
  ∃r,(Instr.sliceAt t v lo' hi' mx').run P w=.ok r w∧Vt K m Q c r:=by
 unfold iH at h
 split at h
 ·simp at h
 ·rename_i hm
  split at h
  ·rename_i e hu
   cases hs:bK P e with
   |none=>simp[hs] at h
   |some sz=>
    cases hl:clen x with
    |none=>simp[hs,hl] at h
    |some len=>
     simp only[hs,hl] at h
     cases hb:fp len lo hi with
     |none=>simp[hb] at h
     |some lh=>
      obtain⟨l,hh⟩:=lh;simp only[hb] at h;obtain⟨a,cap,rfl,hcap⟩:=LE hv hl;obtain⟨c0,h1,h2,h3,h4,h5⟩:=LB (P:=P) (w:=w) (b:=true) hcap hlo hhi hmx hm hb;have hrun:(Instr.sliceAt t (.slice a len cap) lo' hi' mx').run P w=.ok (.slice (if c0=l then a else a.map (·.add (l*sz))) (hh - l) (c0 - l)) w:=by
       simp only[Instr.sliceAt,Instr.slice,Sem.run_bind,aY hu,Result.andThen_ok,h1,co hs,Sem.run_pure]
      refine⟨_,hrun,?_⟩
      cases x<;>simp only[clen,Option.some.injEq,reduceCtorEq] at hl<;>simp only[] at h
      ·simp only[Option.some.injEq] at h;subst h
       simp only[Vt,V] at hv;simp only[Value.slice.injEq] at hv;obtain⟨rfl,rfl,rfl⟩:=hv;have:l=0:=by omega
       subst this;have:hh=0:=by omega
       subst this;have:c0=0:=by omega
       subst this;simp[Vt,V]
      ·rename_i n cs
       simp only[Option.some.injEq] at h;subst h;simp only[Vt,V] at hv ⊢;obtain⟨hall,a',cap',hv',hn,hc⟩:=hv;simp only[Value.slice.injEq] at hv';obtain⟨rfl,rfl,rfl⟩:=hv'
       refine⟨List.all_eq_true.2 λy hy=>List.all_eq_true.1 hall y (List.mem_of_mem_drop (List.mem_of_mem_take hy)),_,_,rfl,by omega,?_⟩
       rcases hc with rfl|⟨b,o,rfl,hk⟩
       ·exact .inl (by simp)
       ·by_cases he:c0=l
        ·left
         rw[show hh - l=0 from by omega];simp
        ·right
         refine⟨b,o+l*sz,?_,uU (mE hk _) _⟩
         simp[he,dY]
      ·rename_i k gn off n
       split at h
       ·rename_i g s' cs0 vl0 hget
        split at h
        ·rename_i hcond
         obtain⟨rfl,rfl⟩:=hcond;simp only[Option.some.injEq] at h;subst h;simp only[Vt,V] at hv ⊢;obtain⟨hk,x,a',cap',hx,hg,hv',hn,hs',hc⟩:=hv;simp only[Value.slice.injEq] at hv';obtain⟨rfl,rfl,rfl⟩:=hv';rw[hx] at hget;simp only[Option.some.injEq] at hget;subst hget
         refine⟨hk,_,_,_,hx,hg,rfl,by omega,?_,λhge=>⟨_,_,_,rfl,?_⟩⟩
         ·rcases hs' with hz|hz
          ·left;omega
          ·right;split<;>simp[hz]
         ·obtain⟨sz',cs,vl,hxe,hc⟩:=hc rfl
          simp only[HO.arr.injEq] at hxe;obtain⟨_,rfl,rfl,rfl⟩:=hxe;rcases hc with hz|⟨q,hq,rfl,hb1,hb2⟩
          ·left;omega
          ·by_cases he:c0=l
           ·left;omega
           ·right
            have e1:l*s'+(c0 - l)*s'=c0*s':=by rw[←Nat.add_mul];congr 1;omega
            have e2:l*s'+(hh - l)*s'=hh*s':=by rw[←Nat.add_mul];congr 1;omega
            have e3:c0*s'≤cap*s':=Nat.mul_le_mul_right _ h3;have e4:hh*s'≤len*s':=Nat.mul_le_mul_right _ h5
            exact⟨q,hq,by simp[he,dY];omega,by omega,by omega⟩
        ·simp at h
       ·simp at h
      all_goals simp at h
  ·rename_i n e hu
   cases hs:bK P e with
   |none=>simp[hs] at h
   |some sz=>
    cases hb:fp n lo hi with
    |none=>simp[hs,hb] at h
    |some lh=>
     obtain⟨l,hh⟩:=lh;simp only[hs,hb] at h
     cases x<;>simp only[reduceCtorEq] at h
     rename_i k gn off
     split at h
     ·rename_i g s' cs0 vl0 hget
      split at h
      ·rename_i hcond
       obtain⟨rfl,rfl,hfit⟩:=hcond;simp only[Option.some.injEq] at h;subst h;obtain⟨c0,h1,h2,h3,h4,h5⟩:=LB (P:=P) (w:=w) (b:=false) (Nat.le_refl n) hlo hhi hmx hm hb;simp only[Vt,V] at hv;obtain⟨hk,x,a,hx,hg,rfl,hc⟩:=hv;rw[hx] at hget;simp only[Option.some.injEq] at hget;subst hget
       refine⟨_,by simp only[Instr.sliceAt,Instr.sureAddr,Sem.run_bind,aY hu,Result.andThen_ok,h1,co hs,Sem.run_pure];rfl,?_⟩
       simp only[Vt,V]
       refine⟨hk,_,_,_,hx,hg,rfl,by omega,.inr rfl,λhge=>⟨_,_,_,rfl,?_⟩⟩
       obtain⟨q,hq,rfl⟩:=hc rfl;have hfits:=(hR.objs _ _ hx q hq).fits;simp only[HO.cells] at hfits;have e1:l*s'+(c0 - l)*s'=c0*s':=by rw[←Nat.add_mul];congr 1;omega
       have e2:l*s'+(hh - l)*s'=hh*s':=by rw[←Nat.add_mul];congr 1;omega
       have e3:c0*s'≤n*s':=Nat.mul_le_mul_right _ h3;have e4:hh*s'≤n*s':=Nat.mul_le_mul_right _ h5
       by_cases he:c0=l
       ·left;omega
       ·right
        exact⟨q,hq,by simp[he,dY];omega,by omega,by omega⟩
      ·simp at h
     ·simp at h
  ·simp at h
theorem nl {t:TypeId}{x i c:CV}{v j:Value}(hv:Vt K m Q x v) (hj:Vt K m Q i j) (h:fS P t x i=some c) :
  ∃r,(Instr.indexAt t v j).run P w=.ok r w∧Vt K m Q c r:=by
 unfold fS at h
 cases ha:eH i with
 |none=>simp[ha] at h
 |some n=>
  obtain⟨k,z,rfl,h0,hz⟩:=fG hj ha;simp only[ha] at h
  split at h
  ·rename_i e hu
   have base:∀(a:Addr) (len cap sz:Nat),bK P e=some sz→n<len→(Instr.indexAt t (.slice (some a) len cap) (.int k z)).run P w=.ok (.pointer (some (a.add (n*sz)))) w:=by
    intro a len cap sz hs hlt;simp only[Instr.indexAt,asIntOf,Sem.run_bind,Sem.run_pure,aY hu,Result.andThen_ok];rw[if_pos ⟨h0,by omega⟩];simp only[Sem.run_bind,co hs,Result.andThen_ok,Sem.run_pure,hz]
   split at h
   ·rename_i sz n' cs hs
    split at h
    ·rename_i hlt
     simp only[Option.some.injEq] at h;subst h;simp only[Vt,V] at hv;obtain⟨hall,a,cap,rfl,hn,hc⟩:=hv;rcases hc with rfl|⟨b,o,rfl,hk⟩
     ·simp at hlt
     ·refine⟨_,base _ _ _ _ hs hlt.1,?_⟩
      simp only[Vt,V]
      exact⟨List.all_eq_true.2 λy hy=>List.all_eq_true.1 hall y (List.mem_of_mem_drop hy),b,o+n*sz,by rw[dY],mE hk _⟩
    ·simp at h
   ·rename_i sz kk gn off len hs
    split at h
    ·rename_i hlt
     simp only[Option.some.injEq] at h;subst h;simp only[Vt,V] at hv;obtain⟨hk,x,a,cap,hx,hg,rfl,hn,hsome,hc⟩:=hv;obtain⟨a',rfl⟩:∃a',a=some a':=by
      rcases hsome with hz'|hz'
      ·omega
      ·exact Option.isSome_iff_exists.1 hz'
     refine⟨_,base _ _ _ _ hs hlt,?_⟩
     simp only[Vt,V]
     refine⟨hk,x,_,hx,hg,rfl,λhge=>?_⟩
     obtain⟨sz',cs,vl,hxe,hc⟩:=hc hge;rcases hc with hz'|⟨q,hq,ha',_,_⟩
     ·omega
     ·simp only[Option.some.injEq] at ha';subst ha'
      exact⟨q,hq,by rw[dY,Nat.add_assoc]⟩
    ·simp at h
   ·simp at h
  ·rename_i n' e hu
   have base:∀(a:Addr) (sz:Nat),bK P e=some sz→n<n'→(Instr.indexAt t (.pointer (some a)) (.int k z)).run P w=.ok (.pointer (some (a.add (n*sz)))) w:=by
    intro a sz hs hlt;simp only[Instr.indexAt,Instr.sureAddr,asIntOf,Sem.run_bind,Sem.run_pure,aY hu,Result.andThen_ok];rw[if_pos ⟨h0,by omega⟩];simp only[Sem.run_bind,co hs,Result.andThen_ok,Sem.run_pure,hz]
   split at h
   ·rename_i sz kk gn off hs
    split at h
    ·rename_i hlt
     simp only[Option.some.injEq] at h;subst h;simp only[Vt,V] at hv;obtain⟨hk,x,a,hx,hg,rfl,hc⟩:=hv
     refine⟨_,base _ _ hs hlt,?_⟩
     simp only[Vt,V]
     refine⟨hk,x,_,hx,hg,rfl,λhge=>?_⟩
     obtain⟨q,hq,rfl⟩:=hc hge
     exact⟨q,hq,by rw[dY,Nat.add_assoc]⟩
    ·simp at h
   ·rename_i sz cs hs
    split at h
    ·rename_i hlt
     simp only[Option.some.injEq] at h;subst h;simp only[Vt,V] at hv;obtain⟨hall,b,o,rfl,hk⟩:=hv
     refine⟨_,base _ _ hs hlt,?_⟩
     simp only[Vt,V]
     exact⟨List.all_eq_true.2 λy hy=>List.all_eq_true.1 hall y (List.mem_of_mem_drop hy),b,o+n*sz,by rw[dY],mE hk _⟩
    ·simp at h
   ·simp at h
  ·simp at h
theorem nj {t:TypeId}{x c:CV}{f:Nat}{v:Value}(hv:Vt K m Q x v) (h:fR P t x f=some c) :
  ∃r,(Instr.fieldAt t v f).run P w=.ok r w∧Vt K m Q c r:=by
 unfold fR at h
 split at h
 ·simp at h
 ·rename_i off ft hf
  obtain⟨fs,fd,hu,hfd,rfl,rfl⟩:=oq hf
  split at h
  ·rename_i sz hs
   have base:∀(a:Addr),(Instr.fieldAt t (.pointer (some a)) f).run P w=.ok (.pointer (some (a.add fd.offset))) w:=by
    intro a;simp[Instr.fieldAt,Instr.sureAddr,aY hu,hfd,fieldPlace,co hs]
   split at h
   ·simp only[Option.some.injEq] at h;subst h
    simp only[Vt,V] at hv;obtain⟨hk,x,a,hx,hg,rfl,hc⟩:=hv
    refine⟨_,base _,?_⟩
    simp only[Vt,V]
    refine⟨hk,x,_,hx,hg,rfl,λhge=>?_⟩
    obtain⟨q,hq,rfl⟩:=hc hge
    exact⟨q,hq,by rw[dY,Nat.add_assoc]⟩
   ·simp only[Option.some.injEq] at h;subst h
    simp only[Vt,V] at hv;obtain⟨hall,b,o,rfl,hk⟩:=hv
    refine⟨_,base _,?_⟩
    simp only[Vt,V]
    exact⟨List.all_eq_true.2 λy hy=>List.all_eq_true.1 hall y (List.mem_of_mem_drop hy),b,o+fd.offset,by rw[dY],mE hk _⟩
   ·simp at h
  ·simp at h
theorem nq {M:MM}{loc:Bool}{t:TypeId}(ht:b8 P t=true) {d:TypeDesc}(hd:P.underlying t=some d) {k:CV}{kv:Value}(hk:V K M Q loc k kv) :
  ∀(es:List (CV×CV)) (xs:List MapEntry) (i:Nat) (r:Option (Nat×CV)),xs.length=es.length →
   (∀(j:Nat) (e:CV×CV),es[j]?=some e→∃x,xs[j]?=some x∧ji K M Q e x)→gH P t k es i=some r →
   ∃r',Instr.findNow d kv xs i=some r'∧match r,r' with
    |none,none=>True
    |some (a,c),some (b,v)=>a=b∧V K M Q false c v∧i≤a∧a<i+es.length
    |_,_=>False:=by
 intro es
 induction es with
 |nil=>
  intro xs i r hl _ h;have:xs=[]:=List.eq_nil_of_length_eq_zero (by simpa using hl);subst this;simp only[gH,Option.some.injEq] at h;subst h
  exact⟨none,by simp[Instr.findNow],trivial⟩
 |cons e es ih=>
  intro xs i r hl he h
  cases xs with
  |nil=>simp at hl
  |cons x xs=>
   obtain⟨x',hx',h1,h2⟩:=he 0 e (by simp);simp only[List.getElem?_cons_zero,Option.some.injEq] at hx';subst hx';simp only[gH] at h;have hnow:∀b,ceq P 20 t k e.1=some b→Instr.sameNow d kv x.key=some b:=by
    intro b hb;unfold b8 at ht;unfold ceq at hb;rw[hd] at ht hb
    cases d<;>simp only[Bool.false_eq_true] at ht<;>simp only[] at hb
    ·split at hb
     ·rename_i a b' ha hb'
      simp only[V] at hk;rw[hb'] at h1;simp only[V] at h1;subst hk;rw[h1];simpa[Instr.sameNow] using hb
     ·simp at hb
    ·split at hb
     ·rename_i kk a kk' b' ha hb'
      simp only[V] at hk;rw[hb'] at h1;simp only[V] at h1;subst hk;rw[h1];simpa[Instr.sameNow] using hb
     ·simp at hb
   simp only[Instr.findNow]
   cases hc:ceq P 20 t k e.1 with
   |none=>simp[hc] at h
   |some b=>
    rw[hnow b hc];simp only[hc] at h
    cases b with
    |true=>
     simp only[Option.some.injEq] at h;subst h
     exact⟨some (i,x.val),rfl,rfl,h2,Nat.le_refl _,by simp⟩
    |false=>
     simp only[] at h;obtain⟨r',hr,hm⟩:=ih xs (i+1) r (by simpa using hl) (λj e' hj=>he (j+1) e' (by simpa using hj)) h
     refine⟨r',hr,?_⟩
     cases r<;>cases r'<;>simp only[] at hm ⊢
     exact⟨hm.1,hm.2.1,by omega,by simp;omega⟩
theorem em {e:Bool}{n:Nat}{t:TypeId}{v:Value}(ht:b8 P t=true):(Instr.checkKey e (n+1) t v).run P w=.ok () w:=by
 unfold b8 at ht
 split at ht
 ·rename_i hu
  simp[Instr.checkKey,aY hu]
 ·rename_i hu
  simp[Instr.checkKey,aY hu]
 ·simp at ht
end
end Go.Cm
namespace Go.Cm
section
variable {K:KM}{Q:PM}{P:Program}{w:World}{m:Mem}
theorem pP (hR:MR K m.get Q w) {x:CV}{es:List (CV×CV)}{v:Value}(hv:Vt K m Q x v) (h:fx m x=some es) :
  (v=.map none∧es=[])∨∃r xs clk,v=.map (some r)∧w.heap[r]?=some (.map xs clk)∧xs.size=es.length∧∀(i:Nat) (e:CV×CV),es[i]?=some e→∃x,xs[i]?=some x∧ji K m.get Q e x:=by
 unfold fx at h
 split at h
 ·simp only[Vt,V] at hv
  simp only[Option.some.injEq] at h;exact .inl ⟨hv,h.symm⟩
 ·rename_i k gn
  split at h
  ·rename_i g es' hget
   split at h
   ·rename_i hg
    subst hg;simp only[Option.some.injEq] at h;subst h;simp only[Vt,V] at hv;obtain⟨_,x,r,hx,_,rfl,hc⟩:=hv;rw[hget] at hx;simp only[Option.some.injEq] at hx;subst hx;obtain⟨q,hq,rfl⟩:=hc rfl;obtain⟨xs,clk,h1,h2,h3,_⟩:=hR.objs _ _ hget q hq;exact .inr ⟨q.blk,xs,clk,rfl,h1,h2,h3⟩
   ·simp at h
  ·simp at h
 ·simp at h
theorem dG {r:Nat}{xs:Array MapEntry}{clk:Nat}(h:w.heap[r]?=some (.map xs clk)):(getObj r).run P w=.ok (.map xs clk) w:=by
 simp[getObj,Sem.run,h]
theorem qI {t:TypeId}{ok:Bool}{v j:Value}{kt et:TypeId}(hu:P.underlying t=some (.map kt et)) (hp:b8 P kt=true)
  {arr:Array MapEntry}(hv:(v=.map none∧arr=#[])∨∃r clk,v=.map (some r)∧w.heap[r]?=some (.map arr clk)) {r':Option (Nat×Value)}(hf:(Instr.findKey kt j arr.toList).run P w=.ok r' w) :
  (Instr.lookup t v j ok).run P w=match r' with
   |some (_,u)=>.ok (if ok then .tuple #[u,.bool true] else u) w
   |none=>((zeroValue et).run P w).andThen λz w'=>.ok (if ok then .tuple #[z,.bool false] else z) w':=by
 rcases hv with⟨rfl,rfl⟩|⟨r,clk,rfl,h1⟩
 ·simp only[Instr.lookup,Sem.run_bind,aY hu,Result.andThen_ok,em hp,hf,Sem.run_pure]
  cases r'<;>simp
 ·simp only[Instr.lookup,Sem.run_bind,aY hu,Result.andThen_ok,dG h1,em hp,hf,Sem.run_pure]
  cases r'<;>simp
theorem tZ (hR:MR K m.get Q w) {t:TypeId}{x i:CV}{ok:Bool}{v j:Value}{kt et:TypeId}{es:List (CV×CV)}{c:CV}(hv:Vt K m Q x v) (hj:Vt K m Q i j)
  (ht:jg P t=some (kt,et)) (hm:fx m x=some es) (hp:b8 P kt=true)
  (h:(match gH P kt i es 0,iy P et with
    |some (some (_,v)),_=>some (if ok then CV.tuple [v,.bool true] else v,m)
    |some none,some z=>some (if ok then CV.tuple [z,.bool false] else z,m)
    |_,_=>none)=some (c,m)) :
  ∃r,(Instr.lookup t v j ok).run P w=.ok r w∧Vt K m Q c r:=by
 have hu:=lg ht;obtain⟨d,hd⟩:∃d,P.underlying kt=some d:=by
  unfold b8 at hp;split at hp<;>first|exact⟨_,by assumption⟩|simp at hp
 have fin:∀(b:Bool) (c0:CV) (r0:Value),Vt K m Q c0 r0→Vt K m Q (if ok then CV.tuple [c0,.bool b] else c0) (if ok then .tuple #[r0,.bool b] else r0):=by
  intro b c0 r0 h0;cases ok
  ·simpa using h0
  ·simp only[if_true,Vt,V,Vs]
   exact⟨_,rfl,r0,[.bool b],rfl,h0,.bool b,[],rfl,rfl,rfl⟩
 obtain⟨arr,hv',hlen,hrows⟩:∃arr:Array MapEntry,((v=.map none∧arr=#[])∨∃r clk,v=.map (some r)∧w.heap[r]?=some (.map arr clk)) ∧
   arr.toList.length=es.length∧∀(j:Nat) (e:CV×CV),es[j]?=some e→∃x,arr.toList[j]?=some x∧ji K m.get Q e x:=by
  rcases pP hR hv hm with⟨rfl,rfl⟩|⟨r,xs,clk,rfl,h1,h2,h3⟩
  ·exact⟨#[],.inl ⟨rfl,rfl⟩,rfl,by simp⟩
  ·exact⟨xs,.inr ⟨r,clk,rfl,h1⟩,by simpa using h2,by simpa using h3⟩
 cases hc:gH P kt i es 0 with
 |none=>simp[hc] at h
 |some r=>
  obtain⟨r',hr1,hr2⟩:=nq (M:=m.get) (Q:=Q) (K:=K) hp hd hj es arr.toList 0 r hlen hrows hc;simp only[hc] at h;have hfind:(Instr.findKey kt j arr.toList).run P w=.ok r' w:=by
   simp[Instr.findKey,aY hd,hr1]
  rw[qI hu hp hv' hfind]
  cases r with
  |some p=>
   obtain⟨a,c0⟩:=p
   cases r' with
   |none=>simp at hr2
   |some q=>
    obtain⟨b,v0⟩:=q;simp only[Option.some.injEq,Prod.mk.injEq] at h;obtain⟨rfl,_⟩:=h
    exact⟨_,rfl,fin true c0 v0 (rx hr2.2.1)⟩
  |none=>
   cases r' with
   |some q=>simp at hr2
   |none=>
    cases hz:iy P et with
    |none=>simp[hz] at h
    |some z=>
     simp only[hz,Option.some.injEq,Prod.mk.injEq] at h;obtain⟨rfl,_⟩:=h;obtain⟨v0,hz1,hz2,_⟩:=gO (K:=K) (M:=m.get) (Q:=Q) (w:=w) (loc:=true) hz
     exact⟨_,by simp only[hz1,Result.andThen_ok],fin false z v0 hz2⟩
theorem nY {b:Bool}{cs:List CV}{c:CV}{vs:List Value}(hv:Vs K m.get Q true cs vs) (h:hZ b cs=some c) (ts:Array TypeId) (ty:TypeId) :
  ∃r,(if b then Builtin.max_ ts ty vs.toArray else Builtin.min_ ts ty vs.toArray).run P w=.ok r w∧Vt K m Q c r:=by
 unfold hZ at h
 split at h
 ·rename_i k a k' c'
  split at h
  ·rename_i he;subst he
   simp only[Option.some.injEq] at h;subst h;simp only[Vs,V] at hv;obtain⟨v,r,rfl,rfl,u,r',rfl,rfl,rfl⟩:=hv;cases b
   ·exact⟨_,by simp[Builtin.min_,Builtin.min2];rfl,by simp[Vt,V]⟩
   ·exact⟨_,by simp[Builtin.max_,Builtin.max2];rfl,by simp[Vt,V]⟩
  ·simp at h
 ·simp at h
theorem mY {ρ:Operand→CV}{ρ':Operand→Value}(hρ:∀x,Vt K m Q (ρ x) (ρ' x)):∀(l:List Operand),Vs K m.get Q true (l.map ρ) (l.map ρ')
 |[]=>by simp[Vs]
 |x::l=>by simp only[List.map_cons,Vs];exact⟨_,_,rfl,hρ x,mY hρ l⟩
theorem n8 {ρ:Operand→CV}{ρ':Operand→Value}(hρ:∀x,Vt K m Q (ρ x) (ρ' x)) (o:Option Operand):iU K m Q (o.map ρ) (o.map ρ'):=by
 cases o<;>simp[iU,hρ]
theorem qL {want:Array (String×TypeId)}{got:Array Method}(h:(want.toList.all λw=>got.any λx=>x.name==w.1&&x.sig==w.2)=true):Instr.missingMethod want got=none:=by
 have:(want.toList.filter λ(x:String×TypeId)=>!got.any λm=>m.name==x.1&&m.sig==x.2)=[]:=by
  rw[List.filter_eq_nil_iff];intro x hx;simpa using List.all_eq_true.1 h x hx
 unfold Instr.missingMethod;simp only[this];rfl
theorem qM {want:Array (String×TypeId)}{got:Array Method}(h:(want.toList.all λw=>got.any λx=>x.name==w.1&&x.sig==w.2)=false):∃s,Instr.missingMethod want got=some s:=by
 have:(want.toList.filter λ(x:String×TypeId)=>!got.any λm=>m.name==x.1&&m.sig==x.2)≠[]:=by
  intro hn;rw[List.filter_eq_nil_iff] at hn;have:(want.toList.all λw=>got.any λx=>x.name==w.1&&x.sig==w.2)=true:=List.all_eq_true.2 λx hx=>by simpa using hn x hx
  rw[this] at h;cases h
 unfold Instr.missingMethod;generalize hf:(want.toList.filter λ(x:String×TypeId)=>!got.any λm=>m.name==x.1&&m.sig==x.2)=l at this
 cases l with
 |nil=>exact absurd rfl this
 |cons a l=>
  simp only[List.map_cons];generalize hp:(a.1::l.map (·.1)).partition (·.contains '.')=pr;obtain⟨p1,p2⟩:=pr;simp only[]
  cases p2 with
  |cons b p2=>exact⟨_,rfl⟩
  |nil=>
   cases p1 with
   |cons c p1=>exact⟨_,rfl⟩
   |nil=>
    exfalso;rw[List.partition_eq_filter_filter] at hp
    simp only[Prod.mk.injEq,List.filter_eq_nil_iff] at hp;have h1:=hp.1 a.1 (by simp);have h2:=hp.2 a.1 (by simp)
    cases hc:a.1.contains '.'
    ·simp[Function.comp,hc] at h2
    ·exact h1 hc
theorem pW (hR:MR K m.get Q w) {A:Ann}{F:aW}{fid:FuncId}{ρ:Operand→CV}{ρ':Operand→Value}(hρ:∀x,Vt K m Q (ρ x) (ρ' x)) {o:Oper}{c:CV}{m':Mem}
  (hq:bJ o.op=true) (h:cval P A F fid ρ o m=some (c,m')) :
  m'=m∧∃r,(execOp ρ' o).run P w=.ok (.value r) w∧Vt K m Q c r:=by
 obtain⟨dst,op,ty,pos,after,guard⟩:=o
 cases op<;>simp only[bJ,Bool.false_eq_true] at hq<;>simp only[cval] at h
 case move x=>simp only[Option.some.injEq,Prod.mk.injEq] at h;exact⟨h.2.symm,ρ' x,by simp[execOp],by rw[←h.1];exact hρ x⟩
 case assign x=>simp only[Option.some.injEq,Prod.mk.injEq] at h;exact⟨h.2.symm,ρ' x,by simp[execOp],by rw[←h.1];exact hρ x⟩
 case pick c' a b=>
  have hc:=hρ c'
  split at h<;>first|(simp only[Option.some.injEq,Prod.mk.injEq] at h)|(simp at h;done)
  ·rename_i he;rw[he] at hc;simp only[Vt,V] at hc
   exact⟨h.2.symm,ρ' a,by simp[execOp,hc,asBool],by rw[←h.1];exact hρ a⟩
  ·rename_i he;rw[he] at hc;simp only[Vt,V] at hc
   exact⟨h.2.symm,ρ' b,by simp[execOp,hc,asBool],by rw[←h.1];exact hρ b⟩
 case build t parts=>
  have hparts:∀(i:Nat) (a:Nat×CV) (b:Nat×Value),(parts.toList.map λp=>(p.1,ρ p.2))[i]?=some a→(parts.toList.map λp=>(p.1,ρ' p.2))[i]?=some b→a.1=b.1∧V K m.get Q true a.2 b.2:=by
   intro i a b ha hb;simp only[List.getElem?_map,Option.map_eq_some_iff] at ha hb;obtain⟨p,hp,rfl⟩:=ha;obtain⟨p',hp',rfl⟩:=hb;rw[hp] at hp';simp only[Option.some.injEq] at hp';subst hp'
   exact⟨rfl,hρ _⟩
  have hlen:(parts.toList.map λp=>(p.1,ρ p.2)).length=(parts.toList.map λp=>(p.1,ρ' p.2)).length:=by simp
  have hmap:(parts.map λp=>(p.1,ρ' p.2)).toList=parts.toList.map λp=>(p.1,ρ' p.2):=by simp
  split at h
  ·rename_i z fields hz hu
   split at h
   ·rename_i hall
    simp only[Option.map_eq_some_iff,Prod.mk.injEq] at h;obtain⟨cs,hcs,rfl,rfl⟩:=h;obtain⟨v0,hz1,hz2,hz3,_⟩:=js (K:=K) (M:=m.get) (Q:=Q) (w:=w) (loc:=true) hz;obtain⟨vs',h1,h2,h3,_⟩:=LF (K:=K) (Q:=Q) _ _ _ _ _ hlen hparts hz2 hz3 hcs;have hmm:=Eo (P:=P) (λf:Field=>do pure (f.offset,←sizeOf f.type)) (λf:Field=>(f.offset,(bK P f.type).getD 0)) w fields λf hf=>by
     have:=List.all_eq_true.1 hall f hf;obtain⟨s,hs⟩:=Option.isSome_iff_exists.1 this;simp[co hs,hs]
    have hpl:(λi:Nat=>(fields[i]?).bind λf=>(bK P f.type).map λs=>(f.offset,s))=λi:Nat=>(fields.map λf:Field=>(f.offset,(bK P f.type).getD 0))[i]?:=by
     funext i
     simp only[Array.getElem?_map]
     cases hf:fields[i]? with
     |none=>simp
     |some f=>
      have hf':f∈fields.toList:=by
       have:=Array.mem_of_getElem? hf;exact Array.mem_toList_iff.2 this
      obtain⟨s,hs⟩:=Option.isSome_iff_exists.1 (List.all_eq_true.1 hall f hf');simp[hs]
    rw[hpl] at h1
    refine⟨rfl,.agg vs',?_,by simp only[Vt,V];exact⟨h2,vs',rfl,h3⟩⟩
    simp only[execOp,Instr.build,Sem.run_bind,hz1,Result.andThen_ok,aY hu,hmm,hmap,h1,Sem.run_pure]
   ·simp at h
  ·rename_i z n e hz hu
   cases hs:bK P e with
   |none=>simp[hs] at h
   |some s=>
    simp only[hs,Option.bind_some,Option.map_eq_some_iff,Prod.mk.injEq] at h;obtain⟨cs,hcs,rfl,rfl⟩:=h;obtain⟨v0,hz1,hz2,hz3,_⟩:=js (K:=K) (M:=m.get) (Q:=Q) (w:=w) (loc:=true) hz;obtain⟨vs',h1,h2,h3,_⟩:=LF (K:=K) (Q:=Q) _ _ _ _ _ hlen hparts hz2 hz3 hcs
    refine⟨rfl,.agg vs',?_,by simp only[Vt,V];exact⟨h2,vs',rfl,h3⟩⟩
    simp only[execOp,Instr.build,Sem.run_bind,hz1,Result.andThen_ok,aY hu,co hs,hmap,h1,Sem.run_pure]
  ·simp at h
 case load t a=>
  simp only[Option.map_eq_some_iff,Prod.mk.injEq] at h;obtain⟨v,hv,rfl,rfl⟩:=h;obtain⟨u,h1,h2⟩:=pE (P:=P) hR (hρ a) hv
  exact⟨rfl,u,by simp[execOp,h1],h2⟩
 case nilCheck x=>
  have hx:=hρ x
  split at h<;>first|(simp only[Option.some.injEq,Prod.mk.injEq] at h)|(simp at h;done)
  ·rename_i he;rw[he] at hx
   obtain⟨rfl,rfl⟩:=h;have hx':=hx;simp only[Vt,V] at hx';obtain⟨_,_,a,_,_,hv,_⟩:=hx'
   exact⟨rfl,ρ' x,by simp[execOp,hv],hx⟩
  ·rename_i he;rw[he] at hx
   obtain⟨rfl,rfl⟩:=h;have hx':=hx;simp only[Vt,V] at hx';obtain⟨_,b,o,hv,_⟩:=hx'
   exact⟨rfl,ρ' x,by simp[execOp,hv],hx⟩
 case binOp op t x y yt=>
  simp only[Option.map_eq_some_iff,Prod.mk.injEq] at h;obtain⟨v,hv,rfl,rfl⟩:=h;obtain⟨u,h1,h2⟩:=DP (P:=P) (w:=w) (hρ x) (hρ y) hv
  refine⟨rfl,u,?_,h2⟩
  simp only[execOp,Sem.run_bind] at h1 ⊢;rw[h1];simp
 case unOp op t x=>
  simp only[Option.map_eq_some_iff,Prod.mk.injEq] at h;obtain⟨v,hv,rfl,rfl⟩:=h;obtain⟨u,h1,h2⟩:=cun_run (P:=P) (w:=w) (hρ x) hv
  exact⟨rfl,u,by simp[execOp,h1],h2⟩
 case convert src dst' x=>
  have hx:=hρ x
  split at h
  ·rename_i d k k' n hs hk he
   simp only[Option.some.injEq,Prod.mk.injEq] at h;obtain⟨rfl,rfl⟩:=h;rw[he] at hx;simp only[Vt,V] at hx;have hk':P.underlying dst'=some (.int k):=by unfold FW at hk;split at hk<;>simp_all
   exact⟨rfl,.int k (k.wrap n),by simp[execOp,convert,aY hs,aY hk',hx,Conv.intToInt],by simp[Vt,V]⟩
  ·simp at h
 case makeInterface t x=>
  split at h
  ·simp at h
  ·rename_i hn
   simp only[Option.some.injEq,Prod.mk.injEq] at h;obtain⟨rfl,rfl⟩:=h;have hcon:P.concrete t=true:=by
    unfold mK at hn;unfold Program.concrete
    cases hu:P.underlying t with
    |none=>simp[hu] at hn
    |some d=>cases d<;>simp[hu] at hn ⊢
   refine⟨rfl,.iface t (ρ' x),by simp[execOp,run_makeInterface w t (ρ' x) hcon],?_⟩
   simp only[Vt,V];exact⟨_,rfl,hρ x⟩
 case makeFunc fn first captured=>
  simp only[Option.some.injEq,Prod.mk.injEq] at h;obtain⟨rfl,rfl⟩:=h
  refine⟨rfl,.func fn (first.map ρ') (captured.map ρ'),by simp[execOp,Instr.makeFunc],?_⟩
  simp only[Vt,V]
  exact⟨_,_,rfl,by simpa using mY hρ first.toList,by simpa using mY hρ captured.toList⟩
 case slice t x lo hi mx=>
  simp only[Option.map_eq_some_iff,Prod.mk.injEq] at h;obtain⟨v,hv,rfl,rfl⟩:=h;obtain⟨u,h1,h2⟩:=tL (P:=P) hR (hρ x) (n8 hρ lo) (n8 hρ hi) (n8 hρ mx) hv
  exact⟨rfl,u,by simp[execOp,h1],h2⟩
 case fieldAddr t x f=>
  simp only[Option.map_eq_some_iff,Prod.mk.injEq] at h;obtain⟨v,hv,rfl,rfl⟩:=h;obtain⟨u,h1,h2⟩:=nj (P:=P) (w:=w) (hρ x) hv
  exact⟨rfl,u,by simp[execOp,h1],h2⟩
 case field t x f=>
  have hx:=hρ x
  split at h
  ·rename_i off ft cs hf he
   simp only[Option.map_eq_some_iff,Prod.mk.injEq] at h;obtain⟨v,hv,rfl,rfl⟩:=h;rw[he] at hx;simp only[Vt,V] at hx;obtain⟨hall,vs,hvs,hs⟩:=hx;obtain⟨fs,fd,hu,hfd,rfl,rfl⟩:=oq hf;obtain⟨u,h1,h2⟩:=jv (P:=P) (w:=w) hall hs hv
   exact⟨rfl,u,by simp[execOp,Instr.field,aY hu,hfd,hvs,asAgg,h1],h2⟩
  ·simp at h
 case indexAddr t x i=>
  simp only[Option.map_eq_some_iff,Prod.mk.injEq] at h;obtain⟨v,hv,rfl,rfl⟩:=h;obtain⟨u,h1,h2⟩:=nl (P:=P) (w:=w) (hρ x) (hρ i) hv
  exact⟨rfl,u,by simp[execOp,h1],h2⟩
 case index t x i=>
  have hx:=hρ x
  split at h
  ·rename_i cs n he ha
   obtain⟨k,z,hi,h0,hzn⟩:=fG (hρ i) ha;rw[he] at hx;simp only[Vt,V] at hx;obtain⟨hall,vs,hvs,hs⟩:=hx
   split at h
   ·rename_i n' e ht
    split at h
    ·rename_i hlt
     cases hs':bK P e with
     |none=>simp[hs'] at h
     |some s=>
      simp only[hs',Option.bind_some,Option.map_eq_some_iff,Prod.mk.injEq] at h;obtain⟨v,hv,rfl,rfl⟩:=h;obtain⟨u,h1,h2⟩:=jv (P:=P) (w:=w) hall hs hv
      refine⟨rfl,u,?_,h2⟩
      simp only[execOp,Instr.index,hvs,hi,asIntOf,Sem.run_bind,Sem.run_pure,Result.andThen_ok,aY (Ep ht)];rw[if_pos ⟨h0,by omega⟩];simp only[Sem.run_bind,co hs',Result.andThen_ok,hzn,h1,Sem.run_pure]
    ·simp at h
   ·simp at h
  ·rename_i s n he ha
   obtain⟨k,z,hi,h0,hzn⟩:=fG (hρ i) ha;rw[he] at hx;simp only[Vt,V] at hx
   split at h
   ·rename_i hu
    simp only[Option.map_eq_some_iff,Prod.mk.injEq] at h;obtain⟨b,hb,rfl,rfl⟩:=h
    refine⟨rfl,.int .u8 b.toNat,?_,by simp[Vt,V]⟩
    simp only[execOp,Instr.index,hx,hi,asIntOf,Sem.run_bind,Sem.run_pure,Result.andThen_ok,aY hu,h0,if_true,hzn,hb]
   ·simp at h
  ·simp at h
 case lookup t x i ok=>
  split at h
  ·rename_i kt et es ht hm
   split at h
   ·rename_i hp
    have hm':m'=m:=by
     revert h
     split<;>intro h<;>simp only[Option.some.injEq,Prod.mk.injEq,reduceCtorEq] at h
     ·exact h.2.symm
     ·exact h.2.symm
    subst hm';obtain⟨u,h1,h2⟩:=tZ hR (hρ x) (hρ i) ht hm hp h
    exact⟨rfl,u,by simp[execOp,h1],h2⟩
   ·simp at h
  ·simp at h
 case typeAssert x xt t ok=>
  have hx:=hρ x;have holds:∀(c0:CV) (r0:Value),Vt K m Q c0 r0→Vt K m Q (if ok=true then CV.tuple [c0,.bool true] else c0) (if ok=true then .tuple #[r0,.bool true] else r0):=by
   intro c0 r0 h0;cases ok
   ·simpa using h0
   ·simp only[if_true,Vt,V,Vs]
    exact⟨_,rfl,r0,_,rfl,h0,_,_,rfl,rfl,rfl⟩
  split at h
  ·simp at h
  ·rename_i d hd
   split at h
   ·rename_i he
    rw[he] at hx;simp only[Vt,V] at hx
    split at h
    ·rename_i hok
     subst hok;simp only[Option.map_eq_some_iff,Prod.mk.injEq] at h;obtain⟨z,hz,rfl,rfl⟩:=h;obtain⟨v0,h1,h2,_⟩:=gO (K:=K) (M:=m.get) (Q:=Q) (w:=w) (loc:=true) hz
     refine⟨rfl,.tuple #[v0,.bool false],?_,by simp only[Vt,V,Vs];exact⟨_,rfl,v0,_,rfl,h2,_,_,rfl,rfl,rfl⟩⟩
     cases d<;>simp[execOp,Instr.typeAssert,aY hd,hx,h1]
    ·simp at h
   ·rename_i u v he
    rw[he] at hx;simp only[Vt,V] at hx;obtain⟨z,hxz,hz⟩:=hx;cases d
    case interface want=>
     simp only[] at h
     cases hi:P.info? u with
     |none=>simp[hi] at h
     |some i=>
      simp only[hi,Option.map_some] at h;have hti:(typeInfo u).run P w=.ok i w:=by simp[typeInfo,hi]
      split at h
      ·rename_i hall
       simp only[Option.some.injEq] at hall;simp only[Option.some.injEq,Prod.mk.injEq] at h;obtain⟨rfl,rfl⟩:=h;have hmiss:Instr.missingMethod want i.methods=none:=qL hall
       refine⟨rfl,_,?_,holds (.iface u v) (.iface u z) (by simp only[Vt,V];exact⟨z,rfl,hz⟩)⟩
       simp only[execOp,Instr.typeAssert,Sem.run_bind,aY hd,Result.andThen_ok,hxz,hti,hmiss,Sem.run_pure]
      ·rename_i hall
       simp only[Option.some.injEq] at hall
       split at h
       ·rename_i hok
        subst hok;simp only[Option.map_eq_some_iff,Prod.mk.injEq] at h;obtain⟨z0,hz0,rfl,rfl⟩:=h;obtain⟨v0,h1,h2,_⟩:=gO (K:=K) (M:=m.get) (Q:=Q) (w:=w) (loc:=true) hz0
        refine⟨rfl,.tuple #[v0,.bool false],?_,by simp only[Vt,V,Vs];exact⟨_,rfl,v0,_,rfl,h2,_,_,rfl,rfl,rfl⟩⟩
        obtain⟨s,hs⟩:=qM hall;simp only[execOp,Instr.typeAssert,Sem.run_bind,aY hd,Result.andThen_ok,hxz,hti,hs,if_true,h1,Sem.run_pure]
       ·simp at h
      ·simp at h
    all_goals
     simp only[] at h
     by_cases hut:u=t
     ·simp only[hut,decide_true,Option.some.injEq,Prod.mk.injEq] at h
      obtain⟨rfl,rfl⟩:=h
      refine⟨rfl,_,?_,holds v z hz⟩
      simp[execOp,Instr.typeAssert,aY hd,hxz,hut]
     ·simp only[hut,decide_false] at h
      split at h
      ·rename_i hok
       subst hok;simp only[Option.map_eq_some_iff,Prod.mk.injEq] at h;obtain⟨z0,hz0,rfl,rfl⟩:=h;obtain⟨v0,h1,h2,_⟩:=gO (K:=K) (M:=m.get) (Q:=Q) (w:=w) (loc:=true) hz0
       refine⟨rfl,.tuple #[v0,.bool false],?_,by simp only[Vt,V,Vs];exact⟨_,rfl,v0,_,rfl,h2,_,_,rfl,rfl,rfl⟩⟩
       simp[execOp,Instr.typeAssert,aY hd,hxz,hut,h1]
      ·simp at h
   ·simp at h
 case extract t i=>
  have hx:=hρ t
  split at h
  ·rename_i vs he
   simp only[Option.map_eq_some_iff,Prod.mk.injEq] at h;obtain⟨v,hv,rfl,rfl⟩:=h;rw[he] at hx;simp only[Vt,V] at hx;obtain⟨us,hus,hs⟩:=hx;obtain⟨u,h1,h2⟩:=dX hs hv;simp only[Array.getElem?_toList] at h1
   exact⟨rfl,u,by simp[execOp,Instr.extract,hus,h1],h2⟩
  ·simp at h
 case call cl=>
  obtain⟨callee,args,argTypes⟩:=cl;simp only[] at hq
  cases callee with
  |value f=>simp at hq
  |invoke r n=>simp at hq
  |builtin b=>
   have hargs:=mY hρ args.toList;have hres:∀(x:Sem Value),(∀consts,builtin b argTypes ty consts (args.map ρ')=(do pure (.value (←x))))→∀r,x.run P w=.ok r w →
     (execOp ρ' { dst:=dst,op:=.call { callee:=.builtin b,args:=args,argTypes:=argTypes },type:=ty,pos:=pos,after:=after,guard:=guard }).run P w=.ok (.value r) w:=by
    intro x hx r hr;simp only[execOp,resolve,Sem.run_bind,Sem.run_pure,Result.andThen_ok,invoke];rw[hx];simp[hr]
   cases b<;>simp only[oi,Bool.false_eq_true] at hq<;>simp only[] at h
   ·split at h
    ·rename_i x t hax hat
     rw[hax] at hargs;simp only[Vs] at hargs;obtain⟨v,r,hv,hxv,rfl⟩:=hargs;have ha':args.map ρ'=#[v]:=by apply Array.ext';simpa using hv
     have ht':argTypes=#[t]:=by apply Array.ext';simpa using hat
     split at h
     ·rename_i e hu
      simp only[Option.map_eq_some_iff,Prod.mk.injEq] at h;obtain⟨n,hn,rfl,rfl⟩:=h;obtain⟨a,cap,rfl,_⟩:=LE hxv hn
      refine⟨rfl,.int .i64 n,hres _ (λ_=>rfl) _ ?_,by simp[Vt,V]⟩
      simp[Builtin.len_,ha',ht',aY hu,goInt]
     ·rename_i k e hu
      simp only[Option.map_eq_some_iff,Prod.mk.injEq] at h;obtain⟨es,hes,rfl,rfl⟩:=h
      refine⟨rfl,.int .i64 es.length,hres _ (λ_=>rfl) _ ?_,by simp[Vt,V]⟩
      rcases pP hR hxv hes with⟨rfl,rfl⟩|⟨r,xs,clk,rfl,h1,h2,h3⟩
      ·simp[Builtin.len_,ha',ht',aY hu,goInt]
      ·simp[Builtin.len_,ha',ht',aY hu,goInt,dG h1,h2]
     ·rename_i hu
      split at h
      ·rename_i s
       simp only[Option.some.injEq,Prod.mk.injEq] at h;obtain⟨rfl,rfl⟩:=h;simp only[V] at hxv;subst hxv
       refine⟨rfl,.int .i64 s.size,hres _ (λ_=>rfl) _ ?_,by simp[Vt,V]⟩
       simp[Builtin.len_,ha',ht',aY hu,goInt]
      ·simp at h
     ·rename_i n e hu
      simp only[Option.some.injEq,Prod.mk.injEq] at h;obtain⟨rfl,rfl⟩:=h
      refine⟨rfl,.int .i64 n,hres _ (λ_=>rfl) _ ?_,by simp[Vt,V]⟩
      cases v<;>simp[Builtin.len_,ha',ht',aY hu,goInt]
     ·simp at h
    ·simp at h
   ·simp only[Option.map_eq_some_iff,Prod.mk.injEq] at h
    obtain⟨v,hv,rfl,rfl⟩:=h;obtain⟨u,h1,h2⟩:=nY (P:=P) (w:=w) hargs hv argTypes ty
    refine⟨rfl,u,hres _ (λ_=>rfl) _ ?_,h2⟩
    have:args.map ρ'=(args.toList.map ρ').toArray:=by apply Array.ext';simp
    rw[this];simpa using h1
   ·simp only[Option.map_eq_some_iff,Prod.mk.injEq] at h
    obtain⟨v,hv,rfl,rfl⟩:=h;obtain⟨u,h1,h2⟩:=nY (P:=P) (w:=w) hargs hv argTypes ty
    refine⟨rfl,u,hres _ (λ_=>rfl) _ ?_,h2⟩
    have:args.map ρ'=(args.toList.map ρ').toArray:=by apply Array.ext';simp
    rw[this];simpa using h1
end
end Go.Cm
namespace Go.Cm
section
variable {K:KM}{Q:PM}{P:Program}{w:World}
theorem wk (h:HO) (n:Nat):(h.seen n).gn=h.gn:=by cases h<;>rfl
theorem uh (h:HO) (n:Nat):(h.seen n).cells=h.cells:=by cases h<;>rfl
theorem ui (h:HO) (n:Nat):(h.seen n).isMap=h.isMap:=by cases h<;>rfl
theorem seen_vl (h:HO) (n:Nat):h.vl≤(h.seen n).vl:=by cases h<;>simp[HO.seen,HO.vl]<;>omega
theorem seen_ge (h:HO) (n:Nat) (hm:h.isMap=false):n≤(h.seen n).vl:=by cases h<;>simp_all [HO.seen,HO.vl,HO.isMap]<;>omega
theorem xF (h:HO) (a b:Nat):(h.seen a).seen b=h.seen (max a b):=by cases h<;>simp[HO.seen,Nat.max_assoc]
theorem HT (h:HO):h.seen 0=h:=by cases h<;>simp[HO.seen]
structure Look (K:KM) (m:Mem) (K':KM) (m':Mem) (Q:PM) (w:World):Prop where
 mr:MR K' m'.get Q w
 kk:∀b o v,K b o=some v→K' b o=some v
 kn:∀b o v,K' b o=some v→K b o=some v∨∃k q,Q k=some q∧q.blk=b
 keep:∀k h,m.get k=some h→∃n,m'.get k=some (h.seen n)
 back:∀k,m.get k=none→m'.get k=none
 hh:m'.H=m.H
theorem wO (h:HO) (n:Nat) (p:Option Pl):wN h (h.seen n) p p:=
 ⟨λ_ h=>h,λg sz cs vl he=>by subst he;exact⟨cs,_,rfl,Nat.le_refl _⟩⟩
theorem Look.grow {K':KM}{m m':Mem}(h:Look K m K' m' Q w):Grow true m.get Q m'.get Q:=by
 intro k x _ hx;obtain⟨n,hn⟩:=h.keep k x hx
 exact⟨_,hn,by rw[wk];exact Nat.le_refl _,λ_=>wO x n _⟩
theorem Look.refl {m:Mem}(h:MR K m.get Q w):Look K m K m Q w:=
 ⟨h,λ_ _ _ h=>h,λ_ _ _ h=>.inl h,λk x hx=>⟨0,by rw[HT];exact hx⟩,λ_ h=>h,rfl⟩
theorem Look.trans {K' K'':KM}{m m' m'':Mem}(h:Look K m K' m' Q w) (h':Look K' m' K'' m'' Q w):Look K m K'' m'' Q w:=
 ⟨h'.mr,λb o v hv=>h'.kk _ _ _ (h.kk _ _ _ hv),λb o v hv=>(h'.kn b o v hv).elim (h.kn b o v) .inr,
  λk x hx=>by
  obtain⟨n,hn⟩:=h.keep k x hx;obtain⟨n',hn'⟩:=h'.keep k _ hn
  exact⟨max n n',by rw[hn',xF]⟩,λk hk=>h'.back k (h.back k hk),h'.hh.trans h.hh⟩
theorem Look.V {K':KM}{m m':Mem}(h:Look K m K' m' Q w) {loc:Bool}{c:CV}{v:Value}(hv:V K m.get Q loc c v):V K' m'.get Q loc c v:=
 V_mono h.kk h.grow.sub (λh=>h) (by cases loc;exact h.grow.sub;exact h.grow) c v hv
theorem Look.Vs {K':KM}{m m':Mem}(h:Look K m K' m' Q w) {loc:Bool}{c:List CV}{v:List Value}(hv:Vs K m.get Q loc c v):Vs K' m'.get Q loc c v:=
 Vs_mono h.kk h.grow.sub (λh=>h) (by cases loc;exact h.grow.sub;exact h.grow) c v hv
def JH (K:KM) (w:World) (b lo hi:Nat):KM:=λb' o=>if b'=b∧lo≤o∧o<hi then w.cell? ⟨b',o,none⟩ else K b' o
theorem bQ (m:Mem) (k:Key) (h x:HO) (hk:m.get k=some x):(m.set k h).get=upd m.get k h:=by
 funext k';rw[qA m k k' h x hk];rfl
theorem nV {m:Mem}(h:MR K m.get Q w) {j:Nat}{x:HO}(hx:m.get (.l j)=some x) (hm:x.isMap=false) (n lo hi:Nat) (q:Option Pl)
  (hq:∀p,q=some p→Q (.l j)=some p∧p.base≤lo∧hi≤p.base+n) (hnone:q=none→hi≤lo) :
  Look K m (JH K w ((q.map Pl.blk).getD 0) lo hi) (m.set (.l j) (x.seen n)) Q w:=by
 have hkk:∀b o v,K b o=some v→JH K w ((q.map Pl.blk).getD 0) lo hi b o=some v:=by
  intro b o v hv;unfold JH;split
  ·exact h.stab b o v hv
  ·exact hv
 refine⟨?_,hkk,λb o v hv=>?_,λk y hy=>?_,λk hk=>?_,rfl⟩
 ·rw[bQ m (.l j) (x.seen n) x hx]
  refine h.look hx (wk x n) (uh x n) hm (.inr ⟨n,rfl⟩) (seen_vl x n) hkk λb o v hv=>?_;unfold JH at hv
  split at hv
  ·rename_i hc
   obtain⟨hb,h1,h2⟩:=hc
   cases q with
   |none=>have:=hnone rfl;omega
   |some p=>
    obtain⟨hp1,hp2,hp3⟩:=hq p rfl;simp only[Option.map_some,Option.getD_some] at hb;subst hb;have:=seen_ge x n hm;exact .inr ⟨p,hp1,rfl,by omega,by omega,hv⟩
  ·exact .inl hv
 ·unfold JH at hv
  split at hv
  ·rename_i hc
   obtain⟨hb,h1,h2⟩:=hc
   cases q with
   |none=>have:=hnone rfl;omega
   |some p=>exact .inr ⟨_,p,(hq p rfl).1,by simp at hb;exact hb.symm⟩
  ·exact .inl hv
 ·rw[qA m (.l j) k (x.seen n) x hx]
  by_cases he:(.l j)=k
  ·subst he;rw[hx] at hy;simp only[Option.some.injEq] at hy;subst hy
   exact⟨n,by simp⟩
  ·exact⟨0,by rw[if_neg he,HT];exact hy⟩
 ·rw[qA m (.l j) k (x.seen n) x hx]
  by_cases he:(.l j)=k
  ·subst he;rw[hx] at hk;cases hk
  ·rw[if_neg he];exact hk
def EscOK (K:KM) (Q:PM) (w:World) (f:CV→Mem→Option (CV×Mem)):Prop:=
 ∀(K:KM) (v c:CV) (m m':Mem) (x:Value),MR K m.get Q w→V K m.get Q true v x→f v m=some (c,m') →
  ∃K',Look K m K' m' Q w∧V K' m'.get Q false c x∧(bE v=true→bE c=true)
theorem e8 {f:CV→Mem→Option (CV×Mem)}(hf:EscOK K Q w f):∀(l cs:List CV) (K:KM) (m m':Mem) (xs:List Value),MR K m.get Q w→Vs K m.get Q true l xs→am f l m=some (cs,m') →
  ∃K',Look K m K' m' Q w∧Vs K' m'.get Q false cs xs∧(l.all bE=true→cs.all bE=true)∧cs.length=l.length:=by
 intro l
 induction l with
 |nil=>
  intro cs K m m' xs hR hV h;simp only[am,Option.some.injEq,Prod.mk.injEq] at h;obtain⟨rfl,rfl⟩:=h
  exact⟨K,Look.refl hR,by simpa[Vs] using hV,λh=>h,rfl⟩
 |cons v l ih=>
  intro cs K m m' xs hR hV h;simp only[Vs] at hV;obtain⟨x,r,rfl,hx,hr⟩:=hV;simp only[am] at h
  cases h1:f v m with
  |none=>simp[h1] at h
  |some a=>
   obtain⟨c,m1⟩:=a;simp only[h1,Option.bind_some] at h
   cases h2:am f l m1 with
   |none=>simp[h2] at h
   |some b=>
    obtain⟨cs',m2⟩:=b;simp only[h2,Option.map_some,Option.some.injEq,Prod.mk.injEq] at h;obtain⟨rfl,rfl⟩:=h;obtain⟨K1,hl1,hc,hleaf⟩:=hf K v c m m1 x hR hx h1;obtain⟨K2,hl2,hcs,hall,hlen⟩:=ih cs' K1 m1 m2 r hl1.mr (hl1.Vs hr) h2
    refine⟨K2,hl1.trans hl2,?_,λha=>?_,by simp[hlen]⟩
    ·simp only[Vs];exact⟨x,r,rfl,hl2.V hc,hcs⟩
    ·simp only[List.all_cons,Bool.and_eq_true] at ha ⊢
     exact⟨hleaf ha.1,hall ha.2⟩
theorem Vk_ext {m:Mem}{b lo:Nat}{cs:List CV}{vs:List Value}{K':KM}(hV:Vs K' m.get Q false cs vs) (hlen:∀(i:Nat) (v:Value),vs[i]?=some v→K' b (lo+i)=some v):Vk K' m.get Q b lo cs:=
 ph λi c hc=>by
  obtain⟨v,h1,h2⟩:=dX hV hc
  exact⟨v,hlen i v h1,h2⟩
theorem vW:∀(n:Nat),EscOK K Q w (esc n):=by
 intro n
 induction n with
 |zero=>intro K v c m m' x _ _ h;simp[esc] at h
 |succ n ih=>
  intro K v c m m' x hR hV h;have same:∀{c0:CV},V K m.get Q false v x→some (v,m)=some (c0,m')→∃K',Look K m K' m' Q w∧V K' m'.get Q false c0 x∧(bE v=true→bE c0=true):=by
   intro c0 hv he;simp only[Option.some.injEq,Prod.mk.injEq] at he;obtain⟨rfl,rfl⟩:=he
   exact⟨K,Look.refl hR,hv,λh=>h⟩
  cases v
  case dead=>simp[esc] at h
  case bool b=>exact same (by simpa[V] using hV) (by simpa[esc] using h)
  case int k i=>exact same (by simpa[V] using hV) (by simpa[esc] using h)
  case str s=>exact same (by simpa[V] using hV) (by simpa[esc] using h)
  case nil=>exact same (by simpa[V] using hV) (by simpa[esc] using h)
  case imm k cs=>exact same (by simpa[V] using hV) (by simpa[esc] using h)
  case own=>simp[esc] at h
  case pnil=>exact same (by simpa[V] using hV) (by simpa[esc] using h)
  case rptr cs=>exact same (by simpa[V] using hV) (by simpa[esc] using h)
  case mnil=>exact same (by simpa[V] using hV) (by simpa[esc] using h)
  case nilf=>exact same (by simpa[V] using hV) (by simpa[esc] using h)
  case inil=>exact same (by simpa[V] using hV) (by simpa[esc] using h)
  case map k g=>
   cases k with
   |l j=>simp[esc] at h
   |g j=>exact same (by simpa[V,keyOK] using hV) (by simpa[esc] using h)
  case agg cs=>
   simp only[esc,Option.map_eq_some_iff,Prod.mk.injEq] at h;obtain⟨⟨l,m1⟩,h1,rfl,rfl⟩:=h;simp only[V] at hV;obtain⟨hall,vs,rfl,hs⟩:=hV;obtain⟨K',hl,hs',hall',_⟩:=e8 ih _ _ K _ _ _ hR hs h1
   exact⟨K',hl,by simp only[V];exact⟨hall' hall,vs,rfl,hs'⟩,by simp[bE]⟩
  case tuple cs=>
   simp only[esc,Option.map_eq_some_iff,Prod.mk.injEq] at h;obtain⟨⟨l,m1⟩,h1,rfl,rfl⟩:=h;simp only[V] at hV;obtain⟨vs,rfl,hs⟩:=hV;obtain⟨K',hl,hs',_,_⟩:=e8 ih _ _ K _ _ _ hR hs h1
   exact⟨K',hl,by simp only[V];exact⟨vs,rfl,hs'⟩,by simp[bE]⟩
  case iface t y=>
   simp only[esc,Option.map_eq_some_iff,Prod.mk.injEq] at h;obtain⟨⟨l,m1⟩,h1,rfl,rfl⟩:=h;simp only[V] at hV;obtain⟨u,rfl,hu⟩:=hV;obtain⟨K',hl,hs',_⟩:=ih K _ _ _ _ _ hR hu h1
   exact⟨K',hl,by simp only[V];exact⟨u,rfl,hs'⟩,by simp[bE]⟩
  case func f a b=>
   simp only[esc] at h
   cases h1:am (esc n) a m with
   |none=>simp[h1] at h
   |some x1=>
    obtain⟨l1,m1⟩:=x1;simp only[h1,Option.bind_some,Option.map_eq_some_iff,Prod.mk.injEq] at h;obtain⟨⟨l2,m2⟩,h2,rfl,rfl⟩:=h;simp only[V] at hV;obtain⟨xa,xb,rfl,ha,hb⟩:=hV;obtain⟨K1,hl1,hs1,_,_⟩:=e8 ih _ _ K _ _ _ hR ha h1;obtain⟨K2,hl2,hs2,_,_⟩:=e8 ih _ _ K1 _ _ _ hl1.mr (hl1.Vs hb) h2
    exact⟨K2,hl1.trans hl2,by simp only[V];exact⟨xa,xb,rfl,hl2.Vs hs1,hs2⟩,by simp[bE]⟩
  case ref k gn off len=>
   cases k with
   |g j=>exact same (by simpa[V,keyOK] using hV) (by simpa[esc] using h)
   |l j=>
    simp only[esc] at h
    split at h
    ·rename_i g sz cs vl hget
     split at h
     ·rename_i hg
      subst hg;simp only[Option.some.injEq,Prod.mk.injEq] at h;obtain⟨rfl,rfl⟩:=h;have hget':m.get (.l j)=some (.arr g sz cs vl):=hget;simp only[V] at hV;obtain⟨_,y,a,cap,hy,_,rfl,hcap,hsome,hra⟩:=hV;rw[hget'] at hy;simp only[Option.some.injEq] at hy;subst hy;obtain⟨sz',cs',vl',he,hra⟩:=hra rfl;simp only[HO.arr.injEq] at he;obtain⟨_,rfl,rfl,rfl⟩:=he;rcases hra with hz|⟨q,hq,rfl,hb1,hb2⟩
      ·have hl0:len=0:=by omega
       subst hl0
       refine⟨_,nV hR hget' rfl (off+0*sz) 0 0 none (by simp) (λ_=>Nat.le_refl _),?_,λ_=>rfl⟩
       simp only[V]
       exact⟨by simp,a,cap,rfl,by omega,.inl (by simp)⟩
      ·have hlk:=nV hR hget' rfl (off+len*sz) (q.base+off) (q.base+off+len*sz) (some q) (λp hp=>by
        simp only[Option.some.injEq] at hp;subst hp;exact⟨hq,by omega,by omega⟩) (by simp)
       refine⟨_,hlk,?_,λ_=>rfl⟩
       obtain⟨⟨es,t,h1,h2,h3⟩,h4,_⟩:=hR.objs _ _ hget' q hq;simp only[HO.cells] at h3 h4;simp only[V]
       refine⟨List.all_eq_true.2 λy hy=>?_,_,cap,rfl,hcap,.inr ⟨q.blk,q.base+off,rfl,?_⟩⟩
       ·obtain⟨i,hi⟩:=List.getElem?_of_mem (List.mem_of_mem_drop (List.mem_of_mem_take hy))
        exact(h3 i y hi).1
       ·refine ph λi y hy=>?_
        rw[List.getElem?_take] at hy
        split at hy
        ·rename_i hi
         rw[List.getElem?_drop] at hy;obtain⟨_,u,hu,hVu⟩:=h3 _ _ hy
         refine⟨u,?_,hlk.V hVu⟩
         simp only[JH,Option.map_some,Option.getD_some];rw[if_pos ⟨trivial,by omega,by omega⟩,gM h1,show q.base+off+i=q.base+(off+i) from by omega];exact hu
        ·simp at hy
     ·simp at h
    ·simp at h
  case ptr k gn off=>
   cases k with
   |g j=>exact same (by simpa[V,keyOK] using hV) (by simpa[esc] using h)
   |l j=>
    simp only[esc] at h
    split at h
    ·rename_i y hget
     have hget':m.get (.l j)=some y:=hget
     split at h
     ·rename_i hg
      obtain⟨hg,hmap,ho⟩:=hg
      cases h1:am (esc n) (y.cells.drop off) m with
      |none=>simp[h1] at h
      |some x1=>
       obtain⟨l1,m1⟩:=x1;simp only[h1,Option.bind_some] at h
       split at h
       ·rename_i y' hget1
        have hget1':m1.get (.l j)=some y':=hget1;simp only[Option.some.injEq,Prod.mk.injEq] at h;obtain⟨rfl,rfl⟩:=h;simp only[V] at hV;obtain⟨_,z,a,hz,_,rfl,hpl⟩:=hV;rw[hget'] at hz;simp only[Option.some.injEq] at hz;subst hz;obtain⟨q,hq,rfl⟩:=hpl hg.symm;have hok:=hR.objs _ _ hget' q hq;have hcell:CellsOK K m.get Q w (en (.l j) y) y.cells y.vl q:=by cases y<;>simp_all [HO.isMap]
        obtain⟨⟨es,t,e1,e2,e3⟩,e4,_⟩:=hcell;have hvs:∃vs:List Value,Vs K m.get Q true (y.cells.drop off) vs∧(y.cells.drop off).all bE=true∧∀(i:Nat) (u:Value),vs[i]?=some u→w.cell? ⟨q.blk,q.base+off+i,none⟩=some u:=by
         have:=iF (p:=.ptr (.l j) gn off) (n:=(y.cells.drop off).length) (v:=.pointer (some ⟨q.blk,q.base+off,none⟩)) (cs:=y.cells.drop off) hR
          (by simp only[V];exact⟨rfl,y,_,hget',by omega,rfl,λ_=>⟨q,hq,rfl⟩⟩)
          (by
           simp only[bN,hget',hg,hmap];rw[if_pos ⟨trivial,trivial,by simp;omega⟩,List.take_of_length_le (by simp)])
         obtain⟨b,o,vs,hb,hl,hall,hVs,hc⟩:=this;simp only[Value.pointer.injEq,Option.some.injEq,Addr.mk.injEq] at hb;obtain⟨rfl,rfl,_⟩:=hb
         exact⟨vs,hVs,hall,hc⟩
        obtain⟨vs,hVs,hall,hcell⟩:=hvs;obtain⟨K1,hl1,hs1,hall1,hlen1⟩:=e8 ih _ _ K _ _ _ hR hVs h1;obtain⟨nn,hnn⟩:=hl1.keep _ _ hget';rw[hget1'] at hnn;simp only[Option.some.injEq] at hnn;subst hnn;have hlk:=nV hl1.mr hget1' (by rw[ui];exact hmap) y.cells.length (q.base+off) (q.base+y.cells.length) (some q) (λp hp=>by
         simp only[Option.some.injEq] at hp;subst hp;exact⟨hq,by omega,by omega⟩) (by simp)
        refine⟨_,hl1.trans hlk,?_,λ_=>rfl⟩
        simp only[V]
        refine⟨hall1 hall,q.blk,q.base+off,rfl,Vk_ext (hlk.Vs hs1) λi u hu=>?_⟩
        have hi:i<vs.length:=(List.getElem?_eq_some_iff.1 hu).1;have hlen:=bT hVs;simp only[List.length_drop] at hlen;simp only[JH,Option.map_some,Option.getD_some];rw[if_pos ⟨trivial,by omega,by omega⟩];exact hcell i u hu
       ·simp at h
     ·simp at h
    ·simp at h
end
end Go.Cm
namespace Go.Cm
structure Kept (w w':World):Prop where
 os:w'.os=w.os
 out:w'.output=w.output
 fz:∀a:Addr,a.block<w.heap.size→w'.frozen? a=w.frozen? a
 size:w.heap.size≤w'.heap.size
theorem Kept.refl (w:World):Kept w w:=⟨rfl,rfl,λ_ _=>rfl,Nat.le_refl _⟩
theorem Kept.trans {w w' w'':World}(h:Kept w w') (h':Kept w' w''):Kept w w'':=⟨h'.os.trans h.os,h'.out.trans h.out,λa ha=>(h'.fz a (Nat.lt_of_lt_of_le ha h.size)).trans (h.fz a ha),Nat.le_trans h.size h'.size⟩
theorem Kept.same {w w':World}(h:w'.heap=w.heap) (ho:w'.os=w.os) (hp:w'.output=w.output):Kept w w':=⟨ho,hp,λa _=>by simp[World.frozen?,h],by rw[h];exact Nat.le_refl _⟩
def Pushed (w w':World) (o:Obj):Prop:=w'.heap=w.heap.push o∧w'.os=w.os∧w'.output=w.output
theorem Pushed.kept {w w':World}{o:Obj}(h:Pushed w w' o) (ho:(∃es t,o=.cells es t (0,0))∨∃xs c,o=.map xs c):Kept w w':=by
 refine⟨h.2.1,h.2.2,λa _=>?_,by rw[h.1];simp⟩
 by_cases he:a.block=w.heap.size
 ·have e1:w'.heap[a.block]?=some o:=by rw[h.1,he];simp
  have e2:w.heap[a.block]?=none:=by rw[he];simp
  simp only[World.frozen?,e1,e2];rcases ho with⟨es,t,rfl⟩|⟨xs,c,rfl⟩<;>simp
 ·have e1:w'.heap[a.block]?=w.heap[a.block]?:=by rw[h.1,Array.getElem?_push,if_neg he]
  simp only[World.frozen?,e1]
structure Trans (K:KM) (m:Mem) (Q:PM) (w:World) (K':KM) (m':Mem) (Q':PM) (w':World):Prop where
 mr:MR K' m'.get Q' w'
 kk:∀b o v,K b o=some v→K' b o=some v
 grow:Grow true m.get Q m'.get Q'
 size:w.heap.size≤w'.heap.size
 frame:∀b,b<w.heap.size→(∀k q,Q k=some q→q.blk≠b)→w'.heap[b]?=w.heap[b]?
 kn:∀b o v,K' b o=some v→K b o=some v∨(∃k q,Q k=some q∧q.blk=b)∨w.heap.size≤b
 pn:∀k q,Q' k=some q→(∃q0,Q k=some q0∧q0.blk=q.blk)∨(w.heap.size≤q.blk∧∀h,m.get k=some h→∃h',m'.get k=some h'∧h.gn<h'.gn)
 io:Kept w w'
section
variable {K K' K'':KM}{Q Q' Q'':PM}{P:Program}{w w' w'':World}{m m' m'':Mem}
theorem Grow.trans {loc:Bool}{M M' M'':MM}(h:Grow loc M Q M' Q') (h':Grow loc M' Q' M'' Q''):Grow loc M Q M'' Q'':=by
 intro k x hk hx;obtain⟨x',hx',hle,hp⟩:=h k x hk hx;obtain⟨x'',hx'',hle',hp'⟩:=h' k x' hk hx'
 refine⟨x'',hx'',by omega,λhe=>?_⟩
 obtain⟨a1,a2⟩:=hp (by omega);obtain⟨b1,b2⟩:=hp' (by omega)
 refine⟨λq hq=>b1 q (a1 q hq),λg sz cs vl hh=>?_⟩
 obtain⟨cs',vl',h1,h2⟩:=a2 _ _ _ _ hh;obtain⟨cs'',vl'',h3,h4⟩:=b2 _ _ _ _ h1
 exact⟨cs'',vl'',h3,by omega⟩
theorem Trans.refl (h:MR K m.get Q w):Trans K m Q w K m Q w:=
 ⟨h,λ_ _ _ h=>h,Grow.refl _ _ _,Nat.le_refl _,λ_ _ _=>rfl,λ_ _ _ h=>.inl h,λk q h=>.inl ⟨q,h,rfl⟩,Kept.refl w⟩
theorem Look.toTrans (h:Look K m K' m' Q w):Trans K m Q w K' m' Q w:=
 ⟨h.mr,h.kk,h.grow,Nat.le_refl _,λ_ _ _=>rfl,λb o v hv=>(h.kn b o v hv).imp id .inl,λk q h=>.inl ⟨q,h,rfl⟩,Kept.refl w⟩
theorem Trans.trans (h:Trans K m Q w K' m' Q' w') (h':Trans K' m' Q' w' K'' m'' Q'' w''):Trans K m Q w K'' m'' Q'' w'':=by
 refine⟨h'.mr,λb o v hv=>h'.kk _ _ _ (h.kk _ _ _ hv),h.grow.trans h'.grow,Nat.le_trans h.size h'.size,λb hb hne=>?_,λb o v hv=>?_,λk q hq=>?_,h.io.trans h'.io⟩
 ·rw[h'.frame b (Nat.lt_of_lt_of_le hb h.size) λk q hq he=>?_,h.frame b hb hne]
  rcases h.pn k q hq with⟨q0,h0,he0⟩|⟨hge,_⟩
  ·exact hne k q0 h0 (by omega)
  ·omega
 ·rcases h'.kn b o v hv with h1|⟨k,q,hq,he⟩|h1
  ·exact h.kn b o v h1
  ·rcases h.pn k q hq with⟨q0,h0,he0⟩|⟨hge,_⟩
   ·exact .inr (.inl ⟨k,q0,h0,by omega⟩)
   ·exact .inr (.inr (by omega))
  ·exact .inr (.inr (Nat.le_trans h.size h1))
 ·have hk:keyOK true k:=by cases k<;>simp[keyOK]
  rcases h'.pn k q hq with⟨q0,h0,he⟩|⟨hge,hgn⟩
  ·rcases h.pn k q0 h0 with⟨q1,h1,he1⟩|⟨hge,hgn⟩
   ·exact .inl ⟨q1,h1,by omega⟩
   ·refine .inr ⟨by omega,λx hx=>?_⟩
    obtain⟨x',hx',hlt⟩:=hgn x hx;obtain⟨x'',hx'',hle,_⟩:=h'.grow k x' hk hx'
    exact⟨x'',hx'',by omega⟩
  ·refine .inr ⟨Nat.le_trans h.size hge,λx hx=>?_⟩
   obtain⟨x',hx',hle,_⟩:=h.grow k x hk hx;obtain⟨x'',hx'',hlt⟩:=hgn x' hx'
   exact⟨x'',hx'',by omega⟩
theorem Trans.same (h:Trans K m Q w K' m' Q' w') (hw:w''.heap=w'.heap) (ho:w''.os=w'.os) (hp:w''.output=w'.output):Trans K m Q w K' m' Q' w'':=
 ⟨h.mr.same hw,h.kk,h.grow,by rw[hw];exact h.size,λb hb hne=>by rw[hw];exact h.frame b hb hne,h.kn,h.pn,h.io.trans (Kept.same hw ho hp)⟩
theorem Trans.V (h:Trans K m Q w K' m' Q' w') {loc:Bool}{c:CV}{v:Value}(hv:V K m.get Q loc c v):V K' m'.get Q' loc c v:=
 V_mono h.kk h.grow.sub (λh=>h) (by cases loc;exact h.grow.sub;exact h.grow) c v hv
theorem Trans.Vs (h:Trans K m Q w K' m' Q' w') {loc:Bool}{c:List CV}{v:List Value}(hv:Vs K m.get Q loc c v):Vs K' m'.get Q' loc c v:=
 Vs_mono h.kk h.grow.sub (λh=>h) (by cases loc;exact h.grow.sub;exact h.grow) c v hv
theorem Trans.pn' (hT:Trans K m Q w K' m' Q' w') {M3:MM}{Q3:PM}(hG:Grow true m'.get Q' M3 Q3) {k:Key}{q:Pl}(hq:Q' k=some q) :
  (∃q0,Q k=some q0∧q0.blk=q.blk)∨(w.heap.size≤q.blk∧∀h,m.get k=some h→∃h',M3 k=some h'∧h.gn<h'.gn):=by
 have hk:keyOK true k:=by cases k<;>simp[keyOK]
 rcases hT.pn k q hq with h|⟨h1,h2⟩
 ·exact .inl h
 ·refine .inr ⟨h1,λx hx=>?_⟩
  obtain⟨x',hx',hlt⟩:=h2 x hx;obtain⟨x'',hx'',hle,_⟩:=hG k x' hk hx'
  exact⟨x'',hx'',by omega⟩
theorem Trans.gen (hT:Trans K m Q w K' m' Q' w') {k:Key}{h:HO}(hh:m.get k=some h) {n:Nat}(hn:∀y,m'.get k=some y→y.gn<n):h.gn<n:=by
 have hk:keyOK true k:=by cases k<;>simp[keyOK]
 obtain⟨x',hx',hle,_⟩:=hT.grow k h hk hh;have:=hn _ hx';omega
theorem fN (m:Mem) (glob:Bool) (j:Nat) (mk:Nat→HO) (hg:∀g,(mk g).gn=g) :
  (m.add glob j mk).2.2.get=upd m.get (m.add glob j mk).1 (mk (m.add glob j mk).2.1)∧∀y,m.get (m.add glob j mk).1=some y→y.gn<(m.add glob j mk).2.1:=by
 unfold Mem.add;cases glob
 ·simp only[Bool.false_eq_true,if_false]
  refine⟨?_,λy hy=>?_⟩
  ·funext k
   cases k with
   |l i=>simp[Mem.get,upd,aq]
   |g n=>simp[Mem.get,upd]
  ·simp only[Mem.get] at hy
   simp[hy]
 ·simp only[if_true]
  refine⟨?_,λy hy=>?_⟩
  ·funext k
   cases k with
   |l i=>simp[Mem.get,upd]
   |g n=>
    simp only[Mem.get,upd,List.getElem?_append]
    by_cases hn:n<m.H.length
    ·have:m.H.length≠n:=by omega
     simp[hn,this]
    ·by_cases he:m.H.length=n
     ·subst he;simp
     ·have:n - m.H.length≠0:=by omega
      simp only[hn,if_false,he,Key.g.injEq];rw[List.getElem?_eq_none (by simp;omega),List.getElem?_eq_none (by omega)]
  ·simp[Mem.get] at hy
theorem lA (hR:MR K m.get Q w) (glob:Bool) (j:Nat) (mk:Nat→HO) (hg:∀g,(mk g).gn=g) (hm:∀g,(mk g).isMap=false) (hv0:∀g,(mk g).vl=0)
  {cs:List CV}(hcs:∀g,(mk g).cells=cs) {es:Array Value}{t:TypeId}(hall:cs.all bE=true) (loc:Bool) (hloc:∀g,loc=true→en (m.add glob j mk).1 (mk g)=true)
  {vs:List Value}(hV:Vs K m.get Q loc cs vs) (hpre:∀(i:Nat) (v:Value),vs[i]?=some v→es[i]?=some v) (hw:Pushed w w' (.cells es t (0,0))) :
  ∃Q',Trans K m Q w K (m.add glob j mk).2.2 Q' w'∧Q' (m.add glob j mk).1=some ⟨w.heap.size,0,es.size⟩:=by
 obtain⟨hget,hgen⟩:=fN m glob j mk hg;generalize hk:(m.add glob j mk).1=key at *;generalize hgn:(m.add glob j mk).2.1=gn at *;generalize hm2:(m.add glob j mk).2.2=m2 at *;have hlen:=bT hV;have hsz:w'.heap.size=w.heap.size+1:=by rw[hw.1];simp
 have hGrow:Grow true m.get Q (upd m.get key (mk gn)) (bB Q key (some ⟨w.heap.size,0,es.size⟩)):=
  Grow.upd λy hy=>by rw[hg];exact⟨Nat.le_of_lt (hgen y hy),λhe=>absurd he (Nat.ne_of_lt (hgen y hy))⟩
 have hold:∀b,b<w.heap.size→w'.heap[b]?=w.heap[b]?:=λb hb=>by rw[hw.1,Array.getElem?_push];rw[if_neg (by omega)]
 have hmove:MR K (upd m.get key (mk gn)) (bB Q key (some ⟨w.heap.size,0,es.size⟩)) w':=by
  refine hR.move (λy hy=>by rw[hg];exact hgen y hy) hold (by omega) (λp hp=>by simp only[Option.some.injEq] at hp;subst hp;exact⟨Nat.le_refl _,by show w.heap.size<w'.heap.size;omega⟩) ?_;intro q hq;simp only[bB,if_true,Option.some.injEq] at hq;subst hq;have hres:CellsOK K (upd m.get key (mk gn)) (bB Q key (some ⟨w.heap.size,0,es.size⟩)) w' (en key (mk gn)) (mk gn).cells (mk gn).vl ⟨w.heap.size,0,es.size⟩:=by
   refine⟨⟨es,t,by rw[hw.1];simp,rfl,λi c hc=>?_⟩,?_,λo _=>?_⟩
   ·rw[hcs] at hc
    obtain⟨v,h1,h2⟩:=dX hV hc
    refine⟨List.all_eq_true.1 hall c (List.mem_of_getElem? hc),v,by simpa using hpre i v h1,?_⟩
    refine V_mono (λ_ _ _ h=>h) hGrow.sub (λh=>hloc gn h) ?_ c v h2;cases loc
    ·exact hGrow.sub
    ·exact hGrow
   ·rw[hcs]
    simp only[Nat.zero_add]
    cases hvs:vs.length with
    |zero=>omega
    |succ n=>
     have:vs[n]?=some vs[n]:=by simp[hvs]
     have:=hpre n _ this;have:=(Array.getElem?_eq_some_iff.1 this).1;omega
   ·cases hk':K w.heap.size o with
    |none=>rfl
    |some v=>
     have:=World.block_lt_of_cell? _ _ (hR.stab _ _ _ hk');simp at this
  have:=hm gn
  cases hh:mk gn<;>rw[hh] at hres this<;>first|exact hres|simp[HO.isMap] at this
 refine⟨bB Q key (some ⟨w.heap.size,0,es.size⟩),⟨?_,λ_ _ _ h=>h,?_,by omega,λb hb _=>hold b hb,λ_ _ _ h=>.inl h,λk q hq=>?_,hw.kept (.inl ⟨_,_,rfl⟩)⟩,by simp[bB]⟩
 ·rw[hget];exact hmove
 ·rw[hget];exact hGrow
 ·simp only[bB] at hq
  split at hq
  ·rename_i he;subst he
   simp only[Option.some.injEq] at hq;subst hq;exact .inr ⟨Nat.le_refl _,λh hh=>⟨mk gn,by rw[hget];simp[upd],by rw[hg];exact hgen h hh⟩⟩
  ·exact .inl ⟨q,hq,rfl⟩
theorem new_ptr (hT:Trans K m Q w K (m'') Q' w') {key:Key}{h:HO}(hget:m''.get key=some h) {n:Nat}(hq:Q' key=some ⟨w.heap.size,0,n⟩) :
  Vt K m'' Q' (.ptr key h.gn 0) (.pointer (some ⟨w.heap.size,0,none⟩)):=by
 simp only[Vt,V]
 exact⟨by cases key<;>simp[keyOK],h,_,hget,Nat.le_refl _,rfl,λ_=>⟨_,hq,rfl⟩⟩
theorem Kz {key:Key}{g sz vl:Nat}{cs:List CV}(hget:m''.get key=some (.arr g sz cs vl)) {q:Pl}(hq:Q' key=some q) {len cap:Nat}(hl:len≤cap) (hc:q.base+cap*sz≤q.bsz) (hn:len*sz≤cs.length) :
  Vt K m'' Q' (.ref key g 0 len) (.slice (some ⟨q.blk,q.base,none⟩) len cap):=by
 simp only[Vt,V]
 exact⟨by cases key<;>simp[keyOK],_,_,cap,hget,Nat.le_refl _,rfl,hl,.inr rfl,λ_=>⟨sz,cs,vl,rfl,.inr ⟨q,hq,by simp,by omega,by omega⟩⟩⟩
theorem iG (hR:MR K m.get Q w) {sz n:Nat}{x:CV}{ys:List CV}{v:Value}(hv:Vt K m Q x v) (h:content m sz x=some ys) (hn:clen x=some n) :
  ∃news a cap,v=.slice a n cap∧Vs K m.get Q false ys news∧ys.all bE=true∧news.length=n*sz ∧
   ∀w',w'.heap=w.heap→∀k,k≤n→(Builtin.firstCells sz k v).run P w'=.ok (news.take (k*sz)).toArray w':=by
 have fromCells:∀(b o cap:Nat) (news:List Value),news.length=n*sz→(∀(i:Nat) (u:Value),news[i]?=some u→w.cell? ⟨b,o+i,none⟩=some u) →
   ∀w',w'.heap=w.heap→∀k,k≤n→(Builtin.firstCells sz k (.slice (some ⟨b,o,none⟩) n cap)).run P w'=.ok (news.take (k*sz)).toArray w':=by
  intro b o cap news hl hc w' hw k hk;have hle:k*sz≤n*sz:=Nat.mul_le_mul_right _ hk;refine run_firstCells_some w' sz k ⟨b,o,none⟩ n cap (news.take (k*sz)) (by simp;omega) λj u hu=>?_;rw[List.getElem?_take] at hu
  split at hu
  ·rw[dY,cQ (w:=w) (by rw[hw])];exact hc j u hu
  ·simp at hu
 have none0:∀(cap:Nat) w',w'.heap=w.heap→∀a:Option Addr,∀k,k≤0→(Builtin.firstCells sz k (.slice a 0 cap)).run P w'=.ok ((([]:List Value).take (k*sz)).toArray) w':=by
  intro cap w' _ a k hk;have:k=0:=by omega
  subst this
  cases a<;>simp[Builtin.firstCells,loadCells,loadCellsFrom]
 unfold content at h
 split at h
 ·simp only[Option.some.injEq] at h;subst h
  simp only[clen,Option.some.injEq] at hn;subst hn;simp only[Vt,V] at hv;subst hv
  exact⟨[],none,0,rfl,by simp[Vs],by simp,by simp,λw' hw k hk=>none0 0 w' hw none k hk⟩
 ·rename_i n' cs
  split at h
  ·rename_i hlen
   simp only[Option.some.injEq] at h;subst h;simp only[clen,Option.some.injEq] at hn;subst hn;simp only[Vt,V] at hv;obtain⟨hall,a,cap,rfl,hcap,hc⟩:=hv;rcases hc with rfl|⟨b,o,rfl,hk⟩
   ·by_cases hz:n'=0
    ·subst hz
     exact⟨[],a,cap,rfl,by simp[Vs],by simp,by simp,λw' hw k hk=>none0 cap w' hw a k hk⟩
    ·have hsz:sz=0:=by
      simp only[List.length_nil] at hlen;rcases Nat.mul_eq_zero.1 hlen.symm with h|h
      ·exact absurd h hz
      ·exact h
     subst hsz
     refine⟨[],a,cap,rfl,by simp[Vs],by simp,by simp,λw' _ k _=>?_⟩
     cases a<;>simp[Builtin.firstCells,loadCells,loadCellsFrom]
   ·obtain⟨vs,h1,h2,h3⟩:∃vs:List Value,vs.length=cs.length∧Vs K m.get Q false cs vs∧∀(i:Nat) (u:Value),vs[i]?=some u→w.cell? ⟨b,o+i,none⟩=some u:=by
     clear hall hlen
     induction cs generalizing o with
     |nil=>exact⟨[],rfl,by simp[Vs],by simp⟩
     |cons c cs ih=>
      simp only[Vk] at hk;obtain⟨⟨u,hu,hVu⟩,hr⟩:=hk;obtain⟨vs,h1,h2,h3⟩:=ih (o+1) hr
      refine⟨u::vs,by simp[h1],by simp only[Vs];exact⟨u,vs,rfl,hVu,h2⟩,λi x hx=>?_⟩
      cases i with
      |zero=>simp at hx;subst hx;simpa using hR.stab _ _ _ hu
      |succ i=>simp at hx;rw[show o+(i+1)=o+1+i from by omega];exact h3 i x hx
    exact⟨vs,_,cap,rfl,h2,hall,by omega,fromCells b o cap vs (by omega) h3⟩
  ·simp at h
 ·rename_i k gn off len
  split at h
  ·rename_i g s cs vl hget
   split at h
   ·rename_i hg
    obtain⟨rfl,rfl⟩:=hg;simp only[Option.some.injEq] at h;subst h;simp only[clen,Option.some.injEq] at hn;subst hn;simp only[Vt,V] at hv;obtain⟨hk,y,a,cap,hy,_,rfl,hcap,_,hra⟩:=hv;rw[hget] at hy;simp only[Option.some.injEq] at hy;subst hy;obtain⟨sz',cs',vl',he,hra⟩:=hra rfl;simp only[HO.arr.injEq] at he;obtain⟨_,rfl,rfl,rfl⟩:=he;rcases hra with hz|⟨q,hq,rfl,hb1,hb2⟩
    ·have:len=0:=by omega
     subst this
     refine⟨[],a,cap,rfl,by simp[Vs],by simp,by simp,λw' hw k hk=>none0 cap w' hw a k hk⟩
    ·obtain⟨⟨es,t,h1,h2,h3⟩,h4,_⟩:=hR.objs _ _ hget q hq
     simp only[HO.cells] at h3 h4;have hflag:en k (.arr g s cs vl)=false:=by cases k<;>rfl
     rw[hflag] at h3;have hsub:∀(i:Nat) (c:CV),((cs.drop off).take (len*s))[i]?=some c→i<len*s∧cs[off+i]?=some c:=by
      intro i c hc;rw[List.getElem?_take] at hc
      split at hc
      ·rw[List.getElem?_drop] at hc;exact⟨by assumption,hc⟩
      ·simp at hc
     refine⟨(List.range (len*s)).map λi=>(es[q.base+(off+i)]?).getD default,_,cap,rfl,?_,?_,by simp,?_⟩
     ·refine pi (by simp;omega) λi c hc=>?_
      obtain⟨hi,hci⟩:=hsub i c hc;obtain⟨_,u,hu,hVu⟩:=h3 _ _ hci
      exact⟨u,by simp[hi,hu],hVu⟩
     ·refine List.all_eq_true.2 λc hc=>?_
      obtain⟨i,hi⟩:=List.getElem?_of_mem hc
      exact(h3 _ _ (hsub i c hi).2).1
     ·refine fromCells _ _ cap _ (by simp) λi u hu=>?_
      simp only[List.getElem?_map,Option.map_eq_some_iff] at hu;obtain⟨i',hi',rfl⟩:=hu;obtain⟨hlt,he⟩:=List.getElem?_eq_some_iff.1 hi';simp only[List.getElem_range] at he;subst he;simp only[List.length_range] at hlt;rw[gM h1,show q.base+off+i=q.base+(off+i) from by omega];have hb:q.base+(off+i)<es.size:=by omega
      simp[hb]
   ·simp at h
  ·simp at h
 ·simp at h
end
end Go.Cm
