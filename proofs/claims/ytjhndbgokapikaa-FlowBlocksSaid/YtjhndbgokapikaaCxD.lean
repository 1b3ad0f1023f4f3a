import Derived.Test.YtjhndbgokapikaaCxA
import Derived.IntWalk
set_option linter.unusedSimpArgs false
set_option linter.unusedVariables false
namespace Go.Cm
section
variable {P:Program}{A:Ann}{F:aW}{fid:FuncId}
theorem fQ {α β:Type}{x:Option α}{f:α→Option β}{y:β}(h:x.bind f=some y):∃a,x=some a∧f a=some y:=Option.bind_eq_some_iff.1 h
theorem cI {α β:Type}{x:Option α}{f:α→β}{y:β}(h:x.map f=some y):∃a,x=some a∧f a=y:=Option.map_eq_some_iff.1 h
theorem vX_cval {d:Option Tmp}{ρ:Operand→CV}{op:Op}{m:Mem}{v:CV}(h:vX P ρ op m=some v):cval P A F fid ρ ⟨d,op,0, "",#[],none⟩ m=some (v,m):=by
 cases op<;>simp only[vX] at h<;>try cases h
 case move=>rfl
 case assign=>rfl
 case pick c a b=>
  simp only[cval];unfold cT at h
  split at h<;>simp_all
 case load t a=>
  have:eW P m t (ρ a)=some v:=by
   unfold eW
   split at h
   ·rename_i sz h1 h2;simp only[h1,h2,Option.bind_some];exact h
   ·rename_i h1;simp only[h1];exact h
   ·cases h
  simp only[cval,this,Option.map_some]
 case nilCheck x=>
  simp only[cval];unfold b7 at h
  split at h
  ·rename_i h1;rw[h1];simp only[Option.some.injEq] at h;subst h;rfl
  ·rename_i h1;rw[h1];simp only[Option.some.injEq] at h;subst h;rfl
  ·cases h
 case binOp=>simp only[cval,h,Option.map_some]
 case unOp=>simp only[cval,h,Option.map_some]
 case convert src dst x=>
  simp only[cval]
  split at h
  ·rename_i h1 h2
   simp only[h1,h2];unfold pF at h
   split at h<;>simp_all
  ·cases h
 case makeInterface t x=>
  simp only[cval]
  split at h
  ·cases h
  ·rename_i hc;rw[if_neg hc];simp only[Option.some.injEq] at h;rw[h]
 case makeFunc=>rfl
 case slice t x lo hi mx=>
  have:iH P t (ρ x) (lo.map ρ) (hi.map ρ) (mx.map ρ) m=some v:=by
   unfold iH
   split at h
   ·rename_i e h1
    split at h
    ·rename_i sz h2
     unfold sJ at h
     split at h
     ·cases h
     ·rename_i h3
      simp only[h3,h1,h2]
      split at h
      ·rename_i len h4;simp only[h4];exact h
      ·cases h
    ·cases h
   ·rename_i n e h1
    split at h
    ·rename_i sz h2
     unfold slcA at h
     split at h
     ·cases h
     ·rename_i h3
      simp only[h3,h1,h2]
      split at h
      ·rename_i l hh k gn off h4 h5;simp only[h4,h5];exact h
      ·cases h
    ·cases h
   ·cases h
  simp only[cval,this,Option.map_some]
 case fieldAddr t x f=>
  have:fR P t (ρ x) f=some v:=by
   unfold fR
   split at h
   ·rename_i off ft h1
    simp only[h1]
    split at h
    ·rename_i n h2;simp only[h2];exact h
    ·cases h
   ·cases h
  simp only[cval,this,Option.map_some]
 case indexAddr t x i=>
  have:fS P t (ρ x) (ρ i)=some v:=by
   unfold fS
   split at h
   ·rename_i e h1
    split at h
    ·rename_i sz h2
     unfold bd at h
     split at h
     ·cases h
     ·rename_i j h3
      simp only[h3,h1,h2]
      split at h
      ·rename_i h4;simp only[h4];exact h
      ·rename_i h4;simp only[h4];exact h
      ·cases h
    ·cases h
   ·rename_i n e h1
    split at h
    ·rename_i sz h2
     unfold idxA at h
     split at h
     ·cases h
     ·rename_i j h3
      simp only[h3,h1,h2]
      split at h
      ·rename_i h4;simp only[h4];exact h
      ·rename_i h4;simp only[h4];exact h
      ·cases h
    ·cases h
   ·cases h
  simp only[cval,this,Option.map_some]
 case field t x f=>
  simp only[cval]
  split at h
  ·rename_i off ft h1
   simp only[h1]
   split at h
   ·rename_i sz h2 h3
    unfold fldG at h
    split at h
    ·rename_i cs h4;simp only[h4,iu,h2,h3,Option.map_some];simp only[Option.some.injEq] at h;rw[h]
    ·cases h
   ·rename_i h2
    unfold fld1 at h
    split at h
    ·rename_i cs h4;simp only[h4,iu,h2,h,Option.map_some]
    ·cases h
   ·cases h
  ·cases h
 case index t x i=>
  simp only[cval]
  split at h
  ·rename_i h1
   unfold idxT at h
   split at h
   ·rename_i s j h2 h3
    simp only[h2,h3,h1];obtain⟨b,h4,rfl⟩:=cI h;simp only[h4,Option.map_some]
   ·cases h
  ·rename_i n e h1
   split at h
   ·rename_i a sz h2 h3
    unfold idxV at h
    split at h
    ·rename_i cs j h4 h5
     simp only[h4,h5,lS,h1]
     split at h
     ·rename_i hlt
      simp only[hlt,if_true,h3,Option.bind_some]
      cases a with
      |true=>simp only[if_true,Option.some.injEq] at h;simp only[iu,h2,h3,Option.map_some,h]
      |false=>simp only[Bool.false_eq_true,if_false] at h;simp only[iu,h2,h,Option.map_some]
     ·cases h
    ·cases h
   ·cases h
  ·cases h
 case lookup t x i ok=>
  simp only[cval]
  split at h
  ·rename_i kt et h1
   split at h
   ·rename_i z h2 h3
    unfold gK at h
    split at h
    ·rename_i es h4
     simp only[h1,h4,h2,h3,if_true]
     split at h
     ·rename_i i' v' h5;simp only[h5];simp only[Option.some.injEq] at h;rw[h]
     ·rename_i h5;simp only[h5];simp only[Option.some.injEq] at h;rw[h]
     ·cases h
    ·cases h
   ·cases h
  ·cases h
 case typeAssert x a t ok=>
  simp only[cval];unfold asrX at h
  split at h
  ·cases h
  ·rename_i dd h1
   simp only[h1]
   split at h
   ·rename_i h2
    simp only[h2]
    split at h
    ·rename_i hok
     obtain⟨z,h3,rfl⟩:=cI h;simp only[hok,if_true,h3,Option.map_some]
    ·cases h
   ·rename_i u w h2
    simp only[h2]
    cases dd<;>simp only at h ⊢
    all_goals
     split at h
     ·rename_i h3
      rw[h3];simp only[Option.some.injEq] at h;subst h;rfl
     ·rename_i h3
      rw[h3]
      simp only
      split at h
      ·rename_i hok
       obtain⟨z,h4,rfl⟩:=cI h;simp only[hok,if_true,h4,Option.map_some]
      ·cases h
     ·cases h
   ·cases h
 case extract t i=>
  simp only[cval];unfold cV at h
  split at h
  ·rename_i vs h1;simp only[h1,h,Option.map_some]
  ·cases h
 case build t parts=>
  simp only[cval]
  split at h
  ·rename_i z fields h1 h2
   simp only[h1,h2]
   split at h
   ·rename_i hall
    obtain⟨q,h3,h4⟩:=fQ h;obtain⟨cs,h5,rfl⟩:=cI h4;simp only[hall,if_true,gh h3,h5,Option.map_some]
   ·cases h
  ·rename_i z n e h1 h2
   simp only[h1,h2]
   split at h
   ·rename_i s h3
    obtain⟨q,h4,h5⟩:=fQ h;obtain⟨cs,h6,rfl⟩:=cI h5;simp only[h3,Option.bind_some,gh h4,h6,Option.map_some]
   ·cases h
  ·cases h
 case call c=>
  obtain⟨callee,args,ats⟩:=c
  cases callee with
  |value f=>cases h
  |invoke r n=>cases h
  |builtin b=>
   cases b<;>simp only at h<;>try cases h
   case len=>
    simp only[cval]
    split at h
    ·rename_i x t h1 h2
     simp only[h1,h2,List.map_cons,List.map_nil]
     split at h
     ·rename_i h3
      obtain⟨n,h4,rfl⟩:=cI (show(clen (ρ x)).map (λ(n:Nat)=>CV.int .i64 (n:Int))=some v from h);simp only[h3,h4,Option.map_some]
     ·rename_i h3
      obtain⟨n,h4,rfl⟩:=cI (show(fx m (ρ x)).map (λes=>CV.int .i64 (es.length:Int))=some v from h);simp only[h3,h4,Option.map_some]
     ·rename_i h3
      unfold lenT at h
      split at h
      ·rename_i s hs;simp only[h3,hs];simp only[Option.some.injEq] at h;rw[h]
      ·cases h
     ·rename_i h3
      simp only[h3];simp only[Option.some.injEq] at h;rw[h]
     ·cases h
    ·cases h
   case max=>simp only[cval,h,Option.map_some]
   case min=>simp only[cval,h,Option.map_some]
theorem si {t kt et:TypeId}{x k v:CV}{m m':Mem}(h1:jg P t=some (kt,et)) (h2:b8 P kt=true) (h:mB P kt x k v m=some m'):cval.mapUp P m t x k v=some (.dead,m'):=by
 unfold mB at h;unfold cval.mapUp
 split at h
 ·rename_i key gn
  simp only[h1];obtain⟨y,h3,h4⟩:=fQ h;simp only[h3,Option.bind_some]
  split at h4
  ·rename_i g es v' h5 h6
   simp only[h5,h6]
   split at h4
   ·rename_i hc
    rw[if_pos ⟨hc.1,h2,hc.2⟩]
    split at h4
    ·rename_i i' v'' h7;simp only[h7];simp only[Option.some.injEq] at h4;rw[h4]
    ·rename_i h7;simp only[h7];simp only[Option.some.injEq] at h4;rw[h4]
    ·cases h4
   ·cases h4
  ·cases h4
 ·cases h
theorem mX_cval {d:Option Tmp}{ρ:Operand→CV}{op:Op}{m m':Mem}(h:mX P ρ op m=some m'):cval P A F fid ρ ⟨d,op,0, "",#[],none⟩ m=some (.dead,m'):=by
 cases op<;>simp only[mX] at h<;>try cases h
 case store t a x=>
  have:ls P m t (ρ a) (ρ x)=some m':=by
   unfold ls
   split at h
   ·rename_i n h1
    unfold stX at h
    split at h
    ·rename_i cs h2;simp only[h1,h2];exact h
    ·cases h
   ·cases h
  simp only[cval,this,Option.map_some]
 case mapUpdate t x k v=>
  simp only[cval]
  split at h
  ·rename_i kt et h1
   split at h
   ·rename_i h2;exact si h1 h2 h
   ·cases h
  ·cases h
 case insert t x k v=>
  simp only[cval]
  split at h
  ·rename_i kt et h1
   split at h
   ·rename_i h2;exact si h1 h2 h
   ·cases h
  ·cases h
theorem eO {m:Mem}{j:Nat}{mk:Nat→HO}:Mem.add m true j mk=(.g m.H.length,1,⟨m.L,m.H++[mk 1]⟩):=rfl
theorem sL {e:TypeId}{b n:Nat}(h:oP P e=some b):Lq P e n=cN b n:=by simp only[Lq,h,cN]
theorem pX_cval {d:Option Tmp}{ρ:Operand→CV}{op:Op}{m:Mem}{y:CV×Mem}(h:pX P A F fid d ρ op m=some y):cval P A F fid ρ ⟨d,op,0, "",#[],none⟩ m=some y:=by
 cases op<;>simp only[pX] at h<;>try cases h
 case alloc t=>
  simp only[cval]
  split at h
  ·rename_i z h1 h2
   simp only[h1,h2]
   split at h<;>rename_i h3<;>simp only[h3,dJ,eO]<;>simpa[bo,bw,eP,ir] using h
  ·rename_i z n e h1 h2
   simp only[h1,h2]
   split at h<;>rename_i h3<;>simp only[h3,dJ,eO]<;>simpa[ua,eP,mb] using h
  ·cases h
 case box t x=>
  simp only[cval]
  split at h
  ·rename_i h2
   simp only[h2]
   split at h
   ·rename_i h3
    simp only[h3,dJ];obtain⟨cs,h4,rfl⟩:=cI h;simp[h4,bo,bw]
   ·rename_i h3
    simp only[h3,eO];unfold iB at h
    split at h
    ·rename_i cs h4
     obtain⟨z,h5,rfl⟩:=cI h;simp[h4,h5,eP,ir]
    ·cases h
  ·rename_i n e h2
   simp only[h2];unfold boxA at h
   split at h
   ·rename_i cs h4
    obtain⟨z,h5,rfl⟩:=cI h;simp only[h4,h5,Option.map_some]
    cases di (A.glob fid) d<;>simp[dJ,eO,nmA,bo,ua,eP,mb]
   ·cases h
 case buildSlice t n parts=>
  simp only[cval]
  split at h
  ·rename_i e h1
   simp only[h1]
   split at h
   ·rename_i s z h2 h3
    simp only[h2,h3]
    split at h
    ·rename_i hc
     rw[if_pos hc];obtain⟨q,h4,h5⟩:=fQ h;unfold be at h5;obtain⟨cs,h6,h7⟩:=fQ h5;obtain⟨w,h8,rfl⟩:=cI h7;simp only[gh h4,h6,Option.bind_some,h8,Option.map_some]
     cases di (A.glob fid) d<;>simp[dJ,eO,nmA,nmR,Jg,ua,rT,mb]
    ·cases h
   ·cases h
  ·cases h
 case makeMap t x=>
  cases x with
  |none=>
   simp only[cval];simp only at h
   split at h
   ·rename_i h1
    simp only[h1]
    split at h<;>rename_i h3<;>simp only[h3,dJ,eO]<;>simpa[D6,D7,md,jJ] using h
   ·cases h
  |some x=>
   simp only[cval];simp only at h
   split at h
   ·rename_i h1
    simp only[h1];unfold mmX at h
    split at h
    ·rename_i hx
     simp only[hx]
     split at h<;>rename_i h3<;>simp only[h3,dJ,eO]<;>simpa[D6,D7,md,jJ] using h
    ·cases h
   ·cases h
 case makeSlice t l c=>
  simp only[cval]
  split at h
  ·rename_i e h1
   simp only[h1]
   split at h
   ·rename_i s z b h2 h3 h4
    simp only[h2,h3];unfold mkX at h
    split at h
    ·rename_i k a k' b' h5 h6
     simp only[h5,h6]
     split at h
     ·rename_i hc
      rw[if_pos ⟨hc.1,hc.2.1,by rw[sL h4];exact hc.2.2.1,hc.2.2.2⟩];simp only[Option.some.injEq] at h;subst h
      cases di (A.glob fid) d<;>simp[dJ,eO,nmA,nmR,Jg,ua,rT,mb]
     ·cases h
    ·cases h
   ·cases h
  ·cases h
 case call c=>
  obtain⟨callee,args,ats⟩:=c
  cases callee with
  |value f=>exact h
  |invoke r n=>
   simp only[cval];simp only[invX] at h
   split at h
   ·rename_i t x h1;simp only[h1];exact h
   ·cases h
  |builtin b=>
   cases b<;>simp only at h<;>try cases h
   case append=>
    simp only[cval]
    split at h
    ·rename_i s x t u _ h1 h2
     simp only[h1,h2,List.map_cons,List.map_nil]
     split at h
     ·rename_i e _ h3 h4
      simp only[h3,h4]
      split at h
      ·rename_i sz z b h5 h6 h7
       split at h
       ·cases h
       ·rename_i hc
        simp only[ky,h5,h6,if_neg hc];unfold ej at h
        split at h
        ·rename_i ys n h8 h9
         simp only[h8,h9,sL h7]
         split at h
         ·rename_i h10
          simp only[h10]
          split at h
          ·rename_i h11;simp only[h11,if_true];exact h
          ·rename_i h11
           simp only[h11,if_false]
           split at h
           ·rename_i h12
            simp only[h12,if_true];simp only[Option.some.injEq] at h;subst h
            cases di (A.glob fid) d<;>simp[dJ,eO,nmA,nmR,Jg,ua,rT,mb]
           ·cases h
         ·rename_i k gn off len h10
          simp only[h10]
          split at h
          ·rename_i g s' cs vl h11
           simp only[h11];exact h
          ·cases h
         ·cases h
        ·cases h
      ·cases h
     ·cases h
    ·cases h
   case copy=>
    simp only[cval]
    split at h
    ·rename_i x y t _ h1 h2
     simp only[h1,h2,List.map_cons,List.map_nil]
     split at h
     ·rename_i e h3
      simp only[h3]
      split at h
      ·rename_i sz h4
       simp only[vT,h4];exact h
      ·cases h
     ·cases h
    ·cases h
   case delete=>
    simp only[cval]
    split at h
    ·rename_i x k t _ h1 h2
     simp only[h1,h2,List.map_cons,List.map_nil]
     split at h
     ·rename_i kt et h3
      split at h
      ·rename_i h4
       obtain⟨m',h5,rfl⟩:=cI h;unfold delX at h5
       split at h5
       ·rename_i key gn h6
        simp only[h6,h3]
        split at h5
        ·rename_i g es h7
         simp only[h7]
         split at h5
         ·rename_i hg
          rw[if_pos ⟨hg,h4⟩]
          split at h5
          ·rename_i i' v' h8;simp only[h8];simp only[Option.some.injEq] at h5;rw[h5]
          ·rename_i h8;simp only[h8];simp only[Option.some.injEq] at h5;rw[h5]
          ·cases h5
         ·cases h5
        ·cases h5
       ·cases h5
      ·cases h
     ·cases h
    ·cases h
theorem qn {d:Option Tmp}{ρ:Operand→CV}{op:Op}{m:Mem}{y:CV×Mem}(h:im P A F fid d ρ op m=some y):cval P A F fid ρ ⟨d,op,0, "",#[],none⟩ m=some y:=by
 unfold im at h
 split at h
 ·obtain⟨v,h1,rfl⟩:=cI h;exact vX_cval h1
 ·obtain⟨v,h1,rfl⟩:=cI h;exact mX_cval h1
 ·exact pX_cval h
end
section
variable (P:Program) (A:Ann) (F:aW) (fid:FuncId)
def vop (d:Option Tmp) (ρ:Operand→CV) (op:Op) (m:Mem) (K:CV→Mem→Prop):Prop:=
 match op with
 |.move x=>K (ρ x) m
 |.assign x=>K (ρ x) m
 |.makeInterface t x=>if mK P t||(P.underlying t).isNone then False else K (.iface t (ρ x)) m
 |.makeFunc fn first captured=>K (.func fn (first.toList.map ρ) (captured.toList.map ρ)) m
 |.alloc t=>match dk P t,lS P t,di (A.glob fid) d with
  |some z,none,false=>K (bo m (cW d)) (bw m (cW d) z)
  |some z,none,true=>K (eP m) (ir m z)
  |_,_,_=>Obt (pX P A F fid d ρ op m) λx=>K x.1 x.2
 |.box t x=>match lS P t,di (A.glob fid) d with
  |none,false=>Obt (ap (ρ x)) λcs=>K (bo m (cW d)) (bw m (cW d) cs)
  |_,_=>Obt (pX P A F fid d ρ op m) λx=>K x.1 x.2
 |.makeMap t none=>match jg P t,di (A.glob fid) d with
  |some _,false=>K (D6 m (cW d)) (D7 m (cW d))
  |some _,true=>K (md m) (jJ m)
  |none,_=>False
 |op=>match opk op with
  |0=>Obt (vX P ρ op m) λv=>K v m
  |1=>Obt (mX P ρ op m) λm'=>K .dead m'
  |_=>Obt (pX P A F fid d ρ op m) λx=>K x.1 x.2
theorem FZ {d:Option Tmp}{ρ:Operand→CV}{op:Op}{m:Mem}{K:CV→Mem→Prop}(h:vop P A F fid d ρ op m K):Obt (im P A F fid d ρ op m) λx=>K x.1 x.2:=by
 have gen:(match opk op with
  |0=>Obt (vX P ρ op m) λv=>K v m
  |1=>Obt (mX P ρ op m) λm'=>K .dead m'
  |_=>Obt (pX P A F fid d ρ op m) λx=>K x.1 x.2)→Obt (im P A F fid d ρ op m) λx=>K x.1 x.2:=by
  intro h;unfold im
  split at h<;>rename_i ho
  ·simp only[ho,dU];exact h
  ·simp only[ho,dU];exact h
  ·split
   ·rename_i h1;exact absurd h1 (by assumption)
   ·rename_i h1;exact absurd h1 (by assumption)
   ·exact h
 unfold vop at h
 split at h
 ·simpa only[im,opk,vX,dU,aJ] using h
 ·simpa only[im,opk,vX,dU,aJ] using h
 ·split at h
  ·exact h.elim
  ·rename_i hc
   simp only[im,opk,vX,dU];rw[if_neg hc,aJ];exact h
 ·simpa only[im,opk,vX,dU,aJ] using h
 ·split at h
  ·rename_i h1 h2 h3
   simp only[im,opk,pX,h1,h2,h3,aJ];exact h
  ·rename_i h1 h2 h3
   simp only[im,opk,pX,h1,h2,h3,aJ];exact h
  ·exact h
 ·split at h
  ·rename_i h1 h2
   simp only[im,opk,pX,h1,h2,dU];exact h
  ·exact h
 ·split at h
  ·rename_i h1 h2
   simp only[im,opk,pX,h1,h2,aJ];exact h
  ·rename_i h1 h2
   simp only[im,opk,pX,h1,h2,aJ];exact h
  ·exact h.elim
 ·exact gen h
def ry (dr:Bool):List SO→TS→(TS→Prop)→Prop
 |[],s,K=>K s
 |o::r,s,K=>
  match o.off,o.g,dr&&dm A o.op with
  |[],none,false=>vop P A F fid o.d (tev s.sl) o.op s.m λv m'=>ry dr r ⟨rn s.sl o.d v,m'⟩ K
  |[],none,true=>Obt (chk true (im P A F fid o.d (tev s.sl) o.op s.m)) λx=>ry dr r ⟨rn s.sl o.d x.1,x.2⟩ K
  |[],some (t,w),b=>Obt (gdO (ac s.sl t) w (chk b (im P A F fid o.d (tev s.sl) o.op s.m)) (.tuple [],s.m)) λx=>ry dr r ⟨rn s.sl o.d x.1,x.2⟩ K
  |off,none,b=>Obt (chk b (fw off o.op (tev s.sl) s.m (im P A F fid o.d (tev s.sl) o.op s.m))) λx=>ry dr r ⟨rn s.sl o.d x.1,x.2⟩ K
  |off,some (t,w),b=>Obt (gdO (ac s.sl t) w (chk b (fw off o.op (tev s.sl) s.m (im P A F fid o.d (tev s.sl) o.op s.m))) (.tuple [],s.m)) λx=>ry dr r ⟨rn s.sl o.d x.1,x.2⟩ K
theorem pU {off:List (Bool×Nat)}{op:Op}{ρ:Operand→CV}{m:Mem}{x x':Option (CV×Mem)}(hx:∀y,x=some y→x'=some y) {y:CV×Mem}(h:fw off op ρ m x=some y):fw off op ρ m x'=some y:=by
 have h0:=lB h;have h1:=hx y h0;rw[h0] at h;rw[h1];exact h
theorem KP {b:Bool}{x x':Option (CV×Mem)}(hx:∀y,x=some y→x'=some y) {y:CV×Mem}(h:chk b x=some y):chk b x'=some y:=by
 cases b with
 |false=>exact hx y h
 |true=>
  simp only[chk,Option.bind_eq_some_iff] at h ⊢;obtain⟨z,h1,h2⟩:=h
  exact⟨z,hx z h1,h2⟩
theorem fF {dr:Bool}:∀{l:List SO}{s:TS}{K:TS→Prop},ry P A F fid dr l s K→xO P A F fid dr l s K
 |[],_,_,h=>h
 |o::r,s,K,h=>by
  have hvv:∀y,im P A F fid o.d (tev s.sl) o.op s.m=some y→cval P A F fid (tev s.sl) o.up s.m=some y:=λy hy=>qn hy;have guarded:∀{t:Tmp}{w:Bool}{X X':Option (CV×Mem)}{x:CV×Mem},gdO (ac s.sl t) w X (.tuple [],s.m)=some x→(∀y,X=some y→X'=some y) →
    gdO (ac s.sl t) w X' (.tuple [],s.m)=some x:=λ{t w X X' x} h hx=>by
   rcases nK h with⟨h5,h6⟩|⟨h5,rfl⟩
   ·rw[h5]
    have e:∀X:Option (CV×Mem),gdO (.bool w) w X (CV.tuple [],s.m)=X:=λX=>by cases w<;>rfl
    rw[e];exact hx _ h6
   ·rcases h5 with h5|h5
    ·rw[h5];cases w<;>rfl
    ·rw[h5];rfl
  simp only[ry] at h;simp only[xO,top,rl]
  split at h
  ·rename_i h0 h1 h2
   simp only[h0,h1,h2,chk,fw];obtain⟨x,h3,h4⟩:=FZ P A F fid h
   exact⟨x,qn h3,fF h4⟩
  ·rename_i h0 h1 h2
   simp only[h0,h1,h2,fw];obtain⟨x,h3,h4⟩:=h
   exact⟨x,KP hvv h3,fF h4⟩
  ·rename_i t w h0 h1
   simp only[h0,h1,fw];obtain⟨x,h3,h4⟩:=h
   exact⟨x,guarded h3 λy hy=>KP hvv hy,fF h4⟩
  ·rename_i hg _ _
   simp only[hg];obtain⟨x,h3,h4⟩:=h
   exact⟨x,KP (λy hy=>pU hvv hy) h3,fF h4⟩
  ·rename_i t w hg _
   simp only[hg];obtain⟨x,h3,h4⟩:=h
   exact⟨x,guarded h3 λy hy=>KP (λz hz=>pU hvv hz) hy,fF h4⟩
end
theorem ae {P:Program}{A:Ann}{F:aW}{fid:FuncId}{s:TS}{Q:CE→TS→Prop}{dr:Bool}{keep:Option (List Tmp)}{ops:List SO}{X:Prop}
  (he:(ry P A F fid dr ops s λs'=>Q .normal ⟨qi keep s'.sl,s'.m⟩)=X) (h:X):Tx P A F fid (.reg dr keep ops) s Q:=Tx_reg (fF P A F fid (he ▸ h))
def rgC (P:Program) (A:Ann) (fid:FuncId) (nt i:Nat):Code→Option SC
 |.region id ops draw=>if id==i then bh P A fid nt (.region id ops draw) else none
 |.seq a b=>(rgC P A fid nt i a).or (rgC P A fid nt i b)
 |.cond _ a b=>(rgC P A fid nt i a).or (rgC P A fid nt i b)
 |.block _ c=>rgC P A fid nt i c
 |.loop c=>rgC P A fid nt i c
 |_=>none
def rgo (P:Program) (A:Ann) (fid:FuncId) (f:Func) (i:Nat):List SO:=match f.body.bind (rgC P A fid f.ntmps i) with
 |some (.reg _ _ l)=>l
 |_=>[]
end Go.Cm
namespace Go.Cm
def bi (m:Mem) (j:Nat) (o:HO):Mem:=⟨gb m.L j o,m.H⟩
theorem xr (l:List (Nat×HO)) (i:Nat) (a b:HO):gb (gb l i a) i b=gb l i b:=by
 induction l with
 |nil=>simp only[gb,if_true]
 |cons x r ih=>
  obtain⟨k,h⟩:=x;simp only[gb];split
  ·simp only[gb,if_true]
  ·rename_i hk
   simp only[gb,hk,if_false,ih]
theorem ba {m:Mem}{i j:Nat}{o:HO}:aK (bi m i o).L j=if i=j then some o else aK m.L j:=aq _ _ _ _
theorem ik {m:Mem}{i:Nat}{o:HO}:(bi m i o).H=m.H:=rfl
theorem aS {m:Mem}{i:Nat}{a b:HO}:bi (bi m i a) i b=bi m i b:=by simp only[bi,xr]
theorem aR {m:Mem}{i j:Nat}{o:HO}:bj (bi m i o).L j=if i=j then o.gn+1 else bj m.L j:=by
 simp only[bj,ba]
 split<;>rfl
theorem eE {l:List (Nat×HO)}{i j:Nat}{o:HO}:bj (gb l i o) j=if i=j then o.gn+1 else bj l j:=by
 simp only[bj,aq]
 split<;>rfl
theorem qO {m:Mem}{j:Nat}{cs:List CV}:bw m j cs=bi m j (.var (bj m.L j) cs 0):=rfl
theorem qP {m:Mem}{j:Nat}:bo m j=.ptr (.l j) (bj m.L j) 0:=rfl
theorem dj {m:Mem}{j sz:Nat}{cs:List CV}:nmA false m j sz cs=bi m j (.arr (bj m.L j) sz cs 0):=rfl
theorem ef {m:Mem}{j n:Nat}:nmR false m j n=.ref (.l j) (bj m.L j) 0 n:=rfl
theorem bv {g vl:Nat}{cs:List CV}:(HO.var g cs vl).gn=g:=rfl
theorem nN {g s vl:Nat}{cs:List CV}:(HO.arr g s cs vl).gn=g:=rfl
section
variable {m:Mem}{j g off len n sz:Nat}{cs:List CV}{v:CV}
theorem cb {k:Key}{o:Nat}:aA off (.ptr k g o)=some (.ptr k g (o+off)):=rfl
theorem bL:aA off (.rptr cs)=some (.rptr (cs.drop off)):=rfl
def rdO (g off n:Nat):Option HO→Option (List CV)
 |some (.var g' cs _)=>if g'=g∧off+n≤cs.length then some ((cs.drop off).take n) else none
 |some (.arr g' _ cs _)=>if g'=g∧off+n≤cs.length then some ((cs.drop off).take n) else none
 |_=>none
theorem pD:bN m (.ptr (.l j) g off) n=rdO g off n (aK m.L j):=by
 simp only[bN,Mem.get]
 cases aK m.L j with
 |none=>rfl
 |some h=>cases h<;>simp[rdO,HO.gn,HO.isMap,HO.cells]
def rd1 (g off:Nat):Option HO→Option CV
 |some (.var g' cs _)=>if g'=g then cs[off]? else none
 |some (.arr g' _ cs _)=>if g'=g then cs[off]? else none
 |_=>none
theorem eX:ld1 m (.ptr (.l j) g off)=rd1 g off (aK m.L j):=by
 simp only[ld1,pD]
 cases aK m.L j with
 |none=>rfl
 |some h=>
  cases h with
  |var g' cs vl=>
   simp only[rdO,rd1]
   by_cases hg:g'=g
   ·simp only[hg,true_and,if_true];exact eQ
   ·simp[hg]
  |arr g' s cs vl=>
   simp only[rdO,rd1]
   by_cases hg:g'=g
   ·simp only[hg,true_and,if_true];exact eQ
   ·simp[hg]
  |map=>rfl
theorem cw {vl:Nat}:rd1 g off (some (.var g cs vl))=cs[off]?:=by simp only[rd1,if_true]
theorem bM {s vl:Nat}:rd1 g off (some (.arr g s cs vl))=cs[off]?:=by simp only[rd1,if_true]
def rdA (g off n:Nat) (o:Option HO):Option CV:=(rdO g off n o).map CV.agg
theorem kM:ldA n m (.ptr (.l j) g off)=rdA g off n (aK m.L j):=by simp only[ldA,pD,rdA]
theorem gi {vl:Nat}:rdA g off n (some (.var g cs vl))=if off+n≤cs.length then some (.agg ((cs.drop off).take n)) else none:=by
 simp only[rdA,rdO,true_and];split<;>rfl
theorem fB {s vl:Nat}:rdA g off n (some (.arr g s cs vl))=if off+n≤cs.length then some (.agg ((cs.drop off).take n)) else none:=by
 simp only[rdA,rdO,true_and];split<;>rfl
theorem dw:ld1 m (.rptr (v::cs))=some v:=by simp[ld1,bN]
def cz:CV→Bool
 |.bool _=>true
 |.int _ _=>true
 |.str _=>true
 |.nil=>true
 |.imm _ _=>true
 |.pnil=>true
 |.rptr _=>true
 |.mnil=>true
 |.nilf=>true
 |.inil=>true
 |.ref (.g _) _ _ _=>true
 |.ptr (.g _) _ _=>true
 |.map (.g _) _=>true
 |_=>false
def eV:CV→Bool
 |.agg cs=>cs.all cz
 |.tuple cs=>cs.all cz
 |.iface _ v=>cz v
 |.func _ a b=>a.all cz&&b.all cz
 |v=>cz v
theorem nG {v:CV}{k:Nat}(h:cz v=true):esc (k+1) v m=some (v,m):=by
 cases v with
 |ref key gn off len=>cases key<;>first|rfl|simp[cz] at h
 |ptr key gn off=>cases key<;>first|rfl|simp[cz] at h
 |map key gn=>cases key<;>first|rfl|simp[cz] at h
 |_=>first|rfl|simp[cz] at h
theorem iS {f:CV→Mem→Option (CV×Mem)}:∀{cs:List CV},(∀c∈cs,f c m=some (c,m))→am f cs m=some (cs,m)
 |[],_=>rfl
 |c::cs,h=>by
  simp only[am,h c List.mem_cons_self,Option.bind_some,iS (λx hx=>h x (List.mem_cons_of_mem _ hx)),Option.map_some]
theorem rN {v:CV}{k:Nat}(h:eV v=true):esc (k+2) v m=some (v,m):=by
 have hall:∀{cs:List CV},cs.all cz=true→am (esc (k+1)) cs m=some (cs,m):=λh=>iS λc hc=>nG (List.all_eq_true.1 h c hc)
 cases v with
 |agg cs=>
  show(am (esc (k+1)) cs m).map (λx=>(CV.agg x.1,x.2))=_
  rw[hall h];rfl
 |tuple cs=>
  show(am (esc (k+1)) cs m).map (λx=>(CV.tuple x.1,x.2))=_
  rw[hall h];rfl
 |iface t v=>
  show(esc (k+1) v m).map (λx=>(CV.iface t x.1,x.2))=_
  rw[nG h];rfl
 |func f a b=>
  simp only[eV,Bool.and_eq_true] at h
  show((am (esc (k+1)) a m).bind λx=>(am (esc (k+1)) b x.2).map λy=>(CV.func f x.1 y.1,y.2))=_
  rw[hall h.1,Option.bind_some,hall h.2];rfl
 |_=>exact nG h
theorem cn {cs:List CV}(h:cs.all eV=true):bp m cs=some (cs,m):=
 iS λc hc=>rN (List.all_eq_true.1 h c hc)
theorem dQ {v:CV}(h:cz v=true):eV v=true:=by cases v<;>first|exact h|simp[cz] at h
theorem bF {cs:List CV}(h:cs.all cz=true):bp m cs=some (cs,m):=
 cn (List.all_eq_true.2 λc hc=>dQ (List.all_eq_true.1 h c hc))
def wrA (m:Mem) (j gn off:Nat) (cs:List CV) (g sz:Nat) (cells:List CV) (vl:Nat):Option Mem:=
 if g=gn∧off+cs.length≤cells.length∧vl≤off then
  (bp m cs).bind λx=>
   match x.2.get (.l j) with
   |some (.arr g' _ _ vl')=>if g'=gn∧vl'≤off then some (x.2.set (.l j) (.arr g sz (ay cells off x.1) vl')) else none
   |_=>none
 else none
def stV (n:Nat) (m:Mem) (j gn off:Nat) (v:Option (List CV)) (o:Option HO):Option Mem:=
 match v with
 |some cs=>if cs.length=n then
   (match o with
   |some (.var g cells vl)=>if g=gn∧off+cs.length≤cells.length∧vl≤off then some (bi m j (.var g (ay cells off cs) vl)) else none
   |some (.arr g sz cells vl)=>wrA m j gn off cs g sz cells vl
   |_=>none)
  else none
 |none=>none
theorem p6:stX n m (.ptr (.l j) g off) v=stV n m j g off (ap v) (aK m.L j):=by
 unfold stX stV
 cases ap v with
 |none=>rfl
 |some cs=>
  simp only
  split
  ·simp only[fT,Mem.get]
   cases aK m.L j with
   |none=>rfl
   |some h=>cases h<;>rfl
  ·rfl
theorem lj {cells:List CV}{vl:Nat}:stV n m j g off (some cs) (some (.var g cells vl))=if cs.length=n∧off+n≤cells.length∧vl≤off then some (bi m j (.var g (ay cells off cs) vl)) else none:=by
 simp only[stV,true_and]
 by_cases h:cs.length=n
 ·simp only[h,if_true,true_and]
 ·simp only[h,if_false,false_and]
theorem q6 {cells:List CV}{s vl:Nat}(hp:cs.all cz=true) (hm:aK m.L j=some (.arr g s cells vl)):stV n m j g off (some cs) (some (.arr g s cells vl))=if cs.length=n∧off+n≤cells.length∧vl≤off then some (bi m j (.arr g s (ay cells off cs) vl)) else none:=by
 simp only[stV,wrA,true_and,bF hp,Option.bind_some,Mem.get,hm]
 by_cases h:cs.length=n
 ·simp only[h,if_true,true_and]
  by_cases h2:vl≤off
  ·simp only[h2,and_true,if_true];rfl
  ·simp only[h2,and_false,if_false]
 ·simp only[h,if_false,false_and]
end
theorem ic {a b:CV}:cT (.bool true) a b=some a:=rfl
theorem gf {a b:CV}:cT (.bool false) a b=some b:=rfl
theorem fE {b:Bool}{a c:CV}{K:CV→Prop}:Obt (cT (.bool b) a c) K=((b=true→K a)∧(b=false→K c)):=by
 cases b<;>simp[cT,aJ]
theorem Lv {α:Type}{b:Bool}{X:Option α}{e:α}{K:α→Prop}:Obt (gdO (.bool b) false X e) K=((b=false→Obt X K)∧(b=true→K e)):=by
 cases b<;>simp[gdO,aJ]
def appR (sz b j g off len:Nat) (ys:Option (List CV)) (n:Option Nat) (o:Option HO) (m:Mem):Option (CV×Mem):=
 match ys,n with
 |some ys,some n=>
  match o with
  |some (.arr g' s' cs vl)=>
   if g'=g∧s'=sz∧vl≤off+len*sz∧cN b (len+n)=true then
    some (.ref (.l j) (g'+1) 0 (len+n),bi m j (.arr (g'+1) sz ((cs.drop off).take (len*sz)++ys) (vl - off)))
   else none
  |_=>none
 |_,_=>none
def tr (glob:Bool) (j sz b:Nat) (ys:Option (List CV)) (n:Option Nat) (m:Mem):Option (CV×Mem):=
 match ys,n with
 |some ys,some n=>
  if n=0 then some (.nil,m)
  else if cN b n=true then some (nmR glob m j n,nmA glob m j sz ys)
  else none
 |_,_=>none
theorem fP {glob:Bool}{i j sz b g off len:Nat}{x:CV}{m:Mem}:ej glob i sz b (.ref (.l j) g off len) x m=appR sz b j g off len (content m sz x) (clen x) (aK m.L j) m:=by
 unfold ej appR
 cases content m sz x with
 |none=>rfl
 |some ys=>
  cases clen x with
  |none=>rfl
  |some n=>
   simp only[Mem.get]
   cases aK m.L j with
   |none=>rfl
   |some h=>
    cases h with
    |arr g' s cs vl=>
     simp only
     by_cases hg:g'=g
     ·subst hg;rfl
     ·simp only[hg,false_and,if_false]
    |var=>rfl
    |map=>rfl
theorem iD {glob:Bool}{i sz b:Nat}{x:CV}{m:Mem}:ej glob i sz b .nil x m=tr glob i sz b (content m sz x) (clen x) m:=by
 unfold ej tr
 cases content m sz x with
 |none=>rfl
 |some ys=>cases clen x<;>rfl
theorem ea {sz b j g off len n vl:Nat}{ys cs:List CV}{m:Mem}:appR sz b j g off len (some ys) (some n) (some (.arr g sz cs vl)) m =
  if vl≤off+len*sz∧cN b (len+n)=true then some (.ref (.l j) (g+1) 0 (len+n),bi m j (.arr (g+1) sz ((cs.drop off).take (len*sz)++ys) (vl - off))) else none:=by
 simp only[appR,true_and]
theorem eG {glob:Bool}{j sz b n:Nat}{ys:List CV}{m:Mem}(hn:¬n=0):tr glob j sz b (some ys) (some n) m=if cN b n=true then some (nmR glob m j n,nmA glob m j sz ys) else none:=by
 simp only[tr,hn,if_false]
theorem dI {b n:Nat}(hb:b≤1024) (hn:n≤4294967296):cN b n=true:=by
 have h1:n*b≤4294967296*1024:=Nat.mul_le_mul hn hb;have h2:n≤70368744177664:=by omega
 have h3:n*b≤140737488355328:=by omega
 simp[cN,hb,sh,h2,h3]
def conR (sz g off len:Nat) (o:Option HO):Option (List CV):=
 match o with
 |some (.arr g' s cs _)=>if g'=g∧s=sz then some ((cs.drop off).take (len*sz)) else none
 |_=>none
theorem cU {m:Mem}{sz j g off len:Nat}:content m sz (.ref (.l j) g off len)=conR sz g off len (aK m.L j):=by
 simp only[content,Mem.get]
 cases aK m.L j with
 |none=>rfl
 |some h=>cases h<;>rfl
theorem dz {sz g off len vl:Nat}{cs:List CV}:conR sz g off len (some (.arr g sz cs vl))=some ((cs.drop off).take (len*sz)):=by
 simp only[conR,and_self,if_true]
theorem Gk:clen .nil=some 0:=rfl
theorem fq {k:Key}{g off len:Nat}:clen (.ref k g off len)=some len:=rfl
theorem bD {sz:Nat}{k:IntKind}{key:Key}{g off len:Nat}{i:Int}:bd sz (.ref key g off len) (.int k i)=if 0≤i∧i.toNat<len then some (.ptr key g (off+i.toNat*sz)) else none:=by
 simp only[bd,eH]
 by_cases h:0≤i
 ·simp only[h,if_true,true_and]
 ·simp only[h,if_false,false_and]
section
variable {P:Program}{t:TypeId}{x y:Operand}{k k':IntKind}{a b:Int}{K:CV→Prop}
theorem cK:Obt (aw P .add t x y (.int k a) (.int k b)) K=K (.int k (k.wrap (a+b))):=by simp only[aw,if_true,fv,aJ]
theorem fe:Obt (aw P .sub t x y (.int k a) (.int k b)) K=K (.int k (k.wrap (a - b))):=by simp only[aw,if_true,fv,aJ]
theorem Gb:Obt (aw P .rem t x y (.int k a) (.int k b)) K=(¬b=0∧K (.int k (a.tmod b))):=by simp only[aw,if_true,fv,Hq,aJ]
theorem uR:Obt (aw P .and t x y (.int k a) (.int k b)) K=K (.int k (lY .and k a b)):=by simp only[aw,if_true,fv,aJ]
theorem q9:Obt (aw P .andNot t x y (.int k a) (.int k b)) K=K (.int k (lY .andNot k a b)):=by simp only[aw,if_true,fv,aJ]
theorem Gd:Obt (aw P .shr t x y (.int k a) (.int k' b)) K=(¬b<0∧K (.int k (a.fdiv (2 ^ (min b.toNat k.bits))))):=by simp only[aw,qY,Hq,aJ]
theorem gE:Obt (pF k (.int k' a)) K=K (.int k (k.wrap a)):=by simp only[pF,aJ]
theorem dT {i:Nat}{vs:List CV}:Obt (cV i (.tuple vs)) K=Obt (vs[i]?) K:=rfl
end
end Go.Cm
namespace Go.Cm
theorem lH {n g off len:Nat}{m:Mem}:gD (.ref (.g n) g off len) m=some (.ref (.g n) g off len,m):=rfl
theorem bz {k:IntKind}{n:Int}{m:Mem}:gD (.int k n) m=some (.int k n,m):=rfl
theorem jx {b:Bool}{m:Mem}:gD (.bool b) m=some (.bool b,m):=rfl
theorem eh {m:Mem}:gD .nil m=some (.nil,m):=rfl
theorem aV {v:CV}:tup [v]=v:=rfl
theorem bW {a b:CV}{r:List CV}:tup (a::b::r)=.tuple (a::b::r):=rfl
section
variable {P:Program}{A:Ann}{F:aW}{fid:FuncId}{s:TS}{Q:CE→TS→Prop}{x y z:SC}
def Kn (K:TS→Prop):CE→TS→Prop
 |.normal,s=>K s
 |_,_=>False
theorem dg {K:TS→Prop}:Kn K .normal s=K s:=rfl
theorem ai (h:Tx P A F fid (.seq x (.seq y z)) s Q):Tx P A F fid (.seq (.seq x y) z) s Q:=by
 obtain⟨⟨e,s1⟩,n,h1,h2⟩:=h
 refine⟨_,n,?_,h2⟩
 simp only[texec,Option.bind_eq_some_iff] at h1 ⊢;obtain⟨⟨e2,s2⟩,h3,h4⟩:=h1;cases e2
 case normal=>
  simp only[Option.bind_eq_some_iff] at h4;obtain⟨r,h5,h6⟩:=h4
  exact⟨r,⟨_,h3,h5⟩,h6⟩
 all_goals
  simp only[Option.some.injEq,Prod.mk.injEq] at h4;obtain⟨rfl,rfl⟩:=h4
  exact⟨_,⟨_,h3,rfl⟩,rfl⟩
theorem ah {dr:Bool}{keep:Option (List Tmp)}{ops:List SO}(h:∀K:TS→Prop,(∀s',Tx P A F fid y s' Q→K s')→Tx P A F fid (.reg dr keep ops) s (Kn K)):Tx P A F fid (.seq (.reg dr keep ops) y) s Q:=by
 refine mV (uT (h (λs'=>Tx P A F fid y s' Q) λ_ h=>h) ?_);intro e s' h;cases e
 ·exact h
 ·exact h.elim
 ·exact h.elim
theorem aI {dr:Bool}{keep:Option (List Tmp)}{ops:List SO}(h:∀K:TS→Prop,(∀s',Q .normal s'→K s')→Tx P A F fid (.reg dr keep ops) s (Kn K)):Tx P A F fid (.reg dr keep ops) s Q:=by
 refine uT (h (λs'=>Q .normal s') λ_ h=>h) ?_;intro e s' h;cases e
 ·exact h
 ·exact h.elim
 ·exact h.elim
theorem rv {c:Operand}{b:Bool}(hc:tev s.sl c=.bool b) (h1:b=true→Tx P A F fid (.seq x z) s Q) (h2:b=false→Tx P A F fid (.seq y z) s Q):Tx P A F fid (.seq (.cond c x y) z) s Q:=by
 have key:∀w,Tx P A F fid (.seq w z) s Q→(tev s.sl c=.bool true→w=x)→(tev s.sl c=.bool false→w=y)→Tx P A F fid (.seq (.cond c x y) z) s Q:=by
  intro w h ht hf;obtain⟨r,n,h3,h4⟩:=h
  refine⟨r,n,?_,h4⟩
  simp only[texec] at h3 ⊢
  cases b with
  |true=>rw[ht hc] at h3;rw[hc];exact h3
  |false=>rw[hf hc] at h3;rw[hc];exact h3
 cases b with
 |true=>exact key x (h1 rfl) (λ_=>rfl) (λh=>by rw[hc] at h;cases h)
 |false=>exact key y (h2 rfl) (λh=>by rw[hc] at h;cases h) (λ_=>rfl)
theorem au {c:Operand}(hc:tev s.sl c=.bool true) (h:Tx P A F fid (.seq x z) s Q):Tx P A F fid (.seq (.cond c x y) z) s Q:=rv hc (λ_=>h) (λh=>by cases h)
theorem ax {c:Operand}(hc:tev s.sl c=.bool false) (h:Tx P A F fid (.seq y z) s Q):Tx P A F fid (.seq (.cond c x y) z) s Q:=rv hc (λh=>by cases h) (λ_=>h)
theorem ar (h:Tx P A F fid z s Q):Tx P A F fid (.seq .nop z) s Q:=mV (bx h)
theorem b6 (h:Q .ret s):Tx P A F fid (.seq .ret z) s Q:=mV (aF h)
theorem aN {i:Nat}(h:Q (.exit i) s):Tx P A F fid (.seq (.exit i) z) s Q:=mV (Js h)
theorem aj {id:Nat}{c:SC}(h:∀Q':CE→TS→Prop,(∀s',Tx P A F fid z s' Q→Q' .normal s')→(∀s',Tx P A F fid z s' Q→Q' (.exit id) s')→(∀s',Q .ret s'→Q' .ret s')→(∀i s',i≠id→Q (.exit i) s'→Q' (.exit i) s')→Tx P A F fid c s Q') :
  Tx P A F fid (.seq (.block id c) z) s Q:=by
 refine mV (ru (h _ (λs' h=>h) (λs' h=>?_) (λs' h=>h) (λi s' hi h=>?_)))
 ·simp only[jA,if_true];exact h
 ·simp only[jA,hi,if_false];exact h
theorem bl {id:Nat}{c:SC}(h:∀Q':CE→TS→Prop,(∀s',Q .normal s'→Q' .normal s')→(∀s',Q .normal s'→Q' (.exit id) s')→(∀s',Q .ret s'→Q' .ret s')→(∀i s',i≠id→Q (.exit i) s'→Q' (.exit i) s')→Tx P A F fid c s Q') :
  Tx P A F fid (.block id c) s Q:=by
 refine ru (h _ (λs' h=>h) (λs' h=>?_) (λs' h=>h) (λi s' hi h=>?_))
 ·simp only[jA,if_true];exact h
 ·simp only[jA,hi,if_false];exact h
theorem aU {c:SC}(I:Nat→TS→Prop) (n:Nat) (h0:I n s) (h:∀n s,I n s→∀Q':CE→TS→Prop,(∀n' s',n'<n→I n' s'→Q' .normal s')→(∀i s',Q (.exit i) s'→Q' (.exit i) s')→(∀s',Q .ret s'→Q' .ret s')→Tx P A F fid c s Q'):Tx P A F fid (.loop c) s Q:=
 Tx_loop I n h0 λn s hI=>h n s hI _ (λn' _ hn h=>⟨n',hn,h⟩) (λ_ _ h=>h) (λ_ h=>h)
theorem bf {b:Bool}{args:List CV}(hb:b=true) (h:cans args=args):cin b args=args:=by subst hb;exact h
theorem aL {E:aW}{f:FuncId}{fn:Func}{c:SC}{args:List CV}{H:List HO}{v:CV}{H':List HO}(hE:E f (cin (A.pure f) args) H=none)
  (hf:P.funcs[f]?=some fn) (hb:fn.body.bind (bh P A f fn.ntmps)=some c) (hlen:args.length≤fn.ntmps)
  (h:∀Q:CE→TS→Prop,(∀s,Obt (aQ P fn.results.toList s) (λx=>x=(v,H'))→Q .ret s)→(∀s,Obt (aQ P fn.results.toList s) (λx=>x=(v,H'))→Q .normal s)→Tx P A (Fw P A E) f c { sl:=aO 0 (cin (A.pure f) args),m:={ L:=[],H:=H } } Q):Fw P A E f args H=some (v,H'):=
 xJ hE hf hb hlen (h _ (λ_ h=>xN h) (λ_ h=>rq h))
theorem bA {E:aW}{f:FuncId}{fn:Func}{c:SC}{args:List CV}{H:List HO}{R:CV×List HO→Prop}(hE:E f (cin (A.pure f) args) H=none)
  (hf:P.funcs[f]?=some fn) (hb:fn.body.bind (bh P A f fn.ntmps)=some c) (hlen:args.length≤fn.ntmps)
  (h:∀Q:CE→TS→Prop,(∀s,Obt (aQ P fn.results.toList s) R→Q .ret s)→(∀s,Obt (aQ P fn.results.toList s) R→Q .normal s)→Tx P A (Fw P A E) f c { sl:=aO 0 (cin (A.pure f) args),m:={ L:=[],H:=H } } Q):∃r,R r∧Fw P A E f args H=some r:=by
 obtain⟨⟨e,s1⟩,n,h1,h2⟩:=h (λe s=>(∀i,e≠.exit i)∧Obt (aQ P fn.results.toList s) R) (λ_ h=>⟨by simp,h⟩) (λ_ h=>⟨by simp,h⟩);obtain⟨h2,⟨v,H'⟩,h3,h4⟩:=h2
 refine⟨(v,H'),h4,xJ hE hf hb hlen ⟨_,n,h1,h2,_,h3,rfl⟩⟩
end
end Go.Cm
namespace Go.Cm
def sl {α:Type}(e:α→List CV) (l:List α):CV:=.imm l.length (l.flatMap e)
theorem aP {α:Type}{e:α→List CV}{l:List α}:clen (sl e l)=some l.length:=rfl
theorem bC {α:Type}{e:α→List CV}{sz:Nat}(hs:∀a,(e a).length=sz) (l:List α):(l.flatMap e).length=l.length*sz:=by
 induction l with
 |nil=>simp
 |cons x l ih=>simp[ih,hs,Nat.add_mul,Nat.add_comm]
theorem rX {α:Type}{e:α→List CV}{d r:List α}{a:α}{sz n:Nat}{k:IntKind}(hs:∀a,(e a).length=sz) (hp:0<sz) (hn:n=(d++a::r).length):bd sz (.imm n ((d++a::r).flatMap e)) (.int k d.length)=some (.rptr (e a++r.flatMap e)):=by
 subst hn;have h1:(d.length:Int).toNat=d.length:=rfl;simp only[bd,eH,Int.natCast_nonneg,if_true,h1];rw[if_pos]
 ·congr 2
  rw[List.flatMap_append,←bC hs d,List.drop_left,List.flatMap_cons]
 ·constructor
  ·simp
  ·rw[bC hs];simp only[List.length_append,List.length_cons];exact Nat.mul_lt_mul_of_pos_right (by omega) hp
theorem hY {α:Type}{e:α→List CV}{l:List α}{i:Int}{a:α}{sz:Nat}{k:IntKind}(hs:∀a,(e a).length=sz) (hp:0<sz) (h0:0≤i) (ha:l[i.toNat]?=some a) :
  bd sz (sl e l) (.int k i)=some (.rptr (e a++(l.drop (i.toNat+1)).flatMap e)):=by
 obtain⟨hlt,hget⟩:=List.getElem?_eq_some_iff.1 ha;have hl:l=l.take i.toNat++a::l.drop (i.toNat+1):=by
  rw[←hget,←List.drop_eq_getElem_cons hlt,List.take_append_drop]
 have hi:i=((l.take i.toNat).length:Int):=by
  rw[List.length_take,Nat.min_eq_left (by omega)];omega
 have:=rX (e:=e) (d:=l.take i.toNat) (r:=l.drop (i.toNat+1)) (a:=a) (n:=l.length) (k:=k) hs hp (congrArg List.length hl);rw[←hl,←hi] at this;exact this
theorem aM {α:Type}{e:α→List CV}{l d r:List α}{a:α}{sz:Nat}{k:IntKind}(hs:∀a,(e a).length=sz) (hp:0<sz) (hl:l=d++a::r) :
  bd sz (sl e l) (.int k d.length)=some (.rptr (e a++r.flatMap e)):=by
 subst hl;exact rX hs hp rfl
theorem NH {α:Type}{e:α→List CV}{l:List α}{i:Nat}{a:α}{sz:Nat}(hs:∀a,(e a).length=sz) (ha:l[i]?=some a):((l.flatMap e).drop (i*sz)).take sz=e a∧i*sz+sz≤(l.flatMap e).length:=by
 obtain⟨hlt,hget⟩:=List.getElem?_eq_some_iff.1 ha;have hl:l=l.take i++a::l.drop (i+1):=by
  rw[←hget,←List.drop_eq_getElem_cons hlt,List.take_append_drop]
 have hi:i*sz=((l.take i).flatMap e).length:=by
  rw[bC hs,List.length_take,Nat.min_eq_left (by omega)]
 constructor
 ·have:l.flatMap e=(l.take i).flatMap e++(a::l.drop (i+1)).flatMap e:=by rw[←List.flatMap_append,←hl]
  rw[this,hi];rw[List.drop_left,List.flatMap_cons,←hs a,List.take_left]
 ·rw[bC hs]
  have:=Nat.mul_le_mul_right sz (show i+1≤l.length from hlt);rw[Nat.add_mul] at this;omega
structure Area where
 size:Int
 write:Bool
structure Lay where
 ctx:Area
 maps:List Area
structure Fact where
 seen:Bool
 region:Int
 low:Int
 high:Int
def No (a:Area):Prop:=1≤a.size∧a.size≤4096
instance (a:Area):Decidable (No a):=by unfold No;infer_instance
def eK (l:Lay):Prop:=0≤l.ctx.size∧l.ctx.size≤4096∧l.maps.length≤8∧∀a∈l.maps,No a
instance (l:Lay):Decidable (eK l):=by unfold eK;infer_instance
theorem eJ {α:Type}{e:α→List CV}(h:∀a,noGs (e a)=true):∀l:List α,noGs (l.flatMap e)=true
 |[]=>rfl
 |a::l=>by
  have app:∀x y:List CV,noGs x=true→noGs y=true→noGs (x++y)=true:=by
   intro x y hx hy
   induction x with
   |nil=>exact hy
   |cons c x ih=>
    simp only[noGs,Bool.and_eq_true] at hx;simp only[List.cons_append,noGs,hx.1,ih hx.2,Bool.and_self]
  rw[List.flatMap_cons];exact app _ _ (h a) (eJ h l)
theorem noG_sl {α:Type}{e:α→List CV}(h:∀a,noGs (e a)=true) (l:List α):noG (sl e l)=true:=eJ h l
theorem eo {k:IntKind}{n:Int}:noG (.int k n)=true:=rfl
theorem wI {n:Int}(h0:-9223372036854775808≤n) (h1:n≤9223372036854775807):IntKind.i64.wrap n=n:=IntWalk.i64_in n ⟨h0,h1⟩
theorem dD {c:CV}{cs:List CV}{m:Mem}:gD (.agg (c::cs)) m=(am (esc 5) (c::cs) m).map λx=>(.agg x.1,x.2):=rfl
theorem gI {k:IntKind}{n:Int}{m:Mem}:esc 5 (.int k n) m=some (.int k n,m):=rfl
theorem vV {m:Mem}:esc 5 .nil m=some (.nil,m):=rfl
section
variable {P:Program}{A:Ann}{F:aW}{fid:FuncId}{m:Mem}
theorem el {d:Tmp}{f:FuncId}{args:List CV}{r:CV}{H':List HO}(hF:F f args []=some (r,H')) (hp:A.pure f=true) (hx:args.all eV=true) (hn:noGs args=true) (hr:noG r=true) :
  cd A F fid (some d) f args m=some (adopt ((A.glob fid).contains d) d r m):=by
 rw[ng hp (cn hx) hn hF hr];simp
end
theorem pk {k:IntKind}{n:Int}{g:Bool}{d:Nat}{m:Mem}:adopt g d (.int k n) m=(.int k n,m):=rfl
theorem eY {b:Bool}{g:Bool}{d:Nat}{m:Mem}:adopt g d (.bool b) m=(.bool b,m):=rfl
theorem po {n sz vl:Nat}{cs:List CV}{d:Nat}{m:Mem}:adopt false d (.own n sz cs vl) m=(.ref (.l (16*d)) (bj m.L (16*d)) 0 n,bi m (16*d) (.arr (bj m.L (16*d)) sz cs vl)):=rfl
def retR (m:Mem) (j g off len:Nat) (o:Option HO):Option (CV×Mem):=
 match o with
 |some (.arr g' sz cs vl)=>if g'=g then some (.own len sz ((cs.drop off).take (len*sz)) (vl - off),bi m j (.arr (g'+1) sz [] 0)) else none
 |_=>none
theorem dq {m:Mem}{j g off len:Nat}:gD (.ref (.l j) g off len) m=retR m j g off len (aK m.L j):=by
 simp only[gD,retR]
 cases aK m.L j with
 |none=>rfl
 |some h=>cases h<;>rfl
theorem bV {m:Mem}{j g off len sz vl:Nat}{cs:List CV}:retR m j g off len (some (.arr g sz cs vl))=some (.own len sz ((cs.drop off).take (len*sz)) (vl - off),bi m j (.arr (g+1) sz [] 0)):=by
 simp only[retR,if_true]
end Go.Cm
