import Derived.Test.YtijcpefcfcbcnaaGrB
set_option linter.unusedSimpArgs false
set_option linter.unusedVariables false
namespace Go.Cm
open Go.Proofs Go.Ir
theorem low0 {fid:FuncId}{d:Tmp}{m:Mem}:aB An FF fid (some d) 114 [.int .u64 0,.bool true] m=some (.int .u64 0,m):=
 cr (H':=[]) (xK.2 ⟨20,by kernel_rfl⟩) (λ_ _ _=>rfl) rfl rfl rfl rfl rfl
theorem x117 (n:Int):FF 117 [.int .i64 n] []=some (.bool (dN n),[]):=by
 by_cases h:0<n∧n≤8
 ·have:n=1∨n=2∨n=3∨n=4∨n=5∨n=6∨n=7∨n=8:=by omega
  rcases this with rfl|rfl|rfl|rfl|rfl|rfl|rfl|rfl
  all_goals exact xK.2 ⟨20,by kernel_rfl⟩
 ·have hs:dN n=false:=by
   cases hx:dN n with
   |false=>rfl
   |true=>simp[dN] at hx;omega
  rw[hs]
  by_cases h0:0<n
  ·have h8:¬n≤8:=by omega
   refine aL rfl Try.func117 s117 (Nat.le_of_ble_eq_true rfl) (λQ hqr hqn=>?_);rw[bf (show An.pure 117=true from rfl) (by simp only[cans,aG,az,aC,aH])];simp only[aO,Nat.reduceAdd,c117]
   repeat' (first
   |with_reducible refine aF ?_
   |(with_reducible (first|(refine ah (λK hK=>?_);(first|refine EA ?_|refine EB ?_))|refine hqr _ ?_);(try simp only[SS,cB,bq,fe,uR,r117,aQ,ak,aD,am,h0,h8]))
   |(with_reducible refine hK _ ?_;clear hK K))
   all_goals first|rfl|trivial|simp
  ·refine aL rfl Try.func117 s117 (Nat.le_of_ble_eq_true rfl) (λQ hqr hqn=>?_)
   rw[bf (show An.pure 117=true from rfl) (by simp only[cans,aG,az,aC,aH])];simp only[aO,Nat.reduceAdd,c117]
   repeat' (first
   |with_reducible refine aF ?_
   |(with_reducible (first|(refine ah (λK hK=>?_);(first|refine EA ?_|refine EB ?_))|refine hqr _ ?_);(try simp only[SS,cB,bq,fe,uR,r117,aQ,ak,aD,am,h0]))
   |(with_reducible refine hK _ ?_;clear hK K))
   all_goals first|rfl|trivial|simp
def pairB:Option (CV×List HO)→Option Bool
 |some (.tuple [.bool _,.bool b],_)=>some b
 |_=>none
def pairN:Option (CV×List HO)→Option Bool
 |some (.tuple [.int .u64 _,.bool b],_)=>some b
 |_=>none
theorem ss {n:Nat}{f:FuncId}{a:List CV}{b:Bool}(h:pairB (dW Try.prog An EE n f a [])=some b):∃r,(∃x H',r=(CV.tuple [.bool x,.bool b],H'))∧FF f a []=some r:=by
 unfold pairB at h
 split at h
 ·rename_i x y H he
  simp only[Option.some.injEq] at h;subst h
  exact⟨_,⟨x,H,rfl⟩,xK.2 ⟨n,he⟩⟩
 ·cases h
theorem su {n:Nat}{f:FuncId}{a:List CV}{b:Bool}(h:pairN (dW Try.prog An EE n f a [])=some b):∃r,(∃x H',r=(CV.tuple [.int .u64 x,.bool b],H'))∧FF f a []=some r:=by
 unfold pairN at h
 split at h
 ·rename_i x y H he
  simp only[Option.some.injEq] at h;subst h
  exact⟨_,⟨x,H,rfl⟩,xK.2 ⟨n,he⟩⟩
 ·cases h
theorem nz {op:Int}:op=16∨op=32∨op=48∨op=64∨op=80∨op=96∨op=112∨op=160∨op=176∨op=192∨op=208 ∨
  (cL op=false∧¬op=16∧¬op=32∧¬op=48∧¬op=64∧¬op=80∧¬op=96∧¬op=112∧¬op=160∧¬op=176∧¬op=192∧¬op=208):=by
 by_cases h:cL op=true
 ·simp[cL] at h;omega
 ·refine .inr (.inr (.inr (.inr (.inr (.inr (.inr (.inr (.inr (.inr (.inr ⟨by simpa using h,?_⟩))))))))))
  simp[cL] at h;omega
theorem pp {op:Int}:op=0∨op=16∨op=32∨op=48∨op=64∨op=80∨op=96∨op=112∨op=128∨op=144∨op=160∨op=176∨op=192 ∨
  (ku op=false∧¬op=0∧¬op=16∧¬op=32∧¬op=48∧¬op=64∧¬op=80∧¬op=96∧¬op=112∧¬op=128∧¬op=144∧¬op=160∧¬op=176∧¬op=192):=by
 by_cases h:ku op=true
 ·simp[ku] at h;omega
 ·refine .inr (.inr (.inr (.inr (.inr (.inr (.inr (.inr (.inr (.inr (.inr (.inr (.inr ⟨by simpa using h,?_⟩))))))))))))
  simp[ku] at h;omega
theorem x115 {op:Int}(h1:¬op=96) (h2:¬op=112) (h3:¬op=192) (h4:¬op=208):FF 115 [.int .i64 op,.int .u64 0,.int .u64 0,.bool true] []=some (.int .i64 0,[]):=by
 have hk:∀m,aB An FF 115 (some 36) 138 [.int .u64 0,.int .u64 0] m=some (.int .i64 0,m):=λm=>cr (H':=[]) (xK.2 ⟨20,by kernel_rfl⟩) (λ_ _ _=>rfl) rfl rfl rfl rfl rfl;refine aL rfl Try.func115 s115 (Nat.le_of_ble_eq_true rfl) (λQ hqr hqn=>?_);rw[bf (show An.pure 115=true from rfl) (by simp only[cans,aG,az,aC,aH])];simp only[aO,Nat.reduceAdd,c115]
 repeat' (first
 |with_reducible (first|refine ai ?_|refine ar ?_|refine ax rfl ?_|refine aF ?_|refine Js ?_|refine aj (id:=0) (λQ0 hn0 hx0 hr0 ho0=>?_)|refine hx0 _ ?_|refine aj (id:=4) (λQ4 hn4 hx4 hr4 ho4=>?_)|refine ho4 _ _ (by decide) ?_|refine bl (id:=3) (λQ3 hn3 hx3 hr3 ho3=>?_)|refine ho3 _ _ (by decide) ?_|refine bl (id:=2) (λQ2 hn2 hx2 hr2 ho2=>?_)|refine ho2 _ _ (by decide) ?_|refine bl (id:=1) (λQ1 hn1 hx1 hr1 ho1=>?_)|refine ho1 _ _ (by decide) ?_)
 |(with_reducible (first|(refine ah (λK hK=>?_);(first|refine t115r0 ?_|refine t115r1 ?_|refine t115r2 ?_|refine t115r3 ?_|refine t115r4 ?_|refine t115r5 ?_|refine t115r9 ?_))|refine hqr _ ?_);(try simp only[SS,Nat.reduceEqDiff,r115,aQ,ak,aD,am,bz,h1,h2,h3,h4,hk]))
 |(with_reducible refine hK _ ?_;clear hK K))
 all_goals first|rfl|trivial|simp
theorem x86 (op:Int):∃r,(∃b H',r=(CV.tuple [.bool b,.bool (cL op)],H'))∧FF 86 [.int .i64 op,.int .u64 0,.int .u64 0,.bool true] []=some r:=by
 rcases nz (op:=op) with rfl|rfl|rfl|rfl|rfl|rfl|rfl|rfl|rfl|rfl|rfl|⟨hf,h⟩
 iterate 11 exact ss (n:=20) (by kernel_rfl)
 have hk:∀m,aB An FF 86 (some 21) 115 [.int .i64 op,.int .u64 0,.int .u64 0,.bool true] m=some (.int .i64 0,m):=λm=>cr (x115 h.2.2.2.2.2.1 h.2.2.2.2.2.2.1 h.2.2.2.2.2.2.2.2.2.1 h.2.2.2.2.2.2.2.2.2.2) (λ_ _ _=>rfl) rfl rfl rfl rfl rfl;rw[hf];refine bA rfl Try.func86 s86 (Nat.le_of_ble_eq_true rfl) (λQ hqr hqn=>?_);rw[bf (show An.pure 86=true from rfl) (by simp only[cans,aG,az,aC,aH])];simp only[aO,Nat.reduceAdd,c86]
 repeat' (first
 |with_reducible (first|refine ai ?_|refine ax rfl ?_|refine bn rfl ?_|refine aF ?_|refine bx ?_|refine aj (id:=0) (λQ0 hn0 hx0 hr0 ho0=>?_)|refine hn0 _ ?_)
 |(with_reducible (first|(refine ah (λK hK=>?_);(first|refine t86r0 ?_|refine t86r1 ?_|refine t86r2 ?_|refine t86r3 ?_|refine t86r4 ?_|refine t86r6 ?_|refine t86r8 ?_|refine t86r10 ?_|refine t86r11 ?_|refine t86r13 ?_|refine t86r14 ?_|refine t86r16 ?_|refine t86r17 ?_|refine t86r19 ?_|refine t86r20 ?_|refine t86r22 ?_))|refine hqr _ ?_);(try simp only[SS,Nat.reduceEqDiff,r86,aQ,ak,aD,am,bW,low0,hk,h]))
 |(with_reducible refine hK _ ?_;clear hK K))
 all_goals first|exact⟨_,_,rfl,rfl⟩|exact⟨_,_,rfl⟩|simp
theorem x140 {op:Int}(h:¬op=0∧¬op=16∧¬op=32∧¬op=64∧¬op=80∧¬op=128∧¬op=160∧¬op=176):FF 140 [.int .i64 op,.int .u64 0,.int .u64 0] []=some (.tuple [.int .u64 0,.bool false],[]):=by
 refine aL rfl Try.func140 s140 (Nat.le_of_ble_eq_true rfl) (λQ hqr hqn=>?_);rw[bf (show An.pure 140=true from rfl) (by simp only[cans,aG,az,aC,aH])];simp only[aO,Nat.reduceAdd,c140]
 repeat' (first
 |with_reducible (first|refine ai ?_|refine bn rfl ?_|refine aF ?_|refine bx ?_|refine aj (id:=0) (λQ0 hn0 hx0 hr0 ho0=>?_)|refine hn0 _ ?_)
 |(with_reducible (first|(refine ah (λK hK=>?_);(first|refine t140r0 ?_|refine t140r1 ?_|refine t140r2 ?_|refine t140r4 ?_|refine t140r6 ?_|refine t140r8 ?_|refine t140r10 ?_|refine t140r12 ?_|refine t140r14 ?_|refine t140r16 ?_|refine t140r18 ?_))|refine hqr _ ?_);(try simp only[SS,Nat.reduceEqDiff,r140,aQ,ak,aD,am,bz,bW,h]))
 |(with_reducible refine hK _ ?_;clear hK K))
 all_goals first|rfl|trivial|simp
theorem x116 (op:Int):∃r,(∃b H',r=(CV.tuple [.int .u64 b,.bool (ku op)],H'))∧FF 116 [.int .i64 op,.int .u64 0,.int .u64 0,.bool true] []=some r:=by
 rcases pp (op:=op) with rfl|rfl|rfl|rfl|rfl|rfl|rfl|rfl|rfl|rfl|rfl|rfl|rfl|⟨hf,h⟩
 iterate 13 exact su (n:=20) (by kernel_rfl)
 have hk:∀m,aB An FF 116 (some 49) 140 [.int .i64 op,.int .u64 0,.int .u64 0] m=some (.tuple [.int .u64 0,.bool false],m):=λm=>cr (x140 (by simp only[h,not_false_eq_true,and_self])) (λ_ _ _=>rfl) rfl rfl rfl rfl rfl;rw[hf];refine bA rfl Try.func116 s116 (Nat.le_of_ble_eq_true rfl) (λQ hqr hqn=>?_);rw[bf (show An.pure 116=true from rfl) (by simp only[cans,aG,az,aC,aH])];simp only[aO,Nat.reduceAdd,c116]
 repeat' (first
 |with_reducible (first|refine ai ?_|refine ax rfl ?_|refine bn rfl ?_|refine aF ?_|refine bx ?_|refine aj (id:=0) (λQ0 hn0 hx0 hr0 ho0=>?_)|refine hn0 _ ?_)
 |(with_reducible (first|(refine ah (λK hK=>?_);(first|refine t116r0 ?_|refine t116r1 ?_|refine t116r2 ?_|refine t116r3 ?_|refine t116r7 ?_|refine t116r11 ?_|refine t116r12 ?_|refine t116r13 ?_|refine t116r15 ?_|refine t116r16 ?_))|refine hqr _ ?_);(try simp only[SS,Nat.reduceEqDiff,dT,r116,aQ,ak,aD,am,bz,bW,low0,hk,h]))
 |(with_reducible refine hK _ ?_;clear hK K))
 all_goals first|exact⟨_,_,rfl,rfl⟩|exact⟨_,_,rfl⟩|simp
noncomputable def xl:Option (CV×List HO):=dW Try.prog An EE 20 141 [] []
noncomputable def htabL:List (Int×CV):=match xl with
 |some (_,[.map _ es])=>es.map λp=>(match p.1 with|.int _ n=>n|_=>0,p.2)
 |_=>[]
theorem htab_eq:xl=some (.map (.g 0) 1,[.map 1 (esI .i64 htabL)]):=by kernel_rfl
theorem tV:htabL.map (·.1)=[1,2,3,4,5]:=by kernel_rfl
def tabB:Option (CV×List HO)→Option (Bool×Nat)
 |some (.tuple [.agg [.str _,x,.int .i64 _],.bool b],_)=>if noG x&&cz x then (cK x).map λn=>(b,n) else none
 |_=>none
theorem wJ {n c:Nat}{f:FuncId}{a:List CV}{b:Bool}(h:tabB (dW Try.prog An EE n f a [])=some (b,c)) :
  ∃r,(∃s x k H',r=(CV.tuple [.agg [.str s,x,.int .i64 k],.bool b],H')∧cK x=some c∧noG x=true∧cz x=true)∧FF f a []=some r:=by
 unfold tabB at h
 split at h
 ·rename_i s x k y H he
  split at h
  ·rename_i hx
   simp only[Bool.and_eq_true] at hx;simp only[Option.map_eq_some_iff,Prod.mk.injEq] at h;obtain⟨c',h1,rfl,rfl⟩:=h
   exact⟨_,⟨s,x,k,H,rfl,h1,hx.1,hx.2⟩,xK.2 ⟨n,he⟩⟩
  ·cases h
 ·cases h
theorem x118 (n:Int):∃r,(∃s x k H',r=(CV.tuple [.agg [.str s,x,.int .i64 k],.bool (bZ n).isSome],H')∧cK x=some ((bZ n).getD 0)∧noG x=true∧cz x=true)∧FF 118 [.int .i64 n] []=some r:=by
 by_cases h:1≤n∧n≤5
 ·have:n=1∨n=2∨n=3∨n=4∨n=5:=by omega
  rcases this with rfl|rfl|rfl|rfl|rfl
  all_goals exact wJ (n:=20) (by kernel_rfl)
 ·have hn:bZ n=none:=by
   unfold bZ;rw[if_neg (by omega),if_neg (by omega),if_neg (by omega),if_neg (by omega),if_neg (by omega)]
  have hal:al htabL n=none:=by
   have key:∀l:List (Int×CV),(∀x∈l.map (·.1),x≠n)→al l n=none:=by
    intro l
    induction l with
    |nil=>intro _;rfl
    |cons p l ih=>
     intro hp;obtain⟨a,v⟩:=p;simp only[List.map_cons,List.mem_cons,forall_eq_or_imp] at hp;simp only[al,if_neg hp.1,ih hp.2]
   refine key _ λx hx=>?_;rw[tV] at hx;simp at hx;omega
  have hk:∀L,aB An FF 118 (some 7) 141 [] ⟨L,[]⟩=some (.map (.g 0) 1,⟨L,[.map 1 (esI .i64 htabL)]⟩):=λL=>by
   rw[cf rfl rfl (show FF 141 [] []=_ from xK.2 ⟨20,htab_eq⟩)];rfl
  have hlk:=λ{L:List (Nat×HO)}=>fK (t:=3) (a:=n) (z:=.agg [.str .empty,.nil,.int .i64 0]) (ok:=true) Try.underlying3 (jq (m:=⟨L,[.map 1 (esI .i64 htabL)]⟩) (a:=0) (g:=1) (l:=esI .i64 htabL) rfl);simp only[hal,if_true] at hlk;rw[hn];refine bA rfl Try.func118 s118 (Nat.le_of_ble_eq_true rfl) (λQ hqr hqn=>?_);rw[bf (show An.pure 118=true from rfl) (by simp only[cans,aG,az,aC,aH])];simp only[aO,Nat.reduceAdd,c118];have hsetL:∀L j o,bi ⟨L,[]⟩ j o=⟨cF L j o,[]⟩:=λ_ _ _=>rfl
  repeat' (first
  |with_reducible refine aF ?_
  |(with_reducible (first|(refine ah (λK hK=>?_);(first|refine t118r0 ?_|refine t118r1 ?_|refine t118r2 ?_))|refine hqr _ ?_);(try simp only[SS,Nat.reduceEqDiff,ap,bv,eE,aS,Nat.reduceAdd,dT,ay,cz,r118,cl174,aQ,ak,aD,am,dD,gI,vV,Gy,bW,ce,kL,gA,nM,ot,p4,iK,iM,iI,iN,iL,iJ,pR,pS,jE,gQ,fD,List.append_assoc,List.length_append,List.set_cons_succ,List.set_cons_zero,cn,eV,mmX,dK,hsetL,hk,hlk,Option.getD_none]))
  |(with_reducible refine hK _ ?_;clear hK K))
  all_goals exact⟨_,.nil,_,_,⟨rfl,rfl⟩,rfl,rfl,rfl⟩
set_option maxHeartbeats 4000000 in
theorem x90 (n:Nd) (h0:0≤n.imm) (ha:n.args.length≤17592186044416):FF 90 [.agg (ndC n)] []=some (.bool (bX n),[]):=by
 obtain⟨_,⟨x,H',rfl⟩,hA⟩:=x116 n.alu;have hA:∀m,aB An FF 90 (some 18) 116 [.int .i64 n.alu,.int .u64 0,.int .u64 0,.bool true] m=some (.tuple [.int .u64 x,.bool (ku n.alu)],m):=λm=>
  cr hA (λ_ _ _=>rfl) rfl rfl rfl rfl rfl
 have hS:∀m,aB An FF 90 (some 27) 117 [.int .i64 n.size] m=some (.bool (dN n.size),m):=λm=>cr (x117 n.size) (λ_ _ _=>rfl) rfl rfl rfl rfl rfl
 by_cases h1:n.op=1
 ·refine aL rfl Try.func90 s90 (Nat.le_of_ble_eq_true rfl) (λQ hqr hqn=>?_)
  rw[bf (show An.pure 90=true from rfl) (by simp only[cans,aG,az,aC,aH,ndE.can])];simp only[aO,Nat.reduceAdd,c90]
  repeat' (first
  |with_reducible (first|refine ai ?_|refine ar ?_|refine au rfl ?_|refine bc rfl ?_|refine aF ?_|refine aj (id:=0) (λQ0 hn0 hx0 hr0 ho0=>?_)|refine hr0 _ ?_)
  |(with_reducible (first|(refine ah (λK hK=>?_);(first|refine JL ?_|refine G3 ?_|refine f7 ?_|refine FH ?_))|refine hqr _ ?_);(try simp only[SS,Nat.reduceEqDiff,ap,r90,aQ,ak,aD,am,ndC,h1]))
  |(with_reducible refine hK _ ?_;clear hK K))
  all_goals simp[bX,h1]
 by_cases h2:n.op=2
 ·refine aL rfl Try.func90 s90 (Nat.le_of_ble_eq_true rfl) (λQ hqr hqn=>?_)
  rw[bf (show An.pure 90=true from rfl) (by simp only[cans,aG,az,aC,aH,ndE.can])];simp only[aO,Nat.reduceAdd,c90]
  repeat' (first
  |with_reducible (first|refine ai ?_|refine ar ?_|refine au rfl ?_|refine ax rfl ?_|refine bc rfl ?_|refine aF ?_|refine aj (id:=0) (λQ0 hn0 hx0 hr0 ho0=>?_)|refine hr0 _ ?_)
  |(with_reducible (first|(refine ah (λK hK=>?_);(first|refine JL ?_|refine G3 ?_|refine f7 ?_|refine gw ?_|refine FH ?_))|refine hqr _ ?_);(try simp only[SS,Nat.reduceEqDiff,ap,r90,aQ,ak,aD,am,ndC,h2]))
  |(revert hK;intro hK;(first|refine And.intro ?_ ?_|intro _|omega|(with_reducible refine hK _ ?_;clear hK K))))
  all_goals simp[bX,h2]
 by_cases h3:n.op=3
 ·refine aL rfl Try.func90 s90 (Nat.le_of_ble_eq_true rfl) (λQ hqr hqn=>?_)
  rw[bf (show An.pure 90=true from rfl) (by simp only[cans,aG,az,aC,aH,ndE.can])];simp only[aO,Nat.reduceAdd,c90]
  repeat' (first
  |with_reducible (first|refine ai ?_|refine ax rfl ?_|refine bc rfl ?_|refine aF ?_|refine aj (id:=0) (λQ0 hn0 hx0 hr0 ho0=>?_)|refine hr0 _ ?_)
  |(with_reducible (first|(refine ah (λK hK=>?_);(first|refine JL ?_|refine G3 ?_|refine f7 ?_|refine gw ?_|refine gR ?_|refine FH ?_))|refine hqr _ ?_);(try simp only[SS,Nat.reduceEqDiff,ap,r90,aQ,ak,aD,am,ndC,h3]))
  |(revert hK;intro hK;(first|refine And.intro ?_ ?_|intro _|omega|(with_reducible refine hK _ ?_;clear hK K))))
  all_goals simp[bX,h3]
 by_cases h4:n.op=4
 ·refine aL rfl Try.func90 s90 (Nat.le_of_ble_eq_true rfl) (λQ hqr hqn=>?_)
  rw[bf (show An.pure 90=true from rfl) (by simp only[cans,aG,az,aC,aH,ndE.can])];simp only[aO,Nat.reduceAdd,c90]
  repeat' (first
  |with_reducible (first|refine ai ?_|refine ax rfl ?_|refine bc rfl ?_|refine bn rfl ?_|refine aF ?_|refine aj (id:=0) (λQ0 hn0 hx0 hr0 ho0=>?_)|refine hr0 _ ?_)
  |(with_reducible (first|(refine ah (λK hK=>?_);(first|refine JL ?_|refine G3 ?_|refine f7 ?_|refine gw ?_|refine gR ?_|refine iw ?_|refine t90r7 ?_|refine t90r8 ?_))|refine hqr _ ?_);(try simp only[SS,Nat.reduceEqDiff,ap,dT,r90,aQ,ak,aD,am,ndC,h4,hA]))
  |(revert hK;intro hK;(first|refine And.intro ?_ ?_|intro _|omega|(with_reducible refine hK _ ?_;clear hK K))))
  all_goals simp[bX,h4]
 by_cases h5:n.op=5
 ·have hn:bX n=(dN n.size&&decide (-32768≤n.off∧n.off≤32767)):=by simp[bX,h5]
  rw[hn];generalize dN n.size=sb at hS
  by_cases o1:-32768≤n.off
  ·by_cases o2:n.off<32768
   ·have o3:n.off≤32767:=by omega
    cases sb
    all_goals
     refine aL rfl Try.func90 s90 (Nat.le_of_ble_eq_true rfl) (λQ hqr hqn=>?_);rw[bf (show An.pure 90=true from rfl) (by simp only[cans,aG,az,aC,aH,ndE.can])];simp only[aO,Nat.reduceAdd,c90]
     repeat' (first
     |with_reducible (first|refine ai ?_|refine ar ?_|refine au rfl ?_|refine ax rfl ?_|refine bc rfl ?_|refine bn rfl ?_|refine aF ?_|refine aj (id:=0) (λQ0 hn0 hx0 hr0 ho0=>?_)|refine hr0 _ ?_)
     |(with_reducible (first|(refine ah (λK hK=>?_);(first|refine JL ?_|refine G3 ?_|refine f7 ?_|refine gw ?_|refine gR ?_|refine iw ?_|refine je ?_|refine kj ?_))|refine hqr _ ?_);(try simp only[SS,Nat.reduceEqDiff,ap,bI,Bool.true_and,r90,aQ,ak,aD,am,ndC,h5,hS,o1,o2]))
     |(revert hK;intro hK;(first|refine And.intro ?_ ?_|intro _|omega|(with_reducible refine hK _ ?_;clear hK K))))
     all_goals simp[o1,o3]
   ·have o3:¬n.off≤32767:=by omega
    cases sb
    all_goals
     refine aL rfl Try.func90 s90 (Nat.le_of_ble_eq_true rfl) (λQ hqr hqn=>?_);rw[bf (show An.pure 90=true from rfl) (by simp only[cans,aG,az,aC,aH,ndE.can])];simp only[aO,Nat.reduceAdd,c90]
     repeat' (first
     |with_reducible (first|refine ai ?_|refine ar ?_|refine au rfl ?_|refine ax rfl ?_|refine bc rfl ?_|refine bn rfl ?_|refine aF ?_|refine aj (id:=0) (λQ0 hn0 hx0 hr0 ho0=>?_)|refine hr0 _ ?_)
     |(with_reducible (first|(refine ah (λK hK=>?_);(first|refine JL ?_|refine G3 ?_|refine f7 ?_|refine gw ?_|refine gR ?_|refine iw ?_|refine je ?_|refine kj ?_))|refine hqr _ ?_);(try simp only[SS,Nat.reduceEqDiff,ap,bI,Bool.true_and,r90,aQ,ak,aD,am,ndC,h5,hS,o1,o2]))
     |(revert hK;intro hK;(first|refine And.intro ?_ ?_|intro _|omega|(with_reducible refine hK _ ?_;clear hK K))))
     all_goals simp[o3]
  ·cases sb
   all_goals
    refine aL rfl Try.func90 s90 (Nat.le_of_ble_eq_true rfl) (λQ hqr hqn=>?_);rw[bf (show An.pure 90=true from rfl) (by simp only[cans,aG,az,aC,aH,ndE.can])];simp only[aO,Nat.reduceAdd,c90]
    repeat' (first
    |with_reducible (first|refine ai ?_|refine ar ?_|refine au rfl ?_|refine ax rfl ?_|refine bc rfl ?_|refine bn rfl ?_|refine aF ?_|refine aj (id:=0) (λQ0 hn0 hx0 hr0 ho0=>?_)|refine hr0 _ ?_)
    |(with_reducible (first|(refine ah (λK hK=>?_);(first|refine JL ?_|refine G3 ?_|refine f7 ?_|refine gw ?_|refine gR ?_|refine iw ?_|refine je ?_|refine kj ?_))|refine hqr _ ?_);(try simp only[SS,Nat.reduceEqDiff,ap,bI,Bool.true_and,r90,aQ,ak,aD,am,ndC,h5,hS,o1]))
    |(revert hK;intro hK;(first|refine And.intro ?_ ?_|intro _|omega|(with_reducible refine hK _ ?_;clear hK K))))
    all_goals simp[o1]
 by_cases h6:n.op=6
 ·have hn:bX n=(dN n.size&&decide (-32768≤n.off∧n.off≤32767)&&decide (n.id = -1)):=by simp[bX,h6]
  rw[hn];generalize dN n.size=sb at hS
  by_cases o1:-32768≤n.off
  ·by_cases o2:n.off<32768
   ·have o3:n.off≤32767:=by omega
    by_cases o4:n.id = -1
    ·cases sb
     all_goals
      refine aL rfl Try.func90 s90 (Nat.le_of_ble_eq_true rfl) (λQ hqr hqn=>?_);rw[bf (show An.pure 90=true from rfl) (by simp only[cans,aG,az,aC,aH,ndE.can])];simp only[aO,Nat.reduceAdd,c90]
      repeat' (first
      |with_reducible (first|refine ai ?_|refine ax rfl ?_|refine bc rfl ?_|refine bn rfl ?_|refine aF ?_|refine aj (id:=0) (λQ0 hn0 hx0 hr0 ho0=>?_)|refine hr0 _ ?_)
      |(with_reducible (first|(refine ah (λK hK=>?_);(first|refine JL ?_|refine G3 ?_|refine f7 ?_|refine gw ?_|refine gR ?_|refine iw ?_|refine je ?_|refine jd ?_|refine kj ?_))|refine hqr _ ?_);(try simp only[SS,Nat.reduceEqDiff,ap,bI,Bool.true_and,Bool.and_true,decide_true,r90,aQ,ak,aD,am,ndC,h6,hS,o1,o2,o4]))
      |(revert hK;intro hK;(first|refine And.intro ?_ ?_|intro _|omega|(with_reducible refine hK _ ?_;clear hK K))))
      all_goals simp[o1,o3,o4]
    ·cases sb
     all_goals
      refine aL rfl Try.func90 s90 (Nat.le_of_ble_eq_true rfl) (λQ hqr hqn=>?_);rw[bf (show An.pure 90=true from rfl) (by simp only[cans,aG,az,aC,aH,ndE.can])];simp only[aO,Nat.reduceAdd,c90]
      repeat' (first
      |with_reducible (first|refine ai ?_|refine ax rfl ?_|refine bc rfl ?_|refine bn rfl ?_|refine aF ?_|refine aj (id:=0) (λQ0 hn0 hx0 hr0 ho0=>?_)|refine hr0 _ ?_)
      |(with_reducible (first|(refine ah (λK hK=>?_);(first|refine JL ?_|refine G3 ?_|refine f7 ?_|refine gw ?_|refine gR ?_|refine iw ?_|refine je ?_|refine jd ?_|refine kj ?_))|refine hqr _ ?_);(try simp only[SS,Nat.reduceEqDiff,ap,bI,Bool.true_and,decide_false,r90,aQ,ak,aD,am,ndC,h6,hS,o1,o2,o4]))
      |(revert hK;intro hK;(first|refine And.intro ?_ ?_|intro _|omega|(with_reducible refine hK _ ?_;clear hK K))))
      all_goals simp[o1,o3,o4]
   ·have o3:¬n.off≤32767:=by omega
    cases sb
    all_goals
     refine aL rfl Try.func90 s90 (Nat.le_of_ble_eq_true rfl) (λQ hqr hqn=>?_);rw[bf (show An.pure 90=true from rfl) (by simp only[cans,aG,az,aC,aH,ndE.can])];simp only[aO,Nat.reduceAdd,c90]
     repeat' (first
     |with_reducible (first|refine ai ?_|refine ax rfl ?_|refine bc rfl ?_|refine bn rfl ?_|refine aF ?_|refine aj (id:=0) (λQ0 hn0 hx0 hr0 ho0=>?_)|refine hr0 _ ?_)
     |(with_reducible (first|(refine ah (λK hK=>?_);(first|refine JL ?_|refine G3 ?_|refine f7 ?_|refine gw ?_|refine gR ?_|refine iw ?_|refine je ?_|refine jd ?_|refine kj ?_))|refine hqr _ ?_);(try simp only[SS,Nat.reduceEqDiff,ap,bI,Bool.true_and,r90,aQ,ak,aD,am,ndC,h6,hS,o1,o2]))
     |(revert hK;intro hK;(first|refine And.intro ?_ ?_|intro _|omega|(with_reducible refine hK _ ?_;clear hK K))))
     all_goals simp[o3]
  ·cases sb
   all_goals
    refine aL rfl Try.func90 s90 (Nat.le_of_ble_eq_true rfl) (λQ hqr hqn=>?_);rw[bf (show An.pure 90=true from rfl) (by simp only[cans,aG,az,aC,aH,ndE.can])];simp only[aO,Nat.reduceAdd,c90]
    repeat' (first
    |with_reducible (first|refine ai ?_|refine ax rfl ?_|refine bc rfl ?_|refine bn rfl ?_|refine aF ?_|refine aj (id:=0) (λQ0 hn0 hx0 hr0 ho0=>?_)|refine hr0 _ ?_)
    |(with_reducible (first|(refine ah (λK hK=>?_);(first|refine JL ?_|refine G3 ?_|refine f7 ?_|refine gw ?_|refine gR ?_|refine iw ?_|refine je ?_|refine jd ?_|refine kj ?_))|refine hqr _ ?_);(try simp only[SS,Nat.reduceEqDiff,ap,bI,Bool.true_and,r90,aQ,ak,aD,am,ndC,h6,hS,o1]))
    |(revert hK;intro hK;(first|refine And.intro ?_ ?_|intro _|omega|(with_reducible refine hK _ ?_;clear hK K))))
    all_goals simp[o1]
 by_cases h7:n.op=7
 ·obtain⟨q,hq⟩:∃q,q=min n.imm 1048576:=⟨_,rfl⟩
  have hmm:hZ false [.int .u64 n.imm,.int .u64 1048576]=some (.int .u64 q):=by
   simp only[hZ,if_true,Bool.false_eq_true,if_false]
   by_cases h:(1048576:Int)<n.imm
   ·rw[if_pos h,hq];congr 2;omega
   ·rw[if_neg h,hq];congr 2;omega
  have hw:IntKind.i64.wrap q=q:=wI (by omega) (by omega);have hh:bZ q=bZ n.imm:=by
   by_cases h:(1048576:Int)<n.imm
   ·have:q=1048576:=by omega
    rw[this];unfold bZ;rw[if_neg (by omega),if_neg (by omega),if_neg (by omega),if_neg (by omega),if_neg (by omega),if_neg (by omega),if_neg (by omega),if_neg (by omega),if_neg (by omega),if_neg (by omega)]
   ·have:q=n.imm:=by omega
    rw[this]
  obtain⟨_,⟨s,x2,k2,H2,rfl,hl,hg,hp⟩,hT⟩:=x118 q;have hc2:ap x2=some [x2]:=by cases x2<;>first|rfl|simp[cK] at hl
  have hT:∀m,aB An FF 90 (some 55) 118 [.int .i64 q] m=some (.tuple [.agg [.str s,x2,.int .i64 k2],.bool (bZ q).isSome],m):=λm=>
   cr hT (λ_ _ _=>rfl) rfl rfl rfl rfl (by simp only[noG,noGs,hg,Bool.and_self])
  have hn:bX n=decide (bZ n.imm=some n.args.length):=by simp[bX,h7]
  rw[hn];rw[hh] at hT hl;generalize bZ n.imm=o at hT hl
  cases o with
  |none=>
   refine aL rfl Try.func90 s90 (Nat.le_of_ble_eq_true rfl) (λQ hqr hqn=>?_);rw[bf (show An.pure 90=true from rfl) (by simp only[cans,aG,az,aC,aH,ndE.can])];simp only[aO,Nat.reduceAdd,c90]
   repeat' (first
   |with_reducible (first|refine ai ?_|refine ax rfl ?_|refine bc rfl ?_|refine bn rfl ?_|refine aF ?_|refine aj (id:=0) (λQ0 hn0 hx0 hr0 ho0=>?_)|refine hr0 _ ?_)
   |(with_reducible (first|(refine ah (λK hK=>?_);(first|refine JL ?_|refine G3 ?_|refine f7 ?_|refine gw ?_|refine gR ?_|refine iw ?_|refine je ?_|refine jd ?_|refine rk ?_|refine uF ?_|refine uG ?_))|refine hqr _ ?_);(try simp only[SS,Nat.reduceEqDiff,ap,bv,aR,aS,Nat.reduceAdd,lenS,gE,dT,ay,r90,aQ,ak,aD,am,ndC,h7,hmm,hw,hT,hp,Option.isSome_none]))
   |(revert hK;intro hK;(first|refine And.intro ?_ ?_|intro _|omega|(with_reducible refine hK _ ?_;clear hK K))))
   all_goals simp
  |some c=>
   simp only[Option.getD_some] at hl
   by_cases hcl:n.args.length=c
   ·refine aL rfl Try.func90 s90 (Nat.le_of_ble_eq_true rfl) (λQ hqr hqn=>?_)
    rw[bf (show An.pure 90=true from rfl) (by simp only[cans,aG,az,aC,aH,ndE.can])];simp only[aO,Nat.reduceAdd,c90]
    repeat' (first
    |with_reducible (first|refine ai ?_|refine ax rfl ?_|refine bc rfl ?_|refine bn rfl ?_|refine aF ?_|refine aj (id:=0) (λQ0 hn0 hx0 hr0 ho0=>?_)|refine hr0 _ ?_)
    |(with_reducible (first|(refine ah (λK hK=>?_);(first|refine JL ?_|refine G3 ?_|refine f7 ?_|refine gw ?_|refine gR ?_|refine iw ?_|refine je ?_|refine jd ?_|refine rk ?_|refine uF ?_|refine uG ?_))|refine hqr _ ?_);(try simp only[SS,Nat.reduceEqDiff,ap,bv,aR,aS,Nat.reduceAdd,lenS,gE,dT,ay,decide_true,r90,aQ,ak,aD,am,ndC,h7,hmm,hw,hT,hp,hl,hcl,aP,Option.isSome_some]))
    |(revert hK;intro hK;(first|refine And.intro ?_ ?_|intro _|omega|(with_reducible refine hK _ ?_;clear hK K))))
    all_goals simp[hcl]
   ·have hcl2:¬(n.args.length:Int)=c:=by omega
    refine aL rfl Try.func90 s90 (Nat.le_of_ble_eq_true rfl) (λQ hqr hqn=>?_);rw[bf (show An.pure 90=true from rfl) (by simp only[cans,aG,az,aC,aH,ndE.can])];simp only[aO,Nat.reduceAdd,c90]
    repeat' (first
    |with_reducible (first|refine ai ?_|refine ax rfl ?_|refine bc rfl ?_|refine bn rfl ?_|refine aF ?_|refine aj (id:=0) (λQ0 hn0 hx0 hr0 ho0=>?_)|refine hr0 _ ?_)
    |(with_reducible (first|(refine ah (λK hK=>?_);(first|refine JL ?_|refine G3 ?_|refine f7 ?_|refine gw ?_|refine gR ?_|refine iw ?_|refine je ?_|refine jd ?_|refine rk ?_|refine uF ?_|refine uG ?_))|refine hqr _ ?_);(try simp only[SS,Nat.reduceEqDiff,ap,bv,aR,aS,Nat.reduceAdd,lenS,gE,dT,ay,r90,aQ,ak,aD,am,ndC,h7,hmm,hw,hT,hp,hl,hcl2,aP,Option.isSome_some]))
    |(revert hK;intro hK;(first|refine And.intro ?_ ?_|intro _|omega|(with_reducible refine hK _ ?_;clear hK K))))
    all_goals simp;omega
 ·refine aL rfl Try.func90 s90 (Nat.le_of_ble_eq_true rfl) (λQ hqr hqn=>?_)
  rw[bf (show An.pure 90=true from rfl) (by simp only[cans,aG,az,aC,aH,ndE.can])];simp only[aO,Nat.reduceAdd,c90]
  repeat' (first
  |with_reducible (first|refine ai ?_|refine ax rfl ?_|refine bn rfl ?_|refine aF ?_|refine bx ?_|refine aj (id:=0) (λQ0 hn0 hx0 hr0 ho0=>?_)|refine hn0 _ ?_)
  |(with_reducible (first|(refine ah (λK hK=>?_);(first|refine JL ?_|refine G3 ?_|refine f7 ?_|refine gw ?_|refine gR ?_|refine iw ?_|refine je ?_|refine jd ?_|refine rk ?_|refine t90r15 ?_))|refine hqr _ ?_);(try simp only[SS,Nat.reduceEqDiff,ap,r90,aQ,ak,aD,am,ndC,h1,h2,h3,h4,h5,h6,h7]))
  |(with_reducible refine hK _ ?_;clear hK K))
  all_goals simp[bX,h1,h2,h3,h4,h5,h6,h7]
end Go.Cm
