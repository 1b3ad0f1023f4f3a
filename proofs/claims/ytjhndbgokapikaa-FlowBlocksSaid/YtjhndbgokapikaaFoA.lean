import Derived.Test.YtjhndbgokapikaaFpD
import Derived.Test.YtjhndbgokapikaaCxH
set_option linter.unusedSimpArgs false
set_option linter.unusedVariables false
namespace Go.Cm
open Go.Proofs Go.Fl
def inC (x:In):List CV:=[.int .i64 x.op,.int .i64 x.dst,.int .i64 x.src,.int .i64 x.off,.int .i64 x.imm,.int .u64 x.wide]
theorem inE:Enc inC 6:=⟨λ_=>rfl,λ_=>rfl,λ_=>rfl,λ_=>rfl⟩
theorem low0 {fid:FuncId}{d:Tmp}{m:Mem}:cd An FF fid (some d) 63 [.int .u64 0,.bool true] m=some (.int .u64 0,m):=
 cr (H':=[]) (xK.2 ⟨20,by kernel_rfl⟩) (λ_ _ _=>rfl) rfl rfl rfl rfl rfl
def pairB:Option (CV×List HO)→Option Bool
 |some (.tuple [.bool _,.bool b],_)=>some b
 |_=>none
def pairN:Option (CV×List HO)→Option Bool
 |some (.tuple [.int .u64 _,.bool b],_)=>some b
 |_=>none
theorem Qb {n:Nat}{f:FuncId}{a:List CV}{b:Bool}(h:pairB (dW Try.prog An EE n f a [])=some b):∃r,(∃x H',r=(CV.tuple [.bool x,.bool b],H'))∧FF f a []=some r:=by
 unfold pairB at h
 split at h
 ·rename_i x y H he
  simp only[Option.some.injEq] at h;subst h
  exact⟨_,⟨x,H,rfl⟩,xK.2 ⟨n,he⟩⟩
 ·cases h
theorem su {n:Nat}{f:FuncId}{a:List CV}{b:Bool}(h:pairN (dW Try.prog An EE n f a [])=some b):∃r,(∃x H',r=(CV.tuple [.int .u64 x,.bool b],H'))∧FF f a []=some r:=by
 unfold pairN at h
 split at h
 ·rename_i x y H he
  simp only[Option.some.injEq] at h;subst h
  exact⟨_,⟨x,H,rfl⟩,xK.2 ⟨n,he⟩⟩
 ·cases h
theorem nz {op:Int}:op=16∨op=32∨op=48∨op=64∨op=80∨op=96∨op=112∨op=160∨op=176∨op=192∨op=208 ∨
  (cL op=false∧¬op=16∧¬op=32∧¬op=48∧¬op=64∧¬op=80∧¬op=96∧¬op=112∧¬op=160∧¬op=176∧¬op=192∧¬op=208):=by
 by_cases h:cL op=true
 ·simp[cL] at h;omega
 ·refine .inr (.inr (.inr (.inr (.inr (.inr (.inr (.inr (.inr (.inr (.inr ⟨by simpa using h,?_⟩))))))))))
  simp[cL] at h;omega
theorem pp {op:Int}:op=0∨op=16∨op=32∨op=48∨op=64∨op=80∨op=96∨op=112∨op=128∨op=144∨op=160∨op=176∨op=192 ∨
  (ku op=false∧¬op=0∧¬op=16∧¬op=32∧¬op=48∧¬op=64∧¬op=80∧¬op=96∧¬op=112∧¬op=128∧¬op=144∧¬op=160∧¬op=176∧¬op=192):=by
 by_cases h:ku op=true
 ·simp[ku] at h;omega
 ·refine .inr (.inr (.inr (.inr (.inr (.inr (.inr (.inr (.inr (.inr (.inr (.inr (.inr ⟨by simpa using h,?_⟩))))))))))))
  simp[ku] at h;omega
theorem x64 {op:Int}(h1:¬op=96) (h2:¬op=112) (h3:¬op=192) (h4:¬op=208):FF 64 [.int .i64 op,.int .u64 0,.int .u64 0,.bool true] []=some (.int .i64 0,[]):=by
 have hk:∀m,cd An FF 64 (some 36) 80 [.int .u64 0,.int .u64 0] m=some (.int .i64 0,m):=λm=>cr (H':=[]) (xK.2 ⟨20,by kernel_rfl⟩) (λ_ _ _=>rfl) rfl rfl rfl rfl rfl;refine aL rfl Try.func64 s64 (Nat.le_of_ble_eq_true rfl) (λQ hqr hqn=>?_);rw[bf (show An.pure 64=true from rfl) (by simp only[cans,aG,az,aC,aH])];simp only[aO,Nat.reduceAdd,c64]
 repeat' (first
 |with_reducible (first|refine ai ?_|refine ar ?_|refine ax rfl ?_|refine aF ?_|refine Js ?_|refine aj (id:=0) (λQ0 hn0 hx0 hr0 ho0=>?_)|refine hx0 _ ?_|refine aj (id:=4) (λQ4 hn4 hx4 hr4 ho4=>?_)|refine ho4 _ _ (by decide) ?_|refine bl (id:=3) (λQ3 hn3 hx3 hr3 ho3=>?_)|refine ho3 _ _ (by decide) ?_|refine bl (id:=2) (λQ2 hn2 hx2 hr2 ho2=>?_)|refine ho2 _ _ (by decide) ?_|refine bl (id:=1) (λQ1 hn1 hx1 hr1 ho1=>?_)|refine ho1 _ _ (by decide) ?_)
 |(with_reducible (first|(refine ah (λK hK=>?_);(first|refine t64r0 ?_|refine t64r1 ?_|refine t64r2 ?_|refine t64r3 ?_|refine t64r4 ?_|refine t64r5 ?_|refine t64r9 ?_))|refine hqr _ ?_);(try simp only[true_implies,false_implies,not_false_eq_true,b9,if_true,if_false,Nat.reduceEqDiff,aJ,dg,gT,Option.map_some,true_and,if_false,if_true,r64,aQ,ak,aD,Option.bind_some,am,bz,aV,h1,h2,h3,h4,hk]))
 |(revert hK;intro hK;(with_reducible refine hK _ ?_;clear hK K)))
 all_goals first|rfl|trivial|simp
theorem x52 (op:Int):∃r,(∃b H',r=(CV.tuple [.bool b,.bool (cL op)],H'))∧FF 52 [.int .i64 op,.int .u64 0,.int .u64 0,.bool true] []=some r:=by
 rcases nz (op:=op) with rfl|rfl|rfl|rfl|rfl|rfl|rfl|rfl|rfl|rfl|rfl|⟨hf,h⟩
 iterate 11 exact Qb (n:=20) (by kernel_rfl)
 have hk:∀m,cd An FF 52 (some 21) 64 [.int .i64 op,.int .u64 0,.int .u64 0,.bool true] m=some (.int .i64 0,m):=λm=>cr (x64 h.2.2.2.2.2.1 h.2.2.2.2.2.2.1 h.2.2.2.2.2.2.2.2.2.1 h.2.2.2.2.2.2.2.2.2.2) (λ_ _ _=>rfl) rfl rfl rfl rfl rfl;rw[hf];refine bA rfl Try.func52 s52 (Nat.le_of_ble_eq_true rfl) (λQ hqr hqn=>?_);rw[bf (show An.pure 52=true from rfl) (by simp only[cans,aG,az,aC,aH])];simp only[aO,Nat.reduceAdd,c52]
 repeat' (first
 |with_reducible (first|refine ai ?_|refine ax rfl ?_|refine d7 rfl ?_|refine aF ?_|refine bx ?_|refine aj (id:=0) (λQ0 hn0 hx0 hr0 ho0=>?_)|refine hn0 _ ?_)
 |(with_reducible (first|(refine ah (λK hK=>?_);(first|refine p9 ?_|refine qa ?_|refine t52r2 ?_|refine sY ?_|refine t52r4 ?_|refine t52r6 ?_|refine t52r8 ?_|refine t52r10 ?_|refine t52r11 ?_|refine t52r13 ?_|refine t52r14 ?_|refine t52r16 ?_|refine t52r17 ?_|refine t52r19 ?_|refine t52r20 ?_|refine t52r22 ?_))|refine hqr _ ?_);(try simp only[true_implies,false_implies,not_false_eq_true,b9,if_true,if_false,Nat.reduceEqDiff,aJ,dg,gT,Option.map_some,true_and,if_false,if_true,r52,aQ,ak,aD,Option.bind_some,am,jx,bW,Prod.mk.injEq,low0,hk,h]))
 |(revert hK;intro hK;(with_reducible refine hK _ ?_;clear hK K)))
 all_goals first|exact⟨_,_,rfl,rfl⟩|exact⟨_,_,rfl⟩|simp
theorem x78 {op:Int}(h:¬op=0∧¬op=16∧¬op=32∧¬op=64∧¬op=80∧¬op=128∧¬op=160∧¬op=176):FF 78 [.int .i64 op,.int .u64 0,.int .u64 0] []=some (.tuple [.int .u64 0,.bool false],[]):=by
 refine aL rfl Try.func78 s78 (Nat.le_of_ble_eq_true rfl) (λQ hqr hqn=>?_);rw[bf (show An.pure 78=true from rfl) (by simp only[cans,aG,az,aC,aH])];simp only[aO,Nat.reduceAdd,c78]
 repeat' (first
 |with_reducible (first|refine ai ?_|refine d7 rfl ?_|refine aF ?_|refine bx ?_|refine aj (id:=0) (λQ0 hn0 hx0 hr0 ho0=>?_)|refine hn0 _ ?_)
 |(with_reducible (first|(refine ah (λK hK=>?_);(first|refine t78r0 ?_|refine t78r1 ?_|refine t78r2 ?_|refine t78r4 ?_|refine t78r6 ?_|refine t78r8 ?_|refine t78r10 ?_|refine t78r12 ?_|refine t78r14 ?_|refine t78r16 ?_|refine t78r18 ?_))|refine hqr _ ?_);(try simp only[true_implies,false_implies,not_false_eq_true,b9,if_true,if_false,Nat.reduceEqDiff,aJ,dg,gT,Option.map_some,true_and,if_false,if_true,r78,aQ,ak,aD,Option.bind_some,am,bz,jx,bW,h]))
 |(revert hK;intro hK;(with_reducible refine hK _ ?_;clear hK K)))
 all_goals first|rfl|trivial|simp
theorem x62 (op:Int):∃r,(∃b H',r=(CV.tuple [.int .u64 b,.bool (ku op)],H'))∧FF 62 [.int .i64 op,.int .u64 0,.int .u64 0,.bool true] []=some r:=by
 rcases pp (op:=op) with rfl|rfl|rfl|rfl|rfl|rfl|rfl|rfl|rfl|rfl|rfl|rfl|rfl|⟨hf,h⟩
 iterate 13 exact su (n:=20) (by kernel_rfl)
 have hk:∀m,cd An FF 62 (some 49) 78 [.int .i64 op,.int .u64 0,.int .u64 0] m=some (.tuple [.int .u64 0,.bool false],m):=λm=>cr (x78 (by simp only[h,not_false_eq_true,and_self])) (λ_ _ _=>rfl) rfl rfl rfl rfl rfl;rw[hf];refine bA rfl Try.func62 s62 (Nat.le_of_ble_eq_true rfl) (λQ hqr hqn=>?_);rw[bf (show An.pure 62=true from rfl) (by simp only[cans,aG,az,aC,aH])];simp only[aO,Nat.reduceAdd,c62]
 repeat' (first
 |with_reducible (first|refine ai ?_|refine ax rfl ?_|refine d7 rfl ?_|refine aF ?_|refine bx ?_|refine aj (id:=0) (λQ0 hn0 hx0 hr0 ho0=>?_)|refine hn0 _ ?_)
 |(with_reducible (first|(refine ah (λK hK=>?_);(first|refine t62r0 ?_|refine t62r1 ?_|refine t62r2 ?_|refine t62r3 ?_|refine Fr ?_|refine t62r11 ?_|refine Fp ?_|refine t62r13 ?_|refine t62r15 ?_|refine t62r16 ?_))|refine hqr _ ?_);(try simp only[true_implies,false_implies,not_false_eq_true,b9,if_true,if_false,Nat.reduceEqDiff,aJ,dg,List.getElem?_cons_zero,List.getElem?_cons_succ,gT,Option.map_some,dT,true_and,if_false,if_true,r62,aQ,ak,aD,Option.bind_some,am,bz,jx,bW,Prod.mk.injEq,low0,hk,h]))
 |(revert hK;intro hK;(with_reducible refine hK _ ?_;clear hK K)))
 all_goals first|exact⟨_,_,rfl,rfl⟩|exact⟨_,_,rfl⟩|simp
theorem x44 (op:Int):FF 44 [.int .i64 op] []=some (.int .i64 (cls op),[]):=by
 by_cases h1:op<0
 ·have he:cls op = -1:=by simp[cls,h1]
  refine aL rfl Try.func44 s44 (Nat.le_of_ble_eq_true rfl) (λQ hqr hqn=>?_);rw[bf (show An.pure 44=true from rfl) (by simp only[cans,aG,az,aC,aH])];simp only[aO,Nat.reduceAdd,c44]
  repeat' (first
  |with_reducible (first|refine ai ?_|refine au rfl ?_|refine b6 ?_)
  |(with_reducible (first|(refine ah (λK hK=>?_);(first|refine QO ?_|refine QP ?_|refine t44r2 ?_))|refine hqr _ ?_);(try simp only[true_implies,false_implies,not_true_eq_false,b9,if_true,aJ,dg,eN,bq,qz,qy,Option.map_some,ic,gf,dU,and_true,if_true,r44,aQ,ak,aD,Option.bind_some,am,bz,aV,h1,he]))
  |(revert hK;intro hK;(with_reducible refine hK _ ?_;clear hK K)))
 ·by_cases h2:(255:Int)<op
  ·have he:cls op = -1:=by simp[cls,h2]
   refine aL rfl Try.func44 s44 (Nat.le_of_ble_eq_true rfl) (λQ hqr hqn=>?_);rw[bf (show An.pure 44=true from rfl) (by simp only[cans,aG,az,aC,aH])];simp only[aO,Nat.reduceAdd,c44]
   repeat' (first
   |with_reducible (first|refine ai ?_|refine au rfl ?_|refine b6 ?_)
   |(with_reducible (first|(refine ah (λK hK=>?_);(first|refine QO ?_|refine QP ?_|refine t44r2 ?_))|refine hqr _ ?_);(try simp only[true_implies,false_implies,not_true_eq_false,not_false_eq_true,b9,if_true,aJ,dg,eN,bq,qz,qy,Option.map_some,ic,gf,dU,and_true,true_and,if_true,r44,aQ,ak,aD,Option.bind_some,am,bz,aV,h1,h2,he,gt_iff_lt]))
   |(revert hK;intro hK;(with_reducible refine hK _ ?_;clear hK K)))
  ·have he:cls op=lY .and .i64 op 7:=by simp[cls,h1,h2]
   refine aL rfl Try.func44 s44 (Nat.le_of_ble_eq_true rfl) (λQ hqr hqn=>?_);rw[bf (show An.pure 44=true from rfl) (by simp only[cans,aG,az,aC,aH])];simp only[aO,Nat.reduceAdd,c44]
   repeat' (first
   |with_reducible (first|refine ai ?_|refine ar ?_|refine ax rfl ?_|refine aF ?_)
   |(with_reducible (first|(refine ah (λK hK=>?_);(first|refine QO ?_|refine QP ?_|refine t44r3 ?_))|refine hqr _ ?_);(try simp only[true_implies,false_implies,not_false_eq_true,b9,if_true,if_false,Nat.reduceEqDiff,aJ,dg,eN,bq,qz,qy,Option.map_some,ic,gf,dU,uR,true_and,if_false,if_true,r44,aQ,ak,aD,Option.bind_some,am,bz,aV,h1,h2,he,gt_iff_lt]))
   |(revert hK;intro hK;(with_reducible refine hK _ ?_;clear hK K)))
theorem k44 {op:Int}{fid:FuncId}{d:Tmp}{m:Mem}:cd An FF fid (some d) 44 [.int .i64 op] m=some (.int .i64 (cls op),m):=
 cr (x44 op) (λ_ _ _=>rfl) rfl rfl rfl rfl rfl
def jT (op:Int):CV:=if jB op=true then .tuple [.int .i64 (hi op),.bool (decide (cls op=5)),.bool true] else .tuple [.int .i64 0,.bool false,.bool false]
def aT (op:Int):CV:=if aB op=true then .tuple [.int .i64 (hi op),.bool (decide (cls op=7)),.bool true] else .tuple [.int .i64 0,.bool false,.bool false]
theorem PZ (op:Int):∃a b,jT op=.tuple [.int .i64 a,.bool b,.bool (jB op)]:=by
 unfold jT;split
 ·rename_i h;exact⟨_,_,by rw[h]⟩
 ·rename_i h;exact⟨0,false,by rw[Bool.not_eq_true] at h;rw[h]⟩
theorem x36 (op:Int):FF 36 [.int .i64 op] []=some (jT op,[]):=by
 obtain⟨_,⟨b,H',rfl⟩,hc⟩:=x52 (hi op);have hk:∀t m,cd An FF 36 (some t) 52 [.int .i64 (lY .and .i64 op 240),.int .u64 0,.int .u64 0,.bool true] m=some (.tuple [.bool b,.bool (cL (hi op))],m):=λt m=>cr hc (λ_ _ _=>rfl) rfl rfl rfl rfl rfl
 by_cases h5:cls op=5
 ·cases h:cL (hi op) with
  |true=>
   rw[h] at hk;have he:jT op=.tuple [.int .i64 (hi op),.bool true,.bool true]:=by simp[jT,jB,h5,h]
   rw[he];refine aL rfl Try.func36 s36 (Nat.le_of_ble_eq_true rfl) (λQ hqr hqn=>?_);rw[bf (show An.pure 36=true from rfl) (by simp only[cans,aG,az,aC,aH])];simp only[aO,Nat.reduceAdd,c36]
   repeat' (first
   |with_reducible (first|refine ai ?_|refine ar ?_|refine ax rfl ?_|refine aF ?_)
   |(with_reducible (first|(refine ah (λK hK=>?_);(first|refine sS ?_|refine sT ?_|refine M9 ?_|refine Na ?_|refine sU ?_))|refine hqr _ ?_);(try simp only[true_implies,false_implies,not_true_eq_false,b9,if_true,if_false,Nat.reduceEqDiff,aJ,dg,List.getElem?_cons_zero,List.getElem?_cons_succ,gT,br,fc,nL,qz,qy,lw,Option.map_some,ic,gf,Bool.not_true,dU,uR,dT,and_true,if_false,if_true,r36,aQ,ak,aD,Option.bind_some,am,bz,jx,bW,k44,hk,h5,ne_eq,hi]))
   |(revert hK;intro hK;(with_reducible refine hK _ ?_;clear hK K)))
   all_goals first|rfl|simp[hi]
  |false=>
   rw[h] at hk;have he:jT op=.tuple [.int .i64 0,.bool false,.bool false]:=by simp[jT,jB,h]
   rw[he];refine aL rfl Try.func36 s36 (Nat.le_of_ble_eq_true rfl) (λQ hqr hqn=>?_);rw[bf (show An.pure 36=true from rfl) (by simp only[cans,aG,az,aC,aH])];simp only[aO,Nat.reduceAdd,c36]
   repeat' (first
   |with_reducible (first|refine ai ?_|refine au rfl ?_|refine b6 ?_)
   |(with_reducible (first|(refine ah (λK hK=>?_);(first|refine sS ?_|refine sT ?_|refine M9 ?_|refine Na ?_|refine QL ?_))|refine hqr _ ?_);(try simp only[true_implies,false_implies,not_true_eq_false,b9,if_true,if_false,Nat.reduceEqDiff,aJ,dg,List.getElem?_cons_zero,List.getElem?_cons_succ,br,fc,nL,qz,qy,lw,Option.map_some,ic,gf,Bool.not_false,dU,uR,dT,and_true,if_false,if_true,r36,aQ,ak,aD,Option.bind_some,am,bz,jx,bW,k44,hk,h5,ne_eq]))
   |(revert hK;intro hK;(with_reducible refine hK _ ?_;clear hK K)))
   all_goals first|rfl|simp
 ·by_cases h6:cls op=6
  ·cases h:cL (hi op) with
   |true=>
    rw[h] at hk;have he:jT op=.tuple [.int .i64 (hi op),.bool false,.bool true]:=by simp[jT,jB,h6,h]
    rw[he];refine aL rfl Try.func36 s36 (Nat.le_of_ble_eq_true rfl) (λQ hqr hqn=>?_);rw[bf (show An.pure 36=true from rfl) (by simp only[cans,aG,az,aC,aH])];simp only[aO,Nat.reduceAdd,c36]
    repeat' (first
    |with_reducible (first|refine ai ?_|refine ar ?_|refine ax rfl ?_|refine aF ?_)
    |(with_reducible (first|(refine ah (λK hK=>?_);(first|refine sS ?_|refine sT ?_|refine M9 ?_|refine Na ?_|refine sU ?_))|refine hqr _ ?_);(try simp only[true_implies,false_implies,not_true_eq_false,b9,if_true,if_false,Nat.reduceEqDiff,aJ,dg,List.getElem?_cons_zero,List.getElem?_cons_succ,gT,br,fc,nL,qz,qy,lw,Option.map_some,ic,gf,Bool.not_true,dU,uR,dT,and_true,if_false,if_true,r36,aQ,ak,aD,Option.bind_some,am,bz,jx,bW,k44,hk,h6,ne_eq,hi]))
    |(revert hK;intro hK;(first|refine And.intro ?_ ?_|intro _|omega|(with_reducible refine hK _ ?_;clear hK K))))
    all_goals first|rfl|simp[hi]
   |false=>
    rw[h] at hk;have he:jT op=.tuple [.int .i64 0,.bool false,.bool false]:=by simp[jT,jB,h]
    rw[he];refine aL rfl Try.func36 s36 (Nat.le_of_ble_eq_true rfl) (λQ hqr hqn=>?_);rw[bf (show An.pure 36=true from rfl) (by simp only[cans,aG,az,aC,aH])];simp only[aO,Nat.reduceAdd,c36]
    repeat' (first
    |with_reducible (first|refine ai ?_|refine au rfl ?_|refine b6 ?_)
    |(with_reducible (first|(refine ah (λK hK=>?_);(first|refine sS ?_|refine sT ?_|refine M9 ?_|refine Na ?_|refine QL ?_))|refine hqr _ ?_);(try simp only[true_implies,false_implies,not_true_eq_false,b9,if_true,if_false,Nat.reduceEqDiff,aJ,dg,List.getElem?_cons_zero,List.getElem?_cons_succ,br,fc,nL,qz,qy,lw,Option.map_some,ic,gf,Bool.not_false,dU,uR,dT,and_true,if_false,if_true,r36,aQ,ak,aD,Option.bind_some,am,bz,jx,bW,k44,hk,h6,ne_eq]))
    |(revert hK;intro hK;(first|refine And.intro ?_ ?_|intro _|omega|(with_reducible refine hK _ ?_;clear hK K))))
    all_goals first|rfl|simp
  ·have he:jT op=.tuple [.int .i64 0,.bool false,.bool false]:=by simp[jT,jB,h5,h6]
   rw[he];refine aL rfl Try.func36 s36 (Nat.le_of_ble_eq_true rfl) (λQ hqr hqn=>?_);rw[bf (show An.pure 36=true from rfl) (by simp only[cans,aG,az,aC,aH])];simp only[aO,Nat.reduceAdd,c36]
   repeat' (first
   |with_reducible (first|refine ai ?_|refine au rfl ?_|refine b6 ?_)
   |(with_reducible (first|(refine ah (λK hK=>?_);(first|refine sS ?_|refine sT ?_|refine M9 ?_|refine Na ?_|refine QL ?_))|refine hqr _ ?_);(try simp only[true_implies,false_implies,not_false_eq_true,b9,if_true,if_false,Nat.reduceEqDiff,aJ,dg,List.getElem?_cons_zero,List.getElem?_cons_succ,br,fc,nL,qz,qy,lw,Option.map_some,ic,gf,dU,uR,dT,true_and,if_false,if_true,r36,aQ,ak,aD,Option.bind_some,am,bz,jx,bW,k44,hk,h5,h6,ne_eq]))
   |(revert hK;intro hK;(with_reducible refine hK _ ?_;clear hK K)))
   all_goals first|rfl|simp
theorem x43 (op:Int):FF 43 [.int .i64 op] []=some (aT op,[]):=by
 obtain⟨_,⟨b,H',rfl⟩,hc⟩:=x62 (hi op);have hk:∀t m,cd An FF 43 (some t) 62 [.int .i64 (lY .and .i64 op 240),.int .u64 0,.int .u64 0,.bool true] m=some (.tuple [.int .u64 b,.bool (ku (hi op))],m):=λt m=>cr hc (λ_ _ _=>rfl) rfl rfl rfl rfl rfl;have hf:(ku (hi op) && !(decide (hi op=128)&&decide (0<rb op)))=false→aT op=.tuple [.int .i64 0,.bool false,.bool false]:=λh=>by simp only[aT,aB,h,Bool.and_false,Bool.false_eq_true,if_false]
 have ht:(ku (hi op) && !(decide (hi op=128)&&decide (0<rb op)))=true→(cls op=4∨cls op=7)→aT op=.tuple [.int .i64 (hi op),.bool (decide (cls op=7)),.bool true]:=λh h2=>by
  have:(decide (cls op=4)||decide (cls op=7))=true:=by simpa using h2
  simp only[aT,aB,h,this,Bool.and_self,if_true]
 by_cases hx:cls op=4∨cls op=7
 ·have hcl:(cls op=4∧¬cls op=7)∨(¬cls op=4∧cls op=7):=by omega
  cases h:ku (hi op) with
  |false=>
   rw[h] at hk;rw[hf (by rw[h];rfl)];rcases hcl with⟨h4,h7⟩|⟨h4,h7⟩
   ·refine aL rfl Try.func43 s43 (Nat.le_of_ble_eq_true rfl) (λQ hqr hqn=>?_)
    rw[bf (show An.pure 43=true from rfl) (by simp only[cans,aG,az,aC,aH])];simp only[aO,Nat.reduceAdd,c43]
    repeat' (first
    |with_reducible (first|refine ai ?_|refine au rfl ?_|refine b6 ?_)
    |(with_reducible (first|(refine ah (λK hK=>?_);(first|refine K5 ?_|refine K6 ?_|refine K7 ?_|refine K8 ?_|refine Nb ?_))|refine hqr _ ?_);(try simp only[true_implies,false_implies,not_true_eq_false,b9,if_true,if_false,Nat.reduceEqDiff,aJ,dg,List.getElem?_cons_zero,List.getElem?_cons_succ,br,fc,nL,qz,qy,lw,bI,Option.map_some,ic,gf,Bool.not_false,dU,uR,dT,and_true,if_false,if_true,r43,aQ,ak,aD,Option.bind_some,am,bz,jx,bW,k44,hk,h4,h7,ne_eq]))
    |(revert hK;intro hK;(with_reducible refine hK _ ?_;clear hK K)))
    all_goals first|rfl|simp
   ·refine aL rfl Try.func43 s43 (Nat.le_of_ble_eq_true rfl) (λQ hqr hqn=>?_)
    rw[bf (show An.pure 43=true from rfl) (by simp only[cans,aG,az,aC,aH])];simp only[aO,Nat.reduceAdd,c43]
    repeat' (first
    |with_reducible (first|refine ai ?_|refine au rfl ?_|refine b6 ?_)
    |(with_reducible (first|(refine ah (λK hK=>?_);(first|refine K5 ?_|refine K6 ?_|refine K7 ?_|refine K8 ?_|refine Nb ?_))|refine hqr _ ?_);(try simp only[true_implies,false_implies,not_true_eq_false,b9,if_true,if_false,Nat.reduceEqDiff,aJ,dg,List.getElem?_cons_zero,List.getElem?_cons_succ,br,fc,nL,qz,qy,lw,bI,Option.map_some,ic,gf,Bool.not_false,dU,uR,dT,and_true,if_false,if_true,r43,aQ,ak,aD,Option.bind_some,am,bz,jx,bW,k44,hk,h4,h7,ne_eq]))
    |(revert hK;intro hK;(first|refine And.intro ?_ ?_|intro _|omega|(with_reducible refine hK _ ?_;clear hK K))))
    all_goals first|rfl|simp
  |true=>
   rw[h] at hk
   by_cases h8:lY .and .i64 op 240=128
   ·have hk8:=hk
    rw[h8] at hk8;clear hk
    by_cases hr:(0:Int)<lY .and .i64 op 8
    ·rw[hf (by simp only[hi,h8,rb,hr,decide_true,Bool.and_self,Bool.not_true,Bool.and_false])]
     rcases hcl with⟨h4,h7⟩|⟨h4,h7⟩
     ·refine aL rfl Try.func43 s43 (Nat.le_of_ble_eq_true rfl) (λQ hqr hqn=>?_)
      rw[bf (show An.pure 43=true from rfl) (by simp only[cans,aG,az,aC,aH])];simp only[aO,Nat.reduceAdd,c43]
      repeat' (first
      |with_reducible (first|refine ai ?_|refine au rfl ?_|refine b6 ?_)
      |(with_reducible (first|(refine ah (λK hK=>?_);(first|refine K5 ?_|refine K6 ?_|refine K7 ?_|refine K8 ?_|refine Nb ?_))|refine hqr _ ?_);(try simp only[true_implies,false_implies,not_true_eq_false,b9,if_true,if_false,Nat.reduceEqDiff,aJ,dg,List.getElem?_cons_zero,List.getElem?_cons_succ,bq,gT,br,fc,nL,qz,qy,lw,bI,Option.map_some,ic,gf,Bool.not_true,dU,uR,dT,and_true,if_false,if_true,r43,aQ,ak,aD,Option.bind_some,am,bz,jx,bW,k44,hk8,h4,h7,ne_eq,h8,hr,gt_iff_lt]))
      |(revert hK;intro hK;(with_reducible refine hK _ ?_;clear hK K)))
      all_goals first|rfl|simp
     ·refine aL rfl Try.func43 s43 (Nat.le_of_ble_eq_true rfl) (λQ hqr hqn=>?_)
      rw[bf (show An.pure 43=true from rfl) (by simp only[cans,aG,az,aC,aH])];simp only[aO,Nat.reduceAdd,c43]
      repeat' (first
      |with_reducible (first|refine ai ?_|refine au rfl ?_|refine b6 ?_)
      |(with_reducible (first|(refine ah (λK hK=>?_);(first|refine K5 ?_|refine K6 ?_|refine K7 ?_|refine K8 ?_|refine Nb ?_))|refine hqr _ ?_);(try simp only[true_implies,false_implies,not_true_eq_false,b9,if_true,if_false,Nat.reduceEqDiff,aJ,dg,List.getElem?_cons_zero,List.getElem?_cons_succ,bq,gT,br,fc,nL,qz,qy,lw,bI,Option.map_some,ic,gf,Bool.not_true,dU,uR,dT,and_true,if_false,if_true,r43,aQ,ak,aD,Option.bind_some,am,bz,jx,bW,k44,hk8,h4,h7,ne_eq,h8,hr,gt_iff_lt]))
      |(revert hK;intro hK;(first|refine And.intro ?_ ?_|intro _|omega|(with_reducible refine hK _ ?_;clear hK K))))
      all_goals first|rfl|simp
    ·rw[ht (by rw[h];simp only[hi,h8,rb,hr,decide_true,decide_false,Bool.and_false,Bool.not_false,Bool.and_self]) hx]
     rcases hcl with⟨h4,h7⟩|⟨h4,h7⟩
     ·refine aL rfl Try.func43 s43 (Nat.le_of_ble_eq_true rfl) (λQ hqr hqn=>?_)
      rw[bf (show An.pure 43=true from rfl) (by simp only[cans,aG,az,aC,aH])];simp only[aO,Nat.reduceAdd,c43]
      repeat' (first
      |with_reducible (first|refine ai ?_|refine ar ?_|refine ax rfl ?_|refine aF ?_)
      |(with_reducible (first|(refine ah (λK hK=>?_);(first|refine K5 ?_|refine K6 ?_|refine K7 ?_|refine K8 ?_|refine NS ?_))|refine hqr _ ?_);(try simp only[true_implies,false_implies,not_true_eq_false,not_false_eq_true,b9,if_true,if_false,Nat.reduceEqDiff,aJ,dg,List.getElem?_cons_zero,List.getElem?_cons_succ,bq,gT,br,fc,nL,qz,qy,lw,bI,Option.map_some,ic,gf,Bool.not_true,dU,uR,dT,and_true,true_and,if_false,if_true,r43,aQ,ak,aD,Option.bind_some,am,bz,jx,bW,Prod.mk.injEq,k44,hk8,h4,h7,ne_eq,h8,hr,gt_iff_lt]))
      |(revert hK;intro hK;(first|refine And.intro ?_ ?_|intro _|omega|(with_reducible refine hK _ ?_;clear hK K))))
      all_goals first|rfl|simp[hi,h7,h8]
     ·refine aL rfl Try.func43 s43 (Nat.le_of_ble_eq_true rfl) (λQ hqr hqn=>?_)
      rw[bf (show An.pure 43=true from rfl) (by simp only[cans,aG,az,aC,aH])];simp only[aO,Nat.reduceAdd,c43]
      repeat' (first
      |with_reducible (first|refine ai ?_|refine ar ?_|refine ax rfl ?_|refine aF ?_)
      |(with_reducible (first|(refine ah (λK hK=>?_);(first|refine K5 ?_|refine K6 ?_|refine K7 ?_|refine K8 ?_|refine NS ?_))|refine hqr _ ?_);(try simp only[true_implies,false_implies,not_true_eq_false,not_false_eq_true,b9,if_true,if_false,Nat.reduceEqDiff,aJ,dg,List.getElem?_cons_zero,List.getElem?_cons_succ,bq,gT,br,fc,nL,qz,qy,lw,bI,Option.map_some,ic,gf,Bool.not_true,dU,uR,dT,and_true,true_and,decide_true,if_false,if_true,r43,aQ,ak,aD,Option.bind_some,am,bz,jx,bW,Prod.mk.injEq,k44,hk8,h4,h7,ne_eq,h8,hr,gt_iff_lt]))
      |(revert hK;intro hK;(first|refine And.intro ?_ ?_|intro _|omega|(with_reducible refine hK _ ?_;clear hK K))))
      all_goals first|rfl|simp[hi,h7,h8]
   ·rw[ht (by rw[h];simp only[hi,h8,decide_false,Bool.false_and,Bool.not_false,Bool.and_self]) hx]
    rcases hcl with⟨h4,h7⟩|⟨h4,h7⟩
    ·refine aL rfl Try.func43 s43 (Nat.le_of_ble_eq_true rfl) (λQ hqr hqn=>?_)
     rw[bf (show An.pure 43=true from rfl) (by simp only[cans,aG,az,aC,aH])];simp only[aO,Nat.reduceAdd,c43]
     repeat' (first
     |with_reducible (first|refine ai ?_|refine ar ?_|refine ax rfl ?_|refine aF ?_)
     |(with_reducible (first|(refine ah (λK hK=>?_);(first|refine K5 ?_|refine K6 ?_|refine K7 ?_|refine K8 ?_|refine NS ?_))|refine hqr _ ?_);(try simp only[true_implies,false_implies,not_true_eq_false,not_false_eq_true,b9,if_true,if_false,Nat.reduceEqDiff,aJ,dg,List.getElem?_cons_zero,List.getElem?_cons_succ,bq,gT,br,fc,nL,qz,qy,lw,bI,Option.map_some,ic,gf,Bool.not_true,dU,uR,dT,and_true,true_and,if_false,if_true,r43,aQ,ak,aD,Option.bind_some,am,bz,jx,bW,Prod.mk.injEq,k44,hk,h4,h7,ne_eq,h8]))
     |(revert hK;intro hK;(first|refine And.intro ?_ ?_|intro _|omega|(with_reducible refine hK _ ?_;clear hK K))))
     all_goals first|rfl|simp[hi,h7]
    ·refine aL rfl Try.func43 s43 (Nat.le_of_ble_eq_true rfl) (λQ hqr hqn=>?_)
     rw[bf (show An.pure 43=true from rfl) (by simp only[cans,aG,az,aC,aH])];simp only[aO,Nat.reduceAdd,c43]
     repeat' (first
     |with_reducible (first|refine ai ?_|refine ar ?_|refine ax rfl ?_|refine aF ?_)
     |(with_reducible (first|(refine ah (λK hK=>?_);(first|refine K5 ?_|refine K6 ?_|refine K7 ?_|refine K8 ?_|refine NS ?_))|refine hqr _ ?_);(try simp only[true_implies,false_implies,not_true_eq_false,not_false_eq_true,b9,if_true,if_false,Nat.reduceEqDiff,aJ,dg,List.getElem?_cons_zero,List.getElem?_cons_succ,bq,gT,br,fc,nL,qz,qy,lw,bI,Option.map_some,ic,gf,Bool.not_true,dU,uR,dT,and_true,true_and,decide_true,if_false,if_true,r43,aQ,ak,aD,Option.bind_some,am,bz,jx,bW,Prod.mk.injEq,k44,hk,h4,h7,ne_eq,h8]))
     |(revert hK;intro hK;(first|refine And.intro ?_ ?_|intro _|omega|(with_reducible refine hK _ ?_;clear hK K))))
     all_goals first|rfl|simp[hi,h7]
 ·have h4:¬cls op=4:=λh=>hx (.inl h)
  have h7:¬cls op=7:=λh=>hx (.inr h);have he:aT op=.tuple [.int .i64 0,.bool false,.bool false]:=by simp[aT,aB,h4,h7]
  rw[he];refine aL rfl Try.func43 s43 (Nat.le_of_ble_eq_true rfl) (λQ hqr hqn=>?_);rw[bf (show An.pure 43=true from rfl) (by simp only[cans,aG,az,aC,aH])];simp only[aO,Nat.reduceAdd,c43]
  repeat' (first
  |with_reducible (first|refine ai ?_|refine au rfl ?_|refine b6 ?_)
  |(with_reducible (first|(refine ah (λK hK=>?_);(first|refine K5 ?_|refine K6 ?_|refine K7 ?_|refine K8 ?_|refine Nb ?_))|refine hqr _ ?_);(try simp only[true_implies,false_implies,not_false_eq_true,b9,if_true,if_false,Nat.reduceEqDiff,aJ,dg,List.getElem?_cons_zero,List.getElem?_cons_succ,bq,gT,br,fc,nL,qz,qy,lw,bI,Option.map_some,ic,gf,fE,Lv,dU,uR,dT,true_and,if_false,if_true,r43,aQ,ak,aD,Option.bind_some,am,bz,jx,bW,k44,hk,h4,h7,ne_eq]))
  |(revert hK;intro hK;(with_reducible refine hK _ ?_;clear hK K)))
  all_goals first|rfl|simp
end Go.Cm
