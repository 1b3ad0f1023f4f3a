import Derived.Test.YtijcpefcfcbcnaaIeA
import Derived.Test.YtijcpefcfcbcnaaIhD
set_option linter.unusedSimpArgs false
set_option linter.unusedVariables false
namespace Go.Cm
open Go.Proofs Go.Ir Go.Gr
theorem x12 (f:Cd):FF 12 [.agg (aZ f)] []=some (.bool (decide ((f.parts.length:Int)≤100)&&decide (f.values≤1000)),[]):=by
 by_cases h1:(f.parts.length:Int)≤100
 ·by_cases h2:f.values≤1000
  all_goals
   refine aL rfl Try.func12 s12 (Nat.le_of_ble_eq_true rfl) (fun Q hqr hqn=>?_)
   rw[bf (show An.pure 12=true from rfl) (by simp only[cans,aG,az,aC,aH,codeE.can])]
   simp only[aO,Nat.reduceAdd,c12]
   repeat' (first
   |with_reducible refine aF ?_
   |(with_reducible (first|(refine ah (fun K hK=>?_);(first|refine t12r0 ?_|refine t12r1 ?_))|refine hqr _ ?_);(try simp only[SS,ap,cB,lenS,Bool.and_self,Bool.true_and,decide_false,decide_true,r12,aQ,ak,aD,am,aZ,aP,h1,h2]))
   |(revert hK;intro hK;(with_reducible refine hK _ ?_;clear hK K)))
   all_goals simp[h1,h2]
 ·refine aL rfl Try.func12 s12 (Nat.le_of_ble_eq_true rfl) (fun Q hqr hqn=>?_)
  rw[bf (show An.pure 12=true from rfl) (by simp only[cans,aG,az,aC,aH,codeE.can])]
  simp only[aO,Nat.reduceAdd,c12]
  repeat' (first
  |with_reducible refine aF ?_
  |(with_reducible (first|(refine ah (fun K hK=>?_);(first|refine t12r0 ?_|refine t12r1 ?_))|refine hqr _ ?_);(try simp only[SS,ap,cB,lenS,decide_false,r12,aQ,ak,aD,am,aZ,aP,h1]))
  |(revert hK;intro hK;(with_reducible refine hK _ ?_;clear hK K)))
  all_goals simp[h1]
theorem k12 (f:Cd) {fid:FuncId}{d:Tmp}{m:Mem}{b:Bool}(hb:(decide ((f.parts.length:Int)≤100)&&decide (f.values≤1000))=b):aB An FF fid (some d) 12 [.agg (aZ f)] m=some (.bool b,m):=by
 rw[←hb]
 exact cr (Cm.x12 f) (fun _ _ _=>rfl) rfl (by simp only[cans,aC,codeE.can]) rfl (by simp only[noGs,noG,codeE.noG,Bool.and_self]) rfl
theorem freeN_args {l:Lay}{fs:List Fact}{n:Nd}:(cH l fs n).args=n.args∧(cH l fs n).imm=n.imm:=by
 unfold cH;split<;>exact⟨rfl,rfl⟩
theorem Sized.free {l:Lay}{fs:List Fact}{f:Cd}(h:Sized f):Sized (de l fs f) where
 parts:=by simp only[de,List.length_map];exact h.parts
 pred p hp:=by
  obtain⟨q,hq,rfl⟩:=List.mem_map.1 hp
  exact h.pred q hq
 phis p hp:=by
  obtain⟨q,hq,rfl⟩:=List.mem_map.1 hp
  exact h.phis q hq
 nodes p hp:=by
  obtain⟨q,hq,rfl⟩:=List.mem_map.1 hp
  obtain⟨h1,h2⟩:=h.nodes q hq
  refine⟨by simp only[bU,List.length_map];exact h1,fun n hn=>?_⟩
  obtain⟨x,hx,rfl⟩:=List.mem_map.1 hn
  rw[freeN_args.1,freeN_args.2]
  exact h2 x hx
structure FreeK (l:Lay) (f:Cd) (fs:List Fact) (X:List CV) (n e:Int):Prop where
 two:X.length=2
 own:∀ {fid:FuncId}{d:Tmp}{m:Mem}{v:CV},can v=sl cx fs→eV v=true→noG v=true→aB An FF fid (some d) 14 [.agg (cX l),.agg (aZ f),v] m=some (.tuple [.agg X,.int .i64 n,.int .i64 e],m)
 doc:∀ {fid:FuncId}{d:Tmp}{m:Mem},aB An FF fid (some d) 17 [.agg (cX l),.agg (aZ f),sl cx fs] m=some (.tuple [.agg X,.int .i64 n,.int .i64 e],m)
 same:∀ {fid:FuncId}{d:Tmp}{m:Mem},aB An FF fid (some d) 15 [.agg X,.agg X] m=some (.bool true,m)
theorem k15 (f:Cd) (hf:Sized f) {fid:FuncId}{d:Tmp}{m:Mem}:aB An FF fid (some d) 15 [.agg (aZ f),.agg (aZ f)] m=some (.bool true,m):=by
 obtain⟨_,⟨H',rfl⟩,h⟩:=x15 f hf
 exact cr h (fun _ _ _=>rfl) rfl (by simp only[cans,aC,codeE.can]) rfl (by simp only[noGs,noG,codeE.noG,Bool.and_self]) rfl
theorem tS (l:Lay) (f:Cd) (fs:List Fact) (hf:Sized f) (hfs:∀ x ∈ fs,x.wf) (hN:∀ p ∈ f.parts,p.nodes.length*112≤140737488355328) :
  FreeK l f fs (if bG f=true then aZ (de l fs f) else [.nil,.int .i64 0]) (if bG f=true then cO l fs f.parts else 0) (if bG f=true then 0 else 160):=by
 obtain⟨_,⟨H1,rfl⟩,h1⟩:=x14 l f fs hf hfs hN
 obtain⟨_,⟨H2,rfl⟩,h2⟩:=x17 l f fs hf hfs hN
 have hcan:cans [.agg (cX l),.agg (aZ f),sl cx fs]=[.agg (cX l),.agg (aZ f),sl cx fs]:=by simp only[cans,aC,codeE.can,layE.can,factE.can_sl]
 have hno:noGs [.agg (cX l),.agg (aZ f),sl cx fs]=true:=by simp only[noGs,noG,layE.noG,codeE.noG,factE.noG_sl,Bool.and_self]
 have hcv:∀ {v:CV},can v=sl cx fs→cans [.agg (cX l),.agg (aZ f),v]=[.agg (cX l),.agg (aZ f),sl cx fs]:=fun {v} h=>by simp only[cans,aC,codeE.can,layE.can,h]
 have hxv:∀ {v:CV},eV v=true→[.agg (cX l),.agg (aZ f),v].all eV=true:=fun {v} h=>by
  simp only[List.all_cons,List.all_nil,h,Bool.and_true];rfl
 have hnv:∀ {v:CV},noG v=true→noGs [.agg (cX l),.agg (aZ f),v]=true:=fun {v} h=>by simp only[noGs,noG,layE.noG,codeE.noG,h,Bool.and_self]
 cases hc:bG f with
 |true=>
  rw[hc,if_pos rfl] at h1 h2
  have hn:noG (.tuple [.agg [sl ptC (de l fs f).parts,.int .i64 f.values],.int .i64 (cO l fs f.parts),.int .i64 0])=true:=by
   simp only[noG,noGs,eo,ptE.noG_sl,Bool.and_self]
  exact⟨rfl,fun {_ _ _ _} v1 v2 v3=>ek h1 rfl (hcv v1) (hxv v2) (hnv v3) hn,fun {_ _ _}=>ek h2 rfl hcan rfl hno hn,fun {_ _ _}=>k15 (de l fs f) hf.free⟩
 |false=>
  rw[hc,if_neg (by decide)] at h1 h2
  obtain⟨_,⟨H3,rfl⟩,h3⟩:=x15 ⟨[],0⟩ ⟨by simp,by simp,by simp,by simp⟩
  exact⟨rfl,fun {_ _ _ _} v1 v2 v3=>ek h1 rfl (hcv v1) (hxv v2) (hnv v3) rfl,fun {_ _ _}=>ek h2 rfl hcan rfl hno rfl,fun {_ _ _}=>cr h3 (fun _ _ _=>rfl) rfl rfl rfl rfl rfl⟩
theorem x4 (l:Lay) (f:Cd) (fs:List Fact) (size:Int) (hfit:Fit f) (hfs:∀ x ∈ fs,x.wf) (hN:∀ p ∈ f.parts,p.nodes.length*112≤140737488355328) :
  ∃ r,(∃ H',r=(CV.bool true,H'))∧FF 4 [.agg (cX l),.agg (aZ f),sl cx fs,.int .i64 size] []=some r:=by
 have hkh:=fun d m=>k13 (fid:=4) (d:=d) (m:=m)
 obtain⟨b,hb⟩:∃ b,(decide ((f.parts.length:Int)≤100)&&decide (f.values≤1000))=b:=⟨_,rfl⟩
 have hks:∀ d m,aB An FF 4 (some d) 12 [.agg [sl ptC f.parts,.int .i64 f.values]] m=_:=fun d m=>k12 f (fid:=4) (d:=d) (m:=m) hb
 cases b with
 |false=>
  refine bA rfl Try.func4 s4 (Nat.le_of_ble_eq_true rfl) (fun Q hqr hqn=>?_)
  rw[bf (show An.pure 4=true from rfl) (by simp only[cans,aG,az,aC,aH,codeE.can,layE.can,factE.can_sl])]
  simp only[aO,Nat.reduceAdd,c4]
  repeat' (first
  |with_reducible (first|refine ai ?_|refine au rfl ?_|refine be ?_)
  |(with_reducible (first|(refine ah (fun K hK=>?_);(first|refine t4r0 ?_|refine t4r1 ?_|refine t4r2 ?_))|refine hqr _ ?_);(try simp only[SS,Nat.reduceEqDiff,ap,bv,aR,Nat.reduceAdd,Bool.not_false,r4,aQ,ak,aD,am,aZ,hks,hkh]))
  |(revert hK;intro hK;(with_reducible refine hK _ ?_;clear hK K)))
  exact⟨_,rfl⟩
 |true=>
  have hf:Sized f:=hfit.sized (by simp only[Bool.and_eq_true,decide_eq_true_eq] at hb;omega)
  have hK:=tS l f fs hf hfs hN
  generalize (if bG f=true then aZ (de l fs f) else [.nil,.int .i64 0])=X at hK
  generalize (if bG f=true then (cO l fs f.parts:Int) else 0)=nn at hK
  generalize (if bG f=true then (0:Int) else 160)=ee at hK
  obtain⟨x1,x2,rfl⟩:∃ x1 x2,X=[x1,x2]:=by
   match X,hK.two with
   |[x1,x2],_=>exact⟨x1,x2,rfl⟩
  have k14:=fun d m=>hK.own (v:=sl cx fs) (factE.can_sl fs) rfl (factE.noG_sl fs) (fid:=4) (d:=d) (m:=m)
  have k17:=fun d m=>hK.doc (fid:=4) (d:=d) (m:=m)
  have k15:=fun d m=>hK.same (fid:=4) (d:=d) (m:=m)
  simp only[aZ] at k14 k17
  cases fs with
  |nil=>
   have hy:Fact.wf ⟨false,0,0,0⟩:=by unfold Fact.wf du;simp
   have p1:=fun w d m=>k18 l ⟨false,0,0,0⟩ hy size w (fid:=4) (d:=d) (m:=m)
   have p2:=fun w d m=>k19 l ⟨false,0,0,0⟩ hy size w (fid:=4) (d:=d) (m:=m)
   simp only[cx] at p1 p2
   have hl0:cK (sl cx [])=some 0:=rfl
   refine bA rfl Try.func4 s4 (Nat.le_of_ble_eq_true rfl) (fun Q hqr hqn=>?_)
   rw[bf (show An.pure 4=true from rfl) (by simp only[cans,aG,az,aC,aH,codeE.can,layE.can,factE.can_sl])]
   simp only[aO,Nat.reduceAdd,c4]
   repeat' (first
   |with_reducible (first|refine ai ?_|refine ar ?_|refine ax rfl ?_|refine aF ?_)
   |(with_reducible (first|(refine ah (fun K hK=>?_);(first|refine t4r0 ?_|refine t4r1 ?_|refine t4r3 ?_|refine t4r4 ?_|refine t4r5 ?_|refine t4r6 ?_|refine t4r8 ?_))|refine hqr _ ?_);(try simp only[SS,Nat.reduceEqDiff,ap,bv,aR,aS,Nat.reduceAdd,bq,Bool.not_true,lenS,bg,ay,r4,aQ,ak,aD,am,aZ,bR,cY,hks,k14,k17,k15,cV,hl0,kB,p1,p2,hkh,F1 Try.underlying4,beq_self_eq_true]))
   |(revert hK;intro hK;(first|refine And.intro ?_ ?_|intro _|omega|(with_reducible refine hK _ ?_;clear hK K))))
   exact⟨_,rfl⟩
  |cons y r=>
   have hy:=hfs y (List.mem_cons_self ..)
   have p1:=fun w d m=>k18 l y hy size w (fid:=4) (d:=d) (m:=m)
   have p2:=fun w d m=>k19 l y hy size w (fid:=4) (d:=d) (m:=m)
   have hiy:=hY (k:=.i64) (l:=y::r) (i:=0) eI (by omega) (Int.le_refl 0) rfl
   refine bA rfl Try.func4 s4 (Nat.le_of_ble_eq_true rfl) (fun Q hqr hqn=>?_)
   rw[bf (show An.pure 4=true from rfl) (by simp only[cans,aG,az,aC,aH,codeE.can,layE.can,factE.can_sl])]
   simp only[aO,Nat.reduceAdd,c4]
   repeat' (first
   |with_reducible (first|refine ai ?_|refine ar ?_|refine au rfl ?_|refine ax rfl ?_|refine aF ?_)
   |(with_reducible (first|(refine ah (fun K hK=>?_);(first|refine t4r0 ?_|refine t4r1 ?_|refine t4r3 ?_|refine t4r4 ?_|refine t4r5 ?_|refine t4r6 ?_|refine t4r7 ?_|refine t4r8 ?_))|refine hqr _ ?_);(try simp only[SS,Nat.reduceEqDiff,ap,bv,aR,aS,Nat.reduceAdd,bq,Bool.not_true,lenS,bg,ay,r4,aQ,ak,aD,am,aZ,bR,cY,hks,k14,k17,k15,cV,aP,hiy,wa (eI y),eI,factC_t,kB,p1,p2,hkh,F1 Try.underlying4,beq_self_eq_true]))
   |(revert hK;intro hK;(first|refine And.intro ?_ ?_|intro _|omega|(with_reducible refine hK _ ?_;clear hK K))))
   exact⟨_,rfl⟩
end Go.Cm
