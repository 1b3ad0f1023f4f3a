import Derived.Test.YtijcpefcfcbcnaaIeA
import Derived.Test.YtijcpefcfcbcnaaIhD
set_option linter.unusedSimpArgs false
set_option linter.unusedVariables false
namespace Go.Cm
open Go.Proofs Go.Ir Go.Gr
theorem x12 (f:Cd):FF 12 [.agg (aZ f)] []=some (.bool (decide ((f.parts.length:Int)≤100)&&decide (f.values≤1000)),[]):=by
 by_cases h1:(f.parts.length:Int)≤100
 ·by_cases h2:f.values≤1000
  all_goals
   refine aL rfl Try.func12 s12 (Nat.le_of_ble_eq_true rfl) (fun Q hqr hqn=>?_)
   rw[bf (show An.pure 12=true from rfl) (by simp only[cans,aG,az,aC,aH,codeE.can])]
   simp only[aO,Nat.reduceAdd,c12]
   repeat' (first
   |with_reducible refine aF ?_
   |(with_reducible (first|(refine ah (fun K hK=>?_);(first|refine t12r0 ?_|refine t12r1 ?_))|refine hqr _ ?_);(try simp only[SS,ap,cB,lenS,Bool.and_self,Bool.true_and,decide_false,decide_true,r12,aQ,ak,aD,am,aZ,aP,h1,h2]))
   |(revert hK;intro hK;(with_reducible refine hK _ ?_;clear hK K)))
   all_goals simp[h1,h2]
 ·refine aL rfl Try.func12 s12 (Nat.le_of_ble_eq_true rfl) (fun Q hqr hqn=>?_)
  rw[bf (show An.pure 12=true from rfl) (by simp only[cans,aG,az,aC,aH,codeE.can])]
  simp only[aO,Nat.reduceAdd,c12]
  repeat' (first
  |with_reducible refine aF ?_
  |(with_reducible (first|(refine ah (fun K hK=>?_);(first|refine t12r0 ?_|refine t12r1 ?_))|refine hqr _ ?_);(try simp only[SS,ap,cB,lenS,decide_false,r12,aQ,ak,aD,am,aZ,aP,h1]))
  |(revert hK;intro hK;(with_reducible refine hK _ ?_;clear hK K)))
  all_goals simp[h1]
theorem k12 (f:Cd) {fid:FuncId}{d:Tmp}{m:Mem}{b:Bool}(hb:(decide ((f.parts.length:Int)≤100)&&decide (f.values≤1000))=b):aB An FF fid (some d) 12 [.agg (aZ f)] m=some (.bool b,m):=by
 rw[←hb]
 exact cr (Cm.x12 f) (fun _ _ _=>rfl) rfl (by simp only[cans,aC,codeE.can]) rfl (by simp only[noGs,noG,codeE.noG,Bool.and_self]) rfl
theorem freeN_args {l:Lay}{fs:List Fact}{n:Nd}:(cH l fs n).args=n.args∧(cH l fs n).imm=n.imm:=by
 unfold cH;split<;>exact⟨rfl,rfl⟩
theorem Sized.free {l:Lay}{fs:List Fact}{f:Cd}(h:Sized f):Sized (de l fs f) where
 parts:=by simp only[de,List.length_map];exact h.parts
 pred p hp:=by
  obtain⟨q,hq,rfl⟩:=List.mem_map.1 hp
  exact h.pred q hq
 phis p hp:=by
  obtain⟨q,hq,rfl⟩:=List.mem_map.1 hp
  exact h.phis q hq
 nodes p hp:=by
  obtain⟨q,hq,rfl⟩:=List.mem_map.1 hp
  obtain⟨h1,h2⟩:=h.nodes q hq
  refine⟨by simp only[bU,List.length_map];exact h1,fun n hn=>?_⟩
  obtain⟨x,hx,rfl⟩:=List.mem_map.1 hn
  rw[freeN_args.1,freeN_args.2]
  exact h2 x hx
structure FreeK (l:Lay) (f:Cd) (fs:List Fact) (X:List CV) (n e:Int):Prop where
 two:X.length=2
 own:∀ {fid:FuncId}{d:Tmp}{m:Mem}{v:CV},can v=sl cx fs→eV v=true→noG v=true→aB An FF fid (some d) 14 [.agg (cX l),.agg (aZ f),v] m=some (.tuple [.agg X,.int .i64 n,.int .i64 e],m)
 doc:∀ {fid:FuncId}{d:Tmp}{m:Mem},aB An FF fid (some d) 17 [.agg (cX l),.agg (aZ f),sl cx fs] m=some (.tuple [.agg X,.int .i64 n,.int .i64 e],m)
 same:∀ {fid:FuncId}{d:Tmp}{m:Mem},aB An FF fid (some d) 15 [.agg X,.agg X] m=some (.bool true,m)
theorem k15 (f:Cd) (hf:Sized f) {fid:FuncId}{d:Tmp}{m:Mem}:aB An FF fid (some d) 15 [.agg (aZ f),.agg (aZ f)] m=some (.bool true,m):=by
 obtain⟨_,⟨H',rfl⟩,h⟩:=x15 f hf
 exact cr h (fun _ _ _=>rfl) rfl (by simp only[cans,aC,codeE.can]) rfl (by simp only[noGs,noG,codeE.noG,Bool.and_self]) rfl
theorem tS (l:Lay) (f:Cd) (fs:List Fact) (hf:Sized f) (hfs:∀ x ∈ fs,x.wf) (hN:∀ p ∈ f.parts,p.nodes.length*112≤140737488355328) :
  FreeK l f fs (if bG f=true then aZ (de l fs f) else [.nil,.int .i64 0]) (if bG f=true then cO l fs f.parts else 0) (if bG f=true then 0 else 160):=by
 obtain⟨_,⟨H1,rfl⟩,h1⟩:=x14 l f fs hf hfs hN
 obtain⟨_,⟨H2,rfl⟩,h2⟩:=x17 l f fs hf hfs hN
 have hcan:cans [.agg (cX l),.agg (aZ f),sl cx fs]=[.agg (cX l),.agg (aZ f),sl cx fs]:=by simp only[cans,aC,codeE.can,layE.can,factE.can_sl]
 have hno:noGs [.agg (cX l),.agg (aZ f),sl cx fs]=true:=by simp only[noGs,noG,layE.noG,codeE.noG,factE.noG_sl,Bool.and_self]
 have hcv:∀ {v:CV},can v=sl cx fs→cans [.agg (cX l),.agg (aZ f),v]=[.agg (cX l),.agg (aZ f),sl cx fs]:=fun {v} h=>by simp only[cans,aC,codeE.can,layE.can,h]
 have hxv:∀ {v:CV},eV v=true→[.agg (cX l),.agg (aZ f),v].all eV=true:=fun {v} h=>by
  simp only[List.all_cons,List.all_nil,h,Bool.and_true];rfl
 have hnv:∀ {v:CV},noG v=true→noGs [.agg (cX l),.agg (aZ f),v]=true:=fun {v} h=>by simp only[noGs,noG,layE.noG,codeE.noG,h,Bool.and_self]
 cases hc:bG f with
 |true=>
  rw[hc,if_pos rfl] at h1 h2
  have hn:noG (.tuple [.agg [sl ptC (de l fs f).parts,.int .i64 f.values],.int .i64 (cO l fs f.parts),.int .i64 0])=true:=by
   simp only[noG,noGs,eo,ptE.noG_sl,Bool.and_self]
  exact⟨rfl,fun {_ _ _ _} v1 v2 v3=>ek h1 rfl (hcv v1) (hxv v2) (hnv v3) hn,fun {_ _ _}=>ek h2 rfl hcan rfl hno hn,fun {_ _ _}=>k15 (de l fs f) hf.free⟩
 |false=>
  rw[hc,if_neg (by decide)] at h1 h2
  obtain⟨_,⟨H3,rfl⟩,h3⟩:=x15 ⟨[],0⟩ ⟨by simp,by simp,by simp,by simp⟩
  exact⟨rfl,fun {_ _ _ _} v1 v2 v3=>ek h1 rfl (hcv v1) (hxv v2) (hnv v3) rfl,fun {_ _ _}=>ek h2 rfl hcan rfl hno rfl,fun {_ _ _}=>cr h3 (fun _ _ _=>rfl) rfl rfl rfl rfl rfl⟩
end Go.Cm
namespace Go.Cm
open Go.Proofs Go.Ir Go.Gr
theorem D0 {l:Lay}{n:Nd}:gB l [] n=false:=by
 unfold gB;rw[List.getElem?_nil];simp
theorem xi {l:Lay}{f:Cd}:de l [] f=f:=by
 have h1:cH l []=id:=by funext n;exact kJ D0
 have h2:bU l []=id:=by funext p;simp only[bU,h1,List.map_id];rfl
 simp only[de,h2,List.map_id]
theorem xj {l:Lay}{ps:List Pt}:cO l [] ps=0:=by
 induction ps with
 |nil=>rfl
 |cons p ps ih=>
  have:ec l [] p.nodes=0:=by simp[ec,D0]
  have h4:cO l [] (p::ps)=ec l [] p.nodes+cO l [] ps:=by simp[cO]
  rw[h4,this,ih]
section
variable {l:Lay}{fs:List Fact}
theorem v7 {n:Nd}:gB l fs (cH l fs n)=false:=by
 cases h:gB l fs n with
 |false=>rw[kJ h,h]
 |true=>rw[qw h];unfold gB;simp
theorem rS {f:Cd}:de l fs (de l fs f)=de l fs f:=by
 have h1:∀ ns:List Nd,(ns.map (cH l fs)).map (cH l fs)=ns.map (cH l fs):=fun ns=>by
  rw[List.map_map];exact List.map_congr_left fun n _=>kJ v7
 simp only[de,List.map_map]
 refine congrArg (fun x=>Cd.mk x f.values) (List.map_congr_left fun p _=>?_)
 simp only[Function.comp,bU,h1]
theorem rV {ps:List Pt}:cO l fs (ps.map (bU l fs))=0:=by
 induction ps with
 |nil=>rfl
 |cons p ps ih=>
  have:ec l fs (bU l fs p).nodes=0:=by
   have:(bU l fs p).nodes.filter (gB l fs)=[]:=by
    rw[List.filter_eq_nil_iff]
    intro a ha
    obtain⟨n,_,rfl⟩:=List.mem_map.1 ha
    rw[v7];decide
   rw[ec,this];rfl
  have h4:cO l fs ((p::ps).map (bU l fs))=ec l fs (bU l fs p).nodes+cO l fs (ps.map (bU l fs)):=by simp[cO]
  rw[h4,this,ih]
theorem kO {i:Int}:∀ {ns:List Nd}{k:Nat}{q:List (Option (Int×Int))},ck i k (ns.map (cH l fs)) q=ck i k ns q
 |[],_,_=>rfl
 |n::ns,k,q=>by
  have h1:bX (cH l fs n)=bX n:=by unfold cH;split<;>rfl
  have h2:(cH l fs n).op=n.op:=by unfold cH;split<;>rfl
  have h3:(cH l fs n).id=n.id:=by unfold cH;split<;>rfl
  have ih:∀ k q,ck i k (ns.map (cH l fs)) q=ck i k ns q:=fun k q=>kO
  have ih':∀ k,ck i k (ns.map (cH l fs))=ck i k ns:=fun k=>funext fun q=>ih k q
  simp only[List.map_cons,ck,h1,h2,h3,ih']
theorem kP:∀ {ps:List Pt}{i:Nat}{q:List (Option (Int×Int))},cJ i (ps.map (bU l fs)) q=cJ i ps q
 |[],_,_=>rfl
 |p::ps,i,q=>by
  have ih':cJ (i+1) (ps.map (bU l fs))=cJ (i+1) ps:=funext fun q=>kP
  have h1:ck (i:Int) 0 (bU l fs p).nodes=ck i 0 p.nodes:=funext fun q=>kO
  simp only[List.map_cons,cJ,ih',h1]
  rfl
theorem oy {f:Cd}:aE (de l fs f)=aE f:=by
 simp only[aE,de,List.map_map];rfl
theorem sw {g:List (List Int)}{q:List (Option (Int×Int))}{i:Int}{p:Pt}:eg g q i (bU l fs p)=eg g q i p:=by
 have hl:(bU l fs p).nodes.length=p.nodes.length:=by simp[bU]
 have hu:∀ n,eF (cH l fs n)=eF n:=fun n=>by unfold cH;split<;>rfl
 have hk:∀ k,jD g q i (bU l fs p) k=jD g q i p k:=fun k=>by
  unfold jD
  simp only[bU,List.getElem?_map]
  cases p.nodes[k]? with
  |none=>rfl
  |some n=>simp only[Option.map_some,hu]
 rw[ep,ep,hl,show jD g q i (bU l fs p)=jD g q i p from funext hk]
 rfl
theorem l7 {f:Cd}:bG (de l fs f)=bG f:=by
 have hl:(de l fs f).parts.length=f.parts.length:=by simp[de]
 have hv:(de l fs f).values=f.values:=rfl
 have hw:bY (de l fs f)=bY f:=by
  unfold bY
  rw[oy,hl]
  simp only[de,List.all_map,List.map_map]
  rfl
 have hp:cq (de l fs f)=cq f:=by
  unfold cq
  exact kP
 have hu:∀ q,ew (de l fs f) q=ew f q:=fun q=>by
  unfold ew
  rw[oy,hl]
  congr 1
  funext i
  simp only[de,List.getElem?_map]
  cases f.parts[i]? with
  |none=>rfl
  |some p=>simp only[Option.map_some,sw]
 unfold bG
 rw[hl,hv,hw,hp]
 simp only[hu]
end
theorem x3 (l:Lay) (f:Cd) (fs:List Fact) (hfit:Fit f) (hfs:∀ x ∈ fs,x.wf) (hN:∀ p ∈ f.parts,p.nodes.length*112≤140737488355328) :
  ∃ r,(∃ H',r=(CV.bool true,H'))∧FF 3 [.agg (cX l),.agg (aZ f),sl cx fs] []=some r:=by
 have hkh:=fun d m=>k13 (fid:=3) (d:=d) (m:=m)
 obtain⟨b,hb⟩:∃ b,(decide ((f.parts.length:Int)≤100)&&decide (f.values≤1000))=b:=⟨_,rfl⟩
 have hks:∀ d m,aB An FF 3 (some d) 12 [.agg [sl ptC f.parts,.int .i64 f.values]] m=_:=fun d m=>k12 f (fid:=3) (d:=d) (m:=m) hb
 cases b with
 |false=>
  refine bA rfl Try.func3 s3 (Nat.le_of_ble_eq_true rfl) (fun Q hqr hqn=>?_)
  rw[bf (show An.pure 3=true from rfl) (by simp only[cans,aG,az,aC,aH,codeE.can,layE.can,factE.can_sl])]
  simp only[aO,Nat.reduceAdd,c3]
  repeat' (first
  |with_reducible (first|refine ai ?_|refine au rfl ?_|refine be ?_)
  |(with_reducible (first|(refine ah (fun K hK=>?_);(first|refine t3r0 ?_|refine t3r1 ?_|refine t3r2 ?_))|refine hqr _ ?_);(try simp only[SS,Nat.reduceEqDiff,ap,bv,aR,Nat.reduceAdd,Bool.not_false,r3,aQ,ak,aD,am,aZ,hks,hkh]))
  |(revert hK;intro hK;(with_reducible refine hK _ ?_;clear hK K)))
  exact⟨_,rfl⟩
 |true=>
  have hf:Sized f:=hfit.sized (by simp only[Bool.and_eq_true,decide_eq_true_eq] at hb;omega)
  have hN2:∀ p ∈ (de l fs f).parts,p.nodes.length*112≤140737488355328:=fun p hp=>by
   obtain⟨q,hq,rfl⟩:=List.mem_map.1 hp
   simp only[bU,List.length_map]
   exact hN q hq
  have a1:=tS l f [] hf (fun _ h=>by simp at h) hN
  have a2:=tS l f fs hf hfs hN
  have a3:=tS l (de l fs f) fs hf.free hfs hN2
  rw[xi,xj] at a1
  rw[l7,rS] at a3
  rw[show cO l fs (de l fs f).parts=0 from rV] at a3
  cases hc:bG f with
  |false=>
   rw[hc] at a1 a2 a3
   simp only[Bool.false_eq_true,if_false] at a1 a2 a3
   have k1:=fun d m=>a1.own (v:=.nil) rfl rfl rfl (fid:=3) (d:=d) (m:=m)
   have k2:=fun d m=>a2.own (v:=sl cx fs) (factE.can_sl fs) rfl (factE.noG_sl fs) (fid:=3) (d:=d) (m:=m)
   simp only[aZ] at k1 k2
   refine bA rfl Try.func3 s3 (Nat.le_of_ble_eq_true rfl) (fun Q hqr hqn=>?_)
   rw[bf (show An.pure 3=true from rfl) (by simp only[cans,aG,az,aC,aH,codeE.can,layE.can,factE.can_sl])]
   simp only[aO,Nat.reduceAdd,c3]
   repeat' (first
   |with_reducible (first|refine ai ?_|refine ar ?_|refine au rfl ?_|refine ax rfl ?_|refine be ?_)
   |(with_reducible (first|(refine ah (fun K hK=>?_);(first|refine t3r0 ?_|refine t3r1 ?_|refine t3r3 ?_|refine t3r4 ?_|refine t3r5 ?_|refine t3r6 ?_))|refine hqr _ ?_);(try simp only[SS,Nat.reduceEqDiff,ap,bv,aR,aS,Nat.reduceAdd,br,Bool.not_true,ay,r3,aQ,ak,aD,am,aZ,bR,cY,hks,k1,k2,cV,hkh]))
   |(revert hK;intro hK;(first|refine And.intro ?_ ?_|intro _|omega|(with_reducible refine hK _ ?_;clear hK K))))
   exact⟨_,rfl⟩
  |true=>
   rw[hc] at a1 a2 a3
   simp only[if_true] at a1 a2 a3
   have k1:=fun d m=>a1.own (v:=.nil) rfl rfl rfl (fid:=3) (d:=d) (m:=m)
   have k2:=fun d m=>a2.own (v:=sl cx fs) (factE.can_sl fs) rfl (factE.noG_sl fs) (fid:=3) (d:=d) (m:=m)
   have k3:=fun d m=>a3.own (v:=sl cx fs) (factE.can_sl fs) rfl (factE.noG_sl fs) (fid:=3) (d:=d) (m:=m)
   have u1:=fun d m=>a1.same (fid:=3) (d:=d) (m:=m)
   have u3:=fun d m=>a3.same (fid:=3) (d:=d) (m:=m)
   have kc:=fun d m=>k16 (de l fs f) hf.free (fid:=3) (d:=d) (m:=m)
   simp only[l7,hc,if_true] at kc
   obtain⟨P,hP⟩:∃ P,(de l fs f).parts=P:=⟨_,rfl⟩
   simp only[aZ,hP,show(de l fs f).values=f.values from rfl] at k1 k2 k3 u1 u3 kc
   refine bA rfl Try.func3 s3 (Nat.le_of_ble_eq_true rfl) (fun Q hqr hqn=>?_)
   rw[bf (show An.pure 3=true from rfl) (by simp only[cans,aG,az,aC,aH,codeE.can,layE.can,factE.can_sl])]
   simp only[aO,Nat.reduceAdd,c3]
   repeat' (first
   |with_reducible (first|refine ai ?_|refine ar ?_|refine ax rfl ?_|refine aF ?_)
   |(with_reducible (first|(refine ah (fun K hK=>?_);(first|refine t3r0 ?_|refine t3r1 ?_|refine t3r3 ?_|refine t3r4 ?_|refine t3r5 ?_|refine t3r7 ?_|refine t3r8 ?_))|refine hqr _ ?_);(try simp only[SS,Nat.reduceEqDiff,ap,bv,aR,aS,Nat.reduceAdd,br,Bool.not_true,ay,r3,aQ,ak,aD,am,aZ,bR,cY,hks,k1,k2,k3,u1,u3,kc,cV,hkh]))
   |(revert hK;intro hK;(first|refine And.intro ?_ ?_|intro _|omega|(with_reducible refine hK _ ?_;clear hK K))))
   exact⟨_,rfl⟩
end Go.Cm
