import Derived.Test.YtijcpefcfcbcnaaGrB
import Derived.Test.YtijcpefcfcbcnaaIeC
import Derived.Test.YtijcpefcfcbcnaaIvC
import Derived.Test.YtijcpefcfcbcnaaIrD
set_option linter.unusedSimpArgs false
set_option linter.unusedVariables false
namespace Go.Cm
open Go.Proofs
end Go.Cm
namespace Go.Cm
open Go.Proofs Go.Ir Go.Gr
theorem x12 (f:Cd):FF 12 [.agg (aZ f)] []=some (.bool (decide ((f.parts.length:Int)≤100)&&decide (f.values≤1000)),[]):=by
 by_cases h1:(f.parts.length:Int)≤100
 ·by_cases h2:f.values≤1000
  all_goals
   refine aL rfl Try.func12 s12 (Nat.le_of_ble_eq_true rfl) (λQ hqr hqn=>?_);rw[bf (show An.pure 12=true from rfl) (by simp only[cans,aG,az,aC,aH,codeE.can])];simp only[aO,Nat.reduceAdd,c12]
   repeat' (first
   |with_reducible refine aF ?_
   |(with_reducible (first|(refine ah (λK hK=>?_);(first|refine t12r0 ?_|refine t12r1 ?_))|refine hqr _ ?_);(try simp only[SS,ap,cB,lenS,Bool.and_self,Bool.true_and,decide_false,decide_true,r12,aQ,ak,aD,am,aZ,aP,h1,h2]))
   |(with_reducible refine hK _ ?_;clear hK K))
   all_goals simp[h1,h2]
 ·refine aL rfl Try.func12 s12 (Nat.le_of_ble_eq_true rfl) (λQ hqr hqn=>?_)
  rw[bf (show An.pure 12=true from rfl) (by simp only[cans,aG,az,aC,aH,codeE.can])];simp only[aO,Nat.reduceAdd,c12]
  repeat' (first
  |with_reducible refine aF ?_
  |(with_reducible (first|(refine ah (λK hK=>?_);(first|refine t12r0 ?_|refine t12r1 ?_))|refine hqr _ ?_);(try simp only[SS,ap,cB,lenS,decide_false,r12,aQ,ak,aD,am,aZ,aP,h1]))
  |(with_reducible refine hK _ ?_;clear hK K))
  all_goals simp[h1]
theorem k12 (f:Cd) {fid:FuncId}{d:Tmp}{m:Mem}{b:Bool}(hb:(decide ((f.parts.length:Int)≤100)&&decide (f.values≤1000))=b):aB An FF fid (some d) 12 [.agg (aZ f)] m=some (.bool b,m):=by
 rw[←hb];exact cr (Cm.x12 f) (λ_ _ _=>rfl) rfl (by simp only[cans,aC,codeE.can]) rfl (by simp only[noGs,noG,codeE.noG,Bool.and_self]) rfl
theorem freeN_args {l:Lay}{fs:List Fact}{n:Nd}:(cH l fs n).args=n.args∧(cH l fs n).imm=n.imm:=by
 unfold cH;split<;>exact⟨rfl,rfl⟩
theorem Sized.free {l:Lay}{fs:List Fact}{f:Cd}(h:Sized f):Sized (de l fs f) where
 parts:=by simp only[de,List.length_map];exact h.parts
 pred p hp:=by
  obtain⟨q,hq,rfl⟩:=List.mem_map.1 hp;exact h.pred q hq
 phis p hp:=by
  obtain⟨q,hq,rfl⟩:=List.mem_map.1 hp;exact h.phis q hq
 nodes p hp:=by
  obtain⟨q,hq,rfl⟩:=List.mem_map.1 hp;obtain⟨h1,h2⟩:=h.nodes q hq
  refine⟨by simp only[bU,List.length_map];exact h1,λn hn=>?_⟩
  obtain⟨x,hx,rfl⟩:=List.mem_map.1 hn;rw[freeN_args.1,freeN_args.2];exact h2 x hx
structure FreeK (l:Lay) (f:Cd) (fs:List Fact) (X:List CV) (n e:Int):Prop where
 two:X.length=2
 own:∀{fid:FuncId}{d:Tmp}{m:Mem}{v:CV},can v=sl cx fs→eV v=true→noG v=true→aB An FF fid (some d) 14 [.agg (cX l),.agg (aZ f),v] m=some (.tuple [.agg X,.int .i64 n,.int .i64 e],m)
 doc:∀{fid:FuncId}{d:Tmp}{m:Mem},aB An FF fid (some d) 17 [.agg (cX l),.agg (aZ f),sl cx fs] m=some (.tuple [.agg X,.int .i64 n,.int .i64 e],m)
 same:∀{fid:FuncId}{d:Tmp}{m:Mem},aB An FF fid (some d) 15 [.agg X,.agg X] m=some (.bool true,m)
theorem k15 (f:Cd) (hf:Sized f) {fid:FuncId}{d:Tmp}{m:Mem}:aB An FF fid (some d) 15 [.agg (aZ f),.agg (aZ f)] m=some (.bool true,m):=by
 obtain⟨_,⟨H',rfl⟩,h⟩:=x15 f hf;exact cr h (λ_ _ _=>rfl) rfl (by simp only[cans,aC,codeE.can]) rfl (by simp only[noGs,noG,codeE.noG,Bool.and_self]) rfl
end Go.Cm
namespace Go.Cm
open Go.Proofs
def Hx:Option (CV×List HO)→Bool
 |some (.bool true,_)=>true
 |_=>false
theorem Je {x:Option (CV×List HO)}(h:Hx x=true):∃H,x=some (.bool true,H):=by
 unfold Hx at h
 split at h
 ·exact⟨_,rfl⟩
 ·cases h
theorem Fw_E19 {P:Program}{A:Ann}{E:aW}{f:FuncId}{args:List CV}{H:List HO}{r:CV×List HO}(h:E f (cin (A.pure f) args) H=some r):Fw P A E f args H=some r:=
 xK.2 ⟨1,by simp only[dW,h]⟩
theorem Iz:Hx hx19=true:=by kernel_rfl
theorem only19:EE 21 [] []=mi hx19 [] []:=by simp only[EE,tab,Nat.reduceEqDiff,if_true,if_false]
theorem HZ (h:Option (CV×List HO)):mi h [] []=h:=rfl
theorem x21:∃H',FF 21 [] []=some (.bool true,H'):=by
 obtain⟨H',h⟩:=Je Iz
 exact⟨H',Fw_E19 ((only19.trans (HZ _)).trans h)⟩
theorem k21 {fid:FuncId}{d:Tmp}{m:Mem}:aB An FF fid (some d) 21 [] m=some (.bool true,m):=by
 obtain⟨H',h⟩:=x21;rw[ek h rfl rfl rfl rfl rfl,eY]
end Go.Cm
namespace Go.Cm
open Go.Proofs Go.Ir Go.Gr
def GQ (ps:List Pt):Nat:=(ps.map λp=>p.phis.length+p.nodes.length).sum
theorem Iw {ps:List Pt}{p:Pt}:GQ (ps++[p])=GQ ps+(p.phis.length+p.nodes.length):=by
 simp only[GQ,List.map_append,List.map_cons,List.map_nil,List.sum_append,List.sum_cons,List.sum_nil,Nat.add_zero]
theorem J7 {ps:List Pt}(h:∀p∈ps,p.phis.length≤1048576∧p.nodes.length≤1048576):GQ ps≤ps.length*2097152:=by
 induction ps with
 |nil=>simp[GQ]
 |cons p ps ih=>
  have h1:=ih λq hq=>h q (List.mem_cons_of_mem _ hq);have h2:=h p (List.mem_cons_self ..);have h4:GQ (p::ps)=(p.phis.length+p.nodes.length)+GQ ps:=by simp[GQ]
  rw[h4,List.length_cons,Nat.add_mul,Nat.one_mul];omega
theorem x26 (f:Cd) (hf:f.parts.length≤1048576) (hS:∀p∈f.parts,p.phis.length≤1048576∧p.nodes.length≤1048576):FF 26 [.agg (aZ f)] []=some (.int .i64 (GQ f.parts),[]):=by
 refine aL rfl Try.func26 s26 (Nat.le_of_ble_eq_true rfl) (λQ hqr hqn=>?_);rw[bf (show An.pure 26=true from rfl) (by simp only[cans,aG,az,aC,aH,codeE.can])];simp only[aO,Nat.reduceAdd,c26]
 repeat' (first
 |with_reducible (first|refine ai ?_|refine aj (id:=0) (λQ0 hn0 hx0 hr0 ho0=>?_))
 |(with_reducible (refine ah (λK hK=>?_);(first|refine t26r0 ?_|refine t26r1 ?_|refine t26r2 ?_));(try simp only[SS,Nat.reduceEqDiff,ap,lenS,aZ,aP]))
 |(with_reducible refine hK _ ?_;clear hK K))
 refine aU (λk s=>∃(d t:List Pt) (L:List (Nat×HO)),f.parts=d++t∧k=t.length ∧
  s=⟨[(3,.int .i64 (GQ d)),(7,sl ptC f.parts),(8,.int .i64 f.parts.length),(9,.int .i64 d.length)],⟨L,[]⟩⟩) _ ⟨[],f.parts,_,rfl,rfl,rfl⟩ ?_
 rintro k s ⟨d,t,L,h3,rfl,rfl⟩ QL0 hnL0 hxL0 hrL0;have hlen:=congrArg List.length h3;simp only[List.length_append] at hlen;simp only[c26l0]
 cases t with
 |nil=>
  simp only[List.length_nil] at hlen;rw[List.append_nil] at h3
  repeat' (first
  |with_reducible (first|refine ax rfl ?_|refine aN ?_|refine aF ?_|refine hx0 _ ?_|refine hxL0 _ _ ?_)
  |(with_reducible (first|(refine ah (λK hK=>?_);(first|refine t26r3 ?_|refine t26r7 ?_))|refine hqr _ ?_);(try simp only[SS,Nat.reduceEqDiff,r26,aQ,ak,aD,am,bz,CV.int.injEq]))
  |(revert hK;intro hK;(first|refine And.intro ?_ ?_|intro _|omega|(with_reducible refine hK _ ?_;clear hK K))))
  rw[h3]
 |cons p t=>
  simp only[List.length_cons] at hlen;have hp:=hS p (by rw[h3];simp);have hc:=J7 (ps:=d) λq hq=>hS q (by rw[h3];exact List.mem_append_left _ hq);have hwd:IntKind.i64.wrap ((d.length:Int)+1)=d.length+1:=wI (by omega) (by omega);have hw1:IntKind.i64.wrap ((p.phis.length:Int)+p.nodes.length)=p.phis.length+p.nodes.length:=wI (by omega) (by omega);have hw2:IntKind.i64.wrap ((GQ d:Int)+(p.phis.length+p.nodes.length))=GQ d+(p.phis.length+p.nodes.length):=wI (by omega) (by omega)
  repeat' (first
  |with_reducible (first|refine ar ?_|refine au rfl ?_|refine aj (id:=1) (λQ1 hn1 hx1 hr1 ho1=>?_)|refine hn1 _ ?_)
  |(with_reducible ((first|refine ah (λK hK=>?_)|refine aI (λK hK=>?_));(first|refine t26r3 ?_|refine t26r4 ?_|refine t26r5 ?_|refine t26r6 ?_));(try simp only[SS,Nat.reduceEqDiff,ap,aS,Nat.reduceAdd,lenS,ay,aM ptE.len (by omega) h3,ct,ptC,aP,hw1,hw2,hwd]))
  |(revert hK;intro hK;(first|refine And.intro ?_ ?_|intro _|omega|(with_reducible refine hK _ ?_;clear hK K))))
  rw[show((d.length:Int)+1)=((d++[p]).length:Int) by simp,show((GQ d:Int)+(p.phis.length+p.nodes.length))=((GQ (d++[p]):Nat):Int) by rw[Iw];omega];exact hnL0 t.length _ (by simp) ⟨d++[p],t,_,by simp[h3],rfl,rfl⟩
theorem x20 (f:Cd):FF 20 [.agg (aZ f)] []=some (.bool (decide ((f.parts.length:Int)≤100)&&decide (f.values≤1000)),[]):=by
 by_cases h1:(f.parts.length:Int)≤100
 ·by_cases h2:f.values≤1000
  all_goals
   refine aL rfl Try.func20 s20 (Nat.le_of_ble_eq_true rfl) (λQ hqr hqn=>?_);rw[bf (show An.pure 20=true from rfl) (by simp only[cans,aG,az,aC,aH,codeE.can])];simp only[aO,Nat.reduceAdd,c20]
   repeat' (first
   |with_reducible refine aF ?_
   |(with_reducible (first|(refine ah (λK hK=>?_);(first|refine t20r0 ?_|refine t20r1 ?_))|refine hqr _ ?_);(try simp only[SS,ap,cB,lenS,Bool.and_self,Bool.true_and,decide_false,decide_true,r20,aQ,ak,aD,am,aZ,aP,h1,h2]))
   |(with_reducible refine hK _ ?_;clear hK K))
   all_goals simp[h1,h2]
 ·refine aL rfl Try.func20 s20 (Nat.le_of_ble_eq_true rfl) (λQ hqr hqn=>?_)
  rw[bf (show An.pure 20=true from rfl) (by simp only[cans,aG,az,aC,aH,codeE.can])];simp only[aO,Nat.reduceAdd,c20]
  repeat' (first
  |with_reducible refine aF ?_
  |(with_reducible (first|(refine ah (λK hK=>?_);(first|refine t20r0 ?_|refine t20r1 ?_))|refine hqr _ ?_);(try simp only[SS,ap,cB,lenS,decide_false,r20,aQ,ak,aD,am,aZ,aP,h1]))
  |(with_reducible refine hK _ ?_;clear hK K))
  all_goals simp[h1]
theorem k20 (f:Cd) {fid:FuncId}{d:Tmp}{m:Mem}{b:Bool}(hb:(decide ((f.parts.length:Int)≤100)&&decide (f.values≤1000))=b):aB An FF fid (some d) 20 [.agg (aZ f)] m=some (.bool b,m):=by
 rw[←hb];exact cr (x20 f) (λ_ _ _=>rfl) rfl (by simp only[cans,aC,codeE.can]) rfl (by simp only[noGs,noG,codeE.noG,Bool.and_self]) rfl
theorem Sized.dead {f:Cd}(h:Sized f):Sized (F4 f) where
 parts:=by simp only[F4,List.length_map];exact h.parts
 pred p hp:=by
  obtain⟨q,hq,rfl⟩:=G5 hp;exact h.pred q hq
 phis p hp:=by
  obtain⟨q,hq,rfl⟩:=G5 hp;obtain⟨h1,h2⟩:=h.phis q hq
  exact⟨Nat.le_trans (List.length_filter_le _ _) h1,λx hx=>h2 x (List.mem_filter.1 hx).1⟩
 nodes p hp:=by
  obtain⟨q,hq,rfl⟩:=G5 hp;obtain⟨h1,h2⟩:=h.nodes q hq
  exact⟨Nat.le_trans (List.length_filter_le _ _) h1,λx hx=>h2 x (List.mem_filter.1 hx).1⟩
structure RowR (G:List Pt) (R:CV):Prop where
 can:can R=sl ptC G
 esc:cz R=true
 noG:noG R=true
 len:cK R=some G.length
theorem RowR.of (G:List Pt):RowR G (rowC ptR G):=by
 refine⟨rD ptR_can G,?_,kV ptR_N G,?_⟩
 ·cases G<;>rfl
 ·cases G<;>rfl
end Go.Cm
