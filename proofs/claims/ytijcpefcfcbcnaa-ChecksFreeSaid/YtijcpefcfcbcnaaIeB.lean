import Derived.Test.YtijcpefcfcbcnaaIlA
import Derived.Test.YtijcpefcfcbcnaaIzD
import Derived.Test.YtijcpefcfcbcnaaIyH
import Derived.Test.YtijcpefcfcbcnaaCxH
set_option linter.unusedSimpArgs false
set_option linter.unusedVariables false
namespace Go.Cm
open Go.Proofs Go.Ir Go.Gr
theorem x19 (l:Lay) (f:Fact) (hf:f.wf) (n:Int) (w:Bool):FF 19 [.agg (cX l),.agg (cx f),.int .i64 n,.bool w] []=some (.bool (fh l f n w),[]):=by
 refine aL rfl Try.func19 s19 (Nat.le_of_ble_eq_true rfl) (fun Q hqr hqn=>?_)
 rw[bf (show An.pure 19=true from rfl) (by simp only[cans,aG,az,aC,aH,layE.can,factE.can])]
 simp only[aO,Nat.reduceAdd,c19]
 have hr0:=hf.1.1
 have hr1:=hf.1.2
 cases ha:df l f.region with
 |none=>
  simp only[fh,ha] at hqr hqn
  cases hs:f.seen
  all_goals
   repeat' (first
   |with_reducible (first|refine ai ?_|refine au rfl ?_|refine be ?_)
   |(with_reducible (first|(refine ah (fun K hK=>?_);(first|refine t19r0 ?_|refine t19r1 ?_|refine t19r2 ?_|refine t19r3 ?_))|refine hqr _ ?_);(try simp only[SS,Nat.reduceEqDiff,ap,bv,aR,aS,Nat.reduceAdd,bI,Bool.not_true,Bool.not_false,dT,ay,r19,aQ,ak,aD,am,bR,cY,eI,qt,mI,k52 l f.region hr0 hr1,ey,ha,hs]))
   |(revert hK;intro hK;(with_reducible refine hK _ ?_;clear hK K)))
 |some a=>
  simp only[fh,ha] at hqr hqn
  have hsz:=lX ha
  have hw:1≤n∧n≤a.size→IntKind.i64.wrap (a.size - n)=a.size - n:=fun h=>wI (by omega) (by omega)
  cases hs:f.seen<;>cases w<;>cases hwr:a.write
  all_goals
   repeat' (first
   |with_reducible (first|refine ai ?_|refine ar ?_|refine au rfl ?_|refine ax rfl ?_|refine be ?_|refine aF ?_)
   |(with_reducible (first|(refine ah (fun K hK=>?_);(first|refine t19r0 ?_|refine t19r1 ?_|refine t19r2 ?_|refine t19r3 ?_|refine t19r4 ?_))|refine hqr _ ?_);(try simp only[SS,Nat.reduceEqDiff,ap,bv,aR,aS,Nat.reduceAdd,cB,bq,bI,Bool.not_true,Bool.not_false,fe,dT,ay,Bool.true_and,Bool.and_true,Bool.or_false,Bool.or_true,r19,aQ,ak,aD,am,bR,cY,eI,qt,mI,vY,vZ,k52 l f.region hr0 hr1,ey,ha,dc,hs,hwr]))
   |(revert hK;intro hK;(first|refine And.intro ?_ ?_|intro _|(with_reducible refine hK _ ?_;clear hK K))))
  all_goals (first|rfl|(simp<;>omega)|skip)
theorem k19 (l:Lay) (f:Fact) (hf:f.wf) (n:Int) (w:Bool) {fid:FuncId}{d:Tmp}{m:Mem}:aB An FF fid (some d) 19 [.agg (cX l),.agg (cx f),.int .i64 n,.bool w] m=some (.bool (fh l f n w),m):=by
 rw[el (x19 l f hf n w) rfl (by simp only[List.all_cons,List.all_nil,fV,jW,v6,Bool.and_self,fW,pJ]) (by simp only[noGs,iQ,v4,Bool.and_self,eo,kT]) rfl,eY]
theorem eqNil58 (n:Nat) (c:CV) (cs:List CV) (x y:Operand):aw Try.prog .eql 27 x y (.imm (n+1) (c::cs)) .nil=some (.bool false):=by
 simp only[aw,eqC,ceq,Try.underlying27,Option.map_some]
theorem eqNil67 (n:Nat) (c:CV) (cs:List CV) (x y:Operand):aw Try.prog .eql 53 x y (.imm (n+1) (c::cs)) .nil=some (.bool false):=by
 simp only[aw,eqC,ceq,Try.underlying53,Option.map_some]
theorem lJ {b n:Nat}(hb:b≤1024) (hn:n≤17592186044416) (h:n*b≤140737488355328):cN b n=true:=by
 simp only[cN,Bool.and_eq_true,decide_eq_true_eq]
 exact⟨hb,Nat.le_trans hn (by decide),h⟩
theorem x42 (l:List Pt) (hl:l.length*128≤140737488355328):FF 42 [sl ptC l] []=some (gz ptC 10 l,[]):=by
 cases l with
 |nil=>exact xK.2 ⟨1,rfl⟩
 |cons a l=>
  simp only[List.length_cons] at hl
  have hcl:=bC ptE.len (a::l)
  have hc:gz ptC 10 (a::l)=.own (l.length+1) 10 ((a::l).flatMap ptC) 0:=rfl
  obtain⟨x,xs,hx⟩:∃ x xs,(a::l).flatMap ptC=x::xs:=⟨_,_,rfl⟩
  have hsl:sl ptC (a::l)=.imm (l.length+1) (x::xs):=by rw[←hx];rfl
  have hcan:=ptE.can_sl (a::l)
  rw[hx] at hcl
  simp only[List.length_cons] at hcl
  rw[hsl] at hcan
  rw[hc,hx,hsl]
  have hq:=eqNil58 l.length x xs
  have hs':cN 128 (l.length+1)=true:=lJ (by decide) (by omega) (by omega)
  have he:∀ m,bp m []=some ([],m):=fun _=>rfl
  have hct:∀ m,content m 10 (.imm (l.length+1) (x::xs))=some (x::xs):=fun m=>by simp only[content,List.length_cons,hcl,if_true]
  refine aL rfl Try.func42 s42 (Nat.le_of_ble_eq_true rfl) (fun Q hqr hqn=>?_)
  rw[bf (show An.pure 42=true from rfl) (by simp only[cans,aG,az,aC,aH,hcan])]
  simp only[aO,Nat.reduceAdd,c42]
  repeat' (first
  |with_reducible (first|refine ai ?_|refine ar ?_|refine ax rfl ?_|refine aF ?_)
  |(with_reducible (first|(refine ah (fun K hK=>?_);(first|refine t42r0 ?_|refine t42r1 ?_|refine t42r3 ?_))|refine hqr _ ?_);(try simp only[SS,Nat.reduceEqDiff,dj,ef,aS,Nat.reduceMul,dy,fP,ea,bg,cd,r42,aQ,ak,aD,am,dq,bV,Nat.sub_self,hq,he,hct,nr]))
  |(revert hK;intro hK;(first|refine And.intro ?_ ?_|omega|(with_reducible refine hK _ ?_;clear hK K))))
  all_goals first|exact hs'|skip
  ·rw[List.take_of_length_le (by simp only[List.length_cons];omega)]
theorem x43 (l:List Nd) (hl:l.length*112≤140737488355328):FF 43 [sl ndC l] []=some (gz ndC 12 l,[]):=by
 cases l with
 |nil=>exact xK.2 ⟨1,rfl⟩
 |cons a l=>
  simp only[List.length_cons] at hl
  have hcl:=bC ndE.len (a::l)
  have hc:gz ndC 12 (a::l)=.own (l.length+1) 12 ((a::l).flatMap ndC) 0:=rfl
  obtain⟨x,xs,hx⟩:∃ x xs,(a::l).flatMap ndC=x::xs:=⟨_,_,rfl⟩
  have hsl:sl ndC (a::l)=.imm (l.length+1) (x::xs):=by rw[←hx];rfl
  have hcan:=ndE.can_sl (a::l)
  rw[hx] at hcl
  simp only[List.length_cons] at hcl
  rw[hsl] at hcan
  rw[hc,hx,hsl]
  have hq:=eqNil67 l.length x xs
  have hs':cN 112 (l.length+1)=true:=lJ (by decide) (by omega) (by omega)
  have he:∀ m,bp m []=some ([],m):=fun _=>rfl
  have hct:∀ m,content m 12 (.imm (l.length+1) (x::xs))=some (x::xs):=fun m=>by simp only[content,List.length_cons,hcl,if_true]
  refine aL rfl Try.func43 s43 (Nat.le_of_ble_eq_true rfl) (fun Q hqr hqn=>?_)
  rw[bf (show An.pure 43=true from rfl) (by simp only[cans,aG,az,aC,aH,hcan])]
  simp only[aO,Nat.reduceAdd,c43]
  repeat' (first
  |with_reducible (first|refine ai ?_|refine ar ?_|refine ax rfl ?_|refine aF ?_)
  |(with_reducible (first|(refine ah (fun K hK=>?_);(first|refine t43r0 ?_|refine t43r1 ?_|refine t43r3 ?_))|refine hqr _ ?_);(try simp only[SS,Nat.reduceEqDiff,dj,ef,aS,Nat.reduceMul,dy,fP,ea,bg,cd,r43,aQ,ak,aD,am,dq,bV,Nat.sub_self,hq,he,hct,nr]))
  |(revert hK;intro hK;(first|refine And.intro ?_ ?_|omega|(with_reducible refine hK _ ?_;clear hK K))))
  all_goals first|exact hs'|skip
  ·rw[List.take_of_length_le (by simp only[List.length_cons];omega)]
end Go.Cm
namespace Go.Cm
theorem bslX_E {j sz n:Nat}{z cs xs:List CV}{ps:List (Nat×Nat×CV)}{m m1:Mem}(hf:bg z ps=some cs) (he:bp m cs=some (xs,m1)) :
  cd false j sz n z ps m=some (.ref (.l j) (bj m1.L j) 0 n,bi m1 j (.arr (bj m1.L j) sz xs 0)):=by
 unfold cd
 rw[hf]
 simp only[Option.bind_some,he,Option.map_some]
 rfl
theorem OwnV.esc5 {α:Type}{e:α→List CV}{sz j:Nat}{m:Mem}{v:CV}{l:List α}(h:OwnV e sz m j v l) (hs:∀ a,(e a).length=sz):∃ m1,esc 5 v m=some (rowC e l,m1)∧m1.H=m.H:=by
 rcases h with⟨rfl,rfl⟩|⟨hne,g,vl,rfl,h1,_⟩
 ·exact⟨m,rfl,rfl⟩
 ·refine⟨bi m j (.arr g sz (l.flatMap e) (max vl (l.length*sz))),?_,rfl⟩
  have hr:rowC e l=.imm l.length (l.flatMap e):=by
   cases l with
   |nil=>exact absurd rfl hne
   |cons a l=>rfl
  simp only[esc,h1,if_true,List.drop_zero,HO.seen,Nat.zero_add,hr]
  rw[List.take_of_length_le (by rw[bC hs];exact Nat.le_refl _)];rfl
end Go.Cm
