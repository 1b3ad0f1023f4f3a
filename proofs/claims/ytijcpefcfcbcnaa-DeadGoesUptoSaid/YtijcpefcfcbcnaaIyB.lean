import Derived.Test.YtijcpefcfcbcnaaProg
import Derived.WalkKit
import Derived.LaidEql
import Derived.Stop.Asserts
import Derived.RowKitTokens
import Derived.Test.YtijcpefcfcbcnaaCxH
import Derived.Test.YtijcpefcfcbcnaaCwA
set_option linter.unusedSimpArgs false
set_option linter.unusedVariables false
namespace Go.Proofs
open Go.RowKit Go.Extern.Stop Go.Stop Go.Extern Go.Extern.Rtype
theorem la {P:Program}{ti tp:TypeId}{k k':IntKind}{ms:Array (String×TypeId)}{i:TypeInfo}(x y:Int) (hi:P.underlying ti=some (.interface ms)) (hp:P.underlying tp=some (.int k')) (hinfo:P.info? tp=some i) (hcomp:i.comparable=true) (w:World) :
  (binOp .eql ti (.iface tp (.int k x)) (.iface tp (.int k y))).run P w=.ok (.bool (x==y)) w:=by
 have h:∀d:Nat,(Op.equalIn (d+2) ti (.iface tp (.int k x)) (.iface tp (.int k y))).run P w=.ok (x==y) w:=λd=>by simp[Op.equalIn,run_underlying hi,run_underlying hp,typeInfo,hinfo,hcomp]
 simp only[binOp];simp[Op.equal,Op.maxDepth,h 9998]
theorem mD {P:Program}{ti:TypeId}{ms:Array (String×TypeId)}(hi:P.underlying ti=some (.interface ms)) (w:World) :
  (binOp .eql ti .nilIface .nilIface).run P w=.ok (.bool true) w:=by
 have h:∀d:Nat,(Op.equalIn (d+1) ti .nilIface .nilIface).run P w=.ok true w:=λd=>by simp[Op.equalIn,run_underlying hi]
 simp only[binOp];simp[Op.equal,Op.maxDepth,h 9999]
theorem dF {P:Program}{ti:TypeId}{ms:Array (String×TypeId)}(tp:TypeId) (v:Value) (hi:P.underlying ti=some (.interface ms)) (w:World) :
  (binOp .eql ti (.iface tp v) .nilIface).run P w=.ok (.bool false) w:=by
 have h:∀d:Nat,(Op.equalIn (d+1) ti (.iface tp v) .nilIface).run P w=.ok false w:=λd=>by simp[Op.equalIn,run_underlying hi]
 simp only[binOp];simp[Op.equal,Op.maxDepth,h 9999]
theorem D3 (v:Value) (w:World):(Extern.ReflectliteType.typeOf #[.iface 127 v]).run Try.prog w=.ok (.iface 194 (.agg #[.pointer (some ⟨0,127,none⟩)])) w:=by kernel_rfl
theorem qD (w:World):((Extern.ReflectliteType.method λt=>do noPackHeld "Comparable" t;(λa=>Value.bool a.comparable) <$> typeInfo t) #[.agg #[.pointer (some ⟨0,127,none⟩)]]).run Try.prog w=.ok (.bool true) w:=by kernel_rfl
theorem jU (v:Value) (w:World):(Go.method 395 194 v "Comparable").run Try.prog w=.ok (181,v) w:=by kernel_rfl
theorem isComp:(Try.prog.info? 127).map (·.comparable)=some true:=by kernel_rfl
theorem noIsE (v:Value) (xT:TypeId) (w:World):(Instr.typeAssert (.iface 127 v) xT 196 true).run Try.prog w=.ok (.tuple #[.nilIface,.bool false]) w:=run_typeAssert_lacksB Try.underlying196 (by kernel_rfl) (by kernel_rfl) v xT w
theorem xw (v:Value) (xT:TypeId) (w:World):(Instr.typeAssert (.iface 127 v) xT 199 true).run Try.prog w=.ok (.tuple #[.nilIface,.bool false]) w:=run_typeAssert_lacksB Try.underlying199 (by kernel_rfl) (by kernel_rfl) v xT w
theorem ub (v:Value) (xT:TypeId) (w:World):(Instr.typeAssert (.iface 127 v) xT 200 true).run Try.prog w=.ok (.tuple #[.nilIface,.bool false]) w:=run_typeAssert_lacksB Try.underlying200 (by kernel_rfl) (by kernel_rfl) v xT w
theorem noIsW (v:Value) (xT:TypeId) (w:World):(Instr.typeAssert (.iface 152 v) xT 196 true).run Try.prog w=.ok (.tuple #[.nilIface,.bool false]) w:=run_typeAssert_lacksB Try.underlying196 (by kernel_rfl) (by kernel_rfl) v xT w
theorem tU (v:Value) (xT:TypeId) (w:World):(Instr.typeAssert (.iface 152 v) xT 199 true).run Try.prog w=.ok (.tuple #[.iface 152 v,.bool true]) w:=run_typeAssert_hasB Try.underlying199 (by kernel_rfl) v xT w
theorem qK (v:Value) (w:World):(Go.method 395 152 v "Unwrap").run Try.prog w=.ok (177,v) w:=by kernel_rfl
theorem is_nil (b:Value) (w:World):Calls Try.prog 63 #[.nilIface,.iface 127 b] w λe w'=>e=.returned (.bool false)∧w'=w:=by
 have hn:=run_eql_iface_nil_left (P:=Try.prog) w 127 b Try.underlying125;have hnn:=mD (P:=Try.prog) Try.underlying125 w
 go_enter Try.func63,Try.ntmps63
 go_wp2
 go_ret
 exact⟨rfl,rfl⟩
set_option maxRecDepth 20000 in
theorem is_wrap (blk off:Nat) (x y:Int) (w:World) (h1:w.cell? ⟨blk,off+1,none⟩=some (.int .i64 x)) :
  Calls Try.prog 63 #[.iface 152 (.pointer (some ⟨blk,off,none⟩)),.iface 127 (.int .i64 y)] w λe w'=>e=.returned (.bool (x==y))∧w'=w:=by
 obtain⟨i,hi,hcmp⟩:=Option.map_eq_some_iff.1 isComp;have h8:=@run_callFunc_extern Try.prog 94 _ Extern.ReflectliteType.typeOf Try.func94 (by kernel_rfl) (by kernel_rfl) (by kernel_rfl) (by kernel_rfl);have h32:=@run_callFunc_extern Try.prog 181 _ (Extern.ReflectliteType.method λt=>do noPackHeld "Comparable" t;pure (.bool (←typeInfo t).comparable)) Try.func181 (by kernel_rfl) (by kernel_rfl) (by kernel_rfl) (by kernel_rfl)
 have tT:=D3;have cT:=qD;have mR:=jU;have nE:=noIsE;have uE:=xw;have vE:=ub;have nW:=noIsW;have uW:=tU;have mU:=qK;have hn1:=dF (P:=Try.prog) 152 (.pointer (some ⟨blk,off,none⟩)) Try.underlying125 w;have hn2:=dF (P:=Try.prog) 127 (.int .i64 y) Try.underlying125 w;have hn3:=dF (P:=Try.prog) 127 (.int .i64 x) Try.underlying125 w;have hty:=run_eql_iface_types (P:=Try.prog) 152 127 (.pointer (some ⟨blk,off,none⟩)) (.int .i64 y) Try.underlying125 (by decide) w;have heq:=la (P:=Try.prog) (k:=.i64) x y Try.underlying125 Try.underlying127 hi hcmp w
 by_cases hxy:x=y
 ·subst hxy
  simp only[beq_self_eq_true] at heq ⊢
  go_enter Try.func63,Try.ntmps63
  go_wp2
  refine wp_loop_rounds 2 ?_;rw[rounds_succ]
  go_wp2
  rw[rounds_succ]
  go_wp2
  go_ret
  exact⟨rfl,rfl⟩
 ·have hb:(x==y)=false:=by simpa using hxy
  rw[hb] at heq ⊢
  go_enter Try.func63,Try.ntmps63
  go_wp2
  refine wp_loop_rounds 2 ?_;rw[rounds_succ]
  go_wp2
  rw[rounds_succ]
  go_wp2
  go_ret
  exact⟨rfl,rfl⟩
end Go.Proofs
namespace Go.Cm
open Go.Proofs
def isF (args:List CV) (H:List HO):Option (CV×List HO):=
 match args with
 |[.inil,.iface 127 (.int .i64 _)]=>some (.bool false,H)
 |[.iface 152 (.ptr (.g n) gn 0),.iface 127 (.int .i64 y)]=>
  match H[n]? with
  |some (.var g [.int .i64 _,.int .i64 x] _)=>if g=gn then some (.bool (x==y),H) else none
  |_=>none
 |_=>none
theorem isF_nil {y:Int}{H:List HO}:isF [.inil,.iface 127 (.int .i64 y)] H=some (.bool false,H):=rfl
theorem isF_ref {n g vl:Nat}{p x y:Int}{H:List HO}(h:H[n]?=some (.var g [.int .i64 p,.int .i64 x] vl)):isF [.iface 152 (.ptr (.g n) g 0),.iface 127 (.int .i64 y)] H=some (.bool (x==y),H):=by
 simp only[isF,h,if_true]
theorem jL {K:KM}{Q:PM}{w:World}{H:List HO}{b:Bool}{vs:Array Value}(hR:MR K (gm H) Q w) (h:Calls Try.prog 63 vs w λe w'=>e=.returned (.bool b)∧w'=w) :
  Calls Try.prog 63 vs w λe w'=>∃v K' Q',e=.returned v∧MR K' (gm H) Q' w'∧Since w H K Q w' H K' Q'∧RV K' (gm H) Q' w w' (.bool b) v:=by
 refine h.mono ?_;rintro e w' ⟨rfl,rfl⟩
 exact⟨.bool b,K,Q,rfl,hR,⟨λ_ _ _=>rfl,Nat.le_refl _,λ_ _ _ h=>h,λ_ _ _ h=>.inl h,Grow.refl _ _ _,λk q h=>.inl ⟨q,h,rfl⟩,Kept.refl _⟩,⟨none,by simp[RV1,V]⟩⟩
theorem isF_sim:Sim Try.prog (tab 63 isF tab0):=by
 refine qZ ?_ (Es _);intro args H r H' h;unfold isF at h
 split at h
 ·rename_i y
  simp only[Option.some.injEq,Prod.mk.injEq] at h;obtain⟨rfl,rfl⟩:=h
  refine⟨⟨_,Try.func63,by kernel_rfl⟩,λK Q w vs hR hV=>?_⟩
  simp only[Vs,V] at hV;obtain⟨v,r,hvs,rfl,v2,r2,hr,⟨u,rfl,rfl⟩,hr2⟩:=hV;subst hr2 hr
  obtain rfl:vs=#[.nilIface,.iface 127 (.int .i64 y)]:=by cases vs;simpa using hvs
  exact jL hR (is_nil _ w)
 ·rename_i n gn y
  split at h
  ·rename_i g p x vl hH
   split at h
   ·rename_i hg
    subst hg;simp only[Option.some.injEq,Prod.mk.injEq] at h;obtain⟨rfl,rfl⟩:=h
    refine⟨⟨_,Try.func63,by kernel_rfl⟩,λK Q w vs hR hV=>?_⟩
    simp only[Vs,V] at hV;obtain⟨v,r,hvs,⟨u1,rfl,_,h,a,hh,_,rfl,hq⟩,v2,r2,hr,⟨u,rfl,rfl⟩,hr2⟩:=hV;subst hr2 hr;have hh':h=.var g [.int .i64 p,.int .i64 x] vl:=by
     have:gm H (.g n)=H[n]?:=rfl;rw[this,hH] at hh
     injection hh with hh
     exact hh.symm
    subst hh';obtain⟨q,hq1,rfl⟩:=hq rfl
    obtain rfl:vs=#[.iface 152 (.pointer (some ⟨q.blk,q.base+0,none⟩)),.iface 127 (.int .i64 y)]:=by cases vs;simpa using hvs
    obtain⟨⟨es,t,h1,h2,h3⟩,h4,h5⟩:=hR.objs (.g n) _ hh q hq1;obtain⟨_,v,hv1,hv2⟩:=h3 1 (.int .i64 x) rfl;simp only[V] at hv2;subst hv2;refine jL hR (is_wrap q.blk (q.base+0) x y w ?_);rw[Nat.add_zero,gM h1,hv1]
   ·cases h
  ·cases h
 ·cases h
end Go.Cm
