import Derived.Test.YtijcpefcfcbcnaaCwA
import Derived.Test.YtijcpefcfcbcnaaCxH
import Derived.Below
set_option linter.unusedSimpArgs false
set_option linter.unusedVariables false
namespace Go.Cm
open Go.RowKit
section
variable {K:KM}{Q:PM}{w w':World}{m:Mem}
theorem v8 (H:List HO):Mem.get ⟨[],H⟩=gm H:=by
 funext k
 cases k with
 |l j=>rfl
 |g n=>rfl
theorem rt (hR:MR K m.get Q w) (h:Below w.heap.size w w'):Trans K m Q w K m Q w':=by
 have hh:=h.block;have hb:∀{b o:Nat}{v:Value},w.cell? ⟨b,o,none⟩=some v→b<w.heap.size:=λ{b o v} h=>by
  unfold World.cell? at h
  cases hx:w.heap[b]? with
  |none=>simp[hx] at h
  |some _=>exact(Array.getElem?_eq_some_iff.1 hx).1
 refine⟨hR.apart (λ_ _ _ h=>h) (λb o v hv=>?_) (λ_ _ _ _ h=>h) hh h.size,λ_ _ _ h=>h,Grow.refl _ _ _,h.size,λb hb _=>hh b hb,λ_ _ _ h=>.inl h,λk q h=>.inl ⟨q,h,rfl⟩,h.os,h.output,λa ha=>?_,h.size⟩
 ·have:=hR.stab b o v hv
  rw[←this];exact cQ (hh b (hb this))
 ·simp only[World.frozen?,hh a.block ha]
theorem lq {P:Program}{f:FuncId}{vs:Array Value}{H:List HO}{r:CV}(hR:MR K (gm H) Q w) (h:Calls P f vs w λe w'=>∃v,e=.returned v∧Below w.heap.size w w'∧∀Q w0 w',RV K (gm H) Q w0 w' r v) :
  Calls P f vs w λe w'=>∃v K' Q',e=.returned v∧MR K' (gm H) Q' w'∧Since w H K Q w' H K' Q'∧RV K' (gm H) Q' w w' r v:=by
 refine h.mono ?_;rintro e w' ⟨v,rfl,hB,hv⟩;have hT:=rt (m:=⟨[],H⟩) (by rw[v8];exact hR) hB;obtain⟨t1,t2,t3,t4,t5,t6,t7,t8⟩:=hT;rw[v8] at t1 t3 t7
 exact⟨v,K,Q,rfl,t1,⟨t5,t4,t2,t6,t3.sub,t7,t8⟩,hv _ _ _⟩
end
end Go.Cm
