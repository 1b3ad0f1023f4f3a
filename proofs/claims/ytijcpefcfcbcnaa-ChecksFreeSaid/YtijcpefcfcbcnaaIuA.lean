import Derived.Test.YtijcpefcfcbcnaaIzK
import Derived.Test.YtijcpefcfcbcnaaIyG
import Derived.Test.YtijcpefcfcbcnaaIrB
import Derived.Test.YtijcpefcfcbcnaaIhA
import Derived.Test.YtijcpefcfcbcnaaCxM
import Derived.Test.YtijcpefcfcbcnaaIxA
set_option linter.unusedSimpArgs false
set_option linter.unusedVariables false
namespace Go.Cm
open Go.Proofs Go.Ir Go.Gr
theorem k36 (f:Cd) (hf:Sized f) {fid:FuncId}{d:Tmp}{m:Mem}:aB An FF fid (some d) 36 [.agg (aZ f)] m=some (.int .i64 (if bG f=true then 0 else 160),m):=by
 obtain⟨_,⟨H',rfl⟩,h⟩:=x36 f hf
 exact cr h (fun _ _ _=>rfl) rfl (by simp only[cans,aC,codeE.can]) rfl (by simp only[noGs,noG,codeE.noG,Bool.and_self]) rfl
theorem gd {α:Type}{e:α→List CV}{sz:Nat}(hs:∀ a,(e a).length=sz) {new:List CV}{off:Nat}:∀ {l:List α}{i:Nat}{a a':α},l[i]?=some a→e a'=ay (e a) off new→off+new.length≤sz →
  ay (l.flatMap e) (i*sz+off) new=(l.set i a').flatMap e
 |[],i,a,a',h,_,_=>by simp at h
 |b::l,0,a,a',h,he,ho=>by
  simp only[List.getElem?_cons_zero,Option.some.injEq] at h
  subst h
  simp only[List.set_cons_zero,List.flatMap_cons,Nat.zero_mul,Nat.zero_add,he,ay]
  have:=hs b
  rw[List.take_append_of_le_length (by omega),List.drop_append_of_le_length (by omega)]
  simp only[List.append_assoc]
 |b::l,i+1,a,a',h,he,ho=>by
  simp only[List.getElem?_cons_succ] at h
  have ih:=gd hs h he ho
  simp only[List.set_cons_succ,List.flatMap_cons,←ih,ay]
  have hb:=hs b
  have e1:(i+1)*sz+off=(e b).length+(i*sz+off):=by rw[hb,Nat.succ_mul];omega
  have e2:(i+1)*sz+off+new.length=(e b).length+(i*sz+off+new.length):=by omega
  rw[e2,e1,List.take_length_add_append,List.drop_length_add_append]
  simp only[List.append_assoc]
end Go.Cm
