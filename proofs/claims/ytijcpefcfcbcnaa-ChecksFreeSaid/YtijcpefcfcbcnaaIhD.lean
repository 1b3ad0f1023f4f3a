import Derived.Test.YtijcpefcfcbcnaaIzA
set_option linter.unusedSimpArgs false
set_option linter.unusedVariables false
namespace Go.Cm
open Go.Proofs
def nT:Option (CV×List HO)→Bool
 |some (.bool true,_)=>true
 |_=>false
theorem D2 {x:Option (CV×List HO)}(h:nT x=true):∃ H,x=some (.bool true,H):=by
 unfold nT at h
 split at h
 ·exact⟨_,rfl⟩
 ·cases h
theorem Fw_E20 {P:Program}{A:Ann}{E:aW}{f:FuncId}{args:List CV}{H:List HO}{r:CV×List HO}(h:E f (cin (A.pure f) args) H=some r):Fw P A E f args H=some r:=
 xK.2 ⟨1,by simp only[dW,h]⟩
theorem xm:nT hx20=true:=by kernel_rfl
theorem only20:EE 13 [] []=mi hx20 [] []:=by simp only[EE,tab,Nat.reduceEqDiff,if_true,if_false]
theorem sr (h:Option (CV×List HO)):mi h [] []=h:=rfl
theorem x13:∃ H',FF 13 [] []=some (.bool true,H'):=by
 obtain⟨H',h⟩:=D2 xm
 exact⟨H',Fw_E20 ((only20.trans (sr _)).trans h)⟩
theorem k13 {fid:FuncId}{d:Tmp}{m:Mem}:aB An FF fid (some d) 13 [] m=some (.bool true,m):=by
 obtain⟨H',h⟩:=x13
 rw[ek h rfl rfl rfl rfl rfl,eY]
end Go.Cm
