import Derived.Shelf.SlIterI.Nil
import Derived.Shelf.SortM.Plain
import Derived.Shelf.SortM.SortNone
import Derived.Shelf.SlMaps.Clone
import Derived.Ground.GgzProg
import Derived.Ground.SlgmProg
import Derived.Ground.SlmcProg
import Derived.Maps.OwnSet
import Derived.Test.YtlflghggdpbcnaaGreatProg
import Derived.Test.YtlflghggdpbcnaaGreatCxN
import Derived.KernelRfl
import Derived.Test.YtlflghggdpbcnaaGreatGyA
set_option linter.unusedSimpArgs false
set_option linter.unusedVariables false
namespace Go.Proofs
open Go.RowKit Go.Maps Go.Sort Go.Shelf
def Tryz.keysA_ren : Go.Shelf.Ren := ⟨fun | 7 => 181 | 10 => 199 | n => n, fun | 23 => 225 | 26 => 3 | 3 => 4 | 28 => 274 | 0 => 0 | 27 => 273 | 33 => 113 | 4 => 4 | n => n, fun | n => n⟩
theorem Tryz.keysA : Go.Proofs.SlLaysZI.n7 Tryz.prog Tryz.keysA_ren :=
  { mixed := by kernel_rfl,
    f7 := ⟨Tryz.f181.name, by decide, Tryz.func181.trans (congrArg some (by kernel_rfl))⟩,
    f10 := ⟨Tryz.f199.name, by decide, Tryz.func199.trans (congrArg some (by kernel_rfl))⟩,
    t0 := Tryz.underlying0,
    a0 := Tryz.isAgg0,
    z0 := Tryz.sizeOf0,
    v0 := Tryz.zeroValue0,
    t4 := Tryz.underlying4,
    a4 := Tryz.isAgg4,
    z4 := Tryz.sizeOf4,
    v4 := Tryz.zeroValue4,
    t23 := Tryz.underlying225,
    a23 := Tryz.isAgg225,
    z23 := Tryz.sizeOf225,
    v23 := Tryz.zeroValue225,
    t26 := Tryz.underlying3,
    a26 := Tryz.isAgg3,
    z26 := Tryz.sizeOf3,
    v26 := Tryz.zeroValue3,
    t27 := Tryz.underlying273,
    a27 := Tryz.isAgg273,
    z27 := Tryz.sizeOf273,
    v27 := Tryz.zeroValue273,
    t28 := Tryz.underlying274,
    a28 := Tryz.isAgg274,
    z28 := Tryz.sizeOf274,
    v28 := Tryz.zeroValue274,
    t33 := Tryz.underlying113,
    a33 := Tryz.isAgg113,
    z33 := Tryz.sizeOf113,
    v33 := Tryz.zeroValue113 }
def Tryz.sortedA_ren : Go.Shelf.Ren := ⟨fun | 6 => 180 | 8 => 197 | 9 => 198 | 11 => 201 | 13 => 203 | 12 => 202 | 23 => 213 | 24 => 214 | 14 => 204 | 15 => 205 | 16 => 206 | 17 => 207 | 18 => 208 | 19 => 209 | 20 => 210 | 21 => 211 | 22 => 212 | 25 => 215 | 26 => 216 | 27 => 217 | 28 => 218 | 29 => 219 | 30 => 220 | 31 => 221 | n => n, fun | 26 => 3 | 28 => 274 | 24 => 22 | 0 => 0 | 3 => 3 | 37 => 25 | 48 => 53 | 50 => 32 | 4 => 4 | 40 => 295 | 39 => 294 | 45 => 84 | 5 => 5 | 9 => 9 | 51 => 301 | 55 => 200 | 57 => 306 | 58 => 159 | 33 => 113 | n => n, fun | n => n⟩
theorem Tryz.sortedA : Go.Proofs.SlLaysZI.n6 Tryz.prog Tryz.sortedA_ren :=
  { mixed := by kernel_rfl,
    f6 := ⟨Tryz.f180.name, by decide, Tryz.func180.trans (congrArg some (by kernel_rfl))⟩,
    f8 := ⟨Tryz.f197.name, by decide, Tryz.func197.trans (congrArg some (by kernel_rfl))⟩,
    f11 := ⟨Tryz.f201.name, by decide, Tryz.func201.trans (congrArg some (by kernel_rfl))⟩,
    t0 := Tryz.underlying0,
    a0 := Tryz.isAgg0,
    z0 := Tryz.sizeOf0,
    v0 := Tryz.zeroValue0,
    t24 := Tryz.underlying22,
    a24 := Tryz.isAgg22,
    z24 := Tryz.sizeOf22,
    v24 := Tryz.zeroValue22,
    t26 := Tryz.underlying3,
    a26 := Tryz.isAgg3,
    z26 := Tryz.sizeOf3,
    v26 := Tryz.zeroValue3,
    t28 := Tryz.underlying274,
    a28 := Tryz.isAgg274,
    z28 := Tryz.sizeOf274,
    v28 := Tryz.zeroValue274,
    i26 := by kernel_rfl }
def Tryz.sortA_ren : Go.Shelf.Ren := ⟨fun | 5 => 198 | 8 => 203 | 7 => 202 | 19 => 213 | 20 => 214 | 10 => 204 | 11 => 205 | 12 => 206 | 13 => 207 | 14 => 208 | 15 => 209 | 16 => 210 | 17 => 211 | 18 => 212 | 30 => 215 | 31 => 216 | 32 => 217 | 33 => 218 | 34 => 219 | 35 => 220 | 40 => 221 | n => n, fun | 23 => 22 | 25 => 3 | 3 => 3 | 32 => 25 | 22 => 22 | 0 => 0 | 44 => 53 | 46 => 32 | 4 => 4 | 36 => 295 | 35 => 294 | 41 => 84 | 5 => 5 | 9 => 9 | 53 => 301 | 57 => 200 | 63 => 306 | 64 => 159 | n => n, fun | n => n⟩
theorem Tryz.sortA : Go.Proofs.SlLaysM.n5 Tryz.prog Tryz.sortA_ren :=
  { mixed := by kernel_rfl,
    f5 := ⟨Tryz.f198.name, by decide, Tryz.func198.trans (congrArg some (by kernel_rfl))⟩,
    f7 := ⟨Tryz.f202.name, by decide, Tryz.func202.trans (congrArg some (by kernel_rfl))⟩,
    f8 := Tryz.func203.trans (congrArg some (by kernel_rfl)),
    f10 := ⟨Tryz.f204.name, by decide, Tryz.func204.trans (congrArg some (by kernel_rfl))⟩,
    f11 := ⟨Tryz.f205.name, by decide, Tryz.func205.trans (congrArg some (by kernel_rfl))⟩,
    f12 := ⟨Tryz.f206.name, by decide, Tryz.func206.trans (congrArg some (by kernel_rfl))⟩,
    f13 := ⟨Tryz.f207.name, by decide, Tryz.func207.trans (congrArg some (by kernel_rfl))⟩,
    f14 := ⟨Tryz.f208.name, by decide, Tryz.func208.trans (congrArg some (by kernel_rfl))⟩,
    f15 := ⟨Tryz.f209.name, by decide, Tryz.func209.trans (congrArg some (by kernel_rfl))⟩,
    f16 := ⟨Tryz.f210.name, by decide, Tryz.func210.trans (congrArg some (by kernel_rfl))⟩,
    f17 := ⟨Tryz.f211.name, by decide, Tryz.func211.trans (congrArg some (by kernel_rfl))⟩,
    f18 := ⟨Tryz.f212.name, by decide, Tryz.func212.trans (congrArg some (by kernel_rfl))⟩,
    f19 := Tryz.func213.trans (congrArg some (by kernel_rfl)),
    f20 := Tryz.func214.trans (congrArg some (by kernel_rfl)),
    f30 := ⟨Tryz.f215.name, by decide, Tryz.func215.trans (congrArg some (by kernel_rfl))⟩,
    f31 := Tryz.func216.trans (congrArg some (by kernel_rfl)),
    f32 := Tryz.func217.trans (congrArg some (by kernel_rfl)),
    f33 := ⟨Tryz.f218.name, by decide, Tryz.func218.trans (congrArg some (by kernel_rfl))⟩,
    f34 := ⟨Tryz.f219.name, by decide, Tryz.func219.trans (congrArg some (by kernel_rfl))⟩,
    f35 := ⟨Tryz.f220.name, by decide, Tryz.func220.trans (congrArg some (by kernel_rfl))⟩,
    f40 := ⟨Tryz.f221.name, by decide, Tryz.func221.trans (congrArg some (by kernel_rfl))⟩,
    t0 := Tryz.underlying0,
    a0 := Tryz.isAgg0,
    z0 := Tryz.sizeOf0,
    v0 := Tryz.zeroValue0,
    t3 := Tryz.underlying3,
    a3 := Tryz.isAgg3,
    z3 := Tryz.sizeOf3,
    v3 := Tryz.zeroValue3,
    t4 := Tryz.underlying4,
    a4 := Tryz.isAgg4,
    z4 := Tryz.sizeOf4,
    v4 := Tryz.zeroValue4,
    t5 := Tryz.underlying5,
    a5 := Tryz.isAgg5,
    z5 := Tryz.sizeOf5,
    v5 := Tryz.zeroValue5,
    t9 := Tryz.underlying9,
    a9 := Tryz.isAgg9,
    z9 := Tryz.sizeOf9,
    v9 := Tryz.zeroValue9,
    t22 := Tryz.underlying22,
    a22 := Tryz.isAgg22,
    z22 := Tryz.sizeOf22,
    v22 := Tryz.zeroValue22,
    t23 := Tryz.underlying22,
    a23 := Tryz.isAgg22,
    z23 := Tryz.sizeOf22,
    v23 := Tryz.zeroValue22,
    t25 := Tryz.underlying3,
    a25 := Tryz.isAgg3,
    z25 := Tryz.sizeOf3,
    v25 := Tryz.zeroValue3,
    t32 := Tryz.underlying25,
    a32 := Tryz.isAgg25,
    z32 := Tryz.sizeOf25,
    v32 := Tryz.zeroValue25,
    t35 := Tryz.underlying294,
    a35 := Tryz.isAgg294,
    z35 := Tryz.sizeOf294,
    v35 := Tryz.zeroValue294,
    t36 := Tryz.underlying295,
    a36 := Tryz.isAgg295,
    z36 := Tryz.sizeOf295,
    v36 := Tryz.zeroValue295,
    t41 := Tryz.underlying84,
    a41 := Tryz.isAgg84,
    z41 := Tryz.sizeOf84,
    v41 := Tryz.zeroValue84,
    t44 := Tryz.underlying53,
    a44 := Tryz.isAgg53,
    z44 := Tryz.sizeOf53,
    v44 := Tryz.zeroValue53,
    t46 := Tryz.underlying32,
    a46 := Tryz.isAgg32,
    z46 := Tryz.sizeOf32,
    v46 := Tryz.zeroValue32,
    t53 := Tryz.underlying301,
    a53 := Tryz.isAgg301,
    z53 := Tryz.sizeOf301,
    v53 := Tryz.zeroValue301,
    t57 := Tryz.underlying200,
    a57 := Tryz.isAgg200,
    z57 := Tryz.sizeOf200,
    v57 := Tryz.zeroValue200,
    t63 := Tryz.underlying306,
    a63 := Tryz.isAgg306,
    z63 := Tryz.sizeOf306,
    v63 := Tryz.zeroValue306,
    t64 := Tryz.underlying159,
    a64 := Tryz.isAgg159,
    z64 := Tryz.sizeOf159,
    v64 := Tryz.zeroValue159 }
def Tryz.cloneA_ren : Go.Shelf.Ren := ⟨fun | 5 => 130 | 7 => 179 | n => n, fun | 23 => 225 | 25 => 3 | 3 => 4 | 4 => 4 | 20 => 20 | n => n, fun | n => n⟩
theorem Tryz.cloneA : Go.Proofs.SlLaysW.n5 Tryz.prog Tryz.cloneA_ren :=
  { mixed := by kernel_rfl,
    f5 := ⟨Tryz.f130.name, by decide, Tryz.func130.trans (congrArg some (by kernel_rfl))⟩,
    f7 := Tryz.func179.trans (congrArg some (by kernel_rfl)),
    t4 := Tryz.underlying4,
    a4 := Tryz.isAgg4,
    z4 := Tryz.sizeOf4,
    v4 := Tryz.zeroValue4,
    t20 := Tryz.underlying20,
    a20 := Tryz.isAgg20,
    z20 := Tryz.sizeOf20,
    v20 := Tryz.zeroValue20,
    t23 := Tryz.underlying225,
    a23 := Tryz.isAgg225,
    z23 := Tryz.sizeOf225,
    v23 := Tryz.zeroValue225 }
theorem Tryz.sortsA (m : Nat) : AnyZI.SortsIn Tryz.prog Tryz.sortedA_ren Fence.wide m :=
  ⟨fun blk off cap ss W hH hblk hsz => callsIn_wide.2 (AnyM.slices_Sort_int Tryz.sortA blk off cap ss W hH hblk hsz),
   fun p cap W => callsIn_wide.2 (AnyM.slices_Sort_int_none Tryz.sortA p cap W)⟩
set_option maxHeartbeats 1000000 in
theorem Tryz.list {H : Type} (b nn : Nat) (D0 : DataW H) (R : Value → Option (DataW H × List MemPlace)) (w : World) (hown : w.ownsMap Tryz.prog 3 R b nn D0) (hmax : Maps.size D0 ≤ maxLen) (hbytes : Maps.size D0 * 8 ≤ 140737488355328) :
    Calls Tryz.prog 133 #[.map (some b)] w fun e w' => ∃ (v : Value) (ss : List Int), e = .returned v ∧ ss.Perm (intKeys D0) ∧
      w'.ownsRow w.heap.size 3 1 v ss.length ((ss.mergeSort (fun x y => decide (x ≤ y))).map encZ) ∧ (v = .slice none 0 0 ↔ ss = []) ∧ Below w.heap.size w w' := by
  refine (callsIn_wide (n := 6)).1 ?_
  have hbl := hown.lt
  have hseq : SeqGives Fence.wide 2 Tryz.prog 199 #[.pointer (some ⟨w.heap.size, 0, none⟩)] encZ (fun ss => ss.Perm (intKeys D0)) (Maps.size D0) (w.alloc (.cells #[.map (some b)] 225)) :=
    AnyZI.keys_gives (ρ := Tryz.keysA_ren) { Tryz.keysA with } Fence.wide _ trivial rfl (by omega) w.heap.size b nn D0 _ (by simp) (by simp) (by
      obtain ⟨es, clock, hb, Ft, hs, hD⟩ := hown
      exact ⟨es, clock, (Below.heap_alloc _ _ b hbl).trans hb, Ft, hs, hD⟩)
  have cK : ∀ mb W, CallsIn Fence.wide 5 Tryz.prog 181 #[.map mb] W fun e w' => e = .returned (.func (.func 199) #[] #[.pointer (some ⟨W.heap.size, 0, none⟩)]) ∧ w' = W.alloc (.cells #[.map mb] 225) := fun mb W => AnyZI.keys_in Tryz.keysA Fence.wide 5 trivial rfl mb W
  have cS := AnyZI.sorted_in Tryz.sortedA Fence.wide 5 trivial trivial trivial trivial rfl (by omega) (Tryz.sortsA _) (enters_of Tryz.func198 (by kernel_rfl) rfl) 199 #[.pointer (some ⟨w.heap.size, 0, none⟩)] trivial (enters_of Tryz.func199 (by kernel_rfl) rfl) _ _ hmax hbytes _ hseq
  change CallsIn _ _ Tryz.prog 180 _ _ _ at cS
  have hfK : Fence.wide.fn 181 := trivial
  have hfS : Fence.wide.fn 180 := trivial
  refine callsIn_of_wp Tryz.func133 rfl trivial ?_ rfl
  simp only [Tryz.ntmps133, List.size_toArray, List.length_cons, List.length_nil, Nat.reduceAdd, Nat.reduceSub, Array.replicate_succ, Array.replicate_zero, List.push_toArray, List.append_toArray, List.nil_append, List.cons_append]
  gi_wp2_with (first
    | (gi_at_call 181; refine (cK _ _).mono ?_; rintro e w' ⟨rfl, rfl⟩)
    | (gi_at_call 180; refine cS.mono ?_; rintro e w' ⟨v, ss, rfl, hS, hrow, hnil, hb⟩))
  go_ret
  exact ⟨v, ss, rfl, hS, ownsRow_base_a hrow (by simp), hnil, ((Below.refl _ w).alloc (Nat.le_refl _) _).trans (hb.mono (by simp))⟩
theorem Tryz.clone (b : Nat) (es : Array MapEntry) (clock : Nat) (w : World) (hb : w.heap[b]? = some (.map es clock)) :
    Calls Tryz.prog 130 #[.map (some b)] w fun e w' => e = .returned (.map (some w.heap.size)) ∧ w' = w.alloc (.map es clock) := AnyW.maps_Clone Tryz.cloneA b es clock w hb
end Go.Proofs

namespace Go.Cm
open Go.Proofs
def cloneF (args : List CV) (H : List HO) : Option (CV × List HO) :=
  match args with
  | [.map (.g n) gn] =>
    match H[n]? with
    | some (.map g es) => if g = gn then some (.map (.g H.length) 1, H ++ [.map 1 es]) else none
    | _ => none
  | _ => none
def listF (args : List CV) (H : List HO) : Option (CV × List HO) :=
  match args with
  | [.map (.g n) gn] =>
    match H[n]? with
    | some (.map g es) =>
      match keysI es with
      | some ks => if g = gn ∧ es.length ≤ 1000000 then some (listR ks, H) else none
      | none => none
    | _ => none
  | _ => none
def EL : Oracle := tab 130 cloneF (tab 133 listF tab0)
theorem EL_sim : Sim Tryz.prog EL := by
  refine sim_tab ?_ (sim_tab ?_ (sim_tab0 _))
  · intro args H r H' h
    unfold cloneF at h
    split at h
    · split at h
      · rename_i hH
        split at h
        · rename_i hg
          subst hg
          simp only [Option.some.injEq, Prod.mk.injEq] at h
          obtain ⟨rfl, rfl⟩ := h
          exact clone_sim ⟨_, Tryz.func130, by kernel_rfl⟩ Tryz.clone hH
        · cases h
      · cases h
    · cases h
  · intro args H r H' h
    unfold listF at h
    split at h
    · split at h
      · rename_i hH
        split at h
        · rename_i hk
          split at h
          · rename_i hg
            obtain ⟨rfl, hg⟩ := hg
            simp only [Option.some.injEq, Prod.mk.injEq] at h
            obtain ⟨rfl, rfl⟩ := h
            exact list_sim ⟨_, Tryz.func133, by kernel_rfl⟩ (by kernel_rfl) Tryz.list hH hk hg
          · cases h
        · cases h
      · cases h
    · cases h
end Go.Cm

namespace Go.Cm
open Go.Proofs
def annL : Ann := { glob := fun f => if f == 43 || f == 21 then [] else List.range 300, pure := fun f => f == 55 || f == 29 || f == 43 }
noncomputable def fv : CV := match ccall Tryz.prog annL EL 40 43 [] [] with | some (v, _) => v | none => .nil
noncomputable def run55 : Option (CV × List HO) := ccall Tryz.prog annL EL 40 55 [fv] []
noncomputable def run29 : Option (CV × List HO) := ccall Tryz.prog annL EL 40 29 [fv, .imm 1 [.int .i64 0]] []
def hOf : Option (CV × List HO) → List HO
  | some (_, H) => H
  | none => []
def isZero : Option (CV × List HO) → Bool
  | some (.int .i64 0, _) => true
  | _ => false
def isFalse25 : Option (CV × List HO) → Bool
  | some (.bool false, _) => true
  | _ => false
def isTrue25 : Option (CV × List HO) → Bool
  | some (.bool true, _) => true
  | _ => false
theorem isZero_of {x : Option (CV × List HO)} (h : isZero x = true) : x = some (.int .i64 0, hOf x) := by
  unfold isZero at h
  split at h
  · rfl
  · cases h
theorem isF25_of {x : Option (CV × List HO)} (h : isFalse25 x = true) : x = some (.bool false, hOf x) := by
  unfold isFalse25 at h
  split at h
  · rfl
  · cases h
theorem isT25_of {x : Option (CV × List HO)} (h : isTrue25 x = true) : x = some (.bool true, hOf x) := by
  unfold isTrue25 at h
  split at h
  · rfl
  · cases h
noncomputable def e55 (a : List CV) (H : List HO) : Option (CV × List HO) := if (beqs a [fv] && H.isEmpty) = true then some (.int .i64 0, hOf run55) else none
noncomputable def e29 (a : List CV) (H : List HO) : Option (CV × List HO) := if (beqs a [fv, .imm 1 [.int .i64 0]] && H.isEmpty) = true then some (.bool false, hOf run29) else none
noncomputable def E3 : Oracle := tab 55 e55 (tab 29 e29 EL)
noncomputable def hx25 : Option (CV × List HO) := ccall Tryz.prog annL E3 40 21 [] []
def only0 (h : Option (CV × List HO)) : List CV → List HO → Option (CV × List HO) := fun a H => match a, H with | [], [] => h | _, _ => none
def lay0 : CV := .agg [.int .i64 0, .bool false, .imm 0 []]
noncomputable def run17 : Option (CV × List HO) := ccall Tryz.prog An EL 40 17 [lay0] []
def csOf : Option (CV × List HO) → List CV
  | some (.tuple [.own _ _ cs _, _], _) => cs
  | some (.own _ _ cs _, _) => cs
  | _ => []
noncomputable def cs0 : List CV := csOf run17
noncomputable def mv0 : CV := .imm 2 cs0
noncomputable def run38 : Option (CV × List HO) := ccall Tryz.prog An EL 40 38 [lay0, mv0] []
noncomputable def run39 : Option (CV × List HO) := ccall Tryz.prog An EL 40 39 [mv0] []
noncomputable def cs1 : List CV := csOf run39
def only1 (x : List CV) (h : Option (CV × List HO)) : List CV → List HO → Option (CV × List HO) := fun a H => if (beqs a x && H.isEmpty) = true then h else none
noncomputable def EE : Oracle := tab 21 (only0 hx25) (tab 17 (only1 [lay0] run17) (tab 38 (only1 [lay0, mv0] run38) (tab 39 (only1 [mv0] run39) EL)))
noncomputable abbrev FF : Oracle := Fw Tryz.prog An EE
end Go.Cm
