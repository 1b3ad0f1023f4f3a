import Derived.Test.YtjhndbgokapikaaCxM
import Derived.Test.YtjhndbgokapikaaFpA
import Derived.Test.YtjhndbgokapikaaFyA
import Derived.KernelRfl
set_option linter.unusedSimpArgs false
set_option linter.unusedVariables false
namespace Go.Cm
open Go.Proofs
def insI (x : Int) : List Int → List Int
  | [] => [x]
  | y :: l => if x ≤ y then x :: y :: l else y :: insI x l
def isortI : List Int → List Int
  | [] => []
  | x :: l => insI x (isortI l)
theorem insI_perm {x : Int} : ∀ l : List Int, (insI x l).Perm (x :: l)
  | [] => List.Perm.refl _
  | y :: l => by
    unfold insI
    split
    · exact List.Perm.refl _
    · exact ((insI_perm l).cons y).trans (List.Perm.swap x y l)
theorem isortI_perm : ∀ l : List Int, (isortI l).Perm l
  | [] => List.Perm.refl _
  | x :: l => (insI_perm _).trans ((isortI_perm l).cons x)
theorem insI_sorted {x : Int} : ∀ {l : List Int}, l.Pairwise (· ≤ ·) → (insI x l).Pairwise (· ≤ ·)
  | [], _ => List.pairwise_singleton _ _
  | y :: l, h => by
    obtain ⟨h1, h2⟩ := List.pairwise_cons.1 h
    unfold insI
    split
    · rename_i hx
      exact List.pairwise_cons.2 ⟨fun a ha => by
        rcases List.mem_cons.1 ha with rfl | ha
        · exact hx
        · exact Int.le_trans hx (h1 a ha), h⟩
    · refine List.pairwise_cons.2 ⟨fun a ha => ?_, insI_sorted h2⟩
      rcases List.mem_cons.1 ((insI_perm l).mem_iff.1 ha) with rfl | ha
      · omega
      · exact h1 a ha
theorem isortI_sorted : ∀ l : List Int, (isortI l).Pairwise (· ≤ ·)
  | [] => List.Pairwise.nil
  | _ :: l => insI_sorted (isortI_sorted l)
theorem isortI_eq (l : List Int) : isortI l = sortI l := by
  rw [show sortI l = (isortI l).mergeSort fun x y => decide (x ≤ y) from (Go.mergeSort_of_perm_i (isortI_perm l)).symm]
  refine (List.mergeSort_of_pairwise ?_).symm
  exact (isortI_sorted l).imp fun h => by simpa using h
def listI (ks : List Int) : CV := if ks = [] then .nil else .own ks.length 1 ((isortI ks).flatMap intC) 0
theorem listI_eq (ks : List Int) : listI ks = listR ks := by rw [listI, listR, isortI_eq]
def sortedF (args : List CV) (H : List HO) : Option (CV × List HO) :=
  match args with
  | [.func (.func 42) [] [.ptr (.g x) gx 0]] =>
    match H[x]? with
    | some (.var g' [.map (.g n) gn] _) =>
      match H[n]? with
      | some (.map g es) =>
        match keysI es with
        | some ks => if g' = gx ∧ g = gn ∧ es.length ≤ 1000000 then some (listI ks, H) else none
        | none => none
      | _ => none
    | _ => none
  | _ => none
def EL : Oracle := tab 28 sortedF tab0
theorem EL_sim : Sim Try.prog EL := by
  refine sim_tab ?_ (sim_tab0 _)
  intro args H r H' h
  unfold sortedF at h
  split at h
  · split at h
    · rename_i hX
      split at h
      · rename_i hH
        split at h
        · rename_i hk
          split at h
          · rename_i hg
            obtain ⟨rfl, rfl, hg⟩ := hg
            simp only [Option.some.injEq, Prod.mk.injEq] at h
            obtain ⟨rfl, rfl⟩ := h
            rw [listI_eq]
            exact sorted_sim ⟨_, Try.func28, by kernel_rfl⟩ (by kernel_rfl) Try.sorted hH hX hk hg
          · cases h
        · cases h
      · cases h
    · cases h
  · cases h
theorem sortedF_eq {x gx n gn : Nat} {vl : Nat} {es : List (CV × CV)} {ks : List Int} {H : List HO} (hX : H[x]? = some (.var gx [.map (.g n) gn] vl)) (hH : H[n]? = some (.map gn es)) (hk : keysI es = some ks) (hl : es.length ≤ 1000000) :
    sortedF [.func (.func 42) [] [.ptr (.g x) gx 0]] H = some (listR ks, H) := by
  unfold sortedF
  simp only [hX, hH, hk, hl, and_self, if_true, listI_eq]
def insC4 (o f i : Int) : List CV := [.int .i64 o, .int .i64 0, .int .i64 0, .int .i64 f, .int .i64 i, .int .u64 0]
def pV : CV := .imm 4 (insC4 183 0 0 ++ insC4 21 1 0 ++ insC4 183 0 1 ++ insC4 149 0 0)
def only1 (x : List CV) (h : Option (CV × List HO)) : List CV → List HO → Option (CV × List HO) := fun a H => if (beqs a x && H.isEmpty) = true then h else none
def v18 : Option (CV × List HO) := some (.tuple [.int .i64 0, .int .i64 0], [])
noncomputable def run18 : Option (CV × List HO) := ccall Try.prog An EL 60 18 [pV] []
noncomputable def E1 : Oracle := tab 18 (only1 [pV] v18) EL
noncomputable def run11 : Option (CV × List HO) := ccall Try.prog An E1 60 11 [pV] []
def is18 : Option (CV × List HO) → Bool
  | some (.tuple [.int .i64 0, .int .i64 0], []) => true
  | _ => false
def is11 : Option (CV × List HO) → Bool
  | some (.own 4 1 [.int .i64 0, .int .i64 1, .int .i64 2, .int .i64 3] 0, _) => true
  | _ => false
theorem is18_of {x : Option (CV × List HO)} (h : is18 x = true) : x = v18 := by
  unfold is18 at h
  split at h
  · rfl
  · cases h
def hOf : Option (CV × List HO) → List HO
  | some (_, H) => H
  | none => []
theorem is11_of {x : Option (CV × List HO)} (h : is11 x = true) : x = some (.own 4 1 [.int .i64 0, .int .i64 1, .int .i64 2, .int .i64 3] 0, hOf x) := by
  unfold is11 at h
  split at h
  · rfl
  · cases h
noncomputable def E2 : Oracle := tab 11 (only1 [pV] (some (.own 4 1 [.int .i64 0, .int .i64 1, .int .i64 2, .int .i64 3] 0, hOf run11))) E1
noncomputable def hx14 : Option (CV × List HO) := ccall Try.prog An E2 60 15 [] []
def only0 (h : Option (CV × List HO)) : List CV → List HO → Option (CV × List HO) := fun a H => match a, H with | [], [] => h | _, _ => none
def isTrue14 : Option (CV × List HO) → Bool
  | some (.bool true, _) => true
  | _ => false
theorem isT14_of {x : Option (CV × List HO)} (h : isTrue14 x = true) : x = some (.bool true, hOf x) := by
  unfold isTrue14 at h
  split at h
  · rfl
  · cases h
noncomputable def EE : Oracle := tab 15 (only0 hx14) EL
noncomputable abbrev FF : Oracle := Fw Try.prog An EE
end Go.Cm
