import Derived.Test.YtlflghggdpbcnaaGreatCxM
import Derived.Test.YtlflghggdpbcnaaGreatGpD
import Derived.Test.YtlflghggdpbcnaaGreatGpE
import Derived.Test.YtlflghggdpbcnaaGreatGpG
import Derived.Test.YtlflghggdpbcnaaGreatGwA
import Derived.Test.YtlflghggdpbcnaaGreatCxH
import Derived.Test.YtlflghggdpbcnaaGreatGwV
import Derived.Test.YtlflghggdpbcnaaGreatGzK
set_option linter.unusedSimpArgs false
set_option linter.unusedVariables false
namespace Go.Cm
open Go.Proofs
theorem e55_sim {E : Oracle} (hE : Sim Tryz.prog E) : Sim Tryz.prog (tab 55 e55 E) := by
  refine sim_tab ?_ hE
  intro args H r H' h
  unfold e55 at h
  split at h
  · rename_i hc
    simp only [Bool.and_eq_true, List.isEmpty_iff] at hc
    obtain ⟨h1, h2⟩ := hc
    have h3 := beqs_eq _ _ h1
    subst h2 h3
    rw [← isZero_of run55_zero] at h
    exact ccall_sim EL_sim plainN mixed 40 _ _ _ _ _ h
  · cases h
theorem e29_sim {E : Oracle} (hE : Sim Tryz.prog E) : Sim Tryz.prog (tab 29 e29 E) := by
  refine sim_tab ?_ hE
  intro args H r H' h
  unfold e29 at h
  split at h
  · rename_i hc
    simp only [Bool.and_eq_true, List.isEmpty_iff] at hc
    obtain ⟨h1, h2⟩ := hc
    have h3 := beqs_eq _ _ h1
    subst h2 h3
    rw [← isF25_of run29_false] at h
    exact ccall_sim EL_sim plainN mixed 40 _ _ _ _ _ h
  · cases h
theorem E3_sim : Sim Tryz.prog E3 := e55_sim (e29_sim EL_sim)
theorem only1_sim {k : FuncId} {x : List CV} {E : Oracle} (hE : Sim Tryz.prog E) : Sim Tryz.prog (tab k (only1 x (ccall Tryz.prog An EL 40 k x [])) E) := by
  refine sim_tab ?_ hE
  intro args H r H' h
  unfold only1 at h
  split at h
  · rename_i hc
    simp only [Bool.and_eq_true, List.isEmpty_iff] at hc
    obtain ⟨h1, h2⟩ := hc
    have h3 := beqs_eq _ _ h1
    subst h2 h3
    exact ccall_sim EL_sim plainN mixed 40 _ _ _ _ _ h
  · cases h
theorem EE_sim : Sim Tryz.prog EE := by
  refine sim_tab ?_ (only1_sim (only1_sim (only1_sim EL_sim)))
  intro args H r H' h
  unfold only0 at h
  split at h
  · exact ccall_sim E3_sim plainN mixed 40 _ _ _ _ _ h
  · cases h
theorem Fw_E25 {P : Program} {A : Ann} {E : Oracle} {f : FuncId} {args : List CV} {H : List HO} {r : CV × List HO} (h : E f (cin (A.pure f) args) H = some r) : Fw P A E f args H = some r :=
  Fw_iff.2 ⟨1, by simp only [tcall, h]⟩
theorem only25 : EE 21 [] [] = only0 hx25 [] [] := by simp only [EE, tab, if_true]
theorem only0_nil25 (h : Option (CV × List HO)) : only0 h [] [] = h := rfl
theorem x21 : ∃ H', FF 21 [] [] = some (.bool true, H') := ⟨_, Fw_E25 ((only25.trans (only0_nil25 _)).trans (isT25_of hx25_true))⟩
theorem k21 {fid : FuncId} {d : Tmp} {m : Mem} : callC An FF fid (some d) 21 [] m = some (.bool true, m) := by
  obtain ⟨H', h⟩ := x21
  rw [callC_K h rfl rfl rfl rfl rfl, adopt_bool]
end Go.Cm

namespace Go.Cm
open Go.Proofs Go.Pk
theorem kSame {l : List Rc} (hl : l.length ≤ 1000000) {m : Mem} {ja jb : Nat} {va vb : CV} (ha : OwnE rcC 8 m ja va l) (hb : OwnE rcC 8 m jb vb l) (hj : ja ≠ jb) {fid : FuncId} {t : Tmp} : callC An FF fid (some t) 23 [va, vb] m = some (.bool true, m) := by
  obtain ⟨m1, e1, _, e3, _⟩ := ha.seen.esc1 rcE.len
  obtain ⟨m2, e4, _, _, _⟩ := (hb.seen.keep (m' := m1) (e3 jb hj.symm)).esc1 rcE.len
  rw [callC_KE (x23 l hl) rfl (xs := [rowC rcC l, rowC rcC l]) (m1 := m2) (by simp only [escList, mapMem, e1, e4, Option.bind_some, Option.map_some]) (by simp only [cans, can_rowC rcE.can]) (by simp only [noGs, noG_rowC rcE.noG, Bool.and_self]) rfl]
  rfl
end Go.Cm

namespace Go.Cm
open Go.Proofs Go.Pk
theorem adopt1_own2 {α : Type} {e : α → List CV} {sz j : Nat} {m : Mem} {l : List α} : ∃ v m', adopt1 false j (ownC e sz l) m = (v, m') ∧ OwnE e sz m' j v l ∧ m'.H = m.H ∧ ∀ i, i ≠ j → lget m'.L i = lget m.L i := by
  by_cases hl : l = []
  · subst hl
    exact ⟨.nil, m, rfl, .inl ⟨rfl, rfl⟩, rfl, fun _ _ => rfl⟩
  · refine ⟨.ref (.l j) (gnext m.L j) 0 l.length, setL m j (.arr (gnext m.L j) sz (l.flatMap e) 0), ?_, .inr ⟨hl, _, rfl, by rw [lget_setL, if_pos rfl]⟩, rfl, fun i hi => by rw [lget_setL, if_neg (Ne.symm hi)]⟩
    rw [ownC, if_neg hl]; rfl
theorem kRlx {f : FuncId} {l : List Dr} {marks : List Int} (hF : ∃ q, (∃ H', q = (CV.tuple [ownC rcC 8 (rlxR l marks).1, .int .i64 (rlxR l marks).2], H')) ∧ FF f [sl drC l, sl intC marks] [] = some q) (hp : An.pure f = true) {fid : FuncId} {t : Tmp} {m m1 : Mem} {args xs : List CV} {K : CV × Mem → Prop}
    (hx : escList m args = some (xs, m1)) (hc : cans xs = [sl drC l, sl intC marks]) (hn : noGs xs = true) (hH : m1.H = m.H) (hgl : (An.glob fid).contains t = false)
    (hK : ∀ v m', OwnE rcC 8 m' (16 * t + 1) v (rlxR l marks).1 → m'.H = m.H → (∀ i, i ≠ 16 * t + 1 → lget m'.L i = lget m.L i ∨ lget m'.L i = lget m1.L i) → K (.tuple [v, .int .i64 (rlxR l marks).2], m')) : Obt (callC An FF fid (some t) f args m) K := by
  obtain ⟨_, ⟨H', rfl⟩, h⟩ := hF
  obtain ⟨os, hos⟩ : ∃ os, os = (rlxR l marks).1 := ⟨_, rfl⟩
  obtain ⟨e, he⟩ : ∃ e, e = (rlxR l marks).2 := ⟨_, rfl⟩
  rw [← hos, ← he] at h hK
  rw [callC_KE h hp hx hc hn (by simp only [noG, noGs, rcE.noG_own, Bool.and_self]), hgl, Obt_some]
  obtain ⟨m2, hm2, hH2, hL2⟩ : ∃ m2, m2 = (if scalar (.tuple [ownC rcC 8 os, .int .i64 e]) = true then m else m1) ∧ m2.H = m.H ∧ ∀ i, lget m2.L i = lget m.L i ∨ lget m2.L i = lget m1.L i := by
    refine ⟨_, rfl, ?_, fun i => ?_⟩
    · split
      · rfl
      · exact hH
    · split
      · exact .inl rfl
      · exact .inr rfl
  rw [← hm2]
  obtain ⟨v, m', h1, h2, h3, h4⟩ := adopt1_own2 (e := rcC) (sz := 8) (j := 16 * t + 1) (m := m2) (l := os)
  have had : adopt false t (.tuple [ownC rcC 8 os, .int .i64 e]) m2 = (.tuple [v, .int .i64 e], m') := by
    show ((CV.tuple (adopts false (16 * t + 1) [ownC rcC 8 os, .int .i64 e] m2).1), (adopts false (16 * t + 1) [ownC rcC 8 os, .int .i64 e] m2).2) = _
    simp only [adopts, h1]; rfl
  rw [had]
  exact hK v m' h2 (h3.trans hH2) fun i hi => by rw [h4 i hi]; exact hL2 i
theorem rlxR_len (l : List Dr) (marks : List Int) : (rlxR l marks).1.length ≤ 300000 := by
  unfold rlxR
  split
  · rename_i hm
    have hM := mayD_of hm
    split
    · have := outsL_len (sz := szsD l (finL l marks)) (marks := marks) (l := l) (lg := finL l marks) (i := 0)
      have := hM.len
      unfold rlxO; simp only; omega
    · simp
  · simp
end Go.Cm
