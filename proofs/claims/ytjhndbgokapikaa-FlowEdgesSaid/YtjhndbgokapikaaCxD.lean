import Derived.Test.YtjhndbgokapikaaCxA
import Derived.IntWalk
set_option linter.unusedSimpArgs false
set_option linter.unusedVariables false
namespace Go.Cm

section
variable {P : Program} {A : Ann} {F : Oracle} {fid : FuncId}

theorem bind_some' {α β : Type} {x : Option α} {f : α → Option β} {y : β} (h : x.bind f = some y) : ∃ a, x = some a ∧ f a = some y := Option.bind_eq_some_iff.1 h
theorem map_some' {α β : Type} {x : Option α} {f : α → β} {y : β} (h : x.map f = some y) : ∃ a, x = some a ∧ f a = y := Option.map_eq_some_iff.1 h

theorem vX_cval {d : Option Tmp} {ρ : Operand → CV} {op : Op} {m : Mem} {v : CV} (h : vX P ρ op m = some v) : cval P A F fid ρ ⟨d, op, 0, "", #[], none⟩ m = some (v, m) := by
  cases op <;> simp only [vX] at h <;> try cases h
  case move => rfl
  case assign => rfl
  case pick c a b =>
    simp only [cval]
    unfold pickX at h
    split at h <;> simp_all
  case load t a =>
    have : cload P m t (ρ a) = some v := by
      unfold cload
      split at h
      · rename_i sz h1 h2; simp only [h1, h2, Option.bind_some]; exact h
      · rename_i h1; simp only [h1]; exact h
      · cases h
    simp only [cval, this, Option.map_some]
  case nilCheck x =>
    simp only [cval]
    unfold nilX at h
    split at h
    · rename_i h1; rw [h1]; simp only [Option.some.injEq] at h; subst h; rfl
    · rename_i h1; rw [h1]; simp only [Option.some.injEq] at h; subst h; rfl
    · cases h
  case binOp => simp only [cval, h, Option.map_some]
  case unOp => simp only [cval, h, Option.map_some]
  case convert src dst x =>
    simp only [cval]
    split at h
    · rename_i h1 h2
      simp only [h1, h2]
      unfold convX at h
      split at h <;> simp_all
    · cases h
  case makeInterface t x =>
    simp only [cval]
    split at h
    · cases h
    · rename_i hc; rw [if_neg hc]; simp only [Option.some.injEq] at h; rw [h]
  case makeFunc => rfl
  case slice t x lo hi mx =>
    have : cslice P t (ρ x) (lo.map ρ) (hi.map ρ) (mx.map ρ) m = some v := by
      unfold cslice
      split at h
      · rename_i e h1
        split at h
        · rename_i sz h2
          unfold slcX at h
          split at h
          · cases h
          · rename_i h3
            simp only [h3, h1, h2]
            split at h
            · rename_i len h4; simp only [h4]; exact h
            · cases h
        · cases h
      · rename_i n e h1
        split at h
        · rename_i sz h2
          unfold slcA at h
          split at h
          · cases h
          · rename_i h3
            simp only [h3, h1, h2]
            split at h
            · rename_i l hh k gn off h4 h5; simp only [h4, h5]; exact h
            · cases h
        · cases h
      · cases h
    simp only [cval, this, Option.map_some]
  case fieldAddr t x f =>
    have : cfieldAddr P t (ρ x) f = some v := by
      unfold cfieldAddr
      split at h
      · rename_i off ft h1
        simp only [h1]
        split at h
        · rename_i n h2; simp only [h2]; exact h
        · cases h
      · cases h
    simp only [cval, this, Option.map_some]
  case indexAddr t x i =>
    have : cindexAddr P t (ρ x) (ρ i) = some v := by
      unfold cindexAddr
      split at h
      · rename_i e h1
        split at h
        · rename_i sz h2
          unfold idxS at h
          split at h
          · cases h
          · rename_i j h3
            simp only [h3, h1, h2]
            split at h
            · rename_i h4; simp only [h4]; exact h
            · rename_i h4; simp only [h4]; exact h
            · cases h
        · cases h
      · rename_i n e h1
        split at h
        · rename_i sz h2
          unfold idxA at h
          split at h
          · cases h
          · rename_i j h3
            simp only [h3, h1, h2]
            split at h
            · rename_i h4; simp only [h4]; exact h
            · rename_i h4; simp only [h4]; exact h
            · cases h
        · cases h
      · cases h
    simp only [cval, this, Option.map_some]
  case field t x f =>
    simp only [cval]
    split at h
    · rename_i off ft h1
      simp only [h1]
      split at h
      · rename_i sz h2 h3
        unfold fldG at h
        split at h
        · rename_i cs h4; simp only [h4, partC, h2, h3, Option.map_some]; simp only [Option.some.injEq] at h; rw [h]
        · cases h
      · rename_i h2
        unfold fld1 at h
        split at h
        · rename_i cs h4; simp only [h4, partC, h2, h, Option.map_some]
        · cases h
      · cases h
    · cases h
  case index t x i =>
    simp only [cval]
    split at h
    · rename_i h1
      unfold idxT at h
      split at h
      · rename_i s j h2 h3
        simp only [h2, h3, h1]
        obtain ⟨b, h4, rfl⟩ := map_some' h
        simp only [h4, Option.map_some]
      · cases h
    · rename_i n e h1
      split at h
      · rename_i a sz h2 h3
        unfold idxV at h
        split at h
        · rename_i cs j h4 h5
          simp only [h4, h5, tarr, h1]
          split at h
          · rename_i hlt
            simp only [hlt, if_true, h3, Option.bind_some]
            cases a with
            | true => simp only [if_true, Option.some.injEq] at h; simp only [partC, h2, h3, Option.map_some, h]
            | false => simp only [Bool.false_eq_true, if_false] at h; simp only [partC, h2, h, Option.map_some]
          · cases h
        · cases h
      · cases h
    · cases h
  case lookup t x i ok =>
    simp only [cval]
    split at h
    · rename_i kt et h1
      split at h
      · rename_i z h2 h3
        unfold lookX at h
        split at h
        · rename_i es h4
          simp only [h1, h4, h2, h3, if_true]
          split at h
          · rename_i i' v' h5; simp only [h5]; simp only [Option.some.injEq] at h; rw [h]
          · rename_i h5; simp only [h5]; simp only [Option.some.injEq] at h; rw [h]
          · cases h
        · cases h
      · cases h
    · cases h
  case typeAssert x a t ok =>
    simp only [cval]
    unfold asrX at h
    split at h
    · cases h
    · rename_i dd h1
      simp only [h1]
      split at h
      · rename_i h2
        simp only [h2]
        split at h
        · rename_i hok
          obtain ⟨z, h3, rfl⟩ := map_some' h
          simp only [hok, if_true, h3, Option.map_some]
        · cases h
      · rename_i u w h2
        simp only [h2]
        cases dd <;> simp only at h ⊢
        all_goals
          split at h
          · rename_i h3
            rw [h3]
            simp only [Option.some.injEq] at h
            subst h
            rfl
          · rename_i h3
            rw [h3]
            simp only
            split at h
            · rename_i hok
              obtain ⟨z, h4, rfl⟩ := map_some' h
              simp only [hok, if_true, h4, Option.map_some]
            · cases h
          · cases h
      · cases h
  case extract t i =>
    simp only [cval]
    unfold extX at h
    split at h
    · rename_i vs h1; simp only [h1, h, Option.map_some]
    · cases h
  case build t parts =>
    simp only [cval]
    split at h
    · rename_i z fields h1 h2
      simp only [h1, h2]
      split at h
      · rename_i hall
        obtain ⟨q, h3, h4⟩ := bind_some' h
        obtain ⟨cs, h5, rfl⟩ := map_some' h4
        simp only [hall, if_true, placed_fill h3, h5, Option.map_some]
      · cases h
    · rename_i z n e h1 h2
      simp only [h1, h2]
      split at h
      · rename_i s h3
        obtain ⟨q, h4, h5⟩ := bind_some' h
        obtain ⟨cs, h6, rfl⟩ := map_some' h5
        simp only [h3, Option.bind_some, placed_fill h4, h6, Option.map_some]
      · cases h
    · cases h
  case call c =>
    obtain ⟨callee, args, ats⟩ := c
    cases callee with
    | value f => cases h
    | invoke r n => cases h
    | builtin b =>
      cases b <;> simp only at h <;> try cases h
      case len =>
        simp only [cval]
        split at h
        · rename_i x t h1 h2
          simp only [h1, h2, List.map_cons, List.map_nil]
          split at h
          · rename_i h3
            obtain ⟨n, h4, rfl⟩ := map_some' (show (clen (ρ x)).map (fun (n : Nat) => CV.int .i64 (n : Int)) = some v from h)
            simp only [h3, h4, Option.map_some]
          · rename_i h3
            obtain ⟨n, h4, rfl⟩ := map_some' (show (mapOf m (ρ x)).map (fun es => CV.int .i64 (es.length : Int)) = some v from h)
            simp only [h3, h4, Option.map_some]
          · rename_i h3
            unfold lenT at h
            split at h
            · rename_i s hs; simp only [h3, hs]; simp only [Option.some.injEq] at h; rw [h]
            · cases h
          · rename_i h3
            simp only [h3]; simp only [Option.some.injEq] at h; rw [h]
          · cases h
        · cases h
      case max => simp only [cval, h, Option.map_some]
      case min => simp only [cval, h, Option.map_some]

theorem mup_cval {t kt et : TypeId} {x k v : CV} {m m' : Mem} (h1 : tmap P t = some (kt, et)) (h2 : plainKey P kt = true) (h : mupX P kt x k v m = some m') : cval.mapUp P m t x k v = some (.dead, m') := by
  unfold mupX at h
  unfold cval.mapUp
  split at h
  · rename_i key gn
    simp only [h1]
    obtain ⟨y, h3, h4⟩ := bind_some' h
    simp only [h3, Option.bind_some]
    split at h4
    · rename_i g es v' h5 h6
      simp only [h5, h6]
      split at h4
      · rename_i hc
        rw [if_pos ⟨hc.1, h2, hc.2⟩]
        split at h4
        · rename_i i' v'' h7; simp only [h7]; simp only [Option.some.injEq] at h4; rw [h4]
        · rename_i h7; simp only [h7]; simp only [Option.some.injEq] at h4; rw [h4]
        · cases h4
      · cases h4
    · cases h4
  · cases h

theorem mX_cval {d : Option Tmp} {ρ : Operand → CV} {op : Op} {m m' : Mem} (h : mX P ρ op m = some m') : cval P A F fid ρ ⟨d, op, 0, "", #[], none⟩ m = some (.dead, m') := by
  cases op <;> simp only [mX] at h <;> try cases h
  case store t a x =>
    have : cstore P m t (ρ a) (ρ x) = some m' := by
      unfold cstore
      split at h
      · rename_i n h1
        unfold stX at h
        split at h
        · rename_i cs h2; simp only [h1, h2]; exact h
        · cases h
      · cases h
    simp only [cval, this, Option.map_some]
  case mapUpdate t x k v =>
    simp only [cval]
    split at h
    · rename_i kt et h1
      split at h
      · rename_i h2; exact mup_cval h1 h2 h
      · cases h
    · cases h
  case insert t x k v =>
    simp only [cval]
    split at h
    · rename_i kt et h1
      split at h
      · rename_i h2; exact mup_cval h1 h2 h
      · cases h
    · cases h

theorem add_glob {m : Mem} {j : Nat} {mk : Nat → HO} : Mem.add m true j mk = (.g m.H.length, 1, ⟨m.L, m.H ++ [mk 1]⟩) := rfl
theorem small_eq {e : TypeId} {b n : Nat} (h : tbytes P e = some b) : small P e n = smallB b n := by simp only [small, h, smallB]

theorem pX_cval {d : Option Tmp} {ρ : Operand → CV} {op : Op} {m : Mem} {y : CV × Mem} (h : pX P A F fid d ρ op m = some y) : cval P A F fid ρ ⟨d, op, 0, "", #[], none⟩ m = some y := by
  cases op <;> simp only [pX] at h <;> try cases h
  case alloc t =>
    simp only [cval]
    split at h
    · rename_i z h1 h2
      simp only [h1, h2]
      split at h <;> rename_i h3 <;> simp only [h3, add_local', add_glob] <;> simpa [newP, newL, gnewP, gnewL] using h
    · rename_i z n e h1 h2
      simp only [h1, h2]
      split at h <;> rename_i h3 <;> simp only [h3, add_local', add_glob] <;> simpa [newA, gnewP, gnewA] using h
    · cases h
  case box t x =>
    simp only [cval]
    split at h
    · rename_i h2
      simp only [h2]
      split at h
      · rename_i h3
        simp only [h3, add_local']
        obtain ⟨cs, h4, rfl⟩ := map_some' h
        simp [h4, newP, newL]
      · rename_i h3
        simp only [h3, add_glob]
        unfold boxG at h
        split at h
        · rename_i cs h4
          obtain ⟨z, h5, rfl⟩ := map_some' h
          simp [h4, h5, gnewP, gnewL]
        · cases h
    · rename_i n e h2
      simp only [h2]
      unfold boxA at h
      split at h
      · rename_i cs h4
        obtain ⟨z, h5, rfl⟩ := map_some' h
        simp only [h4, h5, Option.map_some]
        cases gslot (A.glob fid) d <;> simp [add_local', add_glob, nmA, newP, newA, gnewP, gnewA]
      · cases h
  case buildSlice t n parts =>
    simp only [cval]
    split at h
    · rename_i e h1
      simp only [h1]
      split at h
      · rename_i s z h2 h3
        simp only [h2, h3]
        split at h
        · rename_i hc
          rw [if_pos hc]
          obtain ⟨q, h4, h5⟩ := bind_some' h
          unfold bslX at h5
          obtain ⟨cs, h6, h7⟩ := bind_some' h5
          obtain ⟨w, h8, rfl⟩ := map_some' h7
          simp only [placed_fill h4, h6, Option.bind_some, h8, Option.map_some]
          cases gslot (A.glob fid) d <;> simp [add_local', add_glob, nmA, nmR, newR, newA, gnewR, gnewA]
        · cases h
      · cases h
    · cases h
  case makeMap t x =>
    cases x with
    | none =>
      simp only [cval]
      simp only at h
      split at h
      · rename_i h1
        simp only [h1]
        split at h <;> rename_i h3 <;> simp only [h3, add_local', add_glob] <;> simpa [newK, newM, gnewK, gnewM] using h
      · cases h
    | some x =>
      simp only [cval]
      simp only at h
      split at h
      · rename_i h1
        simp only [h1]
        unfold mmX at h
        split at h
        · rename_i hx
          simp only [hx]
          split at h <;> rename_i h3 <;> simp only [h3, add_local', add_glob] <;> simpa [newK, newM, gnewK, gnewM] using h
        · cases h
      · cases h
  case makeSlice t l c =>
    simp only [cval]
    split at h
    · rename_i e h1
      simp only [h1]
      split at h
      · rename_i s z b h2 h3 h4
        simp only [h2, h3]
        unfold mkX at h
        split at h
        · rename_i k a k' b' h5 h6
          simp only [h5, h6]
          split at h
          · rename_i hc
            rw [if_pos ⟨hc.1, hc.2.1, by rw [small_eq h4]; exact hc.2.2.1, hc.2.2.2⟩]
            simp only [Option.some.injEq] at h
            subst h
            cases gslot (A.glob fid) d <;> simp [add_local', add_glob, nmA, nmR, newR, newA, gnewR, gnewA]
          · cases h
        · cases h
      · cases h
    · cases h
  case call c =>
    obtain ⟨callee, args, ats⟩ := c
    cases callee with
    | value f => exact h
    | invoke r n =>
      simp only [cval]
      simp only [invX] at h
      split at h
      · rename_i t x h1; simp only [h1]; exact h
      · cases h
    | builtin b =>
      cases b <;> simp only at h <;> try cases h
      case append =>
        simp only [cval]
        split at h
        · rename_i s x t u _ h1 h2
          simp only [h1, h2, List.map_cons, List.map_nil]
          split at h
          · rename_i e _ h3 h4
            simp only [h3, h4]
            split at h
            · rename_i sz z b h5 h6 h7
              split at h
              · cases h
              · rename_i hc
                simp only [cappend, h5, h6, if_neg hc]
                unfold appX at h
                split at h
                · rename_i ys n h8 h9
                  simp only [h8, h9, small_eq h7]
                  split at h
                  · rename_i h10
                    simp only [h10]
                    split at h
                    · rename_i h11; simp only [h11, if_true]; exact h
                    · rename_i h11
                      simp only [h11, if_false]
                      split at h
                      · rename_i h12
                        simp only [h12, if_true]
                        simp only [Option.some.injEq] at h
                        subst h
                        cases gslot (A.glob fid) d <;> simp [add_local', add_glob, nmA, nmR, newR, newA, gnewR, gnewA]
                      · cases h
                  · rename_i k gn off len h10
                    simp only [h10]
                    split at h
                    · rename_i g s' cs vl h11
                      simp only [h11]
                      exact h
                    · cases h
                  · cases h
                · cases h
            · cases h
          · cases h
        · cases h
      case copy =>
        simp only [cval]
        split at h
        · rename_i x y t _ h1 h2
          simp only [h1, h2, List.map_cons, List.map_nil]
          split at h
          · rename_i e h3
            simp only [h3]
            split at h
            · rename_i sz h4
              simp only [ccopy, h4]
              exact h
            · cases h
          · cases h
        · cases h
      case delete =>
        simp only [cval]
        split at h
        · rename_i x k t _ h1 h2
          simp only [h1, h2, List.map_cons, List.map_nil]
          split at h
          · rename_i kt et h3
            split at h
            · rename_i h4
              obtain ⟨m', h5, rfl⟩ := map_some' h
              unfold delX at h5
              split at h5
              · rename_i key gn h6
                simp only [h6, h3]
                split at h5
                · rename_i g es h7
                  simp only [h7]
                  split at h5
                  · rename_i hg
                    rw [if_pos ⟨hg, h4⟩]
                    split at h5
                    · rename_i i' v' h8; simp only [h8]; simp only [Option.some.injEq] at h5; rw [h5]
                    · rename_i h8; simp only [h8]; simp only [Option.some.injEq] at h5; rw [h5]
                    · cases h5
                  · cases h5
                · cases h5
              · cases h5
            · cases h
          · cases h
        · cases h

theorem vval_cval {d : Option Tmp} {ρ : Operand → CV} {op : Op} {m : Mem} {y : CV × Mem} (h : vval P A F fid d ρ op m = some y) : cval P A F fid ρ ⟨d, op, 0, "", #[], none⟩ m = some y := by
  unfold vval at h
  split at h
  · obtain ⟨v, h1, rfl⟩ := map_some' h; exact vX_cval h1
  · obtain ⟨v, h1, rfl⟩ := map_some' h; exact mX_cval h1
  · exact pX_cval h
end

section
variable (P : Program) (A : Ann) (F : Oracle) (fid : FuncId)
def vop (d : Option Tmp) (ρ : Operand → CV) (op : Op) (m : Mem) (K : CV → Mem → Prop) : Prop :=
  match op with
  | .move x => K (ρ x) m
  | .assign x => K (ρ x) m
  | .makeInterface t x => if isIface P t || (P.underlying t).isNone then False else K (.iface t (ρ x)) m
  | .makeFunc fn first captured => K (.func fn (first.toList.map ρ) (captured.toList.map ρ)) m
  | .alloc t => match tzcells P t, tarr P t, gslot (A.glob fid) d with
    | some z, none, false => K (newP m (dslot d)) (newL m (dslot d) z)
    | some z, none, true => K (gnewP m) (gnewL m z)
    | _, _, _ => Obt (pX P A F fid d ρ op m) fun x => K x.1 x.2
  | .box t x => match tarr P t, gslot (A.glob fid) d with
    | none, false => Obt (ccells (ρ x)) fun cs => K (newP m (dslot d)) (newL m (dslot d) cs)
    | _, _ => Obt (pX P A F fid d ρ op m) fun x => K x.1 x.2
  | .makeMap t none => match tmap P t, gslot (A.glob fid) d with
    | some _, false => K (newK m (dslot d)) (newM m (dslot d))
    | some _, true => K (gnewK m) (gnewM m)
    | none, _ => False
  | op => match opk op with
    | 0 => Obt (vX P ρ op m) fun v => K v m
    | 1 => Obt (mX P ρ op m) fun m' => K .dead m'
    | _ => Obt (pX P A F fid d ρ op m) fun x => K x.1 x.2
theorem vop_vval {d : Option Tmp} {ρ : Operand → CV} {op : Op} {m : Mem} {K : CV → Mem → Prop} (h : vop P A F fid d ρ op m K) : Obt (vval P A F fid d ρ op m) fun x => K x.1 x.2 := by
  have gen : (match opk op with
    | 0 => Obt (vX P ρ op m) fun v => K v m
    | 1 => Obt (mX P ρ op m) fun m' => K .dead m'
    | _ => Obt (pX P A F fid d ρ op m) fun x => K x.1 x.2) → Obt (vval P A F fid d ρ op m) fun x => K x.1 x.2 := by
    intro h
    unfold vval
    split at h <;> rename_i ho
    · simp only [ho, Obt_map]; exact h
    · simp only [ho, Obt_map]; exact h
    · split
      · rename_i h1; exact absurd h1 (by assumption)
      · rename_i h1; exact absurd h1 (by assumption)
      · exact h
  unfold vop at h
  split at h
  · simpa only [vval, opk, vX, Obt_map, Obt_some] using h
  · simpa only [vval, opk, vX, Obt_map, Obt_some] using h
  · split at h
    · exact h.elim
    · rename_i hc
      simp only [vval, opk, vX, Obt_map]
      rw [if_neg hc, Obt_some]; exact h
  · simpa only [vval, opk, vX, Obt_map, Obt_some] using h
  · split at h
    · rename_i h1 h2 h3
      simp only [vval, opk, pX, h1, h2, h3, Obt_some]; exact h
    · rename_i h1 h2 h3
      simp only [vval, opk, pX, h1, h2, h3, Obt_some]; exact h
    · exact h
  · split at h
    · rename_i h1 h2
      simp only [vval, opk, pX, h1, h2, Obt_map]; exact h
    · exact h
  · split at h
    · rename_i h1 h2
      simp only [vval, opk, pX, h1, h2, Obt_some]; exact h
    · rename_i h1 h2
      simp only [vval, opk, pX, h1, h2, Obt_some]; exact h
    · exact h.elim
  · exact gen h
def Vops (dr : Bool) : List SO → TS → (TS → Prop) → Prop
  | [], s, K => K s
  | o :: r, s, K =>
    match o.off, o.g, dr && calmOp A o.op with
    | [], none, false => vop P A F fid o.d (tev s.sl) o.op s.m fun v m' => Vops dr r ⟨tput s.sl o.d v, m'⟩ K
    | [], none, true => Obt (chk true (vval P A F fid o.d (tev s.sl) o.op s.m)) fun x => Vops dr r ⟨tput s.sl o.d x.1, x.2⟩ K
    | [], some (t, w), b => Obt (gdO (tget s.sl t) w (chk b (vval P A F fid o.d (tev s.sl) o.op s.m)) (.tuple [], s.m)) fun x => Vops dr r ⟨tput s.sl o.d x.1, x.2⟩ K
    | off, none, b => Obt (chk b (offC off o.op (tev s.sl) s.m (vval P A F fid o.d (tev s.sl) o.op s.m))) fun x => Vops dr r ⟨tput s.sl o.d x.1, x.2⟩ K
    | off, some (t, w), b => Obt (gdO (tget s.sl t) w (chk b (offC off o.op (tev s.sl) s.m (vval P A F fid o.d (tev s.sl) o.op s.m))) (.tuple [], s.m)) fun x => Vops dr r ⟨tput s.sl o.d x.1, x.2⟩ K
theorem offC_mono {off : List (Bool × Nat)} {op : Op} {ρ : Operand → CV} {m : Mem} {x x' : Option (CV × Mem)} (hx : ∀ y, x = some y → x' = some y) {y : CV × Mem} (h : offC off op ρ m x = some y) : offC off op ρ m x' = some y := by
  have h0 := offC_some h
  have h1 := hx y h0
  rw [h0] at h
  rw [h1]; exact h
theorem chk_mono {b : Bool} {x x' : Option (CV × Mem)} (hx : ∀ y, x = some y → x' = some y) {y : CV × Mem} (h : chk b x = some y) : chk b x' = some y := by
  cases b with
  | false => exact hx y h
  | true =>
    simp only [chk, Option.bind_eq_some_iff] at h ⊢
    obtain ⟨z, h1, h2⟩ := h
    exact ⟨z, hx z h1, h2⟩
theorem Vops_Tops {dr : Bool} : ∀ {l : List SO} {s : TS} {K : TS → Prop}, Vops P A F fid dr l s K → Tops P A F fid dr l s K
  | [], _, _, h => h
  | o :: r, s, K, h => by
    have hvv : ∀ y, vval P A F fid o.d (tev s.sl) o.op s.m = some y → cval P A F fid (tev s.sl) o.up s.m = some y := fun y hy => vval_cval hy
    have guarded : ∀ {t : Tmp} {w : Bool} {X X' : Option (CV × Mem)} {x : CV × Mem}, gdO (tget s.sl t) w X (.tuple [], s.m) = some x → (∀ y, X = some y → X' = some y) →
        gdO (tget s.sl t) w X' (.tuple [], s.m) = some x := fun {t w X X' x} h hx => by
      rcases gdO_some h with ⟨h5, h6⟩ | ⟨h5, rfl⟩
      · rw [h5]
        have e : ∀ X : Option (CV × Mem), gdO (.bool w) w X (CV.tuple [], s.m) = X := fun X => by cases w <;> rfl
        rw [e]; exact hx _ h6
      · rcases h5 with h5 | h5
        · rw [h5]; cases w <;> rfl
        · rw [h5]; rfl
    simp only [Vops] at h
    simp only [Tops, top, tguard]
    split at h
    · rename_i h0 h1 h2
      simp only [h0, h1, h2, chk, offC]
      obtain ⟨x, h3, h4⟩ := vop_vval P A F fid h
      exact ⟨x, vval_cval h3, Vops_Tops h4⟩
    · rename_i h0 h1 h2
      simp only [h0, h1, h2, offC]
      obtain ⟨x, h3, h4⟩ := h
      exact ⟨x, chk_mono hvv h3, Vops_Tops h4⟩
    · rename_i t w h0 h1
      simp only [h0, h1, offC]
      obtain ⟨x, h3, h4⟩ := h
      exact ⟨x, guarded h3 fun y hy => chk_mono hvv hy, Vops_Tops h4⟩
    · rename_i hg _ _
      simp only [hg]
      obtain ⟨x, h3, h4⟩ := h
      exact ⟨x, chk_mono (fun y hy => offC_mono hvv hy) h3, Vops_Tops h4⟩
    · rename_i t w hg _
      simp only [hg]
      obtain ⟨x, h3, h4⟩ := h
      exact ⟨x, guarded h3 fun y hy => chk_mono (fun z hz => offC_mono hvv hz) hy, Vops_Tops h4⟩
end
theorem Tx_told {P : Program} {A : Ann} {F : Oracle} {fid : FuncId} {s : TS} {Q : CE → TS → Prop} {dr : Bool} {keep : Option (List Tmp)} {ops : List SO} {X : Prop}
    (he : (Vops P A F fid dr ops s fun s' => Q .normal ⟨tkeep keep s'.sl, s'.m⟩) = X) (h : X) : Tx P A F fid (.reg dr keep ops) s Q := Tx_reg (Vops_Tops P A F fid (he ▸ h))
def rgC (P : Program) (A : Ann) (fid : FuncId) (nt i : Nat) : Code → Option SC
  | .region id ops draw => if id == i then strip P A fid nt (.region id ops draw) else none
  | .seq a b => (rgC P A fid nt i a).or (rgC P A fid nt i b)
  | .cond _ a b => (rgC P A fid nt i a).or (rgC P A fid nt i b)
  | .block _ c => rgC P A fid nt i c
  | .loop c => rgC P A fid nt i c
  | _ => none
def rgo (P : Program) (A : Ann) (fid : FuncId) (f : Func) (i : Nat) : List SO := match f.body.bind (rgC P A fid f.ntmps i) with
  | some (.reg _ _ l) => l
  | _ => []
end Go.Cm

namespace Go.Cm

def setL (m : Mem) (j : Nat) (o : HO) : Mem := ⟨lset m.L j o, m.H⟩
theorem lset_lset (l : List (Nat × HO)) (i : Nat) (a b : HO) : lset (lset l i a) i b = lset l i b := by
  induction l with
  | nil => simp only [lset, if_true]
  | cons x r ih =>
    obtain ⟨k, h⟩ := x
    simp only [lset]
    split
    · simp only [lset, if_true]
    · rename_i hk
      simp only [lset, hk, if_false, ih]
theorem lget_setL {m : Mem} {i j : Nat} {o : HO} : lget (setL m i o).L j = if i = j then some o else lget m.L j := lget_lset _ _ _ _
theorem setL_H {m : Mem} {i : Nat} {o : HO} : (setL m i o).H = m.H := rfl
theorem setL_setL {m : Mem} {i : Nat} {a b : HO} : setL (setL m i a) i b = setL m i b := by simp only [setL, lset_lset]
theorem gnext_setL {m : Mem} {i j : Nat} {o : HO} : gnext (setL m i o).L j = if i = j then o.gn + 1 else gnext m.L j := by
  simp only [gnext, lget_setL]
  split <;> rfl
theorem gnext_lset {l : List (Nat × HO)} {i j : Nat} {o : HO} : gnext (lset l i o) j = if i = j then o.gn + 1 else gnext l j := by
  simp only [gnext, lget_lset]
  split <;> rfl
theorem newL_eq {m : Mem} {j : Nat} {cs : List CV} : newL m j cs = setL m j (.var (gnext m.L j) cs 0) := rfl
theorem newP_eq {m : Mem} {j : Nat} : newP m j = .ptr (.l j) (gnext m.L j) 0 := rfl
theorem nmA_f {m : Mem} {j sz : Nat} {cs : List CV} : nmA false m j sz cs = setL m j (.arr (gnext m.L j) sz cs 0) := rfl
theorem nmR_f {m : Mem} {j n : Nat} : nmR false m j n = .ref (.l j) (gnext m.L j) 0 n := rfl
theorem gn_var {g vl : Nat} {cs : List CV} : (HO.var g cs vl).gn = g := rfl
section
variable {m : Mem} {j g off len n sz : Nat} {cs : List CV} {v : CV}
theorem fldA_ptr {k : Key} {o : Nat} : fldA off (.ptr k g o) = some (.ptr k g (o + off)) := rfl
theorem fldA_rptr : fldA off (.rptr cs) = some (.rptr (cs.drop off)) := rfl
def rdO (g off n : Nat) : Option HO → Option (List CV)
  | some (.var g' cs _) => if g' = g ∧ off + n ≤ cs.length then some ((cs.drop off).take n) else none
  | some (.arr g' _ cs _) => if g' = g ∧ off + n ≤ cs.length then some ((cs.drop off).take n) else none
  | _ => none
theorem cellsAt_l : cellsAt m (.ptr (.l j) g off) n = rdO g off n (lget m.L j) := by
  simp only [cellsAt, Mem.get]
  cases lget m.L j with
  | none => rfl
  | some h => cases h <;> simp [rdO, HO.gn, HO.isMap, HO.cells]
def rd1 (g off : Nat) : Option HO → Option CV
  | some (.var g' cs _) => if g' = g then cs[off]? else none
  | some (.arr g' _ cs _) => if g' = g then cs[off]? else none
  | _ => none
theorem ld1_l : ld1 m (.ptr (.l j) g off) = rd1 g off (lget m.L j) := by
  simp only [ld1, cellsAt_l]
  cases lget m.L j with
  | none => rfl
  | some h =>
    cases h with
    | var g' cs vl =>
      simp only [rdO, rd1]
      by_cases hg : g' = g
      · simp only [hg, true_and, if_true]; exact head_take_drop
      · simp [hg]
    | arr g' s cs vl =>
      simp only [rdO, rd1]
      by_cases hg : g' = g
      · simp only [hg, true_and, if_true]; exact head_take_drop
      · simp [hg]
    | map => rfl
theorem rd1_var {vl : Nat} : rd1 g off (some (.var g cs vl)) = cs[off]? := by simp only [rd1, if_true]
theorem rd1_arr {s vl : Nat} : rd1 g off (some (.arr g s cs vl)) = cs[off]? := by simp only [rd1, if_true]
def rdA (g off n : Nat) (o : Option HO) : Option CV := (rdO g off n o).map CV.agg
theorem ldA_l : ldA n m (.ptr (.l j) g off) = rdA g off n (lget m.L j) := by simp only [ldA, cellsAt_l, rdA]
theorem rdA_var {vl : Nat} : rdA g off n (some (.var g cs vl)) = if off + n ≤ cs.length then some (.agg ((cs.drop off).take n)) else none := by
  simp only [rdA, rdO, true_and]; split <;> rfl
theorem rdA_arr {s vl : Nat} : rdA g off n (some (.arr g s cs vl)) = if off + n ≤ cs.length then some (.agg ((cs.drop off).take n)) else none := by
  simp only [rdA, rdO, true_and]; split <;> rfl
theorem ld1_r : ld1 m (.rptr (v :: cs)) = some v := by simp [ld1, cellsAt]
def escP : CV → Bool
  | .bool _ => true
  | .int _ _ => true
  | .str _ => true
  | .nil => true
  | .imm _ _ => true
  | .pnil => true
  | .rptr _ => true
  | .mnil => true
  | .nilf => true
  | .inil => true
  | .ref (.g _) _ _ _ => true
  | .ptr (.g _) _ _ => true
  | .map (.g _) _ => true
  | _ => false
def escQ : CV → Bool
  | .agg cs => cs.all escP
  | .tuple cs => cs.all escP
  | .iface _ v => escP v
  | .func _ a b => a.all escP && b.all escP
  | v => escP v
theorem escP_esc {v : CV} {k : Nat} (h : escP v = true) : esc (k + 1) v m = some (v, m) := by
  cases v with
  | ref key gn off len => cases key <;> first | rfl | simp [escP] at h
  | ptr key gn off => cases key <;> first | rfl | simp [escP] at h
  | map key gn => cases key <;> first | rfl | simp [escP] at h
  | _ => first | rfl | simp [escP] at h
theorem mapMem_same {f : CV → Mem → Option (CV × Mem)} : ∀ {cs : List CV}, (∀ c ∈ cs, f c m = some (c, m)) → mapMem f cs m = some (cs, m)
  | [], _ => rfl
  | c :: cs, h => by
    simp only [mapMem, h c List.mem_cons_self, Option.bind_some, mapMem_same (fun x hx => h x (List.mem_cons_of_mem _ hx)), Option.map_some]
theorem escQ_esc {v : CV} {k : Nat} (h : escQ v = true) : esc (k + 2) v m = some (v, m) := by
  have hall : ∀ {cs : List CV}, cs.all escP = true → mapMem (esc (k + 1)) cs m = some (cs, m) := fun h => mapMem_same fun c hc => escP_esc (List.all_eq_true.1 h c hc)
  cases v with
  | agg cs =>
    show (mapMem (esc (k + 1)) cs m).map (fun x => (CV.agg x.1, x.2)) = _
    rw [hall h]; rfl
  | tuple cs =>
    show (mapMem (esc (k + 1)) cs m).map (fun x => (CV.tuple x.1, x.2)) = _
    rw [hall h]; rfl
  | iface t v =>
    show (esc (k + 1) v m).map (fun x => (CV.iface t x.1, x.2)) = _
    rw [escP_esc h]; rfl
  | func f a b =>
    simp only [escQ, Bool.and_eq_true] at h
    show ((mapMem (esc (k + 1)) a m).bind fun x => (mapMem (esc (k + 1)) b x.2).map fun y => (CV.func f x.1 y.1, y.2)) = _
    rw [hall h.1, Option.bind_some, hall h.2]; rfl
  | _ => exact escP_esc h
theorem escQ_list {cs : List CV} (h : cs.all escQ = true) : escList m cs = some (cs, m) :=
  mapMem_same fun c hc => escQ_esc (List.all_eq_true.1 h c hc)
theorem escP_escQ {v : CV} (h : escP v = true) : escQ v = true := by cases v <;> first | exact h | simp [escP] at h
theorem escP_list {cs : List CV} (h : cs.all escP = true) : escList m cs = some (cs, m) :=
  escQ_list (List.all_eq_true.2 fun c hc => escP_escQ (List.all_eq_true.1 h c hc))
def wrA (m : Mem) (j gn off : Nat) (cs : List CV) (g sz : Nat) (cells : List CV) (vl : Nat) : Option Mem :=
  if g = gn ∧ off + cs.length ≤ cells.length ∧ vl ≤ off then
    (escList m cs).bind fun x =>
      match x.2.get (.l j) with
      | some (.arr g' _ _ vl') => if g' = gn ∧ vl' ≤ off then some (x.2.set (.l j) (.arr g sz (splice cells off x.1) vl')) else none
      | _ => none
  else none
def stV (n : Nat) (m : Mem) (j gn off : Nat) (v : Option (List CV)) (o : Option HO) : Option Mem :=
  match v with
  | some cs => if cs.length = n then
      (match o with
      | some (.var g cells vl) => if g = gn ∧ off + cs.length ≤ cells.length ∧ vl ≤ off then some (setL m j (.var g (splice cells off cs) vl)) else none
      | some (.arr g sz cells vl) => wrA m j gn off cs g sz cells vl
      | _ => none)
    else none
  | none => none
theorem stX_l : stX n m (.ptr (.l j) g off) v = stV n m j g off (ccells v) (lget m.L j) := by
  unfold stX stV
  cases ccells v with
  | none => rfl
  | some cs =>
    simp only
    split
    · simp only [cstoreAt, Mem.get]
      cases lget m.L j with
      | none => rfl
      | some h => cases h <;> rfl
    · rfl
theorem stV_var {cells : List CV} {vl : Nat} : stV n m j g off (some cs) (some (.var g cells vl)) = if cs.length = n ∧ off + n ≤ cells.length ∧ vl ≤ off then some (setL m j (.var g (splice cells off cs) vl)) else none := by
  simp only [stV, true_and]
  by_cases h : cs.length = n
  · simp only [h, if_true, true_and]
  · simp only [h, if_false, false_and]
end
theorem pickX_t {a b : CV} : pickX (.bool true) a b = some a := rfl
theorem pickX_f {a b : CV} : pickX (.bool false) a b = some b := rfl
theorem Obt_pickS {b : Bool} {a c : CV} {K : CV → Prop} : Obt (pickX (.bool b) a c) K = ((b = true → K a) ∧ (b = false → K c)) := by
  cases b <;> simp [pickX, Obt_some]
theorem Obt_gdF {α : Type} {b : Bool} {X : Option α} {e : α} {K : α → Prop} : Obt (gdO (.bool b) false X e) K = ((b = false → Obt X K) ∧ (b = true → K e)) := by
  cases b <;> simp [gdO, Obt_some]

def appR (sz b j g off len : Nat) (ys : Option (List CV)) (n : Option Nat) (o : Option HO) (m : Mem) : Option (CV × Mem) :=
  match ys, n with
  | some ys, some n =>
    match o with
    | some (.arr g' s' cs vl) =>
      if g' = g ∧ s' = sz ∧ vl ≤ off + len * sz ∧ smallB b (len + n) = true then
        some (.ref (.l j) (g' + 1) 0 (len + n), setL m j (.arr (g' + 1) sz ((cs.drop off).take (len * sz) ++ ys) (vl - off)))
      else none
    | _ => none
  | _, _ => none
def appN (glob : Bool) (j sz b : Nat) (ys : Option (List CV)) (n : Option Nat) (m : Mem) : Option (CV × Mem) :=
  match ys, n with
  | some ys, some n =>
    if n = 0 then some (.nil, m)
    else if smallB b n = true then some (nmR glob m j n, nmA glob m j sz ys)
    else none
  | _, _ => none
theorem appX_l {glob : Bool} {i j sz b g off len : Nat} {x : CV} {m : Mem} : appX glob i sz b (.ref (.l j) g off len) x m = appR sz b j g off len (content m sz x) (clen x) (lget m.L j) m := by
  unfold appX appR
  cases content m sz x with
  | none => rfl
  | some ys =>
    cases clen x with
    | none => rfl
    | some n =>
      simp only [Mem.get]
      cases lget m.L j with
      | none => rfl
      | some h =>
        cases h with
        | arr g' s cs vl =>
          simp only
          by_cases hg : g' = g
          · subst hg; rfl
          · simp only [hg, false_and, if_false]
        | var => rfl
        | map => rfl
theorem appX_n {glob : Bool} {i sz b : Nat} {x : CV} {m : Mem} : appX glob i sz b .nil x m = appN glob i sz b (content m sz x) (clen x) m := by
  unfold appX appN
  cases content m sz x with
  | none => rfl
  | some ys => cases clen x <;> rfl
theorem appR_arr {sz b j g off len n vl : Nat} {ys cs : List CV} {m : Mem} : appR sz b j g off len (some ys) (some n) (some (.arr g sz cs vl)) m =
    if vl ≤ off + len * sz ∧ smallB b (len + n) = true then some (.ref (.l j) (g + 1) 0 (len + n), setL m j (.arr (g + 1) sz ((cs.drop off).take (len * sz) ++ ys) (vl - off))) else none := by
  simp only [appR, true_and]
theorem appN_some {glob : Bool} {j sz b n : Nat} {ys : List CV} {m : Mem} (hn : ¬ n = 0) : appN glob j sz b (some ys) (some n) m = if smallB b n = true then some (nmR glob m j n, nmA glob m j sz ys) else none := by
  simp only [appN, hn, if_false]
theorem smallB_ok {b n : Nat} (hb : b ≤ 1024) (hn : n ≤ 4294967296) : smallB b n = true := by
  have h1 : n * b ≤ 4294967296 * 1024 := Nat.mul_le_mul hn hb
  have h2 : n ≤ 70368744177664 := by omega
  have h3 : n * b ≤ 140737488355328 := by omega
  simp [smallB, hb, most, h2, h3]
def conR (sz g off len : Nat) (o : Option HO) : Option (List CV) :=
  match o with
  | some (.arr g' s cs _) => if g' = g ∧ s = sz then some ((cs.drop off).take (len * sz)) else none
  | _ => none
theorem content_l {m : Mem} {sz j g off len : Nat} : content m sz (.ref (.l j) g off len) = conR sz g off len (lget m.L j) := by
  simp only [content, Mem.get]
  cases lget m.L j with
  | none => rfl
  | some h => cases h <;> rfl
theorem conR_arr {sz g off len vl : Nat} {cs : List CV} : conR sz g off len (some (.arr g sz cs vl)) = some ((cs.drop off).take (len * sz)) := by
  simp only [conR, and_self, if_true]
theorem clen_n : clen .nil = some 0 := rfl
theorem clen_r {k : Key} {g off len : Nat} : clen (.ref k g off len) = some len := rfl
theorem idxS_ref {sz : Nat} {k : IntKind} {key : Key} {g off len : Nat} {i : Int} : idxS sz (.ref key g off len) (.int k i) = if 0 ≤ i ∧ i.toNat < len then some (.ptr key g (off + i.toNat * sz)) else none := by
  simp only [idxS, asNat]
  by_cases h : 0 ≤ i
  · simp only [h, if_true, true_and]
  · simp only [h, if_false, false_and]
section
variable {P : Program} {t : TypeId} {x y : Operand} {k k' : IntKind} {a b : Int} {K : CV → Prop}
theorem Obt_add : Obt (cbin P .add t x y (.int k a) (.int k b)) K = K (.int k (k.wrap (a + b))) := by simp only [cbin, if_true, intBin, Obt_some]
theorem Obt_sub : Obt (cbin P .sub t x y (.int k a) (.int k b)) K = K (.int k (k.wrap (a - b))) := by simp only [cbin, if_true, intBin, Obt_some]
theorem Obt_rem : Obt (cbin P .rem t x y (.int k a) (.int k b)) K = (¬ b = 0 ∧ K (.int k (a.tmod b))) := by simp only [cbin, if_true, intBin, Obt_ite, Obt_some]
theorem Obt_and : Obt (cbin P .and t x y (.int k a) (.int k b)) K = K (.int k (bitop .and k a b)) := by simp only [cbin, if_true, intBin, Obt_some]
theorem Obt_andNot : Obt (cbin P .andNot t x y (.int k a) (.int k b)) K = K (.int k (bitop .andNot k a b)) := by simp only [cbin, if_true, intBin, Obt_some]
theorem Obt_shr : Obt (cbin P .shr t x y (.int k a) (.int k' b)) K = (¬ b < 0 ∧ K (.int k (a.fdiv (2 ^ (min b.toNat k.bits))))) := by simp only [cbin, shiftC, Obt_ite, Obt_some]
theorem Obt_conv : Obt (convX k (.int k' a)) K = K (.int k (k.wrap a)) := by simp only [convX, Obt_some]
theorem Obt_ext {i : Nat} {vs : List CV} : Obt (extX i (.tuple vs)) K = Obt (vs[i]?) K := rfl
end

end Go.Cm

namespace Go.Cm

theorem retv_gref {n g off len : Nat} {m : Mem} : retv (.ref (.g n) g off len) m = some (.ref (.g n) g off len, m) := rfl
theorem retv_int {k : IntKind} {n : Int} {m : Mem} : retv (.int k n) m = some (.int k n, m) := rfl
theorem retv_bool {b : Bool} {m : Mem} : retv (.bool b) m = some (.bool b, m) := rfl
theorem retv_nil {m : Mem} : retv .nil m = some (.nil, m) := rfl
theorem tup_one {v : CV} : tup [v] = v := rfl
theorem tup_two {a b : CV} {r : List CV} : tup (a :: b :: r) = .tuple (a :: b :: r) := rfl
section
variable {P : Program} {A : Ann} {F : Oracle} {fid : FuncId} {s : TS} {Q : CE → TS → Prop} {x y z : SC}

def Kn (K : TS → Prop) : CE → TS → Prop
  | .normal, s => K s
  | _, _ => False
theorem Kn_normal {K : TS → Prop} : Kn K .normal s = K s := rfl

theorem Tx_assoc (h : Tx P A F fid (.seq x (.seq y z)) s Q) : Tx P A F fid (.seq (.seq x y) z) s Q := by
  obtain ⟨⟨e, s1⟩, n, h1, h2⟩ := h
  refine ⟨_, n, ?_, h2⟩
  simp only [texec, Option.bind_eq_some_iff] at h1 ⊢
  obtain ⟨⟨e2, s2⟩, h3, h4⟩ := h1
  cases e2
  case normal =>
    simp only [Option.bind_eq_some_iff] at h4
    obtain ⟨r, h5, h6⟩ := h4
    exact ⟨r, ⟨_, h3, h5⟩, h6⟩
  all_goals
    simp only [Option.some.injEq, Prod.mk.injEq] at h4
    obtain ⟨rfl, rfl⟩ := h4
    exact ⟨_, ⟨_, h3, rfl⟩, rfl⟩
theorem Tx_regK {dr : Bool} {keep : Option (List Tmp)} {ops : List SO} (h : ∀ K : TS → Prop, (∀ s', Tx P A F fid y s' Q → K s') → Tx P A F fid (.reg dr keep ops) s (Kn K)) : Tx P A F fid (.seq (.reg dr keep ops) y) s Q := by
  refine Tx_seq (Tx_mono (h (fun s' => Tx P A F fid y s' Q) fun _ h => h) ?_)
  intro e s' h
  cases e
  · exact h
  · exact h.elim
  · exact h.elim
theorem Tx_regE {dr : Bool} {keep : Option (List Tmp)} {ops : List SO} (h : ∀ K : TS → Prop, (∀ s', Q .normal s' → K s') → Tx P A F fid (.reg dr keep ops) s (Kn K)) : Tx P A F fid (.reg dr keep ops) s Q := by
  refine Tx_mono (h (fun s' => Q .normal s') fun _ h => h) ?_
  intro e s' h
  cases e
  · exact h
  · exact h.elim
  · exact h.elim
theorem Tx_condK {c : Operand} {b : Bool} (hc : tev s.sl c = .bool b) (h1 : b = true → Tx P A F fid (.seq x z) s Q) (h2 : b = false → Tx P A F fid (.seq y z) s Q) : Tx P A F fid (.seq (.cond c x y) z) s Q := by
  have key : ∀ w, Tx P A F fid (.seq w z) s Q → (tev s.sl c = .bool true → w = x) → (tev s.sl c = .bool false → w = y) → Tx P A F fid (.seq (.cond c x y) z) s Q := by
    intro w h ht hf
    obtain ⟨r, n, h3, h4⟩ := h
    refine ⟨r, n, ?_, h4⟩
    simp only [texec] at h3 ⊢
    cases b with
    | true => rw [ht hc] at h3; rw [hc]; exact h3
    | false => rw [hf hc] at h3; rw [hc]; exact h3
  cases b with
  | true => exact key x (h1 rfl) (fun _ => rfl) (fun h => by rw [hc] at h; cases h)
  | false => exact key y (h2 rfl) (fun h => by rw [hc] at h; cases h) (fun _ => rfl)
theorem Tx_yesK {c : Operand} (hc : tev s.sl c = .bool true) (h : Tx P A F fid (.seq x z) s Q) : Tx P A F fid (.seq (.cond c x y) z) s Q := Tx_condK hc (fun _ => h) (fun h => by cases h)
theorem Tx_noK {c : Operand} (hc : tev s.sl c = .bool false) (h : Tx P A F fid (.seq y z) s Q) : Tx P A F fid (.seq (.cond c x y) z) s Q := Tx_condK hc (fun h => by cases h) (fun _ => h)
theorem Tx_nopK (h : Tx P A F fid z s Q) : Tx P A F fid (.seq .nop z) s Q := Tx_seq (Tx_nop h)
theorem Tx_retK (h : Q .ret s) : Tx P A F fid (.seq .ret z) s Q := Tx_seq (Tx_ret h)
theorem Tx_exitK {i : Nat} (h : Q (.exit i) s) : Tx P A F fid (.seq (.exit i) z) s Q := Tx_seq (Tx_exit h)
theorem Tx_blockK {id : Nat} {c : SC} (h : ∀ Q' : CE → TS → Prop, (∀ s', Tx P A F fid z s' Q → Q' .normal s') → (∀ s', Tx P A F fid z s' Q → Q' (.exit id) s') → (∀ s', Q .ret s' → Q' .ret s') → (∀ i s', i ≠ id → Q (.exit i) s' → Q' (.exit i) s') → Tx P A F fid c s Q') :
    Tx P A F fid (.seq (.block id c) z) s Q := by
  refine Tx_seq (Tx_block (h _ (fun s' h => h) (fun s' h => ?_) (fun s' h => h) (fun i s' hi h => ?_)))
  · simp only [twithin, if_true]; exact h
  · simp only [twithin, hi, if_false]; exact h
theorem Tx_blockE {id : Nat} {c : SC} (h : ∀ Q' : CE → TS → Prop, (∀ s', Q .normal s' → Q' .normal s') → (∀ s', Q .normal s' → Q' (.exit id) s') → (∀ s', Q .ret s' → Q' .ret s') → (∀ i s', i ≠ id → Q (.exit i) s' → Q' (.exit i) s') → Tx P A F fid c s Q') :
    Tx P A F fid (.block id c) s Q := by
  refine Tx_block (h _ (fun s' h => h) (fun s' h => ?_) (fun s' h => h) (fun i s' hi h => ?_))
  · simp only [twithin, if_true]; exact h
  · simp only [twithin, hi, if_false]; exact h
theorem Tx_loopK {c : SC} (I : Nat → TS → Prop) (n : Nat) (h0 : I n s) (h : ∀ n s, I n s → ∀ Q' : CE → TS → Prop, (∀ n' s', n' < n → I n' s' → Q' .normal s') → (∀ i s', Q (.exit i) s' → Q' (.exit i) s') → (∀ s', Q .ret s' → Q' .ret s') → Tx P A F fid c s Q') : Tx P A F fid (.loop c) s Q :=
  Tx_loop I n h0 fun n s hI => h n s hI _ (fun n' _ hn h => ⟨n', hn, h⟩) (fun _ _ h => h) (fun _ h => h)
theorem cin_t {b : Bool} {args : List CV} (hb : b = true) (h : cans args = args) : cin b args = args := by subst hb; exact h
theorem Fw_funK {E : Oracle} {f : FuncId} {fn : Func} {c : SC} {args : List CV} {H : List HO} {v : CV} {H' : List HO} (hE : E f (cin (A.pure f) args) H = none)
    (hf : P.funcs[f]? = some fn) (hb : fn.body.bind (strip P A f fn.ntmps) = some c) (hlen : args.length ≤ fn.ntmps)
    (h : ∀ Q : CE → TS → Prop, (∀ s, Obt (tend P fn.results.toList s) (fun x => x = (v, H')) → Q .ret s) → (∀ s, Obt (tend P fn.results.toList s) (fun x => x = (v, H')) → Q .normal s) → Tx P A (Fw P A E) f c { sl := tinit 0 (cin (A.pure f) args), m := { L := [], H := H } } Q) : Fw P A E f args H = some (v, H') :=
  Fw_fun hE hf hb hlen (h _ (fun _ h => Tfin_ret h) (fun _ h => Tfin_normal h))
theorem Fw_funE {E : Oracle} {f : FuncId} {fn : Func} {c : SC} {args : List CV} {H : List HO} {R : CV × List HO → Prop} (hE : E f (cin (A.pure f) args) H = none)
    (hf : P.funcs[f]? = some fn) (hb : fn.body.bind (strip P A f fn.ntmps) = some c) (hlen : args.length ≤ fn.ntmps)
    (h : ∀ Q : CE → TS → Prop, (∀ s, Obt (tend P fn.results.toList s) R → Q .ret s) → (∀ s, Obt (tend P fn.results.toList s) R → Q .normal s) → Tx P A (Fw P A E) f c { sl := tinit 0 (cin (A.pure f) args), m := { L := [], H := H } } Q) : ∃ r, R r ∧ Fw P A E f args H = some r := by
  obtain ⟨⟨e, s1⟩, n, h1, h2⟩ := h (fun e s => (∀ i, e ≠ .exit i) ∧ Obt (tend P fn.results.toList s) R) (fun _ h => ⟨by simp, h⟩) (fun _ h => ⟨by simp, h⟩)
  obtain ⟨h2, ⟨v, H'⟩, h3, h4⟩ := h2
  refine ⟨(v, H'), h4, Fw_fun hE hf hb hlen ⟨_, n, h1, h2, _, h3, rfl⟩⟩
end
end Go.Cm

namespace Go.Cm

def sl {α : Type} (e : α → List CV) (l : List α) : CV := .imm l.length (l.flatMap e)
theorem clen_sl {α : Type} {e : α → List CV} {l : List α} : clen (sl e l) = some l.length := rfl
theorem flat_len {α : Type} {e : α → List CV} {sz : Nat} (hs : ∀ a, (e a).length = sz) (l : List α) : (l.flatMap e).length = l.length * sz := by
  induction l with
  | nil => simp
  | cons x l ih => simp [ih, hs, Nat.add_mul, Nat.add_comm]
theorem idxS_imm {α : Type} {e : α → List CV} {d r : List α} {a : α} {sz n : Nat} {k : IntKind} (hs : ∀ a, (e a).length = sz) (hp : 0 < sz) (hn : n = (d ++ a :: r).length) : idxS sz (.imm n ((d ++ a :: r).flatMap e)) (.int k d.length) = some (.rptr (e a ++ r.flatMap e)) := by
  subst hn
  have h1 : (d.length : Int).toNat = d.length := rfl
  simp only [idxS, asNat, Int.natCast_nonneg, if_true, h1]
  rw [if_pos]
  · congr 2
    rw [List.flatMap_append, ← flat_len hs d, List.drop_left, List.flatMap_cons]
  · constructor
    · simp
    · rw [flat_len hs]; simp only [List.length_append, List.length_cons]; exact Nat.mul_lt_mul_of_pos_right (by omega) hp
theorem idxS_sl {α : Type} {e : α → List CV} {l : List α} {i : Int} {a : α} {sz : Nat} {k : IntKind} (hs : ∀ a, (e a).length = sz) (hp : 0 < sz) (h0 : 0 ≤ i) (ha : l[i.toNat]? = some a) :
    idxS sz (sl e l) (.int k i) = some (.rptr (e a ++ (l.drop (i.toNat + 1)).flatMap e)) := by
  obtain ⟨hlt, hget⟩ := List.getElem?_eq_some_iff.1 ha
  have hl : l = l.take i.toNat ++ a :: l.drop (i.toNat + 1) := by
    rw [← hget, ← List.drop_eq_getElem_cons hlt, List.take_append_drop]
  have hi : i = ((l.take i.toNat).length : Int) := by
    rw [List.length_take, Nat.min_eq_left (by omega)]; omega
  have := idxS_imm (e := e) (d := l.take i.toNat) (r := l.drop (i.toNat + 1)) (a := a) (n := l.length) (k := k) hs hp (congrArg List.length hl)
  rw [← hl, ← hi] at this
  exact this
theorem idxS_split {α : Type} {e : α → List CV} {l d r : List α} {a : α} {sz : Nat} {k : IntKind} (hs : ∀ a, (e a).length = sz) (hp : 0 < sz) (hl : l = d ++ a :: r) :
    idxS sz (sl e l) (.int k d.length) = some (.rptr (e a ++ r.flatMap e)) := by
  subst hl; exact idxS_imm hs hp rfl

theorem flat_at {α : Type} {e : α → List CV} {l : List α} {i : Nat} {a : α} {sz : Nat} (hs : ∀ a, (e a).length = sz) (ha : l[i]? = some a) : ((l.flatMap e).drop (i * sz)).take sz = e a ∧ i * sz + sz ≤ (l.flatMap e).length := by
  obtain ⟨hlt, hget⟩ := List.getElem?_eq_some_iff.1 ha
  have hl : l = l.take i ++ a :: l.drop (i + 1) := by
    rw [← hget, ← List.drop_eq_getElem_cons hlt, List.take_append_drop]
  have hi : i * sz = ((l.take i).flatMap e).length := by
    rw [flat_len hs, List.length_take, Nat.min_eq_left (by omega)]
  constructor
  · have : l.flatMap e = (l.take i).flatMap e ++ (a :: l.drop (i + 1)).flatMap e := by rw [← List.flatMap_append, ← hl]
    rw [this, hi]
    rw [List.drop_left, List.flatMap_cons, ← hs a, List.take_left]
  · rw [flat_len hs]
    have := Nat.mul_le_mul_right sz (show i + 1 ≤ l.length from hlt)
    rw [Nat.add_mul] at this
    omega

structure Area where
  size : Int
  write : Bool
structure Lay where
  ctx : Area
  maps : List Area
structure Fact where
  seen : Bool
  region : Int
  low : Int
  high : Int
def okArea (a : Area) : Prop := 1 ≤ a.size ∧ a.size ≤ 4096
instance (a : Area) : Decidable (okArea a) := by unfold okArea; infer_instance
def okLay (l : Lay) : Prop := 0 ≤ l.ctx.size ∧ l.ctx.size ≤ 4096 ∧ l.maps.length ≤ 8 ∧ ∀ a ∈ l.maps, okArea a
instance (l : Lay) : Decidable (okLay l) := by unfold okLay; infer_instance
theorem noGs_flat {α : Type} {e : α → List CV} (h : ∀ a, noGs (e a) = true) : ∀ l : List α, noGs (l.flatMap e) = true
  | [] => rfl
  | a :: l => by
    have app : ∀ x y : List CV, noGs x = true → noGs y = true → noGs (x ++ y) = true := by
      intro x y hx hy
      induction x with
      | nil => exact hy
      | cons c x ih =>
        simp only [noGs, Bool.and_eq_true] at hx
        simp only [List.cons_append, noGs, hx.1, ih hx.2, Bool.and_self]
    rw [List.flatMap_cons]
    exact app _ _ (h a) (noGs_flat h l)
theorem noG_sl {α : Type} {e : α → List CV} (h : ∀ a, noGs (e a) = true) (l : List α) : noG (sl e l) = true := noGs_flat h l
theorem noG_int {k : IntKind} {n : Int} : noG (.int k n) = true := rfl
theorem wI {n : Int} (h0 : -9223372036854775808 ≤ n) (h1 : n ≤ 9223372036854775807) : IntKind.i64.wrap n = n := IntWalk.i64_in n ⟨h0, h1⟩

theorem retv_agc {c : CV} {cs : List CV} {m : Mem} : retv (.agg (c :: cs)) m = (mapMem (esc 5) (c :: cs) m).map fun x => (.agg x.1, x.2) := rfl
theorem esc_i {k : IntKind} {n : Int} {m : Mem} : esc 5 (.int k n) m = some (.int k n, m) := rfl
theorem esc_n {m : Mem} : esc 5 .nil m = some (.nil, m) := rfl
section
variable {P : Program} {A : Ann} {F : Oracle} {fid : FuncId} {m : Mem}
theorem callC_P {d : Tmp} {f : FuncId} {args : List CV} {r : CV} {H' : List HO} (hF : F f args [] = some (r, H')) (hp : A.pure f = true) (hx : args.all escQ = true) (hn : noGs args = true) (hr : noG r = true) :
    callC A F fid (some d) f args m = some (adopt ((A.glob fid).contains d) d r m) := by
  rw [callC_pure hp (escQ_list hx) hn hF hr]
  simp
end
theorem adopt_int {k : IntKind} {n : Int} {g : Bool} {d : Nat} {m : Mem} : adopt g d (.int k n) m = (.int k n, m) := rfl
theorem adopt_bool {b : Bool} {g : Bool} {d : Nat} {m : Mem} : adopt g d (.bool b) m = (.bool b, m) := rfl
theorem adopt_own {n sz vl : Nat} {cs : List CV} {d : Nat} {m : Mem} : adopt false d (.own n sz cs vl) m = (.ref (.l (16 * d)) (gnext m.L (16 * d)) 0 n, setL m (16 * d) (.arr (gnext m.L (16 * d)) sz cs vl)) := rfl
def retR (m : Mem) (j g off len : Nat) (o : Option HO) : Option (CV × Mem) :=
  match o with
  | some (.arr g' sz cs vl) => if g' = g then some (.own len sz ((cs.drop off).take (len * sz)) (vl - off), setL m j (.arr (g' + 1) sz [] 0)) else none
  | _ => none
theorem retv_l {m : Mem} {j g off len : Nat} : retv (.ref (.l j) g off len) m = retR m j g off len (lget m.L j) := by
  simp only [retv, retR]
  cases lget m.L j with
  | none => rfl
  | some h => cases h <;> rfl
theorem retR_arr {m : Mem} {j g off len sz vl : Nat} {cs : List CV} : retR m j g off len (some (.arr g sz cs vl)) = some (.own len sz ((cs.drop off).take (len * sz)) (vl - off), setL m j (.arr (g + 1) sz [] 0)) := by
  simp only [retR, if_true]
end Go.Cm
