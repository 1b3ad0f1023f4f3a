/-
  Operations told one by one: what is told is what the machine does.
-/
import Derived.Test.YthjkmonenenlmaaCxC
set_option linter.unusedSimpArgs false
set_option linter.unusedVariables false
namespace Go.Cm

section
variable {P : Program} {A : Ann} {F : Oracle} {fid : FuncId}

theorem bind_some' {α β : Type} {x : Option α} {f : α → Option β} {y : β} (h : x.bind f = some y) : ∃ a, x = some a ∧ f a = some y := Option.bind_eq_some_iff.1 h
theorem map_some' {α β : Type} {x : Option α} {f : α → β} {y : β} (h : x.map f = some y) : ∃ a, x = some a ∧ f a = y := Option.map_eq_some_iff.1 h

theorem opk_call {c : Call} (h : opk (.call c) = 0) : ∃ b, c.callee = .builtin b ∧ (b = .len ∨ b = .max ∨ b = .min) := by
  obtain ⟨callee, args, ats⟩ := c
  cases callee with
  | builtin b => cases b <;> simp [opk] at h <;> simp
  | value f => simp [opk] at h
  | invoke r n => simp [opk] at h

theorem vX_cval {d : Option Tmp} {ρ : Operand → CV} {op : Op} {m : Mem} {v : CV} (h : vX P ρ op m = some v) : cval P A F fid ρ ⟨d, op, 0, "", #[], none⟩ m = some (v, m) := by
  cases op <;> simp only [vX] at h <;> try cases h
  case move => rfl
  case assign => rfl
  case pick c a b =>
    simp only [cval]
    unfold pickX at h
    split at h <;> simp_all
  case load t a =>
    have : cload P m t (ρ a) = some v := by
      unfold cload
      split at h
      · rename_i sz h1 h2; simp only [h1, h2, Option.bind_some]; exact h
      · rename_i h1; simp only [h1]; exact h
      · cases h
    simp only [cval, this, Option.map_some]
  case nilCheck x =>
    simp only [cval]
    unfold nilX at h
    split at h
    · rename_i h1; rw [h1]; simp only [Option.some.injEq] at h; subst h; rfl
    · rename_i h1; rw [h1]; simp only [Option.some.injEq] at h; subst h; rfl
    · cases h
  case binOp => simp only [cval, h, Option.map_some]
  case unOp => simp only [cval, h, Option.map_some]
  case convert src dst x =>
    simp only [cval]
    split at h
    · rename_i h1 h2
      simp only [h1, h2]
      unfold convX at h
      split at h <;> simp_all
    · cases h
  case makeInterface t x =>
    simp only [cval]
    split at h
    · cases h
    · rename_i hc; rw [if_neg hc]; simp only [Option.some.injEq] at h; rw [h]
  case makeFunc => rfl
  case slice t x lo hi mx =>
    have : cslice P t (ρ x) (lo.map ρ) (hi.map ρ) (mx.map ρ) m = some v := by
      unfold cslice
      split at h
      · rename_i e h1
        split at h
        · rename_i sz h2
          unfold slcX at h
          split at h
          · cases h
          · rename_i h3
            simp only [h3, h1, h2]
            split at h
            · rename_i len h4; simp only [h4]; exact h
            · cases h
        · cases h
      · rename_i n e h1
        split at h
        · rename_i sz h2
          unfold slcA at h
          split at h
          · cases h
          · rename_i h3
            simp only [h3, h1, h2]
            split at h
            · rename_i l hh k gn off h4 h5; simp only [h4, h5]; exact h
            · cases h
        · cases h
      · cases h
    simp only [cval, this, Option.map_some]
  case fieldAddr t x f =>
    have : cfieldAddr P t (ρ x) f = some v := by
      unfold cfieldAddr
      split at h
      · rename_i off ft h1
        simp only [h1]
        split at h
        · rename_i n h2; simp only [h2]; exact h
        · cases h
      · cases h
    simp only [cval, this, Option.map_some]
  case indexAddr t x i =>
    have : cindexAddr P t (ρ x) (ρ i) = some v := by
      unfold cindexAddr
      split at h
      · rename_i e h1
        split at h
        · rename_i sz h2
          unfold idxS at h
          split at h
          · cases h
          · rename_i j h3
            simp only [h3, h1, h2]
            split at h
            · rename_i h4; simp only [h4]; exact h
            · rename_i h4; simp only [h4]; exact h
            · cases h
        · cases h
      · rename_i n e h1
        split at h
        · rename_i sz h2
          unfold idxA at h
          split at h
          · cases h
          · rename_i j h3
            simp only [h3, h1, h2]
            split at h
            · rename_i h4; simp only [h4]; exact h
            · rename_i h4; simp only [h4]; exact h
            · cases h
        · cases h
      · cases h
    simp only [cval, this, Option.map_some]
  case field t x f =>
    simp only [cval]
    split at h
    · rename_i off ft h1
      simp only [h1]
      split at h
      · rename_i sz h2 h3
        unfold fldG at h
        split at h
        · rename_i cs h4; simp only [h4, partC, h2, h3, Option.map_some]; simp only [Option.some.injEq] at h; rw [h]
        · cases h
      · rename_i h2
        unfold fld1 at h
        split at h
        · rename_i cs h4; simp only [h4, partC, h2, h, Option.map_some]
        · cases h
      · cases h
    · cases h
  case index t x i =>
    simp only [cval]
    split at h
    · rename_i h1
      unfold idxT at h
      split at h
      · rename_i s j h2 h3
        simp only [h2, h3, h1]
        obtain ⟨b, h4, rfl⟩ := map_some' h
        simp only [h4, Option.map_some]
      · cases h
    · rename_i n e h1
      split at h
      · rename_i a sz h2 h3
        unfold idxV at h
        split at h
        · rename_i cs j h4 h5
          simp only [h4, h5, tarr, h1]
          split at h
          · rename_i hlt
            simp only [hlt, if_true, h3, Option.bind_some]
            cases a with
            | true => simp only [if_true, Option.some.injEq] at h; simp only [partC, h2, h3, Option.map_some, h]
            | false => simp only [Bool.false_eq_true, if_false] at h; simp only [partC, h2, h, Option.map_some]
          · cases h
        · cases h
      · cases h
    · cases h
  case lookup t x i ok =>
    simp only [cval]
    split at h
    · rename_i kt et h1
      split at h
      · rename_i z h2 h3
        unfold lookX at h
        split at h
        · rename_i es h4
          simp only [h1, h4, h2, h3, if_true]
          split at h
          · rename_i i' v' h5; simp only [h5]; simp only [Option.some.injEq] at h; rw [h]
          · rename_i h5; simp only [h5]; simp only [Option.some.injEq] at h; rw [h]
          · cases h
        · cases h
      · cases h
    · cases h
  case typeAssert x a t ok =>
    simp only [cval]
    unfold asrX at h
    split at h
    · cases h
    · rename_i dd h1
      simp only [h1]
      split at h
      · rename_i h2
        simp only [h2]
        split at h
        · rename_i hok
          obtain ⟨z, h3, rfl⟩ := map_some' h
          simp only [hok, if_true, h3, Option.map_some]
        · cases h
      · rename_i u w h2
        simp only [h2]
        cases dd <;> simp only at h ⊢
        all_goals
          split at h
          · rename_i h3
            rw [h3]
            simp only [Option.some.injEq] at h
            subst h
            rfl
          · rename_i h3
            rw [h3]
            simp only
            split at h
            · rename_i hok
              obtain ⟨z, h4, rfl⟩ := map_some' h
              simp only [hok, if_true, h4, Option.map_some]
            · cases h
          · cases h
      · cases h
  case extract t i =>
    simp only [cval]
    unfold extX at h
    split at h
    · rename_i vs h1; simp only [h1, h, Option.map_some]
    · cases h
  case build t parts =>
    simp only [cval]
    split at h
    · rename_i z fields h1 h2
      simp only [h1, h2]
      split at h
      · rename_i hall
        obtain ⟨q, h3, h4⟩ := bind_some' h
        obtain ⟨cs, h5, rfl⟩ := map_some' h4
        simp only [hall, if_true, placed_fill h3, h5, Option.map_some]
      · cases h
    · rename_i z n e h1 h2
      simp only [h1, h2]
      split at h
      · rename_i s h3
        obtain ⟨q, h4, h5⟩ := bind_some' h
        obtain ⟨cs, h6, rfl⟩ := map_some' h5
        simp only [h3, Option.bind_some, placed_fill h4, h6, Option.map_some]
      · cases h
    · cases h
  case call c =>
    obtain ⟨callee, args, ats⟩ := c
    cases callee with
    | value f => cases h
    | invoke r n => cases h
    | builtin b =>
      cases b <;> simp only at h <;> try cases h
      case len =>
        simp only [cval]
        split at h
        · rename_i x t h1 h2
          simp only [h1, h2, List.map_cons, List.map_nil]
          split at h
          · rename_i h3
            obtain ⟨n, h4, rfl⟩ := map_some' (show (clen (ρ x)).map (fun (n : Nat) => CV.int .i64 (n : Int)) = some v from h)
            simp only [h3, h4, Option.map_some]
          · rename_i h3
            obtain ⟨n, h4, rfl⟩ := map_some' (show (mapOf m (ρ x)).map (fun es => CV.int .i64 (es.length : Int)) = some v from h)
            simp only [h3, h4, Option.map_some]
          · rename_i h3
            unfold lenT at h
            split at h
            · rename_i s hs; simp only [h3, hs]; simp only [Option.some.injEq] at h; rw [h]
            · cases h
          · rename_i h3
            simp only [h3]; simp only [Option.some.injEq] at h; rw [h]
          · cases h
        · cases h
      case max => simp only [cval, h, Option.map_some]
      case min => simp only [cval, h, Option.map_some]

theorem mup_cval {t kt et : TypeId} {x k v : CV} {m m' : Mem} (h1 : tmap P t = some (kt, et)) (h2 : plainKey P kt = true) (h : mupX P kt x k v m = some m') : cval.mapUp P m t x k v = some (.dead, m') := by
  unfold mupX at h
  unfold cval.mapUp
  split at h
  · rename_i key gn
    simp only [h1]
    obtain ⟨y, h3, h4⟩ := bind_some' h
    simp only [h3, Option.bind_some]
    split at h4
    · rename_i g es v' h5 h6
      simp only [h5, h6]
      split at h4
      · rename_i hc
        rw [if_pos ⟨hc.1, h2, hc.2⟩]
        split at h4
        · rename_i i' v'' h7; simp only [h7]; simp only [Option.some.injEq] at h4; rw [h4]
        · rename_i h7; simp only [h7]; simp only [Option.some.injEq] at h4; rw [h4]
        · cases h4
      · cases h4
    · cases h4
  · cases h

theorem mX_cval {d : Option Tmp} {ρ : Operand → CV} {op : Op} {m m' : Mem} (h : mX P ρ op m = some m') : cval P A F fid ρ ⟨d, op, 0, "", #[], none⟩ m = some (.dead, m') := by
  cases op <;> simp only [mX] at h <;> try cases h
  case store t a x =>
    have : cstore P m t (ρ a) (ρ x) = some m' := by
      unfold cstore
      split at h
      · rename_i n h1
        unfold stX at h
        split at h
        · rename_i cs h2; simp only [h1, h2]; exact h
        · cases h
      · cases h
    simp only [cval, this, Option.map_some]
  case mapUpdate t x k v =>
    simp only [cval]
    split at h
    · rename_i kt et h1
      split at h
      · rename_i h2; exact mup_cval h1 h2 h
      · cases h
    · cases h
  case insert t x k v =>
    simp only [cval]
    split at h
    · rename_i kt et h1
      split at h
      · rename_i h2; exact mup_cval h1 h2 h
      · cases h
    · cases h

theorem add_glob {m : Mem} {j : Nat} {mk : Nat → HO} : Mem.add m true j mk = (.g m.H.length, 1, ⟨m.L, m.H ++ [mk 1]⟩) := rfl
theorem small_eq {e : TypeId} {b n : Nat} (h : tbytes P e = some b) : small P e n = smallB b n := by simp only [small, h, smallB]

theorem pX_cval {d : Option Tmp} {ρ : Operand → CV} {op : Op} {m : Mem} {y : CV × Mem} (h : pX P A F fid d ρ op m = some y) : cval P A F fid ρ ⟨d, op, 0, "", #[], none⟩ m = some y := by
  cases op <;> simp only [pX] at h <;> try cases h
  case alloc t =>
    simp only [cval]
    split at h
    · rename_i z h1 h2
      simp only [h1, h2]
      split at h <;> rename_i h3 <;> simp only [h3, add_local', add_glob] <;> simpa [newP, newL, gnewP, gnewL] using h
    · rename_i z n e h1 h2
      simp only [h1, h2]
      split at h <;> rename_i h3 <;> simp only [h3, add_local', add_glob] <;> simpa [newA, gnewP, gnewA] using h
    · cases h
  case box t x =>
    simp only [cval]
    split at h
    · rename_i h2
      simp only [h2]
      split at h
      · rename_i h3
        simp only [h3, add_local']
        obtain ⟨cs, h4, rfl⟩ := map_some' h
        simp [h4, newP, newL]
      · rename_i h3
        simp only [h3, add_glob]
        unfold boxG at h
        split at h
        · rename_i cs h4
          obtain ⟨z, h5, rfl⟩ := map_some' h
          simp [h4, h5, gnewP, gnewL]
        · cases h
    · rename_i n e h2
      simp only [h2]
      unfold boxA at h
      split at h
      · rename_i cs h4
        obtain ⟨z, h5, rfl⟩ := map_some' h
        simp only [h4, h5, Option.map_some]
        cases gslot (A.glob fid) d <;> simp [add_local', add_glob, nmA, newP, newA, gnewP, gnewA]
      · cases h
  case buildSlice t n parts =>
    simp only [cval]
    split at h
    · rename_i e h1
      simp only [h1]
      split at h
      · rename_i s z h2 h3
        simp only [h2, h3]
        split at h
        · rename_i hc
          rw [if_pos hc]
          obtain ⟨q, h4, h5⟩ := bind_some' h
          unfold bslX at h5
          obtain ⟨cs, h6, h7⟩ := bind_some' h5
          obtain ⟨w, h8, rfl⟩ := map_some' h7
          simp only [placed_fill h4, h6, Option.bind_some, h8, Option.map_some]
          cases gslot (A.glob fid) d <;> simp [add_local', add_glob, nmA, nmR, newR, newA, gnewR, gnewA]
        · cases h
      · cases h
    · cases h
  case makeMap t x =>
    cases x with
    | none =>
      simp only [cval]
      simp only at h
      split at h
      · rename_i h1
        simp only [h1]
        split at h <;> rename_i h3 <;> simp only [h3, add_local', add_glob] <;> simpa [newK, newM, gnewK, gnewM] using h
      · cases h
    | some x =>
      simp only [cval]
      simp only at h
      split at h
      · rename_i h1
        simp only [h1]
        unfold mmX at h
        split at h
        · rename_i hx
          simp only [hx]
          split at h <;> rename_i h3 <;> simp only [h3, add_local', add_glob] <;> simpa [newK, newM, gnewK, gnewM] using h
        · cases h
      · cases h
  case makeSlice t l c =>
    simp only [cval]
    split at h
    · rename_i e h1
      simp only [h1]
      split at h
      · rename_i s z b h2 h3 h4
        simp only [h2, h3]
        unfold mkX at h
        split at h
        · rename_i k a k' b' h5 h6
          simp only [h5, h6]
          split at h
          · rename_i hc
            rw [if_pos ⟨hc.1, hc.2.1, by rw [small_eq h4]; exact hc.2.2.1, hc.2.2.2⟩]
            simp only [Option.some.injEq] at h
            subst h
            cases gslot (A.glob fid) d <;> simp [add_local', add_glob, nmA, nmR, newR, newA, gnewR, gnewA]
          · cases h
        · cases h
      · cases h
    · cases h
  case call c =>
    obtain ⟨callee, args, ats⟩ := c
    cases callee with
    | value f => exact h
    | invoke r n =>
      simp only [cval]
      simp only [invX] at h
      split at h
      · rename_i t x h1; simp only [h1]; exact h
      · cases h
    | builtin b =>
      cases b <;> simp only at h <;> try cases h
      case append =>
        simp only [cval]
        split at h
        · rename_i s x t u _ h1 h2
          simp only [h1, h2, List.map_cons, List.map_nil]
          split at h
          · rename_i e _ h3 h4
            simp only [h3, h4]
            split at h
            · rename_i sz z b h5 h6 h7
              split at h
              · cases h
              · rename_i hc
                simp only [cappend, h5, h6, if_neg hc]
                unfold appX at h
                split at h
                · rename_i ys n h8 h9
                  simp only [h8, h9, small_eq h7]
                  split at h
                  · rename_i h10
                    simp only [h10]
                    split at h
                    · rename_i h11; simp only [h11, if_true]; exact h
                    · rename_i h11
                      simp only [h11, if_false]
                      split at h
                      · rename_i h12
                        simp only [h12, if_true]
                        simp only [Option.some.injEq] at h
                        subst h
                        cases gslot (A.glob fid) d <;> simp [add_local', add_glob, nmA, nmR, newR, newA, gnewR, gnewA]
                      · cases h
                  · rename_i k gn off len h10
                    simp only [h10]
                    split at h
                    · rename_i g s' cs vl h11
                      simp only [h11]
                      exact h
                    · cases h
                  · cases h
                · cases h
            · cases h
          · cases h
        · cases h
      case copy =>
        simp only [cval]
        split at h
        · rename_i x y t _ h1 h2
          simp only [h1, h2, List.map_cons, List.map_nil]
          split at h
          · rename_i e h3
            simp only [h3]
            split at h
            · rename_i sz h4
              simp only [ccopy, h4]
              exact h
            · cases h
          · cases h
        · cases h
      case delete =>
        simp only [cval]
        split at h
        · rename_i x k t _ h1 h2
          simp only [h1, h2, List.map_cons, List.map_nil]
          split at h
          · rename_i kt et h3
            split at h
            · rename_i h4
              obtain ⟨m', h5, rfl⟩ := map_some' h
              unfold delX at h5
              split at h5
              · rename_i key gn h6
                simp only [h6, h3]
                split at h5
                · rename_i g es h7
                  simp only [h7]
                  split at h5
                  · rename_i hg
                    rw [if_pos ⟨hg, h4⟩]
                    split at h5
                    · rename_i i' v' h8; simp only [h8]; simp only [Option.some.injEq] at h5; rw [h5]
                    · rename_i h8; simp only [h8]; simp only [Option.some.injEq] at h5; rw [h5]
                    · cases h5
                  · cases h5
                · cases h5
              · cases h5
            · cases h
          · cases h
        · cases h

theorem vval_cval {d : Option Tmp} {ρ : Operand → CV} {op : Op} {m : Mem} {y : CV × Mem} (h : vval P A F fid d ρ op m = some y) : cval P A F fid ρ ⟨d, op, 0, "", #[], none⟩ m = some y := by
  unfold vval at h
  split at h
  · obtain ⟨v, h1, rfl⟩ := map_some' h; exact vX_cval h1
  · obtain ⟨v, h1, rfl⟩ := map_some' h; exact mX_cval h1
  · exact pX_cval h
end

section
variable (P : Program) (A : Ann) (F : Oracle) (fid : FuncId)
/-- an operation, told by what it leads to -/
def vop (d : Option Tmp) (ρ : Operand → CV) (op : Op) (m : Mem) (K : CV → Mem → Prop) : Prop :=
  match op with
  | .move x => K (ρ x) m
  | .assign x => K (ρ x) m
  | .makeInterface t x => if isIface P t || (P.underlying t).isNone then False else K (.iface t (ρ x)) m
  | .makeFunc fn first captured => K (.func fn (first.toList.map ρ) (captured.toList.map ρ)) m
  | .alloc t => match tzcells P t, tarr P t, gslot (A.glob fid) d with
    | some z, none, false => K (newP m (dslot d)) (newL m (dslot d) z)
    | some z, none, true => K (gnewP m) (gnewL m z)
    | _, _, _ => Obt (pX P A F fid d ρ op m) fun x => K x.1 x.2
  | .box t x => match tarr P t, gslot (A.glob fid) d with
    | none, false => Obt (ccells (ρ x)) fun cs => K (newP m (dslot d)) (newL m (dslot d) cs)
    | _, _ => Obt (pX P A F fid d ρ op m) fun x => K x.1 x.2
  | .makeMap t none => match tmap P t, gslot (A.glob fid) d with
    | some _, false => K (newK m (dslot d)) (newM m (dslot d))
    | some _, true => K (gnewK m) (gnewM m)
    | none, _ => False
  | op => match opk op with
    | 0 => Obt (vX P ρ op m) fun v => K v m
    | 1 => Obt (mX P ρ op m) fun m' => K .dead m'
    | _ => Obt (pX P A F fid d ρ op m) fun x => K x.1 x.2
theorem vop_vval {d : Option Tmp} {ρ : Operand → CV} {op : Op} {m : Mem} {K : CV → Mem → Prop} (h : vop P A F fid d ρ op m K) : Obt (vval P A F fid d ρ op m) fun x => K x.1 x.2 := by
  have gen : (match opk op with
    | 0 => Obt (vX P ρ op m) fun v => K v m
    | 1 => Obt (mX P ρ op m) fun m' => K .dead m'
    | _ => Obt (pX P A F fid d ρ op m) fun x => K x.1 x.2) → Obt (vval P A F fid d ρ op m) fun x => K x.1 x.2 := by
    intro h
    unfold vval
    split at h <;> rename_i ho
    · simp only [ho, Obt_map]; exact h
    · simp only [ho, Obt_map]; exact h
    · split
      · rename_i h1; exact absurd h1 (by assumption)
      · rename_i h1; exact absurd h1 (by assumption)
      · exact h
  unfold vop at h
  split at h
  · simpa only [vval, opk, vX, Obt_map, Obt_some] using h
  · simpa only [vval, opk, vX, Obt_map, Obt_some] using h
  · split at h
    · exact h.elim
    · rename_i hc
      simp only [vval, opk, vX, Obt_map]
      rw [if_neg hc, Obt_some]; exact h
  · simpa only [vval, opk, vX, Obt_map, Obt_some] using h
  · split at h
    · rename_i h1 h2 h3
      simp only [vval, opk, pX, h1, h2, h3, Obt_some]; exact h
    · rename_i h1 h2 h3
      simp only [vval, opk, pX, h1, h2, h3, Obt_some]; exact h
    · exact h
  · split at h
    · rename_i h1 h2
      simp only [vval, opk, pX, h1, h2, Obt_map]; exact h
    · exact h
  · split at h
    · rename_i h1 h2
      simp only [vval, opk, pX, h1, h2, Obt_some]; exact h
    · rename_i h1 h2
      simp only [vval, opk, pX, h1, h2, Obt_some]; exact h
    · exact h.elim
  · exact gen h
/-- operations one behind the other, told by what they lead to -/
def Vops (dr : Bool) : List SO → TS → (TS → Prop) → Prop
  | [], s, K => K s
  | o :: r, s, K =>
    match o.g, dr && calmOp A o.op with
    | none, false => vop P A F fid o.d (tev s.sl) o.op s.m fun v m' => Vops dr r ⟨tput s.sl o.d v, m'⟩ K
    | none, true => Obt (chk true (vval P A F fid o.d (tev s.sl) o.op s.m)) fun x => Vops dr r ⟨tput s.sl o.d x.1, x.2⟩ K
    | some (t, w), b => Obt (gdO (tget s.sl t) w (chk b (vval P A F fid o.d (tev s.sl) o.op s.m)) (.tuple [], s.m)) fun x => Vops dr r ⟨tput s.sl o.d x.1, x.2⟩ K
theorem chk_vval {b : Bool} {d : Option Tmp} {ρ : Operand → CV} {op : Op} {m : Mem} {y : CV × Mem} (h : chk b (vval P A F fid d ρ op m) = some y) : chk b (cval P A F fid ρ ⟨d, op, 0, "", #[], none⟩ m) = some y := by
  cases b with
  | false => exact vval_cval h
  | true =>
    simp only [chk, Option.bind_eq_some_iff] at h ⊢
    obtain ⟨x, h1, h2⟩ := h
    exact ⟨x, vval_cval h1, h2⟩
theorem Vops_Tops {dr : Bool} : ∀ {l : List SO} {s : TS} {K : TS → Prop}, Vops P A F fid dr l s K → Tops P A F fid dr l s K
  | [], _, _, h => h
  | o :: r, s, K, h => by
    simp only [Vops] at h
    simp only [Tops, top, tguard]
    split at h
    · rename_i h1 h2
      simp only [h1, h2, chk]
      obtain ⟨x, h3, h4⟩ := vop_vval P A F fid h
      exact ⟨x, vval_cval h3, Vops_Tops h4⟩
    · rename_i h1 h2
      simp only [h1, h2]
      obtain ⟨x, h3, h4⟩ := h
      exact ⟨x, chk_vval P A F fid h3, Vops_Tops h4⟩
    · rename_i t w h1
      simp only [h1]
      obtain ⟨x, h3, h4⟩ := h
      refine ⟨x, ?_, Vops_Tops h4⟩
      rcases gdO_some h3 with ⟨h5, h6⟩ | ⟨h5, rfl⟩
      · rw [h5]
        have e : ∀ X : Option (CV × Mem), gdO (.bool w) w X (CV.tuple [], s.m) = X := fun X => by cases w <;> rfl
        rw [e]; exact chk_vval P A F fid h6
      · rcases h5 with h5 | h5
        · rw [h5]; cases w <;> rfl
        · rw [h5]; rfl
end
theorem Tx_told {P : Program} {A : Ann} {F : Oracle} {fid : FuncId} {s : TS} {Q : CE → TS → Prop} {dr : Bool} {keep : Option (List Tmp)} {ops : List SO} {X : Prop}
    (he : (Vops P A F fid dr ops s fun s' => Q .normal ⟨tkeep keep s'.sl, s'.m⟩) = X) (h : X) : Tx P A F fid (.reg dr keep ops) s Q := Tx_reg (Vops_Tops P A F fid (he ▸ h))
end Go.Cm
