/-
  The C machine, seventh part: operations that only answer a value, one by one.
-/
import Derived.Test.YtjmmeeokpncdbaaCvF
import Derived.Laws.StructEq
set_option linter.unusedSimpArgs false
set_option linter.unusedVariables false
namespace Go.Cm

section
variable {K : KM} {Q : PM} {P : Program} {w : World} {m : Mem}

abbrev Vt (K : KM) (m : Mem) (Q : PM) (c : CV) (v : Value) : Prop := V K m.get Q true c v

/-- equality -/
theorem ceq_run : ∀ (d : Nat) (t : TypeId) (x y : CV) (r : Bool), ceq P d t x y = some r → ∀ {loc : Bool} {M : MM} (v u : Value), V K M Q loc x v → V K M Q loc y u → ∀ D, d ≤ D →
    (Op.equalIn D t v u).run P w = .ok r w := by
  intro d
  induction d with
  | zero => intro t x y r h; simp [ceq] at h
  | succ d ih =>
    intro t x y r h loc M v u hv hu D hD
    obtain ⟨D, rfl⟩ : ∃ e, D = e + 1 := ⟨D - 1, by omega⟩
    unfold ceq at h
    split at h
    · rename_i hk
      split at h
      · simp only [V] at hv hu; subst hv hu
        simp only [Option.some.injEq] at h; subst h
        simp [Op.equalIn, underlying, hk]
      · simp at h
    · rename_i k hk
      split at h
      · simp only [V] at hv hu; subst hv hu
        split at h
        · rename_i he; subst he
          simp only [Option.some.injEq] at h; subst h
          simp [Op.equalIn, underlying, hk]
        · simp at h
      · simp at h
    · rename_i hk
      split at h
      · simp only [V] at hv hu; subst hv hu
        simp only [Option.some.injEq] at h; subst h
        simp [Op.equalIn, underlying, hk]
      · simp at h
    · rename_i e hk
      split at h
      · simp only [V] at hv hu; subst hv hu
        simp only [Option.some.injEq] at h; subst h
        simp [Op.equalIn, underlying, hk]
      · simp only [V] at hv hu; subst hv
        obtain ⟨_, b, o, rfl, _⟩ := hu
        simp only [Option.some.injEq] at h; subst h
        simp [Op.equalIn, underlying, hk]
      · simp only [V] at hv hu; subst hu
        obtain ⟨_, b, o, rfl, _⟩ := hv
        simp only [Option.some.injEq] at h; subst h
        simp [Op.equalIn, underlying, hk]
      · simp at h
    · rename_i e hk
      split at h
      · simp only [V] at hv hu; subst hv hu
        simp only [Option.some.injEq] at h; subst h
        simp [Op.equalIn, underlying, hk]
      · simp only [V] at hv hu; subst hv
        obtain ⟨z, rfl, _⟩ := hu
        simp only [Option.some.injEq] at h; subst h
        simp [Op.equalIn, underlying, hk]
      · simp only [V] at hv hu; subst hu
        obtain ⟨z, rfl, _⟩ := hv
        simp only [Option.some.injEq] at h; subst h
        simp [Op.equalIn, underlying, hk]
      · rename_i tx vx ty vy
        simp only [V] at hv hu
        obtain ⟨a, rfl, ha⟩ := hv
        obtain ⟨b, rfl, hb⟩ := hu
        split at h
        · rename_i hne
          simp only [Option.some.injEq] at h; subst h
          simp [Op.equalIn, underlying, hk, hne]
        · rename_i he
          simp only [ne_eq, Decidable.not_not] at he
          subst he
          split at h
          · rename_i hcomp
            cases hi : P.info? tx with
            | none => simp [hi] at hcomp
            | some i =>
              simp only [hi, Option.map_some, Option.some.injEq] at hcomp
              have := ih tx vx vy r h a b ha hb D (by omega)
              simp [Op.equalIn, underlying, hk, typeInfo, hi, hcomp, this]
          · simp at h
      · simp at h
    · rename_i fields hk
      split at h
      · rename_i xs ys
        split at h
        · simp at h
        · rename_i hst
          simp only [V] at hv hu
          obtain ⟨hax, vs, rfl, hvs⟩ := hv
          obtain ⟨hay, us, rfl, hus⟩ := hu
          have hfs : P.fieldsOf t = fields := by unfold Program.fieldsOf; rw [hk]
          rw [run_equalIn_struct w D t vs us (by rw [hfs]; exact hk) (by simpa using hst), hfs]
          clear hk hfs hst
          generalize fields.toList = fs at h
          induction fs with
          | nil => simp only [ceqF, Option.some.injEq] at h; subst h; simp [Op.eqFields]
          | cons f fs ihf =>
            simp only [ceqF] at h
            simp only [Op.eqFields]
            by_cases hn : f.name = "_"
            · simp only [hn, if_true] at h
              simp only [hn, ne_eq, not_true_eq_false, if_false]
              exact ihf h
            · simp only [hn, if_false] at h
              simp only [hn, ne_eq, not_false_eq_true, if_true]
              cases hpa : partC P f.type xs f.offset with
              | none => simp [hpa] at h
              | some a =>
                cases hpb : partC P f.type ys f.offset with
                | none => simp [hpa, hpb] at h
                | some b =>
                  simp only [hpa, hpb] at h
                  obtain ⟨a', ha1, ha2⟩ := partC_run (P := P) (w := w) hax hvs hpa
                  obtain ⟨b', hb1, hb2⟩ := partC_run (P := P) (w := w) hay hus hpb
                  simp only [Sem.run_bind, ha1, hb1, Result.andThen_ok]
                  cases hq : ceq P d f.type a b with
                  | none => simp [hq] at h
                  | some r' =>
                    rw [ih f.type a b r' hq a' b' ha2 hb2 D (by omega)]
                    simp only [hq] at h
                    cases r' with
                    | true => simp only [] at h; simpa using ihf h
                    | false => simp only [Option.some.injEq] at h; subst h; simp
      · simp at h
    · simp at h

def plainV : Value → Bool
  | .int _ _ => false
  | .float _ _ => false
  | .complex _ _ _ => false
  | .string _ => false
  | _ => true
theorem binop_eql {t : TypeId} {v u : Value} (hv : plainV v = true) : binOp .eql t v u = (do pure (.bool (← Op.equal t v u))) := by
  cases v <;> first | (simp [plainV] at hv; done) | (cases u <;> rfl)
theorem binop_neq {t : TypeId} {v u : Value} (hv : plainV v = true) : binOp .neq t v u = (do pure (.bool (!(← Op.equal t v u)))) := by
  cases v <;> first | (simp [plainV] at hv; done) | (cases u <;> rfl)

theorem V_plain {loc : Bool} {M : MM} {c : CV} {v : Value} (h : V K M Q loc c v) (h0 : c ≠ .dead) (h1 : ∀ k n, c ≠ .int k n) (h2 : ∀ s, c ≠ .str s) : plainV v = true := by
  cases c <;> simp only [ne_eq, not_true_eq_false, reduceCtorEq, not_false_eq_true, CV.int.injEq, CV.str.injEq] at h0 h1 h2
  all_goals simp only [V] at h
  case int k n => exact absurd ⟨rfl, rfl⟩ (h1 k n)
  case str s => exact absurd rfl (h2 s)
  all_goals
    first
      | (subst h; rfl)
      | (obtain ⟨_, _, _, h, _⟩ := h; subst h; rfl)
      | (obtain ⟨_, _, _, _, _, _, h, _⟩ := h; subst h; rfl)
      | (obtain ⟨_, _, _, _, _, h, _⟩ := h; subst h; rfl)
      | (obtain ⟨_, _, h, _⟩ := h; subst h; rfl)
      | (obtain ⟨_, h, _⟩ := h; subst h; rfl)

theorem ceq_kind {d : Nat} {t : TypeId} {x y : CV} {r : Bool} (h : ceq P d t x y = some r) : x ≠ .dead := by
  rintro rfl
  cases d with
  | zero => simp [ceq] at h
  | succ d => unfold ceq at h; split at h <;> simp at h

theorem isConst_iff (x : Operand) : isConst x = (match x with | .const _ => true | _ => false) := by cases x <;> rfl

theorem V_inil {loc : Bool} {M : MM} {c : CV} (h : V K M Q loc c .nilIface) : c = .inil ∨ c = .dead := by
  cases c <;> simp only [V] at h
  case inil => exact .inl rfl
  case dead => exact .inr rfl
  all_goals
    first
      | exact h.elim
      | (cases h; done)
      | (obtain ⟨_, _, _, h, _⟩ := h; cases h; done)
      | (obtain ⟨_, _, _, _, _, _, h, _⟩ := h; cases h; done)
      | (obtain ⟨_, _, _, _, _, h, _⟩ := h; cases h; done)
      | (obtain ⟨_, _, h, _⟩ := h; cases h; done)
      | (obtain ⟨_, h, _⟩ := h; cases h; done)
theorem V_agg {loc : Bool} {M : MM} {c : CV} {vs : Array Value} (h : V K M Q loc c (.agg vs)) : (∃ cs, c = .agg cs) ∨ c = .dead := by
  cases c <;> simp only [V] at h
  case agg cs => exact .inl ⟨cs, rfl⟩
  case dead => exact .inr rfl
  all_goals
    first
      | exact h.elim
      | (cases h; done)
      | (obtain ⟨_, _, _, h, _⟩ := h; cases h; done)
      | (obtain ⟨_, _, _, _, _, _, h, _⟩ := h; cases h; done)
      | (obtain ⟨_, _, _, _, _, h, _⟩ := h; cases h; done)
      | (obtain ⟨_, _, h, _⟩ := h; cases h; done)
      | (obtain ⟨_, h, _⟩ := h; cases h; done)
theorem eqGuard_other {op : BinOp} {t : TypeId} {x y : Operand} {v u : Value} (h1 : v = .nilIface → u ≠ .nilIface) (h2 : ∀ a b, v = .agg a → u ≠ .agg b) :
    (eqGuard op t x y v u).run P w = .ok () w := by
  unfold eqGuard
  cases op <;> first
    | (simp; done)
    | (simp only [Bool.not_true, Bool.false_eq_true, if_false]
       split
       · exact absurd rfl (h1 rfl)
       · exact absurd rfl (h2 _ _ rfl)
       · simp)
theorem eqGuard_run {op : BinOp} {t : TypeId} {x y : Operand} {a b : CV} {r : Bool} {v u : Value} (hv : Vt K m Q a v) (hu : Vt K m Q b u) (h : eqC P t x y a b = some r) :
    (eqGuard op t x y v u).run P w = .ok () w := by
  unfold eqC at h
  split at h
  · simp only [Vt, V] at hv hu; subst hv hu
    split at h
    · rename_i hc
      cases x <;> cases y <;> simp [isConst] at hc <;> cases op <;> simp [eqGuard]
    · simp at h
  · simp only [Vt, V] at hv hu
    obtain ⟨_, vs, rfl, _⟩ := hv
    obtain ⟨_, us, rfl, _⟩ := hu
    split at h
    · simp at h
    · rename_i hg
      unfold eqGuard
      cases op <;> simp [hg]
  · rename_i h1 h2
    have hk := ceq_kind h
    apply eqGuard_other
    · rintro rfl rfl
      rcases V_inil hv with rfl | rfl
      · rcases V_inil hu with rfl | rfl
        · exact h1 rfl rfl
        · simp [ceq] at h
          split at h <;> simp at h
      · exact hk rfl
    · rintro _ _ rfl rfl
      rcases V_agg hv with ⟨_, rfl⟩ | rfl
      · rcases V_agg hu with ⟨_, rfl⟩ | rfl
        · exact h2 _ _ rfl rfl
        · simp [ceq] at h
          split at h <;> simp at h
      · exact hk rfl
theorem eqC_ceq {t : TypeId} {x y : Operand} {a b : CV} {r : Bool} (h : eqC P t x y a b = some r) : ceq P 20 t a b = some r := by
  unfold eqC at h
  split at h
  · split at h
    · exact h
    · simp at h
  · split at h
    · simp at h
    · exact h
  · exact h

theorem ceq_int {d : Nat} {t : TypeId} {k : IntKind} {i : Int} {y : CV} {r : Bool} (h : ceq P d t (.int k i) y = some r) : ∃ k' j, y = .int k' j := by
  cases d with
  | zero => simp [ceq] at h
  | succ d =>
    unfold ceq at h
    split at h <;> (try (simp at h; done))
    split at h
    · exact ⟨_, _, rfl⟩
    · simp at h
theorem ceq_str {d : Nat} {t : TypeId} {i : ByteArray} {y : CV} {r : Bool} (h : ceq P d t (.str i) y = some r) : ∃ j, y = .str j := by
  cases d with
  | zero => simp [ceq] at h
  | succ d =>
    unfold ceq at h
    split at h <;> (try (simp at h; done))
    split at h
    · exact ⟨_, rfl⟩
    · simp at h

theorem intBin_run {op : BinOp} {k : IntKind} {a b : Int} {c : CV} {t : TypeId} (hs : op ≠ .shl) (hs' : op ≠ .shr) (h : intBin op k a b = some c) :
    ∃ v, (binOp op t (.int k a) (.int k b)).run P w = .ok v w ∧ V K m.get Q true c v := by
  cases op <;> simp only [intBin, Option.some.injEq, reduceCtorEq] at h <;> first
    | exact absurd rfl hs
    | exact absurd rfl hs'
    | (subst h; exact ⟨_, by simp [binOp, Op.intArith, Op.intCmp, Op.intBits]; first | done | rfl, by simp [V, bitop]⟩)
    | (split at h
       · simp at h
       · rename_i hz
         simp only [Option.some.injEq] at h; subst h
         exact ⟨_, by simp [binOp, Op.intDiv, hz]; first | done | rfl, by simp [V]⟩)

theorem eqGuard_flat {op : BinOp} {t : TypeId} {x y : Operand} {v u : Value} (h1 : v ≠ .nilIface) (h2 : ∀ a, v ≠ .agg a) : (eqGuard op t x y v u).run P w = .ok () w :=
  eqGuard_other (fun h => absurd h h1) (fun a _ h => absurd h (h2 a))

theorem cbin_run {op : BinOp} {t : TypeId} {x y : Operand} {a b c : CV} {v u : Value} (hv : Vt K m Q a v) (hu : Vt K m Q b u) (h : cbin P op t x y a b = some c) :
    ∃ r, ((do eqGuard op t x y v u; binOp op t v u) : Sem Value).run P w = .ok r w ∧ Vt K m Q c r := by
  unfold cbin at h
  split at h
  · rename_i k a k' b
    simp only [Vt, V] at hv hu; subst hv hu
    simp only [Sem.run_bind, eqGuard_flat (P := P) (w := w) (op := op) (t := t) (x := x) (y := y) (v := .int k a) (u := .int k' b) (by simp) (by simp), Result.andThen_ok]
    split at h
    · simp only [shiftC] at h
      split at h
      · simp at h
      · rename_i hlt
        simp only [Option.some.injEq] at h; subst h
        exact ⟨_, by simp [binOp, Op.shift, hlt]; rfl, by simp [Vt, V]⟩
    · simp only [shiftC] at h
      split at h
      · simp at h
      · rename_i hlt
        simp only [Option.some.injEq] at h; subst h
        exact ⟨_, by simp [binOp, Op.shift, hlt]; rfl, by simp [Vt, V]⟩
    · rename_i hs hs'
      split at h
      · rename_i he; subst he
        exact intBin_run hs hs' h
      · simp at h
  · rename_i a b
    simp only [Vt, V] at hv hu; subst hv hu
    simp only [Sem.run_bind, eqGuard_flat (P := P) (w := w) (op := op) (t := t) (x := x) (y := y) (v := .string a) (u := .string b) (by simp) (by simp), Result.andThen_ok]
    split at h
    · simp only [Option.some.injEq] at h; subst h
      exact ⟨.bool (a.toList == b.toList), by simp [binOp, Op.stringOp], by simp [Vt, V]⟩
    · simp only [Option.some.injEq] at h; subst h
      exact ⟨.bool (!(a.toList == b.toList)), by simp [binOp, Op.stringOp], by simp [Vt, V]⟩
    · simp at h
  · rename_i hi hs
    have key : ∀ r, eqC P t x y a b = some r → plainV v = true ∧ (Op.equal t v u).run P w = .ok r w := by
      intro r hr
      have hc := eqC_ceq hr
      refine ⟨V_plain hv (ceq_kind hc) ?_ ?_, ceq_run 20 t a b r hc v u hv hu 10000 (by omega)⟩
      · rintro k n rfl
        obtain ⟨k', j, rfl⟩ := ceq_int hc
        exact hi _ _ _ _ rfl rfl
      · rintro s rfl
        obtain ⟨j, rfl⟩ := ceq_str hc
        exact hs _ _ rfl rfl
    split at h
    · cases hr : eqC P t x y a b with
      | none => simp [hr] at h
      | some r =>
        simp only [hr, Option.map_some, Option.some.injEq] at h; subst h
        obtain ⟨h1, h2⟩ := key r hr
        exact ⟨.bool r, by simp only [Sem.run_bind, eqGuard_run hv hu hr, Result.andThen_ok, binop_eql h1, h2, Sem.run_pure], by simp [Vt, V]⟩
    · cases hr : eqC P t x y a b with
      | none => simp [hr] at h
      | some r =>
        simp only [hr, Option.map_some, Option.some.injEq] at h; subst h
        obtain ⟨h1, h2⟩ := key r hr
        exact ⟨.bool (!r), by simp only [Sem.run_bind, eqGuard_run hv hu hr, Result.andThen_ok, binop_neq h1, h2, Sem.run_pure], by simp [Vt, V]⟩
    · simp at h
end
end Go.Cm
