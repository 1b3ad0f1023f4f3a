/-
  What functions answer with any number of rounds; rules for runs of code.
-/
import Derived.Test.YthjkmonenenlmaaCxA
set_option linter.unusedSimpArgs false
set_option linter.unusedVariables false
namespace Go.Cm

def Obeys (F F' : Oracle) : Prop := ∀ f a H r, F f a H = some r → F' f a H = some r

section
variable {P : Program} {A : Ann} {F F' : Oracle} {fid : FuncId} {dr : Bool}

theorem callC_one {d : Option Tmp} {f : FuncId} {args : List CV} {m : Mem} {y : CV × Mem} (h : callC A F fid d f args m = some y) :
    ∃ a H r, F f a H = some r ∧ ∀ F' : Oracle, F' f a H = some r → callC A F' fid d f args m = some y := by
  unfold callC at h
  simp only [Option.bind_eq_some_iff] at h
  obtain ⟨x, h1, h2⟩ := h
  split at h2
  · rename_i hp
    split at h2
    · rename_i hn
      simp only [Option.bind_eq_some_iff] at h2
      obtain ⟨r, h3, h4⟩ := h2
      exact ⟨_, _, r, h3, fun F' h' => by simp only [callC, h1, Option.bind_some, hp, if_true, hn, h']; exact h4⟩
    · cases h2
  · rename_i hp
    simp only [Option.bind_eq_some_iff] at h2
    obtain ⟨r, h3, h4⟩ := h2
    exact ⟨_, _, r, h3, fun F' h' => by simp only [callC, h1, Option.bind_some, hp, h']; exact h4⟩
theorem invokeC_one {d : Option Tmp} {f : CV} {args : List CV} {m : Mem} {y : CV × Mem} (h : invokeC A F fid d f args m = some y) :
    ∃ g a H r, F g a H = some r ∧ ∀ F' : Oracle, F' g a H = some r → invokeC A F' fid d f args m = some y := by
  unfold invokeC at h
  split at h
  · obtain ⟨a, H, r, h1, h2⟩ := callC_one h
    exact ⟨_, a, H, r, h1, fun F' h' => by simp only [invokeC]; exact h2 F' h'⟩
  · cases h
theorem cval_one {ρ : Operand → CV} {o : Oper} {m : Mem} {y : CV × Mem} (h : cval P A F fid ρ o m = some y) :
    (∀ F', cval P A F' fid ρ o m = some y) ∨ ∃ g a H r, F g a H = some r ∧ ∀ F' : Oracle, F' g a H = some r → cval P A F' fid ρ o m = some y := by
  obtain ⟨dst, op, ty, pos, af, guard⟩ := o
  cases op
  case call c =>
    obtain ⟨callee, args, ats⟩ := c
    cases callee with
    | value f => exact .inr (invokeC_one h)
    | invoke recv name =>
      right
      simp only [cval] at h ⊢
      split at h
      · rename_i t x hx
        simp only [Option.bind_eq_some_iff] at h
        obtain ⟨z, h1, h2⟩ := h
        obtain ⟨a, H, r, h3, h4⟩ := callC_one h2
        exact ⟨_, a, H, r, h3, fun F' h' => by simp only [h1, Option.bind_some]; exact h4 F' h'⟩
      · cases h
    | builtin b => exact .inl fun F' => by cases b <;> exact h
  case makeMap t x => exact .inl fun F' => by cases x <;> exact h
  all_goals exact .inl fun F' => h
theorem top_one {o : SO} {s : TS} {y : CV × Mem} (h : top P A F fid dr o s = some y) :
    (∀ F', top P A F' fid dr o s = some y) ∨ ∃ g a H r, F g a H = some r ∧ ∀ F' : Oracle, F' g a H = some r → top P A F' fid dr o s = some y := by
  have hchk : ∀ y, chk (dr && calmOp A o.op) (cval P A F fid (tev s.sl) o.up s.m) = some y →
      (∀ F', chk (dr && calmOp A o.op) (cval P A F' fid (tev s.sl) o.up s.m) = some y) ∨ ∃ g a H r, F g a H = some r ∧ ∀ F' : Oracle, F' g a H = some r → chk (dr && calmOp A o.op) (cval P A F' fid (tev s.sl) o.up s.m) = some y := by
    intro y h
    cases hb : (dr && calmOp A o.op) with
    | false => rw [hb] at h; exact cval_one h
    | true =>
      rw [hb] at h
      simp only [chk, Option.bind_eq_some_iff] at h ⊢
      obtain ⟨x, h1, h2⟩ := h
      rcases cval_one h1 with h3 | ⟨g, a, H, r, h3, h4⟩
      · exact .inl fun F' => ⟨x, h3 F', h2⟩
      · exact .inr ⟨g, a, H, r, h3, fun F' h' => ⟨x, h4 F' h', h2⟩⟩
  unfold top tguard at h ⊢
  split at h
  · exact hchk y h
  · rename_i t w hg
    rcases gdO_some h with ⟨h1, h2⟩ | ⟨h1, rfl⟩
    · simp only [h1]
      have e : ∀ X : Option (CV × Mem), gdO (.bool w) w X (CV.tuple [], s.m) = X := fun X => by cases w <;> rfl
      simp only [e]; exact hchk y h2
    · left; intro F'
      rcases h1 with h1 | h1
      · rw [h1]; cases w <;> rfl
      · rw [h1]; rfl

theorem tops_mono (hF : Obeys F F') : ∀ (l : List SO) (s s' : TS), tops P A F fid dr l s = some s' → tops P A F' fid dr l s = some s'
  | [], _, _, h => h
  | o :: r, s, s', h => by
    simp only [tops, Option.bind_eq_some_iff] at h ⊢
    obtain ⟨x, h1, h2⟩ := h
    refine ⟨x, ?_, tops_mono hF r _ _ h2⟩
    rcases top_one h1 with h3 | ⟨g, a, H, rr, h3, h4⟩
    · exact h3 F'
    · exact h4 F' (hF _ _ _ _ h3)
theorem titer_mono {f f' : TS → Option (CE × TS)} (hf : ∀ s r, f s = some r → f' s = some r) : ∀ (n n' : Nat) (s : TS) (r : CE × TS), n ≤ n' → texec.titer n f s = some r → texec.titer n' f' s = some r
  | 0, _, _, _, _, h => by simp [texec.titer] at h
  | n + 1, 0, _, _, hle, _ => by omega
  | n + 1, n' + 1, s, r, hle, h => by
    simp only [texec.titer, Option.bind_eq_some_iff] at h ⊢
    obtain ⟨r1, h1, h2⟩ := h
    refine ⟨r1, hf _ _ h1, ?_⟩
    obtain ⟨e, s1⟩ := r1
    cases e
    case normal => exact titer_mono hf n n' _ _ (by omega) h2
    all_goals exact h2
theorem texec_mono (hF : Obeys F F') : ∀ (c : SC) (n n' : Nat) (s : TS) (r : CE × TS), n ≤ n' → texec P A F fid n c s = some r → texec P A F' fid n' c s = some r := by
  intro c
  induction c with
  | reg dr keep ops =>
    intro n n' s r hle h
    simp only [texec, Option.map_eq_some_iff] at h ⊢
    obtain ⟨s1, h1, h2⟩ := h
    exact ⟨s1, tops_mono hF _ _ _ h1, h2⟩
  | seq x y ihx ihy =>
    intro n n' s r hle h
    simp only [texec, Option.bind_eq_some_iff] at h ⊢
    obtain ⟨⟨e, s1⟩, h1, h2⟩ := h
    refine ⟨_, ihx _ _ _ _ hle h1, ?_⟩
    cases e
    case normal => exact ihy _ _ _ _ hle h2
    all_goals exact h2
  | cond c x y ihx ihy =>
    intro n n' s r hle h
    simp only [texec] at h ⊢
    split at h
    · exact ihx _ _ _ _ hle h
    · exact ihy _ _ _ _ hle h
    · cases h
  | block id c ih =>
    intro n n' s r hle h
    simp only [texec, Option.map_eq_some_iff] at h ⊢
    obtain ⟨r1, h1, h2⟩ := h
    exact ⟨r1, ih _ _ _ _ hle h1, h2⟩
  | loop c ih =>
    intro n n' s r hle h
    simp only [texec] at h ⊢
    exact titer_mono (fun s r h => ih _ _ _ _ hle h) _ _ _ _ hle h
  | _ => intro n n' s r hle h; simpa only [texec] using h

/-! the limit -/
variable {E : Oracle}
theorem tcall_mono : ∀ n n', n ≤ n' → Obeys (tcall P A E n) (tcall P A E n')
  | 0, _, _ => fun _ _ _ _ h => by cases h
  | n + 1, 0, hle => by omega
  | n + 1, n' + 1, hle => by
    intro f a H r h
    simp only [tcall] at h ⊢
    split at h
    · exact h
    · split at h
      · cases h
      · rename_i fn hf
        split at h
        · cases h
        · rename_i c hc
          split at h
          · rename_i hlen
            simp only [hlen, if_true]
            simp only [Option.bind_eq_some_iff] at h ⊢
            obtain ⟨r1, h1, h2⟩ := h
            exact ⟨r1, texec_mono (tcall_mono n n' (by omega)) _ _ _ _ _ (by omega) h1, h2⟩
          · cases h

open Classical in
/-- what a function answers -/
noncomputable def Fw (P : Program) (A : Ann) (E : Oracle) : Oracle := fun f a H => if h : ∃ r n, tcall P A E n f a H = some r then some h.choose else none
theorem Fw_iff {f : FuncId} {a : List CV} {H : List HO} {r : CV × List HO} : Fw P A E f a H = some r ↔ ∃ n, tcall P A E n f a H = some r := by
  unfold Fw
  constructor
  · intro h
    split at h
    · rename_i hx
      simp only [Option.some.injEq] at h
      rw [← h]; exact hx.choose_spec
    · cases h
  · rintro ⟨n, hn⟩
    have hx : ∃ r n, tcall P A E n f a H = some r := ⟨r, n, hn⟩
    rw [dif_pos hx]
    obtain ⟨n', hn'⟩ := hx.choose_spec
    have h1 := tcall_mono n (max n n') (Nat.le_max_left _ _) _ _ _ _ hn
    have h2 := tcall_mono n' (max n n') (Nat.le_max_right _ _) _ _ _ _ hn'
    rw [h1] at h2
    exact h2.symm
theorem Fw_sim (hE : Sim P E) (hN : plainNames P = true) (hM : P.follows .mixedOrders = true) : Sim P (Fw P A E) := by
  intro f a H r H' h
  obtain ⟨n, hn⟩ := Fw_iff.1 h
  exact tcall_sim hE hN hM n f a H r H' hn

theorem tops_cont : ∀ (l : List SO) (s s' : TS), tops P A (Fw P A E) fid dr l s = some s' → ∃ n, tops P A (tcall P A E n) fid dr l s = some s'
  | [], _, _, h => ⟨0, h⟩
  | o :: r, s, s', h => by
    simp only [tops, Option.bind_eq_some_iff] at h
    obtain ⟨x, h1, h2⟩ := h
    obtain ⟨n1, h3⟩ := tops_cont r _ _ h2
    have : ∃ n2, top P A (tcall P A E n2) fid dr o s = some x := by
      rcases top_one h1 with h4 | ⟨g, a, H, rr, h4, h5⟩
      · exact ⟨0, h4 _⟩
      · obtain ⟨n, hn⟩ := Fw_iff.1 h4
        exact ⟨n, h5 _ hn⟩
    obtain ⟨n2, h4⟩ := this
    refine ⟨max n1 n2, ?_⟩
    simp only [tops, Option.bind_eq_some_iff]
    refine ⟨x, ?_, tops_mono (tcall_mono _ _ (Nat.le_max_left _ _)) _ _ _ h3⟩
    rcases top_one h4 with h5 | ⟨g, a, H, rr, h5, h6⟩
    · exact h5 _
    · exact h6 _ (tcall_mono _ _ (Nat.le_max_right _ _) _ _ _ _ h5)
theorem texec_cont : ∀ (c : SC) (n : Nat) (s : TS) (r : CE × TS), texec P A (Fw P A E) fid n c s = some r → ∃ n', texec P A (tcall P A E n') fid n' c s = some r := by
  intro c
  induction c with
  | reg dr keep ops =>
    intro n s r h
    simp only [texec, Option.map_eq_some_iff] at h ⊢
    obtain ⟨s1, h1, h2⟩ := h
    obtain ⟨n', h3⟩ := tops_cont _ _ _ h1
    exact ⟨n', s1, h3, h2⟩
  | seq x y ihx ihy =>
    intro n s r h
    simp only [texec, Option.bind_eq_some_iff] at h
    obtain ⟨⟨e, s1⟩, h1, h2⟩ := h
    obtain ⟨n1, h3⟩ := ihx _ _ _ h1
    cases e
    case normal =>
      obtain ⟨n2, h4⟩ := ihy _ _ _ h2
      refine ⟨max n1 n2, ?_⟩
      simp only [texec, Option.bind_eq_some_iff]
      exact ⟨_, texec_mono (tcall_mono _ _ (Nat.le_max_left _ _)) _ _ _ _ _ (Nat.le_max_left _ _) h3, texec_mono (tcall_mono _ _ (Nat.le_max_right _ _)) _ _ _ _ _ (Nat.le_max_right _ _) h4⟩
    all_goals
      refine ⟨n1, ?_⟩
      simp only [texec, Option.bind_eq_some_iff]
      exact ⟨_, h3, h2⟩
  | cond c x y ihx ihy =>
    intro n s r h
    simp only [texec] at h ⊢
    split at h
    · exact ihx _ _ _ h
    · exact ihy _ _ _ h
    · cases h
  | block id c ih =>
    intro n s r h
    simp only [texec, Option.map_eq_some_iff] at h ⊢
    obtain ⟨r1, h1, h2⟩ := h
    obtain ⟨n', h3⟩ := ih _ _ _ h1
    exact ⟨n', r1, h3, h2⟩
  | loop c ih =>
    intro n s r h
    simp only [texec] at h
    have key : ∀ (k : Nat) (s : TS) (r : CE × TS), texec.titer k (texec P A (Fw P A E) fid n c) s = some r → ∃ n', texec.titer n' (texec P A (tcall P A E n') fid n' c) s = some r := by
      intro k
      induction k with
      | zero => intro s r h; simp [texec.titer] at h
      | succ k ihk =>
        intro s r h
        simp only [texec.titer, Option.bind_eq_some_iff] at h
        obtain ⟨⟨e, s1⟩, h1, h2⟩ := h
        obtain ⟨n1, h3⟩ := ih _ _ _ h1
        cases e
        case normal =>
          obtain ⟨n2, h4⟩ := ihk _ _ h2
          refine ⟨max n1 n2 + 1, ?_⟩
          simp only [texec.titer, Option.bind_eq_some_iff]
          exact ⟨_, texec_mono (tcall_mono n1 _ (by omega)) _ _ _ _ _ (by omega) h3, titer_mono (fun s r h => texec_mono (tcall_mono n2 _ (by omega)) _ _ _ _ _ (by omega) h) _ _ _ _ (by omega) h4⟩
        all_goals
          refine ⟨n1 + 1, ?_⟩
          simp only [texec.titer, Option.bind_eq_some_iff]
          exact ⟨_, texec_mono (tcall_mono n1 _ (by omega)) _ _ _ _ _ (by omega) h3, h2⟩
    obtain ⟨n', h'⟩ := key n s r h
    exact ⟨n', by simpa only [texec] using h'⟩
  | _ => intro n s r h; exact ⟨n, by simpa only [texec] using h⟩
end

/-! runs without a number -/
def Tx (P : Program) (A : Ann) (F : Oracle) (fid : FuncId) (c : SC) (s : TS) (Q : CE → TS → Prop) : Prop := ∃ r n, texec P A F fid n c s = some r ∧ Q r.1 r.2
def Tops (P : Program) (A : Ann) (F : Oracle) (fid : FuncId) (dr : Bool) : List SO → TS → (TS → Prop) → Prop
  | [], s, K => K s
  | o :: r, s, K => Obt (top P A F fid dr o s) fun x => Tops P A F fid dr r ⟨tput s.sl o.d x.1, x.2⟩ K
def tafter (b : TS → Prop) (Q : CE → TS → Prop) : CE → TS → Prop
  | .normal, s => b s
  | e, s => Q e s
def twithin (id : Nat) (Q : CE → TS → Prop) : CE → TS → Prop
  | .exit i, s => if i = id then Q .normal s else Q (.exit i) s
  | e, s => Q e s

section
variable {P : Program} {A : Ann} {F : Oracle} {fid : FuncId} {s : TS} {Q : CE → TS → Prop}

theorem tafter_normal {b : TS → Prop} : tafter b Q .normal s = b s := rfl
theorem tafter_exit {b : TS → Prop} {i : Nat} : tafter b Q (.exit i) s = Q (.exit i) s := rfl
theorem tafter_ret {b : TS → Prop} : tafter b Q .ret s = Q .ret s := rfl
theorem twithin_normal {id : Nat} : twithin id Q .normal s = Q .normal s := rfl
theorem twithin_ret {id : Nat} : twithin id Q .ret s = Q .ret s := rfl
theorem twithin_exit {id i : Nat} : twithin id Q (.exit i) s = if i = id then Q .normal s else Q (.exit i) s := rfl

theorem Tops_tops {dr : Bool} : ∀ {l : List SO} {s : TS} {K : TS → Prop}, Tops P A F fid dr l s K → ∃ s', tops P A F fid dr l s = some s' ∧ K s'
  | [], s, K, h => ⟨s, rfl, h⟩
  | o :: r, s, K, h => by
    obtain ⟨x, h1, h2⟩ := h
    obtain ⟨s2, h3, h4⟩ := Tops_tops h2
    exact ⟨s2, by simp only [tops, h1, Option.bind_some, h3], h4⟩
theorem Obeys.refl (F : Oracle) : Obeys F F := fun _ _ _ _ h => h

theorem Tx_nop (h : Q .normal s) : Tx P A F fid .nop s Q := ⟨_, 0, rfl, h⟩
theorem Tx_exit {id : Nat} (h : Q (.exit id) s) : Tx P A F fid (.exit id) s Q := ⟨_, 0, rfl, h⟩
theorem Tx_ret (h : Q .ret s) : Tx P A F fid .ret s Q := ⟨_, 0, rfl, h⟩
theorem Tx_reg {dr : Bool} {keep : Option (List Tmp)} {ops : List SO} (h : Tops P A F fid dr ops s fun s' => Q .normal ⟨tkeep keep s'.sl, s'.m⟩) : Tx P A F fid (.reg dr keep ops) s Q := by
  obtain ⟨s', h1, h2⟩ := Tops_tops h
  exact ⟨(.normal, { sl := tkeep keep s'.sl, m := s'.m }), 0, by simp only [texec, h1, Option.map_some], h2⟩
theorem Tx_seq {x y : SC} (h : Tx P A F fid x s (tafter (fun s' => Tx P A F fid y s' Q) Q)) : Tx P A F fid (.seq x y) s Q := by
  obtain ⟨⟨e, s1⟩, n, h1, h2⟩ := h
  cases e
  case normal =>
    obtain ⟨r, n2, h3, h4⟩ := h2
    refine ⟨r, max n n2, ?_, h4⟩
    simp only [texec, Option.bind_eq_some_iff]
    exact ⟨_, texec_mono (Obeys.refl F) _ _ _ _ _ (Nat.le_max_left _ _) h1, texec_mono (Obeys.refl F) _ _ _ _ _ (Nat.le_max_right _ _) h3⟩
  all_goals exact ⟨_, n, by simp only [texec, h1, Option.bind_some], h2⟩
/-- what holds between two pieces of code -/
theorem Tx_cut {x y : SC} (R : TS → Prop) (h1 : Tx P A F fid x s (tafter R Q)) (h2 : ∀ s', R s' → Tx P A F fid y s' Q) : Tx P A F fid (.seq x y) s Q := by
  refine Tx_seq ?_
  obtain ⟨⟨e, s1⟩, n, h3, h4⟩ := h1
  refine ⟨_, n, h3, ?_⟩
  cases e
  case normal => exact h2 _ h4
  all_goals exact h4
theorem Tx_mono {c : SC} {Q' : CE → TS → Prop} (h : Tx P A F fid c s Q') (hq : ∀ e s, Q' e s → Q e s) : Tx P A F fid c s Q := by
  obtain ⟨r, n, h1, h2⟩ := h
  exact ⟨r, n, h1, hq _ _ h2⟩
theorem Tx_cond {c : Operand} {x y : SC} {b : Bool} (hc : tev s.sl c = .bool b) (h1 : b = true → Tx P A F fid x s Q) (h2 : b = false → Tx P A F fid y s Q) : Tx P A F fid (.cond c x y) s Q := by
  cases b with
  | true =>
    obtain ⟨r, n, h3, h4⟩ := h1 rfl
    exact ⟨r, n, by simp only [texec, hc]; exact h3, h4⟩
  | false =>
    obtain ⟨r, n, h3, h4⟩ := h2 rfl
    exact ⟨r, n, by simp only [texec, hc]; exact h3, h4⟩
/-- a condition that is decided by a proposition -/
theorem Tx_if {c : Operand} {x y : SC} {p : Prop} [Decidable p] (hc : tev s.sl c = .bool (decide p)) (h1 : p → Tx P A F fid x s Q) (h2 : ¬ p → Tx P A F fid y s Q) : Tx P A F fid (.cond c x y) s Q :=
  Tx_cond hc (fun h => h1 (of_decide_eq_true h)) (fun h => h2 (of_decide_eq_false h))
theorem Tx_yes {c : Operand} {x y : SC} (hc : tev s.sl c = .bool true) (h : Tx P A F fid x s Q) : Tx P A F fid (.cond c x y) s Q := Tx_cond hc (fun _ => h) (fun h => by cases h)
theorem Tx_no {c : Operand} {x y : SC} (hc : tev s.sl c = .bool false) (h : Tx P A F fid y s Q) : Tx P A F fid (.cond c x y) s Q := Tx_cond hc (fun h => by cases h) (fun _ => h)
theorem Tx_block {id : Nat} {c : SC} (h : Tx P A F fid c s (twithin id Q)) : Tx P A F fid (.block id c) s Q := by
  obtain ⟨⟨e, s1⟩, n, h1, h2⟩ := h
  refine ⟨_, n, by simp only [texec, h1, Option.map_some]; rfl, ?_⟩
  cases e
  case exit i =>
    simp only [twithin] at h2 ⊢
    split at h2
    · rename_i hi; simp only [hi, if_true]; exact h2
    · rename_i hi; simp only [hi, if_false]; exact h2
  all_goals exact h2
/-- a loop with an invariant and a number that goes down -/
theorem Tx_loop {c : SC} (I : Nat → TS → Prop) (n : Nat) (h0 : I n s) (h : ∀ n s, I n s → Tx P A F fid c s (tafter (fun s' => ∃ n', n' < n ∧ I n' s') Q)) : Tx P A F fid (.loop c) s Q := by
  induction n using Nat.strongRecOn generalizing s with
  | _ n ih =>
    obtain ⟨⟨e, s1⟩, k, h1, h2⟩ := h n s h0
    cases e
    case normal =>
      obtain ⟨n', hn, hI⟩ := h2
      obtain ⟨r, k2, h3, h4⟩ := ih n' hn hI
      refine ⟨r, max k k2 + 1, ?_, h4⟩
      simp only [texec] at h3 ⊢
      simp only [texec.titer, Option.bind_eq_some_iff]
      exact ⟨_, texec_mono (Obeys.refl F) _ _ _ _ _ (by omega) h1, titer_mono (fun s r h => texec_mono (Obeys.refl F) _ _ _ _ _ (by omega) h) _ _ _ _ (by omega) h3⟩
    all_goals exact ⟨_, k + 1, by simp only [texec, texec.titer, texec_mono (Obeys.refl F) _ _ _ _ _ (Nat.le_succ k) h1, Option.bind_some], h2⟩

/-- a function's end -/
def Tfin (P : Program) (rs : List ResultVar) (v : CV) (H' : List HO) : CE → TS → Prop := fun e s => (∀ i, e ≠ .exit i) ∧ Obt (tend P rs s) fun x => x = (v, H')
theorem Tfin_ret {rs : List ResultVar} {v : CV} {H' : List HO} (h : Obt (tend P rs s) fun x => x = (v, H')) : Tfin P rs v H' .ret s := ⟨by simp, h⟩
theorem Tfin_normal {rs : List ResultVar} {v : CV} {H' : List HO} (h : Obt (tend P rs s) fun x => x = (v, H')) : Tfin P rs v H' .normal s := ⟨by simp, h⟩

/-- a function: what it answers -/
theorem Fw_fun {E : Oracle} {f : FuncId} {fn : Func} {c : SC} {args : List CV} {H : List HO} {v : CV} {H' : List HO} (hE : E f args H = none)
    (hf : P.funcs[f]? = some fn) (hb : fn.body.bind (strip P A f fn.ntmps) = some c) (hlen : args.length ≤ fn.ntmps)
    (h : Tx P A (Fw P A E) f c { sl := tinit 0 args, m := { L := [], H := H } } (Tfin P fn.results.toList v H')) : Fw P A E f args H = some (v, H') := by
  obtain ⟨⟨e, s1⟩, n, h1, h2, y, h3, h4⟩ := h
  subst h4
  obtain ⟨n', h5⟩ := texec_cont _ _ _ _ h1
  refine Fw_iff.2 ⟨n' + 1, ?_⟩
  simp only [tcall, hE, hf, hb, hlen, if_true, h5, Option.bind_some]
  cases e
  case exit i => exact absurd rfl (h2 i)
  all_goals exact h3
end
end Go.Cm
