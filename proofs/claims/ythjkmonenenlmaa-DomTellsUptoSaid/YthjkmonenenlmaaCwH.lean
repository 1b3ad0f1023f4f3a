/-
  What must hold for code to run to its goal: rules for stripped code.
-/
import Derived.Test.YthjkmonenenlmaaCwG
set_option linter.unusedSimpArgs false
set_option linter.unusedVariables false
namespace Go.Cm

def Obt {α : Type} (x : Option α) (K : α → Prop) : Prop := ∃ y, x = some y ∧ K y
theorem Obt_some {α : Type} {y : α} {K : α → Prop} : Obt (some y) K = K y := propext ⟨fun ⟨z, h, k⟩ => by simp only [Option.some.injEq] at h; subst h; exact k, fun k => ⟨y, rfl, k⟩⟩
theorem Obt_none {α : Type} {K : α → Prop} : Obt none K = False := propext ⟨fun ⟨_, h, _⟩ => (by cases h), False.elim⟩
theorem Obt_map {α β : Type} {x : Option α} {f : α → β} {K : β → Prop} : Obt (x.map f) K = Obt x fun y => K (f y) := by
  cases x <;> simp [Obt_none, Obt_some]
theorem Obt_bind {α β : Type} {x : Option α} {f : α → Option β} {K : β → Prop} : Obt (x.bind f) K = Obt x fun y => Obt (f y) K := by
  cases x <;> simp [Obt_none, Obt_some]
theorem Obt_ite {α : Type} {c : Prop} [Decidable c] {x : Option α} {K : α → Prop} : Obt (if c then none else x) K = (¬ c ∧ Obt x K) := by
  by_cases h : c <;> simp [h, Obt_none]
theorem Obt_ite' {α : Type} {c : Prop} [Decidable c] {x : Option α} {K : α → Prop} : Obt (if c then x else none) K = (c ∧ Obt x K) := by
  by_cases h : c <;> simp [h, Obt_none]

theorem sget_nil (n : Nat) : sget [] n = .dead := by cases n <;> rfl
theorem sget_zero (x : CV) (l : List CV) : sget (x :: l) 0 = x := rfl
theorem sget_succ (x : CV) (l : List CV) (n : Nat) : sget (x :: l) (n + 1) = sget l n := rfl

section
variable (P : Program) (A : Ann) (F : Oracle) (fid : FuncId)

def Wop (dr : Bool) (o : SO) (s : CS) (K : CS → Prop) : Prop :=
  Obt (sguard s.sl o.g) fun b =>
    (b = true → Obt (cval P A F fid (ev s.sl) o.up s.m) fun x => ((dr && calmOp A o.op && !(noRef x.1)) = false) ∧ K { sl := sput s.sl o.d x.1, m := x.2 }) ∧
    (b = false → K { s with sl := sput s.sl o.d (.tuple []) })
def Wops (dr : Bool) : List SO → CS → (CS → Prop) → Prop
  | [], s, K => K s
  | o :: r, s, K => Wop P A F fid dr o s fun s' => Wops dr r s' K
def Wx (c : SC) (s : CS) (Q : CE → CS → Prop) : Prop := ∃ r, Sx P A F fid c s r ∧ Q r.1 r.2
end

section
variable {P : Program} {A : Ann} {F : Oracle} {fid : FuncId} {s : CS} {Q : CE → CS → Prop}

theorem Wop_sop {dr : Bool} {o : SO} {K : CS → Prop} (h : Wop P A F fid dr o s K) : ∃ s', sop P A F fid dr o s = some s' ∧ K s' := by
  obtain ⟨b, hb, h1, h2⟩ := h
  unfold sop
  cases b with
  | true =>
    obtain ⟨x, hx, hn, hk⟩ := h1 rfl
    refine ⟨_, ?_, hk⟩
    simp only [hb, hx, Option.bind_some]
    rw [if_neg (by rw [hn]; simp)]
  | false => exact ⟨_, by simp only [hb], h2 rfl⟩
theorem Wops_sops {dr : Bool} : ∀ {l : List SO} {s : CS} {K : CS → Prop}, Wops P A F fid dr l s K → ∃ s', sops P A F fid dr l s = some s' ∧ K s'
  | [], s, K, h => ⟨s, rfl, h⟩
  | o :: r, s, K, h => by
    obtain ⟨s1, h1, h2⟩ := Wop_sop h
    obtain ⟨s2, h3, h4⟩ := Wops_sops h2
    exact ⟨s2, by simp only [sops, h1, Option.bind_some, h3], h4⟩

theorem Wx_nop (h : Q .normal s) : Wx P A F fid .nop s Q := ⟨_, .of rfl, h⟩
theorem Wx_exit {id : Nat} (h : Q (.exit id) s) : Wx P A F fid (.exit id) s Q := ⟨_, .of rfl, h⟩
theorem Wx_ret (h : Q .ret s) : Wx P A F fid .ret s Q := ⟨_, .of rfl, h⟩
theorem Wx_reg {dr : Bool} {keep : Option (List Tmp)} {ops : List SO} (h : Wops P A F fid dr ops s fun s' => Q .normal ⟨keepOnly keep s'.sl, s'.m⟩) : Wx P A F fid (.reg dr keep ops) s Q := by
  obtain ⟨s', h1, h2⟩ := Wops_sops h
  exact ⟨(.normal, { sl := keepOnly keep s'.sl, m := s'.m }), .of (by simp only [sexec, h1, Option.map_some]), h2⟩
def after (b : CS → Prop) (Q : CE → CS → Prop) : CE → CS → Prop
  | .normal, s => b s
  | e, s => Q e s
theorem after_normal {b : CS → Prop} : after b Q .normal = b := rfl
theorem Wx_seq {x y : SC} (h : Wx P A F fid x s (after (fun s' => Wx P A F fid y s' Q) Q)) : Wx P A F fid (.seq x y) s Q := by
  obtain ⟨⟨e, s1⟩, h1, h2⟩ := h
  cases e
  case normal =>
    obtain ⟨r, h3, h4⟩ := h2
    exact ⟨r, .seq h1 h3, h4⟩
  all_goals exact ⟨_, .seq_out h1 (by simp), h2⟩
theorem Wx_cond {c : Operand} {x y : SC} {b : Bool} (hc : ev s.sl c = .bool b) (h1 : b = true → Wx P A F fid x s Q) (h2 : b = false → Wx P A F fid y s Q) : Wx P A F fid (.cond c x y) s Q := by
  cases b with
  | true =>
    obtain ⟨r, h3, h4⟩ := h1 rfl
    exact ⟨r, .cond_true hc h3, h4⟩
  | false =>
    obtain ⟨r, h3, h4⟩ := h2 rfl
    exact ⟨r, .cond_false hc h3, h4⟩
def within (id : Nat) (Q : CE → CS → Prop) : CE → CS → Prop
  | .exit i, s => if i = id then Q .normal s else Q (.exit i) s
  | e, s => Q e s
theorem Wx_block {id : Nat} {c : SC} (h : Wx P A F fid c s (within id Q)) : Wx P A F fid (.block id c) s Q := by
  obtain ⟨⟨e, s1⟩, h1, h2⟩ := h
  refine ⟨_, .block h1 rfl, ?_⟩
  cases e
  case exit i =>
    simp only [within] at h2 ⊢
    split at h2
    · rename_i hi; simp only [hi, if_true]; exact h2
    · rename_i hi; simp only [hi, if_false]; exact h2
  all_goals exact h2
/-- a loop with an invariant and a number that goes down -/
theorem Wx_loop {c : SC} (I : Nat → CS → Prop) (n : Nat) (h0 : I n s) (h : ∀ n s, I n s → Wx P A F fid c s (after (fun s' => ∃ n', n' < n ∧ I n' s') Q)) : Wx P A F fid (.loop c) s Q := by
  induction n using Nat.strongRecOn generalizing s with
  | _ n ih =>
    obtain ⟨⟨e, s1⟩, h1, h2⟩ := h n s h0
    cases e
    case normal =>
      obtain ⟨n', hn, hI⟩ := h2
      obtain ⟨r, h3, h4⟩ := ih n' hn hI
      exact ⟨r, .loop_next h1 h3, h4⟩
    all_goals exact ⟨_, .loop_out h1 (by simp), h2⟩

/-- a function's end -/
def Fin (P : Program) (fn : Func) (v : CV) (H' : List HO) : CE → CS → Prop := fun e s => (∀ i, e ≠ .exit i) ∧ Obt (resAll P s.sl s.m fn.results.toList) fun vs => Obt (mapMem retv vs s.m) fun x => v = tup x.1 ∧ H' = x.2.H
theorem Fin_ret {fn : Func} {v : CV} {H' : List HO} {rs : List ResultVar} (hr : fn.results.toList = rs) (h : Obt (resAll P s.sl s.m rs) fun vs => Obt (mapMem retv vs s.m) fun x => v = tup x.1 ∧ H' = x.2.H) : Fin P fn v H' .ret s :=
  ⟨by simp, by rw [hr]; exact h⟩
theorem Fin_normal {fn : Func} {v : CV} {H' : List HO} {rs : List ResultVar} (hr : fn.results.toList = rs) (h : Obt (resAll P s.sl s.m rs) fun vs => Obt (mapMem retv vs s.m) fun x => v = tup x.1 ∧ H' = x.2.H) : Fin P fn v H' .normal s :=
  ⟨by simp, by rw [hr]; exact h⟩
/-- a function: what it answers -/
theorem Wx_sim (hS : Sim P F) (hN : plainNames P = true) (hM : P.follows .mixedOrders = true) {f : FuncId} {fn : Func} {c : SC} {args : List CV} {H : List HO} {v : CV} {H' : List HO}
    (hf : P.funcs[f]? = some fn) (hb : fn.body.bind (strip P A f fn.ntmps) = some c) (hlen : args.length ≤ fn.ntmps)
    (h : Wx P A F f c { sl := args, m := { L := [], H := H } } (Fin P fn v H')) : SimAt P f args H v H' := by
  obtain ⟨r, h1, h2, vs, h3, x, h4, h5, h6⟩ := h
  exact Sx.sim hS hN hM hf hb hlen h1 h2 h3 h4 h5 h6
end
end Go.Cm
