/-
  Steps of a run whose goal stays small.
-/
import Derived.Test.YthjkmonenenlmaaCxE
set_option linter.unusedSimpArgs false
set_option linter.unusedVariables false
namespace Go.Cm

theorem Obt_of {α : Type} {x : Option α} {y : α} {K : α → Prop} (h : x = some y) (hK : K y) : Obt x K := ⟨y, h, hK⟩
theorem retv_gref {n g off len : Nat} {m : Mem} : retv (.ref (.g n) g off len) m = some (.ref (.g n) g off len, m) := rfl
theorem retv_gmap {n g : Nat} {m : Mem} : retv (.map (.g n) g) m = some (.map (.g n) g, m) := rfl
theorem retv_gptr {n g off : Nat} {m : Mem} : retv (.ptr (.g n) g off) m = some (.ptr (.g n) g off, m) := rfl
theorem retv_int {k : IntKind} {n : Int} {m : Mem} : retv (.int k n) m = some (.int k n, m) := rfl
theorem retv_bool {b : Bool} {m : Mem} : retv (.bool b) m = some (.bool b, m) := rfl
theorem retv_nil {m : Mem} : retv .nil m = some (.nil, m) := rfl
theorem retv_imm {n : Nat} {cs : List CV} {m : Mem} : retv (.imm n cs) m = some (.imm n cs, m) := rfl
theorem retv_inil {m : Mem} : retv .inil m = some (.inil, m) := rfl
theorem retv_pnil {m : Mem} : retv .pnil m = some (.pnil, m) := rfl
theorem retv_agg {cs : List CV} {m : Mem} (h : cs.all escP = true) : retv (.agg cs) m = some (.agg cs, m) := escQ_esc (v := .agg cs) h
theorem tup_nil : tup [] = .tuple [] := rfl
theorem tup_one {v : CV} : tup [v] = v := rfl
theorem tup_two {a b : CV} {r : List CV} : tup (a :: b :: r) = .tuple (a :: b :: r) := rfl
section
variable {P : Program} {A : Ann} {F : Oracle} {fid : FuncId} {s : TS} {Q : CE → TS → Prop} {x y z : SC}

def Kn (K : TS → Prop) : CE → TS → Prop
  | .normal, s => K s
  | _, _ => False
theorem Kn_normal {K : TS → Prop} : Kn K .normal s = K s := rfl

theorem Tx_assoc (h : Tx P A F fid (.seq x (.seq y z)) s Q) : Tx P A F fid (.seq (.seq x y) z) s Q := by
  obtain ⟨⟨e, s1⟩, n, h1, h2⟩ := h
  refine ⟨_, n, ?_, h2⟩
  simp only [texec, Option.bind_eq_some_iff] at h1 ⊢
  obtain ⟨⟨e2, s2⟩, h3, h4⟩ := h1
  cases e2
  case normal =>
    simp only [Option.bind_eq_some_iff] at h4
    obtain ⟨r, h5, h6⟩ := h4
    exact ⟨r, ⟨_, h3, h5⟩, h6⟩
  all_goals
    simp only [Option.some.injEq, Prod.mk.injEq] at h4
    obtain ⟨rfl, rfl⟩ := h4
    exact ⟨_, ⟨_, h3, rfl⟩, rfl⟩
/-- a region, and what comes behind it -/
theorem Tx_regK {dr : Bool} {keep : Option (List Tmp)} {ops : List SO} (h : ∀ K : TS → Prop, (∀ s', Tx P A F fid y s' Q → K s') → Tx P A F fid (.reg dr keep ops) s (Kn K)) : Tx P A F fid (.seq (.reg dr keep ops) y) s Q := by
  refine Tx_seq (Tx_mono (h (fun s' => Tx P A F fid y s' Q) fun _ h => h) ?_)
  intro e s' h
  cases e
  · exact h
  · exact h.elim
  · exact h.elim
theorem Tx_regE {dr : Bool} {keep : Option (List Tmp)} {ops : List SO} (h : ∀ K : TS → Prop, (∀ s', Q .normal s' → K s') → Tx P A F fid (.reg dr keep ops) s (Kn K)) : Tx P A F fid (.reg dr keep ops) s Q := by
  refine Tx_mono (h (fun s' => Q .normal s') fun _ h => h) ?_
  intro e s' h
  cases e
  · exact h
  · exact h.elim
  · exact h.elim
theorem Tx_condK {c : Operand} {b : Bool} (hc : tev s.sl c = .bool b) (h1 : b = true → Tx P A F fid (.seq x z) s Q) (h2 : b = false → Tx P A F fid (.seq y z) s Q) : Tx P A F fid (.seq (.cond c x y) z) s Q := by
  have key : ∀ w, Tx P A F fid (.seq w z) s Q → (tev s.sl c = .bool true → w = x) → (tev s.sl c = .bool false → w = y) → Tx P A F fid (.seq (.cond c x y) z) s Q := by
    intro w h ht hf
    obtain ⟨r, n, h3, h4⟩ := h
    refine ⟨r, n, ?_, h4⟩
    simp only [texec] at h3 ⊢
    cases b with
    | true => rw [ht hc] at h3; rw [hc]; exact h3
    | false => rw [hf hc] at h3; rw [hc]; exact h3
  cases b with
  | true => exact key x (h1 rfl) (fun _ => rfl) (fun h => by rw [hc] at h; cases h)
  | false => exact key y (h2 rfl) (fun h => by rw [hc] at h; cases h) (fun _ => rfl)
theorem Tx_yesK {c : Operand} (hc : tev s.sl c = .bool true) (h : Tx P A F fid (.seq x z) s Q) : Tx P A F fid (.seq (.cond c x y) z) s Q := Tx_condK hc (fun _ => h) (fun h => by cases h)
theorem Tx_noK {c : Operand} (hc : tev s.sl c = .bool false) (h : Tx P A F fid (.seq y z) s Q) : Tx P A F fid (.seq (.cond c x y) z) s Q := Tx_condK hc (fun h => by cases h) (fun _ => h)
theorem Tx_ifK {c : Operand} {p : Prop} [Decidable p] (hc : tev s.sl c = .bool (decide p)) (h1 : p → Tx P A F fid (.seq x z) s Q) (h2 : ¬ p → Tx P A F fid (.seq y z) s Q) : Tx P A F fid (.seq (.cond c x y) z) s Q :=
  Tx_condK hc (fun h => h1 (of_decide_eq_true h)) (fun h => h2 (of_decide_eq_false h))
theorem Tx_nopK (h : Tx P A F fid z s Q) : Tx P A F fid (.seq .nop z) s Q := Tx_seq (Tx_nop h)
theorem Tx_retK (h : Q .ret s) : Tx P A F fid (.seq .ret z) s Q := Tx_seq (Tx_ret h)
theorem Tx_exitK {i : Nat} (h : Q (.exit i) s) : Tx P A F fid (.seq (.exit i) z) s Q := Tx_seq (Tx_exit h)
/-- a block, and what comes behind it -/
theorem Tx_blockK {id : Nat} {c : SC} (h : ∀ Q' : CE → TS → Prop, (∀ s', Tx P A F fid z s' Q → Q' .normal s') → (∀ s', Tx P A F fid z s' Q → Q' (.exit id) s') → (∀ s', Q .ret s' → Q' .ret s') → (∀ i s', i ≠ id → Q (.exit i) s' → Q' (.exit i) s') → Tx P A F fid c s Q') :
    Tx P A F fid (.seq (.block id c) z) s Q := by
  refine Tx_seq (Tx_block (h _ (fun s' h => h) (fun s' h => ?_) (fun s' h => h) (fun i s' hi h => ?_)))
  · simp only [twithin, if_true]; exact h
  · simp only [twithin, hi, if_false]; exact h
theorem Tx_blockE {id : Nat} {c : SC} (h : ∀ Q' : CE → TS → Prop, (∀ s', Q .normal s' → Q' .normal s') → (∀ s', Q .normal s' → Q' (.exit id) s') → (∀ s', Q .ret s' → Q' .ret s') → (∀ i s', i ≠ id → Q (.exit i) s' → Q' (.exit i) s') → Tx P A F fid c s Q') :
    Tx P A F fid (.block id c) s Q := by
  refine Tx_block (h _ (fun s' h => h) (fun s' h => ?_) (fun s' h => h) (fun i s' hi h => ?_))
  · simp only [twithin, if_true]; exact h
  · simp only [twithin, hi, if_false]; exact h
/-- a loop: what holds at its head, with a number that goes down -/
theorem Tx_loopK {c : SC} (I : Nat → TS → Prop) (n : Nat) (h0 : I n s) (h : ∀ n s, I n s → ∀ Q' : CE → TS → Prop, (∀ n' s', n' < n → I n' s' → Q' .normal s') → (∀ i s', Q (.exit i) s' → Q' (.exit i) s') → (∀ s', Q .ret s' → Q' .ret s') → Tx P A F fid c s Q') : Tx P A F fid (.loop c) s Q :=
  Tx_loop I n h0 fun n s hI => h n s hI _ (fun n' _ hn h => ⟨n', hn, h⟩) (fun _ _ h => h) (fun _ h => h)
/-- a function: what it answers -/
theorem Fw_funK {E : Oracle} {f : FuncId} {fn : Func} {c : SC} {args : List CV} {H : List HO} {v : CV} {H' : List HO} (hE : E f args H = none)
    (hf : P.funcs[f]? = some fn) (hb : fn.body.bind (strip P A f fn.ntmps) = some c) (hlen : args.length ≤ fn.ntmps)
    (h : ∀ Q : CE → TS → Prop, (∀ s, Obt (tend P fn.results.toList s) (fun x => x = (v, H')) → Q .ret s) → (∀ s, Obt (tend P fn.results.toList s) (fun x => x = (v, H')) → Q .normal s) → Tx P A (Fw P A E) f c { sl := tinit 0 args, m := { L := [], H := H } } Q) : Fw P A E f args H = some (v, H') :=
  Fw_fun hE hf hb hlen (h _ (fun _ h => Tfin_ret h) (fun _ h => Tfin_normal h))
/-- a function: an answer of which something holds -/
theorem Fw_funE {E : Oracle} {f : FuncId} {fn : Func} {c : SC} {args : List CV} {H : List HO} {R : CV × List HO → Prop} (hE : E f args H = none)
    (hf : P.funcs[f]? = some fn) (hb : fn.body.bind (strip P A f fn.ntmps) = some c) (hlen : args.length ≤ fn.ntmps)
    (h : ∀ Q : CE → TS → Prop, (∀ s, Obt (tend P fn.results.toList s) R → Q .ret s) → (∀ s, Obt (tend P fn.results.toList s) R → Q .normal s) → Tx P A (Fw P A E) f c { sl := tinit 0 args, m := { L := [], H := H } } Q) : ∃ r, R r ∧ Fw P A E f args H = some r := by
  obtain ⟨⟨e, s1⟩, n, h1, h2⟩ := h (fun e s => (∀ i, e ≠ .exit i) ∧ Obt (tend P fn.results.toList s) R) (fun _ h => ⟨by simp, h⟩) (fun _ h => ⟨by simp, h⟩)
  obtain ⟨h2, ⟨v, H'⟩, h3, h4⟩ := h2
  refine ⟨(v, H'), h4, Fw_fun hE hf hb hlen ⟨_, n, h1, h2, _, h3, rfl⟩⟩
end
end Go.Cm
