import Derived.Test.YtlflghggdpbcnaaGreatCwJ
set_option linter.unusedSimpArgs false
set_option linter.unusedVariables false
namespace Go.Cm

section
variable {P : Program} {A : Ann} {F : Oracle} {fid : FuncId} {dr : Bool} {s : CS} {K : CS → Prop} {d : Tmp} {od : Option Tmp} {L : List CV} {m : Mem}

section
variable {t : TypeId} {x y : Operand} {k : IntKind} {a b : Int} {K : CV → Prop}
theorem Obt_dec {p : Prop} [Decidable p] : Obt (some (CV.bool (decide p))) K = ((p → K (.bool true)) ∧ (¬p → K (.bool false))) := by
  rw [Obt_some]; by_cases h : p <;> simp [h]
theorem Obt_lss : Obt (cbin P .lss t x y (.int k a) (.int k b)) K = ((a < b → K (.bool true)) ∧ (¬a < b → K (.bool false))) := by
  rw [← Obt_dec]; simp [cbin, intBin]
theorem Obt_leq : Obt (cbin P .leq t x y (.int k a) (.int k b)) K = ((a ≤ b → K (.bool true)) ∧ (¬a ≤ b → K (.bool false))) := by
  rw [← Obt_dec]; simp [cbin, intBin]
theorem Obt_gtr : Obt (cbin P .gtr t x y (.int k a) (.int k b)) K = ((b < a → K (.bool true)) ∧ (¬b < a → K (.bool false))) := by
  rw [← Obt_dec]; simp [cbin, intBin]
theorem Obt_geq : Obt (cbin P .geq t x y (.int k a) (.int k b)) K = ((b ≤ a → K (.bool true)) ∧ (¬b ≤ a → K (.bool false))) := by
  rw [← Obt_dec]; simp [cbin, intBin]
theorem Obt_eql : Obt (cbin P .eql t x y (.int k a) (.int k b)) K = ((a = b → K (.bool true)) ∧ (¬a = b → K (.bool false))) := by
  rw [← Obt_dec]; simp [cbin, intBin]; rfl
theorem Obt_neq : Obt (cbin P .neq t x y (.int k a) (.int k b)) K = ((a = b → K (.bool false)) ∧ (¬a = b → K (.bool true))) := by
  have hb : (a != b) = !(decide (a = b)) := rfl
  simp only [cbin, if_true, intBin, Obt_some, hb]
  by_cases h : a = b <;> simp [h]
theorem Obt_not {b : Bool} : Obt (cun .not (.bool b)) K = K (.bool (!b)) := by simp [cun, Obt_some]
end

def gnext (ML : List (Nat × HO)) (j : Nat) : Nat := ((lget ML j).map HO.gn).getD 0 + 1
variable {ML : List (Nat × HO)} {H : List HO}

theorem add_local' {m : Mem} {j : Nat} {mk : Nat → HO} : Mem.add m false j mk = (.l j, gnext m.L j, ⟨lset m.L j (mk (gnext m.L j)), m.H⟩) := rfl
def newL (m : Mem) (j : Nat) (cs : List CV) : Mem := ⟨lset m.L j (.var (gnext m.L j) cs 0), m.H⟩
def newP (m : Mem) (j : Nat) : CV := .ptr (.l j) (gnext m.L j) 0
theorem head_take_drop {cs : List CV} {off : Nat} : (if off + 1 ≤ cs.length then some ((cs.drop off).take 1) else none).bind (·.head?) = cs[off]? := by
  split
  · rename_i h
    rw [Option.bind_some]
    have hlt : off < cs.length := by omega
    rw [List.getElem?_eq_getElem hlt, List.drop_eq_getElem_cons hlt]
    rfl
  · rename_i h
    rw [List.getElem?_eq_none (by omega)]; rfl
theorem callC_pure {f : FuncId} {args xs : List CV} {m1 : Mem} {r : CV} {H' : List HO} (hp : A.pure f = true) (hx : escList m args = some (xs, m1)) (hn : noGs xs = true) (hF : F f xs [] = some (r, H')) (hr : noG r = true) :
    callC A F fid (some d) f args m = some (adopt ((A.glob fid).contains d) d r (if scalar r then m else m1)) := by
  simp only [callC, hx, Option.bind_some, hp, if_true, hn, hF, hr, takes]
def gdO {α : Type} (c : CV) (w : Bool) (x : Option α) (dflt : α) : Option α :=
  match c with
  | .bool b => if b = w then x else some dflt
  | .tuple [] => some dflt
  | _ => none
theorem gdO_tt {α : Type} {x : Option α} {e : α} : gdO (.bool true) true x e = x := rfl
theorem gdO_ff {α : Type} {x : Option α} {e : α} : gdO (.bool false) false x e = x := rfl
theorem gdO_tf {α : Type} {x : Option α} {e : α} : gdO (.bool true) false x e = some e := rfl
theorem gdO_ft {α : Type} {x : Option α} {e : α} : gdO (.bool false) true x e = some e := rfl
theorem gdO_skip {α : Type} {w : Bool} {x : Option α} {e : α} : gdO (.tuple []) w x e = some e := rfl
end
end Go.Cm
