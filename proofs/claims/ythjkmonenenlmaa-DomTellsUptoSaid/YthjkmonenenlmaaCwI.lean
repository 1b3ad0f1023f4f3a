/-
  Each operation's rule.
-/
import Derived.Test.YthjkmonenenlmaaCwH
set_option linter.unusedSimpArgs false
set_option linter.unusedVariables false
namespace Go.Cm

section
variable {P : Program} {A : Ann} {F : Oracle} {fid : FuncId} {dr : Bool} {s : CS} {K : CS → Prop} {d : Tmp} {od : Option Tmp} {L : List CV} {m : Mem}

def Gd (c : CV) (w : Bool) (X Y : Prop) : Prop := (∃ b, c = .bool b ∧ (b = w → X) ∧ (b = (!w) → Y)) ∨ (c = .tuple [] ∧ Y)
theorem Gd_bool {b w : Bool} {X Y : Prop} : Gd (.bool b) w X Y = ((b = w → X) ∧ (b = (!w) → Y)) := by
  simp [Gd]
theorem Gd_skip {w : Bool} {X Y : Prop} : Gd (.tuple []) w X Y = Y := by simp [Gd]

theorem Gd_tt {X Y : Prop} : Gd (.bool true) true X Y = X := by simp [Gd]
theorem Gd_ff {X Y : Prop} : Gd (.bool false) false X Y = X := by simp [Gd]
theorem Gd_tf {X Y : Prop} : Gd (.bool true) false X Y = Y := by simp [Gd]
theorem Gd_ft {X Y : Prop} : Gd (.bool false) true X Y = Y := by simp [Gd]
section
variable {t : TypeId} {x y : Operand} {k : IntKind} {a b : Int} {K : CV → Prop}
theorem Obt_dec {p : Prop} [Decidable p] : Obt (some (CV.bool (decide p))) K = ((p → K (.bool true)) ∧ (¬p → K (.bool false))) := by
  rw [Obt_some]; by_cases h : p <;> simp [h]
theorem Obt_lss : Obt (cbin P .lss t x y (.int k a) (.int k b)) K = ((a < b → K (.bool true)) ∧ (¬a < b → K (.bool false))) := by
  rw [← Obt_dec]; simp [cbin, intBin]
theorem Obt_leq : Obt (cbin P .leq t x y (.int k a) (.int k b)) K = ((a ≤ b → K (.bool true)) ∧ (¬a ≤ b → K (.bool false))) := by
  rw [← Obt_dec]; simp [cbin, intBin]
theorem Obt_gtr : Obt (cbin P .gtr t x y (.int k a) (.int k b)) K = ((b < a → K (.bool true)) ∧ (¬b < a → K (.bool false))) := by
  rw [← Obt_dec]; simp [cbin, intBin]
theorem Obt_geq : Obt (cbin P .geq t x y (.int k a) (.int k b)) K = ((b ≤ a → K (.bool true)) ∧ (¬b ≤ a → K (.bool false))) := by
  rw [← Obt_dec]; simp [cbin, intBin]
theorem Obt_eql : Obt (cbin P .eql t x y (.int k a) (.int k b)) K = ((a = b → K (.bool true)) ∧ (¬a = b → K (.bool false))) := by
  rw [← Obt_dec]; simp [cbin, intBin]; rfl
theorem Obt_neq : Obt (cbin P .neq t x y (.int k a) (.int k b)) K = ((a = b → K (.bool false)) ∧ (¬a = b → K (.bool true))) := by
  have hb : (a != b) = !(decide (a = b)) := rfl
  simp only [cbin, if_true, intBin, Obt_some, hb]
  by_cases h : a = b <;> simp [h]
theorem Obt_not {b : Bool} : Obt (cun .not (.bool b)) K = K (.bool (!b)) := by simp [cun, Obt_some]
end

theorem Wops_nil : Wops P A F fid dr [] s K = K s := rfl
theorem Wops_cons {o : SO} {r : List SO} : Wops P A F fid dr (o :: r) s K = Wop P A F fid dr o s fun s' => Wops P A F fid dr r s' K := rfl

theorem Wop_g {op : Op} {t : Tmp} {w : Bool} : Wop P A F fid dr ⟨od, op, some (t, w)⟩ ⟨L, m⟩ K = Gd (sget L t) w (Wop P A F fid dr ⟨od, op, none⟩ ⟨L, m⟩ K) (K ⟨sput L od (.tuple []), m⟩) := by
  simp only [Wop, sguard, Obt_some, forall_const, reduceCtorEq, false_implies, and_true, SO.up]
  generalize sget L t = c
  apply propext
  constructor
  · rintro ⟨b, hb, h1, h2⟩
    cases c
    case bool x =>
      simp only [Option.some.injEq] at hb
      rw [Gd_bool]
      subst hb
      exact ⟨fun h => h1 (by simp [h]), fun h => h2 (by subst h; cases w <;> rfl)⟩
    case tuple cs =>
      cases cs with
      | nil =>
        simp only [Option.some.injEq] at hb
        rw [Gd_skip]
        exact h2 hb.symm
      | cons x xs => cases hb
    all_goals cases hb
  · rintro (⟨b, rfl, h1, h2⟩ | ⟨rfl, h⟩)
    · refine ⟨_, rfl, fun h => h1 (by simpa using h), fun h => h2 ?_⟩
      cases b <;> cases w <;> simp_all
    · exact ⟨false, rfl, by simp, fun _ => h⟩

theorem Wop_n {op : Op} : Wop P A F fid dr ⟨od, op, none⟩ ⟨L, m⟩ K = Obt (cval P A F fid (ev L) (SO.up ⟨od, op, none⟩) m) fun x => ((dr && calmOp A op && !(noRef x.1)) = false) ∧ K ⟨sput L od x.1, x.2⟩ := by
  simp only [Wop, sguard, Obt_some, forall_const, reduceCtorEq, false_implies, and_true]
theorem Wop_q {op : Op} (hq : calmOp A op = false) : Wop P A F fid dr ⟨od, op, none⟩ ⟨L, m⟩ K = Obt (cval P A F fid (ev L) (SO.up ⟨od, op, none⟩) m) fun x => K ⟨sput L od x.1, x.2⟩ := by
  rw [Wop_n]; simp only [hq, Bool.and_false, Bool.false_and, true_and]

theorem Wop_move {x : Operand} : Wop P A F fid dr ⟨some d, .move x, none⟩ ⟨L, m⟩ K = K ⟨sset L d (ev L x), m⟩ := by
  rw [Wop_q rfl]; simp only [cval, SO.up, Obt_some, sput]
theorem Wop_assign {x : Operand} : Wop P A F fid dr ⟨some d, .assign x, none⟩ ⟨L, m⟩ K = K ⟨sset L d (ev L x), m⟩ := by
  rw [Wop_q rfl]; simp only [cval, SO.up, Obt_some, sput]
def pickC (c a b : CV) : Option CV := match c with | .bool true => some a | .bool false => some b | _ => none
theorem Wop_pick {c a b : Operand} : Wop P A F fid dr ⟨some d, .pick c a b, none⟩ ⟨L, m⟩ K = Obt (pickC (ev L c) (ev L a) (ev L b)) fun v => K ⟨sset L d v, m⟩ := by
  rw [Wop_q rfl]; simp only [cval, SO.up, sput, pickC]; split <;> simp_all [Obt_some, Obt_none]
theorem Wop_binOp {op : BinOp} {t : TypeId} {x y : Operand} {ty : TypeId} : Wop P A F fid dr ⟨some d, .binOp op t x y ty, none⟩ ⟨L, m⟩ K = Obt (cbin P op t x y (ev L x) (ev L y)) fun v => K ⟨sset L d v, m⟩ := by
  rw [Wop_q rfl]; simp only [cval, SO.up, Obt_map, sput]
theorem Wop_unOp {op : UnOp} {t : TypeId} {x : Operand} : Wop P A F fid dr ⟨some d, .unOp op t x, none⟩ ⟨L, m⟩ K = Obt (cun op (ev L x)) fun v => K ⟨sset L d v, m⟩ := by
  rw [Wop_q rfl]; simp only [cval, SO.up, Obt_map, sput]
theorem Wop_load {t : TypeId} {x : Operand} : Wop P A F fid dr ⟨some d, .load t x, none⟩ ⟨L, m⟩ K = Obt (cload P m t (ev L x)) fun v => K ⟨sset L d v, m⟩ := by
  rw [Wop_q rfl]; simp only [cval, SO.up, Obt_map, sput]
theorem Wop_store {t : TypeId} {x y : Operand} : Wop P A F fid dr ⟨none, .store t x y, none⟩ ⟨L, m⟩ K = Obt (cstore P m t (ev L x) (ev L y)) fun m' => K ⟨L, m'⟩ := by
  rw [Wop_q rfl]; simp only [cval, SO.up, Obt_map, sput]
theorem Wop_fieldAddr {t : TypeId} {x : Operand} {f : Nat} : Wop P A F fid dr ⟨some d, .fieldAddr t x f, none⟩ ⟨L, m⟩ K = Obt (cfieldAddr P t (ev L x) f) fun v => K ⟨sset L d v, m⟩ := by
  rw [Wop_q rfl]; simp only [cval, SO.up, Obt_map, sput]
theorem Wop_indexAddr {t : TypeId} {x i : Operand} : Wop P A F fid dr ⟨some d, .indexAddr t x i, none⟩ ⟨L, m⟩ K = Obt (cindexAddr P t (ev L x) (ev L i)) fun v => K ⟨sset L d v, m⟩ := by
  rw [Wop_q rfl]; simp only [cval, SO.up, Obt_map, sput]
theorem Wop_slice {t : TypeId} {x : Operand} {lo hi mx : Option Operand} : Wop P A F fid dr ⟨some d, .slice t x lo hi mx, none⟩ ⟨L, m⟩ K = Obt (cslice P t (ev L x) (lo.map (ev L)) (hi.map (ev L)) (mx.map (ev L)) m) fun v => K ⟨sset L d v, m⟩ := by
  rw [Wop_q rfl]; simp only [cval, SO.up, Obt_map, sput]
def extractC (c : CV) (i : Nat) : Option CV := match c with | .tuple vs => vs[i]? | _ => none
theorem Wop_extract {x : Operand} {i : Nat} : Wop P A F fid dr ⟨some d, .extract x i, none⟩ ⟨L, m⟩ K = Obt (extractC (ev L x) i) fun v => K ⟨sset L d v, m⟩ := by
  rw [Wop_q rfl]; simp only [cval, SO.up, sput, extractC]; split <;> simp_all [Obt_map, Obt_none]
def convC (P : Program) (a b : TypeId) (c : CV) : Option CV := match P.underlying a, tkind P b, c with | some _, some k, .int _ n => some (.int k (k.wrap n)) | _, _, _ => none
theorem Wop_convert {a b : TypeId} {x : Operand} : Wop P A F fid dr ⟨some d, .convert a b x, none⟩ ⟨L, m⟩ K = Obt (convC P a b (ev L x)) fun v => K ⟨sset L d v, m⟩ := by
  rw [Wop_q rfl]; simp only [cval, SO.up, sput, convC]; split <;> simp_all [Obt_some, Obt_none]

/-! memory -/
def gnext (ML : List (Nat × HO)) (j : Nat) : Nat := ((lget ML j).map HO.gn).getD 0 + 1
theorem gnext_eq (ML : List (Nat × HO)) (j : Nat) (o : Option HO) (h : lget ML j = o) : gnext ML j = (o.map HO.gn).getD 0 + 1 := by rw [gnext, h]
theorem add_local {ML : List (Nat × HO)} {H : List HO} {j : Nat} {mk : Nat → HO} : Mem.add ⟨ML, H⟩ false j mk = (.l j, gnext ML j, ⟨lset ML j (mk (gnext ML j)), H⟩) := rfl

variable {ML : List (Nat × HO)} {H : List HO}

theorem add_local' {m : Mem} {j : Nat} {mk : Nat → HO} : Mem.add m false j mk = (.l j, gnext m.L j, ⟨lset m.L j (mk (gnext m.L j)), m.H⟩) := rfl
/-- a new variable of the function's own -/
def newL (m : Mem) (j : Nat) (cs : List CV) : Mem := ⟨lset m.L j (.var (gnext m.L j) cs 0), m.H⟩
def newP (m : Mem) (j : Nat) : CV := .ptr (.l j) (gnext m.L j) 0
theorem Wop_box {t : TypeId} {x : Operand} (hg : (A.glob fid).contains d = false) (ht : tarr P t = none) :
    Wop P A F fid dr ⟨some d, .box t x, none⟩ ⟨L, m⟩ K = Obt (ccells (ev L x)) fun cs => K ⟨sset L d (newP m (16 * d)), newL m (16 * d) cs⟩ := by
  rw [Wop_q rfl]
  simp only [cval, SO.up, gslot, dslot, hg, ht, add_local', sput, newL, newP]
  split <;> simp_all [Obt_some, Obt_none]
theorem Wop_alloc {t : TypeId} (hg : (A.glob fid).contains d = false) (ht : tarr P t = none) :
    Wop P A F fid dr ⟨some d, .alloc t, none⟩ ⟨L, m⟩ K = Obt (tzcells P t) fun cs => K ⟨sset L d (newP m (16 * d)), newL m (16 * d) cs⟩ := by
  rw [Wop_q rfl]
  simp only [cval, SO.up, gslot, dslot, hg, ht, add_local', sput, newL, newP]
  split <;> simp_all [Obt_some, Obt_none]
/-- what a variable holds -/
def loadC (P : Program) (t : TypeId) (g off : Nat) (h : Option HO) : Option CV :=
  match tagg P t, tsize P t, h with
  | some true, some sz, some (.var g' cs _) => if g' = g ∧ off + sz ≤ cs.length then some (.agg ((cs.drop off).take sz)) else none
  | some false, _, some (.var g' cs _) => if g' = g then cs[off]? else none
  | some true, some sz, some (.arr g' _ cs _) => if g' = g ∧ off + sz ≤ cs.length then some (.agg ((cs.drop off).take sz)) else none
  | some false, _, some (.arr g' _ cs _) => if g' = g then cs[off]? else none
  | _, _, _ => none
theorem head_take_drop {cs : List CV} {off : Nat} : (if off + 1 ≤ cs.length then some ((cs.drop off).take 1) else none).bind (·.head?) = cs[off]? := by
  split
  · rename_i h
    rw [Option.bind_some]
    have hlt : off < cs.length := by omega
    rw [List.getElem?_eq_getElem hlt, List.drop_eq_getElem_cons hlt]
    rfl
  · rename_i h
    rw [List.getElem?_eq_none (by omega)]; rfl
theorem cload_l {t : TypeId} {j g off : Nat} : cload P ⟨ML, H⟩ t (.ptr (.l j) g off) = loadC P t g off (lget ML j) := by
  unfold cload loadC
  simp only [cellsAt, Mem.get]
  cases tagg P t with
  | none => simp
  | some b =>
    cases b with
    | true =>
      cases tsize P t with
      | none => cases lget ML j <;> simp
      | some sz =>
        cases lget ML j with
        | none => simp
        | some h =>
          cases h <;> simp only [Option.bind_some, HO.gn, HO.isMap, HO.cells, true_and, reduceCtorEq, false_and, and_false, if_false, Option.map_none, Bool.true_eq_false] <;> split <;> simp_all
    | false =>
      cases lget ML j with
      | none => simp
      | some h =>
        have key : ∀ (g' : Nat) (cs : List CV), (if g' = g ∧ off + 1 ≤ cs.length then some ((cs.drop off).take 1) else none).bind (·.head?) = if g' = g then cs[off]? else none := by
          intro g' cs
          by_cases hg : g' = g
          · simp only [hg, true_and, if_true]; exact head_take_drop
          · simp [hg]
        cases h with
        | var g' cs vl => simp only [HO.gn, HO.isMap, HO.cells, true_and]; exact key g' cs
        | arr g' s cs vl => simp only [HO.gn, HO.isMap, HO.cells, true_and]; exact key g' cs
        | map g' es => simp [HO.isMap]
theorem cload_r {t : TypeId} {cs : List CV} : cload P m t (.rptr cs) = (match tagg P t, tsize P t with
    | some true, some sz => if sz ≤ cs.length then some (.agg (cs.take sz)) else none
    | some false, _ => cs[0]?
    | _, _ => none) := by
  unfold cload
  simp only [cellsAt]
  cases tagg P t with
  | none => rfl
  | some b =>
    cases b with
    | true =>
      cases tsize P t with
      | none => rfl
      | some sz => simp only [Option.bind_some]; split <;> rfl
    | false =>
      cases cs with
      | nil => rfl
      | cons x xs => simp
/-- what a store leaves -/
def storeL (ML : List (Nat × HO)) (H : List HO) (j g off : Nat) (cs : List CV) (h : Option HO) : Option Mem :=
  match h with
  | some (.var g' cells vl) => if g' = g ∧ off + cs.length ≤ cells.length ∧ vl ≤ off then some ⟨lset ML j (.var g' (splice cells off cs) vl), H⟩ else none
  | _ => none
theorem cstore_l {t : TypeId} {j g off : Nat} {c : CV} {ho : Option HO} (hj : lget ML j = ho) (hv : ∀ g s cs vl, ho ≠ some (.arr g s cs vl)) : cstore P ⟨ML, H⟩ t (.ptr (.l j) g off) c = (match tsize P t, ccells c with
    | some n, some cs => if cs.length = n then storeL ML H j g off cs ho else none
    | _, _ => none) := by
  unfold cstore
  cases h1 : tsize P t with
  | none => rfl
  | some n =>
    cases h2 : ccells c with
    | none => rfl
    | some cs =>
      simp only
      split
      · simp only [cstoreAt, Mem.get, hj, storeL]
        cases ho with
        | none => rfl
        | some h =>
          cases h with
          | var g' cells vl => rfl
          | arr g' s cells vl => exact absurd rfl (hv _ _ _ _)
          | map => rfl
      · rfl
def lenC (P : Program) (m : Mem) (t : TypeId) (x : CV) : Option CV :=
  match P.underlying t with
  | some (.slice _) => (clen x).map fun (n : Nat) => CV.int .i64 (n : Int)
  | some (.map _ _) => (mapOf m x).map fun es => .int .i64 (es.length : Int)
  | some .string => match x with
    | .str s => some (.int .i64 s.size)
    | _ => none
  | some (.array n _) => some (.int .i64 n)
  | _ => none
theorem Wop_len {t : TypeId} {x : Operand} : Wop P A F fid dr ⟨some d, .call ⟨.builtin .len, #[x], #[t]⟩, none⟩ ⟨L, m⟩ K = Obt (lenC P m t (ev L x)) fun v => K ⟨sset L d v, m⟩ := by
  rw [Wop_q rfl]
  simp only [cval, SO.up, List.map_cons, List.map_nil, sput, lenC]
  cases P.underlying t with
  | none => simp only [Obt_none]
  | some td =>
    cases td <;> simp only [Obt_map, Obt_none, Obt_some]
    case string => cases ev L x <;> simp only [Obt_none, Obt_some]
theorem Wop_call {f : FuncId} {args : Array Operand} {ats : Array TypeId} (hp : A.pure f = true) : Wop P A F fid dr ⟨some d, .call ⟨.value (.func f), args, ats⟩, none⟩ ⟨L, m⟩ K =
    Obt (callC A F fid (some d) f (args.toList.map (ev L)) m) fun x => ((dr && !(noRef x.1)) = false) ∧ K ⟨sset L d x.1, x.2⟩ := by
  rw [Wop_n]
  simp only [cval, SO.up, ev, invokeC, List.nil_append, List.append_nil, calmOp, hp, sput, Bool.and_true]
theorem callC_pure {f : FuncId} {args xs : List CV} {m1 : Mem} {r : CV} {H' : List HO} (hp : A.pure f = true) (hx : escList m args = some (xs, m1)) (hn : noGs xs = true) (hF : F f xs [] = some (r, H')) (hr : noG r = true) :
    callC A F fid (some d) f args m = some (adopt ((A.glob fid).contains d) d r (if scalar r then m else m1)) := by
  simp only [callC, hx, Option.bind_some, hp, if_true, hn, hF, hr, takes]
theorem Wop_build {t : TypeId} {ps : Array (Nat × Operand)} {fields : Array Field} {z : List CV} (hu : P.underlying t = some (.struct fields)) (hz : tzcells P t = some z) (hall : fields.toList.all (fun f => (tsize P f.type).isSome) = true) :
    Wop P A F fid dr ⟨some d, .build t ps, none⟩ ⟨L, m⟩ K = Obt (fillC (fun i => (fields[i]?).bind fun f => (tsize P f.type).map fun s => (f.offset, s)) z (ps.toList.map fun p => (p.1, ev L p.2))) fun cs => K ⟨sset L d (.agg cs), m⟩ := by
  rw [Wop_q rfl]
  simp only [cval, SO.up, hu, hz, hall, if_true, Obt_map, sput]
theorem pick_t {a b : CV} : pickC (.bool true) a b = some a := rfl
theorem pick_f {a b : CV} : pickC (.bool false) a b = some b := rfl
theorem len_slice {t e : TypeId} (hu : P.underlying t = some (.slice e)) {x : CV} : lenC P m t x = (clen x).map fun (n : Nat) => CV.int .i64 (n : Int) := by simp only [lenC, hu]
theorem clen_imm {n : Nat} {cs : List CV} : clen (.imm n cs) = some n := rfl
theorem clen_nil : clen .nil = some 0 := rfl
theorem clen_ref {k : Key} {g o n : Nat} : clen (.ref k g o n) = some n := rfl
theorem ofC_int (k : IntKind) (n : Int) : ofC (.int k n) = .int k n := rfl
theorem ofC_bool (b : Bool) : ofC (.bool b) = .bool b := rfl
theorem ofC_nil : ofC (.slice none 0 0) = .nil := rfl
theorem loadC_one {t : TypeId} (h : tagg P t = some false) (hs : tsize P t = some 1) {g off vl : Nat} {cs : List CV} : loadC P t g off (some (.var g cs vl)) = cs[off]? := by
  simp only [loadC, h, hs, if_true]
theorem loadC_agg {t : TypeId} {sz : Nat} (h : tagg P t = some true) (hs : tsize P t = some sz) {g off vl : Nat} {cs : List CV} : loadC P t g off (some (.var g cs vl)) = if off + sz ≤ cs.length then some (.agg ((cs.drop off).take sz)) else none := by
  simp only [loadC, h, hs, true_and]

/-- an operation's answer behind its guard -/
def gdO {α : Type} (c : CV) (w : Bool) (x : Option α) (dflt : α) : Option α :=
  match c with
  | .bool b => if b = w then x else some dflt
  | .tuple [] => some dflt
  | _ => none
theorem gdO_tt {α : Type} {x : Option α} {e : α} : gdO (.bool true) true x e = x := rfl
theorem gdO_ff {α : Type} {x : Option α} {e : α} : gdO (.bool false) false x e = x := rfl
theorem gdO_tf {α : Type} {x : Option α} {e : α} : gdO (.bool true) false x e = some e := rfl
theorem gdO_ft {α : Type} {x : Option α} {e : α} : gdO (.bool false) true x e = some e := rfl
theorem gdO_skip {α : Type} {w : Bool} {x : Option α} {e : α} : gdO (.tuple []) w x e = some e := rfl
theorem Gd_gdO {α : Type} {c : CV} {w : Bool} {x : Option α} {e : α} {K : α → Prop} : Gd c w (Obt x K) (K e) = Obt (gdO c w x e) K := by
  cases c
  case bool b => rw [Gd_bool]; cases b <;> cases w <;> simp [gdO, Obt_some]
  case tuple cs =>
    cases cs with
    | nil => rw [Gd_skip]; simp [gdO, Obt_some]
    | cons y ys => simp [Gd, gdO, Obt_none]
  all_goals simp [Gd, gdO, Obt_none]
theorem Wop_gv {op : Op} {t : Tmp} {w : Bool} {X : Option CV} (h : ∀ K, Wop P A F fid dr ⟨some d, op, none⟩ ⟨L, m⟩ K = Obt X fun v => K ⟨sset L d v, m⟩) :
    Wop P A F fid dr ⟨some d, op, some (t, w)⟩ ⟨L, m⟩ K = Obt (gdO (sget L t) w X (.tuple [])) fun v => K ⟨sset L d v, m⟩ := by
  rw [Wop_g, h, ← Gd_gdO]; rfl
theorem Wop_gm {op : Op} {t : Tmp} {w : Bool} {X : Option (CV × Mem)} (h : ∀ K, Wop P A F fid dr ⟨some d, op, none⟩ ⟨L, m⟩ K = Obt X fun x => K ⟨sset L d x.1, x.2⟩) :
    Wop P A F fid dr ⟨some d, op, some (t, w)⟩ ⟨L, m⟩ K = Obt (gdO (sget L t) w X (.tuple [], m)) fun x => K ⟨sset L d x.1, x.2⟩ := by
  rw [Wop_g, h, ← Gd_gdO (e := (CV.tuple [], m))]; rfl
theorem Wop_gs {op : Op} {t : Tmp} {w : Bool} {X : Option Mem} (h : ∀ K, Wop P A F fid dr ⟨none, op, none⟩ ⟨L, m⟩ K = Obt X fun m' => K ⟨L, m'⟩) :
    Wop P A F fid dr ⟨none, op, some (t, w)⟩ ⟨L, m⟩ K = Obt (gdO (sget L t) w X m) fun m' => K ⟨L, m'⟩ := by
  rw [Wop_g, h, ← Gd_gdO (e := m)]; rfl
/-- a call, in a region that may draw its order -/
def callD (dr : Bool) (A : Ann) (F : Oracle) (fid : FuncId) (d : Tmp) (f : FuncId) (args : List CV) (m : Mem) : Option (CV × Mem) :=
  (callC A F fid (some d) f args m).bind fun x => if (dr && !(noRef x.1)) = true then none else some x
theorem Wop_callD {f : FuncId} {args : Array Operand} {ats : Array TypeId} (hp : A.pure f = true) : Wop P A F fid dr ⟨some d, .call ⟨.value (.func f), args, ats⟩, none⟩ ⟨L, m⟩ K =
    Obt (callD dr A F fid d f (args.toList.map (ev L)) m) fun x => K ⟨sset L d x.1, x.2⟩ := by
  rw [Wop_call hp, callD, Obt_bind]
  congr 1
  funext x
  rw [Obt_ite, Obt_some]
  simp

/-! more rules -/
theorem Wop_moveO {x : Operand} : Wop P A F fid dr ⟨some d, .move x, none⟩ ⟨L, m⟩ K = Obt (some (ev L x)) fun v => K ⟨sset L d v, m⟩ := by rw [Wop_move, Obt_some]
theorem Wop_assignO {x : Operand} : Wop P A F fid dr ⟨some d, .assign x, none⟩ ⟨L, m⟩ K = Obt (some (ev L x)) fun v => K ⟨sset L d v, m⟩ := by rw [Wop_assign, Obt_some]
def nilC (c : CV) : Option CV := match c with | .ptr k g o => some (.ptr k g o) | .rptr cs => some (.rptr cs) | _ => none
theorem Wop_nilCheck {x : Operand} : Wop P A F fid dr ⟨some d, .nilCheck x, none⟩ ⟨L, m⟩ K = Obt (nilC (ev L x)) fun v => K ⟨sset L d v, m⟩ := by
  rw [Wop_q rfl]; simp only [cval, SO.up, sput, nilC]; split <;> simp_all [Obt_some, Obt_none]
def fieldC (P : Program) (t : TypeId) (c : CV) (f : Nat) : Option CV := match tfield P t f, c with | some (off, ft), .agg cs => partC P ft cs off | _, _ => none
theorem Wop_field {t : TypeId} {x : Operand} {f : Nat} : Wop P A F fid dr ⟨some d, .field t x f, none⟩ ⟨L, m⟩ K = Obt (fieldC P t (ev L x) f) fun v => K ⟨sset L d v, m⟩ := by
  rw [Wop_q rfl]; simp only [cval, SO.up, sput, fieldC]; split <;> simp_all [Obt_map, Obt_none]
/-- a struct or an array from its parts -/
def buildC (P : Program) (t : TypeId) (ps : List (Nat × CV)) : Option CV :=
  match tzcells P t, P.underlying t with
  | some z, some (.struct fields) =>
    if fields.toList.all (fun f => (tsize P f.type).isSome) then (fillC (fun i => (fields[i]?).bind fun f => (tsize P f.type).map fun s => (f.offset, s)) z ps).map .agg else none
  | some z, some (.array _ e) => (tsize P e).bind fun s => (fillC (fun i => some (i * s, s)) z ps).map .agg
  | _, _ => none
theorem Wop_buildC {t : TypeId} {ps : Array (Nat × Operand)} : Wop P A F fid dr ⟨some d, .build t ps, none⟩ ⟨L, m⟩ K = Obt (buildC P t (ps.toList.map fun p => (p.1, ev L p.2))) fun v => K ⟨sset L d v, m⟩ := by
  rw [Wop_q rfl]
  simp only [cval, SO.up, sput, buildC]
  cases tzcells P t with
  | none => simp only [Obt_none]
  | some z =>
    cases P.underlying t with
    | none => simp only [Obt_none]
    | some td =>
      cases td <;> simp only [Obt_none, Obt_map, Obt_bind]
      simp only [Obt_ite', Obt_map]
/-- a row from its parts -/
def bsliceC (P : Program) (j : Nat) (t : TypeId) (n : Nat) (ps : List (Nat × CV)) (m : Mem) : Option (CV × Mem) :=
  match telem P t with
  | some e =>
    match tsize P e, tzcells P e with
    | some s, some z =>
      if n * s ≤ 1048576 ∧ z.length = s then
        (fillC (fun i => some (i * s, s)) (reps n z) ps).bind fun cs =>
          (escList m cs).map fun y => (.ref (.l j) (gnext y.2.L j) 0 n, ⟨lset y.2.L j (.arr (gnext y.2.L j) s y.1 0), y.2.H⟩)
      else none
    | _, _ => none
  | none => none
theorem Wop_bslice {t : TypeId} {n : Nat} {ps : Array (Nat × Operand)} (hg : (A.glob fid).contains d = false) : Wop P A F fid dr ⟨some d, .buildSlice t n ps, none⟩ ⟨L, m⟩ K = Obt (bsliceC P (16 * d) t n (ps.toList.map fun p => (p.1, ev L p.2)) m) fun x => K ⟨sset L d x.1, x.2⟩ := by
  rw [Wop_q rfl]
  simp only [cval, SO.up, sput, bsliceC, gslot, dslot, hg, add_local']
  rfl
def appC (P : Program) (j : Nat) (t u : TypeId) (s x : CV) (m : Mem) : Option (CV × Mem) :=
  match telem P t, telem P u with
  | some e, some _ => cappend P false j e s x m
  | _, _ => none
theorem Wop_append {t u : TypeId} {x y : Operand} (hg : (A.glob fid).contains d = false) : Wop P A F fid dr ⟨some d, .call ⟨.builtin .append, #[x, y], #[t, u]⟩, none⟩ ⟨L, m⟩ K = Obt (appC P (16 * d) t u (ev L x) (ev L y) m) fun x => K ⟨sset L d x.1, x.2⟩ := by
  rw [Wop_q rfl]
  simp only [cval, SO.up, sput, appC, gslot, dslot, hg, List.map_cons, List.map_nil]
  rfl
def copC (P : Program) (t : TypeId) (s x : CV) (m : Mem) : Option (CV × Mem) :=
  match telem P t with
  | some e => ccopy P e s x m
  | none => none
theorem Wop_copy {t u : TypeId} {x y : Operand} : Wop P A F fid dr ⟨some d, .call ⟨.builtin .copy, #[x, y], #[t, u]⟩, none⟩ ⟨L, m⟩ K = Obt (copC P t (ev L x) (ev L y) m) fun x => K ⟨sset L d x.1, x.2⟩ := by
  rw [Wop_q rfl]
  simp only [cval, SO.up, sput, copC, List.map_cons, List.map_nil]
  rfl
theorem Wop_max {ts : Array TypeId} {as : Array Operand} : Wop P A F fid dr ⟨some d, .call ⟨.builtin .max, as, ts⟩, none⟩ ⟨L, m⟩ K = Obt (minmax true (as.toList.map (ev L))) fun v => K ⟨sset L d v, m⟩ := by
  rw [Wop_q rfl]; simp only [cval, SO.up, sput, Obt_map]
theorem Wop_min {ts : Array TypeId} {as : Array Operand} : Wop P A F fid dr ⟨some d, .call ⟨.builtin .min, as, ts⟩, none⟩ ⟨L, m⟩ K = Obt (minmax false (as.toList.map (ev L))) fun v => K ⟨sset L d v, m⟩ := by
  rw [Wop_q rfl]; simp only [cval, SO.up, sput, Obt_map]
/-- a new row -/
def mkC (P : Program) (j : Nat) (t : TypeId) (l c : CV) (m : Mem) : Option (CV × Mem) :=
  match telem P t with
  | some e =>
    match tsize P e, tzcells P e, l, c with
    | some s, some z, .int _ a, .int _ b =>
      if 0 ≤ a ∧ a = b ∧ small P e a.toNat ∧ z.length = s then some (.ref (.l j) (gnext m.L j) 0 a.toNat, ⟨lset m.L j (.arr (gnext m.L j) s (reps a.toNat z) 0), m.H⟩) else none
    | _, _, _, _ => none
  | none => none
theorem Wop_mk {t : TypeId} {l c : Operand} (hg : (A.glob fid).contains d = false) : Wop P A F fid dr ⟨some d, .makeSlice t l c, none⟩ ⟨L, m⟩ K = Obt (mkC P (16 * d) t (ev L l) (ev L c) m) fun x => K ⟨sset L d x.1, x.2⟩ := by
  rw [Wop_q rfl]
  simp only [cval, SO.up, sput, mkC, gslot, dslot, hg, add_local']
  rfl
/-- a part of an array, a byte of a string -/
def indexC (P : Program) (t : TypeId) (x i : CV) : Option CV :=
  match x, asNat i with
  | .agg cs, some i => match tarr P t with
    | some (n, e) => if i < n then (tsize P e).bind fun s => partC P e cs (i * s) else none
    | none => none
  | .str s, some i => match P.underlying t with
    | some .string => (s[i]?).map fun b => .int .u8 b.toNat
    | _ => none
  | _, _ => none
end
end Go.Cm
