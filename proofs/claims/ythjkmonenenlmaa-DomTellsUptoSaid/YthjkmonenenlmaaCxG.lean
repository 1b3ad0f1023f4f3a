/-
  Rows whose elements are of one size; records.
-/
import Derived.Test.YthjkmonenenlmaaCxF
import Derived.IntWalk
set_option linter.unusedSimpArgs false
set_option linter.unusedVariables false
namespace Go.Cm

/-- a row that nobody writes -/
def sl {α : Type} (e : α → List CV) (l : List α) : CV := .imm l.length (l.flatMap e)
theorem clen_sl {α : Type} {e : α → List CV} {l : List α} : clen (sl e l) = some l.length := rfl
theorem flat_len {α : Type} {e : α → List CV} {sz : Nat} (hs : ∀ a, (e a).length = sz) (l : List α) : (l.flatMap e).length = l.length * sz := by
  induction l with
  | nil => simp
  | cons x l ih => simp [ih, hs, Nat.add_mul, Nat.add_comm]
theorem content_sl {α : Type} {e : α → List CV} {l : List α} {sz : Nat} {m : Mem} (hs : ∀ a, (e a).length = sz) : content m sz (sl e l) = some (l.flatMap e) := by
  simp only [content, sl, flat_len hs, if_true]
theorem idxS_imm {α : Type} {e : α → List CV} {d r : List α} {a : α} {sz n : Nat} {k : IntKind} (hs : ∀ a, (e a).length = sz) (hp : 0 < sz) (hn : n = (d ++ a :: r).length) : idxS sz (.imm n ((d ++ a :: r).flatMap e)) (.int k d.length) = some (.rptr (e a ++ r.flatMap e)) := by
  subst hn
  have h1 : (d.length : Int).toNat = d.length := rfl
  simp only [idxS, asNat, Int.natCast_nonneg, if_true, h1]
  rw [if_pos]
  · congr 2
    rw [List.flatMap_append, ← flat_len hs d, List.drop_left, List.flatMap_cons]
  · constructor
    · simp
    · rw [flat_len hs]; simp only [List.length_append, List.length_cons]; exact Nat.mul_lt_mul_of_pos_right (by omega) hp
/-- an element at a place that is there -/
theorem idxS_sl {α : Type} {e : α → List CV} {l : List α} {i : Int} {a : α} {sz : Nat} {k : IntKind} (hs : ∀ a, (e a).length = sz) (hp : 0 < sz) (h0 : 0 ≤ i) (ha : l[i.toNat]? = some a) :
    idxS sz (sl e l) (.int k i) = some (.rptr (e a ++ (l.drop (i.toNat + 1)).flatMap e)) := by
  obtain ⟨hlt, hget⟩ := List.getElem?_eq_some_iff.1 ha
  have hl : l = l.take i.toNat ++ a :: l.drop (i.toNat + 1) := by
    rw [← hget, ← List.drop_eq_getElem_cons hlt, List.take_append_drop]
  have hi : i = ((l.take i.toNat).length : Int) := by
    rw [List.length_take, Nat.min_eq_left (by omega)]; omega
  have := idxS_imm (e := e) (d := l.take i.toNat) (r := l.drop (i.toNat + 1)) (a := a) (n := l.length) (k := k) hs hp (congrArg List.length hl)
  rw [← hl, ← hi] at this
  exact this
theorem idxS_split {α : Type} {e : α → List CV} {l d r : List α} {a : α} {sz : Nat} {k : IntKind} (hs : ∀ a, (e a).length = sz) (hp : 0 < sz) (hl : l = d ++ a :: r) :
    idxS sz (sl e l) (.int k d.length) = some (.rptr (e a ++ r.flatMap e)) := by
  subst hl; exact idxS_imm hs hp rfl

theorem flat_at {α : Type} {e : α → List CV} {l : List α} {i : Nat} {a : α} {sz : Nat} (hs : ∀ a, (e a).length = sz) (ha : l[i]? = some a) : ((l.flatMap e).drop (i * sz)).take sz = e a ∧ i * sz + sz ≤ (l.flatMap e).length := by
  obtain ⟨hlt, hget⟩ := List.getElem?_eq_some_iff.1 ha
  have hl : l = l.take i ++ a :: l.drop (i + 1) := by
    rw [← hget, ← List.drop_eq_getElem_cons hlt, List.take_append_drop]
  have hi : i * sz = ((l.take i).flatMap e).length := by
    rw [flat_len hs, List.length_take, Nat.min_eq_left (by omega)]
  constructor
  · have : l.flatMap e = (l.take i).flatMap e ++ (a :: l.drop (i + 1)).flatMap e := by rw [← List.flatMap_append, ← hl]
    rw [this, hi]
    rw [List.drop_left, List.flatMap_cons, ← hs a, List.take_left]
  · rw [flat_len hs]
    have := Nat.mul_le_mul_right sz (show i + 1 ≤ l.length from hlt)
    rw [Nat.add_mul] at this
    omega

/-! records -/
structure Area where
  size : Int
  write : Bool
structure Lay where
  ctx : Area
  maps : List Area
def areaC (a : Area) : List CV := [.int .i64 a.size, .bool a.write]
theorem areaC_len (a : Area) : (areaC a).length = 2 := rfl
theorem areaC_t (a : Area) : (areaC a).take 2 = areaC a := rfl
theorem areaC_0 (a : Area) : (areaC a)[0]? = some (.int .i64 a.size) := rfl
theorem areaC_1 (a : Area) : (areaC a)[1]? = some (.bool a.write) := rfl
theorem areaC_P (a : Area) : (areaC a).all escP = true := rfl
def layC (l : Lay) : List CV := [.int .i64 l.ctx.size, .bool l.ctx.write, sl areaC l.maps]
theorem layC_len (l : Lay) : (layC l).length = 3 := rfl
theorem layC_t (l : Lay) : (layC l).take 3 = layC l := rfl
theorem layC_ctx (l : Lay) : (layC l).take 2 = areaC l.ctx := rfl
theorem layC_0 (l : Lay) : (layC l)[0]? = some (.int .i64 l.ctx.size) := rfl
theorem layC_1 (l : Lay) : (layC l)[1]? = some (.bool l.ctx.write) := rfl
theorem layC_2 (l : Lay) : (layC l)[2]? = some (sl areaC l.maps) := rfl
theorem layC_P (l : Lay) : (layC l).all escP = true := rfl
structure Fact where
  seen : Bool
  region : Int
  low : Int
  high : Int
def factC (f : Fact) : List CV := [.bool f.seen, .int .i64 f.region, .int .i64 f.low, .int .i64 f.high]
theorem factC_len (f : Fact) : (factC f).length = 4 := rfl

def okArea (a : Area) : Prop := 1 ≤ a.size ∧ a.size ≤ 4096
instance (a : Area) : Decidable (okArea a) := by unfold okArea; infer_instance
def okLay (l : Lay) : Prop := 0 ≤ l.ctx.size ∧ l.ctx.size ≤ 4096 ∧ l.maps.length ≤ 8 ∧ ∀ a ∈ l.maps, okArea a
instance (l : Lay) : Decidable (okLay l) := by unfold okLay; infer_instance
/-- the regions of a layout -/
def areasL (l : Lay) : List Area := l.ctx :: ⟨512, true⟩ :: l.maps
/-- a region's area -/
def areaAt (l : Lay) (r : Int) : Option Area := if okLay l ∧ 1 ≤ r then (areasL l)[(r - 1).toNat]? else none

theorem take_all {n : Nat} {l : List CV} (h : l.length = n) : l.take n = l := List.take_of_length_le (by omega)
theorem noGs_flat {α : Type} {e : α → List CV} (h : ∀ a, noGs (e a) = true) : ∀ l : List α, noGs (l.flatMap e) = true
  | [] => rfl
  | a :: l => by
    have app : ∀ x y : List CV, noGs x = true → noGs y = true → noGs (x ++ y) = true := by
      intro x y hx hy
      induction x with
      | nil => exact hy
      | cons c x ih =>
        simp only [noGs, Bool.and_eq_true] at hx
        simp only [List.cons_append, noGs, hx.1, ih hx.2, Bool.and_self]
    rw [List.flatMap_cons]
    exact app _ _ (h a) (noGs_flat h l)
theorem noG_sl {α : Type} {e : α → List CV} (h : ∀ a, noGs (e a) = true) (l : List α) : noG (sl e l) = true := noGs_flat h l
theorem areaC_N (a : Area) : noGs (areaC a) = true := rfl
theorem layC_N (l : Lay) : noG (.agg (layC l)) = true := by
  simp only [noG, layC, noGs, noG_sl areaC_N, Bool.and_self]
theorem factC_t (l : Fact) : (factC l).take 4 = factC l := rfl
theorem factC_0 (f : Fact) : (factC f)[0]? = some (.bool f.seen) := rfl
theorem factC_1 (f : Fact) : (factC f)[1]? = some (.int .i64 f.region) := rfl
theorem factC_2 (f : Fact) : (factC f)[2]? = some (.int .i64 f.low) := rfl
theorem factC_3 (f : Fact) : (factC f)[3]? = some (.int .i64 f.high) := rfl
theorem factC_P (f : Fact) : (factC f).all escP = true := rfl
theorem factC_N (f : Fact) : noG (.agg (factC f)) = true := rfl
theorem areaC_NA (a : Area) : noG (.agg (areaC a)) = true := rfl
theorem escQ_agg {cs : List CV} : escQ (.agg cs) = cs.all escP := rfl
theorem escQ_int {k : IntKind} {n : Int} : escQ (.int k n) = true := rfl
theorem escQ_bool {b : Bool} : escQ (.bool b) = true := rfl
theorem noG_int {k : IntKind} {n : Int} : noG (.int k n) = true := rfl
theorem noG_bool {b : Bool} : noG (.bool b) = true := rfl

theorem wI {n : Int} (h0 : -9223372036854775808 ≤ n) (h1 : n ≤ 9223372036854775807) : IntKind.i64.wrap n = n := IntWalk.i64_in n ⟨h0, h1⟩

theorem own_all {α : Type} {e : α → List CV} {sz n : Nat} {l : List α} (hs : ∀ a, (e a).length = sz) (hn : n = l.length) : (l.flatMap e).take (n * sz) = l.flatMap e :=
  List.take_of_length_le (by rw [flat_len hs, hn]; exact Nat.le_refl _)

theorem retv_agc {c : CV} {cs : List CV} {m : Mem} : retv (.agg (c :: cs)) m = (mapMem (esc 5) (c :: cs) m).map fun x => (.agg x.1, x.2) := rfl
theorem esc_i {k : IntKind} {n : Int} {m : Mem} : esc 5 (.int k n) m = some (.int k n, m) := rfl
theorem esc_b {b : Bool} {m : Mem} : esc 5 (.bool b) m = some (.bool b, m) := rfl
theorem esc_n {m : Mem} : esc 5 .nil m = some (.nil, m) := rfl
theorem esc_m {n : Nat} {cs : List CV} {m : Mem} : esc 5 (.imm n cs) m = some (.imm n cs, m) := rfl
theorem esc_s {s : ByteArray} {m : Mem} : esc 5 (.str s) m = some (.str s, m) := rfl
theorem retv_areaC {a : Area} {m : Mem} : retv (.agg (areaC a)) m = some (.agg (areaC a), m) := retv_agg (areaC_P a)

/-! calls -/
section
variable {P : Program} {A : Ann} {F : Oracle} {fid : FuncId} {m : Mem}
theorem callC_P {d : Tmp} {f : FuncId} {args : List CV} {r : CV} {H' : List HO} (hF : F f args [] = some (r, H')) (hp : A.pure f = true) (hx : args.all escQ = true) (hn : noGs args = true) (hr : noG r = true) :
    callC A F fid (some d) f args m = some (adopt ((A.glob fid).contains d) d r m) := by
  rw [callC_pure hp (escQ_list hx) hn hF hr]
  simp
end
theorem adopt_int {k : IntKind} {n : Int} {g : Bool} {d : Nat} {m : Mem} : adopt g d (.int k n) m = (.int k n, m) := rfl
theorem adopt_bool {b : Bool} {g : Bool} {d : Nat} {m : Mem} : adopt g d (.bool b) m = (.bool b, m) := rfl
theorem adopt_nil {g : Bool} {d : Nat} {m : Mem} : adopt g d .nil m = (.nil, m) := rfl
theorem adopt_agg {cs : List CV} {g : Bool} {d : Nat} {m : Mem} : adopt g d (.agg cs) m = (.agg cs, m) := rfl
theorem adopt_imm {n : Nat} {cs : List CV} {g : Bool} {d : Nat} {m : Mem} : adopt g d (.imm n cs) m = (.imm n cs, m) := rfl
theorem adopt_own {n sz vl : Nat} {cs : List CV} {d : Nat} {m : Mem} : adopt false d (.own n sz cs vl) m = (.ref (.l (16 * d)) (gnext m.L (16 * d)) 0 n, setL m (16 * d) (.arr (gnext m.L (16 * d)) sz cs vl)) := rfl
def plain1 : CV → Bool
  | .own _ _ _ _ => false
  | _ => true
theorem adopts_plain {g : Bool} : ∀ {cs : List CV} {j : Nat} {m : Mem}, cs.all plain1 = true → adopts g j cs m = (cs, m)
  | [], _, _, _ => rfl
  | c :: cs, j, m, h => by
    simp only [List.all_cons, Bool.and_eq_true] at h
    have h1 : adopt1 g j c m = (c, m) := by cases c <;> first | rfl | simp [plain1] at h
    simp only [adopts, h1, adopts_plain h.2]
theorem adopt_tuple {cs : List CV} {g : Bool} {d : Nat} {m : Mem} (h : cs.all plain1 = true) : adopt g d (.tuple cs) m = (.tuple cs, m) := by
  simp only [adopt, adopts_plain h]
/-- a row goes out with its function -/
theorem retv_own {m : Mem} {j g off len sz vl : Nat} {cs : List CV} (h : lget m.L j = some (.arr g sz cs vl)) : retv (.ref (.l j) g off len) m = some (.own len sz ((cs.drop off).take (len * sz)) (vl - off), setL m j (.arr (g + 1) sz [] 0)) := by
  simp only [retv, h, if_true]; rfl
def retR (m : Mem) (j g off len : Nat) (o : Option HO) : Option (CV × Mem) :=
  match o with
  | some (.arr g' sz cs vl) => if g' = g then some (.own len sz ((cs.drop off).take (len * sz)) (vl - off), setL m j (.arr (g' + 1) sz [] 0)) else none
  | _ => none
theorem retv_l {m : Mem} {j g off len : Nat} : retv (.ref (.l j) g off len) m = retR m j g off len (lget m.L j) := by
  simp only [retv, retR]
  cases lget m.L j with
  | none => rfl
  | some h => cases h <;> rfl
theorem retR_arr {m : Mem} {j g off len sz vl : Nat} {cs : List CV} : retR m j g off len (some (.arr g sz cs vl)) = some (.own len sz ((cs.drop off).take (len * sz)) (vl - off), setL m j (.arr (g + 1) sz [] 0)) := by
  simp only [retR, if_true]
end Go.Cm
