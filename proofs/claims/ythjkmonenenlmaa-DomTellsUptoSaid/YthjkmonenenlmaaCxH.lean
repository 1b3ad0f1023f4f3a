/-
  Data that come in, told as records.
-/
import Derived.Test.YthjkmonenenlmaaCxG
set_option linter.unusedSimpArgs false
set_option linter.unusedVariables false
namespace Go.Cm

section
variable {P : Program} {n : Nat} {t : TypeId} {d : D}
theorem ok_bool (hu : P.underlying t = some .bool) (h : D.ok P (n + 1) t d) : ∃ x, d = .b x := by simpa only [D.ok, hu] using h
theorem ok_int {k : IntKind} (hu : P.underlying t = some (.int k)) (h : D.ok P (n + 1) t d) : ∃ m, d = .i k m ∧ k.min ≤ m ∧ m ≤ k.max := by simpa only [D.ok, hu] using h
theorem ok_slice {e : TypeId} (hu : P.underlying t = some (.slice e)) (h : D.ok P (n + 1) t d) : ∃ ds, d = .sl ds ∧ ds.length ≤ maxLen ∧ ∀ x ∈ ds, D.ok P n e x := by simpa only [D.ok, hu] using h
theorem ok_struct {fs : Array Field} {ts : List TypeId} (hu : P.underlying t = some (.struct fs)) (ht : fs.toList.map (·.type) = ts) (h : D.ok P (n + 1) t d) : ∃ ds, d = .ag ds ∧ oks (D.ok P n) ts ds := by
  subst ht
  simpa only [D.ok, hu] using h
theorem oks_cons {ok : TypeId → D → Prop} {ts : List TypeId} {ds : List D} (h : oks ok (t :: ts) ds) : ∃ d r, ds = d :: r ∧ ok t d ∧ oks ok ts r := by
  cases ds with
  | nil => cases h
  | cons d r => exact ⟨d, r, rfl, h.1, h.2⟩
theorem oks_nil {ok : TypeId → D → Prop} {ds : List D} (h : oks ok [] ds) : ds = [] := by
  cases ds with
  | nil => rfl
  | cons d r => cases h
theorem list_of {α : Type} {e : α → List CV} {W : α → Prop} : ∀ {ds : List D}, (∀ x ∈ ds, ∃ a, x.cells = e a ∧ W a) → ∃ l : List α, D.cellsL ds = l.flatMap e ∧ l.length = ds.length ∧ ∀ a ∈ l, W a
  | [], _ => ⟨[], rfl, rfl, fun a h => by cases h⟩
  | d :: ds, h => by
    obtain ⟨a, h1, h2⟩ := h d List.mem_cons_self
    obtain ⟨l, h3, h4, h5⟩ := list_of (ds := ds) fun x hx => h x (List.mem_cons_of_mem _ hx)
    refine ⟨a :: l, ?_, by simp [h4], ?_⟩
    · simp only [D.cellsL, h1, h3, List.flatMap_cons]
    · intro b hb
      rcases List.mem_cons.1 hb with rfl | hb
      · exact h2
      · exact h5 b hb
/-- a slice of records -/
theorem slice_of {α : Type} {e : α → List CV} {W : α → Prop} {et : TypeId} (hu : P.underlying t = some (.slice et)) (he : ∀ x, D.ok P n et x → ∃ a, x.cells = e a ∧ W a) (h : D.ok P (n + 1) t d) :
    ∃ l : List α, d.cells = [sl e l] ∧ d.cv = sl e l ∧ (l.length ≤ 9223372036854775807 ∧ ∀ a ∈ l, W a) := by
  obtain ⟨ds, rfl, h1, h2⟩ := ok_slice hu h
  obtain ⟨l, h3, h4, h5⟩ := list_of fun x hx => he x (h2 x hx)
  have : sl e l = .imm ds.length (D.cellsL ds) := by simp only [sl, h3, h4]
  refine ⟨l, by simp only [D.cells, this], by simp only [D.cv, this], ?_, h5⟩
  rw [h4]; simpa only [maxLen] using h1
end
def isI64 (n : Int) : Prop := -9223372036854775808 ≤ n ∧ n ≤ 9223372036854775807
def isU64 (n : Int) : Prop := 0 ≤ n ∧ n ≤ 18446744073709551615
theorem ok_i64 {P : Program} {n : Nat} {t : TypeId} {d : D} (hu : P.underlying t = some (.int .i64)) (h : D.ok P (n + 1) t d) : ∃ m, d = .i .i64 m ∧ isI64 m := ok_int hu h
theorem ok_u64 {P : Program} {n : Nat} {t : TypeId} {d : D} (hu : P.underlying t = some (.int .u64)) (h : D.ok P (n + 1) t d) : ∃ m, d = .i .u64 m ∧ isU64 m := ok_int hu h
def intC (n : Int) : List CV := [.int .i64 n]
def u64C (n : Int) : List CV := [.int .u64 n]
def boolC (b : Bool) : List CV := [.bool b]
theorem intC_len (n : Int) : (intC n).length = 1 := rfl
theorem u64C_len (n : Int) : (u64C n).length = 1 := rfl
theorem boolC_len (n : Bool) : (boolC n).length = 1 := rfl
def Area.wf (a : Area) : Prop := isI64 a.size
def Lay.wf (l : Lay) : Prop := l.ctx.wf ∧ l.maps.length ≤ 9223372036854775807 ∧ ∀ a ∈ l.maps, a.wf
def Fact.wf (f : Fact) : Prop := isI64 f.region ∧ isI64 f.low ∧ isI64 f.high
end Go.Cm
