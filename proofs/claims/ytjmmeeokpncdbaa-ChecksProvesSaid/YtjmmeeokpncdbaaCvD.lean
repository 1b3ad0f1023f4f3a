/-
  The C machine, fourth part: what its values and its memory stand for in Go's memory.
-/
import Derived.Test.YtjmmeeokpncdbaaCvC
import Derived.Laws.World
import Derived.Laws.Sem
import Derived.Laws.Cells
set_option linter.unusedSimpArgs false
set_option linter.unusedVariables false
namespace Go.Cm

/-- where an object lies: its block, its first cell, the block's cells -/
structure Pl where
  blk : Nat
  base : Nat
  bsz : Nat
abbrev KM := Nat → Nat → Option Value
abbrev PM := Key → Option Pl
abbrev MM := Key → Option HO

def keyOK (loc : Bool) : Key → Prop
  | .l _ => loc = true
  | .g _ => True

/-- a slice value stands for a part of a row -/
def RefAt (p : Option Pl) (sz n off len : Nat) (a : Option Addr) (cap : Nat) : Prop :=
  cap = 0 ∨ ∃ q, p = some q ∧ a = some ⟨q.blk, q.base + off, Option.none⟩ ∧ q.base + off + cap * sz ≤ q.bsz ∧ off + len * sz ≤ n

mutual
def V (K : KM) (M : MM) (P : PM) : Bool → CV → Value → Prop
  | _, .dead, _ => True
  | _, .bool b, v => v = .bool b
  | _, .int k n, v => v = .int k n
  | _, .str s, v => v = .string s
  | loc, .agg cs, v => cs.all leafV = true ∧ ∃ vs : Array Value, v = .agg vs ∧ Vs K M P loc cs vs.toList
  | _, .nil, v => v = .slice Option.none 0 0
  | _, .imm n cs, v => cs.all leafV = true ∧ ∃ a cap, v = .slice a n cap ∧ n ≤ cap ∧ (cs = [] ∨ ∃ b o, a = some ⟨b, o, Option.none⟩ ∧ Vk K M P b o cs)
  | _, .own _ _ _ _, _ => False
  | loc, .ref k gn off len, v => keyOK loc k ∧ ∃ h a cap, M k = some h ∧ gn ≤ h.gn ∧ v = .slice a len cap ∧ len ≤ cap ∧ (cap = 0 ∨ a.isSome = true) ∧
      (gn = h.gn → ∃ sz cs vl, h = .arr gn sz cs vl ∧ RefAt (P k) sz cs.length off len a cap)
  | _, .pnil, v => v = .pointer Option.none
  | loc, .ptr k gn off, v => keyOK loc k ∧ ∃ h a, M k = some h ∧ gn ≤ h.gn ∧ v = .pointer (some a) ∧
      (gn = h.gn → ∃ q, P k = some q ∧ a = ⟨q.blk, q.base + off, Option.none⟩)
  | _, .rptr cs, v => cs.all leafV = true ∧ ∃ b o, v = .pointer (some ⟨b, o, Option.none⟩) ∧ Vk K M P b o cs
  | _, .mnil, v => v = .map Option.none
  | loc, .map k gn, v => keyOK loc k ∧ ∃ h r, M k = some h ∧ gn ≤ h.gn ∧ v = .map (some r) ∧ (gn = h.gn → ∃ q, P k = some q ∧ r = q.blk)
  | loc, .func f a b, v => ∃ x y : Array Value, v = .func f x y ∧ Vs K M P loc a x.toList ∧ Vs K M P loc b y.toList
  | _, .nilf, v => v = .nilFunc
  | _, .inil, v => v = .nilIface
  | loc, .iface t c, v => ∃ u, v = .iface t u ∧ V K M P loc c u
  | loc, .tuple cs, v => ∃ vs : Array Value, v = .tuple vs ∧ Vs K M P loc cs vs.toList
def Vs (K : KM) (M : MM) (P : PM) : Bool → List CV → List Value → Prop
  | _, [], vs => vs = []
  | loc, c :: cs, vs => ∃ v r, vs = v :: r ∧ V K M P loc c v ∧ Vs K M P loc cs r
def Vk (K : KM) (M : MM) (P : PM) : Nat → Nat → List CV → Prop
  | _, _, [] => True
  | b, o, c :: cs => (∃ v, K b o = some v ∧ V K M P false c v) ∧ Vk K M P b (o + 1) cs
end

/-- what an object keeps where it has not moved -/
def Pres (h h' : HO) (p p' : Option Pl) : Prop :=
  (∀ q, p = some q → p' = some q) ∧ (∀ g sz cs vl, h = .arr g sz cs vl → ∃ cs' vl', h' = .arr g sz cs' vl' ∧ cs.length ≤ cs'.length)
def Grow (loc : Bool) (M : MM) (P : PM) (M' : MM) (P' : PM) : Prop :=
  ∀ k h, keyOK loc k → M k = some h → ∃ h', M' k = some h' ∧ h.gn ≤ h'.gn ∧ (h.gn = h'.gn → Pres h h' (P k) (P' k))

theorem Grow.sub {loc : Bool} {M M' : MM} {P P' : PM} (h : Grow loc M P M' P') : Grow false M P M' P' := by
  intro k x hk hx
  refine h k x ?_ hx
  cases k <;> simp [keyOK] at hk ⊢

theorem RefAt.mono {p p' : Option Pl} {sz n n' off len cap : Nat} {a : Option Addr} (h : RefAt p sz n off len a cap) (hp : ∀ q, p = some q → p' = some q) (hn : n ≤ n') :
    RefAt p' sz n' off len a cap := by
  rcases h with h | ⟨q, h1, h2, h3, h4⟩
  · exact .inl h
  · exact .inr ⟨q, hp q h1, h2, h3, by omega⟩

section
variable {K K' : KM} {M M' : MM} {P P' : PM}

theorem keyOK.le {loc loc' : Bool} (hl : loc = true → loc' = true) {k : Key} (h : keyOK loc k) : keyOK loc' k := by
  cases k with
  | l j => exact hl h
  | g n => trivial

mutual
theorem V_mono (hK : ∀ b o v, K b o = some v → K' b o = some v) (hF : Grow false M P M' P') {loc loc' : Bool} (hl : loc = true → loc' = true)
    (hM : Grow loc M P M' P') : ∀ (c : CV) (v : Value), V K M P loc c v → V K' M' P' loc' c v
  | .dead, _, _ => by simp [V]
  | .bool b, _, h => by simpa [V] using h
  | .int k n, _, h => by simpa [V] using h
  | .str s, _, h => by simpa [V] using h
  | .agg cs, v, h => by
    simp only [V] at h ⊢
    obtain ⟨h0, vs, hv, hs⟩ := h
    exact ⟨h0, vs, hv, Vs_mono hK hF hl hM cs _ hs⟩
  | .nil, _, h => by simpa [V] using h
  | .imm n cs, v, h => by
    simp only [V] at h ⊢
    obtain ⟨h0, a, cap, hv, hn, hc⟩ := h
    refine ⟨h0, a, cap, hv, hn, ?_⟩
    rcases hc with hc | ⟨b, o, ha, hk⟩
    · exact .inl hc
    · exact .inr ⟨b, o, ha, Vk_mono hK hF cs b o hk⟩
  | .own _ _ _ _, _, h => by simp [V] at h
  | .ref k gn off len, v, h => by
    simp only [V] at h ⊢
    obtain ⟨hk, x, a, cap, hx, hg, hv, hc, hs, hr⟩ := h
    obtain ⟨x', hx', hle, hp⟩ := hM k x hk hx
    refine ⟨hk.le hl, x', a, cap, hx', by omega, hv, hc, hs, ?_⟩
    intro he
    have hgx : gn = x.gn := by omega
    obtain ⟨sz, cs, vl, hxe, hra⟩ := hr hgx
    obtain ⟨hp1, hp2⟩ := hp (by omega)
    obtain ⟨cs', vl', h', hlen⟩ := hp2 _ _ _ _ hxe
    exact ⟨sz, cs', vl', h', hra.mono hp1 hlen⟩
  | .pnil, _, h => by simpa [V] using h
  | .ptr k gn off, v, h => by
    simp only [V] at h ⊢
    obtain ⟨hk, x, a, hx, hg, hv, hr⟩ := h
    obtain ⟨x', hx', hle, hp⟩ := hM k x hk hx
    refine ⟨hk.le hl, x', a, hx', by omega, hv, ?_⟩
    intro he
    obtain ⟨q, hq, ha⟩ := hr (by omega)
    exact ⟨q, (hp (by omega)).1 q hq, ha⟩
  | .rptr cs, v, h => by
    simp only [V] at h ⊢
    obtain ⟨h0, b, o, hv, hk⟩ := h
    exact ⟨h0, b, o, hv, Vk_mono hK hF cs b o hk⟩
  | .mnil, _, h => by simpa [V] using h
  | .map k gn, v, h => by
    simp only [V] at h ⊢
    obtain ⟨hk, x, r, hx, hg, hv, hr⟩ := h
    obtain ⟨x', hx', hle, hp⟩ := hM k x hk hx
    refine ⟨hk.le hl, x', r, hx', by omega, hv, ?_⟩
    intro he
    obtain ⟨q, hq, ha⟩ := hr (by omega)
    exact ⟨q, (hp (by omega)).1 q hq, ha⟩
  | .func f a b, v, h => by
    simp only [V] at h ⊢
    obtain ⟨x, y, hv, hx, hy⟩ := h
    exact ⟨x, y, hv, Vs_mono hK hF hl hM a _ hx, Vs_mono hK hF hl hM b _ hy⟩
  | .nilf, _, h => by simpa [V] using h
  | .inil, _, h => by simpa [V] using h
  | .iface t c, v, h => by
    simp only [V] at h ⊢
    obtain ⟨u, hv, hu⟩ := h
    exact ⟨u, hv, V_mono hK hF hl hM c u hu⟩
  | .tuple cs, v, h => by
    simp only [V] at h ⊢
    obtain ⟨vs, hv, hs⟩ := h
    exact ⟨vs, hv, Vs_mono hK hF hl hM cs _ hs⟩
theorem Vs_mono (hK : ∀ b o v, K b o = some v → K' b o = some v) (hF : Grow false M P M' P') {loc loc' : Bool} (hl : loc = true → loc' = true)
    (hM : Grow loc M P M' P') : ∀ (cs : List CV) (vs : List Value), Vs K M P loc cs vs → Vs K' M' P' loc' cs vs
  | [], _, h => by simpa [Vs] using h
  | c :: cs, vs, h => by
    simp only [Vs] at h ⊢
    obtain ⟨v, r, hv, hc, hr⟩ := h
    exact ⟨v, r, hv, V_mono hK hF hl hM c v hc, Vs_mono hK hF hl hM cs r hr⟩
theorem Vk_mono (hK : ∀ b o v, K b o = some v → K' b o = some v) (hF : Grow false M P M' P') : ∀ (cs : List CV) (b o : Nat), Vk K M P b o cs → Vk K' M' P' b o cs
  | [], _, _, _ => by simp [Vk]
  | c :: cs, b, o, h => by
    simp only [Vk] at h ⊢
    obtain ⟨⟨v, hv, hc⟩, hr⟩ := h
    exact ⟨⟨v, hK b o v hv, V_mono hK hF (fun h => h) hF c v hc⟩, Vk_mono hK hF cs b (o + 1) hr⟩
end

theorem Grow.refl (loc : Bool) (M : MM) (P : PM) : Grow loc M P M P := by
  intro k h _ hh
  exact ⟨h, hh, Nat.le_refl _, fun _ => ⟨fun q hq => hq, fun g sz cs vl he => ⟨cs, vl, he, Nat.le_refl _⟩⟩⟩

theorem V_loc {loc : Bool} {c : CV} {v : Value} (h : V K M P false c v) : V K M P loc c v :=
  V_mono (fun _ _ _ h => h) (Grow.refl _ _ _) (by simp) (Grow.refl _ _ _) c v h
theorem Vs_loc {loc : Bool} {c : List CV} {v : List Value} (h : Vs K M P false c v) : Vs K M P loc c v :=
  Vs_mono (fun _ _ _ h => h) (Grow.refl _ _ _) (by simp) (Grow.refl _ _ _) c v h

/-! lists -/
theorem Vs_length {loc : Bool} : ∀ {cs : List CV} {vs : List Value}, Vs K M P loc cs vs → vs.length = cs.length
  | [], vs, h => by simp [Vs] at h; simp [h]
  | c :: cs, vs, h => by
    simp only [Vs] at h
    obtain ⟨v, r, rfl, _, hr⟩ := h
    simp [Vs_length hr]
theorem Vs_get {loc : Bool} : ∀ {cs : List CV} {vs : List Value}, Vs K M P loc cs vs → ∀ {i : Nat} {c : CV}, cs[i]? = some c → ∃ v, vs[i]? = some v ∧ V K M P loc c v
  | [], vs, h, i, c, hc => by simp at hc
  | x :: cs, vs, h, i, c, hc => by
    simp only [Vs] at h
    obtain ⟨v, r, rfl, hv, hr⟩ := h
    cases i with
    | zero => simp at hc; subst hc; exact ⟨v, by simp, hv⟩
    | succ i => simp at hc; simpa using Vs_get hr hc
theorem Vs_of {loc : Bool} : ∀ {cs : List CV} {vs : List Value}, vs.length = cs.length → (∀ (i : Nat) (c : CV), cs[i]? = some c → ∃ v, vs[i]? = some v ∧ V K M P loc c v) → Vs K M P loc cs vs
  | [], vs, hl, _ => by simpa [Vs] using hl
  | x :: cs, [], hl, _ => by simp at hl
  | x :: cs, v :: vs, hl, h => by
    simp only [Vs]
    refine ⟨v, vs, rfl, ?_, Vs_of (by simpa using hl) fun i c hc => ?_⟩
    · obtain ⟨v', h1, h2⟩ := h 0 x (by simp)
      simp at h1; subst h1; exact h2
    · simpa using h (i + 1) c (by simpa using hc)
theorem Vs_append {loc : Bool} : ∀ {a b : List CV} {x y : List Value}, Vs K M P loc a x → Vs K M P loc b y → Vs K M P loc (a ++ b) (x ++ y)
  | [], b, x, y, ha, hb => by simp [Vs] at ha; subst ha; simpa using hb
  | c :: a, b, x, y, ha, hb => by
    simp only [Vs] at ha
    obtain ⟨v, r, rfl, hv, hr⟩ := ha
    simp only [List.cons_append, Vs]
    exact ⟨v, r ++ y, rfl, hv, Vs_append hr hb⟩
theorem Vk_get : ∀ {cs : List CV} {b o : Nat}, Vk K M P b o cs → ∀ {i : Nat} {c : CV}, cs[i]? = some c → ∃ v, K b (o + i) = some v ∧ V K M P false c v
  | [], b, o, h, i, c, hc => by simp at hc
  | x :: cs, b, o, h, i, c, hc => by
    simp only [Vk] at h
    cases i with
    | zero => simp at hc; subst hc; simpa using h.1
    | succ i =>
      simp at hc
      obtain ⟨v, h1, h2⟩ := Vk_get h.2 hc
      exact ⟨v, by rw [show o + (i + 1) = o + 1 + i from by omega]; exact h1, h2⟩
theorem Vk_of : ∀ {cs : List CV} {b o : Nat}, (∀ (i : Nat) (c : CV), cs[i]? = some c → ∃ v, K b (o + i) = some v ∧ V K M P false c v) → Vk K M P b o cs
  | [], b, o, _ => by simp [Vk]
  | x :: cs, b, o, h => by
    simp only [Vk]
    refine ⟨by simpa using h 0 x (by simp), Vk_of fun i c hc => ?_⟩
    obtain ⟨v, h1, h2⟩ := h (i + 1) c (by simpa using hc)
    exact ⟨v, by rw [show o + 1 + i = o + (i + 1) from by omega]; exact h1, h2⟩
theorem Vk_drop {cs : List CV} {b o : Nat} (h : Vk K M P b o cs) (n : Nat) : Vk K M P b (o + n) (cs.drop n) :=
  Vk_of fun i c hc => by
    rw [List.getElem?_drop] at hc
    obtain ⟨v, h1, h2⟩ := Vk_get h hc
    exact ⟨v, by rw [show o + n + i = o + (n + i) from by omega]; exact h1, h2⟩
theorem Vk_take {cs : List CV} {b o : Nat} (h : Vk K M P b o cs) (n : Nat) : Vk K M P b o (cs.take n) :=
  Vk_of fun i c hc => by
    rw [List.getElem?_take] at hc
    split at hc
    · exact Vk_get h hc
    · simp at hc

/-! keys, slots -/
theorem lget_lset (L : List (Nat × HO)) (i j : Nat) (h : HO) : lget (lset L i h) j = if i = j then some h else lget L j := by
  induction L with
  | nil => simp [lset, lget]
  | cons x r ih =>
    obtain ⟨a, y⟩ := x
    simp only [lset]
    by_cases ha : a = i
    · subst ha
      simp only [if_true, lget]
      by_cases hj : a = j
      · simp [hj]
      · simp [hj]
    · simp only [ha, if_false, lget, ih]
      by_cases hj : a = j
      · have : i ≠ j := by omega
        simp [hj, this]
      · simp [hj]
theorem sget_sset (l : List CV) (i j : Nat) (v : CV) : sget (sset l i v) j = if i = j then v else sget l j := by
  induction l generalizing i j with
  | nil =>
    induction i generalizing j with
    | zero => cases j <;> simp [sset, sget]
    | succ i ih =>
      cases j with
      | zero => simp [sset, sget]
      | succ j => simp [sset, sget, ih]
  | cons x l ih =>
    cases i with
    | zero => cases j <;> simp [sset, sget]
    | succ i => cases j with
      | zero => simp [sset, sget]
      | succ j => simp [sset, sget, ih]
theorem get_set (m : Mem) (k k' : Key) (h : HO) (x : HO) (hk : m.get k = some x) : (m.set k h).get k' = if k = k' then some h else m.get k' := by
  cases k with
  | l j =>
    cases k' with
    | l j' => simp [Mem.get, Mem.set, lget_lset]
    | g n => simp [Mem.get, Mem.set]
  | g n =>
    cases k' with
    | l j' => simp [Mem.get, Mem.set]
    | g n' =>
      simp only [Mem.get, Mem.set, List.getElem?_set] at hk ⊢
      have hlt : n < m.H.length := (List.getElem?_eq_some_iff.1 hk).1
      by_cases he : n = n'
      · subst he; simp [hlt]
      · simp [he]
end
end Go.Cm
