/-
  The C machine, twenty-third part: regions that draw their order.
-/
import Derived.Test.YtjmmeeokpncdbaaCvV
set_option linter.unusedSimpArgs false
set_option linter.unusedVariables false
namespace Go.Cm

section
variable {P : Program} {A : Ann} {F : Oracle} {fid : FuncId} {nt : Nat}

theorem drow_cases {ops : List Oper} {al : List Al} {i : Nat} {o : Oper} {sl : List CV} {m : Mem} {x : Row} (h : drow P A F fid nt ops al i o sl m = some x) :
    dok nt x.o.dst = true ∧
    ((guardC ops x.sl x.o = some false ∧ x.v = .tuple [] ∧ x.m' = x.m) ∨
     (guardC ops x.sl x.o = some true ∧ plainAlloc P x.o = true ∧ x.m' = x.m ∧ ∃ b, aget al x.i = some b ∧ x.v = .ptr b.key b.gn 0) ∨
     (guardC ops x.sl x.o = some true ∧ plainAlloc P x.o = false ∧ quietOp x.o.op = true ∧ x.go = true ∧ x.m' = x.m) ∨
     (guardC ops x.sl x.o = some true ∧ plainAlloc P x.o = false ∧ quietOp x.o.op = false ∧ cval P A F fid (evL (looks ops x.o) x.sl) x.o x.m = some (x.v, x.m'))) := by
  unfold drow at h
  split at h
  · simp at h
  · rename_i hd
    split at h
    · rename_i hg
      split at h
      · rename_i hp
        simp only [Option.map_eq_some_iff] at h
        obtain ⟨b, hb, rfl⟩ := h
        exact ⟨by simpa using hd, .inr (.inl ⟨hg, hp, rfl, b, hb, rfl⟩)⟩
      · rename_i hp
        simp only [Option.map_eq_some_iff] at h
        obtain ⟨⟨c, m1⟩, hc, rfl⟩ := h
        refine ⟨by simpa using hd, .inr (.inr ?_)⟩
        by_cases hq : quietOp o.op = true
        · exact .inl ⟨hg, by simpa using hp, hq, rfl, by simp [hq]⟩
        · refine .inr ⟨hg, by simpa using hp, by simpa using hq, ?_⟩
          simp only [hq]
          exact hc
    · rename_i hg
      simp only [Option.some.injEq] at h; subst h
      exact ⟨by simpa using hd, .inl ⟨hg, rfl, rfl⟩⟩
    · simp at h

/-- what the checks of a drawn region give -/
structure Drawn (P : Program) (A : Ann) (F : Oracle) (fid : FuncId) (nt : Nat) (ops : Array Oper) (sl0 : List CV) (mA : Mem) (al : List Al) (rows : List Row) (es : List Row) (last : Mem) : Prop where
  reg : RegOK P ops.toList (amasks ops.toList [])
  len : rows.length = ops.size
  row : ∀ (k : Nat) (x : Row), rows[k]? = some x → ops[k]? = some x.o ∧ x.i = k ∧ x.sl = slF (rows.take k) sl0 ∧ drow P A F fid nt ops.toList al k x.o x.sl x.m = some x
  ese : es = rows.filter fun x => effOp P x.o
  first : memo es last 0 = mA
  next : ∀ (k : Nat) (e : Row), es[k]? = some e → memo es last (k + 1) = e.m'
  keys : keysOK al = true
  fresh0 : ∀ b ∈ al, freshAt b mA = true
  fresh : ∀ b ∈ al, ∀ e ∈ es, ((amasks ops.toList []).getD e.i 0).testBit b.i = true ∨ freshAt b e.m' = true
  steady : ∀ x ∈ rows, x.go = true → quietOp x.o.op = true → Cm.steady P A F fid ops.toList (amasks ops.toList []) x last es = true

section
variable {ops : Array Oper} {sl0 : List CV} {mA : Mem} {al : List Al} {rows es : List Row} {last : Mem}

theorem Drawn.es_row (h : Drawn P A F fid nt ops sl0 mA al rows es last) {e : Row} (he : e ∈ es) : rows[e.i]? = some e ∧ effOp P e.o = true := by
  rw [h.ese, List.mem_filter] at he
  obtain ⟨k, hk⟩ := List.getElem?_of_mem he.1
  have := (h.row k e hk).2.1
  subst this
  exact ⟨hk, he.2⟩
theorem Drawn.sorted (h : Drawn P A F fid nt ops sl0 mA al rows es last) {j k : Nat} {x y : Row} (hj : es[j]? = some x) (hk : es[k]? = some y) (hlt : j < k) : x.i < y.i := by
  have hp : rows.Pairwise fun x y => x.i < y.i := by
    rw [List.pairwise_iff_getElem]
    intro i j hi hj hij
    have h1 := (h.row i rows[i] (List.getElem?_eq_getElem hi)).2.1
    have h2 := (h.row j rows[j] (List.getElem?_eq_getElem hj)).2.1
    omega
  have hp' : es.Pairwise fun x y => x.i < y.i := by rw [h.ese]; exact hp.filter _
  rw [List.pairwise_iff_getElem] at hp'
  obtain ⟨h1, rfl⟩ := List.getElem?_eq_some_iff.1 hj
  obtain ⟨h2, rfl⟩ := List.getElem?_eq_some_iff.1 hk
  exact hp' j k h1 h2 hlt

/-- where a drawn region stands: these operations are done, so many of them have done something -/
structure Inv (nt : Nat) (K0 : KM) (m0 : Mem) (Q0 : PM) (w0 : World) (ops : Array Oper) (sl0 : List CV) (al : List Al) (rows es : List Row) (last : Mem) (listed : Array Bool) (k : Nat) (a : Act) (w : World) : Prop where
  size : listed.size = ops.size
  closed : ∀ j i, listed.getD j false = true → ((amasks ops.toList []).getD j 0).testBit i = true → listed.getD i false = true
  pre : ∀ (j : Nat) (e : Row), es[j]? = some e → (listed.getD e.i false = true ↔ j < k)
  kle : k ≤ es.length
  mem : ∃ K Q, Trans K0 m0 Q0 w0 K (memo es last k) Q w ∧
    (∀ t, (∀ (j : Nat) (x : Row), rows[j]? = some x → listed.getD j false = true → x.o.dst = some t → Vt K (memo es last k) Q x.v (a.tmps.getD t undef)) ∧
      ((∀ (j : Nat) (x : Row), rows[j]? = some x → listed.getD j false = true → x.o.dst ≠ some t) → Vt K (memo es last k) Q (sget sl0 t) (a.tmps.getD t undef))) ∧
    (∀ b ∈ al, listed.getD b.i false = false → Q b.key = none ∧ freshAt b (memo es last k) = true)
  tsz : a.tmps.size = nt
  defs : a.defers = []

theorem getD_set {listed : Array Bool} {i j : Nat} (hi : i < listed.size) : (listed.setIfInBounds i true).getD j false = if i = j then true else listed.getD j false := by
  by_cases h : i = j
  · subst h; simp [hi]
  · rw [getD_set_ne false h, if_neg h]

theorem put_get {a : Act} {d : Option Tmp} {v : Value} {t : Tmp} (hne : d ≠ some t) : (a.put d v).tmps.getD t undef = a.tmps.getD t undef := by
  cases d with
  | none => rfl
  | some d =>
    have : d ≠ t := fun h => hne (by rw [h])
    simp [Act.put, Array.getD_eq_getD_getElem?, this]
theorem put_get_self {a : Act} {t : Tmp} {v : Value} (h : t < a.tmps.size) : (a.put (some t) v).tmps.getD t undef = v := by
  simp [Act.put, h]

variable {K0 : KM} {m0 : Mem} {Q0 : PM} {w0 : World} {Qx : Exit → Act → World → Prop}

/-- one operation is done: what is left to show -/
theorem Inv.step (hD : Drawn P A F fid nt ops sl0 mA al rows es last) {listed : Array Bool} {k : Nat} {a : Act} {w : World} (hI : Inv nt K0 m0 Q0 w0 ops sl0 al rows es last listed k a w)
    {i : Nat} (hi : i ∈ Region.ready .any ops listed) {x : Row} (hx : rows[i]? = some x) :
    ∃ K Q, Trans K0 m0 Q0 w0 K (memo es last k) Q w ∧ (∀ b ∈ al, listed.getD b.i false = false → Q b.key = none ∧ freshAt b (memo es last k) = true) ∧
      (∀ t, t ∈ looks ops.toList x.o → Vt K (memo es last k) Q (sget x.sl t) (a.tmps.getD t undef)) ∧
      (effOp P x.o = true → es[k]? = some x) ∧ listed.getD i false = false ∧ (∀ j, ((amasks ops.toList []).getD i 0).testBit j = true → listed.getD j false = true) ∧
      ∀ (k' : Nat), (k' = if effOp P x.o then k + 1 else k) → ∀ (w' : World) (r : Value) (K' : KM) (Q' : PM), Trans K0 m0 Q0 w0 K' (memo es last k') Q' w' →
        (∀ c v, Vt K (memo es last k) Q c v → Vt K' (memo es last k') Q' c v) → Vt K' (memo es last k') Q' x.v r →
        (∀ b ∈ al, listed.getD b.i false = false → b.i ≠ i → Q' b.key = none ∧ freshAt b (memo es last k') = true) →
        Inv nt K0 m0 Q0 w0 ops sl0 al rows es last (listed.setIfInBounds i true) k' (a.put x.o.dst r) w' := by
  obtain ⟨ho, hxi, hsl, hdr⟩ := hD.row i x hx
  obtain ⟨hl0, o', ho', hedges⟩ := mem_ready.1 hi
  rw [ho] at ho'
  simp only [Option.some.injEq] at ho'
  subst ho'
  have hlt : i < ops.size := (Array.getElem?_eq_some_iff.1 ho).1
  have hlt' : i < listed.size := by rw [hI.size]; exact hlt
  have hnot : listed.getD i false = false := by
    simp only [Array.getD_eq_getD_getElem?, Array.getElem?_eq_getElem hlt', Option.getD_some] at hl0 ⊢
    exact hl0
  have hol : ∀ {j : Nat} {y : Row}, rows[j]? = some y → ops.toList[j]? = some y.o := fun hy => by rw [Array.getElem?_toList]; exact (hD.row _ _ hy).1
  have hmask : ∀ j, ((amasks ops.toList []).getD i 0).testBit j = true → listed.getD j false = true := by
    intro j hj
    obtain ⟨e, he, hb, h⟩ := mask_spec (hol hx) hj (hD.reg.back i x.o (hol hx))
    have hon := hedges e (Array.mem_toList_iff.1 he) hb
    rcases h with rfl | h
    · exact hon
    · exact hI.closed _ _ hon h
  have hdk := (drow_cases hdr).1
  obtain ⟨K, Q, hT, hslots, hal⟩ := hI.mem
  have hlook : ∀ t, t ∈ looks ops.toList x.o → Vt K (memo es last k) Q (sget x.sl t) (a.tmps.getD t undef) := by
    intro t ht
    have hdis : ∀ (p q : Nat) (y z : Row), (rows.take i)[p]? = some y → (rows.take i)[q]? = some z → y.o.dst = some t → z.o.dst = some t → p = q := by
      intro p q y z hy hz h1 h2
      rw [List.getElem?_take] at hy hz
      split at hy <;> split at hz <;> first
        | (exact hD.reg.dst p q _ _ t (hol hy) (hol hz) h1 h2)
        | simp at hy
        | simp at hz
    have hg := slF_get (rows.take i) sl0 t hdis
    rw [hsl]
    by_cases hex : ∃ (j : Nat) (y : Row), (rows.take i)[j]? = some y ∧ y.o.dst = some t
    · obtain ⟨j, y, hy, hyd⟩ := hex
      rw [hg.1 j y hy hyd]
      rw [List.getElem?_take] at hy
      split at hy
      · rename_i hji
        exact (hslots t).1 j y hy (hmask j (hD.reg.reads j i y.o x.o t hji (hol hy) (hol hx) hyd ht)) hyd
      · simp at hy
    · rw [hg.2 fun j y hy hyd => hex ⟨j, y, hy, hyd⟩]
      refine (hslots t).2 fun j y hy hlj hyd => ?_
      rcases Nat.lt_trichotomy j i with hji | hji | hji
      · exact hex ⟨j, y, by rw [List.getElem?_take, if_pos hji]; exact hy, hyd⟩
      · subst hji; rw [hnot] at hlj; cases hlj
      · have := hI.closed j i hlj (hD.reg.writes i j x.o y.o t hji (hol hx) (hol hy) hyd ht)
        rw [hnot] at this; cases this
  have hwhere : effOp P x.o = true → es[k]? = some x := by
    intro heff
    have hxes : x ∈ es := by rw [hD.ese, List.mem_filter]; exact ⟨List.mem_of_getElem? hx, heff⟩
    obtain ⟨j0, hj0⟩ := List.getElem?_of_mem hxes
    have hk0 : j0 = k := by
      have h1 : ¬ j0 < k := fun h => by
        have := (hI.pre j0 x hj0).2 h
        rw [hxi, hnot] at this; cases this
      rcases Nat.eq_zero_or_pos j0 with h0 | h0
      · have := hI.kle
        rcases Nat.eq_zero_or_pos k with hk0 | hk0
        · omega
        · omega
      · have hlen : j0 < es.length := (List.getElem?_eq_some_iff.1 hj0).1
        have he' : es[j0 - 1]? = some es[j0 - 1] := List.getElem?_eq_getElem (by omega)
        have hso := hD.sorted he' hj0 (by omega)
        obtain ⟨hr, hf⟩ := hD.es_row (List.mem_of_getElem? he')
        rw [hxi] at hso
        have := (hI.pre _ _ he').1 (hmask _ (hD.reg.effs _ i _ x.o hso (hol hr) (hol hx) hf heff))
        omega
    subst hk0; exact hj0
  refine ⟨K, Q, hT, hal, hlook, hwhere, hnot, hmask, fun k' hk' w' r K' Q' hT' hlift hv hal' => ?_⟩
  refine ⟨by simp [hI.size], fun j i' hj hb => ?_, fun j e he => ?_, ?_, ⟨K', Q', hT', fun t => ⟨fun j y hy hlj hyd => ?_, fun hne => ?_⟩, fun b hb hlb => ?_⟩, by rw [put_size]; exact hI.tsz, by rw [put_defers]; exact hI.defs⟩
  · rw [getD_set hlt'] at hj ⊢
    split
    · rfl
    · split at hj
      · rename_i he; subst he; exact hmask i' hb
      · exact hI.closed j i' hj hb
  · obtain ⟨her, hee⟩ := hD.es_row (List.mem_of_getElem? he)
    rw [getD_set hlt']
    have hp := hI.pre j e he
    by_cases heff : effOp P x.o = true
    · rw [if_pos heff] at hk'
      have hj0 := hwhere heff
      generalize hk0 : k = j0 at *
      by_cases hei : i = e.i
      · rw [if_pos hei]
        have : j = j0 := by
          rcases Nat.lt_trichotomy j j0 with h | h | h
          · have := hD.sorted he hj0 h; omega
          · exact h
          · have := hD.sorted hj0 he h; omega
        simp [this, hk']
      · rw [if_neg hei, hp]
        have : j ≠ j0 := fun h => by subst h; rw [he] at hj0; simp only [Option.some.injEq] at hj0; subst hj0; omega
        omega
    · rw [if_neg heff] at hk'
      have hei : i ≠ e.i := fun h => by
        rw [← h, hx] at her; simp only [Option.some.injEq] at her; subst her; exact heff hee
      rw [if_neg hei, hp, hk']
  · by_cases heff : effOp P x.o = true
    · rw [if_pos heff] at hk'
      have hj0 := hwhere heff
      have := (List.getElem?_eq_some_iff.1 hj0).1
      omega
    · rw [if_neg heff] at hk'
      have := hI.kle
      omega
  · rw [getD_set hlt'] at hlj
    by_cases hij : i = j
    · subst hij
      rw [hx] at hy; simp only [Option.some.injEq] at hy; subst hy
      rw [hyd] at hdk ⊢
      simp only [dok, decide_eq_true_eq] at hdk
      rw [put_get_self (by rw [hI.tsz]; exact hdk)]
      exact hv
    · rw [if_neg hij] at hlj
      rw [put_get fun h => hij (hD.reg.dst i j x.o y.o t (hol hx) (hol hy) h hyd)]
      exact hlift _ _ ((hslots t).1 j y hy hlj hyd)
  · rw [put_get (hne i x hx (by rw [getD_set hlt']; simp))]
    exact hlift _ _ ((hslots t).2 fun j y hy hlj => hne j y hy (by rw [getD_set hlt']; split; rfl; exact hlj))
  · rw [getD_set hlt'] at hlb
    split at hlb
    · cases hlb
    · rename_i hne
      exact hal' b hb hlb (Ne.symm hne)
end
end
end Go.Cm
