/-
  Regions that draw their order, told in the text's order: what an operation looks at.
-/
import Derived.Test.YtjmmeeokpncdbaaCwC
set_option linter.unusedSimpArgs false
set_option linter.unusedVariables false
namespace Go.Cm

section
variable {P : Program} {A : Ann} {F : Oracle} {fid : FuncId} {nt : Nat} {ρ ρ' : Operand → CV} {m m' : Mem}

theorem cval_congr {o : Oper} (h : ∀ x ∈ o.op.operands.toList, ρ x = ρ' x) : cval P A F fid ρ o m = cval P A F fid ρ' o m := by
  obtain ⟨dst, op, ty, pos, after, guard⟩ := o
  cases op <;> try (simp only [cval]; done)
  case move x => simp only [cval, h x (by simp [Op.operands])]
  case assign x => simp only [cval, h x (by simp [Op.operands])]
  case pick c a b => simp only [cval, h c (by simp [Op.operands]), h a (by simp [Op.operands]), h b (by simp [Op.operands])]
  case box t x => simp only [cval, h x (by simp [Op.operands])]
  case build t ps =>
    have : (ps.toList.map fun p => (p.1, ρ p.2)) = ps.toList.map fun p => (p.1, ρ' p.2) := by
      refine List.map_congr_left fun p hp => ?_
      rw [h p.2 (by simp only [Op.operands]; exact List.mem_map.2 ⟨p, hp, rfl⟩)]
    simp only [cval, this]
  case buildSlice t n ps =>
    have : (ps.toList.map fun p => (p.1, ρ p.2)) = ps.toList.map fun p => (p.1, ρ' p.2) := by
      refine List.map_congr_left fun p hp => ?_
      rw [h p.2 (by simp only [Op.operands]; exact List.mem_map.2 ⟨p, hp, rfl⟩)]
    simp only [cval, this]
  case load t x => simp only [cval, h x (by simp [Op.operands])]
  case store t a x => simp only [cval, h a (by simp [Op.operands]), h x (by simp [Op.operands])]
  case nilCheck x => simp only [cval, h x (by simp [Op.operands])]
  case binOp op t x y s => simp only [cval, h x (by simp [Op.operands]), h y (by simp [Op.operands])]
  case unOp op t x => simp only [cval, h x (by simp [Op.operands])]
  case convert s d x => simp only [cval, h x (by simp [Op.operands])]
  case makeInterface t x => simp only [cval, h x (by simp [Op.operands])]
  case makeFunc fn fi ca =>
    have h1 : fi.toList.map ρ = fi.toList.map ρ' := List.map_congr_left fun x hx => h x (by simp only [Op.operands, Array.toList_append]; exact List.mem_append_left _ hx)
    have h2 : ca.toList.map ρ = ca.toList.map ρ' := List.map_congr_left fun x hx => h x (by simp only [Op.operands, Array.toList_append]; exact List.mem_append_right _ hx)
    simp only [cval, h1, h2]
  case makeMap t r =>
    cases r with
    | none => simp only [cval]
    | some r => simp only [cval, h r (by simp [Op.operands])]
  case makeSlice t l c => simp only [cval, h l (by simp [Op.operands]), h c (by simp [Op.operands])]
  case slice t x lo hi mx =>
    have h1 : lo.map ρ = lo.map ρ' := by cases lo <;> simp; exact h _ (by simp [Op.operands])
    have h2 : hi.map ρ = hi.map ρ' := by cases hi <;> simp; exact h _ (by simp [Op.operands])
    have h3 : mx.map ρ = mx.map ρ' := by cases mx <;> simp; exact h _ (by simp [Op.operands])
    simp only [cval, h x (by simp [Op.operands]), h1, h2, h3]
  case fieldAddr s x f => simp only [cval, h x (by simp [Op.operands])]
  case field t x f => simp only [cval, h x (by simp [Op.operands])]
  case indexAddr t x i => simp only [cval, h x (by simp [Op.operands]), h i (by simp [Op.operands])]
  case index t x i => simp only [cval, h x (by simp [Op.operands]), h i (by simp [Op.operands])]
  case lookup t x i ok => simp only [cval, h x (by simp [Op.operands]), h i (by simp [Op.operands])]
  case mapUpdate t x k v => simp only [cval, h x (by simp [Op.operands]), h k (by simp [Op.operands]), h v (by simp [Op.operands])]
  case insert t x k v => simp only [cval, h x (by simp [Op.operands]), h k (by simp [Op.operands]), h v (by simp [Op.operands])]
  case typeAssert x t1 t2 ok => simp only [cval, h x (by simp [Op.operands])]
  case extract t i => simp only [cval, h t (by simp [Op.operands])]
  case call c =>
    obtain ⟨callee, args, argTypes⟩ := c
    have h1 : args.toList.map ρ = args.toList.map ρ' := List.map_congr_left fun x hx => h x (by simp only [Op.operands, Call.operands, Array.toList_append]; exact List.mem_append_right _ hx)
    cases callee with
    | value f => simp only [cval, h1, h f (by simp [Op.operands, Call.operands])]
    | invoke r n => simp only [cval, h1, h r (by simp [Op.operands, Call.operands])]
    | builtin b => cases b <;> simp only [cval, h1]

/-- an object, whatever was seen of it -/
def HO.flat : HO → HO
  | .var g cs _ => .var g cs 0
  | .arr g s cs _ => .arr g s cs 0
  | .map g es => .map g es
/-- memories that differ in nothing but what was seen -/
def SeenEq (m m' : Mem) : Prop := ∀ k, (m.get k).map HO.flat = (m'.get k).map HO.flat
theorem SeenEq.refl (m : Mem) : SeenEq m m := fun _ => rfl
theorem SeenEq.symm (h : SeenEq m m') : SeenEq m' m := fun k => (h k).symm
theorem SeenEq.trans {m'' : Mem} (h : SeenEq m m') (h' : SeenEq m' m'') : SeenEq m m'' := fun k => (h k).trans (h' k)

theorem cellsAt_seen (h : SeenEq m m') (p : CV) (n : Nat) : cellsAt m p n = cellsAt m' p n := by
  cases p <;> try rfl
  case ptr k gn off =>
    have := h k
    simp only [cellsAt]
    cases h1 : m.get k <;> cases h2 : m'.get k <;> rw [h1, h2] at this <;> simp only [Option.map_none, Option.map_some, reduceCtorEq] at this
    rename_i x y
    simp only [Option.some.injEq] at this
    cases x <;> cases y <;> simp only [HO.flat, reduceCtorEq, HO.var.injEq, HO.arr.injEq, HO.map.injEq] at this <;> simp_all [HO.gn, HO.isMap, HO.cells]
theorem cload_seen (h : SeenEq m m') (t : TypeId) (p : CV) : cload P m t p = cload P m' t p := by
  unfold cload
  split
  · rw [show (fun sz => (cellsAt m p sz).map CV.agg) = fun sz => (cellsAt m' p sz).map CV.agg from funext fun sz => by rw [cellsAt_seen h]]
  · rw [cellsAt_seen h]
  · rfl
theorem mapOf_seen (h : SeenEq m m') (p : CV) : mapOf m p = mapOf m' p := by
  cases p <;> try rfl
  case map k gn =>
    have := h k
    simp only [mapOf]
    cases h1 : m.get k <;> cases h2 : m'.get k <;> rw [h1, h2] at this <;> simp only [Option.map_none, Option.map_some, reduceCtorEq] at this
    rename_i x y
    simp only [Option.some.injEq] at this
    cases x <;> cases y <;> simp only [HO.flat, reduceCtorEq, HO.var.injEq, HO.arr.injEq, HO.map.injEq] at this <;> simp_all
theorem cslice_seen (h : SeenEq m m') (t : TypeId) (x : CV) (lo hi mx : Option CV) : cslice P t x lo hi mx m = cslice P t x lo hi mx m' := by
  have hk : ∀ (k : Key) (gn off len s l hh : Nat), (match m.get k with
      | some (.arr g s' _ _) => if g = gn ∧ s' = s then some (CV.ref k gn (off + l * s) (hh - l)) else none
      | _ => none) = (match m'.get k with
      | some (.arr g s' _ _) => if g = gn ∧ s' = s then some (CV.ref k gn (off + l * s) (hh - l)) else none
      | _ => none) := by
    intro k gn off len s l hh
    have := h k
    cases h1 : m.get k <;> cases h2 : m'.get k <;> rw [h1, h2] at this <;> simp only [Option.map_none, Option.map_some, reduceCtorEq] at this
    rename_i x y
    simp only [Option.some.injEq] at this
    cases x <;> cases y <;> simp only [HO.flat, reduceCtorEq, HO.var.injEq, HO.arr.injEq, HO.map.injEq] at this <;> simp_all
  have hk2 : ∀ (k : Key) (gn off n s l hh : Nat), (match m.get k with
      | some (.arr g s' cs _) => if g = gn ∧ s' = s ∧ off + n * s ≤ cs.length then some (CV.ref k gn (off + l * s) (hh - l)) else none
      | _ => none) = (match m'.get k with
      | some (.arr g s' cs _) => if g = gn ∧ s' = s ∧ off + n * s ≤ cs.length then some (CV.ref k gn (off + l * s) (hh - l)) else none
      | _ => none) := by
    intro k gn off n s l hh
    have := h k
    cases h1 : m.get k <;> cases h2 : m'.get k <;> rw [h1, h2] at this <;> simp only [Option.map_none, Option.map_some, reduceCtorEq] at this
    rename_i x y
    simp only [Option.some.injEq] at this
    cases x <;> cases y <;> simp only [HO.flat, reduceCtorEq, HO.var.injEq, HO.arr.injEq, HO.map.injEq] at this <;> simp_all
  unfold cslice
  split
  · rfl
  · split
    · split
      · split
        · split
          · rfl
          · rfl
          · exact hk _ _ _ 0 _ _ _
          · rfl
        · rfl
      · rfl
    · split
      · exact hk2 _ _ _ _ _ _ _
      · rfl
    · rfl

theorem cval_seen {o : Oper} (hq : quietOp o.op = true) (h : SeenEq m m') {c : CV} (hc : cval P A F fid ρ o m = some (c, m)) : cval P A F fid ρ o m' = some (c, m') := by
  obtain ⟨dst, op, ty, pos, after, guard⟩ := o
  have mp : ∀ {x : Option CV}, x.map (fun v => (v, m)) = some (c, m) → x.map (fun v => (v, m')) = some (c, m') := by
    intro x hx
    simp only [Option.map_eq_some_iff, Prod.mk.injEq, and_true] at hx ⊢
    exact hx
  cases op <;> simp only [quietOp, Bool.false_eq_true] at hq <;> simp only [cval] at hc ⊢
  case move x => simpa using hc
  case assign x => simpa using hc
  case pick a b d => split at hc <;> simp_all
  case build t ps =>
    split at hc
    · split at hc
      · rename_i h1; simp only [h1, if_true]; simp only [Option.map_eq_some_iff, Prod.mk.injEq, and_true] at hc ⊢; exact hc
      · cases hc
    · simp only [Option.bind_eq_some_iff, Option.map_eq_some_iff, Prod.mk.injEq, and_true] at hc ⊢
      exact hc
    · cases hc
  case load t a => rw [← cload_seen h]; exact mp hc
  case nilCheck x => split at hc <;> simp_all
  case binOp => exact mp hc
  case unOp => exact mp hc
  case convert => split at hc <;> simp_all
  case makeInterface t x => split at hc <;> simp_all
  case makeFunc => simpa using hc
  case slice => rw [← cslice_seen h]; exact mp hc
  case fieldAddr => exact mp hc
  case field => split at hc; exact mp hc; cases hc
  case indexAddr => exact mp hc
  case index t x i =>
    split at hc
    · split at hc
      · split at hc
        · rename_i h1
          simp only [h1, if_true]
          simp only [Option.bind_eq_some_iff] at hc ⊢
          obtain ⟨s, h1, h2⟩ := hc
          exact ⟨s, h1, mp h2⟩
        · cases hc
      · cases hc
    · split at hc
      · simp only [Option.map_eq_some_iff, Prod.mk.injEq, and_true] at hc ⊢
        exact hc
      · cases hc
    · cases hc
  case lookup t x i ok =>
    rw [← mapOf_seen h]
    split at hc
    · split at hc
      · rename_i h1
        simp only [h1, if_true]
        split at hc <;> simp_all
      · cases hc
    · cases hc
  case typeAssert x t1 t2 ok =>
    split at hc
    · cases hc
    · split at hc
      · split at hc
        · rename_i h1; simp only [h1, if_true]; simp only [Option.map_eq_some_iff, Prod.mk.injEq, and_true] at hc ⊢; exact hc
        · cases hc
      · split at hc
        · simpa using hc
        · split at hc
          · rename_i h1; simp only [h1, if_true]; simp only [Option.map_eq_some_iff, Prod.mk.injEq, and_true] at hc ⊢; exact hc
          · cases hc
        · cases hc
      · cases hc
  case extract t i => split at hc; exact mp hc; cases hc
  case call c0 =>
    obtain ⟨callee, args, argTypes⟩ := c0
    cases callee <;> simp only [Bool.false_eq_true] at hq
    rename_i b
    cases b <;> simp only [quietB, Bool.false_eq_true] at hq <;> simp only at hc ⊢
    case len =>
      split at hc
      · split at hc
        · simp only [Option.map_eq_some_iff, Prod.mk.injEq, and_true] at hc ⊢; exact hc
        · rw [← mapOf_seen h]; simp only [Option.map_eq_some_iff, Prod.mk.injEq, and_true] at hc ⊢; exact hc
        · split at hc <;> simp_all
        · simpa using hc
        · cases hc
      · cases hc
    case max => exact mp hc
    case min => exact mp hc
/-- an operation that looks at no memory -/
def memFree : Op → Bool
  | .move _ => true
  | .assign _ => true
  | .pick _ _ _ => true
  | .build _ _ => true
  | .nilCheck _ => true
  | .binOp _ _ _ _ _ => true
  | .unOp _ _ _ => true
  | .convert _ _ _ => true
  | .makeInterface _ _ => true
  | .makeFunc _ _ _ => true
  | .fieldAddr _ _ _ => true
  | .field _ _ _ => true
  | .indexAddr _ _ _ => true
  | .index _ _ _ => true
  | .typeAssert _ _ _ _ => true
  | .extract _ _ => true
  | _ => false
theorem cval_memFree {o : Oper} (hq : memFree o.op = true) {c : CV} (hc : cval P A F fid ρ o m = some (c, m)) (m' : Mem) : cval P A F fid ρ o m' = some (c, m') := by
  obtain ⟨dst, op, ty, pos, after, guard⟩ := o
  have mp : ∀ {x : Option CV}, x.map (fun v => (v, m)) = some (c, m) → x.map (fun v => (v, m')) = some (c, m') := by
    intro x hx
    simp only [Option.map_eq_some_iff, Prod.mk.injEq, and_true] at hx ⊢
    exact hx
  cases op <;> simp only [memFree, Bool.false_eq_true] at hq <;> simp only [cval] at hc ⊢
  case move x => simpa using hc
  case assign x => simpa using hc
  case pick a b d => split at hc <;> simp_all
  case build t ps =>
    split at hc
    · split at hc
      · rename_i h1; simp only [h1, if_true]; simp only [Option.map_eq_some_iff, Prod.mk.injEq, and_true] at hc ⊢; exact hc
      · cases hc
    · simp only [Option.bind_eq_some_iff, Option.map_eq_some_iff, Prod.mk.injEq, and_true] at hc ⊢
      exact hc
    · cases hc
  case nilCheck x => split at hc <;> simp_all
  case binOp => exact mp hc
  case unOp => exact mp hc
  case convert => split at hc <;> simp_all
  case makeInterface t x => split at hc <;> simp_all
  case makeFunc => simpa using hc
  case fieldAddr => exact mp hc
  case field => split at hc; exact mp hc; cases hc
  case indexAddr => exact mp hc
  case index t x i =>
    split at hc
    · split at hc
      · split at hc
        · rename_i h1
          simp only [h1, if_true]
          simp only [Option.bind_eq_some_iff] at hc ⊢
          obtain ⟨s, h1, h2⟩ := hc
          exact ⟨s, h1, mp h2⟩
        · cases hc
      · cases hc
    · split at hc
      · simp only [Option.map_eq_some_iff, Prod.mk.injEq, and_true] at hc ⊢
        exact hc
      · cases hc
    · cases hc
  case typeAssert x t1 t2 ok =>
    split at hc
    · cases hc
    · split at hc
      · split at hc
        · rename_i h1; simp only [h1, if_true]; simp only [Option.map_eq_some_iff, Prod.mk.injEq, and_true] at hc ⊢; exact hc
        · cases hc
      · split at hc
        · simpa using hc
        · split at hc
          · rename_i h1; simp only [h1, if_true]; simp only [Option.map_eq_some_iff, Prod.mk.injEq, and_true] at hc ⊢; exact hc
          · cases hc
        · cases hc
      · cases hc
  case extract t i => split at hc; exact mp hc; cases hc

theorem quiet_mem {o : Oper} (hq : quietOp o.op = true) {c : CV} (hc : cval P A F fid ρ o m = some (c, m')) : m' = m := by
  obtain ⟨dst, op, ty, pos, after, guard⟩ := o
  have mp : ∀ {x : Option CV}, x.map (fun v => (v, m)) = some (c, m') → m' = m := by
    intro x hx
    simp only [Option.map_eq_some_iff, Prod.mk.injEq] at hx
    obtain ⟨_, _, _, h⟩ := hx
    exact h.symm
  cases op <;> simp only [quietOp, Bool.false_eq_true] at hq <;> simp only [cval] at hc
  case move x => simp only [Option.some.injEq, Prod.mk.injEq] at hc; exact hc.2.symm
  case assign x => simp only [Option.some.injEq, Prod.mk.injEq] at hc; exact hc.2.symm
  case pick a b d => split at hc <;> simp only [Option.some.injEq, Prod.mk.injEq, reduceCtorEq] at hc <;> exact hc.2.symm
  case build t ps =>
    split at hc
    · split at hc
      · simp only [Option.map_eq_some_iff, Prod.mk.injEq] at hc; obtain ⟨_, _, _, h⟩ := hc; exact h.symm
      · cases hc
    · simp only [Option.bind_eq_some_iff, Option.map_eq_some_iff, Prod.mk.injEq] at hc
      obtain ⟨_, _, _, _, _, h⟩ := hc; exact h.symm
    · cases hc
  case load t a => exact mp hc
  case nilCheck x => split at hc <;> simp only [Option.some.injEq, Prod.mk.injEq, reduceCtorEq] at hc <;> exact hc.2.symm
  case binOp => exact mp hc
  case unOp => exact mp hc
  case convert => split at hc <;> simp only [Option.some.injEq, Prod.mk.injEq, reduceCtorEq] at hc; exact hc.2.symm
  case makeInterface t x => split at hc <;> simp only [Option.some.injEq, Prod.mk.injEq, reduceCtorEq] at hc; exact hc.2.symm
  case makeFunc => simp only [Option.some.injEq, Prod.mk.injEq] at hc; exact hc.2.symm
  case slice => exact mp hc
  case fieldAddr => exact mp hc
  case field => split at hc; exact mp hc; cases hc
  case indexAddr => exact mp hc
  case index t x i =>
    split at hc
    · split at hc
      · split at hc
        · simp only [Option.bind_eq_some_iff] at hc
          obtain ⟨s, h1, h2⟩ := hc
          exact mp h2
        · cases hc
      · cases hc
    · split at hc
      · simp only [Option.map_eq_some_iff, Prod.mk.injEq] at hc; obtain ⟨_, _, _, h⟩ := hc; exact h.symm
      · cases hc
    · cases hc
  case lookup t x i ok =>
    split at hc
    · split at hc
      · split at hc <;> simp only [Option.some.injEq, Prod.mk.injEq, reduceCtorEq] at hc <;> exact hc.2.symm
      · cases hc
    · cases hc
  case typeAssert x t1 t2 ok =>
    split at hc
    · cases hc
    · split at hc
      · split at hc
        · simp only [Option.map_eq_some_iff, Prod.mk.injEq] at hc; obtain ⟨_, _, _, h⟩ := hc; exact h.symm
        · cases hc
      · split at hc
        · simp only [Option.some.injEq, Prod.mk.injEq] at hc; exact hc.2.symm
        · split at hc
          · simp only [Option.map_eq_some_iff, Prod.mk.injEq] at hc; obtain ⟨_, _, _, h⟩ := hc; exact h.symm
          · cases hc
        · cases hc
      · cases hc
  case extract t i => split at hc; exact mp hc; cases hc
  case call c0 =>
    obtain ⟨callee, args, argTypes⟩ := c0
    cases callee <;> simp only [Bool.false_eq_true] at hq
    rename_i b
    cases b <;> simp only [quietB, Bool.false_eq_true] at hq <;> simp only at hc
    case len =>
      split at hc
      · split at hc
        · simp only [Option.map_eq_some_iff, Prod.mk.injEq] at hc; obtain ⟨_, _, _, h⟩ := hc; exact h.symm
        · simp only [Option.map_eq_some_iff, Prod.mk.injEq] at hc; obtain ⟨_, _, _, h⟩ := hc; exact h.symm
        · split at hc <;> simp only [Option.some.injEq, Prod.mk.injEq, reduceCtorEq] at hc; exact hc.2.symm
        · simp only [Option.some.injEq, Prod.mk.injEq] at hc; exact hc.2.symm
        · cases hc
      · cases hc
    case max => exact mp hc
    case min => exact mp hc

/-! values that leave: nothing but looks -/
theorem set_seen {j : Nat} {h : HO} (hj : lget m.L j = some h) (n : Nat) : SeenEq m (m.set (.l j) (h.seen n)) := by
  intro k
  cases k with
  | g i => rfl
  | l i =>
    simp only [Mem.get, Mem.set, lget_lset]
    by_cases hi : j = i
    · subst hi
      rw [hj]
      cases h <;> simp [HO.seen, HO.flat]
    · simp [hi]
theorem mapMem_seen {f : CV → Mem → Option (CV × Mem)} (hf : ∀ v m c m', f v m = some (c, m') → SeenEq m m') : ∀ (l cs : List CV) (m m' : Mem), mapMem f l m = some (cs, m') → SeenEq m m'
  | [], cs, m, m', h => by
    simp only [mapMem, Option.some.injEq, Prod.mk.injEq] at h
    obtain ⟨_, rfl⟩ := h
    exact SeenEq.refl _
  | v :: l, cs, m, m', h => by
    simp only [mapMem, Option.bind_eq_some_iff, Option.map_eq_some_iff, Prod.mk.injEq] at h
    obtain ⟨⟨c1, m1⟩, h1, ⟨c2, m2⟩, h2, _, rfl⟩ := h
    exact (hf _ _ _ _ h1).trans (mapMem_seen hf l c2 m1 m2 h2)
theorem esc_seen : ∀ (n : Nat) (v : CV) (m : Mem) (c : CV) (m' : Mem), esc n v m = some (c, m') → SeenEq m m' := by
  intro n
  induction n with
  | zero => intro v m c m' h; simp [esc] at h
  | succ n ih =>
    intro v m c m' h
    have same : ∀ {x : CV}, some (x, m) = some (c, m') → SeenEq m m' := by
      intro x he
      simp only [Option.some.injEq, Prod.mk.injEq] at he
      rw [← he.2]; exact SeenEq.refl _
    cases v <;> simp only [esc, reduceCtorEq] at h
    case bool => exact same h
    case int => exact same h
    case str => exact same h
    case nil => exact same h
    case imm => exact same h
    case pnil => exact same h
    case rptr => exact same h
    case mnil => exact same h
    case nilf => exact same h
    case inil => exact same h
    case agg cs =>
      simp only [Option.map_eq_some_iff, Prod.mk.injEq] at h
      obtain ⟨⟨a, b⟩, h1, _, rfl⟩ := h
      exact mapMem_seen ih _ _ _ _ h1
    case tuple cs =>
      simp only [Option.map_eq_some_iff, Prod.mk.injEq] at h
      obtain ⟨⟨a, b⟩, h1, _, rfl⟩ := h
      exact mapMem_seen ih _ _ _ _ h1
    case iface t x =>
      simp only [Option.map_eq_some_iff, Prod.mk.injEq] at h
      obtain ⟨⟨a, b⟩, h1, _, rfl⟩ := h
      exact ih _ _ _ _ h1
    case func f a b =>
      simp only [Option.bind_eq_some_iff, Option.map_eq_some_iff, Prod.mk.injEq] at h
      obtain ⟨⟨a1, m1⟩, h1, ⟨b1, m2⟩, h2, _, rfl⟩ := h
      exact (mapMem_seen ih _ _ _ _ h1).trans (mapMem_seen ih _ _ _ _ h2)
    case ref k gn off len =>
      cases k with
      | g i => exact same (by simpa [esc] using h)
      | l j =>
        simp only [esc] at h
        split at h
        · rename_i g sz cs vl hj
          split at h
          · simp only [Option.some.injEq, Prod.mk.injEq] at h
            obtain ⟨_, rfl⟩ := h
            exact set_seen hj _
          · cases h
        · cases h
    case ptr k gn off =>
      cases k with
      | g i => exact same (by simpa [esc] using h)
      | l j =>
        simp only [esc] at h
        split at h
        · rename_i h0 hj
          split at h
          · simp only [Option.bind_eq_some_iff] at h
            obtain ⟨⟨xs, m1⟩, h1, h⟩ := h
            simp only at h
            split at h
            · rename_i h' hj'
              simp only [Option.some.injEq, Prod.mk.injEq] at h
              obtain ⟨_, rfl⟩ := h
              exact (mapMem_seen ih _ _ _ _ h1).trans (set_seen hj' _)
            · cases h
          · cases h
        · cases h
    case map k gn =>
      cases k with
      | g i => exact same (by simpa [esc] using h)
      | l j => simp [esc] at h
theorem escList_seen {cs cs' : List CV} (h : escList m cs = some (cs', m')) : SeenEq m m' := mapMem_seen (esc_seen deep) _ _ _ _ h

mutual
theorem beq_refl : ∀ (a : CV), CV.beq a a = true
  | .dead => rfl
  | .bool b => by simp [CV.beq]
  | .int k n => by simp [CV.beq]
  | .str s => by simp [CV.beq]
  | .agg cs => by simp only [CV.beq]; exact beqs_refl cs
  | .nil => rfl
  | .imm n cs => by simp only [CV.beq, beqs_refl cs]; simp
  | .own n s cs v => by simp only [CV.beq, beqs_refl cs]; simp
  | .ref k g o l => by simp [CV.beq]
  | .pnil => rfl
  | .ptr k g o => by simp [CV.beq]
  | .rptr cs => by simp only [CV.beq]; exact beqs_refl cs
  | .mnil => rfl
  | .map k g => by simp [CV.beq]
  | .func f a b => by simp only [CV.beq, beqs_refl a, beqs_refl b]; simp
  | .nilf => rfl
  | .inil => rfl
  | .iface t v => by simp only [CV.beq, beq_refl v]; simp
  | .tuple cs => by simp only [CV.beq]; exact beqs_refl cs
theorem beqs_refl : ∀ (a : List CV), beqs a a = true
  | [] => rfl
  | x :: xs => by simp only [beqs, beq_refl x, beqs_refl xs]; rfl
end
end
end Go.Cm
