/-
  Rules for values whose kind is known.
-/
import Derived.Test.YthjkmonenenlmaaCxD
set_option linter.unusedSimpArgs false
set_option linter.unusedVariables false
namespace Go.Cm

/-! memory -/
def setL (m : Mem) (j : Nat) (o : HO) : Mem := ⟨lset m.L j o, m.H⟩
theorem lset_lset (l : List (Nat × HO)) (i : Nat) (a b : HO) : lset (lset l i a) i b = lset l i b := by
  induction l with
  | nil => simp only [lset, if_true]
  | cons x r ih =>
    obtain ⟨k, h⟩ := x
    simp only [lset]
    split
    · simp only [lset, if_true]
    · rename_i hk
      simp only [lset, hk, if_false, ih]
theorem lget_setL {m : Mem} {i j : Nat} {o : HO} : lget (setL m i o).L j = if i = j then some o else lget m.L j := lget_lset _ _ _ _
theorem setL_H {m : Mem} {i : Nat} {o : HO} : (setL m i o).H = m.H := rfl
theorem setL_setL {m : Mem} {i : Nat} {a b : HO} : setL (setL m i a) i b = setL m i b := by simp only [setL, lset_lset]
theorem gnext_setL {m : Mem} {i j : Nat} {o : HO} : gnext (setL m i o).L j = if i = j then o.gn + 1 else gnext m.L j := by
  simp only [gnext, lget_setL]
  split <;> rfl
theorem gnext_lset {l : List (Nat × HO)} {i j : Nat} {o : HO} : gnext (lset l i o) j = if i = j then o.gn + 1 else gnext l j := by
  simp only [gnext, lget_lset]
  split <;> rfl
theorem newL_eq {m : Mem} {j : Nat} {cs : List CV} : newL m j cs = setL m j (.var (gnext m.L j) cs 0) := rfl
theorem newA_eq {m : Mem} {j sz : Nat} {cs : List CV} : newA m j sz cs = setL m j (.arr (gnext m.L j) sz cs 0) := rfl
theorem newM_eq {m : Mem} {j : Nat} : newM m j = setL m j (.map (gnext m.L j) []) := rfl
theorem newP_eq {m : Mem} {j : Nat} : newP m j = .ptr (.l j) (gnext m.L j) 0 := rfl
theorem newR_eq {m : Mem} {j n : Nat} : newR m j n = .ref (.l j) (gnext m.L j) 0 n := rfl
theorem newK_eq {m : Mem} {j : Nat} : newK m j = .map (.l j) (gnext m.L j) := rfl
theorem nmA_f {m : Mem} {j sz : Nat} {cs : List CV} : nmA false m j sz cs = setL m j (.arr (gnext m.L j) sz cs 0) := rfl
theorem nmR_f {m : Mem} {j n : Nat} : nmR false m j n = .ref (.l j) (gnext m.L j) 0 n := rfl
theorem gn_var {g vl : Nat} {cs : List CV} : (HO.var g cs vl).gn = g := rfl
theorem gn_arr {g s vl : Nat} {cs : List CV} : (HO.arr g s cs vl).gn = g := rfl
theorem gn_map {g : Nat} {es : List (CV × CV)} : (HO.map g es).gn = g := rfl

section
variable {m : Mem} {j g off len n sz : Nat} {cs : List CV} {v : CV}
theorem fldA_ptr {k : Key} {o : Nat} : fldA off (.ptr k g o) = some (.ptr k g (o + off)) := rfl
theorem fldA_rptr : fldA off (.rptr cs) = some (.rptr (cs.drop off)) := rfl
def rdO (g off n : Nat) : Option HO → Option (List CV)
  | some (.var g' cs _) => if g' = g ∧ off + n ≤ cs.length then some ((cs.drop off).take n) else none
  | some (.arr g' _ cs _) => if g' = g ∧ off + n ≤ cs.length then some ((cs.drop off).take n) else none
  | _ => none
theorem cellsAt_l : cellsAt m (.ptr (.l j) g off) n = rdO g off n (lget m.L j) := by
  simp only [cellsAt, Mem.get]
  cases lget m.L j with
  | none => rfl
  | some h => cases h <;> simp [rdO, HO.gn, HO.isMap, HO.cells]
theorem rdO_var {vl : Nat} (h : off + n ≤ cs.length) : rdO g off n (some (.var g cs vl)) = some ((cs.drop off).take n) := by
  simp only [rdO, true_and, if_pos h]
theorem rdO_arr {s vl : Nat} (h : off + n ≤ cs.length) : rdO g off n (some (.arr g s cs vl)) = some ((cs.drop off).take n) := by
  simp only [rdO, true_and, if_pos h]
def rd1 (g off : Nat) : Option HO → Option CV
  | some (.var g' cs _) => if g' = g then cs[off]? else none
  | some (.arr g' _ cs _) => if g' = g then cs[off]? else none
  | _ => none
theorem ld1_l : ld1 m (.ptr (.l j) g off) = rd1 g off (lget m.L j) := by
  simp only [ld1, cellsAt_l]
  cases lget m.L j with
  | none => rfl
  | some h =>
    cases h with
    | var g' cs vl =>
      simp only [rdO, rd1]
      by_cases hg : g' = g
      · simp only [hg, true_and, if_true]; exact head_take_drop
      · simp [hg]
    | arr g' s cs vl =>
      simp only [rdO, rd1]
      by_cases hg : g' = g
      · simp only [hg, true_and, if_true]; exact head_take_drop
      · simp [hg]
    | map => rfl
theorem rd1_var {vl : Nat} : rd1 g off (some (.var g cs vl)) = cs[off]? := by simp only [rd1, if_true]
theorem rd1_arr {s vl : Nat} : rd1 g off (some (.arr g s cs vl)) = cs[off]? := by simp only [rd1, if_true]
def rdA (g off n : Nat) (o : Option HO) : Option CV := (rdO g off n o).map CV.agg
theorem ldA_l : ldA n m (.ptr (.l j) g off) = rdA g off n (lget m.L j) := by simp only [ldA, cellsAt_l, rdA]
theorem rdA_var {vl : Nat} : rdA g off n (some (.var g cs vl)) = if off + n ≤ cs.length then some (.agg ((cs.drop off).take n)) else none := by
  simp only [rdA, rdO, true_and]; split <;> rfl
theorem rdA_arr {s vl : Nat} : rdA g off n (some (.arr g s cs vl)) = if off + n ≤ cs.length then some (.agg ((cs.drop off).take n)) else none := by
  simp only [rdA, rdO, true_and]; split <;> rfl
theorem ld1_r : ld1 m (.rptr (v :: cs)) = some v := by simp [ld1, cellsAt]
theorem ldA_r {c : List CV} (h : c.length = n) : ldA n m (.rptr (c ++ cs)) = some (.agg c) := by
  subst h
  simp [ldA, cellsAt]
/-! what is nobody's -/
def escP : CV → Bool
  | .bool _ => true
  | .int _ _ => true
  | .str _ => true
  | .nil => true
  | .imm _ _ => true
  | .pnil => true
  | .rptr _ => true
  | .mnil => true
  | .nilf => true
  | .inil => true
  | .ref (.g _) _ _ _ => true
  | .ptr (.g _) _ _ => true
  | .map (.g _) _ => true
  | _ => false
def escQ : CV → Bool
  | .agg cs => cs.all escP
  | .tuple cs => cs.all escP
  | .iface _ v => escP v
  | .func _ a b => a.all escP && b.all escP
  | v => escP v
theorem escP_esc {v : CV} {k : Nat} (h : escP v = true) : esc (k + 1) v m = some (v, m) := by
  cases v with
  | ref key gn off len => cases key <;> first | rfl | simp [escP] at h
  | ptr key gn off => cases key <;> first | rfl | simp [escP] at h
  | map key gn => cases key <;> first | rfl | simp [escP] at h
  | _ => first | rfl | simp [escP] at h
theorem mapMem_same {f : CV → Mem → Option (CV × Mem)} : ∀ {cs : List CV}, (∀ c ∈ cs, f c m = some (c, m)) → mapMem f cs m = some (cs, m)
  | [], _ => rfl
  | c :: cs, h => by
    simp only [mapMem, h c List.mem_cons_self, Option.bind_some, mapMem_same (fun x hx => h x (List.mem_cons_of_mem _ hx)), Option.map_some]
theorem escQ_esc {v : CV} {k : Nat} (h : escQ v = true) : esc (k + 2) v m = some (v, m) := by
  have hall : ∀ {cs : List CV}, cs.all escP = true → mapMem (esc (k + 1)) cs m = some (cs, m) := fun h => mapMem_same fun c hc => escP_esc (List.all_eq_true.1 h c hc)
  cases v with
  | agg cs =>
    show (mapMem (esc (k + 1)) cs m).map (fun x => (CV.agg x.1, x.2)) = _
    rw [hall h]; rfl
  | tuple cs =>
    show (mapMem (esc (k + 1)) cs m).map (fun x => (CV.tuple x.1, x.2)) = _
    rw [hall h]; rfl
  | iface t v =>
    show (esc (k + 1) v m).map (fun x => (CV.iface t x.1, x.2)) = _
    rw [escP_esc h]; rfl
  | func f a b =>
    simp only [escQ, Bool.and_eq_true] at h
    show ((mapMem (esc (k + 1)) a m).bind fun x => (mapMem (esc (k + 1)) b x.2).map fun y => (CV.func f x.1 y.1, y.2)) = _
    rw [hall h.1, Option.bind_some, hall h.2]; rfl
  | _ => exact escP_esc h
theorem escQ_list {cs : List CV} (h : cs.all escQ = true) : escList m cs = some (cs, m) :=
  mapMem_same fun c hc => escQ_esc (List.all_eq_true.1 h c hc)
theorem escP_escQ {v : CV} (h : escP v = true) : escQ v = true := by cases v <;> first | exact h | simp [escP] at h
theorem escP_list {cs : List CV} (h : cs.all escP = true) : escList m cs = some (cs, m) :=
  escQ_list (List.all_eq_true.2 fun c hc => escP_escQ (List.all_eq_true.1 h c hc))
/-- what a store leaves -/
def wrA (m : Mem) (j gn off : Nat) (cs : List CV) (g sz : Nat) (cells : List CV) (vl : Nat) : Option Mem :=
  if g = gn ∧ off + cs.length ≤ cells.length ∧ vl ≤ off then
    (escList m cs).bind fun x =>
      match x.2.get (.l j) with
      | some (.arr g' _ _ vl') => if g' = gn ∧ vl' ≤ off then some (x.2.set (.l j) (.arr g sz (splice cells off x.1) vl')) else none
      | _ => none
  else none
def stV (n : Nat) (m : Mem) (j gn off : Nat) (v : Option (List CV)) (o : Option HO) : Option Mem :=
  match v with
  | some cs => if cs.length = n then
      (match o with
      | some (.var g cells vl) => if g = gn ∧ off + cs.length ≤ cells.length ∧ vl ≤ off then some (setL m j (.var g (splice cells off cs) vl)) else none
      | some (.arr g sz cells vl) => wrA m j gn off cs g sz cells vl
      | _ => none)
    else none
  | none => none
theorem stX_l : stX n m (.ptr (.l j) g off) v = stV n m j g off (ccells v) (lget m.L j) := by
  unfold stX stV
  cases ccells v with
  | none => rfl
  | some cs =>
    simp only
    split
    · simp only [cstoreAt, Mem.get]
      cases lget m.L j with
      | none => rfl
      | some h => cases h <;> rfl
    · rfl
theorem stV_var {cells : List CV} {vl : Nat} : stV n m j g off (some cs) (some (.var g cells vl)) = if cs.length = n ∧ off + n ≤ cells.length ∧ vl ≤ off then some (setL m j (.var g (splice cells off cs) vl)) else none := by
  simp only [stV, true_and]
  by_cases h : cs.length = n
  · simp only [h, if_true, true_and]
  · simp only [h, if_false, false_and]
theorem stV_arr {cells : List CV} {s vl : Nat} (hp : cs.all escP = true) (hm : lget m.L j = some (.arr g s cells vl)) : stV n m j g off (some cs) (some (.arr g s cells vl)) = if cs.length = n ∧ off + n ≤ cells.length ∧ vl ≤ off then some (setL m j (.arr g s (splice cells off cs) vl)) else none := by
  simp only [stV, wrA, true_and, escP_list hp, Option.bind_some, Mem.get, hm]
  by_cases h : cs.length = n
  · simp only [h, if_true, true_and]
    by_cases h2 : vl ≤ off
    · simp only [h2, and_true, if_true]; rfl
    · simp only [h2, and_false, if_false]
  · simp only [h, if_false, false_and]
end
theorem pickX_t {a b : CV} : pickX (.bool true) a b = some a := rfl
theorem pickX_f {a b : CV} : pickX (.bool false) a b = some b := rfl
theorem Obt_pickS {b : Bool} {a c : CV} {K : CV → Prop} : Obt (pickX (.bool b) a c) K = ((b = true → K a) ∧ (b = false → K c)) := by
  cases b <;> simp [pickX, Obt_some]
theorem Obt_gdT {α : Type} {b : Bool} {X : Option α} {e : α} {K : α → Prop} : Obt (gdO (.bool b) true X e) K = ((b = true → Obt X K) ∧ (b = false → K e)) := by
  cases b <;> simp [gdO, Obt_some]
theorem Obt_gdF {α : Type} {b : Bool} {X : Option α} {e : α} {K : α → Prop} : Obt (gdO (.bool b) false X e) K = ((b = false → Obt X K) ∧ (b = true → K e)) := by
  cases b <;> simp [gdO, Obt_some]

/-! rows that are made longer -/
def appR (sz b j g off len : Nat) (ys : Option (List CV)) (n : Option Nat) (o : Option HO) (m : Mem) : Option (CV × Mem) :=
  match ys, n with
  | some ys, some n =>
    match o with
    | some (.arr g' s' cs vl) =>
      if g' = g ∧ s' = sz ∧ vl ≤ off + len * sz ∧ smallB b (len + n) = true then
        some (.ref (.l j) (g' + 1) 0 (len + n), setL m j (.arr (g' + 1) sz ((cs.drop off).take (len * sz) ++ ys) (vl - off)))
      else none
    | _ => none
  | _, _ => none
def appN (glob : Bool) (j sz b : Nat) (ys : Option (List CV)) (n : Option Nat) (m : Mem) : Option (CV × Mem) :=
  match ys, n with
  | some ys, some n =>
    if n = 0 then some (.nil, m)
    else if smallB b n = true then some (nmR glob m j n, nmA glob m j sz ys)
    else none
  | _, _ => none
theorem appX_l {glob : Bool} {i j sz b g off len : Nat} {x : CV} {m : Mem} : appX glob i sz b (.ref (.l j) g off len) x m = appR sz b j g off len (content m sz x) (clen x) (lget m.L j) m := by
  unfold appX appR
  cases content m sz x with
  | none => rfl
  | some ys =>
    cases clen x with
    | none => rfl
    | some n =>
      simp only [Mem.get]
      cases lget m.L j with
      | none => rfl
      | some h =>
        cases h with
        | arr g' s cs vl =>
          simp only
          by_cases hg : g' = g
          · subst hg; rfl
          · simp only [hg, false_and, if_false]
        | var => rfl
        | map => rfl
theorem appX_n {glob : Bool} {i sz b : Nat} {x : CV} {m : Mem} : appX glob i sz b .nil x m = appN glob i sz b (content m sz x) (clen x) m := by
  unfold appX appN
  cases content m sz x with
  | none => rfl
  | some ys => cases clen x <;> rfl
theorem appR_arr {sz b j g off len n vl : Nat} {ys cs : List CV} {m : Mem} : appR sz b j g off len (some ys) (some n) (some (.arr g sz cs vl)) m =
    if vl ≤ off + len * sz ∧ smallB b (len + n) = true then some (.ref (.l j) (g + 1) 0 (len + n), setL m j (.arr (g + 1) sz ((cs.drop off).take (len * sz) ++ ys) (vl - off))) else none := by
  simp only [appR, true_and]
theorem appN_some {glob : Bool} {j sz b n : Nat} {ys : List CV} {m : Mem} (hn : ¬ n = 0) : appN glob j sz b (some ys) (some n) m = if smallB b n = true then some (nmR glob m j n, nmA glob m j sz ys) else none := by
  simp only [appN, hn, if_false]
theorem smallB_ok {b n : Nat} (hb : b ≤ 1024) (hn : n ≤ 4294967296) : smallB b n = true := by
  have h1 : n * b ≤ 4294967296 * 1024 := Nat.mul_le_mul hn hb
  have h2 : n ≤ 70368744177664 := by omega
  have h3 : n * b ≤ 140737488355328 := by omega
  simp [smallB, hb, most, h2, h3]
theorem smallB_big {b n : Nat} (hb : b ≤ 8) (hn : n ≤ 17592186044416) : smallB b n = true := by
  have h1 : n * b ≤ 17592186044416 * 8 := Nat.mul_le_mul hn hb
  have h0 : b ≤ 1024 := by omega
  have h2 : n ≤ 70368744177664 := by omega
  have h3 : n * b ≤ 140737488355328 := by omega
  simp [smallB, h0, most, h2, h3]
def conR (sz g off len : Nat) (o : Option HO) : Option (List CV) :=
  match o with
  | some (.arr g' s cs _) => if g' = g ∧ s = sz then some ((cs.drop off).take (len * sz)) else none
  | _ => none
theorem content_l {m : Mem} {sz j g off len : Nat} : content m sz (.ref (.l j) g off len) = conR sz g off len (lget m.L j) := by
  simp only [content, Mem.get]
  cases lget m.L j with
  | none => rfl
  | some h => cases h <;> rfl
theorem conR_arr {sz g off len vl : Nat} {cs : List CV} : conR sz g off len (some (.arr g sz cs vl)) = some ((cs.drop off).take (len * sz)) := by
  simp only [conR, and_self, if_true]
theorem content_nil {m : Mem} {sz : Nat} : content m sz .nil = some [] := rfl
theorem clen_n : clen .nil = some 0 := rfl
theorem clen_r {k : Key} {g off len : Nat} : clen (.ref k g off len) = some len := rfl
theorem clen_i {n : Nat} {cs : List CV} : clen (.imm n cs) = some n := rfl
theorem idxS_ref {sz : Nat} {k : IntKind} {key : Key} {g off len : Nat} {i : Int} : idxS sz (.ref key g off len) (.int k i) = if 0 ≤ i ∧ i.toNat < len then some (.ptr key g (off + i.toNat * sz)) else none := by
  simp only [idxS, asNat]
  by_cases h : 0 ≤ i
  · simp only [h, if_true, true_and]
  · simp only [h, if_false, false_and]
section
variable {P : Program} {t : TypeId} {x y : Operand} {k k' : IntKind} {a b : Int} {K : CV → Prop}
theorem Obt_add : Obt (cbin P .add t x y (.int k a) (.int k b)) K = K (.int k (k.wrap (a + b))) := by simp only [cbin, if_true, intBin, Obt_some]
theorem Obt_sub : Obt (cbin P .sub t x y (.int k a) (.int k b)) K = K (.int k (k.wrap (a - b))) := by simp only [cbin, if_true, intBin, Obt_some]
theorem Obt_mul : Obt (cbin P .mul t x y (.int k a) (.int k b)) K = K (.int k (k.wrap (a * b))) := by simp only [cbin, if_true, intBin, Obt_some]
theorem Obt_quo : Obt (cbin P .quo t x y (.int k a) (.int k b)) K = (¬ b = 0 ∧ K (.int k (k.wrap (a.tdiv b)))) := by simp only [cbin, if_true, intBin, Obt_ite, Obt_some]
theorem Obt_rem : Obt (cbin P .rem t x y (.int k a) (.int k b)) K = (¬ b = 0 ∧ K (.int k (a.tmod b))) := by simp only [cbin, if_true, intBin, Obt_ite, Obt_some]
theorem Obt_and : Obt (cbin P .and t x y (.int k a) (.int k b)) K = K (.int k (bitop .and k a b)) := by simp only [cbin, if_true, intBin, Obt_some]
theorem Obt_or : Obt (cbin P .or t x y (.int k a) (.int k b)) K = K (.int k (bitop .or k a b)) := by simp only [cbin, if_true, intBin, Obt_some]
theorem Obt_xor : Obt (cbin P .xor t x y (.int k a) (.int k b)) K = K (.int k (bitop .xor k a b)) := by simp only [cbin, if_true, intBin, Obt_some]
theorem Obt_andNot : Obt (cbin P .andNot t x y (.int k a) (.int k b)) K = K (.int k (bitop .andNot k a b)) := by simp only [cbin, if_true, intBin, Obt_some]
theorem Obt_shl : Obt (cbin P .shl t x y (.int k a) (.int k' b)) K = (¬ b < 0 ∧ K (.int k (k.wrap (a * 2 ^ (min b.toNat k.bits))))) := by simp only [cbin, shiftC, Obt_ite, Obt_some]
theorem Obt_shr : Obt (cbin P .shr t x y (.int k a) (.int k' b)) K = (¬ b < 0 ∧ K (.int k (a.fdiv (2 ^ (min b.toNat k.bits))))) := by simp only [cbin, shiftC, Obt_ite, Obt_some]
theorem Obt_neg : Obt (cun .neg (.int k a)) K = K (.int k (k.wrap (0 - a))) := by simp only [cun, Obt_some]
theorem Obt_cpl : Obt (cun .xor (.int k a)) K = K (.int k (bitop .xor k (if k.signed then -1 else k.max) a)) := by simp only [cun, Obt_some]
theorem Obt_conv : Obt (convX k (.int k' a)) K = K (.int k (k.wrap a)) := by simp only [convX, Obt_some]
theorem Obt_ext {i : Nat} {vs : List CV} : Obt (extX i (.tuple vs)) K = Obt (vs[i]?) K := rfl
end
end Go.Cm
