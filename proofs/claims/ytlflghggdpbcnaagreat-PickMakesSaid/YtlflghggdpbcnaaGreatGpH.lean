import Derived.Test.YtlflghggdpbcnaaGreatCxM
import Derived.Test.YtlflghggdpbcnaaGreatGpD
import Derived.Test.YtlflghggdpbcnaaGreatGpE
import Derived.Test.YtlflghggdpbcnaaGreatGpG
import Derived.Test.YtlflghggdpbcnaaGreatGwF
set_option linter.unusedSimpArgs false
set_option linter.unusedVariables false
namespace Go.Cm
open Go.Proofs
theorem e55_sim {E : Oracle} (hE : Sim Tryz.prog E) : Sim Tryz.prog (tab 55 e55 E) := by
  refine sim_tab ?_ hE
  intro args H r H' h
  unfold e55 at h
  split at h
  · rename_i hc
    simp only [Bool.and_eq_true, List.isEmpty_iff] at hc
    obtain ⟨h1, h2⟩ := hc
    have h3 := beqs_eq _ _ h1
    subst h2 h3
    rw [← isZero_of run55_zero] at h
    exact ccall_sim EL_sim plainN mixed 40 _ _ _ _ _ h
  · cases h
theorem e29_sim {E : Oracle} (hE : Sim Tryz.prog E) : Sim Tryz.prog (tab 29 e29 E) := by
  refine sim_tab ?_ hE
  intro args H r H' h
  unfold e29 at h
  split at h
  · rename_i hc
    simp only [Bool.and_eq_true, List.isEmpty_iff] at hc
    obtain ⟨h1, h2⟩ := hc
    have h3 := beqs_eq _ _ h1
    subst h2 h3
    rw [← isF25_of run29_false] at h
    exact ccall_sim EL_sim plainN mixed 40 _ _ _ _ _ h
  · cases h
theorem E3_sim : Sim Tryz.prog E3 := e55_sim (e29_sim EL_sim)
theorem only1_sim {k : FuncId} {x : List CV} {E : Oracle} (hE : Sim Tryz.prog E) : Sim Tryz.prog (tab k (only1 x (ccall Tryz.prog An EL 40 k x [])) E) := by
  refine sim_tab ?_ hE
  intro args H r H' h
  unfold only1 at h
  split at h
  · rename_i hc
    simp only [Bool.and_eq_true, List.isEmpty_iff] at hc
    obtain ⟨h1, h2⟩ := hc
    have h3 := beqs_eq _ _ h1
    subst h2 h3
    exact ccall_sim EL_sim plainN mixed 40 _ _ _ _ _ h
  · cases h
theorem EE_sim : Sim Tryz.prog EE := by
  refine sim_tab ?_ (only1_sim (only1_sim (only1_sim EL_sim)))
  intro args H r H' h
  unfold only0 at h
  split at h
  · exact ccall_sim E3_sim plainN mixed 40 _ _ _ _ _ h
  · cases h
def ok17 : Option (CV × List HO) → Bool
  | some (.tuple [.own 2 1 cs 0, .int .i64 0], []) => noGs cs && (cs.length == 2) && beqs (cans cs) cs
  | _ => false
theorem run17_ok : ok17 run17 = true := by kernel_rfl
theorem run17_eq : run17 = some (.tuple [.own 2 1 cs0 0, .int .i64 0], []) ∧ noGs cs0 = true ∧ cs0.length = 2 ∧ cans cs0 = cs0 := by
  have h := run17_ok
  unfold cs0
  generalize run17 = x at h ⊢
  unfold ok17 at h
  split at h
  · simp only [Bool.and_eq_true, beq_iff_eq] at h
    exact ⟨rfl, h.1.1, h.1.2, beqs_eq _ _ h.2⟩
  · cases h
def ok38 : Option (CV × List HO) → Bool
  | some (.bool true, []) => true
  | _ => false
theorem run38_ok : ok38 run38 = true := by kernel_rfl
theorem run38_eq : run38 = some (.bool true, []) := by
  have h := run38_ok
  generalize run38 = x at h ⊢
  unfold ok38 at h
  split at h
  · rfl
  · cases h
def ok39 : Option (CV × List HO) → Bool
  | some (.own 2 1 cs 0, []) => noGs cs && (cs.length == 2)
  | _ => false
theorem run39_ok : ok39 run39 = true := by kernel_rfl
theorem run39_eq : run39 = some (.own 2 1 cs1 0, []) ∧ noGs cs1 = true ∧ cs1.length = 2 := by
  have h := run39_ok
  unfold cs1
  generalize run39 = x at h ⊢
  unfold ok39 at h
  split at h
  · simp only [Bool.and_eq_true, beq_iff_eq] at h
    exact ⟨rfl, h.1, h.2⟩
  · cases h
theorem Fw_E25 {P : Program} {A : Ann} {E : Oracle} {f : FuncId} {args : List CV} {H : List HO} {r : CV × List HO} (h : E f (cin (A.pure f) args) H = some r) : Fw P A E f args H = some r :=
  Fw_iff.2 ⟨1, by simp only [tcall, h]⟩
theorem only25 : EE 21 [] [] = only0 hx25 [] [] := by simp only [EE, tab, if_true]
theorem can_mv0 : can mv0 = mv0 := by simp only [mv0, can, run17_eq.2.2.2]
theorem noG_mv0 : noG mv0 = true := by simp only [mv0, noG, run17_eq.2.1]
theorem only1_at (x : List CV) (h : Option (CV × List HO)) : only1 x h x [] = h := by simp only [only1, beqs_refl, List.isEmpty_nil, Bool.and_self, if_true]
theorem x17 : FF 17 [lay0] [] = some (.tuple [.own 2 1 cs0 0, .int .i64 0], []) := by
  refine Fw_E25 ?_
  rw [show cin (An.pure 17) [lay0] = [lay0] from rfl, ← run17_eq.1, ← only1_at [lay0] run17]
  simp only [EE, tab, Nat.reduceEqDiff, if_true, if_false]
theorem x38 : FF 38 [lay0, mv0] [] = some (.bool true, []) := by
  refine Fw_E25 ?_
  have e : cin (An.pure 38) [lay0, mv0] = [lay0, mv0] := by
    show cans [lay0, mv0] = _
    simp only [cans, can_mv0]; rfl
  rw [e, ← run38_eq, ← only1_at [lay0, mv0] run38]
  simp only [EE, tab, Nat.reduceEqDiff, if_true, if_false]
theorem x39 : FF 39 [mv0] [] = some (.own 2 1 cs1 0, []) := by
  refine Fw_E25 ?_
  have e : cin (An.pure 39) [mv0] = [mv0] := by
    show cans [mv0] = _
    simp only [cans, can_mv0]
  rw [e, ← run39_eq.1, ← only1_at [mv0] run39]
  simp only [EE, tab, Nat.reduceEqDiff, if_true, if_false]
theorem only0_nil25 (h : Option (CV × List HO)) : only0 h [] [] = h := rfl
theorem x21 : ∃ H', FF 21 [] [] = some (.bool true, H') := ⟨_, Fw_E25 ((only25.trans (only0_nil25 _)).trans (isT25_of hx25_true))⟩
theorem k21 {fid : FuncId} {d : Tmp} {m : Mem} : callC An FF fid (some d) 21 [] m = some (.bool true, m) := by
  obtain ⟨H', h⟩ := x21
  rw [callC_K h rfl rfl rfl rfl rfl, adopt_bool]
end Go.Cm

namespace Go.Cm
open Go.Proofs Go.Pk
def regs (v : Nat) : List CV := .int .u64 0 :: .int .u64 v :: reps 30 [.int .u64 0]
def frm : List CV := reps 256 [.int .u64 0]
def mC (mv : CV) (nx : Int) (dn : Bool) : List CV := [.int .i64 0, .bool false, .imm 0 [], mv, .imm 0 [], .ref (.g 0) 1 0 32, .ref (.g 1) 1 0 256, .nil, .int .i64 nx, .bool dn]
def Hs (mv : CV) (v : Nat) (nx : Int) (dn : Bool) : List HO := [.arr 1 1 (regs v) 0, .arr 1 1 frm 0, .var 1 (mC mv nx dn) 0]
section
variable {L : List (Nat × HO)} {mv : CV} {v : Nat} {nx : Int} {dn : Bool}
theorem nilP {k : Key} {g o : Nat} : nilX (.ptr k g o) = some (.ptr k g o) := rfl
theorem Hs_3 : ld1 ⟨L, Hs mv v nx dn⟩ (.ptr (.g 2) 1 3) = some mv := rfl
theorem Hs_5 : ld1 ⟨L, Hs mv v nx dn⟩ (.ptr (.g 2) 1 5) = some (.ref (.g 0) 1 0 32) := rfl
theorem Hs_7 : ld1 ⟨L, Hs mv v nx dn⟩ (.ptr (.g 2) 1 7) = some .nil := rfl
theorem Hs_8 : ld1 ⟨L, Hs mv v nx dn⟩ (.ptr (.g 2) 1 8) = some (.int .i64 nx) := rfl
theorem Hs_9 : ld1 ⟨L, Hs mv v nx dn⟩ (.ptr (.g 2) 1 9) = some (.bool dn) := rfl
theorem Hs_r : ld1 ⟨L, Hs mv v nx dn⟩ (.ptr (.g 0) 1 1) = some (.int .u64 v) := rfl
theorem Hs_i : idxS 1 (.ref (.g 0) 1 0 32) (.int .i64 1) = some (.ptr (.g 0) 1 1) := rfl
theorem Hs_sr {y : Nat} : stX 1 ⟨L, Hs mv v nx dn⟩ (.ptr (.g 0) 1 1) (.int .u64 y) = some ⟨L, Hs mv y nx dn⟩ := rfl
theorem Hs_s8 {y : Int} : stX 1 ⟨L, Hs mv v nx dn⟩ (.ptr (.g 2) 1 8) (.int .i64 y) = some ⟨L, Hs mv v y dn⟩ := rfl
theorem Hs_s9 {y : Bool} : stX 1 ⟨L, Hs mv v nx dn⟩ (.ptr (.g 2) 1 9) (.bool y) = some ⟨L, Hs mv v nx y⟩ := rfl
end
theorem shl_part {n j : Nat} (hj : j < 4) : IntKind.u64.wrap ((n : Int) * 2 ^ (min (16 * (j : Int)).toNat IntKind.u64.bits)) = ((n * 2 ^ (16 * j) % 2 ^ 64 : Nat) : Int) := by
  have h1 : min (16 * (j : Int)).toNat IntKind.u64.bits = 16 * j := by rw [bits_u64]; omega
  rw [h1, show IntKind.u64.wrap ((n : Int) * 2 ^ (16 * j)) = ((n : Int) * 2 ^ (16 * j)) % 18446744073709551616 by simp [IntKind.wrap, IntKind.bits, IntKind.signed]]
  simp only [Int.natCast_emod, Int.natCast_mul, Int.natCast_pow]
  rfl
theorem andNot_low {v j : Nat} (hj : j < 4) (hv : v < 2 ^ (16 * j)) : bitop .andNot .u64 (v : Int) ((65535 * 2 ^ (16 * j) % 2 ^ 64 : Nat) : Int) = (v : Int) := by
  have h48 : 2 ^ (16 * j) ≤ 2 ^ 48 := Nat.pow_le_pow_right (by decide) (by omega)
  have hm : 65535 * 2 ^ (16 * j) % 2 ^ 64 = 65535 * 2 ^ (16 * j) := Nat.mod_eq_of_lt (Nat.lt_of_le_of_lt (Nat.mul_le_mul_left _ h48) (by decide))
  rw [hm]
  have e : (BitVec.ofInt 64 (v : Int) &&& ~~~BitVec.ofInt 64 ((65535 * 2 ^ (16 * j) : Nat) : Int)).toNat = v := by
    rw [BitVec.ofInt_natCast, BitVec.ofInt_natCast]
    refine Nat.eq_of_testBit_eq fun i => ?_
    change (BitVec.ofNat 64 v &&& ~~~BitVec.ofNat 64 (65535 * 2 ^ (16 * j))).getLsbD i = v.testBit i
    rw [BitVec.getLsbD_and, BitVec.getLsbD_not, BitVec.getLsbD_ofNat, BitVec.getLsbD_ofNat, Nat.testBit_mul_two_pow]
    by_cases hi : i < 16 * j
    · have h1 : ¬ 16 * j ≤ i := by omega
      have h2 : i < 64 := by omega
      simp [h1, h2]
    · have h3 : v.testBit i = false := Nat.testBit_lt_two_pow (Nat.lt_of_lt_of_le hv (Nat.pow_le_pow_right (by decide) (by omega)))
      simp [h3]
  show IntKind.u64.wrap (((BitVec.ofInt 64 (v : Int) &&& ~~~BitVec.ofInt 64 ((65535 * 2 ^ (16 * j) : Nat) : Int)).toNat : Nat) : Int) = v
  rw [e]
  exact IntWalk.u64_in _ (by omega)
theorem x41_mk (op : Int) (o j n : Nat) (ho : isOp op o) (hj : j < 4) (hn : n < 65536) (mv : CV) (v : Nat) (hv : v < 2 ^ (16 * j)) (nx : Int) :
    FF 41 [.ptr (.g 2) 1 0, .agg (rcC (mk op 1 j n))] (Hs mv v nx false) = some (.int .i64 0, Hs mv (fvl v (mk op 1 j n)) nx false) := by
  have hsetL : ∀ (L : List (Nat × HO)) (H : List HO) i x, setL ⟨L, H⟩ i x = ⟨lset L i x, H⟩ := fun _ _ _ _ => rfl
  have hw16 : IntKind.i64.wrap (16 * (j : Int)) = 16 * j := wI (by omega) (by omega)
  have hu16 : IntKind.u64.wrap (16 * (j : Int)) = 16 * j := IntWalk.u64_in _ (by omega)
  have hun : IntKind.u64.wrap (n : Int) = n := IntWalk.u64_in _ (by omega)
  have hnn : ¬ (16 * (j : Int) < 0) := by omega
  have hml : n * 2 ^ (16 * j) % 2 ^ 64 < 2 ^ 64 := Nat.mod_lt _ (by decide)
  have h48 : 2 ^ (16 * j) ≤ 2 ^ 48 := Nat.pow_le_pow_right (by decide) (by omega)
  have hs1 := @shl_part n j hj
  have hs2 : IntKind.u64.wrap (65535 * 2 ^ (min (16 * (j : Int)).toNat IntKind.u64.bits)) = ((65535 * 2 ^ (16 * j) % 2 ^ 64 : Nat) : Int) := @shl_part 65535 j hj
  have han := andNot_low hj hv
  have hor : bitop .or .u64 (v : Int) ((n * 2 ^ (16 * j) % 2 ^ 64 : Nat) : Int) = ((v ||| n * 2 ^ (16 * j) % 2 ^ 64 : Nat) : Int) := bit_or rfl (by omega) hml
  rcases ho with ⟨rfl, rfl⟩ | ⟨rfl, rfl⟩
  · have hf : fvl v (mk 2 1 j n) = n * 2 ^ (16 * j) % 2 ^ 64 := by simp [fvl, mk]
    rw [hf]
    refine Fw_funK rfl Tryz.func41 s41 (Nat.le_of_ble_eq_true rfl) (fun Q hqr hqn => ?_)
    rw [show ∀ a, cin (An.pure 41) a = a from fun _ => rfl]
    simp only [tinit, Nat.reduceAdd, c41]
    repeat' (first
    | with_reducible (first | refine Tx_assoc ?_ | refine Tx_nopK ?_ | refine Tx_yesK rfl ?_ | refine Tx_noK rfl ?_ | refine Tx_ifK rfl (fun _ => ?_) (fun _ => ?_) | refine Tx_yes rfl ?_ | refine Tx_no rfl ?_ | refine Tx_if rfl (fun _ => ?_) (fun _ => ?_) | refine Tx_retK ?_ | refine Tx_exitK ?_ | refine Tx_ret ?_ | refine Tx_exit ?_ | refine Tx_nop ?_ | refine Tx_blockK (id := 0) (fun Q0 hn0 hx0 hr0 ho0 => ?_) | refine Tx_blockE (id := 0) (fun Q0 hn0 hx0 hr0 ho0 => ?_) | refine hn0 _ ?_ | refine hx0 _ ?_ | refine hr0 _ ?_ | refine ho0 _ _ (by decide) ?_)
    | (with_reducible (first | ((first | refine Tx_regK (fun K hK => ?_) | refine Tx_regE (fun K hK => ?_)); (first | refine t41r0 ?_ | refine t41r1 ?_ | refine t41r3 ?_ | refine t41r4 ?_ | refine t41r5 ?_ | refine t41r6 ?_ | refine t41r7 ?_ | refine t41r8 ?_ | refine t41r9 ?_ | refine t41r10 ?_ | refine t41r11 ?_ | refine t41r12 ?_ | refine t41r13 ?_ | refine t41r14 ?_ | refine t41r15 ?_ | refine t41r16 ?_ | refine t41r17 ?_ | refine t41r18 ?_ | refine t41r19 ?_ | refine t41r20 ?_ | refine t41r21 ?_ | refine t41r22 ?_ | refine t41r23 ?_ | refine t41r24 ?_ | refine t41r25 ?_ | refine t41r26 ?_ | refine t41r2 ?_ | refine t41r27 ?_)) | refine hqr _ ?_ | refine hqn _ ?_); (try simp only [true_implies, false_implies, not_true_eq_false, not_false_eq_true, tget_cons, if_true, if_false, Nat.reduceEqDiff, ccells, Obt_some, Kn_normal, newL_eq, newP_eq, newA_eq, newM_eq, newR_eq, newK_eq, nmA_f, nmR_f, gn_var, gn_arr, gn_map, gnext_setL, lget_setL, lget_lset, gnext_lset, setL_setL, setL_H, Nat.reduceMul, Nat.reduceAdd, Nat.zero_add, fldA_ptr, fldA_rptr, List.drop_zero, ld1_l, ld1_r, ldA_l, rd1_var, rd1_arr, List.getElem?_cons_zero, List.getElem?_cons_succ, Obt_lss, Obt_leq, Obt_gtr, Obt_geq, Obt_eql, Obt_neq, Obt_not, gdO_tt, gdO_tf, gdO_ff, gdO_ft, gdO_skip, Option.map_some, pickX_t, pickX_f, Obt_pickS, Obt_gdT, Obt_gdF, Bool.not_true, Bool.not_false, lenS, Obt_map, Obt_add, Obt_sub, Obt_mul, Obt_quo, Obt_rem, Obt_and, Obt_or, Obt_xor, Obt_andNot, Obt_shl, Obt_shr, Obt_neg, Obt_cpl, Obt_conv, Obt_ext, Obt_bind, Obt_ite', appX_l, appX_n, appR_arr, appN_some, content_l, conR_arr, content_nil, clen_n, clen_r, fillX, bslX, escP_list, List.all_append, stX_l, stV_var, stV_arr, splice, List.take_zero, List.take_succ_cons, List.drop_succ_cons, List.drop_nil, List.nil_append, List.cons_append, List.append_nil, List.length_cons, List.length_nil, Nat.reduceLeDiff, and_self, and_true, true_and, Nat.le_refl, Nat.zero_le, rdA_var, rdA_arr, escP, List.all_cons, List.all_nil, Bool.and_self, Bool.true_and, Bool.and_true, offR_nil, offR_f, offR_n, offR_l, offK_r, offK_g, offK_l, keyL_nil, keyL_t, keyL_f, Obt_offS, decide_false, decide_true, Bool.false_or, Bool.true_or, Bool.or_false, Bool.or_true, Bool.false_eq_true, if_false, if_true, r41, tend, tresAll, tresC, Option.bind_some, mapMem, retv_agc, esc_i, esc_b, esc_n, esc_m, esc_s, retv_l, retR_arr, retv_gref, retv_gmap, retv_gptr, Nat.zero_sub, Nat.sub_self, retv_int, retv_bool, retv_nil, retv_imm, retv_inil, retv_pnil, tup_nil, tup_one, tup_two, Prod.mk.injEq, CV.int.injEq, CV.bool.injEq, rcC, mk, hsetL, nilP, Hs_5, Hs_i, Hs_r, Hs_sr, hw16, hu16, hun, hnn, hs1]))
    | (revert hK; intro hK; (first | refine And.intro ?_ ?_ | (refine fun (h : (_ : Bool) = _) => ?_; subst h) | intro _ | omega | (with_reducible refine hK _ ?_; clear hK K))))
  · have hf : fvl v (mk 3 1 j n) = v ||| n * 2 ^ (16 * j) % 2 ^ 64 := by simp [fvl, mk]
    rw [hf]
    refine Fw_funK rfl Tryz.func41 s41 (Nat.le_of_ble_eq_true rfl) (fun Q hqr hqn => ?_)
    rw [show ∀ a, cin (An.pure 41) a = a from fun _ => rfl]
    simp only [tinit, Nat.reduceAdd, c41]
    repeat' (first
    | with_reducible (first | refine Tx_assoc ?_ | refine Tx_nopK ?_ | refine Tx_yesK rfl ?_ | refine Tx_noK rfl ?_ | refine Tx_ifK rfl (fun _ => ?_) (fun _ => ?_) | refine Tx_yes rfl ?_ | refine Tx_no rfl ?_ | refine Tx_if rfl (fun _ => ?_) (fun _ => ?_) | refine Tx_retK ?_ | refine Tx_exitK ?_ | refine Tx_ret ?_ | refine Tx_exit ?_ | refine Tx_nop ?_ | refine Tx_blockK (id := 0) (fun Q0 hn0 hx0 hr0 ho0 => ?_) | refine Tx_blockE (id := 0) (fun Q0 hn0 hx0 hr0 ho0 => ?_) | refine hn0 _ ?_ | refine hx0 _ ?_ | refine hr0 _ ?_ | refine ho0 _ _ (by decide) ?_)
    | (with_reducible (first | ((first | refine Tx_regK (fun K hK => ?_) | refine Tx_regE (fun K hK => ?_)); (first | refine t41r0 ?_ | refine t41r1 ?_ | refine t41r3 ?_ | refine t41r4 ?_ | refine t41r5 ?_ | refine t41r6 ?_ | refine t41r7 ?_ | refine t41r8 ?_ | refine t41r9 ?_ | refine t41r10 ?_ | refine t41r11 ?_ | refine t41r12 ?_ | refine t41r13 ?_ | refine t41r14 ?_ | refine t41r15 ?_ | refine t41r16 ?_ | refine t41r17 ?_ | refine t41r18 ?_ | refine t41r19 ?_ | refine t41r20 ?_ | refine t41r21 ?_ | refine t41r22 ?_ | refine t41r23 ?_ | refine t41r24 ?_ | refine t41r25 ?_ | refine t41r26 ?_ | refine t41r2 ?_ | refine t41r27 ?_)) | refine hqr _ ?_ | refine hqn _ ?_); (try simp only [true_implies, false_implies, not_true_eq_false, not_false_eq_true, tget_cons, if_true, if_false, Nat.reduceEqDiff, ccells, Obt_some, Kn_normal, newL_eq, newP_eq, newA_eq, newM_eq, newR_eq, newK_eq, nmA_f, nmR_f, gn_var, gn_arr, gn_map, gnext_setL, lget_setL, lget_lset, gnext_lset, setL_setL, setL_H, Nat.reduceMul, Nat.reduceAdd, Nat.zero_add, fldA_ptr, fldA_rptr, List.drop_zero, ld1_l, ld1_r, ldA_l, rd1_var, rd1_arr, List.getElem?_cons_zero, List.getElem?_cons_succ, Obt_lss, Obt_leq, Obt_gtr, Obt_geq, Obt_eql, Obt_neq, Obt_not, gdO_tt, gdO_tf, gdO_ff, gdO_ft, gdO_skip, Option.map_some, pickX_t, pickX_f, Obt_pickS, Obt_gdT, Obt_gdF, Bool.not_true, Bool.not_false, lenS, Obt_map, Obt_add, Obt_sub, Obt_mul, Obt_quo, Obt_rem, Obt_and, Obt_or, Obt_xor, Obt_andNot, Obt_shl, Obt_shr, Obt_neg, Obt_cpl, Obt_conv, Obt_ext, Obt_bind, Obt_ite', appX_l, appX_n, appR_arr, appN_some, content_l, conR_arr, content_nil, clen_n, clen_r, fillX, bslX, escP_list, List.all_append, stX_l, stV_var, stV_arr, splice, List.take_zero, List.take_succ_cons, List.drop_succ_cons, List.drop_nil, List.nil_append, List.cons_append, List.append_nil, List.length_cons, List.length_nil, Nat.reduceLeDiff, and_self, and_true, true_and, Nat.le_refl, Nat.zero_le, rdA_var, rdA_arr, escP, List.all_cons, List.all_nil, Bool.and_self, Bool.true_and, Bool.and_true, offR_nil, offR_f, offR_n, offR_l, offK_r, offK_g, offK_l, keyL_nil, keyL_t, keyL_f, Obt_offS, decide_false, decide_true, Bool.false_or, Bool.true_or, Bool.or_false, Bool.or_true, Bool.false_eq_true, if_false, if_true, r41, tend, tresAll, tresC, Option.bind_some, mapMem, retv_agc, esc_i, esc_b, esc_n, esc_m, esc_s, retv_l, retR_arr, retv_gref, retv_gmap, retv_gptr, Nat.zero_sub, Nat.sub_self, retv_int, retv_bool, retv_nil, retv_imm, retv_inil, retv_pnil, tup_nil, tup_one, tup_two, Prod.mk.injEq, CV.int.injEq, CV.bool.injEq, rcC, mk, hsetL, nilP, Hs_5, Hs_i, Hs_r, Hs_sr, hw16, hu16, hun, hnn, hs1, hs2, han, hor]))
    | (revert hK; intro hK; (first | refine And.intro ?_ ?_ | (refine fun (h : (_ : Bool) = _) => ?_; subst h) | intro _ | omega | (with_reducible refine hK _ ?_; clear hK K))))
theorem x41_ret (mv : CV) (v : Nat) (nx : Int) : FF 41 [.ptr (.g 2) 1 0, .agg (rcC ret)] (Hs mv v nx false) = some (.int .i64 0, Hs mv v nx true) := by
  have hsetL : ∀ (L : List (Nat × HO)) (H : List HO) i x, setL ⟨L, H⟩ i x = ⟨lset L i x, H⟩ := fun _ _ _ _ => rfl
  refine Fw_funK rfl Tryz.func41 s41 (Nat.le_of_ble_eq_true rfl) (fun Q hqr hqn => ?_)
  rw [show ∀ a, cin (An.pure 41) a = a from fun _ => rfl]
  simp only [tinit, Nat.reduceAdd, c41]
  repeat' (first
  | with_reducible (first | refine Tx_assoc ?_ | refine Tx_nopK ?_ | refine Tx_yesK rfl ?_ | refine Tx_noK rfl ?_ | refine Tx_ifK rfl (fun _ => ?_) (fun _ => ?_) | refine Tx_yes rfl ?_ | refine Tx_no rfl ?_ | refine Tx_if rfl (fun _ => ?_) (fun _ => ?_) | refine Tx_retK ?_ | refine Tx_exitK ?_ | refine Tx_ret ?_ | refine Tx_exit ?_ | refine Tx_nop ?_ | refine Tx_blockK (id := 0) (fun Q0 hn0 hx0 hr0 ho0 => ?_) | refine Tx_blockE (id := 0) (fun Q0 hn0 hx0 hr0 ho0 => ?_) | refine hn0 _ ?_ | refine hx0 _ ?_ | refine hr0 _ ?_ | refine ho0 _ _ (by decide) ?_)
  | (with_reducible (first | ((first | refine Tx_regK (fun K hK => ?_) | refine Tx_regE (fun K hK => ?_)); (first | refine t41r0 ?_ | refine t41r1 ?_ | refine t41r3 ?_ | refine t41r4 ?_ | refine t41r5 ?_ | refine t41r6 ?_ | refine t41r7 ?_ | refine t41r8 ?_ | refine t41r9 ?_ | refine t41r10 ?_ | refine t41r11 ?_ | refine t41r12 ?_ | refine t41r13 ?_ | refine t41r14 ?_ | refine t41r15 ?_ | refine t41r16 ?_ | refine t41r17 ?_ | refine t41r18 ?_ | refine t41r19 ?_ | refine t41r20 ?_ | refine t41r21 ?_ | refine t41r22 ?_ | refine t41r23 ?_ | refine t41r24 ?_ | refine t41r25 ?_ | refine t41r26 ?_ | refine t41r2 ?_ | refine t41r27 ?_)) | refine hqr _ ?_ | refine hqn _ ?_); (try simp only [true_implies, false_implies, not_true_eq_false, not_false_eq_true, tget_cons, if_true, if_false, Nat.reduceEqDiff, ccells, Obt_some, Kn_normal, newL_eq, newP_eq, newA_eq, newM_eq, newR_eq, newK_eq, nmA_f, nmR_f, gn_var, gn_arr, gn_map, gnext_setL, lget_setL, lget_lset, gnext_lset, setL_setL, setL_H, Nat.reduceMul, Nat.reduceAdd, Nat.zero_add, fldA_ptr, fldA_rptr, List.drop_zero, ld1_l, ld1_r, ldA_l, rd1_var, rd1_arr, List.getElem?_cons_zero, List.getElem?_cons_succ, Obt_lss, Obt_leq, Obt_gtr, Obt_geq, Obt_eql, Obt_neq, Obt_not, gdO_tt, gdO_tf, gdO_ff, gdO_ft, gdO_skip, Option.map_some, pickX_t, pickX_f, Obt_pickS, Obt_gdT, Obt_gdF, Bool.not_true, Bool.not_false, lenS, Obt_map, Obt_add, Obt_sub, Obt_mul, Obt_quo, Obt_rem, Obt_and, Obt_or, Obt_xor, Obt_andNot, Obt_shl, Obt_shr, Obt_neg, Obt_cpl, Obt_conv, Obt_ext, Obt_bind, Obt_ite', appX_l, appX_n, appR_arr, appN_some, content_l, conR_arr, content_nil, clen_n, clen_r, idxS_ref, fillX, bslX, escP_list, List.all_append, stX_l, stV_var, stV_arr, splice, List.take_zero, List.take_succ_cons, List.drop_succ_cons, List.drop_nil, List.nil_append, List.cons_append, List.append_nil, List.length_cons, List.length_nil, Nat.reduceLeDiff, and_self, and_true, true_and, Nat.le_refl, Nat.zero_le, rdA_var, rdA_arr, escP, List.all_cons, List.all_nil, Bool.and_self, Bool.true_and, Bool.and_true, offR_nil, offR_f, offR_n, offR_l, offK_r, offK_g, offK_l, keyL_nil, keyL_t, keyL_f, Obt_offS, decide_false, decide_true, Bool.false_or, Bool.true_or, Bool.or_false, Bool.or_true, Bool.false_eq_true, if_false, if_true, r41, tend, tresAll, tresC, Option.bind_some, mapMem, retv_agc, esc_i, esc_b, esc_n, esc_m, esc_s, retv_l, retR_arr, retv_gref, retv_gmap, retv_gptr, Nat.zero_sub, Nat.sub_self, retv_int, retv_bool, retv_nil, retv_imm, retv_inil, retv_pnil, tup_nil, tup_one, tup_two, Prod.mk.injEq, CV.int.injEq, CV.bool.injEq, rcC, ret, hsetL, nilP, Hs_s9]))
  | (revert hK; intro hK; (first | refine And.intro ?_ ?_ | (refine fun (h : (_ : Bool) = _) => ?_; subst h) | intro _ | omega | (with_reducible refine hK _ ?_; clear hK K))))
end Go.Cm
