import Derived.Test.YtijcpefcfcbcnaaCxH
import Derived.Test.YtijcpefcfcbcnaaIyA
import Derived.Test.YtijcpefcfcbcnaaIyB
import Derived.Test.YtijcpefcfcbcnaaIyF
import Derived.Test.YtijcpefcfcbcnaaIrA
set_option linter.unusedSimpArgs false
set_option linter.unusedVariables false
namespace Go.Cm
open Go.Proofs Go.Ir
def ndC (n : Nd) : List CV := [.int .i64 n.op, .int .i64 n.id, .int .i64 n.alu, .bool n.wide, .int .i64 n.a, .int .i64 n.b, .int .u64 n.imm, .int .i64 n.size, .int .i64 n.off, .bool n.grd, sl intC n.args, .int .i64 n.at_]
def phC (x : Ph) : List CV := [.int .i64 x.id, sl intC x.src]
def tmC (e : Tm) : List CV := [.int .i64 e.op, .int .i64 e.cond, .bool e.wide, .int .i64 e.a, .int .i64 e.b, .int .i64 e.to, .int .i64 e.els]
def ptC (p : Pt) : List CV := [sl intC p.pred, sl phC p.phis, sl ndC p.nodes, .int .i64 p.fin.op, .int .i64 p.fin.cond, .bool p.fin.wide, .int .i64 p.fin.a, .int .i64 p.fin.b, .int .i64 p.fin.to, .int .i64 p.fin.els]
def codeC (f : Cd) : List CV := [sl ptC f.parts, .int .i64 f.values]
theorem ndE : Enc ndC 12 := ⟨fun _ => rfl, fun n => by simp only [ndC, cans, can_int, can_bool, intE.can_sl], fun n => by simp only [ndC, noGs, noG_int, noG_bool, intE.noG_sl, Bool.and_self], fun _ => rfl⟩
theorem phE : Enc phC 2 := ⟨fun _ => rfl, fun n => by simp only [phC, cans, can_int, intE.can_sl], fun n => by simp only [phC, noGs, noG_int, intE.noG_sl, Bool.and_self], fun _ => rfl⟩
theorem tmE : Enc tmC 7 := ⟨fun _ => rfl, fun _ => rfl, fun _ => rfl, fun _ => rfl⟩
theorem ptE : Enc ptC 10 := ⟨fun _ => rfl, fun n => by simp only [ptC, cans, can_int, can_bool, intE.can_sl, phE.can_sl, ndE.can_sl], fun n => by simp only [ptC, noGs, noG_int, noG_bool, intE.noG_sl, phE.noG_sl, ndE.noG_sl, Bool.and_self], fun _ => rfl⟩
theorem codeE : Enc codeC 2 := ⟨fun _ => rfl, fun n => by simp only [codeC, cans, can_int, ptE.can_sl], fun n => by simp only [codeC, noGs, noG_int, ptE.noG_sl, Bool.and_self], fun _ => rfl⟩
def clone0 (args : List CV) (H : List HO) : Option (CV × List HO) := match args, H with
  | [.imm 0 []], [] => some (.imm 0 [], [])
  | _, _ => none
theorem clone0_sim {k : FuncId} {E : Oracle} (hE : Sim Try.prog E) (h : SimAt Try.prog k [.imm 0 []] [] (.imm 0 []) []) : Sim Try.prog (tab k clone0 E) := by
  refine sim_tab ?_ hE
  intro args H r H' hc
  unfold clone0 at hc
  split at hc
  · simp only [Option.some.injEq, Prod.mk.injEq] at hc
    obtain ⟨rfl, rfl⟩ := hc
    exact h
  · cases hc
def BB : Oracle := tab 106 clone0 (tab 42 clone0 (tab 43 clone0 (tab 63 isF tab0)))
theorem BB_sim : Sim Try.prog BB := clone0_sim (clone0_sim (clone0_sim isF_sim (clone_sim0_43 [])) (clone_sim0_42 [])) (clone_sim0_106 [])
def annG : Ann := { glob := fun _ => List.range 300 }
noncomputable def hx20 : Option (CV × List HO) := ccall Try.prog annG BB 60 13 [] []
noncomputable def hx19 : Option (CV × List HO) := ccall Try.prog annG BB 60 21 [] []
noncomputable def hx18 : Option (CV × List HO) := ccall Try.prog annG BB 60 32 [] []
noncomputable def hx16 : Option (CV × List HO) := ccall Try.prog annG BB 60 37 [] []
def only0 (h : Option (CV × List HO)) : List CV → List HO → Option (CV × List HO) := fun a H => match a, H with | [], [] => h | _, _ => none
noncomputable def EE : Oracle := tab 13 (only0 hx20) (tab 21 (only0 hx19) (tab 32 (only0 hx18) (tab 37 (only0 hx16) BB)))
theorem only0_sim {k : FuncId} {E : Oracle} (hE : Sim Try.prog E) : Sim Try.prog (tab k (only0 (ccall Try.prog annG BB 60 k [] [])) E) := by
  refine sim_tab ?_ hE
  intro args H r H' h
  unfold only0 at h
  split at h
  · exact ccall_sim BB_sim plainN mixed 60 _ _ _ _ _ h
  · cases h
theorem EE_sim : Sim Try.prog EE := only0_sim (only0_sim (only0_sim (only0_sim BB_sim)))
noncomputable abbrev FF : Oracle := Fw Try.prog An EE
theorem x87 (e : Tm) : FF 87 [.agg (tmC e)] [] = some (ownC intC 1 (nexts e), []) := by
  refine Fw_funK rfl Try.func87 s87 (Nat.le_of_ble_eq_true rfl) (fun Q hqr hqn => ?_)
  rw [cin_t (show An.pure 87 = true from rfl) (by simp only [cans, can_int, can_bool, can_agg, can_str, tmE.can])]
  simp only [tinit, Nat.reduceAdd, c87]
  repeat' (first
  | with_reducible (first | refine Tx_assoc ?_ | refine Tx_yes rfl ?_ | refine Tx_no rfl ?_ | refine Tx_ret ?_ | refine Tx_nop ?_ | refine Tx_blockK (id := 0) (fun Q0 hn0 hx0 hr0 ho0 => ?_) | refine hn0 _ ?_ | refine hr0 _ ?_)
  | (with_reducible (first | (refine Tx_regK (fun K hK => ?_); (first | refine t87r0 ?_ | refine t87r1 ?_ | refine t87r2 ?_ | refine t87r3 ?_ | refine t87r4 ?_ | refine t87r5 ?_ | refine t87r6 ?_)) | refine hqr _ ?_); (try simp only [SS, Nat.reduceEqDiff, ccells, nmA_f, nmR_f, gn_var, gnext_setL, setL_setL, Nat.reduceMul, Nat.reduceAdd, Obt_bind, fillX, bslX, escP_list, splice, Nat.reduceLeDiff, escP, List.all_cons, List.all_nil, Bool.and_self, r87, tend, tresAll, tresC, mapMem, retv_l, retR_arr, Nat.sub_self, retv_nil, tmC]))
  | (revert hK; intro hK; (first | refine And.intro ?_ ?_ | intro _ | (with_reducible refine hK _ ?_; clear hK K))))
  all_goals simp_all [nexts, ownC, intC]
theorem x93 (e : Tm) : FF 93 [.agg (tmC e)] [] = some (ownC intC 1 (ends e), []) := by
  refine Fw_funK rfl Try.func93 s93 (Nat.le_of_ble_eq_true rfl) (fun Q hqr hqn => ?_)
  rw [cin_t (show An.pure 93 = true from rfl) (by simp only [cans, can_int, can_bool, can_agg, can_str, tmE.can])]
  simp only [tinit, Nat.reduceAdd, c93]
  repeat' (first
  | with_reducible (first | refine Tx_assoc ?_ | refine Tx_yes rfl ?_ | refine Tx_no rfl ?_ | refine Tx_ret ?_ | refine Tx_nop ?_ | refine Tx_blockK (id := 0) (fun Q0 hn0 hx0 hr0 ho0 => ?_) | refine hn0 _ ?_ | refine hr0 _ ?_)
  | (with_reducible (first | (refine Tx_regK (fun K hK => ?_); (first | refine t93r0 ?_ | refine t93r1 ?_ | refine t93r2 ?_ | refine t93r3 ?_ | refine t93r4 ?_ | refine t93r5 ?_ | refine t93r6 ?_)) | refine hqr _ ?_); (try simp only [SS, Nat.reduceEqDiff, ccells, nmA_f, nmR_f, gn_var, gnext_setL, setL_setL, Nat.reduceMul, Nat.reduceAdd, Obt_bind, fillX, bslX, escP_list, splice, Nat.reduceLeDiff, escP, List.all_cons, List.all_nil, Bool.and_self, r93, tend, tresAll, tresC, mapMem, retv_l, retR_arr, Nat.sub_self, retv_nil, tmC]))
  | (revert hK; intro hK; (first | refine And.intro ?_ ?_ | intro _ | (with_reducible refine hK _ ?_; clear hK K))))
  all_goals simp_all [ends, ownC, intC]
end Go.Cm

namespace Go.Cm
open Go.Proofs Go.Ir
theorem low0 {fid : FuncId} {d : Tmp} {m : Mem} : callC An FF fid (some d) 114 [.int .u64 0, .bool true] m = some (.int .u64 0, m) :=
  callC_V (H' := []) (Fw_iff.2 ⟨20, by kernel_rfl⟩) (fun _ _ _ => rfl) rfl rfl rfl rfl rfl
theorem x117 (n : Int) : FF 117 [.int .i64 n] [] = some (.bool (sizeOk n), []) := by
  by_cases h : 0 < n ∧ n ≤ 8
  · have : n = 1 ∨ n = 2 ∨ n = 3 ∨ n = 4 ∨ n = 5 ∨ n = 6 ∨ n = 7 ∨ n = 8 := by omega
    rcases this with rfl | rfl | rfl | rfl | rfl | rfl | rfl | rfl
    all_goals exact Fw_iff.2 ⟨20, by kernel_rfl⟩
  · have hs : sizeOk n = false := by
      cases hx : sizeOk n with
      | false => rfl
      | true => simp [sizeOk] at hx; omega
    rw [hs]
    by_cases h0 : 0 < n
    · have h8 : ¬ n ≤ 8 := by omega
      refine Fw_funK rfl Try.func117 s117 (Nat.le_of_ble_eq_true rfl) (fun Q hqr hqn => ?_)
      rw [cin_t (show An.pure 117 = true from rfl) (by simp only [cans, can_int, can_bool, can_agg, can_str])]
      simp only [tinit, Nat.reduceAdd, c117]
      repeat' (first
      | with_reducible refine Tx_ret ?_
      | (with_reducible (first | (refine Tx_regK (fun K hK => ?_); (first | refine t117r0 ?_ | refine t117r1 ?_)) | refine hqr _ ?_); (try simp only [SS, Obt_leq, Obt_gtr, Obt_sub, Obt_and, r117, tend, tresAll, tresC, mapMem, h0, h8]))
      | (revert hK; intro hK; (with_reducible refine hK _ ?_; clear hK K)))
      all_goals first | rfl | trivial | simp
    · refine Fw_funK rfl Try.func117 s117 (Nat.le_of_ble_eq_true rfl) (fun Q hqr hqn => ?_)
      rw [cin_t (show An.pure 117 = true from rfl) (by simp only [cans, can_int, can_bool, can_agg, can_str])]
      simp only [tinit, Nat.reduceAdd, c117]
      repeat' (first
      | with_reducible refine Tx_ret ?_
      | (with_reducible (first | (refine Tx_regK (fun K hK => ?_); (first | refine t117r0 ?_ | refine t117r1 ?_)) | refine hqr _ ?_); (try simp only [SS, Obt_leq, Obt_gtr, Obt_sub, Obt_and, r117, tend, tresAll, tresC, mapMem, h0]))
      | (revert hK; intro hK; (with_reducible refine hK _ ?_; clear hK K)))
      all_goals first | rfl | trivial | simp
def pairB : Option (CV × List HO) → Option Bool
  | some (.tuple [.bool _, .bool b], _) => some b
  | _ => none
def pairN : Option (CV × List HO) → Option Bool
  | some (.tuple [.int .u64 _, .bool b], _) => some b
  | _ => none
theorem pairB_of {n : Nat} {f : FuncId} {a : List CV} {b : Bool} (h : pairB (tcall Try.prog An EE n f a []) = some b) : ∃ r, (∃ x H', r = (CV.tuple [.bool x, .bool b], H')) ∧ FF f a [] = some r := by
  unfold pairB at h
  split at h
  · rename_i x y H he
    simp only [Option.some.injEq] at h
    subst h
    exact ⟨_, ⟨x, H, rfl⟩, Fw_iff.2 ⟨n, he⟩⟩
  · cases h
theorem pairN_of {n : Nat} {f : FuncId} {a : List CV} {b : Bool} (h : pairN (tcall Try.prog An EE n f a []) = some b) : ∃ r, (∃ x H', r = (CV.tuple [.int .u64 x, .bool b], H')) ∧ FF f a [] = some r := by
  unfold pairN at h
  split at h
  · rename_i x y H he
    simp only [Option.some.injEq] at h
    subst h
    exact ⟨_, ⟨x, H, rfl⟩, Fw_iff.2 ⟨n, he⟩⟩
  · cases h
theorem cond_cases {op : Int} : op = 16 ∨ op = 32 ∨ op = 48 ∨ op = 64 ∨ op = 80 ∨ op = 96 ∨ op = 112 ∨ op = 160 ∨ op = 176 ∨ op = 192 ∨ op = 208 ∨
    (condOk op = false ∧ ¬ op = 16 ∧ ¬ op = 32 ∧ ¬ op = 48 ∧ ¬ op = 64 ∧ ¬ op = 80 ∧ ¬ op = 96 ∧ ¬ op = 112 ∧ ¬ op = 160 ∧ ¬ op = 176 ∧ ¬ op = 192 ∧ ¬ op = 208) := by
  by_cases h : condOk op = true
  · simp [condOk] at h; omega
  · refine .inr (.inr (.inr (.inr (.inr (.inr (.inr (.inr (.inr (.inr (.inr ⟨by simpa using h, ?_⟩))))))))))
    simp [condOk] at h; omega
theorem alu_cases {op : Int} : op = 0 ∨ op = 16 ∨ op = 32 ∨ op = 48 ∨ op = 64 ∨ op = 80 ∨ op = 96 ∨ op = 112 ∨ op = 128 ∨ op = 144 ∨ op = 160 ∨ op = 176 ∨ op = 192 ∨
    (aluOk op = false ∧ ¬ op = 0 ∧ ¬ op = 16 ∧ ¬ op = 32 ∧ ¬ op = 48 ∧ ¬ op = 64 ∧ ¬ op = 80 ∧ ¬ op = 96 ∧ ¬ op = 112 ∧ ¬ op = 128 ∧ ¬ op = 144 ∧ ¬ op = 160 ∧ ¬ op = 176 ∧ ¬ op = 192) := by
  by_cases h : aluOk op = true
  · simp [aluOk] at h; omega
  · refine .inr (.inr (.inr (.inr (.inr (.inr (.inr (.inr (.inr (.inr (.inr (.inr (.inr ⟨by simpa using h, ?_⟩))))))))))))
    simp [aluOk] at h; omega
theorem x115 {op : Int} (h1 : ¬ op = 96) (h2 : ¬ op = 112) (h3 : ¬ op = 192) (h4 : ¬ op = 208) : FF 115 [.int .i64 op, .int .u64 0, .int .u64 0, .bool true] [] = some (.int .i64 0, []) := by
  have hk : ∀ m, callC An FF 115 (some 36) 138 [.int .u64 0, .int .u64 0] m = some (.int .i64 0, m) := fun m => callC_V (H' := []) (Fw_iff.2 ⟨20, by kernel_rfl⟩) (fun _ _ _ => rfl) rfl rfl rfl rfl rfl
  refine Fw_funK rfl Try.func115 s115 (Nat.le_of_ble_eq_true rfl) (fun Q hqr hqn => ?_)
  rw [cin_t (show An.pure 115 = true from rfl) (by simp only [cans, can_int, can_bool, can_agg, can_str])]
  simp only [tinit, Nat.reduceAdd, c115]
  repeat' (first
  | with_reducible (first | refine Tx_assoc ?_ | refine Tx_nopK ?_ | refine Tx_noK rfl ?_ | refine Tx_ret ?_ | refine Tx_exit ?_ | refine Tx_blockK (id := 0) (fun Q0 hn0 hx0 hr0 ho0 => ?_) | refine hx0 _ ?_ | refine Tx_blockK (id := 4) (fun Q4 hn4 hx4 hr4 ho4 => ?_) | refine ho4 _ _ (by decide) ?_ | refine Tx_blockE (id := 3) (fun Q3 hn3 hx3 hr3 ho3 => ?_) | refine ho3 _ _ (by decide) ?_ | refine Tx_blockE (id := 2) (fun Q2 hn2 hx2 hr2 ho2 => ?_) | refine ho2 _ _ (by decide) ?_ | refine Tx_blockE (id := 1) (fun Q1 hn1 hx1 hr1 ho1 => ?_) | refine ho1 _ _ (by decide) ?_)
  | (with_reducible (first | (refine Tx_regK (fun K hK => ?_); (first | refine t115r0 ?_ | refine t115r1 ?_ | refine t115r2 ?_ | refine t115r3 ?_ | refine t115r4 ?_ | refine t115r5 ?_ | refine t115r9 ?_)) | refine hqr _ ?_); (try simp only [SS, Nat.reduceEqDiff, r115, tend, tresAll, tresC, mapMem, retv_int, h1, h2, h3, h4, hk]))
  | (revert hK; intro hK; (with_reducible refine hK _ ?_; clear hK K)))
  all_goals first | rfl | trivial | simp
theorem x86 (op : Int) : ∃ r, (∃ b H', r = (CV.tuple [.bool b, .bool (condOk op)], H')) ∧ FF 86 [.int .i64 op, .int .u64 0, .int .u64 0, .bool true] [] = some r := by
  rcases cond_cases (op := op) with rfl | rfl | rfl | rfl | rfl | rfl | rfl | rfl | rfl | rfl | rfl | ⟨hf, h⟩
  iterate 11 exact pairB_of (n := 20) (by kernel_rfl)
  have hk : ∀ m, callC An FF 86 (some 21) 115 [.int .i64 op, .int .u64 0, .int .u64 0, .bool true] m = some (.int .i64 0, m) := fun m => callC_V (x115 h.2.2.2.2.2.1 h.2.2.2.2.2.2.1 h.2.2.2.2.2.2.2.2.2.1 h.2.2.2.2.2.2.2.2.2.2) (fun _ _ _ => rfl) rfl rfl rfl rfl rfl
  rw [hf]
  refine Fw_funE rfl Try.func86 s86 (Nat.le_of_ble_eq_true rfl) (fun Q hqr hqn => ?_)
  rw [cin_t (show An.pure 86 = true from rfl) (by simp only [cans, can_int, can_bool, can_agg, can_str])]
  simp only [tinit, Nat.reduceAdd, c86]
  repeat' (first
  | with_reducible (first | refine Tx_assoc ?_ | refine Tx_noK rfl ?_ | refine Tx_no rfl ?_ | refine Tx_ret ?_ | refine Tx_nop ?_ | refine Tx_blockK (id := 0) (fun Q0 hn0 hx0 hr0 ho0 => ?_) | refine hn0 _ ?_)
  | (with_reducible (first | (refine Tx_regK (fun K hK => ?_); (first | refine t86r0 ?_ | refine t86r1 ?_ | refine t86r2 ?_ | refine t86r3 ?_ | refine t86r4 ?_ | refine t86r6 ?_ | refine t86r8 ?_ | refine t86r10 ?_ | refine t86r11 ?_ | refine t86r13 ?_ | refine t86r14 ?_ | refine t86r16 ?_ | refine t86r17 ?_ | refine t86r19 ?_ | refine t86r20 ?_ | refine t86r22 ?_)) | refine hqr _ ?_); (try simp only [SS, Nat.reduceEqDiff, r86, tend, tresAll, tresC, mapMem, tup_two, low0, hk, h]))
  | (revert hK; intro hK; (with_reducible refine hK _ ?_; clear hK K)))
  all_goals first | exact ⟨_, _, rfl, rfl⟩ | exact ⟨_, _, rfl⟩ | simp
theorem x140 {op : Int} (h : ¬ op = 0 ∧ ¬ op = 16 ∧ ¬ op = 32 ∧ ¬ op = 64 ∧ ¬ op = 80 ∧ ¬ op = 128 ∧ ¬ op = 160 ∧ ¬ op = 176) : FF 140 [.int .i64 op, .int .u64 0, .int .u64 0] [] = some (.tuple [.int .u64 0, .bool false], []) := by
  refine Fw_funK rfl Try.func140 s140 (Nat.le_of_ble_eq_true rfl) (fun Q hqr hqn => ?_)
  rw [cin_t (show An.pure 140 = true from rfl) (by simp only [cans, can_int, can_bool, can_agg, can_str])]
  simp only [tinit, Nat.reduceAdd, c140]
  repeat' (first
  | with_reducible (first | refine Tx_assoc ?_ | refine Tx_no rfl ?_ | refine Tx_ret ?_ | refine Tx_nop ?_ | refine Tx_blockK (id := 0) (fun Q0 hn0 hx0 hr0 ho0 => ?_) | refine hn0 _ ?_)
  | (with_reducible (first | (refine Tx_regK (fun K hK => ?_); (first | refine t140r0 ?_ | refine t140r1 ?_ | refine t140r2 ?_ | refine t140r4 ?_ | refine t140r6 ?_ | refine t140r8 ?_ | refine t140r10 ?_ | refine t140r12 ?_ | refine t140r14 ?_ | refine t140r16 ?_ | refine t140r18 ?_)) | refine hqr _ ?_); (try simp only [SS, Nat.reduceEqDiff, r140, tend, tresAll, tresC, mapMem, retv_int, tup_two, h]))
  | (revert hK; intro hK; (with_reducible refine hK _ ?_; clear hK K)))
  all_goals first | rfl | trivial | simp
theorem x116 (op : Int) : ∃ r, (∃ b H', r = (CV.tuple [.int .u64 b, .bool (aluOk op)], H')) ∧ FF 116 [.int .i64 op, .int .u64 0, .int .u64 0, .bool true] [] = some r := by
  rcases alu_cases (op := op) with rfl | rfl | rfl | rfl | rfl | rfl | rfl | rfl | rfl | rfl | rfl | rfl | rfl | ⟨hf, h⟩
  iterate 13 exact pairN_of (n := 20) (by kernel_rfl)
  have hk : ∀ m, callC An FF 116 (some 49) 140 [.int .i64 op, .int .u64 0, .int .u64 0] m = some (.tuple [.int .u64 0, .bool false], m) := fun m => callC_V (x140 (by simp only [h, not_false_eq_true, and_self])) (fun _ _ _ => rfl) rfl rfl rfl rfl rfl
  rw [hf]
  refine Fw_funE rfl Try.func116 s116 (Nat.le_of_ble_eq_true rfl) (fun Q hqr hqn => ?_)
  rw [cin_t (show An.pure 116 = true from rfl) (by simp only [cans, can_int, can_bool, can_agg, can_str])]
  simp only [tinit, Nat.reduceAdd, c116]
  repeat' (first
  | with_reducible (first | refine Tx_assoc ?_ | refine Tx_noK rfl ?_ | refine Tx_no rfl ?_ | refine Tx_ret ?_ | refine Tx_nop ?_ | refine Tx_blockK (id := 0) (fun Q0 hn0 hx0 hr0 ho0 => ?_) | refine hn0 _ ?_)
  | (with_reducible (first | (refine Tx_regK (fun K hK => ?_); (first | refine t116r0 ?_ | refine t116r1 ?_ | refine t116r2 ?_ | refine t116r3 ?_ | refine t116r7 ?_ | refine t116r11 ?_ | refine t116r12 ?_ | refine t116r13 ?_ | refine t116r15 ?_ | refine t116r16 ?_)) | refine hqr _ ?_); (try simp only [SS, Nat.reduceEqDiff, Obt_ext, r116, tend, tresAll, tresC, mapMem, retv_int, tup_two, low0, hk, h]))
  | (revert hK; intro hK; (with_reducible refine hK _ ?_; clear hK K)))
  all_goals first | exact ⟨_, _, rfl, rfl⟩ | exact ⟨_, _, rfl⟩ | simp
noncomputable def htab : Option (CV × List HO) := tcall Try.prog An EE 20 141 [] []
noncomputable def htabL : List (Int × CV) := match htab with
  | some (_, [.map _ es]) => es.map fun p => (match p.1 with | .int _ n => n | _ => 0, p.2)
  | _ => []
theorem htab_eq : htab = some (.map (.g 0) 1, [.map 1 (esI .i64 htabL)]) := by kernel_rfl
theorem htabL_keys : htabL.map (·.1) = [1, 2, 3, 4, 5] := by kernel_rfl
def tabB : Option (CV × List HO) → Option (Bool × Nat)
  | some (.tuple [.agg [.str _, x, .int .i64 _], .bool b], _) => if noG x && escP x then (clen x).map fun n => (b, n) else none
  | _ => none
theorem tabB_of {n c : Nat} {f : FuncId} {a : List CV} {b : Bool} (h : tabB (tcall Try.prog An EE n f a []) = some (b, c)) :
    ∃ r, (∃ s x k H', r = (CV.tuple [.agg [.str s, x, .int .i64 k], .bool b], H') ∧ clen x = some c ∧ noG x = true ∧ escP x = true) ∧ FF f a [] = some r := by
  unfold tabB at h
  split at h
  · rename_i s x k y H he
    split at h
    · rename_i hx
      simp only [Bool.and_eq_true] at hx
      simp only [Option.map_eq_some_iff, Prod.mk.injEq] at h
      obtain ⟨c', h1, rfl, rfl⟩ := h
      exact ⟨_, ⟨s, x, k, H, rfl, h1, hx.1, hx.2⟩, Fw_iff.2 ⟨n, he⟩⟩
    · cases h
  · cases h
theorem x118 (n : Int) : ∃ r, (∃ s x k H', r = (CV.tuple [.agg [.str s, x, .int .i64 k], .bool (helpArgs n).isSome], H') ∧ clen x = some ((helpArgs n).getD 0) ∧ noG x = true ∧ escP x = true) ∧ FF 118 [.int .i64 n] [] = some r := by
  by_cases h : 1 ≤ n ∧ n ≤ 5
  · have : n = 1 ∨ n = 2 ∨ n = 3 ∨ n = 4 ∨ n = 5 := by omega
    rcases this with rfl | rfl | rfl | rfl | rfl
    all_goals exact tabB_of (n := 20) (by kernel_rfl)
  · have hn : helpArgs n = none := by
      unfold helpArgs
      rw [if_neg (by omega), if_neg (by omega), if_neg (by omega), if_neg (by omega), if_neg (by omega)]
    have hal : al htabL n = none := by
      have key : ∀ l : List (Int × CV), (∀ x ∈ l.map (·.1), x ≠ n) → al l n = none := by
        intro l
        induction l with
        | nil => intro _; rfl
        | cons p l ih =>
          intro hp
          obtain ⟨a, v⟩ := p
          simp only [List.map_cons, List.mem_cons, forall_eq_or_imp] at hp
          simp only [al, if_neg hp.1, ih hp.2]
      refine key _ fun x hx => ?_
      rw [htabL_keys] at hx
      simp at hx
      omega
    have hk : ∀ L, callC An FF 118 (some 7) 141 [] ⟨L, []⟩ = some (.map (.g 0) 1, ⟨L, [.map 1 (esI .i64 htabL)]⟩) := fun L => by
      rw [callC_I rfl rfl (show FF 141 [] [] = _ from Fw_iff.2 ⟨20, htab_eq⟩)]; rfl
    have hlk := fun {L : List (Nat × HO)} => lookX_int (t := 3) (a := n) (z := .agg [.str .empty, .nil, .int .i64 0]) (ok := true) Try.underlying3 (mapOf_g (m := ⟨L, [.map 1 (esI .i64 htabL)]⟩) (a := 0) (g := 1) (l := esI .i64 htabL) rfl)
    simp only [hal, if_true] at hlk
    rw [hn]
    refine Fw_funE rfl Try.func118 s118 (Nat.le_of_ble_eq_true rfl) (fun Q hqr hqn => ?_)
    rw [cin_t (show An.pure 118 = true from rfl) (by simp only [cans, can_int, can_bool, can_agg, can_str])]
    simp only [tinit, Nat.reduceAdd, c118]
    have hsetL : ∀ L j o, setL ⟨L, []⟩ j o = ⟨lset L j o, []⟩ := fun _ _ _ => rfl
    repeat' (first
    | with_reducible refine Tx_ret ?_
    | (with_reducible (first | (refine Tx_regK (fun K hK => ?_); (first | refine t118r0 ?_ | refine t118r1 ?_ | refine t118r2 ?_)) | refine hqr _ ?_); (try simp only [SS, Nat.reduceEqDiff, ccells, gn_var, gnext_lset, setL_setL, Nat.reduceAdd, Obt_ext, splice, escP, r118, cl174, tend, tresAll, tresC, mapMem, retv_agc, esc_i, esc_n, esc_s, tup_two, ld1_g, ldA_g, getH, getH0, setH, setH0, gnewL_eq, gnewP_eq, gnewA_eq, gnewR_eq, gnewM_eq, gnewK_eq, nmA_t, nmR_t, setG, stX_g, stW_var, List.append_assoc, List.length_append, List.set_cons_succ, List.set_cons_zero, escQ_list, escQ, mmX, invokeC_func, hsetL, hk, hlk, Option.getD_none]))
    | (revert hK; intro hK; (with_reducible refine hK _ ?_; clear hK K)))
    all_goals exact ⟨_, .nil, _, _, ⟨rfl, rfl⟩, rfl, rfl, rfl⟩
set_option maxHeartbeats 4000000 in
theorem x90 (n : Nd) (h0 : 0 ≤ n.imm) (ha : n.args.length ≤ 17592186044416) : FF 90 [.agg (ndC n)] [] = some (.bool (nodeOk n), []) := by
  obtain ⟨_, ⟨x, H', rfl⟩, hA⟩ := x116 n.alu
  have hA : ∀ m, callC An FF 90 (some 18) 116 [.int .i64 n.alu, .int .u64 0, .int .u64 0, .bool true] m = some (.tuple [.int .u64 x, .bool (aluOk n.alu)], m) := fun m =>
    callC_V hA (fun _ _ _ => rfl) rfl rfl rfl rfl rfl
  have hS : ∀ m, callC An FF 90 (some 27) 117 [.int .i64 n.size] m = some (.bool (sizeOk n.size), m) := fun m => callC_V (x117 n.size) (fun _ _ _ => rfl) rfl rfl rfl rfl rfl
  by_cases h1 : n.op = 1
  · refine Fw_funK rfl Try.func90 s90 (Nat.le_of_ble_eq_true rfl) (fun Q hqr hqn => ?_)
    rw [cin_t (show An.pure 90 = true from rfl) (by simp only [cans, can_int, can_bool, can_agg, can_str, ndE.can])]
    simp only [tinit, Nat.reduceAdd, c90]
    repeat' (first
    | with_reducible (first | refine Tx_assoc ?_ | refine Tx_nopK ?_ | refine Tx_yesK rfl ?_ | refine Tx_yes rfl ?_ | refine Tx_ret ?_ | refine Tx_blockK (id := 0) (fun Q0 hn0 hx0 hr0 ho0 => ?_) | refine hr0 _ ?_)
    | (with_reducible (first | (refine Tx_regK (fun K hK => ?_); (first | refine t90r0 ?_ | refine t90r1 ?_ | refine t90r2 ?_ | refine t90r5 ?_)) | refine hqr _ ?_); (try simp only [SS, Nat.reduceEqDiff, ccells, r90, tend, tresAll, tresC, mapMem, ndC, h1]))
    | (revert hK; intro hK; (with_reducible refine hK _ ?_; clear hK K)))
    all_goals simp [nodeOk, h1]
  by_cases h2 : n.op = 2
  · refine Fw_funK rfl Try.func90 s90 (Nat.le_of_ble_eq_true rfl) (fun Q hqr hqn => ?_)
    rw [cin_t (show An.pure 90 = true from rfl) (by simp only [cans, can_int, can_bool, can_agg, can_str, ndE.can])]
    simp only [tinit, Nat.reduceAdd, c90]
    repeat' (first
    | with_reducible (first | refine Tx_assoc ?_ | refine Tx_nopK ?_ | refine Tx_yesK rfl ?_ | refine Tx_noK rfl ?_ | refine Tx_yes rfl ?_ | refine Tx_ret ?_ | refine Tx_blockK (id := 0) (fun Q0 hn0 hx0 hr0 ho0 => ?_) | refine hr0 _ ?_)
    | (with_reducible (first | (refine Tx_regK (fun K hK => ?_); (first | refine t90r0 ?_ | refine t90r1 ?_ | refine t90r2 ?_ | refine t90r3 ?_ | refine t90r5 ?_)) | refine hqr _ ?_); (try simp only [SS, Nat.reduceEqDiff, ccells, r90, tend, tresAll, tresC, mapMem, ndC, h2]))
    | (revert hK; intro hK; (first | refine And.intro ?_ ?_ | intro _ | omega | (with_reducible refine hK _ ?_; clear hK K))))
    all_goals simp [nodeOk, h2]
  by_cases h3 : n.op = 3
  · refine Fw_funK rfl Try.func90 s90 (Nat.le_of_ble_eq_true rfl) (fun Q hqr hqn => ?_)
    rw [cin_t (show An.pure 90 = true from rfl) (by simp only [cans, can_int, can_bool, can_agg, can_str, ndE.can])]
    simp only [tinit, Nat.reduceAdd, c90]
    repeat' (first
    | with_reducible (first | refine Tx_assoc ?_ | refine Tx_noK rfl ?_ | refine Tx_yes rfl ?_ | refine Tx_ret ?_ | refine Tx_blockK (id := 0) (fun Q0 hn0 hx0 hr0 ho0 => ?_) | refine hr0 _ ?_)
    | (with_reducible (first | (refine Tx_regK (fun K hK => ?_); (first | refine t90r0 ?_ | refine t90r1 ?_ | refine t90r2 ?_ | refine t90r3 ?_ | refine t90r4 ?_ | refine t90r5 ?_)) | refine hqr _ ?_); (try simp only [SS, Nat.reduceEqDiff, ccells, r90, tend, tresAll, tresC, mapMem, ndC, h3]))
    | (revert hK; intro hK; (first | refine And.intro ?_ ?_ | intro _ | omega | (with_reducible refine hK _ ?_; clear hK K))))
    all_goals simp [nodeOk, h3]
  by_cases h4 : n.op = 4
  · refine Fw_funK rfl Try.func90 s90 (Nat.le_of_ble_eq_true rfl) (fun Q hqr hqn => ?_)
    rw [cin_t (show An.pure 90 = true from rfl) (by simp only [cans, can_int, can_bool, can_agg, can_str, ndE.can])]
    simp only [tinit, Nat.reduceAdd, c90]
    repeat' (first
    | with_reducible (first | refine Tx_assoc ?_ | refine Tx_noK rfl ?_ | refine Tx_yes rfl ?_ | refine Tx_no rfl ?_ | refine Tx_ret ?_ | refine Tx_blockK (id := 0) (fun Q0 hn0 hx0 hr0 ho0 => ?_) | refine hr0 _ ?_)
    | (with_reducible (first | (refine Tx_regK (fun K hK => ?_); (first | refine t90r0 ?_ | refine t90r1 ?_ | refine t90r2 ?_ | refine t90r3 ?_ | refine t90r4 ?_ | refine t90r6 ?_ | refine t90r7 ?_ | refine t90r8 ?_)) | refine hqr _ ?_); (try simp only [SS, Nat.reduceEqDiff, ccells, Obt_ext, r90, tend, tresAll, tresC, mapMem, ndC, h4, hA]))
    | (revert hK; intro hK; (first | refine And.intro ?_ ?_ | intro _ | omega | (with_reducible refine hK _ ?_; clear hK K))))
    all_goals simp [nodeOk, h4]
  by_cases h5 : n.op = 5
  · have hn : nodeOk n = (sizeOk n.size && decide (-32768 ≤ n.off ∧ n.off ≤ 32767)) := by simp [nodeOk, h5]
    rw [hn]
    generalize sizeOk n.size = sb at hS
    by_cases o1 : -32768 ≤ n.off
    · by_cases o2 : n.off < 32768
      · have o3 : n.off ≤ 32767 := by omega
        cases sb
        all_goals
          refine Fw_funK rfl Try.func90 s90 (Nat.le_of_ble_eq_true rfl) (fun Q hqr hqn => ?_)
          rw [cin_t (show An.pure 90 = true from rfl) (by simp only [cans, can_int, can_bool, can_agg, can_str, ndE.can])]
          simp only [tinit, Nat.reduceAdd, c90]
          repeat' (first
          | with_reducible (first | refine Tx_assoc ?_ | refine Tx_nopK ?_ | refine Tx_yesK rfl ?_ | refine Tx_noK rfl ?_ | refine Tx_yes rfl ?_ | refine Tx_no rfl ?_ | refine Tx_ret ?_ | refine Tx_blockK (id := 0) (fun Q0 hn0 hx0 hr0 ho0 => ?_) | refine hr0 _ ?_)
          | (with_reducible (first | (refine Tx_regK (fun K hK => ?_); (first | refine t90r0 ?_ | refine t90r1 ?_ | refine t90r2 ?_ | refine t90r3 ?_ | refine t90r4 ?_ | refine t90r6 ?_ | refine t90r9 ?_ | refine t90r11 ?_)) | refine hqr _ ?_); (try simp only [SS, Nat.reduceEqDiff, ccells, gdO_skip, Bool.true_and, r90, tend, tresAll, tresC, mapMem, ndC, h5, hS, o1, o2]))
          | (revert hK; intro hK; (first | refine And.intro ?_ ?_ | intro _ | omega | (with_reducible refine hK _ ?_; clear hK K))))
          all_goals simp [o1, o3]
      · have o3 : ¬ n.off ≤ 32767 := by omega
        cases sb
        all_goals
          refine Fw_funK rfl Try.func90 s90 (Nat.le_of_ble_eq_true rfl) (fun Q hqr hqn => ?_)
          rw [cin_t (show An.pure 90 = true from rfl) (by simp only [cans, can_int, can_bool, can_agg, can_str, ndE.can])]
          simp only [tinit, Nat.reduceAdd, c90]
          repeat' (first
          | with_reducible (first | refine Tx_assoc ?_ | refine Tx_nopK ?_ | refine Tx_yesK rfl ?_ | refine Tx_noK rfl ?_ | refine Tx_yes rfl ?_ | refine Tx_no rfl ?_ | refine Tx_ret ?_ | refine Tx_blockK (id := 0) (fun Q0 hn0 hx0 hr0 ho0 => ?_) | refine hr0 _ ?_)
          | (with_reducible (first | (refine Tx_regK (fun K hK => ?_); (first | refine t90r0 ?_ | refine t90r1 ?_ | refine t90r2 ?_ | refine t90r3 ?_ | refine t90r4 ?_ | refine t90r6 ?_ | refine t90r9 ?_ | refine t90r11 ?_)) | refine hqr _ ?_); (try simp only [SS, Nat.reduceEqDiff, ccells, gdO_skip, Bool.true_and, r90, tend, tresAll, tresC, mapMem, ndC, h5, hS, o1, o2]))
          | (revert hK; intro hK; (first | refine And.intro ?_ ?_ | intro _ | omega | (with_reducible refine hK _ ?_; clear hK K))))
          all_goals simp [o3]
    · cases sb
      all_goals
        refine Fw_funK rfl Try.func90 s90 (Nat.le_of_ble_eq_true rfl) (fun Q hqr hqn => ?_)
        rw [cin_t (show An.pure 90 = true from rfl) (by simp only [cans, can_int, can_bool, can_agg, can_str, ndE.can])]
        simp only [tinit, Nat.reduceAdd, c90]
        repeat' (first
        | with_reducible (first | refine Tx_assoc ?_ | refine Tx_nopK ?_ | refine Tx_yesK rfl ?_ | refine Tx_noK rfl ?_ | refine Tx_yes rfl ?_ | refine Tx_no rfl ?_ | refine Tx_ret ?_ | refine Tx_blockK (id := 0) (fun Q0 hn0 hx0 hr0 ho0 => ?_) | refine hr0 _ ?_)
        | (with_reducible (first | (refine Tx_regK (fun K hK => ?_); (first | refine t90r0 ?_ | refine t90r1 ?_ | refine t90r2 ?_ | refine t90r3 ?_ | refine t90r4 ?_ | refine t90r6 ?_ | refine t90r9 ?_ | refine t90r11 ?_)) | refine hqr _ ?_); (try simp only [SS, Nat.reduceEqDiff, ccells, gdO_skip, Bool.true_and, r90, tend, tresAll, tresC, mapMem, ndC, h5, hS, o1]))
        | (revert hK; intro hK; (first | refine And.intro ?_ ?_ | intro _ | omega | (with_reducible refine hK _ ?_; clear hK K))))
        all_goals simp [o1]
  by_cases h6 : n.op = 6
  · have hn : nodeOk n = (sizeOk n.size && decide (-32768 ≤ n.off ∧ n.off ≤ 32767) && decide (n.id = -1)) := by simp [nodeOk, h6]
    rw [hn]
    generalize sizeOk n.size = sb at hS
    by_cases o1 : -32768 ≤ n.off
    · by_cases o2 : n.off < 32768
      · have o3 : n.off ≤ 32767 := by omega
        by_cases o4 : n.id = -1
        · cases sb
          all_goals
            refine Fw_funK rfl Try.func90 s90 (Nat.le_of_ble_eq_true rfl) (fun Q hqr hqn => ?_)
            rw [cin_t (show An.pure 90 = true from rfl) (by simp only [cans, can_int, can_bool, can_agg, can_str, ndE.can])]
            simp only [tinit, Nat.reduceAdd, c90]
            repeat' (first
            | with_reducible (first | refine Tx_assoc ?_ | refine Tx_noK rfl ?_ | refine Tx_yes rfl ?_ | refine Tx_no rfl ?_ | refine Tx_ret ?_ | refine Tx_blockK (id := 0) (fun Q0 hn0 hx0 hr0 ho0 => ?_) | refine hr0 _ ?_)
            | (with_reducible (first | (refine Tx_regK (fun K hK => ?_); (first | refine t90r0 ?_ | refine t90r1 ?_ | refine t90r2 ?_ | refine t90r3 ?_ | refine t90r4 ?_ | refine t90r6 ?_ | refine t90r9 ?_ | refine t90r10 ?_ | refine t90r11 ?_)) | refine hqr _ ?_); (try simp only [SS, Nat.reduceEqDiff, ccells, gdO_skip, Bool.true_and, Bool.and_true, decide_true, r90, tend, tresAll, tresC, mapMem, ndC, h6, hS, o1, o2, o4]))
            | (revert hK; intro hK; (first | refine And.intro ?_ ?_ | intro _ | omega | (with_reducible refine hK _ ?_; clear hK K))))
            all_goals simp [o1, o3, o4]
        · cases sb
          all_goals
            refine Fw_funK rfl Try.func90 s90 (Nat.le_of_ble_eq_true rfl) (fun Q hqr hqn => ?_)
            rw [cin_t (show An.pure 90 = true from rfl) (by simp only [cans, can_int, can_bool, can_agg, can_str, ndE.can])]
            simp only [tinit, Nat.reduceAdd, c90]
            repeat' (first
            | with_reducible (first | refine Tx_assoc ?_ | refine Tx_noK rfl ?_ | refine Tx_yes rfl ?_ | refine Tx_no rfl ?_ | refine Tx_ret ?_ | refine Tx_blockK (id := 0) (fun Q0 hn0 hx0 hr0 ho0 => ?_) | refine hr0 _ ?_)
            | (with_reducible (first | (refine Tx_regK (fun K hK => ?_); (first | refine t90r0 ?_ | refine t90r1 ?_ | refine t90r2 ?_ | refine t90r3 ?_ | refine t90r4 ?_ | refine t90r6 ?_ | refine t90r9 ?_ | refine t90r10 ?_ | refine t90r11 ?_)) | refine hqr _ ?_); (try simp only [SS, Nat.reduceEqDiff, ccells, gdO_skip, Bool.true_and, decide_false, r90, tend, tresAll, tresC, mapMem, ndC, h6, hS, o1, o2, o4]))
            | (revert hK; intro hK; (first | refine And.intro ?_ ?_ | intro _ | omega | (with_reducible refine hK _ ?_; clear hK K))))
            all_goals simp [o1, o3, o4]
      · have o3 : ¬ n.off ≤ 32767 := by omega
        cases sb
        all_goals
          refine Fw_funK rfl Try.func90 s90 (Nat.le_of_ble_eq_true rfl) (fun Q hqr hqn => ?_)
          rw [cin_t (show An.pure 90 = true from rfl) (by simp only [cans, can_int, can_bool, can_agg, can_str, ndE.can])]
          simp only [tinit, Nat.reduceAdd, c90]
          repeat' (first
          | with_reducible (first | refine Tx_assoc ?_ | refine Tx_noK rfl ?_ | refine Tx_yes rfl ?_ | refine Tx_no rfl ?_ | refine Tx_ret ?_ | refine Tx_blockK (id := 0) (fun Q0 hn0 hx0 hr0 ho0 => ?_) | refine hr0 _ ?_)
          | (with_reducible (first | (refine Tx_regK (fun K hK => ?_); (first | refine t90r0 ?_ | refine t90r1 ?_ | refine t90r2 ?_ | refine t90r3 ?_ | refine t90r4 ?_ | refine t90r6 ?_ | refine t90r9 ?_ | refine t90r10 ?_ | refine t90r11 ?_)) | refine hqr _ ?_); (try simp only [SS, Nat.reduceEqDiff, ccells, gdO_skip, Bool.true_and, r90, tend, tresAll, tresC, mapMem, ndC, h6, hS, o1, o2]))
          | (revert hK; intro hK; (first | refine And.intro ?_ ?_ | intro _ | omega | (with_reducible refine hK _ ?_; clear hK K))))
          all_goals simp [o3]
    · cases sb
      all_goals
        refine Fw_funK rfl Try.func90 s90 (Nat.le_of_ble_eq_true rfl) (fun Q hqr hqn => ?_)
        rw [cin_t (show An.pure 90 = true from rfl) (by simp only [cans, can_int, can_bool, can_agg, can_str, ndE.can])]
        simp only [tinit, Nat.reduceAdd, c90]
        repeat' (first
        | with_reducible (first | refine Tx_assoc ?_ | refine Tx_noK rfl ?_ | refine Tx_yes rfl ?_ | refine Tx_no rfl ?_ | refine Tx_ret ?_ | refine Tx_blockK (id := 0) (fun Q0 hn0 hx0 hr0 ho0 => ?_) | refine hr0 _ ?_)
        | (with_reducible (first | (refine Tx_regK (fun K hK => ?_); (first | refine t90r0 ?_ | refine t90r1 ?_ | refine t90r2 ?_ | refine t90r3 ?_ | refine t90r4 ?_ | refine t90r6 ?_ | refine t90r9 ?_ | refine t90r10 ?_ | refine t90r11 ?_)) | refine hqr _ ?_); (try simp only [SS, Nat.reduceEqDiff, ccells, gdO_skip, Bool.true_and, r90, tend, tresAll, tresC, mapMem, ndC, h6, hS, o1]))
        | (revert hK; intro hK; (first | refine And.intro ?_ ?_ | intro _ | omega | (with_reducible refine hK _ ?_; clear hK K))))
        all_goals simp [o1]
  by_cases h7 : n.op = 7
  · obtain ⟨q, hq⟩ : ∃ q, q = min n.imm 1048576 := ⟨_, rfl⟩
    have hmm : minmax false [.int .u64 n.imm, .int .u64 1048576] = some (.int .u64 q) := by
      simp only [minmax, if_true, Bool.false_eq_true, if_false]
      by_cases h : (1048576 : Int) < n.imm
      · rw [if_pos h, hq]; congr 2; omega
      · rw [if_neg h, hq]; congr 2; omega
    have hw : IntKind.i64.wrap q = q := wI (by omega) (by omega)
    have hh : helpArgs q = helpArgs n.imm := by
      by_cases h : (1048576 : Int) < n.imm
      · have : q = 1048576 := by omega
        rw [this]
        unfold helpArgs
        rw [if_neg (by omega), if_neg (by omega), if_neg (by omega), if_neg (by omega), if_neg (by omega), if_neg (by omega), if_neg (by omega), if_neg (by omega), if_neg (by omega), if_neg (by omega)]
      · have : q = n.imm := by omega
        rw [this]
    obtain ⟨_, ⟨s, x2, k2, H2, rfl, hl, hg, hp⟩, hT⟩ := x118 q
    have hc2 : ccells x2 = some [x2] := by cases x2 <;> first | rfl | simp [clen] at hl
    have hT : ∀ m, callC An FF 90 (some 55) 118 [.int .i64 q] m = some (.tuple [.agg [.str s, x2, .int .i64 k2], .bool (helpArgs q).isSome], m) := fun m =>
      callC_V hT (fun _ _ _ => rfl) rfl rfl rfl rfl (by simp only [noG, noGs, hg, Bool.and_self])
    have hn : nodeOk n = decide (helpArgs n.imm = some n.args.length) := by simp [nodeOk, h7]
    rw [hn]
    rw [hh] at hT hl
    generalize helpArgs n.imm = o at hT hl
    cases o with
    | none =>
      refine Fw_funK rfl Try.func90 s90 (Nat.le_of_ble_eq_true rfl) (fun Q hqr hqn => ?_)
      rw [cin_t (show An.pure 90 = true from rfl) (by simp only [cans, can_int, can_bool, can_agg, can_str, ndE.can])]
      simp only [tinit, Nat.reduceAdd, c90]
      repeat' (first
      | with_reducible (first | refine Tx_assoc ?_ | refine Tx_noK rfl ?_ | refine Tx_yes rfl ?_ | refine Tx_no rfl ?_ | refine Tx_ret ?_ | refine Tx_blockK (id := 0) (fun Q0 hn0 hx0 hr0 ho0 => ?_) | refine hr0 _ ?_)
      | (with_reducible (first | (refine Tx_regK (fun K hK => ?_); (first | refine t90r0 ?_ | refine t90r1 ?_ | refine t90r2 ?_ | refine t90r3 ?_ | refine t90r4 ?_ | refine t90r6 ?_ | refine t90r9 ?_ | refine t90r10 ?_ | refine t90r12 ?_ | refine t90r13 ?_ | refine t90r14 ?_)) | refine hqr _ ?_); (try simp only [SS, Nat.reduceEqDiff, ccells, gn_var, gnext_setL, setL_setL, Nat.reduceAdd, lenS, Obt_conv, Obt_ext, splice, r90, tend, tresAll, tresC, mapMem, ndC, h7, hmm, hw, hT, hp, Option.isSome_none]))
      | (revert hK; intro hK; (first | refine And.intro ?_ ?_ | intro _ | omega | (with_reducible refine hK _ ?_; clear hK K))))
      all_goals simp
    | some c =>
      simp only [Option.getD_some] at hl
      by_cases hcl : n.args.length = c
      · refine Fw_funK rfl Try.func90 s90 (Nat.le_of_ble_eq_true rfl) (fun Q hqr hqn => ?_)
        rw [cin_t (show An.pure 90 = true from rfl) (by simp only [cans, can_int, can_bool, can_agg, can_str, ndE.can])]
        simp only [tinit, Nat.reduceAdd, c90]
        repeat' (first
        | with_reducible (first | refine Tx_assoc ?_ | refine Tx_noK rfl ?_ | refine Tx_yes rfl ?_ | refine Tx_no rfl ?_ | refine Tx_ret ?_ | refine Tx_blockK (id := 0) (fun Q0 hn0 hx0 hr0 ho0 => ?_) | refine hr0 _ ?_)
        | (with_reducible (first | (refine Tx_regK (fun K hK => ?_); (first | refine t90r0 ?_ | refine t90r1 ?_ | refine t90r2 ?_ | refine t90r3 ?_ | refine t90r4 ?_ | refine t90r6 ?_ | refine t90r9 ?_ | refine t90r10 ?_ | refine t90r12 ?_ | refine t90r13 ?_ | refine t90r14 ?_)) | refine hqr _ ?_); (try simp only [SS, Nat.reduceEqDiff, ccells, gn_var, gnext_setL, setL_setL, Nat.reduceAdd, lenS, Obt_conv, Obt_ext, splice, decide_true, r90, tend, tresAll, tresC, mapMem, ndC, h7, hmm, hw, hT, hp, hl, hcl, clen_sl, Option.isSome_some]))
        | (revert hK; intro hK; (first | refine And.intro ?_ ?_ | intro _ | omega | (with_reducible refine hK _ ?_; clear hK K))))
        all_goals simp [hcl]
      · have hcl2 : ¬ (n.args.length : Int) = c := by omega
        refine Fw_funK rfl Try.func90 s90 (Nat.le_of_ble_eq_true rfl) (fun Q hqr hqn => ?_)
        rw [cin_t (show An.pure 90 = true from rfl) (by simp only [cans, can_int, can_bool, can_agg, can_str, ndE.can])]
        simp only [tinit, Nat.reduceAdd, c90]
        repeat' (first
        | with_reducible (first | refine Tx_assoc ?_ | refine Tx_noK rfl ?_ | refine Tx_yes rfl ?_ | refine Tx_no rfl ?_ | refine Tx_ret ?_ | refine Tx_blockK (id := 0) (fun Q0 hn0 hx0 hr0 ho0 => ?_) | refine hr0 _ ?_)
        | (with_reducible (first | (refine Tx_regK (fun K hK => ?_); (first | refine t90r0 ?_ | refine t90r1 ?_ | refine t90r2 ?_ | refine t90r3 ?_ | refine t90r4 ?_ | refine t90r6 ?_ | refine t90r9 ?_ | refine t90r10 ?_ | refine t90r12 ?_ | refine t90r13 ?_ | refine t90r14 ?_)) | refine hqr _ ?_); (try simp only [SS, Nat.reduceEqDiff, ccells, gn_var, gnext_setL, setL_setL, Nat.reduceAdd, lenS, Obt_conv, Obt_ext, splice, r90, tend, tresAll, tresC, mapMem, ndC, h7, hmm, hw, hT, hp, hl, hcl2, clen_sl, Option.isSome_some]))
        | (revert hK; intro hK; (first | refine And.intro ?_ ?_ | intro _ | omega | (with_reducible refine hK _ ?_; clear hK K))))
        all_goals simp; omega
  · refine Fw_funK rfl Try.func90 s90 (Nat.le_of_ble_eq_true rfl) (fun Q hqr hqn => ?_)
    rw [cin_t (show An.pure 90 = true from rfl) (by simp only [cans, can_int, can_bool, can_agg, can_str, ndE.can])]
    simp only [tinit, Nat.reduceAdd, c90]
    repeat' (first
    | with_reducible (first | refine Tx_assoc ?_ | refine Tx_noK rfl ?_ | refine Tx_no rfl ?_ | refine Tx_ret ?_ | refine Tx_nop ?_ | refine Tx_blockK (id := 0) (fun Q0 hn0 hx0 hr0 ho0 => ?_) | refine hn0 _ ?_)
    | (with_reducible (first | (refine Tx_regK (fun K hK => ?_); (first | refine t90r0 ?_ | refine t90r1 ?_ | refine t90r2 ?_ | refine t90r3 ?_ | refine t90r4 ?_ | refine t90r6 ?_ | refine t90r9 ?_ | refine t90r10 ?_ | refine t90r12 ?_ | refine t90r15 ?_)) | refine hqr _ ?_); (try simp only [SS, Nat.reduceEqDiff, ccells, r90, tend, tresAll, tresC, mapMem, ndC, h1, h2, h3, h4, h5, h6, h7]))
    | (revert hK; intro hK; (with_reducible refine hK _ ?_; clear hK K)))
    all_goals simp [nodeOk, h1, h2, h3, h4, h5, h6, h7]
end Go.Cm
