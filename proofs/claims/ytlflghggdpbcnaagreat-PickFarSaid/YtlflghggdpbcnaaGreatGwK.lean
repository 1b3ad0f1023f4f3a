import Derived.Test.YtlflghggdpbcnaaGreatCxM
import Derived.Test.YtlflghggdpbcnaaGreatGyC
import Derived.Test.YtlflghggdpbcnaaGreatGpA
import Derived.KernelRfl
set_option linter.unusedSimpArgs false
set_option linter.unusedVariables false
namespace Go.Cm
open Go.Proofs
def fdP (n : Int) (s : Bool) (k : Nat) : List CV := [.int .i64 n, .bool s, .func (.func 161) [] [.ptr (.g k) 1 0], .func (.func 162) [] [.ptr (.g k) 1 0]]
def fd0 (n : Int) : List CV := [.int .i64 n, .bool false, .func (.func 163) [] [], .func (.func 164) [] []]
def fdW : List CV := [.int .i64 1, .bool false, .func (.func 156) [] [], .func (.func 158) [] []]
def fdA : List CV := [.int .i64 4, .bool false, .func (.func 159) [] [], .func (.func 160) [] []]
def fdC (k : Nat) : List CV := [.int .i64 4, .bool false, .func (.func 167) [] [.ptr (.g k) 1 0], .func (.func 168) [] [.ptr (.g k) 1 0]]
def atF (f : Nat) : HO := .var 1 [.func (.func f) [] []] 0
def lay1V : CV := .own 5 4 (fdP 5 false 1 ++ (fdP 5 false 2 ++ (fdP 5 false 3 ++ (fdW ++ fdA)))) 0
def lay2V : CV := .own 4 4 (fdP 5 false 1 ++ (fdP 2 false 2 ++ (fd0 3 ++ fdP 16 false 3))) 0
def lay4V : CV := .own 3 4 (fdP 5 false 1 ++ (fdP 5 false 2 ++ fdP 16 true 3)) 0
def lay12V : CV := .own 3 4 (fd0 5 ++ (fdP 5 false 1 ++ fdP 16 true 2)) 0
def lay24V : CV := .own 3 4 (fdP 5 false 1 ++ (fd0 5 ++ fdP 16 false 2)) 0
theorem lay1 (h : HO) : FF 74 [.int .i64 1] [h] = some (lay1V, [h, atF 153, atF 154, atF 155]) := Fw_iff.2 ⟨20, by kernel_rfl⟩
theorem lay2 (h : HO) {op : Int} (ho : op = 2 ∨ op = 3) : FF 74 [.int .i64 op] [h] = some (lay2V, [h, atF 153, atF 110, atF 165]) := by
  rcases ho with rfl | rfl <;> exact Fw_iff.2 ⟨20, by kernel_rfl⟩
theorem lay4 (h : HO) {op : Int} (ho : 4 ≤ op ∧ op < 12) : FF 74 [.int .i64 op] [h] = some (lay4V, [h, atF 153, atF 154, atF 165]) := by
  have : op = 4 ∨ op = 5 ∨ op = 6 ∨ op = 7 ∨ op = 8 ∨ op = 9 ∨ op = 10 ∨ op = 11 := by omega
  rcases this with rfl | rfl | rfl | rfl | rfl | rfl | rfl | rfl <;> exact Fw_iff.2 ⟨20, by kernel_rfl⟩
theorem lay12 (h : HO) {op : Int} (ho : 12 ≤ op ∧ op < 20) : FF 74 [.int .i64 op] [h] = some (lay12V, [h, atF 154, atF 165]) := by
  have : op = 12 ∨ op = 13 ∨ op = 14 ∨ op = 15 ∨ op = 16 ∨ op = 17 ∨ op = 18 ∨ op = 19 := by omega
  rcases this with rfl | rfl | rfl | rfl | rfl | rfl | rfl | rfl <;> exact Fw_iff.2 ⟨20, by kernel_rfl⟩
theorem lay21 (h : HO) : FF 74 [.int .i64 21] [h] = some (.own 1 4 (fdP 26 true 1) 0, [h, atF 165]) := Fw_iff.2 ⟨20, by kernel_rfl⟩
theorem lay22 (h : HO) : FF 74 [.int .i64 22] [h] = some (.own 1 4 (fdP 26 false 1) 0, [h, atF 165]) := Fw_iff.2 ⟨20, by kernel_rfl⟩
theorem lay23 (h : HO) : FF 74 [.int .i64 23] [h] = some (.own 1 4 (fd0 1) 0, [h]) := Fw_iff.2 ⟨20, by kernel_rfl⟩
theorem lay24 (h : HO) {op : Int} (ho : op = 24 ∨ op = 25) : FF 74 [.int .i64 op] [h] = some (lay24V, [h, atF 153, atF 165]) := by
  rcases ho with rfl | rfl <;> exact Fw_iff.2 ⟨20, by kernel_rfl⟩
theorem lay26 (h : HO) {op : Int} (ho : op = 26 ∨ op = 27) : FF 74 [.int .i64 op] [h] = some (.own 1 4 (fdP 5 false 1) 0, [h, atF 153]) := by
  rcases ho with rfl | rfl <;> exact Fw_iff.2 ⟨20, by kernel_rfl⟩
end Go.Cm
