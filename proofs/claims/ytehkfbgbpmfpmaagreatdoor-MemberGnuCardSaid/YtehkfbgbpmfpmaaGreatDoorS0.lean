/- Plain facts on bytes and numbers; no program in sight. -/
import Derived.WalkKit
namespace Go.Proofs.YtehkfbgbpmfpmaaGreatDoor
set_option linter.unusedVariables false
set_option linter.unusedSimpArgs false
open Go.RowKit

/-- a text of a list of bytes -/
def bs (l : List UInt8) : ByteArray := ⟨l.toArray⟩
theorem bs_toList (l : List UInt8) : (bs l).data.toList = l := rfl
theorem bs_size (l : List UInt8) : (bs l).size = l.length := by simp [bs, ByteArray.size]
theorem bs_append (l m : List UInt8) : bs l ++ bs m = bs (l ++ m) := ByteArray.mk_append_mk l m
theorem bs_of (s : ByteArray) : bs s.data.toList = s := by simp [bs]
theorem bs_inj {l m : List UInt8} (h : bs l = bs m) : l = m := by
  have := congrArg (fun s : ByteArray => s.data.toList) h
  simpa [bs_toList] using this

/-- an error: 0 is none, else an Errno -/
def errV (e : Int) : Value := if e = 0 then .nilIface else .iface 33 (.int .i64 e)

/-- a byte out of a number -/
def byt (n : Int) : UInt8 := UInt8.ofNat (n % 256).toNat

/-- k octal digits of n -/
def octL : Nat → Int → List UInt8
  | 0, _ => []
  | k + 1, n => octL k (n / 8) ++ [byt (48 + n % 8)]
theorem octL_length : ∀ (k : Nat) (n : Int), (octL k n).length = k
  | 0, _ => rfl
  | k + 1, n => by simp [octL, octL_length k]

def pow8 (k : Nat) : Int := 8 ^ k
theorem pow8_zero : pow8 0 = 1 := rfl
theorem pow8_succ (k : Nat) : pow8 (k + 1) = 8 * pow8 k := by unfold pow8; rw [Int.pow_succ, Int.mul_comm]
theorem pow8_pos (k : Nat) : 0 < pow8 k := by
  induction k with
  | zero => simp [pow8_zero]
  | succ k ih => rw [pow8_succ]; omega
theorem pow8_le (k : Nat) (h : k ≤ 19) : pow8 k ≤ 144115188075855872 := by
  have : ∀ k : Fin 20, pow8 k.val ≤ 144115188075855872 := by decide
  exact this ⟨k, by omega⟩

def mostS (w : Int) : Int := if 2 ≤ w ∧ w ≤ 20 then pow8 (w.toNat - 1) - 1 else 0

def octS (n w : Int) : List UInt8 × Int :=
  if w < 2 ∨ 20 < w then ([], 1) else if n < 0 ∨ mostS w < n then ([], 2) else (octL (w.toNat - 1) n ++ [0], 0)
end Go.Proofs.YtehkfbgbpmfpmaaGreatDoor
