/- block.Sum, Seal and revetmentref's. -/
import Derived.Test.YtehkfbgbpmfpmaaGreatDoorA5
namespace Go.Proofs.YtehkfbgbpmfpmaaGreatDoor
set_option linter.unusedVariables false
set_option linter.unusedSimpArgs false
open Go.RowKit

/-- what a byte of a header counts -/
def sumC (sg : Bool) (i : Nat) (b : UInt8) : Int := if 148 ≤ i ∧ i < 156 then 32 else if sg = true ∧ 128 ≤ (b.toNat : Int) then (b.toNat : Int) - 256 else b.toNat
def sumTo (l : List UInt8) (sg : Bool) : Nat → Int
  | 0 => 0
  | i + 1 => sumTo l sg i + sumC sg i (l.getD i 0)
theorem sumC_range (sg : Bool) (i : Nat) (b : UInt8) : -256 ≤ sumC sg i b ∧ sumC sg i b ≤ 255 := by
  have := b.toNat_lt
  unfold sumC
  split
  · omega
  · split <;> omega
theorem sumTo_range (l : List UInt8) (sg : Bool) : ∀ i : Nat, -256 * (i : Int) ≤ sumTo l sg i ∧ sumTo l sg i ≤ 255 * (i : Int)
  | 0 => by simp [sumTo]
  | i + 1 => by
    have := sumTo_range l sg i
    have := sumC_range sg i (l.getD i 0)
    simp only [sumTo]
    omega

theorem byteAt (s : ByteArray) (i : Nat) (h : i < s.size) : (s[i].toNat : Int) = ((s.data.toList.getD i 0).toNat : Int) := by
  have h2 : i < s.data.toList.length := by simpa using h
  rw [List.getD_eq_getElem?_getD, List.getElem?_eq_getElem h2]
  rfl

theorem i8_wrap (x : Int) (h0 : 0 ≤ x) (h1 : x ≤ 255) : IntKind.i8.wrap x = if 128 ≤ x then x - 256 else x := by
  simp only [IntKind.wrap, IntKind.bits, IntKind.signed, Bool.true_and, decide_eq_true_eq, show (2 : Int) ^ 8 = 256 from rfl, show (2 : Int) ^ (8 - 1) = 128 from rfl]
  split <;> split <;> omega
theorem i8_range (x : Int) : -128 ≤ IntKind.i8.wrap x ∧ IntKind.i8.wrap x ≤ 127 := by
  simp only [IntKind.wrap, IntKind.bits, IntKind.signed, Bool.true_and, decide_eq_true_eq, show (2 : Int) ^ 8 = 256 from rfl, show (2 : Int) ^ (8 - 1) = 128 from rfl]
  split <;> omega

theorem blockSum_arg (s : ByteArray) (sg : Bool) (w : World) (hs : s.size ≠ 512) :
    Calls Tryz.prog 120 #[.string s, .bool sg] w fun e w' => e = .returned (.tuple #[.int .i64 0, errV 1]) ∧ w = w' := by
  have hs0 : ((s.size : Int) != 512) = true := by rw [bne_iff_ne]; omega
  go_enter Tryz.func120, Tryz.ntmps120
  go_wp2
  go_ret2
  exact ⟨rfl, rfl⟩

set_option maxRecDepth 100000 in
set_option maxHeartbeats 1000000 in
theorem blockSum_true (s : ByteArray) (w : World) (hs : s.size = 512) :
    Calls Tryz.prog 120 #[.string s, .bool true] w fun e w' => e = .returned (.tuple #[.int .i64 (sumTo s.data.toList true 512), .nilIface]) ∧ w = w' := by
  have hs0 : (s.size : Int) = 512 := by omega
  have hs1 := Lib.hid hs
  clear hs
  go_enter Tryz.func120, Tryz.ntmps120
  go_wp2
  go_loop [6, 14] (fun n i => ∃ j : Nat, j ≤ 512 ∧ i = .int .i64 j ∧ n = .int .i64 (sumTo s.data.toList true j)) (fun _ i => 512 - (intOf i).toNat)
  case atStart => exact ⟨0, by omega, rfl, rfl⟩
  case round =>
    obtain ⟨j, hj, rfl, rfl⟩ := hrel
    by_cases hlt : j < 512
    · have hr := sumTo_range s.data.toList true j
      have hsz : j < s.size := by have := hs1.out; omega
      have hb1 : ((s[j]'hsz).toNat : Int) ≤ 255 := by have := (s[j]'hsz).toNat_lt; omega
      have hi8 := i8_range ((s[j]'hsz).toNat : Int)
      have HB := Lib.hid (byteAt s j hsz)
      have HW := Lib.hid (i8_wrap ((s[j]'hsz).toNat : Int) (by omega) hb1)
      go_wp2
      all_goals
        go_round
        case rel =>
          refine ⟨j + 1, by omega, by go_num, congrArg (Value.int .i64) ?_⟩
          simp only [sumTo, sumC, ← HB.out]
          first
            | (rw [HW.out]; split <;> (first | omega | (split <;> first | omega | (simp at *; done) | (simp at *; omega))))
            | (split <;> first | omega | (split <;> first | omega | (simp at *; done) | (simp at *; omega)))
        case measure => simp [intOf]; omega
    · obtain rfl : 512 = j := by omega
      go_wp2
      go_ret2
      exact ⟨rfl, rfl⟩
set_option maxRecDepth 100000 in
set_option maxHeartbeats 1000000 in
theorem blockSum_false (s : ByteArray) (w : World) (hs : s.size = 512) :
    Calls Tryz.prog 120 #[.string s, .bool false] w fun e w' => e = .returned (.tuple #[.int .i64 (sumTo s.data.toList false 512), .nilIface]) ∧ w = w' := by
  have hs0 : (s.size : Int) = 512 := by omega
  have hs1 := Lib.hid hs
  clear hs
  go_enter Tryz.func120, Tryz.ntmps120
  go_wp2
  go_loop [6, 14] (fun n i => ∃ j : Nat, j ≤ 512 ∧ i = .int .i64 j ∧ n = .int .i64 (sumTo s.data.toList false j)) (fun _ i => 512 - (intOf i).toNat)
  case atStart => exact ⟨0, by omega, rfl, rfl⟩
  case round =>
    obtain ⟨j, hj, rfl, rfl⟩ := hrel
    by_cases hlt : j < 512
    · have hr := sumTo_range s.data.toList false j
      have hsz : j < s.size := by have := hs1.out; omega
      have hb1 : ((s[j]'hsz).toNat : Int) ≤ 255 := by have := (s[j]'hsz).toNat_lt; omega
      have hi8 := i8_range ((s[j]'hsz).toNat : Int)
      have HB := Lib.hid (byteAt s j hsz)
      have HW := Lib.hid (i8_wrap ((s[j]'hsz).toNat : Int) (by omega) hb1)
      go_wp2
      all_goals
        go_round
        case rel =>
          refine ⟨j + 1, by omega, by go_num, congrArg (Value.int .i64) ?_⟩
          simp only [sumTo, sumC, ← HB.out]
          first
            | (rw [HW.out]; split <;> (first | omega | (split <;> first | omega | (simp at *; done) | (simp at *; omega))))
            | (split <;> first | omega | (split <;> first | omega | (simp at *; done) | (simp at *; omega)))
        case measure => simp [intOf]; omega
    · obtain rfl : 512 = j := by omega
      go_wp2
      go_ret2
      exact ⟨rfl, rfl⟩
theorem blockSum (s : ByteArray) (sg : Bool) (w : World) (hs : s.size = 512) :
    Calls Tryz.prog 120 #[.string s, .bool sg] w fun e w' => e = .returned (.tuple #[.int .i64 (sumTo s.data.toList sg 512), .nilIface]) ∧ w = w' := by
  cases sg
  · exact blockSum_false s w hs
  · exact blockSum_true s w hs
end Go.Proofs.YtehkfbgbpmfpmaaGreatDoor
