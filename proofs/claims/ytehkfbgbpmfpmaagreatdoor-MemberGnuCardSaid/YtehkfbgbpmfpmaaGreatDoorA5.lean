/- block.Pad, Fill and revetmentref's. -/
import Derived.Test.YtehkfbgbpmfpmaaGreatDoorA4
namespace Go.Proofs.YtehkfbgbpmfpmaaGreatDoor
set_option linter.unusedVariables false
set_option linter.unusedSimpArgs false
open Go.RowKit

def padS (n : Int) : Int := if n ≤ 0 then 0 else (512 - n % 512) % 512
theorem padS_range (n : Int) : 0 ≤ padS n ∧ padS n < 512 := by unfold padS; split <;> omega

theorem blockPad (n : Int) (w : World) :
    Calls Tryz.prog 110 #[.int .i64 n] w fun e w' => e = .returned (.int .i64 (padS n)) ∧ w = w' := by
  by_cases h : n < 0
  · have e := Lib.hid (show padS n = 0 by unfold padS; rw [if_pos (by omega)])
    go_enter Tryz.func110, Tryz.ntmps110
    go_wp2
    go_ret
    exact ⟨ret_int e.out.symm, rfl⟩
  · have e := Lib.hid (show padS n = (512 - n % 512) % 512 by unfold padS; split <;> omega)
    go_enter Tryz.func110, Tryz.ntmps110
    go_wp2
    go_ret
    exact ⟨ret_int (by rw [e.out]; omega), rfl⟩

set_option maxHeartbeats 400000 in
theorem refPad (n : Int) (w : World) :
    Calls Tryz.prog 92 #[.int .i64 n] w fun e w' => e = .returned (.int .i64 (padS n)) ∧ w = w' := by
  have hr := padS_range n
  by_cases h : 0 < n
  · have HE := Lib.hid (show padS n = (512 - n % 512) % 512 by unfold padS; rw [if_neg (by omega)])
    have m0 := Int.emod_nonneg n (by decide : (512 : Int) ≠ 0)
    have m1 := Int.emod_lt_of_pos n (by decide : (0 : Int) < 512)
    go_enter Tryz.func92, Tryz.ntmps92
    go_wp2
    go_loop [3] (fun k => ∃ j : Int, 0 ≤ j ∧ j ≤ padS n ∧ k = .int .i64 j) (fun k => (padS n - intOf k).toNat)
    case atStart => exact ⟨0, by omega, by omega, rfl⟩
    case round =>
      obtain ⟨j, j0, j1, rfl⟩ := hrel
      by_cases hlt : j < padS n
      · have ht : ((n % 512 + j) % 512 != 0) = true := by
          have := HE.out
          rw [bne_iff_ne]; omega
        go_wp2
        go_round
        case rel => exact ⟨j + 1, by omega, by omega, rfl⟩
        case measure => simp [intOf]; omega
      · obtain rfl : padS n = j := by omega
        have ht : ((n % 512 + padS n) % 512 != 0) = false := by
          have := HE.out
          rw [bne_eq_false_iff_eq]; omega
        go_wp2
        go_ret
        exact ⟨rfl, rfl⟩
  · have HE := Lib.hid (show padS n = 0 by unfold padS; rw [if_pos (by omega)])
    go_enter Tryz.func92, Tryz.ntmps92
    go_wp2
    refine wp_loop_rounds 1 ?_
    rw [rounds_succ]
    go_wp2
    go_ret
    exact ⟨ret_int HE.out.symm, rfl⟩

/-- bytes, filled up with bytes 0 to a block's end -/
def fillL (l : List UInt8) : List UInt8 := l ++ List.replicate (padS l.length).toNat 0
attribute [go_sem] bs_toList bs_append_any any_append_bs

theorem blockFill (s : ByteArray) (w : World) (hs : s.size ≤ 1000000000000) :
    Calls Tryz.prog 56 #[.string s] w fun e w' => e = .returned (.string (bs (fillL s.data.toList))) ∧ Below w.heap.size w w' := by
  have hr := padS_range (s.size : Int)
  go_enter Tryz.func56, Tryz.ntmps56
  go_wp2_with (first | (go_at_call 110; refine (blockPad _ _).mono ?_; rintro e w1 ⟨rfl, rfl⟩) | (go_at_call 21; refine (repByte 0 _ _ (by omega) (by omega)).mono ?_; rintro e w1 ⟨rfl, hb⟩))
  go_ret
  exact ⟨rfl, hb⟩

theorem refFill (s : ByteArray) (w : World) (hs : s.size ≤ 1000000000000) :
    Calls Tryz.prog 44 #[.string s] w fun e w' => e = .returned (.string (bs (fillL s.data.toList))) ∧ Below w.heap.size w w' := by
  have hr := padS_range (s.size : Int)
  go_enter Tryz.func44, Tryz.ntmps44
  go_wp2_with (first | (go_at_call 92; refine (refPad _ _).mono ?_; rintro e w1 ⟨rfl, rfl⟩) | (go_at_call 21; refine (repByte 0 _ _ (by omega) (by omega)).mono ?_; rintro e w1 ⟨rfl, hb⟩))
  go_ret
  exact ⟨rfl, hb⟩
end Go.Proofs.YtehkfbgbpmfpmaaGreatDoor
