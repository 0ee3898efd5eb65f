/- The packages number and revetmentref's numbers. -/
import Derived.Test.YtehkfbgbpmfpmaaGreatDoorW0
namespace Go.Proofs.YtehkfbgbpmfpmaaGreatDoor
set_option linter.unusedVariables false
set_option linter.unusedSimpArgs false
open Go.RowKit

theorem numMost (n : Int) (w : World) :
    Calls Tryz.prog 83 #[.int .i64 n] w fun e w' => e = .returned (.int .i64 (mostS n)) ∧ w = w' := by
  by_cases h1 : n < 2
  · have e := Lib.hid (show mostS n = 0 by unfold mostS; rw [if_neg (by omega)])
    go_enter Tryz.func83, Tryz.ntmps83
    go_wp2
    go_ret
    exact ⟨ret_int e.out.symm, rfl⟩
  · by_cases h2 : 20 < n
    · have e := Lib.hid (show mostS n = 0 by unfold mostS; rw [if_neg (by omega)])
      go_enter Tryz.func83, Tryz.ntmps83
      go_wp2
      go_ret
      exact ⟨ret_int e.out.symm, rfl⟩
    · obtain ⟨k, rfl⟩ : ∃ k : Nat, n = (k : Int) + 1 := ⟨(n - 1).toNat, by omega⟩
      have hE := Lib.hid (show mostS ((k : Int) + 1) = pow8 k - 1 by unfold mostS; rw [if_pos (by omega)]; congr 2)
      have p0 := Lib.hid pow8_zero
      have hp := pow8_pos k
      have hq := pow8_le k (by omega)
      go_enter Tryz.func83, Tryz.ntmps83
      go_wp2
      go_loop [3, 12] (fun m i => ∃ j : Nat, j ≤ k ∧ i = .int .i64 j ∧ m = .int .i64 (pow8 j)) (fun _ i => k - (intOf i).toNat)
      case atStart => exact ⟨0, by omega, rfl, rfl⟩
      case round =>
        obtain ⟨j, hj, rfl, rfl⟩ := hrel
        by_cases hlt : j < k
        · have hj1 := pow8_le (j + 1) (by omega)
          have hj0 := pow8_pos j
          have hs := Lib.hid (pow8_succ j)
          have hj2 : pow8 j * 8 ≤ 144115188075855872 := by rw [hs.out] at hj1; omega
          clear hj1
          go_wp2
          go_round
          case rel => exact ⟨j + 1, by omega, by go_num, by rw [hs.out, Int.mul_comm]⟩
          case measure => simp [intOf]; omega
        · obtain rfl : k = j := by omega
          go_wp2
          go_ret
          exact ⟨ret_int hE.out.symm, rfl⟩

theorem octL_cons : ∀ (k : Nat) (n : Int), octL (k + 1) n = byt (48 + n / pow8 k % 8) :: octL k n
  | 0, n => by simp [octL, pow8_zero]
  | k + 1, n => by
    rw [octL, octL_cons k (n / 8), pow8_succ, ← Int.ediv_ediv_of_nonneg (by omega : (0 : Int) ≤ 8)]
    simp [octL]

theorem set_front (z : List UInt8) (x : UInt8) (k j : Nat) (hj : j < k) : (List.replicate (k - j) 0 ++ z).set (k - 1 - j) x = List.replicate (k - (j + 1)) 0 ++ x :: z := by
  have e1 : k - j = (k - (j + 1)) + 1 := by omega
  rw [e1, List.replicate_succ', List.append_assoc, List.set_append_right _ _ (by simp; omega)]
  simp [show k - 1 - j - (k - (j + 1)) = 0 by omega]

set_option maxHeartbeats 400000 in
theorem numOctal_ok (n wd : Int) (w : World) (h1 : 2 ≤ wd) (h2 : wd ≤ 20) (h3 : 0 ≤ n) (h4 : n ≤ mostS wd) :
    Calls Tryz.prog 121 #[.int .i64 n, .int .i64 wd] w fun e w' => e = .returned (.tuple #[.string (bs (octL (wd.toNat - 1) n ++ [0])), .nilIface]) ∧ Below w.heap.size w w' := by
  obtain ⟨k, rfl⟩ : ∃ k : Nat, wd = (k : Int) + 1 := ⟨(wd - 1).toNat, by omega⟩
  have hM : ¬ mostS ((k : Int) + 1) < n := by omega
  have hmk := run_make_bytes Tryz.prog 85 5 Tryz.underlying85 (by kernel_rfl) ((k : Int) + 1) (k + 1) (by omega) (by omega)
  have hn : n ≤ 144115188075855872 := by
    have := pow8_le k (by omega)
    unfold mostS at h4
    rw [if_pos (by omega), show ((k : Int) + 1).toNat - 1 = k by omega] at h4
    omega
  clear h4
  go_enter Tryz.func121, Tryz.ntmps121
  go_wp2_with (go_at_call 83; refine (numMost _ _).mono ?_; rintro e w' ⟨rfl, rfl⟩)
  have gl : Buf (w.alloc (.cells (bufC (List.replicate (k + 1) 0)) 5)) w.heap.size 5 (List.replicate (k + 1) 0) := Buf.new _ _ _
  clear hmk hM
  go_loopw [0, 7, 28] (fun m _ i wr => ∃ j : Nat, j ≤ k ∧ i = .int .i64 j ∧ m = .int .i64 (n / pow8 j) ∧ Buf wr w.heap.size 5 (List.replicate (k - j) 0 ++ (octL j n ++ [0])) ∧ Below w.heap.size w wr) (fun _ _ i _ => k - (intOf i).toNat)
  case atStart =>
    refine ⟨0, by omega, rfl, ?_, ?_, bl_alloc (bl_refl w) _⟩
    · rw [pow8_zero, Int.ediv_one]
    · have e : List.replicate (k - 0) (0 : UInt8) ++ (octL 0 n ++ [0]) = List.replicate (k + 1) 0 := by
        rw [List.replicate_succ']; simp [octL]
      rw [e]; exact gl
  case round =>
    obtain ⟨j, hj, rfl, rfl, hB, hb⟩ := hrel
    by_cases hlt : j < k
    · have p0 := pow8_pos j
      have q0 : 0 ≤ n / pow8 j := Int.ediv_nonneg h3 (by omega)
      have q1 : n / pow8 j ≤ 144115188075855872 := Int.le_trans (Int.ediv_le_self _ h3) hn
      have hc := hB.cell (i := k - 1 - j) (by simp [octL_length]; omega)
      have hf := hB.free (k - 1 - j)
      have HB := Lib.hid (hB.set (k - 1 - j) (v := 48 + n / pow8 j % 8) (by omega) (by omega))
      have HE := Lib.hid (set_front (octL j n ++ [0]) (byt (48 + n / pow8 j % 8)) k j hlt)
      have HD := Lib.hid (show n / pow8 j / 8 = n / pow8 (j + 1) by rw [pow8_succ, Int.mul_comm, ← Int.ediv_ediv_of_nonneg (by omega : (0 : Int) ≤ pow8 j)])
      clear hB
      go_wp2
      go_roundw
      case rel => exact ⟨j + 1, by omega, by go_num, by rw [HD.out], by have := HB.out; rw [HE.out] at this; rw [octL_cons]; exact this, bl_set hb (Nat.le_refl _) _⟩
      case measure => simp [intOf]; omega
    · obtain rfl : k = j := by omega
      have hB' : Buf wr w.heap.size 5 (octL k n ++ [0]) := by simpa using hB
      have hcv := fun dst hd => run_buf_string Tryz.prog 85 dst 5 Tryz.underlying85 Tryz.underlying5 hd hB' (k + 1) (k + 1) (by simp [octL_length])
      have hcv' := hcv 9 Tryz.underlying9
      clear hcv hB hB'
      go_wp2
      go_ret2
      exact ⟨by simp, hb⟩

theorem numOctal_arg (n wd : Int) (w : World) (h : wd < 2 ∨ 20 < wd) :
    Calls Tryz.prog 121 #[.int .i64 n, .int .i64 wd] w fun e w' => e = .returned (.tuple #[.string (bs []), errV 1]) ∧ w = w' := by
  rcases h with h | h
  · go_enter Tryz.func121, Tryz.ntmps121
    go_wp2
    go_ret2
    exact ⟨rfl, rfl⟩
  · go_enter Tryz.func121, Tryz.ntmps121
    go_wp2
    all_goals go_ret2
    all_goals exact ⟨rfl, rfl⟩

theorem numOctal_range (n wd : Int) (w : World) (h1 : 2 ≤ wd) (h2 : wd ≤ 20) (h : n < 0 ∨ mostS wd < n) :
    Calls Tryz.prog 121 #[.int .i64 n, .int .i64 wd] w fun e w' => e = .returned (.tuple #[.string (bs []), errV 2]) ∧ w = w' := by
  rcases h with h | h
  · go_enter Tryz.func121, Tryz.ntmps121
    go_wp2
    go_ret2
    exact ⟨rfl, rfl⟩
  · go_enter Tryz.func121, Tryz.ntmps121
    go_wp2_with (go_at_call 83; refine (numMost _ _).mono ?_; rintro e w' ⟨rfl, rfl⟩)
    all_goals go_ret2
    all_goals exact ⟨rfl, rfl⟩

theorem numOctal (n wd : Int) (w : World) :
    Calls Tryz.prog 121 #[.int .i64 n, .int .i64 wd] w fun e w' => e = .returned (.tuple #[.string (bs (octS n wd).1), errV (octS n wd).2]) ∧ Below w.heap.size w w' := by
  by_cases h1 : wd < 2 ∨ 20 < wd
  · rw [octS, if_pos h1]
    exact (numOctal_arg n wd w h1).mono fun e w' ⟨he, hw⟩ => ⟨he, hw ▸ bl_refl w⟩
  · by_cases h2 : n < 0 ∨ mostS wd < n
    · rw [octS, if_neg h1, if_pos h2]
      exact (numOctal_range n wd w (by omega) (by omega) h2).mono fun e w' ⟨he, hw⟩ => ⟨he, hw ▸ bl_refl w⟩
    · rw [octS, if_neg h1, if_neg h2]
      exact numOctal_ok n wd w (by omega) (by omega) (by omega) (by omega)
end Go.Proofs.YtehkfbgbpmfpmaaGreatDoor
