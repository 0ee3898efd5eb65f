/- number.Binary, number.Write. -/
import Derived.Test.YtehkfbgbpmfpmaaGreatDoorA1
namespace Go.Proofs.YtehkfbgbpmfpmaaGreatDoor
set_option linter.unusedVariables false
set_option linter.unusedSimpArgs false
open Go.RowKit

/-- k bytes of n, the least one last -/
def binL : Nat → Int → List UInt8
  | 0, _ => []
  | k + 1, n => binL k (n / 256) ++ [byt n]
theorem binL_length : ∀ (k : Nat) (n : Int), (binL k n).length = k
  | 0, _ => rfl
  | k + 1, n => by simp [binL, binL_length k]
def pow256 (k : Nat) : Int := 256 ^ k
theorem pow256_zero : pow256 0 = 1 := rfl
theorem pow256_succ (k : Nat) : pow256 (k + 1) = 256 * pow256 k := by unfold pow256; rw [Int.pow_succ, Int.mul_comm]
theorem pow256_pos (k : Nat) : 0 < pow256 k := by
  induction k with
  | zero => simp [pow256_zero]
  | succ k ih => rw [pow256_succ]; omega
theorem binL_cons : ∀ (k : Nat) (n : Int), binL (k + 1) n = byt (n / pow256 k) :: binL k n
  | 0, n => by simp [binL, pow256_zero]
  | k + 1, n => by
    rw [binL, binL_cons k (n / 256), pow256_succ, ← Int.ediv_ediv_of_nonneg (by omega : (0 : Int) ≤ 256)]
    simp [binL]
theorem pow256_mono (k : Nat) (h : 8 ≤ k) : 18446744073709551616 ≤ pow256 k := by
  induction k with
  | zero => omega
  | succ k ih =>
    by_cases e : k = 7
    · subst e; decide
    · have := ih (by omega); rw [pow256_succ]; omega
theorem neg_div_big (n m : Int) (h : n < 0) (h1 : -m ≤ n) : n / m = -1 := by
  have h0 : 0 < m := by omega
  have e : n = (n + m) + m * (-1) := by omega
  rw [e, Int.add_mul_ediv_left _ _ (by omega), Int.ediv_eq_zero_of_lt (by omega) (by omega)]
  rfl
theorem shr_pow256 (n : Int) (j : Nat) (l0 : -9223372036854775808 ≤ n) (l1 : n ≤ 9223372036854775807) : n / 2 ^ min (8 * (j : Int)).toNat 64 = n / pow256 j := by
  by_cases h : j ≤ 8
  · have e : min (8 * (j : Int)).toNat 64 = 8 * j := by omega
    rw [e, Int.pow_mul]
    rfl
  · have e : min (8 * (j : Int)).toNat 64 = 64 := by omega
    have hp := pow256_mono j (by omega)
    rw [e]
    have e2 : (2 : Int) ^ 64 = 18446744073709551616 := by decide
    rw [e2]
    by_cases hn : 0 ≤ n
    · rw [Int.ediv_eq_zero_of_lt hn (by omega), Int.ediv_eq_zero_of_lt hn (by omega)]
    · rw [neg_div_big n _ (by omega) (by omega), neg_div_big n _ (by omega) (by omega)]
theorem byt_mod (n : Int) : byt (n % 256) = byt n := by unfold byt; rw [Int.emod_emod_of_dvd _ (by omega)]

def binS (n w : Int) : List UInt8 × Int :=
  if w < 8 ∨ 20 < w then ([], 1) else if w = 8 ∧ (n < -36028797018963968 ∨ 36028797018963967 < n) then ([], 2)
  else ((if n < 0 then 255 else 128) :: binL (w.toNat - 1) n, 0)

set_option maxRecDepth 100000 in
set_option maxHeartbeats 1000000 in
theorem numBinary_ok (n wd : Int) (w : World) (h1 : 8 ≤ wd) (h2 : wd ≤ 20) (h3 : ¬ (wd = 8 ∧ (n < -36028797018963968 ∨ 36028797018963967 < n))) (l0 : -9223372036854775808 ≤ n) (l1 : n ≤ 9223372036854775807) :
    Calls Tryz.prog 132 #[.int .i64 n, .int .i64 wd] w fun e w' => e = .returned (.tuple #[.string (bs ((if n < 0 then 255 else 128) :: binL (wd.toNat - 1) n)), .nilIface]) ∧ Below w.heap.size w w' := by
  obtain ⟨k, rfl⟩ : ∃ k : Nat, wd = (k : Int) + 1 := ⟨(wd - 1).toNat, by omega⟩
  have e3 := Lib.hid (show ((k : Int) + 1).toNat - 1 = k by omega)
  have hmk := run_make_bytes Tryz.prog 85 5 Tryz.underlying85 (by kernel_rfl) ((k : Int) + 1) (k + 1) (by omega) (by omega)
  have gl : Buf (w.alloc (.cells (bufC (List.replicate (k + 1) 0)) 5)) w.heap.size 5 (List.replicate (k + 1) 0) := Buf.new _ _ _
  have hS := Lib.hid (fun (z : List UInt8) x j (hj : j < k) => set_front z x (k + 1) j (by omega))
  have hpt : n < 0 ∨ 0 ≤ n := by omega
  have hS0 := Lib.hid (fun x : UInt8 => (rfl : ([0] ++ binL k n).set 0 x = x :: binL k n))
  have h8 : (((k : Int) + 1 == 8) = true ∧ -36028797018963968 ≤ n ∧ n ≤ 36028797018963967) ∨ ((k : Int) + 1 == 8) = false := by
    by_cases e : (k : Int) + 1 = 8
    · exact .inl ⟨by simpa using e, by omega, by omega⟩
    · exact .inr (by simpa using e)
  clear h3
  rcases h8 with ⟨hq, hn1, hn2⟩ | hq
  all_goals
    go_enter Tryz.func132, Tryz.ntmps132
    go_wp2
    go_loopw [7, 30] (fun _ i wr => ∃ j : Nat, j ≤ k ∧ i = .int .i64 j ∧ Buf wr w.heap.size 5 (List.replicate (k + 1 - j) 0 ++ binL j n) ∧ Below w.heap.size w wr) (fun _ i _ => k - (intOf i).toNat)
    case atStart => exact ⟨0, by omega, rfl, by simpa [binL] using gl, bl_alloc (bl_refl w) _⟩
    case round =>
      clear hmk gl
      obtain ⟨j, hj, rfl, hB, hb⟩ := hrel
      by_cases hlt : j < k
      · have hc := hB.cell (i := k - j) (by simp [binL_length]; omega)
        have hf := hB.free (k - j)
        have hsh : ∀ W : World, (Op.shift BinOp.shr .i64 n .i64 (8 * (j : Int))).run Tryz.prog W = .ok (.int .i64 (n / pow256 j)) W := fun W => by
          rw [shift_shr_any _ _ _ _ (by omega)]; simp [IntKind.bits, shr_pow256 n j l0 l1]
        have HB := Lib.hid (hB.set (k - j) (v := n / pow256 j % 256) (by omega) (by omega))
        have HE := Lib.hid (hS.out (binL j n) (byt (n / pow256 j % 256)) j (by omega))
        have HX := Lib.hid (byt_mod (n / pow256 j))
        have HP := Lib.hid (show n / 2 ^ (8 * j) = n / pow256 j by rw [Int.pow_mul]; rfl)
        clear hB
        go_wp2
        go_roundw
        case rel =>
          refine ⟨j + 1, by omega, by go_num, ?_, bl_set hb (Nat.le_refl _) _⟩
          have := HB.out
          rw [show k + 1 - 1 - j = k - j by omega] at HE
          rw [HE.out, HX.out] at this
          rw [binL_cons]; first | exact this | (rw [HP.out]; exact this)
        case measure => simp [intOf]; omega
      · obtain rfl : k = j := by omega
        have hB1 : Buf wr w.heap.size 5 ([0] ++ binL k n) := by simpa using hB
        have hc := hB1.cell (i := 0) (by simp)
        have hf := hB1.free 0
        have HB1 := hB1.set 0 (v := 128) (by omega) (by omega)
        have HB2 := HB1.set 0 (v := 255) (by omega) (by omega)
        have hcv1 := run_buf_string Tryz.prog 85 9 5 Tryz.underlying85 Tryz.underlying5 Tryz.underlying9 HB1 (k + 1) (k + 1) (by simp [binL_length])
        have hcv2 := run_buf_string Tryz.prog 85 9 5 Tryz.underlying85 Tryz.underlying5 Tryz.underlying9 HB2 (k + 1) (k + 1) (by simp [binL_length])
        clear hB hB1 HB1 HB2
        rcases hpt with hn | hn
        · go_wp2
          go_ret2
          refine ⟨?_, bl_set (bl_set hb (Nat.le_refl _) _) (Nat.le_refl _) _⟩
          rfl
        · go_wp2
          go_ret2
          refine ⟨?_, bl_set hb (Nat.le_refl _) _⟩
          rfl

theorem numBinary_arg (n wd : Int) (w : World) (h : wd < 8 ∨ 20 < wd) :
    Calls Tryz.prog 132 #[.int .i64 n, .int .i64 wd] w fun e w' => e = .returned (.tuple #[.string (bs []), errV 1]) ∧ w = w' := by
  rcases h with h | h
  · go_enter Tryz.func132, Tryz.ntmps132
    go_wp2
    go_ret2
    exact ⟨rfl, rfl⟩
  · go_enter Tryz.func132, Tryz.ntmps132
    go_wp2
    all_goals go_ret2
    all_goals exact ⟨rfl, rfl⟩

set_option maxRecDepth 100000 in
theorem numBinary_range (n : Int) (w : World) (h : n < -36028797018963968 ∨ 36028797018963967 < n) :
    Calls Tryz.prog 132 #[.int .i64 n, .int .i64 8] w fun e w' => e = .returned (.tuple #[.string (bs []), errV 2]) ∧ w = w' := by
  rcases h with h | h
  · go_enter Tryz.func132, Tryz.ntmps132
    go_wp2
    go_ret2
    exact ⟨rfl, rfl⟩
  · go_enter Tryz.func132, Tryz.ntmps132
    go_wp2
    all_goals go_ret2
    all_goals exact ⟨rfl, rfl⟩

theorem numBinary (n wd : Int) (w : World) (l0 : -9223372036854775808 ≤ n) (l1 : n ≤ 9223372036854775807) :
    Calls Tryz.prog 132 #[.int .i64 n, .int .i64 wd] w fun e w' => e = .returned (.tuple #[.string (bs (binS n wd).1), errV (binS n wd).2]) ∧ Below w.heap.size w w' := by
  by_cases h1 : wd < 8 ∨ 20 < wd
  · rw [binS, if_pos h1]
    exact (numBinary_arg n wd w h1).mono fun e w' ⟨he, hw⟩ => ⟨he, hw ▸ bl_refl w⟩
  · by_cases h2 : wd = 8 ∧ (n < -36028797018963968 ∨ 36028797018963967 < n)
    · rw [binS, if_neg h1, if_pos h2]
      obtain ⟨rfl, h2⟩ := h2
      exact (numBinary_range n w h2).mono fun e w' ⟨he, hw⟩ => ⟨he, hw ▸ bl_refl w⟩
    · rw [binS, if_neg h1, if_neg h2]
      exact numBinary_ok n wd w (by omega) (by omega) h2 l0 l1
end Go.Proofs.YtehkfbgbpmfpmaaGreatDoor
