/- revetmentref's char, Octal, Binary, NumberWrite. -/
import Derived.Test.YtehkfbgbpmfpmaaGreatDoorA3
import Derived.Test.YtehkfbgbpmfpmaaGreatDoorW1
namespace Go.Proofs.YtehkfbgbpmfpmaaGreatDoor
set_option linter.unusedVariables false
set_option linter.unusedSimpArgs false
open Go.RowKit

theorem refChar (n : Int) (w : World) :
    Calls Tryz.prog 66 #[.int .i64 n] w fun e w' => e = .returned (.string (bs [byt n])) ∧ Below w.heap.size w w' := by
  have hn := Int.emod_nonneg n (by decide : (256 : Int) ≠ 0)
  have hn2 := Int.emod_lt_of_pos n (by decide : (0 : Int) < 256)
  have gl : Buf (w.alloc (.cells (bufC [byt n]) 5)) w.heap.size 5 [byt n] := Buf.new _ _ _
  have e1 : bufC [byt n] = #[.int .u8 (n % 256)] := by
    simp only [bufC, List.map_cons, List.map_nil]
    rw [← byt_mod, byt_nat _ hn hn2]
  rw [e1] at gl
  have hcv := run_buf_string Tryz.prog 85 9 5 Tryz.underlying85 Tryz.underlying5 Tryz.underlying9 gl 1 1 rfl
  clear gl e1
  go_enter Tryz.func66, Tryz.ntmps66
  go_wp2
  go_ret
  exact ⟨rfl, bl_alloc (bl_refl w) _⟩

theorem pow8_mono (a b : Nat) (h : a ≤ b) : pow8 a ≤ pow8 b := by
  induction b with
  | zero => rw [show a = 0 by omega]; exact Int.le_refl _
  | succ b ih =>
    by_cases e : a = b + 1
    · rw [e]; exact Int.le_refl _
    · have := ih (by omega); have := pow8_pos b; rw [pow8_succ]; omega
theorem pow8_big : pow8 21 = 9223372036854775808 := by decide

theorem octL_pad (n : Int) (j k : Nat) (h0 : 0 ≤ n) (h : n < pow8 j) (hk : j ≤ k) : octL k n = List.replicate (k - j) 48 ++ octL j n := by
  induction k with
  | zero => rw [show j = 0 by omega]; simp
  | succ k ih =>
    by_cases e : j = k + 1
    · rw [e]; simp
    · rw [octL_cons, ih (by omega), Int.ediv_eq_zero_of_lt h0 (Int.lt_of_lt_of_le h (pow8_mono j k (by omega))), show k + 1 - j = (k - j) + 1 by omega]
      simp only [List.replicate_succ, List.cons_append]
      congr 1

set_option maxRecDepth 100000 in
set_option maxHeartbeats 1000000 in
theorem refOctal_in (n wd : Int) (w : World) (l0 : -9223372036854775808 ≤ n) (l1 : n ≤ 9223372036854775807) (h1 : 2 ≤ wd) (h2 : wd ≤ 20) :
    Calls Tryz.prog 63 #[.int .i64 n, .int .i64 wd] w fun e w' => e = .returned (.tuple #[.string (bs (octS n wd).1), .int .i64 (octS n wd).2]) ∧ Below w.heap.size w w' := by
  obtain ⟨k, rfl⟩ : ∃ k : Nat, wd = (k : Int) + 1 := ⟨(wd - 1).toNat, by omega⟩
  have hd : decide (2 ≤ (k : Int) + 1) = true := decide_eq_true (by omega)
  have hd2 : decide ((k : Int) + 1 ≤ 20) = true := decide_eq_true (by omega)
  have hM := Lib.hid (show mostS ((k : Int) + 1) = pow8 k - 1 by unfold mostS; rw [if_pos (by omega)]; congr 2)
  have P0 := Lib.hid pow8_zero
  go_enter Tryz.func63, Tryz.ntmps63
  go_wp2_with (first | (go_at_call 27; refine (refWithin _ _ _ _).mono ?_; rintro e w' ⟨rfl, rfl⟩))
  by_cases hneg : n < 0
  · refine wp_loop_rounds 1 ?_
    rw [rounds_succ]
    go_wp2
    go_ret2
    have e : octS n ((k : Int) + 1) = ([], 2) := by unfold octS; rw [if_neg (by omega), if_pos (Or.inl hneg)]
    rw [e]
    exact ⟨rfl, bl_refl w⟩
  · go_loop [6, 7] (fun s m => ∃ j : Nat, j ≤ 21 ∧ s = .string (bs (octL j n)) ∧ m = .int .i64 (n / pow8 j) ∧ (j = 0 ∨ pow8 (j - 1) ≤ n)) (fun _ m => (intOf m).toNat)
    case atStart => exact ⟨0, by omega, rfl, by rw [P0.out, Int.ediv_one], .inl rfl⟩
    case round =>
      obtain ⟨j, hj, rfl, rfl, hlow⟩ := hrel
      have HL := Lib.hid hlow
      clear hlow
      have p0 := pow8_pos j
      have q0 : 0 ≤ n / pow8 j := Int.ediv_nonneg (by omega) (by omega)
      have q1 : n / pow8 j ≤ n := Int.ediv_le_self _ (by omega)
      by_cases hlt : 0 < n / pow8 j
      · have hge : pow8 j ≤ n := by
          by_cases h : n < pow8 j
          · rw [Int.ediv_eq_zero_of_lt (by omega) h] at hlt; omega
          · omega
        have hj2 : j < 21 := by
          rcases Nat.lt_or_ge j 21 with h | h
          · exact h
          · obtain rfl : j = 21 := by omega
            rw [pow8_big] at hge; omega
        have HG := Lib.hid hge
        clear hge
        have HD := Lib.hid (show n / pow8 j / 8 = n / pow8 (j + 1) by rw [pow8_succ, Int.mul_comm, ← Int.ediv_ediv_of_nonneg (by omega : (0 : Int) ≤ pow8 j)])
        have HC := Lib.hid (octL_cons j n)
        go_wp2_with (first | (go_at_call 68; refine (itoaDigit _ _ (by omega) (by omega)).mono ?_; rintro e w' ⟨rfl, rfl⟩))
        go_round
        case rel => exact ⟨j + 1, by omega, by rw [HC.out], by rw [HD.out], .inr HG.out⟩
        case measure => simp [intOf] <;> omega
      · have hz : n / pow8 j = 0 := by omega
        have hlt2 : n < pow8 j := by
          by_cases h : n < pow8 j
          · exact h
          · exfalso
            have : 1 ≤ n / pow8 j := by
              have := Int.ediv_le_ediv p0 (show pow8 j ≤ n by omega)
              rwa [Int.ediv_self (by omega)] at this
            omega
        have HZ := Lib.hid hz
        clear hz
        by_cases hjk : k < j
        · have hp := pow8_mono k (j - 1) (by omega)
          have e := Lib.hid (show octS n ((k : Int) + 1) = ([], 2) by
            unfold octS
            rw [if_neg (by omega), if_pos (Or.inr (by rw [hM.out]; rcases HL.out with h | h <;> omega))])
          go_wp2
          go_ret2
          rw [e.out]
          exact ⟨rfl, bl_refl w⟩
        · have e := Lib.hid (show octS n ((k : Int) + 1) = (octL k n ++ [0], 0) by
            have := pow8_mono j k (by omega)
            unfold octS
            rw [if_neg (by omega), if_neg (by rw [hM.out]; omega)]
            rfl)
          have HP := Lib.hid (octL_pad n j k (by omega) hlt2 (by omega))
          have hk1 : (k : Int) - (j : Int) ≤ 140737488355328 := by omega
          go_wp2_with (first | (go_at_call 21; refine (repByte 48 _ _ (by omega) (by omega)).mono ?_; rintro e w1 ⟨rfl, hb⟩))
          go_ret2
          rw [e.out]
          refine ⟨?_, hb⟩
          show Ending.returned (.tuple #[.string (bs _), .int .i64 0]) = _
          rw [HP.out, List.append_assoc]

theorem refOctal (n wd : Int) (w : World) (l0 : -9223372036854775808 ≤ n) (l1 : n ≤ 9223372036854775807) :
    Calls Tryz.prog 63 #[.int .i64 n, .int .i64 wd] w fun e w' => e = .returned (.tuple #[.string (bs (octS n wd).1), .int .i64 (octS n wd).2]) ∧ Below w.heap.size w w' := by
  by_cases h : wd < 2 ∨ 20 < wd
  · have e := Lib.hid (show octS n wd = ([], 1) by unfold octS; rw [if_pos h])
    have hd : (decide (2 ≤ wd) && decide (wd ≤ 20)) = false := by simp; omega
    go_enter Tryz.func63, Tryz.ntmps63
    go_wp2_with (first | (go_at_call 27; refine (refWithin _ _ _ _).mono ?_; rintro e w' ⟨rfl, rfl⟩))
    go_ret2
    rw [e.out]
    exact ⟨rfl, bl_refl w⟩
  · exact refOctal_in n wd w l0 l1 (by omega) (by omega)

def pow2 (k : Nat) : Int := 2 ^ k
theorem pow2_succ (k : Nat) : pow2 (k + 1) = pow2 k * 2 := by unfold pow2; rw [Int.pow_succ]
theorem pow2_le (k : Nat) (h : k ≤ 55) : 1 ≤ pow2 k ∧ pow2 k ≤ 36028797018963968 := by
  have : ∀ k : Fin 56, 1 ≤ pow2 k.val ∧ pow2 k.val ≤ 36028797018963968 := by decide
  exact this ⟨k, by omega⟩
theorem power2 (n : Nat) (hn : n ≤ 55) (w : World) :
    Calls Tryz.prog 111 #[.int .i64 2, .int .i64 n] w fun e w' => e = .returned (.int .i64 (pow2 n)) ∧ w = w' :=
  refPower 2 n w pow2 rfl (fun j _ => pow2_succ j) (fun j hj => by have := pow2_le j (by omega); omega) (by omega)
theorem power55 (w : World) :
    Calls Tryz.prog 111 #[.int .i64 2, .int .i64 55] w fun e w' => e = .returned (.int .i64 36028797018963968) ∧ w = w' :=
  power2 55 (by omega) w
theorem power40 (w : World) :
    Calls Tryz.prog 111 #[.int .i64 2, .int .i64 40] w fun e w' => e = .returned (.int .i64 1099511627776) ∧ w = w' :=
  power2 40 (by omega) w

attribute [go_sem] binL_length
/-- what is left of n, without its sign, behind j bytes -/
def UAt (n : Int) (j : Nat) (u : Int) : Prop := u = (n % 18446744073709551616) / pow256 j
theorem UAt.zero (n : Int) (u : Int) (h : u = n % 18446744073709551616) : UAt n 0 u := by unfold UAt; rw [pow256_zero, Int.ediv_one]; exact h
theorem UAt.step {n : Int} {j : Nat} {u : Int} (h : UAt n j u) : UAt n (j + 1) (u / 256) := by
  unfold UAt at *
  have := pow256_pos j
  rw [h, pow256_succ, Int.mul_comm, ← Int.ediv_ediv_of_nonneg (by omega : (0 : Int) ≤ pow256 j)]
theorem pow256_cut : ∀ j : Nat, j < 8 → ∃ r, (18446744073709551616 : Int) = pow256 j * (256 * r) := by
  intro j hj
  have h : ∀ j : Fin 8, (18446744073709551616 : Int) = pow256 j.val * (256 * pow256 (7 - j.val)) := by decide
  exact ⟨_, h ⟨j, hj⟩⟩
theorem UAt.byte {n : Int} {j : Nat} {u : Int} (h : UAt n j u) (hj : j < 8) : byt (u % 256) = byt (n / pow256 j) := by
  obtain ⟨r, hr⟩ := pow256_cut j hj
  have hp := pow256_pos j
  unfold UAt at h
  have e : n = n % 18446744073709551616 + 18446744073709551616 * (n / 18446744073709551616) := by omega
  have e2 : n / pow256 j = u + 256 * (r * (n / 18446744073709551616)) := by
    conv => lhs; rw [e]
    rw [h]
    generalize n % 18446744073709551616 = a
    generalize n / 18446744073709551616 = q
    rw [hr, show pow256 j * (256 * r) * q = pow256 j * (256 * (r * q)) by simp only [Int.mul_assoc], Int.add_mul_ediv_left _ _ (by omega)]
  rw [e2]
  unfold byt
  congr 2
  omega
theorem byte_neg {n : Int} {j : Nat} (hj : 8 ≤ j) (h : n < 0) (l0 : -9223372036854775808 ≤ n) : byt (n / pow256 j) = 255 := by
  have := pow256_mono j hj
  rw [neg_div_big n _ h (by omega)]
  decide
theorem byte_pos {n : Int} {j : Nat} (hj : 8 ≤ j) (h : 0 ≤ n) (l1 : n ≤ 9223372036854775807) : byt (n / pow256 j) = 0 := by
  have := pow256_mono j hj
  rw [Int.ediv_eq_zero_of_lt h (by omega)]
  decide

theorem wrap_u64_eq (n : Int) : IntKind.u64.wrap n = n % 18446744073709551616 := by simp [IntKind.wrap, IntKind.bits, IntKind.signed]
theorem wrap_u64_range (n : Int) : 0 ≤ IntKind.u64.wrap n ∧ IntKind.u64.wrap n ≤ 18446744073709551615 := by rw [wrap_u64_eq]; omega

set_option maxRecDepth 100000 in
set_option maxHeartbeats 1000000 in
theorem refBinary_in (n wd : Int) (w : World) (l0 : -9223372036854775808 ≤ n) (l1 : n ≤ 9223372036854775807) (h1 : 8 ≤ wd) (h2 : wd ≤ 20) (h3 : ¬ (wd = 8 ∧ (n < -36028797018963968 ∨ 36028797018963967 < n))) :
    Calls Tryz.prog 125 #[.int .i64 n, .int .i64 wd] w fun e w' => e = .returned (.tuple #[.string (bs ((if n < 0 then 255 else 128) :: binL (wd.toNat - 1) n)), .int .i64 0]) ∧ Below w.heap.size w w' := by
  obtain ⟨k, rfl⟩ : ∃ k : Nat, wd = (k : Int) + 1 := ⟨(wd - 1).toNat, by omega⟩
  have e3 := Lib.hid (show ((k : Int) + 1).toNat - 1 = k by omega)
  have hd : decide (8 ≤ (k : Int) + 1) = true := decide_eq_true (by omega)
  have hd2 : decide ((k : Int) + 1 ≤ 20) = true := decide_eq_true (by omega)
  have h8 : (((k : Int) + 1 == 8) = true ∧ decide (-36028797018963968 ≤ n) = true ∧ decide (n ≤ 36028797018963967) = true) ∨ ((k : Int) + 1 == 8) = false := by
    by_cases e : (k : Int) + 1 = 8
    · exact .inl ⟨by simpa using e, decide_eq_true (by omega), decide_eq_true (by omega)⟩
    · exact .inr (by simpa using e)
  clear h3
  have hsg : decide (n < 0) = true ∨ decide (n < 0) = false := by cases decide (n < 0) <;> simp
  rcases h8 with ⟨hq, hn1, hn2⟩ | hq
  all_goals
    go_enter Tryz.func125, Tryz.ntmps125
    go_wp2_with (first | (go_at_call 27; refine (refWithin _ _ _ _).mono ?_; rintro e w' ⟨rfl, rfl⟩) | (go_at_call 111; refine (power55 _).mono ?_; rintro e w' ⟨rfl, rfl⟩))
    clear hq hd hd2
    go_loopw [6, 7, 8, 9] (fun u s i c wr => ∃ j : Nat, j ≤ k ∧ i = .int .i64 ((j : Int) + 1) ∧ s = .string (bs (binL j n)) ∧ (∃ x : Int, u = .int .u64 x ∧ 0 ≤ x ∧ x ≤ 18446744073709551615 ∧ UAt n j x) ∧ Below w.heap.size w wr) (fun _ _ i _ _ => k + 1 - (intOf i).toNat)
    case atStart =>
      exact ⟨0, by omega, rfl, rfl, ⟨_, rfl, (wrap_u64_range n).1, (wrap_u64_range n).2, UAt.zero _ _ (wrap_u64_eq n)⟩, bl_refl w⟩
    case round =>
      obtain ⟨j, hj, rfl, rfl, ⟨x, rfl, hx0, hx1, hU⟩, hb⟩ := hrel
      have HC := Lib.hid (binL_cons j n)
      by_cases hlt : j < k
      · by_cases h8 : j < 8
        · go_wp2_with (first | (go_at_call 66; refine (refChar _ _).mono ?_; rintro e w1 ⟨rfl, hb1⟩))
          go_roundw
          case rel => exact ⟨j + 1, by omega, by go_num, by rw [HC.out, ← hU.byte h8], ⟨_, rfl, by omega, by omega, hU.step⟩, bl_then hb1 hb hb.size⟩
          case measure => simp [intOf]; omega
        · rcases hsg with hs | hs
          · have HX := Lib.hid (byte_neg (n := n) (j := j) (by omega) (of_decide_eq_true hs) l0)
            go_wp2_with (first | (go_at_call 59; refine (refOne true _).mono ?_; rintro e w1 ⟨rfl, rfl⟩) | (go_at_call 66; refine (refChar _ _).mono ?_; rintro e w1 ⟨rfl, hb1⟩))
            go_roundw
            case rel => exact ⟨j + 1, by omega, by go_num, by rw [HC.out, HX.out]; rfl, ⟨_, rfl, by omega, by omega, hU.step⟩, bl_then hb1 hb hb.size⟩
            case measure => simp [intOf]; omega
          · have HX := Lib.hid (byte_pos (n := n) (j := j) (by omega) (by simpa using hs) l1)
            go_wp2_with (first | (go_at_call 59; refine (refOne false _).mono ?_; rintro e w1 ⟨rfl, rfl⟩) | (go_at_call 66; refine (refChar _ _).mono ?_; rintro e w1 ⟨rfl, hb1⟩))
            go_roundw
            case rel => exact ⟨j + 1, by omega, by go_num, by rw [HC.out, HX.out]; rfl, ⟨_, rfl, by omega, by omega, hU.step⟩, bl_then hb1 hb hb.size⟩
            case measure => simp [intOf]; omega
      · obtain rfl : k = j := by omega
        clear HC
        rcases hsg with hs | hs
        · have hn : n < 0 := of_decide_eq_true hs
          go_wp2_with (first | (go_at_call 59; refine (refOne true _).mono ?_; rintro e w1 ⟨rfl, rfl⟩) | (go_at_call 66; refine (refChar _ _).mono ?_; rintro e w1 ⟨rfl, hb1⟩))
          go_ret2
          first
            | exact ⟨by rw [if_pos hn, e3.out]; rfl, bl_then hb1 hb hb.size⟩
            | exact ⟨rfl, bl_then hb1 hb hb.size⟩
        · have hn : ¬ n < 0 := by simpa using hs
          go_wp2_with (first | (go_at_call 59; refine (refOne false _).mono ?_; rintro e w1 ⟨rfl, rfl⟩) | (go_at_call 66; refine (refChar _ _).mono ?_; rintro e w1 ⟨rfl, hb1⟩))
          go_ret2
          first
            | exact ⟨by rw [if_neg hn, e3.out]; rfl, bl_then hb1 hb hb.size⟩
            | exact ⟨rfl, bl_then hb1 hb hb.size⟩

theorem refBinary (n wd : Int) (w : World) (l0 : -9223372036854775808 ≤ n) (l1 : n ≤ 9223372036854775807) :
    Calls Tryz.prog 125 #[.int .i64 n, .int .i64 wd] w fun e w' => e = .returned (.tuple #[.string (bs (binS n wd).1), .int .i64 (binS n wd).2]) ∧ Below w.heap.size w w' := by
  by_cases h1 : wd < 8 ∨ 20 < wd
  · have e := Lib.hid (show binS n wd = ([], 1) by unfold binS; rw [if_pos h1])
    have hd : (decide (8 ≤ wd) && decide (wd ≤ 20)) = false := by simp; omega
    go_enter Tryz.func125, Tryz.ntmps125
    go_wp2_with (first | (go_at_call 27; refine (refWithin _ _ _ _).mono ?_; rintro e w' ⟨rfl, rfl⟩))
    go_ret2
    rw [e.out]
    exact ⟨rfl, bl_refl w⟩
  · by_cases h2 : wd = 8 ∧ (n < -36028797018963968 ∨ 36028797018963967 < n)
    · have e := Lib.hid (show binS n wd = ([], 2) by unfold binS; rw [if_neg h1, if_pos h2])
      obtain ⟨rfl, h2⟩ := h2
      have hd : (decide (-36028797018963968 ≤ n) && decide (n ≤ 36028797018963967)) = false := by simp; omega
      go_enter Tryz.func125, Tryz.ntmps125
      go_wp2_with (first | (go_at_call 27; refine (refWithin _ _ _ _).mono ?_; rintro e w' ⟨rfl, rfl⟩) | (go_at_call 111; refine (power55 _).mono ?_; rintro e w' ⟨rfl, rfl⟩))
      go_ret2
      rw [e.out]
      exact ⟨rfl, bl_refl w⟩
    · rw [binS, if_neg h1, if_neg h2]
      exact refBinary_in n wd w l0 l1 (by omega) (by omega) h2

theorem refNumWrite (n wd : Int) (b : Bool) (w : World) (l0 : -9223372036854775808 ≤ n) (l1 : n ≤ 9223372036854775807) :
    Calls Tryz.prog 90 #[.int .i64 n, .int .i64 wd, .bool b] w fun e w' => e = .returned (.tuple #[.string (bs (wrS n wd b).1), .int .i64 (wrS n wd b).2]) ∧ Below w.heap.size w w' := by
  by_cases h : (octS n wd).2 = 2 ∧ b = true ∧ 8 ≤ wd
  · have e := Lib.hid (show wrS n wd b = binS n wd by rw [wrS, if_pos h])
    obtain ⟨h1, rfl, h3⟩ := h
    have hq : ((octS n wd).2 == 2) = true := by simpa using h1
    clear h1
    go_enter Tryz.func90, Tryz.ntmps90
    go_wp2_with (first | (go_at_call 63; refine (refOctal n wd _ l0 l1).mono ?_; rintro e w1 ⟨rfl, hb⟩) | (go_at_call 125; refine (refBinary n wd _ l0 l1).mono ?_; rintro e w2 ⟨rfl, hb2⟩))
    go_ret2
    rw [e.out]
    exact ⟨rfl, bl_then hb2 hb hb.size⟩
  · have e := Lib.hid (show wrS n wd b = octS n wd by rw [wrS, if_neg h])
    have hq : ((octS n wd).2 == 2) = false ∨ ((octS n wd).2 == 2) = true ∧ (b = false ∨ b = true ∧ wd < 8) := by
      cases hx : ((octS n wd).2 == 2)
      · exact .inl rfl
      · refine .inr ⟨rfl, ?_⟩
        cases b
        · exact .inl rfl
        · exact .inr ⟨rfl, by simp only [beq_iff_eq] at hx; simp only [hx, true_and] at h; omega⟩
    clear h
    rcases hq with hq | ⟨hq, rfl | ⟨rfl, h3⟩⟩
    all_goals
      go_enter Tryz.func90, Tryz.ntmps90
      go_wp2_with (first | (go_at_call 63; refine (refOctal n wd _ l0 l1).mono ?_; rintro e w1 ⟨rfl, hb⟩))
      go_ret2
      rw [e.out]
      exact ⟨rfl, hb⟩
end Go.Proofs.YtehkfbgbpmfpmaaGreatDoor
