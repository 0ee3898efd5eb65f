/- number.Write; revetmentref's power, Most, char. -/
import Derived.Test.YtehkfbgbpmfpmaaGreatDoorA2
namespace Go.Proofs.YtehkfbgbpmfpmaaGreatDoor
set_option linter.unusedVariables false
set_option linter.unusedSimpArgs false
open Go.RowKit

def wrS (n w : Int) (b : Bool) : List UInt8 × Int := if (octS n w).2 = 2 ∧ b = true ∧ 8 ≤ w then binS n w else octS n w

theorem refWithin (n a b : Int) (w : World) :
    Calls Tryz.prog 27 #[.int .i64 n, .int .i64 a, .int .i64 b] w fun e w' => e = .returned (.bool (decide (a ≤ n) && decide (n ≤ b))) ∧ w = w' := by
  by_cases h : a ≤ n
  · have e : decide (a ≤ n) = true := decide_eq_true h
    rw [e]
    go_enter Tryz.func27, Tryz.ntmps27
    go_wp2
    go_ret
    exact ⟨rfl, rfl⟩
  · have e : decide (a ≤ n) = false := decide_eq_false h
    rw [e]
    go_enter Tryz.func27, Tryz.ntmps27
    go_wp2
    go_ret
    exact ⟨rfl, rfl⟩

theorem refOne (b : Bool) (w : World) :
    Calls Tryz.prog 59 #[.bool b] w fun e w' => e = .returned (.int .i64 (if b then 1 else 0)) ∧ w = w' := by
  cases b <;> go_enter Tryz.func59, Tryz.ntmps59
  all_goals go_wp2
  all_goals go_ret
  all_goals exact ⟨rfl, rfl⟩

set_option maxHeartbeats 400000 in
theorem numWrite (n wd : Int) (b : Bool) (w : World) (l0 : -9223372036854775808 ≤ n) (l1 : n ≤ 9223372036854775807) :
    Calls Tryz.prog 109 #[.int .i64 n, .int .i64 wd, .bool b] w fun e w' => e = .returned (.tuple #[.string (bs (wrS n wd b).1), errV (wrS n wd b).2]) ∧ Below w.heap.size w w' := by
  by_cases h : (octS n wd).2 = 2 ∧ b = true ∧ 8 ≤ wd
  · have e := Lib.hid (show wrS n wd b = binS n wd by rw [wrS, if_pos h])
    obtain ⟨h1, rfl, h3⟩ := h
    have hq : ((octS n wd).2 == 2) = true := by simpa using h1
    clear h1
    go_enter Tryz.func109, Tryz.ntmps109
    go_wp2_with (first | (go_at_call 121; refine (numOctal n wd _).mono ?_; rintro e w1 ⟨rfl, hb⟩) | (go_at_call 132; refine (numBinary n wd _ l0 l1).mono ?_; rintro e w2 ⟨rfl, hb2⟩))
    go_ret2
    rw [e.out]
    exact ⟨rfl, bl_then hb2 hb hb.size⟩
  · have e := Lib.hid (show wrS n wd b = octS n wd by rw [wrS, if_neg h])
    have hq : ((octS n wd).2 == 2) = false ∨ ((octS n wd).2 == 2) = true ∧ (b = false ∨ b = true ∧ wd < 8) := by
      cases hx : ((octS n wd).2 == 2)
      · exact .inl rfl
      · refine .inr ⟨rfl, ?_⟩
        cases b
        · exact .inl rfl
        · exact .inr ⟨rfl, by simp only [beq_iff_eq] at hx; simp only [hx, true_and] at h; omega⟩
    clear h
    rcases hq with hq | ⟨hq, rfl | ⟨rfl, h3⟩⟩
    all_goals
      go_enter Tryz.func109, Tryz.ntmps109
      go_wp2_with (first | (go_at_call 121; refine (numOctal n wd _).mono ?_; rintro e w1 ⟨rfl, hb⟩))
      go_ret2
      rw [e.out]
      exact ⟨rfl, hb⟩

theorem refPower (b : Int) (n : Nat) (w : World) (f : Nat → Int) (h0 : f 0 = 1) (hs : ∀ j, j < n → f (j + 1) = f j * b) (hB : ∀ j, j ≤ n → -9223372036854775808 ≤ f j ∧ f j ≤ 9223372036854775807) (hn : n ≤ 1000) :
    Calls Tryz.prog 111 #[.int .i64 b, .int .i64 n] w fun e w' => e = .returned (.int .i64 (f n)) ∧ w = w' := by
  have hs' := Lib.hid hs
  have hB' := Lib.hid hB
  have h0' := Lib.hid h0
  clear hs hB h0
  go_enter Tryz.func111, Tryz.ntmps111
  go_wp2
  go_loop [1, 5] (fun m o => ∃ j : Nat, j ≤ n ∧ m = .int .i64 ((n - j : Nat) : Int) ∧ o = .int .i64 (f j)) (fun m _ => (intOf m).toNat)
  case atStart => exact ⟨0, by omega, rfl, by rw [h0'.out]⟩
  case round =>
    obtain ⟨j, hj, rfl, rfl⟩ := hrel
    by_cases hlt : j < n
    · obtain ⟨m, hm⟩ : ∃ m : Nat, n - j = m + 1 := ⟨n - j - 1, by omega⟩
      have hm1 : m ≤ 1000 := by omega
      have Hm := Lib.hid hm
      rw [hm]
      clear hm
      have hb1 := (hB'.out (j + 1) (by omega)).1
      have hb2 := (hB'.out (j + 1) (by omega)).2
      rw [hs'.out j hlt] at hb1 hb2
      go_wp2
      go_round
      case rel => exact ⟨j + 1, by omega, by have := Hm.out; rw [show n - (j + 1) = m by omega], by rw [hs'.out j hlt]⟩
      case measure => simp [intOf] <;> omega
    · obtain rfl : n = j := by omega
      rw [Nat.sub_self]
      go_wp2
      go_ret
      exact ⟨rfl, rfl⟩

theorem refMost (n : Int) (w : World) :
    Calls Tryz.prog 67 #[.int .i64 n] w fun e w' => e = .returned (.int .i64 (mostS n)) ∧ w = w' := by
  by_cases h : 2 ≤ n ∧ n ≤ 20
  · obtain ⟨k, rfl⟩ : ∃ k : Nat, n = (k : Int) + 1 := ⟨(n - 1).toNat, by omega⟩
    have hE := Lib.hid (show mostS ((k : Int) + 1) = pow8 k - 1 by unfold mostS; rw [if_pos (by omega)]; congr 2)
    have hp := pow8_pos k
    have hq := pow8_le k (by omega)
    have hP := Lib.hid (refPower 8 k w pow8 pow8_zero (fun j _ => by rw [pow8_succ, Int.mul_comm]) (fun j hj => by have := pow8_pos j; have := pow8_le j (by omega); omega) (by omega))
    have hd : decide (2 ≤ (k : Int) + 1) = true := decide_eq_true (by omega)
    have hd2 : decide ((k : Int) + 1 ≤ 20) = true := decide_eq_true (by omega)
    go_enter Tryz.func67, Tryz.ntmps67
    go_wp2_with (first | (go_at_call 27; refine (refWithin _ _ _ _).mono ?_; rintro e w' ⟨rfl, rfl⟩) | (go_at_call 111; refine hP.out.mono ?_; rintro e w' ⟨rfl, rfl⟩))
    go_ret
    exact ⟨ret_int hE.out.symm, rfl⟩
  · have hE := Lib.hid (show mostS n = 0 by unfold mostS; rw [if_neg h])
    have hd : (decide (2 ≤ n) && decide (n ≤ 20)) = false := by simp; omega
    go_enter Tryz.func67, Tryz.ntmps67
    go_wp2_with (first | (go_at_call 27; refine (refWithin _ _ _ _).mono ?_; rintro e w' ⟨rfl, rfl⟩))
    go_ret
    exact ⟨ret_int hE.out.symm, rfl⟩
end Go.Proofs.YtehkfbgbpmfpmaaGreatDoor
