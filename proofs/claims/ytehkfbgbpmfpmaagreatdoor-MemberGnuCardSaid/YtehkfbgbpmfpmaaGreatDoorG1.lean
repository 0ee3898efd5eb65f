/- revetmentref.cutTo, revetmentref.piecesText. -/
import Derived.Test.YtehkfbgbpmfpmaaGreatDoorF4
namespace Go.Proofs.YtehkfbgbpmfpmaaGreatDoor
set_option linter.unusedVariables false
set_option linter.unusedSimpArgs false
open Go.RowKit

theorem refCut (s : ByteArray) (w : World) (hs : s.size ≤ 1000000) :
    Calls Tryz.prog 62 #[.string s, .int .i64 100] w fun e w' => e = .returned (.string (cut100 s)) ∧ w = w' := by
  by_cases h : s.size ≤ 100
  · have hm : min (100 : Int) (s.size : Int) = (s.size : Int) := by omega
    have e1 := Lib.hid (show s = cut100 s by unfold cut100; rw [List.take_of_length_le (by rw [← Lib.size_eq]; exact h), bs_of])
    go_enter Tryz.func62, Tryz.ntmps62
    go_wp2
    go_ret
    refine ⟨ret_str ?_, rfl⟩
    rw [← e1.out]
    try first | rfl | (rw [extract_bs, List.drop_zero, List.take_of_length_le (by rw [← Lib.size_eq]; exact Nat.le_refl _), bs_of])
  · have hm : min (100 : Int) (s.size : Int) = 100 := by omega
    go_enter Tryz.func62, Tryz.ntmps62
    go_wp2
    go_ret
    refine ⟨ret_str ?_, rfl⟩
    unfold cut100
    try first | rfl | (rw [extract_bs, List.drop_zero])

theorem refOctalD (n : Int) (w : World) (h0 : 0 ≤ n) (h1 : n ≤ 8589934591) :
    Calls Tryz.prog 63 #[.int .i64 n, .int .i64 12] w fun e w' => e = .returned (.tuple #[.string (bs (digL n)), .int .i64 0]) ∧ Below w.heap.size w w' := by
  have h := refOctal n 12 w (by omega) (by omega)
  have e : octS n 12 = (digL n, 0) := by
    unfold octS
    rw [if_neg (by omega), if_neg (by rw [most12]; omega)]
    rfl
  rw [e] at h
  exact h

theorem rowS_zero (l : List (Int × Int)) : rowS l 0 = [] := by simp [rowS, preL]
theorem rowS_in (l : List (Int × Int)) (j : Nat) (h : j < l.length) : rowS l (j + 1) = rowS l j ++ (digL (l.getD j (0, 0)).1 ++ digL (l.getD j (0, 0)).2) := by
  unfold rowS
  rw [Nat.min_eq_left (by omega), Nat.min_eq_left (by omega)]
  simp [preL, pieceL]
def z24 : List UInt8 := List.replicate 24 0
theorem z24_len : z24.length = 24 := rfl
theorem rep24 (w : World) : Calls Tryz.prog 21 #[.string ⟨#[0]⟩, .int .i64 24] w fun e w' => e = .returned (.string (bs z24)) ∧ Below w.heap.size w w' := repByte 0 24 w (by omega) (by omega)
theorem rowS_out (l : List (Int × Int)) (j : Nat) (h : l.length ≤ j) : rowS l (j + 1) = rowS l j ++ z24 := by
  unfold rowS z24
  rw [Nat.min_eq_right (by omega), Nat.min_eq_right (by omega), List.append_assoc, List.replicate_append_replicate]
  congr 3
  omega

attribute [local irreducible] rowS digL z24
set_option maxHeartbeats 4000000 in
theorem refPieces (a : Option Addr) (n c : Nat) (l : List (Int × Int)) (f many : Nat) (w : World) (hr : PRow w a n l) (hn : n ≤ 1000000) (hp : POk l) (hf : f ≤ 1000000) (hm : many ≤ 21) :
    Calls Tryz.prog 65 #[.slice a n c, .int .i64 f, .int .i64 many] w fun e w' => e = .returned (.string (bs (rowS (l.drop f) many))) ∧ Below w.heap.size w w' := by
  have HR := Lib.hid hr
  have HP := Lib.hid hp
  have HL := Lib.hid hr.1
  have hz := Lib.hid (rowS_zero (l.drop f))
  clear hr hp
  go_enter Tryz.func65, Tryz.ntmps65
  go_wp2
  go_loopw [7, 8] (fun s k wr => ∃ j : Nat, j ≤ many ∧ k = .int .i64 ((f + j : Nat) : Int) ∧ s = .string (bs (rowS (l.drop f) j)) ∧ Below w.heap.size w wr) (fun _ k _ => f + many - (intOf k).toNat)
  case atStart => exact ⟨0, by omega, rfl, by rw [hz.out]; rfl, bl_refl w⟩
  case round =>
    obtain ⟨j, hj, rfl, rfl, hb⟩ := hrel
    have hlen := rowS_length (l.drop f) j
    by_cases hlt : j < many
    · by_cases hin : f + j < n
      · have HS := Lib.hid (rowS_in (l.drop f) j (by rw [List.length_drop, ← HL.out]; omega))
        have HG : (l.drop f).getD j (0, 0) = l.getD (f + j) (0, 0) := by simp [List.getD, List.getElem?_drop]
        rw [HG] at HS
        obtain ⟨-, h2⟩ := HR.out.bl hb
        rcases h2 with h2 | ⟨b, o, rfl, hcell⟩
        · omega
        have HC := Lib.hid hcell
        obtain ⟨hc1, hc2⟩ := hcell (f + j) hin
        obtain ⟨⟨p0, p1⟩, q0, q1⟩ := HP.out (f + j) (by rw [← HL.out]; exact hin)
        clear hcell HG
        generalize (l.getD (f + j) (0, 0)).1 = p at *
        generalize (l.getD (f + j) (0, 0)).2 = q at *
        have hF := digFits p q
        have hF2 : Fits (rowS (l.drop f) j) (digL p ++ digL q) := by unfold Fits; rw [hlen]; simp [digL_length]; omega
        clear hlen
        go_wp2_with (first
          | (go_at_call 63; (with_reducible refine (refOctalD p _ p0 p1).mono ?_); rintro x w1 ⟨rfl, hb1⟩; have g1 := bl_then hb1 hb hb.size; have k2 := ((bl_cells hb1).1 b (o + (f + j) * 2 + 1) (lt_of_cell hc2)).trans hc2; clear hb1 hc1 hc2)
          | (go_at_call 63; (with_reducible refine (refOctalD q _ q0 q1).mono ?_); rintro x w2 ⟨rfl, hb2⟩; have g2 := bl_then hb2 g1 g1.size; clear hb2))
        go_roundw
        case rel => exact ⟨j + 1, by omega, by go_num, by rw [HS.out], g2⟩
        case measure => simp [intOf]; omega
      · have HS := Lib.hid (rowS_out (l.drop f) j (by rw [List.length_drop, ← HL.out]; omega))
        have hF2 : Fits (rowS (l.drop f) j) z24 := by unfold Fits; rw [hlen, z24_len]; omega
        clear hlen
        go_wp2_with (first
          | (go_at_call 21; refine (rep24 _).mono ?_; rintro x w1 ⟨rfl, hb1⟩; have g1 := bl_then hb1 hb hb.size; clear hb1))
        go_roundw
        case rel => exact ⟨j + 1, by omega, by go_num, by rw [HS.out], g1⟩
        case measure => simp [intOf]; omega
    · obtain rfl : j = many := by omega
      go_wp2
      go_ret
      exact ⟨rfl, hb⟩
end Go.Proofs.YtehkfbgbpmfpmaaGreatDoor
