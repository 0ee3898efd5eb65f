/- revetmentref.Sum, Seal; block.Seal. -/
import Derived.Test.YtehkfbgbpmfpmaaGreatDoorA6
import Derived.Lib.ConvBytes
namespace Go.Proofs.YtehkfbgbpmfpmaaGreatDoor
set_option linter.unusedVariables false
set_option linter.unusedSimpArgs false
open Go.RowKit

theorem bl_bytes (w : World) (e : TypeId) (s : ByteArray) : Below w.heap.size w (Lib.bytesWorld w e s) :=
  ⟨rfl, rfl, rfl, by rw [Lib.bytesWorld_size]; omega, fun i hi => Lib.bytesWorld_at_old w e s i hi⟩

def spc (j : Nat) : Int := if j ≤ 148 then 0 else if j ≤ 156 then 32 * ((j : Int) - 148) else 256
theorem spc_in (j : Nat) (h : 148 ≤ j ∧ j < 156) : spc (j + 1) = spc j + 32 := by unfold spc; split <;> split <;> (try split) <;> omega
theorem spc_out (j : Nat) (h : ¬ (148 ≤ j ∧ j < 156)) : spc (j + 1) = spc j := by unfold spc; split <;> split <;> (try split) <;> (try split) <;> omega
theorem spc_range (j : Nat) : 0 ≤ spc j ∧ spc j ≤ 256 := by unfold spc; split <;> (try split) <;> omega

set_option maxRecDepth 100000 in
set_option maxHeartbeats 1000000 in
theorem refSum (s : ByteArray) (sg : Bool) (w : World) (hs : s.size = 512) :
    Calls Tryz.prog 112 #[.string s, .bool sg] w fun e w' => e = .returned (.tuple #[.int .i64 (sumTo s.data.toList sg 512), .int .i64 0]) ∧ Below w.heap.size w w' := by
  have hs0 : (s.size : Int) = 512 := by omega
  have hs1 := Lib.hid hs
  have hcv := fun W : World => Lib.run_convert_string_bytes (P := Tryz.prog) W 9 85 5 s Tryz.underlying9 Tryz.underlying85 Tryz.underlying5
  have HC := Lib.hid (Lib.bytesWorld_cell w 5 s)
  clear hs
  go_enter Tryz.func112, Tryz.ntmps112
  go_wp2
  clear hcv
  go_loop [6, 15] (fun n i => ∃ j : Nat, j ≤ 512 ∧ i = .int .i64 j ∧ n = .int .i64 (sumTo s.data.toList sg j + 256 - spc j)) (fun _ i => 512 - (intOf i).toNat)
  case atStart => exact ⟨0, by omega, rfl, rfl⟩
  case round =>
    obtain ⟨j, hj, rfl, rfl⟩ := hrel
    by_cases hlt : j < 512
    · have hr := sumTo_range s.data.toList sg j
      have hp := spc_range j
      have hsz : j < s.size := by have := hs1.out; omega
      have hc := HC.out j hsz
      have hb1 : ((s.data.toList.getD j 0).toNat : Int) ≤ 255 := by have := (s.data.toList.getD j 0).toNat_lt; omega
      generalize hB : ((s.data.toList.getD j 0).toNat : Int) = b at hc hb1
      have HB := Lib.hid hB
      have hb0 : 0 ≤ b := by omega
      clear hB
      by_cases hin : 148 ≤ j ∧ j < 156
      · have d1 : decide (148 ≤ (j : Int)) = true := decide_eq_true (by omega)
        have d2 : decide ((j : Int) ≤ 155) = true := decide_eq_true (by omega)
        have HS := Lib.hid (spc_in j hin)
        go_wp2_with (first | (go_at_call 27; refine (refWithin _ _ _ _).mono ?_; rintro e w' ⟨rfl, rfl⟩))
        go_round
        case rel =>
          refine ⟨j + 1, by omega, by go_num, congrArg (Value.int .i64) ?_⟩
          rw [HS.out, sumTo, sumC, if_pos hin]; omega
        case measure => simp [intOf]; omega
      · have d1 : (decide (148 ≤ (j : Int)) && decide ((j : Int) ≤ 155)) = false := by simp; omega
        have HS := Lib.hid (spc_out j hin)
        by_cases hb : sg = true ∧ 128 ≤ b
        · obtain ⟨rfl, hb8⟩ := hb
          go_wp2_with (first | (go_at_call 27; refine (refWithin _ _ _ _).mono ?_; rintro e w' ⟨rfl, rfl⟩))
          go_round
          case rel =>
            refine ⟨j + 1, by omega, by go_num, congrArg (Value.int .i64) ?_⟩
            rw [HS.out, sumTo, sumC, if_neg hin, HB.out, if_pos ⟨rfl, hb8⟩]; omega
          case measure => simp [intOf]; omega
        · have hb' : sg = false ∨ sg = true ∧ b < 128 := by
            cases sg
            · exact .inl rfl
            · exact .inr ⟨rfl, by simp at hb; omega⟩
          have HN := Lib.hid hb
          clear hb
          rcases hb' with rfl | ⟨rfl, hb8⟩
          all_goals
            go_wp2_with (first | (go_at_call 27; refine (refWithin _ _ _ _).mono ?_; rintro e w' ⟨rfl, rfl⟩))
            go_round
            case rel =>
              refine ⟨j + 1, by omega, by go_num, congrArg (Value.int .i64) ?_⟩
              rw [HS.out, sumTo, sumC, if_neg hin, HB.out, if_neg (by simp <;> omega)]; omega
            case measure => simp [intOf]; omega
    · obtain rfl : 512 = j := by omega
      go_wp2
      go_ret2
      refine ⟨?_, bl_bytes _ _ _⟩
      have e : spc 512 = 256 := rfl
      exact congrArg (fun x => Ending.returned (.tuple #[.int .i64 x, .int .i64 0])) (by rw [e]; omega)

theorem refSum_arg (s : ByteArray) (sg : Bool) (w : World) (hs : s.size ≠ 512) :
    Calls Tryz.prog 112 #[.string s, .bool sg] w fun e w' => e = .returned (.tuple #[.int .i64 0, .int .i64 1]) ∧ w = w' := by
  have hs0 : ((s.size : Int) != 512) = true := by rw [bne_iff_ne]; omega
  go_enter Tryz.func112, Tryz.ntmps112
  go_wp2
  go_ret2
  exact ⟨rfl, rfl⟩

/-- a header with its checksum -/
def sealL (l : List UInt8) : List UInt8 := l.take 148 ++ (octL 6 (sumTo l false 512) ++ 0 :: 32 :: (l.drop 156).take 356)
theorem extract_bs (s : ByteArray) (a b : Nat) : s.extract a b = bs ((s.data.toList.take b).drop a) := by
  conv => lhs; rw [← bs_of (s.extract a b)]
  congr 1
  simp [ByteArray.data_extract, List.extract_eq_take_drop, List.drop_take]

theorem most7 : mostS 7 = 262143 := by decide
theorem sumTo_nonneg (l : List UInt8) : ∀ i : Nat, 0 ≤ sumTo l false i
  | 0 => by simp [sumTo]
  | i + 1 => by
    have := sumTo_nonneg l i
    have h : 0 ≤ sumC false i (l.getD i 0) := by
      unfold sumC
      split
      · omega
      · simp
    simp only [sumTo]
    omega

set_option maxRecDepth 100000 in
theorem blockSeal (s : ByteArray) (w : World) (hs : s.size = 512) :
    Calls Tryz.prog 80 #[.string s] w fun e w' => e = .returned (.tuple #[.string (bs (sealL s.data.toList)), .nilIface]) ∧ Below w.heap.size w w' := by
  have hs0 : (s.size : Int) = 512 := by omega
  have hp := sumTo_nonneg s.data.toList 512
  have hr := sumTo_range s.data.toList false 512
  have hm := most7
  have hO := Lib.hid (numOctal_ok (sumTo s.data.toList false 512) 7 w (by omega) (by omega) hp (by omega))
  go_enter Tryz.func80, Tryz.ntmps80
  go_wp2_with (first | (go_at_call 120; refine (blockSum s false _ hs).mono ?_; rintro e w' ⟨rfl, rfl⟩) | (go_at_call 121; refine hO.out.mono ?_; rintro e w1 ⟨rfl, hb⟩))
  go_quiet (fail)
  go_wp2
  go_ret2
  exact ⟨rfl, bl_drewN hb _⟩

theorem octS_seal (x : Int) (h0 : 0 ≤ x) (h1 : x ≤ 262143) : octS x 7 = (octL 6 x ++ [0], 0) := by
  unfold octS
  rw [if_neg (by omega), if_neg (by rw [most7]; omega)]
  rfl

set_option maxRecDepth 100000 in
theorem refSeal (s : ByteArray) (w : World) (hs : s.size = 512) :
    Calls Tryz.prog 64 #[.string s] w fun e w' => e = .returned (.tuple #[.string (bs (sealL s.data.toList)), .int .i64 0]) ∧ Below w.heap.size w w' := by
  have hs0 : (s.size : Int) = 512 := by omega
  have hp := sumTo_nonneg s.data.toList 512
  have hr := sumTo_range s.data.toList false 512
  have hO := fun w' : World => refOctal (sumTo s.data.toList false 512) 7 w' (by omega) (by omega)
  rw [octS_seal _ hp (by omega)] at hO
  have HO := Lib.hid hO
  clear hO
  go_enter Tryz.func64, Tryz.ntmps64
  go_wp2_with (first | (go_at_call 112; refine (refSum s false _ hs).mono ?_; rintro e w1 ⟨rfl, hb1⟩) | (go_at_call 63; refine (HO.out _).mono ?_; rintro e w2 ⟨rfl, hb2⟩))
  go_quiet (fail)
  go_wp2
  go_ret2
  exact ⟨rfl, bl_drewN (bl_then hb2 hb1 hb1.size) _⟩

theorem refSeal_arg (s : ByteArray) (w : World) (hs : s.size ≠ 512) :
    Calls Tryz.prog 64 #[.string s] w fun e w' => e = .returned (.tuple #[.string (bs []), .int .i64 1]) ∧ w = w' := by
  go_enter Tryz.func64, Tryz.ntmps64
  go_wp2_with (first | (go_at_call 112; refine (refSum_arg s false _ hs).mono ?_; rintro e w1 ⟨rfl, rfl⟩))
  go_ret2
  exact ⟨rfl, rfl⟩
end Go.Proofs.YtehkfbgbpmfpmaaGreatDoor
