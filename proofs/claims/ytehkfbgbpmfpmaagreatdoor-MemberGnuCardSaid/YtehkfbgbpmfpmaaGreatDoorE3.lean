/- hole.Size and revetmentref.MapSize. -/
import Derived.Test.YtehkfbgbpmfpmaaGreatDoorE2
namespace Go.Proofs.YtehkfbgbpmfpmaaGreatDoor
set_option linter.unusedVariables false
set_option linter.unusedSimpArgs false
open Go.RowKit

/-- the sum of the pieces' sizes, as it is reckoned -/
def mapSum (l : List (Int × Int)) : Nat → Int
  | 0 => 0
  | i + 1 => wrap64 (mapSum l i + (l.getD i (0, 0)).2)
theorem mapSum_range (l : List (Int × Int)) : ∀ i, -9223372036854775808 ≤ mapSum l i ∧ mapSum l i ≤ 9223372036854775807
  | 0 => by simp [mapSum]
  | i + 1 => by
    simp only [mapSum]
    unfold wrap64; omega

set_option maxHeartbeats 1000000 in
theorem holeSize (a : Option Addr) (n c : Nat) (l : List (Int × Int)) (w : World) (hr : PRow w a n l) (hn0 : n ≤ 1000000000) :
    Calls Tryz.prog 117 #[.slice a n c] w fun e w' => e = .returned (.int .i64 (mapSum l l.length)) ∧ Below w.heap.size w w' := by
  have HR := Lib.hid hr
  obtain ⟨hn, -⟩ := hr
  have Hn := Lib.hid hn
  clear hn
  go_enter Tryz.func117, Tryz.ntmps117
  go_wp2
  go_loopw [3, 8] (fun s i wr => ∃ j : Nat, j ≤ n ∧ i = .int .i64 j ∧ s = .int .i64 (mapSum l j) ∧ Below w.heap.size w wr) (fun _ i _ => n - (intOf i).toNat)
  case atStart => exact ⟨0, by omega, rfl, rfl, bl_refl w⟩
  case round =>
    obtain ⟨j, hj, rfl, rfl, hb⟩ := hrel
    by_cases hlt : j < n
    · obtain ⟨-, h2⟩ := HR.out.bl hb
      rcases h2 with h2 | ⟨b, o, rfl, hc⟩
      · omega
      obtain ⟨hc1, hc2⟩ := hc j hlt
      clear hc
      obtain ⟨q, hq1⟩ : ∃ q, Hid (q = (l.getD j (0, 0)).2) := ⟨_, rfl⟩
      rw [← hq1.out] at hc2
      go_wp2
      go_roundw
      case rel => exact ⟨j + 1, by omega, by go_num, by rw [hq1.out]; rfl, bl_alloc hb _⟩
      case measure => simp [intOf]; omega
    · obtain rfl : n = j := by omega
      go_wp2
      go_ret
      exact ⟨ret_int (by rw [← Hn.out]), hb⟩

set_option maxHeartbeats 1000000 in
theorem mapSize (a : Option Addr) (n c : Nat) (l : List (Int × Int)) (w : World) (hr : PRow w a n l) (hn0 : n ≤ 1000000000) :
    Calls Tryz.prog 61 #[.slice a n c] w fun e w' => e = .returned (.int .i64 (mapSum l l.length)) ∧ Below w.heap.size w w' := by
  have HR := Lib.hid hr
  obtain ⟨hn, -⟩ := hr
  have Hn := Lib.hid hn
  clear hn
  go_enter Tryz.func61, Tryz.ntmps61
  go_wp2
  go_loopw [3, 8] (fun s i wr => ∃ j : Nat, j ≤ n ∧ i = .int .i64 j ∧ s = .int .i64 (mapSum l j) ∧ Below w.heap.size w wr) (fun _ i _ => n - (intOf i).toNat)
  case atStart => exact ⟨0, by omega, rfl, rfl, bl_refl w⟩
  case round =>
    obtain ⟨j, hj, rfl, rfl, hb⟩ := hrel
    by_cases hlt : j < n
    · obtain ⟨-, h2⟩ := HR.out.bl hb
      rcases h2 with h2 | ⟨b, o, rfl, hc⟩
      · omega
      obtain ⟨hc1, hc2⟩ := hc j hlt
      clear hc
      obtain ⟨q, hq1⟩ : ∃ q, Hid (q = (l.getD j (0, 0)).2) := ⟨_, rfl⟩
      rw [← hq1.out] at hc2
      go_wp2
      go_roundw
      case rel => exact ⟨j + 1, by omega, by go_num, by rw [hq1.out]; rfl, bl_alloc hb _⟩
      case measure => simp [intOf]; omega
    · obtain rfl : n = j := by omega
      go_wp2
      go_ret
      exact ⟨ret_int (by rw [← Hn.out]), hb⟩
end Go.Proofs.YtehkfbgbpmfpmaaGreatDoor
