/- head's parts: texts, numbers, their spots, fits, many. -/
import Derived.Test.YtehkfbgbpmfpmaaGreatDoorA7
import Derived.Test.YtehkfbgbpmfpmaaGreatDoorW2
import Derived.BigRegion
namespace Go.Proofs.YtehkfbgbpmfpmaaGreatDoor
set_option linter.unusedVariables false
set_option linter.unusedSimpArgs false
open Go.RowKit

structure RawR where
  name : ByteArray
  link : ByteArray
  user : ByteArray
  group : ByteArray
  front : ByteArray
  kind : Int
  mode : Int
  uid : Int
  gid : Int
  size : Int
  time : Int
  major : Int
  minor : Int

theorem headMany (d : Int) (w : World) :
    Calls Tryz.prog 107 #[.int .i64 d] w fun e w' => e = .returned (.int .i64 (if d = 1 then 5 else 7)) ∧ w = w' := by
  by_cases h : d = 1
  · subst h
    go_enter Tryz.func107, Tryz.ntmps107
    go_wp2
    go_ret
    exact ⟨rfl, rfl⟩
  · have hq : (d == 1) = false := by simpa using h
    rw [if_neg h]
    go_enter Tryz.func107, Tryz.ntmps107
    go_wp2
    go_ret
    exact ⟨rfl, rfl⟩

theorem headTextSpots (w : World) :
    Calls Tryz.prog 105 #[] w fun e w' => e = .returned (.agg #[.int .i64 0, .int .i64 100, .int .i64 157, .int .i64 100, .int .i64 265, .int .i64 32, .int .i64 297, .int .i64 32, .int .i64 345, .int .i64 155]) ∧ Below w.heap.size w w' := by
  go_enter Tryz.func105, Tryz.ntmps105
  go_wp2
  exact bodyPost_ret (v := .agg #[.int .i64 0, .int .i64 100, .int .i64 157, .int .i64 100, .int .i64 265, .int .i64 32, .int .i64 297, .int .i64 32, .int .i64 345, .int .i64 155]) (by simp [results, Tryz.results105, go_sem]) rfl ⟨rfl, bl_alloc (bl_refl w) _⟩

theorem headNumberSpots (w : World) :
    Calls Tryz.prog 108 #[] w fun e w' => e = .returned (.agg #[.int .i64 100, .int .i64 8, .int .i64 108, .int .i64 8, .int .i64 116, .int .i64 8, .int .i64 124, .int .i64 12, .int .i64 136, .int .i64 12, .int .i64 329, .int .i64 8, .int .i64 337, .int .i64 8]) ∧ Below w.heap.size w w' := by
  go_enter Tryz.func108, Tryz.ntmps108
  go_wp2
  exact bodyPost_ret (v := .agg #[.int .i64 100, .int .i64 8, .int .i64 108, .int .i64 8, .int .i64 116, .int .i64 8, .int .i64 124, .int .i64 12, .int .i64 136, .int .i64 12, .int .i64 329, .int .i64 8, .int .i64 337, .int .i64 8]) (by simp [results, Tryz.results108, go_sem]) rfl ⟨rfl, bl_alloc (bl_refl w) _⟩

set_option maxHeartbeats 4000000 in
theorem headTexts (rb : Nat) (w : World) :
    Calls Tryz.prog 104 #[.pointer (some ⟨rb, 0, none⟩)] w fun e w' => e = .returned (.agg #[.pointer (some ⟨rb, 0, none⟩), .pointer (some ⟨rb, 1, none⟩), .pointer (some ⟨rb, 2, none⟩), .pointer (some ⟨rb, 3, none⟩), .pointer (some ⟨rb, 4, none⟩)]) ∧ Below w.heap.size w w' := by
  go_enter Tryz.func104, Tryz.ntmps104
  go_wp2
  go_region
  go_wp2
  exact bodyPost_ret (v := .agg #[.pointer (some ⟨rb, 0, none⟩), .pointer (some ⟨rb, 1, none⟩), .pointer (some ⟨rb, 2, none⟩), .pointer (some ⟨rb, 3, none⟩), .pointer (some ⟨rb, 4, none⟩)]) (by simp [results, Tryz.results104, go_sem]) rfl ⟨rfl, bl_drew (bl_alloc (bl_refl w) _)⟩


/-- has a dialect the fields that are set? -/
def fitsS (d : Int) (r : RawR) : Bool :=
  if d = 1 then decide (r.user.size = 0 ∧ r.group.size = 0 ∧ r.front.size = 0 ∧ r.major = 0 ∧ r.minor = 0) else if d = 3 then decide (r.front.size = 0) else true

theorem toList_nil (s : ByteArray) : s.toList = [] ↔ s.size = 0 := by
  rw [← List.length_eq_zero_iff, ByteArray.toList_eq, ← Lib.size_eq]
theorem toList_isEmpty (s : ByteArray) : s.toList.isEmpty = decide (s.size = 0) := by
  rw [Bool.eq_iff_iff, List.isEmpty_iff, toList_nil]; simp

set_option maxHeartbeats 1000000 in
theorem headFits (r : RawR) (d : Int) (w : World) :
    Calls Tryz.prog 103 #[.agg #[.string r.name, .string r.link, .string r.user, .string r.group, .string r.front, .int .u8 r.kind, .int .i64 r.mode, .int .i64 r.uid, .int .i64 r.gid, .int .i64 r.size, .int .i64 r.time, .int .i64 r.major, .int .i64 r.minor], .int .i64 d] w fun e w' => e = .returned (.bool (fitsS d r)) ∧ Below w.heap.size w w' := by
  go_enter Tryz.func103, Tryz.ntmps103
  go_wp2
  all_goals go_ret
  all_goals refine ⟨ret_bool ?_, bl_alloc (bl_refl w) _⟩
  all_goals simp_all [fitsS, toList_nil, toList_isEmpty]
end Go.Proofs.YtehkfbgbpmfpmaaGreatDoor
