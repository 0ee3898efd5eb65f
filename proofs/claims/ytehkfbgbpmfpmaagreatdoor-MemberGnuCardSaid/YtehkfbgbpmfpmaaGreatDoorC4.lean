/- revetmentref.HeadWrite, joined. -/
import Derived.Test.YtehkfbgbpmfpmaaGreatDoorC3a
import Derived.Test.YtehkfbgbpmfpmaaGreatDoorC3b
import Derived.Test.YtehkfbgbpmfpmaaGreatDoorC3c
namespace Go.Proofs.YtehkfbgbpmfpmaaGreatDoor
set_option linter.unusedVariables false
set_option linter.unusedSimpArgs false
open Go.RowKit

theorem refHead_arg (d : Int) (r : RawR) (w : World) (h : ¬ (1 ≤ d ∧ d ≤ 4) ∨ r.kind = 0) :
    Calls Tryz.prog 43 #[.int .i64 d, .agg #[.string r.name, .string r.link, .string r.user, .string r.group, .string r.front, .int .u8 r.kind, .int .i64 r.mode, .int .i64 r.uid, .int .i64 r.gid, .int .i64 r.size, .int .i64 r.time, .int .i64 r.major, .int .i64 r.minor]] w fun e w' => e = .returned (.tuple #[.string (bs []), .int .i64 1]) ∧ Below w.heap.size w w' := by
  have hq : (decide (1 ≤ d) && decide (d ≤ 4)) = false ∨ (decide (1 ≤ d) && decide (d ≤ 4)) = true ∧ (r.kind == 0) = true := by
    by_cases h1 : 1 ≤ d ∧ d ≤ 4
    · exact .inr ⟨by simp [h1], by simpa [h1] using h⟩
    · exact .inl (by simp; omega)
  clear h
  rcases hq with hq | ⟨hq, hq2⟩
  all_goals
    go_enter Tryz.func43, Tryz.ntmps43
    go_wp2_with (first | (go_at_call 27; refine (refWithin _ _ _ _).mono ?_; rintro e w' ⟨rfl, rfl⟩) | fail)
  all_goals go_ret2
  all_goals exact ⟨rfl, by first | exact bl_refl w | exact bl_alloc (bl_refl w) _ | exact bl_alloc (bl_alloc (bl_refl w) _) _⟩
theorem app_empty (r : RawR) : (r.user ++ r.group ++ r.front).toList.isEmpty = decide (r.user.size = 0 ∧ r.group.size = 0 ∧ r.front.size = 0) := by
  rw [toList_isEmpty, Bool.eq_iff_iff, decide_eq_true_eq, decide_eq_true_eq, ByteArray.size_append, ByteArray.size_append]; omega

set_option maxHeartbeats 1000000 in
theorem refHead_unfit (d : Int) (r : RawR) (hr : RawB r) (w : World) (hd1 : 1 ≤ d) (hd2 : d ≤ 4) (hkd : r.kind ≠ 0) (hfit : fitsS d r = false) :
    Calls Tryz.prog 43 #[.int .i64 d, .agg #[.string r.name, .string r.link, .string r.user, .string r.group, .string r.front, .int .u8 r.kind, .int .i64 r.mode, .int .i64 r.uid, .int .i64 r.gid, .int .i64 r.size, .int .i64 r.time, .int .i64 r.major, .int .i64 r.minor]] w fun e w' => e = .returned (.tuple #[.string (bs []), .int .i64 2]) ∧ Below w.heap.size w w' := by
  have hq1 : decide (1 ≤ d) = true := decide_eq_true hd1
  have hq2 : decide (d ≤ 4) = true := decide_eq_true hd2
  have hq3 : (r.kind == 0) = false := by simpa using hkd
  have hcase : (d = 1 ∧ ((r.user ++ r.group ++ r.front).toList.isEmpty = false ∨ (r.user ++ r.group ++ r.front).toList.isEmpty = true ∧ ((r.major != 0) = true ∨ (r.major != 0) = false ∧ (r.minor != 0) = true))) ∨ (d = 3 ∧ r.front.toList.isEmpty = false) := by
    unfold fitsS at hfit
    rw [app_empty, toList_isEmpty]
    by_cases h1 : d = 1
    · rw [if_pos h1] at hfit
      refine .inl ⟨h1, ?_⟩
      have hfit := of_decide_eq_false hfit
      by_cases h2 : r.user.size = 0 ∧ r.group.size = 0 ∧ r.front.size = 0
      · refine .inr ⟨decide_eq_true h2, ?_⟩
        by_cases h3 : r.major = 0
        · exact .inr ⟨by simpa using h3, by have : r.minor ≠ 0 := fun h => hfit ⟨h2.1, h2.2.1, h2.2.2, h3, h⟩; simpa using this⟩
        · exact .inl (by simpa using h3)
      · exact .inl (decide_eq_false h2)
    · rw [if_neg h1] at hfit
      by_cases h2 : d = 3
      · rw [if_pos h2] at hfit
        exact .inr ⟨h2, hfit⟩
      · rw [if_neg h2] at hfit
        exact absurd hfit (by decide)
  have B1 := hr.user
  have B2 := hr.group
  have B3 := hr.front
  clear hfit hd1 hd2 hr hkd
  rcases hcase with ⟨rfl, hq4 | ⟨hq4, hq5 | ⟨hq5, hq6⟩⟩⟩ | ⟨rfl, hq4⟩
  all_goals
    go_enter Tryz.func43, Tryz.ntmps43
    go_wp2_with (first | (go_at_call 27; refine (refWithin _ _ _ _).mono ?_; rintro e w' ⟨rfl, rfl⟩) | fail)
  all_goals try go_ret2
  all_goals first | exact ⟨rfl, by first | exact bl_refl w | exact bl_alloc (bl_refl w) _ | exact bl_alloc (bl_alloc (bl_refl w) _) _ | exact bl_drew (bl_alloc (bl_alloc (bl_refl w) _) _)⟩ | (exfalso; simp_all; done) | trace_state
theorem headS_arg {d : Int} {r : RawR} (h : ¬ (1 ≤ d ∧ d ≤ 4) ∨ r.kind = 0) : headS d r = ([], 1) := by unfold headS; rw [if_pos h]
theorem headS_unfit {d : Int} {r : RawR} (h : ¬ (¬ (1 ≤ d ∧ d ≤ 4) ∨ r.kind = 0)) (hf : fitsS d r = false) : headS d r = ([], 2) := by unfold headS; rw [if_neg h, if_pos hf]
theorem headS_fit {d : Int} {r : RawR} (h : ¬ (¬ (1 ≤ d ∧ d ≤ 4) ∨ r.kind = 0)) (hf : fitsS d r = true) : headS d r = if okHead d r = true then (sealL (rawL d r), 0) else ([], 2) := by
  unfold headS; rw [if_neg h, if_neg (by rw [hf]; simp)]

theorem refHead (d : Int) (r : RawR) (hr : RawB r) (w : World) :
    Calls Tryz.prog 43 #[.int .i64 d, .agg #[.string r.name, .string r.link, .string r.user, .string r.group, .string r.front, .int .u8 r.kind, .int .i64 r.mode, .int .i64 r.uid, .int .i64 r.gid, .int .i64 r.size, .int .i64 r.time, .int .i64 r.major, .int .i64 r.minor]] w fun e w' => e = .returned (.tuple #[.string (bs (headS d r).1), .int .i64 (headS d r).2]) ∧ Below w.heap.size w w' := by
  by_cases h : ¬ (1 ≤ d ∧ d ≤ 4) ∨ r.kind = 0
  · rw [headS_arg h]; exact refHead_arg d r w h
  · have hk : r.kind ≠ 0 := fun e => h (.inr e)
    have hd : 1 ≤ d ∧ d ≤ 4 := Classical.byContradiction fun e => h (.inl e)
    cases hf : fitsS d r
    · rw [headS_unfit h hf]; exact refHead_unfit d r hr w hd.1 hd.2 hk hf
    · have hS := headS_fit h hf
      by_cases h1 : d = 1
      · unfold fitsS at hf
        rw [if_pos h1] at hf
        obtain ⟨a, b, c, e, f⟩ := of_decide_eq_true hf
        exact refHead_1 d r hr w hd.1 hd.2 hk h1 (by rw [app_empty]; exact decide_eq_true ⟨a, b, c⟩) (by simp [e]) (by simp [f]) hS
      · by_cases h3 : d = 3
        · unfold fitsS at hf
          rw [if_neg h1, if_pos h3] at hf
          exact refHead_3 d r hr w hd.1 hd.2 hk h1 h3 (by rw [toList_isEmpty]; exact hf) hS
        · exact refHead_24 d r hr w hd.1 hd.2 hk h1 h3 hS
end Go.Proofs.YtehkfbgbpmfpmaaGreatDoor
