/- head.Write, joined. -/
import Derived.Test.YtehkfbgbpmfpmaaGreatDoorC4
import Derived.Test.YtehkfbgbpmfpmaaGreatDoorC6
namespace Go.Proofs.YtehkfbgbpmfpmaaGreatDoor
set_option linter.unusedVariables false
set_option linter.unusedSimpArgs false
open Go.RowKit

theorem headW_arg (d : Int) (r : RawR) (w : World) (h : ¬ (1 ≤ d ∧ d ≤ 4) ∨ r.kind = 0) :
    Calls Tryz.prog 55 #[.int .i64 d, .agg #[.string r.name, .string r.link, .string r.user, .string r.group, .string r.front, .int .u8 r.kind, .int .i64 r.mode, .int .i64 r.uid, .int .i64 r.gid, .int .i64 r.size, .int .i64 r.time, .int .i64 r.major, .int .i64 r.minor]] w fun e w' => e = .returned (.tuple #[.string (bs []), errV 1]) ∧ Below w.heap.size w w' := by
  have hq : decide (d < 1) = true ∨ decide (d < 1) = false ∧ (decide (4 < d) = true ∨ decide (4 < d) = false ∧ (r.kind == 0) = true) := by
    by_cases h1 : d < 1
    · exact .inl (decide_eq_true h1)
    · refine .inr ⟨decide_eq_false h1, ?_⟩
      by_cases h2 : 4 < d
      · exact .inl (decide_eq_true h2)
      · refine .inr ⟨decide_eq_false h2, ?_⟩
        rcases h with h | h
        · omega
        · simpa using h
  clear h
  rcases hq with hq | ⟨hq, hq2 | ⟨hq2, hq3⟩⟩
  all_goals
    go_enter Tryz.func55, Tryz.ntmps55
    go_wp2_with fail
  all_goals go_ret2
  all_goals exact ⟨rfl, bl_alloc (bl_refl w) _⟩

theorem headW_unfit (d : Int) (r : RawR) (w : World) (hd1 : 1 ≤ d) (hd2 : d ≤ 4) (hkd : r.kind ≠ 0) (hfit : fitsS d r = false) :
    Calls Tryz.prog 55 #[.int .i64 d, .agg #[.string r.name, .string r.link, .string r.user, .string r.group, .string r.front, .int .u8 r.kind, .int .i64 r.mode, .int .i64 r.uid, .int .i64 r.gid, .int .i64 r.size, .int .i64 r.time, .int .i64 r.major, .int .i64 r.minor]] w fun e w' => e = .returned (.tuple #[.string (bs []), errV 2]) ∧ Below w.heap.size w w' := by
  have hq1 : decide (d < 1) = false := decide_eq_false (by omega)
  have hq2 : decide (4 < d) = false := decide_eq_false (by omega)
  have hq3 : (r.kind == 0) = false := by simpa using hkd
  go_enter Tryz.func55, Tryz.ntmps55
  go_wp2_with (first
    | (go_at_call 103; refine (headFits r d _).mono ?_; rintro e w1 ⟨rfl, hb1⟩))
  go_ret2
  exact ⟨rfl, bl_then hb1 (bl_alloc (bl_refl w) _) (by simp)⟩

theorem headWrite (d : Int) (r : RawR) (hr : RawB r) (w : World) :
    Calls Tryz.prog 55 #[.int .i64 d, .agg #[.string r.name, .string r.link, .string r.user, .string r.group, .string r.front, .int .u8 r.kind, .int .i64 r.mode, .int .i64 r.uid, .int .i64 r.gid, .int .i64 r.size, .int .i64 r.time, .int .i64 r.major, .int .i64 r.minor]] w fun e w' => e = .returned (.tuple #[.string (bs (headS d r).1), errV (headS d r).2]) ∧ Below w.heap.size w w' := by
  by_cases h : ¬ (1 ≤ d ∧ d ≤ 4) ∨ r.kind = 0
  · rw [headS_arg h]; exact headW_arg d r w h
  · have hk : r.kind ≠ 0 := fun e => h (.inr e)
    have hd : 1 ≤ d ∧ d ≤ 4 := Classical.byContradiction fun e => h (.inl e)
    cases hf : fitsS d r
    · rw [headS_unfit h hf]; exact headW_unfit d r w hd.1 hd.2 hk hf
    · exact headW d r hr w hd.1 hd.2 hk hf (headS_fit h hf)
end Go.Proofs.YtehkfbgbpmfpmaaGreatDoor
