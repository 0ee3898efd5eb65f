/- Named. -/
import Derived.Test.YtehkfbgbpmfpmaaGreatDoorD1
import Derived.Test.YtehkfbgbpmfpmaaGreatDoorC3
namespace Go.Proofs.YtehkfbgbpmfpmaaGreatDoor
set_option linter.unusedVariables false
set_option linter.unusedSimpArgs false
open Go.RowKit

def zr : RawR := ⟨bs [], bs [], bs [], bs [], bs [], 0, 0, 0, 0, 0, 0, 0, 0⟩
/-- a header's fields with another name -/
def namedR (d : Int) (r : RawR) (n : ByteArray) : RawR :=
  if d = 2 ∨ d = 4 then { r with front := (splitS n).1, name := (splitS n).2.1 } else { r with front := bs [], name := n }
def namedOk (d : Int) (n : ByteArray) : Bool := if d = 2 ∨ d = 4 then (splitS n).2.2 else decide (n.size ≤ 100)

set_option maxHeartbeats 4000000 in
theorem headNamed (d : Int) (r : RawR) (n : ByteArray) (w : World) (hs : n.size ≤ 1000000000) :
    Calls Tryz.prog 54 #[.agg #[.string r.name, .string r.link, .string r.user, .string r.group, .string r.front, .int .u8 r.kind, .int .i64 r.mode, .int .i64 r.uid, .int .i64 r.gid, .int .i64 r.size, .int .i64 r.time, .int .i64 r.major, .int .i64 r.minor], .int .i64 d, .string n] w fun e w' => e = .returned (.tuple #[.agg #[.string (namedR d r n).name, .string (namedR d r n).link, .string (namedR d r n).user, .string (namedR d r n).group, .string (namedR d r n).front, .int .u8 (namedR d r n).kind, .int .i64 (namedR d r n).mode, .int .i64 (namedR d r n).uid, .int .i64 (namedR d r n).gid, .int .i64 (namedR d r n).size, .int .i64 (namedR d r n).time, .int .i64 (namedR d r n).major, .int .i64 (namedR d r n).minor], .bool (namedOk d n)]) ∧ Below w.heap.size w w' := by
  by_cases h : d = 2 ∨ d = 4
  · have e1 := Lib.hid (show namedR d r n = { r with front := (splitS n).1, name := (splitS n).2.1 } by unfold namedR; rw [if_pos h])
    have e2 := Lib.hid (show namedOk d n = (splitS n).2.2 by unfold namedOk; rw [if_pos h])
    have hq : (d == 2) = true ∨ (d == 2) = false ∧ (d == 4) = true := by
      rcases h with h | h <;> simp [h]
    clear h
    rcases hq with hq | ⟨hq, hq2⟩
    all_goals
      go_enter Tryz.func54, Tryz.ntmps54
      go_wp2_with (first | (go_at_call 84; refine (pathSplit n _ hs).mono ?_; rintro e w1 ⟨rfl, hb⟩; have k1 := ((Blk.new w #[.string r.name, .string r.link, .string r.user, .string r.group, .string r.front, .int .u8 r.kind, .int .i64 r.mode, .int .i64 r.uid, .int .i64 r.gid, .int .i64 r.size, .int .i64 r.time, .int .i64 r.major, .int .i64 r.minor] 70).alloc (.cells #[.string zr.name, .string zr.link, .string zr.user, .string zr.group, .string zr.front, .int .u8 zr.kind, .int .i64 zr.mode, .int .i64 zr.uid, .int .i64 zr.gid, .int .i64 zr.size, .int .i64 zr.time, .int .i64 zr.major, .int .i64 zr.minor] 70)).bl hb; have k2 := (Blk.new (w.alloc (.cells #[.string r.name, .string r.link, .string r.user, .string r.group, .string r.front, .int .u8 r.kind, .int .i64 r.mode, .int .i64 r.uid, .int .i64 r.gid, .int .i64 r.size, .int .i64 r.time, .int .i64 r.major, .int .i64 r.minor] 70)) #[.string zr.name, .string zr.link, .string zr.user, .string zr.group, .string zr.front, .int .u8 zr.kind, .int .i64 zr.mode, .int .i64 zr.uid, .int .i64 zr.gid, .int .i64 zr.size, .int .i64 zr.time, .int .i64 zr.major, .int .i64 zr.minor] 70).bl hb; rw [World.size_alloc] at k2; have kb := bl_then hb (bl_alloc (bl_alloc (bl_refl w) (.cells #[.string r.name, .string r.link, .string r.user, .string r.group, .string r.front, .int .u8 r.kind, .int .i64 r.mode, .int .i64 r.uid, .int .i64 r.gid, .int .i64 r.size, .int .i64 r.time, .int .i64 r.major, .int .i64 r.minor] 70)) (.cells #[.string zr.name, .string zr.link, .string zr.user, .string zr.group, .string zr.front, .int .u8 zr.kind, .int .i64 zr.mode, .int .i64 zr.uid, .int .i64 zr.gid, .int .i64 zr.size, .int .i64 zr.time, .int .i64 zr.major, .int .i64 zr.minor] 70)) (by simp; omega); have c0 := k1.cell 0; have c1 := k1.cell 1; have c2 := k1.cell 2; have c3 := k1.cell 3; have c4 := k1.cell 4; have c5 := k1.cell 5; have c6 := k1.cell 6; have c7 := k1.cell 7; have c8 := k1.cell 8; have c9 := k1.cell 9; have c10 := k1.cell 10; have c11 := k1.cell 11; have c12 := k1.cell 12; have f0 := k1.free 0; have f4 := k1.free 4; have q0 := k2.cell 0; have q1 := k2.cell 1; have q2 := k2.cell 2; have q3 := k2.cell 3; have q4 := k2.cell 4; have q5 := k2.cell 5; have q6 := k2.cell 6; have q7 := k2.cell 7; have q8 := k2.cell 8; have q9 := k2.cell 9; have q10 := k2.cell 10; have q11 := k2.cell 11; have q12 := k2.cell 12; have g0 := k2.free 0; have g1 := k2.free 1; have g2 := k2.free 2; have g3 := k2.free 3; have g4 := k2.free 4; have g5 := k2.free 5; have g6 := k2.free 6; have g7 := k2.free 7; have g8 := k2.free 8; have g9 := k2.free 9; have g10 := k2.free 10; have g11 := k2.free 11; have g12 := k2.free 12; simp at c0 q0 c1 q1 c2 q2 c3 q3 c4 q4 c5 q5 c6 q6 c7 q7 c8 q8 c9 q9 c10 q10 c11 q11 c12 q12; clear k1 k2 hb))
      refine bodyPost_ret (v := .tuple #[.agg #[.string (splitS n).2.1, .string r.link, .string r.user, .string r.group, .string (splitS n).1, .int .u8 r.kind, .int .i64 r.mode, .int .i64 r.uid, .int .i64 r.gid, .int .i64 r.size, .int .i64 r.time, .int .i64 r.major, .int .i64 r.minor], .bool (splitS n).2.2]) (by simp [results, Tryz.results54, go_sem, q0, q1, q2, q3, q4, q5, q6, q7, q8, q9, q10, q11, q12]) rfl ⟨by rw [e1.out, e2.out], ?_⟩
      repeat (first | with_reducible exact kb | with_reducible refine bl_set ?_ (by simp) _)
  · have e1 := Lib.hid (show namedR d r n = { r with front := bs [], name := n } by unfold namedR; rw [if_neg h])
    have e2 := Lib.hid (show namedOk d n = decide (n.size ≤ 100) by unfold namedOk; rw [if_neg h])
    have hq : (d == 2) = false ∧ (d == 4) = false := by
      constructor <;> simp <;> omega
    clear h
    obtain ⟨hq, hq2⟩ := hq
    have kb := bl_alloc (bl_alloc (bl_refl w) (.cells #[.string r.name, .string r.link, .string r.user, .string r.group, .string r.front, .int .u8 r.kind, .int .i64 r.mode, .int .i64 r.uid, .int .i64 r.gid, .int .i64 r.size, .int .i64 r.time, .int .i64 r.major, .int .i64 r.minor] 70)) (.cells #[.string zr.name, .string zr.link, .string zr.user, .string zr.group, .string zr.front, .int .u8 zr.kind, .int .i64 zr.mode, .int .i64 zr.uid, .int .i64 zr.gid, .int .i64 zr.size, .int .i64 zr.time, .int .i64 zr.major, .int .i64 zr.minor] 70)
    have hsz : (decide (((n.size : Nat) : Int) ≤ 100) : Bool) = decide (n.size ≤ 100) := by rw [Bool.eq_iff_iff, decide_eq_true_iff, decide_eq_true_iff]; omega
    go_enter Tryz.func54, Tryz.ntmps54
    go_wp2
    all_goals
      refine bodyPost_ret (v := .tuple #[.agg #[.string n, .string r.link, .string r.user, .string r.group, .string (bs []), .int .u8 r.kind, .int .i64 r.mode, .int .i64 r.uid, .int .i64 r.gid, .int .i64 r.size, .int .i64 r.time, .int .i64 r.major, .int .i64 r.minor], .bool (decide (((n.size : Nat) : Int) ≤ 100))]) (by simp [results, Tryz.results54, go_sem]; exact ⟨rfl, by omega⟩) rfl ⟨by rw [e1.out, e2.out, hsz], ?_⟩
      exact bl_alloc (bl_alloc (bl_refl w) _) _

set_option maxHeartbeats 4000000 in
theorem refNamed (d : Int) (r : RawR) (n : ByteArray) (w : World) (hs : n.size ≤ 1000000000) :
    Calls Tryz.prog 42 #[.agg #[.string r.name, .string r.link, .string r.user, .string r.group, .string r.front, .int .u8 r.kind, .int .i64 r.mode, .int .i64 r.uid, .int .i64 r.gid, .int .i64 r.size, .int .i64 r.time, .int .i64 r.major, .int .i64 r.minor], .int .i64 d, .string n] w fun e w' => e = .returned (.tuple #[.agg #[.string (namedR d r n).name, .string (namedR d r n).link, .string (namedR d r n).user, .string (namedR d r n).group, .string (namedR d r n).front, .int .u8 (namedR d r n).kind, .int .i64 (namedR d r n).mode, .int .i64 (namedR d r n).uid, .int .i64 (namedR d r n).gid, .int .i64 (namedR d r n).size, .int .i64 (namedR d r n).time, .int .i64 (namedR d r n).major, .int .i64 (namedR d r n).minor], .bool (namedOk d n)]) ∧ Below w.heap.size w w' := by
  by_cases h : d = 2 ∨ d = 4
  · have e1 := Lib.hid (show namedR d r n = { r with front := (splitS n).1, name := (splitS n).2.1 } by unfold namedR; rw [if_pos h])
    have e2 := Lib.hid (show namedOk d n = (splitS n).2.2 by unfold namedOk; rw [if_pos h])
    have hq : (d == 2) = true ∨ (d == 2) = false ∧ (d == 4) = true := by
      rcases h with h | h <;> simp [h]
    clear h
    rcases hq with hq | ⟨hq, hq2⟩
    all_goals
      go_enter Tryz.func42, Tryz.ntmps42
      go_wp2_with (first | (go_at_call 70; refine (refSplit n _ hs).mono ?_; rintro e w1 ⟨rfl, hb⟩; have k1 := ((Blk.new w #[.string r.name, .string r.link, .string r.user, .string r.group, .string r.front, .int .u8 r.kind, .int .i64 r.mode, .int .i64 r.uid, .int .i64 r.gid, .int .i64 r.size, .int .i64 r.time, .int .i64 r.major, .int .i64 r.minor] 55).alloc (.cells #[.string zr.name, .string zr.link, .string zr.user, .string zr.group, .string zr.front, .int .u8 zr.kind, .int .i64 zr.mode, .int .i64 zr.uid, .int .i64 zr.gid, .int .i64 zr.size, .int .i64 zr.time, .int .i64 zr.major, .int .i64 zr.minor] 55)).bl hb; have k2 := (Blk.new (w.alloc (.cells #[.string r.name, .string r.link, .string r.user, .string r.group, .string r.front, .int .u8 r.kind, .int .i64 r.mode, .int .i64 r.uid, .int .i64 r.gid, .int .i64 r.size, .int .i64 r.time, .int .i64 r.major, .int .i64 r.minor] 55)) #[.string zr.name, .string zr.link, .string zr.user, .string zr.group, .string zr.front, .int .u8 zr.kind, .int .i64 zr.mode, .int .i64 zr.uid, .int .i64 zr.gid, .int .i64 zr.size, .int .i64 zr.time, .int .i64 zr.major, .int .i64 zr.minor] 55).bl hb; rw [World.size_alloc] at k2; have kb := bl_then hb (bl_alloc (bl_alloc (bl_refl w) (.cells #[.string r.name, .string r.link, .string r.user, .string r.group, .string r.front, .int .u8 r.kind, .int .i64 r.mode, .int .i64 r.uid, .int .i64 r.gid, .int .i64 r.size, .int .i64 r.time, .int .i64 r.major, .int .i64 r.minor] 55)) (.cells #[.string zr.name, .string zr.link, .string zr.user, .string zr.group, .string zr.front, .int .u8 zr.kind, .int .i64 zr.mode, .int .i64 zr.uid, .int .i64 zr.gid, .int .i64 zr.size, .int .i64 zr.time, .int .i64 zr.major, .int .i64 zr.minor] 55)) (by simp; omega); have c0 := k1.cell 0; have c1 := k1.cell 1; have c2 := k1.cell 2; have c3 := k1.cell 3; have c4 := k1.cell 4; have c5 := k1.cell 5; have c6 := k1.cell 6; have c7 := k1.cell 7; have c8 := k1.cell 8; have c9 := k1.cell 9; have c10 := k1.cell 10; have c11 := k1.cell 11; have c12 := k1.cell 12; have f0 := k1.free 0; have f4 := k1.free 4; have q0 := k2.cell 0; have q1 := k2.cell 1; have q2 := k2.cell 2; have q3 := k2.cell 3; have q4 := k2.cell 4; have q5 := k2.cell 5; have q6 := k2.cell 6; have q7 := k2.cell 7; have q8 := k2.cell 8; have q9 := k2.cell 9; have q10 := k2.cell 10; have q11 := k2.cell 11; have q12 := k2.cell 12; have g0 := k2.free 0; have g1 := k2.free 1; have g2 := k2.free 2; have g3 := k2.free 3; have g4 := k2.free 4; have g5 := k2.free 5; have g6 := k2.free 6; have g7 := k2.free 7; have g8 := k2.free 8; have g9 := k2.free 9; have g10 := k2.free 10; have g11 := k2.free 11; have g12 := k2.free 12; simp at c0 q0 c1 q1 c2 q2 c3 q3 c4 q4 c5 q5 c6 q6 c7 q7 c8 q8 c9 q9 c10 q10 c11 q11 c12 q12; clear k1 k2 hb))
      refine bodyPost_ret (v := .tuple #[.agg #[.string (splitS n).2.1, .string r.link, .string r.user, .string r.group, .string (splitS n).1, .int .u8 r.kind, .int .i64 r.mode, .int .i64 r.uid, .int .i64 r.gid, .int .i64 r.size, .int .i64 r.time, .int .i64 r.major, .int .i64 r.minor], .bool (splitS n).2.2]) (by simp [results, Tryz.results42, go_sem, q0, q1, q2, q3, q4, q5, q6, q7, q8, q9, q10, q11, q12]) rfl ⟨by rw [e1.out, e2.out], ?_⟩
      repeat (first | with_reducible exact kb | with_reducible refine bl_set ?_ (by simp) _)
  · have e1 := Lib.hid (show namedR d r n = { r with front := bs [], name := n } by unfold namedR; rw [if_neg h])
    have e2 := Lib.hid (show namedOk d n = decide (n.size ≤ 100) by unfold namedOk; rw [if_neg h])
    have hq : (d == 2) = false ∧ (d == 4) = false := by
      constructor <;> simp <;> omega
    clear h
    obtain ⟨hq, hq2⟩ := hq
    have kb := bl_alloc (bl_alloc (bl_refl w) (.cells #[.string r.name, .string r.link, .string r.user, .string r.group, .string r.front, .int .u8 r.kind, .int .i64 r.mode, .int .i64 r.uid, .int .i64 r.gid, .int .i64 r.size, .int .i64 r.time, .int .i64 r.major, .int .i64 r.minor] 55)) (.cells #[.string zr.name, .string zr.link, .string zr.user, .string zr.group, .string zr.front, .int .u8 zr.kind, .int .i64 zr.mode, .int .i64 zr.uid, .int .i64 zr.gid, .int .i64 zr.size, .int .i64 zr.time, .int .i64 zr.major, .int .i64 zr.minor] 55)
    have hsz : (decide (((n.size : Nat) : Int) < 101) : Bool) = decide (n.size ≤ 100) := by rw [Bool.eq_iff_iff, decide_eq_true_iff, decide_eq_true_iff]; omega
    go_enter Tryz.func42, Tryz.ntmps42
    go_wp2
    all_goals
      refine bodyPost_ret (v := .tuple #[.agg #[.string n, .string r.link, .string r.user, .string r.group, .string (bs []), .int .u8 r.kind, .int .i64 r.mode, .int .i64 r.uid, .int .i64 r.gid, .int .i64 r.size, .int .i64 r.time, .int .i64 r.major, .int .i64 r.minor], .bool (decide (((n.size : Nat) : Int) < 101))]) (by simp [results, Tryz.results42, go_sem]; exact ⟨rfl, by omega⟩) rfl ⟨by rw [e1.out, e2.out, hsz], ?_⟩
      exact bl_alloc (bl_alloc (bl_refl w) _) _

end Go.Proofs.YtehkfbgbpmfpmaaGreatDoor
