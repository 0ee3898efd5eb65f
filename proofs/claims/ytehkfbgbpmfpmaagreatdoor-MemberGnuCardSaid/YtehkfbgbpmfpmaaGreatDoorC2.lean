/- revetmentref.HeadWrite's closures, magic. -/
import Derived.Test.YtehkfbgbpmfpmaaGreatDoorC1
import Derived.Lib.Hide
namespace Go.Proofs.YtehkfbgbpmfpmaaGreatDoor
set_option linter.unusedVariables false
set_option linter.unusedSimpArgs false
open Go.RowKit

/-- is a text one of a field of n bytes? -/
def textOk (s : ByteArray) (n : Int) : Bool := decide ((s.size : Int) ≤ n) && decide (¬ 0 ≤ Lib.indexByte s.data.toList 0)
def textL (s : ByteArray) (n : Int) : List UInt8 := if textOk s n = true then s.data.toList ++ List.replicate (n.toNat - s.size) 0 else []

theorem Blk.set {w : World} {b : Nat} {cs : Array Value} {t : TypeId} (h : Blk w b cs t) (i : Nat) (v : Value) : Blk (w.setCell ⟨b, i, none⟩ v) b (cs.setIfInBounds i v) t :=
  ⟨heap_setCell_same w b i cs t v h.heap⟩
theorem grown_set (w : World) (b i : Nat) (v : Value) : w.grownBy (w.setCell ⟨b, i, none⟩ v) (some b) :=
  ⟨rfl, rfl, rfl, by simp, fun k _ hne => Below.heap_setCell w _ v k (fun e => hne (by rw [e]))⟩
theorem grown_refl (w : World) (b : Nat) : w.grownBy w (some b) := ⟨rfl, rfl, rfl, Nat.le_refl _, fun _ _ _ => rfl⟩
theorem grown_bl {w w' : World} (b : Nat) (h : Below w.heap.size w w') : w.grownBy w' (some b) := ⟨h.os, h.tape, h.output, h.size, fun k hk _ => h.block k hk⟩
theorem grown_then {a b c : World} {g : Nat} (h : a.grownBy b (some g)) (k : b.grownBy c (some g)) : a.grownBy c (some g) :=
  ⟨k.os.trans h.os, k.tape.trans h.tape, k.output.trans h.output, Nat.le_trans h.size k.size, fun i hi hne => (k.block i (Nat.lt_of_lt_of_le hi h.size) hne).trans (h.block i hi hne)⟩

set_option maxHeartbeats 400000 in
theorem refText (s : ByteArray) (n : Int) (kb : Nat) (b : Bool) (w : World) (hk : Blk w kb #[.bool b] 4) (hn0 : 0 ≤ n) (hn : n ≤ 1000) (hs : s.size ≤ 1000000) :
    Calls Tryz.prog 87 #[.string s, .int .i64 n, .pointer (some ⟨kb, 0, none⟩)] w fun e w' => e = .returned (.string (bs (textL s n))) ∧ Blk w' kb #[.bool (b && textOk s n)] 4 ∧ w.grownBy w' (some kb) := by
  have hc := hk.cell 0
  have hf := hk.free 0
  simp at hc
  by_cases h1 : (s.size : Int) ≤ n
  · have d1 : decide (n < (s.size : Int)) = false := decide_eq_false (by omega)
    by_cases h2 : 0 ≤ Lib.indexByte s.data.toList 0
    · have e1 := Lib.hid (show textL s n = [] by unfold textL textOk; simp [h2])
      have e2 := Lib.hid (show textOk s n = false by unfold textOk; simp [h2])
      have d2 : decide (0 ≤ Lib.indexByte s.data.toList 0) = true := decide_eq_true h2
      go_enter Tryz.func87, Tryz.ntmps87
      go_wp2_with (first | (go_at_call 88; refine (Tryz.strings_Contains_one s 0 _).mono ?_; rintro e w1 ⟨rfl, rfl⟩))
      go_ret
      rw [e1.out, e2.out, Bool.and_false]
      exact ⟨rfl, hk.set 0 _, grown_set _ _ _ _⟩
    · have e2 := Lib.hid (show textOk s n = true by unfold textOk; simp [h2]; omega)
      have e1 := Lib.hid (show textL s n = s.data.toList ++ List.replicate (n.toNat - s.size) 0 by unfold textL; rw [if_pos e2.out])
      have d2 : decide (0 ≤ Lib.indexByte s.data.toList 0) = false := decide_eq_false h2
      go_enter Tryz.func87, Tryz.ntmps87
      go_wp2_with (first | (go_at_call 88; refine (Tryz.strings_Contains_one s 0 _).mono ?_; rintro e w1 ⟨rfl, rfl⟩) | (go_at_call 21; refine (repByte 0 _ _ (by omega) (by omega)).mono ?_; rintro e w1 ⟨rfl, hb⟩))
      go_ret
      rw [e1.out, e2.out, Bool.and_true]
      refine ⟨?_, hk.bl hb, grown_bl _ hb⟩

      rfl
  · have e1 := Lib.hid (show textL s n = [] by unfold textL textOk; simp [h1])
    have e2 := Lib.hid (show textOk s n = false by unfold textOk; simp [h1])
    have d1 : decide (n < (s.size : Int)) = true := decide_eq_true (by omega)
    go_enter Tryz.func87, Tryz.ntmps87
    go_wp2
    go_ret
    rw [e1.out, e2.out, Bool.and_false]
    exact ⟨rfl, hk.set 0 _, grown_set _ _ _ _⟩

theorem wr_code (n wd : Int) (b : Bool) : (wrS n wd b).2 = 0 ∨ (wrS n wd b).2 = 1 ∨ (wrS n wd b).2 = 2 := by
  unfold wrS octS binS
  repeat' split
  all_goals simp

def numOk (d n wd : Int) : Bool := decide ((wrS n wd (d == 3)).2 = 0)
def numL (d n wd : Int) : List UInt8 := (wrS n wd (d == 3)).1

set_option maxHeartbeats 400000 in
theorem refNum (n wd d : Int) (db kb : Nat) (b : Bool) (w : World) (hd : Blk w db #[.int .i64 d] 3) (hk : Blk w kb #[.bool b] 4) (hne : db ≠ kb) (l0 : -9223372036854775808 ≤ n) (l1 : n ≤ 9223372036854775807) :
    Calls Tryz.prog 89 #[.int .i64 n, .int .i64 wd, .pointer (some ⟨db, 0, none⟩), .pointer (some ⟨kb, 0, none⟩)] w fun e w' => e = .returned (.string (bs (numL d n wd))) ∧ Blk w' kb #[.bool (b && numOk d n wd)] 4 ∧ w.grownBy w' (some kb) := by
  have hcd := hd.cell 0
  simp at hcd
  have e1 := Lib.hid (show numL d n wd = (wrS n wd (d == 3)).1 from rfl)
  cases b
  · go_enter Tryz.func89, Tryz.ntmps89
    go_wp2_with (first | (go_at_call 90; refine (refNumWrite n wd (d == 3) _ l0 l1).mono ?_; rintro e w1 ⟨rfl, hb⟩; have hk1 := (hk.bl hb).cell 0; have hf1 := (hk.bl hb).free 0; simp at hk1))
    go_ret
    refine ⟨rfl, ?_, grown_then (grown_bl _ hb) (grown_set _ _ _ _)⟩
    exact (hk.bl hb).set 0 _
  · cases hq : ((wrS n wd (d == 3)).2 == 0)
    · have e2 : numOk d n wd = false := by unfold numOk; simpa using hq
      rw [e2]
      go_enter Tryz.func89, Tryz.ntmps89
      go_wp2_with (first | (go_at_call 90; refine (refNumWrite n wd (d == 3) _ l0 l1).mono ?_; rintro e w1 ⟨rfl, hb⟩; have hk1 := (hk.bl hb).cell 0; have hf1 := (hk.bl hb).free 0; simp at hk1))
      go_ret
      refine ⟨rfl, ?_, grown_then (grown_bl _ hb) (grown_set _ _ _ _)⟩
      exact (hk.bl hb).set 0 _
    · have e2 : numOk d n wd = true := by unfold numOk; simpa using hq
      rw [e2]
      go_enter Tryz.func89, Tryz.ntmps89
      go_wp2_with (first | (go_at_call 90; refine (refNumWrite n wd (d == 3) _ l0 l1).mono ?_; rintro e w1 ⟨rfl, hb⟩; have hk1 := (hk.bl hb).cell 0; have hf1 := (hk.bl hb).free 0; simp at hk1))
      go_ret
      refine ⟨rfl, ?_, grown_then (grown_bl _ hb) (grown_set _ _ _ _)⟩
      exact (hk.bl hb).set 0 _

def magL (d : Int) : List UInt8 := if d = 1 then List.replicate 8 0 else if d = 3 then [117, 115, 116, 97, 114, 32, 32, 0] else [117, 115, 116, 97, 114, 0, 48, 48]

set_option maxHeartbeats 400000 in
theorem refMagic (d : Int) (w : World) (h1 : 1 ≤ d) (h2 : d ≤ 4) :
    Calls Tryz.prog 91 #[.int .i64 d] w fun e w' => e = .returned (.string (bs (magL d))) ∧ Below w.heap.size w w' := by
  have h : d = 1 ∨ d = 2 ∨ d = 3 ∨ d = 4 := by omega
  rcases h with rfl | rfl | rfl | rfl
  all_goals
    go_enter Tryz.func91, Tryz.ntmps91
    go_wp2_with (first | (go_at_call 21; refine (repByte 0 8 _ (by omega) (by omega)).mono ?_; rintro e w1 ⟨rfl, hb⟩))
    go_ret
    exact ⟨rfl, bl_alloc hb _⟩
end Go.Proofs.YtehkfbgbpmfpmaaGreatDoor
