/- A member's small tests. -/
import Derived.Test.YtehkfbgbpmfpmaaGreatDoorC2
import Derived.BigQuiet
namespace Go.Proofs.YtehkfbgbpmfpmaaGreatDoor
set_option linter.unusedVariables false
set_option linter.unusedSimpArgs false
open Go.RowKit

/-- a member: its map lies in memory -/
structure EntR where
  name : ByteArray
  kind : Int
  mode : Int
  uid : Int
  gid : Int
  size : Int
  sec : Int
  nano : Int
  link : ByteArray
  user : ByteArray
  group : ByteArray
  major : Int
  minor : Int
  data : ByteArray
  ma : Option Addr
  mn : Nat
  map : List (Int × Int)
  mc : Nat

theorem memWithin (n a b : Int) (w : World) :
    Calls Tryz.prog 72 #[.int .i64 n, .int .i64 a, .int .i64 b] w fun e w' => e = .returned (.bool (decide (a ≤ n) && decide (n ≤ b))) ∧ w = w' := by
  by_cases h : a ≤ n
  · have d1 : decide (a ≤ n) = true := decide_eq_true h
    go_enter Tryz.func72, Tryz.ntmps72
    go_wp2
    go_ret
    exact ⟨ret_bool (by first | rfl | (rw [d1]; simp)), rfl⟩
  · have d1 : decide (a ≤ n) = false := decide_eq_false h
    go_enter Tryz.func72, Tryz.ntmps72
    go_wp2
    go_ret
    exact ⟨ret_bool (by first | rfl | (rw [d1]; simp)), rfl⟩

theorem isText (s : ByteArray) (n : Int) (w : World) :
    Calls Tryz.prog 74 #[.string s, .int .i64 n] w fun e w' => e = .returned (.bool (textOk s n)) ∧ w = w' := by
  by_cases h : (s.size : Int) ≤ n
  · have d1 : decide ((s.size : Int) ≤ n) = true := decide_eq_true h
    go_enter Tryz.func74, Tryz.ntmps74
    go_wp2_with (first | (go_at_call 32; refine (Tryz.strings_IndexByte s 0 _).mono ?_; rintro e w1 ⟨rfl, rfl⟩))
    go_ret
    exact ⟨ret_bool (by unfold textOk; rw [d1, Bool.true_and, Bool.eq_iff_iff, decide_eq_true_iff, decide_eq_true_iff]; show Lib.indexByte s.data.toList 0 < 0 ↔ _; omega), rfl⟩
  · have d1 : decide ((s.size : Int) ≤ n) = false := decide_eq_false h
    go_enter Tryz.func74, Tryz.ntmps74
    go_wp2
    go_ret
    exact ⟨ret_bool (by unfold textOk; rw [d1]; simp), rfl⟩

theorem refPlain (s : ByteArray) (n : Int) (w : World) :
    Calls Tryz.prog 57 #[.string s, .int .i64 n] w fun e w' => e = .returned (.bool (textOk s n)) ∧ w = w' := by
  by_cases h : (s.size : Int) ≤ n
  · have d1 : decide ((s.size : Int) ≤ n) = true := decide_eq_true h
    go_enter Tryz.func57, Tryz.ntmps57
    go_wp2_with (first | (go_at_call 88; refine (Tryz.strings_Contains_one s 0 _).mono ?_; rintro e w1 ⟨rfl, rfl⟩))
    go_ret
    exact ⟨ret_bool (by unfold textOk; rw [d1, Bool.true_and, Bool.eq_iff_iff]; simp), rfl⟩
  · have d1 : decide ((s.size : Int) ≤ n) = false := decide_eq_false h
    go_enter Tryz.func57, Tryz.ntmps57
    go_wp2
    go_ret
    exact ⟨ret_bool (by unfold textOk; rw [d1]; simp), rfl⟩

theorem isLink (k : Int) (w : World) :
    Calls Tryz.prog 76 #[.int .u8 k] w fun e w' => e = .returned (.bool (k == 49 || k == 50)) ∧ w = w' := by
  cases h : (k == 49)
  all_goals
    go_enter Tryz.func76, Tryz.ntmps76
    go_wp2
    go_ret
    exact ⟨ret_bool (by simp), rfl⟩

theorem isDevice (k : Int) (w : World) :
    Calls Tryz.prog 38 #[.int .u8 k] w fun e w' => e = .returned (.bool (k == 51 || k == 52)) ∧ w = w' := by
  cases h : (k == 51)
  all_goals
    go_enter Tryz.func38, Tryz.ntmps38
    go_wp2
    go_ret
    exact ⟨ret_bool (by simp), rfl⟩

/-- is a time one that may be told? -/
def timeOk (s n : Int) : Bool := decide (-1099511627776 ≤ s) && (decide (s ≤ 1099511627776) && (decide (0 ≤ n) && decide (n ≤ 999999999)))

set_option maxHeartbeats 400000 in
theorem stampRight (s n : Int) (w : World) :
    Calls Tryz.prog 75 #[.agg #[.int .i64 s, .int .i64 n]] w fun e w' => e = .returned (.bool (timeOk s n)) ∧ Below w.heap.size w w' := by
  have hE : decide (n < 1000000000) = decide (n ≤ 999999999) := by rw [Bool.eq_iff_iff, decide_eq_true_iff, decide_eq_true_iff]; omega
  have HE := Lib.hid hE
  clear hE
  cases h1 : decide (-1099511627776 ≤ s)
  · have HT := Lib.hid (show timeOk s n = false by unfold timeOk; rw [h1]; rfl)
    go_enter Tryz.func75, Tryz.ntmps75
    go_wp2
    go_ret
    exact ⟨ret_bool HT.out.symm, bl_alloc (bl_refl w) _⟩
  · cases h2 : decide (s ≤ 1099511627776)
    · have HT := Lib.hid (show timeOk s n = false by unfold timeOk; rw [h1, h2]; rfl)
      go_enter Tryz.func75, Tryz.ntmps75
      go_wp2
      go_ret
      exact ⟨ret_bool HT.out.symm, bl_alloc (bl_refl w) _⟩
    · cases h3 : decide (0 ≤ n)
      · have HT := Lib.hid (show timeOk s n = false by unfold timeOk; rw [h1, h2, h3]; rfl)
        go_enter Tryz.func75, Tryz.ntmps75
        go_wp2
        go_ret
        exact ⟨ret_bool HT.out.symm, bl_alloc (bl_refl w) _⟩
      · have HT := Lib.hid (show timeOk s n = decide (n ≤ 999999999) by unfold timeOk; rw [h1, h2, h3]; rfl)
        go_enter Tryz.func75, Tryz.ntmps75
        go_wp2
        go_ret
        exact ⟨ret_bool (by rw [HT.out, ← HE.out]), bl_alloc (bl_refl w) _⟩

set_option maxRecDepth 100000 in
theorem refTimeRight (s n : Int) (w : World) :
    Calls Tryz.prog 58 #[.agg #[.int .i64 s, .int .i64 n]] w fun e w' => e = .returned (.bool (timeOk s n)) ∧ Below w.heap.size w w' := by
  cases h1 : (decide (-1099511627776 ≤ s) && decide (s ≤ 1099511627776))
  · have HT := Lib.hid (show timeOk s n = false by unfold timeOk; rw [← Bool.and_assoc, h1]; rfl)
    have HW := Lib.hid (fun W : World => (show Calls Tryz.prog 27 #[.int .i64 s, .int .i64 (-1099511627776), .int .i64 1099511627776] W fun e w' => e = .returned (.bool false) ∧ w' = W from (refWithin _ _ _ _).mono fun e w' h => ⟨by rw [← h1]; exact h.1, h.2.symm⟩))
    have HX := Lib.hid (fun W : World => (show Calls Tryz.prog 27 #[.int .i64 n, .int .i64 0, .int .i64 999999999] W fun e w' => e = .returned (.bool (decide (0 ≤ n) && decide (n ≤ 999999999))) ∧ w' = W from (refWithin _ _ _ _).mono fun e w' h => ⟨h.1, h.2.symm⟩))
    clear h1
    go_enter Tryz.func58, Tryz.ntmps58
    go_wp2
    go_quiet ((first | (go_at_call 27; first | with_reducible exact Calls.quiet_of_same (HW.out _) | with_reducible exact Calls.quiet_of_same (HX.out _)) | (go_at_call 111; exact Calls.quiet_of_same ((power40 _).mono fun e w' h => ⟨h.1, h.2.symm⟩))))
    go_wp2
    go_ret
    exact ⟨ret_bool HT.out.symm, bl_drewN (bl_alloc (bl_refl w) _) _⟩
  · have HT := Lib.hid (show timeOk s n = (decide (0 ≤ n) && decide (n ≤ 999999999)) by unfold timeOk; rw [← Bool.and_assoc, h1]; rfl)
    have HW := Lib.hid (fun W : World => (show Calls Tryz.prog 27 #[.int .i64 s, .int .i64 (-1099511627776), .int .i64 1099511627776] W fun e w' => e = .returned (.bool true) ∧ w' = W from (refWithin _ _ _ _).mono fun e w' h => ⟨by rw [← h1]; exact h.1, h.2.symm⟩))
    have HX := Lib.hid (fun W : World => (show Calls Tryz.prog 27 #[.int .i64 n, .int .i64 0, .int .i64 999999999] W fun e w' => e = .returned (.bool (decide (0 ≤ n) && decide (n ≤ 999999999))) ∧ w' = W from (refWithin _ _ _ _).mono fun e w' h => ⟨h.1, h.2.symm⟩))
    clear h1
    go_enter Tryz.func58, Tryz.ntmps58
    go_wp2
    go_quiet ((first | (go_at_call 27; first | with_reducible exact Calls.quiet_of_same (HW.out _) | with_reducible exact Calls.quiet_of_same (HX.out _)) | (go_at_call 111; exact Calls.quiet_of_same ((power40 _).mono fun e w' h => ⟨h.1, h.2.symm⟩))))
    go_wp2
    go_ret
    exact ⟨ret_bool (by rw [HT.out]), bl_drewN (bl_alloc (bl_refl w) _) _⟩

def sparseS (e : EntR) : Bool := decide ((0 : Int) < e.mn) || ((e.data.size : Int) != e.size)

theorem memSparse (e : EntR) (w : World) :
    Calls Tryz.prog 37 #[.agg #[.string e.name, .int .u8 e.kind, .int .i64 e.mode, .int .i64 e.uid, .int .i64 e.gid, .int .i64 e.size, .int .i64 e.sec, .int .i64 e.nano, .string e.link, .string e.user, .string e.group, .int .i64 e.major, .int .i64 e.minor, .string e.data, .slice e.ma e.mn e.mc]] w fun v w' => v = .returned (.bool (sparseS e)) ∧ Below w.heap.size w w' := by
  have HE := Lib.hid (show sparseS e = (decide ((0 : Int) < e.mn) || ((e.data.size : Int) != e.size)) from rfl)
  by_cases hm : e.mn = 0
  · have HF := Lib.hid (show sparseS e = ((e.data.size : Int) != e.size) by rw [HE.out, hm]; simp)
    go_enter Tryz.func37, Tryz.ntmps37
    go_wp2
    go_ret
    exact ⟨ret_bool (by rw [HF.out]), bl_alloc (bl_refl w) _⟩
  · have HF := Lib.hid (show sparseS e = true by rw [HE.out, decide_eq_true (by omega)]; rfl)
    go_enter Tryz.func37, Tryz.ntmps37
    go_wp2
    go_ret
    exact ⟨ret_bool (by rw [HF.out]), bl_alloc (bl_refl w) _⟩

theorem refSparse (e : EntR) (w : World) :
    Calls Tryz.prog 31 #[.agg #[.string e.name, .int .u8 e.kind, .int .i64 e.mode, .int .i64 e.uid, .int .i64 e.gid, .int .i64 e.size, .int .i64 e.sec, .int .i64 e.nano, .string e.link, .string e.user, .string e.group, .int .i64 e.major, .int .i64 e.minor, .string e.data, .slice e.ma e.mn e.mc]] w fun v w' => v = .returned (.bool (sparseS e)) ∧ Below w.heap.size w w' := by
  have HE := Lib.hid (show sparseS e = (decide ((0 : Int) < e.mn) || ((e.data.size : Int) != e.size)) from rfl)
  cases h1 : ((e.data.size : Int) != e.size)
  all_goals
    go_enter Tryz.func31, Tryz.ntmps31
    go_wp2
    go_ret
    exact ⟨ret_bool (by rw [HE.out, h1]; simp), bl_alloc (bl_refl w) _⟩
end Go.Proofs.YtehkfbgbpmfpmaaGreatDoor
