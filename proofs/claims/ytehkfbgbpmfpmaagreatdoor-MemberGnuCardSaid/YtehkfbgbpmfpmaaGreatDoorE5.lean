/- member.Right. -/
import Derived.Test.YtehkfbgbpmfpmaaGreatDoorE4
namespace Go.Proofs.YtehkfbgbpmfpmaaGreatDoor
set_option linter.unusedVariables false
set_option linter.unusedSimpArgs false
open Go.RowKit

theorem ent_cells {w : World} {b : Nat} {e : EntR} {t : TypeId} (h : Blk w b #[.string e.name, .int .u8 e.kind, .int .i64 e.mode, .int .i64 e.uid, .int .i64 e.gid, .int .i64 e.size, .int .i64 e.sec, .int .i64 e.nano, .string e.link, .string e.user, .string e.group, .int .i64 e.major, .int .i64 e.minor, .string e.data, .slice e.ma e.mn e.mc] t) :
    w.cell? ⟨b, 0, none⟩ = some (.string e.name) ∧ w.cell? ⟨b, 1, none⟩ = some (.int .u8 e.kind) ∧ w.cell? ⟨b, 2, none⟩ = some (.int .i64 e.mode) ∧ w.cell? ⟨b, 3, none⟩ = some (.int .i64 e.uid) ∧ w.cell? ⟨b, 4, none⟩ = some (.int .i64 e.gid) ∧
    w.cell? ⟨b, 5, none⟩ = some (.int .i64 e.size) ∧ w.cell? ⟨b, 6, none⟩ = some (.int .i64 e.sec) ∧ w.cell? ⟨b, 7, none⟩ = some (.int .i64 e.nano) ∧ w.cell? ⟨b, 8, none⟩ = some (.string e.link) ∧ w.cell? ⟨b, 9, none⟩ = some (.string e.user) ∧
    w.cell? ⟨b, 10, none⟩ = some (.string e.group) ∧ w.cell? ⟨b, 11, none⟩ = some (.int .i64 e.major) ∧ w.cell? ⟨b, 12, none⟩ = some (.int .i64 e.minor) ∧ w.cell? ⟨b, 13, none⟩ = some (.string e.data) ∧ w.cell? ⟨b, 14, none⟩ = some (.slice e.ma e.mn e.mc) := by
  refine ⟨?_, ?_, ?_, ?_, ?_, ?_, ?_, ?_, ?_, ?_, ?_, ?_, ?_, ?_, ?_⟩ <;> (rw [h.cell]; rfl)

def inB (n a b : Int) : Bool := decide (a ≤ n) && decide (n ≤ b)
theorem memWithinB (n a b : Int) (w : World) :
    Calls Tryz.prog 72 #[.int .i64 n, .int .i64 a, .int .i64 b] w fun e w' => e = .returned (.bool (inB n a b)) ∧ w = w' := memWithin n a b w
theorem refWithinB (n a b : Int) (w : World) :
    Calls Tryz.prog 27 #[.int .i64 n, .int .i64 a, .int .i64 b] w fun e w' => e = .returned (.bool (inB n a b)) ∧ w = w' := refWithin n a b w
def slashB (s : ByteArray) : Bool := Lib.hasSuffix s.data.toList [47]
theorem hasSlash (s : ByteArray) (w : World) (hs : s.size ≤ 9223372036854775807) :
    Calls Tryz.prog 73 #[.string s, .string ⟨#[47]⟩] w fun e w' => e = .returned (.bool (slashB s)) ∧ w = w' :=
  (Tryz.strings_HasSuffix s ⟨#[47]⟩ w hs).mono fun _ _ ⟨h, k⟩ => ⟨h, k.symm⟩
def linkB (k : Int) : Bool := k == 49 || k == 50
def devB (k : Int) : Bool := k == 51 || k == 52
theorem isLinkB (k : Int) (w : World) :
    Calls Tryz.prog 76 #[.int .u8 k] w fun e w' => e = .returned (.bool (linkB k)) ∧ w = w' := isLink k w
theorem isDeviceB (k : Int) (w : World) :
    Calls Tryz.prog 38 #[.int .u8 k] w fun e w' => e = .returned (.bool (devB k)) ∧ w = w' := isDevice k w

theorem memWithinV (n a b : Int) (v : Bool) (h : inB n a b = v) (w : World) :
    Calls Tryz.prog 72 #[.int .i64 n, .int .i64 a, .int .i64 b] w fun e w' => e = .returned (.bool v) ∧ w = w' := by rw [← h]; exact memWithin n a b w
theorem hasSlashV (s : ByteArray) (v : Bool) (h : slashB s = v) (w : World) (hs : s.size ≤ 9223372036854775807) :
    Calls Tryz.prog 73 #[.string s, .string ⟨#[47]⟩] w fun e w' => e = .returned (.bool v) ∧ w = w' := by rw [← h]; exact hasSlash s w hs
theorem isTextV (s : ByteArray) (n : Int) (v : Bool) (h : textOk s n = v) (w : World) :
    Calls Tryz.prog 74 #[.string s, .int .i64 n] w fun e w' => e = .returned (.bool v) ∧ w = w' := by rw [← h]; exact isText s n w
theorem stampRightV (s n : Int) (v : Bool) (h : timeOk s n = v) (w : World) :
    Calls Tryz.prog 75 #[.agg #[.int .i64 s, .int .i64 n]] w fun e w' => e = .returned (.bool v) ∧ Below w.heap.size w w' := by rw [← h]; exact stampRight s n w
theorem isDeviceV (k : Int) (v : Bool) (h : devB k = v) (w : World) :
    Calls Tryz.prog 38 #[.int .u8 k] w fun e w' => e = .returned (.bool v) ∧ w = w' := by rw [← h]; exact isDevice k w
def emptyB (s : ByteArray) : Bool := decide (s.size = 0)
theorem isEmptyB (s : ByteArray) : s.toList.isEmpty = emptyB s := toList_isEmpty s
def rightS (e : EntR) : Bool :=
  inB e.kind 48 54 && (!emptyB e.name && (!slashB e.name && (textOk e.name 120 && (textOk e.link 120 && (textOk e.user 32 && (textOk e.group 32 &&
  (inB e.mode 0 4095 && (inB e.uid 0 1099511627775 && (inB e.gid 0 1099511627775 && (timeOk e.sec e.nano && ((!emptyB e.link) == linkB e.kind &&
  (inB e.major 0 2097151 && (inB e.minor 0 2097151 && ((devB e.kind || decide (e.major = 0 ∧ e.minor = 0)) && filledS e))))))))))))))

set_option maxRecDepth 100000 in
set_option maxHeartbeats 8000000 in
theorem memRight (e : EntR) (w : World) (hb : EntB e) (hr : PRow w e.ma e.mn e.map) :
    Calls Tryz.prog 33 #[.agg #[.string e.name, .int .u8 e.kind, .int .i64 e.mode, .int .i64 e.uid, .int .i64 e.gid, .int .i64 e.size, .int .i64 e.sec, .int .i64 e.nano, .string e.link, .string e.user, .string e.group, .int .i64 e.major, .int .i64 e.minor, .string e.data, .slice e.ma e.mn e.mc]] w fun v w' => v = .returned (.bool (rightS e)) ∧ Below w.heap.size w w' := by
  have HR := Lib.hid hr
  have HB := Lib.hid hb
  have hns : e.name.size ≤ 9223372036854775807 := by have := hb.name; omega
  have KE := Lib.hid (Blk.new w #[.string e.name, .int .u8 e.kind, .int .i64 e.mode, .int .i64 e.uid, .int .i64 e.gid, .int .i64 e.size, .int .i64 e.sec, .int .i64 e.nano, .string e.link, .string e.user, .string e.group, .int .i64 e.major, .int .i64 e.minor, .string e.data, .slice e.ma e.mn e.mc] 26)
  have GE := Lib.hid (bl_alloc (bl_refl w) (.cells #[.string e.name, .int .u8 e.kind, .int .i64 e.mode, .int .i64 e.uid, .int .i64 e.gid, .int .i64 e.size, .int .i64 e.sec, .int .i64 e.nano, .string e.link, .string e.user, .string e.group, .int .i64 e.major, .int .i64 e.minor, .string e.data, .slice e.ma e.mn e.mc] 26))
  have hk0 := hb.kind0
  have hk1 := hb.kind1
  clear hr hb
  rcases Bool.eq_false_or_eq_true e.name.toList.isEmpty with q1 | q1
  all_goals go_enter Tryz.func33, Tryz.ntmps33
  all_goals go_wp2_with (first
    | (go_at_call 72; rcases Bool.eq_false_or_eq_true (inB e.kind 48 54) with q0 | q0 <;> ((with_reducible refine (memWithinV e.kind 48 54 _ q0 _).mono ?_); rintro x w1 ⟨rfl, rfl⟩))
    | (go_at_call 72; rcases Bool.eq_false_or_eq_true (inB e.mode 0 4095) with q7 | q7 <;> ((with_reducible refine (memWithinV e.mode 0 4095 _ q7 _).mono ?_); rintro x w1 ⟨rfl, rfl⟩))
    | (go_at_call 72; rcases Bool.eq_false_or_eq_true (inB e.uid 0 1099511627775) with q8 | q8 <;> ((with_reducible refine (memWithinV e.uid _ _ _ q8 _).mono ?_); rintro x w1 ⟨rfl, rfl⟩))
    | (go_at_call 72; rcases Bool.eq_false_or_eq_true (inB e.gid 0 1099511627775) with q9 | q9 <;> ((with_reducible refine (memWithinV e.gid _ _ _ q9 _).mono ?_); rintro x w1 ⟨rfl, rfl⟩))
    | (go_at_call 73; rcases Bool.eq_false_or_eq_true (slashB e.name) with q2 | q2 <;> ((with_reducible refine (hasSlashV _ _ q2 _ hns).mono ?_); rintro x w1 ⟨rfl, rfl⟩))
    | (go_at_call 74; rcases Bool.eq_false_or_eq_true (textOk e.name 120) with q3 | q3 <;> ((with_reducible refine (isTextV e.name _ _ q3 _).mono ?_); rintro x w1 ⟨rfl, rfl⟩))
    | (go_at_call 74; rcases Bool.eq_false_or_eq_true (textOk e.link 120) with q4 | q4 <;> ((with_reducible refine (isTextV e.link _ _ q4 _).mono ?_); rintro x w1 ⟨rfl, rfl⟩))
    | (go_at_call 74; rcases Bool.eq_false_or_eq_true (textOk e.user 32) with q5 | q5 <;> ((with_reducible refine (isTextV e.user _ _ q5 _).mono ?_); rintro x w1 ⟨rfl, rfl⟩))
    | (go_at_call 74; rcases Bool.eq_false_or_eq_true (textOk e.group 32) with q6 | q6 <;> ((with_reducible refine (isTextV e.group _ _ q6 _).mono ?_); rintro x w1 ⟨rfl, rfl⟩))
    | (go_at_call 75; rcases Bool.eq_false_or_eq_true (timeOk e.sec e.nano) with q10 | q10 <;> ((with_reducible refine (stampRightV _ _ _ q10 _).mono ?_); rintro x w1 ⟨rfl, hb1⟩; have K1 := Lib.hid (KE.out.bl hb1); have G1 := Lib.hid (bl_then hb1 GE.out GE.out.size); have hlt := K1.out.lt; obtain ⟨a0, a1, a2, a3, a4, a5, a6, a7, a8, a9, a10, a11, a12, a13, a14⟩ := ent_cells K1.out; clear hb1)))
  all_goals try (go_ret; refine ⟨ret_bool ?_, by first | exact GE.out | exact G1.out⟩; rw [isEmptyB] at q1; unfold rightS; simp [*, isEmptyB]; done)
  · have HC := Lib.hid hlt
    refine wp_region_kept (by kernel_rfl) (by kernel_rfl) ?_
    repeat (go_big_quiet_step ((first
      | (go_at_call 76; exact kept_same (isLinkB _ _)))))
    refine wpQuiet_nil ?_
    intro w2 hw2
    have hb2 := Kept.bl hw2
    clear hw2
    have K2 := Lib.hid (K1.out.bl hb2)
    have G2 := Lib.hid (bl_then hb2 G1.out G1.out.size)
    clear a0 a1 a2 a3 a4 a5 a6 a7 a8 a9 a10 a11 a12 a13 a14 hb2 hlt HC
    obtain ⟨a0, a1, a2, a3, a4, a5, a6, a7, a8, a9, a10, a11, a12, a13, a14⟩ := ent_cells K2.out
    go_wp2_with (first
      | (go_at_call 72; rcases Bool.eq_false_or_eq_true (inB e.major 0 2097151) with q12 | q12 <;> ((with_reducible refine (memWithinV e.major _ _ _ q12 _).mono ?_); rintro x w1 ⟨rfl, rfl⟩))
      | (go_at_call 72; rcases Bool.eq_false_or_eq_true (inB e.minor 0 2097151) with q13 | q13 <;> ((with_reducible refine (memWithinV e.minor _ _ _ q13 _).mono ?_); rintro x w1 ⟨rfl, rfl⟩))
      | (go_at_call 38; rcases Bool.eq_false_or_eq_true (devB e.kind) with q14 | q14 <;> rcases Bool.eq_false_or_eq_true (e.major != 0) with q15 | q15 <;> rcases Bool.eq_false_or_eq_true (e.minor != 0) with q16 | q16 <;> ((with_reducible refine (isDeviceV _ _ q14 _).mono ?_); rintro x w1 ⟨rfl, rfl⟩))
      | (go_at_call 77; refine (isFilled e _ HB.out (HR.out.bl G2.out)).mono ?_; rintro x w3 ⟨rfl, hb3⟩; have G3 := Lib.hid (bl_then hb3 G2.out G2.out.size); clear hb3))
    all_goals go_ret
    all_goals refine ⟨ret_bool ?_, by first | exact G3.out | exact G2.out⟩
    all_goals (try clear G3)
    all_goals clear KE GE K1 G1 K2 G2 HR HB a0 a1 a2 a3 a4 a5 a6 a7 a8 a9 a10 a11 a12 a13 a14
    all_goals simp only [isEmptyB] at *
    all_goals unfold rightS
    all_goals (cases hx : emptyB e.link <;> cases hy : linkB e.kind <;> simp_all)
    all_goals trace_state
end Go.Proofs.YtehkfbgbpmfpmaaGreatDoor
