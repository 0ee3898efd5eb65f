/- revetmentref.EntryRight. -/
import Derived.Test.YtehkfbgbpmfpmaaGreatDoorE5
import Derived.Deep.DeepCutAuto
namespace Go.Proofs.YtehkfbgbpmfpmaaGreatDoor
set_option linter.unusedVariables false
set_option linter.unusedSimpArgs false
open Go.RowKit

theorem refWithinV (n a b : Int) (v : Bool) (h : inB n a b = v) (w : World) :
    Calls Tryz.prog 27 #[.int .i64 n, .int .i64 a, .int .i64 b] w fun e w' => e = .returned (.bool v) ∧ w = w' := by rw [← h]; exact refWithin n a b w
theorem refPlainV (s : ByteArray) (n : Int) (v : Bool) (h : textOk s n = v) (w : World) :
    Calls Tryz.prog 57 #[.string s, .int .i64 n] w fun e w' => e = .returned (.bool v) ∧ w = w' := by rw [← h]; exact refPlain s n w
theorem refTimeRightV (s n : Int) (v : Bool) (h : timeOk s n = v) (w : World) :
    Calls Tryz.prog 58 #[.agg #[.int .i64 s, .int .i64 n]] w fun e w' => e = .returned (.bool v) ∧ Below w.heap.size w w' := by rw [← h]; exact refTimeRight s n w
def mostD (k : Int) : Int := if devB k then 2097151 else 0
/-- the same, as the reference reckons it -/
def rightR (e : EntR) : Bool :=
  inB e.kind 48 54 && (!e.name.toList.isEmpty && (!slashB e.name && (textOk e.name 120 && (textOk e.link 120 && (textOk e.user 32 && (textOk e.group 32 &&
  (inB e.mode 0 4095 && (inB e.uid 0 1099511627775 && (inB e.gid 0 1099511627775 && (timeOk e.sec e.nano && ((linkB e.kind == !e.link.toList.isEmpty) &&
  (inB e.major 0 (mostD e.kind) && (inB e.minor 0 (mostD e.kind) && filledS e)))))))))))))
theorem rightR_eq (e : EntR) : rightS e = rightR e := by
  unfold rightS rightR mostD
  rw [isEmptyB, isEmptyB, show (linkB e.kind == !emptyB e.link) = ((!emptyB e.link) == linkB e.kind) from Bool.beq_comm ..]
  cases hd : devB e.kind
  · have h1 : ∀ m : Int, inB m 0 0 = decide (m = 0) := fun m => by unfold inB; rw [Bool.eq_iff_iff]; simp; omega
    by_cases ha : e.major = 0 <;> by_cases hb : e.minor = 0 <;> simp [h1, ha, hb, show inB 0 0 2097151 = true from rfl]
  · simp

theorem refOne1 (w : World) : Calls Tryz.prog 59 #[.bool true] w fun e w' => e = .returned (.int .i64 1) ∧ w = w' := refOne true w
theorem refOne0 (w : World) : Calls Tryz.prog 59 #[.bool false] w fun e w' => e = .returned (.int .i64 0) ∧ w = w' := refOne false w
theorem refOneT (b : Bool) (h : b = true) (w : World) :
    Calls Tryz.prog 59 #[.bool b] w fun e w' => e = .returned (.int .i64 1) ∧ w = w' := by rw [h]; exact refOne true w
theorem refOneF (b : Bool) (h : b = false) (w : World) :
    Calls Tryz.prog 59 #[.bool b] w fun e w' => e = .returned (.int .i64 0) ∧ w = w' := by rw [h]; exact refOne false w
theorem beq_sym_dec (a b : Int) : (a == b) = decide (b = a) := by rw [Bool.eq_iff_iff, beq_iff_eq, decide_eq_true_iff]; exact eq_comm
theorem filled_no {e : EntR} (hk : (e.kind != 48) = true) : filledS e = (decide (e.size = 0) && (decide (e.data.size = 0) && decide (e.mn = 0))) := by unfold filledS; rw [if_pos (by simpa using hk)]
theorem filled_out {e : EntR} (hk : (e.kind != 48) = false) (hs : inB e.size 0 4000 = false) : filledS e = false := by
  unfold filledS; rw [if_neg (by simpa using hk), if_pos (by unfold inB at hs; simp at hs; omega)]
theorem filled_in {e : EntR} (hk : (e.kind != 48) = false) (hs : inB e.size 0 4000 = true) : filledS e = (!sparseS e || (mapOk e.map e.size && decide ((e.data.size : Int) = mapSum e.map e.map.length))) := by
  unfold filledS; rw [if_neg (by simpa using hk), if_neg (by unfold inB at hs; simp at hs; omega)]
theorem slash_eq (s : ByteArray) (n : Nat) (hn : s.size = n + 1) : slashB s = ((s[n].toNat : Int) == 47) := by
  have hl : s.data.toList.length = n + 1 := by rw [← Lib.size_eq]; exact hn
  have e := byteAt s n (by omega)
  rw [e]
  unfold slashB
  rw [← Lib.hasSuffix_of_drop]
  have hd : s.data.toList.drop n = [s.data.toList.getD n 0] := by
    rw [List.drop_eq_getElem_cons (by omega), List.drop_of_length_le (by omega)]
    simp [List.getD, List.getElem?_eq_getElem (show n < s.data.toList.length by omega)]
  simp only [hl, List.length_singleton, Nat.add_sub_cancel, hd]
  rw [Bool.eq_iff_iff]
  simp
  constructor
  · intro h; rw [h]; rfl
  · intro h; exact UInt8.toNat_inj.1 (by have h47 : (47 : UInt8).toNat = 47 := rfl
                                         omega)

set_option maxRecDepth 100000 in
set_option maxHeartbeats 8000000 in
theorem refRight (e : EntR) (w : World) (hb : EntB e) (hr : PRow w e.ma e.mn e.map) :
    Calls Tryz.prog 28 #[.agg #[.string e.name, .int .u8 e.kind, .int .i64 e.mode, .int .i64 e.uid, .int .i64 e.gid, .int .i64 e.size, .int .i64 e.sec, .int .i64 e.nano, .string e.link, .string e.user, .string e.group, .int .i64 e.major, .int .i64 e.minor, .string e.data, .slice e.ma e.mn e.mc]] w fun v w' => v = .returned (.bool (rightS e)) ∧ Below w.heap.size w w' := by
  rw [rightR_eq]
  have HR := Lib.hid hr
  have HB := Lib.hid hb
  have hns : e.name.size ≤ 9223372036854775807 := by have := hb.name; omega
  have KE := Lib.hid (Blk.new w #[.string e.name, .int .u8 e.kind, .int .i64 e.mode, .int .i64 e.uid, .int .i64 e.gid, .int .i64 e.size, .int .i64 e.sec, .int .i64 e.nano, .string e.link, .string e.user, .string e.group, .int .i64 e.major, .int .i64 e.minor, .string e.data, .slice e.ma e.mn e.mc] 26)
  have GE := Lib.hid (bl_alloc (bl_refl w) (.cells #[.string e.name, .int .u8 e.kind, .int .i64 e.mode, .int .i64 e.uid, .int .i64 e.gid, .int .i64 e.size, .int .i64 e.sec, .int .i64 e.nano, .string e.link, .string e.user, .string e.group, .int .i64 e.major, .int .i64 e.minor, .string e.data, .slice e.ma e.mn e.mc] 26))
  have hk0 := hb.kind0
  have hk1 := hb.kind1
  clear hr hb
  have hsz : e.name.size = 0 ∨ ∃ n, e.name.size = n + 1 := by
    cases e.name.size with
    | zero => exact .inl rfl
    | succ n => exact .inr ⟨n, rfl⟩
  rcases hsz with hn | ⟨n, hn⟩
  · have q1 : e.name.toList.isEmpty = true := by rw [toList_isEmpty, hn]; rfl
    clear hn
    go_enter Tryz.func28, Tryz.ntmps28
    go_upto_region 1 with fail
    go_cut [3] (fun s3 wx => s3 = .bool (linkB e.kind) ∧ wx = w.alloc (.cells #[.string e.name, .int .u8 e.kind, .int .i64 e.mode, .int .i64 e.uid, .int .i64 e.gid, .int .i64 e.size, .int .i64 e.sec, .int .i64 e.nano, .string e.link, .string e.user, .string e.group, .int .i64 e.major, .int .i64 e.minor, .string e.data, .slice e.ma e.mn e.mc] 26))
    case first =>
      rcases Bool.eq_false_or_eq_true (e.kind == 49) with k1 | k1 <;> rcases Bool.eq_false_or_eq_true (e.kind == 50) with k2 | k2
      all_goals
        go_wp2_with fail
        go_meet
        case rel => exact ⟨by unfold linkB; rw [k1, k2]; rfl, rfl⟩
    case rest =>
      obtain ⟨rfl, rfl⟩ := hcut
      go_upto_region 2 with fail
      go_cut [4] (fun s4 wx => s4 = .bool (devB e.kind) ∧ wx = w.alloc (.cells #[.string e.name, .int .u8 e.kind, .int .i64 e.mode, .int .i64 e.uid, .int .i64 e.gid, .int .i64 e.size, .int .i64 e.sec, .int .i64 e.nano, .string e.link, .string e.user, .string e.group, .int .i64 e.major, .int .i64 e.minor, .string e.data, .slice e.ma e.mn e.mc] 26))
      case first =>
        rcases Bool.eq_false_or_eq_true (e.kind == 51) with k1 | k1 <;> rcases Bool.eq_false_or_eq_true (e.kind == 52) with k2 | k2
        all_goals
          go_wp2_with fail
          go_meet
          case rel => exact ⟨by unfold devB; rw [k1, k2]; rfl, rfl⟩
      case rest =>
        obtain ⟨rfl, rfl⟩ := hcut
        go_wp2_with (first
          | (go_at_call 27; rcases Bool.eq_false_or_eq_true (inB e.kind 48 54) with q0 | q0 <;> ((with_reducible refine (refWithinV e.kind 48 54 _ q0 _).mono ?_); rintro x w1 ⟨rfl, rfl⟩)))
        all_goals (go_ret; refine ⟨ret_bool ?_, GE.out⟩; unfold rightR; simp only [*, Bool.and_true, Bool.true_and, Bool.and_false, Bool.false_and, Bool.not_true, Bool.not_false]; done)
  · have q1 : e.name.toList.isEmpty = false := by rw [toList_isEmpty, hn]; rfl
    have hsl : slashB e.name = ((e.name[n].toNat : Int) == 47) := slash_eq _ _ hn
    have HSL := Lib.hid hsl
    clear hsl
    rcases Bool.eq_false_or_eq_true ((e.name[n].toNat : Int) == 47) with q2 | q2
    · go_enter Tryz.func28, Tryz.ntmps28
      go_upto_region 1 with fail
      go_cut [3] (fun s3 wx => s3 = .bool (linkB e.kind) ∧ wx = w.alloc (.cells #[.string e.name, .int .u8 e.kind, .int .i64 e.mode, .int .i64 e.uid, .int .i64 e.gid, .int .i64 e.size, .int .i64 e.sec, .int .i64 e.nano, .string e.link, .string e.user, .string e.group, .int .i64 e.major, .int .i64 e.minor, .string e.data, .slice e.ma e.mn e.mc] 26))
      case first =>
        rcases Bool.eq_false_or_eq_true (e.kind == 49) with k1 | k1 <;> rcases Bool.eq_false_or_eq_true (e.kind == 50) with k2 | k2
        all_goals
          go_wp2_with fail
          go_meet
          case rel => exact ⟨by unfold linkB; rw [k1, k2]; rfl, rfl⟩
      case rest =>
        obtain ⟨rfl, rfl⟩ := hcut
        go_upto_region 2 with fail
        go_cut [4] (fun s4 wx => s4 = .bool (devB e.kind) ∧ wx = w.alloc (.cells #[.string e.name, .int .u8 e.kind, .int .i64 e.mode, .int .i64 e.uid, .int .i64 e.gid, .int .i64 e.size, .int .i64 e.sec, .int .i64 e.nano, .string e.link, .string e.user, .string e.group, .int .i64 e.major, .int .i64 e.minor, .string e.data, .slice e.ma e.mn e.mc] 26))
        case first =>
          rcases Bool.eq_false_or_eq_true (e.kind == 51) with k1 | k1 <;> rcases Bool.eq_false_or_eq_true (e.kind == 52) with k2 | k2
          all_goals
            go_wp2_with fail
            go_meet
            case rel => exact ⟨by unfold devB; rw [k1, k2]; rfl, rfl⟩
        case rest =>
          obtain ⟨rfl, rfl⟩ := hcut
          go_wp2_with (first
            | (go_at_call 27; rcases Bool.eq_false_or_eq_true (inB e.kind 48 54) with q0 | q0 <;> ((with_reducible refine (refWithinV e.kind 48 54 _ q0 _).mono ?_); rintro x w1 ⟨rfl, rfl⟩))
            | (go_at_call 27; rcases Bool.eq_false_or_eq_true (inB e.mode 0 4095) with q7 | q7 <;> ((with_reducible refine (refWithinV e.mode 0 4095 _ q7 _).mono ?_); rintro x w1 ⟨rfl, rfl⟩))
            | (go_at_call 27; rcases Bool.eq_false_or_eq_true (inB e.uid 0 1099511627775) with q8 | q8 <;> ((with_reducible refine (refWithinV e.uid _ _ _ q8 _).mono ?_); rintro x w1 ⟨rfl, rfl⟩))
            | (go_at_call 27; rcases Bool.eq_false_or_eq_true (inB e.gid 0 1099511627775) with q9 | q9 <;> ((with_reducible refine (refWithinV e.gid _ _ _ q9 _).mono ?_); rintro x w1 ⟨rfl, rfl⟩))
            | (go_at_call 57; rcases Bool.eq_false_or_eq_true (textOk e.name 120) with q3 | q3 <;> ((with_reducible refine (refPlainV e.name _ _ q3 _).mono ?_); rintro x w1 ⟨rfl, rfl⟩))
            | (go_at_call 57; rcases Bool.eq_false_or_eq_true (textOk e.link 120) with q4 | q4 <;> ((with_reducible refine (refPlainV e.link _ _ q4 _).mono ?_); rintro x w1 ⟨rfl, rfl⟩))
            | (go_at_call 57; rcases Bool.eq_false_or_eq_true (textOk e.user 32) with q5 | q5 <;> ((with_reducible refine (refPlainV e.user _ _ q5 _).mono ?_); rintro x w1 ⟨rfl, rfl⟩))
            | (go_at_call 57; rcases Bool.eq_false_or_eq_true (textOk e.group 32) with q6 | q6 <;> ((with_reducible refine (refPlainV e.group _ _ q6 _).mono ?_); rintro x w1 ⟨rfl, rfl⟩))
            | (go_at_call 58; rcases Bool.eq_false_or_eq_true (timeOk e.sec e.nano) with q10 | q10 <;> rcases Bool.eq_false_or_eq_true (linkB e.kind == !e.link.toList.isEmpty) with q11 | q11 <;> ((with_reducible refine (refTimeRightV _ _ _ q10 _).mono ?_); rintro x w1 ⟨rfl, hb1⟩; have K1 := Lib.hid (KE.out.bl hb1); have G1 := Lib.hid (bl_then hb1 GE.out GE.out.size); have hlt := K1.out.lt; obtain ⟨a0, a1, a2, a3, a4, a5, a6, a7, a8, a9, a10, a11, a12, a13, a14⟩ := ent_cells K1.out; clear hb1)))
          all_goals try (go_ret; refine ⟨ret_bool ?_, by first | exact GE.out | exact G1.out⟩; unfold rightR; rw [HSL.out]; simp only [*, Bool.and_true, Bool.true_and, Bool.and_false, Bool.false_and, Bool.not_true, Bool.not_false]; done)
    · go_enter Tryz.func28, Tryz.ntmps28
      go_upto_region 1 with fail
      go_cut [3] (fun s3 wx => s3 = .bool (linkB e.kind) ∧ wx = w.alloc (.cells #[.string e.name, .int .u8 e.kind, .int .i64 e.mode, .int .i64 e.uid, .int .i64 e.gid, .int .i64 e.size, .int .i64 e.sec, .int .i64 e.nano, .string e.link, .string e.user, .string e.group, .int .i64 e.major, .int .i64 e.minor, .string e.data, .slice e.ma e.mn e.mc] 26))
      case first =>
        rcases Bool.eq_false_or_eq_true (e.kind == 49) with k1 | k1 <;> rcases Bool.eq_false_or_eq_true (e.kind == 50) with k2 | k2
        all_goals
          go_wp2_with fail
          go_meet
          case rel => exact ⟨by unfold linkB; rw [k1, k2]; rfl, rfl⟩
      case rest =>
        obtain ⟨rfl, rfl⟩ := hcut
        go_upto_region 2 with fail
        go_cut [4] (fun s4 wx => s4 = .bool (devB e.kind) ∧ wx = w.alloc (.cells #[.string e.name, .int .u8 e.kind, .int .i64 e.mode, .int .i64 e.uid, .int .i64 e.gid, .int .i64 e.size, .int .i64 e.sec, .int .i64 e.nano, .string e.link, .string e.user, .string e.group, .int .i64 e.major, .int .i64 e.minor, .string e.data, .slice e.ma e.mn e.mc] 26))
        case first =>
          rcases Bool.eq_false_or_eq_true (e.kind == 51) with k1 | k1 <;> rcases Bool.eq_false_or_eq_true (e.kind == 52) with k2 | k2
          all_goals
            go_wp2_with fail
            go_meet
            case rel => exact ⟨by unfold devB; rw [k1, k2]; rfl, rfl⟩
        case rest =>
          obtain ⟨rfl, rfl⟩ := hcut
          go_wp2_with (first
            | (go_at_call 27; rcases Bool.eq_false_or_eq_true (inB e.kind 48 54) with q0 | q0 <;> ((with_reducible refine (refWithinV e.kind 48 54 _ q0 _).mono ?_); rintro x w1 ⟨rfl, rfl⟩))
            | (go_at_call 27; rcases Bool.eq_false_or_eq_true (inB e.mode 0 4095) with q7 | q7 <;> ((with_reducible refine (refWithinV e.mode 0 4095 _ q7 _).mono ?_); rintro x w1 ⟨rfl, rfl⟩))
            | (go_at_call 27; rcases Bool.eq_false_or_eq_true (inB e.uid 0 1099511627775) with q8 | q8 <;> ((with_reducible refine (refWithinV e.uid _ _ _ q8 _).mono ?_); rintro x w1 ⟨rfl, rfl⟩))
            | (go_at_call 27; rcases Bool.eq_false_or_eq_true (inB e.gid 0 1099511627775) with q9 | q9 <;> ((with_reducible refine (refWithinV e.gid _ _ _ q9 _).mono ?_); rintro x w1 ⟨rfl, rfl⟩))
            | (go_at_call 57; rcases Bool.eq_false_or_eq_true (textOk e.name 120) with q3 | q3 <;> ((with_reducible refine (refPlainV e.name _ _ q3 _).mono ?_); rintro x w1 ⟨rfl, rfl⟩))
            | (go_at_call 57; rcases Bool.eq_false_or_eq_true (textOk e.link 120) with q4 | q4 <;> ((with_reducible refine (refPlainV e.link _ _ q4 _).mono ?_); rintro x w1 ⟨rfl, rfl⟩))
            | (go_at_call 57; rcases Bool.eq_false_or_eq_true (textOk e.user 32) with q5 | q5 <;> ((with_reducible refine (refPlainV e.user _ _ q5 _).mono ?_); rintro x w1 ⟨rfl, rfl⟩))
            | (go_at_call 57; rcases Bool.eq_false_or_eq_true (textOk e.group 32) with q6 | q6 <;> ((with_reducible refine (refPlainV e.group _ _ q6 _).mono ?_); rintro x w1 ⟨rfl, rfl⟩))
            | (go_at_call 58; rcases Bool.eq_false_or_eq_true (timeOk e.sec e.nano) with q10 | q10 <;> rcases Bool.eq_false_or_eq_true (linkB e.kind == !e.link.toList.isEmpty) with q11 | q11 <;> ((with_reducible refine (refTimeRightV _ _ _ q10 _).mono ?_); rintro x w1 ⟨rfl, hb1⟩; have K1 := Lib.hid (KE.out.bl hb1); have G1 := Lib.hid (bl_then hb1 GE.out GE.out.size); have hlt := K1.out.lt; obtain ⟨a0, a1, a2, a3, a4, a5, a6, a7, a8, a9, a10, a11, a12, a13, a14⟩ := ent_cells K1.out; clear hb1)))
          all_goals try (go_ret; refine ⟨ret_bool ?_, by first | exact GE.out | exact G1.out⟩; unfold rightR; rw [HSL.out]; simp only [*, Bool.and_true, Bool.true_and, Bool.and_false, Bool.false_and, Bool.not_true, Bool.not_false]; done)
          rcases Bool.eq_false_or_eq_true (devB e.kind) with q14 | q14
          all_goals obtain ⟨m, HM⟩ : ∃ m, Hid (mostD e.kind = m) := ⟨_, Lib.hid rfl⟩
          · as_aux_lemma =>
            obtain rfl : m = 2097151 := by have := HM.out; unfold mostD at this; rw [q14] at this; exact this.symm
            rcases Bool.eq_false_or_eq_true (inB e.major 0 2097151) with q12 | q12
            all_goals
              refine wp_region_kept (by kernel_rfl) (by kernel_rfl) ?_
              repeat (go_big_quiet_step ((first
                | (go_at_call 59; first | exact kept_same (refOne1 _) | exact kept_same (refOneT _ q14 _))
                | (go_at_call 27; exact kept_same (refWithinV _ _ _ _ q12 _)))))
              refine wpQuiet_nil ?_
              intro w2 hw2
              have hb2 := Kept.bl hw2
              clear hw2
              have K2 := Lib.hid (K1.out.bl hb2)
              have G2 := Lib.hid (bl_then hb2 G1.out G1.out.size)
              clear a0 a1 a2 a3 a4 a5 a6 a7 a8 a9 a10 a11 a12 a13 a14 hb2 hlt K1 G1
              have hlt := K2.out.lt
              obtain ⟨a0, a1, a2, a3, a4, a5, a6, a7, a8, a9, a10, a11, a12, a13, a14⟩ := ent_cells K2.out
              go_wp2_with fail
            · rcases Bool.eq_false_or_eq_true (inB e.minor 0 2097151) with q13 | q13
              all_goals
                refine wp_region_kept (by kernel_rfl) (by kernel_rfl) ?_
                repeat (go_big_quiet_step ((first
                  | (go_at_call 59; first | exact kept_same (refOne1 _) | exact kept_same (refOneT _ q14 _))
                  | (go_at_call 27; exact kept_same (refWithinV _ _ _ _ q13 _)))))
                refine wpQuiet_nil ?_
                intro w1 hw2
                have hb2 := Kept.bl hw2
                clear hw2
                have K1 := Lib.hid (K2.out.bl hb2)
                have G1 := Lib.hid (bl_then hb2 G2.out G2.out.size)
                clear a0 a1 a2 a3 a4 a5 a6 a7 a8 a9 a10 a11 a12 a13 a14 hb2 hlt K2 G2
                have hlt := K1.out.lt
                obtain ⟨a0, a1, a2, a3, a4, a5, a6, a7, a8, a9, a10, a11, a12, a13, a14⟩ := ent_cells K1.out
              · as_aux_lemma =>
                have HT := Lib.hid (show rightR e = filledS e by unfold rightR; rw [HSL.out, HM.out]; simp only [*, Bool.and_true, Bool.true_and, Bool.and_false, Bool.false_and, Bool.not_true, Bool.not_false])
                rcases Bool.eq_false_or_eq_true (e.kind != 48) with hk2 | hk2
                · have HF := Lib.hid (filled_no hk2)
                  go_wp2_with fail
                  all_goals go_ret
                  all_goals refine ⟨ret_bool ?_, G1.out⟩
                  all_goals rw [HT.out, HF.out]
                  all_goals clear HR HB KE GE K1 G1 a0 a1 a2 a3 a4 a5 a6 a7 a8 a9 a10 a11 a12 a13 a14
                  all_goals simp_all [toList_nil, toList_isEmpty, beq_nat0]
                · rcases Bool.eq_false_or_eq_true (inB e.size 0 4000) with hs | hs
                  · have HF := Lib.hid (filled_in hk2 hs)
                    have HSP := Lib.hid (fun W : World => refSparse e W)
                    have HMO := Lib.hid (fun (W : World) (h : PRow W e.ma e.mn e.map) => mapRight e.ma e.mn e.mc e.map e.size W h HB.out.map HB.out.size1 HB.out.size0)
                    have hcase : sparseS e = false ∨ sparseS e = true ∧ (mapOk e.map e.size = false ∨ mapOk e.map e.size = true) := by
                      cases sparseS e <;> cases mapOk e.map e.size <;> simp
                    rcases hcase with hsp | ⟨hsp, hmo | hmo⟩
                    all_goals rw [hsp] at HSP HF
                    all_goals try rw [hmo] at HMO HF
                    all_goals clear hsp
                    all_goals as_aux_lemma =>
                      go_wp2_with (first | (go_at_call 27; refine (refWithinV _ _ _ _ hs _).mono ?_; rintro x w1 ⟨rfl, rfl⟩))
                      refine wp_region_kept (by kernel_rfl) (by kernel_rfl) ?_
                      repeat (go_big_quiet_step ((first
                        | (go_at_call 31; exact kept_of (HSP.out _))
                        | (go_at_call 60; exact kept_of (HMO.out _ ((HR.out.bl G1.out).bl (Kept.below _))))
                        | (go_at_call 61; exact kept_of (mapSize e.ma e.mn e.mc e.map _ ((HR.out.bl G1.out).bl (Kept.below _)) (by have := HB.out.mn; omega))))))
                      refine wpQuiet_nil ?_
                      intro w2 hw2
                      have hb2 := Kept.bl hw2
                      clear hw2
                      go_wp2
                      go_ret
                      exact ⟨ret_bool (by rw [HT.out, HF.out]; first | (simp; done) | (simp; rfl) | (simp; exact beq_sym_dec _ _)), bl_then hb2 G1.out G1.out.size⟩
                  · go_wp2_with (first | (go_at_call 27; refine (refWithinV _ _ _ _ hs _).mono ?_; rintro x w1 ⟨rfl, rfl⟩))
                    go_ret
                    exact ⟨ret_bool (by rw [HT.out, filled_out hk2 hs]), G1.out⟩
              · go_wp2_with fail
                go_ret
                refine ⟨ret_bool ?_, G1.out⟩
                unfold rightR; rw [HSL.out, HM.out]; simp only [*, Bool.and_true, Bool.true_and, Bool.and_false, Bool.false_and, Bool.not_true, Bool.not_false]; done
            · go_ret
              refine ⟨ret_bool ?_, G2.out⟩
              unfold rightR; rw [HSL.out, HM.out]; simp only [*, Bool.and_true, Bool.true_and, Bool.and_false, Bool.false_and, Bool.not_true, Bool.not_false]; done
          · as_aux_lemma =>
            obtain rfl : m = 0 := by have := HM.out; unfold mostD at this; rw [q14] at this; exact this.symm
            rcases Bool.eq_false_or_eq_true (inB e.major 0 0) with q12 | q12
            all_goals
              refine wp_region_kept (by kernel_rfl) (by kernel_rfl) ?_
              repeat (go_big_quiet_step ((first
                | (go_at_call 59; first | exact kept_same (refOne0 _) | exact kept_same (refOneF _ q14 _))
                | (go_at_call 27; exact kept_same (refWithinV _ _ _ _ q12 _)))))
              refine wpQuiet_nil ?_
              intro w2 hw2
              have hb2 := Kept.bl hw2
              clear hw2
              have K2 := Lib.hid (K1.out.bl hb2)
              have G2 := Lib.hid (bl_then hb2 G1.out G1.out.size)
              clear a0 a1 a2 a3 a4 a5 a6 a7 a8 a9 a10 a11 a12 a13 a14 hb2 hlt K1 G1
              have hlt := K2.out.lt
              obtain ⟨a0, a1, a2, a3, a4, a5, a6, a7, a8, a9, a10, a11, a12, a13, a14⟩ := ent_cells K2.out
              go_wp2_with fail
            · rcases Bool.eq_false_or_eq_true (inB e.minor 0 0) with q13 | q13
              all_goals
                refine wp_region_kept (by kernel_rfl) (by kernel_rfl) ?_
                repeat (go_big_quiet_step ((first
                  | (go_at_call 59; first | exact kept_same (refOne0 _) | exact kept_same (refOneF _ q14 _))
                  | (go_at_call 27; exact kept_same (refWithinV _ _ _ _ q13 _)))))
                refine wpQuiet_nil ?_
                intro w1 hw2
                have hb2 := Kept.bl hw2
                clear hw2
                have K1 := Lib.hid (K2.out.bl hb2)
                have G1 := Lib.hid (bl_then hb2 G2.out G2.out.size)
                clear a0 a1 a2 a3 a4 a5 a6 a7 a8 a9 a10 a11 a12 a13 a14 hb2 hlt K2 G2
                have hlt := K1.out.lt
                obtain ⟨a0, a1, a2, a3, a4, a5, a6, a7, a8, a9, a10, a11, a12, a13, a14⟩ := ent_cells K1.out
              · as_aux_lemma =>
                have HT := Lib.hid (show rightR e = filledS e by unfold rightR; rw [HSL.out, HM.out]; simp only [*, Bool.and_true, Bool.true_and, Bool.and_false, Bool.false_and, Bool.not_true, Bool.not_false])
                rcases Bool.eq_false_or_eq_true (e.kind != 48) with hk2 | hk2
                · have HF := Lib.hid (filled_no hk2)
                  go_wp2_with fail
                  all_goals go_ret
                  all_goals refine ⟨ret_bool ?_, G1.out⟩
                  all_goals rw [HT.out, HF.out]
                  all_goals clear HR HB KE GE K1 G1 a0 a1 a2 a3 a4 a5 a6 a7 a8 a9 a10 a11 a12 a13 a14
                  all_goals simp_all [toList_nil, toList_isEmpty, beq_nat0]
                · rcases Bool.eq_false_or_eq_true (inB e.size 0 4000) with hs | hs
                  · have HF := Lib.hid (filled_in hk2 hs)
                    have HSP := Lib.hid (fun W : World => refSparse e W)
                    have HMO := Lib.hid (fun (W : World) (h : PRow W e.ma e.mn e.map) => mapRight e.ma e.mn e.mc e.map e.size W h HB.out.map HB.out.size1 HB.out.size0)
                    have hcase : sparseS e = false ∨ sparseS e = true ∧ (mapOk e.map e.size = false ∨ mapOk e.map e.size = true) := by
                      cases sparseS e <;> cases mapOk e.map e.size <;> simp
                    rcases hcase with hsp | ⟨hsp, hmo | hmo⟩
                    all_goals rw [hsp] at HSP HF
                    all_goals try rw [hmo] at HMO HF
                    all_goals clear hsp
                    all_goals as_aux_lemma =>
                      go_wp2_with (first | (go_at_call 27; refine (refWithinV _ _ _ _ hs _).mono ?_; rintro x w1 ⟨rfl, rfl⟩))
                      refine wp_region_kept (by kernel_rfl) (by kernel_rfl) ?_
                      repeat (go_big_quiet_step ((first
                        | (go_at_call 31; exact kept_of (HSP.out _))
                        | (go_at_call 60; exact kept_of (HMO.out _ ((HR.out.bl G1.out).bl (Kept.below _))))
                        | (go_at_call 61; exact kept_of (mapSize e.ma e.mn e.mc e.map _ ((HR.out.bl G1.out).bl (Kept.below _)) (by have := HB.out.mn; omega))))))
                      refine wpQuiet_nil ?_
                      intro w2 hw2
                      have hb2 := Kept.bl hw2
                      clear hw2
                      go_wp2
                      go_ret
                      exact ⟨ret_bool (by rw [HT.out, HF.out]; first | (simp; done) | (simp; rfl) | (simp; exact beq_sym_dec _ _)), bl_then hb2 G1.out G1.out.size⟩
                  · go_wp2_with (first | (go_at_call 27; refine (refWithinV _ _ _ _ hs _).mono ?_; rintro x w1 ⟨rfl, rfl⟩))
                    go_ret
                    exact ⟨ret_bool (by rw [HT.out, filled_out hk2 hs]), G1.out⟩
              · go_wp2_with fail
                go_ret
                refine ⟨ret_bool ?_, G1.out⟩
                unfold rightR; rw [HSL.out, HM.out]; simp only [*, Bool.and_true, Bool.true_and, Bool.and_false, Bool.false_and, Bool.not_true, Bool.not_false]; done
            · go_ret
              refine ⟨ret_bool ?_, G2.out⟩
              unfold rightR; rw [HSL.out, HM.out]; simp only [*, Bool.and_true, Bool.true_and, Bool.and_false, Bool.false_and, Bool.not_true, Bool.not_false]; done
end Go.Proofs.YtehkfbgbpmfpmaaGreatDoor
