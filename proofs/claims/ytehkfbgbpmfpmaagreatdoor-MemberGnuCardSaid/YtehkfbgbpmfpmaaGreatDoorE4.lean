/- member.isFilled. -/
import Derived.Test.YtehkfbgbpmfpmaaGreatDoorE3
import Derived.Test.YtehkfbgbpmfpmaaGreatDoorW4
namespace Go.Proofs.YtehkfbgbpmfpmaaGreatDoor
set_option linter.unusedVariables false
set_option linter.unusedSimpArgs false
open Go.RowKit

theorem beq_nat0 (n : Nat) : ((n : Int) == 0) = decide (n = 0) := by rw [Bool.eq_iff_iff, beq_iff_eq, decide_eq_true_iff]; omega

structure EntB (e : EntR) : Prop where
  name : e.name.size ≤ 100000
  link : e.link.size ≤ 100000
  user : e.user.size ≤ 100000
  group : e.group.size ≤ 100000
  data : e.data.size ≤ 100000
  mn : e.mn ≤ 100000
  kind0 : 0 ≤ e.kind
  kind1 : e.kind ≤ 255
  size0 : -9223372036854775808 ≤ e.size
  size1 : e.size ≤ 9223372036854775807
  map : PIn e.map

def filledS (e : EntR) : Bool :=
  if e.kind ≠ 48 then decide (e.size = 0) && (decide (e.data.size = 0) && decide (e.mn = 0))
  else if ¬ (0 ≤ e.size ∧ e.size ≤ 4000) then false
  else !sparseS e || (mapOk e.map e.size && decide ((e.data.size : Int) = mapSum e.map e.map.length))

set_option maxHeartbeats 4000000 in
theorem isFilled_in (e : EntR) (w : World) (hb : EntB e) (hr : PRow w e.ma e.mn e.map) (hk : e.kind = 48) (hs : 0 ≤ e.size ∧ e.size ≤ 4000) :
    Calls Tryz.prog 77 #[.agg #[.string e.name, .int .u8 e.kind, .int .i64 e.mode, .int .i64 e.uid, .int .i64 e.gid, .int .i64 e.size, .int .i64 e.sec, .int .i64 e.nano, .string e.link, .string e.user, .string e.group, .int .i64 e.major, .int .i64 e.minor, .string e.data, .slice e.ma e.mn e.mc]] w fun v w' => v = .returned (.bool (filledS e)) ∧ Below w.heap.size w w' := by
  have HR := Lib.hid hr
  have HB := Lib.hid hb
  clear hr hb
  have hk2 : (e.kind != 48) = false := by simp [hk]
  have d2 : decide (0 ≤ e.size) = true := decide_eq_true hs.1
  have d3 : decide (e.size ≤ 4000) = true := decide_eq_true hs.2
  have HF := Lib.hid (show filledS e = (!sparseS e || (mapOk e.map e.size && decide ((e.data.size : Int) = mapSum e.map e.map.length))) by unfold filledS; rw [if_neg (by simp [hk]), if_neg (by simp [hs])])
  have hcase : sparseS e = false ∨ sparseS e = true ∧ (mapOk e.map e.size = false ∨ mapOk e.map e.size = true) := by
    cases sparseS e <;> cases mapOk e.map e.size <;> simp
  clear hk hs
  have HSP := Lib.hid (fun W : World => memSparse e W)
  have HMO := Lib.hid (fun (W : World) (h : PRow W e.ma e.mn e.map) => holeRight e.ma e.mn e.mc e.map e.size W h HB.out.map HB.out.size1 HB.out.size0)
  rcases hcase with hsp | ⟨hsp, hmo | hmo⟩
  all_goals rw [hsp] at HSP HF
  all_goals try rw [hmo] at HMO HF
  all_goals clear hsp
  all_goals
    go_enter Tryz.func77, Tryz.ntmps77
    go_wp2_with (first | (go_at_call 72; refine (memWithin _ _ _ _).mono ?_; rintro x w1 ⟨rfl, rfl⟩))
    have kE := Blk.new w #[.string e.name, .int .u8 e.kind, .int .i64 e.mode, .int .i64 e.uid, .int .i64 e.gid, .int .i64 e.size, .int .i64 e.sec, .int .i64 e.nano, .string e.link, .string e.user, .string e.group, .int .i64 e.major, .int .i64 e.minor, .string e.data, .slice e.ma e.mn e.mc] 26
    have gE := bl_alloc (bl_refl w) (.cells #[.string e.name, .int .u8 e.kind, .int .i64 e.mode, .int .i64 e.uid, .int .i64 e.gid, .int .i64 e.size, .int .i64 e.sec, .int .i64 e.nano, .string e.link, .string e.user, .string e.group, .int .i64 e.major, .int .i64 e.minor, .string e.data, .slice e.ma e.mn e.mc] 26)
    have HG := Lib.hid gE
    have hlt := kE.lt
    generalize w.alloc (.cells #[.string e.name, .int .u8 e.kind, .int .i64 e.mode, .int .i64 e.uid, .int .i64 e.gid, .int .i64 e.size, .int .i64 e.sec, .int .i64 e.nano, .string e.link, .string e.user, .string e.group, .int .i64 e.major, .int .i64 e.minor, .string e.data, .slice e.ma e.mn e.mc] 26) = W at *
    clear gE
    have a0 := kE.cell 0
    have a1 := kE.cell 1
    have a2 := kE.cell 2
    have a3 := kE.cell 3
    have a4 := kE.cell 4
    have a5 := kE.cell 5
    have a6 := kE.cell 6
    have a7 := kE.cell 7
    have a8 := kE.cell 8
    have a9 := kE.cell 9
    have a10 := kE.cell 10
    have a11 := kE.cell 11
    have a12 := kE.cell 12
    have a13 := kE.cell 13
    have a14 := kE.cell 14
    simp at a0 a1 a2 a3 a4 a5 a6 a7 a8 a9 a10 a11 a12 a13 a14
    refine wp_region_kept (by kernel_rfl) (by kernel_rfl) ?_
    repeat (go_big_quiet_step ((first
      | (go_at_call 37; exact kept_of (HSP.out _))
      | (go_at_call 116; exact kept_of (HMO.out _ ((HR.out.bl HG.out).bl (Kept.below _))))
      | (go_at_call 117; exact kept_of (holeSize e.ma e.mn e.mc e.map _ ((HR.out.bl HG.out).bl (Kept.below _)) (by have := HB.out.mn; omega))))))
    refine wpQuiet_nil ?_
    intro w2 hw2
    have hb2 := Kept.bl hw2
    clear hw2
    go_wp2
    go_ret
    exact ⟨ret_bool (by rw [HF.out]; first | (simp; done) | (simp; rfl)), bl_then hb2 HG.out HG.out.size⟩

theorem isFilled_out (e : EntR) (w : World) (hk : e.kind = 48) (hs : ¬ (0 ≤ e.size ∧ e.size ≤ 4000)) :
    Calls Tryz.prog 77 #[.agg #[.string e.name, .int .u8 e.kind, .int .i64 e.mode, .int .i64 e.uid, .int .i64 e.gid, .int .i64 e.size, .int .i64 e.sec, .int .i64 e.nano, .string e.link, .string e.user, .string e.group, .int .i64 e.major, .int .i64 e.minor, .string e.data, .slice e.ma e.mn e.mc]] w fun v w' => v = .returned (.bool (filledS e)) ∧ Below w.heap.size w w' := by
  have hk2 : (e.kind != 48) = false := by simp [hk]
  have HF := Lib.hid (show filledS e = false by unfold filledS; rw [if_neg (by simp [hk]), if_pos hs])
  have d2 : (decide (0 ≤ e.size) && decide (e.size ≤ 4000)) = false := by simp; omega
  clear hk hs
  go_enter Tryz.func77, Tryz.ntmps77
  go_wp2_with (first | (go_at_call 72; refine (memWithin _ _ _ _).mono ?_; rintro x w1 ⟨rfl, rfl⟩))
  go_ret
  exact ⟨ret_bool HF.out.symm, bl_alloc (bl_refl w) _⟩

theorem isFilled_no (e : EntR) (w : World) (hk : e.kind ≠ 48) :
    Calls Tryz.prog 77 #[.agg #[.string e.name, .int .u8 e.kind, .int .i64 e.mode, .int .i64 e.uid, .int .i64 e.gid, .int .i64 e.size, .int .i64 e.sec, .int .i64 e.nano, .string e.link, .string e.user, .string e.group, .int .i64 e.major, .int .i64 e.minor, .string e.data, .slice e.ma e.mn e.mc]] w fun v w' => v = .returned (.bool (filledS e)) ∧ Below w.heap.size w w' := by
  have hk2 : (e.kind != 48) = true := by simp [hk]
  have HF := Lib.hid (show filledS e = (decide (e.size = 0) && (decide (e.data.size = 0) && decide (e.mn = 0))) by unfold filledS; rw [if_pos hk])
  clear hk
  go_enter Tryz.func77, Tryz.ntmps77
  go_wp2
  all_goals go_ret
  all_goals refine ⟨ret_bool ?_, bl_alloc (bl_refl w) _⟩
  all_goals rw [HF.out]
  all_goals simp_all [toList_nil, toList_isEmpty, beq_nat0]

theorem isFilled (e : EntR) (w : World) (hb : EntB e) (hr : PRow w e.ma e.mn e.map) :
    Calls Tryz.prog 77 #[.agg #[.string e.name, .int .u8 e.kind, .int .i64 e.mode, .int .i64 e.uid, .int .i64 e.gid, .int .i64 e.size, .int .i64 e.sec, .int .i64 e.nano, .string e.link, .string e.user, .string e.group, .int .i64 e.major, .int .i64 e.minor, .string e.data, .slice e.ma e.mn e.mc]] w fun v w' => v = .returned (.bool (filledS e)) ∧ Below w.heap.size w w' := by
  by_cases hk : e.kind = 48
  · by_cases hs : 0 ≤ e.size ∧ e.size ≤ 4000
    · exact isFilled_in e w hb hr hk hs
    · exact isFilled_out e w hk hs
  · exact isFilled_no e w hk
end Go.Proofs.YtehkfbgbpmfpmaaGreatDoor
