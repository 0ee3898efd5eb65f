/- revetmentlaw.large, bare, plainOf at the dialect Gnu, MemberGnu. -/
import Derived.Test.YtehkfbgbpmfpmaaGreatDoorH2
import Derived.Test.YtehkfbgbpmfpmaaGreatDoorB3
namespace Go.Proofs.YtehkfbgbpmfpmaaGreatDoor
set_option linter.unusedVariables false
set_option linter.unusedSimpArgs false
open Go.RowKit

def sumB (e : EntR) : Bool := decide ((700 : Int) < (e.name.size : Int) + (e.link.size : Int) + (e.user.size : Int) + (e.group.size : Int))
def largeB (e : EntR) : Bool :=
  sumB e || (decide ((900 : Int) < (e.data.size : Int)) && decide ((e.data.size : Int) < 3991) || (decide ((4009 : Int) < (e.data.size : Int)) || decide ((30 : Int) < (e.mn : Int))))
theorem large_not {e : EntR} (h : largeB e = false) : e.name.size ≤ 700 ∧ e.link.size ≤ 700 ∧ e.user.size ≤ 700 ∧ e.group.size ≤ 700 ∧ e.data.size ≤ 4009 ∧ e.mn ≤ 30 := by
  unfold largeB sumB at h
  simp at h
  omega
structure Reach (e : EntR) : Prop where
  name : e.name.size ≤ 140737488351232
  link : e.link.size ≤ 140737488351232
  user : e.user.size ≤ 140737488351232
  group : e.group.size ≤ 140737488351232
  data : e.data.size ≤ 140737488351232
  mn : e.mn ≤ 9223372036854775807

set_option maxRecDepth 100000 in
set_option maxHeartbeats 4000000 in
theorem lawLarge (e : EntR) (w : World) (h : Reach e) :
    Calls Tryz.prog 13 #[.agg #[.string e.name, .int .u8 e.kind, .int .i64 e.mode, .int .i64 e.uid, .int .i64 e.gid, .int .i64 e.size, .int .i64 e.sec, .int .i64 e.nano, .string e.link, .string e.user, .string e.group, .int .i64 e.major, .int .i64 e.minor, .string e.data, .slice e.ma e.mn e.mc]] w fun v w' => v = .returned (.bool (largeB e)) ∧ Below w.heap.size w w' := by
  obtain ⟨h1, h2, h3, h4, h5, h6⟩ := h
  have HL := Lib.hid (show largeB e = (sumB e || (decide ((900 : Int) < (e.data.size : Int)) && decide ((e.data.size : Int) < 3991) || (decide ((4009 : Int) < (e.data.size : Int)) || decide ((30 : Int) < (e.mn : Int))))) from rfl)
  have HQ := Lib.hid (show sumB e = decide ((700 : Int) < (e.name.size : Int) + (e.link.size : Int) + (e.user.size : Int) + (e.group.size : Int)) from rfl)
  have hcase : decide ((700 : Int) < (e.name.size : Int) + (e.link.size : Int) + (e.user.size : Int) + (e.group.size : Int)) = true ∨
      decide ((700 : Int) < (e.name.size : Int) + (e.link.size : Int) + (e.user.size : Int) + (e.group.size : Int)) = false := by
    cases decide ((700 : Int) < (e.name.size : Int) + (e.link.size : Int) + (e.user.size : Int) + (e.group.size : Int)) <;> simp
  rcases hcase with q1 | q1
  · go_enter Tryz.func13, Tryz.ntmps13
    go_wp2
    go_ret
    refine ⟨ret_bool ?_, bl_alloc (bl_refl w) _⟩
    rw [HL.out, HQ.out, q1]
    rfl
  · have hd : (decide ((900 : Int) < (e.data.size : Int)) = true ∧ decide ((e.data.size : Int) < 3991) = true) ∨
        ((decide ((900 : Int) < (e.data.size : Int)) = false ∨ decide ((900 : Int) < (e.data.size : Int)) = true ∧ decide ((e.data.size : Int) < 3991) = false) ∧
          (decide ((4009 : Int) < (e.data.size : Int)) = true ∨ decide ((4009 : Int) < (e.data.size : Int)) = false ∧ (decide ((30 : Int) < (e.mn : Int)) = true ∨ decide ((30 : Int) < (e.mn : Int)) = false))) := by
      cases decide ((900 : Int) < (e.data.size : Int)) <;> cases decide ((e.data.size : Int) < 3991) <;> cases decide ((4009 : Int) < (e.data.size : Int)) <;> cases decide ((30 : Int) < (e.mn : Int)) <;> simp
    rcases hd with ⟨q2, q3⟩ | ⟨q2 | ⟨q2, q3⟩, q4 | ⟨q4, q5 | q5⟩⟩
    all_goals
      go_enter Tryz.func13, Tryz.ntmps13
      go_wp2
      go_ret
      refine ⟨ret_bool ?_, bl_alloc (bl_refl w) _⟩
      rw [HL.out, HQ.out]
      simp only [*]
      first | rfl | simp

theorem bareSame (x : Int) (w : World) (hG : G w) :
    Calls Tryz.prog 16 #[errV x, .int .i64 x] w fun e w' => e = .returned (.bool true) ∧ Below w.heap.size w w' := by
  have HG := Lib.hid hG
  clear hG
  go_enter Tryz.func16, Tryz.ntmps16
  go_wp2_with (first | (go_at_call 26; (with_reducible refine (placeV x _ HG.out).mono ?_); rintro v w1 ⟨rfl, hb1⟩))
  go_ret
  exact ⟨rfl, hb1⟩

theorem Ent.reach {w : World} {e : EntR} (h : Ent w e) : Reach e :=
  { name := by have := h.b.name; omega, link := by have := h.b.link; omega, user := by have := h.b.user; omega, group := by have := h.b.group; omega, data := by have := h.b.data; omega, mn := by have := h.mn; omega }

attribute [local irreducible] writeS3 largeB
set_option maxRecDepth 100000 in
set_option maxHeartbeats 4000000 in
theorem plainOf3 (e : EntR) (w : World) (hr : Reach e) (he : largeB e = false → Ent w e) (hG : G w) :
    Calls Tryz.prog 7 #[.int .i64 3, .agg #[.string e.name, .int .u8 e.kind, .int .i64 e.mode, .int .i64 e.uid, .int .i64 e.gid, .int .i64 e.size, .int .i64 e.sec, .int .i64 e.nano, .string e.link, .string e.user, .string e.group, .int .i64 e.major, .int .i64 e.minor, .string e.data, .slice e.ma e.mn e.mc]] w fun v w' => v = .returned (.bool true) ∧ Below w.heap.size w w' := by
  have KE0 := Lib.hid (Blk.new w #[.string e.name, .int .u8 e.kind, .int .i64 e.mode, .int .i64 e.uid, .int .i64 e.gid, .int .i64 e.size, .int .i64 e.sec, .int .i64 e.nano, .string e.link, .string e.user, .string e.group, .int .i64 e.major, .int .i64 e.minor, .string e.data, .slice e.ma e.mn e.mc] 26)
  have GE0 := Lib.hid (bl_alloc (bl_refl w) (.cells #[.string e.name, .int .u8 e.kind, .int .i64 e.mode, .int .i64 e.uid, .int .i64 e.gid, .int .i64 e.size, .int .i64 e.sec, .int .i64 e.nano, .string e.link, .string e.user, .string e.group, .int .i64 e.major, .int .i64 e.minor, .string e.data, .slice e.ma e.mn e.mc] 26))
  have HG := Lib.hid hG
  have HRe := Lib.hid hr
  clear hG hr
  cases hlg : largeB e
  · have HE := Lib.hid ((he hlg).bl GE0.out)
    have HLg := Lib.hid (fun W : World => hlg ▸ lawLarge e W HRe.out)
    clear he hlg
    go_enter Tryz.func7, Tryz.ntmps7
    go_wp2_with (first
      | (go_at_call 13; (with_reducible refine (HLg.out _).mono ?_); rintro x w1 ⟨rfl, hb1⟩; have KE1 := Lib.hid (KE0.out.bl hb1); have HE1 := Lib.hid (HE.out.bl hb1); have G1 := Lib.hid (bl_then hb1 GE0.out GE0.out.size); clear hb1; obtain ⟨a0, a1, a2, a3, a4, a5, a6, a7, a8, a9, a10, a11, a12, a13, a14⟩ := ent_cells KE1.out)
      | (go_at_call 14; (with_reducible refine (refWrite3 e _ HE1.out).mono ?_); rintro x w2 ⟨rfl, hb2⟩; have KE2 := Lib.hid (KE1.out.bl hb2); have HE2 := Lib.hid (HE1.out.bl hb2); have G2 := Lib.hid (bl_then hb2 G1.out G1.out.size); clear hb2 a0 a1 a2 a3 a4 a5 a6 a7 a8 a9 a10 a11 a12 a13 a14; obtain ⟨a0, a1, a2, a3, a4, a5, a6, a7, a8, a9, a10, a11, a12, a13, a14⟩ := ent_cells KE2.out)
      | (go_at_call 15; (with_reducible refine (memWrite3 e _ HE2.out).mono ?_); rintro x w3 ⟨rfl, hb3⟩; have G3 := Lib.hid (bl_then hb3 G2.out G2.out.size); clear hb3)
      | (go_at_call 16; (with_reducible refine (bareSame _ _ (HG.out.bl G3.out)).mono ?_); rintro x w4 ⟨rfl, hb4⟩; have G4 := Lib.hid (bl_then hb4 G3.out G3.out.size); clear hb4))
    go_ret
    exact ⟨rfl, G4.out⟩
  · have HLg := Lib.hid (fun W : World => hlg ▸ lawLarge e W HRe.out)
    clear he hlg
    go_enter Tryz.func7, Tryz.ntmps7
    go_wp2_with (first
      | (go_at_call 13; (with_reducible refine (HLg.out _).mono ?_); rintro x w1 ⟨rfl, hb1⟩; have G1 := Lib.hid (bl_then hb1 GE0.out GE0.out.size); clear hb1))
    go_ret
    exact ⟨rfl, G1.out⟩

set_option maxHeartbeats 4000000 in
theorem lawGnu (e : EntR) (w : World) (hr : Reach e) (he : largeB e = false → Ent w e) (hG : G w) :
    Calls Tryz.prog 4 #[.agg #[.string e.name, .int .u8 e.kind, .int .i64 e.mode, .int .i64 e.uid, .int .i64 e.gid, .int .i64 e.size, .int .i64 e.sec, .int .i64 e.nano, .string e.link, .string e.user, .string e.group, .int .i64 e.major, .int .i64 e.minor, .string e.data, .slice e.ma e.mn e.mc]] w fun v w' => v = .returned (.bool true) ∧ Below w.heap.size w w' := by
  have GE0 := Lib.hid (bl_alloc (bl_refl w) (.cells #[.string e.name, .int .u8 e.kind, .int .i64 e.mode, .int .i64 e.uid, .int .i64 e.gid, .int .i64 e.size, .int .i64 e.sec, .int .i64 e.nano, .string e.link, .string e.user, .string e.group, .int .i64 e.major, .int .i64 e.minor, .string e.data, .slice e.ma e.mn e.mc] 26))
  have HG := Lib.hid (hG.bl GE0.out)
  have HE := Lib.hid (fun h => (he h).bl GE0.out)
  have HRe := Lib.hid hr
  clear hG he hr
  go_enter Tryz.func4, Tryz.ntmps4
  go_wp2_with (first
    | (go_at_call 7; (with_reducible refine (plainOf3 e _ HRe.out HE.out HG.out).mono ?_); rintro x w1 ⟨rfl, hb1⟩; have G1 := Lib.hid (bl_then hb1 GE0.out GE0.out.size); clear hb1))
  go_ret
  exact ⟨rfl, G1.out⟩
end Go.Proofs.YtehkfbgbpmfpmaaGreatDoor
