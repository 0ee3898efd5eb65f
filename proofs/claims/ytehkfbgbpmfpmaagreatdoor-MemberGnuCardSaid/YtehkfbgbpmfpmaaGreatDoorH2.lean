/- revetmentref.EntryWrite at the dialect Gnu. -/
import Derived.Test.YtehkfbgbpmfpmaaGreatDoorH1
namespace Go.Proofs.YtehkfbgbpmfpmaaGreatDoor
set_option linter.unusedVariables false
set_option linter.unusedSimpArgs false
open Go.RowKit

theorem refGnuX (e : EntR) (N : ByteArray) (hN : nameS e = N) (w : World) (he : Ent w e) (hv : Valid e) :
    Calls Tryz.prog 29 #[.agg #[.string ⟨#[]⟩, .string ⟨#[]⟩, .string e.user, .string e.group, .string ⟨#[]⟩, .int .u8 e.kind, .int .i64 e.mode, .int .i64 e.uid, .int .i64 e.gid, .int .i64 (e.data.size : Int), .int .i64 e.sec, .int .i64 e.major, .int .i64 e.minor], .agg #[.string e.name, .int .u8 e.kind, .int .i64 e.mode, .int .i64 e.uid, .int .i64 e.gid, .int .i64 e.size, .int .i64 e.sec, .int .i64 e.nano, .string e.link, .string e.user, .string e.group, .int .i64 e.major, .int .i64 e.minor, .string e.data, .slice e.ma e.mn e.mc], .string N] w
      fun v w' => v = .returned (.tuple #[.string (bs (gnuS e).1), .int .i64 (gnuS e).2]) ∧ Below w.heap.size w w' := by
  subst hN
  exact refGnu e w he hv
theorem refWithin314 (w : World) :
    Calls Tryz.prog 27 #[.int .i64 3, .int .i64 1, .int .i64 4] w fun e w' => e = .returned (.bool true) ∧ w = w' := refWithinV 3 1 4 true rfl w

attribute [local irreducible] gnuS rightS nameS
set_option maxRecDepth 100000 in
set_option maxHeartbeats 4000000 in
theorem refWrite3 (e : EntR) (w : World) (he : Ent w e) :
    Calls Tryz.prog 14 #[.int .i64 3, .agg #[.string e.name, .int .u8 e.kind, .int .i64 e.mode, .int .i64 e.uid, .int .i64 e.gid, .int .i64 e.size, .int .i64 e.sec, .int .i64 e.nano, .string e.link, .string e.user, .string e.group, .int .i64 e.major, .int .i64 e.minor, .string e.data, .slice e.ma e.mn e.mc]] w fun v w' => v = .returned (.tuple #[.string (bs (writeS3 e).1), .int .i64 (writeS3 e).2]) ∧ Below w.heap.size w w' := by
  have HE := Lib.hid (he.bl (bl_alloc (bl_refl w) (.cells #[.string e.name, .int .u8 e.kind, .int .i64 e.mode, .int .i64 e.uid, .int .i64 e.gid, .int .i64 e.size, .int .i64 e.sec, .int .i64 e.nano, .string e.link, .string e.user, .string e.group, .int .i64 e.major, .int .i64 e.minor, .string e.data, .slice e.ma e.mn e.mc] 26)))
  have KE0 := Lib.hid (Blk.new w #[.string e.name, .int .u8 e.kind, .int .i64 e.mode, .int .i64 e.uid, .int .i64 e.gid, .int .i64 e.size, .int .i64 e.sec, .int .i64 e.nano, .string e.link, .string e.user, .string e.group, .int .i64 e.major, .int .i64 e.minor, .string e.data, .slice e.ma e.mn e.mc] 26)
  have GE0 := Lib.hid (bl_alloc (bl_refl w) (.cells #[.string e.name, .int .u8 e.kind, .int .i64 e.mode, .int .i64 e.uid, .int .i64 e.gid, .int .i64 e.size, .int .i64 e.sec, .int .i64 e.nano, .string e.link, .string e.user, .string e.group, .int .i64 e.major, .int .i64 e.minor, .string e.data, .slice e.ma e.mn e.mc] 26))
  have HRt := Lib.hid (fun (W : World) (h : Ent W e) => refRight e W h.b h.row)
  have hnz := he.b.name
  clear he
  cases hr : rightS e
  · have HS := Lib.hid (show writeS3 e = ([], 1) by unfold writeS3; rw [if_neg (by rw [hr]; simp)])
    rw [hr] at HRt
    go_enter Tryz.func14, Tryz.ntmps14
    go_wp2_with (first
      | (go_at_call 27; (with_reducible refine (refWithin314 _).mono ?_); rintro x w1 ⟨rfl, rfl⟩)
      | (go_at_call 28; (with_reducible refine (HRt.out _ HE.out).mono ?_); rintro x w1 ⟨rfl, hb1⟩; have G1 := Lib.hid (bl_then hb1 GE0.out GE0.out.size); clear hb1))
    go_ret2
    refine ⟨?_, G1.out⟩
    rw [HS.out]
    rfl
  · have HS := Lib.hid (show writeS3 e = gnuS e by unfold writeS3; rw [if_pos hr])
    have hkN : ((e.kind == 53) = true ∧ nameS e = e.name ++ ⟨#[47]⟩) ∨ ((e.kind == 53) = false ∧ nameS e = e.name) := by
      unfold nameS
      by_cases h : e.kind = 53
      · exact .inl ⟨by simpa using h, by rw [if_pos h]; rfl⟩
      · exact .inr ⟨by simpa using h, by rw [if_neg h]⟩
    have HV := Lib.hid (rightS_valid hr)
    rw [hr] at HRt
    rcases hkN with ⟨hk, hN⟩ | ⟨hk, hN⟩
    all_goals
      have HG := Lib.hid (fun (W : World) (h : Ent W e) => refGnuX e _ hN W h HV.out)
      clear hN
      go_enter Tryz.func14, Tryz.ntmps14
      go_wp2_with (first
        | (go_at_call 27; (with_reducible refine (refWithin314 _).mono ?_); rintro x w1 ⟨rfl, rfl⟩)
        | (go_at_call 28; (with_reducible refine (HRt.out _ HE.out).mono ?_); rintro x w1 ⟨rfl, hb1⟩; have KE1 := Lib.hid (KE0.out.bl hb1); have HE1 := Lib.hid (HE.out.bl hb1); have G1 := Lib.hid (bl_then hb1 GE0.out GE0.out.size); clear hb1; have hlt := KE1.out.lt; obtain ⟨a0, a1, a2, a3, a4, a5, a6, a7, a8, a9, a10, a11, a12, a13, a14⟩ := ent_cells KE1.out)
        | (go_at_call 29; (with_reducible refine (HG.out _ (HE1.out.bl (bl_alloc (bl_refl _) _))).mono ?_); rintro x w2 ⟨rfl, hb2⟩; have G2 := Lib.hid (bl_then hb2 (bl_alloc G1.out _) (by simp; have := G1.out.size; omega)); clear hb2))
      go_ret2
      refine ⟨?_, G2.out⟩
      rw [HS.out]
      rfl
end Go.Proofs.YtehkfbgbpmfpmaaGreatDoor
