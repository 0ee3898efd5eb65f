/- member.Write and revetmentref.EntryWrite at the dialect Gnu. -/
import Derived.Test.YtehkfbgbpmfpmaaGreatDoorG3
namespace Go.Proofs.YtehkfbgbpmfpmaaGreatDoor
set_option linter.unusedVariables false
set_option linter.unusedSimpArgs false
open Go.RowKit

/-- a member as it may come in -/
structure Ent (w : World) (e : EntR) : Prop where
  b : EntB e
  i : EntI e
  row : PRow w e.ma e.mn e.map
  cap : e.mn ≤ e.mc
  cap2 : e.mc ≤ 140737488355328
  mn : e.mn ≤ 30
theorem Ent.bl {w w' : World} {e : EntR} (h : Ent w e) (hb : Below w.heap.size w w') : Ent w' e := { h with row := h.row.bl hb }

theorem inB_iff (n a b : Int) : inB n a b = true ↔ a ≤ n ∧ n ≤ b := by unfold inB; simp
theorem textOk_size {s : ByteArray} {n : Int} (h : textOk s n = true) : (s.size : Int) ≤ n := by unfold textOk at h; simp at h; exact h.1
theorem timeOk_iff (s n : Int) : timeOk s n = true ↔ -1099511627776 ≤ s ∧ s ≤ 1099511627776 ∧ 0 ≤ n ∧ n ≤ 999999999 := by unfold timeOk; simp
structure Valid (e : EntR) : Prop where
  kind0 : 48 ≤ e.kind
  kind1 : e.kind ≤ 54
  name : e.name.size ≤ 120
  link : e.link.size ≤ 120
  user : e.user.size ≤ 32
  group : e.group.size ≤ 32
  mode0 : 0 ≤ e.mode
  mode1 : e.mode ≤ 4095
  uid0 : 0 ≤ e.uid
  uid1 : e.uid ≤ 1099511627775
  gid0 : 0 ≤ e.gid
  gid1 : e.gid ≤ 1099511627775
  sec0 : -1099511627776 ≤ e.sec
  sec1 : e.sec ≤ 1099511627776
  nano0 : 0 ≤ e.nano
  nano1 : e.nano ≤ 999999999
  filled : filledS e = true
theorem rightS_valid {e : EntR} (h : rightS e = true) : Valid e := by
  unfold rightS at h
  simp only [Bool.and_eq_true] at h
  obtain ⟨h0, h1, h2, h3, h4, h5, h6, h7, h8, h9, h10, h11, h12, h13, h14, h15⟩ := h
  have t := (timeOk_iff _ _).1 h10
  have k := (inB_iff _ _ _).1 h0
  have m := (inB_iff _ _ _).1 h7
  have u := (inB_iff _ _ _).1 h8
  have g := (inB_iff _ _ _).1 h9
  have a := textOk_size h3
  have b := textOk_size h4
  have c := textOk_size h5
  have d := textOk_size h6
  exact { kind0 := k.1, kind1 := k.2, name := by omega, link := by omega, user := by omega, group := by omega, mode0 := m.1, mode1 := m.2, uid0 := u.1, uid1 := u.2, gid0 := g.1, gid1 := g.2, sec0 := t.1, sec1 := t.2.1, nano0 := t.2.2.1, nano1 := t.2.2.2, filled := h15 }
theorem valid_sparse {w : World} {e : EntR} (hv : Valid e) (he : Ent w e) (hs : sparseS e = true) : POk e.map ∧ 0 ≤ e.size ∧ e.size ≤ 4000 := by
  have hf := hv.filled
  unfold filledS at hf
  by_cases hk : e.kind ≠ 48
  · rw [if_pos hk] at hf
    simp only [Bool.and_eq_true, decide_eq_true_eq] at hf
    obtain ⟨h1, h2, h3⟩ := hf
    unfold sparseS at hs
    rw [h1, h2, h3] at hs
    simp at hs
  · rw [if_neg hk] at hf
    by_cases hz : ¬ (0 ≤ e.size ∧ e.size ≤ 4000)
    · rw [if_pos hz] at hf; cases hf
    · rw [if_neg hz, hs] at hf
      simp only [Bool.not_true, Bool.false_or, Bool.and_eq_true] at hf
      have hz := Classical.not_not.1 hz
      refine ⟨fun i hi => ?_, hz⟩
      have hm := hf.1
      unfold mapOk at hm
      simp only [Bool.and_eq_true] at hm
      have := List.all_eq_true.1 hm.2.2 i (List.mem_range.2 hi)
      unfold okAt at this
      simp only [Bool.and_eq_true, decide_eq_true_eq] at this
      omega

def gnuS (e : EntR) : List UInt8 × Int := if e.nano ≠ 0 then ([], 2) else if sparseS e = true then gnuSparseS e else gnuPlainS e

set_option maxRecDepth 100000 in
theorem gnuNano (e : EntR) (w : World) (hz : e.nano ≠ 0) :
    Calls Tryz.prog 34 #[.agg #[.string e.name, .int .u8 e.kind, .int .i64 e.mode, .int .i64 e.uid, .int .i64 e.gid, .int .i64 e.size, .int .i64 e.sec, .int .i64 e.nano, .string e.link, .string e.user, .string e.group, .int .i64 e.major, .int .i64 e.minor, .string e.data, .slice e.ma e.mn e.mc]] w fun v w' => v = .returned (.tuple #[.string (bs []), errV 2]) ∧ Below w.heap.size w w' := by
  have hz2 : (e.nano != 0) = true := by simp [hz]
  go_enter Tryz.func34, Tryz.ntmps34
  go_wp2
  go_ret2
  exact ⟨rfl, bl_alloc (bl_refl w) _⟩
set_option maxRecDepth 100000 in
theorem refGnuNano (e : EntR) (w : World) (hz : 0 < e.nano) :
    Calls Tryz.prog 29 #[.agg #[.string (kindR e e.kind).name, .string (kindR e e.kind).link, .string (kindR e e.kind).user, .string (kindR e e.kind).group, .string (kindR e e.kind).front, .int .u8 (kindR e e.kind).kind, .int .i64 (kindR e e.kind).mode, .int .i64 (kindR e e.kind).uid, .int .i64 (kindR e e.kind).gid, .int .i64 (kindR e e.kind).size, .int .i64 (kindR e e.kind).time, .int .i64 (kindR e e.kind).major, .int .i64 (kindR e e.kind).minor], .agg #[.string e.name, .int .u8 e.kind, .int .i64 e.mode, .int .i64 e.uid, .int .i64 e.gid, .int .i64 e.size, .int .i64 e.sec, .int .i64 e.nano, .string e.link, .string e.user, .string e.group, .int .i64 e.major, .int .i64 e.minor, .string e.data, .slice e.ma e.mn e.mc], .string (nameS e)] w fun v w' => v = .returned (.tuple #[.string (bs []), .int .i64 2]) ∧ Below w.heap.size w w' := by
  have hz2 : decide (0 < e.nano) = true := by simp [hz]
  go_enter Tryz.func29, Tryz.ntmps29
  go_wp2
  go_ret2
  exact ⟨rfl, bl_alloc (bl_alloc (bl_refl w) _) _⟩

theorem writeGnu (e : EntR) (w : World) (he : Ent w e) (hv : Valid e) :
    Calls Tryz.prog 34 #[.agg #[.string e.name, .int .u8 e.kind, .int .i64 e.mode, .int .i64 e.uid, .int .i64 e.gid, .int .i64 e.size, .int .i64 e.sec, .int .i64 e.nano, .string e.link, .string e.user, .string e.group, .int .i64 e.major, .int .i64 e.minor, .string e.data, .slice e.ma e.mn e.mc]] w fun v w' => v = .returned (.tuple #[.string (bs (gnuS e).1), errV (gnuS e).2]) ∧ Below w.heap.size w w' := by
  have h1 := hv.name
  have h2 := hv.link
  unfold gnuS
  by_cases hz : e.nano ≠ 0
  · rw [if_pos hz]; exact gnuNano e w hz
  · rw [if_neg hz]
    have hz := Classical.not_not.1 hz
    by_cases hs : sparseS e = true
    · rw [if_pos hs]
      obtain ⟨p, a, b⟩ := valid_sparse hv he hs
      exact gnuSparse e w he.b he.i he.row he.cap he.cap2 he.mn p a (by omega) (by omega) (by omega) hz hs
    · rw [if_neg hs]
      exact gnuPlain e w he.b he.i (by omega) (by omega) hz (by simpa using hs)
theorem refGnu (e : EntR) (w : World) (he : Ent w e) (hv : Valid e) :
    Calls Tryz.prog 29 #[.agg #[.string (kindR e e.kind).name, .string (kindR e e.kind).link, .string (kindR e e.kind).user, .string (kindR e e.kind).group, .string (kindR e e.kind).front, .int .u8 (kindR e e.kind).kind, .int .i64 (kindR e e.kind).mode, .int .i64 (kindR e e.kind).uid, .int .i64 (kindR e e.kind).gid, .int .i64 (kindR e e.kind).size, .int .i64 (kindR e e.kind).time, .int .i64 (kindR e e.kind).major, .int .i64 (kindR e e.kind).minor], .agg #[.string e.name, .int .u8 e.kind, .int .i64 e.mode, .int .i64 e.uid, .int .i64 e.gid, .int .i64 e.size, .int .i64 e.sec, .int .i64 e.nano, .string e.link, .string e.user, .string e.group, .int .i64 e.major, .int .i64 e.minor, .string e.data, .slice e.ma e.mn e.mc], .string (nameS e)] w fun v w' => v = .returned (.tuple #[.string (bs (gnuS e).1), .int .i64 (gnuS e).2]) ∧ Below w.heap.size w w' := by
  have h1 := hv.name
  have h2 := hv.link
  have h3 := hv.nano0
  unfold gnuS
  by_cases hz : e.nano ≠ 0
  · rw [if_pos hz]; exact refGnuNano e w (by omega)
  · rw [if_neg hz]
    have hz := Classical.not_not.1 hz
    by_cases hs : sparseS e = true
    · rw [if_pos hs]
      obtain ⟨p, a, b⟩ := valid_sparse hv he hs
      exact refGnuSparse e w he.b he.i he.row he.mn p a (by omega) (by omega) (by omega) hz hs
    · rw [if_neg hs]
      exact refGnuPlain e w he.b he.i (by omega) (by omega) hz (by simpa using hs)

def writeS3 (e : EntR) : List UInt8 × Int := if rightS e = true then gnuS e else ([], 1)
attribute [local irreducible] gnuS rightS nameS
set_option maxRecDepth 100000 in
set_option maxHeartbeats 4000000 in
theorem memWrite3 (e : EntR) (w : World) (he : Ent w e) :
    Calls Tryz.prog 15 #[.int .i64 3, .agg #[.string e.name, .int .u8 e.kind, .int .i64 e.mode, .int .i64 e.uid, .int .i64 e.gid, .int .i64 e.size, .int .i64 e.sec, .int .i64 e.nano, .string e.link, .string e.user, .string e.group, .int .i64 e.major, .int .i64 e.minor, .string e.data, .slice e.ma e.mn e.mc]] w fun v w' => v = .returned (.tuple #[.string (bs (writeS3 e).1), errV (writeS3 e).2]) ∧ Below w.heap.size w w' := by
  have HE := Lib.hid (he.bl (bl_alloc (bl_refl w) (.cells #[.string e.name, .int .u8 e.kind, .int .i64 e.mode, .int .i64 e.uid, .int .i64 e.gid, .int .i64 e.size, .int .i64 e.sec, .int .i64 e.nano, .string e.link, .string e.user, .string e.group, .int .i64 e.major, .int .i64 e.minor, .string e.data, .slice e.ma e.mn e.mc] 26)))
  have KE0 := Lib.hid (Blk.new w #[.string e.name, .int .u8 e.kind, .int .i64 e.mode, .int .i64 e.uid, .int .i64 e.gid, .int .i64 e.size, .int .i64 e.sec, .int .i64 e.nano, .string e.link, .string e.user, .string e.group, .int .i64 e.major, .int .i64 e.minor, .string e.data, .slice e.ma e.mn e.mc] 26)
  have GE0 := Lib.hid (bl_alloc (bl_refl w) (.cells #[.string e.name, .int .u8 e.kind, .int .i64 e.mode, .int .i64 e.uid, .int .i64 e.gid, .int .i64 e.size, .int .i64 e.sec, .int .i64 e.nano, .string e.link, .string e.user, .string e.group, .int .i64 e.major, .int .i64 e.minor, .string e.data, .slice e.ma e.mn e.mc] 26))
  have HRt := Lib.hid (fun (W : World) (h : Ent W e) => memRight e W h.b h.row)
  clear he
  cases hr : rightS e
  · have HS := Lib.hid (show writeS3 e = ([], 1) by unfold writeS3; rw [if_neg (by rw [hr]; simp)])
    rw [hr] at HRt
    go_enter Tryz.func15, Tryz.ntmps15
    go_wp2_with (first
      | (go_at_call 33; (with_reducible refine (HRt.out _ HE.out).mono ?_); rintro x w1 ⟨rfl, hb1⟩; have G1 := Lib.hid (bl_then hb1 GE0.out GE0.out.size); clear hb1))
    go_ret2
    refine ⟨?_, G1.out⟩
    rw [HS.out]
    rfl
  · have HS := Lib.hid (show writeS3 e = gnuS e by unfold writeS3; rw [if_pos hr])
    have HG := Lib.hid (fun (W : World) (h : Ent W e) => writeGnu e W h (rightS_valid hr))
    rw [hr] at HRt
    go_enter Tryz.func15, Tryz.ntmps15
    go_wp2_with (first
      | (go_at_call 33; (with_reducible refine (HRt.out _ HE.out).mono ?_); rintro x w1 ⟨rfl, hb1⟩; have KE1 := Lib.hid (KE0.out.bl hb1); have HE1 := Lib.hid (HE.out.bl hb1); have G1 := Lib.hid (bl_then hb1 GE0.out GE0.out.size); clear hb1; obtain ⟨a0, a1, a2, a3, a4, a5, a6, a7, a8, a9, a10, a11, a12, a13, a14⟩ := ent_cells KE1.out)
      | (go_at_call 34; (with_reducible refine (HG.out _ HE1.out).mono ?_); rintro x w2 ⟨rfl, hb2⟩; have G2 := Lib.hid (bl_then hb2 G1.out G1.out.size); clear hb2))
    go_ret2
    refine ⟨?_, G2.out⟩
    rw [HS.out]
    rfl
end Go.Proofs.YtehkfbgbpmfpmaaGreatDoor
