/- revetmentref.gnu, a member with holes. -/
import Derived.Test.YtehkfbgbpmfpmaaGreatDoorG2
import Derived.Test.YtehkfbgbpmfpmaaGreatDoorF5
namespace Go.Proofs.YtehkfbgbpmfpmaaGreatDoor
set_option linter.unusedVariables false
set_option linter.unusedSimpArgs false
open Go.RowKit

theorem gnu83 (e : EntR) : (wholeS 3 (kindR e 83) (cut100 (nameS e)) (cut100 e.link) e.data).2 = (gnuH e).2 ∧
    ((gnuH e).2 = 0 → (wholeS 3 (kindR e 83) (cut100 (nameS e)) (cut100 e.link) e.data).1 = (gnuH e).1 ++ fillL e.data.data.toList) := by
  have e0 : fillL ([] : List UInt8) = [] := rfl
  unfold gnuH wholeS
  split
  · exact ⟨rfl, fun h => by cases h⟩
  · split
    · rename_i h1
      exact ⟨rfl, fun h => absurd h h1⟩
    · refine ⟨rfl, fun _ => ?_⟩
      show _ = (_ ++ fillL []) ++ _
      rw [e0, List.append_nil]
theorem head_tail (H F : List UInt8) (h : H.length = 512) : (H ++ F).take 386 = H.take 386 ∧ List.take 17 (List.drop 495 (H ++ F)) = H.drop 495 := by
  constructor
  · exact List.take_append_of_le_length (by omega)
  · rw [List.drop_append_of_le_length (by omega), List.take_append_of_le_length (by rw [List.length_drop]; omega)]
    exact List.take_of_length_le (by rw [List.length_drop]; omega)
theorem refSealL (H : List UInt8) (w : World) (hH : H.length = 512) :
    Calls Tryz.prog 64 #[.string (bs H)] w fun e w' => e = .returned (.tuple #[.string (bs (sealL H)), .int .i64 0]) ∧ Below w.heap.size w w' := by
  have := refSeal (bs H) w (by rw [bs_size]; exact hH)
  rw [bs_toList] at this
  exact this
theorem refCharM (x : Int) (m : List UInt8) (h : [byt x] = m) (w : World) :
    Calls Tryz.prog 66 #[.int .i64 x] w fun e w' => e = .returned (.string (bs m)) ∧ Below w.heap.size w w' := by rw [← h]; exact refChar x w
theorem moreL_in (l : List (Int × Int)) (k : Nat) (h : k < l.length) : [byt 1] = moreL l k := by unfold moreL; rw [if_pos h]; rfl
theorem moreL_out (l : List (Int × Int)) (k : Nat) (h : ¬ k < l.length) : [byt 0] = moreL l k := by unfold moreL; rw [if_neg h]; rfl

attribute [local irreducible] lw cut100 nameS wholeS longW aheadL sealL accL fillL rowS digL moreL blkL
set_option maxRecDepth 100000 in
set_option maxHeartbeats 8000000 in
theorem refGnuSparse (e : EntR) (w : World) (hb : EntB e) (hi : EntI e) (hr : PRow w e.ma e.mn e.map) (hmn : e.mn ≤ 30) (hpk : POk e.map) (hs0 : 0 ≤ e.size) (hs1 : e.size ≤ 8589934591) (hn : e.name.size ≤ 1000) (hl : e.link.size ≤ 1000) (hz : e.nano = 0) (hsp : sparseS e = true) :
    Calls Tryz.prog 29 #[.agg #[.string (kindR e e.kind).name, .string (kindR e e.kind).link, .string (kindR e e.kind).user, .string (kindR e e.kind).group, .string (kindR e e.kind).front, .int .u8 (kindR e e.kind).kind, .int .i64 (kindR e e.kind).mode, .int .i64 (kindR e e.kind).uid, .int .i64 (kindR e e.kind).gid, .int .i64 (kindR e e.kind).size, .int .i64 (kindR e e.kind).time, .int .i64 (kindR e e.kind).major, .int .i64 (kindR e e.kind).minor], .agg #[.string e.name, .int .u8 e.kind, .int .i64 e.mode, .int .i64 e.uid, .int .i64 e.gid, .int .i64 e.size, .int .i64 e.sec, .int .i64 e.nano, .string e.link, .string e.user, .string e.group, .int .i64 e.major, .int .i64 e.minor, .string e.data, .slice e.ma e.mn e.mc], .string (nameS e)] w fun v w' => v = .returned (.tuple #[.string (bs (gnuSparseS e).1), .int .i64 (gnuSparseS e).2]) ∧ Below w.heap.size w w' := by
  have HB := Lib.hid hb
  have HI := Lib.hid hi
  have HPK := Lib.hid hpk
  have HR := Lib.hid hr
  have hz2 : decide (0 < e.nano) = false := by simp [hz]
  have HSP := Lib.hid (fun W : World => hsp ▸ refSparse e W)
  clear hz hsp hb hi hpk hr
  have hns := nameS_size e
  have hO := aheadL_len e hn hl
  have KR0 := Lib.hid (((Blk.new w #[.string (kindR e e.kind).name, .string (kindR e e.kind).link, .string (kindR e e.kind).user, .string (kindR e e.kind).group, .string (kindR e e.kind).front, .int .u8 (kindR e e.kind).kind, .int .i64 (kindR e e.kind).mode, .int .i64 (kindR e e.kind).uid, .int .i64 (kindR e e.kind).gid, .int .i64 (kindR e e.kind).size, .int .i64 (kindR e e.kind).time, .int .i64 (kindR e e.kind).major, .int .i64 (kindR e e.kind).minor] 55).alloc (.cells #[.string e.name, .int .u8 e.kind, .int .i64 e.mode, .int .i64 e.uid, .int .i64 e.gid, .int .i64 e.size, .int .i64 e.sec, .int .i64 e.nano, .string e.link, .string e.user, .string e.group, .int .i64 e.major, .int .i64 e.minor, .string e.data, .slice e.ma e.mn e.mc] 26)).alloc (.cells #[.int .u8 75, .string e.link, .int .u8 76, .string (nameS e)] 109))
  have ke : Blk (((w.alloc (.cells #[.string (kindR e e.kind).name, .string (kindR e e.kind).link, .string (kindR e e.kind).user, .string (kindR e e.kind).group, .string (kindR e e.kind).front, .int .u8 (kindR e e.kind).kind, .int .i64 (kindR e e.kind).mode, .int .i64 (kindR e e.kind).uid, .int .i64 (kindR e e.kind).gid, .int .i64 (kindR e e.kind).size, .int .i64 (kindR e e.kind).time, .int .i64 (kindR e e.kind).major, .int .i64 (kindR e e.kind).minor] 55)).alloc (.cells #[.string e.name, .int .u8 e.kind, .int .i64 e.mode, .int .i64 e.uid, .int .i64 e.gid, .int .i64 e.size, .int .i64 e.sec, .int .i64 e.nano, .string e.link, .string e.user, .string e.group, .int .i64 e.major, .int .i64 e.minor, .string e.data, .slice e.ma e.mn e.mc] 26)).alloc (.cells #[.int .u8 75, .string e.link, .int .u8 76, .string (nameS e)] 109)) (w.heap.size + 1) #[.string e.name, .int .u8 e.kind, .int .i64 e.mode, .int .i64 e.uid, .int .i64 e.gid, .int .i64 e.size, .int .i64 e.sec, .int .i64 e.nano, .string e.link, .string e.user, .string e.group, .int .i64 e.major, .int .i64 e.minor, .string e.data, .slice e.ma e.mn e.mc] 26 := by
    have := (Blk.new (w.alloc (.cells #[.string (kindR e e.kind).name, .string (kindR e e.kind).link, .string (kindR e e.kind).user, .string (kindR e e.kind).group, .string (kindR e e.kind).front, .int .u8 (kindR e e.kind).kind, .int .i64 (kindR e e.kind).mode, .int .i64 (kindR e e.kind).uid, .int .i64 (kindR e e.kind).gid, .int .i64 (kindR e e.kind).size, .int .i64 (kindR e e.kind).time, .int .i64 (kindR e e.kind).major, .int .i64 (kindR e e.kind).minor] 55)) #[.string e.name, .int .u8 e.kind, .int .i64 e.mode, .int .i64 e.uid, .int .i64 e.gid, .int .i64 e.size, .int .i64 e.sec, .int .i64 e.nano, .string e.link, .string e.user, .string e.group, .int .i64 e.major, .int .i64 e.minor, .string e.data, .slice e.ma e.mn e.mc] 26).alloc (.cells #[.int .u8 75, .string e.link, .int .u8 76, .string (nameS e)] 109)
    rw [World.size_alloc] at this
    exact this
  have KE0 := Lib.hid ke
  clear ke
  have ka : Blk (((w.alloc (.cells #[.string (kindR e e.kind).name, .string (kindR e e.kind).link, .string (kindR e e.kind).user, .string (kindR e e.kind).group, .string (kindR e e.kind).front, .int .u8 (kindR e e.kind).kind, .int .i64 (kindR e e.kind).mode, .int .i64 (kindR e e.kind).uid, .int .i64 (kindR e e.kind).gid, .int .i64 (kindR e e.kind).size, .int .i64 (kindR e e.kind).time, .int .i64 (kindR e e.kind).major, .int .i64 (kindR e e.kind).minor] 55)).alloc (.cells #[.string e.name, .int .u8 e.kind, .int .i64 e.mode, .int .i64 e.uid, .int .i64 e.gid, .int .i64 e.size, .int .i64 e.sec, .int .i64 e.nano, .string e.link, .string e.user, .string e.group, .int .i64 e.major, .int .i64 e.minor, .string e.data, .slice e.ma e.mn e.mc] 26)).alloc (.cells #[.int .u8 75, .string e.link, .int .u8 76, .string (nameS e)] 109)) (w.heap.size + 1 + 1) #[.int .u8 75, .string e.link, .int .u8 76, .string (nameS e)] 109 := by
    have := Blk.new ((w.alloc (.cells #[.string (kindR e e.kind).name, .string (kindR e e.kind).link, .string (kindR e e.kind).user, .string (kindR e e.kind).group, .string (kindR e e.kind).front, .int .u8 (kindR e e.kind).kind, .int .i64 (kindR e e.kind).mode, .int .i64 (kindR e e.kind).uid, .int .i64 (kindR e e.kind).gid, .int .i64 (kindR e e.kind).size, .int .i64 (kindR e e.kind).time, .int .i64 (kindR e e.kind).major, .int .i64 (kindR e e.kind).minor] 55)).alloc (.cells #[.string e.name, .int .u8 e.kind, .int .i64 e.mode, .int .i64 e.uid, .int .i64 e.gid, .int .i64 e.size, .int .i64 e.sec, .int .i64 e.nano, .string e.link, .string e.user, .string e.group, .int .i64 e.major, .int .i64 e.minor, .string e.data, .slice e.ma e.mn e.mc] 26)) #[.int .u8 75, .string e.link, .int .u8 76, .string (nameS e)] 109
    rw [World.size_alloc, World.size_alloc] at this
    exact this
  have KA0 := Lib.hid ka
  clear ka
  have GE0 := Lib.hid (bl_alloc (bl_alloc (bl_alloc (bl_refl w) (.cells #[.string (kindR e e.kind).name, .string (kindR e e.kind).link, .string (kindR e e.kind).user, .string (kindR e e.kind).group, .string (kindR e e.kind).front, .int .u8 (kindR e e.kind).kind, .int .i64 (kindR e e.kind).mode, .int .i64 (kindR e e.kind).uid, .int .i64 (kindR e e.kind).gid, .int .i64 (kindR e e.kind).size, .int .i64 (kindR e e.kind).time, .int .i64 (kindR e e.kind).major, .int .i64 (kindR e e.kind).minor] 55)) (.cells #[.string e.name, .int .u8 e.kind, .int .i64 e.mode, .int .i64 e.uid, .int .i64 e.gid, .int .i64 e.size, .int .i64 e.sec, .int .i64 e.nano, .string e.link, .string e.user, .string e.group, .int .i64 e.major, .int .i64 e.minor, .string e.data, .slice e.ma e.mn e.mc] 26)) (.cells #[.int .u8 75, .string e.link, .int .u8 76, .string (nameS e)] 109))
  go_enter Tryz.func29, Tryz.ntmps29
  go_wp2
  generalize ((w.alloc (.cells #[.string (kindR e e.kind).name, .string (kindR e e.kind).link, .string (kindR e e.kind).user, .string (kindR e e.kind).group, .string (kindR e e.kind).front, .int .u8 (kindR e e.kind).kind, .int .i64 (kindR e e.kind).mode, .int .i64 (kindR e e.kind).uid, .int .i64 (kindR e e.kind).gid, .int .i64 (kindR e e.kind).size, .int .i64 (kindR e e.kind).time, .int .i64 (kindR e e.kind).major, .int .i64 (kindR e e.kind).minor] 55)).alloc (.cells #[.string e.name, .int .u8 e.kind, .int .i64 e.mode, .int .i64 e.uid, .int .i64 e.gid, .int .i64 e.size, .int .i64 e.sec, .int .i64 e.nano, .string e.link, .string e.user, .string e.group, .int .i64 e.major, .int .i64 e.minor, .string e.data, .slice e.ma e.mn e.mc] 26)).alloc (.cells #[.int .u8 75, .string e.link, .int .u8 76, .string (nameS e)] 109) = W0 at *
  go_loopw [8, 32] (fun s i wr => ∃ j : Nat, j ≤ 2 ∧ i = .int .i64 j ∧ s = .string (bs (aheadJ e j)) ∧ Below W0.heap.size W0 wr) (fun _ i _ => 2 - (intOf i).toNat)
  case atStart => exact ⟨0, by omega, rfl, rfl, bl_refl W0⟩
  case round =>
    obtain ⟨j, hj, rfl, rfl, hb⟩ := hrel
    have hj3 : j = 0 ∨ j = 1 ∨ j = 2 := by omega
    rcases hj3 with rfl | rfl | rfl
    · have c0 := (KA0.out.bl hb).cell 0
      have c1 := (KA0.out.bl hb).cell 1
      simp at c0 c1
      have hA := Lib.hid (show aheadJ e 1 = lw 75 e.link from rfl)
      have hB := Lib.hid (show aheadJ e 0 = [] from rfl)
      by_cases hlong : e.link.size ≤ 100
      · have hZ := Lib.hid (lw_in 75 e.link hlong)
        have hd : decide (100 < (e.link.size : Int)) = false := decide_eq_false (by omega)
        go_wp2
        go_roundw
        case rel => exact ⟨1, by omega, rfl, by rw [hA.out, hZ.out, hB.out], bl_alloc hb _⟩
        case measure => simp [intOf]
      · have hZ := Lib.hid (lw_out 75 e.link hlong)
        have hd : decide (100 < (e.link.size : Int)) = true := decide_eq_true (by omega)
        have hF : Fits (aheadJ e 0) (longW 75 e.link).1 := by have := longW_len 75 e.link (by omega); unfold Fits; rw [hB.out]; simp; omega
        go_wp2_with (first | (go_at_call 20; (with_reducible refine (refWholeLong 75 e.link _ (by omega) (by omega) (by omega)).mono ?_); rintro x w1 ⟨rfl, hb1⟩; have g1 := bl_then hb1 (bl_alloc hb _) (by simp; have := hb.size; omega); clear hb1))
        go_roundw
        case rel => exact ⟨1, by omega, rfl, by rw [hA.out, hZ.out, hB.out]; rfl, g1⟩
        case measure => simp [intOf]
    · have c0 := (KA0.out.bl hb).cell 2
      have c1 := (KA0.out.bl hb).cell 3
      simp at c0 c1
      have hA := Lib.hid (show aheadJ e 2 = lw 75 e.link ++ lw 76 (nameS e) by show aheadL e = _; unfold aheadL; rfl)
      have hB := Lib.hid (show aheadJ e 1 = lw 75 e.link from rfl)
      by_cases hlong : (nameS e).size ≤ 100
      · have hZ := Lib.hid (lw_in 76 (nameS e) hlong)
        have hd : decide (100 < ((nameS e).size : Int)) = false := decide_eq_false (by omega)
        go_wp2
        go_roundw
        case rel => exact ⟨2, by omega, rfl, by rw [hA.out, hZ.out, hB.out, List.append_nil], bl_alloc hb _⟩
        case measure => simp [intOf]
      · have hZ := Lib.hid (lw_out 76 (nameS e) hlong)
        have hd : decide (100 < ((nameS e).size : Int)) = true := decide_eq_true (by omega)
        have hF : Fits (aheadJ e 1) (longW 76 (nameS e)).1 := by have h1 := longW_len 76 (nameS e) (by omega); have h2 := lw_len 75 e.link (by omega); unfold Fits; rw [hB.out]; omega
        go_wp2_with (first | (go_at_call 20; (with_reducible refine (refWholeLong 76 (nameS e) _ (by omega) (by omega) (by omega)).mono ?_); rintro x w1 ⟨rfl, hb1⟩; have g1 := bl_then hb1 (bl_alloc hb _) (by simp; have := hb.size; omega); clear hb1))
        go_roundw
        case rel => exact ⟨2, by omega, rfl, by rw [hA.out, hZ.out, hB.out], g1⟩
        case measure => simp [intOf]
    · have hA := Lib.hid (show aheadJ e 2 = aheadL e from rfl)
      have KE1 := Lib.hid (KE0.out.bl hb)
      have KR1 := Lib.hid (KR0.out.bl hb)
      have G1 := Lib.hid (bl_then hb GE0.out GE0.out.size)
      have HW := Lib.hid (fun W : World => refWholeG e 83 HB.out HI.out (by omega) (by omega) W)
      obtain ⟨h83a, h83b⟩ := gnu83 e
      have H83a := Lib.hid h83a
      have H83b := Lib.hid h83b
      clear h83a h83b
      generalize wholeS 3 (kindR e 83) (cut100 (nameS e)) (cut100 e.link) e.data = T at *
      obtain ⟨a0, a1, a2, a3, a4, a5, a6, a7, a8, a9, a10, a11, a12, a13, a14⟩ := ent_cells KE1.out
      rcases Bool.eq_false_or_eq_true (T.2 != 0) with hq | hq
      all_goals
        go_wp2_with (first | (go_at_call 31; (with_reducible refine (HSP.out _).mono ?_); rintro x w2 ⟨rfl, hb2⟩; have KE2 := Lib.hid (KE1.out.bl hb2); have KR2 := Lib.hid (KR1.out.bl hb2); have G2 := Lib.hid (bl_then hb2 G1.out G1.out.size); clear a0 a1 a2 a3 a4 a5 a6 a7 a8 a9 a10 a11 a12 a13 a14 hb2; obtain ⟨c5, f5⟩ : w2.cell? ⟨w.heap.size, 5, none⟩ = some (.int .u8 (kindR e e.kind).kind) ∧ w2.frozen? ⟨w.heap.size, 5, none⟩ = false := ⟨(raw_cells (r := kindR e e.kind) KR2.out).2.2.2.2.2.1, KR2.out.free 5⟩))
        clear c5 f5
        have KR3 : Blk (w2.setCell ⟨w.heap.size, 5, none⟩ (.int .u8 83)) w.heap.size #[.string (kindR e 83).name, .string (kindR e 83).link, .string (kindR e 83).user, .string (kindR e 83).group, .string (kindR e 83).front, .int .u8 (kindR e 83).kind, .int .i64 (kindR e 83).mode, .int .i64 (kindR e 83).uid, .int .i64 (kindR e 83).gid, .int .i64 (kindR e 83).size, .int .i64 (kindR e 83).time, .int .i64 (kindR e 83).major, .int .i64 (kindR e 83).minor] 55 := KR2.out.set 5 (.int .u8 83)
        have KE3 := KE2.out.other (a := ⟨w.heap.size, 5, none⟩) (Nat.ne_of_lt (Nat.lt_succ_self _)) (.int .u8 83)
        have G3 := bl_set G2.out (a := ⟨w.heap.size, 5, none⟩) (Nat.le_refl _) (.int .u8 83)
        generalize w2.setCell ⟨w.heap.size, 5, none⟩ (.int .u8 83) = W3 at *
        have HKR3 := Lib.hid KR3
        have HKE3 := Lib.hid KE3
        have HG3 := Lib.hid G3
        clear KR3 KE3 G3
        have hltE := HKE3.out.lt
        have hltR := HKR3.out.lt
        obtain ⟨a0, a1, a2, a3, a4, a5, a6, a7, a8, a9, a10, a11, a12, a13, a14⟩ := ent_cells HKE3.out
        clear a0 a1 a2 a3 a4 a5 a6 a7 a9 a10 a11 a12 a14
        obtain ⟨r0, r1, r2, r3, r4, r5, r6, r7, r8, r9, r10, r11, r12⟩ := raw_cells (r := kindR e 83) HKR3.out
        refine wp_region_kept (by kernel_rfl) (by kernel_rfl) ?_
        repeat (go_big_quiet_step ((first
          | (go_at_call 62; first | with_reducible exact kept_same (refCut (nameS e) _ (by omega)) | with_reducible exact kept_same (refCut e.link _ (by omega)))
          | (go_at_call 20; with_reducible exact kept_of (HW.out _)))))
        refine wpQuiet_nil ?_
        intro w4 hw
        have hbk := Kept.bl hw
        clear hw
        have KE4 := Lib.hid (HKE3.out.bl hbk)
        have G4 := Lib.hid (bl_then hbk HG3.out HG3.out.size)
        clear a8 a13 r0 r1 r2 r3 r4 r5 r6 r7 r8 r9 r10 r11 r12 hbk hltE hltR
        obtain ⟨a0, a1, a2, a3, a4, a5, a6, a7, a8, a9, a10, a11, a12, a13, a14⟩ := ent_cells KE4.out
        clear a0 a1 a2 a3 a4 a6 a7 a8 a9 a10 a11 a12
      · have HS := Lib.hid (show gnuSparseS e = ([], T.2) by unfold gnuSparseS; rw [← H83a.out, if_neg (by simpa using hq)])
        go_wp2
        go_ret2
        refine ⟨?_, G4.out⟩
        rw [HS.out]
        rfl
      · have hT0 : T.2 = 0 := by simpa using hq
        have hH2 : (gnuH e).2 = 0 := by rw [← H83a.out]; exact hT0
        have HS := Lib.hid (show gnuSparseS e = (aheadJ e 2 ++ sealL (gnuHead e) ++ accL (e.map.drop 4) (blocksN (e.map.drop 4).length) ++ fillL e.data.data.toList, 0) by unfold gnuSparseS; rw [if_pos hH2, hA.out])
        have hHL := gnuH_len e hH2
        have hHd := gnuHead_len e hH2
        have hT1 := H83b.out hH2
        have hFL := fillL_len e.data.data.toList
        have hDL := HB.out.data
        rw [← Lib.size_eq] at hFL
        have hTL : T.1.length = 512 + (fillL e.data.data.toList).length := by rw [hT1, List.length_append, hHL]
        have HX : Hid (T.1.take 386 ++ (rowS e.map 4 ++ (moreL e.map 4 ++ (digL e.size ++ List.take 17 (List.drop 495 T.1)))) = gnuHead e) := Lib.hid (by
          obtain ⟨e1, e2⟩ := head_tail (gnuH e).1 (fillL e.data.data.toList) hHL
          rw [hT1, e1, e2]
          unfold gnuHead holesL
          simp only [List.append_assoc])
        clear hT1
        have HHd := Lib.hid hHd
        generalize T.1 = X at *
        have hr4 := rowS_length e.map 4
        have hm4 := moreL_length e.map 4
        have hd4 := digL_length e.size
        have f1 : Fits (X.take 386) (rowS e.map 4) := by unfold Fits; rw [List.length_take]; omega
        have f2 : Fits (X.take 386 ++ rowS e.map 4) (moreL e.map 4) := by unfold Fits; rw [List.length_append, List.length_take]; omega
        have f3 : Fits (X.take 386 ++ (rowS e.map 4 ++ moreL e.map 4)) (digL e.size) := by unfold Fits; rw [List.length_append, List.length_append, List.length_take]; omega
        have f4 : Fits (X.take 386 ++ (rowS e.map 4 ++ (moreL e.map 4 ++ digL e.size))) (List.take 17 (List.drop 495 X)) := by unfold Fits; rw [List.length_append, List.length_append, List.length_append, List.length_take, List.length_take]; omega
        have hXl : 512 ≤ X.length ∧ X.length ≤ 1000000 := by omega
        obtain ⟨hX1, hX2⟩ := hXl
        have HPc : Hid (∀ W : World, PRow W e.ma e.mn e.map → Calls Tryz.prog 65 #[.slice e.ma e.mn e.mc, .int .i64 0, .int .i64 4] W fun x w' => x = .returned (.string (bs (rowS e.map 4))) ∧ Below W.heap.size W w') :=
          Lib.hid (fun (W : World) (h : PRow W e.ma e.mn e.map) => refPieces e.ma e.mn e.mc e.map 0 4 W h (by omega) HPK.out (by omega) (by omega))
        have HSe := Lib.hid (fun W : World => refSealL (gnuHead e) W HHd.out)
        rw [← HX.out] at HSe
        have HPr := Lib.hid HR.out
        have hx1 : (bs X).extract 0 386 = bs (X.take 386) := by rw [extract_bs, List.drop_zero, bs_toList]
        have hx2 : (bs X).extract 495 512 = bs (List.take 17 (List.drop 495 X)) := by rw [extract_bs, bs_toList, List.drop_take]
        clear hTL hFL hDL hHL hHd hH2 hT0
        have h4 : (decide ((4 : Int) < (e.mn : Int)) = true ∧ 4 < e.mn) ∨ (decide ((4 : Int) < (e.mn : Int)) = false ∧ ¬ 4 < e.mn) := by
          by_cases h : 4 < e.mn
          · exact .inl ⟨decide_eq_true (by omega), h⟩
          · exact .inr ⟨decide_eq_false (by omega), h⟩
        go_wp2_with (first | (go_at_call 63; (with_reducible refine (refOctalD e.size _ hs0 hs1).mono ?_); rintro x w5 ⟨rfl, hb5⟩; have KE5 := Lib.hid (KE4.out.bl hb5); have G5 := Lib.hid (bl_then hb5 G4.out G4.out.size); have hltE := KE5.out.lt; clear a5 a13 a14 hb5; obtain ⟨a0, a1, a2, a3, a4, a5, a6, a7, a8, a9, a10, a11, a12, a13, a14⟩ := ent_cells KE5.out; clear a0 a1 a2 a3 a4 a5 a6 a7 a8 a9 a10 a11 a12))
        go_cut [18] (fun s18 wx => s18 = .string (bs (sealL (gnuHead e))) ∧ Below w5.heap.size w5 wx)
        case first =>
          rcases h4 with ⟨h4, h4'⟩ | ⟨h4, h4'⟩
          · have HM := Lib.hid (moreL_in e.map 4 (by have := HR.out.1; omega))
            refine wp_region_kept (by kernel_rfl) (by kernel_rfl) ?_
            repeat (go_big_quiet_step ((first
              | (go_at_call 65; exact kept_of (HPc.out _ ((HR.out.bl G5.out).bl (Kept.below _))))
              | (go_at_call 59; exact kept_same (refOne1 _))
              | (go_at_call 66; exact kept_of (refCharM 1 _ HM.out _))
              | (go_at_call 64; with_reducible exact kept_of (HSe.out _)))))
            refine wpQuiet_nil ?_
            intro w6 hw6
            have hb6 := Kept.bl hw6
            clear hw6
            go_wp2
            go_meet
            case rel => exact ⟨by rw [← HX.out], hb6⟩
          · have HM := Lib.hid (moreL_out e.map 4 (by have := HR.out.1; omega))
            refine wp_region_kept (by kernel_rfl) (by kernel_rfl) ?_
            repeat (go_big_quiet_step ((first
              | (go_at_call 65; exact kept_of (HPc.out _ ((HR.out.bl G5.out).bl (Kept.below _))))
              | (go_at_call 59; exact kept_same (refOne0 _))
              | (go_at_call 66; exact kept_of (refCharM 0 _ HM.out _))
              | (go_at_call 64; with_reducible exact kept_of (HSe.out _)))))
            refine wpQuiet_nil ?_
            intro w6 hw6
            have hb6 := Kept.bl hw6
            clear hw6
            go_wp2
            go_meet
            case rel => exact ⟨by rw [← HX.out], hb6⟩
        case rest =>
          obtain ⟨rfl, hb6⟩ := hcut
          have KE6 := Lib.hid (KE5.out.bl hb6)
          have G6 := Lib.hid (bl_then hb6 G5.out G5.out.size)
          have hS := sealL_len _ HHd.out
          clear a13 a14 h4 f1 f2 f3 f4 hx1 hx2 hr4 hm4 hd4 hX1 hX2 HPc HSe HPr HX HHd hb6 hltE
          generalize sealL (gnuHead e) = S at *
          obtain ⟨M, hM⟩ : ∃ M, M = e.map.drop 4 := ⟨_, rfl⟩
          have hML : M.length = e.mn - 4 := by rw [hM, List.length_drop, ← HR.out.1]
          have HM := Lib.hid hM
          have HML := Lib.hid hML
          rw [← hM] at HS
          clear hM hML
          have hO2 : (aheadJ e 2).length ≤ 400000 := by rw [hA.out]; exact hO
          generalize aheadJ e 2 = O2 at *
          simp only [List.append_assoc] at HS
          have hF0 := fillL_len e.data.data.toList
          have hD0 := HB.out.data
          rw [← Lib.size_eq] at hF0
          have HFi := Lib.hid (fun W : World => refFill e.data W (by have := HB.out.data; omega))
          generalize fillL e.data.data.toList = F at *
          go_wp2
          go_loopw [8, 20] (fun s k wr => ∃ j : Nat, k = .int .i64 ((4 + 21 * j : Nat) : Int) ∧ s = .string (bs (O2 ++ (S ++ accL M j))) ∧ Below wc.heap.size wc wr ∧ (j = 0 ∨ 4 + 21 * j < e.mn + 21)) (fun _ k _ => e.mn + 25 - (intOf k).toNat)
          case atStart => exact ⟨0, rfl, by rw [accL_zero, List.append_nil], bl_refl wc, .inl rfl⟩
          case round =>
            obtain ⟨j, rfl, rfl, hbr, hj⟩ := hrel
            have KEr := Lib.hid (KE6.out.bl hbr)
            have Gr := Lib.hid (bl_then hbr G6.out G6.out.size)
            have hltE := KEr.out.lt
            obtain ⟨-, -, -, -, -, -, -, -, -, -, -, -, -, a13, a14⟩ := ent_cells KEr.out
            by_cases hlt : 4 + 21 * j < e.mn
            · have hj1 : j ≤ 1 := by omega
              have hAl := accL_length M j
              have hA1 := Lib.hid (accL_succ M j)
              have hDr : M.drop (21 * j) = e.map.drop (4 + 21 * j) := by rw [HM.out, List.drop_drop]
              rw [hDr] at hA1
              have HBk := Lib.hid (show blkL (e.map.drop (4 + 21 * j)) = fillL (rowS (e.map.drop (4 + 21 * j)) 21 ++ moreL (e.map.drop (4 + 21 * j)) 21) by unfold blkL; rfl)
              have HFl := Lib.hid (fun W : World => refFill (bs (rowS (e.map.drop (4 + 21 * j)) 21 ++ moreL (e.map.drop (4 + 21 * j)) 21)) W (by rw [bs_size]; simp [rowS_length, moreL_length]))
              rw [bs_toList, ← HBk.out] at HFl
              have f1 := holesBlocks_L (e.map.drop (4 + 21 * j))
              have f2 : Fits (O2 ++ (S ++ accL M j)) (blkL (e.map.drop (4 + 21 * j))) := by unfold Fits; rw [List.length_append, List.length_append, blkL_length]; omega
              have HPc := Lib.hid (fun (W : World) (h : PRow W e.ma e.mn e.map) => refPieces e.ma e.mn e.mc e.map (4 + 21 * j) 21 W h (by omega) HPK.out (by omega) (by omega))
              have HMl := Lib.hid (show (e.map.drop (4 + 21 * j)).length = e.mn - (4 + 21 * j) by rw [List.length_drop, ← HR.out.1])
              clear hDr hAl
              obtain ⟨K, hK⟩ : ∃ K, K = 4 + 21 * j := ⟨_, rfl⟩
              have HK := Lib.hid hK
              rw [← hK] at HPc HFl f1 f2 hA1 HMl hlt
              rw [← hK]
              have hK2 : K ≤ 25 := by omega
              clear hK HBk
              have hw : IntKind.i64.wrap ((K : Int) + 21) = (K : Int) + 21 := IntWalk.i64_in _ (by omega)
              have hm : (decide ((K : Int) + 21 < (e.mn : Int)) = true ∧ K + 21 < e.mn) ∨ (decide ((K : Int) + 21 < (e.mn : Int)) = false ∧ ¬ K + 21 < e.mn) := by
                by_cases h : K + 21 < e.mn
                · exact .inl ⟨decide_eq_true (by omega), h⟩
                · exact .inr ⟨decide_eq_false (by omega), h⟩
              rcases hm with ⟨hm, hm'⟩ | ⟨hm, hm'⟩
              · have HMo := Lib.hid (moreL_in (e.map.drop K) 21 (by rw [HMl.out]; omega))
                go_wp2
                refine wp_region_kept (by kernel_rfl) (by kernel_rfl) ?_
                repeat (go_big_quiet_step ((first
                  | (go_at_call 65; exact kept_of (HPc.out _ ((HR.out.bl Gr.out).bl (Kept.below _))))
                  | (go_at_call 59; exact kept_same (refOne1 _))
                  | (go_at_call 66; exact kept_of (refCharM 1 _ HMo.out _))
                  | (go_at_call 44; with_reducible exact kept_of (HFl.out _)))))
                refine wpQuiet_nil ?_
                intro w7 hw7
                have hb7 := Kept.bl hw7
                clear hw7
                go_wp2
                go_roundw
                case rel => exact ⟨j + 1, by have := HK.out; congr 1; omega, by rw [hA1.out], bl_then hb7 hbr hbr.size, .inr (by have := HK.out; omega)⟩
                case measure => have := HK.out; simp [intOf]; omega
              · have HMo := Lib.hid (moreL_out (e.map.drop K) 21 (by rw [HMl.out]; omega))
                go_wp2
                refine wp_region_kept (by kernel_rfl) (by kernel_rfl) ?_
                repeat (go_big_quiet_step ((first
                  | (go_at_call 65; exact kept_of (HPc.out _ ((HR.out.bl Gr.out).bl (Kept.below _))))
                  | (go_at_call 59; exact kept_same (refOne0 _))
                  | (go_at_call 66; exact kept_of (refCharM 0 _ HMo.out _))
                  | (go_at_call 44; with_reducible exact kept_of (HFl.out _)))))
                refine wpQuiet_nil ?_
                intro w7 hw7
                have hb7 := Kept.bl hw7
                clear hw7
                go_wp2
                go_roundw
                case rel => exact ⟨j + 1, by have := HK.out; congr 1; omega, by rw [hA1.out], bl_then hb7 hbr hbr.size, .inr (by have := HK.out; omega)⟩
                case measure => have := HK.out; simp [intOf]; omega
            · have hAl := accL_length M j
              have hj2 : j ≤ 2 := by omega
              have f3 : Fits (O2 ++ (S ++ accL M j)) F := by unfold Fits; rw [List.length_append, List.length_append]; omega
              have hN : blocksN M.length = j := by rw [HML.out]; unfold blocksN; omega
              rw [hN] at HS
              clear hN hAl
              go_wp2_with (first | (go_at_call 44; (with_reducible refine (HFi.out _).mono ?_); rintro x w8 ⟨rfl, hb8⟩; have G8 := bl_then hb8 Gr.out Gr.out.size; clear hb8))
              go_ret2
              refine ⟨?_, G8⟩
              rw [HS.out]
              first
                | rfl
                | (simp only [List.append_assoc]; rfl)
end Go.Proofs.YtehkfbgbpmfpmaaGreatDoor
