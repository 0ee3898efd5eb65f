/- revetmentref.gnu, a member without holes. -/
import Derived.Test.YtehkfbgbpmfpmaaGreatDoorG1
namespace Go.Proofs.YtehkfbgbpmfpmaaGreatDoor
set_option linter.unusedVariables false
set_option linter.unusedSimpArgs false
open Go.RowKit

/-- what the first j of the two long headers are -/
def aheadJ (e : EntR) : Nat → List UInt8
  | 0 => []
  | 1 => lw 75 e.link
  | _ => aheadL e
theorem lw_in (k : Int) (s : ByteArray) (h : s.size ≤ 100) : lw k s = [] := by unfold lw; rw [if_pos h]
theorem lw_out (k : Int) (s : ByteArray) (h : ¬ s.size ≤ 100) : lw k s = (longW k s).1 := by unfold lw; rw [if_neg h]
set_option maxRecDepth 100000 in
theorem refWholeLong (k : Int) (s : ByteArray) (w : World) (h0 : 0 < k) (h1 : k ≤ 255) (hs : s.size ≤ 100000) :
    Calls Tryz.prog 20 #[.int .i64 3, .agg #[.string ⟨#[]⟩, .string ⟨#[]⟩, .string ⟨#[]⟩, .string ⟨#[]⟩, .string ⟨#[]⟩, .int .u8 k, .int .i64 0, .int .i64 0, .int .i64 0, .int .i64 ((s.size : Int) + 1), .int .i64 0, .int .i64 0, .int .i64 0],
      .string ⟨#[46, 47, 46, 47, 64, 76, 111, 110, 103, 76, 105, 110, 107]⟩, .string ⟨#[]⟩, .string (s ++ ⟨#[0]⟩)] w fun e w' => e = .returned (.tuple #[.string (bs (longW k s).1), .int .i64 0]) ∧ Below w.heap.size w w' := by
  have h := refWhole 3 (longR k s.size) longN ⟨#[]⟩ (s ++ ⟨#[0]⟩) w (longR_B k s.size (by omega) h1 hs) (by decide) (by decide) (s0_size s hs)
  have hz := longW_ok k s h0 hs
  unfold longW at hz ⊢
  generalize wholeS 3 (longR k s.size) longN ⟨#[]⟩ (s ++ ⟨#[0]⟩) = W at *
  simp only [longR, longN] at h
  refine h.mono fun e w' ⟨he, hw⟩ => ⟨?_, hw⟩
  rw [he, hz]

theorem refWholeG (e : EntR) (k : Int) (hb : EntB e) (hi : EntI e) (hk0 : 0 ≤ k) (hk1 : k ≤ 255) (w : World) :
    Calls Tryz.prog 20 #[.int .i64 3, .agg #[.string (kindR e k).name, .string (kindR e k).link, .string (kindR e k).user, .string (kindR e k).group, .string (kindR e k).front, .int .u8 (kindR e k).kind, .int .i64 (kindR e k).mode, .int .i64 (kindR e k).uid, .int .i64 (kindR e k).gid, .int .i64 (kindR e k).size, .int .i64 (kindR e k).time, .int .i64 (kindR e k).major, .int .i64 (kindR e k).minor], .string (cut100 (nameS e)), .string (cut100 e.link), .string e.data] w fun v w' =>
      v = .returned (.tuple #[.string (bs (wholeS 3 (kindR e k) (cut100 (nameS e)) (cut100 e.link) e.data).1), .int .i64 (wholeS 3 (kindR e k) (cut100 (nameS e)) (cut100 e.link) e.data).2]) ∧ Below w.heap.size w w' :=
  refWhole 3 (kindR e k) (cut100 (nameS e)) (cut100 e.link) e.data w (plainR_B hb hi k hk0 hk1) (by have := cut100_size (nameS e); omega) (by have := cut100_size e.link; omega) (by have := hb.data; omega)

attribute [local irreducible] lw cut100 nameS wholeS longW aheadL
set_option maxRecDepth 100000 in
set_option maxHeartbeats 8000000 in
theorem refGnuPlain (e : EntR) (w : World) (hb : EntB e) (hi : EntI e) (hn : e.name.size ≤ 1000) (hl : e.link.size ≤ 1000) (hz : e.nano = 0) (hsp : sparseS e = false) :
    Calls Tryz.prog 29 #[.agg #[.string (kindR e e.kind).name, .string (kindR e e.kind).link, .string (kindR e e.kind).user, .string (kindR e e.kind).group, .string (kindR e e.kind).front, .int .u8 (kindR e e.kind).kind, .int .i64 (kindR e e.kind).mode, .int .i64 (kindR e e.kind).uid, .int .i64 (kindR e e.kind).gid, .int .i64 (kindR e e.kind).size, .int .i64 (kindR e e.kind).time, .int .i64 (kindR e e.kind).major, .int .i64 (kindR e e.kind).minor], .agg #[.string e.name, .int .u8 e.kind, .int .i64 e.mode, .int .i64 e.uid, .int .i64 e.gid, .int .i64 e.size, .int .i64 e.sec, .int .i64 e.nano, .string e.link, .string e.user, .string e.group, .int .i64 e.major, .int .i64 e.minor, .string e.data, .slice e.ma e.mn e.mc], .string (nameS e)] w fun v w' => v = .returned (.tuple #[.string (bs (gnuPlainS e).1), .int .i64 (gnuPlainS e).2]) ∧ Below w.heap.size w w' := by
  have HB := Lib.hid hb
  have HI := Lib.hid hi
  have hz2 : decide (0 < e.nano) = false := by simp [hz]
  have HSP := Lib.hid (fun W : World => hsp ▸ refSparse e W)
  clear hz hsp hb hi
  have hns := nameS_size e
  have hO := aheadL_len e hn hl
  have KR0 := Lib.hid (((Blk.new w #[.string (kindR e e.kind).name, .string (kindR e e.kind).link, .string (kindR e e.kind).user, .string (kindR e e.kind).group, .string (kindR e e.kind).front, .int .u8 (kindR e e.kind).kind, .int .i64 (kindR e e.kind).mode, .int .i64 (kindR e e.kind).uid, .int .i64 (kindR e e.kind).gid, .int .i64 (kindR e e.kind).size, .int .i64 (kindR e e.kind).time, .int .i64 (kindR e e.kind).major, .int .i64 (kindR e e.kind).minor] 55).alloc (.cells #[.string e.name, .int .u8 e.kind, .int .i64 e.mode, .int .i64 e.uid, .int .i64 e.gid, .int .i64 e.size, .int .i64 e.sec, .int .i64 e.nano, .string e.link, .string e.user, .string e.group, .int .i64 e.major, .int .i64 e.minor, .string e.data, .slice e.ma e.mn e.mc] 26)).alloc (.cells #[.int .u8 75, .string e.link, .int .u8 76, .string (nameS e)] 109))
  have ke : Blk (((w.alloc (.cells #[.string (kindR e e.kind).name, .string (kindR e e.kind).link, .string (kindR e e.kind).user, .string (kindR e e.kind).group, .string (kindR e e.kind).front, .int .u8 (kindR e e.kind).kind, .int .i64 (kindR e e.kind).mode, .int .i64 (kindR e e.kind).uid, .int .i64 (kindR e e.kind).gid, .int .i64 (kindR e e.kind).size, .int .i64 (kindR e e.kind).time, .int .i64 (kindR e e.kind).major, .int .i64 (kindR e e.kind).minor] 55)).alloc (.cells #[.string e.name, .int .u8 e.kind, .int .i64 e.mode, .int .i64 e.uid, .int .i64 e.gid, .int .i64 e.size, .int .i64 e.sec, .int .i64 e.nano, .string e.link, .string e.user, .string e.group, .int .i64 e.major, .int .i64 e.minor, .string e.data, .slice e.ma e.mn e.mc] 26)).alloc (.cells #[.int .u8 75, .string e.link, .int .u8 76, .string (nameS e)] 109)) (w.heap.size + 1) #[.string e.name, .int .u8 e.kind, .int .i64 e.mode, .int .i64 e.uid, .int .i64 e.gid, .int .i64 e.size, .int .i64 e.sec, .int .i64 e.nano, .string e.link, .string e.user, .string e.group, .int .i64 e.major, .int .i64 e.minor, .string e.data, .slice e.ma e.mn e.mc] 26 := by
    have := (Blk.new (w.alloc (.cells #[.string (kindR e e.kind).name, .string (kindR e e.kind).link, .string (kindR e e.kind).user, .string (kindR e e.kind).group, .string (kindR e e.kind).front, .int .u8 (kindR e e.kind).kind, .int .i64 (kindR e e.kind).mode, .int .i64 (kindR e e.kind).uid, .int .i64 (kindR e e.kind).gid, .int .i64 (kindR e e.kind).size, .int .i64 (kindR e e.kind).time, .int .i64 (kindR e e.kind).major, .int .i64 (kindR e e.kind).minor] 55)) #[.string e.name, .int .u8 e.kind, .int .i64 e.mode, .int .i64 e.uid, .int .i64 e.gid, .int .i64 e.size, .int .i64 e.sec, .int .i64 e.nano, .string e.link, .string e.user, .string e.group, .int .i64 e.major, .int .i64 e.minor, .string e.data, .slice e.ma e.mn e.mc] 26).alloc (.cells #[.int .u8 75, .string e.link, .int .u8 76, .string (nameS e)] 109)
    rw [World.size_alloc] at this
    exact this
  have KE0 := Lib.hid ke
  clear ke
  have ka : Blk (((w.alloc (.cells #[.string (kindR e e.kind).name, .string (kindR e e.kind).link, .string (kindR e e.kind).user, .string (kindR e e.kind).group, .string (kindR e e.kind).front, .int .u8 (kindR e e.kind).kind, .int .i64 (kindR e e.kind).mode, .int .i64 (kindR e e.kind).uid, .int .i64 (kindR e e.kind).gid, .int .i64 (kindR e e.kind).size, .int .i64 (kindR e e.kind).time, .int .i64 (kindR e e.kind).major, .int .i64 (kindR e e.kind).minor] 55)).alloc (.cells #[.string e.name, .int .u8 e.kind, .int .i64 e.mode, .int .i64 e.uid, .int .i64 e.gid, .int .i64 e.size, .int .i64 e.sec, .int .i64 e.nano, .string e.link, .string e.user, .string e.group, .int .i64 e.major, .int .i64 e.minor, .string e.data, .slice e.ma e.mn e.mc] 26)).alloc (.cells #[.int .u8 75, .string e.link, .int .u8 76, .string (nameS e)] 109)) (w.heap.size + 1 + 1) #[.int .u8 75, .string e.link, .int .u8 76, .string (nameS e)] 109 := by
    have := Blk.new ((w.alloc (.cells #[.string (kindR e e.kind).name, .string (kindR e e.kind).link, .string (kindR e e.kind).user, .string (kindR e e.kind).group, .string (kindR e e.kind).front, .int .u8 (kindR e e.kind).kind, .int .i64 (kindR e e.kind).mode, .int .i64 (kindR e e.kind).uid, .int .i64 (kindR e e.kind).gid, .int .i64 (kindR e e.kind).size, .int .i64 (kindR e e.kind).time, .int .i64 (kindR e e.kind).major, .int .i64 (kindR e e.kind).minor] 55)).alloc (.cells #[.string e.name, .int .u8 e.kind, .int .i64 e.mode, .int .i64 e.uid, .int .i64 e.gid, .int .i64 e.size, .int .i64 e.sec, .int .i64 e.nano, .string e.link, .string e.user, .string e.group, .int .i64 e.major, .int .i64 e.minor, .string e.data, .slice e.ma e.mn e.mc] 26)) #[.int .u8 75, .string e.link, .int .u8 76, .string (nameS e)] 109
    rw [World.size_alloc, World.size_alloc] at this
    exact this
  have KA0 := Lib.hid ka
  clear ka
  have GE0 := Lib.hid (bl_alloc (bl_alloc (bl_alloc (bl_refl w) (.cells #[.string (kindR e e.kind).name, .string (kindR e e.kind).link, .string (kindR e e.kind).user, .string (kindR e e.kind).group, .string (kindR e e.kind).front, .int .u8 (kindR e e.kind).kind, .int .i64 (kindR e e.kind).mode, .int .i64 (kindR e e.kind).uid, .int .i64 (kindR e e.kind).gid, .int .i64 (kindR e e.kind).size, .int .i64 (kindR e e.kind).time, .int .i64 (kindR e e.kind).major, .int .i64 (kindR e e.kind).minor] 55)) (.cells #[.string e.name, .int .u8 e.kind, .int .i64 e.mode, .int .i64 e.uid, .int .i64 e.gid, .int .i64 e.size, .int .i64 e.sec, .int .i64 e.nano, .string e.link, .string e.user, .string e.group, .int .i64 e.major, .int .i64 e.minor, .string e.data, .slice e.ma e.mn e.mc] 26)) (.cells #[.int .u8 75, .string e.link, .int .u8 76, .string (nameS e)] 109))
  go_enter Tryz.func29, Tryz.ntmps29
  go_wp2
  generalize ((w.alloc (.cells #[.string (kindR e e.kind).name, .string (kindR e e.kind).link, .string (kindR e e.kind).user, .string (kindR e e.kind).group, .string (kindR e e.kind).front, .int .u8 (kindR e e.kind).kind, .int .i64 (kindR e e.kind).mode, .int .i64 (kindR e e.kind).uid, .int .i64 (kindR e e.kind).gid, .int .i64 (kindR e e.kind).size, .int .i64 (kindR e e.kind).time, .int .i64 (kindR e e.kind).major, .int .i64 (kindR e e.kind).minor] 55)).alloc (.cells #[.string e.name, .int .u8 e.kind, .int .i64 e.mode, .int .i64 e.uid, .int .i64 e.gid, .int .i64 e.size, .int .i64 e.sec, .int .i64 e.nano, .string e.link, .string e.user, .string e.group, .int .i64 e.major, .int .i64 e.minor, .string e.data, .slice e.ma e.mn e.mc] 26)).alloc (.cells #[.int .u8 75, .string e.link, .int .u8 76, .string (nameS e)] 109) = W0 at *
  go_loopw [8, 32] (fun s i wr => ∃ j : Nat, j ≤ 2 ∧ i = .int .i64 j ∧ s = .string (bs (aheadJ e j)) ∧ Below W0.heap.size W0 wr) (fun _ i _ => 2 - (intOf i).toNat)
  case atStart => exact ⟨0, by omega, rfl, rfl, bl_refl W0⟩
  case round =>
    obtain ⟨j, hj, rfl, rfl, hb⟩ := hrel
    have hj3 : j = 0 ∨ j = 1 ∨ j = 2 := by omega
    rcases hj3 with rfl | rfl | rfl
    · have c0 := (KA0.out.bl hb).cell 0
      have c1 := (KA0.out.bl hb).cell 1
      simp at c0 c1
      have hA := Lib.hid (show aheadJ e 1 = lw 75 e.link from rfl)
      have hB := Lib.hid (show aheadJ e 0 = [] from rfl)
      by_cases hlong : e.link.size ≤ 100
      · have hZ := Lib.hid (lw_in 75 e.link hlong)
        have hd : decide (100 < (e.link.size : Int)) = false := decide_eq_false (by omega)
        go_wp2
        go_roundw
        case rel => exact ⟨1, by omega, rfl, by rw [hA.out, hZ.out, hB.out], bl_alloc hb _⟩
        case measure => simp [intOf]
      · have hZ := Lib.hid (lw_out 75 e.link hlong)
        have hd : decide (100 < (e.link.size : Int)) = true := decide_eq_true (by omega)
        have hF : Fits (aheadJ e 0) (longW 75 e.link).1 := by have := longW_len 75 e.link (by omega); unfold Fits; rw [hB.out]; simp; omega
        go_wp2_with (first | (go_at_call 20; (with_reducible refine (refWholeLong 75 e.link _ (by omega) (by omega) (by omega)).mono ?_); rintro x w1 ⟨rfl, hb1⟩; have g1 := bl_then hb1 (bl_alloc hb _) (by simp; have := hb.size; omega); clear hb1))
        go_roundw
        case rel => exact ⟨1, by omega, rfl, by rw [hA.out, hZ.out, hB.out]; rfl, g1⟩
        case measure => simp [intOf]
    · have c0 := (KA0.out.bl hb).cell 2
      have c1 := (KA0.out.bl hb).cell 3
      simp at c0 c1
      have hA := Lib.hid (show aheadJ e 2 = lw 75 e.link ++ lw 76 (nameS e) by show aheadL e = _; unfold aheadL; rfl)
      have hB := Lib.hid (show aheadJ e 1 = lw 75 e.link from rfl)
      by_cases hlong : (nameS e).size ≤ 100
      · have hZ := Lib.hid (lw_in 76 (nameS e) hlong)
        have hd : decide (100 < ((nameS e).size : Int)) = false := decide_eq_false (by omega)
        go_wp2
        go_roundw
        case rel => exact ⟨2, by omega, rfl, by rw [hA.out, hZ.out, hB.out, List.append_nil], bl_alloc hb _⟩
        case measure => simp [intOf]
      · have hZ := Lib.hid (lw_out 76 (nameS e) hlong)
        have hd : decide (100 < ((nameS e).size : Int)) = true := decide_eq_true (by omega)
        have hF : Fits (aheadJ e 1) (longW 76 (nameS e)).1 := by have h1 := longW_len 76 (nameS e) (by omega); have h2 := lw_len 75 e.link (by omega); unfold Fits; rw [hB.out]; omega
        go_wp2_with (first | (go_at_call 20; (with_reducible refine (refWholeLong 76 (nameS e) _ (by omega) (by omega) (by omega)).mono ?_); rintro x w1 ⟨rfl, hb1⟩; have g1 := bl_then hb1 (bl_alloc hb _) (by simp; have := hb.size; omega); clear hb1))
        go_roundw
        case rel => exact ⟨2, by omega, rfl, by rw [hA.out, hZ.out, hB.out], g1⟩
        case measure => simp [intOf]
    · have hA := Lib.hid (show aheadJ e 2 = aheadL e from rfl)
      have KE1 := Lib.hid (KE0.out.bl hb)
      have KR1 := Lib.hid (KR0.out.bl hb)
      have G1 := Lib.hid (bl_then hb GE0.out GE0.out.size)
      have HW := Lib.hid (fun W : World => refWholeG e e.kind HB.out HI.out HB.out.kind0 HB.out.kind1 W)
      have hT2 := wholeS_len 3 (kindR e e.kind) (cut100 (nameS e)) (cut100 e.link) e.data
      have hD := HB.out.data
      have HT := Lib.hid (show gnuT e = wholeS 3 (kindR e e.kind) (cut100 (nameS e)) (cut100 e.link) e.data from rfl)
      generalize wholeS 3 (kindR e e.kind) (cut100 (nameS e)) (cut100 e.link) e.data = T at *
      have HS := Lib.hid (show gnuPlainS e = if T.2 = 0 then (aheadJ e 2 ++ T.1, 0) else ([], T.2) by unfold gnuPlainS; rw [HT.out, hA.out])
      have hF : Fits (aheadJ e 2) T.1 := by unfold Fits; rw [hA.out]; omega
      clear hO hT2 hD
      obtain ⟨a0, a1, a2, a3, a4, a5, a6, a7, a8, a9, a10, a11, a12, a13, a14⟩ := ent_cells KE1.out
      rcases Bool.eq_false_or_eq_true (T.2 != 0) with hq | hq
      all_goals
        go_wp2_with (first | (go_at_call 31; (with_reducible refine (HSP.out _).mono ?_); rintro x w2 ⟨rfl, hb2⟩; have KE2 := Lib.hid (KE1.out.bl hb2); have KR2 := Lib.hid (KR1.out.bl hb2); have G2 := Lib.hid (bl_then hb2 G1.out G1.out.size); have hltE := KE2.out.lt; have hltR := KR2.out.lt; clear a0 a1 a2 a3 a4 a5 a6 a7 a8 a9 a10 a11 a12 a13 a14 hb2; obtain ⟨a0, a1, a2, a3, a4, a5, a6, a7, a8, a9, a10, a11, a12, a13, a14⟩ := ent_cells KE2.out; clear a0 a1 a2 a3 a4 a5 a6 a7 a9 a10 a11 a12 a14; obtain ⟨r0, r1, r2, r3, r4, r5, r6, r7, r8, r9, r10, r11, r12⟩ := raw_cells (r := kindR e e.kind) KR2.out))
        refine wp_region_kept (by kernel_rfl) (by kernel_rfl) ?_
        repeat (go_big_quiet_step ((first
          | (go_at_call 62; first | with_reducible exact kept_same (refCut (nameS e) _ (by omega)) | with_reducible exact kept_same (refCut e.link _ (by omega)))
          | (go_at_call 20; with_reducible exact kept_of (HW.out _)))))
        refine wpQuiet_nil ?_
        intro w3 hw
        have hbk := Kept.bl hw
        clear hw
        go_wp2
        go_ret2
        refine ⟨?_, bl_then hbk G2.out G2.out.size⟩
        rw [HS.out]
        first
          | (rw [if_neg (by simpa using hq)]; rfl)
          | (rw [if_pos (by simpa using hq)]; rfl)
end Go.Proofs.YtehkfbgbpmfpmaaGreatDoor
