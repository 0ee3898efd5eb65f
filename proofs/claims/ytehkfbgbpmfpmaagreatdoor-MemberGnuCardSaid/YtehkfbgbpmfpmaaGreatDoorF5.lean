/- member.writeGnu, a member with holes. -/
import Derived.Test.YtehkfbgbpmfpmaaGreatDoorF4
namespace Go.Proofs.YtehkfbgbpmfpmaaGreatDoor
set_option linter.unusedVariables false
set_option linter.unusedSimpArgs false
open Go.RowKit

def gnuHead (e : EntR) : List UInt8 := (gnuH e).1.take 386 ++ (holesL e.map e.size ++ (gnuH e).1.drop 495)
def gnuSparseS (e : EntR) : List UInt8 × Int :=
  if (gnuH e).2 = 0 then (aheadL e ++ sealL (gnuHead e) ++ accL (e.map.drop 4) (blocksN (e.map.drop 4).length) ++ fillL e.data.data.toList, 0) else ([], (gnuH e).2)
theorem headS_512 (d : Int) (r : RawR) (h : (headS d r).2 = 0) : (headS d r).1.length = 512 := by
  unfold headS at h ⊢
  split
  · rename_i h1; rw [if_pos h1] at h; cases h
  · rename_i h1
    rw [if_neg h1] at h
    split
    · rename_i h2; rw [if_pos h2] at h; cases h
    · rename_i h2
      rw [if_neg h2] at h
      split
      · rename_i h3
        have := rawL_len h3
        simp only [sealL, List.length_append, List.length_take, List.length_cons, List.length_drop, octL_length]
        omega
      · rename_i h3; rw [if_neg h3] at h; cases h
theorem gnuH_len (e : EntR) (h : (gnuH e).2 = 0) : (gnuH e).1.length = 512 := by
  unfold gnuH wholeS at h ⊢
  split
  · rename_i h1; rw [if_pos h1] at h; cases h
  · rename_i h1
    rw [if_neg h1] at h
    split
    · rename_i h2; rw [if_pos h2] at h; exact absurd h h2
    · rename_i h2
      have h3 := headS_512 3 (wholeR 3 (kindR e 83) (cut100 (nameS e)) (cut100 e.link)) (by simpa using h2)
      show (_ ++ fillL []).length = 512
      rw [List.length_append, h3]
      rfl
theorem gnuHead_len (e : EntR) (h : (gnuH e).2 = 0) : (gnuHead e).length = 512 := by
  have := gnuH_len e h
  unfold gnuHead
  simp only [List.length_append, List.length_take, List.length_drop, holesL_length]
  omega
theorem sealL_len (l : List UInt8) (h : l.length = 512) : (sealL l).length = 512 := by
  simp only [sealL, List.length_append, List.length_take, List.length_cons, List.length_drop, octL_length]
  omega
theorem fillL_len (l : List UInt8) : (fillL l).length ≤ l.length + 512 := by
  have h2 := padS_range (l.length : Int)
  unfold fillL
  simp only [List.length_append, List.length_replicate]
  omega

attribute [local irreducible] lw cut100 nameS wholeS sealL accL fillL holesL
theorem memWrittenS (e : EntR) (hb : EntB e) (hi : EntI e) (w : World) :
    Calls Tryz.prog 39 #[.int .i64 3, .agg #[.string (plainR e).name, .string (plainR e).link, .string (plainR e).user, .string (plainR e).group, .string (plainR e).front, .int .u8 83, .int .i64 (plainR e).mode, .int .i64 (plainR e).uid, .int .i64 (plainR e).gid, .int .i64 (plainR e).size, .int .i64 (plainR e).time, .int .i64 (plainR e).major, .int .i64 (plainR e).minor],
      .string (cut100 (nameS e)), .string (cut100 e.link), .string ⟨#[]⟩] w fun v w' => v = .returned (.tuple #[.string (bs (gnuH e).1), errV (gnuH e).2]) ∧ Below w.heap.size w w' :=
  memWritten 3 (kindR e 83) (cut100 (nameS e)) (cut100 e.link) ⟨#[]⟩ w (plainR_B hb hi 83 (by omega) (by omega)) (by have := cut100_size (nameS e); omega) (by have := cut100_size e.link; omega) (by decide)
def HeadPost2 (w : World) (H : List UInt8) (l : List (Int × Int)) (e : Ending) (w' : World) : Prop :=
  ∃ a n c, e = .returned (.tuple #[.string (bs H), .slice a n c]) ∧ PRow w' a n (l.drop 4) ∧ n ≤ c ∧ c ≤ 140737488355328 ∧ n ≤ 30 ∧ Below w.heap.size w w'
theorem holesHeadH (e : EntR) (T H : List UInt8) (w : World) (hT : T.length = 512) (hH : H = T.take 386 ++ (holesL e.map e.size ++ T.drop 495)) (hr : PRow w e.ma e.mn e.map) (hc : e.mn ≤ e.mc) (hc2 : e.mc ≤ 140737488355328) (hmn : e.mn ≤ 30) (hp : POk e.map) (hs0 : 0 ≤ e.size) (hs1 : e.size ≤ 8589934591) :
    Calls Tryz.prog 79 #[.string (bs T), .agg #[.string e.name, .int .u8 e.kind, .int .i64 e.mode, .int .i64 e.uid, .int .i64 e.gid, .int .i64 e.size, .int .i64 e.sec, .int .i64 e.nano, .string e.link, .string e.user, .string e.group, .int .i64 e.major, .int .i64 e.minor, .string e.data, .slice e.ma e.mn e.mc]] w (HeadPost2 w H e.map) := by
  refine (holesHead e (bs T) w (by rw [bs_size]; exact hT) hr hc hc2 hp hs0 hs1).mono ?_
  rintro v w' ⟨a, n, c, he, h1, h2, h3, h4⟩
  refine ⟨a, n, c, ?_, h1, h2, h3, ?_, h4⟩
  · rw [he, hH, bs_toList]
  · have := h1.1
    rw [List.length_drop, ← hr.1] at this
    omega
theorem blockSealL (H : List UInt8) (w : World) (hH : H.length = 512) :
    Calls Tryz.prog 80 #[.string (bs H)] w fun e w' => e = .returned (.tuple #[.string (bs (sealL H)), .nilIface]) ∧ Below w.heap.size w w' := by
  have := blockSeal (bs H) w (by rw [bs_size]; exact hH)
  rw [bs_toList] at this
  exact this
set_option maxRecDepth 100000 in
set_option maxHeartbeats 8000000 in
theorem gnuSparse (e : EntR) (w : World) (hb : EntB e) (hi : EntI e) (hr : PRow w e.ma e.mn e.map) (hcap : e.mn ≤ e.mc) (hcap2 : e.mc ≤ 140737488355328) (hmn : e.mn ≤ 30) (hpk : POk e.map) (hs0 : 0 ≤ e.size) (hs1 : e.size ≤ 8589934591)
    (hn : e.name.size ≤ 1000) (hl : e.link.size ≤ 1000) (hz : e.nano = 0) (hsp : sparseS e = true) :
    Calls Tryz.prog 34 #[.agg #[.string e.name, .int .u8 e.kind, .int .i64 e.mode, .int .i64 e.uid, .int .i64 e.gid, .int .i64 e.size, .int .i64 e.sec, .int .i64 e.nano, .string e.link, .string e.user, .string e.group, .int .i64 e.major, .int .i64 e.minor, .string e.data, .slice e.ma e.mn e.mc]] w fun v w' => v = .returned (.tuple #[.string (bs (gnuSparseS e).1), errV (gnuSparseS e).2]) ∧ Below w.heap.size w w' := by
  have HB := Lib.hid hb
  have HI := Lib.hid hi
  have HR := Lib.hid hr
  have HPK := Lib.hid hpk
  have hz2 : (e.nano != 0) = false := by simp [hz]
  have HSP := Lib.hid (fun W : World => hsp ▸ memSparse e W)
  clear hz hsp hb hi hr hpk
  have KE0 := Lib.hid ((Blk.new w #[.string e.name, .int .u8 e.kind, .int .i64 e.mode, .int .i64 e.uid, .int .i64 e.gid, .int .i64 e.size, .int .i64 e.sec, .int .i64 e.nano, .string e.link, .string e.user, .string e.group, .int .i64 e.major, .int .i64 e.minor, .string e.data, .slice e.ma e.mn e.mc] 26).alloc (.cells #[.string ⟨#[]⟩] 9))
  have ko : Blk ((w.alloc (.cells #[.string e.name, .int .u8 e.kind, .int .i64 e.mode, .int .i64 e.uid, .int .i64 e.gid, .int .i64 e.size, .int .i64 e.sec, .int .i64 e.nano, .string e.link, .string e.user, .string e.group, .int .i64 e.major, .int .i64 e.minor, .string e.data, .slice e.ma e.mn e.mc] 26)).alloc (.cells #[.string ⟨#[]⟩] 9)) (w.heap.size + 1) #[.string (bs [])] 9 := by
    have := Blk.new (w.alloc (.cells #[.string e.name, .int .u8 e.kind, .int .i64 e.mode, .int .i64 e.uid, .int .i64 e.gid, .int .i64 e.size, .int .i64 e.sec, .int .i64 e.nano, .string e.link, .string e.user, .string e.group, .int .i64 e.major, .int .i64 e.minor, .string e.data, .slice e.ma e.mn e.mc] 26)) #[.string ⟨#[]⟩] 9
    rw [World.size_alloc] at this
    exact this
  have KO0 := Lib.hid ko
  clear ko
  have GE0 := Lib.hid (bl_alloc (bl_alloc (bl_refl w) (.cells #[.string e.name, .int .u8 e.kind, .int .i64 e.mode, .int .i64 e.uid, .int .i64 e.gid, .int .i64 e.size, .int .i64 e.sec, .int .i64 e.nano, .string e.link, .string e.user, .string e.group, .int .i64 e.major, .int .i64 e.minor, .string e.data, .slice e.ma e.mn e.mc] 26)) (.cells #[.string ⟨#[]⟩] 9))
  have hns := nameS_size e
  obtain ⟨O2, HO2⟩ : ∃ O, Hid ([] ++ lw 75 e.link ++ lw 76 (nameS e) = O) := ⟨_, Lib.hid rfl⟩
  have HA := Lib.hid (show aheadL e = O2 by rw [← HO2.out]; unfold aheadL; simp)
  have HW := Lib.hid (fun W : World => memWrittenS e HB.out HI.out W)
  have hO := aheadL_len e hn hl
  have hD := fillL_len e.data.data.toList
  have hD2 := HB.out.data
  rw [← Lib.size_eq] at hD
  have HLn := Lib.hid (gnuH_len e)
  have HLm := Lib.hid (gnuHead_len e)
  have HHd := Lib.hid (show gnuHead e = (gnuH e).1.take 386 ++ (holesL e.map e.size ++ (gnuH e).1.drop 495) from rfl)
  rw [HA.out] at hO
  obtain ⟨T, HT⟩ : ∃ T, Hid (gnuH e = T) := ⟨_, Lib.hid rfl⟩
  rw [HT.out] at HW HLn HLm HHd
  rcases Bool.eq_false_or_eq_true (T.2 != 0) with hq | hq
  · have HS := Lib.hid (show gnuSparseS e = ([], T.2) by unfold gnuSparseS; rw [HT.out, if_neg (by simpa using hq)])
    go_enter Tryz.func34, Tryz.ntmps34
    go_wp2_with (first
      | (go_at_call 78; (with_reducible refine (gnuShortL e.link 75 (w.heap.size + 1) [] _ (by omega) (by omega) (by omega) KO0.out (by simp)).mono ?_); rintro x w1 ⟨rfl, hO1, hg1⟩; have KE1 := Lib.hid (KE0.out.grown hg1 (by omega)); have KO1 := Lib.hid hO1; have G1 := Lib.hid (bl_grown GE0.out hg1 (by omega)); obtain ⟨a0, a1, a2, a3, a4, a5, a6, a7, a8, a9, a10, a11, a12, a13, a14⟩ := ent_cells KE1.out; clear hO1 hg1)
      | (go_at_call 40; (with_reducible refine (memNamed e _ (by omega)).mono ?_); rintro x w2 ⟨rfl, hb2⟩; have KE2 := Lib.hid (KE1.out.bl hb2); have KO2 := Lib.hid (KO1.out.bl hb2); have G2 := Lib.hid (bl_then hb2 G1.out G1.out.size); clear a0 a1 a2 a3 a4 a5 a6 a7 a8 a9 a10 a11 a12 a13 a14 hb2)
      | (go_at_call 78; (with_reducible refine (gnuShortL (nameS e) 76 (w.heap.size + 1) _ _ (by omega) (by omega) (by omega) KO2.out (by have := lw_len 75 e.link (by omega); simp; omega)).mono ?_); rintro x w3 ⟨rfl, hO3, hg3⟩; have KE3 := Lib.hid (KE2.out.grown hg3 (by omega)); rw [HO2.out] at hO3; have KO3 := Lib.hid hO3; have G3 := Lib.hid (bl_grown G2.out hg3 (by omega)); obtain ⟨a0, a1, a2, a3, a4, a5, a6, a7, a8, a9, a10, a11, a12, a13, a14⟩ := ent_cells KE3.out; clear hO3 hg3)
      | (go_at_call 36; (with_reducible refine (memPlain e _).mono ?_); rintro x w4 ⟨rfl, hb4⟩; have KE4 := Lib.hid ((KE3.out.bl hb4).alloc (.cells #[.string (plainR e).name, .string (plainR e).link, .string (plainR e).user, .string (plainR e).group, .string (plainR e).front, .int .u8 (plainR e).kind, .int .i64 (plainR e).mode, .int .i64 (plainR e).uid, .int .i64 (plainR e).gid, .int .i64 (plainR e).size, .int .i64 (plainR e).time, .int .i64 (plainR e).major, .int .i64 (plainR e).minor] 70)); have KO4 := Lib.hid ((KO3.out.bl hb4).alloc (.cells #[.string (plainR e).name, .string (plainR e).link, .string (plainR e).user, .string (plainR e).group, .string (plainR e).front, .int .u8 (plainR e).kind, .int .i64 (plainR e).mode, .int .i64 (plainR e).uid, .int .i64 (plainR e).gid, .int .i64 (plainR e).size, .int .i64 (plainR e).time, .int .i64 (plainR e).major, .int .i64 (plainR e).minor] 70)); have KR4 := Lib.hid (Blk.new w4 #[.string (plainR e).name, .string (plainR e).link, .string (plainR e).user, .string (plainR e).group, .string (plainR e).front, .int .u8 (plainR e).kind, .int .i64 (plainR e).mode, .int .i64 (plainR e).uid, .int .i64 (plainR e).gid, .int .i64 (plainR e).size, .int .i64 (plainR e).time, .int .i64 (plainR e).major, .int .i64 (plainR e).minor] 70); have G4 := Lib.hid (bl_alloc (bl_then hb4 G3.out G3.out.size) (.cells #[.string (plainR e).name, .string (plainR e).link, .string (plainR e).user, .string (plainR e).group, .string (plainR e).front, .int .u8 (plainR e).kind, .int .i64 (plainR e).mode, .int .i64 (plainR e).uid, .int .i64 (plainR e).gid, .int .i64 (plainR e).size, .int .i64 (plainR e).time, .int .i64 (plainR e).major, .int .i64 (plainR e).minor] 70)); have hlt4 := (KE3.out.bl hb4).lt; have hltO4 := (KO3.out.bl hb4).lt; clear a0 a1 a2 a3 a4 a5 a6 a7 a8 a9 a10 a11 a12 a13 a14 hb4; obtain ⟨a0, a1, a2, a3, a4, a5, a6, a7, a8, a9, a10, a11, a12, a13, a14⟩ := ent_cells KE4.out)
      | (go_at_call 37; (with_reducible refine (HSP.out _).mono ?_); rintro x w5 ⟨rfl, hb5⟩; have KR5 := Lib.hid (KR4.out.bl hb5); have G5 := Lib.hid (bl_set (bl_then hb5 G4.out G4.out.size) (a := ⟨w4.heap.size, 5, none⟩) (Nat.le_of_lt hlt4) (.int .u8 83)); have hf5 := KR5.out.free 5; clear a0 a1 a2 a3 a4 a5 a6 a7 a8 a9 a10 a11 a12 a13 a14 hb5; obtain ⟨r0, r1, r2, r3, r4, r5, r6, r7, r8, r9, r10, r11, r12⟩ := raw_cells (r := plainR e) KR5.out)
      | (go_at_call 39; (with_reducible refine (HW.out _).mono ?_); rintro x w6 ⟨rfl, hb6⟩; have G6 := Lib.hid (bl_then hb6 G5.out G5.out.size); clear r0 r1 r2 r3 r4 r5 r6 r7 r8 r9 r10 r11 r12 hb6))
    go_ret2
    refine ⟨?_, G6.out⟩
    rw [HS.out]
    rfl
  · have hT0 : T.2 = 0 := by simpa using hq
    have HS := Lib.hid (show gnuSparseS e = (O2 ++ sealL (gnuHead e) ++ accL (e.map.drop 4) (blocksN (e.map.drop 4).length) ++ fillL e.data.data.toList, 0) by unfold gnuSparseS; rw [HT.out, if_pos hT0, HA.out])
    have hTL := HLn.out hT0
    have hHL := HLm.out hT0
    have hSL := sealL_len _ hHL
    have hAL := accL_length (e.map.drop 4) (blocksN (e.map.drop 4).length)
    have hN : blocksN (e.map.drop 4).length ≤ 3 := by
      have := HR.out.1
      unfold blocksN
      rw [List.length_drop]
      omega
    have HSe := Lib.hid (fun W : World => blockSealL (gnuHead e) W hHL)
    have HHe := Lib.hid (fun (W : World) (h : PRow W e.ma e.mn e.map) => holesHeadH e T.1 (gnuHead e) W hTL HHd.out h hcap hcap2 hmn HPK.out hs0 hs1)
    have HFi := Lib.hid (fun W : World => blockFill e.data W (by have := HB.out.data; omega))
    have HBl := Lib.hid (fun (W : World) (a : Option Addr) (n c : Nat) (h : PRow W a n (e.map.drop 4)) (h1 : n ≤ c) (h2 : c ≤ 140737488355328) (h3 : n ≤ 30) => holesBlocks a n c (e.map.drop 4) W h h1 h2 (HPK.out.drop 4) h3)
    clear hHL hTL hT0 HLn HLm HHd
    generalize sealL (gnuHead e) = S at *
    generalize gnuHead e = H at *
    generalize fillL e.data.data.toList = F at *
    generalize accL (e.map.drop 4) (blocksN (e.map.drop 4).length) = X at *
    have f1 : Fits O2 S := by unfold Fits; omega
    have f2 : Fits (O2 ++ S) X := by unfold Fits; rw [List.length_append]; omega
    have f3 : Fits (O2 ++ S ++ X) F := by unfold Fits; rw [List.length_append, List.length_append]; omega
    have f2' : Fits O2 (S ++ X) := by unfold Fits; rw [List.length_append]; omega
    have f3' : Fits (O2 ++ (S ++ X)) F := by unfold Fits; rw [List.length_append, List.length_append]; omega
    clear hSL hAL hN hO hD hD2
    go_enter Tryz.func34, Tryz.ntmps34
    go_wp2_with (first
      | (go_at_call 78; (with_reducible refine (gnuShortL e.link 75 (w.heap.size + 1) [] _ (by omega) (by omega) (by omega) KO0.out (by simp)).mono ?_); rintro x w1 ⟨rfl, hO1, hg1⟩; have KE1 := Lib.hid (KE0.out.grown hg1 (by omega)); have KO1 := Lib.hid hO1; have G1 := Lib.hid (bl_grown GE0.out hg1 (by omega)); obtain ⟨a0, a1, a2, a3, a4, a5, a6, a7, a8, a9, a10, a11, a12, a13, a14⟩ := ent_cells KE1.out; clear hO1 hg1)
      | (go_at_call 40; (with_reducible refine (memNamed e _ (by omega)).mono ?_); rintro x w2 ⟨rfl, hb2⟩; have KE2 := Lib.hid (KE1.out.bl hb2); have KO2 := Lib.hid (KO1.out.bl hb2); have G2 := Lib.hid (bl_then hb2 G1.out G1.out.size); clear a0 a1 a2 a3 a4 a5 a6 a7 a8 a9 a10 a11 a12 a13 a14 hb2)
      | (go_at_call 78; (with_reducible refine (gnuShortL (nameS e) 76 (w.heap.size + 1) _ _ (by omega) (by omega) (by omega) KO2.out (by have := lw_len 75 e.link (by omega); simp; omega)).mono ?_); rintro x w3 ⟨rfl, hO3, hg3⟩; have KE3 := Lib.hid (KE2.out.grown hg3 (by omega)); rw [HO2.out] at hO3; have KO3 := Lib.hid hO3; have G3 := Lib.hid (bl_grown G2.out hg3 (by omega)); obtain ⟨a0, a1, a2, a3, a4, a5, a6, a7, a8, a9, a10, a11, a12, a13, a14⟩ := ent_cells KE3.out; clear hO3 hg3)
      | (go_at_call 36; (with_reducible refine (memPlain e _).mono ?_); rintro x w4 ⟨rfl, hb4⟩; have KE4 := Lib.hid ((KE3.out.bl hb4).alloc (.cells #[.string (plainR e).name, .string (plainR e).link, .string (plainR e).user, .string (plainR e).group, .string (plainR e).front, .int .u8 (plainR e).kind, .int .i64 (plainR e).mode, .int .i64 (plainR e).uid, .int .i64 (plainR e).gid, .int .i64 (plainR e).size, .int .i64 (plainR e).time, .int .i64 (plainR e).major, .int .i64 (plainR e).minor] 70)); have KO4 := Lib.hid ((KO3.out.bl hb4).alloc (.cells #[.string (plainR e).name, .string (plainR e).link, .string (plainR e).user, .string (plainR e).group, .string (plainR e).front, .int .u8 (plainR e).kind, .int .i64 (plainR e).mode, .int .i64 (plainR e).uid, .int .i64 (plainR e).gid, .int .i64 (plainR e).size, .int .i64 (plainR e).time, .int .i64 (plainR e).major, .int .i64 (plainR e).minor] 70)); have KR4 := Lib.hid (Blk.new w4 #[.string (plainR e).name, .string (plainR e).link, .string (plainR e).user, .string (plainR e).group, .string (plainR e).front, .int .u8 (plainR e).kind, .int .i64 (plainR e).mode, .int .i64 (plainR e).uid, .int .i64 (plainR e).gid, .int .i64 (plainR e).size, .int .i64 (plainR e).time, .int .i64 (plainR e).major, .int .i64 (plainR e).minor] 70); have G4 := Lib.hid (bl_alloc (bl_then hb4 G3.out G3.out.size) (.cells #[.string (plainR e).name, .string (plainR e).link, .string (plainR e).user, .string (plainR e).group, .string (plainR e).front, .int .u8 (plainR e).kind, .int .i64 (plainR e).mode, .int .i64 (plainR e).uid, .int .i64 (plainR e).gid, .int .i64 (plainR e).size, .int .i64 (plainR e).time, .int .i64 (plainR e).major, .int .i64 (plainR e).minor] 70)); have hlt4 := (KE3.out.bl hb4).lt; have hltO4 := (KO3.out.bl hb4).lt; clear a0 a1 a2 a3 a4 a5 a6 a7 a8 a9 a10 a11 a12 a13 a14 hb4; obtain ⟨a0, a1, a2, a3, a4, a5, a6, a7, a8, a9, a10, a11, a12, a13, a14⟩ := ent_cells KE4.out)
      | (go_at_call 37; (with_reducible refine (HSP.out _).mono ?_); rintro x w5 ⟨rfl, hb5⟩; have KE5 := Lib.hid ((KE4.out.bl hb5).other (a := ⟨w4.heap.size, 5, none⟩) (Nat.ne_of_gt hlt4) (.int .u8 83)); have KO5 := Lib.hid ((KO4.out.bl hb5).other (a := ⟨w4.heap.size, 5, none⟩) (Nat.ne_of_gt hltO4) (.int .u8 83)); have KR5 := Lib.hid (KR4.out.bl hb5); have G5 := Lib.hid (bl_set (bl_then hb5 G4.out G4.out.size) (a := ⟨w4.heap.size, 5, none⟩) (Nat.le_of_lt hlt4) (.int .u8 83)); have hf5 := KR5.out.free 5; clear a0 a1 a2 a3 a4 a5 a6 a7 a8 a9 a10 a11 a12 a13 a14 hb5; obtain ⟨r0, r1, r2, r3, r4, r5, r6, r7, r8, r9, r10, r11, r12⟩ := raw_cells (r := plainR e) KR5.out)
      | (go_at_call 39; (with_reducible refine (HW.out _).mono ?_); rintro x w6 ⟨rfl, hb6⟩; have KE6 := Lib.hid (KE5.out.bl hb6); have KO6 := Lib.hid (KO5.out.bl hb6); have G6 := Lib.hid (bl_then hb6 G5.out G5.out.size); clear r0 r1 r2 r3 r4 r5 r6 r7 r8 r9 r10 r11 r12 hb6; obtain ⟨a0, a1, a2, a3, a4, a5, a6, a7, a8, a9, a10, a11, a12, a13, a14⟩ := ent_cells KE6.out)
      | (go_at_call 79; (with_reducible refine (HHe.out _ (HR.out.bl G6.out)).mono ?_); rintro x w7 ⟨a, n, c, rfl, hp7, hc7, hc7', hn7, hb7⟩; have KE7 := Lib.hid (KE6.out.bl hb7); have KO7 := Lib.hid (KO6.out.bl hb7); have HP7 := Lib.hid hp7; have G7 := Lib.hid (bl_then hb7 G6.out G6.out.size); clear a0 a1 a2 a3 a4 a5 a6 a7 a8 a9 a10 a11 a12 a13 a14 hb7 hp7)
      | (go_at_call 80; (with_reducible refine (HSe.out _).mono ?_); rintro x w8 ⟨rfl, hb8⟩; have KE8 := Lib.hid (KE7.out.bl hb8); have KO8 := (KO7.out.bl hb8).cell 0; have hltO := (KO7.out.bl hb8).lt; have hltE := KE8.out.lt; simp at KO8; have HP8 := Lib.hid (HP7.out.bl hb8); have G8 := Lib.hid (bl_then hb8 G7.out G7.out.size); clear hb8; have a13 := (ent_cells KE8.out).2.2.2.2.2.2.2.2.2.2.2.2.2.1))
    refine wp_region_kept (by kernel_rfl) (by kernel_rfl) ?_
    repeat (go_big_quiet_step ((first
      | (go_at_call 81; exact kept_of (HBl.out _ _ _ _ (HP8.out.bl (Kept.below _)) hc7 hc7' hn7))
      | (go_at_call 56; exact kept_of (HFi.out _)))))
    refine wpQuiet_nil ?_
    intro w9 hw9
    have hb9 := Kept.bl hw9
    clear hw9
    go_wp2
    go_ret2
    refine ⟨?_, bl_then hb9 G8.out G8.out.size⟩
    rw [HS.out]
    first
      | rfl
      | (simp only [List.append_assoc]; rfl)
end Go.Proofs.YtehkfbgbpmfpmaaGreatDoor
