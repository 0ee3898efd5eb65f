/- head.Write. -/
import Derived.Test.YtehkfbgbpmfpmaaGreatDoorC5b
namespace Go.Proofs.YtehkfbgbpmfpmaaGreatDoor
set_option linter.unusedVariables false
set_option linter.unusedSimpArgs false
open Go.RowKit

theorem slice_nums (b : Nat) (W : World) (M : Nat) (h : M = 5 ∨ M = 7) : (Instr.sliceAt 157 (.pointer (some ⟨b, 0, none⟩)) none (some (.int .i64 M)) none).run Tryz.prog W = .ok (.slice (some ⟨b, 0, none⟩) M 7) W := by
  rcases h with rfl | rfl <;> simp [go_sem]
theorem Buf.grownS {w w' : World} {g : Nat} {t : TypeId} {l : List UInt8} (h : Buf w g t l) (b : Nat) (o : Obj) : True := trivial
theorem grown_drewN {w w' : World} {n g : Nat} (h : (w.drewN n).grownBy w' (some g)) : w.grownBy w' (some g) := ⟨h.os, h.tape.trans (by rfl), h.output, h.size, h.block⟩

set_option maxRecDepth 100000 in
set_option maxHeartbeats 4000000 in
theorem headW (d : Int) (r : RawR) (hr : RawB r) (w : World) (hd1 : 1 ≤ d) (hd2 : d ≤ 4) (hkd : r.kind ≠ 0) (hfit : fitsS d r = true) (hS : headS d r = if okHead d r = true then (sealL (rawL d r), 0) else ([], 2)) :
    Calls Tryz.prog 55 #[.int .i64 d, .agg #[.string r.name, .string r.link, .string r.user, .string r.group, .string r.front, .int .u8 r.kind, .int .i64 r.mode, .int .i64 r.uid, .int .i64 r.gid, .int .i64 r.size, .int .i64 r.time, .int .i64 r.major, .int .i64 r.minor]] w fun e w' => e = .returned (.tuple #[.string (bs (headS d r).1), errV (headS d r).2]) ∧ Below w.heap.size w w' := by
  have HS := Lib.hid hS
  clear hS
  have HR := Lib.hid hr
  clear hr
  have HD := Lib.hid (And.intro hd1 hd2)
  have HN := Lib.hid (fun h : okHead d r = false => (show headS d r = ([], 2) by rw [HS.out, if_neg (by rw [h]; simp)]))
  have hq1 : decide (d < 1) = false := decide_eq_false (by omega)
  have hq2 : decide (4 < d) = false := decide_eq_false (by omega)
  have hq3 : (r.kind == 0) = false := by simpa using hkd
  go_enter Tryz.func55, Tryz.ntmps55
  go_wp2_with (first
    | (go_at_call 103; refine (headFits r d _).mono ?_; rintro e w1 ⟨rfl, hb1⟩)
    | (go_at_call 104; refine (headTexts _ _).mono ?_; rintro e w2 ⟨rfl, hb2⟩))
  have hsz : w.heap.size < w1.heap.size := by have := hb1.size; simp at this; omega
  have kr := (((Blk.new w #[.string r.name, .string r.link, .string r.user, .string r.group, .string r.front, .int .u8 r.kind, .int .i64 r.mode, .int .i64 r.uid, .int .i64 r.gid, .int .i64 r.size, .int .i64 r.time, .int .i64 r.major, .int .i64 r.minor] 70).bl hb1).alloc (.cells Tryz.zeroCells148 148)).bl hb2
  have kB : Buf w2 w1.heap.size 148 (flds d r 0 0 0).flatten := by
    rw [flds_zero]
    refine Buf.bl ⟨?_⟩ hb2
    rw [← zero_cells]
    simp [World.alloc, -World.alloc_eq]
  have kb : Below w.heap.size w w2 := by
    have b1 := bl_then hb1 (bl_alloc (bl_refl w) (.cells #[.string r.name, .string r.link, .string r.user, .string r.group, .string r.front, .int .u8 r.kind, .int .i64 r.mode, .int .i64 r.uid, .int .i64 r.gid, .int .i64 r.size, .int .i64 r.time, .int .i64 r.major, .int .i64 r.minor] 70)) (by simp)
    have b2 := bl_alloc b1 (.cells Tryz.zeroCells148 148)
    exact bl_then hb2 b2 (by simp; omega)
  clear hb1 hb2
  generalize w1.heap.size = B at *
  clear w1
  go_loopw [34] (fun i wr => ∃ k : Nat, k ≤ 5 ∧ i = .int .i64 k ∧ Buf wr B 148 (flds d r k 0 0).flatten ∧ Blk wr w.heap.size #[.string r.name, .string r.link, .string r.user, .string r.group, .string r.front, .int .u8 r.kind, .int .i64 r.mode, .int .i64 r.uid, .int .i64 r.gid, .int .i64 r.size, .int .i64 r.time, .int .i64 r.major, .int .i64 r.minor] 70 ∧ Below w.heap.size w wr ∧ Hid (Oks d r k 0)) (fun i _ => 5 - (intOf i).toNat)
  case atStart => exact ⟨0, by omega, rfl, kB, kr, kb, Lib.hid (Oks.zero d r)⟩
  case round =>
    obtain ⟨k, hk, rfl, gB, gr, gb, HO⟩ := hrel
    clear kB kr kb
    have hkk : k = 0 ∨ k = 1 ∨ k = 2 ∨ k = 3 ∨ k = 4 ∨ k = 5 := by omega
    rcases hkk with rfl | rfl | rfl | rfl | rfl | rfl
    · have c0 := gr.cell 0
      simp at c0
      by_cases h1 : (r.name.size : Int) ≤ 100
      · have d1 : decide (100 < (r.name.size : Int)) = false := decide_eq_false (by omega)
        have hq : ∀ W : World, Calls Tryz.prog 32 #[.string r.name, .int .u8 0] W fun e w' => e = .returned (.int .i64 (Lib.indexByte r.name.data.toList 0)) ∧ w' = W := fun W => Tryz.strings_IndexByte r.name 0 W
        have HQ := Lib.hid hq
        clear hq
        by_cases h2 : 0 ≤ Lib.indexByte r.name.data.toList 0
        · have d2 : decide (0 ≤ Lib.indexByte r.name.data.toList 0) = true := decide_eq_true h2
          have HT := Lib.hid (show textOk r.name 100 = false by unfold textOk; simp [h2])
          go_wp2_with (first | (go_at_call 105; refine (headTextSpots _).mono ?_; rintro e w3 ⟨rfl, hb3⟩; have gr3 := gr.bl hb3; have gB3 := (gB.bl hb3).alloc (.cells #[.int .i64 0, .int .i64 100] 153); have gb3 := bl_alloc (bl_then hb3 gb gb.size) (.cells #[.int .i64 0, .int .i64 100] 153); have gr4 := gr3.alloc (.cells #[.int .i64 0, .int .i64 100] 153); have c3 := gr4.cell 0; simp at c3))
          go_quiet ((go_at_call 32; exact Calls.quiet_of_same (HQ.out _)))
          go_wp2
          go_ret2
          exact ⟨by rw [HN.out (show okHead d r = false by rw [← Bool.not_eq_true]; intro hx; unfold okHead at hx; simp [HT.out] at hx)]; rfl, bl_drewN gb3 _⟩
        · have d2 : decide (0 ≤ Lib.indexByte r.name.data.toList 0) = false := decide_eq_false h2
          have HT := Lib.hid (show textOk r.name 100 = true by unfold textOk; simp [h2]; omega)
          go_wp2_with (first | (go_at_call 105; refine (headTextSpots _).mono ?_; rintro e w3 ⟨rfl, hb3⟩; have gr3 := gr.bl hb3; have gB3 := (gB.bl hb3).alloc (.cells #[.int .i64 0, .int .i64 100] 153); have gb3 := bl_alloc (bl_then hb3 gb gb.size) (.cells #[.int .i64 0, .int .i64 100] 153); have gr4 := gr3.alloc (.cells #[.int .i64 0, .int .i64 100] 153); have c3 := gr4.cell 0; simp at c3))
          go_quiet ((go_at_call 32; exact Calls.quiet_of_same (HQ.out _)))
          go_wp2
          have hfl := flds_flat_len 0 HO.out
          have gB5 := (gB3.drewN nq).drew
          go_region_law (refine step_copy_buf rfl (.tmp 58) (.tmp 61) 85 9 rfl 5 Tryz.underlying85 (by kernel_rfl) 0 512 512 (by simp [Act.eval, Act.put]) r.name (by simp [Act.eval, Act.put]) ⟨gB3.heap⟩ (by omega) (by omega) ?_; intro w4 hB4 hg4)
          all_goals go_wp2
          all_goals refine ⟨⟨1, by omega, rfl, ?_, ?_, ?_, ?_⟩, by simp [intOf]⟩
          all_goals first
            | exact Lib.hid (HO.out.text0 HT.out)
            | (rw [← step_text0 HO.out HT.out]; exact hB4)
            | exact (gr4.drewN _).grown hg4 (by omega)
            | exact bl_grown (bl_drewN gb3 _) hg4 (by omega)
      · have d1 : decide (100 < (r.name.size : Int)) = true := decide_eq_true (by omega)
        have HT := Lib.hid (show textOk r.name 100 = false by unfold textOk; simp [h1])
        go_wp2_with (first | (go_at_call 105; refine (headTextSpots _).mono ?_; rintro e w3 ⟨rfl, hb3⟩; have gr3 := gr.bl hb3; have gB3 := (gB.bl hb3).alloc (.cells #[.int .i64 0, .int .i64 100] 153); have gb3 := bl_alloc (bl_then hb3 gb gb.size) (.cells #[.int .i64 0, .int .i64 100] 153); have gr4 := gr3.alloc (.cells #[.int .i64 0, .int .i64 100] 153); have c3 := gr4.cell 0; simp at c3))
        go_quiet (fail)
        go_wp2
        go_ret2
        exact ⟨by rw [HN.out (show okHead d r = false by rw [← Bool.not_eq_true]; intro hx; unfold okHead at hx; simp [HT.out] at hx)]; rfl, bl_drewN gb3 _⟩
    · have c0 := gr.cell 1
      simp at c0
      by_cases h1 : (r.link.size : Int) ≤ 100
      · have d1 : decide (100 < (r.link.size : Int)) = false := decide_eq_false (by omega)
        have hq : ∀ W : World, Calls Tryz.prog 32 #[.string r.link, .int .u8 0] W fun e w' => e = .returned (.int .i64 (Lib.indexByte r.link.data.toList 0)) ∧ w' = W := fun W => Tryz.strings_IndexByte r.link 0 W
        have HQ := Lib.hid hq
        clear hq
        by_cases h2 : 0 ≤ Lib.indexByte r.link.data.toList 0
        · have d2 : decide (0 ≤ Lib.indexByte r.link.data.toList 0) = true := decide_eq_true h2
          have HT := Lib.hid (show textOk r.link 100 = false by unfold textOk; simp [h2])
          go_wp2_with (first | (go_at_call 105; refine (headTextSpots _).mono ?_; rintro e w3 ⟨rfl, hb3⟩; have gr3 := gr.bl hb3; have gB3 := (gB.bl hb3).alloc (.cells #[.int .i64 157, .int .i64 100] 153); have gb3 := bl_alloc (bl_then hb3 gb gb.size) (.cells #[.int .i64 157, .int .i64 100] 153); have gr4 := gr3.alloc (.cells #[.int .i64 157, .int .i64 100] 153); have c3 := gr4.cell 1; simp at c3))
          go_quiet ((go_at_call 32; exact Calls.quiet_of_same (HQ.out _)))
          go_wp2
          go_ret2
          exact ⟨by rw [HN.out (show okHead d r = false by rw [← Bool.not_eq_true]; intro hx; unfold okHead at hx; simp [HT.out] at hx)]; rfl, bl_drewN gb3 _⟩
        · have d2 : decide (0 ≤ Lib.indexByte r.link.data.toList 0) = false := decide_eq_false h2
          have HT := Lib.hid (show textOk r.link 100 = true by unfold textOk; simp [h2]; omega)
          go_wp2_with (first | (go_at_call 105; refine (headTextSpots _).mono ?_; rintro e w3 ⟨rfl, hb3⟩; have gr3 := gr.bl hb3; have gB3 := (gB.bl hb3).alloc (.cells #[.int .i64 157, .int .i64 100] 153); have gb3 := bl_alloc (bl_then hb3 gb gb.size) (.cells #[.int .i64 157, .int .i64 100] 153); have gr4 := gr3.alloc (.cells #[.int .i64 157, .int .i64 100] 153); have c3 := gr4.cell 1; simp at c3))
          go_quiet ((go_at_call 32; exact Calls.quiet_of_same (HQ.out _)))
          go_wp2
          have hfl := flds_flat_len 0 HO.out
          have gB5 := (gB3.drewN nq).drew
          go_region_law (refine step_copy_buf rfl (.tmp 58) (.tmp 61) 85 9 rfl 5 Tryz.underlying85 (by kernel_rfl) 157 355 355 (by simp [Act.eval, Act.put]) r.link (by simp [Act.eval, Act.put]) ⟨gB3.heap⟩ (by omega) (by omega) ?_; intro w4 hB4 hg4)
          all_goals go_wp2
          all_goals refine ⟨⟨2, by omega, rfl, ?_, ?_, ?_, ?_⟩, by simp [intOf]⟩
          all_goals first
            | exact Lib.hid (HO.out.text1 HT.out)
            | (rw [← step_text1 HO.out HT.out]; exact hB4)
            | exact (gr4.drewN _).grown hg4 (by omega)
            | exact bl_grown (bl_drewN gb3 _) hg4 (by omega)
      · have d1 : decide (100 < (r.link.size : Int)) = true := decide_eq_true (by omega)
        have HT := Lib.hid (show textOk r.link 100 = false by unfold textOk; simp [h1])
        go_wp2_with (first | (go_at_call 105; refine (headTextSpots _).mono ?_; rintro e w3 ⟨rfl, hb3⟩; have gr3 := gr.bl hb3; have gB3 := (gB.bl hb3).alloc (.cells #[.int .i64 157, .int .i64 100] 153); have gb3 := bl_alloc (bl_then hb3 gb gb.size) (.cells #[.int .i64 157, .int .i64 100] 153); have gr4 := gr3.alloc (.cells #[.int .i64 157, .int .i64 100] 153); have c3 := gr4.cell 1; simp at c3))
        go_quiet (fail)
        go_wp2
        go_ret2
        exact ⟨by rw [HN.out (show okHead d r = false by rw [← Bool.not_eq_true]; intro hx; unfold okHead at hx; simp [HT.out] at hx)]; rfl, bl_drewN gb3 _⟩
    · have c0 := gr.cell 2
      simp at c0
      by_cases h1 : (r.user.size : Int) ≤ 32
      · have d1 : decide (32 < (r.user.size : Int)) = false := decide_eq_false (by omega)
        have hq : ∀ W : World, Calls Tryz.prog 32 #[.string r.user, .int .u8 0] W fun e w' => e = .returned (.int .i64 (Lib.indexByte r.user.data.toList 0)) ∧ w' = W := fun W => Tryz.strings_IndexByte r.user 0 W
        have HQ := Lib.hid hq
        clear hq
        by_cases h2 : 0 ≤ Lib.indexByte r.user.data.toList 0
        · have d2 : decide (0 ≤ Lib.indexByte r.user.data.toList 0) = true := decide_eq_true h2
          have HT := Lib.hid (show textOk r.user 32 = false by unfold textOk; simp [h2])
          go_wp2_with (first | (go_at_call 105; refine (headTextSpots _).mono ?_; rintro e w3 ⟨rfl, hb3⟩; have gr3 := gr.bl hb3; have gB3 := (gB.bl hb3).alloc (.cells #[.int .i64 265, .int .i64 32] 153); have gb3 := bl_alloc (bl_then hb3 gb gb.size) (.cells #[.int .i64 265, .int .i64 32] 153); have gr4 := gr3.alloc (.cells #[.int .i64 265, .int .i64 32] 153); have c3 := gr4.cell 2; simp at c3))
          go_quiet ((go_at_call 32; exact Calls.quiet_of_same (HQ.out _)))
          go_wp2
          go_ret2
          exact ⟨by rw [HN.out (show okHead d r = false by rw [← Bool.not_eq_true]; intro hx; unfold okHead at hx; simp [HT.out] at hx)]; rfl, bl_drewN gb3 _⟩
        · have d2 : decide (0 ≤ Lib.indexByte r.user.data.toList 0) = false := decide_eq_false h2
          have HT := Lib.hid (show textOk r.user 32 = true by unfold textOk; simp [h2]; omega)
          go_wp2_with (first | (go_at_call 105; refine (headTextSpots _).mono ?_; rintro e w3 ⟨rfl, hb3⟩; have gr3 := gr.bl hb3; have gB3 := (gB.bl hb3).alloc (.cells #[.int .i64 265, .int .i64 32] 153); have gb3 := bl_alloc (bl_then hb3 gb gb.size) (.cells #[.int .i64 265, .int .i64 32] 153); have gr4 := gr3.alloc (.cells #[.int .i64 265, .int .i64 32] 153); have c3 := gr4.cell 2; simp at c3))
          go_quiet ((go_at_call 32; exact Calls.quiet_of_same (HQ.out _)))
          go_wp2
          have hfl := flds_flat_len 0 HO.out
          have gB5 := (gB3.drewN nq).drew
          go_region_law (refine step_copy_buf rfl (.tmp 58) (.tmp 61) 85 9 rfl 5 Tryz.underlying85 (by kernel_rfl) 265 247 247 (by simp [Act.eval, Act.put]) r.user (by simp [Act.eval, Act.put]) ⟨gB3.heap⟩ (by omega) (by omega) ?_; intro w4 hB4 hg4)
          all_goals go_wp2
          all_goals refine ⟨⟨3, by omega, rfl, ?_, ?_, ?_, ?_⟩, by simp [intOf]⟩
          all_goals first
            | exact Lib.hid (HO.out.text2 HT.out)
            | (rw [← step_text2 HO.out HT.out]; exact hB4)
            | exact (gr4.drewN _).grown hg4 (by omega)
            | exact bl_grown (bl_drewN gb3 _) hg4 (by omega)
      · have d1 : decide (32 < (r.user.size : Int)) = true := decide_eq_true (by omega)
        have HT := Lib.hid (show textOk r.user 32 = false by unfold textOk; simp [h1])
        go_wp2_with (first | (go_at_call 105; refine (headTextSpots _).mono ?_; rintro e w3 ⟨rfl, hb3⟩; have gr3 := gr.bl hb3; have gB3 := (gB.bl hb3).alloc (.cells #[.int .i64 265, .int .i64 32] 153); have gb3 := bl_alloc (bl_then hb3 gb gb.size) (.cells #[.int .i64 265, .int .i64 32] 153); have gr4 := gr3.alloc (.cells #[.int .i64 265, .int .i64 32] 153); have c3 := gr4.cell 2; simp at c3))
        go_quiet (fail)
        go_wp2
        go_ret2
        exact ⟨by rw [HN.out (show okHead d r = false by rw [← Bool.not_eq_true]; intro hx; unfold okHead at hx; simp [HT.out] at hx)]; rfl, bl_drewN gb3 _⟩
    · have c0 := gr.cell 3
      simp at c0
      by_cases h1 : (r.group.size : Int) ≤ 32
      · have d1 : decide (32 < (r.group.size : Int)) = false := decide_eq_false (by omega)
        have hq : ∀ W : World, Calls Tryz.prog 32 #[.string r.group, .int .u8 0] W fun e w' => e = .returned (.int .i64 (Lib.indexByte r.group.data.toList 0)) ∧ w' = W := fun W => Tryz.strings_IndexByte r.group 0 W
        have HQ := Lib.hid hq
        clear hq
        by_cases h2 : 0 ≤ Lib.indexByte r.group.data.toList 0
        · have d2 : decide (0 ≤ Lib.indexByte r.group.data.toList 0) = true := decide_eq_true h2
          have HT := Lib.hid (show textOk r.group 32 = false by unfold textOk; simp [h2])
          go_wp2_with (first | (go_at_call 105; refine (headTextSpots _).mono ?_; rintro e w3 ⟨rfl, hb3⟩; have gr3 := gr.bl hb3; have gB3 := (gB.bl hb3).alloc (.cells #[.int .i64 297, .int .i64 32] 153); have gb3 := bl_alloc (bl_then hb3 gb gb.size) (.cells #[.int .i64 297, .int .i64 32] 153); have gr4 := gr3.alloc (.cells #[.int .i64 297, .int .i64 32] 153); have c3 := gr4.cell 3; simp at c3))
          go_quiet ((go_at_call 32; exact Calls.quiet_of_same (HQ.out _)))
          go_wp2
          go_ret2
          exact ⟨by rw [HN.out (show okHead d r = false by rw [← Bool.not_eq_true]; intro hx; unfold okHead at hx; simp [HT.out] at hx)]; rfl, bl_drewN gb3 _⟩
        · have d2 : decide (0 ≤ Lib.indexByte r.group.data.toList 0) = false := decide_eq_false h2
          have HT := Lib.hid (show textOk r.group 32 = true by unfold textOk; simp [h2]; omega)
          go_wp2_with (first | (go_at_call 105; refine (headTextSpots _).mono ?_; rintro e w3 ⟨rfl, hb3⟩; have gr3 := gr.bl hb3; have gB3 := (gB.bl hb3).alloc (.cells #[.int .i64 297, .int .i64 32] 153); have gb3 := bl_alloc (bl_then hb3 gb gb.size) (.cells #[.int .i64 297, .int .i64 32] 153); have gr4 := gr3.alloc (.cells #[.int .i64 297, .int .i64 32] 153); have c3 := gr4.cell 3; simp at c3))
          go_quiet ((go_at_call 32; exact Calls.quiet_of_same (HQ.out _)))
          go_wp2
          have hfl := flds_flat_len 0 HO.out
          have gB5 := (gB3.drewN nq).drew
          go_region_law (refine step_copy_buf rfl (.tmp 58) (.tmp 61) 85 9 rfl 5 Tryz.underlying85 (by kernel_rfl) 297 215 215 (by simp [Act.eval, Act.put]) r.group (by simp [Act.eval, Act.put]) ⟨gB3.heap⟩ (by omega) (by omega) ?_; intro w4 hB4 hg4)
          all_goals go_wp2
          all_goals refine ⟨⟨4, by omega, rfl, ?_, ?_, ?_, ?_⟩, by simp [intOf]⟩
          all_goals first
            | exact Lib.hid (HO.out.text3 HT.out)
            | (rw [← step_text3 HO.out HT.out]; exact hB4)
            | exact (gr4.drewN _).grown hg4 (by omega)
            | exact bl_grown (bl_drewN gb3 _) hg4 (by omega)
      · have d1 : decide (32 < (r.group.size : Int)) = true := decide_eq_true (by omega)
        have HT := Lib.hid (show textOk r.group 32 = false by unfold textOk; simp [h1])
        go_wp2_with (first | (go_at_call 105; refine (headTextSpots _).mono ?_; rintro e w3 ⟨rfl, hb3⟩; have gr3 := gr.bl hb3; have gB3 := (gB.bl hb3).alloc (.cells #[.int .i64 297, .int .i64 32] 153); have gb3 := bl_alloc (bl_then hb3 gb gb.size) (.cells #[.int .i64 297, .int .i64 32] 153); have gr4 := gr3.alloc (.cells #[.int .i64 297, .int .i64 32] 153); have c3 := gr4.cell 3; simp at c3))
        go_quiet (fail)
        go_wp2
        go_ret2
        exact ⟨by rw [HN.out (show okHead d r = false by rw [← Bool.not_eq_true]; intro hx; unfold okHead at hx; simp [HT.out] at hx)]; rfl, bl_drewN gb3 _⟩
    · have c0 := gr.cell 4
      simp at c0
      by_cases h1 : (r.front.size : Int) ≤ 155
      · have d1 : decide (155 < (r.front.size : Int)) = false := decide_eq_false (by omega)
        have hq : ∀ W : World, Calls Tryz.prog 32 #[.string r.front, .int .u8 0] W fun e w' => e = .returned (.int .i64 (Lib.indexByte r.front.data.toList 0)) ∧ w' = W := fun W => Tryz.strings_IndexByte r.front 0 W
        have HQ := Lib.hid hq
        clear hq
        by_cases h2 : 0 ≤ Lib.indexByte r.front.data.toList 0
        · have d2 : decide (0 ≤ Lib.indexByte r.front.data.toList 0) = true := decide_eq_true h2
          have HT := Lib.hid (show textOk r.front 155 = false by unfold textOk; simp [h2])
          go_wp2_with (first | (go_at_call 105; refine (headTextSpots _).mono ?_; rintro e w3 ⟨rfl, hb3⟩; have gr3 := gr.bl hb3; have gB3 := (gB.bl hb3).alloc (.cells #[.int .i64 345, .int .i64 155] 153); have gb3 := bl_alloc (bl_then hb3 gb gb.size) (.cells #[.int .i64 345, .int .i64 155] 153); have gr4 := gr3.alloc (.cells #[.int .i64 345, .int .i64 155] 153); have c3 := gr4.cell 4; simp at c3))
          go_quiet ((go_at_call 32; exact Calls.quiet_of_same (HQ.out _)))
          go_wp2
          go_ret2
          exact ⟨by rw [HN.out (show okHead d r = false by rw [← Bool.not_eq_true]; intro hx; unfold okHead at hx; simp [HT.out] at hx)]; rfl, bl_drewN gb3 _⟩
        · have d2 : decide (0 ≤ Lib.indexByte r.front.data.toList 0) = false := decide_eq_false h2
          have HT := Lib.hid (show textOk r.front 155 = true by unfold textOk; simp [h2]; omega)
          go_wp2_with (first | (go_at_call 105; refine (headTextSpots _).mono ?_; rintro e w3 ⟨rfl, hb3⟩; have gr3 := gr.bl hb3; have gB3 := (gB.bl hb3).alloc (.cells #[.int .i64 345, .int .i64 155] 153); have gb3 := bl_alloc (bl_then hb3 gb gb.size) (.cells #[.int .i64 345, .int .i64 155] 153); have gr4 := gr3.alloc (.cells #[.int .i64 345, .int .i64 155] 153); have c3 := gr4.cell 4; simp at c3))
          go_quiet ((go_at_call 32; exact Calls.quiet_of_same (HQ.out _)))
          go_wp2
          have hfl := flds_flat_len 0 HO.out
          have gB5 := (gB3.drewN nq).drew
          go_region_law (refine step_copy_buf rfl (.tmp 58) (.tmp 61) 85 9 rfl 5 Tryz.underlying85 (by kernel_rfl) 345 167 167 (by simp [Act.eval, Act.put]) r.front (by simp [Act.eval, Act.put]) ⟨gB3.heap⟩ (by omega) (by omega) ?_; intro w4 hB4 hg4)
          all_goals go_wp2
          all_goals refine ⟨⟨5, by omega, rfl, ?_, ?_, ?_, ?_⟩, by simp [intOf]⟩
          all_goals first
            | exact Lib.hid (HO.out.text4 HT.out)
            | (rw [← step_text4 HO.out HT.out]; exact hB4)
            | exact (gr4.drewN _).grown hg4 (by omega)
            | exact bl_grown (bl_drewN gb3 _) hg4 (by omega)
      · have d1 : decide (155 < (r.front.size : Int)) = true := decide_eq_true (by omega)
        have HT := Lib.hid (show textOk r.front 155 = false by unfold textOk; simp [h1])
        go_wp2_with (first | (go_at_call 105; refine (headTextSpots _).mono ?_; rintro e w3 ⟨rfl, hb3⟩; have gr3 := gr.bl hb3; have gB3 := (gB.bl hb3).alloc (.cells #[.int .i64 345, .int .i64 155] 153); have gb3 := bl_alloc (bl_then hb3 gb gb.size) (.cells #[.int .i64 345, .int .i64 155] 153); have gr4 := gr3.alloc (.cells #[.int .i64 345, .int .i64 155] 153); have c3 := gr4.cell 4; simp at c3))
        go_quiet (fail)
        go_wp2
        go_ret2
        exact ⟨by rw [HN.out (show okHead d r = false by rw [← Bool.not_eq_true]; intro hx; unfold okHead at hx; simp [HT.out] at hx)]; rfl, bl_drewN gb3 _⟩
    · obtain ⟨M, hM, hM2, hM3⟩ : ∃ M : Nat, (if d = 1 then (5 : Int) else 7) = M ∧ (d = 1 ∧ M = 5 ∨ (d = 2 ∨ d = 4) ∧ M = 7 ∨ d = 3 ∧ M = 7) ∧ M ≤ 7 := by
        by_cases h : d = 1
        · exact ⟨5, by rw [if_pos h]; rfl, by omega, by omega⟩
        · exact ⟨7, by rw [if_neg h]; rfl, by have := HD.out; omega, by omega⟩
      have hmany := fun W : World => (headMany d W)
      rw [hM] at hmany
      have HMy := Lib.hid hmany
      have hsl : ∀ (b : Nat) (W : World), (Instr.sliceAt 157 (.pointer (some ⟨b, 0, none⟩)) none (some (.int .i64 M)) none).run Tryz.prog W = .ok (.slice (some ⟨b, 0, none⟩) M 7) W := by
        intro b W
        have h57 : M = 5 ∨ M = 7 := by omega
        rcases h57 with rfl | rfl <;> exact slice_nums b W _ (by omega)
      have HM2 := Lib.hid hM2
      clear hmany hM hM2
      go_wp2_with (first | (go_at_call 106; refine (headNumbers _ _).mono ?_; rintro e w3 ⟨rfl, hb3⟩) | (go_at_call 107; refine (HMy.out _).mono ?_; rintro e w5 ⟨rfl, rfl⟩))
      have kr := (gr.bl hb3).alloc (.cells #[.pointer (some ⟨w.heap.size, 6, none⟩), .pointer (some ⟨w.heap.size, 7, none⟩), .pointer (some ⟨w.heap.size, 8, none⟩), .pointer (some ⟨w.heap.size, 9, none⟩), .pointer (some ⟨w.heap.size, 10, none⟩), .pointer (some ⟨w.heap.size, 11, none⟩), .pointer (some ⟨w.heap.size, 12, none⟩)] 157)
      have kB := (gB.bl hb3).alloc (.cells #[.pointer (some ⟨w.heap.size, 6, none⟩), .pointer (some ⟨w.heap.size, 7, none⟩), .pointer (some ⟨w.heap.size, 8, none⟩), .pointer (some ⟨w.heap.size, 9, none⟩), .pointer (some ⟨w.heap.size, 10, none⟩), .pointer (some ⟨w.heap.size, 11, none⟩), .pointer (some ⟨w.heap.size, 12, none⟩)] 157)
      have kb := bl_alloc (bl_then hb3 gb gb.size) (.cells #[.pointer (some ⟨w.heap.size, 6, none⟩), .pointer (some ⟨w.heap.size, 7, none⟩), .pointer (some ⟨w.heap.size, 8, none⟩), .pointer (some ⟨w.heap.size, 9, none⟩), .pointer (some ⟨w.heap.size, 10, none⟩), .pointer (some ⟨w.heap.size, 11, none⟩), .pointer (some ⟨w.heap.size, 12, none⟩)] 157)
      have kp := Blk.new w3 #[.pointer (some ⟨w.heap.size, 6, none⟩), .pointer (some ⟨w.heap.size, 7, none⟩), .pointer (some ⟨w.heap.size, 8, none⟩), .pointer (some ⟨w.heap.size, 9, none⟩), .pointer (some ⟨w.heap.size, 10, none⟩), .pointer (some ⟨w.heap.size, 11, none⟩), .pointer (some ⟨w.heap.size, 12, none⟩)] 157
      have hwp : w.heap.size ≠ w3.heap.size := by have := (gr.bl hb3).lt; omega
      have hBp : B ≠ w3.heap.size := by have := (gB.bl hb3).lt; omega
      have hwp0 : w.heap.size ≤ w3.heap.size := by have := (gr.bl hb3).lt; omega
      clear gr gB gb hb3
      generalize w3.heap.size = A at *
      go_loopw [69] (fun i wr2 => ∃ j : Nat, j ≤ M ∧ i = .int .i64 j ∧ Buf wr2 B 148 (flds d r 5 j 0).flatten ∧ Blk wr2 w.heap.size #[.string r.name, .string r.link, .string r.user, .string r.group, .string r.front, .int .u8 r.kind, .int .i64 r.mode, .int .i64 r.uid, .int .i64 r.gid, .int .i64 r.size, .int .i64 r.time, .int .i64 r.major, .int .i64 r.minor] 70 ∧ Blk wr2 A #[.pointer (some ⟨w.heap.size, 6, none⟩), .pointer (some ⟨w.heap.size, 7, none⟩), .pointer (some ⟨w.heap.size, 8, none⟩), .pointer (some ⟨w.heap.size, 9, none⟩), .pointer (some ⟨w.heap.size, 10, none⟩), .pointer (some ⟨w.heap.size, 11, none⟩), .pointer (some ⟨w.heap.size, 12, none⟩)] 157 ∧ Below w.heap.size w wr2 ∧ Hid (Oks d r 5 j)) (fun i _ => M - (intOf i).toNat)
      case atStart => exact ⟨0, by omega, rfl, kB, kr, kp, kb, HO⟩
      case round =>
        clear kr kB kb kp HO
        obtain ⟨j, hj, rfl, gB, gr, gp, gb, HO⟩ := hrel
        by_cases hlt : j < M
        · have hjj : j = 0 ∨ j = 1 ∨ j = 2 ∨ j = 3 ∨ j = 4 ∨ j = 5 ∨ j = 6 := by omega
          rcases hjj with rfl | rfl | rfl | rfl | rfl | rfl | rfl
          · have c0 := gr.cell 6
            have cp := gp.cell 0
            simp at c0 cp
            have hl0 := HR.out.mode0
            have hl1 := HR.out.mode1
            have HT : Hid (numOk d r.mode 8 = ((wrS r.mode 8 (d == 3)).2 == 0)) := Lib.hid (Bool.eq_iff_iff.2 (by unfold numOk; simp only [decide_eq_true_eq, beq_iff_eq]))
            cases hz : ((wrS r.mode 8 (d == 3)).2 == 0)
            all_goals rw [hz] at HT
            all_goals have hz2 : ((wrS r.mode 8 (d == 3)).2 != 0) = !((wrS r.mode 8 (d == 3)).2 == 0) := rfl
            all_goals rw [hz] at hz2
            all_goals go_wp2_with (first | (go_at_call 108; refine (headNumberSpots _).mono ?_; rintro e w4 ⟨rfl, hb3⟩; have gr4 := (gr.bl hb3).alloc (.cells #[.int .i64 100, .int .i64 8] 153); have gp4 := (gp.bl hb3).alloc (.cells #[.int .i64 100, .int .i64 8] 153); have gB4 := (gB.bl hb3).alloc (.cells #[.int .i64 100, .int .i64 8] 153); have gb4 := bl_alloc (bl_then hb3 gb gb.size) (.cells #[.int .i64 100, .int .i64 8] 153); have c3 := gr4.cell 6; have hs3 := Blk.new w4 #[.int .i64 100, .int .i64 8] 153; have c4 : (w4.alloc (.cells #[.int .i64 100, .int .i64 8] 153)).cell? ⟨w4.heap.size, 1, none⟩ = some (.int .i64 8) := hs3.cell 1; simp at c3))
            all_goals have gr5 := gr4.drew
            all_goals have gp5 := gp4.drew
            all_goals have gB5 := gB4.drew
            all_goals have gb5 := bl_drew gb4
            all_goals have hs5 := hs3.drew
            all_goals go_region_held3 (fun w' => w'.cell? ⟨w.heap.size, 6, none⟩ = some (.int .i64 r.mode) ∧ w'.cell? ⟨w4.heap.size, 1, none⟩ = some (.int .i64 8)) (first | exact ⟨c3, c4⟩ | exact ⟨c36, c46⟩) ((go_at_call 109; refine (numWrite r.mode 8 (d == 3) _ hl0 hl1).mono ?_; rintro e w6 ⟨rfl, hb6⟩; have gr6 := gr5.bl hb6; have gp6 := gp5.bl hb6; have gB6 := gB5.bl hb6; have hs6 := hs5.bl hb6; have s6 := hs6.cell 0; simp at s6; have c46 := hs6.cell 1; simp at c46; have c36 := gr6.cell 6; simp at c36; have gb6 := bl_then hb6 gb5 gb5.size))
            · go_wp2
              go_ret2
              exact ⟨by rw [HN.out (show okHead d r = false by rw [← Bool.not_eq_true]; intro hx; unfold okHead at hx; simp [HT.out] at hx)]; rfl, gb6⟩
            · have hfl := flds_flat_len 0 HO.out
              have hnl : (numL d r.mode 8).length = 8 := numL_ok' rfl HT.out
              have hnl2 : (bs (wrS r.mode 8 (d == 3)).1).size = 8 := by rw [bs_size]; exact hnl
              obtain ⟨w7, hrun, hB7, hg7⟩ := run_copy_buf (P := Tryz.prog) 85 9 3 5 Tryz.underlying85 (by kernel_rfl) gB6 100 412 412 (bs (wrS r.mode 8 (d == 3)).1) (by omega) (by omega)
              go_wp2
              rw [show (bs (wrS r.mode 8 (d == 3)).1).data.toList = numL d r.mode 8 from rfl, step_num0 HO.out HT.out] at hB7
              exact ⟨⟨1, by omega, rfl, hB7, gr6.grown hg7 (by omega), gp6.grown hg7 (by omega), bl_grown gb6 hg7 (by omega), Lib.hid (HO.out.num0 HT.out)⟩, by simp [intOf]; omega⟩
          · have c0 := gr.cell 7
            have cp := gp.cell 1
            simp at c0 cp
            have hl0 := HR.out.uid0
            have hl1 := HR.out.uid1
            have HT : Hid (numOk d r.uid 8 = ((wrS r.uid 8 (d == 3)).2 == 0)) := Lib.hid (Bool.eq_iff_iff.2 (by unfold numOk; simp only [decide_eq_true_eq, beq_iff_eq]))
            cases hz : ((wrS r.uid 8 (d == 3)).2 == 0)
            all_goals rw [hz] at HT
            all_goals have hz2 : ((wrS r.uid 8 (d == 3)).2 != 0) = !((wrS r.uid 8 (d == 3)).2 == 0) := rfl
            all_goals rw [hz] at hz2
            all_goals go_wp2_with (first | (go_at_call 108; refine (headNumberSpots _).mono ?_; rintro e w4 ⟨rfl, hb3⟩; have gr4 := (gr.bl hb3).alloc (.cells #[.int .i64 108, .int .i64 8] 153); have gp4 := (gp.bl hb3).alloc (.cells #[.int .i64 108, .int .i64 8] 153); have gB4 := (gB.bl hb3).alloc (.cells #[.int .i64 108, .int .i64 8] 153); have gb4 := bl_alloc (bl_then hb3 gb gb.size) (.cells #[.int .i64 108, .int .i64 8] 153); have c3 := gr4.cell 7; have hs3 := Blk.new w4 #[.int .i64 108, .int .i64 8] 153; have c4 : (w4.alloc (.cells #[.int .i64 108, .int .i64 8] 153)).cell? ⟨w4.heap.size, 1, none⟩ = some (.int .i64 8) := hs3.cell 1; simp at c3))
            all_goals have gr5 := gr4.drew
            all_goals have gp5 := gp4.drew
            all_goals have gB5 := gB4.drew
            all_goals have gb5 := bl_drew gb4
            all_goals have hs5 := hs3.drew
            all_goals go_region_held3 (fun w' => w'.cell? ⟨w.heap.size, 7, none⟩ = some (.int .i64 r.uid) ∧ w'.cell? ⟨w4.heap.size, 1, none⟩ = some (.int .i64 8)) (first | exact ⟨c3, c4⟩ | exact ⟨c36, c46⟩) ((go_at_call 109; refine (numWrite r.uid 8 (d == 3) _ hl0 hl1).mono ?_; rintro e w6 ⟨rfl, hb6⟩; have gr6 := gr5.bl hb6; have gp6 := gp5.bl hb6; have gB6 := gB5.bl hb6; have hs6 := hs5.bl hb6; have s6 := hs6.cell 0; simp at s6; have c46 := hs6.cell 1; simp at c46; have c36 := gr6.cell 7; simp at c36; have gb6 := bl_then hb6 gb5 gb5.size))
            · go_wp2
              go_ret2
              exact ⟨by rw [HN.out (show okHead d r = false by rw [← Bool.not_eq_true]; intro hx; unfold okHead at hx; simp [HT.out] at hx)]; rfl, gb6⟩
            · have hfl := flds_flat_len 0 HO.out
              have hnl : (numL d r.uid 8).length = 8 := numL_ok' rfl HT.out
              have hnl2 : (bs (wrS r.uid 8 (d == 3)).1).size = 8 := by rw [bs_size]; exact hnl
              obtain ⟨w7, hrun, hB7, hg7⟩ := run_copy_buf (P := Tryz.prog) 85 9 3 5 Tryz.underlying85 (by kernel_rfl) gB6 108 404 404 (bs (wrS r.uid 8 (d == 3)).1) (by omega) (by omega)
              go_wp2
              rw [show (bs (wrS r.uid 8 (d == 3)).1).data.toList = numL d r.uid 8 from rfl, step_num1 HO.out HT.out] at hB7
              exact ⟨⟨2, by omega, rfl, hB7, gr6.grown hg7 (by omega), gp6.grown hg7 (by omega), bl_grown gb6 hg7 (by omega), Lib.hid (HO.out.num1 HT.out)⟩, by simp [intOf]; omega⟩
          · have c0 := gr.cell 8
            have cp := gp.cell 2
            simp at c0 cp
            have hl0 := HR.out.gid0
            have hl1 := HR.out.gid1
            have HT : Hid (numOk d r.gid 8 = ((wrS r.gid 8 (d == 3)).2 == 0)) := Lib.hid (Bool.eq_iff_iff.2 (by unfold numOk; simp only [decide_eq_true_eq, beq_iff_eq]))
            cases hz : ((wrS r.gid 8 (d == 3)).2 == 0)
            all_goals rw [hz] at HT
            all_goals have hz2 : ((wrS r.gid 8 (d == 3)).2 != 0) = !((wrS r.gid 8 (d == 3)).2 == 0) := rfl
            all_goals rw [hz] at hz2
            all_goals go_wp2_with (first | (go_at_call 108; refine (headNumberSpots _).mono ?_; rintro e w4 ⟨rfl, hb3⟩; have gr4 := (gr.bl hb3).alloc (.cells #[.int .i64 116, .int .i64 8] 153); have gp4 := (gp.bl hb3).alloc (.cells #[.int .i64 116, .int .i64 8] 153); have gB4 := (gB.bl hb3).alloc (.cells #[.int .i64 116, .int .i64 8] 153); have gb4 := bl_alloc (bl_then hb3 gb gb.size) (.cells #[.int .i64 116, .int .i64 8] 153); have c3 := gr4.cell 8; have hs3 := Blk.new w4 #[.int .i64 116, .int .i64 8] 153; have c4 : (w4.alloc (.cells #[.int .i64 116, .int .i64 8] 153)).cell? ⟨w4.heap.size, 1, none⟩ = some (.int .i64 8) := hs3.cell 1; simp at c3))
            all_goals have gr5 := gr4.drew
            all_goals have gp5 := gp4.drew
            all_goals have gB5 := gB4.drew
            all_goals have gb5 := bl_drew gb4
            all_goals have hs5 := hs3.drew
            all_goals go_region_held3 (fun w' => w'.cell? ⟨w.heap.size, 8, none⟩ = some (.int .i64 r.gid) ∧ w'.cell? ⟨w4.heap.size, 1, none⟩ = some (.int .i64 8)) (first | exact ⟨c3, c4⟩ | exact ⟨c36, c46⟩) ((go_at_call 109; refine (numWrite r.gid 8 (d == 3) _ hl0 hl1).mono ?_; rintro e w6 ⟨rfl, hb6⟩; have gr6 := gr5.bl hb6; have gp6 := gp5.bl hb6; have gB6 := gB5.bl hb6; have hs6 := hs5.bl hb6; have s6 := hs6.cell 0; simp at s6; have c46 := hs6.cell 1; simp at c46; have c36 := gr6.cell 8; simp at c36; have gb6 := bl_then hb6 gb5 gb5.size))
            · go_wp2
              go_ret2
              exact ⟨by rw [HN.out (show okHead d r = false by rw [← Bool.not_eq_true]; intro hx; unfold okHead at hx; simp [HT.out] at hx)]; rfl, gb6⟩
            · have hfl := flds_flat_len 0 HO.out
              have hnl : (numL d r.gid 8).length = 8 := numL_ok' rfl HT.out
              have hnl2 : (bs (wrS r.gid 8 (d == 3)).1).size = 8 := by rw [bs_size]; exact hnl
              obtain ⟨w7, hrun, hB7, hg7⟩ := run_copy_buf (P := Tryz.prog) 85 9 3 5 Tryz.underlying85 (by kernel_rfl) gB6 116 396 396 (bs (wrS r.gid 8 (d == 3)).1) (by omega) (by omega)
              go_wp2
              rw [show (bs (wrS r.gid 8 (d == 3)).1).data.toList = numL d r.gid 8 from rfl, step_num2 HO.out HT.out] at hB7
              exact ⟨⟨3, by omega, rfl, hB7, gr6.grown hg7 (by omega), gp6.grown hg7 (by omega), bl_grown gb6 hg7 (by omega), Lib.hid (HO.out.num2 HT.out)⟩, by simp [intOf]; omega⟩
          · have c0 := gr.cell 9
            have cp := gp.cell 3
            simp at c0 cp
            have hl0 := HR.out.size0
            have hl1 := HR.out.size1
            have HT : Hid (numOk d r.size 12 = ((wrS r.size 12 (d == 3)).2 == 0)) := Lib.hid (Bool.eq_iff_iff.2 (by unfold numOk; simp only [decide_eq_true_eq, beq_iff_eq]))
            cases hz : ((wrS r.size 12 (d == 3)).2 == 0)
            all_goals rw [hz] at HT
            all_goals have hz2 : ((wrS r.size 12 (d == 3)).2 != 0) = !((wrS r.size 12 (d == 3)).2 == 0) := rfl
            all_goals rw [hz] at hz2
            all_goals go_wp2_with (first | (go_at_call 108; refine (headNumberSpots _).mono ?_; rintro e w4 ⟨rfl, hb3⟩; have gr4 := (gr.bl hb3).alloc (.cells #[.int .i64 124, .int .i64 12] 153); have gp4 := (gp.bl hb3).alloc (.cells #[.int .i64 124, .int .i64 12] 153); have gB4 := (gB.bl hb3).alloc (.cells #[.int .i64 124, .int .i64 12] 153); have gb4 := bl_alloc (bl_then hb3 gb gb.size) (.cells #[.int .i64 124, .int .i64 12] 153); have c3 := gr4.cell 9; have hs3 := Blk.new w4 #[.int .i64 124, .int .i64 12] 153; have c4 : (w4.alloc (.cells #[.int .i64 124, .int .i64 12] 153)).cell? ⟨w4.heap.size, 1, none⟩ = some (.int .i64 12) := hs3.cell 1; simp at c3))
            all_goals have gr5 := gr4.drew
            all_goals have gp5 := gp4.drew
            all_goals have gB5 := gB4.drew
            all_goals have gb5 := bl_drew gb4
            all_goals have hs5 := hs3.drew
            all_goals go_region_held3 (fun w' => w'.cell? ⟨w.heap.size, 9, none⟩ = some (.int .i64 r.size) ∧ w'.cell? ⟨w4.heap.size, 1, none⟩ = some (.int .i64 12)) (first | exact ⟨c3, c4⟩ | exact ⟨c36, c46⟩) ((go_at_call 109; refine (numWrite r.size 12 (d == 3) _ hl0 hl1).mono ?_; rintro e w6 ⟨rfl, hb6⟩; have gr6 := gr5.bl hb6; have gp6 := gp5.bl hb6; have gB6 := gB5.bl hb6; have hs6 := hs5.bl hb6; have s6 := hs6.cell 0; simp at s6; have c46 := hs6.cell 1; simp at c46; have c36 := gr6.cell 9; simp at c36; have gb6 := bl_then hb6 gb5 gb5.size))
            · go_wp2
              go_ret2
              exact ⟨by rw [HN.out (show okHead d r = false by rw [← Bool.not_eq_true]; intro hx; unfold okHead at hx; simp [HT.out] at hx)]; rfl, gb6⟩
            · have hfl := flds_flat_len 0 HO.out
              have hnl : (numL d r.size 12).length = 12 := numL_ok' rfl HT.out
              have hnl2 : (bs (wrS r.size 12 (d == 3)).1).size = 12 := by rw [bs_size]; exact hnl
              obtain ⟨w7, hrun, hB7, hg7⟩ := run_copy_buf (P := Tryz.prog) 85 9 3 5 Tryz.underlying85 (by kernel_rfl) gB6 124 388 388 (bs (wrS r.size 12 (d == 3)).1) (by omega) (by omega)
              go_wp2
              rw [show (bs (wrS r.size 12 (d == 3)).1).data.toList = numL d r.size 12 from rfl, step_num3 HO.out HT.out] at hB7
              exact ⟨⟨4, by omega, rfl, hB7, gr6.grown hg7 (by omega), gp6.grown hg7 (by omega), bl_grown gb6 hg7 (by omega), Lib.hid (HO.out.num3 HT.out)⟩, by simp [intOf]; omega⟩
          · have c0 := gr.cell 10
            have cp := gp.cell 4
            simp at c0 cp
            have hl0 := HR.out.time0
            have hl1 := HR.out.time1
            have HT : Hid (numOk d r.time 12 = ((wrS r.time 12 (d == 3)).2 == 0)) := Lib.hid (Bool.eq_iff_iff.2 (by unfold numOk; simp only [decide_eq_true_eq, beq_iff_eq]))
            cases hz : ((wrS r.time 12 (d == 3)).2 == 0)
            all_goals rw [hz] at HT
            all_goals have hz2 : ((wrS r.time 12 (d == 3)).2 != 0) = !((wrS r.time 12 (d == 3)).2 == 0) := rfl
            all_goals rw [hz] at hz2
            all_goals go_wp2_with (first | (go_at_call 108; refine (headNumberSpots _).mono ?_; rintro e w4 ⟨rfl, hb3⟩; have gr4 := (gr.bl hb3).alloc (.cells #[.int .i64 136, .int .i64 12] 153); have gp4 := (gp.bl hb3).alloc (.cells #[.int .i64 136, .int .i64 12] 153); have gB4 := (gB.bl hb3).alloc (.cells #[.int .i64 136, .int .i64 12] 153); have gb4 := bl_alloc (bl_then hb3 gb gb.size) (.cells #[.int .i64 136, .int .i64 12] 153); have c3 := gr4.cell 10; have hs3 := Blk.new w4 #[.int .i64 136, .int .i64 12] 153; have c4 : (w4.alloc (.cells #[.int .i64 136, .int .i64 12] 153)).cell? ⟨w4.heap.size, 1, none⟩ = some (.int .i64 12) := hs3.cell 1; simp at c3))
            all_goals have gr5 := gr4.drew
            all_goals have gp5 := gp4.drew
            all_goals have gB5 := gB4.drew
            all_goals have gb5 := bl_drew gb4
            all_goals have hs5 := hs3.drew
            all_goals go_region_held3 (fun w' => w'.cell? ⟨w.heap.size, 10, none⟩ = some (.int .i64 r.time) ∧ w'.cell? ⟨w4.heap.size, 1, none⟩ = some (.int .i64 12)) (first | exact ⟨c3, c4⟩ | exact ⟨c36, c46⟩) ((go_at_call 109; refine (numWrite r.time 12 (d == 3) _ hl0 hl1).mono ?_; rintro e w6 ⟨rfl, hb6⟩; have gr6 := gr5.bl hb6; have gp6 := gp5.bl hb6; have gB6 := gB5.bl hb6; have hs6 := hs5.bl hb6; have s6 := hs6.cell 0; simp at s6; have c46 := hs6.cell 1; simp at c46; have c36 := gr6.cell 10; simp at c36; have gb6 := bl_then hb6 gb5 gb5.size))
            · go_wp2
              go_ret2
              exact ⟨by rw [HN.out (show okHead d r = false by rw [← Bool.not_eq_true]; intro hx; unfold okHead at hx; simp [HT.out] at hx)]; rfl, gb6⟩
            · have hfl := flds_flat_len 0 HO.out
              have hnl : (numL d r.time 12).length = 12 := numL_ok' rfl HT.out
              have hnl2 : (bs (wrS r.time 12 (d == 3)).1).size = 12 := by rw [bs_size]; exact hnl
              obtain ⟨w7, hrun, hB7, hg7⟩ := run_copy_buf (P := Tryz.prog) 85 9 3 5 Tryz.underlying85 (by kernel_rfl) gB6 136 376 376 (bs (wrS r.time 12 (d == 3)).1) (by omega) (by omega)
              go_wp2
              rw [show (bs (wrS r.time 12 (d == 3)).1).data.toList = numL d r.time 12 from rfl, step_num4 HO.out HT.out] at hB7
              exact ⟨⟨5, by omega, rfl, hB7, gr6.grown hg7 (by omega), gp6.grown hg7 (by omega), bl_grown gb6 hg7 (by omega), Lib.hid (HO.out.num4 HT.out)⟩, by simp [intOf]; omega⟩
          · have c0 := gr.cell 11
            have cp := gp.cell 5
            simp at c0 cp
            have hl0 := HR.out.major0
            have hl1 := HR.out.major1
            have HD1 := Lib.hid (show d ≠ 1 by have := HM2.out; omega)
            have HT : Hid (numOk d r.major 8 = ((wrS r.major 8 (d == 3)).2 == 0)) := Lib.hid (Bool.eq_iff_iff.2 (by unfold numOk; simp only [decide_eq_true_eq, beq_iff_eq]))
            cases hz : ((wrS r.major 8 (d == 3)).2 == 0)
            all_goals rw [hz] at HT
            all_goals have hz2 : ((wrS r.major 8 (d == 3)).2 != 0) = !((wrS r.major 8 (d == 3)).2 == 0) := rfl
            all_goals rw [hz] at hz2
            all_goals go_wp2_with (first | (go_at_call 108; refine (headNumberSpots _).mono ?_; rintro e w4 ⟨rfl, hb3⟩; have gr4 := (gr.bl hb3).alloc (.cells #[.int .i64 329, .int .i64 8] 153); have gp4 := (gp.bl hb3).alloc (.cells #[.int .i64 329, .int .i64 8] 153); have gB4 := (gB.bl hb3).alloc (.cells #[.int .i64 329, .int .i64 8] 153); have gb4 := bl_alloc (bl_then hb3 gb gb.size) (.cells #[.int .i64 329, .int .i64 8] 153); have c3 := gr4.cell 11; have hs3 := Blk.new w4 #[.int .i64 329, .int .i64 8] 153; have c4 : (w4.alloc (.cells #[.int .i64 329, .int .i64 8] 153)).cell? ⟨w4.heap.size, 1, none⟩ = some (.int .i64 8) := hs3.cell 1; simp at c3))
            all_goals have gr5 := gr4.drew
            all_goals have gp5 := gp4.drew
            all_goals have gB5 := gB4.drew
            all_goals have gb5 := bl_drew gb4
            all_goals have hs5 := hs3.drew
            all_goals go_region_held3 (fun w' => w'.cell? ⟨w.heap.size, 11, none⟩ = some (.int .i64 r.major) ∧ w'.cell? ⟨w4.heap.size, 1, none⟩ = some (.int .i64 8)) (first | exact ⟨c3, c4⟩ | exact ⟨c36, c46⟩) ((go_at_call 109; refine (numWrite r.major 8 (d == 3) _ hl0 hl1).mono ?_; rintro e w6 ⟨rfl, hb6⟩; have gr6 := gr5.bl hb6; have gp6 := gp5.bl hb6; have gB6 := gB5.bl hb6; have hs6 := hs5.bl hb6; have s6 := hs6.cell 0; simp at s6; have c46 := hs6.cell 1; simp at c46; have c36 := gr6.cell 11; simp at c36; have gb6 := bl_then hb6 gb5 gb5.size))
            · go_wp2
              go_ret2
              exact ⟨by rw [HN.out (show okHead d r = false by rw [← Bool.not_eq_true]; intro hx; unfold okHead at hx; simp [HT.out, HD1.out] at hx)]; rfl, gb6⟩
            · have hfl := flds_flat_len 0 HO.out
              have hnl : (numL d r.major 8).length = 8 := numL_ok' rfl HT.out
              have hnl2 : (bs (wrS r.major 8 (d == 3)).1).size = 8 := by rw [bs_size]; exact hnl
              obtain ⟨w7, hrun, hB7, hg7⟩ := run_copy_buf (P := Tryz.prog) 85 9 3 5 Tryz.underlying85 (by kernel_rfl) gB6 329 183 183 (bs (wrS r.major 8 (d == 3)).1) (by omega) (by omega)
              go_wp2
              rw [show (bs (wrS r.major 8 (d == 3)).1).data.toList = numL d r.major 8 from rfl, step_num5 HO.out HT.out] at hB7
              exact ⟨⟨6, by omega, rfl, hB7, gr6.grown hg7 (by omega), gp6.grown hg7 (by omega), bl_grown gb6 hg7 (by omega), Lib.hid (HO.out.num5 HT.out)⟩, by simp [intOf]; omega⟩
          · have c0 := gr.cell 12
            have cp := gp.cell 6
            simp at c0 cp
            have hl0 := HR.out.minor0
            have hl1 := HR.out.minor1
            have HD1 := Lib.hid (show d ≠ 1 by have := HM2.out; omega)
            have HT : Hid (numOk d r.minor 8 = ((wrS r.minor 8 (d == 3)).2 == 0)) := Lib.hid (Bool.eq_iff_iff.2 (by unfold numOk; simp only [decide_eq_true_eq, beq_iff_eq]))
            cases hz : ((wrS r.minor 8 (d == 3)).2 == 0)
            all_goals rw [hz] at HT
            all_goals have hz2 : ((wrS r.minor 8 (d == 3)).2 != 0) = !((wrS r.minor 8 (d == 3)).2 == 0) := rfl
            all_goals rw [hz] at hz2
            all_goals go_wp2_with (first | (go_at_call 108; refine (headNumberSpots _).mono ?_; rintro e w4 ⟨rfl, hb3⟩; have gr4 := (gr.bl hb3).alloc (.cells #[.int .i64 337, .int .i64 8] 153); have gp4 := (gp.bl hb3).alloc (.cells #[.int .i64 337, .int .i64 8] 153); have gB4 := (gB.bl hb3).alloc (.cells #[.int .i64 337, .int .i64 8] 153); have gb4 := bl_alloc (bl_then hb3 gb gb.size) (.cells #[.int .i64 337, .int .i64 8] 153); have c3 := gr4.cell 12; have hs3 := Blk.new w4 #[.int .i64 337, .int .i64 8] 153; have c4 : (w4.alloc (.cells #[.int .i64 337, .int .i64 8] 153)).cell? ⟨w4.heap.size, 1, none⟩ = some (.int .i64 8) := hs3.cell 1; simp at c3))
            all_goals have gr5 := gr4.drew
            all_goals have gp5 := gp4.drew
            all_goals have gB5 := gB4.drew
            all_goals have gb5 := bl_drew gb4
            all_goals have hs5 := hs3.drew
            all_goals go_region_held3 (fun w' => w'.cell? ⟨w.heap.size, 12, none⟩ = some (.int .i64 r.minor) ∧ w'.cell? ⟨w4.heap.size, 1, none⟩ = some (.int .i64 8)) (first | exact ⟨c3, c4⟩ | exact ⟨c36, c46⟩) ((go_at_call 109; refine (numWrite r.minor 8 (d == 3) _ hl0 hl1).mono ?_; rintro e w6 ⟨rfl, hb6⟩; have gr6 := gr5.bl hb6; have gp6 := gp5.bl hb6; have gB6 := gB5.bl hb6; have hs6 := hs5.bl hb6; have s6 := hs6.cell 0; simp at s6; have c46 := hs6.cell 1; simp at c46; have c36 := gr6.cell 12; simp at c36; have gb6 := bl_then hb6 gb5 gb5.size))
            · go_wp2
              go_ret2
              exact ⟨by rw [HN.out (show okHead d r = false by rw [← Bool.not_eq_true]; intro hx; unfold okHead at hx; simp [HT.out, HD1.out] at hx)]; rfl, gb6⟩
            · have hfl := flds_flat_len 0 HO.out
              have hnl : (numL d r.minor 8).length = 8 := numL_ok' rfl HT.out
              have hnl2 : (bs (wrS r.minor 8 (d == 3)).1).size = 8 := by rw [bs_size]; exact hnl
              obtain ⟨w7, hrun, hB7, hg7⟩ := run_copy_buf (P := Tryz.prog) 85 9 3 5 Tryz.underlying85 (by kernel_rfl) gB6 337 175 175 (bs (wrS r.minor 8 (d == 3)).1) (by omega) (by omega)
              go_wp2
              rw [show (bs (wrS r.minor 8 (d == 3)).1).data.toList = numL d r.minor 8 from rfl, step_num6 HO.out HT.out] at hB7
              exact ⟨⟨7, by omega, rfl, hB7, gr6.grown hg7 (by omega), gp6.grown hg7 (by omega), bl_grown gb6 hg7 (by omega), Lib.hid (HO.out.num6 HT.out)⟩, by simp [intOf]; omega⟩
        · obtain rfl : M = j := by omega
          have k0 := HR.out.kind0
          have k1 := HR.out.kind1
          have c5 := gr.cell 5
          have hfl := flds_flat_len 0 HO.out
          have hfl2 := flds_flat_len 1 HO.out
          have hfl3 := flds_flat_len 2 HO.out
          have hc := gB.cell (i := 156) (by omega)
          have hf := gB.free 156
          have gs := gB.set 156 (v := r.kind) k0 (by omega)
          rw [step_kind HO.out] at gs
          have gbs := bl_set gb (a := ⟨B, 156, none⟩) (by show w.heap.size ≤ B; omega) (.int .u8 r.kind)
          simp at c5
          have hOk := Lib.hid (show okHead d r = true by
            have h := HO.out
            have hM := HM2.out
            unfold okHead
            simp only [h.t0 (by omega), h.t1 (by omega), h.t2 (by omega), h.t3 (by omega), h.t4 (by omega), h.n0 (by omega), h.n1 (by omega), h.n2 (by omega), h.n3 (by omega), h.n4 (by omega), Bool.true_and, Bool.and_true]
            by_cases hd : d = 1
            · rw [if_pos hd]
            · rw [if_neg hd, h.n5 (by omega), h.n6 (by omega)]; rfl)
          have HE : Hid (sealL (flds d r 5 M 2).flatten = sealL (rawL d r)) := Lib.hid (by
            rw [← seal_flds hOk.out]
            congr 3
            have hM := HM2.out
            split <;> omega)
          have HF := Lib.hid (show headS d r = (sealL (flds d r 5 M 2).flatten, 0) by rw [HS.out, if_pos hOk.out, HE.out])
          clear hq1 hq2 hq3
          rcases HM2.out with ⟨hd, rfl⟩ | ⟨hd, rfl⟩ | ⟨hd, rfl⟩
          · subst hd
            rw [mag_one] at gs
            have hcv := run_buf_string Tryz.prog 85 9 5 Tryz.underlying85 Tryz.underlying5 Tryz.underlying9 gs 512 512 hfl3.symm
            go_wp2_with (first | (go_at_call 80; refine (blockSeal _ _ (by rw [bs_size]; exact hfl3)).mono ?_; rintro e w8 ⟨rfl, hb8⟩))
            go_ret2
            exact ⟨by rw [HF.out]; rfl, bl_then hb8 gbs gbs.size⟩
          · have HG := Lib.hid (step_mag HO.out)
            have hmg : magL d = [117, 115, 116, 97, 114, 0, 48, 48] := by unfold magL; rw [if_neg (by omega), if_neg (by omega)]
            obtain ⟨w7, hrun, hB7, hg7⟩ := run_copy_buf (P := Tryz.prog) 85 9 3 5 Tryz.underlying85 (by kernel_rfl) gs 257 255 255 ⟨#[117, 115, 116, 97, 114, 0, 48, 48]⟩ (by decide) (by rw [hfl2]; decide)
            rw [show (⟨#[117, 115, 116, 97, 114, 0, 48, 48]⟩ : ByteArray).data.toList = magL d from hmg.symm, HG.out] at hB7
            have hcv := run_buf_string Tryz.prog 85 9 5 Tryz.underlying85 Tryz.underlying5 Tryz.underlying9 hB7 512 512 hfl3.symm
            have gb7 := bl_grown gbs hg7 (by omega)
            rcases hd with rfl | rfl
            all_goals
              go_wp2_with (first | (go_at_call 80; refine (blockSeal _ _ (by rw [bs_size]; exact hfl3)).mono ?_; rintro e w8 ⟨rfl, hb8⟩))
              go_ret2
              exact ⟨by rw [HF.out]; rfl, bl_then hb8 gb7 gb7.size⟩
          · have HG := Lib.hid (step_mag HO.out)
            have hmg : magL d = [117, 115, 116, 97, 114, 32, 32, 0] := by unfold magL; rw [if_neg (by omega), if_pos (by omega)]
            obtain ⟨w7, hrun, hB7, hg7⟩ := run_copy_buf (P := Tryz.prog) 85 9 3 5 Tryz.underlying85 (by kernel_rfl) gs 257 255 255 ⟨#[117, 115, 116, 97, 114, 32, 32, 0]⟩ (by decide) (by rw [hfl2]; decide)
            rw [show (⟨#[117, 115, 116, 97, 114, 32, 32, 0]⟩ : ByteArray).data.toList = magL d from hmg.symm, HG.out] at hB7
            have hcv := run_buf_string Tryz.prog 85 9 5 Tryz.underlying85 Tryz.underlying5 Tryz.underlying9 hB7 512 512 hfl3.symm
            have gb7 := bl_grown gbs hg7 (by omega)
            subst hd
            go_wp2_with (first | (go_at_call 80; refine (blockSeal _ _ (by rw [bs_size]; exact hfl3)).mono ?_; rintro e w8 ⟨rfl, hb8⟩))
            go_ret2
            exact ⟨by rw [HF.out]; rfl, bl_then hb8 gb7 gb7.size⟩
end Go.Proofs.YtehkfbgbpmfpmaaGreatDoor
