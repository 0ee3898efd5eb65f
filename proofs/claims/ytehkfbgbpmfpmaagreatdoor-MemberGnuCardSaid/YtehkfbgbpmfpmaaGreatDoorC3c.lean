/- revetmentref.HeadWrite, by dialect. -/
import Derived.Test.YtehkfbgbpmfpmaaGreatDoorC3
namespace Go.Proofs.YtehkfbgbpmfpmaaGreatDoor
set_option linter.unusedVariables false
set_option linter.unusedSimpArgs false
open Go.RowKit

set_option maxRecDepth 100000 in
set_option maxHeartbeats 16000000 in
theorem refHead_1 (d : Int) (r : RawR) (hr : RawB r) (w : World) (hd1 : 1 ≤ d) (hd2 : d ≤ 4) (hkd : r.kind ≠ 0) (hdd : d = 1) (hE : (r.user ++ r.group ++ r.front).toList.isEmpty = true) (hmj : (r.major != 0) = false) (hmn : (r.minor != 0) = false) (hS : headS d r = if okHead d r = true then (sealL (rawL d r), 0) else ([], 2)) :
    Calls Tryz.prog 43 #[.int .i64 d, .agg #[.string r.name, .string r.link, .string r.user, .string r.group, .string r.front, .int .u8 r.kind, .int .i64 r.mode, .int .i64 r.uid, .int .i64 r.gid, .int .i64 r.size, .int .i64 r.time, .int .i64 r.major, .int .i64 r.minor]] w fun e w' => e = .returned (.tuple #[.string (bs (headS d r).1), .int .i64 (headS d r).2]) ∧ Below w.heap.size w w' := by
  have HS := Lib.hid hS
  clear hS
  have hq1 : decide (1 ≤ d) = true := decide_eq_true hd1
  have hq2 : decide (d ≤ 4) = true := decide_eq_true hd2
  have hq3 : (r.kind == 0) = false := by simpa using hkd
  have hq4 : (d == 1) = true := by simpa using hdd
  have hq5 : (d == 3) = false := by simp [hdd]
  have Hdd := Lib.hid hdd
  have hraw := Lib.hid (show rawL d r = textL r.name 100 ++ (numL d r.mode 8 ++ (numL d r.uid 8 ++ (numL d r.gid 8 ++ (numL d r.size 12 ++ (numL d r.time 12 ++ (32 :: (32 :: (32 :: (32 :: (32 :: (32 :: (32 :: (32 :: (byt r.kind :: (textL r.link 100 ++ (magL d ++ (textL r.user 32 ++ (textL r.group 32 ++ (0 :: (0 :: (0 :: (0 :: (0 :: (0 :: (0 :: (0 :: (0 :: (0 :: (0 :: (0 :: (0 :: (0 :: (0 :: (0 :: (textL r.front 155 ++ ([0, 0, 0, 0, 0, 0, 0, 0, 0, 0, 0, 0])))))))))))))))))))))))))))))))))))) by unfold rawL; rw [if_pos hdd])
  have hlen := Lib.hid (fun h : okHead d r = true => (show (textL r.name 100 ++ (numL d r.mode 8 ++ (numL d r.uid 8 ++ (numL d r.gid 8 ++ (numL d r.size 12 ++ (numL d r.time 12 ++ (32 :: (32 :: (32 :: (32 :: (32 :: (32 :: (32 :: (32 :: (byt r.kind :: (textL r.link 100 ++ (magL d ++ (textL r.user 32 ++ (textL r.group 32 ++ (0 :: (0 :: (0 :: (0 :: (0 :: (0 :: (0 :: (0 :: (0 :: (0 :: (0 :: (0 :: (0 :: (0 :: (0 :: (0 :: (textL r.front 155 ++ ([0, 0, 0, 0, 0, 0, 0, 0, 0, 0, 0, 0]))))))))))))))))))))))))))))))))))))).length = 512 by have := rawL_len h; rw [hraw.out] at this; exact this))
  have hokE := Lib.hid (show (true && textOk r.name 100 && numOk d r.mode 8 && numOk d r.uid 8 && numOk d r.gid 8 && numOk d r.size 12 && numOk d r.time 12 && textOk r.link 100 && textOk r.user 32 && textOk r.group 32 && textOk r.front 155) = okHead d r by unfold okHead; rw [if_pos hdd]; simp only [Bool.true_and, Bool.and_true, Bool.and_assoc])
  have hb1 := hr.user
  have hb2 := hr.group
  have hb3 := hr.front
  have hb4 := hr.name
  have hb5 := hr.link
  have hk0 := hr.kind0
  have hk255 := hr.kind1
  have hw1 : wrap64 r.kind = r.kind := by unfold wrap64; omega
  have hw2 : IntKind.i64.wrap r.kind = r.kind := IntWalk.i64_in _ (by omega)
  have hn1 := hr.mode0
  have hn2 := hr.mode1
  have hn3 := hr.uid0
  have hn4 := hr.uid1
  have hn5 := hr.gid0
  have hn6 := hr.gid1
  have hn7 := hr.size0
  have hn8 := hr.size1
  have hn9 := hr.time0
  have hn10 := hr.time1
  have hn11 := hr.major0
  have hn12 := hr.major1
  have hn13 := hr.minor0
  have hn14 := hr.minor1
  clear hdd Hdd
  go_enter Tryz.func43, Tryz.ntmps43
  go_wp2_with (first | (go_at_call 27; refine (refWithin _ _ _ _).mono ?_; rintro e w' ⟨rfl, rfl⟩) | fail)
  have k1 : Blk (((w.alloc (.cells #[.int .i64 d] 3)).alloc (.cells #[.string r.name, .string r.link, .string r.user, .string r.group, .string r.front, .int .u8 r.kind, .int .i64 r.mode, .int .i64 r.uid, .int .i64 r.gid, .int .i64 r.size, .int .i64 r.time, .int .i64 r.major, .int .i64 r.minor] 55)).alloc (.cells #[.bool true] 4)) w.heap.size #[.int .i64 d] 3 := ((Blk.new w _ _).alloc _).alloc _
  have k2 : Blk (((w.alloc (.cells #[.int .i64 d] 3)).alloc (.cells #[.string r.name, .string r.link, .string r.user, .string r.group, .string r.front, .int .u8 r.kind, .int .i64 r.mode, .int .i64 r.uid, .int .i64 r.gid, .int .i64 r.size, .int .i64 r.time, .int .i64 r.major, .int .i64 r.minor] 55)).alloc (.cells #[.bool true] 4)) (w.heap.size + 1) #[.string r.name, .string r.link, .string r.user, .string r.group, .string r.front, .int .u8 r.kind, .int .i64 r.mode, .int .i64 r.uid, .int .i64 r.gid, .int .i64 r.size, .int .i64 r.time, .int .i64 r.major, .int .i64 r.minor] 55 := by
    have := (Blk.new (w.alloc (.cells #[.int .i64 d] 3)) #[.string r.name, .string r.link, .string r.user, .string r.group, .string r.front, .int .u8 r.kind, .int .i64 r.mode, .int .i64 r.uid, .int .i64 r.gid, .int .i64 r.size, .int .i64 r.time, .int .i64 r.major, .int .i64 r.minor] 55).alloc (.cells #[.bool true] 4)
    rwa [World.size_alloc] at this
  have k3 : Blk (((w.alloc (.cells #[.int .i64 d] 3)).alloc (.cells #[.string r.name, .string r.link, .string r.user, .string r.group, .string r.front, .int .u8 r.kind, .int .i64 r.mode, .int .i64 r.uid, .int .i64 r.gid, .int .i64 r.size, .int .i64 r.time, .int .i64 r.major, .int .i64 r.minor] 55)).alloc (.cells #[.bool true] 4)) (w.heap.size + 1 + 1) #[.bool true] 4 := by
    have := (Blk.new ((w.alloc (.cells #[.int .i64 d] 3)).alloc (.cells #[.string r.name, .string r.link, .string r.user, .string r.group, .string r.front, .int .u8 r.kind, .int .i64 r.mode, .int .i64 r.uid, .int .i64 r.gid, .int .i64 r.size, .int .i64 r.time, .int .i64 r.major, .int .i64 r.minor] 55)) #[.bool true] 4)
    rwa [World.size_alloc, World.size_alloc] at this
  have kb : Below w.heap.size w (((w.alloc (.cells #[.int .i64 d] 3)).alloc (.cells #[.string r.name, .string r.link, .string r.user, .string r.group, .string r.front, .int .u8 r.kind, .int .i64 r.mode, .int .i64 r.uid, .int .i64 r.gid, .int .i64 r.size, .int .i64 r.time, .int .i64 r.major, .int .i64 r.minor] 55)).alloc (.cells #[.bool true] 4)) := bl_alloc (bl_alloc (bl_alloc (bl_refl w) _) _) _
  generalize (((w.alloc (.cells #[.int .i64 d] 3)).alloc (.cells #[.string r.name, .string r.link, .string r.user, .string r.group, .string r.front, .int .u8 r.kind, .int .i64 r.mode, .int .i64 r.uid, .int .i64 r.gid, .int .i64 r.size, .int .i64 r.time, .int .i64 r.major, .int .i64 r.minor] 55)).alloc (.cells #[.bool true] 4)) = W at *
  have k1 := k1.drew
  have k2 := k2.drew
  have k3 := k3.drew
  have c0 := k2.cell 0
  have c1 := k2.cell 1
  have c2 := k2.cell 2
  have c3 := k2.cell 3
  have c5 := k2.cell 5
  have c6 := k2.cell 6
  have c7 := k2.cell 7
  have c8 := k2.cell 8
  have c9 := k2.cell 9
  have c10 := k2.cell 10
  have cd := k1.cell 0
  have kb := bl_drew kb
  simp at c0 c1 c2 c3 c5 c6 c7 c8 c9 c10 cd
  have L1 := textL_len r.name 100 (by omega)
  have L2 := textL_len r.link 100 (by omega)
  have L3 := textL_len r.user 32 (by omega)
  have L4 := textL_len r.group 32 (by omega)
  have L5 := textL_len r.front 155 (by omega)
  have N1 := numL_len d r.mode 8
  have N2 := numL_len d r.uid 8
  have N3 := numL_len d r.gid 8
  have N4 := numL_len d r.size 12
  have N5 := numL_len d r.time 12
  have N6 := numL_len d r.major 8
  have N7 := numL_len d r.minor 8
  have M1 := magL_len d
  have F0 : Fits (textL r.name 100) (numL d r.mode 8) := by unfold Fits; (try simp only [List.length_append, List.length_cons, List.length_nil]); omega
  have F1 : Fits (textL r.name 100 ++ (numL d r.mode 8)) (numL d r.uid 8) := by unfold Fits; (try simp only [List.length_append, List.length_cons, List.length_nil]); omega
  have F2 : Fits (textL r.name 100 ++ (numL d r.mode 8 ++ (numL d r.uid 8))) (numL d r.gid 8) := by unfold Fits; (try simp only [List.length_append, List.length_cons, List.length_nil]); omega
  have F3 : Fits (textL r.name 100 ++ (numL d r.mode 8 ++ (numL d r.uid 8 ++ (numL d r.gid 8)))) (numL d r.size 12) := by unfold Fits; (try simp only [List.length_append, List.length_cons, List.length_nil]); omega
  have F4 : Fits (textL r.name 100 ++ (numL d r.mode 8 ++ (numL d r.uid 8 ++ (numL d r.gid 8 ++ (numL d r.size 12))))) (numL d r.time 12) := by unfold Fits; (try simp only [List.length_append, List.length_cons, List.length_nil]); omega
  have F5 : Fits (textL r.name 100 ++ (numL d r.mode 8 ++ (numL d r.uid 8 ++ (numL d r.gid 8 ++ (numL d r.size 12 ++ (numL d r.time 12)))))) ([32, 32, 32, 32, 32, 32, 32, 32]) := by unfold Fits; (try simp only [List.length_append, List.length_cons, List.length_nil]); omega
  have F6 : Fits (textL r.name 100 ++ (numL d r.mode 8 ++ (numL d r.uid 8 ++ (numL d r.gid 8 ++ (numL d r.size 12 ++ (numL d r.time 12 ++ ([32, 32, 32, 32, 32, 32, 32, 32]))))))) ([byt r.kind]) := by unfold Fits; (try simp only [List.length_append, List.length_cons, List.length_nil]); omega
  have F7 : Fits (textL r.name 100 ++ (numL d r.mode 8 ++ (numL d r.uid 8 ++ (numL d r.gid 8 ++ (numL d r.size 12 ++ (numL d r.time 12 ++ ([32, 32, 32, 32, 32, 32, 32, 32, byt r.kind]))))))) (textL r.link 100) := by unfold Fits; (try simp only [List.length_append, List.length_cons, List.length_nil]); omega
  have F8 : Fits (textL r.name 100 ++ (numL d r.mode 8 ++ (numL d r.uid 8 ++ (numL d r.gid 8 ++ (numL d r.size 12 ++ (numL d r.time 12 ++ (32 :: (32 :: (32 :: (32 :: (32 :: (32 :: (32 :: (32 :: (byt r.kind :: (textL r.link 100)))))))))))))))) (magL d) := by unfold Fits; (try simp only [List.length_append, List.length_cons, List.length_nil]); omega
  have F9 : Fits (textL r.name 100 ++ (numL d r.mode 8 ++ (numL d r.uid 8 ++ (numL d r.gid 8 ++ (numL d r.size 12 ++ (numL d r.time 12 ++ (32 :: (32 :: (32 :: (32 :: (32 :: (32 :: (32 :: (32 :: (byt r.kind :: (textL r.link 100 ++ (magL d))))))))))))))))) (textL r.user 32) := by unfold Fits; (try simp only [List.length_append, List.length_cons, List.length_nil]); omega
  have F10 : Fits (textL r.name 100 ++ (numL d r.mode 8 ++ (numL d r.uid 8 ++ (numL d r.gid 8 ++ (numL d r.size 12 ++ (numL d r.time 12 ++ (32 :: (32 :: (32 :: (32 :: (32 :: (32 :: (32 :: (32 :: (byt r.kind :: (textL r.link 100 ++ (magL d ++ (textL r.user 32)))))))))))))))))) (textL r.group 32) := by unfold Fits; (try simp only [List.length_append, List.length_cons, List.length_nil]); omega
  have G0 : Fits (textL r.name 100 ++ (numL d r.mode 8 ++ (numL d r.uid 8 ++ (numL d r.gid 8 ++ (numL d r.size 12 ++ (numL d r.time 12 ++ (32 :: (32 :: (32 :: (32 :: (32 :: (32 :: (32 :: (32 :: (byt r.kind :: (textL r.link 100 ++ (magL d ++ (textL r.user 32 ++ (textL r.group 32))))))))))))))))))) ([0, 0, 0, 0, 0, 0, 0, 0, 0, 0, 0, 0, 0, 0, 0, 0]) := by unfold Fits; (try simp only [List.length_append, List.length_cons, List.length_nil]); omega
  have G2 : Fits (textL r.front 155) ([0, 0, 0, 0, 0, 0, 0, 0, 0, 0, 0, 0]) := by unfold Fits; (try simp only [List.length_append, List.length_cons, List.length_nil]); omega
  have G3 : Fits (textL r.name 100 ++ (numL d r.mode 8 ++ (numL d r.uid 8 ++ (numL d r.gid 8 ++ (numL d r.size 12 ++ (numL d r.time 12 ++ (32 :: (32 :: (32 :: (32 :: (32 :: (32 :: (32 :: (32 :: (byt r.kind :: (textL r.link 100 ++ (magL d ++ (textL r.user 32 ++ (textL r.group 32 ++ ([0, 0, 0, 0, 0, 0, 0, 0, 0, 0, 0, 0, 0, 0, 0, 0])))))))))))))))))))) (textL r.front 155 ++ ([0, 0, 0, 0, 0, 0, 0, 0, 0, 0, 0, 0])) := by unfold Fits; (try simp only [List.length_append, List.length_cons, List.length_nil]); omega
  clear L1 L2 L3 L4 N1 N2 N3 N4 N5 M1 L5 N6 N7
  go_region_held3 (fun w' => w'.cell? ⟨w.heap.size + 1, 0, none⟩ = some (.string r.name) ∧ w'.cell? ⟨w.heap.size + 1, 1, none⟩ = some (.string r.link) ∧ w'.cell? ⟨w.heap.size + 1, 2, none⟩ = some (.string r.user) ∧ w'.cell? ⟨w.heap.size + 1, 3, none⟩ = some (.string r.group) ∧ w'.cell? ⟨w.heap.size + 1, 5, none⟩ = some (.int .u8 r.kind) ∧ w'.cell? ⟨w.heap.size + 1, 6, none⟩ = some (.int .i64 r.mode) ∧ w'.cell? ⟨w.heap.size + 1, 7, none⟩ = some (.int .i64 r.uid) ∧ w'.cell? ⟨w.heap.size + 1, 8, none⟩ = some (.int .i64 r.gid) ∧ w'.cell? ⟨w.heap.size + 1, 9, none⟩ = some (.int .i64 r.size) ∧ w'.cell? ⟨w.heap.size + 1, 10, none⟩ = some (.int .i64 r.time) ∧ w'.cell? ⟨w.heap.size, 0, none⟩ = some (.int .i64 d))
    (first
      | exact ⟨c0, c1, c2, c3, c5, c6, c7, c8, c9, c10, cd⟩
      | (go_split_ands; (refine ⟨?_, ?_, ?_, ?_, ?_, ?_, ?_, ?_, ?_, ?_, ?_⟩ <;> (refine grown_cell hg1 (by assumption) (by dsimp only; omega)))))
    (first
      | (go_at_call 87; refine (refText _ _ _ _ _ (by assumption) (by omega) (by omega) (by omega)).mono ?_; rintro e w1 ⟨rfl, hk1, hg1⟩; have kd1 := Blk.grown (t := 3) (cs := #[.int .i64 d]) (b := w.heap.size) (by assumption) hg1 (by omega); have kb1 := bl_grown (w := w) (by assumption) hg1 (by omega); have kr1 := Blk.grown (t := 55) (cs := #[.string r.name, .string r.link, .string r.user, .string r.group, .string r.front, .int .u8 r.kind, .int .i64 r.mode, .int .i64 r.uid, .int .i64 r.gid, .int .i64 r.size, .int .i64 r.time, .int .i64 r.major, .int .i64 r.minor]) (b := w.heap.size + 1) (by assumption) hg1 (by omega))
      | (go_at_call 66; refine (refChar _ _).mono ?_; rintro e w1 ⟨rfl, hb⟩; have hg1 := grown_bl (w.heap.size + 1 + 1) hb; have kd1 := Blk.grown (t := 3) (cs := #[.int .i64 d]) (b := w.heap.size) (by assumption) hg1 (by omega); have kb1 := bl_grown (w := w) (by assumption) hg1 (by omega); have kr1 := Blk.grown (t := 55) (cs := #[.string r.name, .string r.link, .string r.user, .string r.group, .string r.front, .int .u8 r.kind, .int .i64 r.mode, .int .i64 r.uid, .int .i64 r.gid, .int .i64 r.size, .int .i64 r.time, .int .i64 r.major, .int .i64 r.minor]) (b := w.heap.size + 1) (by assumption) hg1 (by omega); have hk1 := Blk.bl (b := w.heap.size + 1 + 1) (t := 4) (by assumption) hb)
      | (go_at_call 91; refine (refMagic d _ (by omega) (by omega)).mono ?_; rintro e w1 ⟨rfl, hb⟩; have hg1 := grown_bl (w.heap.size + 1 + 1) hb; have kd1 := Blk.grown (t := 3) (cs := #[.int .i64 d]) (b := w.heap.size) (by assumption) hg1 (by omega); have kb1 := bl_grown (w := w) (by assumption) hg1 (by omega); have kr1 := Blk.grown (t := 55) (cs := #[.string r.name, .string r.link, .string r.user, .string r.group, .string r.front, .int .u8 r.kind, .int .i64 r.mode, .int .i64 r.uid, .int .i64 r.gid, .int .i64 r.size, .int .i64 r.time, .int .i64 r.major, .int .i64 r.minor]) (b := w.heap.size + 1) (by assumption) hg1 (by omega); have hk1 := Blk.bl (b := w.heap.size + 1 + 1) (t := 4) (by assumption) hb)
      | (go_at_call 89; refine (refNum _ _ d w.heap.size _ _ _ (by assumption) (by assumption) (by omega) (by omega) (by omega)).mono ?_; rintro e w1 ⟨rfl, hk1, hg1⟩; have kd1 := Blk.grown (t := 3) (cs := #[.int .i64 d]) (b := w.heap.size) (by assumption) hg1 (by omega); have kb1 := bl_grown (w := w) (by assumption) hg1 (by omega); have kr1 := Blk.grown (t := 55) (cs := #[.string r.name, .string r.link, .string r.user, .string r.group, .string r.front, .int .u8 r.kind, .int .i64 r.mode, .int .i64 r.uid, .int .i64 r.gid, .int .i64 r.size, .int .i64 r.time, .int .i64 r.major, .int .i64 r.minor]) (b := w.heap.size + 1) (by assumption) hg1 (by omega)))
  have rd := kd1.cell 0
  simp at rd
  go_wp2_with (first | (go_at_call 21; refine (repByte 0 16 _ (by omega) (by omega)).mono ?_; rintro e w1 ⟨rfl, hb⟩; have hg1 := grown_bl (w.heap.size + 1 + 1) hb; have kd1 := Blk.grown (t := 3) (cs := #[.int .i64 d]) (b := w.heap.size) (by assumption) hg1 (by omega); have kb1 := bl_grown (w := w) (by assumption) hg1 (by omega); have kr1 := Blk.grown (t := 55) (cs := #[.string r.name, .string r.link, .string r.user, .string r.group, .string r.front, .int .u8 r.kind, .int .i64 r.mode, .int .i64 r.uid, .int .i64 r.gid, .int .i64 r.size, .int .i64 r.time, .int .i64 r.major, .int .i64 r.minor]) (b := w.heap.size + 1) (by assumption) hg1 (by omega); have hk1 := Blk.bl (b := w.heap.size + 1 + 1) (t := 4) (by assumption) hb; have r4 := kr1.cell 4; simp at r4) | fail)
  go_wp2_with (first
    | (go_at_call 87; refine (refText r.front 155 (w.heap.size + 1 + 1) _ _ hk1 (by omega) (by omega) (by omega)).mono ?_; rintro e w2 ⟨rfl, hk2, hg2⟩; have kb2 := bl_grown (w := w) kb1 hg2 (by omega))
    | (go_at_call 21; refine (repByte 0 12 _ (by omega) (by omega)).mono ?_; rintro e w3 ⟨rfl, hb3'⟩; obtain ⟨okb, hokb, hk3⟩ : ∃ b : Bool, b = _ ∧ Blk w3 (w.heap.size + 1 + 1) #[.bool b] 4 := ⟨_, rfl, hk2.bl hb3'⟩; have ok3 := hk3.cell 0; simp at ok3; have Hok := Lib.hid hokb; clear hokb; have kb3 := bl_then hb3' kb2 kb2.size)
    | (go_at_call 64; refine (refSeal _ _ (by rw [bs_size]; exact hlen.out (by rw [← hokE.out, ← Hok.out]; exact not_f (by assumption)))).mono ?_; rintro e w4 ⟨rfl, hb4'⟩; have kb4 := bl_then hb4' kb3 kb3.size))
  all_goals go_ret2
  all_goals
    first
      | exact ⟨by rw [HS.out, if_pos (by rw [← hokE.out, ← Hok.out]; exact not_f (by assumption)), hraw.out]; rfl, kb4⟩
      | exact ⟨by rw [HS.out, if_neg (by rw [← hokE.out, ← Hok.out, not_t (show (!okb) = true by assumption)]; simp)]; rfl, kb3⟩
end Go.Proofs.YtehkfbgbpmfpmaaGreatDoor
