/- revetmentref.whole, member.written. -/
import Derived.Test.YtehkfbgbpmfpmaaGreatDoorD2
import Derived.Test.YtehkfbgbpmfpmaaGreatDoorC7
import Derived.Test.YtehkfbgbpmfpmaaGreatDoorW3
namespace Go.Proofs.YtehkfbgbpmfpmaaGreatDoor
set_option linter.unusedVariables false
set_option linter.unusedSimpArgs false
open Go.RowKit

/-- a header with a name and a link, and bytes, filled: its text, its errno -/
def wholeR (d : Int) (r : RawR) (n l : ByteArray) : RawR := { namedR d r n with link := l }
def wholeS (d : Int) (r : RawR) (n l data : ByteArray) : List UInt8 × Int :=
  if namedOk d n = false then ([], 2) else if (headS d (wholeR d r n l)).2 ≠ 0 then ([], (headS d (wholeR d r n l)).2) else ((headS d (wholeR d r n l)).1 ++ fillL data.data.toList, 0)
theorem splitS_size (s : ByteArray) : (splitS s).1.size ≤ s.size ∧ (splitS s).2.1.size ≤ s.size := by
  unfold splitS
  split
  · simp [bs_size]
  · split
    · simp [bs_size]
    · simp [ByteArray.size_extract]; omega
theorem wholeR_B {d : Int} {r : RawR} {n l : ByteArray} (h : RawB r) (hn : n.size ≤ 100000) (hl : l.size ≤ 100000) : RawB (wholeR d r n l) := by
  have hs := splitS_size n
  unfold wholeR namedR
  split
  · exact { h with name := by show (splitS n).2.1.size ≤ _; omega, front := by show (splitS n).1.size ≤ _; omega, link := hl }
  · exact { h with name := hn, front := by show (bs []).size ≤ _; rw [bs_size]; exact Nat.zero_le _, link := hl }
theorem headS_len (d : Int) (r : RawR) : (headS d r).1.length ≤ 512 := by
  unfold headS
  split
  · simp
  · split
    · simp
    · split
      · rename_i h
        have := rawL_len h
        simp only [sealL, List.length_append, List.length_take, List.length_cons, List.length_drop, octL_length]
        omega
      · simp

set_option maxRecDepth 100000 in
set_option maxHeartbeats 8000000 in
theorem refWhole (d : Int) (r : RawR) (n l data : ByteArray) (w : World) (hr : RawB r) (hn : n.size ≤ 100000) (hl : l.size ≤ 100000) (hdt : data.size ≤ 1000000) :
    Calls Tryz.prog 20 #[.int .i64 d, .agg #[.string r.name, .string r.link, .string r.user, .string r.group, .string r.front, .int .u8 r.kind, .int .i64 r.mode, .int .i64 r.uid, .int .i64 r.gid, .int .i64 r.size, .int .i64 r.time, .int .i64 r.major, .int .i64 r.minor], .string n, .string l, .string data] w fun e w' => e = .returned (.tuple #[.string (bs (wholeS d r n l data).1), .int .i64 (wholeS d r n l data).2]) ∧ Below w.heap.size w w' := by
  have HR := Lib.hid (wholeR_B (d := d) hr hn hl)
  have HFit : Fits (headS d (wholeR d r n l)).1 (fillL data.data.toList) := by
    have h1 := headS_len d (wholeR d r n l)
    have h2 := padS_range (data.data.toList.length : Int)
    have h3 := Lib.size_eq data
    unfold Fits fillL
    simp only [List.length_append, List.length_replicate]
    omega
  have hns : n.size ≤ 1000000000 := by omega
  have hds : data.size ≤ 1000000000000 := by omega
  clear hr
  cases hok : namedOk d n
  · have HS := Lib.hid (show wholeS d r n l data = ([], 2) by unfold wholeS; rw [if_pos hok])
    go_enter Tryz.func20, Tryz.ntmps20
    go_wp2_with (first | (go_at_call 42; refine (refNamed d r n _ hns).mono ?_; rintro e w1 ⟨rfl, hb⟩; have k1 := (Blk.new w #[.string r.name, .string r.link, .string r.user, .string r.group, .string r.front, .int .u8 r.kind, .int .i64 r.mode, .int .i64 r.uid, .int .i64 r.gid, .int .i64 r.size, .int .i64 r.time, .int .i64 r.major, .int .i64 r.minor] 55).bl hb; have kb := bl_then hb (bl_alloc (bl_refl w) (.cells #[.string r.name, .string r.link, .string r.user, .string r.group, .string r.front, .int .u8 r.kind, .int .i64 r.mode, .int .i64 r.uid, .int .i64 r.gid, .int .i64 r.size, .int .i64 r.time, .int .i64 r.major, .int .i64 r.minor] 55)) (by simp); clear hb; have hi0 : (Tryz.prog.info? 55).map (·.size) = some 13 := by kernel_rfl) | ((with_reducible refine wpList_store_blk rfl 55 (.tmp 6) (.tmp 20) rfl w.heap.size #[.string (namedR d r n).name, .string (namedR d r n).link, .string (namedR d r n).user, .string (namedR d r n).group, .string (namedR d r n).front, .int .u8 (namedR d r n).kind, .int .i64 (namedR d r n).mode, .int .i64 (namedR d r n).uid, .int .i64 (namedR d r n).gid, .int .i64 (namedR d r n).size, .int .i64 (namedR d r n).time, .int .i64 (namedR d r n).major, .int .i64 (namedR d r n).minor] ?_ ?_ k1 ?_ ?_ ?_ ?_); rfl; rfl; rfl; exact hi0; (simp [Value.oneCell']); intro w4 k2 hg2; have kb2 := bl_grown kb hg2 (Nat.le_refl _); have c0 := k2.cell 0; have c1 := k2.cell 1; have c2 := k2.cell 2; have c3 := k2.cell 3; have c4 := k2.cell 4; have c5 := k2.cell 5; have c6 := k2.cell 6; have c7 := k2.cell 7; have c8 := k2.cell 8; have c9 := k2.cell 9; have c10 := k2.cell 10; have c11 := k2.cell 11; have c12 := k2.cell 12; have f1 := k2.free 1; simp at c0 c1 c2 c3 c4 c5 c6 c7 c8 c9 c10 c11 c12))
    go_ret2
    refine ⟨by rw [HS.out]; rfl, ?_⟩
    exact kb2
  · have HS := Lib.hid (show wholeS d r n l data = if (headS d (wholeR d r n l)).2 ≠ 0 then ([], (headS d (wholeR d r n l)).2) else ((headS d (wholeR d r n l)).1 ++ fillL data.data.toList, 0) by unfold wholeS; rw [if_neg (by rw [hok]; simp)])
    cases hz : ((headS d (wholeR d r n l)).2 != 0)
    all_goals
      go_enter Tryz.func20, Tryz.ntmps20
      go_wp2_with (first | (go_at_call 42; refine (refNamed d r n _ hns).mono ?_; rintro e w1 ⟨rfl, hb⟩; have k1 := (Blk.new w #[.string r.name, .string r.link, .string r.user, .string r.group, .string r.front, .int .u8 r.kind, .int .i64 r.mode, .int .i64 r.uid, .int .i64 r.gid, .int .i64 r.size, .int .i64 r.time, .int .i64 r.major, .int .i64 r.minor] 55).bl hb; have kb := bl_then hb (bl_alloc (bl_refl w) (.cells #[.string r.name, .string r.link, .string r.user, .string r.group, .string r.front, .int .u8 r.kind, .int .i64 r.mode, .int .i64 r.uid, .int .i64 r.gid, .int .i64 r.size, .int .i64 r.time, .int .i64 r.major, .int .i64 r.minor] 55)) (by simp); clear hb; have hi0 : (Tryz.prog.info? 55).map (·.size) = some 13 := by kernel_rfl) | ((with_reducible refine wpList_store_blk rfl 55 (.tmp 6) (.tmp 20) rfl w.heap.size #[.string (namedR d r n).name, .string (namedR d r n).link, .string (namedR d r n).user, .string (namedR d r n).group, .string (namedR d r n).front, .int .u8 (namedR d r n).kind, .int .i64 (namedR d r n).mode, .int .i64 (namedR d r n).uid, .int .i64 (namedR d r n).gid, .int .i64 (namedR d r n).size, .int .i64 (namedR d r n).time, .int .i64 (namedR d r n).major, .int .i64 (namedR d r n).minor] ?_ ?_ k1 ?_ ?_ ?_ ?_); rfl; rfl; rfl; exact hi0; (simp [Value.oneCell']); intro w4 k2 hg2; have kb2 := bl_grown kb hg2 (Nat.le_refl _); have c0 := k2.cell 0; have c1 := k2.cell 1; have c2 := k2.cell 2; have c3 := k2.cell 3; have c4 := k2.cell 4; have c5 := k2.cell 5; have c6 := k2.cell 6; have c7 := k2.cell 7; have c8 := k2.cell 8; have c9 := k2.cell 9; have c10 := k2.cell 10; have c11 := k2.cell 11; have c12 := k2.cell 12; have f1 := k2.free 1; simp at c0 c1 c2 c3 c4 c5 c6 c7 c8 c9 c10 c11 c12) | (go_at_call 43; refine (refHead d (wholeR d r n l) HR.out _).mono ?_; rintro e w2 ⟨rfl, hb2⟩) | (go_at_call 44; refine (refFill data _ hds).mono ?_; rintro e w3 ⟨rfl, hb3⟩))
    · have kbs := bl_set kb2 (a := ⟨w.heap.size, 1, none⟩) (Nat.le_refl _) (.string l)
      have g2 := bl_then hb2 kbs kbs.size
      go_ret2
      exact ⟨by rw [HS.out, if_neg (by simpa using hz)]; rfl, bl_then hb3 g2 g2.size⟩
    · have kbs := bl_set kb2 (a := ⟨w.heap.size, 1, none⟩) (Nat.le_refl _) (.string l)
      have g2 := bl_then hb2 kbs kbs.size
      go_ret2
      exact ⟨by rw [HS.out, if_pos (by simpa using hz)]; rfl, g2⟩

def rl (r : RawR) (l : ByteArray) : RawR := { r with link := l }
theorem namedR_link (d : Int) (r : RawR) (n l : ByteArray) : namedR d (rl r l) n = wholeR d r n l := by
  unfold wholeR namedR rl; split <;> rfl

set_option maxRecDepth 100000 in
set_option maxHeartbeats 8000000 in
theorem memWritten (d : Int) (r : RawR) (n l data : ByteArray) (w : World) (hr : RawB r) (hn : n.size ≤ 100000) (hl : l.size ≤ 100000) (hdt : data.size ≤ 1000000) :
    Calls Tryz.prog 39 #[.int .i64 d, .agg #[.string r.name, .string r.link, .string r.user, .string r.group, .string r.front, .int .u8 r.kind, .int .i64 r.mode, .int .i64 r.uid, .int .i64 r.gid, .int .i64 r.size, .int .i64 r.time, .int .i64 r.major, .int .i64 r.minor], .string n, .string l, .string data] w fun e w' => e = .returned (.tuple #[.string (bs (wholeS d r n l data).1), errV (wholeS d r n l data).2]) ∧ Below w.heap.size w w' := by
  have HR := Lib.hid (wholeR_B (d := d) hr hn hl)
  have HFit : Fits (headS d (wholeR d r n l)).1 (fillL data.data.toList) := by
    have h1 := headS_len d (wholeR d r n l)
    have h2 := padS_range (data.data.toList.length : Int)
    have h3 := Lib.size_eq data
    unfold Fits fillL
    simp only [List.length_append, List.length_replicate]
    omega
  have hns : n.size ≤ 1000000000 := by omega
  have hds : data.size ≤ 1000000000000 := by omega
  have hNm := fun W : World => headNamed d (rl r l) n W hns
  rw [namedR_link] at hNm
  have HNm := Lib.hid hNm
  clear hr hNm
  cases hok : namedOk d n
  · have HS := Lib.hid (show wholeS d r n l data = ([], 2) by unfold wholeS; rw [if_pos hok])
    rw [hok] at HNm
    go_enter Tryz.func39, Tryz.ntmps39
    go_wp2_with (first | (go_at_call 54; refine (HNm.out _).mono ?_; rintro e w1 ⟨rfl, hb⟩; have k1 := (Blk.new w #[.string (rl r l).name, .string (rl r l).link, .string (rl r l).user, .string (rl r l).group, .string (rl r l).front, .int .u8 (rl r l).kind, .int .i64 (rl r l).mode, .int .i64 (rl r l).uid, .int .i64 (rl r l).gid, .int .i64 (rl r l).size, .int .i64 (rl r l).time, .int .i64 (rl r l).major, .int .i64 (rl r l).minor] 70).bl hb; have kb := bl_then hb (bl_alloc (bl_refl w) (.cells #[.string (rl r l).name, .string (rl r l).link, .string (rl r l).user, .string (rl r l).group, .string (rl r l).front, .int .u8 (rl r l).kind, .int .i64 (rl r l).mode, .int .i64 (rl r l).uid, .int .i64 (rl r l).gid, .int .i64 (rl r l).size, .int .i64 (rl r l).time, .int .i64 (rl r l).major, .int .i64 (rl r l).minor] 70)) (by simp); clear hb; have hi0 : (Tryz.prog.info? 70).map (·.size) = some 13 := by kernel_rfl) | ((with_reducible refine wpList_store_blk rfl 70 (.tmp 6) (.tmp 22) rfl w.heap.size #[.string (wholeR d r n l).name, .string (wholeR d r n l).link, .string (wholeR d r n l).user, .string (wholeR d r n l).group, .string (wholeR d r n l).front, .int .u8 (wholeR d r n l).kind, .int .i64 (wholeR d r n l).mode, .int .i64 (wholeR d r n l).uid, .int .i64 (wholeR d r n l).gid, .int .i64 (wholeR d r n l).size, .int .i64 (wholeR d r n l).time, .int .i64 (wholeR d r n l).major, .int .i64 (wholeR d r n l).minor] ?_ ?_ k1 ?_ ?_ ?_ ?_); rfl; rfl; rfl; exact hi0; (simp [Value.oneCell']); intro w4 k2 hg2; have kb2 := bl_grown kb hg2 (Nat.le_refl _); have c0 := k2.cell 0; have c1 := k2.cell 1; have c2 := k2.cell 2; have c3 := k2.cell 3; have c4 := k2.cell 4; have c5 := k2.cell 5; have c6 := k2.cell 6; have c7 := k2.cell 7; have c8 := k2.cell 8; have c9 := k2.cell 9; have c10 := k2.cell 10; have c11 := k2.cell 11; have c12 := k2.cell 12; simp at c0 c1 c2 c3 c4 c5 c6 c7 c8 c9 c10 c11 c12))
    go_ret2
    exact ⟨by rw [HS.out]; rfl, kb2⟩
  · have HS := Lib.hid (show wholeS d r n l data = if (headS d (wholeR d r n l)).2 ≠ 0 then ([], (headS d (wholeR d r n l)).2) else ((headS d (wholeR d r n l)).1 ++ fillL data.data.toList, 0) by unfold wholeS; rw [if_neg (by rw [hok]; simp)])
    rw [hok] at HNm
    cases hz : ((headS d (wholeR d r n l)).2 != 0)
    all_goals
      go_enter Tryz.func39, Tryz.ntmps39
      go_wp2_with (first | (go_at_call 54; refine (HNm.out _).mono ?_; rintro e w1 ⟨rfl, hb⟩; have k1 := (Blk.new w #[.string (rl r l).name, .string (rl r l).link, .string (rl r l).user, .string (rl r l).group, .string (rl r l).front, .int .u8 (rl r l).kind, .int .i64 (rl r l).mode, .int .i64 (rl r l).uid, .int .i64 (rl r l).gid, .int .i64 (rl r l).size, .int .i64 (rl r l).time, .int .i64 (rl r l).major, .int .i64 (rl r l).minor] 70).bl hb; have kb := bl_then hb (bl_alloc (bl_refl w) (.cells #[.string (rl r l).name, .string (rl r l).link, .string (rl r l).user, .string (rl r l).group, .string (rl r l).front, .int .u8 (rl r l).kind, .int .i64 (rl r l).mode, .int .i64 (rl r l).uid, .int .i64 (rl r l).gid, .int .i64 (rl r l).size, .int .i64 (rl r l).time, .int .i64 (rl r l).major, .int .i64 (rl r l).minor] 70)) (by simp); clear hb; have hi0 : (Tryz.prog.info? 70).map (·.size) = some 13 := by kernel_rfl) | ((with_reducible refine wpList_store_blk rfl 70 (.tmp 6) (.tmp 22) rfl w.heap.size #[.string (wholeR d r n l).name, .string (wholeR d r n l).link, .string (wholeR d r n l).user, .string (wholeR d r n l).group, .string (wholeR d r n l).front, .int .u8 (wholeR d r n l).kind, .int .i64 (wholeR d r n l).mode, .int .i64 (wholeR d r n l).uid, .int .i64 (wholeR d r n l).gid, .int .i64 (wholeR d r n l).size, .int .i64 (wholeR d r n l).time, .int .i64 (wholeR d r n l).major, .int .i64 (wholeR d r n l).minor] ?_ ?_ k1 ?_ ?_ ?_ ?_); rfl; rfl; rfl; exact hi0; (simp [Value.oneCell']); intro w4 k2 hg2; have kb2 := bl_grown kb hg2 (Nat.le_refl _); have c0 := k2.cell 0; have c1 := k2.cell 1; have c2 := k2.cell 2; have c3 := k2.cell 3; have c4 := k2.cell 4; have c5 := k2.cell 5; have c6 := k2.cell 6; have c7 := k2.cell 7; have c8 := k2.cell 8; have c9 := k2.cell 9; have c10 := k2.cell 10; have c11 := k2.cell 11; have c12 := k2.cell 12; simp at c0 c1 c2 c3 c4 c5 c6 c7 c8 c9 c10 c11 c12) | (go_at_call 55; refine (headWrite d (wholeR d r n l) HR.out _).mono ?_; rintro e w2 ⟨rfl, hb2⟩) | (go_at_call 56; refine (blockFill data _ hds).mono ?_; rintro e w3 ⟨rfl, hb3⟩))
    · have g2 := bl_then hb2 kb2 kb2.size
      go_ret2
      exact ⟨by rw [HS.out, if_neg (by simpa using hz)]; rfl, bl_then hb3 g2 g2.size⟩
    · have g2 := bl_then hb2 kb2 kb2.size
      go_ret2
      exact ⟨by rw [HS.out, if_pos (by simpa using hz)]; rfl, g2⟩
end Go.Proofs.YtehkfbgbpmfpmaaGreatDoor
