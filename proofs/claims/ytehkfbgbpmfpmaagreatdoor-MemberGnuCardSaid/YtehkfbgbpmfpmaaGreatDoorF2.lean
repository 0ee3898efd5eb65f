/- member.holesHead, member.holesBlocks. -/
import Derived.Test.YtehkfbgbpmfpmaaGreatDoorF1
import Derived.Test.YtehkfbgbpmfpmaaGreatDoorE5
namespace Go.Proofs.YtehkfbgbpmfpmaaGreatDoor
set_option linter.unusedVariables false
set_option linter.unusedSimpArgs false
open Go.RowKit

/-- what is put into a header with holes -/
def holesL (l : List (Int × Int)) (size : Int) : List UInt8 := rowS l 4 ++ (moreL l 4 ++ digL size)
theorem holesL_length (l : List (Int × Int)) (size : Int) : (holesL l size).length = 109 := by simp [holesL, rowS_length, digL_length, moreL_length]
def HeadPost (w : World) (h : List UInt8) (l : List (Int × Int)) (size : Int) (e : Ending) (w' : World) : Prop :=
  ∃ a n c, e = .returned (.tuple #[.string (bs (h.take 386 ++ (holesL l size ++ h.drop 495))), .slice a n c]) ∧ PRow w' a n (l.drop 4) ∧ n ≤ c ∧ c ≤ 140737488355328 ∧ Below w.heap.size w w'

theorem ret_str2 {s t : ByteArray} {v : Value} (h : s = t) : Ending.returned (.tuple #[.string s, v]) = Ending.returned (.tuple #[.string t, v]) := by rw [h]
attribute [local irreducible] rowS digL preL moreL holesL
set_option maxRecDepth 100000 in
set_option maxHeartbeats 4000000 in
theorem holesHead (e : EntR) (h : ByteArray) (w : World) (hh : h.size = 512) (hr : PRow w e.ma e.mn e.map) (hc : e.mn ≤ e.mc) (hc2 : e.mc ≤ 140737488355328) (hp : POk e.map) (hs0 : 0 ≤ e.size) (hs1 : e.size ≤ 8589934591) :
    Calls Tryz.prog 79 #[.string h, .agg #[.string e.name, .int .u8 e.kind, .int .i64 e.mode, .int .i64 e.uid, .int .i64 e.gid, .int .i64 e.size, .int .i64 e.sec, .int .i64 e.nano, .string e.link, .string e.user, .string e.group, .int .i64 e.major, .int .i64 e.minor, .string e.data, .slice e.ma e.mn e.mc]] w (HeadPost w h.data.toList e.map e.size) := by
  have HR := Lib.hid hr
  have HP := Lib.hid hp
  have KE := Lib.hid (Blk.new w #[.string e.name, .int .u8 e.kind, .int .i64 e.mode, .int .i64 e.uid, .int .i64 e.gid, .int .i64 e.size, .int .i64 e.sec, .int .i64 e.nano, .string e.link, .string e.user, .string e.group, .int .i64 e.major, .int .i64 e.minor, .string e.data, .slice e.ma e.mn e.mc] 26)
  have GE := Lib.hid (bl_alloc (bl_refl w) (.cells #[.string e.name, .int .u8 e.kind, .int .i64 e.mode, .int .i64 e.uid, .int .i64 e.gid, .int .i64 e.size, .int .i64 e.sec, .int .i64 e.nano, .string e.link, .string e.user, .string e.group, .int .i64 e.major, .int .i64 e.minor, .string e.data, .slice e.ma e.mn e.mc] 26))
  have hF1 : Fits (moreL e.map 4) (digL e.size) := by unfold Fits; simp [digL_length, moreL_length]
  have hF2 : Fits (rowS e.map 4) (moreL e.map 4 ++ digL e.size) := by unfold Fits; simp [digL_length, rowS_length, moreL_length]
  have hl3 : (rowS e.map 4 ++ (moreL e.map 4 ++ digL e.size)).length = 109 := by simp [digL_length, rowS_length, moreL_length]
  have HLn := Lib.hid (show holesL e.map e.size = rowS e.map 4 ++ (moreL e.map 4 ++ digL e.size) by unfold holesL; rfl)
  have HL := Lib.hid (show h.data.toList.length = 512 by rw [← Lib.size_eq]; exact hh)
  clear hr hp
  go_enter Tryz.func79, Tryz.ntmps79
  go_wp2_with (first
    | (go_at_call 118; (with_reducible refine (memRow4 e.ma e.mn e.mc e.map _ (HR.out.bl GE.out) hc hc2 HP.out).mono ?_); rintro x w1 ⟨a, n, c, rfl, hp1, hc1, hc2', hb1⟩; have K1 := Lib.hid (KE.out.bl hb1); have G1 := Lib.hid (bl_then hb1 GE.out GE.out.size); have HP1 := Lib.hid hp1; obtain ⟨a0, a1, a2, a3, a4, a5, a6, a7, a8, a9, a10, a11, a12, a13, a14⟩ := ent_cells K1.out; clear hb1 hp1 a0 a1 a2 a3 a4 a6 a7 a8 a9 a10 a11 a12 a13 a14)
    | (go_at_call 119; (with_reducible refine (memDigitsL e.size _ hs0 hs1).mono ?_); rintro x w2 ⟨rfl, hb2⟩; have G2 := Lib.hid (bl_then hb2 G1.out G1.out.size); have HP2 := Lib.hid (HP1.out.bl hb2); clear hb2))
  clear a5
  have hsz : (109 : Int) = 109 := rfl
  refine wp_region_kept (by kernel_rfl) (by kernel_rfl) ?_
  repeat (go_big_quiet_step (fail))
  refine wpQuiet_nil ?_
  intro w3 hw3
  have hb3 := Kept.bl hw3
  clear hw3
  go_wp2
  go_ret2
  refine ⟨a, n, c, ret_str2 (v := .slice a n c) ?_, HP2.out.bl hb3, hc1, hc2', bl_then hb3 G2.out G2.out.size⟩
  rw [HLn.out]
  have e1 : (h.data.toList.drop 495).take 17 = h.data.toList.drop 495 := List.take_of_length_le (by rw [List.length_drop, HL.out]; omega)
  first
    | (rw [e1]; simp only [List.append_assoc]; done)
    | (apply congrArg bs; rw [e1]; simp only [List.append_assoc])

/-- a block of pieces -/
def blkL (l : List (Int × Int)) : List UInt8 := fillL (rowS l 21 ++ moreL l 21)
theorem blkL_length (l : List (Int × Int)) : (blkL l).length = 512 := by
  unfold blkL fillL
  have h : (rowS l 21 ++ moreL l 21).length = 505 := by simp [rowS_length, moreL_length]
  rw [List.length_append, List.length_replicate, h]
  rfl
/-- the first j blocks -/
def accL (l : List (Int × Int)) : Nat → List UInt8
  | 0 => []
  | j + 1 => accL l j ++ blkL (l.drop (21 * j))
theorem accL_zero (l : List (Int × Int)) : accL l 0 = [] := rfl
theorem accL_succ (l : List (Int × Int)) (j : Nat) : accL l (j + 1) = accL l j ++ blkL (l.drop (21 * j)) := rfl
theorem accL_length (l : List (Int × Int)) : ∀ j, (accL l j).length = 512 * j
  | 0 => rfl
  | j + 1 => by simp [accL, accL_length l j, blkL_length]; omega
theorem POk.drop {l : List (Int × Int)} (h : POk l) (k : Nat) : POk (l.drop k) := fun i hi => by
  have := h (k + i) (by simp at hi; omega)
  simpa [List.getD, List.getElem?_drop] using this
/-- so many blocks -/
def blocksN (n : Nat) : Nat := (n + 20) / 21
attribute [local irreducible] blkL accL
theorem holesBlocks_L (l : List (Int × Int)) : Fits (rowS l 21) (moreL l 21) := by unfold Fits; simp [rowS_length, moreL_length]

set_option maxHeartbeats 4000000 in
theorem holesBlocks (a : Option Addr) (n c : Nat) (l : List (Int × Int)) (w : World) (hr : PRow w a n l) (hc : n ≤ c) (hc2 : c ≤ 140737488355328) (hp : POk l) (hn : n ≤ 30) :
    Calls Tryz.prog 81 #[.slice a n c] w fun e w' => e = .returned (.string (bs (accL l (blocksN l.length)))) ∧ Below w.heap.size w w' := by
  have HR := Lib.hid hr
  have HP := Lib.hid hp
  have HL := Lib.hid hr.1
  have hA0 := Lib.hid (accL_zero l)
  clear hr hp
  go_enter Tryz.func81, Tryz.ntmps81
  go_wp2
  go_loopw [0, 3] (fun s0 s3 wr => ∃ (j : Nat) (a' : Option Addr) (n' c' : Nat), s0 = .slice a' n' c' ∧ PRow wr a' n' (l.drop (21 * j)) ∧ n' ≤ c' ∧ c' ≤ 140737488355328 ∧ s3 = .string (bs (accL l j)) ∧ Below w.heap.size w wr ∧ (j = 0 ∨ 21 * j < n + 21)) (fun s0 _ _ => match s0 with | .slice _ n' _ => n' | _ => 0)
  case atStart => exact ⟨0, a, n, c, rfl, by rw [Nat.mul_zero, List.drop_zero]; exact HR.out, hc, hc2, by rw [hA0.out]; rfl, bl_refl w, .inl rfl⟩
  case round =>
    obtain ⟨j, a', n', c', rfl, hr', hc', hc2', rfl, hb, hj⟩ := hrel
    have HR' := Lib.hid hr'
    have HL' := Lib.hid hr'.1
    clear hr'
    by_cases hlt : 0 < n'
    · have hj2 : j ≤ 1 := by have := HL'.out; rw [List.length_drop, ← HL.out] at this; omega
      have hF1 := holesBlocks_L (l.drop (21 * j))
      have HB := Lib.hid (show blkL (l.drop (21 * j)) = fillL (rowS (l.drop (21 * j)) 21 ++ moreL (l.drop (21 * j)) 21) by unfold blkL; rfl)
      have hF2 : Fits (accL l j) (blkL (l.drop (21 * j))) := by unfold Fits; rw [accL_length, blkL_length]; omega
      have HA := Lib.hid (accL_succ l j)
      have HFill := Lib.hid (fun W : World => blockFill (bs (rowS (l.drop (21 * j)) 21 ++ moreL (l.drop (21 * j)) 21)) W (by rw [bs_size]; simp [rowS_length, moreL_length]))
      rw [bs_toList, ← HB.out] at HFill
      have HD := Lib.hid (show (l.drop (21 * j)).drop 21 = l.drop (21 * (j + 1)) by rw [List.drop_drop]; congr 1)
      go_wp2_with (first
        | (go_at_call 118; (with_reducible refine (memRow21 a' n' c' (l.drop (21 * j)) _ HR'.out hc' hc2' (HP.out.drop _)).mono ?_); rintro x w1 ⟨a2, n2, c2, rfl, hp2, hcc, hcc2, hb1⟩; have G1 := Lib.hid (bl_then hb1 hb hb.size); have HP2 := Lib.hid hp2; clear hp2 hb1)
        | (go_at_call 56; (with_reducible refine (HFill.out _).mono ?_); rintro x w2 ⟨rfl, hb2⟩; have G2 := Lib.hid (bl_then hb2 G1.out G1.out.size); have HP3 := Lib.hid (HP2.out.bl hb2); clear hb2))
      go_roundw
      case rel =>
        refine ⟨j + 1, a2, n2, c2, rfl, by rw [← HD.out]; exact HP3.out, hcc, hcc2, by rw [HA.out], G2.out, ?_⟩
        have := HL'.out
        rw [List.length_drop, ← HL.out] at this
        omega
      case measure =>
        have h1 := HP2.out.1
        have h2 := HL'.out
        rw [List.length_drop] at h1
        simp
        omega
    · obtain rfl : n' = 0 := by omega
      have hN : blocksN l.length = j := by
        have h2 := HL'.out
        rw [List.length_drop, ← HL.out] at h2
        unfold blocksN
        rw [← HL.out]
        omega
      have HN := Lib.hid hN
      clear hN
      go_wp2
      go_ret
      exact ⟨by rw [HN.out]; rfl, hb⟩
end Go.Proofs.YtehkfbgbpmfpmaaGreatDoor
