/- member.writeGnu's closure. -/
import Derived.Test.YtehkfbgbpmfpmaaGreatDoorF2
namespace Go.Proofs.YtehkfbgbpmfpmaaGreatDoor
set_option linter.unusedVariables false
set_option linter.unusedSimpArgs false
open Go.RowKit

def longR (k : Int) (n : Nat) : RawR := ⟨⟨#[]⟩, ⟨#[]⟩, ⟨#[]⟩, ⟨#[]⟩, ⟨#[]⟩, k, 0, 0, 0, (n : Int) + 1, 0, 0, 0⟩
def longN : ByteArray := ⟨#[46, 47, 46, 47, 64, 76, 111, 110, 103, 76, 105, 110, 107]⟩
def longW (k : Int) (s : ByteArray) : List UInt8 × Int := wholeS 3 (longR k s.size) longN ⟨#[]⟩ (s ++ ⟨#[0]⟩)
theorem longR_B (k : Int) (n : Nat) (h0 : 0 ≤ k) (h1 : k ≤ 255) (hn : n ≤ 100000) : RawB (longR k n) := by
  constructor <;> simp [longR, ByteArray.size] <;> omega
theorem headS_code (d : Int) (r : RawR) : (headS d r).2 = 0 ∨ (headS d r).2 = 1 ∨ (headS d r).2 = 2 := by
  unfold headS
  repeat' split
  all_goals simp
theorem octS_ok (n w : Int) (h1 : 2 ≤ w) (h2 : w ≤ 20) (h3 : 0 ≤ n) (h4 : n ≤ mostS w) : (octS n w).2 = 0 := by
  unfold octS; rw [if_neg (by omega), if_neg (by omega)]
theorem numOk_in (d n w : Int) (h1 : 2 ≤ w) (h2 : w ≤ 20) (h3 : 0 ≤ n) (h4 : n ≤ mostS w) : numOk d n w = true := by
  have e := octS_ok n w h1 h2 h3 h4
  unfold numOk wrS
  rw [e, if_neg (by omega), e]
  rfl
theorem most12 : mostS 12 = 8589934591 := by decide
theorem most8 : mostS 8 = 2097151 := by decide
theorem textOk_nil (n : Int) (h : 0 ≤ n) : textOk ⟨#[]⟩ n = true := by
  unfold textOk
  simp [ByteArray.size, Lib.indexByte]
  exact h
theorem longW_ok (k : Int) (s : ByteArray) (h0 : 0 < k) (hn : s.size ≤ 100000) : (longW k s).2 = 0 := by
  have hh : (headS 3 (wholeR 3 (longR k s.size) longN ⟨#[]⟩)).2 = 0 := by
    have e : wholeR 3 (longR k s.size) longN ⟨#[]⟩ = ⟨longN, ⟨#[]⟩, ⟨#[]⟩, ⟨#[]⟩, bs [], k, 0, 0, 0, (s.size : Int) + 1, 0, 0, 0⟩ := by
      unfold wholeR namedR longR; simp
    rw [e]
    rw [headS_fit (by simp; omega) (by unfold fitsS; simp [bs_size])]
    rw [if_pos]
    unfold okHead
    simp only [numOk_in 3 0 8 (by omega) (by omega) (by omega) (by rw [most8]; omega), numOk_in 3 0 12 (by omega) (by omega) (by omega) (by rw [most12]; omega), numOk_in 3 ((s.size : Int) + 1) 12 (by omega) (by omega) (by omega) (by rw [most12]; omega), textOk_nil 100 (by omega), textOk_nil 32 (by omega)]
    rfl
  unfold longW wholeS
  rw [if_neg (by unfold namedOk; simp; decide), if_neg (by rw [hh]; simp)]

theorem s0_size (s : ByteArray) (hs : s.size ≤ 100000) : (s ++ ByteArray.mk #[0]).size ≤ 1000000 := by
  rw [ByteArray.size_append, show (ByteArray.mk #[0]).size = 1 from rfl]; omega
set_option maxRecDepth 100000 in
theorem memWrittenLong (k : Int) (s : ByteArray) (w : World) (h0 : 0 < k) (h1 : k ≤ 255) (hs : s.size ≤ 100000) :
    Calls Tryz.prog 39 #[.int .i64 3, .agg #[.string ⟨#[]⟩, .string ⟨#[]⟩, .string ⟨#[]⟩, .string ⟨#[]⟩, .string ⟨#[]⟩, .int .u8 k, .int .i64 0, .int .i64 0, .int .i64 0, .int .i64 ((s.size : Int) + 1), .int .i64 0, .int .i64 0, .int .i64 0],
      .string ⟨#[46, 47, 46, 47, 64, 76, 111, 110, 103, 76, 105, 110, 107]⟩, .string ⟨#[]⟩, .string (s ++ ⟨#[0]⟩)] w fun e w' => e = .returned (.tuple #[.string (bs (longW k s).1), .nilIface]) ∧ Below w.heap.size w w' := by
  have h := memWritten 3 (longR k s.size) longN ⟨#[]⟩ (s ++ ⟨#[0]⟩) w (longR_B k s.size (by omega) h1 hs) (by decide) (by decide) (s0_size s hs)
  have hz := longW_ok k s h0 hs
  unfold longW at hz ⊢
  generalize wholeS 3 (longR k s.size) longN ⟨#[]⟩ (s ++ ⟨#[0]⟩) = W at *
  simp only [longR, longN] at h
  refine h.mono fun e w' ⟨he, hw⟩ => ⟨?_, hw⟩
  rw [he, hz]
  rfl
theorem longW_len (k : Int) (s : ByteArray) (hs : s.size ≤ 100000) : (longW k s).1.length ≤ 200000 := by
  unfold longW wholeS
  split
  · simp
  · split
    · simp
    · have h1 := headS_len 3 (wholeR 3 (longR k s.size) longN ⟨#[]⟩)
      have h2 := padS_range ((s ++ ByteArray.mk #[0]).data.toList.length : Int)
      have h3 : (s ++ ByteArray.mk #[0]).data.toList.length = s.size + 1 := by rw [← Lib.size_eq, ByteArray.size_append]; rfl
      unfold fillL
      simp only [List.length_append, List.length_replicate]
      omega

/-- what a long name or link puts ahead -/
def lw (k : Int) (s : ByteArray) : List UInt8 := if s.size ≤ 100 then [] else (longW k s).1
theorem lw_len (k : Int) (s : ByteArray) (hs : s.size ≤ 100000) : (lw k s).length ≤ 200000 := by
  unfold lw
  split
  · simp
  · exact longW_len k s hs
def cut100 (s : ByteArray) : ByteArray := bs (s.data.toList.take 100)
theorem cut100_size (s : ByteArray) : (cut100 s).size ≤ s.size ∧ (cut100 s).size ≤ 100 := by
  unfold cut100; rw [bs_size, List.length_take, ← Lib.size_eq]; omega
attribute [local irreducible] longW
set_option maxHeartbeats 4000000 in
theorem gnuShort (s : ByteArray) (k : Int) (ob : Nat) (out : List UInt8) (w : World) (h0 : 0 < k) (h1 : k ≤ 255) (hs : s.size ≤ 100000) (hB : Blk w ob #[.string (bs out)] 9) (ho : out.length ≤ 1000000) :
    Calls Tryz.prog 78 #[.string s, .int .u8 k, .pointer (some ⟨ob, 0, none⟩)] w fun e w' =>
      e = .returned (.tuple #[.string (bs (s.data.toList.take 100)), .nilIface]) ∧ Blk w' ob #[.string (bs (out ++ if s.size ≤ 100 then [] else (longW k s).1))] 9 ∧ w.grownBy w' (some ob) := by
  by_cases hsz : s.size ≤ 100
  · have e1 := Lib.hid (show bs (s.data.toList.take 100) = s by rw [List.take_of_length_le (by rw [← Lib.size_eq]; exact hsz), bs_of])
    rw [if_pos hsz]
    go_enter Tryz.func78, Tryz.ntmps78
    go_wp2
    go_ret2
    rw [e1.out, List.append_nil]
    exact ⟨rfl, hB, grown_refl _ _⟩
  · rw [if_neg hsz]
    have hF : Fits out (longW k s).1 := by have := longW_len k s hs; unfold Fits; omega
    have hc := hB.cell 0
    have hf := hB.free 0
    simp at hc
    go_enter Tryz.func78, Tryz.ntmps78
    go_wp2_with (first | (go_at_call 39; refine (memWrittenLong k s _ h0 h1 hs).mono ?_; rintro x w1 ⟨rfl, hb1⟩; have k1 := (hB.bl hb1).cell 0; have f1 := (hB.bl hb1).free 0; simp at k1))
    go_ret2
    refine ⟨ret_str2 (v := .nilIface) ?_, (hB.bl hb1).set 0 _, grown_then (grown_bl _ hb1) (grown_set _ _ _ _)⟩
    rw [extract_bs, List.drop_zero]
theorem gnuShortL (s : ByteArray) (k : Int) (ob : Nat) (out : List UInt8) (w : World) (h0 : 0 < k) (h1 : k ≤ 255) (hs : s.size ≤ 100000) (hB : Blk w ob #[.string (bs out)] 9) (ho : out.length ≤ 1000000) :
    Calls Tryz.prog 78 #[.string s, .int .u8 k, .pointer (some ⟨ob, 0, none⟩)] w fun e w' =>
      e = .returned (.tuple #[.string (cut100 s), .nilIface]) ∧ Blk w' ob #[.string (bs (out ++ lw k s))] 9 ∧ w.grownBy w' (some ob) := gnuShort s k ob out w h0 h1 hs hB ho
end Go.Proofs.YtehkfbgbpmfpmaaGreatDoor
