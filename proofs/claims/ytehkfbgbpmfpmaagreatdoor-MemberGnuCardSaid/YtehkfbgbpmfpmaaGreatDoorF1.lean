/- member.row. -/
import Derived.Test.YtehkfbgbpmfpmaaGreatDoorW5
import Derived.Test.YtehkfbgbpmfpmaaGreatDoorD4
import Derived.Test.YtehkfbgbpmfpmaaGreatDoorE4
namespace Go.Proofs.YtehkfbgbpmfpmaaGreatDoor
set_option linter.unusedVariables false
set_option linter.unusedSimpArgs false
open Go.RowKit

def digL (n : Int) : List UInt8 := octL 11 n ++ [0]
theorem digL_length (n : Int) : (digL n).length = 12 := by simp [digL, octL_length]
def pieceL (p : Int × Int) : List UInt8 := digL p.1 ++ digL p.2
theorem pieceL_length (p : Int × Int) : (pieceL p).length = 24 := by simp [pieceL, digL_length]
/-- the first j pieces, as digits -/
def preL (l : List (Int × Int)) : Nat → List UInt8
  | 0 => []
  | j + 1 => preL l j ++ pieceL (l.getD j (0, 0))
theorem preL_length (l : List (Int × Int)) : ∀ j, (preL l j).length = 24 * j
  | 0 => rfl
  | j + 1 => by simp [preL, preL_length l j, pieceL_length]; omega
/-- a row of pieces, filled up with bytes 0 -/
def rowS (l : List (Int × Int)) (many : Nat) : List UInt8 := preL l (min many l.length) ++ List.replicate (24 * (many - min many l.length)) 0
theorem rowS_length (l : List (Int × Int)) (many : Nat) : (rowS l many).length = 24 * many := by
  simp [rowS, preL_length]; omega
theorem putAt_pre (l : List (Int × Int)) (j many : Nat) (h : j < many) :
    putAt (preL l j ++ List.replicate (24 * (many - j)) 0) (24 * j) (digL (l.getD j (0, 0)).1 ++ digL (l.getD j (0, 0)).2) = preL l (j + 1) ++ List.replicate (24 * (many - (j + 1))) 0 := by
  unfold putAt
  rw [List.take_left' (preL_length l j), preL]
  have e : (digL (l.getD j (0, 0)).1 ++ digL (l.getD j (0, 0)).2).length = 24 := pieceL_length _
  rw [e, List.append_assoc, List.append_assoc, List.drop_append, List.drop_of_length_le (by rw [preL_length]; omega), preL_length, List.nil_append, List.drop_replicate]
  have : 24 * (many - j) - (24 * j + 24 - 24 * j) = 24 * (many - (j + 1)) := by omega
  rw [this]
  simp [pieceL]

/-- pieces' numbers fit into 11 octal digits -/
def POk (l : List (Int × Int)) : Prop := ∀ i, i < l.length → (0 ≤ (l.getD i (0, 0)).1 ∧ (l.getD i (0, 0)).1 ≤ 8589934591) ∧ (0 ≤ (l.getD i (0, 0)).2 ∧ (l.getD i (0, 0)).2 ≤ 8589934591)

theorem grown_bl0 {w W W' : World} {g : Nat} (h : Below w.heap.size w W) (hg : W.grownBy W' (some g)) (hB : w.heap.size ≤ g) : Below w.heap.size w W' := bl_grown h hg hB

theorem memDigitsL (n : Int) (w : World) (h0 : 0 ≤ n) (h1 : n ≤ 8589934591) :
    Calls Tryz.prog 119 #[.int .i64 n] w fun v w' => v = .returned (.string (bs (digL n))) ∧ Below w.heap.size w w' := memDigits n w h0 h1
theorem digFits (p q : Int) : Fits (digL p) (digL q) := by unfold Fits; simp [digL_length]
theorem dig2_size (p q : Int) : (bs (digL p ++ digL q)).size = 24 := by simp [bs_size, digL_length]
theorem PRow.drop {w : World} {b o n : Nat} {l : List (Int × Int)} (h : PRow w (some ⟨b, o, none⟩) n l) (k : Nat) (hk : k < n) : PRow w (some ⟨b, o + k * 2, none⟩) (n - k) (l.drop k) := by
  obtain ⟨h1, h2⟩ := h
  refine ⟨by rw [List.length_drop]; omega, .inr ⟨b, o + k * 2, rfl, fun i hi => ?_⟩⟩
  rcases h2 with h2 | ⟨b', o', e, hc⟩
  · omega
  obtain ⟨rfl, rfl⟩ : b = b' ∧ o = o' := by injection e with e; injection e with e1 e2; exact ⟨e1, e2⟩
  have := hc (k + i) (by omega)
  rw [show o + k * 2 + i * 2 = o + (k + i) * 2 by omega]
  simpa [List.getD, List.getElem?_drop] using this
/-- are there more pieces? -/
def moreL (l : List (Int × Int)) (many : Nat) : List UInt8 := [if many < l.length then 1 else 0]
theorem moreL_length (l : List (Int × Int)) (many : Nat) : (moreL l many).length = 1 := rfl
/-- what row hands back -/
def RowPost (w : World) (l : List (Int × Int)) (many : Nat) (e : Ending) (w' : World) : Prop :=
  ∃ a n c, e = .returned (.tuple #[.string (bs (rowS l many)), .string (bs (moreL l many)), .slice a n c]) ∧ PRow w' a n (l.drop many) ∧ n ≤ c ∧ c ≤ 140737488355328 ∧ Below w.heap.size w w'

set_option maxRecDepth 100000 in
set_option maxHeartbeats 4000000 in
theorem memRow (b o n c : Nat) (l : List (Int × Int)) (many : Nat) (w : World) (hr : PRow w (some ⟨b, o, none⟩) n l) (hc : n ≤ c) (hc2 : c ≤ 140737488355328) (hn : 0 < n) (hp : POk l) (hm0 : 0 < many) (hm : many ≤ 21) :
    Calls Tryz.prog 118 #[.slice (some ⟨b, o, none⟩) n c, .int .i64 many] w (RowPost w l many) := by
  have HR := Lib.hid hr
  have HP := Lib.hid hp
  obtain ⟨hl, -⟩ := hr
  have HL := Lib.hid hl
  clear hp hl
  have hmk := run_make_bytes Tryz.prog 85 5 Tryz.underlying85 (by kernel_rfl) (24 * (many : Int)) (24 * many) (by omega) (by omega)
  have gl : Buf (w.alloc (.cells (bufC (List.replicate (24 * many) 0)) 5)) w.heap.size 5 (List.replicate (24 * many) 0) := Buf.new _ _ _
  obtain ⟨m, hmm⟩ : ∃ m : Nat, m = min many n := ⟨_, rfl⟩
  have hmin : min (many : Int) (n : Int) = (m : Int) := by omega
  have hm1 : m ≤ many := by omega
  have hm2 : m ≤ n := by omega
  have HM := Lib.hid hmm
  clear hmm
  go_enter Tryz.func118, Tryz.ntmps118
  go_wp2
  clear hmk
  go_loopw [22] (fun i wr => ∃ j : Nat, j ≤ m ∧ i = .int .i64 j ∧ Buf wr w.heap.size 5 (preL l j ++ List.replicate (24 * (many - j)) 0) ∧ Below w.heap.size w wr) (fun i _ => m - (intOf i).toNat)
  case atStart => exact ⟨0, by omega, rfl, gl, bl_alloc (bl_refl w) _⟩
  case round =>
    clear gl
    obtain ⟨j, hj, rfl, hB, hb⟩ := hrel
    by_cases hlt : j < m
    · obtain ⟨-, h2⟩ := HR.out.bl hb
      rcases h2 with h2 | ⟨b', o', e, hcell⟩
      · omega
      obtain ⟨rfl, rfl⟩ : b = b' ∧ o = o' := by injection e with e; injection e with e1 e2; exact ⟨e1, e2⟩
      obtain ⟨hc1, hc2'⟩ := hcell j (by omega)
      obtain ⟨⟨p0, p1⟩, q0, q1⟩ := HP.out j (by rw [← HL.out]; omega)
      have HPUT := Lib.hid (putAt_pre l j many (by omega))
      clear hcell e
      generalize (l.getD j (0, 0)).1 = p at *
      generalize (l.getD j (0, 0)).2 = q at *
      have h24 : IntKind.i64.wrap (24 * (j : Int)) = 24 * (j : Int) := IntWalk.i64_in _ (by omega)
      have h24a : (0 : Int) ≤ 24 * (j : Int) := by omega
      have h24b : (24 * (j : Int)) ≤ 24 * (many : Int) := by omega
      have h24c : (24 * (j : Int)).toNat = 24 * j := by omega
      have hF := digFits p q
      have hgl := hB.lt
      go_wp2
      have kP := Blk.new wr #[.int .i64 p, .int .i64 q] 120
      have hBW := Lib.hid (hB.alloc (.cells #[.int .i64 p, .int .i64 q] 120))
      have gW := Lib.hid (bl_alloc hb (.cells #[.int .i64 p, .int .i64 q] 120))
      generalize wr.alloc (.cells #[.int .i64 p, .int .i64 q] 120) = W at *
      have hlt1 := kP.lt
      have a0 := kP.cell 0
      have a1 := kP.cell 1
      simp at a0 a1
      refine wp_region_kept_tail 11 (by kernel_rfl) (by kernel_rfl) ?_
      simp only [List.take_succ_cons, List.take_zero, List.drop_succ_cons, List.drop_zero]
      repeat (go_big_quiet_step ((first
        | (go_at_call 119; first | with_reducible exact kept_of (memDigitsL p _ p0 p1) | with_reducible exact kept_of (memDigitsL q _ q0 q1)))))
      refine wpQuiet_nil ?_
      intro w2 hw2
      have hb2 := Kept.bl hw2
      clear hw2
      have hB2 := hBW.out.bl hb2
      have g2 := bl_then hb2 gW.out gW.out.size
      refine wpList_copy_buf rfl (.tmp 30) (.tmp 37) 85 9 rfl 5 Tryz.underlying85 (by kernel_rfl) (24 * j) (24 * many - 24 * j) (24 * many - 24 * j) ?_ (bs (digL p ++ digL q)) ?_ hB2 ?_ ?_ ?_
      · rfl
      · rfl
      · rw [dig2_size]; omega
      · rw [dig2_size]; simp [preL_length]; omega
      intro w3 hB3 hg3
      rw [bs_toList, HPUT.out] at hB3
      go_wp2
      go_roundw
      case rel => exact ⟨j + 1, by omega, by go_num, hB3, bl_grown g2 hg3 (Nat.le_refl _)⟩
      case measure => simp [intOf]; omega
    · obtain rfl : j = m := by omega
      have hsz : (preL l j ++ List.replicate (24 * (many - j)) 0).length = 24 * many := by simp [preL_length]; omega
      have hcase : many < n ∧ many = j ∨ n ≤ many ∧ n = j := by have := HM.out; omega
      have HROW := Lib.hid (show preL l j ++ List.replicate (24 * (many - j)) 0 = rowS l many by unfold rowS; rw [← HL.out, ← HM.out])
      have hlt1 := hB.lt
      have hRest := Lib.hid (HR.out.bl hb)
      rw [HROW.out] at hB hsz
      rcases hcase with ⟨hA, rfl⟩ | ⟨hA, rfl⟩
      · have hcv : ∀ k : Kept wr, (convert 85 9 (.slice (some ⟨w.heap.size, 0, none⟩) (24 * many) (24 * many))).run Tryz.prog k.W = .ok (.string (bs (rowS l many))) k.W := fun k =>
          run_buf_string Tryz.prog 85 9 5 Tryz.underlying85 Tryz.underlying5 Tryz.underlying9 (hB.below k.below hlt1) (24 * many) (24 * many) hsz.symm
        have hx1 : (0 : Int) ≤ (many : Int) := by omega
        go_wp2
        refine wp_region_kept (by kernel_rfl) (by kernel_rfl) ?_
        repeat (go_big_quiet_step (fail))
        refine wpQuiet_nil ?_
        intro w2 hw2
        have hb2 := Kept.bl hw2
        clear hw2
        go_wp2
        go_ret3
        refine ⟨some ⟨b, o + many * 2, none⟩, n - many, c - many, ?_, ((hRest.out).drop many hA).bl hb2, by omega, by omega, bl_then hb2 hb hb.size⟩
        unfold moreL
        rw [if_pos (by rw [← HL.out]; exact hA)]
        rfl
      · have hcv := run_buf_string Tryz.prog 85 9 5 Tryz.underlying85 Tryz.underlying5 Tryz.underlying9 hB (24 * many) (24 * many) hsz.symm
        go_wp2
        go_ret3
        refine ⟨none, 0, 0, ?_, ⟨by rw [List.length_drop, ← HL.out]; omega, .inl rfl⟩, by omega, by omega, hb⟩
        unfold moreL
        rw [if_neg (by rw [← HL.out]; omega)]
        rfl

set_option maxHeartbeats 4000000 in
theorem memRow0 (a : Option Addr) (c : Nat) (many : Nat) (w : World) (hc2 : c ≤ 140737488355328) (hm0 : 0 < many) (hm : many ≤ 21) :
    Calls Tryz.prog 118 #[.slice a 0 c, .int .i64 many] w (RowPost w [] many) := by
  have hmk := run_make_bytes Tryz.prog 85 5 Tryz.underlying85 (by kernel_rfl) (24 * (many : Int)) (24 * many) (by omega) (by omega)
  have gl : Buf (w.alloc (.cells (bufC (List.replicate (24 * many) 0)) 5)) w.heap.size 5 (List.replicate (24 * many) 0) := Buf.new _ _ _
  have hmin : min (many : Int) 0 = 0 := by omega
  have hsz : (List.replicate (24 * many) (0 : UInt8)).length = 24 * many := by simp
  have hcv := run_buf_string Tryz.prog 85 9 5 Tryz.underlying85 Tryz.underlying5 Tryz.underlying9 gl (24 * many) (24 * many) hsz.symm
  clear gl hsz
  rcases a with _ | a
  all_goals
    go_enter Tryz.func118, Tryz.ntmps118
    go_wp2
    refine wp_loop_rounds 1 ?_
    rw [rounds_succ]
    go_wp2
    go_ret3
    refine ⟨none, 0, 0, ?_, ⟨by simp, .inl rfl⟩, by omega, by omega, bl_alloc (bl_refl w) _⟩
    have e : rowS [] many = List.replicate (24 * many) 0 := by simp [rowS, preL]
    rw [e]
    rfl

theorem memRowAny (a : Option Addr) (n c : Nat) (l : List (Int × Int)) (many : Nat) (w : World) (hr : PRow w a n l) (hc : n ≤ c) (hc2 : c ≤ 140737488355328) (hp : POk l) (hm0 : 0 < many) (hm : many ≤ 21) :
    Calls Tryz.prog 118 #[.slice a n c, .int .i64 many] w (RowPost w l many) := by
  rcases Nat.eq_zero_or_pos n with h0 | h0
  · subst h0
    obtain rfl : l = [] := List.eq_nil_of_length_eq_zero hr.1.symm
    exact memRow0 a c many w hc2 hm0 hm
  · obtain ⟨b, o, rfl⟩ : ∃ b o, a = some ⟨b, o, none⟩ := by
      rcases hr.2 with h | ⟨b, o, h, _⟩
      · omega
      · exact ⟨b, o, h⟩
    exact memRow b o n c l many w hr hc hc2 h0 hp hm0 hm
theorem memRow4 (a : Option Addr) (n c : Nat) (l : List (Int × Int)) (w : World) (hr : PRow w a n l) (hc : n ≤ c) (hc2 : c ≤ 140737488355328) (hp : POk l) :
    Calls Tryz.prog 118 #[.slice a n c, .int .i64 4] w (RowPost w l 4) := memRowAny a n c l 4 w hr hc hc2 hp (by omega) (by omega)
theorem memRow21 (a : Option Addr) (n c : Nat) (l : List (Int × Int)) (w : World) (hr : PRow w a n l) (hc : n ≤ c) (hc2 : c ≤ 140737488355328) (hp : POk l) :
    Calls Tryz.prog 118 #[.slice a n c, .int .i64 21] w (RowPost w l 21) := memRowAny a n c l 21 w hr hc hc2 hp (by omega) (by omega)
end Go.Proofs.YtehkfbgbpmfpmaaGreatDoor
