/- Wrappers round the shelf's contracts; small laws for the walks. -/
import Derived.Test.YtehkfbgbpmfpmaaGreatDoorB1
import Derived.Sort.Grow
namespace Go.Proofs.YtehkfbgbpmfpmaaGreatDoor
set_option linter.unusedVariables false
set_option linter.unusedSimpArgs false
open Go.RowKit
open Go.Sort (grow)

theorem mk_append_bs (a : Array UInt8) (l : List UInt8) : ByteArray.mk a ++ bs l = bs (a.toList ++ l) := by
  rw [← bs_append]; congr 1
theorem bs_append_mk (a : Array UInt8) (l : List UInt8) : bs l ++ ByteArray.mk a = bs (l ++ a.toList) := by
  rw [← bs_append]; congr 1
theorem bs_append_any (l : List UInt8) (s : ByteArray) : bs l ++ s = bs (l ++ s.data.toList) := by
  rw [← bs_append, bs_of]
theorem any_append_bs (l : List UInt8) (s : ByteArray) : s ++ bs l = bs (s.data.toList ++ l) := by
  rw [← bs_append, bs_of]
attribute [go_sem] bs_size bs_append mk_append_bs bs_append_mk octL_length

theorem repeatL_one (b : UInt8) : ∀ c, Lib.repeatL [b] c = List.replicate c b
  | 0 => rfl
  | c + 1 => by rw [Lib.repeatL, repeatL_one b c]; rfl
theorem repByte (b : UInt8) (c : Int) (w : World) (h0 : 0 ≤ c) (h1 : c ≤ 140737488355328) :
    Calls Tryz.prog 21 #[.string ⟨#[b]⟩, .int .i64 c] w fun e w' => e = .returned (.string (bs (List.replicate c.toNat b))) ∧ Below w.heap.size w w' := by
  have h := Tryz.strings_Repeat ⟨#[b]⟩ c.toNat w (by omega) (by simp [ByteArray.size]; omega)
  rw [show ((c.toNat : Nat) : Int) = c by omega] at h
  refine h.mono fun e w' ⟨he, hb⟩ => ⟨?_, hb⟩
  rw [he]
  exact congrArg (fun l => Ending.returned (.string (bs l))) (repeatL_one b c.toNat)

theorem decDigits_small (u : Nat) (h : u < 10) : Lib.decDigits u = [byt (48 + (u : Int))] := by
  rw [Lib.decDigits, dif_pos h]
  congr 1
  unfold byt
  congr 1
  omega
theorem itoaDigit (x : Int) (w : World) (h0 : 0 ≤ x) (h1 : x < 10) :
    Calls Tryz.prog 68 #[.int .i64 x] w fun e w' => e = .returned (.string (bs [byt (48 + x)])) ∧ w = w' := by
  have h := Tryz.strconv_Itoa_small x.toNat (by omega) w
  rw [show ((x.toNat : Nat) : Int) = x by omega] at h
  refine h.mono fun e w' ⟨he, hw⟩ => ⟨?_, hw.symm⟩
  rw [he, decDigits_small _ (by omega), show ((x.toNat : Nat) : Int) = x by omega]
  rfl

theorem below_grow {w : World} (k : Nat) (os : Array Obj) : Below w.heap.size w (grow (w.drewN k) os) := by
  refine ⟨rfl, rfl, rfl, ?_, fun i hi => ?_⟩
  · show w.heap.size ≤ (w.heap ++ os).size
    simp
  · show (w.heap ++ os)[i]? = w.heap[i]?
    exact Array.getElem?_append_left hi
theorem itoaAny (x : Int) (w : World) (hG : G w) (h0 : -9223372036854775808 ≤ x) (h1 : x ≤ 9223372036854775807) :
    Calls Tryz.prog 68 #[.int .i64 x] w fun e w' => e = .returned (.string (bs (Lib.itoa x))) ∧ Below w.heap.size w w' :=
  (Tryz.strconv_Itoa x h0 h1 w hG.pow).mono fun e w' ⟨he, k, os, hw⟩ => ⟨he, hw ▸ below_grow k os⟩
end Go.Proofs.YtehkfbgbpmfpmaaGreatDoor
