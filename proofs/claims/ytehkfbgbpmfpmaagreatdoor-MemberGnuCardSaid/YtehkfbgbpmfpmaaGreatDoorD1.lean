/- path.Split and revetmentref.Split. -/
import Derived.Test.YtehkfbgbpmfpmaaGreatDoorA7
namespace Go.Proofs.YtehkfbgbpmfpmaaGreatDoor
set_option linter.unusedVariables false
set_option linter.unusedSimpArgs false
open Go.RowKit

/-- may a name be cut at place i? -/
def cutAt (l : List UInt8) (i : Nat) : Bool := decide (l.getD i 0 = 47) && (decide (1 ≤ i) && (decide (i ≤ 155) && (decide (i + 2 ≤ l.length) && decide (l.length ≤ i + 101))))
def splitS (s : ByteArray) : ByteArray × ByteArray × Bool :=
  if s.size ≤ 100 then (bs [], s, true) else
  match (List.range s.size).find? (cutAt s.data.toList) with
  | none => (bs [], bs [], false)
  | some i => (s.extract 0 i, s.extract (i + 1) s.size, true)

theorem find_some {n i : Nat} {p : Nat → Bool} (hi : i < n) (hp : p i = true) (h : ∀ j, j < i → p j = false) : (List.range n).find? p = some i := by
  rw [List.find?_range_eq_some]
  exact ⟨hp, List.mem_range.2 hi, fun j hj => by simp [h j hj]⟩
theorem find_none {n : Nat} {p : Nat → Bool} (h : ∀ j, j < n → p j = false) : (List.range n).find? p = none := by
  rw [List.find?_range_eq_none]
  intro i hi
  simp [h i hi]

theorem byteEq (s : ByteArray) (i : Nat) (h : i < s.size) : ((s[i].toNat : Int) == 47) = decide (s.data.toList.getD i 0 = 47) := by
  have e := byteAt s i h
  rw [Bool.eq_iff_iff, beq_iff_eq, decide_eq_true_iff, e]
  constructor
  · intro h2
    apply UInt8.toNat_inj.1
    have : ((47 : UInt8).toNat : Int) = 47 := rfl
    omega
  · intro h2
    rw [h2]; rfl

set_option maxHeartbeats 1000000 in
theorem pathSplit (s : ByteArray) (w : World) (hs : s.size ≤ 1000000000) :
    Calls Tryz.prog 84 #[.string s] w fun e w' => e = .returned (.tuple #[.string (splitS s).1, .string (splitS s).2.1, .bool (splitS s).2.2]) ∧ Below w.heap.size w w' := by
  by_cases h0 : s.size ≤ 100
  · have e := Lib.hid (show splitS s = (bs [], s, true) by unfold splitS; rw [if_pos h0])
    go_enter Tryz.func84, Tryz.ntmps84
    go_wp2
    go_ret3
    rw [e.out]
    exact ⟨rfl, bl_refl w⟩
  · have hl := Lib.hid (Lib.size_eq s)
    go_enter Tryz.func84, Tryz.ntmps84
    go_wp2
    go_loop [13] (fun i => ∃ j : Nat, j ≤ s.size ∧ i = .int .i64 j ∧ Hid (∀ k, k < j → cutAt s.data.toList k = false)) (fun i => s.size - (intOf i).toNat)
    case atStart => exact ⟨0, by omega, rfl, fun k hk => by omega⟩
    case round =>
      obtain ⟨j, hj, rfl, HN⟩ := hrel
      by_cases hlt : j < s.size
      · have HB := Lib.hid (byteEq s j hlt)
        by_cases hc : cutAt s.data.toList j = true
        · have e := Lib.hid (show splitS s = (s.extract 0 j, s.extract (j + 1) s.size, true) by unfold splitS; rw [if_neg h0, find_some hlt hc HN.out])
          unfold cutAt at hc
          simp only [Bool.and_eq_true] at hc
          obtain ⟨q0, q1, q2, q3, q4⟩ := hc
          have hq0 : ((s[j].toNat : Int) == 47) = true := by rw [HB.out]; exact q0
          rw [← hl.out] at q3 q4
          have q1 := of_decide_eq_true q1
          have q2 := of_decide_eq_true q2
          have q3 := of_decide_eq_true q3
          have q4 := of_decide_eq_true q4
          clear q0
          go_wp2
          go_quiet (fail)
          go_wp2
          go_ret3
          rw [e.out]
          exact ⟨rfl, bl_drewN (bl_refl w) _⟩
        · have hcf : cutAt s.data.toList j = false := by simpa using hc
          have HN2 := Lib.hid (show ∀ k, k < j + 1 → cutAt s.data.toList k = false from fun k hk => by
            by_cases e : k = j
            · rw [e]; exact hcf
            · exact HN.out k (by omega))
          have hcase : ((s[j].toNat : Int) == 47) = false ∨ ((s[j].toNat : Int) == 47) = true ∧ (j < 1 ∨ 1 ≤ j ∧ (155 < j ∨ j ≤ 155 ∧ (s.size < j + 2 ∨ j + 2 ≤ s.size ∧ j + 101 < s.size))) := by
            unfold cutAt at hcf
            rw [← hl.out] at hcf
            cases hx : ((s[j].toNat : Int) == 47)
            · exact .inl rfl
            · refine .inr ⟨rfl, ?_⟩
              rw [HB.out] at hx
              rw [hx, Bool.true_and] at hcf
              simp at hcf
              omega
          clear hc hcf HN HB
          rcases hcase with hq | ⟨hq, h1 | ⟨h1, h2 | ⟨h2, h3 | ⟨h3, h4⟩⟩⟩⟩
          all_goals
            go_wp2
            go_round
            case rel => exact ⟨j + 1, by omega, by go_num, HN2⟩
            case measure => simp [intOf]; omega
      · obtain rfl : s.size = j := by omega
        have e := Lib.hid (show splitS s = (bs [], bs [], false) by unfold splitS; rw [if_neg h0, find_none HN.out])
        go_wp2
        go_ret3
        rw [e.out]
        exact ⟨rfl, bl_refl w⟩

theorem cutAt_far (l : List UInt8) (k : Nat) (h : k < 1 ∨ 155 < k) : cutAt l k = false := by
  unfold cutAt
  simp
  omega

set_option maxHeartbeats 1000000 in
theorem refSplit (s : ByteArray) (w : World) (hs : s.size ≤ 1000000000) :
    Calls Tryz.prog 70 #[.string s] w fun e w' => e = .returned (.tuple #[.string (splitS s).1, .string (splitS s).2.1, .bool (splitS s).2.2]) ∧ Below w.heap.size w w' := by
  by_cases h0 : s.size ≤ 100
  · have e := Lib.hid (show splitS s = (bs [], s, true) by unfold splitS; rw [if_pos h0])
    go_enter Tryz.func70, Tryz.ntmps70
    go_wp2
    go_ret3
    rw [e.out]
    exact ⟨rfl, bl_refl w⟩
  · have hl := Lib.hid (Lib.size_eq s)
    go_enter Tryz.func70, Tryz.ntmps70
    go_wp2
    go_loop [5] (fun i => ∃ j : Nat, 1 ≤ j ∧ j ≤ s.size ∧ j ≤ 156 ∧ i = .int .i64 j ∧ Hid (∀ k, k < j → cutAt s.data.toList k = false)) (fun i => s.size - (intOf i).toNat)
    case atStart => exact ⟨1, by omega, by omega, by omega, rfl, fun k hk => cutAt_far _ _ (by omega)⟩
    case round =>
      obtain ⟨j, hj0, hj, hj2, rfl, HN⟩ := hrel
      by_cases hlt : j < s.size ∧ j ≤ 155
      · obtain ⟨hlt, h155⟩ := hlt
        have HB := Lib.hid (byteEq s j hlt)
        by_cases hc : cutAt s.data.toList j = true
        · have e := Lib.hid (show splitS s = (s.extract 0 j, s.extract (j + 1) s.size, true) by unfold splitS; rw [if_neg h0, find_some hlt hc HN.out])
          unfold cutAt at hc
          simp only [Bool.and_eq_true] at hc
          obtain ⟨q0, q1, q2, q3, q4⟩ := hc
          have hq0 : ((s[j].toNat : Int) == 47) = true := by rw [HB.out]; exact q0
          rw [← hl.out] at q3 q4
          have q3 := of_decide_eq_true q3
          have q4 := of_decide_eq_true q4
          clear q0 q1 q2
          go_wp2_with (first | (go_at_call 27; refine (refWithin _ _ _ _).mono ?_; rintro e w' ⟨rfl, rfl⟩))
          go_ret3
          rw [e.out]
          exact ⟨rfl, bl_refl _⟩
        · have hcf : cutAt s.data.toList j = false := by simpa using hc
          have HN2 := Lib.hid (show ∀ k, k < j + 1 → cutAt s.data.toList k = false from fun k hk => by
            by_cases e : k = j
            · rw [e]; exact hcf
            · exact HN.out k (by omega))
          have hcase : ((s[j].toNat : Int) == 47) = false ∨ ((s[j].toNat : Int) == 47) = true ∧ (s.size < j + 2 ∨ j + 2 ≤ s.size ∧ j + 101 < s.size) := by
            unfold cutAt at hcf
            rw [← hl.out] at hcf
            cases hx : ((s[j].toNat : Int) == 47)
            · exact .inl rfl
            · refine .inr ⟨rfl, ?_⟩
              rw [HB.out] at hx
              rw [hx, Bool.true_and] at hcf
              simp at hcf
              omega
          clear hc hcf HN HB
          rcases hcase with hq | ⟨hq, h3 | ⟨h3, h4⟩⟩
          all_goals
            go_wp2_with (first | (go_at_call 27; refine (refWithin _ _ _ _).mono ?_; rintro e w' ⟨rfl, rfl⟩))
            go_round
            case rel => exact ⟨j + 1, by omega, by omega, by omega, by go_num, HN2⟩
            case measure => simp [intOf]; omega
      · have e := Lib.hid (show splitS s = (bs [], bs [], false) by
          unfold splitS
          rw [if_neg h0, find_none (fun k hk => by
            by_cases e : k < j
            · exact HN.out k e
            · exact cutAt_far _ _ (by omega))])
        have hlt2 : j = s.size ∧ j ≤ 155 ∨ 155 < j := by omega
        rcases hlt2 with ⟨rfl, h155⟩ | h155
        all_goals
          go_wp2
          go_ret3
          rw [e.out]
          exact ⟨rfl, bl_refl _⟩
end Go.Proofs.YtehkfbgbpmfpmaaGreatDoor
