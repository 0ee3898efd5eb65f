/- hole.Right, hole.Size and revetmentref's MapRight, MapSize. -/
import Derived.Test.YtehkfbgbpmfpmaaGreatDoorE1
namespace Go.Proofs.YtehkfbgbpmfpmaaGreatDoor
set_option linter.unusedVariables false
set_option linter.unusedSimpArgs false
open Go.RowKit

/-- pieces lie in memory -/
def PRow (w : World) (a : Option Addr) (n : Nat) (l : List (Int × Int)) : Prop :=
  n = l.length ∧ (n = 0 ∨ ∃ b o, a = some ⟨b, o, none⟩ ∧ ∀ i, i < n → w.cell? ⟨b, o + i * 2, none⟩ = some (.int .i64 (l.getD i (0, 0)).1) ∧ w.cell? ⟨b, o + i * 2 + 1, none⟩ = some (.int .i64 (l.getD i (0, 0)).2))
theorem lt_of_cell {w : World} {b o : Nat} {v : Value} (h : w.cell? ⟨b, o, none⟩ = some v) : b < w.heap.size := by
  apply Classical.byContradiction
  intro hb
  have : w.heap[b]? = none := by simp; omega
  simp [World.cell?, this] at h
theorem PRow.bl {w w' : World} {a : Option Addr} {n : Nat} {l : List (Int × Int)} (h : PRow w a n l) (hb : Below w.heap.size w w') : PRow w' a n l := by
  obtain ⟨h1, h2⟩ := h
  refine ⟨h1, ?_⟩
  rcases h2 with h2 | ⟨b, o, e, hc⟩
  · exact .inl h2
  · refine .inr ⟨b, o, e, fun i hi => ?_⟩
    have hk := (bl_cells hb).1
    have hc := hc i hi
    exact ⟨(hk _ _ (lt_of_cell hc.1)).trans hc.1, (hk _ _ (lt_of_cell hc.2)).trans hc.2⟩
/-- pieces are numbers of 64 bits -/
def PIn (l : List (Int × Int)) : Prop := ∀ i, i < l.length → (-9223372036854775808 ≤ (l.getD i (0, 0)).1 ∧ (l.getD i (0, 0)).1 ≤ 9223372036854775807) ∧ (-9223372036854775808 ≤ (l.getD i (0, 0)).2 ∧ (l.getD i (0, 0)).2 ≤ 9223372036854775807)

def okAt (l : List (Int × Int)) (size : Int) (i : Nat) : Bool :=
  decide (0 ≤ (l.getD i (0, 0)).1) && (decide (1 ≤ (l.getD i (0, 0)).2) && (decide ((l.getD i (0, 0)).2 ≤ size) && (decide ((l.getD i (0, 0)).1 ≤ size - (l.getD i (0, 0)).2) &&
    (decide (i = 0) || decide ((l.getD (i - 1) (0, 0)).1 + (l.getD (i - 1) (0, 0)).2 < (l.getD i (0, 0)).1)))))
def mapOk (l : List (Int × Int)) (size : Int) : Bool := decide (0 ≤ size) && (decide (l.length ≤ 20) && (List.range l.length).all (okAt l size))
theorem mapOk_bad {l : List (Int × Int)} {size : Int} {i : Nat} (hi : i < l.length) (h : okAt l size i = false) : mapOk l size = false := by
  unfold mapOk
  rw [show (List.range l.length).all (okAt l size) = false from List.all_eq_false.2 ⟨i, List.mem_range.2 hi, by simp [h]⟩]
  simp
theorem mapOk_good {l : List (Int × Int)} {size : Int} (h0 : 0 ≤ size) (h1 : l.length ≤ 20) (h : ∀ i, i < l.length → okAt l size i = true) : mapOk l size = true := by
  unfold mapOk
  rw [show (List.range l.length).all (okAt l size) = true from List.all_eq_true.2 fun i hi => h i (List.mem_range.1 hi)]
  simp [h0, h1]

set_option maxHeartbeats 4000000 in
theorem mapRight (a : Option Addr) (n c : Nat) (l : List (Int × Int)) (size : Int) (w : World) (hr : PRow w a n l) (hp : PIn l) (hs1 : size ≤ 9223372036854775807) (hs0 : -9223372036854775808 ≤ size) :
    Calls Tryz.prog 60 #[.slice a n c, .int .i64 size] w fun e w' => e = .returned (.bool (mapOk l size)) ∧ Below w.heap.size w w' := by
  have HR := Lib.hid hr
  have HP := Lib.hid hp
  obtain ⟨hn, -⟩ := hr
  have Hn := Lib.hid hn
  clear hp hn
  by_cases h0 : 0 ≤ size
  · have d0 : decide (size < 0) = false := decide_eq_false (by omega)
    by_cases h1 : n ≤ 20
    · have d1 : decide (20 < (n : Int)) = false := decide_eq_false (by omega)
      go_enter Tryz.func60, Tryz.ntmps60
      go_wp2
      go_loopw [16] (fun i wr => ∃ j : Nat, j ≤ n ∧ i = .int .i64 j ∧ Below w.heap.size w wr ∧ Hid (∀ k, k < j → okAt l size k = true)) (fun i _ => n - (intOf i).toNat)
      case atStart => exact ⟨0, by omega, rfl, bl_refl w, Lib.hid fun k hk => by omega⟩
      case round =>
        obtain ⟨j, hj, rfl, hb, HN⟩ := hrel
        by_cases hlt : j < n
        · obtain ⟨-, h2⟩ := HR.out.bl hb
          rcases h2 with h2 | ⟨b, o, rfl, hc⟩
          · omega
          obtain ⟨hc1, hc2⟩ := hc j hlt
          have hin := HP.out j (by rw [← Hn.out]; exact hlt)
          have HC := Lib.hid hc
          clear hc
          obtain ⟨p, hp1⟩ : ∃ p, Hid (p = (l.getD j (0, 0)).1) := ⟨_, rfl⟩
          obtain ⟨q, hq1⟩ : ∃ q, Hid (q = (l.getD j (0, 0)).2) := ⟨_, rfl⟩
          rw [← hp1.out] at hc1 hin
          rw [← hq1.out] at hc2 hin
          obtain ⟨⟨p0, p1⟩, q0, q1⟩ := hin
          by_cases hA : 0 ≤ p
          · have dA : decide (p < 0) = false := decide_eq_false (by omega)
            by_cases hB : 1 ≤ q
            · have dB : decide (q < 1) = false := decide_eq_false (by omega)
              by_cases hC : q ≤ size
              · have dC : decide (size < q) = false := decide_eq_false (by omega)
                have w1 : IntKind.i64.wrap (size - q) = size - q := IntWalk.i64_in _ (by omega)
                by_cases hD : p ≤ size - q
                · have dD : decide (size - q < p) = false := decide_eq_false (by omega)
                  by_cases hj0 : j = 0
                  · subst hj0
                    simp only [Nat.zero_mul, Nat.add_zero] at hc1 hc2
                    have HB := Lib.hid (show ∀ k, k < 0 + 1 → okAt l size k = true from fun k hk => by
                      by_cases e : k = 0
                      · rw [e]; unfold okAt; rw [← hp1.out, ← hq1.out]; simp [hA, hB, hC, hD]
                      · exact HN.out k (by omega))
                    clear HN HC
                    go_wp2
                    go_quiet (fail)
                    go_wp2
                    go_roundw
                    case rel => exact ⟨1, by omega, rfl, by first | exact bl_drewN (bl_alloc hb _) _ | exact bl_alloc hb _, HB⟩
                    case measure => simp [intOf]; omega
                  · have dj : decide (0 < (j : Int)) = true := decide_eq_true (by omega)
                    have dj2 : decide (0 < j) = true := decide_eq_true (by omega)
                    have dj3 : 0 < j := by omega
                    obtain ⟨e1, e2⟩ := HC.out (j - 1) (by omega)
                    have ho := HN.out (j - 1) (by omega)
                    obtain ⟨x, hx⟩ : ∃ x, Hid (x = (l.getD (j - 1) (0, 0)).1) := ⟨_, rfl⟩
                    obtain ⟨y, hy⟩ : ∃ y, Hid (y = (l.getD (j - 1) (0, 0)).2) := ⟨_, rfl⟩
                    have e3 : ∀ cs t, (wr.alloc (.cells cs t)).cell? ⟨b, o + (j - 1) * 2, none⟩ = some (.int .i64 x) := fun cs t => ((bl_cells (bl_alloc (bl_refl wr) _)).1 _ _ (lt_of_cell e1)).trans (by rw [hx.out]; exact e1)
                    have e4 : ∀ cs t, (wr.alloc (.cells cs t)).cell? ⟨b, o + (j - 1) * 2 + 1, none⟩ = some (.int .i64 y) := fun cs t => ((bl_cells (bl_alloc (bl_refl wr) _)).1 _ _ (lt_of_cell e2)).trans (by rw [hy.out]; exact e2)
                    have e3 := e3 #[.int .i64 p, .int .i64 q] 120
                    have e4 := e4 #[.int .i64 p, .int .i64 q] 120
                    clear e1 e2
                    unfold okAt at ho
                    rw [← hx.out, ← hy.out] at ho
                    simp only [Bool.and_eq_true] at ho
                    obtain ⟨x0, y0, y1, x1, -⟩ := ho
                    have x0 := of_decide_eq_true x0
                    have y0 := of_decide_eq_true y0
                    have y1 := of_decide_eq_true y1
                    have x1 := of_decide_eq_true x1
                    have w2 : IntKind.i64.wrap (x + y) = x + y := IntWalk.i64_in _ (by omega)
                    have w3 : IntKind.i64.wrap ((j : Int) - 1) = (j : Int) - 1 := IntWalk.i64_in _ (by omega)
                    have w4 : ((j : Int) - 1).toNat = j - 1 := by omega
                    by_cases hF : x + y < p
                    · have dF : decide (p ≤ x + y) = false := decide_eq_false (by omega)
                      have HB := Lib.hid (show ∀ k, k < j + 1 → okAt l size k = true from fun k hk => by
                        by_cases e : k = j
                        · rw [e]; unfold okAt; rw [← hp1.out, ← hq1.out]; rw [← hx.out, ← hy.out]; simp [hA, hB, hC, hD, hF]
                        · exact HN.out k (by omega))
                      clear HN HC
                      go_wp2
                      go_quiet (fail)
                      go_wp2
                      go_roundw
                      case rel => exact ⟨j + 1, by omega, by go_num, by first | exact bl_drewN (bl_alloc hb _) _ | exact bl_alloc hb _, HB⟩
                      case measure => simp [intOf]; omega
                    · have dF : decide (p ≤ x + y) = true := decide_eq_true (by omega)
                      have HB := Lib.hid (mapOk_bad (by rw [← Hn.out]; exact hlt) (show okAt l size j = false by unfold okAt; rw [← hp1.out, ← hq1.out]; rw [← hx.out, ← hy.out]; simp [hj0, hF]))
                      clear HN HC
                      go_wp2
                      all_goals try (go_quiet (fail); go_wp2)
                      all_goals go_ret
                      all_goals exact ⟨ret_bool HB.out.symm, by first | exact bl_drewN (bl_alloc hb _) _ | exact bl_alloc hb _⟩
                · have dD : decide (size - q < p) = true := decide_eq_true (by omega)
                  have HB := Lib.hid (mapOk_bad (by rw [← Hn.out]; exact hlt) (show okAt l size j = false by unfold okAt; rw [← hp1.out, ← hq1.out]; simp [hD]))
                  clear HN HC
                  go_wp2
                  all_goals try (go_quiet (fail); go_wp2)
                  all_goals go_ret
                  all_goals exact ⟨ret_bool HB.out.symm, by first | exact bl_drewN (bl_alloc hb _) _ | exact bl_alloc hb _⟩
              · have dC : decide (size < q) = true := decide_eq_true (by omega)
                have HB := Lib.hid (mapOk_bad (by rw [← Hn.out]; exact hlt) (show okAt l size j = false by unfold okAt; rw [← hp1.out, ← hq1.out]; simp [hC]))
                clear HN HC
                go_wp2
                all_goals try (go_quiet (fail); go_wp2)
                all_goals go_ret
                all_goals exact ⟨ret_bool HB.out.symm, by first | exact bl_drewN (bl_alloc hb _) _ | exact bl_alloc hb _⟩
            · have dB : decide (q < 1) = true := decide_eq_true (by omega)
              have HB := Lib.hid (mapOk_bad (by rw [← Hn.out]; exact hlt) (show okAt l size j = false by unfold okAt; rw [← hp1.out, ← hq1.out]; simp [hB]))
              clear HN HC
              go_wp2
              all_goals try (go_quiet (fail); go_wp2)
              all_goals go_ret
              all_goals exact ⟨ret_bool HB.out.symm, by first | exact bl_drewN (bl_alloc hb _) _ | exact bl_alloc hb _⟩
          · have dA : decide (p < 0) = true := decide_eq_true (by omega)
            have HB := Lib.hid (mapOk_bad (by rw [← Hn.out]; exact hlt) (show okAt l size j = false by unfold okAt; rw [← hp1.out, ← hq1.out]; simp [hA]))
            clear HN HC
            go_wp2
            all_goals try (go_quiet (fail); go_wp2)
            all_goals go_ret
            all_goals exact ⟨ret_bool HB.out.symm, by first | exact bl_drewN (bl_alloc hb _) _ | exact bl_alloc hb _⟩
        · obtain rfl : n = j := by omega
          have HB := Lib.hid (mapOk_good h0 (by rw [← Hn.out]; exact h1) (by rw [← Hn.out]; exact HN.out))
          go_wp2
          go_ret
          exact ⟨ret_bool HB.out.symm, hb⟩
    · have d1 : decide (20 < (n : Int)) = true := decide_eq_true (by omega)
      have HB := Lib.hid (show mapOk l size = false by unfold mapOk; rw [show decide (l.length ≤ 20) = false from decide_eq_false (by rw [← Hn.out]; exact h1)]; simp)
      go_enter Tryz.func60, Tryz.ntmps60
      go_wp2
      go_ret
      exact ⟨ret_bool HB.out.symm, bl_refl w⟩
  · have d0 : decide (size < 0) = true := decide_eq_true (by omega)
    have HB := Lib.hid (show mapOk l size = false by unfold mapOk; rw [show decide (0 ≤ size) = false from decide_eq_false h0]; simp)
    go_enter Tryz.func60, Tryz.ntmps60
    go_wp2
    go_ret
    exact ⟨ret_bool HB.out.symm, bl_refl w⟩

set_option maxHeartbeats 4000000 in
theorem holeRight (a : Option Addr) (n c : Nat) (l : List (Int × Int)) (size : Int) (w : World) (hr : PRow w a n l) (hp : PIn l) (hs1 : size ≤ 9223372036854775807) (hs0 : -9223372036854775808 ≤ size) :
    Calls Tryz.prog 116 #[.slice a n c, .int .i64 size] w fun e w' => e = .returned (.bool (mapOk l size)) ∧ Below w.heap.size w w' := by
  have HR := Lib.hid hr
  have HP := Lib.hid hp
  obtain ⟨hn, -⟩ := hr
  have Hn := Lib.hid hn
  clear hp hn
  by_cases h0 : 0 ≤ size
  · have d0 : decide (size < 0) = false := decide_eq_false (by omega)
    by_cases h1 : n ≤ 20
    · have d1 : decide (20 < (n : Int)) = false := decide_eq_false (by omega)
      go_enter Tryz.func116, Tryz.ntmps116
      go_wp2
      go_loopw [16] (fun i wr => ∃ j : Nat, j ≤ n ∧ i = .int .i64 j ∧ Below w.heap.size w wr ∧ Hid (∀ k, k < j → okAt l size k = true)) (fun i _ => n - (intOf i).toNat)
      case atStart => exact ⟨0, by omega, rfl, bl_refl w, Lib.hid fun k hk => by omega⟩
      case round =>
        obtain ⟨j, hj, rfl, hb, HN⟩ := hrel
        by_cases hlt : j < n
        · obtain ⟨-, h2⟩ := HR.out.bl hb
          rcases h2 with h2 | ⟨b, o, rfl, hc⟩
          · omega
          obtain ⟨hc1, hc2⟩ := hc j hlt
          have hin := HP.out j (by rw [← Hn.out]; exact hlt)
          have HC := Lib.hid hc
          clear hc
          obtain ⟨p, hp1⟩ : ∃ p, Hid (p = (l.getD j (0, 0)).1) := ⟨_, rfl⟩
          obtain ⟨q, hq1⟩ : ∃ q, Hid (q = (l.getD j (0, 0)).2) := ⟨_, rfl⟩
          rw [← hp1.out] at hc1 hin
          rw [← hq1.out] at hc2 hin
          obtain ⟨⟨p0, p1⟩, q0, q1⟩ := hin
          by_cases hA : 0 ≤ p
          · have dA : decide (p < 0) = false := decide_eq_false (by omega)
            by_cases hB : 1 ≤ q
            · have dB : decide (q < 1) = false := decide_eq_false (by omega)
              by_cases hC : q ≤ size
              · have dC : decide (size < q) = false := decide_eq_false (by omega)
                have w1 : IntKind.i64.wrap (size - q) = size - q := IntWalk.i64_in _ (by omega)
                by_cases hD : p ≤ size - q
                · have dD : decide (size - q < p) = false := decide_eq_false (by omega)
                  by_cases hj0 : j = 0
                  · subst hj0
                    simp only [Nat.zero_mul, Nat.add_zero] at hc1 hc2
                    have HB := Lib.hid (show ∀ k, k < 0 + 1 → okAt l size k = true from fun k hk => by
                      by_cases e : k = 0
                      · rw [e]; unfold okAt; rw [← hp1.out, ← hq1.out]; simp [hA, hB, hC, hD]
                      · exact HN.out k (by omega))
                    clear HN HC
                    go_wp2
                    go_quiet (fail)
                    go_wp2
                    go_roundw
                    case rel => exact ⟨1, by omega, rfl, by first | exact bl_drewN (bl_alloc hb _) _ | exact bl_alloc hb _, HB⟩
                    case measure => simp [intOf]; omega
                  · have dj : decide (0 < (j : Int)) = true := decide_eq_true (by omega)
                    have dj2 : decide (0 < j) = true := decide_eq_true (by omega)
                    have dj3 : 0 < j := by omega
                    obtain ⟨e1, e2⟩ := HC.out (j - 1) (by omega)
                    have ho := HN.out (j - 1) (by omega)
                    obtain ⟨x, hx⟩ : ∃ x, Hid (x = (l.getD (j - 1) (0, 0)).1) := ⟨_, rfl⟩
                    obtain ⟨y, hy⟩ : ∃ y, Hid (y = (l.getD (j - 1) (0, 0)).2) := ⟨_, rfl⟩
                    have e3 : ∀ cs t, (wr.alloc (.cells cs t)).cell? ⟨b, o + (j - 1) * 2, none⟩ = some (.int .i64 x) := fun cs t => ((bl_cells (bl_alloc (bl_refl wr) _)).1 _ _ (lt_of_cell e1)).trans (by rw [hx.out]; exact e1)
                    have e4 : ∀ cs t, (wr.alloc (.cells cs t)).cell? ⟨b, o + (j - 1) * 2 + 1, none⟩ = some (.int .i64 y) := fun cs t => ((bl_cells (bl_alloc (bl_refl wr) _)).1 _ _ (lt_of_cell e2)).trans (by rw [hy.out]; exact e2)
                    have e3 := e3 #[.int .i64 p, .int .i64 q] 120
                    have e4 := e4 #[.int .i64 p, .int .i64 q] 120
                    clear e1 e2
                    unfold okAt at ho
                    rw [← hx.out, ← hy.out] at ho
                    simp only [Bool.and_eq_true] at ho
                    obtain ⟨x0, y0, y1, x1, -⟩ := ho
                    have x0 := of_decide_eq_true x0
                    have y0 := of_decide_eq_true y0
                    have y1 := of_decide_eq_true y1
                    have x1 := of_decide_eq_true x1
                    have w2 : IntKind.i64.wrap (x + y) = x + y := IntWalk.i64_in _ (by omega)
                    have w3 : IntKind.i64.wrap ((j : Int) - 1) = (j : Int) - 1 := IntWalk.i64_in _ (by omega)
                    have w4 : ((j : Int) - 1).toNat = j - 1 := by omega
                    by_cases hF : x + y < p
                    · have dF : decide (p ≤ x + y) = false := decide_eq_false (by omega)
                      have HB := Lib.hid (show ∀ k, k < j + 1 → okAt l size k = true from fun k hk => by
                        by_cases e : k = j
                        · rw [e]; unfold okAt; rw [← hp1.out, ← hq1.out]; rw [← hx.out, ← hy.out]; simp [hA, hB, hC, hD, hF]
                        · exact HN.out k (by omega))
                      clear HN HC
                      go_wp2
                      go_quiet (fail)
                      go_wp2
                      go_roundw
                      case rel => exact ⟨j + 1, by omega, by go_num, by first | exact bl_drewN (bl_alloc hb _) _ | exact bl_alloc hb _, HB⟩
                      case measure => simp [intOf]; omega
                    · have dF : decide (p ≤ x + y) = true := decide_eq_true (by omega)
                      have HB := Lib.hid (mapOk_bad (by rw [← Hn.out]; exact hlt) (show okAt l size j = false by unfold okAt; rw [← hp1.out, ← hq1.out]; rw [← hx.out, ← hy.out]; simp [hj0, hF]))
                      clear HN HC
                      go_wp2
                      all_goals try (go_quiet (fail); go_wp2)
                      all_goals go_ret
                      all_goals exact ⟨ret_bool HB.out.symm, by first | exact bl_drewN (bl_alloc hb _) _ | exact bl_alloc hb _⟩
                · have dD : decide (size - q < p) = true := decide_eq_true (by omega)
                  have HB := Lib.hid (mapOk_bad (by rw [← Hn.out]; exact hlt) (show okAt l size j = false by unfold okAt; rw [← hp1.out, ← hq1.out]; simp [hD]))
                  clear HN HC
                  go_wp2
                  all_goals try (go_quiet (fail); go_wp2)
                  all_goals go_ret
                  all_goals exact ⟨ret_bool HB.out.symm, by first | exact bl_drewN (bl_alloc hb _) _ | exact bl_alloc hb _⟩
              · have dC : decide (size < q) = true := decide_eq_true (by omega)
                have HB := Lib.hid (mapOk_bad (by rw [← Hn.out]; exact hlt) (show okAt l size j = false by unfold okAt; rw [← hp1.out, ← hq1.out]; simp [hC]))
                clear HN HC
                go_wp2
                all_goals try (go_quiet (fail); go_wp2)
                all_goals go_ret
                all_goals exact ⟨ret_bool HB.out.symm, by first | exact bl_drewN (bl_alloc hb _) _ | exact bl_alloc hb _⟩
            · have dB : decide (q < 1) = true := decide_eq_true (by omega)
              have HB := Lib.hid (mapOk_bad (by rw [← Hn.out]; exact hlt) (show okAt l size j = false by unfold okAt; rw [← hp1.out, ← hq1.out]; simp [hB]))
              clear HN HC
              go_wp2
              all_goals try (go_quiet (fail); go_wp2)
              all_goals go_ret
              all_goals exact ⟨ret_bool HB.out.symm, by first | exact bl_drewN (bl_alloc hb _) _ | exact bl_alloc hb _⟩
          · have dA : decide (p < 0) = true := decide_eq_true (by omega)
            have HB := Lib.hid (mapOk_bad (by rw [← Hn.out]; exact hlt) (show okAt l size j = false by unfold okAt; rw [← hp1.out, ← hq1.out]; simp [hA]))
            clear HN HC
            go_wp2
            all_goals try (go_quiet (fail); go_wp2)
            all_goals go_ret
            all_goals exact ⟨ret_bool HB.out.symm, by first | exact bl_drewN (bl_alloc hb _) _ | exact bl_alloc hb _⟩
        · obtain rfl : n = j := by omega
          have HB := Lib.hid (mapOk_good h0 (by rw [← Hn.out]; exact h1) (by rw [← Hn.out]; exact HN.out))
          go_wp2
          go_ret
          exact ⟨ret_bool HB.out.symm, hb⟩
    · have d1 : decide (20 < (n : Int)) = true := decide_eq_true (by omega)
      have HB := Lib.hid (show mapOk l size = false by unfold mapOk; rw [show decide (l.length ≤ 20) = false from decide_eq_false (by rw [← Hn.out]; exact h1)]; simp)
      go_enter Tryz.func116, Tryz.ntmps116
      go_wp2
      go_ret
      exact ⟨ret_bool HB.out.symm, bl_refl w⟩
  · have d0 : decide (size < 0) = true := decide_eq_true (by omega)
    have HB := Lib.hid (show mapOk l size = false by unfold mapOk; rw [show decide (0 ≤ size) = false from decide_eq_false h0]; simp)
    go_enter Tryz.func116, Tryz.ntmps116
    go_wp2
    go_ret
    exact ⟨ret_bool HB.out.symm, bl_refl w⟩

end Go.Proofs.YtehkfbgbpmfpmaaGreatDoor
