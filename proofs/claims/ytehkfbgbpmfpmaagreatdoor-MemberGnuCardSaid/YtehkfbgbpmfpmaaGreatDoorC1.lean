/- head's numbers. -/
import Derived.Test.YtehkfbgbpmfpmaaGreatDoorC0
namespace Go.Proofs.YtehkfbgbpmfpmaaGreatDoor
set_option linter.unusedVariables false
set_option linter.unusedSimpArgs false
open Go.RowKit

set_option maxHeartbeats 4000000 in
theorem headNumbers (rb : Nat) (w : World) :
    Calls Tryz.prog 106 #[.pointer (some ⟨rb, 0, none⟩)] w fun e w' => e = .returned (.agg #[.pointer (some ⟨rb, 6, none⟩), .pointer (some ⟨rb, 7, none⟩), .pointer (some ⟨rb, 8, none⟩), .pointer (some ⟨rb, 9, none⟩), .pointer (some ⟨rb, 10, none⟩), .pointer (some ⟨rb, 11, none⟩), .pointer (some ⟨rb, 12, none⟩)]) ∧ Below w.heap.size w w' := by
  go_enter Tryz.func106, Tryz.ntmps106
  go_wp2
  go_region
  go_wp2
  exact bodyPost_ret (v := .agg #[.pointer (some ⟨rb, 6, none⟩), .pointer (some ⟨rb, 7, none⟩), .pointer (some ⟨rb, 8, none⟩), .pointer (some ⟨rb, 9, none⟩), .pointer (some ⟨rb, 10, none⟩), .pointer (some ⟨rb, 11, none⟩), .pointer (some ⟨rb, 12, none⟩)]) (by simp [results, Tryz.results106, go_sem]) rfl ⟨rfl, bl_drew (bl_alloc (bl_refl w) _)⟩

end Go.Proofs.YtehkfbgbpmfpmaaGreatDoor
