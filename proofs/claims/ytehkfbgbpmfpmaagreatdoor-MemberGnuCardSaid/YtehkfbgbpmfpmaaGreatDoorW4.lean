/- Regions that draw their order and whose calls make memory: one walk in the order of the text. -/
import Derived.Test.YtehkfbgbpmfpmaaGreatDoorW3
import Derived.Deep.QuietTactic
import Derived.BigQuiet
namespace Go.Proofs.YtehkfbgbpmfpmaaGreatDoor
set_option linter.unusedVariables false
set_option linter.unusedSimpArgs false
open Go.RowKit

/-- a world that below w's end is as w -/
structure Kept (w : World) where
  W : World
  below : Below w.heap.size w W
instance Kept.has (w : World) : Nonempty (Kept w) := ⟨⟨w, Below.refl _ _⟩⟩
theorem Kept.cell {w : World} (k : Kept w) (b o : Nat) (h : b < w.heap.size) : k.W.cell? ⟨b, o, none⟩ = w.cell? ⟨b, o, none⟩ := k.below.cell (p := ⟨b, o, none⟩) h
theorem Kept.frozen {w : World} (k : Kept w) (b o : Nat) (h : b < w.heap.size) : k.W.frozen? ⟨b, o, none⟩ = w.frozen? ⟨b, o, none⟩ := k.below.frozen (p := ⟨b, o, none⟩) h
attribute [go_sem] Kept.cell Kept.frozen
theorem Kept.bl {w w' : World} (h : ∃ k : Kept w, w' = k.W) : Below w.heap.size w w' := by
  obtain ⟨k, rfl⟩ := h
  exact k.below

theorem wp_region_kept {P : Program} {id : Nat} {Q : Exit → Act → World → Prop} {a : Act} {w : World} {l : List Oper} (hm : P.follows .mixedOrders = true) (hB : Region.lexB .any l.toArray = true)
    (h : wpQuiet P l.toArray (fun w' => ∃ k : Kept w, w' = k.W) (fun a' => ∀ w', (∃ k : Kept w, w' = k.W) → Q .normal a' w') l a) : (Code.region id l.toArray true).wp P Q a w :=
  wp_region_quiet (C := fun w' => ∃ k : Kept w, w' = k.W) hm hB ⟨⟨_, (Below.refl _ _).drew⟩, rfl⟩ (by simpa using h)

theorem kept_of {P : Program} {f : FuncId} {args : Array Value} {w : World} {k : Kept w} {v : Value}
    (h : Calls P f args k.W fun e w' => e = .returned v ∧ Below k.W.heap.size k.W w') : Calls P f args k.W fun e w'' => e = .returned v ∧ ∃ k' : Kept w, w'' = k'.W :=
  h.mono fun _ w' ⟨he, hb⟩ => ⟨he, ⟨w', k.below.trans (hb.mono k.below.size)⟩, rfl⟩
theorem kept_same {P : Program} {f : FuncId} {args : Array Value} {w : World} {k : Kept w} {v : Value}
    (h : Calls P f args k.W fun e w' => e = .returned v ∧ k.W = w') : Calls P f args k.W fun e w'' => e = .returned v ∧ ∃ k' : Kept w, w'' = k'.W :=
  h.mono fun _ _ ⟨he, hb⟩ => ⟨he, k, hb.symm⟩
end Go.Proofs.YtehkfbgbpmfpmaaGreatDoor
