/- A store of a whole struct into a block known whole. -/
import Derived.Test.YtehkfbgbpmfpmaaGreatDoorC2
import Derived.Deep.MidRow
namespace Go.Proofs.YtehkfbgbpmfpmaaGreatDoor
set_option linter.unusedVariables false
set_option linter.unusedSimpArgs false
open Go.RowKit

theorem setCells_blk {b : Nat} {t : TypeId} : ∀ (vs : List Value) (o : Nat) (w : World) (cs : Array Value), Blk w b cs t → o + vs.length = cs.size →
    Blk (w.setCells b o vs) b (cs.extract 0 o ++ vs.toArray) t ∧ w.grownBy (w.setCells b o vs) (some b)
  | [], o, w, cs, h, hs => by
    have e : cs.extract 0 o ++ ([] : List Value).toArray = cs := by
      simp at hs
      subst hs
      simp
    rw [e]
    exact ⟨h, grown_refl w b⟩
  | v :: vs, o, w, cs, h, hs => by
    have h1 := h.set o v
    have ih := setCells_blk vs (o + 1) _ _ h1 (by simp at hs ⊢; omega)
    have e : (cs.setIfInBounds o v).extract 0 (o + 1) ++ vs.toArray = cs.extract 0 o ++ (v :: vs).toArray := by
      have ho : o < cs.size := by simp at hs; omega
      have hl : o < cs.toList.length := by simpa using ho
      have ht : (cs.toList.set o v).take (o + 1) = cs.toList.take o ++ [v] := by
        rw [List.set_eq_take_append_cons_drop, if_pos hl, List.take_append, List.take_of_length_le (by simp; omega), List.length_take, Nat.min_eq_left (by omega)]
        simp
      apply Array.ext'
      rw [Array.toList_append, Array.toList_append, Array.toList_extract, Array.toList_extract, Array.toList_setIfInBounds, List.extract_eq_take_drop, List.extract_eq_take_drop, List.drop_zero, List.drop_zero, Nat.sub_zero, Nat.sub_zero, ht]
      simp
    rw [e] at ih
    exact ⟨ih.1, grown_then (grown_set w b o v) ih.2⟩

theorem wpList_store_blk {P : Program} {ops : Array Oper} {rest : List Oper} {op : Oper} {a : Act} {w : World} {Q : Exit → Act → World → Prop} (hgd : op.guard = none) (ty : TypeId) (x y : Operand) (ho : op.op = .store ty x y)
    (b : Nat) (cells : Array Value) (hx : a.eval x = .pointer (some ⟨b, 0, none⟩)) (hy : a.eval y = .agg cells) {old : Array Value} {t : TypeId} (hB : Blk w b old t) (hs : cells.size = old.size)
    (hi : (P.info? ty).map (·.size) = some cells.size) (h1 : cells.all (·.oneCell') = true)
    (h : ∀ w', Blk w' b cells t → w.grownBy w' (some b) → wpList P ops Q rest (a.put op.dst undef) w') : wpList P ops Q (op :: rest) a w := by
  refine wpList_store_mid hgd ty x y ho b 0 cells hx hy (fun j hj => ?_) hi h1 ?_
  · rw [Nat.zero_add, hB.cell, hB.free]
    simp
    omega
  · have := setCells_blk cells.toList 0 w old hB (by simp; exact hs)
    refine h _ ?_ this.2
    have e : old.extract 0 0 ++ cells.toList.toArray = cells := by simp
    rw [e] at this
    exact this.1
end Go.Proofs.YtehkfbgbpmfpmaaGreatDoor
