/- Blocks known whole; copy into a buffer. -/
import Derived.Test.YtehkfbgbpmfpmaaGreatDoorW1
import Derived.Lib.BufferWrite
import Derived.Lib.ConvBytes
import Derived.Deep.RegionLaw
import Derived.StillTailTactics
namespace Go.Proofs.YtehkfbgbpmfpmaaGreatDoor
set_option linter.unusedVariables false
set_option linter.unusedSimpArgs false
open Go.RowKit

/-- block b holds the cells cs -/
structure Blk (w : World) (b : Nat) (cs : Array Value) (t : TypeId) : Prop where
  heap : w.heap[b]? = some (.cells cs t (0, 0))
theorem Blk.lt {w : World} {b : Nat} {cs : Array Value} {t : TypeId} (h : Blk w b cs t) : b < w.heap.size := lt_of_block h.heap
theorem Blk.cell {w : World} {b : Nat} {cs : Array Value} {t : TypeId} (h : Blk w b cs t) (i : Nat) : w.cell? ⟨b, i, none⟩ = cs[i]? := by
  simp [World.cell?, h.heap]
theorem Blk.free {w : World} {b : Nat} {cs : Array Value} {t : TypeId} (h : Blk w b cs t) (i : Nat) : w.frozen? ⟨b, i, none⟩ = false := by
  simp only [World.frozen?, h.heap]
  simp
theorem Blk.below {w w' : World} {b B : Nat} {cs : Array Value} {t : TypeId} (h : Blk w b cs t) (hb : Below B w w') (hB : b < B) : Blk w' b cs t := ⟨(hb.block b hB).trans h.heap⟩
theorem Blk.bl {w w' : World} {b : Nat} {cs : Array Value} {t : TypeId} (h : Blk w b cs t) (hb : Below w.heap.size w w') : Blk w' b cs t := h.below hb h.lt
theorem Blk.alloc {w : World} {b : Nat} {cs : Array Value} {t : TypeId} (h : Blk w b cs t) (o : Obj) : Blk (w.alloc o) b cs t := ⟨(Below.heap_alloc w o b h.lt).trans h.heap⟩
theorem Blk.drew {w : World} {b : Nat} {cs : Array Value} {t : TypeId} (h : Blk w b cs t) : Blk w.drew b cs t := ⟨h.heap⟩
theorem Blk.drewN {w : World} {b : Nat} {cs : Array Value} {t : TypeId} (h : Blk w b cs t) (n : Nat) : Blk (w.drewN n) b cs t := ⟨h.heap⟩
theorem Blk.new (w : World) (cs : Array Value) (t : TypeId) : Blk (w.alloc (.cells cs t)) w.heap.size cs t := ⟨by simp [World.alloc, -World.alloc_eq]⟩
theorem Blk.other {w : World} {b : Nat} {cs : Array Value} {t : TypeId} (h : Blk w b cs t) {a : Addr} (ha : a.block ≠ b) (u : Value) : Blk (w.setCell a u) b cs t :=
  ⟨(Below.heap_setCell w a u b (fun e => ha e.symm)).trans h.heap⟩
theorem Blk.grown {w w' : World} {b g : Nat} {cs : Array Value} {t : TypeId} (h : Blk w b cs t) (hg : w.grownBy w' (some g)) (hne : b ≠ g) : Blk w' b cs t :=
  ⟨(hg.block b h.lt (fun e => hne (Option.some.inj e))).trans h.heap⟩
theorem Buf.blk {w : World} {b : Nat} {l : List UInt8} {t : TypeId} (h : Buf w b t l) : Blk w b (bufC l) t := ⟨h.heap⟩
theorem Buf.drewN {w : World} {b : Nat} {l : List UInt8} {t : TypeId} (h : Buf w b t l) (n : Nat) : Buf (w.drewN n) b t l := ⟨h.heap⟩
theorem Buf.bl {w w' : World} {b : Nat} {l : List UInt8} {t : TypeId} (h : Buf w b t l) (hb : Below w.heap.size w w') : Buf w' b t l := h.below hb h.lt
theorem bl_grown {w W W' : World} {g : Nat} (h : Below w.heap.size w W) (hg : W.grownBy W' (some g)) (hB : w.heap.size ≤ g) : Below w.heap.size w W' :=
  h.grown hg h.size (fun k e => by rw [← Option.some.inj e]; exact hB)

/-- l with s put at place o -/
def putAt (l : List UInt8) (o : Nat) (s : List UInt8) : List UInt8 := l.take o ++ s ++ l.drop (o + s.length)
theorem putAt_length (l : List UInt8) (o : Nat) (s : List UInt8) (h : o + s.length ≤ l.length) : (putAt l o s).length = l.length := by
  simp [putAt]; omega

theorem bufC_putAt (l : List UInt8) (o : Nat) (s : ByteArray) :
    ((bufC l).toList.take o ++ Lib.byteCells s.data.toList ++ (bufC l).toList.drop (o + s.size)).toArray = bufC (putAt l o s.data.toList) := by
  have hs : s.size = s.data.toList.length := Lib.size_eq s
  simp only [bufC, putAt, List.map_append, List.map_take, List.map_drop, hs, Lib.byteCells]

theorem run_copy_buf {P : Program} (dT sT ty elem : TypeId) (hu : P.underlying dT = some (.slice elem)) (hs : (P.info? elem).map (·.size) = some 1)
    {w : World} {g : Nat} {t : TypeId} {l : List UInt8} (hB : Buf w g t l) (o dLen dCap : Nat) (s : ByteArray) (hle : s.size ≤ dLen) (hfit : o + s.size ≤ l.length) :
    ∃ w', (Builtin.copy_ #[dT, sT] ty #[.slice (some ⟨g, o, none⟩) dLen dCap, .string s]).run P w = .ok (goInt s.size) w' ∧ Buf w' g t (putAt l o s.data.toList) ∧ w.grownBy w' (some g) := by
  have hr := Lib.run_copy_row_string w dT sT ty elem g o dLen dCap s (bufC l) t hu hs hB.heap hle (by rw [bufC_size]; exact hfit)
  rw [bufC_putAt] at hr
  refine ⟨_, hr, ⟨?_⟩, ?_⟩
  · have h := hB.heap
    obtain ⟨hlt, hv⟩ := Array.getElem?_eq_some_iff.1 h
    simp only [World.setRow, Array.getElem?_modify, if_pos, h]
    simp
  · refine ⟨rfl, rfl, rfl, by simp [World.setRow], fun k hk hne => ?_⟩
    have : k ≠ g := fun e => hne (by rw [e])
    simp only [World.setRow, Array.getElem?_modify, if_neg (Ne.symm this)]

theorem wpList_copy_buf {P : Program} {w : World} {ops : Array Oper} {rest : List Oper} {o : Oper} {a : Act} {Q : Exit → Act → World → Prop} (hgd : o.guard = none) (d x : Operand) (dT sT : TypeId)
    (hop : o.op = Op.call { callee := Callee.builtin Builtin.copy, args := #[d, x], argTypes := #[dT, sT] }) (elem : TypeId) (hu : P.underlying dT = some (.slice elem)) (hs : (P.info? elem).map (·.size) = some 1)
    {g : Nat} {t : TypeId} {l : List UInt8} (off dLen dCap : Nat) (hd : a.eval d = .slice (some ⟨g, off, none⟩) dLen dCap) (s : ByteArray) (hx : a.eval x = .string s)
    (hB : Buf w g t l) (hle : s.size ≤ dLen) (hfit : off + s.size ≤ l.length)
    (hK : ∀ w', Buf w' g t (putAt l off s.data.toList) → w.grownBy w' (some g) → wpList P ops Q rest (a.put o.dst (goInt s.size)) w') :
    wpList P ops Q (o :: rest) a w := by
  refine wpList_plain hgd fun K hK' => ?_
  obtain ⟨w', hrun, h1, h2⟩ := run_copy_buf (P := P) dT sT o.type elem hu hs hB off dLen dCap s hle hfit
  unfold Oper.wp
  simp [execOp, hop, resolve, invoke, builtin, hd, hx, hrun, Result.andThen]
  exact hK' _ _ (hK w' h1 h2)

theorem step_copy_buf {P : Program} {ops : Array Oper} {o : Oper} {a : Act} {w : World} {K : Act → World → Prop} {Q : Exit → Act → World → Prop} {E : Prop}
    (hg : o.guard = none) (d x : Operand) (dT sT : TypeId) (hop : o.op = Op.call { callee := Callee.builtin Builtin.copy, args := #[d, x], argTypes := #[dT, sT] })
    (elem : TypeId) (hu : P.underlying dT = some (.slice elem)) (hs : (P.info? elem).map (·.size) = some 1)
    {g : Nat} {t : TypeId} {l : List UInt8} (off dLen dCap : Nat) (hd : a.eval d = .slice (some ⟨g, off, none⟩) dLen dCap) (s : ByteArray) (hx : a.eval x = .string s)
    (hB : Buf w g t l) (hle : s.size ≤ dLen) (hfit : off + s.size ≤ l.length)
    (hK : ∀ w', Buf w' g t (putAt l off s.data.toList) → w.grownBy w' (some g) → K (a.put o.dst (goInt s.size)) w') :
    if Region.wanted o (yielded ops a.tmps) = true then Oper.wp P o a w K Q else E := by
  have hw : Region.wanted o (yielded ops a.tmps) = true := by simp [Region.wanted, hg]
  rw [if_pos hw]
  obtain ⟨w', hrun, h1, h2⟩ := run_copy_buf (P := P) dT sT o.type elem hu hs hB off dLen dCap s hle hfit
  unfold Oper.wp
  simp [execOp, hop, resolve, invoke, builtin, hd, hx, hrun, Result.andThen]
  exact hK w' h1 h2
end Go.Proofs.YtehkfbgbpmfpmaaGreatDoor
