/- The world's laws of this seat's proofs: what lies below, buffers of bytes, what the package-level variables hold. -/
import Derived.Test.YtehkfbgbpmfpmaaGreatDoorProg
import Derived.Test.YtehkfbgbpmfpmaaGreatDoorShelf
import Derived.Test.YtehkfbgbpmfpmaaGreatDoorS0
import Derived.WalkKit
import Derived.WalkLawsBesides
import Derived.WalkSpells
import Derived.Deep.QuietTactic
import Derived.BigQuiet
import Derived.Lib.Hide
import Derived.Deep.LoopGhost
import Derived.Laws.BytesArg
import Derived.LaidEql
import Derived.WideLaws
namespace Go.Proofs.YtehkfbgbpmfpmaaGreatDoor
set_option linter.unusedVariables false
set_option linter.unusedSimpArgs false
open Go.RowKit

theorem ret_int {k : IntKind} {a b : Int} (h : a = b) : Ending.returned (.int k a) = Ending.returned (.int k b) := by rw [h]
theorem ret_bool {a b : Bool} (h : a = b) : Ending.returned (.bool a) = Ending.returned (.bool b) := by rw [h]
theorem ret_str {a b : ByteArray} (h : a = b) : Ending.returned (.string a) = Ending.returned (.string b) := by rw [h]

/-! ### what lies below -/
theorem bl_refl (w : World) : Below w.heap.size w w := Below.refl _ _
theorem bl_alloc {w W : World} (h : Below w.heap.size w W) (o : Obj) : Below w.heap.size w (W.alloc o) := h.alloc h.size o
theorem bl_drew {w W : World} (h : Below w.heap.size w W) : Below w.heap.size w W.drew := h.drew
theorem bl_drewN {w W : World} (h : Below w.heap.size w W) (n : Nat) : Below w.heap.size w (W.drewN n) := ⟨h.os, h.tape, h.output, h.size, h.block⟩
theorem bl_set {w W : World} (h : Below w.heap.size w W) {a : Addr} (ha : w.heap.size ≤ a.block) (u : Value) : Below w.heap.size w (W.setCell a u) := h.setCell ha u
theorem bl_then {w W W1 : World} {B : Nat} (k : Below B W W1) (h : Below w.heap.size w W) (hB : w.heap.size ≤ B) : Below w.heap.size w W1 :=
  h.trans (k.mono hB)
theorem bl_cells {W w1 : World} (hb : Below W.heap.size W w1) :
    (∀ b o, b < W.heap.size → w1.cell? ⟨b, o, none⟩ = W.cell? ⟨b, o, none⟩) ∧ (∀ b o, b < W.heap.size → w1.frozen? ⟨b, o, none⟩ = W.frozen? ⟨b, o, none⟩) :=
  ⟨fun b o h => hb.cell (p := ⟨b, o, none⟩) h, fun b o h => hb.frozen (p := ⟨b, o, none⟩) h⟩

/-! ### buffers of bytes -/
def bufC (l : List UInt8) : Array Value := (l.map fun b => Value.int .u8 (b.toNat : Int)).toArray
theorem bufC_size (l : List UInt8) : (bufC l).size = l.length := by simp [bufC]
theorem bufC_get (l : List UInt8) (i : Nat) : (bufC l)[i]? = (l[i]?).map fun b => Value.int .u8 (b.toNat : Int) := by simp [bufC]
theorem madeCells_bytes (n : Nat) : madeCells #[.int .u8 0] n = bufC (List.replicate n 0) := by
  apply Array.ext'
  rw [toList_madeCells_one]
  simp [bufC]

structure Buf (w : World) (g : Nat) (t : TypeId) (l : List UInt8) : Prop where
  heap : w.heap[g]? = some (.cells (bufC l) t (0, 0))

theorem Buf.lt {w : World} {g : Nat} {t : TypeId} {l : List UInt8} (h : Buf w g t l) : g < w.heap.size := lt_of_block h.heap
theorem Buf.cell {w : World} {g : Nat} {t : TypeId} {l : List UInt8} (h : Buf w g t l) {i : Nat} (hi : i < l.length) :
    w.cell? ⟨g, i, none⟩ = some (.int .u8 ((l.getD i 0).toNat : Int)) := by
  simp [World.cell?, h.heap, bufC_get, List.getElem?_eq_getElem hi, List.getD]
theorem Buf.free {w : World} {g : Nat} {t : TypeId} {l : List UInt8} (h : Buf w g t l) (i : Nat) : w.frozen? ⟨g, i, none⟩ = false := by
  simp only [World.frozen?, h.heap]
  simp
theorem Buf.below {w w' : World} {g B : Nat} {t : TypeId} {l : List UInt8} (h : Buf w g t l) (hb : Below B w w') (hg : g < B) : Buf w' g t l :=
  ⟨(hb.block g hg).trans h.heap⟩
theorem Buf.alloc {w : World} {g : Nat} {t : TypeId} {l : List UInt8} (h : Buf w g t l) (o : Obj) : Buf (w.alloc o) g t l :=
  ⟨(Below.heap_alloc w o g h.lt).trans h.heap⟩
theorem Buf.drew {w : World} {g : Nat} {t : TypeId} {l : List UInt8} (h : Buf w g t l) : Buf w.drew g t l := ⟨h.heap⟩
theorem Buf.new (w : World) (t : TypeId) (l : List UInt8) : Buf (w.alloc (.cells (bufC l) t)) w.heap.size t l := ⟨by simp [World.alloc, -World.alloc_eq]⟩
theorem byt_nat (v : Int) (h0 : 0 ≤ v) (h1 : v < 256) : ((byt v).toNat : Int) = v := by
  unfold byt
  rw [UInt8.toNat_ofNat']
  omega
theorem Buf.set {w : World} {g : Nat} {t : TypeId} {l : List UInt8} (h : Buf w g t l) (i : Nat) {v : Int} (h0 : 0 ≤ v) (h1 : v < 256) :
    Buf (w.setCell ⟨g, i, none⟩ (.int .u8 v)) g t (l.set i (byt v)) := by
  refine ⟨?_⟩
  rw [heap_setCell_same w g i (bufC l) t _ h.heap]
  congr 2
  apply Array.ext'
  rw [Array.toList_setIfInBounds]
  simp only [bufC, List.map_set, byt_nat v h0 h1]
theorem Buf.other {w : World} {g : Nat} {t : TypeId} {l : List UInt8} (h : Buf w g t l) {a : Addr} (ha : a.block ≠ g) (u : Value) : Buf (w.setCell a u) g t l :=
  ⟨(Below.heap_setCell w a u g (fun e => ha e.symm)).trans h.heap⟩

theorem run_make_bytes (P : Program) (t e : TypeId) (ht : P.underlying t = some (.slice e)) (he : (P.info? e).map (fun i => (i.zero, i.size, i.bytes)) = some (some (.int .u8 0), 1, 1))
    (L : Int) (n : Nat) (hL : L = n) (hn : n ≤ 140737488355328) (W : World) :
    (Instr.makeSlice t (.int .i64 L) (.int .i64 L)).run P W = .ok (.slice (some ⟨W.heap.size, 0, none⟩) n n) (W.alloc (.cells (bufC (List.replicate n 0)) e)) := by
  subst hL
  obtain ⟨i, hi, hz, hs, hb⟩ := info_parts he
  have hr := run_make (P := P) W t e i (.int .u8 0) ht hi hz .i64 .i64 n n (by omega) (Int.le_refl _) (by rw [hb]; omega) (by omega)
  simp only [Int.toNat_natCast, hs, Nat.mul_one] at hr
  rw [hr, ← madeCells_bytes]
  rfl

theorem strOfNums_bs (l : List UInt8) : strOfNums (l.map fun b => (b.toNat : Int)) = bs l := by
  unfold strOfNums bs
  congr 2
  rw [List.map_map]
  conv => rhs; rw [← List.map_id l]
  apply List.map_congr_left
  intro b _
  simp

theorem run_buf_string (P : Program) (src dst e : TypeId) (hs : P.underlying src = some (.slice e)) (he : P.underlying e = some (.int .u8)) (hd : P.underlying dst = some .string)
    {W : World} {g : Nat} {t : TypeId} {l : List UInt8} (h : Buf W g t l) (n c : Nat) (hn : n = l.length) :
    (convert src dst (.slice (some ⟨g, 0, none⟩) n c)).run P W = .ok (.string (bs l)) W := by
  subst hn
  have := run_convert_bytes_arg (P := P) W src e hs he g 0 l.length c (l.map fun b => (b.toNat : Int)) (by simp) (fun i hi => by
    rw [Nat.zero_add, h.cell hi]
    simp [List.getD, List.getElem?_eq_getElem hi]) dst hd
  rw [this, strOfNums_bs]

/-! ### errors as values: '==' and '!=' -/
theorem run_equalIn_iface_int {P : Program} (w : World) (d : Nat) {ti tn : TypeId} {ms : Array (String × TypeId)} {i : TypeInfo} {k : IntKind} (a b : Int)
    (hi : P.underlying ti = some (.interface ms)) (hn : P.underlying tn = some (.int k)) (hinfo : P.info? tn = some i) (hcomp : i.comparable = true) :
    (Op.equalIn (d + 2) ti (.iface tn (.int k a)) (.iface tn (.int k b))).run P w = .ok (a == b) w := by
  simp [Op.equalIn, run_underlying hi, run_underlying hn, typeInfo, hinfo, hcomp]
theorem run_eql_iface_int {P : Program} (w : World) {ti tn : TypeId} {ms : Array (String × TypeId)} {i : TypeInfo} {k : IntKind} (a b : Int)
    (hi : P.underlying ti = some (.interface ms)) (hn : P.underlying tn = some (.int k)) (hinfo : P.info? tn = some i) (hcomp : i.comparable = true) :
    (binOp .eql ti (.iface tn (.int k a)) (.iface tn (.int k b))).run P w = .ok (.bool (a == b)) w := by
  simp only [binOp]
  simp [Op.equal, Op.maxDepth, run_equalIn_iface_int w 9998 a b hi hn hinfo hcomp]
theorem info_errno : ∃ i, Tryz.prog.info? 33 = some i ∧ i.comparable = true := by
  have h : (Tryz.prog.info? 33).map (·.comparable) = some true := by kernel_rfl
  obtain ⟨i, hi, hc⟩ := Option.map_eq_some_iff.1 h
  exact ⟨i, hi, hc⟩
theorem errIface : Tryz.prog.underlying 39 = some (.interface (Tryz.prog.methodsAt 39)) := by kernel_rfl
theorem run_eql_nil_iface {P : Program} (w : World) (t u : TypeId) (x : Value) {ms : Array (String × TypeId)} (h : P.underlying t = some (.interface ms)) : (binOp .eql t .nilIface (.iface u x)).run P w = .ok (.bool false) w := by
  have h1 : ∀ d : Nat, (Op.equalIn (d + 1) t .nilIface (.iface u x)).run P w = .ok false w := fun d => by simp [Op.equalIn, run_underlying h]
  simp only [binOp]
  simp [Op.equal, Op.maxDepth, h1 9999]
theorem errV_eql (x y : Int) (hy : y ≠ 0) (w : World) : (binOp .eql 39 (errV x) (.iface 33 (.int .i64 y))).run Tryz.prog w = .ok (.bool (x == y)) w := by
  obtain ⟨i, hi, hc⟩ := info_errno
  unfold errV
  split
  · rename_i h
    subst h
    have e : ((0 : Int) == y) = false := by simpa using Ne.symm hy
    rw [e]
    exact run_eql_nil_iface w _ _ _ Tryz.underlying39
  · exact run_eql_iface_int w x y Tryz.underlying39 Tryz.underlying33 hi hc
theorem errV_eql2 (x : Int) (w : World) : (binOp .eql 39 (errV x) (.iface 33 (.int .i64 2))).run Tryz.prog w = .ok (.bool (x == 2)) w := errV_eql x 2 (by decide) w
theorem errV_eql_nil (x : Int) (w : World) : (binOp .eql 39 (errV x) .nilIface).run Tryz.prog w = .ok (.bool (x == 0)) w := by
  unfold errV
  split
  · rename_i h
    subst h
    exact run_eql_nil_nil _ _ errIface
  · rename_i h
    have e : (x == 0) = false := by simpa using h
    rw [e]
    exact run_eql_held_nil _ _ _ _ errIface
theorem errV_neq_nil (x : Int) (w : World) : (binOp .neq 39 (errV x) .nilIface).run Tryz.prog w = .ok (.bool (x != 0)) w := by
  unfold errV
  split
  · rename_i h
    subst h
    exact run_neq_nil_nil _ _ errIface
  · rename_i h
    have e : (x != 0) = true := by simpa using h
    rw [e]
    exact run_neq_held_nil _ _ _ _ errIface
theorem eqGuard_errV_iface (t : TypeId) (x y : Operand) (n : Int) (u : TypeId) (v : Value) : eqGuard .eql t x y (errV n) (.iface u v) = pure () := by
  unfold errV; split <;> rfl
theorem eqGuard_errV_nil (t : TypeId) (x : Operand) (n : Int) : eqGuard .eql t x (.const .nilIface) (errV n) .nilIface = pure () := by
  unfold errV; split <;> first | rfl | simp [eqGuard]
theorem neqGuard_errV_nil (t : TypeId) (x : Operand) (n : Int) : eqGuard .neq t x (.const .nilIface) (errV n) .nilIface = pure () := by
  unfold errV; split <;> first | rfl | simp [eqGuard]
attribute [go_sem] eqGuard_errV_iface eqGuard_errV_nil neqGuard_errV_nil errV_eql2 errV_eql_nil errV_neq_nil
end Go.Proofs.YtehkfbgbpmfpmaaGreatDoor
