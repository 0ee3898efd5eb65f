/- head.Write. -/
import Derived.Test.YtehkfbgbpmfpmaaGreatDoorC3
import Derived.BigQuiet
namespace Go.Proofs.YtehkfbgbpmfpmaaGreatDoor
set_option linter.unusedVariables false
set_option linter.unusedSimpArgs false
open Go.RowKit

/-- put at a place in a list of fields -/
theorem putAt_flat : ∀ (l : List (List UInt8)) (k : Nat) (s : List UInt8), k < l.length → s.length ≤ (l.getD k []).length →
    putAt l.flatten (l.take k).flatten.length s = (l.set k (s ++ (l.getD k []).drop s.length)).flatten
  | [], k, s, h, _ => by simp at h
  | x :: l, 0, s, _, h2 => by
    simp only [List.getD_cons_zero] at h2
    simp only [putAt, List.take_zero, List.flatten_nil, List.length_nil, List.set_cons_zero, List.getD_cons_zero, List.flatten_cons, Nat.zero_add, List.nil_append, List.append_assoc]
    rw [List.drop_append_of_le_length h2]
  | x :: l, k + 1, s, h, h2 => by
    simp only [List.getD_cons_succ] at h2
    have ih := putAt_flat l k s (by simpa using h) h2
    simp only [List.take_succ_cons, List.flatten_cons, List.set_cons_succ, List.getD_cons_succ, List.length_append]
    rw [← ih]
    unfold putAt
    have e1 : (x ++ l.flatten).take (x.length + (l.take k).flatten.length) = x ++ l.flatten.take (l.take k).flatten.length := by
      rw [List.take_append, List.take_of_length_le (Nat.le_add_right _ _), Nat.add_sub_cancel_left]
    have e2 : (x ++ l.flatten).drop (x.length + (l.take k).flatten.length + s.length) = l.flatten.drop ((l.take k).flatten.length + s.length) := by
      rw [Nat.add_assoc, List.drop_append]; simp
    rw [e1, e2]
    simp only [List.append_assoc]

def zs (n : Nat) : List UInt8 := List.replicate n 0
theorem zs_length (n : Nat) : (zs n).length = n := by simp [zs]
theorem drop_zs (n k : Nat) : (zs n).drop k = zs (n - k) := by simp [zs]

/-- the header's fields after i texts, j numbers, then kind and magic (k of them) -/
def flds (d : Int) (r : RawR) (i j k : Nat) : List (List UInt8) :=
  [if 0 < i then textL r.name 100 else zs 100, if 0 < j then numL d r.mode 8 else zs 8, if 1 < j then numL d r.uid 8 else zs 8, if 2 < j then numL d r.gid 8 else zs 8,
   if 3 < j then numL d r.size 12 else zs 12, if 4 < j then numL d r.time 12 else zs 12, zs 8, if 0 < k then [byt r.kind] else zs 1, if 1 < i then textL r.link 100 else zs 100,
   if 1 < k then magL d else zs 8, if 2 < i then textL r.user 32 else zs 32, if 3 < i then textL r.group 32 else zs 32, if 5 < j then numL d r.major 8 else zs 8, if 6 < j then numL d r.minor 8 else zs 8,
   if 4 < i then textL r.front 155 else zs 155, zs 12]

def txt (r : RawR) : List (ByteArray × Nat × Nat × Nat) := [(r.name, 0, 100, 0), (r.link, 157, 100, 8), (r.user, 265, 32, 10), (r.group, 297, 32, 11), (r.front, 345, 155, 14)]

set_option maxRecDepth 100000 in
theorem flds_zero (d : Int) (r : RawR) : (flds d r 0 0 0).flatten = List.replicate 512 0 := by
  rfl

theorem zero_cells : Tryz.zeroCells148 = bufC (List.replicate 512 0) := by kernel_rfl
theorem idx_text (p0 p1 p2 p3 p4 : Value) (w : World) :
    (Instr.index 150 (.agg #[p0, p1, p2, p3, p4]) (.int .i64 0)).run Tryz.prog w = .ok p0 w ∧
    (Instr.index 150 (.agg #[p0, p1, p2, p3, p4]) (.int .i64 1)).run Tryz.prog w = .ok p1 w ∧
    (Instr.index 150 (.agg #[p0, p1, p2, p3, p4]) (.int .i64 2)).run Tryz.prog w = .ok p2 w ∧
    (Instr.index 150 (.agg #[p0, p1, p2, p3, p4]) (.int .i64 3)).run Tryz.prog w = .ok p3 w ∧
    (Instr.index 150 (.agg #[p0, p1, p2, p3, p4]) (.int .i64 4)).run Tryz.prog w = .ok p4 w := by
  simp [Instr.index, run_underlying Tryz.underlying150, asIntOf, part, go_sem]
theorem idx_tspot (a b c d e f g h i j : Value) (w : World) :
    (Instr.index 154 (.agg #[a, b, c, d, e, f, g, h, i, j]) (.int .i64 0)).run Tryz.prog w = .ok (.agg #[a, b]) w ∧
    (Instr.index 154 (.agg #[a, b, c, d, e, f, g, h, i, j]) (.int .i64 1)).run Tryz.prog w = .ok (.agg #[c, d]) w ∧
    (Instr.index 154 (.agg #[a, b, c, d, e, f, g, h, i, j]) (.int .i64 2)).run Tryz.prog w = .ok (.agg #[e, f]) w ∧
    (Instr.index 154 (.agg #[a, b, c, d, e, f, g, h, i, j]) (.int .i64 3)).run Tryz.prog w = .ok (.agg #[g, h]) w ∧
    (Instr.index 154 (.agg #[a, b, c, d, e, f, g, h, i, j]) (.int .i64 4)).run Tryz.prog w = .ok (.agg #[i, j]) w := by
  simp [Instr.index, run_underlying Tryz.underlying154, asIntOf, part, go_sem]
theorem idx_nspot (a b c d e f g h i j k l m n : Value) (w : World) :
    (Instr.index 160 (.agg #[a, b, c, d, e, f, g, h, i, j, k, l, m, n]) (.int .i64 0)).run Tryz.prog w = .ok (.agg #[a, b]) w ∧
    (Instr.index 160 (.agg #[a, b, c, d, e, f, g, h, i, j, k, l, m, n]) (.int .i64 1)).run Tryz.prog w = .ok (.agg #[c, d]) w ∧
    (Instr.index 160 (.agg #[a, b, c, d, e, f, g, h, i, j, k, l, m, n]) (.int .i64 2)).run Tryz.prog w = .ok (.agg #[e, f]) w ∧
    (Instr.index 160 (.agg #[a, b, c, d, e, f, g, h, i, j, k, l, m, n]) (.int .i64 3)).run Tryz.prog w = .ok (.agg #[g, h]) w ∧
    (Instr.index 160 (.agg #[a, b, c, d, e, f, g, h, i, j, k, l, m, n]) (.int .i64 4)).run Tryz.prog w = .ok (.agg #[i, j]) w ∧
    (Instr.index 160 (.agg #[a, b, c, d, e, f, g, h, i, j, k, l, m, n]) (.int .i64 5)).run Tryz.prog w = .ok (.agg #[k, l]) w ∧
    (Instr.index 160 (.agg #[a, b, c, d, e, f, g, h, i, j, k, l, m, n]) (.int .i64 6)).run Tryz.prog w = .ok (.agg #[m, n]) w := by
  simp [Instr.index, run_underlying Tryz.underlying160, asIntOf, part, go_sem]
attribute [go_sem] idx_text idx_tspot idx_nspot
end Go.Proofs.YtehkfbgbpmfpmaaGreatDoor
