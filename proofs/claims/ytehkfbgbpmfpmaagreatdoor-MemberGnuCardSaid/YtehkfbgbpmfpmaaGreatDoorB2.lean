/- plain.Place; the laws' 'bare'. -/
import Derived.Test.YtehkfbgbpmfpmaaGreatDoorB1
namespace Go.Proofs.YtehkfbgbpmfpmaaGreatDoor
set_option linter.unusedVariables false
set_option linter.unusedSimpArgs false
open Go.RowKit Go.Extern.Stop Go.Stop Go.Extern

theorem ta_unwrapE (v : Value) (xT : TypeId) (w : World) : (Instr.typeAssert (.iface 33 v) xT 101 true).run Tryz.prog w = .ok (.tuple #[.nilIface, .bool false]) w :=
  run_typeAssert_lacksB Tryz.underlying101 (by kernel_rfl) (by kernel_rfl) v xT w
theorem ta_unwrapA (v : Value) (xT : TypeId) (w : World) : (Instr.typeAssert (.iface 61 v) xT 101 true).run Tryz.prog w = .ok (.tuple #[.iface 61 v, .bool true]) w :=
  run_typeAssert_hasB Tryz.underlying101 (by kernel_rfl) v xT w
theorem ta_asA (v : Value) (xT : TypeId) (w : World) : (Instr.typeAssert (.iface 61 v) xT 182 true).run Tryz.prog w = .ok (.tuple #[.nilIface, .bool false]) w :=
  run_typeAssert_lacksB Tryz.underlying182 (by kernel_rfl) (by kernel_rfl) v xT w
theorem ta_atE (v : Value) (xT : TypeId) (w : World) : (Instr.typeAssert (.iface 33 v) xT 61 true).run Tryz.prog w = .ok (.tuple #[.pointer none, .bool false]) w := by kernel_rfl
theorem ta_atA (p : Value) (xT : TypeId) (w : World) : (Instr.typeAssert (.iface 61 p) xT 61 true).run Tryz.prog w = .ok (.tuple #[p, .bool true]) w := by kernel_rfl

theorem place_nil (w : World) : Calls Tryz.prog 26 #[.nilIface] w fun e w' => e = .returned (.tuple #[.int .i64 0, .int .i64 (-1)]) ∧ w = w' := by
  go_enter Tryz.func26, Tryz.ntmps26
  go_wp2_with (go_at_call 24; refine (tell_nil _).mono ?_; rintro e w' ⟨rfl, rfl⟩)
  refine wp_loop_rounds 1 ?_
  rw [rounds_succ]
  go_wp2
  go_ret2
  exact ⟨rfl, rfl⟩

set_option maxHeartbeats 1000000 in
theorem place_errno (n : Int) (w : World) (hG : G w) : Calls Tryz.prog 26 #[.iface 33 (.int .i64 n)] w fun e w' => e = .returned (.tuple #[.int .i64 n, .int .i64 (-1)]) ∧ Below w.heap.size w w' := by
  have h1 := ta_unwrapE
  have h2 := ta_atE
  go_enter Tryz.func26, Tryz.ntmps26
  go_wp2_with (go_at_call 24; refine (tell_errno n _ hG).mono ?_; rintro e w1 ⟨rfl, hb⟩)
  refine wp_loop_rounds 1 ?_
  rw [rounds_succ]
  go_wp2
  go_ret2
  exact ⟨rfl, hb⟩

theorem placeV (n : Int) (w : World) (hG : G w) : Calls Tryz.prog 26 #[errV n] w fun e w' => e = .returned (.tuple #[.int .i64 n, .int .i64 (-1)]) ∧ Below w.heap.size w w' := by
  by_cases h : n = 0
  · rw [errV, if_pos h, h]
    exact (place_nil w).mono fun e w' ⟨he, hw⟩ => ⟨he, hw ▸ bl_refl w⟩
  · rw [errV, if_neg h]
    exact place_errno n w hG

set_option maxHeartbeats 1000000 in
theorem bareV (n m : Int) (w : World) (hG : G w) : Calls Tryz.prog 16 #[errV n, .int .i64 m] w fun e w' => e = .returned (.bool (n == m)) ∧ Below w.heap.size w w' := by
  have h0 : ((-1 : Int) == -1) = true := rfl
  cases hc : (n == m)
  all_goals
    go_enter Tryz.func16, Tryz.ntmps16
    go_wp2_with (go_at_call 26; refine (placeV n _ hG).mono ?_; rintro e w1 ⟨rfl, hb⟩)
    go_ret
    exact ⟨by simp, hb⟩
end Go.Proofs.YtehkfbgbpmfpmaaGreatDoor
