/- errors.As, api.Tell, plain.Place at an At; the laws' 'placed'. -/
import Derived.Test.YtehkfbgbpmfpmaaGreatDoorB2
namespace Go.Proofs.YtehkfbgbpmfpmaaGreatDoor
set_option linter.unusedVariables false
set_option linter.unusedSimpArgs false
open Go.RowKit Go.Extern.Stop Go.Stop Go.Extern

/-- an At in memory -/
structure AtIs (w : World) (b : Nat) (e p : Int) : Prop where
  err : w.cell? ⟨b, 0, none⟩ = some (.int .i64 e)
  place : w.cell? ⟨b, 1, none⟩ = some (.int .i64 p)
theorem AtIs.lt {w : World} {b : Nat} {e p : Int} (h : AtIs w b e p) : b < w.heap.size := World.block_lt_of_cell? w _ h.err
theorem AtIs.below {w w' : World} {b B : Nat} {e p : Int} (h : AtIs w b e p) (hb : Below B w w') (hB : b < B) : AtIs w' b e p :=
  ⟨(hb.cell (p := ⟨b, 0, none⟩) hB).trans h.err, (hb.cell (p := ⟨b, 1, none⟩) hB).trans h.place⟩

theorem method_unwrapA (p : Value) (w : World) : (Go.method 346 61 p "Unwrap").run Tryz.prog w = .ok (184, p) w := by kernel_rfl

theorem unwrapA (b : Nat) (e p : Int) (w : World) (h : AtIs w b e p) :
    Calls Tryz.prog 184 #[.pointer (some ⟨b, 0, none⟩)] w fun r w' => r = .returned (.iface 33 (.int .i64 e)) ∧ w = w' := by
  have h0 := h.err
  go_enter Tryz.func184, Tryz.ntmps184
  go_wp2
  go_ret
  exact ⟨rfl, rfl⟩

set_option maxHeartbeats 4000000 in
set_option maxRecDepth 100000 in
theorem as_at (b : Nat) (n p : Int) (t : Addr) (old : Value) (w : World) (hA : AtIs w b n p) (hg : w.cell? ⟨0, 0, none⟩ = some errTypeV) (ht0 : w.cell? t = some old) (hf0 : w.frozen? t = false) :
    Calls Tryz.prog 53 #[.iface 61 (.pointer (some ⟨b, 0, none⟩)), .iface 96 (.pointer (some t))] w fun ev w' => ev = .returned (.bool true) ∧
      w' = ((((w.alloc (.cells #[.pointer (some t)] 96)).alloc (valP w.heap.size)).alloc (valP w.heap.size)).alloc (.cells #[.int .i64 n] 33)).setCell t (.int .i64 n) := by
  have h6 := @run_callFunc_extern Tryz.prog 99 _ (fun args => ReflectliteValue.unpack (args.getD 0 (.tuple #[]))) Tryz.func99 (by kernel_rfl) (by kernel_rfl) (by kernel_rfl) (by kernel_rfl)
  have h7 := @run_callFunc_extern Tryz.prog 100 _ (ReflectliteValue.methodAny (ReflectliteValue.valueError "reflectlite.Value.Type" 0) (fun t _ _ _ => ReflectliteType.toType t)) Tryz.func100 (by kernel_rfl) (by kernel_rfl) (by kernel_rfl) (by kernel_rfl)
  have h8 := @run_callFunc_extern Tryz.prog 101 _ (ReflectliteValue.method (ReflectliteValue.valueError "reflectlite.Value.IsNil" 0) ReflectliteValue.isNil) Tryz.func101 (by kernel_rfl) (by kernel_rfl) (by kernel_rfl) (by kernel_rfl)
  have h27 := @run_callFunc_extern Tryz.prog 178 _ (ReflectliteType.abiMethod fun t => do pure (.int .u8 (← Rtype.kind t))) Tryz.func178 (by kernel_rfl) (by kernel_rfl) (by kernel_rfl) (by kernel_rfl)
  have h37 := @run_callFunc_extern Tryz.prog 193 _ (ReflectliteType.method ReflectliteType.elem) Tryz.func193 (by kernel_rfl) (by kernel_rfl) (by kernel_rfl) (by kernel_rfl)
  have h38 := @run_callFunc_extern Tryz.prog 194 _ (ReflectliteType.relation "Implements" ReflectliteType.implements_) Tryz.func194 (by kernel_rfl) (by kernel_rfl) (by kernel_rfl) (by kernel_rfl)
  have h10 := @run_callFunc_extern Tryz.prog 129 _ ReflectliteType.typeOf Tryz.func129 (by kernel_rfl) (by kernel_rfl) (by kernel_rfl) (by kernel_rfl)
  have h35 := @run_callFunc_extern Tryz.prog 191 _ (ReflectliteType.relation "AssignableTo" ReflectliteType.assignableTo) Tryz.func191 (by kernel_rfl) (by kernel_rfl) (by kernel_rfl) (by kernel_rfl)
  have h11 := @run_callFunc_extern Tryz.prog 130 _ (ReflectliteValue.method (ReflectliteValue.valueError "reflectlite.Value.Elem" 0) ReflectliteValue.elem) Tryz.func130 (by kernel_rfl) (by kernel_rfl) (by kernel_rfl) (by kernel_rfl)
  have h12 := @run_callFunc_extern Tryz.prog 131 _ ReflectliteValue.set Tryz.func131 (by kernel_rfl) (by kernel_rfl) (by kernel_rfl) (by kernel_rfl)
  have tO := rl_typeOfE
  have tA := rl_typeOfA
  have tU := ta_unwrapA
  have tN := ta_asA
  have mU := method_unwrapA
  have aA := rl_assignableA
  have mA := rl_methodAssignableTo
  have a25 := rl_assignableE
  have v25 := rl_valueOfE
  have f6 := rl_valueOfP
  have f7 := rl_typeP
  have mK := rl_methodKind
  have mE := rl_methodElem
  have mI := rl_methodImplements
  have k27 := rl_kindP
  have k25 := rl_kindE
  have e27 := rl_elemP
  have i25 := rl_implementsE
  have n8 := rl_isNilP ⟨w.heap.size, 0, none⟩ t ((w.alloc (.cells #[.pointer (some t)] 96)).alloc (valP w.heap.size)) (by simp)
  have hlt : 0 < w.heap.size := World.block_lt_of_cell? w _ hg
  have hAlt := hA.lt
  have hA3 : AtIs (((w.alloc (.cells #[.pointer (some t)] 96)).alloc (valP w.heap.size)).alloc (valP w.heap.size)) b n p :=
    hA.below (bl_alloc (bl_alloc (bl_alloc (bl_refl w) _) _) _) hAlt
  have hg2 : ((w.alloc (.cells #[.pointer (some t)] 96)).alloc (valP w.heap.size)).cell? ⟨0, 0, none⟩ = some errTypeV := by
    rw [World.cell?_alloc_lt _ _ ⟨0, 0, none⟩ (by rw [World.size_alloc]; exact Nat.lt_succ_of_lt hlt), World.cell?_alloc_lt _ _ ⟨0, 0, none⟩ hlt]; exact hg
  have htl : t.block < w.heap.size := World.block_lt_of_cell? w _ ht0
  have el := rl_elemV ⟨w.heap.size, 0, none⟩ t (((w.alloc (.cells #[.pointer (some t)] 96)).alloc (valP w.heap.size)).alloc (valP w.heap.size)) (by rw [World.cell?_alloc_lt _ _ ⟨w.heap.size, 0, none⟩ (by simp; omega)]; simp)
  have st := rl_setE t ⟨w.heap.size + 1 + 1 + 1, 0, none⟩ n old ((((w.alloc (.cells #[.pointer (some t)] 96)).alloc (valP w.heap.size)).alloc (valP w.heap.size)).alloc (.cells #[.int .i64 n] 33))
    (by rw [World.cell?_alloc_at _ _ _ _ (by simp)]; rfl)
    (by rw [World.cell?_alloc_lt _ _ t (by simp; omega), World.cell?_alloc_lt _ _ t (by simp; omega), World.cell?_alloc_lt _ _ t (by simp; omega), World.cell?_alloc_lt _ _ t htl]; exact ht0)
    (by rw [World.frozen?_alloc_old _ _ t (by simp; omega), World.frozen?_alloc_old _ _ t (by simp; omega), World.frozen?_alloc_old _ _ t (by simp; omega), World.frozen?_alloc_old _ _ t (Nat.ne_of_lt htl)]; exact hf0)
  go_enter Tryz.func53, Tryz.ntmps53
  go_wp2
  refine wp_loop_rounds 2 ?_
  rw [rounds_succ]
  go_wp2_with (go_at_call 184; refine (unwrapA b n p _ hA3).mono ?_; rintro e w1 ⟨rfl, rfl⟩)
  rw [rounds_succ]
  go_wp2
  go_ret
  exact ⟨rfl, rfl⟩

set_option maxHeartbeats 1000000 in
theorem tell_at (b : Nat) (n p : Int) (w : World) (hG : G w) (hA : AtIs w b n p) : Calls Tryz.prog 24 #[.iface 61 (.pointer (some ⟨b, 0, none⟩))] w fun e w' => e = .returned (.int .i64 n) ∧ Below w.heap.size w w' := by
  have hg := (hG.bl (bl_alloc (bl_refl w) (.cells #[.int .i64 0] 33))).err
  have hA2 := hA.below (bl_alloc (bl_refl w) (.cells #[.int .i64 0] 33)) hA.lt
  go_enter Tryz.func24, Tryz.ntmps24
  go_wp2_with (go_at_call 53; refine (as_at b n p ⟨w.heap.size, 0, none⟩ (.int .i64 0) _ hA2 hg (by simp) (by simp)).mono ?_; rintro e w' ⟨rfl, rfl⟩)
  go_ret
  refine ⟨rfl, ?_⟩
  exact bl_alloc (bl_alloc (bl_alloc (bl_alloc (bl_alloc (bl_refl w) _) _) _) _) _

set_option maxHeartbeats 1000000 in
theorem place_at (b : Nat) (n p : Int) (w : World) (hG : G w) (hA : AtIs w b n p) : Calls Tryz.prog 26 #[.iface 61 (.pointer (some ⟨b, 0, none⟩))] w fun e w' => e = .returned (.tuple #[.int .i64 n, .int .i64 p]) ∧ Below w.heap.size w w' := by
  have h2 := ta_atA
  have hlt := hA.lt
  have hp := hA.place
  go_enter Tryz.func26, Tryz.ntmps26
  go_wp2_with (go_at_call 24; refine (tell_at b n p _ hG hA).mono ?_; rintro e w1 ⟨rfl, hb⟩)
  have hp1 := (hA.below hb hlt).place
  refine wp_loop_rounds 1 ?_
  rw [rounds_succ]
  go_wp2
  go_region
  all_goals go_wp2
  all_goals go_ret2
  all_goals exact ⟨rfl, bl_drew hb⟩

/-- an error as a value in a world: none, an Errno, or an At -/
def ErrIs (w : World) (v : Value) (e p : Int) : Prop :=
  (v = errV e ∧ p = -1) ∨ ∃ b, v = .iface 61 (.pointer (some ⟨b, 0, none⟩)) ∧ AtIs w b e p

set_option maxHeartbeats 1000000 in
theorem placeE (v : Value) (n p : Int) (w : World) (hG : G w) (h : ErrIs w v n p) : Calls Tryz.prog 26 #[v] w fun e w' => e = .returned (.tuple #[.int .i64 n, .int .i64 p]) ∧ Below w.heap.size w w' := by
  rcases h with ⟨rfl, rfl⟩ | ⟨b, rfl, hA⟩
  · exact placeV n w hG
  · exact place_at b n p w hG hA

theorem errV_eq_nil (e : Int) : (errV e = .nilIface) ↔ e = 0 := by
  unfold errV; split <;> simp_all
end Go.Proofs.YtehkfbgbpmfpmaaGreatDoor
