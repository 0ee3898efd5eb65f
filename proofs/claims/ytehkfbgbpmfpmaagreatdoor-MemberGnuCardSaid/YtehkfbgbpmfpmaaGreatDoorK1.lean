/- The law MemberGnu returns true at every member that can be read as data: the claim, its row and its card. -/
import Derived.Test.YtehkfbgbpmfpmaaGreatDoorE4
import Derived.Deep.SlicePairs
import Derived.SizedLaws
import Derived.ProofKit
import Derived.Carry
import Derived.Test.YtehkfbgbpmfpmaaGreatDoorB3
import Derived.Test.YtehkfbgbpmfpmaaGreatDoorRows
import Derived.Test.YtehkfbgbpmfpmaaGreatDoorChecked
import Derived.LaidLaws
import Derived.LaidHandle
import Derived.LaidSub
import Derived.Lib.LaidTab
import Derived.Lay
import Derived.Stop.Joined
import Derived.Test.YtehkfbgbpmfpmaaGreatDoorH3
import Derived.Test.YtehkfbgbpmfpmaaGreatDoorCards
import Derived.Test.YtehkfbgbpmfpmaaGreatDoorTie
import Derived.SevenTiedAt
namespace Go.Proofs.YtehkfbgbpmfpmaaGreatDoor
set_option linter.unusedVariables false
set_option linter.unusedSimpArgs false
open Go.RowKit Go.ChangeShapes Go.WideShapes

structure I64 (n : Int) : Prop where
  lo : -9223372036854775808 ≤ n
  hi : n ≤ 9223372036854775807
theorem i64_wf {n : Int} (h : (Lit.int .i64 n).wf = true) : I64 n := by
  have : -9223372036854775808 ≤ n ∧ n ≤ 9223372036854775807 := by simpa [Lit.wf, IntKind.min, IntKind.max, IntKind.signed, IntKind.bits] using h
  exact ⟨this.1, this.2⟩
theorem u8_wf {n : Int} (h : (Lit.int .u8 n).wf = true) : 0 ≤ n ∧ n ≤ 255 := by
  simpa [Lit.wf, IntKind.min, IntKind.max, IntKind.signed, IntKind.bits] using h

structure EntO (w : World) (e : EntR) : Prop where
  name : e.name.size ≤ reachBytes
  link : e.link.size ≤ reachBytes
  user : e.user.size ≤ reachBytes
  group : e.group.size ≤ reachBytes
  data : e.data.size ≤ reachBytes
  kind : 0 ≤ e.kind ∧ e.kind ≤ 255
  mode : I64 e.mode
  uid : I64 e.uid
  gid : I64 e.gid
  size : I64 e.size
  sec : I64 e.sec
  nano : I64 e.nano
  major : I64 e.major
  minor : I64 e.minor
  row : PRow w e.ma e.mn e.map
  cap : e.mn ≤ e.mc
  cap2 : e.mc * 16 ≤ reachBytes
  map : PIn e.map

def intOfV : Value → Int
  | .int _ n => n
  | _ => 0
theorem add_at (b o k : Nat) : (⟨b, o, none⟩ : Addr).add k = ⟨b, o + k, none⟩ := by
  unfold Addr.add
  split
  · rename_i h; simp_all
  · rfl

theorem map_of {H : Type} {enc : TypeId × Value → H} {W : World} {n : Nat} {v : Value} {x : DataW H × List MemPlace} (h : DataW.trod enc Tryz.prog W 0 (fun _ => true) true n 24 [v] = some x)
    (hw : ∀ k ∈ x.1.weights Tryz.prog 24, k ≤ reachBytes) :
    ∃ (ma : Option Addr) (mn mc : Nat) (l : List (Int × Int)), v = .slice ma mn mc ∧ PRow W ma mn l ∧ PIn l ∧ mn ≤ mc ∧ mc * 16 ≤ reachBytes := by
  rcases Deep.open_slice_pairs Tryz.underlying24 Tryz.underlying120 (by kernel_rfl) rfl rfl (by kernel_rfl) (by kernel_rfl) h with ⟨hc, -⟩ | ⟨a, len, cap, m, k, V0, V1, D0, D1, P0, P1, hc, -, hlc, -, hm, hx, hi⟩
  · refine ⟨none, 0, 0, [], by simpa using hc, ⟨rfl, .inl rfl⟩, fun i hi => by simp at hi, Nat.le_refl _, Nat.zero_le _⟩
  · have hm' : m = cap := by simpa using hm
    subst hm'
    have hcap : m * 16 ≤ reachBytes := by
      have := hw ((((List.range len).map fun i => DataW.agg [D0 i, D1 i]).length + ((List.range (m - len)).map fun j => DataW.agg [D0 (len + j), D1 (len + j)]).length) * Tryz.prog.bytesOf 120) (by rw [hx]; simp [DataW.weights, Tryz.underlying24])
      rw [show Tryz.prog.bytesOf 120 = 16 by kernel_rfl] at this
      simp at this
      rw [show len + (m - len) = m by omega] at this
      exact this
    refine ⟨some a, len, m, (List.range len).map fun i => (intOfV (V0 i), intOfV (V1 i)), by simpa using hc, ⟨by simp, ?_⟩, fun i hil => ?_, hlc, hcap⟩
    · rcases Nat.eq_zero_or_pos len with h0 | h0
      · exact .inl h0
      · obtain ⟨b, o, s⟩ := a
        have hs : s = none := by
          have := (hi 0 (by omega)).1
          cases s with
          | none => rfl
          | some z =>
            simp [Addr.add, World.cell?] at this
            split at this <;> cases this
        subst hs
        refine .inr ⟨b, o, rfl, fun i hil => ?_⟩
        obtain ⟨h1, h2, h3, h4⟩ := hi i (by omega)
        obtain ⟨p, e1, -, -⟩ := DataW.trod_int Tryz.underlying3 h3
        obtain ⟨q, e2, -, -⟩ := DataW.trod_int Tryz.underlying3 h4
        have e1 : V0 i = .int .i64 p := by simpa using e1
        have e2 : V1 i = .int .i64 q := by simpa using e2
        rw [add_at] at h1 h2
        have hg : ((List.range len).map fun i => (intOfV (V0 i), intOfV (V1 i))).getD i (0, 0) = (p, q) := by
          rw [List.getD, List.getElem?_map, List.getElem?_range hil]
          simp [e1, e2, intOfV]
        rw [hg]
        rw [e1] at h1
        rw [e2] at h2
        exact ⟨h1, h2⟩
    · simp only [List.length_map, List.length_range] at hil
      obtain ⟨h1, h2, h3, h4⟩ := hi i (by omega)
      obtain ⟨p, e1, -, w1⟩ := DataW.trod_int Tryz.underlying3 h3
      obtain ⟨q, e2, -, w2⟩ := DataW.trod_int Tryz.underlying3 h4
      have e1 : V0 i = .int .i64 p := by simpa using e1
      have e2 : V1 i = .int .i64 q := by simpa using e2
      have hg : ((List.range len).map fun i => (intOfV (V0 i), intOfV (V1 i))).getD i (0, 0) = (p, q) := by
        rw [List.getD, List.getElem?_map, List.getElem?_range hil]
        simp [e1, e2, intOfV]
      rw [hg]
      exact ⟨⟨(i64_wf w1).lo, (i64_wf w1).hi⟩, (i64_wf w2).lo, (i64_wf w2).hi⟩

theorem one_int {H : Type} {enc : TypeId × Value → H} {W : World} {n : Nat} {v : Value} {x : DataW H × List MemPlace} (h : DataW.trod enc Tryz.prog W 0 (fun _ => true) true n 3 [v] = some x) : ∃ k, v = .int .i64 k ∧ I64 k := by
  obtain ⟨p, e1, -, w1⟩ := DataW.trod_int Tryz.underlying3 h
  exact ⟨p, by simpa using e1, i64_wf w1⟩
theorem one_byte {H : Type} {enc : TypeId × Value → H} {W : World} {n : Nat} {v : Value} {x : DataW H × List MemPlace} (h : DataW.trod enc Tryz.prog W 0 (fun _ => true) true n 5 [v] = some x) : ∃ k, v = .int .u8 k ∧ 0 ≤ k ∧ k ≤ 255 := by
  obtain ⟨p, e1, -, w1⟩ := DataW.trod_int Tryz.underlying5 h
  exact ⟨p, by simpa using e1, u8_wf w1⟩
theorem one_string {H : Type} {enc : TypeId × Value → H} {W : World} {n : Nat} {v : Value} {x : DataW H × List MemPlace} (h : DataW.trod enc Tryz.prog W 0 (fun _ => true) true n 9 [v] = some x)
    (hw : ∀ k ∈ x.1.weights Tryz.prog 9, k ≤ reachBytes) : ∃ s, v = .string s ∧ s.size ≤ reachBytes := by
  obtain ⟨s, e1, e2, -⟩ := DataW.trod_string Tryz.underlying9 h
  refine ⟨s, by simpa using e1, ?_⟩
  have := hw s.data.toList.length (by rw [e2]; simp [DataW.weights])
  rw [Lib.size_eq]
  exact this

set_option maxRecDepth 100000 in
set_option maxHeartbeats 2000000 in
theorem ent_of {H : Type} {enc : TypeId × Value → H} {W : World} {r : Go.Reach} {b0 : Nat} {v : Value} {d : DataW H} {p : List MemPlace} (hval : Value.okWide Tryz.prog W r b0 26 v) (h : DataW.Trod enc Tryz.prog W 0 (fun _ => true) true 26 v d p)
    (hw : ∀ k ∈ d.weights Tryz.prog 26, k ≤ reachBytes) : ∃ e : EntR, v = .agg #[.string e.name, .int .u8 e.kind, .int .i64 e.mode, .int .i64 e.uid, .int .i64 e.gid, .int .i64 e.size, .int .i64 e.sec, .int .i64 e.nano, .string e.link, .string e.user, .string e.group, .int .i64 e.major, .int .i64 e.minor, .string e.data, .slice e.ma e.mn e.mc] ∧ EntO W e := by
  obtain ⟨cs, rfl, hsz⟩ := okWide_struct Tryz.underlying26 hval
  have hC : Tryz.prog.cellsOf 26 = 15 := by kernel_rfl
  have c9 : Tryz.prog.cellsOf 9 = 1 := by kernel_rfl
  have c5 : Tryz.prog.cellsOf 5 = 1 := by kernel_rfl
  have c3 : Tryz.prog.cellsOf 3 = 1 := by kernel_rfl
  have c24 : Tryz.prog.cellsOf 24 = 1 := by kernel_rfl
  have c23 : Tryz.prog.cellsOf 23 = 2 := by kernel_rfl
  obtain ⟨l⟩ := cs
  match l, hsz.trans hC with
  | [k0, k1, k2, k3, k4, k5, k6, k7, k8, k9, k10, k11, k12, k13, k14], _ =>
    obtain ⟨fuel, hf⟩ := h
    obtain ⟨xs, n, _, hx, _, hlen, hg⟩ := DataW.trod_struct Tryz.underlying26 hf
    match xs, hlen with
    | [y0, y1, y2, y3, y4, y5, y6, y7, y8, y9, y10, y11, y12, y13], _ =>
      simp only [Prod.mk.injEq] at hx
      have hd : d = .agg [y0.1, y1.1, y2.1, y3.1, y4.1, y5.1, y6.1, y7.1, y8.1, y9.1, y10.1, y11.1, y12.1, y13.1] := by simpa using hx.1
      have g0 : DataW.trod enc Tryz.prog W 0 (fun _ => true) true n 9 [k0] = some y0 := by simpa [Value.cells, c9] using hg 0 _ rfl
      have g1 : DataW.trod enc Tryz.prog W 0 (fun _ => true) true n 5 [k1] = some y1 := by simpa [Value.cells, c5] using hg 1 _ rfl
      have g2 : DataW.trod enc Tryz.prog W 0 (fun _ => true) true n 3 [k2] = some y2 := by simpa [Value.cells, c3] using hg 2 _ rfl
      have g3 : DataW.trod enc Tryz.prog W 0 (fun _ => true) true n 3 [k3] = some y3 := by simpa [Value.cells, c3] using hg 3 _ rfl
      have g4 : DataW.trod enc Tryz.prog W 0 (fun _ => true) true n 3 [k4] = some y4 := by simpa [Value.cells, c3] using hg 4 _ rfl
      have g5 : DataW.trod enc Tryz.prog W 0 (fun _ => true) true n 3 [k5] = some y5 := by simpa [Value.cells, c3] using hg 5 _ rfl
      have g6 : DataW.trod enc Tryz.prog W 0 (fun _ => true) true n 23 [k6, k7] = some y6 := by simpa [Value.cells, c23] using hg 6 _ rfl
      have g7 : DataW.trod enc Tryz.prog W 0 (fun _ => true) true n 9 [k8] = some y7 := by simpa [Value.cells, c9] using hg 7 _ rfl
      have g8 : DataW.trod enc Tryz.prog W 0 (fun _ => true) true n 9 [k9] = some y8 := by simpa [Value.cells, c9] using hg 8 _ rfl
      have g9 : DataW.trod enc Tryz.prog W 0 (fun _ => true) true n 9 [k10] = some y9 := by simpa [Value.cells, c9] using hg 9 _ rfl
      have g10 : DataW.trod enc Tryz.prog W 0 (fun _ => true) true n 3 [k11] = some y10 := by simpa [Value.cells, c3] using hg 10 _ rfl
      have g11 : DataW.trod enc Tryz.prog W 0 (fun _ => true) true n 3 [k12] = some y11 := by simpa [Value.cells, c3] using hg 11 _ rfl
      have g12 : DataW.trod enc Tryz.prog W 0 (fun _ => true) true n 9 [k13] = some y12 := by simpa [Value.cells, c9] using hg 12 _ rfl
      have g13 : DataW.trod enc Tryz.prog W 0 (fun _ => true) true n 24 [k14] = some y13 := by simpa [Value.cells, c24] using hg 13 _ rfl
      obtain ⟨zs, n2, _, _, _, hzl, hz⟩ := DataW.trod_struct Tryz.underlying23 g6
      match zs, hzl with
      | [z0, z1], _ =>
        have q0 : DataW.trod enc Tryz.prog W 0 (fun _ => true) true n2 3 [k6] = some z0 := by simpa [c3] using hz 0 _ rfl
        have q1 : DataW.trod enc Tryz.prog W 0 (fun _ => true) true n2 3 [k7] = some z1 := by simpa [c3] using hz 1 _ rfl
        have hp : ∀ (j : Nat) (t : TypeId) (y : DataW H), ([9, 5, 3, 3, 3, 3, 23, 9, 9, 9, 3, 3, 9, 24] : List TypeId)[j]? = some t → [y0.1, y1.1, y2.1, y3.1, y4.1, y5.1, y6.1, y7.1, y8.1, y9.1, y10.1, y11.1, y12.1, y13.1][j]? = some y → ∀ k ∈ y.weights Tryz.prog t, k ≤ reachBytes := fun j t y ht hy k hk => by
          refine hw k ?_
          rw [hd]
          have := DataW.weights_mem_each (P := Tryz.prog) ht hy k hk
          simpa [DataW.weights, Tryz.underlying26] using this
        obtain ⟨name, rfl, hn⟩ := one_string g0 (hp 0 _ _ rfl rfl)
        obtain ⟨kind, rfl, hk⟩ := one_byte g1
        obtain ⟨mode, rfl, hm⟩ := one_int g2
        obtain ⟨uid, rfl, hu⟩ := one_int g3
        obtain ⟨gid, rfl, hgi⟩ := one_int g4
        obtain ⟨size, rfl, hs⟩ := one_int g5
        obtain ⟨sec, rfl, hse⟩ := one_int q0
        obtain ⟨nano, rfl, hna⟩ := one_int q1
        obtain ⟨link, rfl, hl⟩ := one_string g7 (hp 7 _ _ rfl rfl)
        obtain ⟨user, rfl, hus⟩ := one_string g8 (hp 8 _ _ rfl rfl)
        obtain ⟨group, rfl, hgr⟩ := one_string g9 (hp 9 _ _ rfl rfl)
        obtain ⟨major, rfl, hma⟩ := one_int g10
        obtain ⟨minor, rfl, hmi⟩ := one_int g11
        obtain ⟨data, rfl, hda⟩ := one_string g12 (hp 12 _ _ rfl rfl)
        obtain ⟨ma, mn, mc, ml, rfl, hrow, hin, hcap, hcap2⟩ := map_of g13 (hp 13 _ _ rfl rfl)
        exact ⟨⟨name, kind, mode, uid, gid, size, sec, nano, link, user, group, major, minor, data, ma, mn, ml, mc⟩, rfl,
          { name := hn, link := hl, user := hus, group := hgr, data := hda, kind := hk, mode := hm, uid := hu, gid := hgi, size := hs, sec := hse, nano := hna, major := hma, minor := hmi, row := hrow, cap := hcap, cap2 := hcap2, map := hin }⟩
end Go.Proofs.YtehkfbgbpmfpmaaGreatDoor

namespace Go.Proofs.YtehkfbgbpmfpmaaGreatDoor
set_option linter.unusedVariables false
set_option linter.unusedSimpArgs false
open Go.RowKit Go.ChangeShapes Go.WideShapes

theorem own : ownKnob Tryz.prog.godebug = none := by kernel_rfl
theorem et_g : Tryz.prog.globalNamed "errors.errorType" = some 0 := by kernel_rfl
theorem et_rt : (Tryz.prog.cutTypes.find? (·.1 == "internal/reflectlite.rtype")).map (·.2) = some 177 := by kernel_rfl
theorem et_row : ((List.range 246).filter fun t => Tryz.prog.rowNamed t [101, 114, 114, 111, 114]) = [39] := by kernel_rfl
theorem et_size : Tryz.prog.types.size = 246 := by kernel_rfl
theorem pw_g : Tryz.prog.globalNamed "internal/strconv.uint64pow10" = some 2 := by kernel_rfl
theorem pw_data : (Rows.laid_internal_strconv_uint64pow10 : DataW Unit) = Lib.tabData .u64 Lib.pow10Tab := by rfl

theorem laidVars_reads {P : Program} {w : World} : ∀ {l : List (String × DataW Unit)} {ps : List MemPlace}, DataW.LaidVars P w l ps → ∀ n d, (n, d) ∈ l →
    ∃ g t cs fuel p, P.globalNamed n = some g ∧ (P.globals[g]?).map (·.type) = some t ∧ w.var? P n = some cs ∧ DataW.trod (fun _ => ()) P w 0 (fun _ => true) false fuel t cs.toList = some (d, p)
  | [], _, _, _, _, hm => by cases hm
  | (n', d') :: r, ps, h, n, d, hm => by
    obtain ⟨g, t, cs, fuel, p, q, h1, h2, h3, h4, h5, _⟩ := h
    rcases List.mem_cons.1 hm with e | e
    · cases e
      exact ⟨g, t, cs, fuel, p, h1, h2, h3, h4⟩
    · exact laidVars_reads h5 n d e

/-- the two listed variables that the walks read -/
theorem G_of_laid {W : World} {l : List (String × DataW Unit)} (h : laidMetH Tryz.prog l W) (h1 : ("internal/strconv.uint64pow10", (Rows.laid_internal_strconv_uint64pow10 : DataW Unit)) ∈ l) (h2 : ("errors.errorType", (Rows.laid_errors_errorType : DataW Unit)) ∈ l) : G W := by
  obtain ⟨hp, hh⟩ := laidMetH_iff.1 h
  refine ⟨?_, ?_⟩
  · obtain ⟨ps, hv, _⟩ := hp
    obtain ⟨g, t, cs, fuel, p, e1, e2, e3, e4⟩ := laidVars_reads hv _ _ (List.mem_filter.2 ⟨h1, rfl⟩)
    obtain rfl := Option.some.inj (pw_g.symm.trans e1)
    have ht : (Tryz.prog.globals[2]?).map (·.type) = some 206 := by kernel_rfl
    obtain rfl := Option.some.inj (ht.symm.trans e2)
    rw [pw_data] at e4
    have := Lib.cells_of_tab Tryz.underlying206 Tryz.underlying131 (by kernel_rfl) (by kernel_rfl) e4
    unfold Lib.TabIs
    rw [e3, ← this]
  · obtain ⟨name, u, ty, e1, e2, e3, e4, e5⟩ := hh _ (List.mem_filter.2 ⟨h2, rfl⟩)
    have en : name = [101, 114, 114, 111, 114] := (Option.some.inj e1).symm
    subst en
    obtain rfl := Option.some.inj (et_rt.symm.trans e2)
    have hm : ty ∈ (List.range 246).filter fun t => Tryz.prog.rowNamed t [101, 114, 114, 111, 114] := List.mem_filter.2 ⟨List.mem_range.2 (by rw [← et_size]; exact e3), e4⟩
    rw [et_row] at hm
    obtain rfl := List.mem_singleton.1 hm
    have hth : typeHandle Tryz.prog 39 = .pointer (some ⟨7, 39, none⟩) := by kernel_rfl
    rw [hth] at e5
    simpa using World.var?_cell et_g e5 0

/-- the listed variables but the handle -/
def plainLaid : List (String × DataW Unit) := [("math/bits.deBruijn32tab", Rows.laid_math_bits_deBruijn32tab), ("math/bits.deBruijn64tab", Rows.laid_math_bits_deBruijn64tab), ("internal/strconv.uint64pow10", Rows.laid_internal_strconv_uint64pow10), ("unicode/utf8.acceptRanges", Rows.laid_unicode_utf8_acceptRanges), ("unicode/utf8.first", Rows.laid_unicode_utf8_first)]
noncomputable def world0 (os : Os) : World :=
  let w0 := World.holding Tryz.prog os ⟨#[], #[], []⟩
  { w0 with heap := w0.heap.modify 0 fun
      | .cells _ t frozen => .cells #[.iface 177 (.agg #[.pointer (some ⟨7, 39, none⟩)])] t frozen
      | o => o }
noncomputable def laidWorld (os : Os) : World := (world0 os).layVars Tryz.prog plainLaid
theorem laidWorld_os (os : Os) : (laidWorld os).os = os := World.layVars_os _ _ _
theorem laidWorld_plain (os : Os) (args : Array Value) : laidMet Tryz.prog plainLaid ((laidWorld os).forCall (fun _ _ => 0) ⟨#[], args, []⟩).memory := by
  have e1 : (plainLaid.filter fun x => (plainLaid.map (·.1)).contains x.1) = plainLaid := List.filter_eq_self.2 fun x hx => List.contains_iff_mem.2 (List.mem_map.2 ⟨x, hx, rfl⟩)
  have e2 : (plainLaid.filter fun x => !(plainLaid.map (·.1)).contains x.1) = [] := List.filter_eq_nil_iff.2 fun x hx => by rw [List.contains_iff_mem.2 (List.mem_map.2 ⟨x, hx, rfl⟩)]; simp
  have h : laidMet Tryz.prog plainLaid (laidWorld os) := laidMet_layVars (w0 := world0 os) (plainLaid.map (·.1)) [] (by rw [e1]; rfl) (by rw [e1]; kernel_rfl) (by rw [e1]; kernel_rfl) (by rw [e2]; exact LaidIn.none)
  exact h.of_heap (by simp [World.memory, World.forCall, Input.heap])
end Go.Proofs.YtehkfbgbpmfpmaaGreatDoor

namespace Go.Proofs.YtehkfbgbpmfpmaaGreatDoor
set_option linter.unusedVariables false
set_option linter.unusedSimpArgs false
open Go.RowKit Go.ChangeShapes Go.WideShapes

theorem reach_le : reachBytes ≤ 140737488351232 := by decide
theorem entO_reach {w : World} {e : EntR} (h : EntO w e) : Reach e := by
  have r := reach_le
  have a := h.name; have b := h.link; have c := h.user; have d := h.group; have f := h.data
  have g := h.cap; have k := h.cap2
  exact { name := by omega, link := by omega, user := by omega, group := by omega, data := by omega, mn := by omega }
theorem entO_ent {w : World} {e : EntR} (h : EntO w e) (hl : largeB e = false) : Ent w e := by
  have r := reach_le
  obtain ⟨a, b, c, d, f, g⟩ := large_not hl
  have k := h.cap2
  exact {
    b := { name := by omega, link := by omega, user := by omega, group := by omega, data := by omega, mn := by omega, kind0 := h.kind.1, kind1 := h.kind.2, size0 := h.size.lo, size1 := h.size.hi, map := h.map }
    i := { mode0 := h.mode.lo, mode1 := h.mode.hi, uid0 := h.uid.lo, uid1 := h.uid.hi, gid0 := h.gid.lo, gid1 := h.gid.hi, sec0 := h.sec.lo, sec1 := h.sec.hi, nano0 := h.nano.lo, nano1 := h.nano.hi, major0 := h.major.lo, major1 := h.major.hi, minor0 := h.minor.lo, minor1 := h.minor.hi }
    row := h.row, cap := h.cap, cap2 := by omega, mn := g }

theorem laidOut : laidOutB Tryz.prog = true := by kernel_rfl
def zeroEnt : Value := .agg #[.string ⟨#[]⟩, .int .u8 0, .int .i64 0, .int .i64 0, .int .i64 0, .int .i64 0, .int .i64 0, .int .i64 0, .string ⟨#[]⟩, .string ⟨#[]⟩, .string ⟨#[]⟩, .int .i64 0, .int .i64 0, .string ⟨#[]⟩, .slice none 0 0]

set_option maxRecDepth 100000 in
theorem gnu_met (os : Os) (args : Array Value) : laidMetH Tryz.prog Rows.memberGnuRow.laid ((laidWorld os).forCall (fun _ _ => 0) ⟨#[], args, []⟩).memory :=
  laidMetH_of_parts (by
    have e : (Rows.memberGnuRow.laid.filter fun x => x.2.handleName?.isNone) = plainLaid := by rfl
    rw [e]
    exact laidWorld_plain os args) (by kernel_rfl)

set_option maxRecDepth 100000 in
theorem gnu_lifted (os : Os) (started : os.Started) (H : Type) (enc : TypeId × Value → H) :
    ReturnsInHanded {} Tryz.checked os 4 .any (fun w args => (Rows.memberGnuSpec.pre enc Tryz.prog Tryz.f4 [] false w args ∧ laidMetH Tryz.prog Rows.memberGnuRow.laid w) ∧ sizedMet enc Tryz.prog Tryz.f4 (OpenSpec.ofChange Rows.memberGnuSpec) false w args)
      (Rows.memberGnuSpec.post enc Tryz.prog Tryz.f4 false true false false) := by
  refine returnsInHanded_of_change_and (C := Tryz.checked) (X := fun w _ => laidMetH Tryz.prog Rows.memberGnuRow.laid w) (fun _ _ _ hh h => h.of_heap hh) own started (by kernel_rfl) Tryz.func4
    (ChangeSpec.witness_shaped (enc := enc) (C := Tryz.checked) (os := os) (X := fun w _ => laidMetH Tryz.prog Rows.memberGnuRow.laid w) false (laidWorld os) #[zeroEnt] 8 (laidWorld_os os)
      (World.shaped_of_ZipB (by kernel_rfl) (by kernel_rfl)) (by kernel_rfl) (by kernel_rfl) (by kernel_rfl) (gnu_met os _)) ?_
  intro W base args ds gs before hval0 hW _ hwt hL _
  have hval : ∀ (j : Nat) t v, Tryz.f4.params[j]? = some t → args[j]? = some v → Value.okWide Tryz.prog W .any base t v := hval0
  have hW' := hW
  obtain ⟨p, q, hA0, hV, rfl, hfz, hnd⟩ := hW
  have hA : DataW.TrodAll enc Tryz.prog W 0 (fun _ => true) true Tryz.f4.params.toList args.toList ds p := hA0
  rw [Tryz.params4] at hA hval
  obtain ⟨v0, d0, rfl, rfl, h0⟩ := trodAll_one hA
  obtain ⟨rfl, rfl⟩ := trodVars_none hV
  have hw : ∀ k ∈ d0.weights Tryz.prog 26, k ≤ reachBytes := fun k hk => by
    have hm := DataW.weights_mem_each (P := Tryz.prog) (ts := [26]) (ds := [d0]) (j := 0) rfl rfl k hk
    have := List.all_eq_true.1 hwt k (by
      rw [Tryz.params4]
      exact hm)
    simpa using this
  obtain ⟨e, rfl, hE⟩ := ent_of (hval 0 26 v0 rfl rfl) h0 hw
  have hG : G W := G_of_laid hL (.tail _ (.tail _ (.head _))) (.tail _ (.tail _ (.tail _ (.tail _ (.head _)))))
  refine (lawGnu e W (entO_reach hE) (entO_ent hE) hG).mono fun x W' ⟨he, hb⟩ => ?_
  subst he
  have hlt : ∀ x ∈ p, x.block < W.heap.size := fun x hx => hW'.lt x (by simpa using hx)
  exact ⟨_, rfl, _, _, _, [], p, [], hW', trodAll_mk1 (shut_bool Tryz.underlying4 _), trodAll_mk1 (Below.trod laidOut (by kernel_rfl) (of_decide_eq_true (by kernel_rfl)) h0 hb hlt), rfl, hb.frame _, fun h => by cases h⟩

theorem memberGnu_holds : Rows.MemberGnuSaid :=
  OpenClaim.holds_of_wide 4 Tryz.f4 rfl rfl rfl rfl rfl rfl rfl ⟨rfl, rfl, rfl, rfl, rfl⟩ rfl rfl rfl rfl rfl (by kernel_rfl) Tryz.func4 (by kernel_rfl)
    (of_decide_eq_true (by kernel_rfl)) (by unfold Func.isWrapper; first | (rw [if_pos (by decide +kernel)]; kernel_rfl) | (rw [if_neg (by decide +kernel)]; exact ⟨rfl, rfl⟩))
    (fun os started H enc _ => gnu_lifted os started H enc)

theorem memberGnu_card_holds : Rows.MemberGnuCardSaid :=
  Claim7.holds_tied_plain_at .later [] [.data, .data, .data, .data, .handle, .pinned] true (true, "888517d7e49ee592861c5420ececf72d920e4519fd9c474ed48661c593f259e7") true
    memberGnu_holds (fun _ h => by cases h) (by kernel_rfl) (fun _ h => by cases h) memberGnu_row_tie rfl ⟨rfl, rfl⟩ (by kernel_rfl) rfl
    (fun f fn hf hfn => by
      obtain rfl : f = 4 := Option.some.inj ((show Tryz.prog.funcNamed "revetment/revetmentlaw.MemberGnu" = some 4 by kernel_rfl).symm.trans hf) |>.symm
      obtain rfl : fn = Tryz.f4 := (Option.some.inj (Tryz.func4.symm.trans hfn)).symm
      exact ⟨by kernel_rfl, fun j t ht => by
        rw [Tryz.params4] at ht
        have hm : t ∈ [26] := by simpa using Array.mem_of_getElem? ht
        have hall : ([26].all fun u => !Tryz.prog.wantsStandIn u) = true := by kernel_rfl
        exact (show Tryz.prog.wantsStandIn t = false by simpa using List.all_eq_true.1 hall t hm)⟩)
    (by kernel_rfl)
#print axioms memberGnu_card_holds
end Go.Proofs.YtehkfbgbpmfpmaaGreatDoor
