/- member.plain, named, digits; revetmentref.cutTo. -/
import Derived.Test.YtehkfbgbpmfpmaaGreatDoorD3
import Derived.Test.YtehkfbgbpmfpmaaGreatDoorE3
namespace Go.Proofs.YtehkfbgbpmfpmaaGreatDoor
set_option linter.unusedVariables false
set_option linter.unusedSimpArgs false
open Go.RowKit

def nameS (e : EntR) : ByteArray := if e.kind = 53 then e.name ++ bs [47] else e.name

theorem memNamed (e : EntR) (w : World) (hs : e.name.size ≤ 1000000) :
    Calls Tryz.prog 40 #[.agg #[.string e.name, .int .u8 e.kind, .int .i64 e.mode, .int .i64 e.uid, .int .i64 e.gid, .int .i64 e.size, .int .i64 e.sec, .int .i64 e.nano, .string e.link, .string e.user, .string e.group, .int .i64 e.major, .int .i64 e.minor, .string e.data, .slice e.ma e.mn e.mc]] w fun v w' => v = .returned (.string (nameS e)) ∧ Below w.heap.size w w' := by
  by_cases h : e.kind = 53
  · have HE := Lib.hid (show nameS e = e.name ++ bs [47] by unfold nameS; rw [if_pos h])
    go_enter Tryz.func40, Tryz.ntmps40
    go_wp2
    go_ret
    exact ⟨by rw [HE.out]; rfl, bl_alloc (bl_refl w) _⟩
  · have HE := Lib.hid (show nameS e = e.name by unfold nameS; rw [if_neg h])
    have hk : (e.kind == 53) = false := by simpa using h
    go_enter Tryz.func40, Tryz.ntmps40
    go_wp2
    go_ret
    exact ⟨by rw [HE.out]; rfl, bl_alloc (bl_refl w) _⟩

theorem memDigits (n : Int) (w : World) (h0 : 0 ≤ n) (h1 : n ≤ 8589934591) :
    Calls Tryz.prog 119 #[.int .i64 n] w fun v w' => v = .returned (.string (bs (octL 11 n ++ [0]))) ∧ Below w.heap.size w w' := by
  have hO := fun W : World => numOctal_ok n 12 W (by omega) (by omega) h0 (by have : mostS 12 = 8589934591 := by decide
                                                                              omega)
  have HO := Lib.hid hO
  clear hO
  go_enter Tryz.func119, Tryz.ntmps119
  go_wp2_with (first | (go_at_call 121; refine (HO.out _).mono ?_; rintro e w1 ⟨rfl, hb⟩))
  go_ret
  exact ⟨rfl, hb⟩

def plainR (e : EntR) : RawR := ⟨bs [], bs [], e.user, e.group, bs [], e.kind, e.mode, e.uid, e.gid, e.data.size, e.sec, e.major, e.minor⟩
set_option maxHeartbeats 2000000 in
theorem memPlain (e : EntR) (w : World) :
    Calls Tryz.prog 36 #[.agg #[.string e.name, .int .u8 e.kind, .int .i64 e.mode, .int .i64 e.uid, .int .i64 e.gid, .int .i64 e.size, .int .i64 e.sec, .int .i64 e.nano, .string e.link, .string e.user, .string e.group, .int .i64 e.major, .int .i64 e.minor, .string e.data, .slice e.ma e.mn e.mc]] w fun v w' => v = .returned (.agg #[.string (plainR e).name, .string (plainR e).link, .string (plainR e).user, .string (plainR e).group, .string (plainR e).front, .int .u8 (plainR e).kind, .int .i64 (plainR e).mode, .int .i64 (plainR e).uid, .int .i64 (plainR e).gid, .int .i64 (plainR e).size, .int .i64 (plainR e).time, .int .i64 (plainR e).major, .int .i64 (plainR e).minor]) ∧ Below w.heap.size w w' := by
  go_enter Tryz.func36, Tryz.ntmps36
  go_wp2
  exact bodyPost_ret (v := .agg #[.string ⟨#[]⟩, .string ⟨#[]⟩, .string e.user, .string e.group, .string ⟨#[]⟩, .int .u8 e.kind, .int .i64 e.mode, .int .i64 e.uid, .int .i64 e.gid, .int .i64 e.data.size, .int .i64 e.sec, .int .i64 e.major, .int .i64 e.minor]) (by simp [results, Tryz.results36, go_sem]) rfl ⟨rfl, bl_alloc (bl_alloc (bl_refl w) _) _⟩
end Go.Proofs.YtehkfbgbpmfpmaaGreatDoor
