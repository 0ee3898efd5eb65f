/- revetmentref.HeadWrite. -/
import Derived.Test.YtehkfbgbpmfpmaaGreatDoorC2
import Derived.Deep.RegionHeld3
namespace Go.Proofs.YtehkfbgbpmfpmaaGreatDoor
set_option linter.unusedVariables false
set_option linter.unusedSimpArgs false
open Go.RowKit

/-- a header's fields are in their types' ranges, its texts not too long -/
structure RawB (r : RawR) : Prop where
  name : r.name.size ≤ 100000
  link : r.link.size ≤ 100000
  user : r.user.size ≤ 100000
  group : r.group.size ≤ 100000
  front : r.front.size ≤ 100000
  kind0 : 0 ≤ r.kind
  kind1 : r.kind ≤ 255
  mode0 : -9223372036854775808 ≤ r.mode
  mode1 : r.mode ≤ 9223372036854775807
  uid0 : -9223372036854775808 ≤ r.uid
  uid1 : r.uid ≤ 9223372036854775807
  gid0 : -9223372036854775808 ≤ r.gid
  gid1 : r.gid ≤ 9223372036854775807
  size0 : -9223372036854775808 ≤ r.size
  size1 : r.size ≤ 9223372036854775807
  time0 : -9223372036854775808 ≤ r.time
  time1 : r.time ≤ 9223372036854775807
  major0 : -9223372036854775808 ≤ r.major
  major1 : r.major ≤ 9223372036854775807
  minor0 : -9223372036854775808 ≤ r.minor
  minor1 : r.minor ≤ 9223372036854775807

theorem octS_len (n wd : Int) : (octS n wd).1.length ≤ 21 := by
  unfold octS
  repeat' split
  all_goals simp [octL_length]
  all_goals omega
theorem binS_len (n wd : Int) : (binS n wd).1.length ≤ 21 := by
  unfold binS
  by_cases h1 : wd < 8 ∨ 20 < wd
  · rw [if_pos h1]; simp
  · rw [if_neg h1]
    by_cases h2 : wd = 8 ∧ (n < -36028797018963968 ∨ 36028797018963967 < n)
    · rw [if_pos h2]; simp
    · rw [if_neg h2]; simp [binL_length]; omega
theorem numL_len (d n wd : Int) : (numL d n wd).length ≤ 21 := by
  unfold numL wrS
  split
  · exact binS_len n wd
  · exact octS_len n wd
theorem textL_len (s : ByteArray) (n : Int) (h : 0 ≤ n) : (textL s n).length ≤ n.toNat := by
  unfold textL textOk
  split
  · rename_i h1
    simp at h1
    have := Lib.size_eq s
    simp
    omega
  · simp


/-- two lists of bytes whose texts may be joined -/
def Fits (l m : List UInt8) : Prop := l.length + m.length ≤ 9223372036854775807
theorem string_add_fits {P : Program} {w : World} (l m : List UInt8) (h : Fits l m) : (Op.stringOp .add (bs l) (bs m)).run P w = .ok (.string (bs (l ++ m))) w := by
  rw [run_string_add_sum w _ _ (by rw [bs_size, bs_size]; exact h), bs_append]
theorem string_add_fits_mk {P : Program} {w : World} (l : List UInt8) (m : Array UInt8) (h : Fits l m.toList) : (Op.stringOp .add (bs l) ⟨m⟩).run P w = .ok (.string (bs (l ++ m.toList))) w :=
  string_add_fits l m.toList h
attribute [go_sem 2000] string_add_fits string_add_fits_mk
theorem magL_len (d : Int) : (magL d).length = 8 := by unfold magL; split <;> (try split) <;> simp

theorem grown_cell {w w' : World} {g : Nat} (h : w.grownBy w' (some g)) {a : Addr} {v : Value} (hc : w.cell? a = some v) (hne : a.block ≠ g) : w'.cell? a = some v :=
  h.cell hc (fun e => hne (Option.some.inj e))

def okHead (d : Int) (r : RawR) : Bool :=
  textOk r.name 100 && numOk d r.mode 8 && numOk d r.uid 8 && numOk d r.gid 8 && numOk d r.size 12 && numOk d r.time 12 && textOk r.link 100 && textOk r.user 32 && textOk r.group 32 &&
    (if d = 1 then true else numOk d r.major 8 && numOk d r.minor 8) && textOk r.front 155
def rawL (d : Int) (r : RawR) : List UInt8 :=
  if d = 1 then textL r.name 100 ++ (numL d r.mode 8 ++ (numL d r.uid 8 ++ (numL d r.gid 8 ++ (numL d r.size 12 ++ (numL d r.time 12 ++ (32 :: (32 :: (32 :: (32 :: (32 :: (32 :: (32 :: (32 :: (byt r.kind :: (textL r.link 100 ++ (magL d ++ (textL r.user 32 ++ (textL r.group 32 ++ (0 :: (0 :: (0 :: (0 :: (0 :: (0 :: (0 :: (0 :: (0 :: (0 :: (0 :: (0 :: (0 :: (0 :: (0 :: (0 :: (textL r.front 155 ++ ([0, 0, 0, 0, 0, 0, 0, 0, 0, 0, 0, 0]))))))))))))))))))))))))))))))))))))
  else textL r.name 100 ++ (numL d r.mode 8 ++ (numL d r.uid 8 ++ (numL d r.gid 8 ++ (numL d r.size 12 ++ (numL d r.time 12 ++ (32 :: (32 :: (32 :: (32 :: (32 :: (32 :: (32 :: (32 :: (byt r.kind :: (textL r.link 100 ++ (magL d ++ (textL r.user 32 ++ (textL r.group 32 ++ (numL d r.major 8 ++ (numL d r.minor 8 ++ (textL r.front 155 ++ ([0, 0, 0, 0, 0, 0, 0, 0, 0, 0, 0, 0]))))))))))))))))))))))
theorem textL_ok {s : ByteArray} {n : Int} (h : textOk s n = true) : (textL s n).length = n.toNat := by
  unfold textL
  rw [if_pos h]
  unfold textOk at h
  simp at h
  have := Lib.size_eq s
  simp
  omega
theorem numL_ok {d n wd : Int} (h : numOk d n wd = true) : ((numL d n wd).length : Int) = wd := by
  unfold numOk numL at *
  simp only [decide_eq_true_eq] at h
  unfold wrS at *
  split at h
  · rename_i hc
    rw [if_pos hc]
    unfold binS at *
    split at h
    · simp at h
    · split at h
      · simp at h
      · rename_i h1 h2
        rw [if_neg h1, if_neg h2]
        simp [binL_length]
        omega
  · rename_i hc
    rw [if_neg hc]
    unfold octS at *
    split at h
    · simp at h
    · split at h
      · simp at h
      · rename_i h1 h2
        rw [if_neg h1, if_neg h2]
        simp [octL_length]
        omega
theorem rawL_len {d : Int} {r : RawR} (h : okHead d r = true) : (rawL d r).length = 512 := by
  unfold okHead at h
  simp only [Bool.and_eq_true] at h
  obtain ⟨⟨⟨⟨⟨⟨⟨⟨⟨⟨h0, h1⟩, h2⟩, h3⟩, h4⟩, h5⟩, h6⟩, h7⟩, h8⟩, h9⟩, h10⟩ := h
  have := textL_ok h0
  have := numL_ok h1
  have := numL_ok h2
  have := numL_ok h3
  have := numL_ok h4
  have := numL_ok h5
  have := textL_ok h6
  have := textL_ok h7
  have := textL_ok h8
  have := textL_ok h10
  have := magL_len d
  unfold rawL
  split
  · simp only [List.length_append, List.length_cons, List.length_nil]; omega
  · rename_i hd
    rw [if_neg hd, Bool.and_eq_true] at h9
    have := numL_ok h9.1
    have := numL_ok h9.2
    simp only [List.length_append, List.length_cons, List.length_nil]; omega
/-- a header: its bytes, its errno -/
def headS (d : Int) (r : RawR) : List UInt8 × Int :=
  if ¬ (1 ≤ d ∧ d ≤ 4) ∨ r.kind = 0 then ([], 1) else if fitsS d r = false then ([], 2) else if okHead d r = true then (sealL (rawL d r), 0) else ([], 2)
theorem not_f {b : Bool} (h : (!b) = false) : b = true := by simpa using h
theorem not_t {b : Bool} (h : (!b) = true) : b = false := by simpa using h
end Go.Proofs.YtehkfbgbpmfpmaaGreatDoor
