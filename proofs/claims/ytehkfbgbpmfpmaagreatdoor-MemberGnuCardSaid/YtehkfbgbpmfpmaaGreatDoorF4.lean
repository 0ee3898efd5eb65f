/- member.writeGnu. -/
import Derived.Test.YtehkfbgbpmfpmaaGreatDoorF3
import Derived.Test.YtehkfbgbpmfpmaaGreatDoorE6
namespace Go.Proofs.YtehkfbgbpmfpmaaGreatDoor
set_option linter.unusedVariables false
set_option linter.unusedSimpArgs false
open Go.RowKit

/-- numbers of 64 bits -/
structure EntI (e : EntR) : Prop where
  mode0 : -9223372036854775808 ≤ e.mode
  mode1 : e.mode ≤ 9223372036854775807
  uid0 : -9223372036854775808 ≤ e.uid
  uid1 : e.uid ≤ 9223372036854775807
  gid0 : -9223372036854775808 ≤ e.gid
  gid1 : e.gid ≤ 9223372036854775807
  sec0 : -9223372036854775808 ≤ e.sec
  sec1 : e.sec ≤ 9223372036854775807
  nano0 : -9223372036854775808 ≤ e.nano
  nano1 : e.nano ≤ 9223372036854775807
  major0 : -9223372036854775808 ≤ e.major
  major1 : e.major ≤ 9223372036854775807
  minor0 : -9223372036854775808 ≤ e.minor
  minor1 : e.minor ≤ 9223372036854775807
theorem plainR_B {e : EntR} (h : EntB e) (i : EntI e) (k : Int) (h0 : 0 ≤ k) (h1 : k ≤ 255) : RawB { plainR e with kind := k } :=
  { name := by show (bs []).size ≤ _; rw [bs_size]; exact Nat.zero_le _, link := by show (bs []).size ≤ _; rw [bs_size]; exact Nat.zero_le _, user := h.user, group := h.group, front := by show (bs []).size ≤ _; rw [bs_size]; exact Nat.zero_le _,
    kind0 := h0, kind1 := h1, mode0 := i.mode0, mode1 := i.mode1, uid0 := i.uid0, uid1 := i.uid1, gid0 := i.gid0, gid1 := i.gid1,
    size0 := by show (-9223372036854775808 : Int) ≤ (e.data.size : Int); omega, size1 := by show (e.data.size : Int) ≤ 9223372036854775807; have := h.data; omega, time0 := i.sec0, time1 := i.sec1, major0 := i.major0, major1 := i.major1, minor0 := i.minor0, minor1 := i.minor1 }
def kindR (e : EntR) (k : Int) : RawR := { plainR e with kind := k }
/-- what is ahead of a member of Gnu -/
def aheadL (e : EntR) : List UInt8 := lw 75 e.link ++ lw 76 (nameS e)
def gnuT (e : EntR) : List UInt8 × Int := wholeS 3 (kindR e e.kind) (cut100 (nameS e)) (cut100 e.link) e.data
def gnuH (e : EntR) : List UInt8 × Int := wholeS 3 (kindR e 83) (cut100 (nameS e)) (cut100 e.link) (bs [])
theorem nameS_size (e : EntR) : (nameS e).size ≤ e.name.size + 1 := by
  unfold nameS
  split
  · rw [ByteArray.size_append, bs_size]; exact Nat.le_refl _
  · omega
theorem wholeS_len (d : Int) (r : RawR) (n l data : ByteArray) : (wholeS d r n l data).1.length ≤ data.size + 2000 := by
  unfold wholeS
  split
  · simp
  · split
    · simp
    · have h1 := headS_len d (wholeR d r n l)
      have h2 := padS_range (data.data.toList.length : Int)
      have h3 := Lib.size_eq data
      unfold fillL
      simp only [List.length_append, List.length_replicate]
      omega
theorem wholeS_code (d : Int) (r : RawR) (n l data : ByteArray) : (wholeS d r n l data).2 = 0 ∨ (wholeS d r n l data).1 = [] := by
  unfold wholeS
  split
  · exact .inr rfl
  · split
    · exact .inr rfl
    · exact .inl rfl
theorem aheadL_len (e : EntR) (hn : e.name.size ≤ 1000) (hl : e.link.size ≤ 1000) : (aheadL e).length ≤ 400000 := by
  have h1 := lw_len 75 e.link (by omega)
  have h2 := lw_len 76 (nameS e) (by have := nameS_size e; omega)
  unfold aheadL
  rw [List.length_append]
  omega

def gnuPlainS (e : EntR) : List UInt8 × Int := if (gnuT e).2 = 0 then (aheadL e ++ (gnuT e).1, 0) else ([], (gnuT e).2)
theorem raw_cells {w : World} {b : Nat} {r : RawR} {t : TypeId} (h : Blk w b #[.string r.name, .string r.link, .string r.user, .string r.group, .string r.front, .int .u8 r.kind, .int .i64 r.mode, .int .i64 r.uid, .int .i64 r.gid, .int .i64 r.size, .int .i64 r.time, .int .i64 r.major, .int .i64 r.minor] t) :
    w.cell? ⟨b, 0, none⟩ = some (.string r.name) ∧ w.cell? ⟨b, 1, none⟩ = some (.string r.link) ∧ w.cell? ⟨b, 2, none⟩ = some (.string r.user) ∧ w.cell? ⟨b, 3, none⟩ = some (.string r.group) ∧ w.cell? ⟨b, 4, none⟩ = some (.string r.front) ∧
    w.cell? ⟨b, 5, none⟩ = some (.int .u8 r.kind) ∧ w.cell? ⟨b, 6, none⟩ = some (.int .i64 r.mode) ∧ w.cell? ⟨b, 7, none⟩ = some (.int .i64 r.uid) ∧ w.cell? ⟨b, 8, none⟩ = some (.int .i64 r.gid) ∧ w.cell? ⟨b, 9, none⟩ = some (.int .i64 r.size) ∧
    w.cell? ⟨b, 10, none⟩ = some (.int .i64 r.time) ∧ w.cell? ⟨b, 11, none⟩ = some (.int .i64 r.major) ∧ w.cell? ⟨b, 12, none⟩ = some (.int .i64 r.minor) := by
  refine ⟨?_, ?_, ?_, ?_, ?_, ?_, ?_, ?_, ?_, ?_, ?_, ?_, ?_⟩ <;> (rw [h.cell]; rfl)

attribute [local irreducible] lw cut100 nameS wholeS
set_option maxRecDepth 100000 in
set_option maxHeartbeats 8000000 in
theorem gnuPlain (e : EntR) (w : World) (hb : EntB e) (hi : EntI e) (hn : e.name.size ≤ 1000) (hl : e.link.size ≤ 1000) (hz : e.nano = 0) (hsp : sparseS e = false) :
    Calls Tryz.prog 34 #[.agg #[.string e.name, .int .u8 e.kind, .int .i64 e.mode, .int .i64 e.uid, .int .i64 e.gid, .int .i64 e.size, .int .i64 e.sec, .int .i64 e.nano, .string e.link, .string e.user, .string e.group, .int .i64 e.major, .int .i64 e.minor, .string e.data, .slice e.ma e.mn e.mc]] w fun v w' => v = .returned (.tuple #[.string (bs (gnuPlainS e).1), errV (gnuPlainS e).2]) ∧ Below w.heap.size w w' := by
  have HB := Lib.hid hb
  have HI := Lib.hid hi
  have hz2 : (e.nano != 0) = false := by simp [hz]
  have HSP := Lib.hid (fun W : World => hsp ▸ memSparse e W)
  clear hz hsp hb hi
  have KE0 := Lib.hid ((Blk.new w #[.string e.name, .int .u8 e.kind, .int .i64 e.mode, .int .i64 e.uid, .int .i64 e.gid, .int .i64 e.size, .int .i64 e.sec, .int .i64 e.nano, .string e.link, .string e.user, .string e.group, .int .i64 e.major, .int .i64 e.minor, .string e.data, .slice e.ma e.mn e.mc] 26).alloc (.cells #[.string ⟨#[]⟩] 9))
  have ko : Blk ((w.alloc (.cells #[.string e.name, .int .u8 e.kind, .int .i64 e.mode, .int .i64 e.uid, .int .i64 e.gid, .int .i64 e.size, .int .i64 e.sec, .int .i64 e.nano, .string e.link, .string e.user, .string e.group, .int .i64 e.major, .int .i64 e.minor, .string e.data, .slice e.ma e.mn e.mc] 26)).alloc (.cells #[.string ⟨#[]⟩] 9)) (w.heap.size + 1) #[.string (bs [])] 9 := by
    have := Blk.new (w.alloc (.cells #[.string e.name, .int .u8 e.kind, .int .i64 e.mode, .int .i64 e.uid, .int .i64 e.gid, .int .i64 e.size, .int .i64 e.sec, .int .i64 e.nano, .string e.link, .string e.user, .string e.group, .int .i64 e.major, .int .i64 e.minor, .string e.data, .slice e.ma e.mn e.mc] 26)) #[.string ⟨#[]⟩] 9
    rw [World.size_alloc] at this
    exact this
  have KO0 := Lib.hid ko
  clear ko
  have GE0 := Lib.hid (bl_alloc (bl_alloc (bl_refl w) (.cells #[.string e.name, .int .u8 e.kind, .int .i64 e.mode, .int .i64 e.uid, .int .i64 e.gid, .int .i64 e.size, .int .i64 e.sec, .int .i64 e.nano, .string e.link, .string e.user, .string e.group, .int .i64 e.major, .int .i64 e.minor, .string e.data, .slice e.ma e.mn e.mc] 26)) (.cells #[.string ⟨#[]⟩] 9))
  have hns := nameS_size e
  obtain ⟨O2, HO2⟩ : ∃ O, Hid ([] ++ lw 75 e.link ++ lw 76 (nameS e) = O) := ⟨_, Lib.hid rfl⟩
  have HA := Lib.hid (show aheadL e = O2 by rw [← HO2.out]; unfold aheadL; simp)
  have HW := Lib.hid (fun W : World => memWritten 3 (kindR e e.kind) (cut100 (nameS e)) (cut100 e.link) e.data W (plainR_B HB.out HI.out e.kind HB.out.kind0 HB.out.kind1) (by have := cut100_size (nameS e); omega) (by have := cut100_size e.link; omega) (by have := HB.out.data; omega))
  have hFit : Fits O2 (wholeS 3 (kindR e e.kind) (cut100 (nameS e)) (cut100 e.link) e.data).1 := by
    have h1 := aheadL_len e hn hl
    rw [HA.out] at h1
    have h2 := wholeS_len 3 (kindR e e.kind) (cut100 (nameS e)) (cut100 e.link) e.data
    have h3 := HB.out.data
    unfold Fits
    omega
  have HT := Lib.hid (show gnuT e = wholeS 3 (kindR e e.kind) (cut100 (nameS e)) (cut100 e.link) e.data from rfl)
  generalize wholeS 3 (kindR e e.kind) (cut100 (nameS e)) (cut100 e.link) e.data = T at *
  rcases Bool.eq_false_or_eq_true (T.2 != 0) with hq | hq
  all_goals
    have HS := Lib.hid (show gnuPlainS e = if T.2 = 0 then (O2 ++ T.1, 0) else ([], T.2) by unfold gnuPlainS; rw [HT.out, HA.out])
    go_enter Tryz.func34, Tryz.ntmps34
    go_wp2_with (first
      | (go_at_call 78; (with_reducible refine (gnuShortL e.link 75 (w.heap.size + 1) [] _ (by omega) (by omega) (by omega) KO0.out (by simp)).mono ?_); rintro x w1 ⟨rfl, hO1, hg1⟩; have KE1 := Lib.hid (KE0.out.grown hg1 (by omega)); have KO1 := Lib.hid hO1; have G1 := Lib.hid (bl_grown GE0.out hg1 (by omega)); obtain ⟨a0, a1, a2, a3, a4, a5, a6, a7, a8, a9, a10, a11, a12, a13, a14⟩ := ent_cells KE1.out; clear hO1 hg1)
      | (go_at_call 40; (with_reducible refine (memNamed e _ (by omega)).mono ?_); rintro x w2 ⟨rfl, hb2⟩; have KE2 := Lib.hid (KE1.out.bl hb2); have KO2 := Lib.hid (KO1.out.bl hb2); have G2 := Lib.hid (bl_then hb2 G1.out G1.out.size); clear a0 a1 a2 a3 a4 a5 a6 a7 a8 a9 a10 a11 a12 a13 a14 hb2)
      | (go_at_call 78; (with_reducible refine (gnuShortL (nameS e) 76 (w.heap.size + 1) _ _ (by omega) (by omega) (by omega) KO2.out (by have := lw_len 75 e.link (by omega); simp; omega)).mono ?_); rintro x w3 ⟨rfl, hO3, hg3⟩; have KE3 := Lib.hid (KE2.out.grown hg3 (by omega)); rw [HO2.out] at hO3; have KO3 := Lib.hid hO3; have G3 := Lib.hid (bl_grown G2.out hg3 (by omega)); obtain ⟨a0, a1, a2, a3, a4, a5, a6, a7, a8, a9, a10, a11, a12, a13, a14⟩ := ent_cells KE3.out; clear hO3 hg3)
      | (go_at_call 36; (with_reducible refine (memPlain e _).mono ?_); rintro x w4 ⟨rfl, hb4⟩; have KE4 := Lib.hid ((KE3.out.bl hb4).alloc (.cells #[.string (plainR e).name, .string (plainR e).link, .string (plainR e).user, .string (plainR e).group, .string (plainR e).front, .int .u8 (plainR e).kind, .int .i64 (plainR e).mode, .int .i64 (plainR e).uid, .int .i64 (plainR e).gid, .int .i64 (plainR e).size, .int .i64 (plainR e).time, .int .i64 (plainR e).major, .int .i64 (plainR e).minor] 70)); have KO4 := Lib.hid ((KO3.out.bl hb4).alloc (.cells #[.string (plainR e).name, .string (plainR e).link, .string (plainR e).user, .string (plainR e).group, .string (plainR e).front, .int .u8 (plainR e).kind, .int .i64 (plainR e).mode, .int .i64 (plainR e).uid, .int .i64 (plainR e).gid, .int .i64 (plainR e).size, .int .i64 (plainR e).time, .int .i64 (plainR e).major, .int .i64 (plainR e).minor] 70)); have KR4 := Lib.hid (Blk.new w4 #[.string (plainR e).name, .string (plainR e).link, .string (plainR e).user, .string (plainR e).group, .string (plainR e).front, .int .u8 (plainR e).kind, .int .i64 (plainR e).mode, .int .i64 (plainR e).uid, .int .i64 (plainR e).gid, .int .i64 (plainR e).size, .int .i64 (plainR e).time, .int .i64 (plainR e).major, .int .i64 (plainR e).minor] 70); have G4 := Lib.hid (bl_alloc (bl_then hb4 G3.out G3.out.size) (.cells #[.string (plainR e).name, .string (plainR e).link, .string (plainR e).user, .string (plainR e).group, .string (plainR e).front, .int .u8 (plainR e).kind, .int .i64 (plainR e).mode, .int .i64 (plainR e).uid, .int .i64 (plainR e).gid, .int .i64 (plainR e).size, .int .i64 (plainR e).time, .int .i64 (plainR e).major, .int .i64 (plainR e).minor] 70)); have hlt4 := (KE3.out.bl hb4).lt; clear a0 a1 a2 a3 a4 a5 a6 a7 a8 a9 a10 a11 a12 a13 a14 hb4; obtain ⟨a0, a1, a2, a3, a4, a5, a6, a7, a8, a9, a10, a11, a12, a13, a14⟩ := ent_cells KE4.out)
      | (go_at_call 37; (with_reducible refine (HSP.out _).mono ?_); rintro x w5 ⟨rfl, hb5⟩; have KE5 := Lib.hid (KE4.out.bl hb5); have KO5 := Lib.hid (KO4.out.bl hb5); have KR5 := Lib.hid (KR4.out.bl hb5); have G5 := Lib.hid (bl_then hb5 G4.out G4.out.size); clear a0 a1 a2 a3 a4 a5 a6 a7 a8 a9 a10 a11 a12 a13 a14 hb5; have a12 := (ent_cells KE5.out).2.2.2.2.2.2.2.2.2.2.2.2.2.1; obtain ⟨r0, r1, r2, r3, r4, r5, r6, r7, r8, r9, r10, r11, r12⟩ := raw_cells (r := kindR e e.kind) KR5.out)
      | (go_at_call 39; (with_reducible refine (HW.out _).mono ?_); rintro x w6 ⟨rfl, hb6⟩; have KO6 := (KO5.out.bl hb6).cell 0; simp at KO6; have G6 := Lib.hid (bl_then hb6 G5.out G5.out.size); clear r0 r1 r2 r3 r4 r5 r6 r7 r8 r9 r10 r11 r12 hb6))
    go_ret2
    refine ⟨?_, G6.out⟩
    rw [HS.out]
    first
      | (rw [if_neg (by simpa using hq)]; rfl)
      | (rw [if_pos (by simpa using hq)]; rfl)
end Go.Proofs.YtehkfbgbpmfpmaaGreatDoor
