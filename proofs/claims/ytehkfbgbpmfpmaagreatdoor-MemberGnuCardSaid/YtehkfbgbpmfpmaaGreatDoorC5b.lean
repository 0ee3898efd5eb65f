/- A header's layout. -/
import Derived.Test.YtehkfbgbpmfpmaaGreatDoorC5
namespace Go.Proofs.YtehkfbgbpmfpmaaGreatDoor
set_option linter.unusedVariables false
set_option linter.unusedSimpArgs false
open Go.RowKit

def wds : List Nat := [100, 8, 8, 8, 12, 12, 8, 1, 100, 8, 32, 32, 8, 8, 155, 12]
theorem len_ite {c : Prop} [Decidable c] {l : List UInt8} {n : Nat} (h : c → l.length = n) : (if c then l else zs n).length = n := by
  split
  · exact h (by assumption)
  · exact zs_length n
theorem numL_ok' {d n m : Int} {wd : Nat} (e : m = wd) (h : numOk d n m = true) : (numL d n m).length = wd := by
  have := numL_ok h; omega
theorem textL_ok' {s : ByteArray} {m : Int} {n : Nat} (e : m = n) (h : textOk s m = true) : (textL s m).length = n := by
  have := textL_ok h; omega

/-- the texts ahead of i, the numbers ahead of j are ones that fit -/
structure Oks (d : Int) (r : RawR) (i j : Nat) : Prop where
  t0 : 0 < i → textOk r.name 100 = true
  t1 : 1 < i → textOk r.link 100 = true
  t2 : 2 < i → textOk r.user 32 = true
  t3 : 3 < i → textOk r.group 32 = true
  t4 : 4 < i → textOk r.front 155 = true
  n0 : 0 < j → numOk d r.mode 8 = true
  n1 : 1 < j → numOk d r.uid 8 = true
  n2 : 2 < j → numOk d r.gid 8 = true
  n3 : 3 < j → numOk d r.size 12 = true
  n4 : 4 < j → numOk d r.time 12 = true
  n5 : 5 < j → numOk d r.major 8 = true
  n6 : 6 < j → numOk d r.minor 8 = true
theorem Oks.zero (d : Int) (r : RawR) : Oks d r 0 0 := ⟨by omega, by omega, by omega, by omega, by omega, by omega, by omega, by omega, by omega, by omega, by omega, by omega⟩
theorem Oks.text0 {d : Int} {r : RawR} (h : Oks d r 0 0) (k : textOk r.name 100 = true) : Oks d r 1 0 := ⟨fun _ => k, by omega, by omega, by omega, by omega, by omega, by omega, by omega, by omega, by omega, by omega, by omega⟩
theorem Oks.text1 {d : Int} {r : RawR} (h : Oks d r 1 0) (k : textOk r.link 100 = true) : Oks d r 2 0 := ⟨fun _ => h.t0 (by omega), fun _ => k, by omega, by omega, by omega, by omega, by omega, by omega, by omega, by omega, by omega, by omega⟩
theorem Oks.text2 {d : Int} {r : RawR} (h : Oks d r 2 0) (k : textOk r.user 32 = true) : Oks d r 3 0 := ⟨fun _ => h.t0 (by omega), fun _ => h.t1 (by omega), fun _ => k, by omega, by omega, by omega, by omega, by omega, by omega, by omega, by omega, by omega⟩
theorem Oks.text3 {d : Int} {r : RawR} (h : Oks d r 3 0) (k : textOk r.group 32 = true) : Oks d r 4 0 := ⟨fun _ => h.t0 (by omega), fun _ => h.t1 (by omega), fun _ => h.t2 (by omega), fun _ => k, by omega, by omega, by omega, by omega, by omega, by omega, by omega, by omega⟩
theorem Oks.text4 {d : Int} {r : RawR} (h : Oks d r 4 0) (k : textOk r.front 155 = true) : Oks d r 5 0 := ⟨fun _ => h.t0 (by omega), fun _ => h.t1 (by omega), fun _ => h.t2 (by omega), fun _ => h.t3 (by omega), fun _ => k, by omega, by omega, by omega, by omega, by omega, by omega, by omega⟩
theorem Oks.num0 {d : Int} {r : RawR} (h : Oks d r 5 0) (k : numOk d r.mode 8 = true) : Oks d r 5 1 := ⟨h.t0, h.t1, h.t2, h.t3, h.t4, fun _ => k, by omega, by omega, by omega, by omega, by omega, by omega⟩
theorem Oks.num1 {d : Int} {r : RawR} (h : Oks d r 5 1) (k : numOk d r.uid 8 = true) : Oks d r 5 2 := ⟨h.t0, h.t1, h.t2, h.t3, h.t4, fun _ => h.n0 (by omega), fun _ => k, by omega, by omega, by omega, by omega, by omega⟩
theorem Oks.num2 {d : Int} {r : RawR} (h : Oks d r 5 2) (k : numOk d r.gid 8 = true) : Oks d r 5 3 := ⟨h.t0, h.t1, h.t2, h.t3, h.t4, fun _ => h.n0 (by omega), fun _ => h.n1 (by omega), fun _ => k, by omega, by omega, by omega, by omega⟩
theorem Oks.num3 {d : Int} {r : RawR} (h : Oks d r 5 3) (k : numOk d r.size 12 = true) : Oks d r 5 4 := ⟨h.t0, h.t1, h.t2, h.t3, h.t4, fun _ => h.n0 (by omega), fun _ => h.n1 (by omega), fun _ => h.n2 (by omega), fun _ => k, by omega, by omega, by omega⟩
theorem Oks.num4 {d : Int} {r : RawR} (h : Oks d r 5 4) (k : numOk d r.time 12 = true) : Oks d r 5 5 := ⟨h.t0, h.t1, h.t2, h.t3, h.t4, fun _ => h.n0 (by omega), fun _ => h.n1 (by omega), fun _ => h.n2 (by omega), fun _ => h.n3 (by omega), fun _ => k, by omega, by omega⟩
theorem Oks.num5 {d : Int} {r : RawR} (h : Oks d r 5 5) (k : numOk d r.major 8 = true) : Oks d r 5 6 := ⟨h.t0, h.t1, h.t2, h.t3, h.t4, fun _ => h.n0 (by omega), fun _ => h.n1 (by omega), fun _ => h.n2 (by omega), fun _ => h.n3 (by omega), fun _ => h.n4 (by omega), fun _ => k, by omega⟩
theorem Oks.num6 {d : Int} {r : RawR} (h : Oks d r 5 6) (k : numOk d r.minor 8 = true) : Oks d r 5 7 := ⟨h.t0, h.t1, h.t2, h.t3, h.t4, fun _ => h.n0 (by omega), fun _ => h.n1 (by omega), fun _ => h.n2 (by omega), fun _ => h.n3 (by omega), fun _ => h.n4 (by omega), fun _ => h.n5 (by omega), fun _ => k⟩
theorem flds_len {d : Int} {r : RawR} {i j : Nat} (k : Nat) (h : Oks d r i j) : (flds d r i j k).map List.length = wds := by
  unfold flds wds
  simp only [List.map_cons, List.map_nil]
  refine List.cons_eq_cons.2 ⟨len_ite fun c => textL_ok' rfl (h.t0 c), ?_⟩
  refine List.cons_eq_cons.2 ⟨len_ite fun c => numL_ok' rfl (h.n0 c), ?_⟩
  refine List.cons_eq_cons.2 ⟨len_ite fun c => numL_ok' rfl (h.n1 c), ?_⟩
  refine List.cons_eq_cons.2 ⟨len_ite fun c => numL_ok' rfl (h.n2 c), ?_⟩
  refine List.cons_eq_cons.2 ⟨len_ite fun c => numL_ok' rfl (h.n3 c), ?_⟩
  refine List.cons_eq_cons.2 ⟨len_ite fun c => numL_ok' rfl (h.n4 c), ?_⟩
  refine List.cons_eq_cons.2 ⟨zs_length 8, ?_⟩
  refine List.cons_eq_cons.2 ⟨len_ite fun _ => rfl, ?_⟩
  refine List.cons_eq_cons.2 ⟨len_ite fun c => textL_ok' rfl (h.t1 c), ?_⟩
  refine List.cons_eq_cons.2 ⟨len_ite fun _ => magL_len d, ?_⟩
  refine List.cons_eq_cons.2 ⟨len_ite fun c => textL_ok' rfl (h.t2 c), ?_⟩
  refine List.cons_eq_cons.2 ⟨len_ite fun c => textL_ok' rfl (h.t3 c), ?_⟩
  refine List.cons_eq_cons.2 ⟨len_ite fun c => numL_ok' rfl (h.n5 c), ?_⟩
  refine List.cons_eq_cons.2 ⟨len_ite fun c => numL_ok' rfl (h.n6 c), ?_⟩
  refine List.cons_eq_cons.2 ⟨len_ite fun c => textL_ok' rfl (h.t4 c), ?_⟩
  refine List.cons_eq_cons.2 ⟨zs_length 12, rfl⟩
theorem flat_len (l : List (List UInt8)) : l.flatten.length = (l.map List.length).sum := by simp
theorem flds_flat_len {d : Int} {r : RawR} {i j : Nat} (k : Nat) (h : Oks d r i j) : (flds d r i j k).flatten.length = 512 := by
  rw [flat_len, flds_len k h]; rfl
theorem putAt_flds {l l' : List (List UInt8)} (k off : Nat) {s : List UInt8} (hl : l.map List.length = wds) (hk : k < 16) (hoff : (wds.take k).sum = off) (n : Nat) (hn : wds.getD k 0 = n) (hs : s.length ≤ n)
    (hz : l.getD k [] = zs n) (hl' : l' = l.set k (s ++ zs (n - s.length))) : putAt l.flatten off s = l'.flatten := by
  have hlen : l.length = 16 := by
    have := congrArg List.length hl
    simpa [wds] using this
  have e1 : (l.take k).flatten.length = off := by rw [flat_len, List.map_take, hl, hoff]
  have := putAt_flat l k s (by omega) (by rw [hz, zs_length]; exact hs)
  rw [e1, hz, drop_zs] at this
  rw [this, hl']
theorem textL_eq {s : ByteArray} {m : Int} {n : Nat} (e : m = n) (h : textOk s m = true) : textL s m = s.data.toList ++ zs (n - s.size) := by
  subst e
  unfold textL
  rw [if_pos h]
  rfl
theorem textOk_le {s : ByteArray} {m : Int} {n : Nat} (e : m = n) (h : textOk s m = true) : s.data.toList.length ≤ n := by
  unfold textOk at h
  rw [Bool.and_eq_true] at h
  have := of_decide_eq_true h.1
  rw [Lib.size_eq] at this
  omega
theorem set_putAt (l : List UInt8) (i : Nat) (b : UInt8) (h : i < l.length) : l.set i b = putAt l i [b] := by
  unfold putAt
  rw [List.set_eq_take_append_cons_drop, if_pos h]
  simp
theorem step_text0 {d : Int} {r : RawR} (h : Oks d r 0 0) (k : textOk r.name 100 = true) : putAt (flds d r 0 0 0).flatten 0 r.name.data.toList = (flds d r 1 0 0).flatten :=
  putAt_flds 0 0 (flds_len 0 h) (by decide) (by decide) 100 rfl (textOk_le rfl k) (by simp [flds]) (by have e := textL_eq (m := 100) (n := 100) rfl k; simp [flds, e])
theorem step_text1 {d : Int} {r : RawR} (h : Oks d r 1 0) (k : textOk r.link 100 = true) : putAt (flds d r 1 0 0).flatten 157 r.link.data.toList = (flds d r 2 0 0).flatten :=
  putAt_flds 8 157 (flds_len 0 h) (by decide) (by decide) 100 rfl (textOk_le rfl k) (by simp [flds]) (by have e := textL_eq (m := 100) (n := 100) rfl k; simp [flds, e])
theorem step_text2 {d : Int} {r : RawR} (h : Oks d r 2 0) (k : textOk r.user 32 = true) : putAt (flds d r 2 0 0).flatten 265 r.user.data.toList = (flds d r 3 0 0).flatten :=
  putAt_flds 10 265 (flds_len 0 h) (by decide) (by decide) 32 rfl (textOk_le rfl k) (by simp [flds]) (by have e := textL_eq (m := 32) (n := 32) rfl k; simp [flds, e])
theorem step_text3 {d : Int} {r : RawR} (h : Oks d r 3 0) (k : textOk r.group 32 = true) : putAt (flds d r 3 0 0).flatten 297 r.group.data.toList = (flds d r 4 0 0).flatten :=
  putAt_flds 11 297 (flds_len 0 h) (by decide) (by decide) 32 rfl (textOk_le rfl k) (by simp [flds]) (by have e := textL_eq (m := 32) (n := 32) rfl k; simp [flds, e])
theorem step_text4 {d : Int} {r : RawR} (h : Oks d r 4 0) (k : textOk r.front 155 = true) : putAt (flds d r 4 0 0).flatten 345 r.front.data.toList = (flds d r 5 0 0).flatten :=
  putAt_flds 14 345 (flds_len 0 h) (by decide) (by decide) 155 rfl (textOk_le rfl k) (by simp [flds]) (by have e := textL_eq (m := 155) (n := 155) rfl k; simp [flds, e])
theorem step_num0 {d : Int} {r : RawR} (h : Oks d r 5 0) (k : numOk d r.mode 8 = true) : putAt (flds d r 5 0 0).flatten 100 (numL d r.mode 8) = (flds d r 5 1 0).flatten := by
  have hl := numL_ok' (wd := 8) rfl k
  exact putAt_flds 1 100 (flds_len 0 h) (by decide) (by decide) 8 rfl (by show (numL d r.mode 8).length ≤ 8; exact Nat.le_of_eq hl) (by simp [flds]) (by simp [flds, show (numL d r.mode 8).length = 8 from hl, zs])
theorem step_num1 {d : Int} {r : RawR} (h : Oks d r 5 1) (k : numOk d r.uid 8 = true) : putAt (flds d r 5 1 0).flatten 108 (numL d r.uid 8) = (flds d r 5 2 0).flatten := by
  have hl := numL_ok' (wd := 8) rfl k
  exact putAt_flds 2 108 (flds_len 0 h) (by decide) (by decide) 8 rfl (by show (numL d r.uid 8).length ≤ 8; exact Nat.le_of_eq hl) (by simp [flds]) (by simp [flds, show (numL d r.uid 8).length = 8 from hl, zs])
theorem step_num2 {d : Int} {r : RawR} (h : Oks d r 5 2) (k : numOk d r.gid 8 = true) : putAt (flds d r 5 2 0).flatten 116 (numL d r.gid 8) = (flds d r 5 3 0).flatten := by
  have hl := numL_ok' (wd := 8) rfl k
  exact putAt_flds 3 116 (flds_len 0 h) (by decide) (by decide) 8 rfl (by show (numL d r.gid 8).length ≤ 8; exact Nat.le_of_eq hl) (by simp [flds]) (by simp [flds, show (numL d r.gid 8).length = 8 from hl, zs])
theorem step_num3 {d : Int} {r : RawR} (h : Oks d r 5 3) (k : numOk d r.size 12 = true) : putAt (flds d r 5 3 0).flatten 124 (numL d r.size 12) = (flds d r 5 4 0).flatten := by
  have hl := numL_ok' (wd := 12) rfl k
  exact putAt_flds 4 124 (flds_len 0 h) (by decide) (by decide) 12 rfl (by show (numL d r.size 12).length ≤ 12; exact Nat.le_of_eq hl) (by simp [flds]) (by simp [flds, show (numL d r.size 12).length = 12 from hl, zs])
theorem step_num4 {d : Int} {r : RawR} (h : Oks d r 5 4) (k : numOk d r.time 12 = true) : putAt (flds d r 5 4 0).flatten 136 (numL d r.time 12) = (flds d r 5 5 0).flatten := by
  have hl := numL_ok' (wd := 12) rfl k
  exact putAt_flds 5 136 (flds_len 0 h) (by decide) (by decide) 12 rfl (by show (numL d r.time 12).length ≤ 12; exact Nat.le_of_eq hl) (by simp [flds]) (by simp [flds, show (numL d r.time 12).length = 12 from hl, zs])
theorem step_num5 {d : Int} {r : RawR} (h : Oks d r 5 5) (k : numOk d r.major 8 = true) : putAt (flds d r 5 5 0).flatten 329 (numL d r.major 8) = (flds d r 5 6 0).flatten := by
  have hl := numL_ok' (wd := 8) rfl k
  exact putAt_flds 12 329 (flds_len 0 h) (by decide) (by decide) 8 rfl (by show (numL d r.major 8).length ≤ 8; exact Nat.le_of_eq hl) (by simp [flds]) (by simp [flds, show (numL d r.major 8).length = 8 from hl, zs])
theorem step_num6 {d : Int} {r : RawR} (h : Oks d r 5 6) (k : numOk d r.minor 8 = true) : putAt (flds d r 5 6 0).flatten 337 (numL d r.minor 8) = (flds d r 5 7 0).flatten := by
  have hl := numL_ok' (wd := 8) rfl k
  exact putAt_flds 13 337 (flds_len 0 h) (by decide) (by decide) 8 rfl (by show (numL d r.minor 8).length ≤ 8; exact Nat.le_of_eq hl) (by simp [flds]) (by simp [flds, show (numL d r.minor 8).length = 8 from hl, zs])
theorem step_kind {d : Int} {r : RawR} {j : Nat} (h : Oks d r 5 j) : (flds d r 5 j 0).flatten.set 156 (byt r.kind) = (flds d r 5 j 1).flatten := by
  rw [set_putAt _ _ _ (by rw [flds_flat_len 0 h]; decide)]
  exact putAt_flds 7 156 (flds_len 0 h) (by decide) (by decide) 1 rfl (by simp) (by simp [flds]) (by simp [flds, zs])
theorem step_mag {d : Int} {r : RawR} {j : Nat} (h : Oks d r 5 j) : putAt (flds d r 5 j 1).flatten 257 (magL d) = (flds d r 5 j 2).flatten := by
  have hl := magL_len d
  exact putAt_flds 9 257 (flds_len 1 h) (by decide) (by decide) 8 rfl (by omega) (by simp [flds]) (by simp [flds, hl, zs])
theorem mag_one {r : RawR} {j : Nat} : flds 1 r 5 j 1 = flds 1 r 5 j 2 := by simp [flds, magL, zs]

theorem sumTo_congr {l m : List UInt8} {sg : Bool} : ∀ n : Nat, (∀ i, i < n → sumC sg i (l.getD i 0) = sumC sg i (m.getD i 0)) → sumTo l sg n = sumTo m sg n
  | 0, _ => rfl
  | n + 1, h => by
    simp only [sumTo]
    rw [sumTo_congr n (fun i hi => h i (by omega)), h n (by omega)]
theorem sealL_mid {A B C C' : List UInt8} (hA : A.length = 148) (hC : C.length = 8) (hC' : C'.length = 8) : sealL (A ++ (C ++ B)) = sealL (A ++ (C' ++ B)) := by
  have hs : sumTo (A ++ (C ++ B)) false 512 = sumTo (A ++ (C' ++ B)) false 512 := by
    refine sumTo_congr 512 fun i _ => ?_
    by_cases hi : 148 ≤ i ∧ i < 156
    · unfold sumC; rw [if_pos hi, if_pos hi]
    · congr 1
      by_cases h1 : i < 148
      · simp only [List.getD_eq_getElem?_getD]
        rw [List.getElem?_append_left (by omega), List.getElem?_append_left (by omega)]
      · simp only [List.getD_eq_getElem?_getD]
        rw [List.getElem?_append_right (by omega), List.getElem?_append_right (by omega), List.getElem?_append_right (by omega), List.getElem?_append_right (by omega), hC, hC']
  unfold sealL
  rw [hs]
  have t1 : ∀ X : List UInt8, (A ++ X).take 148 = A := fun X => by rw [List.take_append, ← hA]; simp
  have t2 : ∀ X : List UInt8, X.length = 8 → (A ++ (X ++ B)).drop 156 = B := fun X hX => by
    rw [← List.append_assoc, List.drop_append]; simp [hA, hX]
  rw [t1, t1, t2 C hC, t2 C' hC']

theorem seal_flds {d : Int} {r : RawR} (h : okHead d r = true) : sealL (flds d r 5 (if d = 1 then 5 else 7) 2).flatten = sealL (rawL d r) := by
  have hk := h
  unfold okHead at hk
  simp only [Bool.and_eq_true] at hk
  obtain ⟨⟨⟨⟨⟨⟨⟨⟨⟨⟨h0, h1⟩, h2⟩, h3⟩, h4⟩, h5⟩, h6⟩, h7⟩, h8⟩, h9⟩, h10⟩ := hk
  have hA : (textL r.name 100 ++ (numL d r.mode 8 ++ (numL d r.uid 8 ++ (numL d r.gid 8 ++ (numL d r.size 12 ++ numL d r.time 12))))).length = 148 := by
    have := textL_ok h0
    have := numL_ok h1
    have := numL_ok h2
    have := numL_ok h3
    have := numL_ok h4
    have := numL_ok h5
    simp only [List.length_append]; omega
  by_cases hd : d = 1
  · have e1 : (flds d r 5 (if d = 1 then 5 else 7) 2).flatten = (textL r.name 100 ++ (numL d r.mode 8 ++ (numL d r.uid 8 ++ (numL d r.gid 8 ++ (numL d r.size 12 ++ numL d r.time 12))))) ++ (zs 8 ++ ([byt r.kind] ++ (textL r.link 100 ++ (magL d ++ (textL r.user 32 ++ (textL r.group 32 ++ (zs 8 ++ (zs 8 ++ (textL r.front 155 ++ zs 12)))))))))  := by
      simp [flds, hd]
    have e2 : rawL d r = (textL r.name 100 ++ (numL d r.mode 8 ++ (numL d r.uid 8 ++ (numL d r.gid 8 ++ (numL d r.size 12 ++ numL d r.time 12))))) ++ ([32, 32, 32, 32, 32, 32, 32, 32] ++ ([byt r.kind] ++ (textL r.link 100 ++ (magL d ++ (textL r.user 32 ++ (textL r.group 32 ++ (zs 8 ++ (zs 8 ++ (textL r.front 155 ++ zs 12)))))))))  := by
      unfold rawL; rw [if_pos hd]; simp [zs, List.replicate]
    rw [e1, e2]
    exact sealL_mid hA (zs_length 8) rfl
  · have e1 : (flds d r 5 (if d = 1 then 5 else 7) 2).flatten = (textL r.name 100 ++ (numL d r.mode 8 ++ (numL d r.uid 8 ++ (numL d r.gid 8 ++ (numL d r.size 12 ++ numL d r.time 12))))) ++ (zs 8 ++ ([byt r.kind] ++ (textL r.link 100 ++ (magL d ++ (textL r.user 32 ++ (textL r.group 32 ++ (numL d r.major 8 ++ (numL d r.minor 8 ++ (textL r.front 155 ++ zs 12)))))))))  := by
      simp [flds, hd]
    have e2 : rawL d r = (textL r.name 100 ++ (numL d r.mode 8 ++ (numL d r.uid 8 ++ (numL d r.gid 8 ++ (numL d r.size 12 ++ numL d r.time 12))))) ++ ([32, 32, 32, 32, 32, 32, 32, 32] ++ ([byt r.kind] ++ (textL r.link 100 ++ (magL d ++ (textL r.user 32 ++ (textL r.group 32 ++ (numL d r.major 8 ++ (numL d r.minor 8 ++ (textL r.front 155 ++ zs 12)))))))))  := by
      unfold rawL; rw [if_neg hd]; simp [zs, List.replicate]
    rw [e1, e2]
    exact sealL_mid hA (zs_length 8) rfl
end Go.Proofs.YtehkfbgbpmfpmaaGreatDoor
