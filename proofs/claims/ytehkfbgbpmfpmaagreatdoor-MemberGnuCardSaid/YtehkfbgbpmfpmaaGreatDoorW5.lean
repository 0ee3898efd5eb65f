/- Regions that draw their order: reads and calls that make memory ahead, writes behind, one by one. -/
import Derived.Test.YtehkfbgbpmfpmaaGreatDoorW4
import Derived.StillTail
namespace Go.Proofs.YtehkfbgbpmfpmaaGreatDoor
set_option linter.unusedVariables false
set_option linter.unusedSimpArgs false
open Go.RowKit

section
variable {P : Program} {ops : Array Oper} {md : Region.Mode} {C : World → Prop} {n : Nat}

/-- the first n operations wait for earlier ones alone, and ask guards among themselves -/
def headB (md : Region.Mode) (ops : Array Oper) (n : Nat) : Bool :=
  (List.range n).all fun i => match ops[i]? with
    | none => false
    | some o => (o.after.toList.all fun e => !Region.binds md e || decide (e.on < i)) && (match o.guard with | none => true | some (j, _) => decide (j < n))

theorem headB_at {i : Nat} (h : headB md ops n = true) (hi : i < n) : ∃ o, ops[i]? = some o ∧ (∀ e ∈ o.after, Region.binds md e = true → e.on < i) ∧ (∀ j b, o.guard = some (j, b) → j < n) := by
  have h1 := List.all_eq_true.1 h i (List.mem_range.2 hi)
  cases ho : ops[i]? with
  | none => rw [ho] at h1; cases h1
  | some o =>
    rw [ho] at h1
    simp only [Bool.and_eq_true] at h1
    refine ⟨o, rfl, fun e he hb => ?_, fun j b hg => ?_⟩
    · have := List.all_eq_true.1 h1.1 e (by simpa using he)
      rw [hb] at this
      simpa using this
    · have := h1.2
      rw [hg] at this
      simpa using this

theorem head_get {i : Nat} (hi : i < n) : (ops.extract 0 n)[i]? = ops[i]? := by
  rw [Array.getElem?_extract]
  split
  · simp
  · rename_i h
    rw [Array.getElem?_eq_none (by omega)]
theorem head_wanted {i : Nat} {o : Oper} {t : Array Value} (hB : headB md ops n = true) (hi : i < n) (ho : ops[i]? = some o) :
    Region.wanted o (yielded (ops.extract 0 n) t) = Region.wanted o (yielded ops t) := by
  obtain ⟨o', ho', _, hg⟩ := headB_at hB hi
  obtain rfl : o = o' := Option.some.inj (ho.symm.trans ho')
  unfold Region.wanted
  cases hgd : o.guard with
  | none => rfl
  | some jb =>
    obtain ⟨j, b⟩ := jb
    have hj := hg j b hgd
    simp only
    unfold yielded
    rw [head_get hj]
theorem head_qOp {i : Nat} {K : Act → Prop} {a : Act} (hB : headB md ops n = true) (hi : i < n) (h : qOp P (ops.extract 0 n) C i K a) : qOp P ops C i K a := by
  obtain ⟨o, ho, _⟩ := headB_at hB hi
  unfold qOp at *
  rw [head_get hi, ho] at h
  rw [ho]
  simp only at *
  rw [head_wanted hB hi ho] at h
  exact h

/-- two lists of what has come up agree on the head -/
def SameHead (n : Nat) (x y : Array Bool) : Prop := y.size = n ∧ ∀ j, j < n → ∀ d, y.getD j d = x.getD j d
theorem SameHead.set {x y : Array Bool} {i : Nat} (h : SameHead n x y) (hx : n ≤ x.size) (hi : i < n) : SameHead n (x.setIfInBounds i true) (y.setIfInBounds i true) := by
  refine ⟨by simpa using h.1, fun j hj d => ?_⟩
  by_cases e : i = j
  · subst e
    have h1 : i < y.size := by rw [h.1]; exact hi
    have h2 : i < x.size := by omega
    simp [h1, h2]
  · rw [getD_set_ne d e, getD_set_ne d e]
    exact h.2 j hj d
theorem head_ready {i : Nat} {x y : Array Bool} (hB : headB md ops n = true) (hs : SameHead n x y) (hi : i < n) (h : i ∈ Region.ready md ops x) : i ∈ Region.ready md (ops.extract 0 n) y := by
  obtain ⟨o, ho, hb, _⟩ := headB_at hB hi
  obtain ⟨h1, o', ho', h2⟩ := mem_ready.1 h
  obtain rfl : o = o' := Option.some.inj (ho.symm.trans ho')
  refine mem_ready.2 ⟨by rw [hs.2 i hi]; exact h1, o, by rw [head_get hi]; exact ho, fun e he hbi => ?_⟩
  rw [hs.2 e.on (by have := hb e he hbi; omega)]
  exact h2 e he hbi

theorem getD_true_false {x : Array Bool} {i : Nat} (hi : i < x.size) (h : ¬ x.getD i true = false) : x.getD i false = true := by
  simp [hi] at h ⊢; exact h

theorem head_any {g : Nat} {QL : Act → Prop} {Q' : Exit → Act → World → Prop} (hB : headB md ops n = true) (hs : Region.sinkB md ops n = true) (hc : Region.chainB md ops n = true) (hn : n < ops.size)
    (hT : ∀ a w, C w → QL a → wpAny P md ops Q' g (Array.replicate n true ++ Array.replicate (ops.size - n) false) a w) :
    ∀ (k : Nat) (rem : List Nat) (x y : Array Bool) (a : Act) (w : World), rem.length = k → rem.Nodup → (∀ i, i ∈ rem ↔ i < n ∧ x.getD i true = false) → HeadInv md ops n x → SameHead n x y → C w →
      wpAnyQ P md (ops.extract 0 n) C QL k y a → wpAny P md ops Q' (k + g) x a w := by
  intro k
  induction k with
  | zero =>
    intro rem x y a w hk _ hrem inv hsame hC h
    obtain rfl := List.length_eq_zero_iff.1 hk
    rw [Nat.zero_add]
    have e : x = Array.replicate n true ++ Array.replicate (ops.size - n) false := by
      apply Array.ext
      · simp [inv.size]; omega
      · intro i h1 h2
        by_cases hi : i < n
        · rw [Array.getElem_append_left (by simpa using hi)]
          have := getD_true_false h1 (fun e => by simpa using (hrem i).2 ⟨hi, e⟩)
          simpa [h1] using this
        · rw [Array.getElem_append_right (by simpa using hi)]
          have := inv.tail i (by omega) (by rw [← inv.size]; exact h1)
          simpa [h1] using this
    rw [e]
    exact hT a w hC h.2
  | succ k ih =>
    intro rem x y a w hk hnd hrem inv hsame hC h
    rw [show k + 1 + g = (k + g) + 1 by omega]
    -- the least one that is left
    have hex : ∃ i, i ∈ rem ∧ ∀ j, j < i → j ∉ rem := by
      have hne : rem ≠ [] := by intro e; rw [e] at hk; cases hk
      have : ∀ m, ∀ i, i ∈ rem → i ≤ m → ∃ i, i ∈ rem ∧ ∀ j, j < i → j ∉ rem := by
        intro m
        induction m with
        | zero => intro i hi h0; exact ⟨i, hi, fun j hj => by omega⟩
        | succ m ihm =>
          intro i hi him
          by_cases hall : ∀ j, j < i → j ∉ rem
          · exact ⟨i, hi, hall⟩
          · have ⟨j, hj⟩ := Classical.not_forall.1 hall
            have ⟨hj1, hj2⟩ := Classical.not_imp.1 hj
            exact ihm j (Classical.not_not.1 hj2) (by omega)
      obtain ⟨i, l, rfl⟩ := List.exists_cons_of_ne_nil hne
      exact this i i (by simp) (Nat.le_refl _)
    obtain ⟨i0, hi0, hleast⟩ := hex
    have ⟨hi0n, hun0⟩ := (hrem i0).1 hi0
    have hready : i0 ∈ Region.ready md ops x := by
      obtain ⟨o, ho, hb, _⟩ := headB_at hB hi0n
      refine mem_ready.2 ⟨hun0, o, ho, fun e he hbi => ?_⟩
      have hlt := hb e he hbi
      refine getD_true_false (by rw [inv.size]; omega) (fun e2 => hleast e.on hlt ((hrem e.on).2 ⟨by omega, e2⟩))
    refine ⟨fun h0 => (by rw [h0] at hready; cases hready), fun i hi => ?_⟩
    have hin : i < n := by
      rcases Nat.lt_or_ge i n with h1 | h1
      · exact h1
      · exact absurd hi (tail_waits hs hc hn inv _ i0 rfl hi0n hun0 i h1)
    have hq := head_qOp hB hin (h.2 i (head_ready hB hsame hin hi))
    refine wpOp_of_qOp hC (fun a' w' hC' hK => ?_) hq
    have hmem : i ∈ rem := (hrem i).2 ⟨hin, (mem_ready.1 hi).1⟩
    refine ih (rem.erase i) _ _ a' w' (by rw [List.length_erase_of_mem hmem, hk]; rfl) (hnd.erase i) (fun j => ?_) (inv.set hi hin) (hsame.set (by rw [inv.size]; omega) hin) hC' hK
    rw [hnd.mem_erase_iff, hrem]
    constructor
    · rintro ⟨h1, h2, h3⟩
      exact ⟨h2, by rw [getD_set_ne true (Ne.symm h1)]; exact h3⟩
    · rintro ⟨h1, h2⟩
      by_cases e : i = j
      · subst e
        have : i < x.size := by rw [inv.size]; omega
        simp [this] at h2
      · rw [getD_set_ne true e] at h2
        exact ⟨fun e2 => e e2.symm, h1, h2⟩

/-- the test of a region: n operations ahead in any order, the others behind, one by one -/
def keptTailB (ops : Array Oper) (n : Nat) : Bool :=
  decide (n < ops.size) && (headB .any ops n && (Region.sinkB .any ops n && (Region.chainB .any ops n && (Region.lexB .any (ops.extract 0 n) &&
    Region.seqB .any ops (ops.size - n) n (Array.replicate n true ++ Array.replicate (ops.size - n) false)))))

theorem wp_region_kept_tail {id : Nat} {Q : Exit → Act → World → Prop} {a : Act} {w : World} {l : List Oper} (n : Nat) (hm : P.follows .mixedOrders = true) (hB : keptTailB l.toArray n = true)
    (h : wpQuiet P (l.take n).toArray (fun w' => ∃ k : Kept w, w' = k.W) (fun a' => ∀ w', (∃ k : Kept w, w' = k.W) → wpList P l.toArray Q (l.drop n) a' w') (l.take n) a) : (Code.region id l.toArray true).wp P Q a w := by
  simp only [keptTailB, Bool.and_eq_true, decide_eq_true_eq] at hB
  obtain ⟨hn, h1, h2, h3, h4, h5⟩ := hB
  refine wp_region_any hm ?_
  have hnl : n < l.length := by simpa using hn
  have hx : l.toArray.extract 0 n = (l.take n).toArray := by simp [List.extract_eq_take_drop]
  simp only [Region.lexB, Bool.and_eq_true] at h4
  have hlex := wpAnyQ_lex (P := P) (C := fun w' => ∃ k : Kept w, w' = k.W) (md := .any) (ops := l.toArray.extract 0 n) h4.1 (l.take n) 0 (Array.replicate (l.toArray.extract 0 n).size false) a (by rw [hx]; simp) (by
    have := h4.2
    rw [show (l.toArray.extract 0 n).size = (l.take n).length by rw [hx]; simp] at this ⊢
    exact this) (by rw [hx]; exact h)
  have hlen : (l.take n).length = n := by simp; omega
  rw [hlen] at hlex
  have hsz : (l.toArray.extract 0 n).size = n := by rw [hx]; simp; omega
  rw [hsz] at hlex
  have := head_any (P := P) (md := .any) (C := fun w' => ∃ k : Kept w, w' = k.W) (Q' := Q) (g := l.toArray.size - n) h1 h2 h3 hn (fun a' w' hC hq => by
      have := wpAny_of_seq (P := P) (md := .any) (Q' := Q) (ops := l.toArray) (l.drop n) n (Array.replicate n true ++ Array.replicate (l.toArray.size - n) false) a' w' (fun j => by simp [List.getElem?_drop]) (by
        rw [show (l.drop n).length = l.toArray.size - n by simp]; exact h5) (hq w' hC)
      rwa [show (l.drop n).length = l.toArray.size - n by simp] at this) n (List.range n) (Array.replicate l.toArray.size false) (Array.replicate n false) a { w with drawn := w.drawn + 1 }
    (by simp) List.nodup_range (fun i => by
      rw [List.mem_range]
      constructor
      · intro hi
        exact ⟨hi, getD_in (by simp; omega) (getD_replicate_false _ _)⟩
      · intro hi; exact hi.1)
    ⟨by simp, fun j oj _ hl => (by rw [getD_replicate_false] at hl; cases hl), fun t _ ht => getD_in (by simpa using ht) (getD_replicate_false _ _)⟩
    ⟨by simp, fun j hj d => by
      have : j < l.toArray.size := by omega
      simp [hj, show j < l.length by omega]⟩
    ⟨⟨_, (Below.refl _ _).drew⟩, rfl⟩ hlex
  rw [show n + (l.toArray.size - n) = l.toArray.size by omega] at this
  exact this
end
end Go.Proofs.YtehkfbgbpmfpmaaGreatDoor
