/- Counts and places of roles, in plain Lean. -/
import Derived.Test.YtfacdnpgidnafaaDoorB4
import Derived.Test.YtfacdnpgidnafaaDoorB5
namespace Go.Proofs.YtfacdnpgidnafaaDoor

theorem take_snoc (xs : List Int) (k : Nat) (h : k < xs.length) : xs.take (k + 1) = xs.take k ++ [xs[k]?.getD 0] := by
  rw [List.take_succ_eq_append_getElem h, List.getElem?_eq_getElem h]; rfl
theorem cnt_count (xs : List Int) (hv : ∀ x ∈ xs, isR x = true) (k : Nat) (hk : k ≤ xs.length) (j : Nat) (hj : j < 8) : (cntTo xs k)[j]?.getD 0 = ((xs.take k).count (j : Int) : Int) := by
  induction k with
  | zero =>
    simp only [cntTo, List.take_zero, List.count_nil]
    match j, hj with
    | 0, _ | 1, _ | 2, _ | 3, _ | 4, _ | 5, _ | 6, _ | 7, _ => rfl
  | succ k ih =>
    have hlt : k < xs.length := by omega
    have ih := ih (by omega)
    obtain ⟨b0, b8⟩ := isR_getD hv k
    rw [take_snoc xs k hlt, List.count_append, List.count_singleton]
    simp only [cntTo]
    have hlen := cntTo_len xs k
    generalize xs[k]?.getD 0 = x at *
    obtain ⟨x, rfl⟩ := Int.eq_ofNat_of_zero_le b0
    rw [Int.toNat_natCast, List.getElem?_set]
    by_cases hx : x = j
    · subst hx
      rw [if_pos rfl, if_pos (by omega)]
      simp only [Option.getD_some, ih]
      simp
    · rw [if_neg hx, ih]
      have : ((x : Int) == (j : Int)) = false := by simp; omega
      simp [this]
theorem of_count (xs : List Int) (r : Int) (k : Nat) (hk : k ≤ xs.length) : (ofTo xs r k).length = (xs.take k).count r := by
  induction k with
  | zero => simp [ofTo]
  | succ k ih =>
    have hlt : k < xs.length := by omega
    rw [take_snoc xs k hlt, List.count_append, List.count_singleton, ← ih (by omega)]
    by_cases h : (xs[k]?.getD 0 == r) = true
    · rw [ofTo_yes h, if_pos h]; simp
    · have h' : (xs[k]?.getD 0 == r) = false := by simpa using h
      rw [ofTo_no h', if_neg h]; rfl

/-- The counts of the first j roles together. -/
def sumC (xs : List Int) : Nat → Int
  | 0 => 0
  | j + 1 => sumC xs j + (xs.count (j : Int) : Int)
theorem sumC_eq (xs : List Int) (j : Nat) : sumC xs j = ((xs.filter fun x => decide (0 ≤ x) && decide (x < (j : Int))).length : Int) := by
  induction j with
  | zero =>
    have : (xs.filter fun x => decide (0 ≤ x) && decide (x < ((0 : Nat) : Int))) = [] := by
      rw [List.filter_eq_nil_iff]; intro x _; simp
    rw [this]; rfl
  | succ j ih =>
    simp only [sumC]
    rw [ih]
    clear ih
    induction xs with
    | nil => rfl
    | cons x xs ih =>
      simp only [List.filter_cons, List.count_cons]
      by_cases h1 : 0 ≤ x
      · by_cases h2 : x < (j : Int)
        · have h3 : x < ((j + 1 : Nat) : Int) := by omega
          have h4 : (x == (j : Int)) = false := by simp; omega
          simp only [h1, h2, h3, h4, decide_true, Bool.and_self, if_true, List.length_cons]
          simp at ih ⊢; omega
        · by_cases h5 : x = (j : Int)
          · subst h5
            have h3 : (j : Int) < ((j + 1 : Nat) : Int) := by omega
            simp only [h1, h2, h3, decide_true, decide_false, Bool.and_self, Bool.and_false, if_true, List.length_cons, beq_self_eq_true]
            simp at ih ⊢; omega
          · have h3 : ¬ x < ((j + 1 : Nat) : Int) := by omega
            have h4 : (x == (j : Int)) = false := by simp; omega
            simp only [h1, h2, h3, h4, decide_true, decide_false, Bool.and_false]
            simp at ih ⊢; omega
      · have h4 : (x == (j : Int)) = false := by simp; omega
        simp only [h1, h4, decide_false, Bool.false_and]
        simp at ih ⊢; omega
theorem sumC_all (xs : List Int) (hv : ∀ x ∈ xs, isR x = true) : sumC xs 8 = (xs.length : Int) := by
  rw [sumC_eq]
  congr 1
  rw [List.filter_eq_self.2]
  intro x hx
  have := isR_iff.1 (hv x hx)
  simp; omega
theorem sumC_bd (xs : List Int) (j : Nat) : 0 ≤ sumC xs j ∧ sumC xs j ≤ (xs.length : Int) := by
  rw [sumC_eq]
  have := List.length_filter_le (fun x => decide (0 ≤ x) && decide (x < (j : Int))) xs
  omega
theorem count_set (xs : List Int) (k : Nat) (h : k < xs.length) (t : Int) (j : Int) : (((xs.set k t).count j : Nat) : Int) = (xs.count j : Int) - (if j = xs[k]?.getD 0 then 1 else 0) + (if j = t then 1 else 0) := by
  rw [List.count_set h, List.getElem?_eq_getElem h, Option.getD_some]
  have hpos : xs[k] = j → 0 < xs.count j := fun e => List.count_pos_iff.2 (e ▸ List.getElem_mem h)
  by_cases h1 : j = xs[k]
  · have := hpos h1.symm
    have e1 : (xs[k] == j) = true := by simp [h1]
    by_cases h2 : j = t
    · have e2 : (t == j) = true := by simp [h2]
      rw [if_pos h1, if_pos h2, if_pos e1, if_pos e2]; omega
    · have e2 : ¬ (t == j) = true := by simp; omega
      rw [if_pos h1, if_neg h2, if_pos e1, if_neg e2]; omega
  · have e1 : ¬ (xs[k] == j) = true := by simp; omega
    by_cases h2 : j = t
    · have e2 : (t == j) = true := by simp [h2]
      rw [if_neg h1, if_pos h2, if_neg e1, if_pos e2]; omega
    · have e2 : ¬ (t == j) = true := by simp; omega
      rw [if_neg h1, if_neg h2, if_neg e1, if_neg e2]; omega
/-- The count of role j. -/
theorem cnt_all (xs : List Int) (hv : VL xs) (j : Nat) (hj : j < 8) : (cntTo xs xs.length)[j]?.getD 0 = (xs.count (j : Int) : Int) := by
  rw [cnt_count xs hv.2 xs.length (Nat.le_refl _) j hj, List.take_length]
theorem of_all (xs : List Int) (r : Int) : (ofTo xs r xs.length).length = xs.count r := by rw [of_count xs r xs.length (Nat.le_refl _), List.take_length]

/-! Two changes of different frames. -/
theorem swap_run {xs : List Int} (hv : VL xs) {i k : Nat} (hi : i < xs.length) (hk : k < xs.length) (hne : i ≠ k) (r s : Int) :
    ∃ ys e p q, runR xs [((i : Int), r), ((k : Int), s)] = (ys, e, p) ∧ runR xs [((k : Int), s), ((i : Int), r)] = (ys, e, q) := by
  have e1 : ∀ t : Int, (xs.set i t)[k]?.getD 0 = xs[k]?.getD 0 := fun t => by rw [List.getElem?_set, if_neg hne]
  have e2 : ∀ t : Int, (xs.set k t)[i]?.getD 0 = xs[i]?.getD 0 := fun t => by rw [List.getElem?_set, if_neg (Ne.symm hne)]
  rw [run_vl hv, run_vl hv]
  by_cases h1 : mayI (xs[i]?.getD 0) r = true
  · have a1 := setE_yes (xs := xs) hi h1
    by_cases h2 : mayI (xs[k]?.getD 0) s = true
    · have a2 := setE_yes (xs := xs) hk h2
      have b1 := setE_yes (xs := xs.set i r) (f := k) (r := s) (by simpa using hk) (by rw [e1]; exact h2)
      have b2 := setE_yes (xs := xs.set k s) (f := i) (r := r) (by simpa using hi) (by rw [e2]; exact h1)
      refine ⟨(xs.set i r).set k s, 0, 0, 0, ?_, ?_⟩
      · simp only [runL, a1, setL_yes a1, Int.toNat_natCast, b1, setL_yes b1, if_true]
      · simp only [runL, a2, setL_yes a2, Int.toNat_natCast, b2, setL_yes b2, if_true]
        rw [List.set_comm _ _ hne]
    · have h2' : mayI (xs[k]?.getD 0) s = false := by simpa using h2
      have a2 := setE_no (xs := xs) hk h2'
      have b1 := setE_no (xs := xs.set i r) (f := k) (r := s) (by simpa using hk) (by rw [e1]; exact h2')
      refine ⟨[], 14, 1, 0, ?_, ?_⟩
      · simp only [runL, a1, setL_yes a1, Int.toNat_natCast, b1, if_true]; rfl
      · simp only [runL, a2]; rfl
  · have h1' : mayI (xs[i]?.getD 0) r = false := by simpa using h1
    have a1 := setE_no (xs := xs) hi h1'
    by_cases h2 : mayI (xs[k]?.getD 0) s = true
    · have a2 := setE_yes (xs := xs) hk h2
      have b2 := setE_no (xs := xs.set k s) (f := i) (r := r) (by simpa using hi) (by rw [e2]; exact h1')
      refine ⟨[], 14, 0, 1, ?_, ?_⟩
      · simp only [runL, a1]; rfl
      · simp only [runL, a2, setL_yes a2, Int.toNat_natCast, b2, if_true]; rfl
    · have h2' : mayI (xs[k]?.getD 0) s = false := by simpa using h2
      have a2 := setE_no (xs := xs) hk h2'
      refine ⟨[], 14, 0, 0, ?_, ?_⟩
      · simp only [runL, a1]; rfl
      · simp only [runL, a2]; rfl
end Go.Proofs.YtfacdnpgidnafaaDoor
