/- Pools in plain Lean: which are valid, what is taken and given; sets of small numbers as bits. -/
namespace Go.Proofs.YtoimmfcodflmkaaDoor

/-- Two ascending lists with the same members are one. -/
theorem asc_ext : ∀ {xs ys : List Int}, xs.Pairwise (· < ·) → ys.Pairwise (· < ·) → (∀ a, a ∈ xs ↔ a ∈ ys) → xs = ys
  | [], [], _, _, _ => rfl
  | [], y :: ys, _, _, h => by have := (h y).2 (by simp); simp at this
  | x :: xs, [], _, _, h => by have := (h x).1 (by simp); simp at this
  | x :: xs, y :: ys, hx, hy, h => by
    rw [List.pairwise_cons] at hx hy
    have e : x = y := by
      have h1 := (h x).1 (by simp)
      have h2 := (h y).2 (by simp)
      simp only [List.mem_cons] at h1 h2
      rcases h1 with h1 | h1
      · exact h1
      · rcases h2 with h2 | h2
        · exact h2.symm
        · have := hy.1 x h1; have := hx.1 y h2; omega
    subst e
    have := asc_ext hx.2 hy.2 (fun a => by
      constructor
      · intro ha
        have h1 := (h a).1 (by simp [ha])
        simp only [List.mem_cons] at h1
        rcases h1 with rfl | h1
        · have := hx.1 a ha; omega
        · exact h1
      · intro ha
        have h1 := (h a).2 (by simp [ha])
        simp only [List.mem_cons] at h1
        rcases h1 with rfl | h1
        · have := hy.1 a ha; omega
        · exact h1)
    rw [this]

/-- 0, 1, .. below n. -/
def upto (n : Nat) : List Int := (List.range n).map fun (i : Nat) => (i : Int)
theorem upto_succ (n : Nat) : upto (n + 1) = upto n ++ [(n : Int)] := by simp [upto, List.range_succ]
theorem upto_zero : upto 0 = [] := rfl
theorem upto_len (n : Nat) : (upto n).length = n := by simp [upto]
theorem mem_upto (n : Nat) (a : Int) : a ∈ upto n ↔ 0 ≤ a ∧ a < n := by
  simp only [upto, List.mem_map, List.mem_range]
  constructor
  · rintro ⟨i, h, rfl⟩; omega
  · rintro ⟨h0, h1⟩; exact ⟨a.toNat, by omega, by omega⟩
theorem upto_asc (n : Nat) : (upto n).Pairwise (· < ·) := by
  induction n with
  | zero => simp [upto]
  | succ n ih =>
    rw [upto_succ, List.pairwise_append]
    refine ⟨ih, by simp, fun a ha b hb => ?_⟩
    rw [mem_upto] at ha
    simp at hb
    omega
theorem upto_at (n k : Nat) (h : k < n) : (upto n)[k]?.getD 0 = (k : Int) := by simp [upto, h]

/-- The first error of a list of descriptors, from number k on. -/
def ckP (s : Int) (xs : List Int) (k : Nat) : Nat → Int × Int
  | 0 => (0, 0)
  | m + 1 => if xs[k]?.getD 0 < 0 ∨ s ≤ xs[k]?.getD 0 then (2, (k : Int)) else if 0 < k ∧ xs[k]?.getD 0 ≤ xs[k - 1]?.getD 0 then (8, (k : Int)) else ckP s xs (k + 1) m
/-- The first error of a pool, and the number of its descriptor. -/
def chkP (s : Int) (xs : List Int) : Int × Int := if s < 1 ∨ 32 < s then (2, 0) else ckP s xs 0 xs.length
structure OkP (s : Int) (xs : List Int) : Prop where
  lo : 1 ≤ s
  hi : s ≤ 32
  rng : ∀ x ∈ xs, 0 ≤ x ∧ x < s
  asc : xs.Pairwise (· < ·)

theorem ckP_ok (s : Int) (xs : List Int) : ∀ (m k : Nat), k + m = xs.length → (ckP s xs k m).1 = 0 →
    (∀ i, k ≤ i → i < xs.length → 0 ≤ xs[i]?.getD 0 ∧ xs[i]?.getD 0 < s ∧ (0 < i → xs[i - 1]?.getD 0 < xs[i]?.getD 0))
  | 0, k, h, _, i, h1, h2 => by omega
  | m + 1, k, h, h0, i, h1, h2 => by
    unfold ckP at h0
    split at h0
    · simp at h0
    · split at h0
      · simp at h0
      · rename_i g1 g2
        by_cases e : i = k
        · subst e; omega
        · exact ckP_ok s xs m (k + 1) (by omega) h0 i (by omega) h2
theorem asc_of_step (xs : List Int) (h : ∀ i, i < xs.length → 0 < i → xs[i - 1]?.getD 0 < xs[i]?.getD 0) : xs.Pairwise (· < ·) := by
  rw [List.pairwise_iff_getElem]
  intro i j hi hj hij
  have key : ∀ d, (hd : i + d + 1 < xs.length) → xs[i] < xs[i + d + 1] := by
    intro d
    induction d with
    | zero =>
      intro hd
      have := h (i + 1) hd (by omega)
      simpa [List.getElem?_eq_getElem, hi, hd] using this
    | succ d ih =>
      intro hd
      have h1 := ih (by omega)
      have h2 := h (i + d + 2) hd (by omega)
      have h3 : xs[i + d + 1]?.getD 0 = xs[i + d + 1] := by simp [List.getElem?_eq_getElem (show i + d + 1 < xs.length by omega)]
      have h4 : xs[i + d + 2]?.getD 0 = xs[i + (d + 1) + 1] := by
        show xs[i + (d + 1) + 1]?.getD 0 = _
        rw [List.getElem?_eq_getElem hd]; rfl
      rw [h4, show i + d + 2 - 1 = i + d + 1 by omega, h3] at h2
      omega
  have := key (j - i - 1) (by omega)
  have e : i + (j - i - 1) + 1 = j := by omega
  simpa only [e] using this
theorem chkP_ok {s : Int} {xs : List Int} (h : (chkP s xs).1 = 0) : OkP s xs := by
  unfold chkP at h
  split at h
  · simp at h
  · have := ckP_ok s xs xs.length 0 (by omega) h
    refine ⟨by omega, by omega, ?_, asc_of_step xs fun i h1 h2 => (this i (by omega) h1).2.2 h2⟩
    intro x hx
    obtain ⟨i, hi, rfl⟩ := List.getElem_of_mem hx
    have h2 := this i (by omega) hi
    rw [List.getElem?_eq_getElem hi] at h2
    simp at h2
    exact ⟨h2.1, h2.2.1⟩
theorem ckP_of (s : Int) (xs : List Int) (hr : ∀ x ∈ xs, 0 ≤ x ∧ x < s) (ha : xs.Pairwise (· < ·)) : ∀ (m k : Nat), k + m = xs.length → ckP s xs k m = (0, 0)
  | 0, _, _ => rfl
  | m + 1, k, h => by
    have hk : k < xs.length := by omega
    have e : xs[k]?.getD 0 = xs[k] := by simp [List.getElem?_eq_getElem hk]
    have h1 := hr _ (List.getElem_mem hk)
    unfold ckP
    rw [e, if_neg (by omega), if_neg]
    · exact ckP_of s xs hr ha m (k + 1) (by omega)
    · rintro ⟨h0, h2⟩
      have e2 : xs[k - 1]?.getD 0 = xs[k - 1] := by simp [List.getElem?_eq_getElem (show k - 1 < xs.length by omega)]
      have := List.pairwise_iff_getElem.1 ha (k - 1) k (by omega) hk (by omega)
      omega
theorem OkP.chk {s : Int} {xs : List Int} (h : OkP s xs) : chkP s xs = (0, 0) := by
  unfold chkP
  have := h.lo; have := h.hi
  rw [if_neg (by omega)]
  exact ckP_of s xs h.rng h.asc _ 0 (by omega)
theorem OkP.len {s : Int} {xs : List Int} (h : OkP s xs) : (xs.length : Int) ≤ s := by
  have key : ∀ (l : List Int) (a b : Int), l.Pairwise (· < ·) → (∀ x ∈ l, a ≤ x ∧ x < b) → a ≤ b → (l.length : Int) ≤ b - a := by
    intro l
    induction l with
    | nil => intro a b _ _ h; simp; omega
    | cons x l ih =>
      intro a b hp hr hab
      rw [List.pairwise_cons] at hp
      have hx := hr x (by simp)
      have := ih (x + 1) b hp.2 (fun y hy => ⟨by have := hp.1 y hy; omega, (hr y (by simp [hy])).2⟩) (by omega)
      simp only [List.length_cons]
      omega
  have := key xs 0 s h.asc h.rng (by have := h.lo; omega)
  omega
theorem OkP.tail {s x : Int} {xs : List Int} (h : OkP s (x :: xs)) : OkP s xs :=
  ⟨h.lo, h.hi, fun y hy => h.rng y (by simp [hy]), (List.pairwise_cons.1 h.asc).2⟩

/-- What is left of a set once d was given back; what is taken. -/
def giveP (s : Int) (xs : List Int) (d : Int) : List Int := (upto s.toNat).filter fun i => i == d || xs.contains i
def takenP (s : Int) (xs : List Int) : List Int := (upto s.toNat).filter fun i => !xs.contains i
theorem OkP.give {s : Int} {xs : List Int} (h : OkP s xs) (d : Int) : OkP s (giveP s xs d) := by
  refine ⟨h.lo, h.hi, fun x hx => ?_, (upto_asc _).filter _⟩
  simp only [giveP, List.mem_filter, mem_upto] at hx
  have := h.lo
  omega
theorem OkP.same {s : Int} {xs : List Int} (h : OkP s xs) : (upto s.toNat).filter (fun i => xs.contains i) = xs := by
  refine asc_ext ((upto_asc _).filter _) h.asc fun a => ?_
  simp only [List.mem_filter, mem_upto, List.contains_iff_mem]
  constructor
  · exact fun h => h.2
  · intro ha; have := h.rng a ha; have := h.lo; exact ⟨by omega, ha⟩
theorem OkP.back {s x : Int} {xs : List Int} (h : OkP s (x :: xs)) : giveP s xs x = x :: xs := by
  have := h.same
  unfold giveP
  rw [← this]
  simp only [List.contains_cons]
theorem OkP.adds {s : Int} {xs : List Int} (h : OkP s xs) : (xs.length : Int) + (takenP s xs).length = s := by
  have key : ∀ (l : List Int) (p : Int → Bool), (l.filter p).length + (l.filter fun i => !p i).length = l.length := by
    intro l p
    induction l with
    | nil => rfl
    | cons a l ih => cases h : p a <;> simp [h] <;> omega
  have h1 := key (upto s.toNat) (fun i => xs.contains i)
  rw [h.same, upto_len] at h1
  have := h.lo
  unfold takenP
  omega
/-- A set of small numbers as bits. -/
def mset (xs : List Int) : Nat := xs.foldl (fun m d => m ||| 2 ^ d.toNat) 0
theorem mset_nil : mset [] = 0 := rfl
theorem mset_snoc (xs : List Int) (d : Int) : mset (xs ++ [d]) = mset xs ||| 2 ^ d.toNat := by simp [mset]
theorem fold_test (xs : List Int) (m i : Nat) : (xs.foldl (fun m d => m ||| 2 ^ d.toNat) m).testBit i = (m.testBit i || xs.any fun d => d.toNat == i) := by
  induction xs generalizing m with
  | nil => simp
  | cons x xs ih =>
    rw [List.foldl_cons, ih, Nat.testBit_or, Nat.testBit_two_pow, List.any_cons, Bool.or_assoc]
    congr 1
theorem mset_test (xs : List Int) (i : Nat) : (mset xs).testBit i = xs.any fun d => d.toNat == i := by
  unfold mset
  rw [fold_test]
  simp
theorem mset_has (xs : List Int) (h : ∀ x ∈ xs, 0 ≤ x) (i : Int) (hi : 0 ≤ i) : (mset xs).testBit i.toNat = xs.contains i := by
  rw [mset_test, Bool.eq_iff_iff, List.any_eq_true, List.contains_iff_mem]
  constructor
  · rintro ⟨x, hx, he⟩
    have := h x hx
    simp at he
    obtain rfl : x = i := by omega
    exact hx
  · exact fun hx => ⟨i, hx, by simp⟩
theorem fold_lt (n : Nat) (xs : List Int) (m : Nat) (hm : m < 2 ^ n) (h : ∀ x ∈ xs, x.toNat < n) : xs.foldl (fun m d => m ||| 2 ^ d.toNat) m < 2 ^ n := by
  induction xs generalizing m with
  | nil => exact hm
  | cons x xs ih =>
    rw [List.foldl_cons]
    exact ih _ (Nat.or_lt_two_pow hm (Nat.pow_lt_pow_right (by omega) (h x (by simp)))) fun y hy => h y (by simp [hy])
theorem mset_lt (n : Nat) (xs : List Int) (h : ∀ x ∈ xs, x.toNat < n) : mset xs < 2 ^ n := fold_lt n xs 0 (Nat.two_pow_pos n) h
theorem test_div (m i : Nat) : m.testBit i = decide (m / 2 ^ i % 2 = 1) := by
  rw [Nat.testBit_eq_decide_div_mod_eq]
end Go.Proofs.YtoimmfcodflmkaaDoor
