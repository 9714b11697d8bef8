/- Sets of numbers as words of bits, and the ones of a word: plain laws, no program in sight. -/
import Derived.Test.YtpoilgfblhacaaaM
namespace Go.Proofs.Ytpoilgfblhacaaa

/-- The word of 64 (or n) bits of a set, from o on. -/
def wdn (S : Nat → Bool) (o : Nat) : Nat → Nat
  | 0 => 0
  | n + 1 => wdn S o n + bif S (o + n) then 2 ^ n else 0
theorem wdn_lt (S : Nat → Bool) (o : Nat) : ∀ n, wdn S o n < 2 ^ n
  | 0 => by simp [wdn]
  | n + 1 => by
    have h := wdn_lt S o n
    have e : 2 ^ (n + 1) = 2 ^ n + 2 ^ n := by rw [Nat.pow_succ]; omega
    unfold wdn
    cases S (o + n) <;> simp <;> omega
theorem wdn_bit (S : Nat → Bool) (o : Nat) : ∀ n i, (wdn S o n).testBit i = (decide (i < n) && S (o + i))
  | 0, i => by simp [wdn]
  | n + 1, i => by
    have h := wdn_lt S o n
    have ih := wdn_bit S o n i
    unfold wdn
    cases hs : S (o + n)
    · simp only [cond_false, Nat.add_zero, ih]
      by_cases hi : i < n
      · simp [hi, Nat.lt_succ_of_lt hi]
      · by_cases hn : i = n
        · subst hn; simp [hs]
        · have : ¬ i < n + 1 := by omega
          simp [hi, this]
    · simp only [cond_true]
      have e : wdn S o n + 2 ^ n = 2 ^ n * 1 + wdn S o n := by omega
      rw [e, Nat.testBit_two_pow_mul_add _ h, ih]
      by_cases hi : i < n
      · simp [hi, Nat.lt_succ_of_lt hi]
      · rw [if_neg hi]
        by_cases hn : i = n
        · subst hn; simp [hs]
        · have h1 : ¬ i < n + 1 := by omega
          have h2 : (1 : Nat).testBit (i - n) = false := by
            rw [show (1 : Nat) = 2 ^ 0 from rfl, Nat.testBit_two_pow]
            simp
            omega
          simp [h1, h2]
theorem wdn_congr {S T : Nat → Bool} {o n : Nat} (h : ∀ i, i < n → S (o + i) = T (o + i)) : wdn S o n = wdn T o n := by
  refine Nat.eq_of_testBit_eq fun i => ?_
  rw [wdn_bit, wdn_bit]
  by_cases hi : i < n
  · simp [hi, h i hi]
  · simp [hi]
def upS (S : Nat → Bool) (k : Nat) (b : Bool) : Nat → Bool := fun i => if i = k then b else S i
theorem wdn_or (S : Nat → Bool) (o n i : Nat) (hi : i < n) : wdn S o n ||| 2 ^ i = wdn (upS S (o + i) true) o n := by
  refine Nat.eq_of_testBit_eq fun j => ?_
  rw [Nat.testBit_or, wdn_bit, wdn_bit, Nat.testBit_two_pow]
  unfold upS
  by_cases h : j = i
  · subst h; simp [hi]
  · have h1 : ¬ i = j := fun e => h e.symm
    have h2 : ¬ o + j = o + i := by omega
    rw [if_neg h2]
    simp [h1]
theorem wdn_other (S : Nat → Bool) (o n k : Nat) (b : Bool) (h : k < o ∨ o + n ≤ k) : wdn (upS S k b) o n = wdn S o n := by
  refine wdn_congr fun i hi => ?_
  unfold upS
  rw [if_neg (by omega)]
/-- and-not -/
theorem wdn_clear (S : Nat → Bool) (o n i x : Nat) (hi : i < n) (hx : ∀ j, x.testBit j = (decide (j < n) && !decide (i = j))) : wdn S o n &&& x = wdn (upS S (o + i) false) o n := by
  refine Nat.eq_of_testBit_eq fun j => ?_
  rw [Nat.testBit_and, wdn_bit, wdn_bit, hx]
  unfold upS
  by_cases h : j = i
  · subst h; simp [hi]
  · have h1 : ¬ i = j := fun e => h e.symm
    have h2 : ¬ o + j = o + i := by omega
    rw [if_neg h2]
    by_cases hj : j < n <;> simp [hj, h1]
def cntS (S : Nat → Bool) (o : Nat) : Nat → Nat
  | 0 => 0
  | n + 1 => cntS S o n + bif S (o + n) then 1 else 0
theorem cntS_le (S : Nat → Bool) (o : Nat) : ∀ n, cntS S o n ≤ n
  | 0 => by simp [cntS]
  | n + 1 => by
    have := cntS_le S o n
    unfold cntS
    cases S (o + n) <;> simp <;> omega
theorem cntS_add (S : Nat → Bool) (o a : Nat) : ∀ b, cntS S o (a + b) = cntS S o a + cntS S (o + a) b
  | 0 => by simp [cntS]
  | b + 1 => by
    rw [← Nat.add_assoc]
    show cntS S o (a + b) + _ = cntS S o a + (cntS S (o + a) b + _)
    rw [cntS_add S o a b, Nat.add_assoc o a b]
    omega
theorem wdn_add (S : Nat → Bool) (o a : Nat) : ∀ b, wdn S o (a + b) = wdn S o a + 2 ^ a * wdn S (o + a) b
  | 0 => by simp [wdn]
  | b + 1 => by
    rw [← Nat.add_assoc]
    show wdn S o (a + b) + _ = wdn S o a + 2 ^ a * (wdn S (o + a) b + _)
    rw [wdn_add S o a b, Nat.mul_add, Nat.add_assoc o a b]
    cases S (o + (a + b)) <;> simp [Nat.pow_add] <;> omega
/-- The ones of a byte. -/
def pop8 (b : Nat) : Nat := b % 2 + b / 2 % 2 + b / 4 % 2 + b / 8 % 2 + b / 16 % 2 + b / 32 % 2 + b / 64 % 2 + b / 128 % 2
theorem pop_wdn8 (S : Nat → Bool) (o : Nat) : pop8 (wdn S o 8) = cntS S o 8 := by
  simp only [wdn, cntS, Nat.add_zero, Nat.zero_add]
  generalize S o = b0; generalize S (o + 1) = b1; generalize S (o + 2) = b2; generalize S (o + 3) = b3; generalize S (o + 4) = b4; generalize S (o + 5) = b5; generalize S (o + 6) = b6; generalize S (o + 7) = b7
  revert b0 b1 b2 b3 b4 b5 b6 b7
  decide +kernel
theorem and_byte (b c y z : Nat) (hb : b < 256) (hc : c < 256) : (b + 256 * y) &&& (c + 256 * z) = (b &&& c) + 256 * (y &&& z) := by
  have h1 := Nat.and_mod_two_pow (a := b + 256 * y) (b := c + 256 * z) (n := 8)
  have h2 := Nat.and_div_two_pow (a := b + 256 * y) (b := c + 256 * z) (n := 8)
  rw [show (2 : Nat) ^ 8 = 256 from rfl] at h1 h2
  rw [show (b + 256 * y) % 256 = b by omega, show (c + 256 * z) % 256 = c by omega] at h1
  rw [show (b + 256 * y) / 256 = y by omega, show (c + 256 * z) / 256 = z by omega] at h2
  omega
def st1 (m x : Nat) : Nat := (x / 2 &&& m) + (x &&& m)
def st2 (m x : Nat) : Nat := (x / 4 &&& m) + (x &&& m)
def st3 (m x : Nat) : Nat := (x / 16 + x) &&& m
theorem t1 : ∀ b : Fin 256, ∀ c : Fin 2, (b.1 / 2 + 128 * c.1) &&& 85 = b.1 / 2 &&& 85 := by decide +kernel
theorem t2 : ∀ b : Fin 256, ∀ c : Fin 4, (b.1 / 4 + 64 * c.1) &&& 51 = b.1 / 4 &&& 51 := by decide +kernel
theorem t4 : ∀ b : Fin 256, st1 85 b.1 < 256 ∧ st2 51 (st1 85 b.1) < 256 ∧ st2 51 (st1 85 b.1) % 16 ≤ 4 ∧ st2 51 (st1 85 b.1) / 16 ≤ 4 ∧ st3 15 (st2 51 (st1 85 b.1)) = pop8 b.1 ∧ pop8 b.1 ≤ 8 := by decide +kernel
theorem t3 : ∀ b : Fin 256, ∀ c : Fin 5, b.1 % 16 ≤ 4 → b.1 / 16 ≤ 4 → (b.1 / 16 + b.1 + 16 * c.1) &&& 15 = (b.1 / 16 + b.1) &&& 15 := by decide +kernel
theorem st1_byte (b y m : Nat) (hb : b < 256) : st1 (85 + 256 * m) (b + 256 * y) = st1 85 b + 256 * st1 m y := by
  unfold st1
  rw [show (b + 256 * y) / 2 = (b / 2 + 128 * (y % 2)) + 256 * (y / 2) by omega, and_byte _ _ _ _ (by omega) (by omega), and_byte _ _ _ _ hb (by omega)]
  have := t1 ⟨b, hb⟩ ⟨y % 2, by omega⟩
  simp only at this
  rw [this]
  omega
theorem st2_byte (b y m : Nat) (hb : b < 256) : st2 (51 + 256 * m) (b + 256 * y) = st2 51 b + 256 * st2 m y := by
  unfold st2
  rw [show (b + 256 * y) / 4 = (b / 4 + 64 * (y % 4)) + 256 * (y / 4) by omega, and_byte _ _ _ _ (by omega) (by omega), and_byte _ _ _ _ hb (by omega)]
  have := t2 ⟨b, hb⟩ ⟨y % 4, by omega⟩
  simp only at this
  rw [this]
  omega
theorem st3_byte (b y m : Nat) (hb : b < 256) (h1 : b % 16 ≤ 4) (h2 : b / 16 ≤ 4) (hy : y % 16 ≤ 4) : st3 (15 + 256 * m) (b + 256 * y) = st3 15 b + 256 * st3 m y := by
  unfold st3
  rw [show (b + 256 * y) / 16 + (b + 256 * y) = (b / 16 + b + 16 * (y % 16)) + 256 * (y / 16 + y) by omega, and_byte _ _ _ _ (by omega) (by omega)]
  have := t3 ⟨b, hb⟩ ⟨y % 16, by omega⟩ h1 h2
  simp only at this
  rw [this]
/-- The three steps on numbers of k bytes. -/
def rep (d : Nat) : Nat → Nat
  | 0 => 0
  | k + 1 => d + 256 * rep d k
def bts (x : Nat) : Nat → List Nat
  | 0 => []
  | k + 1 => x % 256 :: bts (x / 256) k
def unb : List Nat → Nat
  | [] => 0
  | b :: l => b + 256 * unb l
theorem unb_bts : ∀ k x, x < 256 ^ k → unb (bts x k) = x
  | 0, x, h => by simp at h; subst h; rfl
  | k + 1, x, h => by
    have := unb_bts k (x / 256) (by rw [Nat.div_lt_iff_lt_mul (by omega)]; rw [Nat.pow_succ] at h; exact h)
    simp only [bts, unb, this]
    omega
theorem st12 : ∀ k x, x < 256 ^ k → (∀ m, m = rep 85 k → ∀ n, n = rep 51 k → st2 n (st1 m x) = unb ((bts x k).map fun b => st2 51 (st1 85 b)))
  | 0, x, h, m, hm, n, hn => by simp at h; subst h hm hn; simp [st1, st2, rep, bts, unb]
  | k + 1, x, h, m, hm, n, hn => by
    have h1 := Nat.div_add_mod x 256
    have hb : x % 256 < 256 := Nat.mod_lt _ (by omega)
    have ih := st12 k (x / 256) (by rw [Nat.div_lt_iff_lt_mul (by omega)]; rw [Nat.pow_succ] at h; exact h) _ rfl _ rfl
    have e : st1 m x = st1 85 (x % 256) + 256 * st1 (rep 85 k) (x / 256) := by
      rw [hm, ← st1_byte _ _ _ hb]; simp only [rep]; congr 1; omega
    have t := (t4 ⟨x % 256, hb⟩).1
    rw [e, hn]
    simp only [rep]
    rw [st2_byte _ _ _ t, ih]
    simp only [bts, List.map_cons, unb]
theorem bts_lt : ∀ k x, ∀ b ∈ bts x k, b < 256
  | 0, x, b, h => by simp [bts] at h
  | k + 1, x, b, h => by
    simp only [bts, List.mem_cons] at h
    rcases h with rfl | h
    · exact Nat.mod_lt _ (by omega)
    · exact bts_lt k _ b h
theorem st3_all : ∀ (l : List Nat), (∀ b ∈ l, b < 256 ∧ b % 16 ≤ 4 ∧ b / 16 ≤ 4) → st3 (rep 15 l.length) (unb l) = unb (l.map (st3 15)) ∧ unb l % 16 ≤ 4
  | [], _ => by simp [st3, rep, unb]
  | b :: l, h => by
    obtain ⟨h1, h2, h3⟩ := h b (by simp)
    obtain ⟨i1, i2⟩ := st3_all l (fun c hc => h c (by simp [hc]))
    simp only [List.length_cons, rep, unb, List.map_cons]
    rw [st3_byte _ _ _ h1 h2 h3 i2, i1]
    exact ⟨rfl, by omega⟩
theorem pops (x : Nat) (hx : x < 2 ^ 64) : st3 (rep 15 8) (st2 (rep 51 8) (st1 (rep 85 8) x)) = unb ((bts x 8).map pop8) := by
  rw [st12 8 x (by rw [show (256 : Nat) ^ 8 = 2 ^ 64 from rfl]; exact hx) _ rfl _ rfl]
  have hl : ((bts x 8).map fun b => st2 51 (st1 85 b)).length = 8 := by simp [bts]
  have := st3_all ((bts x 8).map fun b => st2 51 (st1 85 b)) (by
    intro b hb
    obtain ⟨c, hc, rfl⟩ := List.mem_map.1 hb
    have := t4 ⟨c, bts_lt 8 x c hc⟩
    exact ⟨this.2.1, this.2.2.1, this.2.2.2.1⟩)
  rw [hl] at this
  rw [this.1, List.map_map]
  congr 1
  refine List.map_congr_left fun c hc => ?_
  exact (t4 ⟨c, bts_lt 8 x c hc⟩).2.2.2.2.1
theorem ones_fin {p0 p1 p2 p3 p4 p5 p6 p7 X Y Z : Nat} (c0 : p0 ≤ 8) (c1 : p1 ≤ 8) (c2 : p2 ≤ 8) (c3 : p3 ≤ 8) (c4 : p4 ≤ 8) (c5 : p5 ≤ 8) (c6 : p6 ≤ 8) (c7 : p7 ≤ 8)
    (hX : X = p0 + 256 * (p1 + 256 * (p2 + 256 * (p3 + 256 * (p4 + 256 * (p5 + 256 * (p6 + 256 * p7))))))) (hY : Y = X + X / 256) (hZ : Z = Y + Y / 65536) : (Z + Z / 4294967296) % 128 = p0 + (p1 + (p2 + (p3 + (p4 + (p5 + (p6 + p7)))))) := by
  have d1 : X / 256 = p1 + 256 * (p2 + 256 * (p3 + 256 * (p4 + 256 * (p5 + 256 * (p6 + 256 * p7))))) := by omega
  rw [d1] at hY
  have d2 : Y / 65536 = (p2 + p3) + 256 * ((p3 + p4) + 256 * ((p4 + p5) + 256 * ((p5 + p6) + 256 * ((p6 + p7) + 256 * p7)))) := by omega
  rw [d2] at hZ
  have d3 : Z / 4294967296 = (p4 + p5 + (p6 + p7)) + 256 * ((p5 + p6) + p7 + 256 * ((p6 + p7) + 256 * p7)) := by omega
  rw [d3]
  clear d1 d2 d3
  omega
theorem ones_bd {p0 p1 p2 p3 p4 p5 p6 p7 X : Nat} (c0 : p0 ≤ 8) (c1 : p1 ≤ 8) (c2 : p2 ≤ 8) (c3 : p3 ≤ 8) (c4 : p4 ≤ 8) (c5 : p5 ≤ 8) (c6 : p6 ≤ 8) (c7 : p7 ≤ 8)
    (hX : X = p0 + 256 * (p1 + 256 * (p2 + 256 * (p3 + 256 * (p4 + 256 * (p5 + 256 * (p6 + 256 * p7))))))) : X ≤ 578721382704613384 := by omega
theorem eight (l : List Nat) (hl : l.length = 8) (hp : ∀ p ∈ l, p ≤ 8) {X Y Z : Nat} (hX : X = unb l) (hY : Y = X + X / 256) (hZ : Z = Y + Y / 65536) : X ≤ 578721382704613384 ∧ (Z + Z / 4294967296) % 128 = l.sum := by
  match l, hl with
  | [p0, p1, p2, p3, p4, p5, p6, p7], _ =>
    simp only [List.mem_cons, forall_eq_or_imp, List.not_mem_nil, false_implies, implies_true, and_true] at hp
    obtain ⟨c0, c1, c2, c3, c4, c5, c6, c7⟩ := hp
    simp only [unb, Nat.mul_zero, Nat.add_zero] at hX
    refine ⟨ones_bd c0 c1 c2 c3 c4 c5 c6 c7 hX, ?_⟩
    rw [ones_fin c0 c1 c2 c3 c4 c5 c6 c7 hX hY hZ]
    simp only [List.sum_cons, List.sum_nil, Nat.add_zero]
/-- The three steps of OnesCount64, in natural numbers. -/
def ones3 (x : Nat) : Nat := st3 1085102592571150095 (st2 3689348814741910323 (st1 6148914691236517205 x))
theorem ones3_eq (x : Nat) (hx : x < 2 ^ 64) : ones3 x = unb ((bts x 8).map pop8) := by
  have h := pops x hx
  rw [show rep 15 8 = 1085102592571150095 from rfl, show rep 51 8 = 3689348814741910323 from rfl, show rep 85 8 = 6148914691236517205 from rfl] at h
  exact h
theorem ones_bound (x : Nat) (hx : x < 2 ^ 64) {X Y Z : Nat} (hX : X = ones3 x) (hY : Y = X + X / 256) (hZ : Z = Y + Y / 65536) : X ≤ 578721382704613384 ∧ (Z + Z / 4294967296) % 128 = ((bts x 8).map pop8).sum := by
  rw [ones3_eq x hx] at hX
  refine eight _ (by simp [bts]) ?_ hX hY hZ
  intro p hp
  obtain ⟨c, hc, rfl⟩ := List.mem_map.1 hp
  exact (t4 ⟨c, bts_lt 8 x c hc⟩).2.2.2.2.2
theorem bts_wdn (S : Nat → Bool) : ∀ k o, ((bts (wdn S o (8 * k)) k).map pop8).sum = cntS S o (8 * k)
  | 0, o => rfl
  | k + 1, o => by
    have h := wdn_lt S o 8
    rw [show (2 : Nat) ^ 8 = 256 from rfl] at h
    rw [show 8 * (k + 1) = 8 + 8 * k by omega, wdn_add, cntS_add]
    simp only [bts, List.map_cons, List.sum_cons]
    rw [show (wdn S o 8 + 2 ^ 8 * wdn S (o + 8) (8 * k)) % 256 = wdn S o 8 by rw [show (2 : Nat) ^ 8 = 256 from rfl]; omega, show (wdn S o 8 + 2 ^ 8 * wdn S (o + 8) (8 * k)) / 256 = wdn S (o + 8) (8 * k) by rw [show (2 : Nat) ^ 8 = 256 from rfl]; omega, bts_wdn S k (o + 8), pop_wdn8]
theorem ones_wdn (S : Nat → Bool) (o : Nat) {X Y Z : Nat} (hX : X = ones3 (wdn S o 64)) (hY : Y = X + X / 256) (hZ : Z = Y + Y / 65536) : X ≤ 578721382704613384 ∧ (Z + Z / 4294967296) % 128 = cntS S o 64 := by
  obtain ⟨h1, h2⟩ := ones_bound _ (wdn_lt S o 64) hX hY hZ
  refine ⟨h1, ?_⟩
  rw [h2]
  exact bts_wdn S 8 o
end Go.Proofs.Ytpoilgfblhacaaa
