/- Package bitmap, for sets of one word: words, mask; math/bits.TrailingZeros64. -/
import Derived.Test.YtoimmfcodflmkaaDoorT3
namespace Go.Proofs.YtoimmfcodflmkaaDoor
open Go.RowKit
set_option linter.unusedVariables false

theorem words_any (n : Nat) (h1 : 1 ≤ n) (h2 : n ≤ 64) (w : World) : Calls Tryd.prog 44 #[.int .i64 (n : Int)] w fun e w' => e = .returned (.int .i64 1) ∧ w = w' := by
  have h3 : (n : Int) ≤ 64 := by omega
  go_enter Tryd.func44, Tryd.ntmps44
  go_wp2
  go_ret
  exact ⟨ret_int (by omega), rfl⟩

theorem mask_all : ∀ t : Fin 33, ∀ f : Fin 33, f.1 < t.1 → bits .and .u64 (IntKind.u64.wrap (18446744073709551615 * 2 ^ f.1)) (18446744073709551615 / 2 ^ (64 - t.1)) = ((2 ^ t.1 - 2 ^ f.1 : Nat) : Int) := by decide +kernel
set_option maxHeartbeats 1000000 in
theorem mask_any (f t : Nat) (ht : t ≤ 32) (hlt : f < t) (w : World) : Calls Tryd.prog 47 #[.int .i64 0, .int .i64 (f : Int), .int .i64 (t : Int)] w fun e w' => e = .returned (.int .u64 ((2 ^ t - 2 ^ f : Nat) : Int)) ∧ w = w' := by
  have h3 : (t : Int) ≤ 32 := by omega
  have h4 : decide ((t : Int) ≤ (f : Int)) = false := by simp; omega
  have h5 : (t ≤ f) = False := by simp; omega
  have HM := Lib.hid (mask_all ⟨t, by omega⟩ ⟨f, by omega⟩ hlt)
  go_enter Tryd.func47, Tryd.ntmps47
  go_wp2
  go_ret
  refine ⟨?_, rfl⟩
  rw [← HM.out]
  rfl

/-- The lowest bit alone. -/
theorem and_neg (x i : Nat) (hx : x < 2 ^ 64) (hi : x.testBit i = true) (hlow : ∀ j, j < i → x.testBit j = false) : x &&& (2 ^ 64 - x) = 2 ^ i := by
  have hi64 : i < 64 := by
    refine Decidable.byContradiction fun h => ?_
    have : x.testBit i = false := Nat.testBit_lt_two_pow (Nat.lt_of_lt_of_le hx (Nat.pow_le_pow_right (by omega) (by omega)))
    rw [hi] at this; cases this
  have hm0 : x % 2 ^ i = 0 := by
    refine Nat.eq_of_testBit_eq fun j => ?_
    rw [Nat.testBit_mod_two_pow, Nat.zero_testBit]
    by_cases h : j < i
    · simp [hlow j h]
    · simp [h]
  have hodd : x / 2 ^ i % 2 = 1 := by rw [test_div] at hi; simpa using hi
  obtain ⟨k, hk⟩ : ∃ k, x = 2 ^ (i + 1) * k + 2 ^ i := by
    refine ⟨x / 2 ^ i / 2, ?_⟩
    have h1 := Nat.div_add_mod x (2 ^ i)
    have h2 : x / 2 ^ i = 2 * (x / 2 ^ i / 2) + 1 := by omega
    have h3 : 2 ^ i * (x / 2 ^ i) = 2 ^ i * (2 * (x / 2 ^ i / 2)) + 2 ^ i := by
      conv => lhs; rw [h2]
      rw [Nat.mul_add, Nat.mul_one]
    rw [Nat.pow_succ, Nat.mul_assoc]
    omega
  have hp : 0 < 2 ^ i := Nat.two_pow_pos i
  have hp2 : 2 ^ i < 2 ^ (i + 1) := Nat.pow_lt_pow_right (by omega) (by omega)
  have hx1 : x - 1 = 2 ^ (i + 1) * k + (2 ^ i - 1) := by omega
  refine Nat.eq_of_testBit_eq fun j => ?_
  rw [Nat.testBit_and, show 2 ^ 64 - x = 2 ^ 64 - ((x - 1) + 1) by omega, Nat.testBit_two_pow_sub_succ (by omega), Nat.testBit_two_pow]
  by_cases h1 : j < i
  · rw [hlow j h1]; simp; omega
  · by_cases h2 : j = i
    · subst h2
      rw [hi, hx1, Nat.testBit_two_pow_mul_add _ (by omega), if_pos (by omega), Nat.testBit_two_pow_sub_one]
      simp [hi64]
    · have e1 : x.testBit j = k.testBit (j - (i + 1)) := by
        rw [hk, Nat.testBit_two_pow_mul_add _ hp2, if_neg (by omega)]
      have e2 : (x - 1).testBit j = k.testBit (j - (i + 1)) := by
        rw [hx1, Nat.testBit_two_pow_mul_add _ (by omega), if_neg (by omega)]
      rw [e1, e2]
      cases k.testBit (j - (i + 1)) <;> simp <;> omega

/-- The cells of the laid table. -/
def tab64 : List Int := [0, 1, 56, 2, 57, 49, 28, 3, 61, 58, 42, 50, 38, 29, 17, 4, 62, 47, 59, 36, 45, 43, 51, 22, 53, 39, 33, 30, 24, 18, 12, 5, 63, 55, 48, 27, 60, 41, 37, 16, 46, 35, 44, 21, 52, 32, 23, 11, 54, 26, 40, 15, 34, 20, 31, 10, 25, 14, 19, 9, 13, 8, 7, 6]
def Laid (W : World) : Prop := ∀ j, j < 64 → W.cell? ⟨0, j, none⟩ = some (.int .u8 (tab64[j]?.getD 0))
theorem tab_all : ∀ i : Fin 64, (2 ^ i.1 * 285870213051353865 % 18446744073709551616) / 288230376151711744 < 64 ∧ tab64[(2 ^ i.1 * 285870213051353865 % 18446744073709551616) / 288230376151711744]?.getD 0 = (i.1 : Int) := by decide +kernel
theorem Laid.below {w w' : World} (h : Laid w) (hb : Below w.heap.size w w') (h0 : 0 < w.heap.size) : Laid w' := fun j hj => (hb.cell (p := ⟨0, j, none⟩) h0).trans (h j hj)

set_option maxHeartbeats 1000000 in
theorem tz_any (x i : Nat) (hx : x < 18446744073709551616) (hi : x.testBit i = true) (hlow : ∀ j, j < i → x.testBit j = false) (w : World) (hL : Laid w) : Calls Tryd.prog 48 #[.int .u64 (x : Int)] w fun e w' => e = .returned (.int .i64 (i : Int)) ∧ w = w' := by
  have h0 : x ≠ 0 := by rintro rfl; simp at hi
  have hi64 : i < 64 := by
    refine Decidable.byContradiction fun h => ?_
    have : x.testBit i = false := Nat.testBit_lt_two_pow (Nat.lt_of_lt_of_le hx (Nat.pow_le_pow_right (n := 2) (i := 64) (by omega) (by omega)))
    rw [hi] at this; cases this
  have hz : ((x : Int) == 0) = false := by simp; omega
  have hz2 : (x = 0) = False := by simp; omega
  obtain ⟨j, hj⟩ : ∃ j, (2 ^ i * 285870213051353865 % 18446744073709551616) / 288230376151711744 = j := ⟨_, rfl⟩
  obtain ⟨t1, t2⟩ := tab_all ⟨i, hi64⟩
  simp only [hj] at t1 t2
  have hcell := hL j t1
  rw [t2] at hcell
  have hand := and_neg x i hx hi hlow
  have hix : IntKind.u64.wrap (bits .and .u64 (x : Int) (IntKind.u64.wrap (-(x : Int))) * 285870213051353865) / 288230376151711744 = (j : Int) := by
    rw [show IntKind.u64.wrap (-(x : Int)) = ((18446744073709551616 - x : Nat) : Int) by rw [IntKind.wrap_u64]; omega, bits_and_u64_nat _ _ hx (by omega), show (18446744073709551616 : Nat) = 2 ^ 64 from rfl, hand, IntKind.wrap_u64, ← hj]
    generalize 2 ^ i = y
    omega
  clear hL t2 hj hand hi hlow h0
  go_enter Tryd.func48, Tryd.ntmps48
  go_wp2
  go_ret
  exact ⟨ret_int (by omega), rfl⟩
end Go.Proofs.YtoimmfcodflmkaaDoor
