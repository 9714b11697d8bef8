/- Package bitmap, for sets of one word: Next. -/
import Derived.Test.YtoimmfcodflmkaaDoorTA
namespace Go.Proofs.YtoimmfcodflmkaaDoor
open Go.RowKit
set_option linter.unusedVariables false

theorem mk_all : ∀ n : Fin 33, ∀ f : Fin 33, f.1 < n.1 → ∀ i : Fin 33, (2 ^ n.1 - 2 ^ f.1).testBit i.1 = (decide (f.1 ≤ i.1) && decide (i.1 < n.1)) := by decide +kernel
theorem mk_test (n f i : Nat) (h2 : n ≤ 32) (hf : f < n) : (2 ^ n - 2 ^ f).testBit i = (decide (f ≤ i) && decide (i < n)) := by
  by_cases h : i < 33
  · exact mk_all ⟨n, by omega⟩ ⟨f, by omega⟩ hf ⟨i, h⟩
  · have h3 : 2 ^ n - 2 ^ f < 2 ^ i := by
      have : 2 ^ n ≤ 2 ^ i := Nat.pow_le_pow_right (by omega) (by omega)
      have := Nat.two_pow_pos f
      have := Nat.two_pow_pos i
      omega
    rw [Nat.testBit_lt_two_pow h3]
    simp; omega
/-- What Next looks at. -/
def nxW (n m f : Nat) : Nat := (18446744073709551615 ^^^ m) &&& (2 ^ n - 2 ^ f)
theorem nx_test (n m f i : Nat) (h2 : n ≤ 32) (hf : f < n) : (nxW n m f).testBit i = (!m.testBit i && (decide (f ≤ i) && decide (i < n))) := by
  unfold nxW
  rw [Nat.testBit_and, Nat.testBit_xor, mk_test n f i h2 hf, show (18446744073709551615 : Nat) = 2 ^ 64 - 1 from rfl, Nat.testBit_two_pow_sub_one]
  by_cases h : i < n
  · rw [show decide (i < 64) = true by simp; omega]; cases m.testBit i <;> rfl
  · simp [h]
theorem mx64 : IntKind.u64.max = 18446744073709551615 := by rfl
theorem nextW (n m f : Nat) (h1 : 1 ≤ n) (h2 : n ≤ 32) (hm : m < 2 ^ n) (hf : f < n) :
    bits .xor .u64 IntKind.u64.max (m : Int) = ((18446744073709551615 ^^^ m : Nat) : Int) ∧ bits .and .u64 ((18446744073709551615 ^^^ m : Nat) : Int) ((2 ^ n - 2 ^ f : Nat) : Int) = ((nxW n m f : Nat) : Int) := by
  have hm64 : m < 18446744073709551616 := Nat.lt_of_lt_of_le hm (Nat.pow_le_pow_right (n := 2) (j := 64) (by omega) (by omega))
  have hn64 : 2 ^ n - 2 ^ f < 18446744073709551616 := Nat.lt_of_le_of_lt (Nat.sub_le _ _) (Nat.pow_lt_pow_right (a := 2) (m := n) (n := 64) (by omega) (by omega))
  refine ⟨?_, bits_and_u64_nat _ _ (Nat.xor_lt_two_pow (n := 64) (by omega) hm64) hn64⟩
  rw [mx64]
  exact bits_xor_u64_nat 18446744073709551615 m (by omega) hm64
theorem nx_lt (n m f : Nat) (h2 : n ≤ 32) : nxW n m f < 18446744073709551616 := by
  refine Nat.lt_of_le_of_lt Nat.and_le_right (Nat.lt_of_le_of_lt (Nat.sub_le _ _) (Nat.pow_lt_pow_right (a := 2) (m := n) (n := 64) (by omega) (by omega)))

set_option maxHeartbeats 400000 in
theorem Next_some (n : Nat) (A : Option Addr) (c m f i : Nat) (w : World) (hL : Laid w) (h0 : 0 < w.heap.size) (h1 : 1 ≤ n) (h2 : n ≤ 32) (hm : m < 2 ^ n) (hf : f < n) (hg : GW w A m)
    (hi1 : f ≤ i) (hi2 : i < n) (hi3 : m.testBit i = false) (hi4 : ∀ j, f ≤ j → j < i → m.testBit j = true) :
    Calls Tryd.prog 42 #[.agg #[.int .i64 (n : Int), .slice A 1 c], .int .i64 (f : Int), .bool false] w (RetB w (.returned (.tuple #[.int .i64 (i : Int), .int .i64 0]))) := by
  have hx := Bx.new w 62 #[.int .i64 (n : Int), .slice A 1 c]
  have hw := al w (.cells #[.int .i64 (n : Int), .slice A 1 c] 62)
  have hg1 := hg.below hw
  have HC := Lib.hid (fun W (hW : GW W A m) => bCheck_any n A c m W h1 h2 hm hW)
  have HMk := Lib.hid (fun W => mask_any f n h2 hf W)
  have hE : bits .and .u64 (bits .xor .u64 IntKind.u64.max (m : Int)) ((2 ^ n - 2 ^ f : Nat) : Int) = ((nxW n m f : Nat) : Int) := by
    obtain ⟨hxor, hand⟩ := nextW n m f h1 h2 hm hf
    rw [hxor, hand]
  have e1 : decide ((f : Int) < 0) = false := by simp
  have e2 : decide ((n : Int) < (f : Int)) = false := by simp; omega
  have e3 : (n < f) = False := by simp; omega
  have ht1 : (nxW n m f).testBit i = true := by rw [nx_test n m f i h2 hf, hi3]; simp; omega
  have ht2 : ∀ j, j < i → (nxW n m f).testBit j = false := fun j hj => by
    rw [nx_test n m f j h2 hf]
    by_cases h : f ≤ j
    · rw [hi4 j h hj]; rfl
    · simp [h]
  have hcond : (bits .and .u64 (bits .xor .u64 IntKind.u64.max (m : Int)) ((2 ^ n - 2 ^ f : Nat) : Int) != 0) = true := by
    have : nxW n m f ≠ 0 := by intro h; rw [h] at ht1; simp at ht1
    rw [hE]; simp; omega
  have hcond2 : (bits .and .u64 (bits .xor .u64 (if IntKind.u64.signed = true then -1 else IntKind.u64.max) (m : Int)) ((2 ^ n - 2 ^ f : Nat) : Int) != 0) = true := hcond
  have HT := Lib.hid (fun W hW => tz_any (nxW n m f) i (nx_lt n m f h2) ht1 ht2 W hW)
  rw [← hE] at HT
  have hi32 : (i : Int) < 32 := by omega
  clear hg hm ht1 ht2 hi1 hi2 hi3 hi4 hE
  generalize 2 ^ n - 2 ^ f = mk at *
  go_enter Tryd.func42, Tryd.ntmps42
  go_wp2_with (first | (refine wpList_load_row rfl 62 _ rfl (w.heap.size) rfl 62 _ _ _ hx Tryd.underlying62 rfl bits_size ?_))
  refine (HC.out _ hg1).mono ?_
  rintro e w1 ⟨rfl, hb1⟩
  have hx1 := hx.below hb1
  have hw1 := below_step hw hb1
  obtain ⟨ad, rfl, hadb, hcell⟩ := hg1.below hb1
  obtain ⟨c0, c1⟩ := s2 hx1
  clear hx hb1 hw hg1 HC
  go_wp2_with fail
  go_loopg [27] 1 (fun g i wx => w1 = wx ∧ ((g = 1 ∧ i = .int .i64 0) ∨ False))
  case atStart => exact ⟨rfl, .inl ⟨rfl, rfl⟩⟩
  case round =>
    obtain ⟨rfl, ⟨rfl, rfl⟩ | h⟩ := hrel
    · go_wp2_with (first | (go_at_call 47; refine (HMk.out _).mono ?_; rintro e w' ⟨rfl, rfl⟩) | (go_at_call 48; refine (HT.out _ (hL.below hw1 h0)).mono ?_; rintro e w' ⟨rfl, rfl⟩))
      go_ret2
      exact ⟨rfl, hw1⟩
    · exact h.elim

set_option maxHeartbeats 400000 in
theorem Next_none (n : Nat) (A : Option Addr) (c m f : Nat) (w : World) (h1 : 1 ≤ n) (h2 : n ≤ 32) (hm : m < 2 ^ n) (hf : f < n) (hg : GW w A m)
    (hi4 : ∀ j, f ≤ j → j < n → m.testBit j = true) :
    Calls Tryd.prog 42 #[.agg #[.int .i64 (n : Int), .slice A 1 c], .int .i64 (f : Int), .bool false] w (RetB w (.returned (.tuple #[.int .i64 0, .int .i64 6]))) := by
  have hx := Bx.new w 62 #[.int .i64 (n : Int), .slice A 1 c]
  have hw := al w (.cells #[.int .i64 (n : Int), .slice A 1 c] 62)
  have hg1 := hg.below hw
  have HC := Lib.hid (fun W (hW : GW W A m) => bCheck_any n A c m W h1 h2 hm hW)
  have HMk := Lib.hid (fun W => mask_any f n h2 hf W)
  have hE : bits .and .u64 (bits .xor .u64 IntKind.u64.max (m : Int)) ((2 ^ n - 2 ^ f : Nat) : Int) = ((nxW n m f : Nat) : Int) := by
    obtain ⟨hxor, hand⟩ := nextW n m f h1 h2 hm hf
    rw [hxor, hand]
  have e1 : decide ((f : Int) < 0) = false := by simp
  have e2 : decide ((n : Int) < (f : Int)) = false := by simp; omega
  have e3 : (n < f) = False := by simp; omega
  have hx00 : nxW n m f = 0 := by
    refine Nat.eq_of_testBit_eq fun j => ?_
    rw [nx_test n m f j h2 hf, Nat.zero_testBit]
    by_cases h : f ≤ j ∧ j < n
    · rw [hi4 j h.1 h.2]; rfl
    · by_cases h3 : f ≤ j <;> by_cases h4 : j < n <;> simp [h3, h4]
      exact absurd ⟨h3, h4⟩ h
  have hcond : (bits .and .u64 (bits .xor .u64 IntKind.u64.max (m : Int)) ((2 ^ n - 2 ^ f : Nat) : Int) != 0) = false := by rw [hE, hx00]; rfl
  have hcond2 : (bits .and .u64 (bits .xor .u64 (if IntKind.u64.signed = true then -1 else IntKind.u64.max) (m : Int)) ((2 ^ n - 2 ^ f : Nat) : Int) != 0) = false := hcond
  clear hg hm hi4 hx00 hE
  generalize 2 ^ n - 2 ^ f = mk at *
  go_enter Tryd.func42, Tryd.ntmps42
  go_wp2_with (first | (refine wpList_load_row rfl 62 _ rfl (w.heap.size) rfl 62 _ _ _ hx Tryd.underlying62 rfl bits_size ?_))
  refine (HC.out _ hg1).mono ?_
  rintro e w1 ⟨rfl, hb1⟩
  have hx1 := hx.below hb1
  have hw1 := below_step hw hb1
  obtain ⟨ad, rfl, hadb, hcell⟩ := hg1.below hb1
  obtain ⟨c0, c1⟩ := s2 hx1
  clear hx hb1 hw hg1 HC
  go_wp2_with fail
  go_loopg [27] 1 (fun g i wx => w1 = wx ∧ ((g = 1 ∧ i = .int .i64 0) ∨ (g = 0 ∧ i = .int .i64 1)))
  case atStart => exact ⟨rfl, .inl ⟨rfl, rfl⟩⟩
  case round =>
    obtain ⟨rfl, ⟨rfl, rfl⟩ | ⟨rfl, rfl⟩⟩ := hrel
    · go_wp2_with (first | (go_at_call 47; refine (HMk.out _).mono ?_; rintro e w' ⟨rfl, rfl⟩))
      go_roundg 0
      case measure => omega
      case rel => exact ⟨rfl, .inr ⟨rfl, rfl⟩⟩
    · go_wp2
      go_ret2
      exact ⟨rfl, hw1⟩
end Go.Proofs.YtoimmfcodflmkaaDoor
