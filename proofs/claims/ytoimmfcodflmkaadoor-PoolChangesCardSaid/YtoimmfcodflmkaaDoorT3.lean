/- Package pool: sets of descriptors as bits. -/
import Derived.Test.YtoimmfcodflmkaaDoorT1
import Derived.Test.YtoimmfcodflmkaaDoorT2
import Derived.Laws.Bits64b
namespace Go.Proofs.YtoimmfcodflmkaaDoor
open Go.RowKit
set_option linter.unusedVariables false

theorem bits_or32 (a b : Nat) (ha : a < 4294967296) (hb : b < 4294967296) : bits .or .u32 (a : Int) (b : Int) = ((a ||| b : Nat) : Int) := by
  have e : (a ||| b) < 4294967296 := Nat.or_lt_two_pow (n := 32) ha hb
  have h1 : (BitVec.ofInt 32 (a : Int)).toNat = a := by simp [BitVec.toNat_ofInt]; omega
  have h2 : (BitVec.ofInt 32 (b : Int)).toNat = b := by simp [BitVec.toNat_ofInt]; omega
  show IntKind.u32.wrap ((BitVec.ofInt 32 (a : Int) ||| BitVec.ofInt 32 (b : Int)).toNat : Int) = _
  rw [BitVec.toNat_or, h1, h2]
  simp [IntKind.wrap, IntKind.signed, IntKind.bits]
  omega
theorem bits_and32 (a b : Nat) (ha : a < 4294967296) (hb : b < 4294967296) : bits .and .u32 (a : Int) (b : Int) = ((a &&& b : Nat) : Int) := by
  have e : (a &&& b) < 4294967296 := Nat.lt_of_le_of_lt Nat.and_le_left ha
  have h1 : (BitVec.ofInt 32 (a : Int)).toNat = a := by simp [BitVec.toNat_ofInt]; omega
  have h2 : (BitVec.ofInt 32 (b : Int)).toNat = b := by simp [BitVec.toNat_ofInt]; omega
  show IntKind.u32.wrap ((BitVec.ofInt 32 (a : Int) &&& BitVec.ofInt 32 (b : Int)).toNat : Int) = _
  rw [BitVec.toNat_and, h1, h2]
  simp [IntKind.wrap, IntKind.signed, IntKind.bits]
  omega
theorem bit32 (m d : Nat) (hm : m < 4294967296) : (bits .and .u32 ((m : Int) / 2 ^ d) 1 != 0) = m.testBit d := by
  have e : (m : Int) / 2 ^ d = ((m / 2 ^ d : Nat) : Int) := by simp
  have h : m / 2 ^ d < 4294967296 := Nat.lt_of_le_of_lt (Nat.div_le_self _ _) hm
  rw [e, show (1 : Int) = ((1 : Nat) : Int) from rfl, bits_and32 _ _ h (by omega), Nat.and_one_is_mod, test_div]
  rcases Nat.mod_two_eq_zero_or_one (m / 2 ^ d) with h | h <;> rw [h] <;> rfl
set_option maxHeartbeats 1000000 in
theorem has_any (m d : Nat) (hm : m < 4294967296) (hd : d < 32) (w : World) : Calls Tryd.prog 37 #[.int .u32 (m : Int), .int .i64 (d : Int)] w fun e w' => e = .returned (.bool (m.testBit d)) ∧ w = w' := by
  go_enter Tryd.func37, Tryd.ntmps37
  go_wp2
  go_ret
  refine ⟨?_, rfl⟩
  rw [← bit32 m d hm]
  rfl

set_option maxHeartbeats 1000000 in
theorem free_any (s : Int) (A : Option Addr) (c : Nat) (xs : List Int) (w : World) (ha : GI w A c xs) (hr : ∀ x ∈ xs, 0 ≤ x ∧ x < 32) : Calls Tryd.prog 36 #[.agg #[.int .i64 s, .slice A xs.length c]] w (RetB w (.returned (.int .u32 (mset xs : Nat)))) := by
  have hl := ha.len
  have hx := Bx.new w 24 #[.int .i64 s, .slice A xs.length c]
  have hw := al w (.cells #[.int .i64 s, .slice A xs.length c] 24)
  have hg := ha.below hw
  have c1 : (w.alloc (.cells #[.int .i64 s, .slice A xs.length c] 24)).cell? ⟨w.heap.size, 1, none⟩ = some (.slice A xs.length c) := hx.cell 1
  clear hx ha
  generalize hW : w.alloc (.cells #[.int .i64 s, .slice A xs.length c] 24) = W at *
  have HW := Lib.hid hW
  clear hW
  have HR := Lib.hid hr
  clear hr
  have HM := Lib.hid (show mset xs = mset (xs.take xs.length) by rw [List.take_length])
  generalize hms : mset xs = ms at *
  clear hms
  generalize hn : xs.length = n at *
  have Hn := Lib.hid hn
  clear hn
  go_enter Tryd.func36, Tryd.ntmps36
  go_wp2_with fail
  rw [HW.out]
  go_loopg [9, 3] n (fun g i m wx => W = wx ∧ ∃ k : Nat, g = n - k ∧ k ≤ n ∧ i = .int .i64 k ∧ m = .int .u32 (mset (xs.take k) : Nat))
  case atStart => exact ⟨rfl, 0, rfl, by omega, rfl, rfl⟩
  case round =>
    obtain ⟨rfl, k, rfl, hk, rfl, rfl⟩ := hrel
    by_cases hlt : k < n
    · obtain ⟨ad, rfl, _, hca⟩ := hg.at_ (k := k) (by rw [Hn.out]; exact hlt)
      have hxr : 0 ≤ xs[k]?.getD 0 ∧ xs[k]?.getD 0 < 32 := by
        rw [List.getElem?_eq_getElem (by rw [Hn.out]; exact hlt)]
        exact HR.out _ (List.getElem_mem _)
      have HT := Lib.hid (show xs.take (k + 1) = xs.take k ++ [xs[k]?.getD 0] by
        rw [List.take_add_one, List.getElem?_eq_getElem (by rw [Hn.out]; exact hlt)]; rfl)
      obtain ⟨x, hx⟩ : ∃ x : Nat, xs[k]?.getD 0 = (x : Int) := ⟨(xs[k]?.getD 0).toNat, by omega⟩
      rw [hx] at hca HT hxr
      have hx32 : x < 32 := by omega
      clear hx hxr
      go_wp2
      go_roundg (n - (k + 1))
      case measure => omega
      case rel =>
        refine ⟨rfl, k + 1, rfl, by omega, by go_num, ?_⟩
        have h1 : mset (xs.take k) < 2 ^ 32 := mset_lt 32 _ fun y hy => by have := HR.out y (List.mem_of_mem_take hy); omega
        have h2 : 2 ^ x < 4294967296 := Nat.pow_lt_pow_right (m := x) (n := 32) (a := 2) (by omega) hx32
        have h3 : (2 : Int) ^ x % 4294967296 = ((2 ^ x : Nat) : Int) := by
          rw [show (2 : Int) ^ x = ((2 ^ x : Nat) : Int) by rw [Int.natCast_pow]; rfl]; generalize 2 ^ x = y at h2 ⊢; omega
        rw [h3, bits_or32 _ _ h1 h2, HT.out, mset_snoc, Int.toNat_natCast]
    · have kd : decide ((k : Int) < (n : Int)) = false := by simp; omega
      obtain rfl : k = n := by omega
      rw [← HM.out]
      go_wp2
      go_ret
      exact ⟨rfl, hw⟩
end Go.Proofs.YtoimmfcodflmkaaDoor
