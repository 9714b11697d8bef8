/- headgatekit's Mod. -/
import Derived.Test.YtoimmfcodflmkaaDoorO
namespace Go.Proofs.YtoimmfcodflmkaaDoor
open Go.RowKit

theorem tmod_bd (n m : Int) (h : 1 ≤ m) : -m < n.tmod m ∧ n.tmod m < m := by
  have h1 := Int.tmod_lt_of_pos n (show 0 < m by omega)
  have h2 := Int.tmod_lt_of_pos (-n) (show 0 < m by omega)
  rw [Int.neg_tmod] at h2
  exact ⟨by omega, h1⟩
theorem mod_of_pos (n m : Int) (h : 1 ≤ m) (h0 : 0 ≤ n.tmod m) : n.tmod m = n % m := by
  have hb := tmod_bd n m h
  have he := Int.tmod_add_mul_tdiv n m
  have : (n.tmod m + m * n.tdiv m) % m = n.tmod m := by rw [Int.add_mul_emod_self_left]; exact Int.emod_eq_of_lt h0 hb.2
  rw [he] at this
  exact this.symm
theorem mod_of_neg (n m : Int) (h : 1 ≤ m) (h0 : n.tmod m < 0) : n.tmod m + m = n % m := by
  have hb := tmod_bd n m h
  have he := Int.tmod_add_mul_tdiv n m
  have : (n.tmod m + m + m * (n.tdiv m - 1)) % m = n.tmod m + m := by rw [Int.add_mul_emod_self_left]; exact Int.emod_eq_of_lt (by omega) (by omega)
  have e2 : n.tmod m + m + m * (n.tdiv m - 1) = n.tmod m + m * n.tdiv m := by rw [Int.mul_sub]; omega
  rw [e2, he] at this
  exact this.symm

set_option maxHeartbeats 400000 in
theorem mod_any (n m : Int) (hm : 1 ≤ m) (hm' : m ≤ 9223372036854775807) (w : World) :
    Calls Tryd.prog 32 #[.int .i64 n, .int .i64 m] w fun e w' => e = .returned (.int .i64 (n % m)) ∧ w = w' := by
  obtain ⟨hb1, hb2⟩ := tmod_bd n m hm
  by_cases h0 : n.tmod m < 0
  · have hf := Lib.hid (mod_of_neg n m hm h0)
    go_enter Tryd.func32, Tryd.ntmps32
    go_wp2
    go_ret
    exact ⟨ret_int hf.out, rfl⟩
  · have hf := Lib.hid (mod_of_pos n m hm (by omega))
    go_enter Tryd.func32, Tryd.ntmps32
    go_wp2
    go_ret
    exact ⟨ret_int hf.out, rfl⟩

end Go.Proofs.YtoimmfcodflmkaaDoor
