/- headgatekit's SameInts, Mod. -/
import Derived.Test.YtfacdnpgidnafaaDoorO
namespace Go.Proofs.YtfacdnpgidnafaaDoor
open Go.RowKit

set_option maxHeartbeats 400000 in
theorem sameInts_yes (A B : Option Addr) (c d : Nat) (xs : List Int) (w : World) (ha : GI w A c xs) (hb : GI w B d xs) :
    Calls Tryd.prog 16 #[.slice A xs.length c, .slice B xs.length d] w fun e w' => e = .returned (.bool true) ∧ ∃ k, w' = w.drewN k := by
  have hl : xs.length ≤ 9223372036854775807 := by have := ha.1; have := ha.2.1; unfold maxLen at this; omega
  have htt : ((xs.length : Int) != xs.length) = false := by simp
  go_enter Tryd.func16, Tryd.ntmps16
  go_wp2
  go_loopw [5] (fun i wr => ∃ k : Nat, k ≤ xs.length ∧ i = .int .i64 k ∧ ∃ d, wr = w.drewN d) (fun i _ => xs.length - (intOf i).toNat)
  case atStart => exact ⟨0, Nat.zero_le _, rfl, 0, rfl⟩
  case round =>
    obtain ⟨k, hk, rfl, dd, rfl⟩ := hrel
    by_cases hlt : k < xs.length
    · obtain ⟨ad, rfl, _, hca⟩ := ha.at_ hlt
      obtain ⟨bd, rfl, _, hcb⟩ := hb.at_ hlt
      clear ha hb
      have hne : (xs[k]?.getD 0 != xs[k]?.getD 0) = false := by simp
      have hk0 : (0 : Int) ≤ k := by omega
      have hk1 : (k : Int) < xs.length := by omega
      go_wp2
      go_quiet (fail)
      all_goals go_wp2
      all_goals go_roundw
      case rel => exact ⟨k + 1, by omega, by go_num, _, rfl⟩
      case measure => simp [intOf]; omega
    · go_wp2
      go_ret
      exact ⟨rfl, _, rfl⟩

theorem tmod_bd (n m : Int) (h : 1 ≤ m) : -m < n.tmod m ∧ n.tmod m < m := by
  have h1 := Int.tmod_lt_of_pos n (show 0 < m by omega)
  have h2 := Int.tmod_lt_of_pos (-n) (show 0 < m by omega)
  rw [Int.neg_tmod] at h2
  exact ⟨by omega, h1⟩
theorem mod_of_pos (n m : Int) (h : 1 ≤ m) (h0 : 0 ≤ n.tmod m) : n.tmod m = n % m := by
  have hb := tmod_bd n m h
  have he := Int.tmod_add_mul_tdiv n m
  have : (n.tmod m + m * n.tdiv m) % m = n.tmod m := by rw [Int.add_mul_emod_self_left]; exact Int.emod_eq_of_lt h0 hb.2
  rw [he] at this
  exact this.symm
theorem mod_of_neg (n m : Int) (h : 1 ≤ m) (h0 : n.tmod m < 0) : n.tmod m + m = n % m := by
  have hb := tmod_bd n m h
  have he := Int.tmod_add_mul_tdiv n m
  have : (n.tmod m + m + m * (n.tdiv m - 1)) % m = n.tmod m + m := by rw [Int.add_mul_emod_self_left]; exact Int.emod_eq_of_lt (by omega) (by omega)
  have e2 : n.tmod m + m + m * (n.tdiv m - 1) = n.tmod m + m * n.tdiv m := by rw [Int.mul_sub]; omega
  rw [e2, he] at this
  exact this.symm

set_option maxHeartbeats 400000 in
theorem mod_any (n m : Int) (hm : 1 ≤ m) (hm' : m ≤ 9223372036854775807) (w : World) :
    Calls Tryd.prog 22 #[.int .i64 n, .int .i64 m] w fun e w' => e = .returned (.int .i64 (n % m)) ∧ w = w' := by
  obtain ⟨hb1, hb2⟩ := tmod_bd n m hm
  by_cases h0 : n.tmod m < 0
  · have hf := Lib.hid (mod_of_neg n m hm h0)
    go_enter Tryd.func22, Tryd.ntmps22
    go_wp2
    go_ret
    exact ⟨ret_int hf.out, rfl⟩
  · have hf := Lib.hid (mod_of_pos n m hm (by omega))
    go_enter Tryd.func22, Tryd.ntmps22
    go_wp2
    go_ret
    exact ⟨ret_int hf.out, rfl⟩

/-- OwnInts: the list in new memory. -/
theorem ownInts_any (A : Option Addr) (c : Nat) (xs : List Int) (w : World) (ha : GI w A c xs) (hl : xs.length ≤ 2147483648) :
    Calls Tryd.prog 25 #[.slice A xs.length c] w (RetI w xs fun v => .returned v) := by
  go_enter Tryd.func25, Tryd.ntmps25
  go_wp2_with (first | (at_builtin; refine wpList_apl _ rfl _ _ rfl w.heap.size (some ⟨w.heap.size, 0, none⟩) 0 0 [] rfl (OwnI.new w) w.heap.size A xs.length c xs rfl (ha.2.2.alloc (Nat.le_refl _) _) (by omega) (by simp) ?_; intro A' c' w1 hown hg))
  go_ret
  have hb : Below w.heap.size w w1 := grown_below ((Below.refl _ _).alloc (Nat.le_refl _) _) (OwnI.new w) hg (by simp) (Nat.le_refl _)
  exact ⟨A', c', rfl, by simpa using hown.gi, hb⟩

/-- slices.Clone: the list in new memory, which the caller may write to. -/
def RetOwn (w : World) (xs : List Int) (k : Value → Ending) (e : Ending) (w' : World) : Prop :=
  ∃ A c, e = k (.slice A xs.length c) ∧ OwnI w' w.heap.size A xs.length c xs ∧ Below w.heap.size w w'

theorem clone_any (A : Option Addr) (c : Nat) (xs : List Int) (w : World) (ha : GI w A c xs) (hl : xs.length ≤ 2147483648) :
    Calls Tryd.prog 44 #[.slice A xs.length c] w (RetOwn w xs fun v => .returned v) := by
  have hq := fun (W : World) (a : Option Addr) (n c : Nat) => Lib.run_eql_slice_nil (P := Tryd.prog) W 25 3 a n c 0 0 Tryd.underlying25
  rcases A with _ | ad
  · have hx : xs = [] := by
      rcases xs with _ | ⟨x, xs⟩
      · rfl
      · obtain ⟨ad, h, _⟩ := ha.at_ (k := 0) (by simp)
        cases h
    subst hx
    go_enter Tryd.func44, Tryd.ntmps44
    go_wp2
    go_ret
    exact ⟨none, 0, rfl, OwnI.none _ _, Below.refl _ _⟩
  · go_enter Tryd.func44, Tryd.ntmps44
    go_wp2_with (first | (at_builtin; refine wpList_apl _ rfl _ _ rfl w.heap.size (some ⟨w.heap.size, 0, none⟩) 0 0 [] rfl (OwnI.new w) w.heap.size _ xs.length c xs rfl (ha.2.2.alloc (Nat.le_refl _) _) (by omega) (by simp) ?_; intro A' c' w1 hown hg))
    go_ret
    have hb : Below w.heap.size w w1 := grown_below ((Below.refl _ _).alloc (Nat.le_refl _) _) (OwnI.new w) hg (by simp) (Nat.le_refl _)
    exact ⟨A', c', rfl, by simpa using hown, hb⟩
end Go.Proofs.YtfacdnpgidnafaaDoor
