/- headgatekit's SameInts. -/
import Derived.Test.YtoimmfcodflmkaaDoorO
namespace Go.Proofs.YtoimmfcodflmkaaDoor
open Go.RowKit

set_option maxHeartbeats 400000 in
theorem sameInts_yes (A B : Option Addr) (c d : Nat) (xs : List Int) (w : World) (ha : GI w A c xs) (hb : GI w B d xs) :
    Calls Tryd.prog 28 #[.slice A xs.length c, .slice B xs.length d] w fun e w' => e = .returned (.bool true) ∧ ∃ k, w' = w.drewN k := by
  have hl : xs.length ≤ 9223372036854775807 := by have := ha.1; have := ha.2.1; unfold maxLen at this; omega
  have htt : ((xs.length : Int) != xs.length) = false := by simp
  go_enter Tryd.func28, Tryd.ntmps28
  go_wp2
  go_loopw [5] (fun i wr => ∃ k : Nat, k ≤ xs.length ∧ i = .int .i64 k ∧ ∃ d, wr = w.drewN d) (fun i _ => xs.length - (intOf i).toNat)
  case atStart => exact ⟨0, Nat.zero_le _, rfl, 0, rfl⟩
  case round =>
    obtain ⟨k, hk, rfl, dd, rfl⟩ := hrel
    by_cases hlt : k < xs.length
    · obtain ⟨ad, rfl, _, hca⟩ := ha.at_ hlt
      obtain ⟨bd, rfl, _, hcb⟩ := hb.at_ hlt
      clear ha hb
      have hne : (xs[k]?.getD 0 != xs[k]?.getD 0) = false := by simp
      have hk0 : (0 : Int) ≤ k := by omega
      have hk1 : (k : Int) < xs.length := by omega
      go_wp2
      go_quiet (fail)
      all_goals go_wp2
      all_goals go_roundw
      case rel => exact ⟨k + 1, by omega, by go_num, _, rfl⟩
      case measure => simp [intOf]; omega
    · go_wp2
      go_ret
      exact ⟨rfl, _, rfl⟩

end Go.Proofs.YtoimmfcodflmkaaDoor
