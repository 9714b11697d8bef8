/- Package pool: Check. -/
import Derived.Test.YtoimmfcodflmkaaDoorT0
namespace Go.Proofs.YtoimmfcodflmkaaDoor
open Go.RowKit
set_option linter.unusedVariables false

theorem ckP_step (s : Int) (xs : List Int) (k n : Nat) (h : k < n) : ckP s xs k (n - k) = (if xs[k]?.getD 0 < 0 ∨ s ≤ xs[k]?.getD 0 then (2, (k : Int)) else if 0 < k ∧ xs[k]?.getD 0 ≤ xs[k - 1]?.getD 0 then (8, (k : Int)) else ckP s xs (k + 1) (n - (k + 1))) := by
  rw [show n - k = (n - (k + 1)) + 1 by omega]; rfl

set_option maxHeartbeats 2000000 in
theorem Check_any (s : Int) (A : Option Addr) (c : Nat) (xs : List Int) (w : World) (ha : GI w A c xs) :
    Calls Tryd.prog 16 #[.agg #[.int .i64 s, .slice A xs.length c]] w (RetB w (.returned (.tuple #[.int .i64 (chkP s xs).1, .int .i64 (chkP s xs).2]))) := by
  have hl := ha.len
  have hx := Bx.new w 24 #[.int .i64 s, .slice A xs.length c]
  have hw := al w (.cells #[.int .i64 s, .slice A xs.length c] 24)
  have hg := ha.below hw
  have c0 : (w.alloc (.cells #[.int .i64 s, .slice A xs.length c] 24)).cell? ⟨w.heap.size, 0, none⟩ = some (.int .i64 s) := hx.cell 0
  have c1 : (w.alloc (.cells #[.int .i64 s, .slice A xs.length c] 24)).cell? ⟨w.heap.size, 1, none⟩ = some (.slice A xs.length c) := hx.cell 1
  by_cases hs : s < 1 ∨ 32 < s
  · have E := Lib.hid (show chkP s xs = (2, 0) by unfold chkP; rw [if_pos hs])
    generalize chkP s xs = ce at *
    have hs2 : decide (s < 1) = true ∨ (decide (s < 1) = false ∧ decide (32 < s) = true) := by simp; omega
    clear hs
    rcases hs2 with t1 | ⟨t1, t2⟩
    all_goals
      go_enter Tryd.func16, Tryd.ntmps16
      go_wp2
      go_ret2
      exact ⟨by rw [E.out]; rfl, hw⟩
  · have E := Lib.hid (show chkP s xs = ckP s xs 0 xs.length by unfold chkP; rw [if_neg hs])
    generalize chkP s xs = ce at *
    have t1 : decide (s < 1) = false := by simp; omega
    have t2 : decide (32 < s) = false := by simp; omega
    clear hs hx
    generalize hW : w.alloc (.cells #[.int .i64 s, .slice A xs.length c] 24) = W at *
    have HW := Lib.hid hW
    clear hW ha
    generalize hn : xs.length = n at *
    have Hn := Lib.hid hn
    clear hn
    go_enter Tryd.func16, Tryd.ntmps16
    go_wp2_with fail
    rw [HW.out]
    go_loopg [17] n (fun g i wx => W = wx ∧ ∃ k : Nat, g = n - k ∧ k ≤ n ∧ i = .int .i64 k ∧ Hid (ckP s xs 0 n = ckP s xs k (n - k)))
    case atStart => exact ⟨rfl, 0, rfl, by omega, rfl, rfl⟩
    case round =>
      obtain ⟨rfl, k, rfl, hk, rfl, HQ⟩ := hrel
      by_cases hlt : k < n
      · obtain ⟨ad, rfl, _, hca⟩ := hg.at_ (k := k) (by rw [Hn.out]; exact hlt)
        have Hst := Lib.hid (ckP_step s xs k n hlt)
        by_cases hr : xs[k]?.getD 0 < 0 ∨ s ≤ xs[k]?.getD 0
        · have E2 := Lib.hid (show ckP s xs 0 n = (2, (k : Int)) by rw [HQ.out, Hst.out, if_pos hr])
          have r2 : decide (xs[k]?.getD 0 < 0) = true ∨ (decide (xs[k]?.getD 0 < 0) = false ∧ decide (s ≤ xs[k]?.getD 0) = true) := by simp; omega
          clear hr Hst HQ
          generalize xs[k]?.getD 0 = x at *
          rcases r2 with r1 | ⟨r1, r2⟩
          all_goals
            go_wp2
            go_ret2
            exact ⟨by rw [E.out, E2.out]; rfl, hw⟩
        · have r1 : decide (xs[k]?.getD 0 < 0) = false := by simp; omega
          have r2 : decide (s ≤ xs[k]?.getD 0) = false := by simp; omega
          rw [if_neg hr] at Hst
          clear hr
          by_cases h0 : 0 < k
          · obtain ⟨j, hj⟩ : ∃ j, j = k - 1 := ⟨_, rfl⟩
            obtain ⟨_, he, _, hcb⟩ := hg.at_ (k := j) (by rw [Hn.out]; omega)
            cases he
            rw [← hj] at Hst
            have j1 : (k : Int) - 1 = (j : Int) := by omega
            have j2 : j < n := by omega
            have j3 : decide (0 < (k : Int)) = true := by simp; omega
            have j4 : (0 < k) = True := by simp [h0]
            by_cases ho : xs[k]?.getD 0 ≤ xs[j]?.getD 0
            · have E2 := Lib.hid (show ckP s xs 0 n = (8, (k : Int)) by rw [HQ.out, Hst.out, if_pos ⟨h0, ho⟩])
              have r3 : decide (xs[k]?.getD 0 ≤ xs[j]?.getD 0) = true := by simpa using ho
              clear Hst HQ ho hj h0
              generalize xs[k]?.getD 0 = x at *
              generalize xs[j]?.getD 0 = y at *
              go_wp2
              go_ret2
              exact ⟨by rw [E.out, E2.out]; rfl, hw⟩
            · have E2 := Lib.hid (show ckP s xs 0 n = ckP s xs (k + 1) (n - (k + 1)) by rw [HQ.out, Hst.out, if_neg (by omega)])
              have r3 : decide (xs[k]?.getD 0 ≤ xs[j]?.getD 0) = false := by simpa using ho
              clear Hst HQ ho hj h0
              generalize xs[k]?.getD 0 = x at *
              generalize xs[j]?.getD 0 = y at *
              go_wp2
              go_roundg (n - (k + 1))
              case measure => omega
              case rel => exact ⟨rfl, k + 1, rfl, by omega, by go_num, E2.out⟩
          · have E2 := Lib.hid (show ckP s xs 0 n = ckP s xs (k + 1) (n - (k + 1)) by rw [HQ.out, Hst.out, if_neg (by omega)])
            have j3 : decide (0 < (k : Int)) = false := by simp; omega
            have j4 : (0 < k) = False := by simp; omega
            clear Hst HQ h0
            generalize xs[k]?.getD 0 = x at *
            go_wp2
            go_roundg (n - (k + 1))
            case measure => omega
            case rel => exact ⟨rfl, k + 1, rfl, by omega, by go_num, E2.out⟩
      · have E2 := Lib.hid (show ckP s xs 0 n = (0, 0) by rw [HQ.out, show n - k = 0 by omega]; rfl)
        go_wp2
        go_ret2
        exact ⟨by rw [E.out, E2.out]; rfl, hw⟩
end Go.Proofs.YtoimmfcodflmkaaDoor
