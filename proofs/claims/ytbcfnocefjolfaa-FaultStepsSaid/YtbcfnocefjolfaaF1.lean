/- Package fault: the small functions. -/
import Derived.Test.YtbcfnocefjolfaaS1
import Derived.Test.YtbcfnocefjolfaaS2
import Derived.Test.YtbcfnocefjolfaaS4
import Derived.Test.YtbcfnocefjolfaaW
namespace Go.Proofs.Ytbcfnocefjolfaa
open Go.RowKit


def accB (kind : Int) : Bool := kind == 4 || kind == 5
def mostN (kind : Int) : Int := if kind = 6 then 9 else 1
def procB (x : Int) : Bool := decide (1 ≤ x) && decide (x ≤ 8)
def frB (x : Int) : Bool := decide (0 ≤ x) && decide (x < 256)

set_option maxHeartbeats 400000 in
theorem isProc_any (x : Int) (w : World) :
    Calls Try.prog 51 #[.int .i64 x] w fun e w' => e = .returned (.bool (procB x)) ∧ w = w' := by
  by_cases h0 : 1 ≤ x
  · by_cases h1 : x ≤ 8
    · rw [show procB x = true by simp [procB, h0, h1]]
      go_enter Try.func51, Try.ntmps51
      go_wp2
      go_ret
      exact ⟨rfl, rfl⟩
    · rw [show procB x = false by simp [procB]; omega]
      go_enter Try.func51, Try.ntmps51
      go_wp2
      go_ret
      exact ⟨rfl, rfl⟩
  · rw [show procB x = false by simp [procB]; omega]
    go_enter Try.func51, Try.ntmps51
    go_wp2
    go_ret
    exact ⟨rfl, rfl⟩

set_option maxHeartbeats 400000 in
theorem isFrame_any (x : Int) (w : World) :
    Calls Try.prog 38 #[.int .i64 x] w fun e w' => e = .returned (.bool (frB x)) ∧ w = w' := by
  by_cases h0 : 0 ≤ x
  · by_cases h1 : x < 256
    · rw [show frB x = true by simp [frB, h0, h1]]
      go_enter Try.func38, Try.ntmps38
      go_wp2
      go_ret
      exact ⟨rfl, rfl⟩
    · rw [show frB x = false by simp [frB]; omega]
      go_enter Try.func38, Try.ntmps38
      go_wp2
      go_ret
      exact ⟨rfl, rfl⟩
  · rw [show frB x = false by simp [frB]; omega]
    go_enter Try.func38, Try.ntmps38
    go_wp2
    go_ret
    exact ⟨rfl, rfl⟩

set_option maxHeartbeats 400000 in
theorem isSlot_any (x : Int) (w : World) :
    Calls Try.prog 42 #[.int .i64 x] w fun e w' => e = .returned (.bool (frB x)) ∧ w = w' := by
  by_cases h0 : 0 ≤ x
  · by_cases h1 : x < 256
    · rw [show frB x = true by simp [frB, h0, h1]]
      go_enter Try.func42, Try.ntmps42
      go_wp2
      go_ret
      exact ⟨rfl, rfl⟩
    · rw [show frB x = false by simp [frB]; omega]
      go_enter Try.func42, Try.ntmps42
      go_wp2
      go_ret
      exact ⟨rfl, rfl⟩
  · rw [show frB x = false by simp [frB]; omega]
    go_enter Try.func42, Try.ntmps42
    go_wp2
    go_ret
    exact ⟨rfl, rfl⟩

set_option maxHeartbeats 400000 in
theorem access_any (tk kind proc a b val st : Int) (A : Option Addr) (n c : Nat) (slot : Int) (w : World) :
    Calls Try.prog 36 #[.agg #[.int .u64 tk, .int .i64 kind, .int .i64 proc, .int .i64 a, .int .i64 b, .int .u64 val, .int .i64 st, .slice A n c, .int .i64 slot]] w (RetB w (.returned (.bool (accB kind)))) := by
  go_enter Try.func36, Try.ntmps36
  go_wp2
  all_goals go_ret
  all_goals exact ⟨ret_bool (by simp_all [accB]), al _ _⟩

set_option maxHeartbeats 400000 in
theorem most_any (tk kind proc a b val st : Int) (A : Option Addr) (n c : Nat) (slot : Int) (w : World) :
    Calls Try.prog 37 #[.agg #[.int .u64 tk, .int .i64 kind, .int .i64 proc, .int .i64 a, .int .i64 b, .int .u64 val, .int .i64 st, .slice A n c, .int .i64 slot]] w (RetB w (.returned (.int .i64 (mostN kind)))) := by
  go_enter Try.func37, Try.ntmps37
  go_wp2
  all_goals go_ret
  all_goals exact ⟨ret_int (by simp_all [mostN]), al _ _⟩

/-- The error of a command. -/
def cmdE (kind proc a b val : Int) : Int :=
  if kind = 1 then (if procB proc = true then (if a ≠ 0 ∨ b ≠ 0 ∨ val ≠ 0 then 3 else 0) else 2)
  else if kind = 4 ∨ kind = 5 then (if procB proc = true ∧ 0 ≤ a ∧ a < 64 ∧ 0 ≤ b ∧ b < 8 then (if kind = 4 ∧ val ≠ 0 then 3 else 0) else 2)
  else if kind = 6 then (if procB proc = true ∧ procB a = true ∧ a ≠ proc then (if b ≠ 0 ∨ val ≠ 0 then 3 else 0) else 2)
  else 16

set_option maxHeartbeats 1000000 in
theorem checkCommand_any (kind proc a b val : Int) (w : World) :
    Calls Try.prog 40 #[.agg #[.int .i64 kind, .int .i64 proc, .int .i64 a, .int .i64 b, .int .u64 val]] w (RetB w (.returned (.int .i64 (cmdE kind proc a b val)))) := by
  go_enter Try.func40, Try.ntmps40
  go_wp2_with (first | (go_at_call 51; refine (isProc_any _ _).mono ?_; rintro e w' ⟨rfl, rfl⟩))
  all_goals go_ret
  all_goals exact ⟨ret_int (by first | (simp_all [cmdE]; done) | (simp_all [cmdE]; omega)), al _ _⟩
end Go.Proofs.Ytbcfnocefjolfaa
