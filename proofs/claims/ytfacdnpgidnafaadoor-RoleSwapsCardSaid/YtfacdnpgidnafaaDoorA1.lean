/- The small functions of package role and of its reference: isRole, may, May: what each call returns. -/
import Derived.Test.YtfacdnpgidnafaaDoorM
namespace Go.Proofs.YtfacdnpgidnafaaDoor
open Go.RowKit

def isR (r : Int) : Bool := decide (0 ≤ r) && decide (r < 8)

theorem isR_yes {r : Int} (h0 : 0 ≤ r) (h1 : r < 8) : isR r = true := by simp [isR, h0, h1]
theorem isR_no {r : Int} (h : ¬ (0 ≤ r ∧ r < 8)) : isR r = false := by simp [isR]; omega
theorem isR_iff {r : Int} : isR r = true ↔ 0 ≤ r ∧ r < 8 := by simp [isR]

set_option maxHeartbeats 400000 in
theorem isRole_any (r : Int) (w : World) :
    Calls Tryd.prog 37 #[.int .i64 r] w fun e w' => e = .returned (.bool (isR r)) ∧ w = w' := by
  by_cases h0 : 0 ≤ r
  · by_cases h1 : r < 8
    · rw [isR_yes h0 h1]
      go_enter Tryd.func37, Tryd.ntmps37
      go_wp2
      go_ret
      exact ⟨rfl, rfl⟩
    · rw [isR_no (by omega)]
      go_enter Tryd.func37, Tryd.ntmps37
      go_wp2
      go_ret
      exact ⟨rfl, rfl⟩
  · rw [isR_no (by omega)]
    go_enter Tryd.func37, Tryd.ntmps37
    go_wp2
    go_ret
    exact ⟨rfl, rfl⟩

set_option maxHeartbeats 400000 in
theorem is_any (r : Int) (w : World) :
    Calls Tryd.prog 39 #[.int .i64 r] w fun e w' => e = .returned (.bool (isR r)) ∧ w = w' := by
  by_cases h0 : 0 ≤ r
  · by_cases h1 : r < 8
    · rw [isR_yes h0 h1]
      go_enter Tryd.func39, Tryd.ntmps39
      go_wp2
      go_ret
      exact ⟨rfl, rfl⟩
    · rw [isR_no (by omega)]
      go_enter Tryd.func39, Tryd.ntmps39
      go_wp2
      go_ret
      exact ⟨rfl, rfl⟩
  · rw [isR_no (by omega)]
    go_enter Tryd.func39, Tryd.ntmps39
    go_wp2
    go_ret
    exact ⟨rfl, rfl⟩

def tab : List Int := [78, 0, 1, 1, 33, 17, 153, 1]

/-- The table of allowed changes, as the program's start lays it. -/
def Laid (w : World) : Prop := ∀ j, j < 8 → w.cell? ⟨0, j, none⟩ = some (.int .u8 (tab.getD j 0))

/-- Which role may change to which. -/
def mayI (f t : Int) : Bool :=
  if f = 0 then t == 1 || t == 2 || t == 3 || t == 6
  else if f = 2 ∨ f = 3 ∨ f = 7 then t == 0
  else if f = 4 then t == 0 || t == 5
  else if f = 5 then t == 0 || t == 4
  else if f = 6 then t == 0 || t == 3 || t == 4 || t == 7
  else false

theorem may_tab : ∀ f, f < 8 → ∀ t, t < 8 → (bits BinOp.and IntKind.u8 (tab[f]?.getD 0 / 2 ^ t) 1 != 0) = mayI (f : Nat) (t : Nat) := by decide


set_option maxHeartbeats 400000 in
theorem rmay_any (f t : Int) (hf0 : 0 ≤ f) (hf : f < 8) (ht0 : 0 ≤ t) (ht : t < 8) (w : World) (hL : Laid w) :
    Calls Tryd.prog 38 #[.int .i64 f, .int .i64 t] w fun e w' => e = .returned (.bool (mayI f t)) ∧ w = w' := by
  obtain ⟨f, rfl⟩ := Int.eq_ofNat_of_zero_le hf0
  obtain ⟨t, rfl⟩ := Int.eq_ofNat_of_zero_le ht0
  have hf' : f < 8 := by omega
  have ht' : t < 8 := by omega
  have hc := hL f hf'
  clear hL
  have hfin := Lib.hid (may_tab f hf' t ht')
  go_enter Tryd.func38, Tryd.ntmps38
  go_wp2
  go_ret
  exact ⟨ret_bool hfin.out, rfl⟩

set_option maxHeartbeats 400000 in
theorem smay_any (f t : Int) (w : World) :
    Calls Tryd.prog 40 #[.int .i64 f, .int .i64 t] w fun e w' => e = .returned (.bool (mayI f t)) ∧ w = w' := by
  go_enter Tryd.func40, Tryd.ntmps40
  go_wp2
  all_goals (go_ret; exact ⟨ret_bool (by simp_all [mayI]), rfl⟩)

/-- What May returns: the answer and the error. -/
def mayR (f t : Int) : Bool × Int := if isR f && isR t then (mayI f t, 0) else (false, 14)

theorem mayR_yes {f t : Int} (h : isR f = true) (h' : isR t = true) : mayR f t = (mayI f t, 0) := by simp [mayR, h, h']
theorem mayR_no {f t : Int} (h : isR f = false ∨ isR t = false) : mayR f t = (false, 14) := by
  rcases h with h | h <;> simp [mayR, h]

set_option maxHeartbeats 400000 in
theorem May_any (f t : Int) (w : World) (hL : Laid w) :
    Calls Tryd.prog 12 #[.int .i64 f, .int .i64 t] w fun e w' => e = .returned (.tuple #[.bool (mayR f t).1, .int .i64 (mayR f t).2]) ∧ w = w' := by
  by_cases h1 : isR f = true
  · by_cases h2 : isR t = true
    · have b1 := isR_iff.1 h1
      have b2 := isR_iff.1 h2
      rw [mayR_yes h1 h2]
      go_enter Tryd.func12, Tryd.ntmps12
      go_wp2_with (first | (go_at_call 37; refine (isRole_any _ _).mono ?_; rintro e w' ⟨rfl, rfl⟩) | (go_at_call 38; refine (rmay_any f t b1.1 b1.2 b2.1 b2.2 _ hL).mono ?_; rintro e w' ⟨rfl, rfl⟩))
      go_ret2
      exact ⟨rfl, rfl⟩
    · have h2' : isR t = false := by simpa using h2
      rw [mayR_no (.inr h2')]
      go_enter Tryd.func12, Tryd.ntmps12
      go_wp2_with (first | (go_at_call 37; refine (isRole_any _ _).mono ?_; rintro e w' ⟨rfl, rfl⟩))
      go_ret2
      exact ⟨rfl, rfl⟩
  · have h1' : isR f = false := by simpa using h1
    rw [mayR_no (.inl h1')]
    go_enter Tryd.func12, Tryd.ntmps12
    go_wp2_with (first | (go_at_call 37; refine (isRole_any _ _).mono ?_; rintro e w' ⟨rfl, rfl⟩))
    go_ret2
    exact ⟨rfl, rfl⟩

set_option maxHeartbeats 400000 in
theorem sMay_any (f t : Int) (w : World) :
    Calls Tryd.prog 13 #[.int .i64 f, .int .i64 t] w fun e w' => e = .returned (.tuple #[.bool (mayR f t).1, .int .i64 (mayR f t).2]) ∧ w = w' := by
  by_cases h1 : isR f = true
  · by_cases h2 : isR t = true
    · rw [mayR_yes h1 h2]
      go_enter Tryd.func13, Tryd.ntmps13
      go_wp2_with (first | (go_at_call 39; refine (is_any _ _).mono ?_; rintro e w' ⟨rfl, rfl⟩) | (go_at_call 40; refine (smay_any f t _).mono ?_; rintro e w' ⟨rfl, rfl⟩))
      go_ret2
      exact ⟨rfl, rfl⟩
    · have h2' : isR t = false := by simpa using h2
      rw [mayR_no (.inr h2')]
      go_enter Tryd.func13, Tryd.ntmps13
      go_wp2_with (first | (go_at_call 39; refine (is_any _ _).mono ?_; rintro e w' ⟨rfl, rfl⟩))
      go_ret2
      exact ⟨rfl, rfl⟩
  · have h1' : isR f = false := by simpa using h1
    rw [mayR_no (.inl h1')]
    go_enter Tryd.func13, Tryd.ntmps13
    go_wp2_with (first | (go_at_call 39; refine (is_any _ _).mono ?_; rintro e w' ⟨rfl, rfl⟩))
    go_ret2
    exact ⟨rfl, rfl⟩
end Go.Proofs.YtfacdnpgidnafaaDoor
