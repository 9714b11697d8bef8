/- Check, in the program and in the reference. -/
import Derived.Test.YtfacdnpgidnafaaDoorA2
import Derived.Test.YtfacdnpgidnafaaDoorA1
namespace Go.Proofs.YtfacdnpgidnafaaDoor
open Go.RowKit

/-- The first number that is no role. -/
def chkFrom : List Int → Nat → Int × Int
  | [], _ => (0, 0)
  | x :: xs, i => if isR x then chkFrom xs (i + 1) else (14, (i : Int))
def chk (xs : List Int) : Int × Int := if 256 < xs.length then (5, 0) else chkFrom xs 0

theorem chkFrom_ok (xs : List Int) (i : Nat) : (chkFrom xs i).1 = 0 ↔ ∀ x ∈ xs, isR x = true := by
  induction xs generalizing i with
  | nil => simp [chkFrom]
  | cons x xs ih =>
    unfold chkFrom
    by_cases h : isR x = true
    · rw [if_pos h, ih]; simp [h]
    · rw [if_neg h]; simp [h]
theorem chk_ok (xs : List Int) : (chk xs).1 = 0 ↔ xs.length ≤ 256 ∧ ∀ x ∈ xs, isR x = true := by
  unfold chk
  by_cases h : 256 < xs.length
  · rw [if_pos h]; simp; omega
  · rw [if_neg h, chkFrom_ok]
    exact ⟨fun h' => ⟨by omega, h'⟩, fun h' => h'.2⟩
theorem chk_le (xs : List Int) : 0 ≤ (chk xs).1 ∧ (chk xs).1 ≤ 14 := by
  unfold chk
  split
  · simp
  · have : ∀ (ys : List Int) (i : Nat), 0 ≤ (chkFrom ys i).1 ∧ (chkFrom ys i).1 ≤ 14 := by
      intro ys
      induction ys with
      | nil => intro i; simp [chkFrom]
      | cons y ys ih =>
        intro i
        unfold chkFrom
        split
        · exact ih _
        · simp
    exact this _ _

theorem drop_at (xs : List Int) (k : Nat) (h : k < xs.length) : xs.drop k = xs[k]?.getD 0 :: xs.drop (k + 1) := by
  rw [List.drop_eq_getElem_cons h, List.getElem?_eq_getElem h]; rfl

set_option maxHeartbeats 400000 in
theorem Check_any (A : Option Addr) (c : Nat) (xs : List Int) (w : World) (ha : GI w A c xs) :
    Calls Tryd.prog 31 #[.slice A xs.length c] w fun e w' => e = .returned (.tuple #[.int .i64 (chk xs).1, .int .i64 (chk xs).2]) ∧ w = w' := by
  have hl : xs.length ≤ 9223372036854775807 := by have := ha.1; have := ha.2.1; unfold maxLen at this; omega
  by_cases hb : 256 < xs.length
  · rw [show chk xs = (5, 0) by unfold chk; rw [if_pos hb]]
    go_enter Tryd.func31, Tryd.ntmps31
    go_wp2
    go_ret2
    exact ⟨rfl, rfl⟩
  · rw [show chk xs = chkFrom xs 0 by unfold chk; rw [if_neg hb]]
    have hb' : decide ((256 : Int) < xs.length) = false := by simp; omega
    go_enter Tryd.func31, Tryd.ntmps31
    go_wp2
    go_loopg [11] xs.length (fun g i wx => w = wx ∧ ∃ k : Nat, g = xs.length - k ∧ k ≤ xs.length ∧ i = .int .i64 k ∧ Hid (chkFrom (xs.drop k) k = chkFrom xs 0))
    case atStart => exact ⟨rfl, 0, rfl, by omega, rfl, rfl⟩
    case round =>
      obtain ⟨rfl, k, rfl, hk, rfl, HQ⟩ := hrel
      by_cases hlt : k < xs.length
      · obtain ⟨ad, rfl, _, hca⟩ := ha.at_ hlt
        have Hd := Lib.hid (drop_at xs k hlt)
        clear ha
        generalize xs[k]?.getD 0 = x at *
        by_cases hr : isR x = true
        · have Hs := Lib.hid (show chkFrom (xs.drop k) k = chkFrom (xs.drop (k + 1)) (k + 1) by rw [Hd.out]; show (if isR x then _ else _) = _; rw [if_pos hr])
          go_wp2_with (first | (go_at_call 37; refine (isRole_any _ _).mono ?_; rintro e w' ⟨rfl, rfl⟩))
          go_roundg (xs.length - (k + 1))
          case measure => omega
          case rel => exact ⟨rfl, k + 1, rfl, by omega, by go_num, Hs.out.symm.trans HQ.out⟩
        · have hr' : isR x = false := by simpa using hr
          have Hs := Lib.hid (show chkFrom xs 0 = (14, (k : Int)) by rw [← HQ.out, Hd.out]; show (if isR x then _ else _) = _; rw [if_neg hr])
          go_wp2_with (first | (go_at_call 37; refine (isRole_any _ _).mono ?_; rintro e w' ⟨rfl, rfl⟩))
          go_ret2
          rw [Hs.out]
          exact ⟨rfl, rfl⟩
      · have Hs := Lib.hid (show chkFrom xs 0 = (0, 0) by rw [← HQ.out, List.drop_eq_nil_of_le (by omega)]; rfl)
        go_wp2
        go_ret2
        rw [Hs.out]
        exact ⟨rfl, rfl⟩

set_option maxHeartbeats 400000 in
theorem sCheck_any (A : Option Addr) (c : Nat) (xs : List Int) (w : World) (ha : GI w A c xs) :
    Calls Tryd.prog 32 #[.slice A xs.length c] w fun e w' => e = .returned (.tuple #[.int .i64 (chk xs).1, .int .i64 (chk xs).2]) ∧ w = w' := by
  have hl : xs.length ≤ 9223372036854775807 := by have := ha.1; have := ha.2.1; unfold maxLen at this; omega
  by_cases hb : 256 < xs.length
  · rw [show chk xs = (5, 0) by unfold chk; rw [if_pos hb]]
    go_enter Tryd.func32, Tryd.ntmps32
    go_wp2
    go_ret2
    exact ⟨rfl, rfl⟩
  · rw [show chk xs = chkFrom xs 0 by unfold chk; rw [if_neg hb]]
    have hb' : decide ((256 : Int) < xs.length) = false := by simp; omega
    go_enter Tryd.func32, Tryd.ntmps32
    go_wp2
    go_loopg [4] xs.length (fun g i wx => w = wx ∧ ∃ k : Nat, g = xs.length - k ∧ k ≤ xs.length ∧ i = .int .i64 k ∧ Hid (chkFrom (xs.drop k) k = chkFrom xs 0))
    case atStart => exact ⟨rfl, 0, rfl, by omega, rfl, rfl⟩
    case round =>
      obtain ⟨rfl, k, rfl, hk, rfl, HQ⟩ := hrel
      by_cases hlt : k < xs.length
      · obtain ⟨ad, rfl, _, hca⟩ := ha.at_ hlt
        have Hd := Lib.hid (drop_at xs k hlt)
        clear ha
        generalize xs[k]?.getD 0 = x at *
        by_cases hr : isR x = true
        · have Hs := Lib.hid (show chkFrom (xs.drop k) k = chkFrom (xs.drop (k + 1)) (k + 1) by rw [Hd.out]; show (if isR x then _ else _) = _; rw [if_pos hr])
          go_wp2_with (first | (go_at_call 39; refine (is_any _ _).mono ?_; rintro e w' ⟨rfl, rfl⟩))
          go_roundg (xs.length - (k + 1))
          case measure => omega
          case rel => exact ⟨rfl, k + 1, rfl, by omega, by go_num, Hs.out.symm.trans HQ.out⟩
        · have hr' : isR x = false := by simpa using hr
          have Hs := Lib.hid (show chkFrom xs 0 = (14, (k : Int)) by rw [← HQ.out, Hd.out]; show (if isR x then _ else _) = _; rw [if_neg hr])
          go_wp2_with (first | (go_at_call 39; refine (is_any _ _).mono ?_; rintro e w' ⟨rfl, rfl⟩))
          go_ret2
          rw [Hs.out]
          exact ⟨rfl, rfl⟩
      · have Hs := Lib.hid (show chkFrom xs 0 = (0, 0) by rw [← HQ.out, List.drop_eq_nil_of_le (by omega)]; rfl)
        go_wp2
        go_ret2
        rw [Hs.out]
        exact ⟨rfl, rfl⟩

theorem chkFrom_zero (xs : List Int) (i : Nat) (h : ∀ x ∈ xs, isR x = true) : chkFrom xs i = (0, 0) := by
  induction xs generalizing i with
  | nil => rfl
  | cons x xs ih =>
    unfold chkFrom
    rw [if_pos (h x (by simp))]
    exact ih _ (fun y hy => h y (by simp [hy]))
/-- A valid list. -/
def VL (xs : List Int) : Prop := xs.length ≤ 256 ∧ ∀ x ∈ xs, isR x = true
theorem chk_vl {xs : List Int} (h : VL xs) : chk xs = (0, 0) := by
  unfold chk
  rw [if_neg (by have := h.1; omega)]
  exact chkFrom_zero _ _ h.2
theorem chk_not {xs : List Int} (h : ¬ VL xs) : (chk xs).1 ≠ 0 := fun e => h ((chk_ok xs).1 e)
theorem Check_yes (A : Option Addr) (c : Nat) (xs : List Int) (w : World) (ha : GI w A c xs) (hv : VL xs) :
    Calls Tryd.prog 31 #[.slice A xs.length c] w fun e w' => e = .returned (.tuple #[.int .i64 0, .int .i64 0]) ∧ w = w' := by
  have := Check_any A c xs w ha
  rwa [chk_vl hv] at this
theorem sCheck_yes (A : Option Addr) (c : Nat) (xs : List Int) (w : World) (ha : GI w A c xs) (hv : VL xs) :
    Calls Tryd.prog 32 #[.slice A xs.length c] w fun e w' => e = .returned (.tuple #[.int .i64 0, .int .i64 0]) ∧ w = w' := by
  have := sCheck_any A c xs w ha
  rwa [chk_vl hv] at this
end Go.Proofs.YtfacdnpgidnafaaDoor
