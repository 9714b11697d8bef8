/- slices.Reverse of a list of the call's own. -/
import Derived.Test.YtfacdnpgidnafaaDoorA2
namespace Go.Proofs.YtfacdnpgidnafaaDoor
open Go.RowKit

/-- The list after k exchanges from both ends. -/
def revTo (xs : List Int) (k : Nat) : List Int := (List.range xs.length).map fun p => if p < k ∨ xs.length - k ≤ p then xs[xs.length - 1 - p]?.getD 0 else xs[p]?.getD 0

theorem revTo_len (xs : List Int) (k : Nat) : (revTo xs k).length = xs.length := by simp [revTo]
theorem revTo_at (xs : List Int) (k p : Nat) (hp : p < xs.length) : (revTo xs k)[p]? = some (if p < k ∨ xs.length - k ≤ p then xs[xs.length - 1 - p]?.getD 0 else xs[p]?.getD 0) := by simp [revTo, hp]
theorem revTo_zero (xs : List Int) : revTo xs 0 = xs := by
  apply List.ext_getElem?
  intro p
  by_cases hp : p < xs.length
  · rw [revTo_at xs 0 p hp, if_neg (by omega), List.getElem?_eq_getElem hp]; rfl
  · rw [List.getElem?_eq_none (by rw [revTo_len]; omega), List.getElem?_eq_none (by omega)]
theorem revTo_end (xs : List Int) (k : Nat) (h : xs.length ≤ 2 * k + 1) : revTo xs k = xs.reverse := by
  apply List.ext_getElem?
  intro p
  by_cases hp : p < xs.length
  · rw [revTo_at xs k p hp, List.getElem?_reverse hp]
    have h2 : xs.length - 1 - p < xs.length := by omega
    by_cases hc : p < k ∨ xs.length - k ≤ p
    · rw [if_pos hc, List.getElem?_eq_getElem h2]; rfl
    · rw [if_neg hc]
      have : xs.length - 1 - p = p := by omega
      rw [this, List.getElem?_eq_getElem hp]; rfl
  · rw [List.getElem?_eq_none (by rw [revTo_len]; omega), List.getElem?_eq_none (by simp; omega)]
theorem revTo_step (xs : List Int) (k : Nat) (h : 2 * k + 1 < xs.length) :
    ((revTo xs k).set k ((revTo xs k)[xs.length - 1 - k]?.getD 0)).set (xs.length - 1 - k) ((revTo xs k)[k]?.getD 0) = revTo xs (k + 1) := by
  apply List.ext_getElem?
  intro p
  by_cases hp : p < xs.length
  · rw [revTo_at xs (k + 1) p hp, List.getElem?_set, List.getElem?_set, revTo_at xs k p hp, revTo_at xs k k (by omega), revTo_at xs k (xs.length - 1 - k) (by omega)]
    simp only [List.length_set, revTo_len]
    by_cases h1 : xs.length - 1 - k = p
    · rw [if_pos h1, if_pos (by omega), if_pos (by omega : p < k + 1 ∨ xs.length - (k + 1) ≤ p), if_neg (by omega : ¬ (k < k ∨ xs.length - k ≤ k))]
      have : xs.length - 1 - p = k := by omega
      rw [this]; rfl
    · rw [if_neg h1]
      by_cases h2 : k = p
      · subst h2
        rw [if_pos rfl, if_pos (by omega), if_pos (by omega : k < k + 1 ∨ xs.length - (k + 1) ≤ k), if_neg (by omega : ¬ (xs.length - 1 - k < k ∨ xs.length - k ≤ xs.length - 1 - k))]; rfl
      · rw [if_neg h2]
        by_cases h3 : p < k ∨ xs.length - k ≤ p
        · rw [if_pos h3, if_pos (by omega : p < k + 1 ∨ xs.length - (k + 1) ≤ p)]
        · rw [if_neg h3, if_neg (by omega : ¬ (p < k + 1 ∨ xs.length - (k + 1) ≤ p))]
  · rw [List.getElem?_eq_none (by simp [revTo_len]; omega), List.getElem?_eq_none (by rw [revTo_len]; omega)]

theorem set_comm (xs : List Int) (i j : Nat) (a b : Int) (h : i ≠ j) : (xs.set i a).set j b = (xs.set j b).set i a := List.set_comm a b h

/-- What holds at the head of a round of slices.Reverse. -/
def RevRel (w : World) (base : Nat) (A : Option Addr) (n c : Nat) (xs : List Int) (k : Nat) (wr : World) : Prop :=
  OwnI wr base A n c (revTo xs k) ∧ w.grownBy wr (Value.ownBlock (.slice A n c))

theorem grown_set {w wr : World} {row : Option Nat} {p : Addr} (h : w.grownBy wr row) (hp : row = some p.block) (u : Value) : w.grownBy (wr.setCell p u) row :=
  ⟨h.os, h.tape, h.output, by simpa [World.setCell] using h.size, fun i hi hne => (Below.heap_setCell wr p u i (fun e => hne (by rw [hp, e]))).trans (h.block i hi hne)⟩
theorem grown_drew {w wr : World} {row : Option Nat} (h : w.grownBy wr row) : w.grownBy wr.drew row := ⟨h.os, h.tape, h.output, h.size, h.block⟩

theorem RevRel.step {w wr : World} {base g off n c : Nat} {xs : List Int} {k : Nat} (h : RevRel w base (some ⟨g, off, none⟩) n c xs k wr) (hn : n = xs.length) (hlt : 2 * k + 1 < n) :
    RevRel w base (some ⟨g, off, none⟩) n c xs (k + 1) ((wr.setCell ⟨g, off + k, none⟩ (.int .i64 ((revTo xs k)[n - 1 - k]?.getD 0))).setCell ⟨g, off + (n - 1 - k), none⟩ (.int .i64 ((revTo xs k)[k]?.getD 0))).drew := by
  refine ⟨?_, grown_drew (grown_set (p := ⟨g, off + (n - 1 - k), none⟩) (grown_set (p := ⟨g, off + k, none⟩) h.2 rfl _) rfl _)⟩
  have h1 := (h.1.set (j := k) (by omega) ((revTo xs k)[n - 1 - k]?.getD 0)).set (j := n - 1 - k) (by omega) ((revTo xs k)[k]?.getD 0)
  rw [← revTo_step xs k (by omega), ← hn]
  exact h1

set_option maxHeartbeats 1000000 in
theorem reverse_any (base : Nat) (A : Option Addr) (n c : Nat) (xs : List Int) (w : World) (ho : OwnI w base A n c xs) (hl : n ≤ 2147483648) :
    Calls Tryd.prog 41 #[.slice A n c] w fun e w' => e = .returned (.tuple #[]) ∧ OwnI w' base A n c xs.reverse ∧ w.grownBy w' (Value.ownBlock (.slice A n c)) := by
  have Hn := Lib.hid ho.len
  have hst : RevRel w base A n c xs 0 w := ⟨by rw [revTo_zero]; exact ho, ⟨rfl, rfl, rfl, Nat.le_refl _, fun _ _ _ => rfl⟩⟩
  clear ho
  go_enter Tryd.func41, Tryd.ntmps41
  go_wp2
  go_loopw [2, 3] (fun i j wr => ∃ k : Nat, 2 * k ≤ n + 1 ∧ i = .int .i64 k ∧ j = .int .i64 ((n : Int) - 1 - k) ∧ RevRel w base A n c xs k wr) (fun i _ _ => n + 1 - (intOf i).toNat)
  case atStart => exact ⟨0, by omega, rfl, by simp, hst⟩
  case round =>
    obtain ⟨k, hk, rfl, rfl, hr⟩ := hrel
    by_cases hlt : 2 * k + 1 < n
    · obtain ⟨g, off, rfl, _, _, hc, hfz⟩ := hr.1.at_ (by omega)
      have hc1 := hc k (by omega)
      have hc2 := hc (n - 1 - k) (by omega)
      have hf1 := hfz (off + k)
      have hf2 := hfz (off + (n - 1 - k))
      clear hc hfz
      have e2 : ((n : Int) - 1 - k).toNat = n - 1 - k := by omega
      have b1 : (k : Int) < (n : Int) - 1 - k := by omega
      have b2 : 0 ≤ (n : Int) - 1 - k := by omega
      have b3 : (n : Int) - 1 - k < n := by omega
      have b4 : 0 ≤ (k : Int) := by omega
      have b5 : (k : Int) < n := by omega
      go_wp2
      go_region
      go_wp2
      go_roundw
      case rel =>
        exact ⟨k + 1, by omega, by go_num, by congr 1; omega, RevRel.step hr Hn.out hlt⟩
      case measure => simp [intOf]; omega
    · go_wp2
      go_end0
      have he : revTo xs k = xs.reverse := revTo_end xs k (by rw [← Hn.out]; omega)
      exact ⟨rfl, by rw [← he]; exact hr.1, hr.2⟩
end Go.Proofs.YtfacdnpgidnafaaDoor
