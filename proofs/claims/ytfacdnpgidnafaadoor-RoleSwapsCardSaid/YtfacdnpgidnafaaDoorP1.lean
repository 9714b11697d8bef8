/- Paths of roles, in plain Lean: what role.Path computes (a search with a queue), what the reference computes (distances), and that they agree. -/
import Derived.Test.YtfacdnpgidnafaaDoorA1
namespace Go.Proofs.YtfacdnpgidnafaaDoor

/-- One look of the search: role k, reached from r. -/
def lookI (r : Int) (s : List Int × List Int) (k : Nat) : List Int × List Int :=
  if mayI r k && decide (s.1[k]?.getD 0 < 0) then (s.1.set k r, s.2 ++ [(k : Int)]) else s
def looks (r : Int) (s : List Int × List Int) : Nat → List Int × List Int
  | 0 => s
  | k + 1 => lookI r (looks r s k) k
def goOn (t : Nat) (s : List Int × List Int) : Bool := !s.2.isEmpty && decide (s.1[t]?.getD 0 < 0)
def rnd (s : List Int × List Int) : List Int × List Int := looks (s.2.headD 0) (s.1, s.2.tail) 8
def srch (f t : Nat) : Nat → List Int × List Int
  | 0 => (([-1, -1, -1, -1, -1, -1, -1, -1] : List Int).set f f, [(f : Int)])
  | k + 1 => if goOn t (srch f t k) then rnd (srch f t k) else srch f t k

/-- The way back from t to f. -/
def back (b : List Int) (f t : Nat) : Nat → Int × List Int
  | 0 => ((t : Int), [])
  | k + 1 => if (back b f t k).1 = f then back b f t k else (b[(back b f t k).1.toNat]?.getD 0, (back b f t k).2 ++ [(back b f t k).1])

def bOf (f t : Nat) : List Int := (srch f t 8).1
def pathB (f t : Nat) : List Int × Int := if (bOf f t)[t]?.getD 0 < 0 then ([], 14) else ((back (bOf f t) f t 8).2.reverse, 0)

/-- Every state of the search is in range, and the search ends within eight rounds. -/
def okS (s : List Int × List Int) : Bool := s.1.length == 8 && s.2.length ≤ 8 && s.2.all (fun x => decide (0 ≤ x) && decide (x < 8)) && s.1.all (fun x => decide (-1 ≤ x) && decide (x < 8))
theorem srch_ok : ∀ f, f < 8 → ∀ t, t < 8 → (∀ k, k < 9 → okS (srch f t k) = true) ∧ goOn t (srch f t 8) = false := by decide +kernel
theorem back_ok : ∀ f, f < 8 → ∀ t, t < 8 → ¬ ((bOf f t)[t]?.getD 0 < 0) → (∀ k, k < 9 → 0 ≤ (back (bOf f t) f t k).1 ∧ (back (bOf f t) f t k).1 < 8 ∧ (back (bOf f t) f t k).2.length ≤ k) ∧ (back (bOf f t) f t 8).1 = f := by decide +kernel

/-- The reference's distances: one look. -/
def distI (round i k : Nat) (d : List Int) : List Int :=
  if decide (d[i]?.getD 0 < 0) && (d[k]?.getD 0 == (round : Int)) && mayI i k then d.set i ((round : Int) + 1) else d
def dist1 (round i : Nat) (d : List Int) : Nat → List Int
  | 0 => d
  | k + 1 => distI round i k (dist1 round i d k)
def dist2 (round : Nat) (d : List Int) : Nat → List Int
  | 0 => d
  | i + 1 => dist1 round i (dist2 round d i) 8
def dist3 (d : List Int) : Nat → List Int
  | 0 => d
  | r + 1 => dist2 r (dist3 d r) 8
def dist (t : Nat) : List Int := dist3 (([-1, -1, -1, -1, -1, -1, -1, -1] : List Int).set t 0) 8

/-- The reference's next role: the first one from n on that is one step nearer. -/
def skip (d : List Int) (at_ n : Nat) : Bool := !mayI at_ n || (d[n]?.getD 0 != d[at_]?.getD 0 - 1)
def nextR (d : List Int) (at_ : Nat) : Nat := ((List.range 8).find? fun n => !skip d at_ n).getD 0
def fwd (d : List Int) (f t : Nat) : Nat → Nat × List Int
  | 0 => (f, [])
  | k + 1 => if (fwd d f t k).1 = t then fwd d f t k else (nextR d (fwd d f t k).1, (fwd d f t k).2 ++ [(nextR d (fwd d f t k).1 : Int)])
def pathS (f t : Nat) : List Int × Int := if (dist t)[f]?.getD 0 < 0 then ([], 14) else ((fwd (dist t) f t 8).2, 0)

/-- The distances, as a table. -/
def distT : List (List Int) := [[0, -1, 1, 1, 1, 1, 1, 1], [1, 0, 2, 2, 2, 2, 2, 2], [1, -1, 0, 2, 2, 2, 2, 2], [1, -1, 2, 0, 2, 2, 1, 2], [2, -1, 3, 3, 0, 1, 1, 3], [3, -1, 4, 4, 1, 0, 2, 4], [1, -1, 2, 2, 2, 2, 0, 2], [2, -1, 3, 3, 3, 3, 1, 0]]
set_option maxRecDepth 100000 in
theorem dist_tab : ∀ t, t < 8 → dist t = distT.getD t [] := by decide +kernel

def okF (d : List Int) (f t k : Nat) : Bool :=
  decide ((fwd d f t k).1 < 8) && decide ((fwd d f t k).2.length ≤ k) && decide (-1 ≤ d[(fwd d f t k).1]?.getD 0) && decide (d[(fwd d f t k).1]?.getD 0 < 9) &&
  (decide ((fwd d f t k).1 = t) || (decide (nextR d (fwd d f t k).1 < 8) && !skip d (fwd d f t k).1 (nextR d (fwd d f t k).1) && (List.range (nextR d (fwd d f t k).1)).all (fun n => skip d (fwd d f t k).1 n)))
theorem dist_len : ∀ t, t < 8 → (distT.getD t []).length = 8 := by decide
theorem fwd_okT : ∀ f, f < 8 → ∀ t, t < 8 → ¬ ((distT.getD t [])[f]?.getD 0 < 0) → (∀ k, k < 9 → okF (distT.getD t []) f t k = true) ∧ (fwd (distT.getD t []) f t 8).1 = t := by decide +kernel
theorem path_sameT : ∀ f, f < 8 → ∀ t, t < 8 → (if (distT.getD t [])[f]?.getD 0 < 0 then ([], 14) else ((fwd (distT.getD t []) f t 8).2, 0)) = pathB f t := by decide +kernel
theorem path_same (f t : Nat) (hf : f < 8) (ht : t < 8) : pathS f t = pathB f t := by
  unfold pathS
  rw [dist_tab t ht]
  exact path_sameT f hf t ht
end Go.Proofs.YtfacdnpgidnafaaDoor
