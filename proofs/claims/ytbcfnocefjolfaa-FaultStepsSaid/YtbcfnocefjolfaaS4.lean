/- slices.Clone of a list of integers. -/
import Derived.Test.YtbcfnocefjolfaaO
namespace Go.Proofs.Ytbcfnocefjolfaa
open Go.RowKit

/-- slices.Clone: the list in new memory, which the caller may write to. -/
def RetOwn (w : World) (xs : List Int) (k : Value → Ending) (e : Ending) (w' : World) : Prop :=
  ∃ A c, e = k (.slice A xs.length c) ∧ OwnI w' w.heap.size A xs.length c xs ∧ Below w.heap.size w w'

theorem clone_any (A : Option Addr) (c : Nat) (xs : List Int) (w : World) (ha : GI w A c xs) (hl : xs.length ≤ 2147483648) :
    Calls Try.prog 48 #[.slice A xs.length c] w (RetOwn w xs fun v => .returned v) := by
  have hq := fun (W : World) (a : Option Addr) (n c : Nat) => Lib.run_eql_slice_nil (P := Try.prog) W 25 3 a n c 0 0 Try.underlying25
  rcases A with _ | ad
  · have hx : xs = [] := by
      rcases xs with _ | ⟨x, xs⟩
      · rfl
      · obtain ⟨ad, h, _⟩ := ha.at_ (k := 0) (by simp)
        cases h
    subst hx
    go_enter Try.func48, Try.ntmps48
    go_wp2
    go_ret
    exact ⟨none, 0, rfl, OwnI.none _ _, Below.refl _ _⟩
  · go_enter Try.func48, Try.ntmps48
    go_wp2_with (first | (at_builtin; refine wpList_apl _ rfl _ _ rfl w.heap.size (some ⟨w.heap.size, 0, none⟩) 0 0 [] rfl (OwnI.new w) w.heap.size _ xs.length c xs rfl (ha.2.2.alloc (Nat.le_refl _) _) (by omega) (by simp) ?_; intro A' c' w1 hown hg))
    go_ret
    have hb : Below w.heap.size w w1 := grown_below ((Below.refl _ _).alloc (Nat.le_refl _) _) (OwnI.new w) hg (by simp) (Nat.le_refl _)
    exact ⟨A', c', rfl, by simpa using hown, hb⟩
end Go.Proofs.Ytbcfnocefjolfaa
