/- A list of changes that came in. -/
import Derived.Test.YtfacdnpgidnafaaDoorR0
import Derived.Test.YtfacdnpgidnafaaDoorB5
import Derived.Deep.SlicePairs
namespace Go.Proofs.YtfacdnpgidnafaaDoor
open Go.ChangeShapes Go.WideShapes Go.ChangeAt Go.RowKit Go.Deep

section
variable {H : Type} {enc : TypeId × Value → H}
theorem pv_get (cs : List (Int × Int)) (j : Nat) (u : Value) (h : (pv cs)[j]? = some u) : j / 2 < cs.length ∧ u = .int .i64 (if j % 2 = 0 then (cs[j / 2]?.getD (0, 0)).1 else (cs[j / 2]?.getD (0, 0)).2) := by
  have hj : j < cs.length * 2 := by
    rw [← pv_len]
    rcases Nat.lt_or_ge j (pv cs).length with h' | h'
    · exact h'
    · rw [List.getElem?_eq_none h'] at h; cases h
  have hk : j / 2 < cs.length := by omega
  have h2 := pv_at cs (j / 2) hk
  refine ⟨hk, ?_⟩
  by_cases he : j % 2 = 0
  · rw [if_pos he]
    rw [show j / 2 * 2 = j by omega, h] at h2
    exact Option.some.inj h2.1
  · rw [if_neg he]
    rw [show j / 2 * 2 + 1 = j by omega, h] at h2
    exact Option.some.inj h2.2
theorem gc_open {W : World} {sp : Nat → Bool} {held : Bool} {a : Option Addr} {len cap : Nat} {d : DataW H} {p : List MemPlace} (h : DataW.Trod enc Tryd.prog W 0 sp held 46 (.slice a len cap) d p) :
    ∃ cs : List (Int × Int), cs.length = len ∧ GC W a cap cs := by
  obtain ⟨fuel, hf⟩ := h
  rcases open_slice_pairs Tryd.underlying46 Tryd.underlying43 (by kernel_rfl) rfl rfl (by kernel_rfl) (by kernel_rfl) hf with ⟨hcs, _⟩ | ⟨x, l, c, m, n, V0, V1, D0, D1, P0, P1, hcs, _, hl, hm, hmm, hx0, hc⟩
  · simp [Value.cells] at hcs
    obtain ⟨rfl, rfl, rfl⟩ := hcs
    exact ⟨[], rfl, by simp, by simp [maxLen], Sl.zero⟩
  · simp [Value.cells] at hcs
    obtain ⟨rfl, rfl, rfl⟩ := hcs
    have hlm : len ≤ m := by rw [hmm]; split <;> omega
    have hv : ∀ i, i < len → ∃ q : Int × Int, W.cell? (x.add (i * 2)) = some (.int .i64 q.1) ∧ W.cell? (x.add (i * 2 + 1)) = some (.int .i64 q.2) := by
      intro i hi
      obtain ⟨h1, h2, h3, h4⟩ := hc i (by omega)
      obtain ⟨y1, e1, _, _⟩ := DataW.trod_int Tryd.underlying3 h3
      obtain ⟨y2, e2, _, _⟩ := DataW.trod_int Tryd.underlying3 h4
      simp at e1 e2
      rw [e1] at h1
      rw [e2] at h2
      exact ⟨(y1, y2), h1, h2⟩
    obtain ⟨cs, hcl, hcs⟩ : ∃ cs : List (Int × Int), cs.length = len ∧ ∀ i, i < len → W.cell? (x.add (i * 2)) = some (.int .i64 (cs[i]?.getD (0, 0)).1) ∧ W.cell? (x.add (i * 2 + 1)) = some (.int .i64 (cs[i]?.getD (0, 0)).2) := by
      clear hc hm hl hmm hf hlm hx0
      induction len with
      | zero => exact ⟨[], rfl, fun i hi => absurd hi (by omega)⟩
      | succ k ih =>
        obtain ⟨cs, h1, h2⟩ := ih (fun i hi => hv i (by omega))
        obtain ⟨q, hq1, hq2⟩ := hv k (by omega)
        refine ⟨cs ++ [q], by simp [h1], fun i hi => ?_⟩
        by_cases hik : i < k
        · rw [List.getElem?_append_left (by omega)]
          exact h2 i hik
        · obtain rfl : i = k := by omega
          rw [List.getElem?_append_right (by omega), h1]
          simpa using ⟨hq1, hq2⟩
    refine ⟨cs, hcl, by omega, hm, by rw [pv_len], fun hn => ⟨x, rfl, ?_, fun j u hu => ?_⟩⟩
    · have := (hcs 0 (by omega)).1
      exact World.block_lt_of_cell? W _ (by simpa [Addr.add] using this)
    · obtain ⟨hk, rfl⟩ := pv_get cs j u hu
      have h2 := hcs (j / 2) (by omega)
      by_cases he : j % 2 = 0
      · rw [if_pos he]
        rw [show j / 2 * 2 = j by omega] at h2
        exact h2.1
      · rw [if_neg he]
        rw [show j / 2 * 2 + 1 = j by omega] at h2
        exact h2.2
end
end Go.Proofs.YtfacdnpgidnafaaDoor
