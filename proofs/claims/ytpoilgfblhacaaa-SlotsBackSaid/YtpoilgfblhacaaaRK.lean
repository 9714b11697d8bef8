/- Slots that came in: their references and marks; a list of integers. -/
import Derived.Test.YtpoilgfblhacaaaKD
import Derived.ProofKit
import Derived.OpenShut
import Derived.ShutString
namespace Go.Proofs.Ytpoilgfblhacaaa
open Go.ChangeShapes Go.WideShapes Go.ChangeAt Go.RowKit

section
variable {H : Type} {enc : TypeId × Value → H} {W : World} {sp : Nat → Bool} {held : Bool}
/-- A slice that came in, element by element. -/
theorem gr_open {α : Type} {va : α → Array Value} {n : Nat} {t e : TypeId} (ht : Try.prog.underlying t = some (.slice e)) (hc : Try.prog.cellsOf e = n) (h0 : 0 < n) (hs : ∀ x, (va x).size = n)
    (hel : ∀ fuel cs x, DataW.trod enc Try.prog W 0 sp held fuel e cs = some x → ∃ y : α, cs = (va y).toList) {fuel : Nat} {c : Value} {x : DataW H × List MemPlace} (h : DataW.trod enc Try.prog W 0 sp held fuel t [c] = some x) :
    ∃ A cap, ∃ xs : List α, c = .slice A xs.length cap ∧ GR n va W A cap xs := by
  rcases DataW.trod_slice ht h with ⟨hcs, -⟩ | ⟨a, len, cap, elems, rest, m, -, hcs, -, -, hl, hm, hel2, hi, -, -⟩
  · simp at hcs
    subst hcs
    exact ⟨none, 0, [], rfl, GR.nil _⟩
  · simp at hcs
    subst hcs
    have key : ∀ k, k ≤ len → ∃ xs : List α, xs.length = k ∧ ∀ i y, xs[i]? = some y → W.cells? 0 (a.add (i * n)) n = some (va y).toList := by
      intro k
      induction k with
      | zero => intro _; exact ⟨[], rfl, by simp⟩
      | succ k ih =>
        intro hk
        obtain ⟨xs, hxl, hx⟩ := ih (by omega)
        have hq := hi k (by omega)
        rw [hc, List.getElem?_eq_getElem (by omega), Option.bind_eq_some_iff] at hq
        obtain ⟨cs, h1, h2⟩ := hq
        obtain ⟨y, rfl⟩ := hel _ _ _ h2
        refine ⟨xs ++ [y], by simp [hxl], fun i z hz => ?_⟩
        rw [List.getElem?_append] at hz
        split at hz
        · exact hx i z hz
        · rename_i hik
          rw [List.getElem?_singleton] at hz
          split at hz
          · rename_i he
            injection hz with hz
            subst hz
            rw [show i = k by omega]
            exact h1
          · cases hz
    obtain ⟨xs, hxl, hx⟩ := key len (Nat.le_refl _)
    subst hxl
    refine ⟨some a, cap, xs, rfl, hl, hm, flat_len hs xs, fun hn => ⟨a, rfl, ?_, fun j u hu => ?_⟩⟩
    · obtain ⟨y, hy⟩ : ∃ y, xs[0]? = some y := ⟨_, List.getElem?_eq_getElem hn⟩
      have := hx 0 y hy
      have hb := World.cells?_block this h0
      simpa [add_block] using hb
    · have hjl : j < xs.length * n := by
        have := (List.getElem?_eq_some_iff.1 hu).1
        rw [flat_len hs] at this
        exact this
      have hk : j / n < xs.length := (Nat.div_lt_iff_lt_mul h0).2 hjl
      obtain ⟨y, hy⟩ : ∃ y, xs[j / n]? = some y := ⟨_, List.getElem?_eq_getElem hk⟩
      have h1 := flat_at (va := va) hs hy (i := j % n) (Nat.mod_lt _ h0)
      have e1 : j / n * n + j % n = j := by rw [Nat.mul_comm]; exact Nat.div_add_mod j n
      rw [e1, hu] at h1
      have h2 := World.cells?_some (hx _ y hy)
      have h3 := h2.2.2 (j % n) (Nat.mod_lt _ h0)
      rw [add_twice, e1, Array.getElem?_toList] at h3
      rw [h3, ← h1]
theorem int_el {fuel : Nat} {cs : List Value} {x : DataW H × List MemPlace} (h : DataW.trod enc Try.prog W 0 sp held fuel 3 cs = some x) : ∃ y : Int, cs = (iva y).toList := by
  obtain ⟨a, ha, -, -⟩ := DataW.trod_int Try.underlying3 h
  exact ⟨a, ha⟩
theorem bool_el {fuel : Nat} {cs : List Value} {x : DataW H × List MemPlace} (h : DataW.trod enc Try.prog W 0 sp held fuel 4 cs = some x) : ∃ y : Bool, cs = (bva y).toList := by
  obtain ⟨a, ha, -⟩ := DataW.trod_bool Try.underlying4 h
  exact ⟨a, ha⟩
theorem cells2 {cs : Array Value} (h : cs.size = 2) : ∃ c0 c1, cs = #[c0, c1] := by
  obtain ⟨l⟩ := cs
  match l, h with
  | [c0, c1], _ => exact ⟨c0, c1, rfl⟩
/-- Slots that came in. -/
theorem so_open {r : Reach} {b0 : Nat} {v : Value} {d : DataW H} {p : List MemPlace} (hv : Value.okWide Try.prog W r b0 25 v) (h : DataW.Trod enc Try.prog W 0 sp held 25 v d p) :
    ∃ A1 c1 A2 c2, ∃ rs : List Int, ∃ bs : List Bool, v = .agg #[.slice A1 rs.length c1, .slice A2 bs.length c2] ∧ GS W A1 c1 A2 c2 rs bs := by
  obtain ⟨cs, rfl, hsz⟩ := okWide_struct Try.underlying25 hv
  obtain ⟨c0, c1, rfl⟩ := cells2 (hsz.trans (show Try.prog.cellsOf 25 = 2 by kernel_rfl))
  have ks : Try.prog.cellsOf 22 = 1 := by kernel_rfl
  have kj : Try.prog.cellsOf 23 = 1 := by kernel_rfl
  obtain ⟨fuel, hf⟩ := h
  obtain ⟨ys, n, -, -, -, hl, hfs⟩ := DataW.trod_struct Try.underlying25 hf
  obtain ⟨y0, y1, rfl⟩ : ∃ y0 y1, ys = [y0, y1] := by
    match ys, hl with
    | [y0, y1], _ => exact ⟨y0, y1, rfl⟩
  have f0 : DataW.trod enc Try.prog W 0 sp held n 22 [c0] = some y0 := by simpa [Value.cells, ks] using hfs 0 _ rfl
  have f1 : DataW.trod enc Try.prog W 0 sp held n 23 [c1] = some y1 := by simpa [Value.cells, kj] using hfs 1 _ rfl
  obtain ⟨A1, e1, cs, rfl, g1⟩ := gr_open Try.underlying22 (show Try.prog.cellsOf 3 = 1 by kernel_rfl) (by decide) iva_sz (fun _ _ _ h => int_el h) f0
  obtain ⟨A2, e2, js, rfl, g2⟩ := gr_open Try.underlying23 (show Try.prog.cellsOf 4 = 1 by kernel_rfl) (by decide) bva_sz (fun _ _ _ h => bool_el h) f1
  exact ⟨A1, e1, A2, e2, cs, js, rfl, g1, g2⟩
/-- A list of integers that came in. -/
theorem gi_open {a : Option Addr} {len cap : Nat} {d : DataW H} {p : List MemPlace} (h : DataW.Trod enc Try.prog W 0 sp held 22 (.slice a len cap) d p) : ∃ xs : List Int, xs.length = len ∧ GR 1 iva W a cap xs := by
  obtain ⟨fuel, hf⟩ := h
  have hf2 : DataW.trod enc Try.prog W 0 sp held fuel 22 [.slice a len cap] = some (d, p) := by simpa [Value.cells] using hf
  obtain ⟨A, c, xs, he, hg⟩ := gr_open (va := iva) Try.underlying22 (show Try.prog.cellsOf 3 = 1 by kernel_rfl) (by decide) iva_sz (fun _ _ _ h => int_el h) hf2
  injection he with h1 h2 h3
  subst h1 h2 h3
  exact ⟨xs, rfl, hg⟩
end
end Go.Proofs.Ytpoilgfblhacaaa
