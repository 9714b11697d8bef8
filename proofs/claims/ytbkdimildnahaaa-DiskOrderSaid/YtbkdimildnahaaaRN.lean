/- A list of integers that came in, as rows of one cell. -/
import Derived.Test.YtbkdimildnahaaaRD
import Derived.Test.YtbkdimildnahaaaSI
namespace Go.Proofs.Ytbkdimildnahaaa
open Go.ChangeShapes Go.WideShapes Go.ChangeAt Go.RowKit

section
variable {H : Type} {enc : TypeId × Value → H} {W : World} {sp : Nat → Bool} {held : Bool}
theorem gn_open {a : Option Addr} {len cap : Nat} {d : DataW H} {p : List MemPlace} (h : DataW.Trod enc Try.prog W 0 sp held 57 (.slice a len cap) d p) : ∃ xs : List Int, xs.length = len ∧ GR 1 iva W a cap xs := by
  obtain ⟨fuel, hf⟩ := h
  have hf2 : DataW.trod enc Try.prog W 0 sp held fuel 57 [.slice a len cap] = some (d, p) := by simpa [Value.cells] using hf
  obtain ⟨A, c, xs, he, hg⟩ := gr_open (va := iva) Try.underlying57 (show Try.prog.cellsOf 3 = 1 by kernel_rfl) (by decide) iva_sz (fun fuel cs x hx => by
    obtain ⟨n, e1, -, -⟩ := DataW.trod_int Try.underlying3 hx
    exact ⟨n, by rw [e1]; rfl⟩) hf2
  injection he with h1 h2 h3
  subst h1 h2 h3
  exact ⟨xs, rfl, hg⟩
end
end Go.Proofs.Ytbkdimildnahaaa
