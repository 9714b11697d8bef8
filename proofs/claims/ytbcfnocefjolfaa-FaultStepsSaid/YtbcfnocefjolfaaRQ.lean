/- A request that came in: its cells, and its list of frames. -/
import Derived.Test.YtbcfnocefjolfaaF1
import Derived.ProofKit
import Derived.OpenShut
import Derived.ShutString
namespace Go.Proofs.Ytbcfnocefjolfaa
open Go.ChangeShapes Go.WideShapes Go.ChangeAt Go.RowKit

section
variable {H : Type} {enc : TypeId × Value → H}
/-- A list of integers that came in. -/
theorem gi_open {W : World} {sp : Nat → Bool} {held : Bool} {a : Option Addr} {len cap : Nat} {d : DataW H} {p : List MemPlace} (h : DataW.Trod enc Try.prog W 0 sp held 25 (.slice a len cap) d p) :
    ∃ xs : List Int, xs.length = len ∧ GI W a cap xs ∧ ∀ x ∈ xs, (Lit.int .i64 x).wf = true := by
  obtain ⟨fuel, hf⟩ := h
  rcases open_ints Try.underlying25 Try.underlying3 (by kernel_rfl) hf with ⟨hcs, _⟩ | ⟨x, l, c, zs, hcs, _, hl, hm, hz, _, hcell, hwz⟩
  · simp [Value.cells] at hcs
    obtain ⟨rfl, rfl, rfl⟩ := hcs
    exact ⟨[], rfl, GI.nil _, by simp⟩
  · simp [Value.cells] at hcs
    obtain ⟨rfl, rfl, rfl⟩ := hcs
    have hlen : len ≤ zs.length := by
      have : zs.length = if sp x.block then cap else len := by simpa using hz
      rw [this]
      split <;> omega
    have hxl : (zs.take len).length = len := by rw [List.length_take]; omega
    refine ⟨zs.take len, hxl, ⟨by omega, hm, by rw [iv_len]; omega, fun hn => ⟨x, rfl, ?_, fun j u hu => ?_⟩⟩, fun y hy => hwz y (List.mem_of_mem_take hy)⟩
    · have := hcell 0 (by omega)
      exact World.block_lt_of_cell? W _ (by simpa [Addr.add] using this)
    · have hj : j < (iv (zs.take len)).length := by
        rcases Nat.lt_or_ge j (iv (zs.take len)).length with h | h
        · exact h
        · rw [List.getElem?_eq_none h] at hu; cases hu
      rw [iv_len] at hj
      rw [hcell j (by omega)]
      rw [iv_at _ j hj] at hu
      rw [← hu, List.getElem?_take, if_pos (by omega), List.getD_eq_getElem?_getD]

theorem cells9 {cs : Array Value} (h : cs.size = 9) : ∃ c0 c1 c2 c3 c4 c5 c6 c7 c8, cs = #[c0, c1, c2, c3, c4, c5, c6, c7, c8] := by
  obtain ⟨l⟩ := cs
  match l, h with
  | [c0, c1, c2, c3, c4, c5, c6, c7, c8], _ => exact ⟨c0, c1, c2, c3, c4, c5, c6, c7, c8, rfl⟩
theorem rq_open {W : World} {r : Reach} {b0 : Nat} {sp : Nat → Bool} {held : Bool} {v : Value} {d : DataW H} {p : List MemPlace} (hv : Value.okWide Try.prog W r b0 27 v) (h : DataW.Trod enc Try.prog W 0 sp held 27 v d p) :
    ∃ tk kind proc a b val st A c xs slot, v = .agg #[.int .u64 tk, .int .i64 kind, .int .i64 proc, .int .i64 a, .int .i64 b, .int .u64 val, .int .i64 st, .slice A xs.length c, .int .i64 slot] ∧ GI W A c xs := by
  obtain ⟨cs, rfl, hsz⟩ := okWide_struct Try.underlying27 hv
  obtain ⟨c0, c1, c2, c3, c4, c5, c6, c7, c8, rfl⟩ := cells9 (hsz.trans (show Try.prog.cellsOf 27 = 9 by kernel_rfl))
  have k22 : Try.prog.cellsOf 22 = 1 := by kernel_rfl
  have k3 : Try.prog.cellsOf 3 = 1 := by kernel_rfl
  have k25 : Try.prog.cellsOf 25 = 1 := by kernel_rfl
  have k24 : Try.prog.cellsOf 24 = 5 := by kernel_rfl
  obtain ⟨fuel, hf⟩ := h
  obtain ⟨ys, n, -, -, -, hl, hfs⟩ := DataW.trod_struct Try.underlying27 hf
  obtain ⟨y0, y1, y2, y3, y4, rfl⟩ : ∃ y0 y1 y2 y3 y4, ys = [y0, y1, y2, y3, y4] := by
    match ys, hl with
    | [y0, y1, y2, y3, y4], _ => exact ⟨y0, y1, y2, y3, y4, rfl⟩
  have f0 : DataW.trod enc Try.prog W 0 sp held n 22 [c0] = some y0 := by simpa [Value.cells, k22] using hfs 0 _ rfl
  have f1 : DataW.trod enc Try.prog W 0 sp held n 24 [c1, c2, c3, c4, c5] = some y1 := by simpa [Value.cells, k24] using hfs 1 _ rfl
  have f2 : DataW.trod enc Try.prog W 0 sp held n 3 [c6] = some y2 := by simpa [Value.cells, k3] using hfs 2 _ rfl
  have f3 : DataW.trod enc Try.prog W 0 sp held n 25 [c7] = some y3 := by simpa [Value.cells, k25] using hfs 3 _ rfl
  have f4 : DataW.trod enc Try.prog W 0 sp held n 3 [c8] = some y4 := by simpa [Value.cells, k3] using hfs 4 _ rfl
  obtain ⟨tk, e0, -, -⟩ := DataW.trod_int Try.underlying22 f0
  obtain ⟨st, e6, -, -⟩ := DataW.trod_int Try.underlying3 f2
  obtain ⟨slot, e8, -, -⟩ := DataW.trod_int Try.underlying3 f4
  obtain ⟨zs, m, -, -, -, hl2, hgs⟩ := DataW.trod_struct Try.underlying24 f1
  obtain ⟨z0, z1, z2, z3, z4, rfl⟩ : ∃ y0 y1 y2 y3 y4, zs = [y0, y1, y2, y3, y4] := by
    match zs, hl2 with
    | [y0, y1, y2, y3, y4], _ => exact ⟨y0, y1, y2, y3, y4, rfl⟩
  have g0 : DataW.trod enc Try.prog W 0 sp held m 3 [c1] = some z0 := by simpa [k3] using hgs 0 _ rfl
  have g1 : DataW.trod enc Try.prog W 0 sp held m 3 [c2] = some z1 := by simpa [k3] using hgs 1 _ rfl
  have g2 : DataW.trod enc Try.prog W 0 sp held m 3 [c3] = some z2 := by simpa [k3] using hgs 2 _ rfl
  have g3 : DataW.trod enc Try.prog W 0 sp held m 3 [c4] = some z3 := by simpa [k3] using hgs 3 _ rfl
  have g4 : DataW.trod enc Try.prog W 0 sp held m 22 [c5] = some z4 := by simpa [k22] using hgs 4 _ rfl
  obtain ⟨kind, e1, -, -⟩ := DataW.trod_int Try.underlying3 g0
  obtain ⟨proc, e2, -, -⟩ := DataW.trod_int Try.underlying3 g1
  obtain ⟨a, e3, -, -⟩ := DataW.trod_int Try.underlying3 g2
  obtain ⟨b, e4, -, -⟩ := DataW.trod_int Try.underlying3 g3
  obtain ⟨val, e5, -, -⟩ := DataW.trod_int Try.underlying22 g4
  have hsl : ∃ A len cap, c7 = .slice A len cap := by
    rcases DataW.trod_slice Try.underlying25 f3 with ⟨h, -⟩ | ⟨ad, len, cap, _, _, _, -, h, -⟩
    · exact ⟨none, 0, 0, by simpa using h⟩
    · exact ⟨some ad, len, cap, by simpa using h⟩
  obtain ⟨A, len, cap, rfl⟩ := hsl
  obtain ⟨xs, hx, hg, -⟩ := gi_open (a := A) (len := len) (cap := cap) (d := y3.1) (p := y3.2) ⟨n, by simpa [Value.cells] using f3⟩
  simp only [List.cons.injEq, and_true] at e0 e1 e2 e3 e4 e5 e6 e8
  subst e0 e1 e2 e3 e4 e5 e6 e8 hx
  exact ⟨tk, kind, proc, a, b, val, st, A, cap, xs, slot, rfl, hg⟩
end
end Go.Proofs.Ytbcfnocefjolfaa
