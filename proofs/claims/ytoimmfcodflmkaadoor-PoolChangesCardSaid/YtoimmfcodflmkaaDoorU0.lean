/- What the rows of this seat share: the listed variable at the call's start; a pool that came in. -/
import Derived.Test.YtoimmfcodflmkaaDoorTie
import Derived.Test.YtoimmfcodflmkaaDoorCards
import Derived.Test.YtoimmfcodflmkaaDoorT9
import Derived.ProofKit
import Derived.LaidMore
import Derived.OpenShut
import Derived.ShutString
import Derived.ChangeOld
import Derived.Stop.Joined
import Derived.SevenTiedAt
import Derived.Lib.LaidTab
namespace Go.Proofs.YtoimmfcodflmkaaDoor
open Go.ChangeShapes Go.WideShapes Go.ChangeAt Go.RowKit
open Go.ChangeMaps (open_string shut_string)

theorem ownK : ownKnob Tryd.prog.godebug = none := by kernel_rfl
theorem laidOut : laidOutB Tryd.prog = true := by kernel_rfl
abbrev lds : List (String × DataW Unit) := [("math/bits.deBruijn64tab", Rows.laid_math_bits_deBruijn64tab)]
theorem gTab : Tryd.prog.globalNamed "math/bits.deBruijn64tab" = some 0 := by kernel_rfl
theorem tTab : (Tryd.prog.globals[0]?).map (·.type) = some 78 := by kernel_rfl

theorem door_met (os : Os) (args : Array Value) : laidMetH Tryd.prog lds ((World.doorLaid Tryd.prog 400 os).forCall (fun _ _ => 0) ⟨#[], args, []⟩).memory :=
  laidMetH_of_parts3 (fuel := 8) (laidMet_of_run' 8 (by kernel_rfl) (by kernel_rfl)) (by kernel_rfl) (by kernel_rfl)

theorem laid_of {W : World} (h : laidMetH Tryd.prog lds W) : Laid W ∧ 0 < W.heap.size := by
  rw [MakeChecks.laidMetH_plain _ _ _ (by kernel_rfl)] at h
  obtain ⟨ps, ⟨g0, t0, cs0, f0, p0, q0, hg0, ht0, hv0, hd0, _⟩, _, _⟩ := h
  obtain rfl := Option.some.inj (gTab.symm.trans hg0)
  obtain rfl := Option.some.inj (tTab.symm.trans ht0)
  have hcs : cs0.toList = tab64.map fun z => Value.int .u8 z := Lib.cells_of_tab Tryd.underlying78 Tryd.underlying5 (by kernel_rfl) (by kernel_rfl) (show DataW.trod _ Tryd.prog W 0 _ false f0 78 _ = some (Lib.tabData .u8 tab64, p0) from hd0)
  have hl : Laid W := fun j hj => by
    have hc := World.var?_cell hg0 hv0 j
    rw [hc]
    have e : cs0[j]? = cs0.toList[j]? := by simp
    rw [e, hcs]
    have hj' : j < tab64.length := hj
    simp [hj']
  exact ⟨hl, Nat.lt_of_le_of_lt (Nat.zero_le _) (World.block_lt_of_cell? W ⟨0, 0, none⟩ (hl 0 (by omega)))⟩

section
variable {H : Type} {enc : TypeId × Value → H}
/-- A list of integers that came in. -/
theorem gi_open {W : World} {sp : Nat → Bool} {held : Bool} {a : Option Addr} {len cap : Nat} {d : DataW H} {p : List MemPlace} (h : DataW.Trod enc Tryd.prog W 0 sp held 22 (.slice a len cap) d p) :
    ∃ xs : List Int, xs.length = len ∧ GI W a cap xs ∧ ∀ x ∈ xs, (Lit.int .i64 x).wf = true := by
  obtain ⟨fuel, hf⟩ := h
  rcases open_ints Tryd.underlying22 Tryd.underlying3 (by kernel_rfl) hf with ⟨hcs, _⟩ | ⟨x, l, c, zs, hcs, _, hl, hm, hz, _, hcell, hwz⟩
  · simp [Value.cells] at hcs
    obtain ⟨rfl, rfl, rfl⟩ := hcs
    exact ⟨[], rfl, GI.nil _, by simp⟩
  · simp [Value.cells] at hcs
    obtain ⟨rfl, rfl, rfl⟩ := hcs
    have hlen : len ≤ zs.length := by
      have : zs.length = if sp x.block then cap else len := by simpa using hz
      rw [this]
      split <;> omega
    have hxl : (zs.take len).length = len := by rw [List.length_take]; omega
    refine ⟨zs.take len, hxl, ⟨by omega, hm, by rw [iv_len]; omega, fun hn => ⟨x, rfl, ?_, fun j u hu => ?_⟩⟩, fun y hy => hwz y (List.mem_of_mem_take hy)⟩
    · have := hcell 0 (by omega)
      exact World.block_lt_of_cell? W _ (by simpa [Addr.add] using this)
    · have hj : j < (iv (zs.take len)).length := by
        rcases Nat.lt_or_ge j (iv (zs.take len)).length with h | h
        · exact h
        · rw [List.getElem?_eq_none h] at hu; cases hu
      rw [iv_len] at hj
      rw [hcell j (by omega)]
      rw [iv_at _ j hj] at hu
      rw [← hu, List.getElem?_take, if_pos (by omega), List.getD_eq_getElem?_getD]

theorem cells2 {cs : Array Value} (h : cs.size = 2) : ∃ c0 c1, cs = #[c0, c1] := by
  obtain ⟨l⟩ := cs
  match l, h with
  | [c0, c1], _ => exact ⟨c0, c1, rfl⟩
theorem pool_open {W : World} {r : Reach} {b0 : Nat} {sp : Nat → Bool} {held : Bool} {v : Value} {d : DataW H} {p : List MemPlace} (hv : Value.okWide Tryd.prog W r b0 24 v) (h : DataW.Trod enc Tryd.prog W 0 sp held 24 v d p) :
    ∃ s A c xs, v = .agg #[.int .i64 s, .slice A xs.length c] ∧ GI W A c xs := by
  obtain ⟨cs, rfl, hsz⟩ := okWide_struct Tryd.underlying24 hv
  obtain ⟨c0, c1, rfl⟩ := cells2 (hsz.trans (show Tryd.prog.cellsOf 24 = 2 by kernel_rfl))
  have k3 : Tryd.prog.cellsOf 3 = 1 := by kernel_rfl
  have k25 : Tryd.prog.cellsOf 22 = 1 := by kernel_rfl
  obtain ⟨fuel, hf⟩ := h
  obtain ⟨ys, n, -, -, -, hl, hfs⟩ := DataW.trod_struct Tryd.underlying24 hf
  obtain ⟨y0, y1, rfl⟩ : ∃ y0 y1, ys = [y0, y1] := by
    match ys, hl with
    | [y0, y1], _ => exact ⟨y0, y1, rfl⟩
  have f0 : DataW.trod enc Tryd.prog W 0 sp held n 3 [c0] = some y0 := by simpa [Value.cells, k3] using hfs 0 _ rfl
  have f3 : DataW.trod enc Tryd.prog W 0 sp held n 22 [c1] = some y1 := by simpa [Value.cells, k25] using hfs 1 _ rfl
  obtain ⟨s, e0, -, -⟩ := DataW.trod_int Tryd.underlying3 f0
  have hsl : ∃ A len cap, c1 = .slice A len cap := by
    rcases DataW.trod_slice Tryd.underlying22 f3 with ⟨h, -⟩ | ⟨ad, len, cap, _, _, _, -, h, -⟩
    · exact ⟨none, 0, 0, by simpa using h⟩
    · exact ⟨some ad, len, cap, by simpa using h⟩
  obtain ⟨A, len, cap, rfl⟩ := hsl
  obtain ⟨xs, hx, hg, -⟩ := gi_open (a := A) (len := len) (cap := cap) (d := y1.1) (p := y1.2) ⟨n, by simpa [Value.cells] using f3⟩
  simp only [List.cons.injEq, and_true] at e0
  subst e0 hx
  exact ⟨s, A, cap, xs, rfl, hg⟩
end
end Go.Proofs.YtoimmfcodflmkaaDoor
