/- What the rows of this seat share: the listed variable at the call's start. -/
import Derived.Test.YtfacdnpgidnafaaDoorTie
import Derived.Test.YtfacdnpgidnafaaDoorCards
import Derived.Test.YtfacdnpgidnafaaDoorL1
import Derived.ProofKit
import Derived.LaidMore
import Derived.OpenShut
import Derived.ShutString
import Derived.ChangeOld
import Derived.Stop.Joined
import Derived.SevenTiedAt
import Derived.Lib.LaidTab
namespace Go.Proofs.YtfacdnpgidnafaaDoor
open Go.ChangeShapes Go.WideShapes Go.ChangeAt Go.RowKit
open Go.ChangeMaps (open_string shut_string)

theorem ownK : ownKnob Tryd.prog.godebug = none := by kernel_rfl
theorem laidOut : laidOutB Tryd.prog = true := by kernel_rfl
abbrev lds : List (String × DataW Unit) := [("headgate/role.allowed", Rows.laid_headgate_role_allowed)]
theorem gAllowed : Tryd.prog.globalNamed "headgate/role.allowed" = some 0 := by kernel_rfl
theorem tAllowed : (Tryd.prog.globals[0]?).map (·.type) = some 63 := by kernel_rfl

theorem door_met (os : Os) (args : Array Value) : laidMetH Tryd.prog lds ((World.doorLaid Tryd.prog 400 os).forCall (fun _ _ => 0) ⟨#[], args, []⟩).memory :=
  laidMetH_of_parts3 (fuel := 8) (laidMet_of_run' 8 (by kernel_rfl) (by kernel_rfl)) (by kernel_rfl) (by kernel_rfl)

theorem laid_of {W : World} (h : laidMetH Tryd.prog lds W) : Laid W ∧ 0 < W.heap.size := by
  rw [MakeChecks.laidMetH_plain _ _ _ (by kernel_rfl)] at h
  obtain ⟨ps, ⟨g0, t0, cs0, f0, p0, q0, hg0, ht0, hv0, hd0, _⟩, _, _⟩ := h
  obtain rfl := Option.some.inj (gAllowed.symm.trans hg0)
  obtain rfl := Option.some.inj (tAllowed.symm.trans ht0)
  have hcs : cs0.toList = tab.map fun z => Value.int .u8 z := Lib.cells_of_tab Tryd.underlying63 Tryd.underlying5 (by kernel_rfl) (by kernel_rfl) (show DataW.trod _ Tryd.prog W 0 _ false f0 63 _ = some (Lib.tabData .u8 tab, p0) from hd0)
  have hl : Laid W := fun j hj => by
    have hc := World.var?_cell hg0 hv0 j
    rw [hc]
    have e : cs0[j]? = cs0.toList[j]? := by simp
    rw [e, hcs]
    have hj' : j < tab.length := hj
    simp [hj']
  exact ⟨hl, Nat.lt_of_le_of_lt (Nat.zero_le _) (World.block_lt_of_cell? W ⟨0, 0, none⟩ (hl 0 (by omega)))⟩

section
variable {H : Type} {enc : TypeId × Value → H}
/-- A list of integers that came in. -/
theorem gi_open {W : World} {sp : Nat → Bool} {held : Bool} {a : Option Addr} {len cap : Nat} {d : DataW H} {p : List MemPlace} (h : DataW.Trod enc Tryd.prog W 0 sp held 25 (.slice a len cap) d p) :
    ∃ xs : List Int, xs.length = len ∧ GI W a cap xs ∧ ∀ x ∈ xs, (Lit.int .i64 x).wf = true := by
  obtain ⟨fuel, hf⟩ := h
  rcases open_ints Tryd.underlying25 Tryd.underlying3 (by kernel_rfl) hf with ⟨hcs, _⟩ | ⟨x, l, c, zs, hcs, _, hl, hm, hz, _, hcell, hwz⟩
  · simp [Value.cells] at hcs
    obtain ⟨rfl, rfl, rfl⟩ := hcs
    exact ⟨[], rfl, GI.nil _, by simp⟩
  · simp [Value.cells] at hcs
    obtain ⟨rfl, rfl, rfl⟩ := hcs
    have hlen : len ≤ zs.length := by
      have : zs.length = if sp x.block then cap else len := by simpa using hz
      rw [this]
      split <;> omega
    have hxl : (zs.take len).length = len := by rw [List.length_take]; omega
    refine ⟨zs.take len, hxl, ⟨by omega, hm, by rw [iv_len]; omega, fun hn => ⟨x, rfl, ?_, fun j u hu => ?_⟩⟩, fun y hy => hwz y (List.mem_of_mem_take hy)⟩
    · have := hcell 0 (by omega)
      exact World.block_lt_of_cell? W _ (by simpa [Addr.add] using this)
    · have hj : j < (iv (zs.take len)).length := by
        rcases Nat.lt_or_ge j (iv (zs.take len)).length with h | h
        · exact h
        · rw [List.getElem?_eq_none h] at hu; cases hu
      rw [iv_len] at hj
      rw [hcell j (by omega)]
      rw [iv_at _ j hj] at hu
      rw [← hu, List.getElem?_take, if_pos (by omega), List.getD_eq_getElem?_getD]
end
end Go.Proofs.YtfacdnpgidnafaaDoor
