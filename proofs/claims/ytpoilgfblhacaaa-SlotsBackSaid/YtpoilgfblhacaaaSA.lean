/- Steps: an array of rows that is a variable of its own: the address of an element, a store of an element, its cells. No function of the program is walked here. -/
import Derived.Test.YtpoilgfblhacaaaSE
namespace Go.Proofs.Ytpoilgfblhacaaa
open Go.RowKit
set_option linter.unusedVariables false
set_option linter.unusedSimpArgs false

section
variable {P : Program} {ρ : Operand → Value} {w : World} {x y ix : Operand} {t e : TypeId}
theorem ev_idxP {ad : Addr} {n sz k : Nat} {j : Int} (hx : ρ x = .pointer (some ad)) (hi : ρ ix = .int .i64 j) (hj : j = (k : Int)) (hk : k < n) (hu : P.underlying t = some (.array n e)) (hs : (P.info? e).map (·.size) = some sz) (o : Oper) (ho : o.op = .indexAddr t x ix) : (execOp ρ o).run P w = .ok (.value (.pointer (some (ad.add (k * sz))))) w := by
  obtain ⟨i, hi1, hi2⟩ := Option.map_eq_some_iff.1 hs
  subst hj
  have h1 : (k : Int) < (n : Int) := by omega
  simp [execOp, ho, hx, hi, Instr.indexAt, Instr.sureAddr, run_underlying hu, sizeOf, typeInfo, hi1, hi2, h1, hk, go_sem]
end
section
variable {α : Type} {va : α → Array Value} {size : Nat} {w : World} {B : Nat} {t : TypeId} {xs : List α}
/-- The cells of an element. -/
theorem Bx.el (h : Bx w B t (flat va xs).toArray) (hs : ∀ x, (va x).size = size) {k : Nat} {x : α} (hx : xs[k]? = some x) : ∀ i u, (va x)[i]? = some u → w.cell? (((⟨B, 0, none⟩ : Addr).add (k * size)).add i) = some u := by
  intro i u hu
  have hi : i < size := by rw [← hs x]; exact (Array.getElem?_eq_some_iff.1 hu).1
  have h1 := flat_at (va := va) hs hx (i := i) hi
  have h2 := h.cell (k * size + i)
  rw [List.getElem?_toArray, h1, hu] at h2
  rw [add_twice]
  have ha : (⟨B, 0, none⟩ : Addr).add (k * size + i) = ⟨B, k * size + i, none⟩ := by
    by_cases h0 : k * size + i = 0
    · rw [h0]; simp [Addr.add]
    · simp [Addr.add, h0]
      intro a b
      omega
  rw [ha]
  exact h2
/-- A store of an element. -/
theorem run_store_bx {P : Program} {e : TypeId} (h : Bx w B t (flat va xs).toArray) (hs : ∀ x, (va x).size = size) (h1 : ∀ x, (va x).all (·.oneCell') = true) {k : Nat} (hk : k < xs.length) (y : α) (hi : (P.info? e).map (·.size) = some size) :
    ∃ w', (Instr.storeAt e (.pointer (some ⟨B, k * size, none⟩)) (.agg (va y))).run P w = .ok () w' ∧ Bx w' B t (flat va (xs.set k y)).toArray ∧ w.grownBy w' (some B) := by
  obtain ⟨ii, hi1, hi2⟩ := Option.map_eq_some_iff.1 hi
  have hsz := hs y
  have hfl : (flat va xs).length = xs.length * size := flat_len hs xs
  have hks : (k + 1) * size ≤ xs.length * size := Nat.mul_le_mul_right _ hk
  rw [Nat.add_mul, Nat.one_mul] at hks
  have hst := run_storeCells_at P B (k * size) t (va y).toList 0 (flat va xs).toArray w h (by rw [Array.length_toList, hsz]; simp only [List.size_toArray]; omega) (by intro u hu; have := h1 y; rw [Array.all_eq_true_iff_forall_mem] at this; exact this u (by simpa using hu))
  simp only [Nat.add_zero, Array.length_toList, hsz] at hst
  have hrun : (Instr.storeAt e (.pointer (some ⟨B, k * size, none⟩)) (.agg (va y))).run P w = .ok () (w.setRow B (flat va (xs.set k y)).toArray) := by
    have hcz : (Value.agg (va y)).cells = va y := rfl
    rw [flat_set hs hk y]
    simp [Instr.storeAt, Instr.sureAddr, storeVar, sizeOf, typeInfo, hi1, hi2, hcz, hsz, hst]
  exact ⟨_, hrun, h.row _, ⟨rfl, rfl, rfl, by simp, fun k _ hk => setRow_other w B k _ (fun e => hk (by rw [e]))⟩⟩
end
theorem add0 (B n : Nat) : (⟨B, 0, none⟩ : Addr).add n = ⟨B, n, none⟩ := by
  by_cases h0 : n = 0
  · rw [h0]; simp [Addr.add]
  · simp [Addr.add, h0]
section
variable {P : Program} {ops : Array Oper} {rest : List Oper} {o : Oper} {a : Act} {w : World} {Q : Exit → Act → World → Prop} {N : Nat} {L : List (Nat × Value)}
/-- A store of an element, as a step. -/
theorem sx_sbx {α : Type} {va : α → Array Value} {size B k : Nat} {t t' : TypeId} {xs : List α} {v : α} {x y : Operand} (hA : Ag a N L) (hd : o.dst = none) (hg : Wn ops L o) (ho : o.op = .store t x y) (hx : a.eval x = .pointer (some ((⟨B, 0, none⟩ : Addr).add (k * size)))) (hy : a.eval y = .agg (va v)) (hb : Bx w B t' (flat va xs).toArray) (hs : ∀ x, (va x).size = size) (h1 : ∀ x, (va x).all (·.oneCell') = true) (hk : k < xs.length) (hi : (P.info? t).map (·.size) = some size)
    (h : ∀ w', Bx w' B t' (flat va (xs.set k v)).toArray → w.grownBy w' (some B) → wpList P ops Q rest a w') : wpList P ops Q (o :: rest) a w := by
  obtain ⟨w', hr, hb', hgr⟩ := run_store_bx (P := P) (e := t) hb hs h1 hk v hi
  refine sx_skip hA hd hg ?_ (h w' hb' hgr)
  have e : execOp a.eval o = (do Instr.storeAt t (a.eval x) (a.eval y); pure .skip) := by simp only [execOp, ho]
  rw [e, hx, hy, add0]
  simp [hr]
end
end Go.Proofs.Ytpoilgfblhacaaa
