/- Variables of the call's own, whole: what a store leaves of them. No function of the program is walked here. -/
import Derived.Test.YtpoilgfblhacaaaO
import Derived.Laws.Tables
import Derived.Laws.CopyOwn
namespace Go.Proofs.Ytpoilgfblhacaaa
open Go.RowKit

theorem al (w : World) (o : Obj) : Below w.heap.size w (w.alloc o) := (Below.refl _ _).alloc (Nat.le_refl _) o
theorem below_step {w w1 w2 : World} (h1 : Below w.heap.size w w1) (h2 : Below w1.heap.size w1 w2) : Below w.heap.size w w2 := h1.trans (h2.mono h1.size)

/-- Block B is a variable of the call's own. -/
def Bx (w : World) (B : Nat) (t : TypeId) (cs : Array Value) : Prop := w.heap[B]? = some (.cells cs t (0, 0))
section
variable {w w' : World} {B : Nat} {t : TypeId} {cs : Array Value}
theorem Bx.cell (h : Bx w B t cs) (i : Nat) : w.cell? ⟨B, i, none⟩ = cs[i]? := cell_of_row w B i cs t (0, 0) h
theorem Bx.lt (h : Bx w B t cs) : B < w.heap.size := (Array.getElem?_eq_some_iff.1 h).1
theorem Bx.frozen (h : Bx w B t cs) (i : Nat) : w.frozen? ⟨B, i, none⟩ = false := by
  unfold Bx at h
  simp [World.frozen?, h]
theorem Bx.new (w : World) (t : TypeId) (cs : Array Value) : Bx (w.alloc (.cells cs t)) w.heap.size t cs := heap_alloc_new w _
theorem Bx.alloc (h : Bx w B t cs) (o : Obj) : Bx (w.alloc o) B t cs := (Below.heap_alloc w o B h.lt).trans h
theorem Bx.below (h : Bx w B t cs) (hb : Below w.heap.size w w') : Bx w' B t cs := (hb.block B h.lt).trans h
theorem Bx.belowB {C : Nat} (h : Bx w B t cs) (hb : Below C w w') (hB : B < C) : Bx w' B t cs := (hb.block B hB).trans h
theorem Bx.set (h : Bx w B t cs) (i : Nat) (v : Value) : Bx (w.setCell ⟨B, i, none⟩ v) B t (cs.setIfInBounds i v) := heap_setCell_same w B i cs t v h
theorem Bx.setO (h : Bx w B t cs) {p : Addr} (hp : B ≠ p.block) (v : Value) : Bx (w.setCell p v) B t cs := (Below.heap_setCell w p v B hp).trans h
theorem Bx.row (h : Bx w B t cs) (ds : Array Value) : Bx (w.setRow B ds) B t ds := setRow_heap w B cs ds t (0, 0) h
theorem Bx.rowO (h : Bx w B t cs) {g : Nat} (hg : B ≠ g) (ds : Array Value) : Bx (w.setRow g ds) B t cs := (setRow_other w g B ds hg).trans h
theorem Bx.grown {row : Option Nat} (h : Bx w B t cs) (hg : w.grownBy w' row) (hr : some B ≠ row) : Bx w' B t cs := (hg.block B h.lt hr).trans h
theorem undrew {C : Nat} (h : Below C w.drew w') : Below C w w' := ⟨h.os, h.tape, h.output, h.size, h.block⟩
theorem Bx.drewN (h : Bx w B t cs) (k : Nat) : Bx (w.drewN k) B t cs := h
end
section
variable {w : World} {base : Nat} {e : TypeId} {size : Nat} {v : Value} {n : Nat} {xs : List Value}
theorem Own.setLow (h : Own w base e size v n xs) {p : Addr} (hp : p.block < base) (u : Value) : Own (w.setCell p u) base e size v n xs :=
  h.setCell_far (fun hb => by have := (h.lt _ hb).1; omega) u
theorem Own.rowLow (h : Own w base e size v n xs) {g : Nat} (hg : g < base) (ds : Array Value) : Own (w.setRow g ds) base e size v n xs := by
  refine ⟨h.1, ?_⟩
  rcases h.2 with hn | ⟨g', off, cap, cur, hv, hb, hgg, r⟩
  · exact .inl hn
  · exact .inr ⟨g', off, cap, cur, hv, hb, (setRow_other w g g' ds (by omega)).trans hgg, r⟩
/-- A store into a variable of another type does not touch a slice of the call's own. -/
theorem Own.rowT (h : Own w base e size v n xs) {g : Nat} {t : TypeId} {cs : Array Value} (hb : Bx w g t cs) (ht : t ≠ e) (ds : Array Value) : Own (w.setRow g ds) base e size v n xs := by
  refine ⟨h.1, ?_⟩
  rcases h.2 with hn | ⟨g', off, cap, cur, hv, hbb, hgg, r⟩
  · exact .inl hn
  · refine .inr ⟨g', off, cap, cur, hv, hbb, (setRow_other w g g' ds ?_).trans hgg, r⟩
    intro e'
    subst e'
    have := hgg.symm.trans hb
    injection this with this
    injection this with _ h2 _
    exact ht h2.symm
end
end Go.Proofs.Ytpoilgfblhacaaa
