/- More steps: slices of the call's own, made, built, appended to. No function of the program is walked here. -/
import Derived.Test.YtpoilgfblhacaaaSX
import Derived.Laws.OwnMore
import Derived.OwnWalk
import Derived.Lib.LazyBuf
namespace Go.Proofs.Ytpoilgfblhacaaa
open Go.RowKit
set_option linter.unusedVariables false
set_option linter.unusedSimpArgs false
set_option linter.unusedSectionVars false

variable {α : Type} {va : α → Array Value} {size bytes : Nat} {P : Program} {t e : TypeId}
theorem made_flat {z : Value} {x0 : α} (hz : z.cells = va x0) (hs : ∀ x, (va x).size = size) (h0 : 0 < size) (n : Nat) : (madeCells z.cells (n * size)).toList = flat va (List.replicate n x0) := by
  have hz2 : z.cells.size = size := by rw [hz]; exact hs x0
  apply List.ext_getElem?
  intro j
  by_cases hj : j < n * size
  · have hk : j / size < n := (Nat.div_lt_iff_lt_mul h0).2 hj
    have hx : (List.replicate n x0)[j / size]? = some x0 := by simp [List.getElem?_replicate, hk]
    have h1 := flat_at (va := va) hs hx (i := j % size) (Nat.mod_lt _ h0)
    have e1 : j / size * size + j % size = j := by rw [Nat.mul_comm]; exact Nat.div_add_mod j size
    rw [e1] at h1
    rw [h1, ← hz]
    have hm : j % size < z.cells.size := by rw [hz2]; exact Nat.mod_lt _ h0
    simp [madeCells, hj, hz2, hm]
    rw [Array.getElem?_eq_getElem hm, getElem!_pos z.cells (j % size) hm]
  · have h1 : (flat va (List.replicate n x0)).length = n * size := by
      rw [flat_len hs]; simp
    rw [List.getElem?_eq_none (by simp [madeCells]; omega), List.getElem?_eq_none (by omega)]

section
variable {ops : Array Oper} {rest : List Oper} {o : Oper} {a : Act} {w : World} {Q : Exit → Act → World → Prop} {N : Nat} {L : List (Nat × Value)} {d : Nat} {x y : Operand}
/-- 'make([]T, n)'. -/
theorem sx_make {n : Nat} {z : Value} {x0 : α} {m m2 : Int} (hA : Ag a N L) (hd : o.dst = some d) (hN : d < N) (hg : Wn ops L o) (ho : o.op = .makeSlice t x y) (hx : a.eval x = .int .i64 m) (hy : a.eval y = .int .i64 m2) (hm : m = (n : Int)) (hm2 : m2 = (n : Int))
    (hu : P.underlying t = some (.slice e)) (hi : (P.info? e).map (fun i => (i.zero, i.size, i.bytes)) = some (some z, size, bytes)) (hz : z.cells = va x0) (hs : ∀ x, (va x).size = size) (h0 : 0 < size) (hb : bytes * n ≤ 281474976710656) (h63 : n ≤ 2147483648)
    (h : ∀ A w' a', Own w' w.heap.size e size (.slice A (List.replicate n x0).length n) (List.replicate n x0).length (flat va (List.replicate n x0)) → w.grownBy w' none → Ag a' N ((d, .slice A (List.replicate n x0).length n) :: L) → wpList P ops Q rest a' w') : wpList P ops Q (o :: rest) a w := by
  obtain ⟨i0, hi1, hz0, hz1, hz2⟩ := info_parts hi
  subst hm hm2
  obtain ⟨w', hr, h1, h2⟩ := run_make_full (P := P) w w.heap.size t e i0 z size hu hi1 hz0 hz1 .i64 .i64 n (by rw [hz2]; exact hb) (by unfold maxLen; omega) (Nat.le_refl _)
  rw [made_flat hz hs h0 n] at h1
  have hl : n = (List.replicate n x0).length := by simp
  refine sx_val (v := .slice (some ⟨w.heap.size, 0, none⟩) n n) (w' := w') hA hd (by simp [execOp, ho, hx, hy, hr, Result.andThen]) (fun a' hA' => ?_) hN hg
  refine h (some ⟨w.heap.size, 0, none⟩) w' a' ?_ h2 ?_
  · rw [← hl]; exact Own.of_row h1
  · rw [← hl]; exact hA'
/-- A new row: '[]T{..}'. -/
theorem sx_bs {n : Nat} {cs : Array Value} (hA : Ag a N L) (hd : o.dst = some d) (hN : d < N) (hg : Wn ops L o) (hr : (execOp a.eval o).run P w = .ok (.value (.slice (some ⟨w.heap.size, 0, none⟩) n n)) (w.alloc (.cells cs e)))
    (h : ∀ (B : Nat) w' a', B = w.heap.size → Bx w' B e cs → w.grownBy w' none → Ag a' N ((d, .slice (some ⟨B, 0, none⟩) n n) :: L) → wpList P ops Q rest a' w') : wpList P ops Q (o :: rest) a w :=
  sx_val hA hd hr (h _ _ · rfl (Bx.new w e cs) (g0 (al w _))) hN hg
theorem ev_bs0 {ρ : Operand → Value} (hu : P.underlying t = some (.slice e)) (hi : (P.info? e).isSome = true) (o : Oper) (ho : o.op = .buildSlice t 0 #[]) : (execOp ρ o).run P w = .ok (.value (.slice (some ⟨w.heap.size, 0, none⟩) 0 0)) (w.alloc (.cells #[] e)) := by
  obtain ⟨i, hi⟩ := Option.isSome_iff_exists.1 hi
  simp [execOp, ho, Instr.buildSlice, run_underlying hu, sizeOf, typeInfo, hi, Instr.fill, newRow, go_sem]
theorem ev_eqnil {ρ : Operand → Value} {A : Option Addr} {n c : Nat} {b : Bool} {t' : TypeId} (hx : ρ x = .slice A n c) (hy : ρ y = .slice none 0 0) (hu : P.underlying t = some (.slice e)) (hb : A.isNone = b) (o : Oper) (ho : o.op = .binOp .eql t x y t') : (execOp ρ o).run P w = .ok (.value (.bool b)) w := by
  subst hb
  have hg : ∀ w, (eqGuard .eql t x y (.slice A n c) (.slice none 0 0)).run P w = .ok () w := fun w => by simp [eqGuard]
  have e : execOp ρ o = (do let v ← (do eqGuard .eql t x y (ρ x) (ρ y); binOp .eql t (ρ x) (ρ y)); pure (.value v)) := by simp only [execOp, ho]
  rw [e, hx, hy]
  simp only [Sem.run_bind, hg, Result.andThen_ok, Lib.run_eql_slice_nil w t _ A n c 0 0 hu, Sem.run_pure]
/-- 'append(s, l...)' onto a slice of the call's own. -/
theorem sx_app {z : Value} {l1 l2 : List α} {A1 A2 : Option Addr} {c1 c2 n1 n2 base B : Nat} (hA : Ag a N L) (hd : o.dst = some d) (hN : d < N) (hg : Wn ops L o)
    (ho : o.op = .call { callee := .builtin .append, args := #[x, y], argTypes := #[t, t] }) (hx : a.eval x = .slice A1 n1 c1) (hy : a.eval y = .slice A2 n2 c2) (e1 : n1 = l1.length) (e2 : n2 = l2.length)
    (hu : P.underlying t = some (.slice e)) (hi : (P.info? e).map (fun i => (i.zero, i.size, i.bytes)) = some (some z, size, bytes)) (hz : z.cells.size = size) (h0 : 0 < size) (h1 : ∀ x, (va x).all (·.oneCell') = true)
    (hown : Own w base e size (.slice A1 n1 c1) n1 (flat va l1)) (hr : Sl w B size A2 n2 (flat va l2)) (hl : n1 + n2 ≤ 1000000) (hb : bytes ≤ 1000000) (hbase : base ≤ w.heap.size)
    (h : ∀ A' c' w' a', Own w' base e size (.slice A' (l1 ++ l2).length c') (l1 ++ l2).length (flat va (l1 ++ l2)) → w.grownBy w' (Value.ownBlock (.slice A1 n1 c1)) → Ag a' N ((d, .slice A' (l1 ++ l2).length c') :: L) → wpList P ops Q rest a' w') : wpList P ops Q (o :: rest) a w := by
  obtain ⟨i0, hi1, hz0, hz1, hz2⟩ := info_parts hi
  obtain ⟨A', c', w', hrun, h2, h3, h4⟩ := run_append_ownG (P := P) w base t o.type e i0 z size bytes hu hi1 hz0 hz1 hz2 hz h0 _ n1 (flat va l1) hown B A2 n2 c2 (flat va l2) hr (flat_one h1 l2) (by unfold maxLen; omega) (by have : (n1 + n2) * bytes ≤ 1000000 * 1000000 := Nat.mul_le_mul hl hb; omega) hbase
  have hl : n1 + n2 = (l1 ++ l2).length := by rw [List.length_append, e1, e2]
  refine sx_val (v := .slice A' (n1 + n2) c') (w' := w') hA hd (by simp only [execOp, ho, resolve, invoke, builtin, Sem.run_bind, Sem.run_pure, Result.andThen_ok, List.map_toArray, List.map_cons, List.map_nil, hx, hy, hrun]) (fun a' hA' => ?_) hN hg
  refine h A' c' w' a' ?_ h3 ?_
  · rw [← hl, flat_append]; exact h2
  · rw [← hl]; exact hA'
end
section
variable {w w' : World} {base n hh0 g B : Nat} {v : Value} {xs : List Value} {cs : Array Value}
theorem Own.gBT (h : Own w base e size v n xs) (hg : w.grownBy w' (some g)) (hb : Bx w g t cs) (ht : t ≠ e) : Own w' base e size v n xs := by
  refine h.kept hg ?_
  rcases h.2 with ⟨rfl, _⟩ | ⟨g', off, cap, cur, rfl, _, hgg, _⟩
  · exact .inl rfl
  · right
    simp only [Value.ownBlock]
    intro e'
    injection e' with e'
    subst e'
    have := hgg.symm.trans hb
    injection this with this
    injection this with _ h2 _
    exact ht h2.symm
theorem Own.gBM (h : Own w base e size v n xs) (hg : w.grownBy w' (some g)) (hb : ∃ es cl, w.heap[g]? = some (.map es cl)) : Own w' base e size v n xs := by
  refine h.kept hg ?_
  obtain ⟨es, cl, hb⟩ := hb
  rcases h.2 with ⟨rfl, _⟩ | ⟨g', off, cap, cur, rfl, _, hgg, _⟩
  · exact .inl rfl
  · right
    simp only [Value.ownBlock]
    intro e'
    injection e' with e'
    subst e'
    rw [hgg] at hb
    cases hb
variable {v2 : Value} {base2 n2 size2 : Nat} {xs2 : List Value} {e2 : TypeId}
theorem Own.gOT (h : Own w base e size v n xs) (hg : w.grownBy w' v2.ownBlock) (ho : Own w base2 e2 size2 v2 n2 xs2) (ht : e2 ≠ e) : Own w' base e size v n xs := by
  refine h.kept hg ?_
  rcases h.2 with ⟨rfl, _⟩ | ⟨g', off, cap, cur, rfl, _, hgg, _⟩
  · exact .inl rfl
  · right
    rcases ho.2 with ⟨rfl, _⟩ | ⟨g2, off2, cap2, cur2, rfl, _, hgg2, _⟩
    · simp [Value.ownBlock]
    · simp only [Value.ownBlock]
      intro e'
      injection e' with e'
      subst e'
      have := hgg.symm.trans hgg2
      injection this with this
      injection this with _ h2 _
      exact ht h2.symm
theorem Bx.gOT (h : Bx w B t cs) (hg : w.grownBy w' v2.ownBlock) (ho : Own w base2 e2 size2 v2 n2 xs2) (ht : t ≠ e2) : Bx w' B t cs := by
  refine h.grown hg ?_
  rcases ho.2 with ⟨rfl, _⟩ | ⟨g2, off2, cap2, cur2, rfl, _, hgg2, _⟩
  · simp [Value.ownBlock]
  · simp only [Value.ownBlock]
    intro e'
    injection e' with e'
    subst e'
    have := h.symm.trans hgg2
    injection this with this
    injection this with _ h2 _
    exact ht h2
end
theorem Own.bx0 {w : World} {B : Nat} (h : Bx w B e #[]) : Own w B e size (.slice (some ⟨B, 0, none⟩) 0 0) 0 (flat va []) :=
  ⟨by simp [flat], .inr ⟨B, 0, 0, #[], rfl, Nat.le_refl _, h, Nat.le_refl _, by simp [maxLen], by simp, by simp [flat]⟩⟩
theorem Sl.bx1 {w : World} {B : Nat} {x : α} (h : Bx w B e (va x)) (hs : (va x).size = size) : Sl w (B + 1) size (some ⟨B, 0, none⟩) 1 (flat va [x]) :=
  ⟨by simp [flat, hs], fun _ => ⟨_, rfl, by show B < B + 1; omega, fun j u hu => by
    rw [mk_add, h.cell]
    simpa [flat] using hu⟩⟩
theorem GR.none_nil {n : Nat} {w : World} {A : Option Addr} {c : Nat} {xs : List α} (h : GR n va w A c xs) (hA : A.isNone = true) : xs = [] := by
  cases xs with
  | nil => rfl
  | cons x xs =>
    obtain ⟨ad, e, _⟩ := h.2.2.2 (by simp)
    rw [e] at hA
    simp at hA
end Go.Proofs.Ytpoilgfblhacaaa
