/- Slices whose elements take several cells: they read as a list. No function of the program is walked here. -/
import Derived.Test.YtpoilgfblhacaaaZ
namespace Go.Proofs.Ytpoilgfblhacaaa
open Go.RowKit
set_option linter.unusedVariables false
set_option linter.unusedSimpArgs false

section
variable {α : Type} {va : α → Array Value} {n : Nat}
/-- The cells of a list. -/
def flat (va : α → Array Value) (xs : List α) : List Value := (xs.map fun x => (va x).toList).flatten
theorem flat_nil : flat va [] = [] := rfl
theorem flat_cons (x : α) (xs : List α) : flat va (x :: xs) = (va x).toList ++ flat va xs := by simp [flat]
theorem flat_append (xs ys : List α) : flat va (xs ++ ys) = flat va xs ++ flat va ys := by simp [flat]
theorem flat_len (h : ∀ x, (va x).size = n) : ∀ xs : List α, (flat va xs).length = xs.length * n
  | [] => by simp [flat]
  | x :: xs => by
    rw [flat_cons, List.length_append, flat_len h xs, Array.length_toList, h, List.length_cons, Nat.add_mul]
    omega
theorem flat_drop (h : ∀ x, (va x).size = n) : ∀ (k : Nat) (xs : List α), (flat va xs).drop (k * n) = flat va (xs.drop k)
  | 0, xs => by simp
  | k + 1, [] => by simp [flat]
  | k + 1, x :: xs => by
    have e : (k + 1) * n = (va x).toList.length + k * n := by rw [Array.length_toList, h, Nat.add_mul]; omega
    rw [flat_cons, e, ← List.drop_drop, List.drop_left, flat_drop h k xs, List.drop_succ_cons]
theorem flat_take (h : ∀ x, (va x).size = n) : ∀ (k : Nat) (xs : List α), (flat va xs).take (k * n) = flat va (xs.take k)
  | 0, xs => by simp [flat]
  | k + 1, [] => by simp [flat]
  | k + 1, x :: xs => by
    have e : (k + 1) * n = (va x).toList.length + k * n := by rw [Array.length_toList, h, Nat.add_mul]; omega
    rw [flat_cons, e, List.take_length_add_append, flat_take h k xs, List.take_succ_cons, flat_cons]
theorem flat_at (h : ∀ x, (va x).size = n) {xs : List α} {k : Nat} {x : α} (hx : xs[k]? = some x) {i : Nat} (hi : i < n) : (flat va xs)[k * n + i]? = (va x)[i]? := by
  have hk := (List.getElem?_eq_some_iff.1 hx).1
  have e : xs.drop k = x :: xs.drop (k + 1) := by
    rw [List.drop_eq_getElem_cons hk]
    rw [List.getElem?_eq_getElem hk] at hx
    injection hx with hx
    rw [hx]
  rw [← List.getElem?_drop, flat_drop h, e, flat_cons, List.getElem?_append_left (by rw [Array.length_toList, h]; exact hi), Array.getElem?_toList]
theorem flat_one (h1 : ∀ x, (va x).all (·.oneCell') = true) (xs : List α) : ∀ u ∈ flat va xs, u.oneCell' = true := by
  intro u hu
  simp only [flat, List.mem_flatten, List.mem_map] at hu
  obtain ⟨l, ⟨x, _, rfl⟩, hu⟩ := hu
  have := h1 x
  rw [Array.all_eq_true_iff_forall_mem] at this
  exact this u (by simpa using hu)
theorem flat_set (h : ∀ x, (va x).size = n) {xs : List α} {k : Nat} (hk : k < xs.length) (y : α) : flat va (xs.set k y) = (flat va xs).take (k * n) ++ (va y).toList ++ (flat va xs).drop (k * n + n) := by
  have e2 : k * n + n = (k + 1) * n := by rw [Nat.add_mul]; omega
  rw [flat_take h, e2, flat_drop h, List.set_eq_take_append_cons_drop, if_pos hk, flat_append, flat_cons, List.append_assoc]

/-- The slice '.slice A (length of xs) c' reads as xs, n cells an element. -/
def GR (n : Nat) (va : α → Array Value) (w : World) (A : Option Addr) (c : Nat) (xs : List α) : Prop :=
  xs.length ≤ c ∧ c ≤ maxLen ∧ Sl w w.heap.size n A xs.length (flat va xs)
/-- The slice is the call's own. -/
def OwnR (e : TypeId) (n : Nat) (va : α → Array Value) (w : World) (base : Nat) (A : Option Addr) (m c : Nat) (xs : List α) : Prop := m = xs.length ∧ Own w base e n (.slice A m c) m (flat va xs)

variable {w w' : World} {A : Option Addr} {c : Nat} {xs : List α}
theorem GR.below (h : GR n va w A c xs) (hb : Below w.heap.size w w') : GR n va w' A c xs := ⟨h.1, h.2.1, (h.2.2.below hb).more hb.size⟩
theorem GR.drewN (h : GR n va w A c xs) (k : Nat) : GR n va (w.drewN k) A c xs := h
theorem GR.drew (h : GR n va w A c xs) : GR n va w.drew A c xs := h
theorem GR.alloc (h : GR n va w A c xs) (o : Obj) : GR n va (w.alloc o) A c xs := ⟨h.1, h.2.1, (h.2.2.alloc (Nat.le_refl _) o).more (by simp)⟩
theorem GR.nil (w : World) : GR n va w none 0 [] := ⟨by simp, by simp [maxLen], Sl.zero⟩
theorem GR.len (h : GR n va w A c xs) : xs.length ≤ 9223372036854775807 := by have := h.1; have := h.2.1; unfold maxLen at this; omega
theorem GR.at_ (h : GR n va w A c xs) (hn : ∀ x, (va x).size = n) {k : Nat} {x : α} (hx : xs[k]? = some x) :
    ∃ ad, A = some ad ∧ ad.block < w.heap.size ∧ ∀ i u, (va x)[i]? = some u → w.cell? ((ad.add (k * n)).add i) = some u := by
  have hk := (List.getElem?_eq_some_iff.1 hx).1
  obtain ⟨ad, e, hb, hc⟩ := h.2.2.2 (by omega)
  refine ⟨ad, e, hb, fun i u hu => ?_⟩
  have hi : i < n := by have := (Array.getElem?_eq_some_iff.1 hu).1; rw [hn] at this; exact this
  rw [add_twice]
  exact hc _ _ ((flat_at hn hx hi).trans hu)
theorem OwnR.gr {e : TypeId} {base m : Nat} (h : OwnR e n va w base A m c xs) : GR n va w A c xs := by
  obtain ⟨rfl, h⟩ := h
  exact ⟨h.cap.1, h.cap.2, h.sl⟩
theorem OwnR.len {e : TypeId} {base m : Nat} (h : OwnR e n va w base A m c xs) : m = xs.length := h.1
theorem OwnR.below {e : TypeId} {base m : Nat} (h : OwnR e n va w base A m c xs) (hb : Below w.heap.size w w') : OwnR e n va w' base A m c xs := ⟨h.1, h.2.below hb⟩
theorem OwnR.mono {e : TypeId} {base base' m : Nat} (h : OwnR e n va w base A m c xs) (hb : base' ≤ base) : OwnR e n va w base' A m c xs := ⟨h.1, h.2.mono hb⟩
theorem OwnR.none (w : World) (base : Nat) (e : TypeId) : OwnR e n va w base none 0 0 [] := ⟨rfl, Own.nil w base e n⟩
end

section
variable {P : Program} {ρ : Operand → Value} {w : World} {x y : Operand} {t : TypeId}
/-- A struct or an array, whole, out of whatever memory. -/
theorem ev_loadR {ad : Addr} {cs : Array Value} {d : TypeDesc} {n : Nat} (hx : ρ x = .pointer (some ad)) (hc : ∀ i u, cs[i]? = some u → w.cell? (ad.add i) = some u) (hu : P.underlying t = some d) (hd : (match d with | .struct _ | .array _ _ => true | _ => false) = true) (hi : (P.info? t).map (·.size) = some n) (hn : cs.size = n) (o : Oper) (ho : o.op = .load t x) : (execOp ρ o).run P w = .ok (.value (.agg cs)) w := by
  have e : execOp ρ o = (do pure (.value (← Instr.loadAt t (ρ x)))) := by simp only [execOp, ho]
  subst hn
  obtain ⟨i, hi1, hi2⟩ := Option.map_eq_some_iff.1 hi
  have hl := run_loadCells_list (P := P) w ad cs.toList (fun j v hv => hc j v (by simpa using hv))
  rw [e, hx]
  cases d <;> simp at hd <;> simp_all [Instr.loadAt, Instr.sureAddr, loadVar, isAgg, run_underlying hu, sizeOf, typeInfo]
end

section
variable {P : Program} {ops : Array Oper} {rest : List Oper} {o : Oper} {a : Act} {w w' : World} {v : Value} {Q : Exit → Act → World → Prop}
/-- An operation that gives a value; its guard, if it has one, says so. -/
theorem wpList_run (hw : Region.wanted o (yielded ops a.tmps) = true) (hr : (execOp a.eval o).run P w = .ok (.value v) w') (h : wpList P ops Q rest (a.put o.dst v) w') : wpList P ops Q (o :: rest) a w := by
  refine wpList_step fun K hK => ?_
  rw [if_pos hw]
  show o.upon P a K Q ((execOp a.eval o).run P w)
  rw [hr, Oper.upon_value]
  exact hK _ _ h
/-- A load of a struct or an array, whole. -/
theorem wpList_loadR (hw : Region.wanted o (yielded ops a.tmps) = true) (t : TypeId) (x : Operand) (ho : o.op = .load t x) (ad : Addr) (hx : a.eval x = .pointer (some ad)) (cs : Array Value) (hc : ∀ i u, cs[i]? = some u → w.cell? (ad.add i) = some u) {d : TypeDesc} (hu : P.underlying t = some d) (hd : (match d with | .struct _ | .array _ _ => true | _ => false) = true) (hi : (P.info? t).map (·.size) = some cs.size)
    (h : wpList P ops Q rest (a.put o.dst (.agg cs)) w) : wpList P ops Q (o :: rest) a w :=
  wpList_run hw (ev_loadR hx hc hu hd hi rfl o ho) h
end
end Go.Proofs.Ytpoilgfblhacaaa
