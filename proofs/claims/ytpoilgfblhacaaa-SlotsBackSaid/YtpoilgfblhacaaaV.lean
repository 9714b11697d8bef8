/- Regions walked over an abstract frame: what is known of a few slots, step by step. No function of the program is walked here. -/
import Derived.Test.YtpoilgfblhacaaaM
import Derived.Laws.Tables
namespace Go.Proofs.Ytpoilgfblhacaaa
open Go.RowKit

/-- Slot i of the frame holds v. -/
def Sv (a : Act) (i : Nat) (v : Value) : Prop := a.tmps[i]? = some v
/-- The frame a' is a but for slots from lo on. -/
def Nx (lo : Nat) (a a' : Act) : Prop := a'.tmps.size = a.tmps.size ∧ a'.defers = a.defers ∧ ∀ i, i < lo → a'.tmps[i]? = a.tmps[i]?

theorem Nx.refl (lo : Nat) (a : Act) : Nx lo a a := ⟨rfl, rfl, fun _ _ => rfl⟩
theorem Nx.trans {lo : Nat} {a b c : Act} (h : Nx lo a b) (h' : Nx lo b c) : Nx lo a c :=
  ⟨h'.1.trans h.1, h'.2.1.trans h.2.1, fun i hi => (h'.2.2 i hi).trans (h.2.2 i hi)⟩
theorem Nx.mono {lo lo' : Nat} {a b : Act} (h : Nx lo a b) (hl : lo' ≤ lo) : Nx lo' a b := ⟨h.1, h.2.1, fun i hi => h.2.2 i (Nat.lt_of_lt_of_le hi hl)⟩
theorem Nx.keep {lo : Nat} {a b : Act} (h : Nx lo a b) {i : Nat} {v : Value} (hv : Sv a i v) (hi : i < lo) : Sv b i v := (h.2.2 i hi).trans hv
theorem Nx.put {lo d : Nat} {a b : Act} (h : Nx lo a b) (hd : lo ≤ d) (v : Value) : Nx lo a (b.put (some d) v) := by
  refine ⟨by simpa [Act.put] using h.1, h.2.1, fun i hi => ?_⟩
  show (b.tmps.setIfInBounds d v)[i]? = _
  rw [Array.getElem?_setIfInBounds, if_neg (by omega)]
  exact h.2.2 i hi
theorem Sv.eval {a : Act} {i : Nat} {v : Value} (h : Sv a i v) : a.eval (.tmp i) = v := by
  show a.tmps.getD i undef = v
  rw [Array.getD_eq_getD_getElem?, h]
  rfl
theorem Sv.self {a : Act} {i : Nat} (h : i < a.tmps.size) (v : Value) : Sv (a.put (some i) v) i v := by
  show (a.tmps.setIfInBounds i v)[i]? = some v
  simp [h]

section
variable {P : Program} {ops : Array Oper} {Q : Exit → Act → World → Prop} {a : Act} {w w' : World} {l : List Oper} {k d : Nat} {v : Value} {op : Op}

theorem drop_at {o : Oper} (h : l[k]? = some o) : l.drop k = o :: l.drop (k + 1) := by
  obtain ⟨hk, rfl⟩ := List.getElem?_eq_some_iff.1 h
  exact List.drop_eq_getElem_cons hk

/-- A step without a guard. -/
theorem wk_val (ho : l[k]?.map (fun o => (o.dst, o.op, o.guard)) = some (some d, op, none)) (hd : d < a.tmps.size)
    (hr : ∀ o : Oper, o.op = op → (execOp a.eval o).run P w = .ok (.value v) w')
    (h : ∀ a', Nx d a a' → Sv a' d v → wpList P ops Q (l.drop (k + 1)) a' w') : wpList P ops Q (l.drop k) a w := by
  obtain ⟨o, h1, h2⟩ := Option.map_eq_some_iff.1 ho
  simp only [Prod.mk.injEq] at h2
  obtain ⟨hd1, hop, hg⟩ := h2
  rw [drop_at h1]
  refine wpList_plain hg fun K hK => ?_
  show o.upon P a K Q ((execOp a.eval o).run P w)
  rw [hr o hop, Oper.upon_value, hd1]
  exact hK _ _ (h _ ((Nx.refl _ _).put (Nat.le_refl _) _) (Sv.self hd _))

theorem wanted_of {o : Oper} {j s : Nat} {want b : Bool} (hg : o.guard = some (j, want)) (hj : (ops[j]?).bind (·.dst) = some s) (hs : Sv a s (.bool b)) : Region.wanted o (yielded ops a.tmps) = (b == want) := by
  have h : yielded ops a.tmps j = some b := by
    unfold yielded
    rw [hj]
    show (match a.tmps[s]? with | some (.bool b) => some b | _ => none) = some b
    rw [hs]
  simp only [Region.wanted, hg, h]
  cases b <;> cases want <;> rfl

/-- A step whose guard holds. -/
theorem wk_yes {j s : Nat} {want : Bool} (ho : l[k]?.map (fun o => (o.dst, o.op, o.guard)) = some (some d, op, some (j, want))) (hj : (ops[j]?).bind (·.dst) = some s) (hs : Sv a s (.bool want)) (hd : d < a.tmps.size)
    (hr : ∀ o : Oper, o.op = op → (execOp a.eval o).run P w = .ok (.value v) w')
    (h : ∀ a', Nx d a a' → Sv a' d v → wpList P ops Q (l.drop (k + 1)) a' w') : wpList P ops Q (l.drop k) a w := by
  obtain ⟨o, h1, h2⟩ := Option.map_eq_some_iff.1 ho
  simp only [Prod.mk.injEq] at h2
  obtain ⟨hd1, hop, hg⟩ := h2
  rw [drop_at h1]
  refine wpList_step fun K hK => ?_
  rw [wanted_of hg hj hs, if_pos (by cases want <;> rfl)]
  show o.upon P a K Q ((execOp a.eval o).run P w)
  rw [hr o hop, Oper.upon_value, hd1]
  exact hK _ _ (h _ ((Nx.refl _ _).put (Nat.le_refl _) _) (Sv.self hd _))

/-- A step whose guard does not hold. -/
theorem wk_no {j s : Nat} {want b : Bool} (ho : l[k]?.map (fun o => (o.dst, o.op, o.guard)) = some (some d, op, some (j, want))) (hj : (ops[j]?).bind (·.dst) = some s) (hs : Sv a s (.bool b)) (hb : (b == want) = false)
    (h : ∀ a', Nx d a a' → wpList P ops Q (l.drop (k + 1)) a' w) : wpList P ops Q (l.drop k) a w := by
  obtain ⟨o, h1, h2⟩ := Option.map_eq_some_iff.1 ho
  simp only [Prod.mk.injEq] at h2
  obtain ⟨hd1, hop, hg⟩ := h2
  rw [drop_at h1]
  refine wpList_step fun K hK => ?_
  rw [wanted_of hg hj hs, if_neg (by simp [hb]), hd1]
  exact hK _ _ (h _ ((Nx.refl _ _).put (Nat.le_refl _) _))
end

section
variable {P : Program} {ρ : Operand → Value} {w : World} {x y : Operand} {u v : Value} {k : IntKind} {m n : Int} {t t' : TypeId}
theorem ev_move (h : ρ x = v) (o : Oper) (ho : o.op = .move x) : (execOp ρ o).run P w = .ok (.value v) w := by
  simp [execOp, ho, h, go_sem]
theorem ev_assign (h : ρ x = v) (o : Oper) (ho : o.op = .assign x) : (execOp ρ o).run P w = .ok (.value v) w := by
  simp [execOp, ho, h, go_sem]
theorem ev_eql (hx : ρ x = .int k m) (hy : ρ y = .int k n) (o : Oper) (ho : o.op = .binOp .eql t x y t') : (execOp ρ o).run P w = .ok (.value (.bool (m == n))) w := by
  simp [execOp, ho, hx, hy, go_sem]
theorem ev_gtr (hx : ρ x = .int k m) (hy : ρ y = .int k n) (o : Oper) (ho : o.op = .binOp .gtr t x y t') : (execOp ρ o).run P w = .ok (.value (.bool (decide (n < m)))) w := by
  simp [execOp, ho, hx, hy, go_sem]
theorem ev_add (hx : ρ x = .int k m) (hy : ρ y = .int k n) (o : Oper) (ho : o.op = .binOp .add t x y t') : (execOp ρ o).run P w = .ok (.value (.int k (k.wrap (m + n)))) w := by
  simp [execOp, ho, hx, hy, go_sem]
theorem ev_not {b : Bool} (hx : ρ x = .bool b) (o : Oper) (ho : o.op = .unOp .not t x) : (execOp ρ o).run P w = .ok (.value (.bool (!b))) w := by
  simp [execOp, ho, hx, go_sem]
theorem ev_and {b c : Bool} {z : Operand} (hx : ρ x = .bool b) (hy : b = true → ρ y = .bool c) (o : Oper) (ho : o.op = .pick x y z) (hz : ρ z = .bool false) : (execOp ρ o).run P w = .ok (.value (.bool (b && c))) w := by
  cases b
  · simp [execOp, ho, hx, hz, go_sem]
  · simp [execOp, ho, hx, hy rfl, go_sem]
theorem ev_or {b c : Bool} {z : Operand} (hx : ρ x = .bool b) (hy : b = false → ρ z = .bool c) (o : Oper) (ho : o.op = .pick x y z) (hz : ρ y = .bool true) : (execOp ρ o).run P w = .ok (.value (.bool (b || c))) w := by
  cases b
  · simp [execOp, ho, hx, hy rfl, go_sem]
  · simp [execOp, ho, hx, hz, go_sem]
end
end Go.Proofs.Ytpoilgfblhacaaa
