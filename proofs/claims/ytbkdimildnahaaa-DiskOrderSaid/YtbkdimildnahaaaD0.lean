/- Contents and jobs of the disk as cells: how they lie, load and compare. No function of the program is walked here. -/
import Derived.Test.YtbkdimildnahaaaZ
import Derived.Laws.StructEq
import Derived.ChangeKeysEq
import Derived.Deep.WholeRow
import Derived.Laws.ResultCell
namespace Go.Proofs.Ytbkdimildnahaaa
open Go.RowKit
set_option linter.unusedVariables false
set_option linter.unusedSimpArgs false

/-- A content: eight words. -/
structure Ct where
  c0 : Int
  c1 : Int
  c2 : Int
  c3 : Int
  c4 : Int
  c5 : Int
  c6 : Int
  c7 : Int
deriving DecidableEq
def Ct.va (a : Ct) : Array Value := #[.int .u64 a.c0, .int .u64 a.c1, .int .u64 a.c2, .int .u64 a.c3, .int .u64 a.c4, .int .u64 a.c5, .int .u64 a.c6, .int .u64 a.c7]
def Ct.zero : Ct := ⟨0, 0, 0, 0, 0, 0, 0, 0⟩
/-- A job. -/
structure Jb where
  wr : Bool
  slot : Int
  frame : Int
  data : Ct
deriving DecidableEq
def Jb.va (j : Jb) : Array Value := #[.bool j.wr, .int .i64 j.slot, .int .i64 j.frame, .int .u64 j.data.c0, .int .u64 j.data.c1, .int .u64 j.data.c2, .int .u64 j.data.c3, .int .u64 j.data.c4, .int .u64 j.data.c5, .int .u64 j.data.c6, .int .u64 j.data.c7]
def Jb.zero : Jb := ⟨false, 0, 0, Ct.zero⟩

theorem ct_eq (a b : Ct) : (a == b) = (a.c0 == b.c0 && (a.c1 == b.c1 && (a.c2 == b.c2 && (a.c3 == b.c3 && (a.c4 == b.c4 && (a.c5 == b.c5 && (a.c6 == b.c6 && (a.c7 == b.c7)))))))) := by
  cases a; cases b
  rw [Bool.eq_iff_iff]
  simp
theorem jb_eq (a b : Jb) : (a == b) = (a.wr == b.wr && (a.slot == b.slot && (a.frame == b.frame && (a.data == b.data)))) := by
  cases a; cases b
  rw [Bool.eq_iff_iff]
  simp

def Ct.at (a : Ct) (i : Nat) : Int := [a.c0, a.c1, a.c2, a.c3, a.c4, a.c5, a.c6, a.c7][i]?.getD 0
theorem u64_cells : (Try.prog.info? 26).map (fun i => (i.zero, i.size, i.bytes)) = some (some (.int .u64 0), 1, 8) := by kernel_rfl
theorem part_u64 (w : World) (xs : Array Value) (i : Nat) (v : Value) (h : xs[i]? = some v) : (part 26 xs i).run Try.prog w = .ok v w := by
  simp [part, isAgg, run_underlying Try.underlying26, h]
theorem eq_items (w : World) (d : Nat) (xs ys : Array Value) (f g : Nat → Int) : ∀ is : List Nat, (∀ i ∈ is, xs[i]? = some (.int .u64 (f i)) ∧ ys[i]? = some (.int .u64 (g i))) →
    (Op.eqItems (d + 1) 26 1 xs ys is).run Try.prog w = .ok (is.all fun i => f i == g i) w
  | [], _ => by simp [Op.eqItems]
  | i :: is, h => by
    have h1 := h i (by simp)
    have ih := eq_items w d xs ys f g is (fun j hj => h j (by simp [hj]))
    unfold Op.eqItems
    simp only [Nat.mul_one, Sem.run_bind, part_u64 w xs i _ h1.1, part_u64 w ys i _ h1.2, Result.andThen_ok, run_equalIn_int w d 26 .u64 .u64 _ _ Try.underlying26]
    cases he : (f i == g i)
    · simp [he]
    · simp only [Bool.not_true, Bool.false_eq_true, if_false, ih]
      simp [he]
theorem run_eqC (w : World) (d : Nat) (a b : Ct) : (Op.equalIn (d + 2) 28 (.agg a.va) (.agg b.va)).run Try.prog w = .ok (a == b) w := by
  obtain ⟨i0, hi, _, hz1, _⟩ := info_parts u64_cells
  have hc : Try.prog.cellsOf 26 = 1 := by kernel_rfl
  rw [show d + 2 = (d + 1) + 1 from rfl, run_equalIn_array w (d + 1) a.va b.va Try.underlying28 hi, hc, eq_items w d a.va b.va a.at b.at (List.range 8) ?_]
  · rw [ct_eq]
    simp [List.range, List.range.loop, Ct.at]
  · intro i hi
    have hi8 : i < 8 := by simpa using hi
    match i, hi8 with
    | 0, _ | 1, _ | 2, _ | 3, _ | 4, _ | 5, _ | 6, _ | 7, _ => exact ⟨rfl, rfl⟩
section
variable {ρ : Operand → Value} {w : World} {x y : Operand}
theorem ev_eqC {a b : Ct} (hx : ρ x = .agg a.va) (hy : ρ y = .agg b.va) (o : Oper) (ho : o.op = .binOp .eql 28 x y 28) : (execOp ρ o).run Try.prog w = .ok (.value (.bool (a == b))) w := by
  simp [execOp, ho, hx, hy, go_sem, run_eqC w 9998]
theorem ev_neC {a b : Ct} (hx : ρ x = .agg a.va) (hy : ρ y = .agg b.va) (o : Oper) (ho : o.op = .binOp .neq 28 x y 28) : (execOp ρ o).run Try.prog w = .ok (.value (.bool (a != b))) w := by
  simp [execOp, ho, hx, hy, go_sem, run_eqC w 9998, bne]
theorem eq_field (w : World) (d : Nat) (xs ys : Array Value) (f : Field) (fs : List Field) (a b : Value) (r : Bool) (hn : (f.name ≠ "_")) (ha : (part f.type xs f.offset).run Try.prog w = .ok a w) (hb : (part f.type ys f.offset).run Try.prog w = .ok b w)
    (hr : (Op.equalIn d f.type a b).run Try.prog w = .ok r w) (s : Bool) (hs : (Op.eqFields d xs ys fs).run Try.prog w = .ok s w) : (Op.eqFields d xs ys (f :: fs)).run Try.prog w = .ok (r && s) w := by
  unfold Op.eqFields
  rw [if_pos hn]
  simp only [Sem.run_bind, ha, hb, hr, Result.andThen_ok]
  cases r
  · simp
  · simp only [Bool.not_true, Bool.false_eq_true, if_false, hs]
    simp
theorem four {α : Type} {β : Type} (g : α → β) (l : List α) (b0 b1 b2 b3 : β) (h : l.map g = [b0, b1, b2, b3]) : ∃ a0 a1 a2 a3, l = [a0, a1, a2, a3] ∧ g a0 = b0 ∧ g a1 = b1 ∧ g a2 = b2 ∧ g a3 = b3 := by
  match l, h with
  | [a0, a1, a2, a3], h => simp at h; exact ⟨a0, a1, a2, a3, rfl, h⟩
theorem part_cell (w : World) (t : TypeId) (xs : Array Value) (i : Nat) (v : Value) (d : TypeDesc) (hd : Try.prog.underlying t = some d) (hp : (match d with | .struct _ | .array _ _ => true | _ => false) = false) (h : xs[i]? = some v) : (part t xs i).run Try.prog w = .ok v w := by
  cases d <;> simp at hp <;> simp [part, isAgg, run_underlying hd, h]
theorem part_ct (w : World) (j : Jb) : (part 28 j.va 3).run Try.prog w = .ok (.agg j.data.va) w := by
  have hs : (Try.prog.info? 28).map (·.size) = some 8 := by kernel_rfl
  obtain ⟨i, hi, hi2⟩ := Option.map_eq_some_iff.1 hs
  simp [part, isAgg, run_underlying Try.underlying28, sizeOf, typeInfo, hi, hi2, Jb.va, Ct.va]
theorem run_eqJ (w : World) (d : Nat) (a b : Jb) : (Op.equalIn (d + 3) 38 (.agg a.va) (.agg b.va)).run Try.prog w = .ok (a == b) w := by
  rw [show d + 3 = (d + 2) + 1 from rfl, run_equalIn_agg w (d + 2) 38 a.va b.va (by kernel_rfl) (by kernel_rfl)]
  have hf : (Try.prog.fieldsOf 38).toList.map (fun f => (decide (f.name ≠ "_"), f.type, f.offset)) = [(true, 4, 0), (true, 3, 1), (true, 3, 2), (true, 28, 3)] := by kernel_rfl
  obtain ⟨f0, f1, f2, f3, hl, h0, h1, h2, h3⟩ := four _ _ _ _ _ _ hf
  simp only [Prod.mk.injEq, decide_eq_true_eq] at h0 h1 h2 h3
  obtain ⟨n0, t0, o0⟩ := h0
  obtain ⟨n1, t1, o1⟩ := h1
  obtain ⟨n2, t2, o2⟩ := h2
  obtain ⟨n3, t3, o3⟩ := h3
  rw [hl, jb_eq]
  refine eq_field w _ _ _ f0 _ (.bool a.wr) (.bool b.wr) _ n0 ?_ ?_ ?_ _ (eq_field w _ _ _ f1 _ (.int .i64 a.slot) (.int .i64 b.slot) _ n1 ?_ ?_ ?_ _ (eq_field w _ _ _ f2 _ (.int .i64 a.frame) (.int .i64 b.frame) _ n2 ?_ ?_ ?_ _ ?_))
  · rw [t0, o0]; exact part_cell w _ _ _ _ _ Try.underlying4 rfl rfl
  · rw [t0, o0]; exact part_cell w _ _ _ _ _ Try.underlying4 rfl rfl
  · rw [t0]; exact run_equalIn_bool' w _ _ _ _ Try.underlying4
  · rw [t1, o1]; exact part_cell w _ _ _ _ _ Try.underlying3 rfl rfl
  · rw [t1, o1]; exact part_cell w _ _ _ _ _ Try.underlying3 rfl rfl
  · rw [t1]; exact run_equalIn_int w _ _ .i64 .i64 _ _ Try.underlying3
  · rw [t2, o2]; exact part_cell w _ _ _ _ _ Try.underlying3 rfl rfl
  · rw [t2, o2]; exact part_cell w _ _ _ _ _ Try.underlying3 rfl rfl
  · rw [t2]; exact run_equalIn_int w _ _ .i64 .i64 _ _ Try.underlying3
  · have := eq_field w (d + 2) a.va b.va f3 [] (.agg a.data.va) (.agg b.data.va) _ n3 (by rw [t3, o3]; exact part_ct w a) (by rw [t3, o3]; exact part_ct w b) (by rw [t3]; exact run_eqC w d a.data b.data) true (by simp [Op.eqFields])
    rw [Bool.and_true] at this
    exact this
theorem eqg_job : Try.prog.eqGuardType Try.prog.depth 38 = false := by kernel_rfl
theorem ev_eqJ {a b : Jb} (hx : ρ x = .agg a.va) (hy : ρ y = .agg b.va) (o : Oper) (ho : o.op = .binOp .eql 38 x y 38) : (execOp ρ o).run Try.prog w = .ok (.value (.bool (a == b))) w := by
  have e : execOp ρ o = (do let v ← (do eqGuard .eql 38 x y (ρ x) (ρ y); binOp .eql 38 (ρ x) (ρ y)); pure (.value v)) := by simp only [execOp, ho]
  rw [e, hx, hy]
  simp only [Sem.run_bind, run_eqGuard_agg w .eql 38 x y a.va b.va eqg_job, run_eql_struct, run_eqJ w 9997, Result.andThen_ok, Sem.run_pure]
theorem ev_neJ {a b : Jb} (hx : ρ x = .agg a.va) (hy : ρ y = .agg b.va) (o : Oper) (ho : o.op = .binOp .neq 38 x y 38) : (execOp ρ o).run Try.prog w = .ok (.value (.bool (a != b))) w := by
  have e : execOp ρ o = (do let v ← (do eqGuard .neq 38 x y (ρ x) (ρ y); binOp .neq 38 (ρ x) (ρ y)); pure (.value v)) := by simp only [execOp, ho]
  rw [e, hx, hy]
  simp only [Sem.run_bind, run_eqGuard_agg w .neq 38 x y a.va b.va eqg_job, run_neq_struct, run_eqJ w 9997, Result.andThen_ok, Sem.run_pure, bne]
end
end Go.Proofs.Ytbkdimildnahaaa
