/- The disk's map keys. No function of the program is walked here. -/
import Derived.Test.YtbkdimildnahaaaMP
import Derived.Test.YtbkdimildnahaaaDP
namespace Go.Proofs.Ytbkdimildnahaaa
open Go.RowKit
set_option linter.unusedVariables false
set_option linter.unusedSimpArgs false

/-- A key: of a slot or of a frame. -/
def kyv (p : Bool × Int) : Value := .agg #[.bool p.1, .int .i64 p.2]
theorem ck_bool (w : World) (e : Bool) (n : Nat) (b : Bool) : (Instr.checkKey e (n + 1) 4 (.bool b)).run Try.prog w = .ok () w := by
  unfold Instr.checkKey
  simp [run_underlying Try.underlying4]
theorem ck_int (w : World) (e : Bool) (n : Nat) (b : Int) : (Instr.checkKey e (n + 1) 3 (.int .i64 b)).run Try.prog w = .ok () w := by
  unfold Instr.checkKey
  simp [run_underlying Try.underlying3]
theorem ck_key (w : World) (e : Bool) (p : Bool × Int) : (Instr.checkKey e 10000 70 (kyv p)).run Try.prog w = .ok () w := by
  have h1 := ck_bool w e 9998 p.1
  have h2 := ck_int w e 9998 p.2
  rw [show (10000 : Nat) = 9999 + 1 from rfl]
  unfold Instr.checkKey
  simp [run_underlying Try.underlying70, kyv, part, isAgg, run_underlying Try.underlying4, run_underlying Try.underlying3, h1, h2]
theorem two {α : Type} {β : Type} (g : α → β) (l : List α) (b0 b1 : β) (h : l.map g = [b0, b1]) : ∃ a0 a1, l = [a0, a1] ∧ g a0 = b0 ∧ g a1 = b1 := by
  match l, h with
  | [a0, a1], h => simp at h; exact ⟨a0, a1, rfl, h⟩
theorem eq_key (w : World) (d : Nat) (p q : Bool × Int) : (Op.equalIn (d + 2) 70 (kyv p) (kyv q)).run Try.prog w = .ok (decide (p = q)) w := by
  unfold kyv
  rw [show d + 2 = (d + 1) + 1 from rfl, run_equalIn_agg w (d + 1) 70 _ _ (by kernel_rfl) (by kernel_rfl)]
  have hf : (Try.prog.fieldsOf 70).toList.map (fun f => (decide (f.name ≠ "_"), f.type, f.offset)) = [(true, 4, 0), (true, 3, 1)] := by kernel_rfl
  obtain ⟨f0, f1, hl, h0, h1⟩ := two _ _ _ _ hf
  simp only [Prod.mk.injEq, decide_eq_true_eq] at h0 h1
  obtain ⟨n0, t0, o0⟩ := h0
  obtain ⟨n1, t1, o1⟩ := h1
  rw [hl]
  have e1 := eq_field w (d + 1) #[.bool p.1, .int .i64 p.2] #[.bool q.1, .int .i64 q.2] f1 [] (.int .i64 p.2) (.int .i64 q.2) _ n1 (by rw [t1, o1]; exact part_cell w _ _ _ _ _ Try.underlying3 rfl rfl) (by rw [t1, o1]; exact part_cell w _ _ _ _ _ Try.underlying3 rfl rfl) (by rw [t1]; exact run_equalIn_int w _ _ .i64 .i64 _ _ Try.underlying3) true (by simp [Op.eqFields])
  have e0 := eq_field w (d + 1) #[.bool p.1, .int .i64 p.2] #[.bool q.1, .int .i64 q.2] f0 [f1] (.bool p.1) (.bool q.1) _ n0 (by rw [t0, o0]; exact part_cell w _ _ _ _ _ Try.underlying4 rfl rfl) (by rw [t0, o0]; exact part_cell w _ _ _ _ _ Try.underlying4 rfl rfl) (by rw [t0]; exact run_equalIn_bool' w _ _ _ _ Try.underlying4) _ e1
  rw [e0]
  congr 1
  obtain ⟨a, b⟩ := p
  obtain ⟨c, d⟩ := q
  rw [Bool.eq_iff_iff]
  simp
theorem ask_key (w : World) (p : Bool × Int) : ∀ (es : List MapEntry) (ks : List (Bool × Int)) (i : Nat), es.map (·.key) = ks.map kyv → (Instr.findAsking 70 (kyv p) es i).run Try.prog w = .ok ((ks.findIdx? (fun x => decide (p = x))).bind fun j => es[j]?.map fun e => (j + i, e.val)) w
  | [], [], i, _ => by simp [Instr.findAsking]
  | [], k :: ks, i, h => by simp at h
  | e :: es, [], i, h => by simp at h
  | e :: es, k :: ks, i, h => by
    simp only [List.map_cons, List.cons.injEq] at h
    have ih := ask_key w p es ks (i + 1) h.2
    unfold Instr.findAsking
    have hq : (Op.equal 70 (kyv p) (kyv k)).run Try.prog w = .ok (decide (p = k)) w := by
      unfold Op.equal
      exact eq_key w 9998 p k
    rw [h.1]
    simp only [Sem.run_bind, hq, Result.andThen_ok]
    by_cases hpk : p = k
    · subst hpk; simp [List.findIdx?_cons]
    · simp only [hpk, decide_false, Bool.false_eq_true, if_false, ih, List.findIdx?_cons]
      cases hj : ks.findIdx? (fun x => decide (p = x)) with
      | none => simp
      | some j =>
        simp only [Option.map_some, Option.bind_some, List.getElem?_cons_succ]
        cases es[j]? <;> simp <;> omega
theorem mk_key : MK (Bool × Int) Try.prog 70 kyv where
  check := fun w e p => ck_key w e p
  find := by
    intro w p es ks h
    unfold Instr.findKey
    simp only [Sem.run_bind, run_underlying Try.underlying70, Result.andThen_ok]
    match es, ks, h with
    | [], [], _ => simp [Instr.findNow]
    | [], k :: ks, h => simp at h
    | e :: es, ks, h =>
      have := ask_key w p (e :: es) ks 0 h
      have hn : ∀ fs, Instr.findNow (.struct fs) (kyv p) (e :: es) 0 = none := fun fs => by simp [Instr.findNow, Instr.sameNow, kyv]
      rw [hn]
      simpa using this
  stays := by
    intro w p
    simp [Instr.keyThatStays, Instr.sameBits, kyv]
end Go.Proofs.Ytbkdimildnahaaa
