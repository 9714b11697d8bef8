/- Steps of a walk over frames that are known by their slots. No function of the program is walked here. -/
import Derived.Test.YtpoilgfblhacaaaRW
import Derived.Deep.LoopGhost
import Derived.Laws.ResultCell
import Derived.Laws.CopyOwn
import Derived.IntWalk
namespace Go.Proofs.Ytpoilgfblhacaaa
open Go.RowKit
set_option linter.unusedVariables false
set_option linter.unusedSimpArgs false

def lk (i : Nat) : List (Nat × Value) → Option Value
  | [] => none
  | p :: r => bif Nat.beq i p.1 then some p.2 else lk i r
/-- The frame has N slots, nothing is deferred, and the slots of L hold what L says. -/
def Ag (a : Act) (N : Nat) (L : List (Nat × Value)) : Prop := a.tmps.size = N ∧ a.defers = [] ∧ ∀ i v, lk i L = some v → Sv a i v
section
variable {a : Act} {N : Nat} {L : List (Nat × Value)} {i d : Nat} {v : Value}
theorem Ag.get (h : Ag a N L) (hl : lk i L = some v := by kernel_rfl) : Sv a i v := h.2.2 i v hl
theorem Ag.ev (h : Ag a N L) (hl : lk i L = some v := by kernel_rfl) : a.eval (.tmp i) = v := (h.get hl).eval
theorem ec (a : Act) (v : Value) : a.eval (.const v) = v := rfl
theorem Ag.gD (h : Ag a N L) (hl : lk i L = some v) : a.tmps.getD i undef = v := (h.get hl).eval
theorem Ag.nil (hz : a.tmps.size = N) (hd : a.defers = []) : Ag a N [] := ⟨hz, hd, fun _ _ h => by cases h⟩
theorem Ag.cons (h : Ag a N L) (hs : Sv a i v) : Ag a N ((i, v) :: L) := by
  refine ⟨h.1, h.2.1, fun j u hu => ?_⟩
  unfold lk at hu
  cases hb : Nat.beq j i
  · rw [hb] at hu; exact h.2.2 j u hu
  · rw [hb] at hu
    have e := Nat.eq_of_beq_eq_true hb
    subst e
    injection hu with hu
    subst hu
    exact hs
theorem Ag.put (h : Ag a N L) (hd : d < N) (v : Value) : Ag (a.put (some d) v) N ((d, v) :: L) := by
  refine ⟨by simpa [Act.put] using h.1, h.2.1, fun j u hu => ?_⟩
  unfold lk at hu
  cases hb : Nat.beq j d
  · rw [hb] at hu
    have e : j ≠ d := Nat.ne_of_beq_eq_false hb
    have := h.2.2 j u hu
    show (a.tmps.setIfInBounds d v)[j]? = some u
    rw [Array.getElem?_setIfInBounds, if_neg (fun e' => e e'.symm)]
    exact this
  · rw [hb] at hu
    have e := Nat.eq_of_beq_eq_true hb
    subst e
    injection hu with hu
    subst hu
    exact Sv.self (by rw [h.1]; exact hd) _
end

/-- Into a function. -/
theorem sx_enter {P : Program} {f : FuncId} {fn : Func} {c : Code} {args : Array Value} {w : World} {R : Ending → World → Prop} {N : Nat} (L : List (Nat × Value))
    (hf : P.funcs[f]? = some fn) (hb : fn.body = some c) (hn : fn.ntmps = N) (hs : args.size ≤ N)
    (hL : ∀ a : Act, a.tmps.size = N → a.defers = [] → (∀ i v, args[i]? = some v → Sv a i v) → Ag a N L)
    (h : ∀ a : Act, Ag a N L → c.wp P (bodyPost P fn R) a w) : Calls P f args w R := by
  refine calls_of_wp hf hb (h _ (hL _ ?_ rfl ?_))
  · simp [hn]; omega
  · intro i v hv
    show (args ++ _)[i]? = some v
    rw [Array.getElem?_append_left (Array.getElem?_eq_some_iff.1 hv).1]
    exact hv

/-- The operation is wanted. -/
def Wn (ops : Array Oper) (L : List (Nat × Value)) (o : Oper) : Prop :=
  o.guard = none ∨ ∃ j want s, o.guard = some (j, want) ∧ (ops[j]?).bind (·.dst) = some s ∧ lk s L = some (.bool want)

section
variable {P : Program} {ops : Array Oper} {rest : List Oper} {o : Oper} {a : Act} {w w' : World} {v : Value} {Q : Exit → Act → World → Prop} {N : Nat} {L : List (Nat × Value)} {d : Nat}
theorem Wn.wanted (h : Wn ops L o) (hA : Ag a N L) : Region.wanted o (yielded ops a.tmps) = true := by
  rcases h with h | ⟨j, want, s, hg, hj, hs⟩
  · simp [Region.wanted, h]
  · rw [wanted_of (b := want) hg hj (hA.get hs)]
    cases want <;> rfl
theorem sx_val (hA : Ag a N L) (hd : o.dst = some d) (hr : (execOp a.eval o).run P w = .ok (.value v) w')
    (h : ∀ a', Ag a' N ((d, v) :: L) → wpList P ops Q rest a' w') (hN : d < N := by decide) (hg : Wn ops L o := by exact .inl rfl) : wpList P ops Q (o :: rest) a w := by
  refine wpList_step fun K hK => ?_
  rw [if_pos (hg.wanted hA)]
  show o.upon P a K Q ((execOp a.eval o).run P w)
  rw [hr, Oper.upon_value, hd]
  exact hK _ _ (h _ (hA.put hN v))
theorem sx_valN (hA : Ag a N L) (hd : o.dst = none) (hg : Wn ops L o) (hr : (execOp a.eval o).run P w = .ok (.value v) w')
    (h : wpList P ops Q rest a w') : wpList P ops Q (o :: rest) a w := by
  refine wpList_step fun K hK => ?_
  rw [if_pos (hg.wanted hA)]
  show o.upon P a K Q ((execOp a.eval o).run P w)
  rw [hr, Oper.upon_value, hd]
  exact hK _ _ h
theorem sx_skip (hA : Ag a N L) (hd : o.dst = none) (hg : Wn ops L o) (hr : (execOp a.eval o).run P w = .ok .skip w')
    (h : wpList P ops Q rest a w') : wpList P ops Q (o :: rest) a w := by
  refine wpList_step fun K hK => ?_
  rw [if_pos (hg.wanted hA)]
  show o.upon P a K Q ((execOp a.eval o).run P w)
  rw [hr, Oper.upon_skip, hd]
  exact hK _ _ h
theorem sx_no {j s : Nat} {want b : Bool} (hA : Ag a N L) (hd : o.dst = some d)
    (h : ∀ a', Ag a' N ((d, undef) :: L) → wpList P ops Q rest a' w) (hN : d < N := by decide) (hg : o.guard = some (j, want) := by rfl) (hj : (ops[j]?).bind (·.dst) = some s := by rfl) (hs : lk s L = some (.bool b) := by kernel_rfl) (hb : (b == want) = false := by rfl) : wpList P ops Q (o :: rest) a w := by
  refine wpList_step fun K hK => ?_
  rw [wanted_of hg hj (hA.get hs), if_neg (by simp [hb]), hd]
  exact hK _ _ (h _ (hA.put hN _))
theorem sx_call {f : FuncId} {args : Array Value} {R : Ending → World → Prop} (hA : Ag a N L) (hd : o.dst = some d) (hN : d < N) (hg : Wn ops L o) (hr : (execOp a.eval o).run P w = .ok (.enter f args) w)
    (hc : Calls P f args w R) (h : ∀ e w', R e w' → ∃ v, e = .returned v ∧ ∀ a', Ag a' N ((d, v) :: L) → wpList P ops Q rest a' w') : wpList P ops Q (o :: rest) a w := by
  refine wpList_step fun K hK => ?_
  rw [if_pos (hg.wanted hA)]
  show o.upon P a K Q ((execOp a.eval o).run P w)
  rw [hr, Oper.upon_enter, hd]
  refine hc.mono ?_
  intro e w'' hR
  obtain ⟨v, rfl, h2⟩ := h e w'' hR
  exact hK _ _ (h2 _ (hA.put hN v))
theorem sx_nil (h : Q .normal a w) : wpList P ops Q [] a w := h
end

section
variable {Q : Exit → Act → World → Prop} {K : Act → World → Prop} {a : Act} {w : World} {id id' : Nat}
theorem then_n (h : K a w) : Exit.then K Q .normal a w := h
theorem then_x (h : Q (.exit id) a w) : Exit.then K Q (.exit id) a w := h
theorem then_r (h : Q .ret a w) : Exit.then K Q .ret a w := h
theorem blk_n (h : Q .normal a w) : Exit.inBlock id Q .normal a w := h
theorem blk_r (h : Q .ret a w) : Exit.inBlock id Q .ret a w := h
theorem blk_hit (h : Q .normal a w) : Exit.inBlock id Q (.exit id) a w := by simpa [Exit.inBlock] using h
theorem blk_miss (hne : id' ≠ id) (h : Q (.exit id') a w) : Exit.inBlock id Q (.exit id') a w := by simpa [Exit.inBlock, hne] using h
end

section
variable {P : Program} {ρ : Operand → Value} {w w' : World} {x y : Operand} {k : IntKind} {m n r : Int} {t t' : TypeId} {b : Bool}
theorem ev_lssB (hx : ρ x = .int k m) (hy : ρ y = .int k n) (hb : decide (m < n) = b) (o : Oper) (ho : o.op = .binOp .lss t x y t') : (execOp ρ o).run P w = .ok (.value (.bool b)) w := by
  subst hb; simp [execOp, ho, hx, hy, go_sem]
theorem ev_gtrB (hx : ρ x = .int k m) (hy : ρ y = .int k n) (hb : decide (n < m) = b) (o : Oper) (ho : o.op = .binOp .gtr t x y t') : (execOp ρ o).run P w = .ok (.value (.bool b)) w := by
  subst hb; simp [execOp, ho, hx, hy, go_sem]
theorem ev_leqB (hx : ρ x = .int k m) (hy : ρ y = .int k n) (hb : decide (m ≤ n) = b) (o : Oper) (ho : o.op = .binOp .leq t x y t') : (execOp ρ o).run P w = .ok (.value (.bool b)) w := by
  subst hb; simp [execOp, ho, hx, hy, go_sem]
theorem ev_geqB (hx : ρ x = .int k m) (hy : ρ y = .int k n) (hb : decide (n ≤ m) = b) (o : Oper) (ho : o.op = .binOp .geq t x y t') : (execOp ρ o).run P w = .ok (.value (.bool b)) w := by
  subst hb; simp [execOp, ho, hx, hy, go_sem]
theorem ev_eqlB (hx : ρ x = .int k m) (hy : ρ y = .int k n) (hb : decide (m = n) = b) (o : Oper) (ho : o.op = .binOp .eql t x y t') : (execOp ρ o).run P w = .ok (.value (.bool b)) w := by
  subst hb; simp [execOp, ho, hx, hy, go_sem]; exact decide_eq_decide.2 Iff.rfl
theorem ev_neqB (hx : ρ x = .int k m) (hy : ρ y = .int k n) (hb : decide (m = n) = !b) (o : Oper) (ho : o.op = .binOp .neq t x y t') : (execOp ρ o).run P w = .ok (.value (.bool b)) w := by
  have hb' : b = !decide (m = n) := by rw [hb]; simp
  subst hb'; simp [execOp, ho, hx, hy, go_sem, bne]; exact decide_eq_decide.2 Iff.rfl
theorem ev_addR (hx : ρ x = .int k m) (hy : ρ y = .int k n) (hv : k.wrap (m + n) = r) (o : Oper) (ho : o.op = .binOp .add t x y t') : (execOp ρ o).run P w = .ok (.value (.int k r)) w := by
  subst hv; simp [execOp, ho, hx, hy, go_sem]
theorem ev_subR (hx : ρ x = .int k m) (hy : ρ y = .int k n) (hv : k.wrap (m - n) = r) (o : Oper) (ho : o.op = .binOp .sub t x y t') : (execOp ρ o).run P w = .ok (.value (.int k r)) w := by
  subst hv; simp [execOp, ho, hx, hy, go_sem]
theorem ev_mulR (hx : ρ x = .int k m) (hy : ρ y = .int k n) (hv : k.wrap (m * n) = r) (o : Oper) (ho : o.op = .binOp .mul t x y t') : (execOp ρ o).run P w = .ok (.value (.int k r)) w := by
  subst hv; simp [execOp, ho, hx, hy, go_sem]
theorem ev_notT (hx : ρ x = .bool true) (o : Oper) (ho : o.op = .unOp .not t x) : (execOp ρ o).run P w = .ok (.value (.bool false)) w := ev_not hx o ho
theorem ev_notF (hx : ρ x = .bool false) (o : Oper) (ho : o.op = .unOp .not t x) : (execOp ρ o).run P w = .ok (.value (.bool true)) w := ev_not hx o ho
theorem ev_len {A : Option Addr} {l c : Nat} {e : TypeId} (hx : ρ x = .slice A l c) (hu : P.underlying t = some (.slice e)) (o : Oper) (ho : o.op = .call { callee := .builtin .len, args := #[x], argTypes := #[t] }) : (execOp ρ o).run P w = .ok (.value (.int .i64 (l : Int))) w := by
  simp [execOp, ho, resolve, invoke, builtin, hx, Builtin.len_, run_underlying hu, goInt, go_sem]
/-- A plain cell. -/
theorem ev_cell {ad : Addr} {v : Value} {d : TypeDesc} (hx : ρ x = .pointer (some ad)) (hc : w.cell? ad = some v) (hu : P.underlying t = some d) (hd : (match d with | .struct _ | .array _ _ => true | _ => false) = false) (o : Oper) (ho : o.op = .load t x) : (execOp ρ o).run P w = .ok (.value v) w := by
  cases d <;> simp at hd <;> simp [execOp, ho, hx, Instr.loadAt, Instr.sureAddr, loadVar, isAgg, run_underlying hu, hc, go_sem]
theorem ev_scell {ad : Addr} {v : Value} {v0 : Value} (hx : ρ x = .pointer (some ad)) (hy : ρ y = v) (hc : w.cell? ad = some v0) (hfz : w.frozen? ad = false) (hi : (P.info? t).map (·.size) = some 1) (h1 : v.oneCell' = true) (o : Oper) (ho : o.op = .store t x y) : (execOp ρ o).run P w = .ok .skip (w.setCell ad v) := by
  obtain ⟨i, hi1, hi2⟩ := Option.map_eq_some_iff.1 hi
  have hs := run_store P w ad v .plain h1
  simp only [hc, hfz, Bool.false_eq_true, if_false] at hs
  cases v <;> simp [Value.oneCell'] at h1 <;> simp [execOp, ho, hx, hy, Instr.storeAt, Instr.sureAddr, storeVar, sizeOf, typeInfo, hi1, hi2, hs, hc, hfz, go_sem]
theorem ev_nilCheck {ad : Addr} (hx : ρ x = .pointer (some ad)) (o : Oper) (ho : o.op = .nilCheck x) : (execOp ρ o).run P w = .ok (.value (.pointer (some ad))) w := by
  simp [execOp, ho, hx]
/-- A call of a function of the program. -/
theorem ev_fn {f : FuncId} {args : Array Operand} {vs : Array Value} {ts : Array TypeId} (hf : ρ (.func f) = .func (.func f) #[] #[]) (hv : args.map ρ = vs) (hcf : P.funcs[f]?.map (fun fn => (fn.name == "runtime.NumGoroutine", fn.body.isNone)) = some (false, false)) (o : Oper) (ho : o.op = .call { callee := .value (.func f), args := args, argTypes := ts }) : (execOp ρ o).run P w = .ok (.enter f vs) w := by
  subst hv
  obtain ⟨fn, h1, h2⟩ := Option.map_eq_some_iff.1 hcf
  simp only [Prod.mk.injEq] at h2
  have hc : (callFunc f (args.map ρ)).run P w = .ok (.enter f (args.map ρ)) w := by
    simp [callFunc, h1, h2.1, h2.2]
    have := h2.1
    simp at this
    have h3 := h2.2
    simp at h3
    simp [this, h3]
    intro h4
    simp [h4] at h3
  simp [execOp, ho, resolve, invoke, hf, hc, go_sem]
theorem wr {x y : Int} (h : x = y) (h1 : -9223372036854775808 ≤ y) (h2 : y ≤ 9223372036854775807) : IntKind.i64.wrap x = y := by
  subst h; exact IntWalk.i64_in _ ⟨h1, h2⟩
end

/-! The world, step by step. -/
theorem g0 {w w' : World} (h : Below w.heap.size w w') : w.grownBy w' none := ⟨h.os, h.tape, h.output, h.size, fun k hk _ => h.block k hk⟩
theorem ungN {w w' : World} (h : w.grownBy w' none) : Below w.heap.size w w' := ⟨h.os, h.tape, h.output, h.size, fun k hk => h.block k hk (by simp)⟩
section
variable {w w' : World} {B g : Nat} {t e : TypeId} {cs : Array Value} {base size n hh0 : Nat} {v : Value} {xs : List Value} {row : Option Nat}
theorem Bx.gN (h : Bx w B t cs) (hg : w.grownBy w' none) : Bx w' B t cs := h.grown hg (by simp)
theorem Bx.gB (h : Bx w B t cs) (hg : w.grownBy w' (some g)) (hne : B ≠ g) : Bx w' B t cs := h.grown hg (by simpa using hne)
/-- Where a slice may lie. -/
def Hi (v : Value) (hi : Nat) : Prop := ∀ k, v.ownBlock = some k → k < hi
theorem Own.hi (h : Own w base e size v n xs) : Hi v w.heap.size := fun k hk => (h.lt k hk).2
theorem Own.gN (h : Own w base e size v n xs) (hg : w.grownBy w' none) : Own w' base e size v n xs := h.below (ungN hg)
theorem Own.gB (h : Own w base e size v n xs) (hg : w.grownBy w' (some g)) (hh : Hi v hh0) (hne : g < base ∨ hh0 ≤ g) : Own w' base e size v n xs := by
  refine h.kept hg ?_
  cases hv : v.ownBlock with
  | none => exact .inl rfl
  | some k =>
    right
    intro e
    injection e with e
    subst e
    have h1 := (h.lt k hv).1
    have h2 := hh k hv
    omega
theorem Bx.gO {v2 : Value} {base2 hi2 n2 : Nat} {xs2 : List Value} {e2 : TypeId} {size2 : Nat} (h : Bx w B t cs) (hg : w.grownBy w' v2.ownBlock) (ho : Own w base2 e2 size2 v2 n2 xs2) (hh : Hi v2 hi2) (hne : B < base2 ∨ hi2 ≤ B) : Bx w' B t cs := by
  refine h.grown hg ?_
  intro e
  have h1 := (ho.lt B e.symm).1
  have h2 := hh B e.symm
  omega
theorem Own.gO {v2 : Value} {base2 hi2 n2 : Nat} {xs2 : List Value} {e2 : TypeId} {size2 : Nat} (h : Own w base e size v n xs) (hg : w.grownBy w' v2.ownBlock) (ho : Own w base2 e2 size2 v2 n2 xs2) (hh : Hi v hh0) (hh2 : Hi v2 hi2) (hne : hh0 ≤ base2 ∨ hi2 ≤ base) : Own w' base e size v n xs := by
  refine h.kept hg ?_
  cases hv : v.ownBlock with
  | none => exact .inl rfl
  | some k =>
    right
    intro e
    have h1 := (h.lt k hv).1
    have h2 := hh k hv
    have h3 := (ho.lt k e.symm).1
    have h4 := hh2 k e.symm
    omega
theorem Below.gN {C : Nat} {a : World} (h : Below C a w) (hg : w.grownBy w' none) (hC : C ≤ w.heap.size) : Below C a w' := h.grown hg hC (by simp)
theorem Below.gB {C : Nat} {a : World} (h : Below C a w) (hg : w.grownBy w' (some g)) (hC : C ≤ w.heap.size) (hB : C ≤ g) : Below C a w' := h.grown hg hC (fun k hk => by injection hk with hk; omega)
theorem Below.gO {C : Nat} {a : World} {v2 : Value} {base2 n2 : Nat} {xs2 : List Value} {e2 : TypeId} {size2 : Nat} (h : Below C a w) (hg : w.grownBy w' v2.ownBlock) (ho : Own w base2 e2 size2 v2 n2 xs2) (hC : C ≤ w.heap.size) (hB : C ≤ base2) : Below C a w' := h.grown hg hC (fun k hk => Nat.le_trans hB (ho.lt k hk).1)
theorem below0 (w : World) : Below w.heap.size w w := Below.refl _ _
end

section
variable {P : Program} {ops : Array Oper} {rest : List Oper} {o : Oper} {a : Act} {w : World} {Q : Exit → Act → World → Prop} {N : Nat} {L : List (Nat × Value)} {d : Nat} {t : TypeId} {cs : Array Value}
/-- A new variable. -/
theorem sx_new (hA : Ag a N L) (hd : o.dst = some d) (hN : d < N) (hg : Wn ops L o) (hr : (execOp a.eval o).run P w = .ok (.value (.pointer (some ⟨w.heap.size, 0, none⟩))) (w.alloc (.cells cs t)))
    (h : ∀ (B : Nat) w' a', B = w.heap.size → Bx w' B t cs → w.grownBy w' none → Ag a' N ((d, .pointer (some ⟨B, 0, none⟩)) :: L) → wpList P ops Q rest a' w') : wpList P ops Q (o :: rest) a w :=
  sx_val hA hd hr (h _ _ · rfl (Bx.new w t cs) (g0 (al w _))) hN hg
/-- A store of a whole struct or array into a variable. -/
theorem sx_store {B : Nat} {t' : TypeId} {old : Array Value} {x y : Operand} (hA : Ag a N L) (hd : o.dst = none) (hg : Wn ops L o) (ho : o.op = .store t x y) (hx : a.eval x = .pointer (some ⟨B, 0, none⟩)) (hy : a.eval y = .agg cs) (hb : Bx w B t' old) (hi : (P.info? t).map (·.size) = some cs.size) (hs : old.size = cs.size) (h1 : cs.all (·.oneCell') = true)
    (h : ∀ w', Bx w' B t' cs → w.grownBy w' (some B) → wpList P ops Q rest a w') : wpList P ops Q (o :: rest) a w :=
  sx_skip hA hd hg (ev_srow hx hy hb hi rfl hs h1 o ho) (h _ (hb.row cs) ⟨rfl, rfl, rfl, by simp, fun k _ hk => setRow_other w B k cs (fun e => hk (by rw [e]))⟩)
/-- A store into a cell of a variable. -/
theorem sx_scell {B i : Nat} {t' : TypeId} {old : Array Value} {x y : Operand} {v v0 : Value} (hA : Ag a N L) (hd : o.dst = none) (hg : Wn ops L o) (ho : o.op = .store t x y) (hx : a.eval x = .pointer (some ⟨B, i, none⟩)) (hy : a.eval y = v) (hb : Bx w B t' old) (hi : old[i]? = some v0) (hs : (P.info? t).map (·.size) = some 1) (h1 : v.oneCell' = true)
    (h : ∀ w', Bx w' B t' (old.setIfInBounds i v) → w.grownBy w' (some B) → wpList P ops Q rest a w') : wpList P ops Q (o :: rest) a w :=
  sx_skip hA hd hg (ev_scell hx hy ((hb.cell i).trans hi) (hb.frozen i) hs h1 o ho) (h _ (hb.set i v) ⟨rfl, rfl, rfl, by simp [World.setCell], fun k _ hk => Below.heap_setCell w _ v k (fun e => hk (by rw [e]))⟩)
end

/-! Results. -/
section
variable {P : Program} {fn : Func} {a : Act} {N : Nat} {L : List (Nat × Value)} {w : World}
theorem rs_t {u : Tmp} {v : Value} (h : fn.results = #[.tmp u]) (hA : Ag a N L) (hu : lk u L = some v) : (results fn a.tmps).run P w = .ok v w := by
  have := hA.gD hu
  simp only [results, h]; simp at this ⊢; exact this
theorem rs_tt {u u2 : Tmp} {v v2 : Value} (h : fn.results = #[.tmp u, .tmp u2]) (hA : Ag a N L) (hu : lk u L = some v) (hu2 : lk u2 L = some v2) : (results fn a.tmps).run P w = .ok (.tuple #[v, v2]) w := by
  have h1 := hA.gD hu
  have h2 := hA.gD hu2
  simp only [results, h]; simp at h1 h2 ⊢; simp [h1, h2]
theorem rs_ttt {u u2 u3 : Tmp} {v v2 v3 : Value} (h : fn.results = #[.tmp u, .tmp u2, .tmp u3]) (hA : Ag a N L) (hu : lk u L = some v) (hu2 : lk u2 L = some v2) (hu3 : lk u3 L = some v3) : (results fn a.tmps).run P w = .ok (.tuple #[v, v2, v3]) w := by
  have h1 := hA.gD hu
  have h2 := hA.gD hu2
  have h3 := hA.gD hu3
  simp only [results, h]; simp at h1 h2 h3 ⊢; simp [h1, h2, h3]
theorem rs_tttt {u u2 u3 u4 : Tmp} {v v2 v3 v4 : Value} (h : fn.results = #[.tmp u, .tmp u2, .tmp u3, .tmp u4]) (hA : Ag a N L) (hu : lk u L = some v) (hu2 : lk u2 L = some v2) (hu3 : lk u3 L = some v3) (hu4 : lk u4 L = some v4) : (results fn a.tmps).run P w = .ok (.tuple #[v, v2, v3, v4]) w := by
  have h1 := hA.gD hu
  have h2 := hA.gD hu2
  have h3 := hA.gD hu3
  have h4 := hA.gD hu4
  simp only [results, h]; simp at h1 h2 h3 h4 ⊢; simp [h1, h2, h3, h4]
variable {T T2 : TypeId} {g g2 : Nat} {t t2 : TypeId} {cs ds : Array Value} {td td2 : TypeDesc}
theorem rs_c {p : Tmp} (h : fn.results = #[.cell p T]) (hA : Ag a N L) (hp : lk p L = some (.pointer (some ⟨g, 0, none⟩))) (hg : Bx w g t cs) (hu : P.underlying T = some td) (hd : (match td with | .struct _ | .array _ _ => true | _ => false) = true) (hs : (P.info? T).map (·.size) = some cs.size) : (results fn a.tmps).run P w = .ok (.agg cs) w := by
  have h1 := hA.gD hp
  simp only [results, h]; simp at h1 ⊢; simp [h1, asAddr, run_loadVar_row w g _ T cs _ _ hg hu hd hs]
theorem rs_ct {p u : Tmp} {v : Value} (h : fn.results = #[.cell p T, .tmp u]) (hA : Ag a N L) (hp : lk p L = some (.pointer (some ⟨g, 0, none⟩))) (hv : lk u L = some v) (hg : Bx w g t cs) (hu : P.underlying T = some td) (hd : (match td with | .struct _ | .array _ _ => true | _ => false) = true) (hs : (P.info? T).map (·.size) = some cs.size) : (results fn a.tmps).run P w = .ok (.tuple #[.agg cs, v]) w := by
  have h1 := hA.gD hp
  have h2 := hA.gD hv
  simp only [results, h]; simp at h1 h2 ⊢; simp [h1, h2, asAddr, run_loadVar_row w g _ T cs _ _ hg hu hd hs]
theorem rs_ctt {p u u2 : Tmp} {v v2 : Value} (h : fn.results = #[.cell p T, .tmp u, .tmp u2]) (hA : Ag a N L) (hp : lk p L = some (.pointer (some ⟨g, 0, none⟩))) (hv : lk u L = some v) (hv2 : lk u2 L = some v2) (hg : Bx w g t cs) (hu : P.underlying T = some td) (hd : (match td with | .struct _ | .array _ _ => true | _ => false) = true) (hs : (P.info? T).map (·.size) = some cs.size) : (results fn a.tmps).run P w = .ok (.tuple #[.agg cs, v, v2]) w := by
  have h1 := hA.gD hp
  have h2 := hA.gD hv
  have h3 := hA.gD hv2
  simp only [results, h]; simp at h1 h2 h3 ⊢; simp [h1, h2, h3, asAddr, run_loadVar_row w g _ T cs _ _ hg hu hd hs]
theorem rs_cct {p p2 u : Tmp} {v : Value} (h : fn.results = #[.cell p T, .cell p2 T2, .tmp u]) (hA : Ag a N L) (hp : lk p L = some (.pointer (some ⟨g, 0, none⟩))) (hp2 : lk p2 L = some (.pointer (some ⟨g2, 0, none⟩))) (hv : lk u L = some v) (hg : Bx w g t cs) (hu : P.underlying T = some td) (hd : (match td with | .struct _ | .array _ _ => true | _ => false) = true) (hs : (P.info? T).map (·.size) = some cs.size) (hg2 : Bx w g2 t2 ds) (hu2 : P.underlying T2 = some td2) (hd2 : (match td2 with | .struct _ | .array _ _ => true | _ => false) = true) (hs2 : (P.info? T2).map (·.size) = some ds.size) : (results fn a.tmps).run P w = .ok (.tuple #[.agg cs, .agg ds, v]) w := by
  have h1 := hA.gD hp
  have h2 := hA.gD hv
  have h3 := hA.gD hp2
  simp only [results, h]; simp at h1 h2 h3 ⊢; simp [h1, h2, h3, asAddr, run_loadVar_row w g _ T cs _ _ hg hu hd hs, run_loadVar_row w g2 _ T2 ds _ _ hg2 hu2 hd2 hs2]
end

section
variable {ρ : Operand → Value} {x0 x1 x2 x3 : Operand} {v0 v1 v2 v3 : Value}
theorem mp0 : (#[] : Array Operand).map ρ = #[] := by simp
theorem mp1 (h0 : ρ x0 = v0) : #[x0].map ρ = #[v0] := by simp [h0]
theorem mp2 (h0 : ρ x0 = v0) (h1 : ρ x1 = v1) : #[x0, x1].map ρ = #[v0, v1] := by simp [h0, h1]
theorem mp3 (h0 : ρ x0 = v0) (h1 : ρ x1 = v1) (h2 : ρ x2 = v2) : #[x0, x1, x2].map ρ = #[v0, v1, v2] := by simp [h0, h1, h2]
theorem mp4 (h0 : ρ x0 = v0) (h1 : ρ x1 = v1) (h2 : ρ x2 = v2) (h3 : ρ x3 = v3) : #[x0, x1, x2, x3].map ρ = #[v0, v1, v2, v3] := by simp [h0, h1, h2, h3]
end

section
variable {P : Program} {ρ : Operand → Value} {w : World} {x ix : Operand} {t e : TypeId}
theorem ev_box {cs : Array Value} {v : Value} (hx : ρ x = v) (hc : v.cells = cs) (o : Oper) (ho : o.op = .box t x) : (execOp ρ o).run P w = .ok (.value (.pointer (some ⟨w.heap.size, 0, none⟩))) (w.alloc (.cells cs t)) := by
  subst hc; simp [execOp, ho, hx, Instr.box, newVar, go_sem]
theorem ev_alloc {z : Value} {cs : Array Value} (hz : (zeroValue t).run P w = .ok z w) (hc : z.cells = cs) (o : Oper) (ho : o.op = .alloc t) : (execOp ρ o).run P w = .ok (.value (.pointer (some ⟨w.heap.size, 0, none⟩))) (w.alloc (.cells cs t)) := by
  subst hc; simp [execOp, ho, Instr.alloc, newVar, hz, go_sem]
theorem ev_idx {A : Option Addr} {ad : Addr} {n c sz k : Nat} {j : Int} (hx : ρ x = .slice A n c) (hA : A = some ad) (hi : ρ ix = .int .i64 j) (hj : j = (k : Int)) (hk : k < n) (hu : P.underlying t = some (.slice e)) (hs : (P.info? e).map (·.size) = some sz) (o : Oper) (ho : o.op = .indexAddr t x ix) : (execOp ρ o).run P w = .ok (.value (.pointer (some (ad.add (k * sz))))) w := by
  obtain ⟨i, hi1, hi2⟩ := Option.map_eq_some_iff.1 hs
  subst hA hj
  have h1 : (k : Int) < (n : Int) := by omega
  simp [execOp, ho, hx, hi, Instr.indexAt, run_underlying hu, sizeOf, typeInfo, hi1, hi2, h1, hk, go_sem]
end
end Go.Proofs.Ytpoilgfblhacaaa
