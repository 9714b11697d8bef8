/- Package fault: look, its contract. -/
import Derived.Test.YtbcfnocefjolfaaF6
import Derived.Deep.Cut
namespace Go.Proofs.Ytbcfnocefjolfaa
open Go.RowKit

noncomputable def ops7 : List Oper := (Try.f35.body.bind (regOps · 7)).getD []
noncomputable def ops8 : List Oper := (Try.f35.body.bind (regOps · 8)).getD []
theorem o7_0 : ops7[0]?.map (fun o => (o.dst, o.op, o.guard)) = some (some 131, .makeFunc (.func 49) #[] #[.tmp 10], none) := by kernel_rfl
theorem o7_1 : ops7[1]?.map (fun o => (o.dst, o.op, o.guard)) = some (some 11, .assign (.tmp 131), none) := by kernel_rfl
theorem o8_0 : ops8[0]?.map (fun o => (o.dst, o.op, o.guard)) = some (some 132, .move (.tmp 11), none) := by kernel_rfl
theorem o8_1 : ops8[1]?.map (fun o => (o.dst, o.op, o.guard)) = some (some 133, .call { callee := .value (.tmp 132), args := #[], argTypes := #[] }, none) := by kernel_rfl
theorem o8_2 : ops8[2]?.map (fun o => (o.dst, o.op, o.guard)) = some (none, .store 58 (.tmp 4) (.tmp 133), none) := by kernel_rfl
theorem len7 : ops7.length = 2 := by kernel_rfl
theorem len8 : ops8.length = 3 := by kernel_rfl

section
variable {P : Program} {ops : Array Oper} {Q : Exit → Act → World → Prop} {a : Act} {w w' : World} {l : List Oper} {k d : Nat} {v : Value} {op : Op}
/-- A call, by its contract. -/
theorem wk_call {f : FuncId} {args : Array Value} {S : Value → World → Prop} (ho : l[k]?.map (fun o => (o.dst, o.op, o.guard)) = some (some d, op, none)) (hd : d < a.tmps.size)
    (hr : ∀ o : Oper, o.op = op → (execOp a.eval o).run P w = .ok (.enter f args) w')
    (hc : Calls P f args w' fun e w'' => ∃ v, e = .returned v ∧ S v w'')
    (h : ∀ v w'', S v w'' → ∀ a', Nx d a a' → Sv a' d v → wpList P ops Q (l.drop (k + 1)) a' w'') : wpList P ops Q (l.drop k) a w := by
  obtain ⟨o, h1, h2⟩ := Option.map_eq_some_iff.1 ho
  simp only [Prod.mk.injEq] at h2
  obtain ⟨hd1, hop, hg⟩ := h2
  rw [drop_at h1]
  refine wpList_plain hg fun K hK => ?_
  show o.upon P a K Q ((execOp a.eval o).run P w)
  rw [hr o hop, Oper.upon_enter, hd1]
  refine hc.mono ?_
  rintro e w'' ⟨v, rfl, hS⟩
  exact hK _ _ (h v w'' hS _ ((Nx.refl _ _).put (Nat.le_refl _) _) (Sv.self hd _))
theorem wp_reg {id : Nat} {rest : Code} (h : wpList P l.toArray (Exit.then (rest.wp P Q) Q) (l.drop 0) a w) : (Code.seq (Code.region id l.toArray false) rest).wp P Q a w :=
  wp_seq (wp_region_list (by simpa using h))
end

set_option maxHeartbeats 1000000 in
theorem look78 {T : List (Bool × Int × Int)} (hlen : T.length = 16) {a1 : Act} {w W1 : World} {BT B4 : Nat} (z : a1.tmps.size = 134) (hdf : a1.defers = [])
    (f4 : Sv a1 4 (.pointer (some ⟨B4, 0, none⟩))) (f10 : Sv a1 10 (.pointer (some ⟨BT, 0, none⟩)))
    (hB1 : Bx W1 B4 58 #[.bool false, .int .i64 0, .int .i64 0]) (hTab : Bx W1 BT 68 (tv T).toArray) (hlo : w.heap.size ≤ B4) (hw1 : Below w.heap.size w W1) :
    ((Code.region 7 ops7.toArray false).seq ((Code.region 8 ops8.toArray false).seq Code.ret)).wp Try.prog
      (bodyPost Try.prog Try.f35 (RetB w (.returned (.agg #[.bool (srch T).1, .int .i64 (srch T).2.1, .int .i64 (srch T).2.2])))) a1 W1 := by
  refine wp_reg ?_
  refine wk_val (k := 0) (v := .func (.func 49) #[] #[.pointer (some ⟨BT, 0, none⟩)]) o7_0 (w' := W1) (by rw [z]; decide) (fun o ho => ?_) fun a2 n f131 => ?_
  · have e : execOp a1.eval o = (do pure (.value (← Instr.makeFunc (.func 49) (#[].map a1.eval) (#[.tmp 10].map a1.eval)))) := by simp only [execOp, ho]
    have e2 : (#[Operand.tmp 10].map a1.eval) = #[.pointer (some ⟨BT, 0, none⟩)] := by
      simp only [List.map_toArray, List.map_cons, List.map_nil, f10.eval]
    rw [e, e2]
    simp [go_sem]
  have z := n.1.trans z
  have hdf := n.2.1.trans hdf
  have f4 := n.keep f4 (by decide)
  clear n f10
  obtain ⟨o, h1, h2⟩ := Option.map_eq_some_iff.1 o7_1
  simp only [Prod.mk.injEq] at h2
  obtain ⟨hd1, hop, hg⟩ := h2
  rw [drop_at h1]
  refine wpList_plain hg fun K hK => ?_
  show o.upon Try.prog a2 K _ ((execOp a2.eval o).run Try.prog _)
  rw [ev_assign f131.eval o hop, Oper.upon_value, hd1]
  refine hK _ _ (wk_end len7 ?_)
  have f11 := Sv.self (a := a2) (i := 11) (by rw [z]; decide) (.func (.func 49) #[] #[.pointer (some ⟨BT, 0, none⟩)])
  have f4 := f4.ne (d := 11) (by decide) (.func (.func 49) #[] #[.pointer (some ⟨BT, 0, none⟩)])
  have hdf : (a2.put (some 11) (.func (.func 49) #[] #[.pointer (some ⟨BT, 0, none⟩)])).defers = [] := hdf
  have z : (a2.put (some 11) (.func (.func 49) #[] #[.pointer (some ⟨BT, 0, none⟩)])).tmps.size = 134 := by simpa [Act.put] using z
  generalize a2.put (some 11) (.func (.func 49) #[] #[.pointer (some ⟨BT, 0, none⟩)]) = a3 at *
  clear hK K hd1 hop hg h1 o f131
  show Code.wp _ _ _ _ _
  refine wp_reg ?_
  refine wk_val (k := 0) o8_0 (by rw [z]; decide) (ev_move f11.eval) fun a4 n f132 => ?_
  have z := n.1.trans z
  have hdf := n.2.1.trans hdf
  have f4 := n.keep f4 (by decide)
  clear n f11
  refine wk_call (k := 1) (f := 49) (args := #[.pointer (some ⟨BT, 0, none⟩)]) (w' := W1) (S := fun v w'' => v = .agg #[.bool (srch T).1, .int .i64 (srch T).2.1, .int .i64 (srch T).2.2] ∧ Below W1.heap.size W1 w'') o8_1 (by rw [z]; decide) (fun o ho => ?_) ((search_any T hlen BT W1 hTab).mono ?_) ?_
  · simp only [execOp, ho]
    have e := f132.eval
    generalize a4.eval = ρ at e
    simp [e, go_sem]
  · rintro e w' ⟨rfl, hb⟩
    exact ⟨_, rfl, rfl, hb⟩
  rintro v w2 ⟨rfl, hb2⟩ a5 n f133
  have z := n.1.trans z
  have hdf := n.2.1.trans hdf
  have f4 := n.keep f4 (by decide)
  clear n f132
  have hB2 := hB1.below hb2
  obtain ⟨o, h1, h2⟩ := Option.map_eq_some_iff.1 o8_2
  simp only [Prod.mk.injEq] at h2
  obtain ⟨hd1, hop, hg⟩ := h2
  rw [drop_at h1]
  have hs : (Try.prog.info? 58).map (·.size) = some 3 := by kernel_rfl
  refine wpList_store_row hg 58 _ _ hop B4 _ f4.eval f133.eval 58 _ hB2 hs rfl (by simp [Value.oneCell']) ?_
  refine wk_end len8 ?_
  show Code.wp _ _ _ _ _
  rw [hd1]
  refine wp_ret ?_
  refine bodyPost_ret (results_cell_row (by rfl) _ _ B4 58 _ (0, 0) _ f4.eval (setRow_heap w2 B4 _ _ _ _ hB2) Try.underlying58 rfl hs) hdf ⟨rfl, ?_⟩
  exact below_setRow (below_step hw1 hb2) hlo _

/-- The line of the table. -/
def lookF (kind st : Int) (n : Nat) (acc : Int) (wr rm : Bool) (lv : Int) (fr : Bool) : Bool × Int × Int :=
  srch [((kind == 1) && ((n : Int) == 0), 3, 2), (kind == 1, 1, 1), ((kind == 6) && (!fr), 2, 1), ((kind == 6) && (decide (0 < lv + 1 - n)), 3, lv + 1 - n + 1), (kind == 6, 1, 1), ((st == 3) || (st == 4), 7, 1), (acc == 1, 2, 1), (((acc == 2) || (acc == 3)) || (acc == 4), 1, 1), ((acc == 5) && ((n : Int) == 0), 3, 3), (acc == 5, 3, 2), (((acc == 6) || (acc == 7)) && ((n : Int) == 0), 4, 2), ((acc == 6) || (acc == 7), 1, 1), ((acc == 8) && wr, 5, 2), ((acc == 8) && ((n : Int) == 0), 4, 3), ((acc == 8) && rm, 6, 2), (acc == 8, 7, 2)]

theorem lookF_eq (kind st : Int) (n : Nat) (acc : Int) (wr rm : Bool) (lv : Int) (fr em : Bool) (hem : ((acc == 6) || (acc == 7)) = em) (hw : IntKind.i64.wrap (lv + 1 - n + 1) = lv + 1 - n + 1) :
    lookF kind st n acc wr rm lv fr = srch [((kind == 1) && ((n : Int) == 0), 3, 2), (kind == 1, 1, 1), ((kind == 6) && (!fr), 2, 1), ((kind == 6) && (decide (0 < lv + 1 - n)), 3, IntKind.i64.wrap (lv + 1 - n + 1)), (kind == 6, 1, 1), ((st == 3) || (st == 4), 7, 1), (acc == 1, 2, 1), (((acc == 2) || (acc == 3)) || (acc == 4), 1, 1), ((acc == 5) && ((n : Int) == 0), 3, 3), (acc == 5, 3, 2), (em && ((n : Int) == 0), 4, 2), (em, 1, 1), ((acc == 8) && wr, 5, 2), ((acc == 8) && ((n : Int) == 0), 4, 3), ((acc == 8) && rm, 6, 2), (acc == 8, 7, 2)] := by
  subst hem
  unfold lookF
  rw [hw]

set_option maxRecDepth 100000 in
set_option maxHeartbeats 2000000 in
theorem look_any (tk kind proc a b val st : Int) (A : Option Addr) (n c : Nat) (slot acc : Int) (wr rm : Bool) (lv : Int) (fr : Bool) (hn : n ≤ 1000) (hlv : 0 ≤ lv) (hlv' : lv ≤ 8) (w : World) :
    Calls Try.prog 35 #[.agg #[.int .u64 tk, .int .i64 kind, .int .i64 proc, .int .i64 a, .int .i64 b, .int .u64 val, .int .i64 st, .slice A n c, .int .i64 slot], .agg #[.int .i64 acc, .bool wr, .bool rm, .int .i64 lv, .bool fr]] w
      (RetB w (.returned (.agg #[.bool (lookF kind st n acc wr rm lv fr).1, .int .i64 (lookF kind st n acc wr rm lv fr).2.1, .int .i64 (lookF kind st n acc wr rm lv fr).2.2]))) := by
  have hwrap := Lib.hid (show IntKind.i64.wrap (lv + 1 - n + 1) = lv + 1 - n + 1 from IntWalk.i64_in _ (by omega))
  cases h6 : (acc == 6)
  all_goals
    have H6 := Lib.hid h6
    go_enter Try.func35, Try.ntmps35
    go_upto_region 6 with (fail)
    rename_i K hK
    refine wp_region_lit (l := ops6) ?_
    have b2 := ((Bx.new w 54 #[.int .u64 tk, .int .i64 kind, .int .i64 proc, .int .i64 a, .int .i64 b, .int .u64 val, .int .i64 st, .slice A n c, .int .i64 slot]).alloc (.cells #[.int .i64 acc, .bool wr, .bool rm, .int .i64 lv, .bool fr] 38)).alloc (.cells #[.bool false, .int .i64 0, .int .i64 0] 58)
    have b3 := (Bx.new (w.alloc (.cells #[.int .u64 tk, .int .i64 kind, .int .i64 proc, .int .i64 a, .int .i64 b, .int .u64 val, .int .i64 st, .slice A n c, .int .i64 slot] 54)) 38 #[.int .i64 acc, .bool wr, .bool rm, .int .i64 lv, .bool fr]).alloc (.cells #[.bool false, .int .i64 0, .int .i64 0] 58)
    have b4 := Bx.new ((w.alloc (.cells #[.int .u64 tk, .int .i64 kind, .int .i64 proc, .int .i64 a, .int .i64 b, .int .u64 val, .int .i64 st, .slice A n c, .int .i64 slot] 54)).alloc (.cells #[.int .i64 acc, .bool wr, .bool rm, .int .i64 lv, .bool fr] 38)) 58 #[.bool false, .int .i64 0, .int .i64 0]
    simp only [World.size_alloc] at b3 b4
    have hlo := below_step (below_step (al w (.cells #[.int .u64 tk, .int .i64 kind, .int .i64 proc, .int .i64 a, .int .i64 b, .int .u64 val, .int .i64 st, .slice A n c, .int .i64 slot] 54)) (al _ (.cells #[.int .i64 acc, .bool wr, .bool rm, .int .i64 lv, .bool fr] 38))) (al _ (.cells #[.bool false, .int .i64 0, .int .i64 0] 58))
    refine look6 (kind := kind) (lack := lv + 1 - n) (st := st) (acc := acc) (wo := ((n : Int) == 0)) (sto := (acc == 8)) (wr := wr) (rm := rm) (fr := fr) (B2 := w.heap.size) (B3 := w.heap.size + 1) rfl rfl rfl rfl rfl rfl rfl rfl rfl (b2.cell 6) (b3.cell 0) (b3.cell 1) (b3.cell 2) (b3.cell 4) fun a1 z hdf f4 f10 => hK _ _ ?_
    have hbt := Bx.new (((w.alloc (.cells #[.int .u64 tk, .int .i64 kind, .int .i64 proc, .int .i64 a, .int .i64 b, .int .u64 val, .int .i64 st, .slice A n c, .int .i64 slot] 54)).alloc (.cells #[.int .i64 acc, .bool wr, .bool rm, .int .i64 lv, .bool fr] 38)).alloc (.cells #[.bool false, .int .i64 0, .int .i64 0] 58)) 68
    first
    | rw [lookF_eq kind st n acc wr rm lv fr (acc == 7) (by rw [H6.out]; rfl) hwrap.out]
    | rw [lookF_eq kind st n acc wr rm lv fr true (by rw [H6.out]; rfl) hwrap.out]
    exact look78 rfl z hdf f4 f10 (b4.alloc _) (hbt _) (by omega) (below_step hlo (al _ _))
end Go.Proofs.Ytbcfnocefjolfaa
