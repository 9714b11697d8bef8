/- Package fault: look. -/
import Derived.Test.YtbcfnocefjolfaaF5
import Derived.Deep.WholeRow
import Derived.Laws.CopyOwn
namespace Go.Proofs.Ytbcfnocefjolfaa
open Go.RowKit

theorem Sv.ne {a : Act} {i d : Nat} {v : Value} (h : Sv a i v) (hd : i ≠ d) (u : Value) : Sv (a.put (some d) u) i v := by
  show (a.tmps.setIfInBounds d u)[i]? = some v
  rw [Array.getElem?_setIfInBounds, if_neg (fun e => hd e.symm)]
  exact h

theorem o6_93 : ops6[93]?.map (fun o => (o.dst, o.op, o.guard)) = some (some 130, .build 68 #[(0, .tmp 42), (1, .tmp 45), (2, .tmp 53), (3, .tmp 62), (4, .tmp 65), (5, .tmp 74), (6, .tmp 78), (7, .tmp 92), (8, .tmp 99), (9, .tmp 103), (10, .tmp 108), (11, .tmp 110), (12, .tmp 116), (13, .tmp 121), (14, .tmp 127), (15, .tmp 129)], none) := by kernel_rfl
theorem o6_94 : ops6[94]?.map (fun o => (o.dst, o.op, o.guard)) = some (some 10, .alloc 68, none) := by kernel_rfl
theorem o6_95 : ops6[95]?.map (fun o => (o.dst, o.op, o.guard)) = some (none, .store 68 (.tmp 10) (.tmp 130), none) := by kernel_rfl
theorem len6 : ops6.length = 96 := by kernel_rfl

theorem built_tab (b0 b1 b2 b3 b4 b5 b6 b7 b8 b9 b10 b11 b12 b13 b14 b15 : Bool) (l3 : Int) : Try.prog.built 68 [(0, .agg #[.bool b0, .int .i64 3, .int .i64 2]), (1, .agg #[.bool b1, .int .i64 1, .int .i64 1]), (2, .agg #[.bool b2, .int .i64 2, .int .i64 1]), (3, .agg #[.bool b3, .int .i64 3, .int .i64 l3]), (4, .agg #[.bool b4, .int .i64 1, .int .i64 1]), (5, .agg #[.bool b5, .int .i64 7, .int .i64 1]), (6, .agg #[.bool b6, .int .i64 2, .int .i64 1]), (7, .agg #[.bool b7, .int .i64 1, .int .i64 1]), (8, .agg #[.bool b8, .int .i64 3, .int .i64 3]), (9, .agg #[.bool b9, .int .i64 3, .int .i64 2]), (10, .agg #[.bool b10, .int .i64 4, .int .i64 2]), (11, .agg #[.bool b11, .int .i64 1, .int .i64 1]), (12, .agg #[.bool b12, .int .i64 5, .int .i64 2]), (13, .agg #[.bool b13, .int .i64 4, .int .i64 3]), (14, .agg #[.bool b14, .int .i64 6, .int .i64 2]), (15, .agg #[.bool b15, .int .i64 7, .int .i64 2])] = some #[.bool b0, .int .i64 3, .int .i64 2, .bool b1, .int .i64 1, .int .i64 1, .bool b2, .int .i64 2, .int .i64 1, .bool b3, .int .i64 3, .int .i64 l3, .bool b4, .int .i64 1, .int .i64 1, .bool b5, .int .i64 7, .int .i64 1, .bool b6, .int .i64 2, .int .i64 1, .bool b7, .int .i64 1, .int .i64 1, .bool b8, .int .i64 3, .int .i64 3, .bool b9, .int .i64 3, .int .i64 2, .bool b10, .int .i64 4, .int .i64 2, .bool b11, .int .i64 1, .int .i64 1, .bool b12, .int .i64 5, .int .i64 2, .bool b13, .int .i64 4, .int .i64 3, .bool b14, .int .i64 6, .int .i64 2, .bool b15, .int .i64 7, .int .i64 2] := by kernel_rfl
set_option maxHeartbeats 1000000 in
theorem ev_tab {ρ : Operand → Value} {w : World} {b0 b1 b2 b3 b4 b5 b6 b7 b8 b9 b10 b11 b12 b13 b14 b15 : Bool} {l3 : Int} (h0 : ρ (.tmp 42) = .agg #[.bool b0, .int .i64 3, .int .i64 2]) (h1 : ρ (.tmp 45) = .agg #[.bool b1, .int .i64 1, .int .i64 1]) (h2 : ρ (.tmp 53) = .agg #[.bool b2, .int .i64 2, .int .i64 1]) (h3 : ρ (.tmp 62) = .agg #[.bool b3, .int .i64 3, .int .i64 l3]) (h4 : ρ (.tmp 65) = .agg #[.bool b4, .int .i64 1, .int .i64 1]) (h5 : ρ (.tmp 74) = .agg #[.bool b5, .int .i64 7, .int .i64 1]) (h6 : ρ (.tmp 78) = .agg #[.bool b6, .int .i64 2, .int .i64 1]) (h7 : ρ (.tmp 92) = .agg #[.bool b7, .int .i64 1, .int .i64 1]) (h8 : ρ (.tmp 99) = .agg #[.bool b8, .int .i64 3, .int .i64 3]) (h9 : ρ (.tmp 103) = .agg #[.bool b9, .int .i64 3, .int .i64 2]) (h10 : ρ (.tmp 108) = .agg #[.bool b10, .int .i64 4, .int .i64 2]) (h11 : ρ (.tmp 110) = .agg #[.bool b11, .int .i64 1, .int .i64 1]) (h12 : ρ (.tmp 116) = .agg #[.bool b12, .int .i64 5, .int .i64 2]) (h13 : ρ (.tmp 121) = .agg #[.bool b13, .int .i64 4, .int .i64 3]) (h14 : ρ (.tmp 127) = .agg #[.bool b14, .int .i64 6, .int .i64 2]) (h15 : ρ (.tmp 129) = .agg #[.bool b15, .int .i64 7, .int .i64 2]) (o : Oper) (ho : o.op = .build 68 #[(0, .tmp 42), (1, .tmp 45), (2, .tmp 53), (3, .tmp 62), (4, .tmp 65), (5, .tmp 74), (6, .tmp 78), (7, .tmp 92), (8, .tmp 99), (9, .tmp 103), (10, .tmp 108), (11, .tmp 110), (12, .tmp 116), (13, .tmp 121), (14, .tmp 127), (15, .tmp 129)]) : (execOp ρ o).run Try.prog w = .ok (.value (.agg #[.bool b0, .int .i64 3, .int .i64 2, .bool b1, .int .i64 1, .int .i64 1, .bool b2, .int .i64 2, .int .i64 1, .bool b3, .int .i64 3, .int .i64 l3, .bool b4, .int .i64 1, .int .i64 1, .bool b5, .int .i64 7, .int .i64 1, .bool b6, .int .i64 2, .int .i64 1, .bool b7, .int .i64 1, .int .i64 1, .bool b8, .int .i64 3, .int .i64 3, .bool b9, .int .i64 3, .int .i64 2, .bool b10, .int .i64 4, .int .i64 2, .bool b11, .int .i64 1, .int .i64 1, .bool b12, .int .i64 5, .int .i64 2, .bool b13, .int .i64 4, .int .i64 3, .bool b14, .int .i64 6, .int .i64 2, .bool b15, .int .i64 7, .int .i64 2])) w := by
  have e : execOp ρ o = (do pure (.value (← Instr.build 68 (#[(0, .tmp 42), (1, .tmp 45), (2, .tmp 53), (3, .tmp 62), (4, .tmp 65), (5, .tmp 74), (6, .tmp 78), (7, .tmp 92), (8, .tmp 99), (9, .tmp 103), (10, .tmp 108), (11, .tmp 110), (12, .tmp 116), (13, .tmp 121), (14, .tmp 127), (15, .tmp 129)].map fun (i, x) => (i, ρ x))))) := by simp only [execOp, ho]
  have e2 : (#[(0, .tmp 42), (1, .tmp 45), (2, .tmp 53), (3, .tmp 62), (4, .tmp 65), (5, .tmp 74), (6, .tmp 78), (7, .tmp 92), (8, .tmp 99), (9, .tmp 103), (10, .tmp 108), (11, .tmp 110), (12, .tmp 116), (13, .tmp 121), (14, .tmp 127), (15, .tmp 129)].map fun (i, x) => (i, ρ x)) = #[(0, .agg #[.bool b0, .int .i64 3, .int .i64 2]), (1, .agg #[.bool b1, .int .i64 1, .int .i64 1]), (2, .agg #[.bool b2, .int .i64 2, .int .i64 1]), (3, .agg #[.bool b3, .int .i64 3, .int .i64 l3]), (4, .agg #[.bool b4, .int .i64 1, .int .i64 1]), (5, .agg #[.bool b5, .int .i64 7, .int .i64 1]), (6, .agg #[.bool b6, .int .i64 2, .int .i64 1]), (7, .agg #[.bool b7, .int .i64 1, .int .i64 1]), (8, .agg #[.bool b8, .int .i64 3, .int .i64 3]), (9, .agg #[.bool b9, .int .i64 3, .int .i64 2]), (10, .agg #[.bool b10, .int .i64 4, .int .i64 2]), (11, .agg #[.bool b11, .int .i64 1, .int .i64 1]), (12, .agg #[.bool b12, .int .i64 5, .int .i64 2]), (13, .agg #[.bool b13, .int .i64 4, .int .i64 3]), (14, .agg #[.bool b14, .int .i64 6, .int .i64 2]), (15, .agg #[.bool b15, .int .i64 7, .int .i64 2])] := by simp only [List.map_toArray, List.map_cons, List.map_nil, h0, h1, h2, h3, h4, h5, h6, h7, h8, h9, h10, h11, h12, h13, h14, h15]
  rw [e, e2, Sem.run_bind, run_build w _ _ _ (built_tab b0 b1 b2 b3 b4 b5 b6 b7 b8 b9 b10 b11 b12 b13 b14 b15 l3)]
  rfl
theorem al16 {ρ : Operand → Value} {w : World} (o : Oper) (ho : o.op = .alloc 68) : ∃ zs : Array Value, zs.size = 48 ∧ (execOp ρ o).run Try.prog w = .ok (.value (.pointer (some ⟨w.heap.size, 0, none⟩))) (w.alloc (.cells zs 68)) := by
  refine ⟨#[.bool false, .int .i64 0, .int .i64 0, .bool false, .int .i64 0, .int .i64 0, .bool false, .int .i64 0, .int .i64 0, .bool false, .int .i64 0, .int .i64 0, .bool false, .int .i64 0, .int .i64 0, .bool false, .int .i64 0, .int .i64 0, .bool false, .int .i64 0, .int .i64 0, .bool false, .int .i64 0, .int .i64 0, .bool false, .int .i64 0, .int .i64 0, .bool false, .int .i64 0, .int .i64 0, .bool false, .int .i64 0, .int .i64 0, .bool false, .int .i64 0, .int .i64 0, .bool false, .int .i64 0, .int .i64 0, .bool false, .int .i64 0, .int .i64 0, .bool false, .int .i64 0, .int .i64 0, .bool false, .int .i64 0, .int .i64 0], rfl, ?_⟩
  simp [execOp, ho, go_sem]

theorem wk_end {P : Program} {ops : Array Oper} {Q : Exit → Act → World → Prop} {a : Act} {w : World} {l : List Oper} {k : Nat} (hk : l.length = k) (h : Q .normal a w) : wpList P ops Q (l.drop k) a w := by
  rw [List.drop_of_length_le (by omega)]
  exact h

set_option maxHeartbeats 1000000 in
theorem tab6 {Q : Exit → Act → World → Prop} {a : Act} {W : World} {b0 b1 b2 b3 b4 b5 b6 b7 b8 b9 b10 b11 b12 b13 b14 b15 : Bool} {l3 : Int} {v4 : Value} (z : a.tmps.size = 134) (f4 : Sv a 4 v4) (f42 : Sv a 42 (.agg #[.bool b0, .int .i64 3, .int .i64 2])) (f45 : Sv a 45 (.agg #[.bool b1, .int .i64 1, .int .i64 1])) (f53 : Sv a 53 (.agg #[.bool b2, .int .i64 2, .int .i64 1])) (f62 : Sv a 62 (.agg #[.bool b3, .int .i64 3, .int .i64 l3])) (f65 : Sv a 65 (.agg #[.bool b4, .int .i64 1, .int .i64 1])) (f74 : Sv a 74 (.agg #[.bool b5, .int .i64 7, .int .i64 1])) (f78 : Sv a 78 (.agg #[.bool b6, .int .i64 2, .int .i64 1])) (f92 : Sv a 92 (.agg #[.bool b7, .int .i64 1, .int .i64 1])) (f99 : Sv a 99 (.agg #[.bool b8, .int .i64 3, .int .i64 3])) (f103 : Sv a 103 (.agg #[.bool b9, .int .i64 3, .int .i64 2])) (f108 : Sv a 108 (.agg #[.bool b10, .int .i64 4, .int .i64 2])) (f110 : Sv a 110 (.agg #[.bool b11, .int .i64 1, .int .i64 1])) (f116 : Sv a 116 (.agg #[.bool b12, .int .i64 5, .int .i64 2])) (f121 : Sv a 121 (.agg #[.bool b13, .int .i64 4, .int .i64 3])) (f127 : Sv a 127 (.agg #[.bool b14, .int .i64 6, .int .i64 2])) (f129 : Sv a 129 (.agg #[.bool b15, .int .i64 7, .int .i64 2]))
    (h : ∀ a', a'.tmps.size = 134 → a'.defers = a.defers → Sv a' 4 v4 → Sv a' 10 (.pointer (some ⟨W.heap.size, 0, none⟩)) → Q .normal a' (W.alloc (.cells #[.bool b0, .int .i64 3, .int .i64 2, .bool b1, .int .i64 1, .int .i64 1, .bool b2, .int .i64 2, .int .i64 1, .bool b3, .int .i64 3, .int .i64 l3, .bool b4, .int .i64 1, .int .i64 1, .bool b5, .int .i64 7, .int .i64 1, .bool b6, .int .i64 2, .int .i64 1, .bool b7, .int .i64 1, .int .i64 1, .bool b8, .int .i64 3, .int .i64 3, .bool b9, .int .i64 3, .int .i64 2, .bool b10, .int .i64 4, .int .i64 2, .bool b11, .int .i64 1, .int .i64 1, .bool b12, .int .i64 5, .int .i64 2, .bool b13, .int .i64 4, .int .i64 3, .bool b14, .int .i64 6, .int .i64 2, .bool b15, .int .i64 7, .int .i64 2] 68))) : wpList Try.prog ops6.toArray Q (ops6.drop 93) a W := by
  refine wk_val (k := 93) o6_93 (by rw [z]; decide) (ev_tab f42.eval f45.eval f53.eval f62.eval f65.eval f74.eval f78.eval f92.eval f99.eval f103.eval f108.eval f110.eval f116.eval f121.eval f127.eval f129.eval) fun a1 n f130 => ?_
  have z := n.1.trans z
  have f4 := n.keep f4 (by decide)
  have hdf := n.2.1
  clear n
  obtain ⟨o, h1, h2⟩ := Option.map_eq_some_iff.1 o6_94
  simp only [Prod.mk.injEq] at h2
  obtain ⟨hd1, hop, hg⟩ := h2
  rw [drop_at h1]
  obtain ⟨zs, hzs, hr⟩ := al16 (ρ := a1.eval) (w := W) o hop
  refine wpList_plain hg fun K hK => ?_
  show o.upon Try.prog a1 K Q ((execOp a1.eval o).run Try.prog W)
  rw [hr, Oper.upon_value, hd1]
  refine hK _ _ ?_
  have f10 : Sv (a1.put (some 10) (.pointer (some ⟨W.heap.size, 0, none⟩))) 10 (.pointer (some ⟨W.heap.size, 0, none⟩)) := Sv.self (by rw [z]; decide) _
  have f130 := f130.ne (d := 10) (by decide) (.pointer (some ⟨W.heap.size, 0, none⟩))
  have f4 := f4.ne (d := 10) (by decide) (.pointer (some ⟨W.heap.size, 0, none⟩))
  have z : (a1.put (some 10) (.pointer (some ⟨W.heap.size, 0, none⟩))).tmps.size = 134 := by simpa [Act.put] using z
  have hdf : (a1.put (some 10) (.pointer (some ⟨W.heap.size, 0, none⟩))).defers = a.defers := hdf
  generalize a1.put (some 10) (.pointer (some ⟨W.heap.size, 0, none⟩)) = a2 at *
  obtain ⟨o, h1, h2⟩ := Option.map_eq_some_iff.1 o6_95
  simp only [Prod.mk.injEq] at h2
  obtain ⟨hd1, hop, hg⟩ := h2
  rw [drop_at h1]
  have hs : (Try.prog.info? 68).map (·.size) = some 48 := by kernel_rfl
  refine wpList_store_row hg 68 _ _ hop W.heap.size _ f10.eval f130.eval 68 zs (heap_alloc_new W _) hs (by rw [hzs]; rfl) (by simp [Value.oneCell']) ?_
  rw [World.setRow_alloc_new, hd1]
  exact wk_end len6 (h a2 z hdf f4 f10)

set_option maxHeartbeats 1000000 in
theorem look6 {Q : Exit → Act → World → Prop} {a : Act} {W : World} {kind lack st acc : Int} {wo em sto wr rm fr : Bool} {B2 B3 : Nat} {v4 : Value} (z : a.tmps.size = 134)
    (f2 : Sv a 2 (.pointer (some ⟨B2, 0, none⟩))) (f3 : Sv a 3 (.pointer (some ⟨B3, 0, none⟩))) (f4 : Sv a 4 v4) (f5 : Sv a 5 (.int .i64 kind)) (f6 : Sv a 6 (.bool wo)) (f7 : Sv a 7 (.int .i64 lack)) (f8 : Sv a 8 (.bool em)) (f9 : Sv a 9 (.bool sto))
    (q2 : W.cell? ⟨B2, 6, none⟩ = some (.int .i64 st)) (q30 : W.cell? ⟨B3, 0, none⟩ = some (.int .i64 acc)) (q31 : W.cell? ⟨B3, 1, none⟩ = some (.bool wr)) (q32 : W.cell? ⟨B3, 2, none⟩ = some (.bool rm)) (q34 : W.cell? ⟨B3, 4, none⟩ = some (.bool fr))
    (h : ∀ a', a'.tmps.size = 134 → a'.defers = a.defers → Sv a' 4 v4 → Sv a' 10 (.pointer (some ⟨W.heap.size, 0, none⟩)) → Q .normal a' (W.alloc (.cells (tv [((kind == 1) && wo, 3, 2), (kind == 1, 1, 1), ((kind == 6) && (!fr), 2, 1), ((kind == 6) && (decide (0 < lack)), 3, (IntKind.i64.wrap (lack + 1))), (kind == 6, 1, 1), ((st == 3) || (st == 4), 7, 1), (acc == 1, 2, 1), (((acc == 2) || (acc == 3)) || (acc == 4), 1, 1), ((acc == 5) && wo, 3, 3), (acc == 5, 3, 2), (em && wo, 4, 2), (em, 1, 1), (sto && wr, 5, 2), (sto && wo, 4, 3), (sto && rm, 6, 2), (sto, 7, 2)]).toArray 68))) : wpList Try.prog ops6.toArray Q (ops6.drop 0) a W := by
  have m0 : a.defers = a.defers := rfl
  refine lk_0 z f5 f6 fun a1 n f42 => ?_
  have z := n.1.trans z
  have m0 := n.2.1.trans m0
  have f2 := n.keep f2 (by decide)
  have f3 := n.keep f3 (by decide)
  have f4 := n.keep f4 (by decide)
  have f5 := n.keep f5 (by decide)
  have f6 := n.keep f6 (by decide)
  have f7 := n.keep f7 (by decide)
  have f8 := n.keep f8 (by decide)
  have f9 := n.keep f9 (by decide)
  clear n
  refine lk_1 z f5 fun a2 n f45 => ?_
  have z := n.1.trans z
  have m0 := n.2.1.trans m0
  have f2 := n.keep f2 (by decide)
  have f3 := n.keep f3 (by decide)
  have f4 := n.keep f4 (by decide)
  have f5 := n.keep f5 (by decide)
  have f6 := n.keep f6 (by decide)
  have f7 := n.keep f7 (by decide)
  have f8 := n.keep f8 (by decide)
  have f9 := n.keep f9 (by decide)
  have f42 := n.keep f42 (by decide)
  clear n
  refine lk_2 z f3 f5 q34 fun a3 n f53 => ?_
  have z := n.1.trans z
  have m0 := n.2.1.trans m0
  have f2 := n.keep f2 (by decide)
  have f3 := n.keep f3 (by decide)
  have f4 := n.keep f4 (by decide)
  have f5 := n.keep f5 (by decide)
  have f6 := n.keep f6 (by decide)
  have f7 := n.keep f7 (by decide)
  have f8 := n.keep f8 (by decide)
  have f9 := n.keep f9 (by decide)
  have f42 := n.keep f42 (by decide)
  have f45 := n.keep f45 (by decide)
  clear n
  refine lk_3 z f5 f7 fun a4 n f62 => ?_
  have z := n.1.trans z
  have m0 := n.2.1.trans m0
  have f2 := n.keep f2 (by decide)
  have f3 := n.keep f3 (by decide)
  have f4 := n.keep f4 (by decide)
  have f5 := n.keep f5 (by decide)
  have f6 := n.keep f6 (by decide)
  have f7 := n.keep f7 (by decide)
  have f8 := n.keep f8 (by decide)
  have f9 := n.keep f9 (by decide)
  have f42 := n.keep f42 (by decide)
  have f45 := n.keep f45 (by decide)
  have f53 := n.keep f53 (by decide)
  clear n
  refine lk_4 z f5 fun a5 n f65 => ?_
  have z := n.1.trans z
  have m0 := n.2.1.trans m0
  have f2 := n.keep f2 (by decide)
  have f3 := n.keep f3 (by decide)
  have f4 := n.keep f4 (by decide)
  have f5 := n.keep f5 (by decide)
  have f6 := n.keep f6 (by decide)
  have f7 := n.keep f7 (by decide)
  have f8 := n.keep f8 (by decide)
  have f9 := n.keep f9 (by decide)
  have f42 := n.keep f42 (by decide)
  have f45 := n.keep f45 (by decide)
  have f53 := n.keep f53 (by decide)
  have f62 := n.keep f62 (by decide)
  clear n
  refine lk_5 z f2 q2 fun a6 n f74 => ?_
  have z := n.1.trans z
  have m0 := n.2.1.trans m0
  have f2 := n.keep f2 (by decide)
  have f3 := n.keep f3 (by decide)
  have f4 := n.keep f4 (by decide)
  have f5 := n.keep f5 (by decide)
  have f6 := n.keep f6 (by decide)
  have f7 := n.keep f7 (by decide)
  have f8 := n.keep f8 (by decide)
  have f9 := n.keep f9 (by decide)
  have f42 := n.keep f42 (by decide)
  have f45 := n.keep f45 (by decide)
  have f53 := n.keep f53 (by decide)
  have f62 := n.keep f62 (by decide)
  have f65 := n.keep f65 (by decide)
  clear n
  refine lk_6 z f3 q30 fun a7 n f78 => ?_
  have z := n.1.trans z
  have m0 := n.2.1.trans m0
  have f2 := n.keep f2 (by decide)
  have f3 := n.keep f3 (by decide)
  have f4 := n.keep f4 (by decide)
  have f5 := n.keep f5 (by decide)
  have f6 := n.keep f6 (by decide)
  have f7 := n.keep f7 (by decide)
  have f8 := n.keep f8 (by decide)
  have f9 := n.keep f9 (by decide)
  have f42 := n.keep f42 (by decide)
  have f45 := n.keep f45 (by decide)
  have f53 := n.keep f53 (by decide)
  have f62 := n.keep f62 (by decide)
  have f65 := n.keep f65 (by decide)
  have f74 := n.keep f74 (by decide)
  clear n
  refine lk_7 z f3 q30 fun a8 n f92 => ?_
  have z := n.1.trans z
  have m0 := n.2.1.trans m0
  have f2 := n.keep f2 (by decide)
  have f3 := n.keep f3 (by decide)
  have f4 := n.keep f4 (by decide)
  have f5 := n.keep f5 (by decide)
  have f6 := n.keep f6 (by decide)
  have f7 := n.keep f7 (by decide)
  have f8 := n.keep f8 (by decide)
  have f9 := n.keep f9 (by decide)
  have f42 := n.keep f42 (by decide)
  have f45 := n.keep f45 (by decide)
  have f53 := n.keep f53 (by decide)
  have f62 := n.keep f62 (by decide)
  have f65 := n.keep f65 (by decide)
  have f74 := n.keep f74 (by decide)
  have f78 := n.keep f78 (by decide)
  clear n
  refine lk_8 z f3 f6 q30 fun a9 n f99 => ?_
  have z := n.1.trans z
  have m0 := n.2.1.trans m0
  have f2 := n.keep f2 (by decide)
  have f3 := n.keep f3 (by decide)
  have f4 := n.keep f4 (by decide)
  have f5 := n.keep f5 (by decide)
  have f6 := n.keep f6 (by decide)
  have f7 := n.keep f7 (by decide)
  have f8 := n.keep f8 (by decide)
  have f9 := n.keep f9 (by decide)
  have f42 := n.keep f42 (by decide)
  have f45 := n.keep f45 (by decide)
  have f53 := n.keep f53 (by decide)
  have f62 := n.keep f62 (by decide)
  have f65 := n.keep f65 (by decide)
  have f74 := n.keep f74 (by decide)
  have f78 := n.keep f78 (by decide)
  have f92 := n.keep f92 (by decide)
  clear n
  refine lk_9 z f3 q30 fun a10 n f103 => ?_
  have z := n.1.trans z
  have m0 := n.2.1.trans m0
  have f2 := n.keep f2 (by decide)
  have f3 := n.keep f3 (by decide)
  have f4 := n.keep f4 (by decide)
  have f5 := n.keep f5 (by decide)
  have f6 := n.keep f6 (by decide)
  have f7 := n.keep f7 (by decide)
  have f8 := n.keep f8 (by decide)
  have f9 := n.keep f9 (by decide)
  have f42 := n.keep f42 (by decide)
  have f45 := n.keep f45 (by decide)
  have f53 := n.keep f53 (by decide)
  have f62 := n.keep f62 (by decide)
  have f65 := n.keep f65 (by decide)
  have f74 := n.keep f74 (by decide)
  have f78 := n.keep f78 (by decide)
  have f92 := n.keep f92 (by decide)
  have f99 := n.keep f99 (by decide)
  clear n
  refine lk_10 z f6 f8 fun a11 n f108 => ?_
  have z := n.1.trans z
  have m0 := n.2.1.trans m0
  have f2 := n.keep f2 (by decide)
  have f3 := n.keep f3 (by decide)
  have f4 := n.keep f4 (by decide)
  have f5 := n.keep f5 (by decide)
  have f6 := n.keep f6 (by decide)
  have f7 := n.keep f7 (by decide)
  have f8 := n.keep f8 (by decide)
  have f9 := n.keep f9 (by decide)
  have f42 := n.keep f42 (by decide)
  have f45 := n.keep f45 (by decide)
  have f53 := n.keep f53 (by decide)
  have f62 := n.keep f62 (by decide)
  have f65 := n.keep f65 (by decide)
  have f74 := n.keep f74 (by decide)
  have f78 := n.keep f78 (by decide)
  have f92 := n.keep f92 (by decide)
  have f99 := n.keep f99 (by decide)
  have f103 := n.keep f103 (by decide)
  clear n
  refine lk_11 z f8 fun a12 n f110 => ?_
  have z := n.1.trans z
  have m0 := n.2.1.trans m0
  have f2 := n.keep f2 (by decide)
  have f3 := n.keep f3 (by decide)
  have f4 := n.keep f4 (by decide)
  have f5 := n.keep f5 (by decide)
  have f6 := n.keep f6 (by decide)
  have f7 := n.keep f7 (by decide)
  have f8 := n.keep f8 (by decide)
  have f9 := n.keep f9 (by decide)
  have f42 := n.keep f42 (by decide)
  have f45 := n.keep f45 (by decide)
  have f53 := n.keep f53 (by decide)
  have f62 := n.keep f62 (by decide)
  have f65 := n.keep f65 (by decide)
  have f74 := n.keep f74 (by decide)
  have f78 := n.keep f78 (by decide)
  have f92 := n.keep f92 (by decide)
  have f99 := n.keep f99 (by decide)
  have f103 := n.keep f103 (by decide)
  have f108 := n.keep f108 (by decide)
  clear n
  refine lk_12 z f3 f9 q31 fun a13 n f116 => ?_
  have z := n.1.trans z
  have m0 := n.2.1.trans m0
  have f2 := n.keep f2 (by decide)
  have f3 := n.keep f3 (by decide)
  have f4 := n.keep f4 (by decide)
  have f5 := n.keep f5 (by decide)
  have f6 := n.keep f6 (by decide)
  have f7 := n.keep f7 (by decide)
  have f8 := n.keep f8 (by decide)
  have f9 := n.keep f9 (by decide)
  have f42 := n.keep f42 (by decide)
  have f45 := n.keep f45 (by decide)
  have f53 := n.keep f53 (by decide)
  have f62 := n.keep f62 (by decide)
  have f65 := n.keep f65 (by decide)
  have f74 := n.keep f74 (by decide)
  have f78 := n.keep f78 (by decide)
  have f92 := n.keep f92 (by decide)
  have f99 := n.keep f99 (by decide)
  have f103 := n.keep f103 (by decide)
  have f108 := n.keep f108 (by decide)
  have f110 := n.keep f110 (by decide)
  clear n
  refine lk_13 z f6 f9 fun a14 n f121 => ?_
  have z := n.1.trans z
  have m0 := n.2.1.trans m0
  have f2 := n.keep f2 (by decide)
  have f3 := n.keep f3 (by decide)
  have f4 := n.keep f4 (by decide)
  have f5 := n.keep f5 (by decide)
  have f6 := n.keep f6 (by decide)
  have f7 := n.keep f7 (by decide)
  have f8 := n.keep f8 (by decide)
  have f9 := n.keep f9 (by decide)
  have f42 := n.keep f42 (by decide)
  have f45 := n.keep f45 (by decide)
  have f53 := n.keep f53 (by decide)
  have f62 := n.keep f62 (by decide)
  have f65 := n.keep f65 (by decide)
  have f74 := n.keep f74 (by decide)
  have f78 := n.keep f78 (by decide)
  have f92 := n.keep f92 (by decide)
  have f99 := n.keep f99 (by decide)
  have f103 := n.keep f103 (by decide)
  have f108 := n.keep f108 (by decide)
  have f110 := n.keep f110 (by decide)
  have f116 := n.keep f116 (by decide)
  clear n
  refine lk_14 z f3 f9 q32 fun a15 n f127 => ?_
  have z := n.1.trans z
  have m0 := n.2.1.trans m0
  have f2 := n.keep f2 (by decide)
  have f3 := n.keep f3 (by decide)
  have f4 := n.keep f4 (by decide)
  have f5 := n.keep f5 (by decide)
  have f6 := n.keep f6 (by decide)
  have f7 := n.keep f7 (by decide)
  have f8 := n.keep f8 (by decide)
  have f9 := n.keep f9 (by decide)
  have f42 := n.keep f42 (by decide)
  have f45 := n.keep f45 (by decide)
  have f53 := n.keep f53 (by decide)
  have f62 := n.keep f62 (by decide)
  have f65 := n.keep f65 (by decide)
  have f74 := n.keep f74 (by decide)
  have f78 := n.keep f78 (by decide)
  have f92 := n.keep f92 (by decide)
  have f99 := n.keep f99 (by decide)
  have f103 := n.keep f103 (by decide)
  have f108 := n.keep f108 (by decide)
  have f110 := n.keep f110 (by decide)
  have f116 := n.keep f116 (by decide)
  have f121 := n.keep f121 (by decide)
  clear n
  refine lk_15 z f9 fun a16 n f129 => ?_
  have z := n.1.trans z
  have m0 := n.2.1.trans m0
  have f2 := n.keep f2 (by decide)
  have f3 := n.keep f3 (by decide)
  have f4 := n.keep f4 (by decide)
  have f5 := n.keep f5 (by decide)
  have f6 := n.keep f6 (by decide)
  have f7 := n.keep f7 (by decide)
  have f8 := n.keep f8 (by decide)
  have f9 := n.keep f9 (by decide)
  have f42 := n.keep f42 (by decide)
  have f45 := n.keep f45 (by decide)
  have f53 := n.keep f53 (by decide)
  have f62 := n.keep f62 (by decide)
  have f65 := n.keep f65 (by decide)
  have f74 := n.keep f74 (by decide)
  have f78 := n.keep f78 (by decide)
  have f92 := n.keep f92 (by decide)
  have f99 := n.keep f99 (by decide)
  have f103 := n.keep f103 (by decide)
  have f108 := n.keep f108 (by decide)
  have f110 := n.keep f110 (by decide)
  have f116 := n.keep f116 (by decide)
  have f121 := n.keep f121 (by decide)
  have f127 := n.keep f127 (by decide)
  clear n
  exact tab6 z f4 f42 f45 f53 f62 f65 f74 f78 f92 f99 f103 f108 f110 f116 f121 f127 f129 (fun a' z' d' g4 g10 => h a' z' (d'.trans m0) g4 g10)
end Go.Proofs.Ytbcfnocefjolfaa
