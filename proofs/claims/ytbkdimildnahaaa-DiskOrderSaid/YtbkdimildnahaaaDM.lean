/- The law: word, two. -/
import Derived.Test.YtbkdimildnahaaaDL
namespace Go.Proofs.Ytbkdimildnahaaa
open Go.RowKit
set_option linter.unusedVariables false
set_option maxRecDepth 100000

theorem ia_Content {ρ : Operand → Value} {w : World} {x y : Operand} {B i k : Nat} (hx : ρ x = .pointer (some ⟨B, i, none⟩)) (hy : ρ y = .int .i64 (k : Int)) (hk : k < 8) (o : Oper) (ho : o.op = .indexAddr 28 x y) : (execOp ρ o).run Try.prog w = .ok (.value (.pointer (some ⟨B, i + k, none⟩))) w := by
  have h1 : (k : Int) < 8 := by omega
  simp [execOp, ho, hx, hy, Instr.indexAt, go_sem, hk, h1, mk_add]
theorem ev_eqCB {ρ : Operand → Value} {w : World} {x y : Operand} {a b : Ct} {r : Bool} (hx : ρ x = .agg a.va) (hy : ρ y = .agg b.va) (hb : (a == b) = r) (o : Oper) (ho : o.op = .binOp .eql 28 x y 28) : (execOp ρ o).run Try.prog w = .ok (.value (.bool r)) w := by
  subst hb; exact ev_eqC hx hy o ho
theorem ev_neCB {ρ : Operand → Value} {w : World} {x y : Operand} {a b : Ct} {r : Bool} (hx : ρ x = .agg a.va) (hy : ρ y = .agg b.va) (hb : (a == b) = !r) (o : Oper) (ho : o.op = .binOp .neq 28 x y 28) : (execOp ρ o).run Try.prog w = .ok (.value (.bool r)) w := by
  have h := ev_neC hx hy o ho (w := w)
  have e : (a != b) = r := by simp [bne, hb]
  rw [e] at h; exact h
theorem ev_eqJB {ρ : Operand → Value} {w : World} {x y : Operand} {a b : Jb} {r : Bool} (hx : ρ x = .agg a.va) (hy : ρ y = .agg b.va) (hb : (a == b) = r) (o : Oper) (ho : o.op = .binOp .eql 38 x y 38) : (execOp ρ o).run Try.prog w = .ok (.value (.bool r)) w := by
  subst hb; exact ev_eqJ hx hy o ho
theorem ev_neJB {ρ : Operand → Value} {w : World} {x y : Operand} {a b : Jb} {r : Bool} (hx : ρ x = .agg a.va) (hy : ρ y = .agg b.va) (hb : (a == b) = !r) (o : Oper) (ho : o.op = .binOp .neq 38 x y 38) : (execOp ρ o).run Try.prog w = .ok (.value (.bool r)) w := by
  have h := ev_neJ hx hy o ho (w := w)
  have e : (a != b) = r := by simp [bne, hb]
  rw [e] at h; exact h
/-- The content with a number in its first word. -/
def wd (n : Int) : Ct := ⟨n, 0, 0, 0, 0, 0, 0, 0⟩

set_option maxHeartbeats 4000000 in
theorem word_any (n : Int) (w : World) : Calls Try.prog 33 #[.int .u64 n] w (RetB w (.returned (.agg (wd n).va))) := by
  have hbel0 := below0 w
  refine sx_enter (N := 7) [(0, .int .u64 n)] Try.func33 rfl Try.ntmps33 (by simp) (fun a z d s => ((Ag.nil z d).cons (s 0 _ rfl))) ?_
  intro a0 hA0
  refine wp_seq ?_
  refine wp_region_lit ?_
  refine sx_new (cs := Ct.zero.va) (t := 28) hA0 rfl (by decide) (.inl rfl) (ev_alloc (z := .agg Ct.zero.va) (by kernel_rfl) (by kernel_rfl) _ rfl) ?_
  intro B1 w1 a1 hB1 hx1 hg1 hA1
  clear hA0
  have hs1 := hg1.size
  have hl1 := hx1.lt
  refine sx_nil ?_
  refine then_n ?_
  refine wp_seq ?_
  refine wp_region_lit ?_
  refine sx_new (cs := Ct.zero.va) (t := 28) hA1 rfl (by decide) (.inl rfl) (ev_alloc (z := .agg Ct.zero.va) (by kernel_rfl) (by kernel_rfl) _ rfl) ?_
  intro B2 w2 a2 hB2 hx2 hg2 hA2
  clear hA1
  have hs2 := hg2.size
  have hl2 := hx2.lt
  refine sx_nil ?_
  refine then_n ?_
  refine wp_seq ?_
  refine wp_region_lit ?_
  refine sx_val hA2 rfl (ev_move (hA2.ev (i := 0) (v := .int .u64 n)) _ rfl) ?_
  intro a3 hA3; clear hA2
  refine sx_val (v := .pointer (some ⟨B2, 0, none⟩)) hA3 rfl (ia_Content (k := 0) (hA3.ev (i := 3) (v := .pointer (some ⟨B2, 0, none⟩))) (ec _ (.int .i64 0)) (by decide) _ rfl) ?_
  intro a4 hA4; clear hA3
  refine sx_scell (v := .int .u64 n) (v0 := .int .u64 Ct.zero.c0) hA4 rfl (.inl rfl) rfl (hA4.ev (i := 5) (v := .pointer (some ⟨B2, 0, none⟩))) (hA4.ev (i := 4) (v := .int .u64 n)) hx2 rfl (by kernel_rfl) rfl ?_
  intro w5 hx5 hg5
  have hx5 : Bx w5 B2 28 #[.int .u64 n, .int .u64 Ct.zero.c1, .int .u64 Ct.zero.c2, .int .u64 Ct.zero.c3, .int .u64 Ct.zero.c4, .int .u64 Ct.zero.c5, .int .u64 Ct.zero.c6, .int .u64 Ct.zero.c7] := hx5
  have hs5 := hg5.size
  refine sx_nil ?_
  refine then_n ?_
  refine wp_seq ?_
  refine wp_region_lit ?_
  refine sx_val (v := .agg #[.int .u64 n, .int .u64 Ct.zero.c1, .int .u64 Ct.zero.c2, .int .u64 Ct.zero.c3, .int .u64 Ct.zero.c4, .int .u64 Ct.zero.c5, .int .u64 Ct.zero.c6, .int .u64 Ct.zero.c7]) hA4 rfl (ev_row (hA4.ev (i := 3) (v := .pointer (some ⟨B2, 0, none⟩))) hx5 Try.underlying28 rfl (n := 8) (by kernel_rfl) rfl _ rfl) ?_
  intro a6 hA6; clear hA4
  have hx1_8 := hx1.gN hg2
  have hx1_9 := hx1_8.gB hg5 (by omega)
  refine sx_store hA6 rfl (.inl rfl) rfl (hA6.ev (i := 2) (v := .pointer (some ⟨B1, 0, none⟩))) (hA6.ev (i := 6) (v := .agg #[.int .u64 n, .int .u64 Ct.zero.c1, .int .u64 Ct.zero.c2, .int .u64 Ct.zero.c3, .int .u64 Ct.zero.c4, .int .u64 Ct.zero.c5, .int .u64 Ct.zero.c6, .int .u64 Ct.zero.c7])) hx1_9 (by kernel_rfl) rfl (by simp [Value.oneCell']) ?_
  intro w7 hx7 hg7
  have hs7 := hg7.size
  refine sx_nil ?_
  refine then_n ?_
  refine wp_ret ?_
  refine bodyPost_ret (rs_c  Try.results33 hA6 (by kernel_rfl) hx7 Try.underlying28 rfl (by kernel_rfl)) hA6.2.1 ?_
  have hbel0_10 := Below.gN hbel0 hg1 hbel0.size
  have hbel0_11 := Below.gN hbel0_10 hg2 hbel0_10.size
  have hbel0_12 := Below.gB hbel0_11 hg5 hbel0_11.size (by omega)
  have hbel0_13 := Below.gB hbel0_12 hg7 hbel0_12.size (by omega)
  exact ⟨rfl, hbel0_13⟩

/-- The chapter's device with two jobs. -/
def d2 : Dk := ⟨[Ct.zero, Ct.zero], [⟨true, 1, 5, wd 1⟩, ⟨false, 0, 6, Ct.zero⟩], 2⟩
def RetDB (w : World) (d : Dk) (b : Bool) (e : Ending) (w' : World) : Prop :=
  ∃ A1 c1 A2 c2, e = .returned (.tuple #[.agg #[.slice A1 d.cs.length c1, .slice A2 d.js.length c2, .int .i64 d.room], .bool b]) ∧ OwC w' w.heap.size A1 d.cs.length c1 d.cs ∧ OwJ w' w.heap.size A2 d.js.length c2 d.js ∧ Below w.heap.size w w'

set_option maxHeartbeats 8000000 in
theorem two_any (w : World) : Calls Try.prog 32 #[] w (RetDB w d2 true) := by
  have hbel0 := below0 w
  refine sx_enter (N := 46) [] Try.func32 rfl Try.ntmps32 (by simp) (fun a z d s => (Ag.nil z d)) ?_
  intro a0 hA0
  refine wp_seq ?_
  refine wp_region_lit ?_
  refine sx_new (cs := #[.slice none 0 0, .slice none 0 0, .int .i64 0]) (t := 25) hA0 rfl (by decide) (.inl rfl) (ev_alloc (z := .agg (#[.slice none 0 0, .slice none 0 0, .int .i64 0])) (by kernel_rfl) (by kernel_rfl) _ rfl) ?_
  intro B1 w1 a1 hB1 hx1 hg1 hA1
  clear hA0
  have hs1 := hg1.size
  have hl1 := hx1.lt
  refine sx_val hA1 rfl (ev_assign (ec _ (.bool false)) _ rfl) ?_
  intro a2 hA2; clear hA1
  refine sx_nil ?_
  refine then_n ?_
  refine wp_seq ?_
  refine wp_region_lit ?_
  refine sx_call (f := 22) (args := #[.int .i64 2, .int .i64 2]) hA2 rfl (by decide) (.inl rfl) (ev_fn rfl (mp2 (ec _ (.int .i64 2)) (ec _ (.int .i64 2))) (by kernel_rfl) _ rfl) (New_any 2 2 _) ?_
  intro e3 w3 hR3
  obtain ⟨Ap3, cp3, Aj3, cj3, rfl, hC3, hJ3, hb3⟩ := hR3
  refine ⟨_, rfl, ?_⟩
  intro a3 hA3
  clear hA2
  have hg3 := g0 hb3
  have hs3 := hg3.size
  clear hb3
  have ho3_0 : Own w3 (w1.heap.size) 28 8 (.slice Ap3 (nw 2 2).1.cs.length cp3) (nw 2 2).1.cs.length (flat Ct.va (nw 2 2).1.cs) := hC3.2
  have hh3_0 := Own.hi ho3_0
  have ho3_1 : Own w3 (w1.heap.size) 38 11 (.slice Aj3 (nw 2 2).1.js.length cj3) (nw 2 2).1.js.length (flat Jb.va (nw 2 2).1.js) := hJ3.2
  have hh3_1 := Own.hi ho3_1
  refine sx_val hA3 rfl (ev_move (hA3.ev (i := 9) (v := .tuple #[.agg #[.slice Ap3 (nw 2 2).1.cs.length cp3, .slice Aj3 (nw 2 2).1.js.length cj3, .int .i64 (nw 2 2).1.room], .int .i64 (nw 2 2).2])) _ rfl) ?_
  intro a4 hA4; clear hA3
  refine sx_val (v := .agg #[.slice Ap3 (nw 2 2).1.cs.length cp3, .slice Aj3 (nw 2 2).1.js.length cj3, .int .i64 (nw 2 2).1.room]) hA4 rfl (ev_ext (hA4.ev (i := 8) (v := .tuple #[.agg #[.slice Ap3 (nw 2 2).1.cs.length cp3, .slice Aj3 (nw 2 2).1.js.length cj3, .int .i64 (nw 2 2).1.room], .int .i64 (nw 2 2).2])) rfl _ rfl) ?_
  intro a5 hA5; clear hA4
  refine sx_val (v := .int .i64 (nw 2 2).2) hA5 rfl (ev_ext (hA5.ev (i := 8) (v := .tuple #[.agg #[.slice Ap3 (nw 2 2).1.cs.length cp3, .slice Aj3 (nw 2 2).1.js.length cj3, .int .i64 (nw 2 2).1.room], .int .i64 (nw 2 2).2])) rfl _ rfl) ?_
  intro a6 hA6; clear hA5
  refine sx_new (cs := #[.slice none 0 0, .slice none 0 0, .int .i64 0]) (t := 25) hA6 rfl (by decide) (.inl rfl) (ev_alloc (z := .agg (#[.slice none 0 0, .slice none 0 0, .int .i64 0])) (by kernel_rfl) (by kernel_rfl) _ rfl) ?_
  intro B7 w7 a7 hB7 hx7 hg7 hA7
  clear hA6
  have hs7 := hg7.size
  have hl7 := hx7.lt
  refine sx_store hA7 rfl (.inl rfl) rfl (hA7.ev (i := 2) (v := .pointer (some ⟨B7, 0, none⟩))) (hA7.ev (i := 10) (v := .agg #[.slice Ap3 (nw 2 2).1.cs.length cp3, .slice Aj3 (nw 2 2).1.js.length cj3, .int .i64 (nw 2 2).1.room])) hx7 (by kernel_rfl) rfl (dk_one _ _ _ _ _ _ _) ?_
  intro w8 hx8 hg8
  have hs8 := hg8.size
  refine sx_val hA7 rfl (ev_assign (hA7.ev (i := 11) (v := .int .i64 (nw 2 2).2)) _ rfl) ?_
  intro a9 hA9; clear hA7
  refine sx_nil ?_
  refine then_n ?_
  refine wp_seq ?_
  have hx1_10 := hx1.gN hg3
  have hx1_11 := hx1_10.gN hg7
  have hx1_12 := hx1_11.gB hg8 (by omega)
  have ho3_13 := Own.gN ho3_0 hg7
  have ho3_14 := Own.gBT ho3_13 hg8 hx7 (by decide)
  have ho3_15 := Own.gN ho3_1 hg7
  have ho3_16 := Own.gBT ho3_15 hg8 hx7 (by decide)
  have hbel0_17 := Below.gN hbel0 hg1 hbel0.size
  have hbel0_18 := Below.gN hbel0_17 hg3 hbel0_17.size
  have hbel0_19 := Below.gN hbel0_18 hg7 hbel0_18.size
  have hbel0_20 := Below.gB hbel0_19 hg8 hbel0_19.size (by omega)
  refine region_D (n := 9) (by kernel_rfl) (by kernel_rfl) rfl (fun L ac wc => ∃ Ap2r2 : Option Addr, ∃ cp2r2 : Nat, ∃ Aj2r2 : Option Addr, ∃ cj2r2 : Nat, ∃ N6r2 : Nat, Below w.heap.size w wc ∧ w8.heap.size ≤ wc.heap.size ∧ Bx wc B1 25 (#[.slice none 0 0, .slice none 0 0, .int .i64 0]) ∧ Bx wc B7 25 (#[.slice Ap3 (nw 2 2).1.cs.length cp3, .slice Aj3 (nw 2 2).1.js.length cj3, .int .i64 (nw 2 2).1.room]) ∧ Own wc (w1.heap.size) 28 8 (.slice Ap3 (nw 2 2).1.cs.length cp3) (nw 2 2).1.cs.length (flat Ct.va (nw 2 2).1.cs) ∧ Own wc (w1.heap.size) 38 11 (.slice Aj3 (nw 2 2).1.js.length cj3) (nw 2 2).1.js.length (flat Jb.va (nw 2 2).1.js) ∧ (L 6 = true → w8.heap.size ≤ N6r2 ∧ Bx wc N6r2 25 (bif L 7 then (#[.slice Ap2r2 (sub (nw 2 2).1 ⟨true, 1, 5, (wd 1)⟩).1.cs.length cp2r2, .slice Aj2r2 (sub (nw 2 2).1 ⟨true, 1, 5, (wd 1)⟩).1.js.length cj2r2, .int .i64 (sub (nw 2 2).1 ⟨true, 1, 5, (wd 1)⟩).1.room]) else (#[.slice none 0 0, .slice none 0 0, .int .i64 0]))) ∧ (L 2 = true → Own wc w8.heap.size 28 8 (.slice Ap2r2 (sub (nw 2 2).1 ⟨true, 1, 5, (wd 1)⟩).1.cs.length cp2r2) (sub (nw 2 2).1 ⟨true, 1, 5, (wd 1)⟩).1.cs.length (flat Ct.va (sub (nw 2 2).1 ⟨true, 1, 5, (wd 1)⟩).1.cs)) ∧ (L 2 = true → Own wc w8.heap.size 38 11 (.slice Aj2r2 (sub (nw 2 2).1 ⟨true, 1, 5, (wd 1)⟩).1.js.length cj2r2) (sub (nw 2 2).1 ⟨true, 1, 5, (wd 1)⟩).1.js.length (flat Jb.va (sub (nw 2 2).1 ⟨true, 1, 5, (wd 1)⟩).1.js)) ∧ (L 7 = true → L 6 = true) ∧ (L 3 = true → L 2 = true) ∧ (L 4 = true → L 2 = true) ∧ (L 7 = true → L 2 = true) ∧ (L 0 = true → Sv ac 13 (.agg #[.slice Ap3 (nw 2 2).1.cs.length cp3, .slice Aj3 (nw 2 2).1.js.length cj3, .int .i64 (nw 2 2).1.room])) ∧ (L 1 = true → Sv ac 14 (.agg (wd 1).va)) ∧ (L 2 = true → Sv ac 15 (.tuple #[.agg #[.slice Ap2r2 (sub (nw 2 2).1 ⟨true, 1, 5, (wd 1)⟩).1.cs.length cp2r2, .slice Aj2r2 (sub (nw 2 2).1 ⟨true, 1, 5, (wd 1)⟩).1.js.length cj2r2, .int .i64 (sub (nw 2 2).1 ⟨true, 1, 5, (wd 1)⟩).1.room], .int .i64 (sub (nw 2 2).1 ⟨true, 1, 5, (wd 1)⟩).2])) ∧ (L 3 = true → Sv ac 12 (.tuple #[.agg #[.slice Ap2r2 (sub (nw 2 2).1 ⟨true, 1, 5, (wd 1)⟩).1.cs.length cp2r2, .slice Aj2r2 (sub (nw 2 2).1 ⟨true, 1, 5, (wd 1)⟩).1.js.length cj2r2, .int .i64 (sub (nw 2 2).1 ⟨true, 1, 5, (wd 1)⟩).1.room], .int .i64 (sub (nw 2 2).1 ⟨true, 1, 5, (wd 1)⟩).2])) ∧ (L 4 = true → Sv ac 16 (.agg #[.slice Ap2r2 (sub (nw 2 2).1 ⟨true, 1, 5, (wd 1)⟩).1.cs.length cp2r2, .slice Aj2r2 (sub (nw 2 2).1 ⟨true, 1, 5, (wd 1)⟩).1.js.length cj2r2, .int .i64 (sub (nw 2 2).1 ⟨true, 1, 5, (wd 1)⟩).1.room])) ∧ (L 5 = true → Sv ac 17 (.int .i64 (sub (nw 2 2).1 ⟨true, 1, 5, (wd 1)⟩).2)) ∧ (L 6 = true → Sv ac 4 (.pointer (some ⟨N6r2, 0, none⟩))) ∧ (L 8 = true → Sv ac 5 (.int .i64 (sub (nw 2 2).1 ⟨true, 1, 5, (wd 1)⟩).2))) ⟨none, 0, none, 0, 0, (Below.gN hbel0_20 (gdr _) hbel0_20.size), (Nat.le_refl _), (hx1_12.gN (gdr _)), (hx8.gN (gdr _)), (Own.gN ho3_14 (gdr _)), (Own.gN ho3_16 (gdr _)), (fun h => by cases h), (fun h => by cases h), (fun h => by cases h), (fun h => by cases h), (fun h => by cases h), (fun h => by cases h), (fun h => by cases h), (fun h => by cases h), (fun h => by cases h), (fun h => by cases h), (fun h => by cases h), (fun h => by cases h), (fun h => by cases h), (fun h => by cases h), (fun h => by cases h)⟩ ?_ ?_
  · intro iq hiq o ho L hL hdep ac wc hF hJ
    obtain ⟨Ap2r2, cp2r2, Aj2r2, cj2r2, N6r2, bl, sz, b_B1, b_B7, p_0, p_1, n_N6r2, o_2_0, o_2_1, cl_7_6, cl_3_2, cl_4_2, cl_7_2, s_13, s_14, s_15, s_12, s_16, s_17, s_4, s_5⟩ := hJ
    have z := hF.1.trans hA9.1
    match iq, hiq with
    | 0, _ =>
      obtain rfl := Option.some.inj (show some _ = some o from ho); clear ho
      have v2 := hF.sv (s := 2) (by kernel_rfl) (hA9.get (i := 2) (v := .pointer (some ⟨B7, 0, none⟩)))
      refine dj_val (i := 0) (v := .agg #[.slice Ap3 (nw 2 2).1.cs.length cp3, .slice Aj3 (nw 2 2).1.js.length cj3, .int .i64 (nw 2 2).1.room]) rfl (.inl rfl) (ev_row v2.eval b_B7 Try.underlying25 rfl (n := 3) (by kernel_rfl) rfl _ rfl) ?_
      exact ⟨⟨_, rfl⟩, Ap2r2, cp2r2, Aj2r2, cj2r2, N6r2, bl, sz, b_B1, b_B7, p_0, p_1, n_N6r2, o_2_0, o_2_1, cl_7_6, cl_3_2, cl_4_2, cl_7_2, (fun _ => Sv.self (by rw [z]; decide) _), (so s_14), (so s_15), (so s_12), (so s_16), (so s_17), (so s_4), (so s_5)⟩
    | 1, _ =>
      obtain rfl := Option.some.inj (show some _ = some o from ho); clear ho
      refine dj_call (i := 1) (f := 33) (args := #[.int .u64 1]) rfl (.inl rfl) (ev_fn rfl (mp1 (ec ac (.int .u64 1))) (by kernel_rfl) _ rfl) (word_any 1 _) ?_
      intro e wk1 hR
      obtain ⟨rfl, hb1⟩ := hR
      refine ⟨_, rfl, ?_⟩
      have hg := g0 hb1
      exact ⟨⟨_, rfl⟩, Ap2r2, cp2r2, Aj2r2, cj2r2, N6r2, (Below.gN bl hg bl.size), (Nat.le_trans sz hg.size), (b_B1.gN hg), (b_B7.gN hg), (Own.gN p_0 hg), (Own.gN p_1 hg), (fun h => ⟨(n_N6r2 h).1, (n_N6r2 h).2.gN hg⟩), (fun h => Own.gN (o_2_0 h) hg), (fun h => Own.gN (o_2_1 h) hg), cl_7_6, cl_3_2, cl_4_2, cl_7_2, (so s_13), (fun _ => Sv.self (by rw [z]; decide) _), (so s_15), (so s_12), (so s_16), (so s_17), (so s_4), (so s_5)⟩
    | 2, _ =>
      obtain rfl := Option.some.inj (show some _ = some o from ho); clear ho
      have v13 := s_13 (dp hdep 0)
      have v14 := s_14 (dp hdep 1)
      refine dj_call (i := 2) (f := 12) (args := #[.agg #[.slice Ap3 (nw 2 2).1.cs.length cp3, .slice Aj3 (nw 2 2).1.js.length cj3, .int .i64 (nw 2 2).1.room], .int .i64 1, .int .i64 5, .agg (wd 1).va]) rfl (.inl rfl) (ev_fn rfl (mp4 v13.eval (ec ac (.int .i64 1)) (ec ac (.int .i64 5)) v14.eval) (by kernel_rfl) _ rfl) (Write_any Ap3 cp3 Aj3 cj3 (nw 2 2).1.cs (nw 2 2).1.js (nw 2 2).1.room 1 5 (wd 1) _ ⟨(OwnR.gr (e := 28) ⟨rfl, p_0⟩), (OwnR.gr (e := 38) ⟨rfl, p_1⟩)⟩ (by decide) (by decide)) ?_
      intro e wk2 hR
      obtain ⟨Ap2r2, cp2r2, Aj2r2, cj2r2, rfl, hC2, hJ2, hb2⟩ := hR
      refine ⟨_, rfl, ?_⟩
      have hg := g0 hb2
      have hown0 := Own.mono (hC2.2) sz
      have hown1 := Own.mono (hJ2.2) sz
      exact ⟨⟨_, rfl⟩, Ap2r2, cp2r2, Aj2r2, cj2r2, N6r2, (Below.gN bl hg bl.size), (Nat.le_trans sz hg.size), (b_B1.gN hg), (b_B7.gN hg), (Own.gN p_0 hg), (Own.gN p_1 hg), (fun h => ⟨(n_N6r2 h).1, by
          have e0 : L 7 = false := by
            cases hc : L 7
            · rfl
            · exact absurd (cl_7_2 hc) (by rw [hL]; decide)
          have h0 := (n_N6r2 h).2.gN hg
          rw [e0] at h0
          show Bx _ _ _ (bif L 7 then _ else _)
          rw [e0]
          exact h0⟩), (fun _ => hown0), (fun _ => hown1), cl_7_6, (fun _ => rfl), (fun _ => rfl), (fun _ => rfl), (so s_13), (so s_14), (fun _ => Sv.self (by rw [z]; decide) _), (fun h => absurd (cl_3_2 h) (by rw [hL]; decide)), (fun h => absurd (cl_4_2 h) (by rw [hL]; decide)), (so s_17), (so s_4), (so s_5)⟩
    | 3, _ =>
      obtain rfl := Option.some.inj (show some _ = some o from ho); clear ho
      have v15 := s_15 (dp hdep 2)
      refine dj_val (i := 3) (v := .tuple #[.agg #[.slice Ap2r2 (sub (nw 2 2).1 ⟨true, 1, 5, (wd 1)⟩).1.cs.length cp2r2, .slice Aj2r2 (sub (nw 2 2).1 ⟨true, 1, 5, (wd 1)⟩).1.js.length cj2r2, .int .i64 (sub (nw 2 2).1 ⟨true, 1, 5, (wd 1)⟩).1.room], .int .i64 (sub (nw 2 2).1 ⟨true, 1, 5, (wd 1)⟩).2]) rfl (.inl rfl) (ev_move v15.eval _ rfl) ?_
      exact ⟨⟨_, rfl⟩, Ap2r2, cp2r2, Aj2r2, cj2r2, N6r2, bl, sz, b_B1, b_B7, p_0, p_1, n_N6r2, o_2_0, o_2_1, cl_7_6, (fun _ => dp hdep 2), cl_4_2, cl_7_2, (so s_13), (so s_14), (so s_15), (fun _ => Sv.self (by rw [z]; decide) _), (so s_16), (so s_17), (so s_4), (so s_5)⟩
    | 4, _ =>
      obtain rfl := Option.some.inj (show some _ = some o from ho); clear ho
      have v12 := s_12 (dp hdep 3)
      refine dj_val (i := 4) (v := .agg #[.slice Ap2r2 (sub (nw 2 2).1 ⟨true, 1, 5, (wd 1)⟩).1.cs.length cp2r2, .slice Aj2r2 (sub (nw 2 2).1 ⟨true, 1, 5, (wd 1)⟩).1.js.length cj2r2, .int .i64 (sub (nw 2 2).1 ⟨true, 1, 5, (wd 1)⟩).1.room]) rfl (.inl rfl) (ev_ext v12.eval rfl _ rfl) ?_
      exact ⟨⟨_, rfl⟩, Ap2r2, cp2r2, Aj2r2, cj2r2, N6r2, bl, sz, b_B1, b_B7, p_0, p_1, n_N6r2, o_2_0, o_2_1, cl_7_6, cl_3_2, (fun _ => cl_3_2 (dp hdep 3)), cl_7_2, (so s_13), (so s_14), (so s_15), (so s_12), (fun _ => Sv.self (by rw [z]; decide) _), (so s_17), (so s_4), (so s_5)⟩
    | 5, _ =>
      obtain rfl := Option.some.inj (show some _ = some o from ho); clear ho
      have v12 := s_12 (dp hdep 3)
      refine dj_val (i := 5) (v := .int .i64 (sub (nw 2 2).1 ⟨true, 1, 5, (wd 1)⟩).2) rfl (.inl rfl) (ev_ext v12.eval rfl _ rfl) ?_
      exact ⟨⟨_, rfl⟩, Ap2r2, cp2r2, Aj2r2, cj2r2, N6r2, bl, sz, b_B1, b_B7, p_0, p_1, n_N6r2, o_2_0, o_2_1, cl_7_6, cl_3_2, cl_4_2, cl_7_2, (so s_13), (so s_14), (so s_15), (so s_12), (so s_16), (fun _ => Sv.self (by rw [z]; decide) _), (so s_4), (so s_5)⟩
    | 6, _ =>
      obtain rfl := Option.some.inj (show some _ = some o from ho); clear ho
      refine dj_val (i := 6) rfl (.inl rfl) (w' := wc.alloc (.cells (#[.slice none 0 0, .slice none 0 0, .int .i64 0]) 25)) (v := .pointer (some ⟨wc.heap.size, 0, none⟩)) (ev_alloc (z := .agg (#[.slice none 0 0, .slice none 0 0, .int .i64 0])) (by kernel_rfl) (by kernel_rfl) _ rfl) ?_
      have hx := Bx.new wc 25 (#[.slice none 0 0, .slice none 0 0, .int .i64 0])
      have hg := g0 (al wc (.cells (#[.slice none 0 0, .slice none 0 0, .int .i64 0]) 25))
      have e0 : L 7 = false := by
        cases hc : L 7
        · rfl
        · exact absurd (cl_7_6 hc) (by rw [hL]; decide)
      replace hx : Bx (wc.alloc (.cells (#[.slice none 0 0, .slice none 0 0, .int .i64 0]) 25)) wc.heap.size 25 (bif L 7 then (#[.slice Ap2r2 (sub (nw 2 2).1 ⟨true, 1, 5, (wd 1)⟩).1.cs.length cp2r2, .slice Aj2r2 (sub (nw 2 2).1 ⟨true, 1, 5, (wd 1)⟩).1.js.length cj2r2, .int .i64 (sub (nw 2 2).1 ⟨true, 1, 5, (wd 1)⟩).1.room]) else (#[.slice none 0 0, .slice none 0 0, .int .i64 0])) := by rw [e0]; exact hx
      exact ⟨⟨_, rfl⟩, Ap2r2, cp2r2, Aj2r2, cj2r2, wc.heap.size, (Below.gN bl hg bl.size), (Nat.le_trans sz hg.size), (b_B1.gN hg), (b_B7.gN hg), (Own.gN p_0 hg), (Own.gN p_1 hg), (fun _ => ⟨sz, hx⟩), (fun h => Own.gN (o_2_0 h) hg), (fun h => Own.gN (o_2_1 h) hg), (fun _ => rfl), cl_3_2, cl_4_2, cl_7_2, (so s_13), (so s_14), (so s_15), (so s_12), (so s_16), (so s_17), (fun _ => Sv.self (by rw [z]; decide) _), (so s_5)⟩
    | 7, _ =>
      obtain rfl := Option.some.inj (show some _ = some o from ho); clear ho
      have v4 := s_4 (dp hdep 6)
      have v16 := s_16 (dp hdep 4)
      have xN6r2 := (n_N6r2 (dp hdep 6)).2
      rw [hL] at xN6r2
      refine dj_skip (i := 7) rfl rfl (.inl rfl) (w' := wc.setRow N6r2 (#[.slice Ap2r2 (sub (nw 2 2).1 ⟨true, 1, 5, (wd 1)⟩).1.cs.length cp2r2, .slice Aj2r2 (sub (nw 2 2).1 ⟨true, 1, 5, (wd 1)⟩).1.js.length cj2r2, .int .i64 (sub (nw 2 2).1 ⟨true, 1, 5, (wd 1)⟩).1.room])) (ev_srow v4.eval v16.eval xN6r2 (n := 3) (by kernel_rfl) rfl rfl (dk_one _ _ _ _ _ _ _) _ rfl) ?_
      have hg := grw xN6r2 (#[.slice Ap2r2 (sub (nw 2 2).1 ⟨true, 1, 5, (wd 1)⟩).1.cs.length cp2r2, .slice Aj2r2 (sub (nw 2 2).1 ⟨true, 1, 5, (wd 1)⟩).1.js.length cj2r2, .int .i64 (sub (nw 2 2).1 ⟨true, 1, 5, (wd 1)⟩).1.room])
      have hx := xN6r2.row (#[.slice Ap2r2 (sub (nw 2 2).1 ⟨true, 1, 5, (wd 1)⟩).1.cs.length cp2r2, .slice Aj2r2 (sub (nw 2 2).1 ⟨true, 1, 5, (wd 1)⟩).1.js.length cj2r2, .int .i64 (sub (nw 2 2).1 ⟨true, 1, 5, (wd 1)⟩).1.room])
      exact ⟨⟨undef, rfl⟩, Ap2r2, cp2r2, Aj2r2, cj2r2, N6r2, (Below.gB bl hg bl.size (by have := (n_N6r2 (dp hdep 6)).1; omega)), (Nat.le_trans sz hg.size), (b_B1.gB hg (by have := (n_N6r2 (dp hdep 6)).1; omega)), (b_B7.gB hg (by have := (n_N6r2 (dp hdep 6)).1; omega)), (Own.gB p_0 hg hh3_0 (by have := (n_N6r2 (dp hdep 6)).1; omega)), (Own.gB p_1 hg hh3_1 (by have := (n_N6r2 (dp hdep 6)).1; omega)), (fun h => ⟨(n_N6r2 h).1, hx⟩), (fun h => Own.gBT (o_2_0 h) hg xN6r2 (by decide)), (fun h => Own.gBT (o_2_1 h) hg xN6r2 (by decide)), (fun _ => dp hdep 6), cl_3_2, cl_4_2, (fun _ => cl_4_2 (dp hdep 4)), s_13, s_14, s_15, s_12, s_16, s_17, s_4, s_5⟩
    | 8, _ =>
      obtain rfl := Option.some.inj (show some _ = some o from ho); clear ho
      have v17 := s_17 (dp hdep 5)
      refine dj_val (i := 8) (v := .int .i64 (sub (nw 2 2).1 ⟨true, 1, 5, (wd 1)⟩).2) rfl (.inl rfl) (ev_assign v17.eval _ rfl) ?_
      exact ⟨⟨_, rfl⟩, Ap2r2, cp2r2, Aj2r2, cj2r2, N6r2, bl, sz, b_B1, b_B7, p_0, p_1, n_N6r2, o_2_0, o_2_1, cl_7_6, cl_3_2, cl_4_2, cl_7_2, (so s_13), (so s_14), (so s_15), (so s_12), (so s_16), (so s_17), (so s_4), (fun _ => Sv.self (by rw [z]; decide) _)⟩
    | k + 9, h => exact absurd h (by omega)
  · intro L hall ac21 wc21 hF hJ
    obtain ⟨Ap2r2, cp2r2, Aj2r2, cj2r2, N6r2, bl, sz, b_B1, b_B7, p_0, p_1, n_N6r2, o_2_0, o_2_1, cl_7_6, cl_3_2, cl_4_2, cl_7_2, s_13, s_14, s_15, s_12, s_16, s_17, s_4, s_5⟩ := hJ
    have hA21 : Ag ac21 46 [(0, .pointer (some ⟨B1, 0, none⟩)), (1, .bool false), (3, .int .i64 (nw 2 2).2), (4, .pointer (some ⟨N6r2, 0, none⟩)), (5, .int .i64 (sub (nw 2 2).1 ⟨true, 1, 5, (wd 1)⟩).2)] := ((((((Ag.nil (hF.1.trans hA9.1) (hF.2.1.trans hA9.2.1)).cons (s_5 (hall 8 (by decide)))).cons (s_4 (hall 6 (by decide)))).cons (hF.sv (s := 3) (by kernel_rfl) (hA9.get (i := 3) (v := .int .i64 (nw 2 2).2)))).cons (hF.sv (s := 1) (by kernel_rfl) (hA9.get (i := 1) (v := .bool false)))).cons (hF.sv (s := 0) (by kernel_rfl) (hA9.get (i := 0) (v := .pointer (some ⟨B1, 0, none⟩)))))
    have bl21 := bl
    have sz21 := sz
    have b21_B1 := b_B1
    have b21_B7 := b_B7
    have p21_0 := p_0
    have p21_1 := p_1
    have n21_N6r2 := (n_N6r2 (hall 6 (by decide))).1
    have b21_N6r2 : Bx wc21 N6r2 25 (#[.slice Ap2r2 (sub (nw 2 2).1 ⟨true, 1, 5, (wd 1)⟩).1.cs.length cp2r2, .slice Aj2r2 (sub (nw 2 2).1 ⟨true, 1, 5, (wd 1)⟩).1.js.length cj2r2, .int .i64 (sub (nw 2 2).1 ⟨true, 1, 5, (wd 1)⟩).1.room]) := by
      have h := (n_N6r2 (hall 6 (by decide))).2
      rw [hall 7 (by decide)] at h
      exact h
    have l21_N6r2 := b21_N6r2.lt
    have o21_2_0 := o_2_0 (hall 2 (by decide))
    have hh21_2_0 := Own.hi o21_2_0
    have o21_2_1 := o_2_1 (hall 2 (by decide))
    have hh21_2_1 := Own.hi o21_2_1
    clear hF bl sz b_B1 b_B7 p_0 p_1 n_N6r2 o_2_0 o_2_1 cl_7_6 cl_3_2 cl_4_2 cl_7_2 s_13 s_14 s_15 s_12 s_16 s_17 s_4 s_5 hall hA9
    refine then_n ?_
    refine wp_seq ?_
    refine wp_region_lit ?_
    refine sx_val (v := .agg #[.slice Ap2r2 (sub (nw 2 2).1 ⟨true, 1, 5, (wd 1)⟩).1.cs.length cp2r2, .slice Aj2r2 (sub (nw 2 2).1 ⟨true, 1, 5, (wd 1)⟩).1.js.length cj2r2, .int .i64 (sub (nw 2 2).1 ⟨true, 1, 5, (wd 1)⟩).1.room]) hA21 rfl (ev_row (hA21.ev (i := 4) (v := .pointer (some ⟨N6r2, 0, none⟩))) b21_N6r2 Try.underlying25 rfl (n := 3) (by kernel_rfl) rfl _ rfl) ?_
    intro a22 hA22; clear hA21
    refine sx_call (f := 15) (args := #[.agg #[.slice Ap2r2 (sub (nw 2 2).1 ⟨true, 1, 5, (wd 1)⟩).1.cs.length cp2r2, .slice Aj2r2 (sub (nw 2 2).1 ⟨true, 1, 5, (wd 1)⟩).1.js.length cj2r2, .int .i64 (sub (nw 2 2).1 ⟨true, 1, 5, (wd 1)⟩).1.room], .int .i64 0, .int .i64 6]) hA22 rfl (by decide) (.inl rfl) (ev_fn rfl (mp3 (hA22.ev (i := 19) (v := .agg #[.slice Ap2r2 (sub (nw 2 2).1 ⟨true, 1, 5, (wd 1)⟩).1.cs.length cp2r2, .slice Aj2r2 (sub (nw 2 2).1 ⟨true, 1, 5, (wd 1)⟩).1.js.length cj2r2, .int .i64 (sub (nw 2 2).1 ⟨true, 1, 5, (wd 1)⟩).1.room])) (ec _ (.int .i64 0)) (ec _ (.int .i64 6))) (by kernel_rfl) _ rfl) (Read_any Ap2r2 cp2r2 Aj2r2 cj2r2 (sub (nw 2 2).1 ⟨true, 1, 5, (wd 1)⟩).1.cs (sub (nw 2 2).1 ⟨true, 1, 5, (wd 1)⟩).1.js (sub (nw 2 2).1 ⟨true, 1, 5, (wd 1)⟩).1.room 0 6 _ ⟨(OwnR.gr (e := 28) ⟨rfl, o21_2_0⟩), (OwnR.gr (e := 38) ⟨rfl, o21_2_1⟩)⟩ (by decide) (by decide)) ?_
    intro e23 w23 hR23
    obtain ⟨Ap23, cp23, Aj23, cj23, rfl, hC23, hJ23, hb23⟩ := hR23
    refine ⟨_, rfl, ?_⟩
    intro a23 hA23
    clear hA22
    have hg23 := g0 hb23
    have hs23 := hg23.size
    clear hb23
    have ho23_0 : Own w23 (wc21.heap.size) 28 8 (.slice Ap23 (sub (sub (nw 2 2).1 ⟨true, 1, 5, (wd 1)⟩).1 ⟨false, 0, 6, Ct.zero⟩).1.cs.length cp23) (sub (sub (nw 2 2).1 ⟨true, 1, 5, (wd 1)⟩).1 ⟨false, 0, 6, Ct.zero⟩).1.cs.length (flat Ct.va (sub (sub (nw 2 2).1 ⟨true, 1, 5, (wd 1)⟩).1 ⟨false, 0, 6, Ct.zero⟩).1.cs) := hC23.2
    have hh23_0 := Own.hi ho23_0
    have ho23_1 : Own w23 (wc21.heap.size) 38 11 (.slice Aj23 (sub (sub (nw 2 2).1 ⟨true, 1, 5, (wd 1)⟩).1 ⟨false, 0, 6, Ct.zero⟩).1.js.length cj23) (sub (sub (nw 2 2).1 ⟨true, 1, 5, (wd 1)⟩).1 ⟨false, 0, 6, Ct.zero⟩).1.js.length (flat Jb.va (sub (sub (nw 2 2).1 ⟨true, 1, 5, (wd 1)⟩).1 ⟨false, 0, 6, Ct.zero⟩).1.js) := hJ23.2
    have hh23_1 := Own.hi ho23_1
    refine sx_val hA23 rfl (ev_move (hA23.ev (i := 20) (v := .tuple #[.agg #[.slice Ap23 (sub (sub (nw 2 2).1 ⟨true, 1, 5, (wd 1)⟩).1 ⟨false, 0, 6, Ct.zero⟩).1.cs.length cp23, .slice Aj23 (sub (sub (nw 2 2).1 ⟨true, 1, 5, (wd 1)⟩).1 ⟨false, 0, 6, Ct.zero⟩).1.js.length cj23, .int .i64 (sub (sub (nw 2 2).1 ⟨true, 1, 5, (wd 1)⟩).1 ⟨false, 0, 6, Ct.zero⟩).1.room], .int .i64 (sub (sub (nw 2 2).1 ⟨true, 1, 5, (wd 1)⟩).1 ⟨false, 0, 6, Ct.zero⟩).2])) _ rfl) ?_
    intro a24 hA24; clear hA23
    refine sx_val (v := .agg #[.slice Ap23 (sub (sub (nw 2 2).1 ⟨true, 1, 5, (wd 1)⟩).1 ⟨false, 0, 6, Ct.zero⟩).1.cs.length cp23, .slice Aj23 (sub (sub (nw 2 2).1 ⟨true, 1, 5, (wd 1)⟩).1 ⟨false, 0, 6, Ct.zero⟩).1.js.length cj23, .int .i64 (sub (sub (nw 2 2).1 ⟨true, 1, 5, (wd 1)⟩).1 ⟨false, 0, 6, Ct.zero⟩).1.room]) hA24 rfl (ev_ext (hA24.ev (i := 18) (v := .tuple #[.agg #[.slice Ap23 (sub (sub (nw 2 2).1 ⟨true, 1, 5, (wd 1)⟩).1 ⟨false, 0, 6, Ct.zero⟩).1.cs.length cp23, .slice Aj23 (sub (sub (nw 2 2).1 ⟨true, 1, 5, (wd 1)⟩).1 ⟨false, 0, 6, Ct.zero⟩).1.js.length cj23, .int .i64 (sub (sub (nw 2 2).1 ⟨true, 1, 5, (wd 1)⟩).1 ⟨false, 0, 6, Ct.zero⟩).1.room], .int .i64 (sub (sub (nw 2 2).1 ⟨true, 1, 5, (wd 1)⟩).1 ⟨false, 0, 6, Ct.zero⟩).2])) rfl _ rfl) ?_
    intro a25 hA25; clear hA24
    refine sx_val (v := .int .i64 (sub (sub (nw 2 2).1 ⟨true, 1, 5, (wd 1)⟩).1 ⟨false, 0, 6, Ct.zero⟩).2) hA25 rfl (ev_ext (hA25.ev (i := 18) (v := .tuple #[.agg #[.slice Ap23 (sub (sub (nw 2 2).1 ⟨true, 1, 5, (wd 1)⟩).1 ⟨false, 0, 6, Ct.zero⟩).1.cs.length cp23, .slice Aj23 (sub (sub (nw 2 2).1 ⟨true, 1, 5, (wd 1)⟩).1 ⟨false, 0, 6, Ct.zero⟩).1.js.length cj23, .int .i64 (sub (sub (nw 2 2).1 ⟨true, 1, 5, (wd 1)⟩).1 ⟨false, 0, 6, Ct.zero⟩).1.room], .int .i64 (sub (sub (nw 2 2).1 ⟨true, 1, 5, (wd 1)⟩).1 ⟨false, 0, 6, Ct.zero⟩).2])) rfl _ rfl) ?_
    intro a26 hA26; clear hA25
    refine sx_new (cs := #[.slice none 0 0, .slice none 0 0, .int .i64 0]) (t := 25) hA26 rfl (by decide) (.inl rfl) (ev_alloc (z := .agg (#[.slice none 0 0, .slice none 0 0, .int .i64 0])) (by kernel_rfl) (by kernel_rfl) _ rfl) ?_
    intro B27 w27 a27 hB27 hx27 hg27 hA27
    clear hA26
    have hs27 := hg27.size
    have hl27 := hx27.lt
    refine sx_store hA27 rfl (.inl rfl) rfl (hA27.ev (i := 6) (v := .pointer (some ⟨B27, 0, none⟩))) (hA27.ev (i := 21) (v := .agg #[.slice Ap23 (sub (sub (nw 2 2).1 ⟨true, 1, 5, (wd 1)⟩).1 ⟨false, 0, 6, Ct.zero⟩).1.cs.length cp23, .slice Aj23 (sub (sub (nw 2 2).1 ⟨true, 1, 5, (wd 1)⟩).1 ⟨false, 0, 6, Ct.zero⟩).1.js.length cj23, .int .i64 (sub (sub (nw 2 2).1 ⟨true, 1, 5, (wd 1)⟩).1 ⟨false, 0, 6, Ct.zero⟩).1.room])) hx27 (by kernel_rfl) rfl (dk_one _ _ _ _ _ _ _) ?_
    intro w28 hx28 hg28
    have hs28 := hg28.size
    refine sx_val hA27 rfl (ev_assign (hA27.ev (i := 22) (v := .int .i64 (sub (sub (nw 2 2).1 ⟨true, 1, 5, (wd 1)⟩).1 ⟨false, 0, 6, Ct.zero⟩).2)) _ rfl) ?_
    intro a29 hA29; clear hA27
    refine sx_nil ?_
    refine then_n ?_
    refine wp_seq ?_
    have b21_B1_30 := b21_B1.gN hg23
    have b21_B1_31 := b21_B1_30.gN hg27
    have b21_B1_32 := b21_B1_31.gB hg28 (by omega)
    have ho23_33 := Own.gN ho23_0 hg27
    have ho23_34 := Own.gBT ho23_33 hg28 hx27 (by decide)
    have ho23_35 := Own.gN ho23_1 hg27
    have ho23_36 := Own.gBT ho23_35 hg28 hx27 (by decide)
    have bl21_37 := Below.gN bl21 hg23 bl21.size
    have bl21_38 := Below.gN bl21_37 hg27 bl21_37.size
    have bl21_39 := Below.gB bl21_38 hg28 bl21_38.size (by omega)
    refine region_D (n := 25) (by kernel_rfl) (by kernel_rfl) rfl (fun L ac wc => Below w.heap.size w wc ∧ w28.heap.size ≤ wc.heap.size ∧ Bx wc B1 25 (bif L 23 then (#[.slice Ap23 (sub (sub (nw 2 2).1 ⟨true, 1, 5, (wd 1)⟩).1 ⟨false, 0, 6, Ct.zero⟩).1.cs.length cp23, .slice Aj23 (sub (sub (nw 2 2).1 ⟨true, 1, 5, (wd 1)⟩).1 ⟨false, 0, 6, Ct.zero⟩).1.js.length cj23, .int .i64 (sub (sub (nw 2 2).1 ⟨true, 1, 5, (wd 1)⟩).1 ⟨false, 0, 6, Ct.zero⟩).1.room]) else (#[.slice none 0 0, .slice none 0 0, .int .i64 0])) ∧ Bx wc B27 25 (#[.slice Ap23 (sub (sub (nw 2 2).1 ⟨true, 1, 5, (wd 1)⟩).1 ⟨false, 0, 6, Ct.zero⟩).1.cs.length cp23, .slice Aj23 (sub (sub (nw 2 2).1 ⟨true, 1, 5, (wd 1)⟩).1 ⟨false, 0, 6, Ct.zero⟩).1.js.length cj23, .int .i64 (sub (sub (nw 2 2).1 ⟨true, 1, 5, (wd 1)⟩).1 ⟨false, 0, 6, Ct.zero⟩).1.room]) ∧ Own wc (wc21.heap.size) 28 8 (.slice Ap23 (sub (sub (nw 2 2).1 ⟨true, 1, 5, (wd 1)⟩).1 ⟨false, 0, 6, Ct.zero⟩).1.cs.length cp23) (sub (sub (nw 2 2).1 ⟨true, 1, 5, (wd 1)⟩).1 ⟨false, 0, 6, Ct.zero⟩).1.cs.length (flat Ct.va (sub (sub (nw 2 2).1 ⟨true, 1, 5, (wd 1)⟩).1 ⟨false, 0, 6, Ct.zero⟩).1.cs) ∧ Own wc (wc21.heap.size) 38 11 (.slice Aj23 (sub (sub (nw 2 2).1 ⟨true, 1, 5, (wd 1)⟩).1 ⟨false, 0, 6, Ct.zero⟩).1.js.length cj23) (sub (sub (nw 2 2).1 ⟨true, 1, 5, (wd 1)⟩).1 ⟨false, 0, 6, Ct.zero⟩).1.js.length (flat Jb.va (sub (sub (nw 2 2).1 ⟨true, 1, 5, (wd 1)⟩).1 ⟨false, 0, 6, Ct.zero⟩).1.js) ∧ (L 0 = true → Sv ac 23 (.agg #[.slice Ap23 (sub (sub (nw 2 2).1 ⟨true, 1, 5, (wd 1)⟩).1 ⟨false, 0, 6, Ct.zero⟩).1.cs.length cp23, .slice Aj23 (sub (sub (nw 2 2).1 ⟨true, 1, 5, (wd 1)⟩).1 ⟨false, 0, 6, Ct.zero⟩).1.js.length cj23, .int .i64 (sub (sub (nw 2 2).1 ⟨true, 1, 5, (wd 1)⟩).1 ⟨false, 0, 6, Ct.zero⟩).1.room])) ∧ (L 1 = true → Sv ac 24 (.int .i64 (nw 2 2).2)) ∧ (L 2 = true → Sv ac 25 (.bool true)) ∧ (L 3 = true → Sv ac 26 (.bool true)) ∧ (L 4 = true → Sv ac 27 (.int .i64 (sub (nw 2 2).1 ⟨true, 1, 5, (wd 1)⟩).2)) ∧ (L 5 = true → Sv ac 28 (.bool true)) ∧ (L 6 = true → Sv ac 29 (.bool true)) ∧ (L 7 = true → Sv ac 30 (.bool true)) ∧ (L 8 = true → Sv ac 31 (.int .i64 (sub (sub (nw 2 2).1 ⟨true, 1, 5, (wd 1)⟩).1 ⟨false, 0, 6, Ct.zero⟩).2)) ∧ (L 9 = true → Sv ac 32 (.bool true)) ∧ (L 10 = true → Sv ac 33 (.bool true)) ∧ (L 11 = true → Sv ac 34 (.bool true)) ∧ (L 12 = true → Sv ac 35 (.pointer (some ⟨B27, 1, none⟩))) ∧ (L 13 = true → Sv ac 36 (.slice Aj23 (sub (sub (nw 2 2).1 ⟨true, 1, 5, (wd 1)⟩).1 ⟨false, 0, 6, Ct.zero⟩).1.js.length cj23)) ∧ (L 14 = true → Sv ac 37 (.int .i64 ((sub (sub (nw 2 2).1 ⟨true, 1, 5, (wd 1)⟩).1 ⟨false, 0, 6, Ct.zero⟩).1.js.length : Int))) ∧ (L 15 = true → Sv ac 38 (.bool true)) ∧ (L 16 = true → Sv ac 39 (.bool true)) ∧ (L 17 = true → Sv ac 40 (.bool true)) ∧ (L 18 = true → Sv ac 41 (.pointer (some ⟨B27, 0, none⟩))) ∧ (L 19 = true → Sv ac 42 (.slice Ap23 (sub (sub (nw 2 2).1 ⟨true, 1, 5, (wd 1)⟩).1 ⟨false, 0, 6, Ct.zero⟩).1.cs.length cp23)) ∧ (L 20 = true → Sv ac 43 (.int .i64 ((sub (sub (nw 2 2).1 ⟨true, 1, 5, (wd 1)⟩).1 ⟨false, 0, 6, Ct.zero⟩).1.cs.length : Int))) ∧ (L 21 = true → Sv ac 44 (.bool true)) ∧ (L 22 = true → Sv ac 45 (.bool true)) ∧ (L 24 = true → Sv ac 1 (.bool true))) ⟨(Below.gN bl21_39 (gdr _) bl21_39.size), (Nat.le_refl _), (b21_B1_32.gN (gdr _)), (hx28.gN (gdr _)), (Own.gN ho23_34 (gdr _)), (Own.gN ho23_36 (gdr _)), (fun h => by cases h), (fun h => by cases h), (fun h => by cases h), (fun h => by cases h), (fun h => by cases h), (fun h => by cases h), (fun h => by cases h), (fun h => by cases h), (fun h => by cases h), (fun h => by cases h), (fun h => by cases h), (fun h => by cases h), (fun h => by cases h), (fun h => by cases h), (fun h => by cases h), (fun h => by cases h), (fun h => by cases h), (fun h => by cases h), (fun h => by cases h), (fun h => by cases h), (fun h => by cases h), (fun h => by cases h), (fun h => by cases h), (fun h => by cases h)⟩ ?_ ?_
    · intro iq hiq o ho L hL hdep ac wc hF hJ
      obtain ⟨bl, sz, b_B1, b_B27, p_0, p_1, s_23, s_24, s_25, s_26, s_27, s_28, s_29, s_30, s_31, s_32, s_33, s_34, s_35, s_36, s_37, s_38, s_39, s_40, s_41, s_42, s_43, s_44, s_45, s_1⟩ := hJ
      have z := hF.1.trans hA29.1
      match iq, hiq with
      | 0, _ =>
        obtain rfl := Option.some.inj (show some _ = some o from ho); clear ho
        have v6 := hF.sv (s := 6) (by kernel_rfl) (hA29.get (i := 6) (v := .pointer (some ⟨B27, 0, none⟩)))
        refine dj_val (i := 0) (v := .agg #[.slice Ap23 (sub (sub (nw 2 2).1 ⟨true, 1, 5, (wd 1)⟩).1 ⟨false, 0, 6, Ct.zero⟩).1.cs.length cp23, .slice Aj23 (sub (sub (nw 2 2).1 ⟨true, 1, 5, (wd 1)⟩).1 ⟨false, 0, 6, Ct.zero⟩).1.js.length cj23, .int .i64 (sub (sub (nw 2 2).1 ⟨true, 1, 5, (wd 1)⟩).1 ⟨false, 0, 6, Ct.zero⟩).1.room]) rfl (.inl rfl) (ev_row v6.eval b_B27 Try.underlying25 rfl (n := 3) (by kernel_rfl) rfl _ rfl) ?_
        exact ⟨⟨_, rfl⟩, bl, sz, b_B1, b_B27, p_0, p_1, (fun _ => Sv.self (by rw [z]; decide) _), (so s_24), (so s_25), (so s_26), (so s_27), (so s_28), (so s_29), (so s_30), (so s_31), (so s_32), (so s_33), (so s_34), (so s_35), (so s_36), (so s_37), (so s_38), (so s_39), (so s_40), (so s_41), (so s_42), (so s_43), (so s_44), (so s_45), (so s_1)⟩
      | 1, _ =>
        obtain rfl := Option.some.inj (show some _ = some o from ho); clear ho
        have v3 := hF.sv (s := 3) (by kernel_rfl) (hA29.get (i := 3) (v := .int .i64 (nw 2 2).2))
        refine dj_val (i := 1) (v := .int .i64 (nw 2 2).2) rfl (.inl rfl) (ev_move v3.eval _ rfl) ?_
        exact ⟨⟨_, rfl⟩, bl, sz, b_B1, b_B27, p_0, p_1, (so s_23), (fun _ => Sv.self (by rw [z]; decide) _), (so s_25), (so s_26), (so s_27), (so s_28), (so s_29), (so s_30), (so s_31), (so s_32), (so s_33), (so s_34), (so s_35), (so s_36), (so s_37), (so s_38), (so s_39), (so s_40), (so s_41), (so s_42), (so s_43), (so s_44), (so s_45), (so s_1)⟩
      | 2, _ =>
        obtain rfl := Option.some.inj (show some _ = some o from ho); clear ho
        have v24 := s_24 (dp hdep 1)
        refine dj_val (i := 2) (v := .bool true) rfl (.inl rfl) (ev_eqlB (k := .i64) (m := (nw 2 2).2) (n := 0) v24.eval (ec ac (.int .i64 0)) (by kernel_rfl) _ rfl) ?_
        exact ⟨⟨_, rfl⟩, bl, sz, b_B1, b_B27, p_0, p_1, (so s_23), (so s_24), (fun _ => Sv.self (by rw [z]; decide) _), (so s_26), (so s_27), (so s_28), (so s_29), (so s_30), (so s_31), (so s_32), (so s_33), (so s_34), (so s_35), (so s_36), (so s_37), (so s_38), (so s_39), (so s_40), (so s_41), (so s_42), (so s_43), (so s_44), (so s_45), (so s_1)⟩
      | 3, _ =>
        obtain rfl := Option.some.inj (show some _ = some o from ho); clear ho
        have v25 := s_25 (dp hdep 2)
        refine dj_val (i := 3) (v := .bool true) rfl (.inl rfl) (ev_move v25.eval _ rfl) ?_
        exact ⟨⟨_, rfl⟩, bl, sz, b_B1, b_B27, p_0, p_1, (so s_23), (so s_24), (so s_25), (fun _ => Sv.self (by rw [z]; decide) _), (so s_27), (so s_28), (so s_29), (so s_30), (so s_31), (so s_32), (so s_33), (so s_34), (so s_35), (so s_36), (so s_37), (so s_38), (so s_39), (so s_40), (so s_41), (so s_42), (so s_43), (so s_44), (so s_45), (so s_1)⟩
      | 4, _ =>
        obtain rfl := Option.some.inj (show some _ = some o from ho); clear ho
        have v26 := s_26 (dp hdep 3)
        have v5 := hF.sv (s := 5) (by kernel_rfl) (hA29.get (i := 5) (v := .int .i64 (sub (nw 2 2).1 ⟨true, 1, 5, (wd 1)⟩).2))
        refine dj_val (i := 4) (v := .int .i64 (sub (nw 2 2).1 ⟨true, 1, 5, (wd 1)⟩).2) rfl (.inr ⟨3, true, 26, rfl, by kernel_rfl, v26⟩) (ev_move v5.eval _ rfl) ?_
        exact ⟨⟨_, rfl⟩, bl, sz, b_B1, b_B27, p_0, p_1, (so s_23), (so s_24), (so s_25), (so s_26), (fun _ => Sv.self (by rw [z]; decide) _), (so s_28), (so s_29), (so s_30), (so s_31), (so s_32), (so s_33), (so s_34), (so s_35), (so s_36), (so s_37), (so s_38), (so s_39), (so s_40), (so s_41), (so s_42), (so s_43), (so s_44), (so s_45), (so s_1)⟩
      | 5, _ =>
        obtain rfl := Option.some.inj (show some _ = some o from ho); clear ho
        have v26 := s_26 (dp hdep 3)
        have v27 := s_27 (dp hdep 4)
        refine dj_val (i := 5) (v := .bool true) rfl (.inr ⟨3, true, 26, rfl, by kernel_rfl, v26⟩) (ev_eqlB (k := .i64) (m := (sub (nw 2 2).1 ⟨true, 1, 5, (wd 1)⟩).2) (n := 0) v27.eval (ec ac (.int .i64 0)) (by kernel_rfl) _ rfl) ?_
        exact ⟨⟨_, rfl⟩, bl, sz, b_B1, b_B27, p_0, p_1, (so s_23), (so s_24), (so s_25), (so s_26), (so s_27), (fun _ => Sv.self (by rw [z]; decide) _), (so s_29), (so s_30), (so s_31), (so s_32), (so s_33), (so s_34), (so s_35), (so s_36), (so s_37), (so s_38), (so s_39), (so s_40), (so s_41), (so s_42), (so s_43), (so s_44), (so s_45), (so s_1)⟩
      | 6, _ =>
        obtain rfl := Option.some.inj (show some _ = some o from ho); clear ho
        have v26 := s_26 (dp hdep 3)
        have v28 := s_28 (dp hdep 5)
        refine dj_val (i := 6) (v := .bool true) rfl (.inl rfl) (ev_pickT v26.eval v28.eval _ rfl) ?_
        exact ⟨⟨_, rfl⟩, bl, sz, b_B1, b_B27, p_0, p_1, (so s_23), (so s_24), (so s_25), (so s_26), (so s_27), (so s_28), (fun _ => Sv.self (by rw [z]; decide) _), (so s_30), (so s_31), (so s_32), (so s_33), (so s_34), (so s_35), (so s_36), (so s_37), (so s_38), (so s_39), (so s_40), (so s_41), (so s_42), (so s_43), (so s_44), (so s_45), (so s_1)⟩
      | 7, _ =>
        obtain rfl := Option.some.inj (show some _ = some o from ho); clear ho
        have v29 := s_29 (dp hdep 6)
        refine dj_val (i := 7) (v := .bool true) rfl (.inl rfl) (ev_move v29.eval _ rfl) ?_
        exact ⟨⟨_, rfl⟩, bl, sz, b_B1, b_B27, p_0, p_1, (so s_23), (so s_24), (so s_25), (so s_26), (so s_27), (so s_28), (so s_29), (fun _ => Sv.self (by rw [z]; decide) _), (so s_31), (so s_32), (so s_33), (so s_34), (so s_35), (so s_36), (so s_37), (so s_38), (so s_39), (so s_40), (so s_41), (so s_42), (so s_43), (so s_44), (so s_45), (so s_1)⟩
      | 8, _ =>
        obtain rfl := Option.some.inj (show some _ = some o from ho); clear ho
        have v30 := s_30 (dp hdep 7)
        have v7 := hF.sv (s := 7) (by kernel_rfl) (hA29.get (i := 7) (v := .int .i64 (sub (sub (nw 2 2).1 ⟨true, 1, 5, (wd 1)⟩).1 ⟨false, 0, 6, Ct.zero⟩).2))
        refine dj_val (i := 8) (v := .int .i64 (sub (sub (nw 2 2).1 ⟨true, 1, 5, (wd 1)⟩).1 ⟨false, 0, 6, Ct.zero⟩).2) rfl (.inr ⟨7, true, 30, rfl, by kernel_rfl, v30⟩) (ev_move v7.eval _ rfl) ?_
        exact ⟨⟨_, rfl⟩, bl, sz, b_B1, b_B27, p_0, p_1, (so s_23), (so s_24), (so s_25), (so s_26), (so s_27), (so s_28), (so s_29), (so s_30), (fun _ => Sv.self (by rw [z]; decide) _), (so s_32), (so s_33), (so s_34), (so s_35), (so s_36), (so s_37), (so s_38), (so s_39), (so s_40), (so s_41), (so s_42), (so s_43), (so s_44), (so s_45), (so s_1)⟩
      | 9, _ =>
        obtain rfl := Option.some.inj (show some _ = some o from ho); clear ho
        have v30 := s_30 (dp hdep 7)
        have v31 := s_31 (dp hdep 8)
        refine dj_val (i := 9) (v := .bool true) rfl (.inr ⟨7, true, 30, rfl, by kernel_rfl, v30⟩) (ev_eqlB (k := .i64) (m := (sub (sub (nw 2 2).1 ⟨true, 1, 5, (wd 1)⟩).1 ⟨false, 0, 6, Ct.zero⟩).2) (n := 0) v31.eval (ec ac (.int .i64 0)) (by kernel_rfl) _ rfl) ?_
        exact ⟨⟨_, rfl⟩, bl, sz, b_B1, b_B27, p_0, p_1, (so s_23), (so s_24), (so s_25), (so s_26), (so s_27), (so s_28), (so s_29), (so s_30), (so s_31), (fun _ => Sv.self (by rw [z]; decide) _), (so s_33), (so s_34), (so s_35), (so s_36), (so s_37), (so s_38), (so s_39), (so s_40), (so s_41), (so s_42), (so s_43), (so s_44), (so s_45), (so s_1)⟩
      | 10, _ =>
        obtain rfl := Option.some.inj (show some _ = some o from ho); clear ho
        have v30 := s_30 (dp hdep 7)
        have v32 := s_32 (dp hdep 9)
        refine dj_val (i := 10) (v := .bool true) rfl (.inl rfl) (ev_pickT v30.eval v32.eval _ rfl) ?_
        exact ⟨⟨_, rfl⟩, bl, sz, b_B1, b_B27, p_0, p_1, (so s_23), (so s_24), (so s_25), (so s_26), (so s_27), (so s_28), (so s_29), (so s_30), (so s_31), (so s_32), (fun _ => Sv.self (by rw [z]; decide) _), (so s_34), (so s_35), (so s_36), (so s_37), (so s_38), (so s_39), (so s_40), (so s_41), (so s_42), (so s_43), (so s_44), (so s_45), (so s_1)⟩
      | 11, _ =>
        obtain rfl := Option.some.inj (show some _ = some o from ho); clear ho
        have v33 := s_33 (dp hdep 10)
        refine dj_val (i := 11) (v := .bool true) rfl (.inl rfl) (ev_move v33.eval _ rfl) ?_
        exact ⟨⟨_, rfl⟩, bl, sz, b_B1, b_B27, p_0, p_1, (so s_23), (so s_24), (so s_25), (so s_26), (so s_27), (so s_28), (so s_29), (so s_30), (so s_31), (so s_32), (so s_33), (fun _ => Sv.self (by rw [z]; decide) _), (so s_35), (so s_36), (so s_37), (so s_38), (so s_39), (so s_40), (so s_41), (so s_42), (so s_43), (so s_44), (so s_45), (so s_1)⟩
      | 12, _ =>
        obtain rfl := Option.some.inj (show some _ = some o from ho); clear ho
        have v34 := s_34 (dp hdep 11)
        have v6 := hF.sv (s := 6) (by kernel_rfl) (hA29.get (i := 6) (v := .pointer (some ⟨B27, 0, none⟩)))
        refine dj_val (i := 12) (v := .pointer (some ⟨B27, 1, none⟩)) rfl (.inr ⟨11, true, 34, rfl, by kernel_rfl, v34⟩) (fb_Disk_1 v6.eval _ rfl) ?_
        exact ⟨⟨_, rfl⟩, bl, sz, b_B1, b_B27, p_0, p_1, (so s_23), (so s_24), (so s_25), (so s_26), (so s_27), (so s_28), (so s_29), (so s_30), (so s_31), (so s_32), (so s_33), (so s_34), (fun _ => Sv.self (by rw [z]; decide) _), (so s_36), (so s_37), (so s_38), (so s_39), (so s_40), (so s_41), (so s_42), (so s_43), (so s_44), (so s_45), (so s_1)⟩
      | 13, _ =>
        obtain rfl := Option.some.inj (show some _ = some o from ho); clear ho
        have v34 := s_34 (dp hdep 11)
        have v35 := s_35 (dp hdep 12)
        refine dj_val (i := 13) (v := .slice Aj23 (sub (sub (nw 2 2).1 ⟨true, 1, 5, (wd 1)⟩).1 ⟨false, 0, 6, Ct.zero⟩).1.js.length cj23) rfl (.inr ⟨11, true, 34, rfl, by kernel_rfl, v34⟩) (ev_cell (v := .slice Aj23 (sub (sub (nw 2 2).1 ⟨true, 1, 5, (wd 1)⟩).1 ⟨false, 0, 6, Ct.zero⟩).1.js.length cj23) v35.eval ((b_B27.cell 1).trans rfl) Try.underlying23 rfl _ rfl) ?_
        exact ⟨⟨_, rfl⟩, bl, sz, b_B1, b_B27, p_0, p_1, (so s_23), (so s_24), (so s_25), (so s_26), (so s_27), (so s_28), (so s_29), (so s_30), (so s_31), (so s_32), (so s_33), (so s_34), (so s_35), (fun _ => Sv.self (by rw [z]; decide) _), (so s_37), (so s_38), (so s_39), (so s_40), (so s_41), (so s_42), (so s_43), (so s_44), (so s_45), (so s_1)⟩
      | 14, _ =>
        obtain rfl := Option.some.inj (show some _ = some o from ho); clear ho
        have v34 := s_34 (dp hdep 11)
        have v36 := s_36 (dp hdep 13)
        refine dj_val (i := 14) (v := .int .i64 ((sub (sub (nw 2 2).1 ⟨true, 1, 5, (wd 1)⟩).1 ⟨false, 0, 6, Ct.zero⟩).1.js.length : Int)) rfl (.inr ⟨11, true, 34, rfl, by kernel_rfl, v34⟩) (ev_len v36.eval Try.underlying23 _ rfl) ?_
        exact ⟨⟨_, rfl⟩, bl, sz, b_B1, b_B27, p_0, p_1, (so s_23), (so s_24), (so s_25), (so s_26), (so s_27), (so s_28), (so s_29), (so s_30), (so s_31), (so s_32), (so s_33), (so s_34), (so s_35), (so s_36), (fun _ => Sv.self (by rw [z]; decide) _), (so s_38), (so s_39), (so s_40), (so s_41), (so s_42), (so s_43), (so s_44), (so s_45), (so s_1)⟩
      | 15, _ =>
        obtain rfl := Option.some.inj (show some _ = some o from ho); clear ho
        have v34 := s_34 (dp hdep 11)
        have v37 := s_37 (dp hdep 14)
        refine dj_val (i := 15) (v := .bool true) rfl (.inr ⟨11, true, 34, rfl, by kernel_rfl, v34⟩) (ev_eqlB (k := .i64) (m := ((sub (sub (nw 2 2).1 ⟨true, 1, 5, (wd 1)⟩).1 ⟨false, 0, 6, Ct.zero⟩).1.js.length : Int)) (n := 2) v37.eval (ec ac (.int .i64 2)) (by kernel_rfl) _ rfl) ?_
        exact ⟨⟨_, rfl⟩, bl, sz, b_B1, b_B27, p_0, p_1, (so s_23), (so s_24), (so s_25), (so s_26), (so s_27), (so s_28), (so s_29), (so s_30), (so s_31), (so s_32), (so s_33), (so s_34), (so s_35), (so s_36), (so s_37), (fun _ => Sv.self (by rw [z]; decide) _), (so s_39), (so s_40), (so s_41), (so s_42), (so s_43), (so s_44), (so s_45), (so s_1)⟩
      | 16, _ =>
        obtain rfl := Option.some.inj (show some _ = some o from ho); clear ho
        have v34 := s_34 (dp hdep 11)
        have v38 := s_38 (dp hdep 15)
        refine dj_val (i := 16) (v := .bool true) rfl (.inl rfl) (ev_pickT v34.eval v38.eval _ rfl) ?_
        exact ⟨⟨_, rfl⟩, bl, sz, b_B1, b_B27, p_0, p_1, (so s_23), (so s_24), (so s_25), (so s_26), (so s_27), (so s_28), (so s_29), (so s_30), (so s_31), (so s_32), (so s_33), (so s_34), (so s_35), (so s_36), (so s_37), (so s_38), (fun _ => Sv.self (by rw [z]; decide) _), (so s_40), (so s_41), (so s_42), (so s_43), (so s_44), (so s_45), (so s_1)⟩
      | 17, _ =>
        obtain rfl := Option.some.inj (show some _ = some o from ho); clear ho
        have v39 := s_39 (dp hdep 16)
        refine dj_val (i := 17) (v := .bool true) rfl (.inl rfl) (ev_move v39.eval _ rfl) ?_
        exact ⟨⟨_, rfl⟩, bl, sz, b_B1, b_B27, p_0, p_1, (so s_23), (so s_24), (so s_25), (so s_26), (so s_27), (so s_28), (so s_29), (so s_30), (so s_31), (so s_32), (so s_33), (so s_34), (so s_35), (so s_36), (so s_37), (so s_38), (so s_39), (fun _ => Sv.self (by rw [z]; decide) _), (so s_41), (so s_42), (so s_43), (so s_44), (so s_45), (so s_1)⟩
      | 18, _ =>
        obtain rfl := Option.some.inj (show some _ = some o from ho); clear ho
        have v40 := s_40 (dp hdep 17)
        have v6 := hF.sv (s := 6) (by kernel_rfl) (hA29.get (i := 6) (v := .pointer (some ⟨B27, 0, none⟩)))
        refine dj_val (i := 18) (v := .pointer (some ⟨B27, 0, none⟩)) rfl (.inr ⟨17, true, 40, rfl, by kernel_rfl, v40⟩) (fb_Disk_0 v6.eval _ rfl) ?_
        exact ⟨⟨_, rfl⟩, bl, sz, b_B1, b_B27, p_0, p_1, (so s_23), (so s_24), (so s_25), (so s_26), (so s_27), (so s_28), (so s_29), (so s_30), (so s_31), (so s_32), (so s_33), (so s_34), (so s_35), (so s_36), (so s_37), (so s_38), (so s_39), (so s_40), (fun _ => Sv.self (by rw [z]; decide) _), (so s_42), (so s_43), (so s_44), (so s_45), (so s_1)⟩
      | 19, _ =>
        obtain rfl := Option.some.inj (show some _ = some o from ho); clear ho
        have v40 := s_40 (dp hdep 17)
        have v41 := s_41 (dp hdep 18)
        refine dj_val (i := 19) (v := .slice Ap23 (sub (sub (nw 2 2).1 ⟨true, 1, 5, (wd 1)⟩).1 ⟨false, 0, 6, Ct.zero⟩).1.cs.length cp23) rfl (.inr ⟨17, true, 40, rfl, by kernel_rfl, v40⟩) (ev_cell (v := .slice Ap23 (sub (sub (nw 2 2).1 ⟨true, 1, 5, (wd 1)⟩).1 ⟨false, 0, 6, Ct.zero⟩).1.cs.length cp23) v41.eval ((b_B27.cell 0).trans rfl) Try.underlying22 rfl _ rfl) ?_
        exact ⟨⟨_, rfl⟩, bl, sz, b_B1, b_B27, p_0, p_1, (so s_23), (so s_24), (so s_25), (so s_26), (so s_27), (so s_28), (so s_29), (so s_30), (so s_31), (so s_32), (so s_33), (so s_34), (so s_35), (so s_36), (so s_37), (so s_38), (so s_39), (so s_40), (so s_41), (fun _ => Sv.self (by rw [z]; decide) _), (so s_43), (so s_44), (so s_45), (so s_1)⟩
      | 20, _ =>
        obtain rfl := Option.some.inj (show some _ = some o from ho); clear ho
        have v40 := s_40 (dp hdep 17)
        have v42 := s_42 (dp hdep 19)
        refine dj_val (i := 20) (v := .int .i64 ((sub (sub (nw 2 2).1 ⟨true, 1, 5, (wd 1)⟩).1 ⟨false, 0, 6, Ct.zero⟩).1.cs.length : Int)) rfl (.inr ⟨17, true, 40, rfl, by kernel_rfl, v40⟩) (ev_len v42.eval Try.underlying22 _ rfl) ?_
        exact ⟨⟨_, rfl⟩, bl, sz, b_B1, b_B27, p_0, p_1, (so s_23), (so s_24), (so s_25), (so s_26), (so s_27), (so s_28), (so s_29), (so s_30), (so s_31), (so s_32), (so s_33), (so s_34), (so s_35), (so s_36), (so s_37), (so s_38), (so s_39), (so s_40), (so s_41), (so s_42), (fun _ => Sv.self (by rw [z]; decide) _), (so s_44), (so s_45), (so s_1)⟩
      | 21, _ =>
        obtain rfl := Option.some.inj (show some _ = some o from ho); clear ho
        have v40 := s_40 (dp hdep 17)
        have v43 := s_43 (dp hdep 20)
        refine dj_val (i := 21) (v := .bool true) rfl (.inr ⟨17, true, 40, rfl, by kernel_rfl, v40⟩) (ev_eqlB (k := .i64) (m := ((sub (sub (nw 2 2).1 ⟨true, 1, 5, (wd 1)⟩).1 ⟨false, 0, 6, Ct.zero⟩).1.cs.length : Int)) (n := 2) v43.eval (ec ac (.int .i64 2)) (by kernel_rfl) _ rfl) ?_
        exact ⟨⟨_, rfl⟩, bl, sz, b_B1, b_B27, p_0, p_1, (so s_23), (so s_24), (so s_25), (so s_26), (so s_27), (so s_28), (so s_29), (so s_30), (so s_31), (so s_32), (so s_33), (so s_34), (so s_35), (so s_36), (so s_37), (so s_38), (so s_39), (so s_40), (so s_41), (so s_42), (so s_43), (fun _ => Sv.self (by rw [z]; decide) _), (so s_45), (so s_1)⟩
      | 22, _ =>
        obtain rfl := Option.some.inj (show some _ = some o from ho); clear ho
        have v40 := s_40 (dp hdep 17)
        have v44 := s_44 (dp hdep 21)
        refine dj_val (i := 22) (v := .bool true) rfl (.inl rfl) (ev_pickT v40.eval v44.eval _ rfl) ?_
        exact ⟨⟨_, rfl⟩, bl, sz, b_B1, b_B27, p_0, p_1, (so s_23), (so s_24), (so s_25), (so s_26), (so s_27), (so s_28), (so s_29), (so s_30), (so s_31), (so s_32), (so s_33), (so s_34), (so s_35), (so s_36), (so s_37), (so s_38), (so s_39), (so s_40), (so s_41), (so s_42), (so s_43), (so s_44), (fun _ => Sv.self (by rw [z]; decide) _), (so s_1)⟩
      | 23, _ =>
        obtain rfl := Option.some.inj (show some _ = some o from ho); clear ho
        have v0 := hF.sv (s := 0) (by kernel_rfl) (hA29.get (i := 0) (v := .pointer (some ⟨B1, 0, none⟩)))
        have v23 := s_23 (dp hdep 0)
        have eB1 : L 23 = false := hL
        have yB1 := b_B1
        rw [eB1] at yB1
        refine dj_skip (i := 23) rfl rfl (.inl rfl) (w' := wc.setRow B1 (#[.slice Ap23 (sub (sub (nw 2 2).1 ⟨true, 1, 5, (wd 1)⟩).1 ⟨false, 0, 6, Ct.zero⟩).1.cs.length cp23, .slice Aj23 (sub (sub (nw 2 2).1 ⟨true, 1, 5, (wd 1)⟩).1 ⟨false, 0, 6, Ct.zero⟩).1.js.length cj23, .int .i64 (sub (sub (nw 2 2).1 ⟨true, 1, 5, (wd 1)⟩).1 ⟨false, 0, 6, Ct.zero⟩).1.room])) (ev_srow v0.eval v23.eval yB1 (n := 3) (by kernel_rfl) rfl rfl (dk_one _ _ _ _ _ _ _) _ rfl) ?_
        have hg := grw yB1 (#[.slice Ap23 (sub (sub (nw 2 2).1 ⟨true, 1, 5, (wd 1)⟩).1 ⟨false, 0, 6, Ct.zero⟩).1.cs.length cp23, .slice Aj23 (sub (sub (nw 2 2).1 ⟨true, 1, 5, (wd 1)⟩).1 ⟨false, 0, 6, Ct.zero⟩).1.js.length cj23, .int .i64 (sub (sub (nw 2 2).1 ⟨true, 1, 5, (wd 1)⟩).1 ⟨false, 0, 6, Ct.zero⟩).1.room])
        have hx := yB1.row (#[.slice Ap23 (sub (sub (nw 2 2).1 ⟨true, 1, 5, (wd 1)⟩).1 ⟨false, 0, 6, Ct.zero⟩).1.cs.length cp23, .slice Aj23 (sub (sub (nw 2 2).1 ⟨true, 1, 5, (wd 1)⟩).1 ⟨false, 0, 6, Ct.zero⟩).1.js.length cj23, .int .i64 (sub (sub (nw 2 2).1 ⟨true, 1, 5, (wd 1)⟩).1 ⟨false, 0, 6, Ct.zero⟩).1.room])
        exact ⟨⟨undef, rfl⟩, (Below.gB bl hg bl.size (by omega)), (Nat.le_trans sz hg.size), hx, (b_B27.gB hg (by omega)), (Own.gBT p_0 hg yB1 (by decide)), (Own.gBT p_1 hg yB1 (by decide)), s_23, s_24, s_25, s_26, s_27, s_28, s_29, s_30, s_31, s_32, s_33, s_34, s_35, s_36, s_37, s_38, s_39, s_40, s_41, s_42, s_43, s_44, s_45, s_1⟩
      | 24, _ =>
        obtain rfl := Option.some.inj (show some _ = some o from ho); clear ho
        have v45 := s_45 (dp hdep 22)
        refine dj_val (i := 24) (v := .bool true) rfl (.inl rfl) (ev_assign v45.eval _ rfl) ?_
        exact ⟨⟨_, rfl⟩, bl, sz, b_B1, b_B27, p_0, p_1, (so s_23), (so s_24), (so s_25), (so s_26), (so s_27), (so s_28), (so s_29), (so s_30), (so s_31), (so s_32), (so s_33), (so s_34), (so s_35), (so s_36), (so s_37), (so s_38), (so s_39), (so s_40), (so s_41), (so s_42), (so s_43), (so s_44), (so s_45), (fun _ => Sv.self (by rw [z]; decide) _)⟩
      | k + 25, h => exact absurd h (by omega)
    · intro L hall ac40 wc40 hF hJ
      obtain ⟨bl, sz, b_B1, b_B27, p_0, p_1, s_23, s_24, s_25, s_26, s_27, s_28, s_29, s_30, s_31, s_32, s_33, s_34, s_35, s_36, s_37, s_38, s_39, s_40, s_41, s_42, s_43, s_44, s_45, s_1⟩ := hJ
      have hA40 : Ag ac40 46 [(0, .pointer (some ⟨B1, 0, none⟩)), (1, .bool true)] := (((Ag.nil (hF.1.trans hA29.1) (hF.2.1.trans hA29.2.1)).cons (s_1 (hall 24 (by decide)))).cons (hF.sv (s := 0) (by kernel_rfl) (hA29.get (i := 0) (v := .pointer (some ⟨B1, 0, none⟩)))))
      have bl40 := bl
      have sz40 := sz
      have b40_B1 : Bx wc40 B1 25 (#[.slice Ap23 (sub (sub (nw 2 2).1 ⟨true, 1, 5, (wd 1)⟩).1 ⟨false, 0, 6, Ct.zero⟩).1.cs.length cp23, .slice Aj23 (sub (sub (nw 2 2).1 ⟨true, 1, 5, (wd 1)⟩).1 ⟨false, 0, 6, Ct.zero⟩).1.js.length cj23, .int .i64 (sub (sub (nw 2 2).1 ⟨true, 1, 5, (wd 1)⟩).1 ⟨false, 0, 6, Ct.zero⟩).1.room]) := by
        have h := b_B1
        rw [hall 23 (by decide)] at h
        exact h
      have b40_B27 := b_B27
      have p40_0 := p_0
      have p40_1 := p_1
      clear hF bl sz b_B1 b_B27 p_0 p_1 s_23 s_24 s_25 s_26 s_27 s_28 s_29 s_30 s_31 s_32 s_33 s_34 s_35 s_36 s_37 s_38 s_39 s_40 s_41 s_42 s_43 s_44 s_45 s_1 hall hA29
      refine then_n ?_
      refine wp_ret ?_
      refine bodyPost_ret (rs_ct (v := .bool true) Try.results32 hA40 (by kernel_rfl) (by kernel_rfl) b40_B1 Try.underlying25 rfl (by kernel_rfl)) hA40.2.1 ?_
      exact ⟨_, _, _, _, rfl, ⟨rfl, Own.mono p40_0 (by omega)⟩, ⟨rfl, Own.mono p40_1 (by omega)⟩, bl40⟩
end Go.Proofs.Ytbkdimildnahaaa
