/- Structs of package slots, operation by operation; the methods has and put of its marks. -/
import Derived.Test.YtpoilgfblhacaaaKD
import Derived.Test.YtpoilgfblhacaaaSA
import Derived.Test.YtpoilgfblhacaaaSM
namespace Go.Proofs.Ytpoilgfblhacaaa
open Go.RowKit
set_option linter.unusedVariables false
set_option linter.unusedSimpArgs false
set_option maxRecDepth 100000

section
variable {ρ : Operand → Value} {w : World} {x x0 x1 x2 x3 : Operand} {ad : Addr} {B i : Nat}
theorem fa_Slots_0 (hx : ρ x = .pointer (some ad)) (o : Oper) (ho : o.op = .fieldAddr 25 x 0) : (execOp ρ o).run Try.prog w = .ok (.value (.pointer (some (ad.add 0)))) w := by
  simp [execOp, ho, hx, go_sem]
theorem fb_Slots_0 (hx : ρ x = .pointer (some ⟨B, i, none⟩)) (o : Oper) (ho : o.op = .fieldAddr 25 x 0) : (execOp ρ o).run Try.prog w = .ok (.value (.pointer (some ⟨B, i + 0, none⟩))) w := by
  rw [fa_Slots_0 hx o ho, mk_add]
theorem fa_Slots_1 (hx : ρ x = .pointer (some ad)) (o : Oper) (ho : o.op = .fieldAddr 25 x 1) : (execOp ρ o).run Try.prog w = .ok (.value (.pointer (some (ad.add 1)))) w := by
  simp [execOp, ho, hx, go_sem]
theorem fb_Slots_1 (hx : ρ x = .pointer (some ⟨B, i, none⟩)) (o : Oper) (ho : o.op = .fieldAddr 25 x 1) : (execOp ρ o).run Try.prog w = .ok (.value (.pointer (some ⟨B, i + 1, none⟩))) w := by
  rw [fa_Slots_1 hx o ho, mk_add]
theorem fa_book_0 (hx : ρ x = .pointer (some ad)) (o : Oper) (ho : o.op = .fieldAddr 56 x 0) : (execOp ρ o).run Try.prog w = .ok (.value (.pointer (some (ad.add 0)))) w := by
  simp [execOp, ho, hx, go_sem]
theorem fb_book_0 (hx : ρ x = .pointer (some ⟨B, i, none⟩)) (o : Oper) (ho : o.op = .fieldAddr 56 x 0) : (execOp ρ o).run Try.prog w = .ok (.value (.pointer (some ⟨B, i + 0, none⟩))) w := by
  rw [fa_book_0 hx o ho, mk_add]
theorem fa_book_1 (hx : ρ x = .pointer (some ad)) (o : Oper) (ho : o.op = .fieldAddr 56 x 1) : (execOp ρ o).run Try.prog w = .ok (.value (.pointer (some (ad.add 1)))) w := by
  simp [execOp, ho, hx, go_sem]
theorem fb_book_1 (hx : ρ x = .pointer (some ⟨B, i, none⟩)) (o : Oper) (ho : o.op = .fieldAddr 56 x 1) : (execOp ρ o).run Try.prog w = .ok (.value (.pointer (some ⟨B, i + 1, none⟩))) w := by
  rw [fa_book_1 hx o ho, mk_add]
theorem fa_book_2 (hx : ρ x = .pointer (some ad)) (o : Oper) (ho : o.op = .fieldAddr 56 x 2) : (execOp ρ o).run Try.prog w = .ok (.value (.pointer (some (ad.add 2)))) w := by
  simp [execOp, ho, hx, go_sem]
theorem fb_book_2 (hx : ρ x = .pointer (some ⟨B, i, none⟩)) (o : Oper) (ho : o.op = .fieldAddr 56 x 2) : (execOp ρ o).run Try.prog w = .ok (.value (.pointer (some ⟨B, i + 2, none⟩))) w := by
  rw [fa_book_2 hx o ho, mk_add]
theorem fa_Bits_0 (hx : ρ x = .pointer (some ad)) (o : Oper) (ho : o.op = .fieldAddr 76 x 0) : (execOp ρ o).run Try.prog w = .ok (.value (.pointer (some (ad.add 0)))) w := by
  simp [execOp, ho, hx, go_sem]
theorem fb_Bits_0 (hx : ρ x = .pointer (some ⟨B, i, none⟩)) (o : Oper) (ho : o.op = .fieldAddr 76 x 0) : (execOp ρ o).run Try.prog w = .ok (.value (.pointer (some ⟨B, i + 0, none⟩))) w := by
  rw [fa_Bits_0 hx o ho, mk_add]
theorem fa_Bits_1 (hx : ρ x = .pointer (some ad)) (o : Oper) (ho : o.op = .fieldAddr 76 x 1) : (execOp ρ o).run Try.prog w = .ok (.value (.pointer (some (ad.add 1)))) w := by
  simp [execOp, ho, hx, go_sem]
theorem fb_Bits_1 (hx : ρ x = .pointer (some ⟨B, i, none⟩)) (o : Oper) (ho : o.op = .fieldAddr 76 x 1) : (execOp ρ o).run Try.prog w = .ok (.value (.pointer (some ⟨B, i + 1, none⟩))) w := by
  rw [fa_Bits_1 hx o ho, mk_add]
theorem wdn_false (o : Nat) : ∀ n, wdn (fun _ => false) o n = 0
  | 0 => rfl
  | n + 1 => by simp [wdn, wdn_false o n]
theorem wd64 (S : Nat → Bool) (o : Nat) : wdn S o 64 < 18446744073709551616 := wdn_lt S o 64
theorem bd0_Slots (o : Oper) (ho : o.op = .build 25 #[]) : (execOp ρ o).run Try.prog w = .ok (.value (.agg #[.slice none 0 0, .slice none 0 0])) w := by
  simp [execOp, ho, go_sem]
theorem bd_Slots_0_1 {A A1 : Option Addr} {n c n1 c1 : Nat} (h0 : ρ x0 = .slice A n c) (h1 : ρ x1 = .slice A1 n1 c1) (o : Oper) (ho : o.op = .build 25 #[(0, x0), (1, x1)]) : (execOp ρ o).run Try.prog w = .ok (.value (.agg #[.slice A n c, .slice A1 n1 c1])) w := by
  simp [execOp, ho, h0, h1, go_sem]
theorem bd_Bits_0_1 {A1 : Option Addr} {n1 c1 : Nat} {r : Int} (h0 : ρ x0 = .int .i64 r) (h1 : ρ x1 = .slice A1 n1 c1) (o : Oper) (ho : o.op = .build 76 #[(0, x0), (1, x1)]) : (execOp ρ o).run Try.prog w = .ok (.value (.agg #[.int .i64 r, .slice A1 n1 c1])) w := by
  simp [execOp, ho, h0, h1, go_sem]
theorem bd0_book (o : Oper) (ho : o.op = .build 56 #[]) : (execOp ρ o).run Try.prog w = .ok (.value (.agg #[.int .i64 0, .map none, .int .u64 0, .int .u64 0, .int .u64 0, .int .u64 0])) w := by
  simp [execOp, ho, go_sem]
theorem bd_book_0_1 {n M : Nat} (h0 : ρ x0 = .int .i64 (n : Int)) (h1 : ρ x1 = .map (some M)) (o : Oper) (ho : o.op = .build 56 #[(0, x0), (1, x1)]) : (execOp ρ o).run Try.prog w = .ok (.value (.agg (bkr n M (fun _ => false)))) w := by
  simp [execOp, ho, h0, h1, go_sem, bkr, mw, wdn_false]
theorem bsI1 {v0 : Int} (h0 : ρ x0 = .int .i64 v0) (o : Oper) (ho : o.op = .buildSlice 22 1 #[(0, x0)]) : (execOp ρ o).run Try.prog w = .ok (.value (.slice (some ⟨w.heap.size, 0, none⟩) 1 1)) (w.alloc (.cells (flat iva [v0]).toArray 3)) := by
  obtain ⟨i, hi1, hi2⟩ := Option.map_eq_some_iff.1 (show (Try.prog.info? 3).map (·.size) = some 1 by kernel_rfl)
  simp [execOp, ho, h0, Instr.buildSlice, run_underlying Try.underlying22, sizeOf, typeInfo, hi1, hi2, Instr.fill, newRow, go_sem, flat, iva, Value.cells]
theorem bsI2 {v0 v1 : Int} (h0 : ρ x0 = .int .i64 v0) (h1 : ρ x1 = .int .i64 v1) (o : Oper) (ho : o.op = .buildSlice 22 2 #[(0, x0), (1, x1)]) : (execOp ρ o).run Try.prog w = .ok (.value (.slice (some ⟨w.heap.size, 0, none⟩) 2 2)) (w.alloc (.cells (flat iva [v0, v1]).toArray 3)) := by
  obtain ⟨i, hi1, hi2⟩ := Option.map_eq_some_iff.1 (show (Try.prog.info? 3).map (·.size) = some 1 by kernel_rfl)
  simp [execOp, ho, h0, h1, Instr.buildSlice, run_underlying Try.underlying22, sizeOf, typeInfo, hi1, hi2, Instr.fill, newRow, go_sem, flat, iva, Value.cells]
theorem bsI3 {v0 v1 v2 : Int} (h0 : ρ x0 = .int .i64 v0) (h1 : ρ x1 = .int .i64 v1) (h2 : ρ x2 = .int .i64 v2) (o : Oper) (ho : o.op = .buildSlice 22 3 #[(0, x0), (1, x1), (2, x2)]) : (execOp ρ o).run Try.prog w = .ok (.value (.slice (some ⟨w.heap.size, 0, none⟩) 3 3)) (w.alloc (.cells (flat iva [v0, v1, v2]).toArray 3)) := by
  obtain ⟨i, hi1, hi2⟩ := Option.map_eq_some_iff.1 (show (Try.prog.info? 3).map (·.size) = some 1 by kernel_rfl)
  simp [execOp, ho, h0, h1, h2, Instr.buildSlice, run_underlying Try.underlying22, sizeOf, typeInfo, hi1, hi2, Instr.fill, newRow, go_sem, flat, iva, Value.cells]
theorem bsI4 {v0 v1 v2 v3 : Int} (h0 : ρ x0 = .int .i64 v0) (h1 : ρ x1 = .int .i64 v1) (h2 : ρ x2 = .int .i64 v2) (h3 : ρ x3 = .int .i64 v3) (o : Oper) (ho : o.op = .buildSlice 22 4 #[(0, x0), (1, x1), (2, x2), (3, x3)]) : (execOp ρ o).run Try.prog w = .ok (.value (.slice (some ⟨w.heap.size, 0, none⟩) 4 4)) (w.alloc (.cells (flat iva [v0, v1, v2, v3]).toArray 3)) := by
  obtain ⟨i, hi1, hi2⟩ := Option.map_eq_some_iff.1 (show (Try.prog.info? 3).map (·.size) = some 1 by kernel_rfl)
  simp [execOp, ho, h0, h1, h2, h3, Instr.buildSlice, run_underlying Try.underlying22, sizeOf, typeInfo, hi1, hi2, Instr.fill, newRow, go_sem, flat, iva, Value.cells]
theorem bs1_int {v : Int} (hx : ρ x = .int .i64 v) (o : Oper) (ho : o.op = .buildSlice 22 1 #[(0, x)]) : (execOp ρ o).run Try.prog w = .ok (.value (.slice (some ⟨w.heap.size, 0, none⟩) 1 1)) (w.alloc (.cells (iva v) 3)) := by
  obtain ⟨i, hi1, hi2⟩ := Option.map_eq_some_iff.1 (show (Try.prog.info? 3).map (·.size) = some 1 by kernel_rfl)
  simp [execOp, ho, hx, Instr.buildSlice, run_underlying Try.underlying22, sizeOf, typeInfo, hi1, hi2, Instr.fill, newRow, go_sem, iva, Value.cells]
theorem bs1_bool {v : Bool} (hx : ρ x = .bool v) (o : Oper) (ho : o.op = .buildSlice 23 1 #[(0, x)]) : (execOp ρ o).run Try.prog w = .ok (.value (.slice (some ⟨w.heap.size, 0, none⟩) 1 1)) (w.alloc (.cells (bva v) 4)) := by
  obtain ⟨i, hi1, hi2⟩ := Option.map_eq_some_iff.1 (show (Try.prog.info? 4).map (·.size) = some 1 by kernel_rfl)
  simp [execOp, ho, hx, Instr.buildSlice, run_underlying Try.underlying23, sizeOf, typeInfo, hi1, hi2, Instr.fill, newRow, go_sem, bva, Value.cells]
/-- An element of an array in memory. -/
theorem ev_idxQ {off k n : Nat} {t e : TypeId} {P : Program} (hx : ρ x = .pointer (some ⟨B, off, none⟩)) (hi : ρ x0 = .int .i64 (k : Int)) (hk : k < n) (hu : P.underlying t = some (.array n e)) (hs : (P.info? e).map (·.size) = some 1) (o : Oper) (ho : o.op = .indexAddr t x x0) : (execOp ρ o).run P w = .ok (.value (.pointer (some ⟨B, off + k, none⟩))) w := by
  have := ev_idxP (k := k) (w := w) hx hi rfl hk hu hs o ho
  rw [mk_add, Nat.mul_one] at this
  exact this
end
theorem bkr_one (n M : Nat) (S : Nat → Bool) : ((bkr n M S).all fun v => v.oneCell') = true := by simp [bkr, mw, Value.oneCell']
theorem mrow_one (S : Nat → Bool) : ((mrow S).all fun v => v.oneCell') = true := by simp [mrow, mw, Value.oneCell']
theorem bk_part {w : World} {B : Nat} {t : TypeId} {n M : Nat} {S : Nat → Bool} (h : Bx w B t (bkr n M S)) : ∀ i u, (mrow S)[i]? = some u → w.cell? ((⟨B, 2, none⟩ : Addr).add i) = some u := by
  intro i u hu
  rw [mk_add, h.cell]
  have : bkr n M S = #[.int .i64 (n : Int), .map (some M)] ++ mrow S := by simp [bkr, mrow]
  rw [this, Array.getElem?_append_right (by simp)]
  simpa using hu
theorem wdn_orK (S : Nat → Bool) (k : Nat) : wdn S (64 * (k / 64)) 64 ||| 1 * 2 ^ (k % 64) % 18446744073709551616 = wdn (upS S k true) (64 * (k / 64)) 64 := by
  have h1 : 2 ^ (k % 64) < 2 ^ 64 := Nat.pow_lt_pow_right (by omega) (by omega)
  rw [Nat.one_mul, Nat.mod_eq_of_lt h1, wdn_or S _ 64 _ (by omega), show 64 * (k / 64) + k % 64 = k by omega]
theorem wdn_clK (S : Nat → Bool) (k : Nat) : wdn S (64 * (k / 64)) 64 &&& (18446744073709551616 - (1 * 2 ^ (k % 64) % 18446744073709551616 + 1)) = wdn (upS S k false) (64 * (k / 64)) 64 := by
  have h1 : 2 ^ (k % 64) < 2 ^ 64 := Nat.pow_lt_pow_right (by omega) (by omega)
  rw [Nat.one_mul, Nat.mod_eq_of_lt h1, wdn_clear S _ 64 (k % 64) _ (by omega), show 64 * (k / 64) + k % 64 = k by omega]
  intro j
  rw [show (18446744073709551616 : Nat) = 2 ^ 64 from rfl, Nat.testBit_two_pow_sub_succ h1, Nat.testBit_two_pow]
theorem bodyPost_nrm {P : Program} {fn : Func} {R : Ending → World → Prop} {a : Act} {w : World} {v : Value}
    (hr : (results fn a.tmps).run P w = .ok v w) (hd : a.defers = []) (hR : R (.returned v) w) : bodyPost P fn R .normal a w := ⟨hd, v, hr, hR⟩
theorem pow_lt64 (k : Nat) : 1 * 2 ^ (k % 64) % 18446744073709551616 < 18446744073709551616 := Nat.mod_lt _ (by decide)
set_option maxHeartbeats 1000000 in
theorem has_bk (B n M : Nat) (S : Nat → Bool) (k : Nat) (w : World) (hx : Bx w B 56 (bkr n M S)) (hk : k < 256) : Calls Try.prog 44 #[.pointer (some ⟨B, 2, none⟩), .int .i64 (k : Int)] w (RetB w (.returned (.bool (S k)))) := by
  have hlB := hx.lt
  have hbel0 := below0 w
  refine sx_enter (N := 17) [(0, .pointer (some ⟨B, 2, none⟩)), (1, .int .i64 (k : Int))] Try.func44 rfl Try.ntmps44 (by simp) (fun a z d s => (((Ag.nil z d).cons (s 1 _ rfl)).cons (s 0 _ rfl))) ?_
  intro a0 hA0
  refine wp_seq ?_
  refine wp_region_lit ?_
  refine sx_val hA0 rfl (ev_assign (ec _ (.bool false)) _ rfl) ?_
  intro a1 hA1; clear hA0
  refine sx_nil ?_
  refine then_n ?_
  refine wp_seq ?_
  refine wp_region_lit ?_
  refine sx_val hA1 rfl (ev_move (hA1.ev (i := 0) (v := .pointer (some ⟨B, 2, none⟩))) _ rfl) ?_
  intro a2 hA2; clear hA1
  refine sx_val hA2 rfl (ev_move (hA2.ev (i := 1) (v := .int .i64 (k : Int))) _ rfl) ?_
  intro a3 hA3; clear hA2
  refine sx_val (v := .int .i64 (((k / 64) : Nat) : Int)) hA3 rfl (ev_quoN (m := k) (n := 64) (hA3.ev (i := 6)) (ec _ (.int .i64 64)) (by decide) (by omega) rfl _ rfl) ?_
  intro a4 hA4; clear hA3
  refine sx_val hA4 rfl (ev_nilCheck (hA4.ev (i := 5) (v := .pointer (some ⟨B, 2, none⟩))) _ rfl) ?_
  intro a5 hA5; clear hA4
  refine sx_val (v := .pointer (some ⟨B, 2 + k / 64, none⟩)) hA5 rfl (ev_idxQ (k := k / 64) (hA5.ev (i := 8) (v := .pointer (some ⟨B, 2, none⟩))) (hA5.ev (i := 7) (v := .int .i64 (((k / 64) : Nat) : Int))) (by omega) Try.underlying54 (by kernel_rfl) _ rfl) ?_
  intro a6 hA6; clear hA5
  refine sx_val (v := .int .u64 ((wdn S (64 * (k / 64)) 64 : Nat) : Int)) hA6 rfl (ev_cell (v := .int .u64 ((wdn S (64 * (k / 64)) 64 : Nat) : Int)) (hA6.ev (i := 9) (v := .pointer (some ⟨B, 2 + k / 64, none⟩))) ((hx.cell _).trans (bkr_at n M S k hk)) Try.underlying52 rfl _ rfl) ?_
  intro a7 hA7; clear hA6
  refine sx_val hA7 rfl (ev_move (hA7.ev (i := 1) (v := .int .i64 (k : Int))) _ rfl) ?_
  intro a8 hA8; clear hA7
  refine sx_val (v := .int .i64 (((k % 64) : Nat) : Int)) hA8 rfl (ev_remN (k := .i64) (m := k) (n := 64) (hA8.ev (i := 11)) (ec _ (.int .i64 64)) (by decide) rfl _ rfl) ?_
  intro a9 hA9; clear hA8
  refine sx_val (v := .int .u64 (((k % 64) : Nat) : Int)) hA9 rfl (ev_convN (m := (k % 64)) (hA9.ev (i := 12)) (by omega) _ rfl) ?_
  intro a10 hA10; clear hA9
  refine sx_val (v := .int .u64 ((((wdn S (64 * (k / 64)) 64) / 2 ^ (k % 64)) : Nat) : Int)) hA10 rfl (ev_shrN (k := .u64) (m := (wdn S (64 * (k / 64)) 64)) (n := (k % 64)) (hA10.ev (i := 10)) (hA10.ev (i := 13)) (by omega) rfl _ rfl) ?_
  intro a11 hA11; clear hA10
  refine sx_val (v := .int .u64 (((((wdn S (64 * (k / 64)) 64) / 2 ^ (k % 64)) &&& 1) : Nat) : Int)) hA11 rfl (ev_andN (m := ((wdn S (64 * (k / 64)) 64) / 2 ^ (k % 64))) (n := 1) (hA11.ev (i := 14)) (ec _ (.int .u64 1)) (Nat.lt_of_le_of_lt (Nat.div_le_self _ _) (wd64 _ _)) (by decide) rfl _ rfl) ?_
  intro a12 hA12; clear hA11
  refine sx_val (v := .bool (S k)) hA12 rfl (ev_neqB (k := .u64) (m := (((((wdn S (64 * (k / 64)) 64) / 2 ^ (k % 64)) &&& 1) : Nat) : Int)) (n := 0) (b := S k) (hA12.ev (i := 15)) (ec _ (.int .u64 0)) (bit_of S k) _ rfl) ?_
  intro a13 hA13; clear hA12
  refine sx_val hA13 rfl (ev_assign (hA13.ev (i := 16) (v := .bool (S k))) _ rfl) ?_
  intro a14 hA14; clear hA13
  refine sx_nil ?_
  refine then_n ?_
  refine wp_ret ?_
  refine bodyPost_ret (rs_t (v := .bool (S k)) Try.results44 hA14 (by kernel_rfl) ) hA14.2.1 ?_
  exact ⟨rfl, hbel0⟩
set_option maxHeartbeats 1000000 in
theorem put_bk_t (B n M : Nat) (S : Nat → Bool) (k : Nat) (w : World) (hx : Bx w B 56 (bkr n M S)) (hk : k < 256) : Calls Try.prog 45 #[.pointer (some ⟨B, 2, none⟩), .int .i64 (k : Int), .bool true] w (fun e w' => e = .returned (.tuple #[]) ∧ Bx w' B 56 (bkr n M (upS S k true)) ∧ w.grownBy w' (some B)) := by
  have hlB := hx.lt
  have hbel0 := grefl w B
  refine sx_enter (N := 32) [(0, .pointer (some ⟨B, 2, none⟩)), (1, .int .i64 (k : Int)), (2, .bool true)] Try.func45 rfl Try.ntmps45 (by simp) (fun a z d s => ((((Ag.nil z d).cons (s 2 _ rfl)).cons (s 1 _ rfl)).cons (s 0 _ rfl))) ?_
  intro a0 hA0
  refine wp_seq ?_
  refine wp_region_lit ?_
  refine sx_val hA0 rfl (ev_move (hA0.ev (i := 1) (v := .int .i64 (k : Int))) _ rfl) ?_
  intro a1 hA1; clear hA0
  refine sx_val (v := .int .i64 (((k % 64) : Nat) : Int)) hA1 rfl (ev_remN (k := .i64) (m := k) (n := 64) (hA1.ev (i := 7)) (ec _ (.int .i64 64)) (by decide) rfl _ rfl) ?_
  intro a2 hA2; clear hA1
  refine sx_val (v := .int .u64 (((k % 64) : Nat) : Int)) hA2 rfl (ev_convN (m := (k % 64)) (hA2.ev (i := 8)) (by omega) _ rfl) ?_
  intro a3 hA3; clear hA2
  refine sx_val (v := .int .u64 (((1 * 2 ^ (k % 64) % 18446744073709551616) : Nat) : Int)) hA3 rfl (ev_shlN (k := .u64) (m := 1) (n := (k % 64)) (ec _ (.int .u64 1)) (hA3.ev (i := 9)) (by omega) rfl _ rfl) ?_
  intro a4 hA4; clear hA3
  refine sx_val hA4 rfl (ev_assign (hA4.ev (i := 10) (v := .int .u64 (((1 * 2 ^ (k % 64) % 18446744073709551616) : Nat) : Int))) _ rfl) ?_
  intro a5 hA5; clear hA4
  refine sx_nil ?_
  refine then_n ?_
  refine wp_seq ?_
  refine wp_region_lit ?_
  refine sx_val hA5 rfl (ev_move (hA5.ev (i := 2) (v := .bool true)) _ rfl) ?_
  intro a6 hA6; clear hA5
  refine sx_nil ?_
  refine then_n ?_
  refine wp_cond_true (hA6.ev (i := 11) (v := .bool true)) ?_
  refine region_D (n := 11) (by kernel_rfl) (by kernel_rfl) rfl (fun L ac wc => w.grownBy wc (some B) ∧ w.heap.size ≤ wc.heap.size ∧ Bx wc B 56 (bif L 10 then (bkr n M (upS S k true)) else (bkr n M S)) ∧ (L 10 = true → L 5 = true) ∧ (L 7 = true → L 5 = true) ∧ (L 0 = true → Sv ac 12 (.pointer (some ⟨B, 2, none⟩))) ∧ (L 1 = true → Sv ac 13 (.int .i64 (k : Int))) ∧ (L 2 = true → Sv ac 14 (.int .i64 (((k / 64) : Nat) : Int))) ∧ (L 3 = true → Sv ac 15 (.pointer (some ⟨B, 2, none⟩))) ∧ (L 4 = true → Sv ac 16 (.pointer (some ⟨B, 2 + k / 64, none⟩))) ∧ (L 5 = true → Sv ac 17 (.int .u64 ((wdn S (64 * (k / 64)) 64 : Nat) : Int))) ∧ (L 6 = true → Sv ac 18 (.int .u64 (((1 * 2 ^ (k % 64) % 18446744073709551616) : Nat) : Int))) ∧ (L 7 = true → Sv ac 19 (.int .u64 ((wdn (upS S k true) (64 * (k / 64)) 64 : Nat) : Int))) ∧ (L 8 = true → Sv ac 20 (.pointer (some ⟨B, 2, none⟩))) ∧ (L 9 = true → Sv ac 21 (.pointer (some ⟨B, 2 + k / 64, none⟩)))) ⟨(gtrN hbel0 (gdr _)), (Nat.le_refl _), (hx.gN (gdr _)), (fun h => by cases h), (fun h => by cases h), (fun h => by cases h), (fun h => by cases h), (fun h => by cases h), (fun h => by cases h), (fun h => by cases h), (fun h => by cases h), (fun h => by cases h), (fun h => by cases h), (fun h => by cases h), (fun h => by cases h)⟩ ?_ ?_
  · intro iq hiq o ho L hL hdep ac wc hF hJ
    obtain ⟨bl, sz, b_B, cl_10_5, cl_7_5, s_12, s_13, s_14, s_15, s_16, s_17, s_18, s_19, s_20, s_21⟩ := hJ
    have zq := hF.1.trans hA6.1
    match iq, hiq with
    | 0, _ =>
      obtain rfl := Option.some.inj (show some _ = some o from ho); clear ho
      have v0 := hF.sv (s := 0) (by kernel_rfl) (hA6.get (i := 0) (v := .pointer (some ⟨B, 2, none⟩)))
      refine dj_val (i := 0) (v := .pointer (some ⟨B, 2, none⟩)) rfl (.inl rfl) (ev_move v0.eval _ rfl) ?_
      exact ⟨⟨_, rfl⟩, bl, sz, b_B, cl_10_5, cl_7_5, (fun _ => Sv.self (by rw [zq]; decide) _), (so s_13), (so s_14), (so s_15), (so s_16), (so s_17), (so s_18), (so s_19), (so s_20), (so s_21)⟩
    | 1, _ =>
      obtain rfl := Option.some.inj (show some _ = some o from ho); clear ho
      have v1 := hF.sv (s := 1) (by kernel_rfl) (hA6.get (i := 1) (v := .int .i64 (k : Int)))
      refine dj_val (i := 1) (v := .int .i64 (k : Int)) rfl (.inl rfl) (ev_move v1.eval _ rfl) ?_
      exact ⟨⟨_, rfl⟩, bl, sz, b_B, cl_10_5, cl_7_5, (so s_12), (fun _ => Sv.self (by rw [zq]; decide) _), (so s_14), (so s_15), (so s_16), (so s_17), (so s_18), (so s_19), (so s_20), (so s_21)⟩
    | 2, _ =>
      obtain rfl := Option.some.inj (show some _ = some o from ho); clear ho
      have v13 := s_13 (dp hdep 1)
      refine dj_val (i := 2) (v := .int .i64 (((k / 64) : Nat) : Int)) rfl (.inl rfl) (ev_quoN (m := k) (n := 64) v13.eval (ec ac (.int .i64 64)) (by decide) (by omega) rfl _ rfl) ?_
      exact ⟨⟨_, rfl⟩, bl, sz, b_B, cl_10_5, cl_7_5, (so s_12), (so s_13), (fun _ => Sv.self (by rw [zq]; decide) _), (so s_15), (so s_16), (so s_17), (so s_18), (so s_19), (so s_20), (so s_21)⟩
    | 3, _ =>
      obtain rfl := Option.some.inj (show some _ = some o from ho); clear ho
      have v12 := s_12 (dp hdep 0)
      refine dj_val (i := 3) (v := .pointer (some ⟨B, 2, none⟩)) rfl (.inl rfl) (ev_nilCheck v12.eval _ rfl) ?_
      exact ⟨⟨_, rfl⟩, bl, sz, b_B, cl_10_5, cl_7_5, (so s_12), (so s_13), (so s_14), (fun _ => Sv.self (by rw [zq]; decide) _), (so s_16), (so s_17), (so s_18), (so s_19), (so s_20), (so s_21)⟩
    | 4, _ =>
      obtain rfl := Option.some.inj (show some _ = some o from ho); clear ho
      have v15 := s_15 (dp hdep 3)
      have v14 := s_14 (dp hdep 2)
      refine dj_val (i := 4) (v := .pointer (some ⟨B, 2 + k / 64, none⟩)) rfl (.inl rfl) (ev_idxQ (k := k / 64) v15.eval v14.eval (by omega) Try.underlying54 (by kernel_rfl) _ rfl) ?_
      exact ⟨⟨_, rfl⟩, bl, sz, b_B, cl_10_5, cl_7_5, (so s_12), (so s_13), (so s_14), (so s_15), (fun _ => Sv.self (by rw [zq]; decide) _), (so s_17), (so s_18), (so s_19), (so s_20), (so s_21)⟩
    | 5, _ =>
      obtain rfl := Option.some.inj (show some _ = some o from ho); clear ho
      have v16 := s_16 (dp hdep 4)
      have eB : L 10 = false := by
          cases hc : L 10
          · rfl
          · exact absurd (cl_10_5 hc) (by rw [hL]; decide)
      have yB := b_B
      rw [eB] at yB
      refine dj_val (i := 5) (v := .int .u64 ((wdn S (64 * (k / 64)) 64 : Nat) : Int)) rfl (.inl rfl) (ev_cell (v := .int .u64 ((wdn S (64 * (k / 64)) 64 : Nat) : Int)) v16.eval ((yB.cell _).trans (bkr_at n M S k hk)) Try.underlying52 rfl _ rfl) ?_
      exact ⟨⟨_, rfl⟩, bl, sz, b_B, (fun _ => rfl), (fun _ => rfl), (so s_12), (so s_13), (so s_14), (so s_15), (so s_16), (fun _ => Sv.self (by rw [zq]; decide) _), (so s_18), (so s_19), (so s_20), (so s_21)⟩
    | 6, _ =>
      obtain rfl := Option.some.inj (show some _ = some o from ho); clear ho
      have v6 := hF.sv (s := 6) (by kernel_rfl) (hA6.get (i := 6) (v := .int .u64 (((1 * 2 ^ (k % 64) % 18446744073709551616) : Nat) : Int)))
      refine dj_val (i := 6) (v := .int .u64 (((1 * 2 ^ (k % 64) % 18446744073709551616) : Nat) : Int)) rfl (.inl rfl) (ev_move v6.eval _ rfl) ?_
      exact ⟨⟨_, rfl⟩, bl, sz, b_B, cl_10_5, cl_7_5, (so s_12), (so s_13), (so s_14), (so s_15), (so s_16), (so s_17), (fun _ => Sv.self (by rw [zq]; decide) _), (so s_19), (so s_20), (so s_21)⟩
    | 7, _ =>
      obtain rfl := Option.some.inj (show some _ = some o from ho); clear ho
      have v17 := s_17 (dp hdep 5)
      have v18 := s_18 (dp hdep 6)
      refine dj_val (i := 7) (v := .int .u64 ((wdn (upS S k true) (64 * (k / 64)) 64 : Nat) : Int)) rfl (.inl rfl) (ev_orN (m := (wdn S (64 * (k / 64)) 64)) (n := (1 * 2 ^ (k % 64) % 18446744073709551616)) v17.eval v18.eval (wd64 _ _) (pow_lt64 k) (wdn_orK S k) _ rfl) ?_
      exact ⟨⟨_, rfl⟩, bl, sz, b_B, cl_10_5, (fun _ => dp hdep 5), (so s_12), (so s_13), (so s_14), (so s_15), (so s_16), (so s_17), (so s_18), (fun _ => Sv.self (by rw [zq]; decide) _), (so s_20), (so s_21)⟩
    | 8, _ =>
      obtain rfl := Option.some.inj (show some _ = some o from ho); clear ho
      have v12 := s_12 (dp hdep 0)
      refine dj_val (i := 8) (v := .pointer (some ⟨B, 2, none⟩)) rfl (.inl rfl) (ev_nilCheck v12.eval _ rfl) ?_
      exact ⟨⟨_, rfl⟩, bl, sz, b_B, cl_10_5, cl_7_5, (so s_12), (so s_13), (so s_14), (so s_15), (so s_16), (so s_17), (so s_18), (so s_19), (fun _ => Sv.self (by rw [zq]; decide) _), (so s_21)⟩
    | 9, _ =>
      obtain rfl := Option.some.inj (show some _ = some o from ho); clear ho
      have v20 := s_20 (dp hdep 8)
      have v14 := s_14 (dp hdep 2)
      refine dj_val (i := 9) (v := .pointer (some ⟨B, 2 + k / 64, none⟩)) rfl (.inl rfl) (ev_idxQ (k := k / 64) v20.eval v14.eval (by omega) Try.underlying54 (by kernel_rfl) _ rfl) ?_
      exact ⟨⟨_, rfl⟩, bl, sz, b_B, cl_10_5, cl_7_5, (so s_12), (so s_13), (so s_14), (so s_15), (so s_16), (so s_17), (so s_18), (so s_19), (so s_20), (fun _ => Sv.self (by rw [zq]; decide) _)⟩
    | 10, _ =>
      obtain rfl := Option.some.inj (show some _ = some o from ho); clear ho
      have v21 := s_21 (dp hdep 9)
      have v19 := s_19 (dp hdep 7)
      have eB : L 10 = false := hL
      have yB := b_B
      rw [eB] at yB
      refine dj_skip (i := 10) rfl rfl (.inl rfl) (w' := wc.setCell ⟨B, 2 + k / 64, none⟩ (.int .u64 ((wdn (upS S k true) (64 * (k / 64)) 64 : Nat) : Int))) (ev_scell (v := .int .u64 ((wdn (upS S k true) (64 * (k / 64)) 64 : Nat) : Int)) v21.eval v19.eval ((yB.cell _).trans (bkr_at n M S k hk)) (yB.frozen _) (by kernel_rfl) rfl _ rfl) ?_
      have hg := gsc (i := 2 + k / 64) yB (.int .u64 ((wdn (upS S k true) (64 * (k / 64)) 64 : Nat) : Int))
      have hx := (show Bx _ B _ (bkr n M (upS S k true)) from by rw [← bkr_set n M S k true hk]; exact yB.set (2 + k / 64) (.int .u64 ((wdn (upS S k true) (64 * (k / 64)) 64 : Nat) : Int)))
      exact ⟨⟨undef, rfl⟩, (gtr bl hg), (Nat.le_trans sz hg.size), hx, (fun _ => cl_7_5 (dp hdep 7)), cl_7_5, s_12, s_13, s_14, s_15, s_16, s_17, s_18, s_19, s_20, s_21⟩
    | k + 11, h => exact absurd h (by omega)
  · intro L hall ac7 wc7 hF hJ
    obtain ⟨bl, sz, b_B, cl_10_5, cl_7_5, s_12, s_13, s_14, s_15, s_16, s_17, s_18, s_19, s_20, s_21⟩ := hJ
    have hA7 : Ag ac7 32 [] := (Ag.nil (hF.1.trans hA6.1) (hF.2.1.trans hA6.2.1))
    have bl7 := bl
    have sz7 := sz
    have b7_B : Bx wc7 B 56 (bkr n M (upS S k true)) := by
      have h := b_B
      rw [hall 10 (by decide)] at h
      exact h
    clear hF bl sz b_B cl_10_5 cl_7_5 s_12 s_13 s_14 s_15 s_16 s_17 s_18 s_19 s_20 s_21 hall hA6
    refine bodyPost_nrm (rs_  Try.results45 hA7  ) hA7.2.1 ?_
    exact ⟨rfl, b7_B, bl7⟩
set_option maxHeartbeats 1000000 in
theorem put_bk_f (B n M : Nat) (S : Nat → Bool) (k : Nat) (w : World) (hx : Bx w B 56 (bkr n M S)) (hk : k < 256) : Calls Try.prog 45 #[.pointer (some ⟨B, 2, none⟩), .int .i64 (k : Int), .bool false] w (fun e w' => e = .returned (.tuple #[]) ∧ Bx w' B 56 (bkr n M (upS S k false)) ∧ w.grownBy w' (some B)) := by
  have hlB := hx.lt
  have hbel0 := grefl w B
  refine sx_enter (N := 32) [(0, .pointer (some ⟨B, 2, none⟩)), (1, .int .i64 (k : Int)), (2, .bool false)] Try.func45 rfl Try.ntmps45 (by simp) (fun a z d s => ((((Ag.nil z d).cons (s 2 _ rfl)).cons (s 1 _ rfl)).cons (s 0 _ rfl))) ?_
  intro a0 hA0
  refine wp_seq ?_
  refine wp_region_lit ?_
  refine sx_val hA0 rfl (ev_move (hA0.ev (i := 1) (v := .int .i64 (k : Int))) _ rfl) ?_
  intro a1 hA1; clear hA0
  refine sx_val (v := .int .i64 (((k % 64) : Nat) : Int)) hA1 rfl (ev_remN (k := .i64) (m := k) (n := 64) (hA1.ev (i := 7)) (ec _ (.int .i64 64)) (by decide) rfl _ rfl) ?_
  intro a2 hA2; clear hA1
  refine sx_val (v := .int .u64 (((k % 64) : Nat) : Int)) hA2 rfl (ev_convN (m := (k % 64)) (hA2.ev (i := 8)) (by omega) _ rfl) ?_
  intro a3 hA3; clear hA2
  refine sx_val (v := .int .u64 (((1 * 2 ^ (k % 64) % 18446744073709551616) : Nat) : Int)) hA3 rfl (ev_shlN (k := .u64) (m := 1) (n := (k % 64)) (ec _ (.int .u64 1)) (hA3.ev (i := 9)) (by omega) rfl _ rfl) ?_
  intro a4 hA4; clear hA3
  refine sx_val hA4 rfl (ev_assign (hA4.ev (i := 10) (v := .int .u64 (((1 * 2 ^ (k % 64) % 18446744073709551616) : Nat) : Int))) _ rfl) ?_
  intro a5 hA5; clear hA4
  refine sx_nil ?_
  refine then_n ?_
  refine wp_seq ?_
  refine wp_region_lit ?_
  refine sx_val hA5 rfl (ev_move (hA5.ev (i := 2) (v := .bool false)) _ rfl) ?_
  intro a6 hA6; clear hA5
  refine sx_nil ?_
  refine then_n ?_
  refine wp_cond_false (hA6.ev (i := 11) (v := .bool false)) ?_
  refine region_D (n := 11) (by kernel_rfl) (by kernel_rfl) rfl (fun L ac wc => w.grownBy wc (some B) ∧ w.heap.size ≤ wc.heap.size ∧ Bx wc B 56 (bif L 10 then (bkr n M (upS S k false)) else (bkr n M S)) ∧ (L 10 = true → L 5 = true) ∧ (L 7 = true → L 5 = true) ∧ (L 0 = true → Sv ac 22 (.pointer (some ⟨B, 2, none⟩))) ∧ (L 1 = true → Sv ac 23 (.int .i64 (k : Int))) ∧ (L 2 = true → Sv ac 24 (.int .i64 (((k / 64) : Nat) : Int))) ∧ (L 3 = true → Sv ac 25 (.pointer (some ⟨B, 2, none⟩))) ∧ (L 4 = true → Sv ac 26 (.pointer (some ⟨B, 2 + k / 64, none⟩))) ∧ (L 5 = true → Sv ac 27 (.int .u64 ((wdn S (64 * (k / 64)) 64 : Nat) : Int))) ∧ (L 6 = true → Sv ac 28 (.int .u64 (((1 * 2 ^ (k % 64) % 18446744073709551616) : Nat) : Int))) ∧ (L 7 = true → Sv ac 29 (.int .u64 ((wdn (upS S k false) (64 * (k / 64)) 64 : Nat) : Int))) ∧ (L 8 = true → Sv ac 30 (.pointer (some ⟨B, 2, none⟩))) ∧ (L 9 = true → Sv ac 31 (.pointer (some ⟨B, 2 + k / 64, none⟩)))) ⟨(gtrN hbel0 (gdr _)), (Nat.le_refl _), (hx.gN (gdr _)), (fun h => by cases h), (fun h => by cases h), (fun h => by cases h), (fun h => by cases h), (fun h => by cases h), (fun h => by cases h), (fun h => by cases h), (fun h => by cases h), (fun h => by cases h), (fun h => by cases h), (fun h => by cases h), (fun h => by cases h)⟩ ?_ ?_
  · intro iq hiq o ho L hL hdep ac wc hF hJ
    obtain ⟨bl, sz, b_B, cl_10_5, cl_7_5, s_22, s_23, s_24, s_25, s_26, s_27, s_28, s_29, s_30, s_31⟩ := hJ
    have zq := hF.1.trans hA6.1
    match iq, hiq with
    | 0, _ =>
      obtain rfl := Option.some.inj (show some _ = some o from ho); clear ho
      have v0 := hF.sv (s := 0) (by kernel_rfl) (hA6.get (i := 0) (v := .pointer (some ⟨B, 2, none⟩)))
      refine dj_val (i := 0) (v := .pointer (some ⟨B, 2, none⟩)) rfl (.inl rfl) (ev_move v0.eval _ rfl) ?_
      exact ⟨⟨_, rfl⟩, bl, sz, b_B, cl_10_5, cl_7_5, (fun _ => Sv.self (by rw [zq]; decide) _), (so s_23), (so s_24), (so s_25), (so s_26), (so s_27), (so s_28), (so s_29), (so s_30), (so s_31)⟩
    | 1, _ =>
      obtain rfl := Option.some.inj (show some _ = some o from ho); clear ho
      have v1 := hF.sv (s := 1) (by kernel_rfl) (hA6.get (i := 1) (v := .int .i64 (k : Int)))
      refine dj_val (i := 1) (v := .int .i64 (k : Int)) rfl (.inl rfl) (ev_move v1.eval _ rfl) ?_
      exact ⟨⟨_, rfl⟩, bl, sz, b_B, cl_10_5, cl_7_5, (so s_22), (fun _ => Sv.self (by rw [zq]; decide) _), (so s_24), (so s_25), (so s_26), (so s_27), (so s_28), (so s_29), (so s_30), (so s_31)⟩
    | 2, _ =>
      obtain rfl := Option.some.inj (show some _ = some o from ho); clear ho
      have v23 := s_23 (dp hdep 1)
      refine dj_val (i := 2) (v := .int .i64 (((k / 64) : Nat) : Int)) rfl (.inl rfl) (ev_quoN (m := k) (n := 64) v23.eval (ec ac (.int .i64 64)) (by decide) (by omega) rfl _ rfl) ?_
      exact ⟨⟨_, rfl⟩, bl, sz, b_B, cl_10_5, cl_7_5, (so s_22), (so s_23), (fun _ => Sv.self (by rw [zq]; decide) _), (so s_25), (so s_26), (so s_27), (so s_28), (so s_29), (so s_30), (so s_31)⟩
    | 3, _ =>
      obtain rfl := Option.some.inj (show some _ = some o from ho); clear ho
      have v22 := s_22 (dp hdep 0)
      refine dj_val (i := 3) (v := .pointer (some ⟨B, 2, none⟩)) rfl (.inl rfl) (ev_nilCheck v22.eval _ rfl) ?_
      exact ⟨⟨_, rfl⟩, bl, sz, b_B, cl_10_5, cl_7_5, (so s_22), (so s_23), (so s_24), (fun _ => Sv.self (by rw [zq]; decide) _), (so s_26), (so s_27), (so s_28), (so s_29), (so s_30), (so s_31)⟩
    | 4, _ =>
      obtain rfl := Option.some.inj (show some _ = some o from ho); clear ho
      have v25 := s_25 (dp hdep 3)
      have v24 := s_24 (dp hdep 2)
      refine dj_val (i := 4) (v := .pointer (some ⟨B, 2 + k / 64, none⟩)) rfl (.inl rfl) (ev_idxQ (k := k / 64) v25.eval v24.eval (by omega) Try.underlying54 (by kernel_rfl) _ rfl) ?_
      exact ⟨⟨_, rfl⟩, bl, sz, b_B, cl_10_5, cl_7_5, (so s_22), (so s_23), (so s_24), (so s_25), (fun _ => Sv.self (by rw [zq]; decide) _), (so s_27), (so s_28), (so s_29), (so s_30), (so s_31)⟩
    | 5, _ =>
      obtain rfl := Option.some.inj (show some _ = some o from ho); clear ho
      have v26 := s_26 (dp hdep 4)
      have eB : L 10 = false := by
          cases hc : L 10
          · rfl
          · exact absurd (cl_10_5 hc) (by rw [hL]; decide)
      have yB := b_B
      rw [eB] at yB
      refine dj_val (i := 5) (v := .int .u64 ((wdn S (64 * (k / 64)) 64 : Nat) : Int)) rfl (.inl rfl) (ev_cell (v := .int .u64 ((wdn S (64 * (k / 64)) 64 : Nat) : Int)) v26.eval ((yB.cell _).trans (bkr_at n M S k hk)) Try.underlying52 rfl _ rfl) ?_
      exact ⟨⟨_, rfl⟩, bl, sz, b_B, (fun _ => rfl), (fun _ => rfl), (so s_22), (so s_23), (so s_24), (so s_25), (so s_26), (fun _ => Sv.self (by rw [zq]; decide) _), (so s_28), (so s_29), (so s_30), (so s_31)⟩
    | 6, _ =>
      obtain rfl := Option.some.inj (show some _ = some o from ho); clear ho
      have v6 := hF.sv (s := 6) (by kernel_rfl) (hA6.get (i := 6) (v := .int .u64 (((1 * 2 ^ (k % 64) % 18446744073709551616) : Nat) : Int)))
      refine dj_val (i := 6) (v := .int .u64 (((1 * 2 ^ (k % 64) % 18446744073709551616) : Nat) : Int)) rfl (.inl rfl) (ev_move v6.eval _ rfl) ?_
      exact ⟨⟨_, rfl⟩, bl, sz, b_B, cl_10_5, cl_7_5, (so s_22), (so s_23), (so s_24), (so s_25), (so s_26), (so s_27), (fun _ => Sv.self (by rw [zq]; decide) _), (so s_29), (so s_30), (so s_31)⟩
    | 7, _ =>
      obtain rfl := Option.some.inj (show some _ = some o from ho); clear ho
      have v27 := s_27 (dp hdep 5)
      have v28 := s_28 (dp hdep 6)
      refine dj_val (i := 7) (v := .int .u64 ((wdn (upS S k false) (64 * (k / 64)) 64 : Nat) : Int)) rfl (.inl rfl) (ev_andnN (m := (wdn S (64 * (k / 64)) 64)) (n := (1 * 2 ^ (k % 64) % 18446744073709551616)) v27.eval v28.eval (wd64 _ _) (pow_lt64 k) (wdn_clK S k) _ rfl) ?_
      exact ⟨⟨_, rfl⟩, bl, sz, b_B, cl_10_5, (fun _ => dp hdep 5), (so s_22), (so s_23), (so s_24), (so s_25), (so s_26), (so s_27), (so s_28), (fun _ => Sv.self (by rw [zq]; decide) _), (so s_30), (so s_31)⟩
    | 8, _ =>
      obtain rfl := Option.some.inj (show some _ = some o from ho); clear ho
      have v22 := s_22 (dp hdep 0)
      refine dj_val (i := 8) (v := .pointer (some ⟨B, 2, none⟩)) rfl (.inl rfl) (ev_nilCheck v22.eval _ rfl) ?_
      exact ⟨⟨_, rfl⟩, bl, sz, b_B, cl_10_5, cl_7_5, (so s_22), (so s_23), (so s_24), (so s_25), (so s_26), (so s_27), (so s_28), (so s_29), (fun _ => Sv.self (by rw [zq]; decide) _), (so s_31)⟩
    | 9, _ =>
      obtain rfl := Option.some.inj (show some _ = some o from ho); clear ho
      have v30 := s_30 (dp hdep 8)
      have v24 := s_24 (dp hdep 2)
      refine dj_val (i := 9) (v := .pointer (some ⟨B, 2 + k / 64, none⟩)) rfl (.inl rfl) (ev_idxQ (k := k / 64) v30.eval v24.eval (by omega) Try.underlying54 (by kernel_rfl) _ rfl) ?_
      exact ⟨⟨_, rfl⟩, bl, sz, b_B, cl_10_5, cl_7_5, (so s_22), (so s_23), (so s_24), (so s_25), (so s_26), (so s_27), (so s_28), (so s_29), (so s_30), (fun _ => Sv.self (by rw [zq]; decide) _)⟩
    | 10, _ =>
      obtain rfl := Option.some.inj (show some _ = some o from ho); clear ho
      have v31 := s_31 (dp hdep 9)
      have v29 := s_29 (dp hdep 7)
      have eB : L 10 = false := hL
      have yB := b_B
      rw [eB] at yB
      refine dj_skip (i := 10) rfl rfl (.inl rfl) (w' := wc.setCell ⟨B, 2 + k / 64, none⟩ (.int .u64 ((wdn (upS S k false) (64 * (k / 64)) 64 : Nat) : Int))) (ev_scell (v := .int .u64 ((wdn (upS S k false) (64 * (k / 64)) 64 : Nat) : Int)) v31.eval v29.eval ((yB.cell _).trans (bkr_at n M S k hk)) (yB.frozen _) (by kernel_rfl) rfl _ rfl) ?_
      have hg := gsc (i := 2 + k / 64) yB (.int .u64 ((wdn (upS S k false) (64 * (k / 64)) 64 : Nat) : Int))
      have hx := (show Bx _ B _ (bkr n M (upS S k false)) from by rw [← bkr_set n M S k false hk]; exact yB.set (2 + k / 64) (.int .u64 ((wdn (upS S k false) (64 * (k / 64)) 64 : Nat) : Int)))
      exact ⟨⟨undef, rfl⟩, (gtr bl hg), (Nat.le_trans sz hg.size), hx, (fun _ => cl_7_5 (dp hdep 7)), cl_7_5, s_22, s_23, s_24, s_25, s_26, s_27, s_28, s_29, s_30, s_31⟩
    | k + 11, h => exact absurd h (by omega)
  · intro L hall ac7 wc7 hF hJ
    obtain ⟨bl, sz, b_B, cl_10_5, cl_7_5, s_22, s_23, s_24, s_25, s_26, s_27, s_28, s_29, s_30, s_31⟩ := hJ
    have hA7 : Ag ac7 32 [] := (Ag.nil (hF.1.trans hA6.1) (hF.2.1.trans hA6.2.1))
    have bl7 := bl
    have sz7 := sz
    have b7_B : Bx wc7 B 56 (bkr n M (upS S k false)) := by
      have h := b_B
      rw [hall 10 (by decide)] at h
      exact h
    clear hF bl sz b_B cl_10_5 cl_7_5 s_22 s_23 s_24 s_25 s_26 s_27 s_28 s_29 s_30 s_31 hall hA6
    refine bodyPost_nrm (rs_  Try.results45 hA7  ) hA7.2.1 ?_
    exact ⟨rfl, b7_B, bl7⟩
set_option maxHeartbeats 1000000 in
theorem has_mk (B : Nat) (S : Nat → Bool) (k : Nat) (w : World) (hx : Bx w B 54 (mrow S)) (hk : k < 256) : Calls Try.prog 44 #[.pointer (some ⟨B, 0, none⟩), .int .i64 (k : Int)] w (RetB w (.returned (.bool (S k)))) := by
  have hlB := hx.lt
  have hbel0 := below0 w
  refine sx_enter (N := 17) [(0, .pointer (some ⟨B, 0, none⟩)), (1, .int .i64 (k : Int))] Try.func44 rfl Try.ntmps44 (by simp) (fun a z d s => (((Ag.nil z d).cons (s 1 _ rfl)).cons (s 0 _ rfl))) ?_
  intro a0 hA0
  refine wp_seq ?_
  refine wp_region_lit ?_
  refine sx_val hA0 rfl (ev_assign (ec _ (.bool false)) _ rfl) ?_
  intro a1 hA1; clear hA0
  refine sx_nil ?_
  refine then_n ?_
  refine wp_seq ?_
  refine wp_region_lit ?_
  refine sx_val hA1 rfl (ev_move (hA1.ev (i := 0) (v := .pointer (some ⟨B, 0, none⟩))) _ rfl) ?_
  intro a2 hA2; clear hA1
  refine sx_val hA2 rfl (ev_move (hA2.ev (i := 1) (v := .int .i64 (k : Int))) _ rfl) ?_
  intro a3 hA3; clear hA2
  refine sx_val (v := .int .i64 (((k / 64) : Nat) : Int)) hA3 rfl (ev_quoN (m := k) (n := 64) (hA3.ev (i := 6)) (ec _ (.int .i64 64)) (by decide) (by omega) rfl _ rfl) ?_
  intro a4 hA4; clear hA3
  refine sx_val hA4 rfl (ev_nilCheck (hA4.ev (i := 5) (v := .pointer (some ⟨B, 0, none⟩))) _ rfl) ?_
  intro a5 hA5; clear hA4
  refine sx_val (v := .pointer (some ⟨B, 0 + k / 64, none⟩)) hA5 rfl (ev_idxQ (k := k / 64) (hA5.ev (i := 8) (v := .pointer (some ⟨B, 0, none⟩))) (hA5.ev (i := 7) (v := .int .i64 (((k / 64) : Nat) : Int))) (by omega) Try.underlying54 (by kernel_rfl) _ rfl) ?_
  intro a6 hA6; clear hA5
  refine sx_val (v := .int .u64 ((wdn S (64 * (k / 64)) 64 : Nat) : Int)) hA6 rfl (ev_cell (v := .int .u64 ((wdn S (64 * (k / 64)) 64 : Nat) : Int)) (hA6.ev (i := 9) (v := .pointer (some ⟨B, 0 + k / 64, none⟩))) ((hx.cell _).trans (mrow_at S k hk)) Try.underlying52 rfl _ rfl) ?_
  intro a7 hA7; clear hA6
  refine sx_val hA7 rfl (ev_move (hA7.ev (i := 1) (v := .int .i64 (k : Int))) _ rfl) ?_
  intro a8 hA8; clear hA7
  refine sx_val (v := .int .i64 (((k % 64) : Nat) : Int)) hA8 rfl (ev_remN (k := .i64) (m := k) (n := 64) (hA8.ev (i := 11)) (ec _ (.int .i64 64)) (by decide) rfl _ rfl) ?_
  intro a9 hA9; clear hA8
  refine sx_val (v := .int .u64 (((k % 64) : Nat) : Int)) hA9 rfl (ev_convN (m := (k % 64)) (hA9.ev (i := 12)) (by omega) _ rfl) ?_
  intro a10 hA10; clear hA9
  refine sx_val (v := .int .u64 ((((wdn S (64 * (k / 64)) 64) / 2 ^ (k % 64)) : Nat) : Int)) hA10 rfl (ev_shrN (k := .u64) (m := (wdn S (64 * (k / 64)) 64)) (n := (k % 64)) (hA10.ev (i := 10)) (hA10.ev (i := 13)) (by omega) rfl _ rfl) ?_
  intro a11 hA11; clear hA10
  refine sx_val (v := .int .u64 (((((wdn S (64 * (k / 64)) 64) / 2 ^ (k % 64)) &&& 1) : Nat) : Int)) hA11 rfl (ev_andN (m := ((wdn S (64 * (k / 64)) 64) / 2 ^ (k % 64))) (n := 1) (hA11.ev (i := 14)) (ec _ (.int .u64 1)) (Nat.lt_of_le_of_lt (Nat.div_le_self _ _) (wd64 _ _)) (by decide) rfl _ rfl) ?_
  intro a12 hA12; clear hA11
  refine sx_val (v := .bool (S k)) hA12 rfl (ev_neqB (k := .u64) (m := (((((wdn S (64 * (k / 64)) 64) / 2 ^ (k % 64)) &&& 1) : Nat) : Int)) (n := 0) (b := S k) (hA12.ev (i := 15)) (ec _ (.int .u64 0)) (bit_of S k) _ rfl) ?_
  intro a13 hA13; clear hA12
  refine sx_val hA13 rfl (ev_assign (hA13.ev (i := 16) (v := .bool (S k))) _ rfl) ?_
  intro a14 hA14; clear hA13
  refine sx_nil ?_
  refine then_n ?_
  refine wp_ret ?_
  refine bodyPost_ret (rs_t (v := .bool (S k)) Try.results44 hA14 (by kernel_rfl) ) hA14.2.1 ?_
  exact ⟨rfl, hbel0⟩
set_option maxHeartbeats 1000000 in
theorem put_mk_t (B : Nat) (S : Nat → Bool) (k : Nat) (w : World) (hx : Bx w B 54 (mrow S)) (hk : k < 256) : Calls Try.prog 45 #[.pointer (some ⟨B, 0, none⟩), .int .i64 (k : Int), .bool true] w (fun e w' => e = .returned (.tuple #[]) ∧ Bx w' B 54 (mrow (upS S k true)) ∧ w.grownBy w' (some B)) := by
  have hlB := hx.lt
  have hbel0 := grefl w B
  refine sx_enter (N := 32) [(0, .pointer (some ⟨B, 0, none⟩)), (1, .int .i64 (k : Int)), (2, .bool true)] Try.func45 rfl Try.ntmps45 (by simp) (fun a z d s => ((((Ag.nil z d).cons (s 2 _ rfl)).cons (s 1 _ rfl)).cons (s 0 _ rfl))) ?_
  intro a0 hA0
  refine wp_seq ?_
  refine wp_region_lit ?_
  refine sx_val hA0 rfl (ev_move (hA0.ev (i := 1) (v := .int .i64 (k : Int))) _ rfl) ?_
  intro a1 hA1; clear hA0
  refine sx_val (v := .int .i64 (((k % 64) : Nat) : Int)) hA1 rfl (ev_remN (k := .i64) (m := k) (n := 64) (hA1.ev (i := 7)) (ec _ (.int .i64 64)) (by decide) rfl _ rfl) ?_
  intro a2 hA2; clear hA1
  refine sx_val (v := .int .u64 (((k % 64) : Nat) : Int)) hA2 rfl (ev_convN (m := (k % 64)) (hA2.ev (i := 8)) (by omega) _ rfl) ?_
  intro a3 hA3; clear hA2
  refine sx_val (v := .int .u64 (((1 * 2 ^ (k % 64) % 18446744073709551616) : Nat) : Int)) hA3 rfl (ev_shlN (k := .u64) (m := 1) (n := (k % 64)) (ec _ (.int .u64 1)) (hA3.ev (i := 9)) (by omega) rfl _ rfl) ?_
  intro a4 hA4; clear hA3
  refine sx_val hA4 rfl (ev_assign (hA4.ev (i := 10) (v := .int .u64 (((1 * 2 ^ (k % 64) % 18446744073709551616) : Nat) : Int))) _ rfl) ?_
  intro a5 hA5; clear hA4
  refine sx_nil ?_
  refine then_n ?_
  refine wp_seq ?_
  refine wp_region_lit ?_
  refine sx_val hA5 rfl (ev_move (hA5.ev (i := 2) (v := .bool true)) _ rfl) ?_
  intro a6 hA6; clear hA5
  refine sx_nil ?_
  refine then_n ?_
  refine wp_cond_true (hA6.ev (i := 11) (v := .bool true)) ?_
  refine region_D (n := 11) (by kernel_rfl) (by kernel_rfl) rfl (fun L ac wc => w.grownBy wc (some B) ∧ w.heap.size ≤ wc.heap.size ∧ Bx wc B 54 (bif L 10 then (mrow (upS S k true)) else (mrow S)) ∧ (L 10 = true → L 5 = true) ∧ (L 7 = true → L 5 = true) ∧ (L 0 = true → Sv ac 12 (.pointer (some ⟨B, 0, none⟩))) ∧ (L 1 = true → Sv ac 13 (.int .i64 (k : Int))) ∧ (L 2 = true → Sv ac 14 (.int .i64 (((k / 64) : Nat) : Int))) ∧ (L 3 = true → Sv ac 15 (.pointer (some ⟨B, 0, none⟩))) ∧ (L 4 = true → Sv ac 16 (.pointer (some ⟨B, 0 + k / 64, none⟩))) ∧ (L 5 = true → Sv ac 17 (.int .u64 ((wdn S (64 * (k / 64)) 64 : Nat) : Int))) ∧ (L 6 = true → Sv ac 18 (.int .u64 (((1 * 2 ^ (k % 64) % 18446744073709551616) : Nat) : Int))) ∧ (L 7 = true → Sv ac 19 (.int .u64 ((wdn (upS S k true) (64 * (k / 64)) 64 : Nat) : Int))) ∧ (L 8 = true → Sv ac 20 (.pointer (some ⟨B, 0, none⟩))) ∧ (L 9 = true → Sv ac 21 (.pointer (some ⟨B, 0 + k / 64, none⟩)))) ⟨(gtrN hbel0 (gdr _)), (Nat.le_refl _), (hx.gN (gdr _)), (fun h => by cases h), (fun h => by cases h), (fun h => by cases h), (fun h => by cases h), (fun h => by cases h), (fun h => by cases h), (fun h => by cases h), (fun h => by cases h), (fun h => by cases h), (fun h => by cases h), (fun h => by cases h), (fun h => by cases h)⟩ ?_ ?_
  · intro iq hiq o ho L hL hdep ac wc hF hJ
    obtain ⟨bl, sz, b_B, cl_10_5, cl_7_5, s_12, s_13, s_14, s_15, s_16, s_17, s_18, s_19, s_20, s_21⟩ := hJ
    have zq := hF.1.trans hA6.1
    match iq, hiq with
    | 0, _ =>
      obtain rfl := Option.some.inj (show some _ = some o from ho); clear ho
      have v0 := hF.sv (s := 0) (by kernel_rfl) (hA6.get (i := 0) (v := .pointer (some ⟨B, 0, none⟩)))
      refine dj_val (i := 0) (v := .pointer (some ⟨B, 0, none⟩)) rfl (.inl rfl) (ev_move v0.eval _ rfl) ?_
      exact ⟨⟨_, rfl⟩, bl, sz, b_B, cl_10_5, cl_7_5, (fun _ => Sv.self (by rw [zq]; decide) _), (so s_13), (so s_14), (so s_15), (so s_16), (so s_17), (so s_18), (so s_19), (so s_20), (so s_21)⟩
    | 1, _ =>
      obtain rfl := Option.some.inj (show some _ = some o from ho); clear ho
      have v1 := hF.sv (s := 1) (by kernel_rfl) (hA6.get (i := 1) (v := .int .i64 (k : Int)))
      refine dj_val (i := 1) (v := .int .i64 (k : Int)) rfl (.inl rfl) (ev_move v1.eval _ rfl) ?_
      exact ⟨⟨_, rfl⟩, bl, sz, b_B, cl_10_5, cl_7_5, (so s_12), (fun _ => Sv.self (by rw [zq]; decide) _), (so s_14), (so s_15), (so s_16), (so s_17), (so s_18), (so s_19), (so s_20), (so s_21)⟩
    | 2, _ =>
      obtain rfl := Option.some.inj (show some _ = some o from ho); clear ho
      have v13 := s_13 (dp hdep 1)
      refine dj_val (i := 2) (v := .int .i64 (((k / 64) : Nat) : Int)) rfl (.inl rfl) (ev_quoN (m := k) (n := 64) v13.eval (ec ac (.int .i64 64)) (by decide) (by omega) rfl _ rfl) ?_
      exact ⟨⟨_, rfl⟩, bl, sz, b_B, cl_10_5, cl_7_5, (so s_12), (so s_13), (fun _ => Sv.self (by rw [zq]; decide) _), (so s_15), (so s_16), (so s_17), (so s_18), (so s_19), (so s_20), (so s_21)⟩
    | 3, _ =>
      obtain rfl := Option.some.inj (show some _ = some o from ho); clear ho
      have v12 := s_12 (dp hdep 0)
      refine dj_val (i := 3) (v := .pointer (some ⟨B, 0, none⟩)) rfl (.inl rfl) (ev_nilCheck v12.eval _ rfl) ?_
      exact ⟨⟨_, rfl⟩, bl, sz, b_B, cl_10_5, cl_7_5, (so s_12), (so s_13), (so s_14), (fun _ => Sv.self (by rw [zq]; decide) _), (so s_16), (so s_17), (so s_18), (so s_19), (so s_20), (so s_21)⟩
    | 4, _ =>
      obtain rfl := Option.some.inj (show some _ = some o from ho); clear ho
      have v15 := s_15 (dp hdep 3)
      have v14 := s_14 (dp hdep 2)
      refine dj_val (i := 4) (v := .pointer (some ⟨B, 0 + k / 64, none⟩)) rfl (.inl rfl) (ev_idxQ (k := k / 64) v15.eval v14.eval (by omega) Try.underlying54 (by kernel_rfl) _ rfl) ?_
      exact ⟨⟨_, rfl⟩, bl, sz, b_B, cl_10_5, cl_7_5, (so s_12), (so s_13), (so s_14), (so s_15), (fun _ => Sv.self (by rw [zq]; decide) _), (so s_17), (so s_18), (so s_19), (so s_20), (so s_21)⟩
    | 5, _ =>
      obtain rfl := Option.some.inj (show some _ = some o from ho); clear ho
      have v16 := s_16 (dp hdep 4)
      have eB : L 10 = false := by
          cases hc : L 10
          · rfl
          · exact absurd (cl_10_5 hc) (by rw [hL]; decide)
      have yB := b_B
      rw [eB] at yB
      refine dj_val (i := 5) (v := .int .u64 ((wdn S (64 * (k / 64)) 64 : Nat) : Int)) rfl (.inl rfl) (ev_cell (v := .int .u64 ((wdn S (64 * (k / 64)) 64 : Nat) : Int)) v16.eval ((yB.cell _).trans (mrow_at S k hk)) Try.underlying52 rfl _ rfl) ?_
      exact ⟨⟨_, rfl⟩, bl, sz, b_B, (fun _ => rfl), (fun _ => rfl), (so s_12), (so s_13), (so s_14), (so s_15), (so s_16), (fun _ => Sv.self (by rw [zq]; decide) _), (so s_18), (so s_19), (so s_20), (so s_21)⟩
    | 6, _ =>
      obtain rfl := Option.some.inj (show some _ = some o from ho); clear ho
      have v6 := hF.sv (s := 6) (by kernel_rfl) (hA6.get (i := 6) (v := .int .u64 (((1 * 2 ^ (k % 64) % 18446744073709551616) : Nat) : Int)))
      refine dj_val (i := 6) (v := .int .u64 (((1 * 2 ^ (k % 64) % 18446744073709551616) : Nat) : Int)) rfl (.inl rfl) (ev_move v6.eval _ rfl) ?_
      exact ⟨⟨_, rfl⟩, bl, sz, b_B, cl_10_5, cl_7_5, (so s_12), (so s_13), (so s_14), (so s_15), (so s_16), (so s_17), (fun _ => Sv.self (by rw [zq]; decide) _), (so s_19), (so s_20), (so s_21)⟩
    | 7, _ =>
      obtain rfl := Option.some.inj (show some _ = some o from ho); clear ho
      have v17 := s_17 (dp hdep 5)
      have v18 := s_18 (dp hdep 6)
      refine dj_val (i := 7) (v := .int .u64 ((wdn (upS S k true) (64 * (k / 64)) 64 : Nat) : Int)) rfl (.inl rfl) (ev_orN (m := (wdn S (64 * (k / 64)) 64)) (n := (1 * 2 ^ (k % 64) % 18446744073709551616)) v17.eval v18.eval (wd64 _ _) (pow_lt64 k) (wdn_orK S k) _ rfl) ?_
      exact ⟨⟨_, rfl⟩, bl, sz, b_B, cl_10_5, (fun _ => dp hdep 5), (so s_12), (so s_13), (so s_14), (so s_15), (so s_16), (so s_17), (so s_18), (fun _ => Sv.self (by rw [zq]; decide) _), (so s_20), (so s_21)⟩
    | 8, _ =>
      obtain rfl := Option.some.inj (show some _ = some o from ho); clear ho
      have v12 := s_12 (dp hdep 0)
      refine dj_val (i := 8) (v := .pointer (some ⟨B, 0, none⟩)) rfl (.inl rfl) (ev_nilCheck v12.eval _ rfl) ?_
      exact ⟨⟨_, rfl⟩, bl, sz, b_B, cl_10_5, cl_7_5, (so s_12), (so s_13), (so s_14), (so s_15), (so s_16), (so s_17), (so s_18), (so s_19), (fun _ => Sv.self (by rw [zq]; decide) _), (so s_21)⟩
    | 9, _ =>
      obtain rfl := Option.some.inj (show some _ = some o from ho); clear ho
      have v20 := s_20 (dp hdep 8)
      have v14 := s_14 (dp hdep 2)
      refine dj_val (i := 9) (v := .pointer (some ⟨B, 0 + k / 64, none⟩)) rfl (.inl rfl) (ev_idxQ (k := k / 64) v20.eval v14.eval (by omega) Try.underlying54 (by kernel_rfl) _ rfl) ?_
      exact ⟨⟨_, rfl⟩, bl, sz, b_B, cl_10_5, cl_7_5, (so s_12), (so s_13), (so s_14), (so s_15), (so s_16), (so s_17), (so s_18), (so s_19), (so s_20), (fun _ => Sv.self (by rw [zq]; decide) _)⟩
    | 10, _ =>
      obtain rfl := Option.some.inj (show some _ = some o from ho); clear ho
      have v21 := s_21 (dp hdep 9)
      have v19 := s_19 (dp hdep 7)
      have eB : L 10 = false := hL
      have yB := b_B
      rw [eB] at yB
      refine dj_skip (i := 10) rfl rfl (.inl rfl) (w' := wc.setCell ⟨B, 0 + k / 64, none⟩ (.int .u64 ((wdn (upS S k true) (64 * (k / 64)) 64 : Nat) : Int))) (ev_scell (v := .int .u64 ((wdn (upS S k true) (64 * (k / 64)) 64 : Nat) : Int)) v21.eval v19.eval ((yB.cell _).trans (mrow_at S k hk)) (yB.frozen _) (by kernel_rfl) rfl _ rfl) ?_
      have hg := gsc (i := 0 + k / 64) yB (.int .u64 ((wdn (upS S k true) (64 * (k / 64)) 64 : Nat) : Int))
      have hx := (show Bx _ B _ (mrow (upS S k true)) from by rw [← mrow_set S k true hk]; exact yB.set (0 + k / 64) (.int .u64 ((wdn (upS S k true) (64 * (k / 64)) 64 : Nat) : Int)))
      exact ⟨⟨undef, rfl⟩, (gtr bl hg), (Nat.le_trans sz hg.size), hx, (fun _ => cl_7_5 (dp hdep 7)), cl_7_5, s_12, s_13, s_14, s_15, s_16, s_17, s_18, s_19, s_20, s_21⟩
    | k + 11, h => exact absurd h (by omega)
  · intro L hall ac7 wc7 hF hJ
    obtain ⟨bl, sz, b_B, cl_10_5, cl_7_5, s_12, s_13, s_14, s_15, s_16, s_17, s_18, s_19, s_20, s_21⟩ := hJ
    have hA7 : Ag ac7 32 [] := (Ag.nil (hF.1.trans hA6.1) (hF.2.1.trans hA6.2.1))
    have bl7 := bl
    have sz7 := sz
    have b7_B : Bx wc7 B 54 (mrow (upS S k true)) := by
      have h := b_B
      rw [hall 10 (by decide)] at h
      exact h
    clear hF bl sz b_B cl_10_5 cl_7_5 s_12 s_13 s_14 s_15 s_16 s_17 s_18 s_19 s_20 s_21 hall hA6
    refine bodyPost_nrm (rs_  Try.results45 hA7  ) hA7.2.1 ?_
    exact ⟨rfl, b7_B, bl7⟩
set_option maxHeartbeats 1000000 in
theorem put_mk_f (B : Nat) (S : Nat → Bool) (k : Nat) (w : World) (hx : Bx w B 54 (mrow S)) (hk : k < 256) : Calls Try.prog 45 #[.pointer (some ⟨B, 0, none⟩), .int .i64 (k : Int), .bool false] w (fun e w' => e = .returned (.tuple #[]) ∧ Bx w' B 54 (mrow (upS S k false)) ∧ w.grownBy w' (some B)) := by
  have hlB := hx.lt
  have hbel0 := grefl w B
  refine sx_enter (N := 32) [(0, .pointer (some ⟨B, 0, none⟩)), (1, .int .i64 (k : Int)), (2, .bool false)] Try.func45 rfl Try.ntmps45 (by simp) (fun a z d s => ((((Ag.nil z d).cons (s 2 _ rfl)).cons (s 1 _ rfl)).cons (s 0 _ rfl))) ?_
  intro a0 hA0
  refine wp_seq ?_
  refine wp_region_lit ?_
  refine sx_val hA0 rfl (ev_move (hA0.ev (i := 1) (v := .int .i64 (k : Int))) _ rfl) ?_
  intro a1 hA1; clear hA0
  refine sx_val (v := .int .i64 (((k % 64) : Nat) : Int)) hA1 rfl (ev_remN (k := .i64) (m := k) (n := 64) (hA1.ev (i := 7)) (ec _ (.int .i64 64)) (by decide) rfl _ rfl) ?_
  intro a2 hA2; clear hA1
  refine sx_val (v := .int .u64 (((k % 64) : Nat) : Int)) hA2 rfl (ev_convN (m := (k % 64)) (hA2.ev (i := 8)) (by omega) _ rfl) ?_
  intro a3 hA3; clear hA2
  refine sx_val (v := .int .u64 (((1 * 2 ^ (k % 64) % 18446744073709551616) : Nat) : Int)) hA3 rfl (ev_shlN (k := .u64) (m := 1) (n := (k % 64)) (ec _ (.int .u64 1)) (hA3.ev (i := 9)) (by omega) rfl _ rfl) ?_
  intro a4 hA4; clear hA3
  refine sx_val hA4 rfl (ev_assign (hA4.ev (i := 10) (v := .int .u64 (((1 * 2 ^ (k % 64) % 18446744073709551616) : Nat) : Int))) _ rfl) ?_
  intro a5 hA5; clear hA4
  refine sx_nil ?_
  refine then_n ?_
  refine wp_seq ?_
  refine wp_region_lit ?_
  refine sx_val hA5 rfl (ev_move (hA5.ev (i := 2) (v := .bool false)) _ rfl) ?_
  intro a6 hA6; clear hA5
  refine sx_nil ?_
  refine then_n ?_
  refine wp_cond_false (hA6.ev (i := 11) (v := .bool false)) ?_
  refine region_D (n := 11) (by kernel_rfl) (by kernel_rfl) rfl (fun L ac wc => w.grownBy wc (some B) ∧ w.heap.size ≤ wc.heap.size ∧ Bx wc B 54 (bif L 10 then (mrow (upS S k false)) else (mrow S)) ∧ (L 10 = true → L 5 = true) ∧ (L 7 = true → L 5 = true) ∧ (L 0 = true → Sv ac 22 (.pointer (some ⟨B, 0, none⟩))) ∧ (L 1 = true → Sv ac 23 (.int .i64 (k : Int))) ∧ (L 2 = true → Sv ac 24 (.int .i64 (((k / 64) : Nat) : Int))) ∧ (L 3 = true → Sv ac 25 (.pointer (some ⟨B, 0, none⟩))) ∧ (L 4 = true → Sv ac 26 (.pointer (some ⟨B, 0 + k / 64, none⟩))) ∧ (L 5 = true → Sv ac 27 (.int .u64 ((wdn S (64 * (k / 64)) 64 : Nat) : Int))) ∧ (L 6 = true → Sv ac 28 (.int .u64 (((1 * 2 ^ (k % 64) % 18446744073709551616) : Nat) : Int))) ∧ (L 7 = true → Sv ac 29 (.int .u64 ((wdn (upS S k false) (64 * (k / 64)) 64 : Nat) : Int))) ∧ (L 8 = true → Sv ac 30 (.pointer (some ⟨B, 0, none⟩))) ∧ (L 9 = true → Sv ac 31 (.pointer (some ⟨B, 0 + k / 64, none⟩)))) ⟨(gtrN hbel0 (gdr _)), (Nat.le_refl _), (hx.gN (gdr _)), (fun h => by cases h), (fun h => by cases h), (fun h => by cases h), (fun h => by cases h), (fun h => by cases h), (fun h => by cases h), (fun h => by cases h), (fun h => by cases h), (fun h => by cases h), (fun h => by cases h), (fun h => by cases h), (fun h => by cases h)⟩ ?_ ?_
  · intro iq hiq o ho L hL hdep ac wc hF hJ
    obtain ⟨bl, sz, b_B, cl_10_5, cl_7_5, s_22, s_23, s_24, s_25, s_26, s_27, s_28, s_29, s_30, s_31⟩ := hJ
    have zq := hF.1.trans hA6.1
    match iq, hiq with
    | 0, _ =>
      obtain rfl := Option.some.inj (show some _ = some o from ho); clear ho
      have v0 := hF.sv (s := 0) (by kernel_rfl) (hA6.get (i := 0) (v := .pointer (some ⟨B, 0, none⟩)))
      refine dj_val (i := 0) (v := .pointer (some ⟨B, 0, none⟩)) rfl (.inl rfl) (ev_move v0.eval _ rfl) ?_
      exact ⟨⟨_, rfl⟩, bl, sz, b_B, cl_10_5, cl_7_5, (fun _ => Sv.self (by rw [zq]; decide) _), (so s_23), (so s_24), (so s_25), (so s_26), (so s_27), (so s_28), (so s_29), (so s_30), (so s_31)⟩
    | 1, _ =>
      obtain rfl := Option.some.inj (show some _ = some o from ho); clear ho
      have v1 := hF.sv (s := 1) (by kernel_rfl) (hA6.get (i := 1) (v := .int .i64 (k : Int)))
      refine dj_val (i := 1) (v := .int .i64 (k : Int)) rfl (.inl rfl) (ev_move v1.eval _ rfl) ?_
      exact ⟨⟨_, rfl⟩, bl, sz, b_B, cl_10_5, cl_7_5, (so s_22), (fun _ => Sv.self (by rw [zq]; decide) _), (so s_24), (so s_25), (so s_26), (so s_27), (so s_28), (so s_29), (so s_30), (so s_31)⟩
    | 2, _ =>
      obtain rfl := Option.some.inj (show some _ = some o from ho); clear ho
      have v23 := s_23 (dp hdep 1)
      refine dj_val (i := 2) (v := .int .i64 (((k / 64) : Nat) : Int)) rfl (.inl rfl) (ev_quoN (m := k) (n := 64) v23.eval (ec ac (.int .i64 64)) (by decide) (by omega) rfl _ rfl) ?_
      exact ⟨⟨_, rfl⟩, bl, sz, b_B, cl_10_5, cl_7_5, (so s_22), (so s_23), (fun _ => Sv.self (by rw [zq]; decide) _), (so s_25), (so s_26), (so s_27), (so s_28), (so s_29), (so s_30), (so s_31)⟩
    | 3, _ =>
      obtain rfl := Option.some.inj (show some _ = some o from ho); clear ho
      have v22 := s_22 (dp hdep 0)
      refine dj_val (i := 3) (v := .pointer (some ⟨B, 0, none⟩)) rfl (.inl rfl) (ev_nilCheck v22.eval _ rfl) ?_
      exact ⟨⟨_, rfl⟩, bl, sz, b_B, cl_10_5, cl_7_5, (so s_22), (so s_23), (so s_24), (fun _ => Sv.self (by rw [zq]; decide) _), (so s_26), (so s_27), (so s_28), (so s_29), (so s_30), (so s_31)⟩
    | 4, _ =>
      obtain rfl := Option.some.inj (show some _ = some o from ho); clear ho
      have v25 := s_25 (dp hdep 3)
      have v24 := s_24 (dp hdep 2)
      refine dj_val (i := 4) (v := .pointer (some ⟨B, 0 + k / 64, none⟩)) rfl (.inl rfl) (ev_idxQ (k := k / 64) v25.eval v24.eval (by omega) Try.underlying54 (by kernel_rfl) _ rfl) ?_
      exact ⟨⟨_, rfl⟩, bl, sz, b_B, cl_10_5, cl_7_5, (so s_22), (so s_23), (so s_24), (so s_25), (fun _ => Sv.self (by rw [zq]; decide) _), (so s_27), (so s_28), (so s_29), (so s_30), (so s_31)⟩
    | 5, _ =>
      obtain rfl := Option.some.inj (show some _ = some o from ho); clear ho
      have v26 := s_26 (dp hdep 4)
      have eB : L 10 = false := by
          cases hc : L 10
          · rfl
          · exact absurd (cl_10_5 hc) (by rw [hL]; decide)
      have yB := b_B
      rw [eB] at yB
      refine dj_val (i := 5) (v := .int .u64 ((wdn S (64 * (k / 64)) 64 : Nat) : Int)) rfl (.inl rfl) (ev_cell (v := .int .u64 ((wdn S (64 * (k / 64)) 64 : Nat) : Int)) v26.eval ((yB.cell _).trans (mrow_at S k hk)) Try.underlying52 rfl _ rfl) ?_
      exact ⟨⟨_, rfl⟩, bl, sz, b_B, (fun _ => rfl), (fun _ => rfl), (so s_22), (so s_23), (so s_24), (so s_25), (so s_26), (fun _ => Sv.self (by rw [zq]; decide) _), (so s_28), (so s_29), (so s_30), (so s_31)⟩
    | 6, _ =>
      obtain rfl := Option.some.inj (show some _ = some o from ho); clear ho
      have v6 := hF.sv (s := 6) (by kernel_rfl) (hA6.get (i := 6) (v := .int .u64 (((1 * 2 ^ (k % 64) % 18446744073709551616) : Nat) : Int)))
      refine dj_val (i := 6) (v := .int .u64 (((1 * 2 ^ (k % 64) % 18446744073709551616) : Nat) : Int)) rfl (.inl rfl) (ev_move v6.eval _ rfl) ?_
      exact ⟨⟨_, rfl⟩, bl, sz, b_B, cl_10_5, cl_7_5, (so s_22), (so s_23), (so s_24), (so s_25), (so s_26), (so s_27), (fun _ => Sv.self (by rw [zq]; decide) _), (so s_29), (so s_30), (so s_31)⟩
    | 7, _ =>
      obtain rfl := Option.some.inj (show some _ = some o from ho); clear ho
      have v27 := s_27 (dp hdep 5)
      have v28 := s_28 (dp hdep 6)
      refine dj_val (i := 7) (v := .int .u64 ((wdn (upS S k false) (64 * (k / 64)) 64 : Nat) : Int)) rfl (.inl rfl) (ev_andnN (m := (wdn S (64 * (k / 64)) 64)) (n := (1 * 2 ^ (k % 64) % 18446744073709551616)) v27.eval v28.eval (wd64 _ _) (pow_lt64 k) (wdn_clK S k) _ rfl) ?_
      exact ⟨⟨_, rfl⟩, bl, sz, b_B, cl_10_5, (fun _ => dp hdep 5), (so s_22), (so s_23), (so s_24), (so s_25), (so s_26), (so s_27), (so s_28), (fun _ => Sv.self (by rw [zq]; decide) _), (so s_30), (so s_31)⟩
    | 8, _ =>
      obtain rfl := Option.some.inj (show some _ = some o from ho); clear ho
      have v22 := s_22 (dp hdep 0)
      refine dj_val (i := 8) (v := .pointer (some ⟨B, 0, none⟩)) rfl (.inl rfl) (ev_nilCheck v22.eval _ rfl) ?_
      exact ⟨⟨_, rfl⟩, bl, sz, b_B, cl_10_5, cl_7_5, (so s_22), (so s_23), (so s_24), (so s_25), (so s_26), (so s_27), (so s_28), (so s_29), (fun _ => Sv.self (by rw [zq]; decide) _), (so s_31)⟩
    | 9, _ =>
      obtain rfl := Option.some.inj (show some _ = some o from ho); clear ho
      have v30 := s_30 (dp hdep 8)
      have v24 := s_24 (dp hdep 2)
      refine dj_val (i := 9) (v := .pointer (some ⟨B, 0 + k / 64, none⟩)) rfl (.inl rfl) (ev_idxQ (k := k / 64) v30.eval v24.eval (by omega) Try.underlying54 (by kernel_rfl) _ rfl) ?_
      exact ⟨⟨_, rfl⟩, bl, sz, b_B, cl_10_5, cl_7_5, (so s_22), (so s_23), (so s_24), (so s_25), (so s_26), (so s_27), (so s_28), (so s_29), (so s_30), (fun _ => Sv.self (by rw [zq]; decide) _)⟩
    | 10, _ =>
      obtain rfl := Option.some.inj (show some _ = some o from ho); clear ho
      have v31 := s_31 (dp hdep 9)
      have v29 := s_29 (dp hdep 7)
      have eB : L 10 = false := hL
      have yB := b_B
      rw [eB] at yB
      refine dj_skip (i := 10) rfl rfl (.inl rfl) (w' := wc.setCell ⟨B, 0 + k / 64, none⟩ (.int .u64 ((wdn (upS S k false) (64 * (k / 64)) 64 : Nat) : Int))) (ev_scell (v := .int .u64 ((wdn (upS S k false) (64 * (k / 64)) 64 : Nat) : Int)) v31.eval v29.eval ((yB.cell _).trans (mrow_at S k hk)) (yB.frozen _) (by kernel_rfl) rfl _ rfl) ?_
      have hg := gsc (i := 0 + k / 64) yB (.int .u64 ((wdn (upS S k false) (64 * (k / 64)) 64 : Nat) : Int))
      have hx := (show Bx _ B _ (mrow (upS S k false)) from by rw [← mrow_set S k false hk]; exact yB.set (0 + k / 64) (.int .u64 ((wdn (upS S k false) (64 * (k / 64)) 64 : Nat) : Int)))
      exact ⟨⟨undef, rfl⟩, (gtr bl hg), (Nat.le_trans sz hg.size), hx, (fun _ => cl_7_5 (dp hdep 7)), cl_7_5, s_22, s_23, s_24, s_25, s_26, s_27, s_28, s_29, s_30, s_31⟩
    | k + 11, h => exact absurd h (by omega)
  · intro L hall ac7 wc7 hF hJ
    obtain ⟨bl, sz, b_B, cl_10_5, cl_7_5, s_22, s_23, s_24, s_25, s_26, s_27, s_28, s_29, s_30, s_31⟩ := hJ
    have hA7 : Ag ac7 32 [] := (Ag.nil (hF.1.trans hA6.1) (hF.2.1.trans hA6.2.1))
    have bl7 := bl
    have sz7 := sz
    have b7_B : Bx wc7 B 54 (mrow (upS S k false)) := by
      have h := b_B
      rw [hall 10 (by decide)] at h
      exact h
    clear hF bl sz b_B cl_10_5 cl_7_5 s_22 s_23 s_24 s_25 s_26 s_27 s_28 s_29 s_30 s_31 hall hA6
    refine bodyPost_nrm (rs_  Try.results45 hA7  ) hA7.2.1 ?_
    exact ⟨rfl, b7_B, bl7⟩
end Go.Proofs.Ytpoilgfblhacaaa
