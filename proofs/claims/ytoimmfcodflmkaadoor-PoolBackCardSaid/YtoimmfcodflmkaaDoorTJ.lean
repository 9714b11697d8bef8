/- The statement PoolKnown. -/
import Derived.Test.YtoimmfcodflmkaaDoorTG
import Derived.Test.YtoimmfcodflmkaaDoorTI
namespace Go.Proofs.YtoimmfcodflmkaaDoor
open Go.RowKit
set_option linter.unusedVariables false

noncomputable def kn12_l : List Oper := (Tryd.f6.body.bind (regIn · 12)).getD []
theorem kn12_o0 : kn12_l[0]?.map (fun o => (o.dst, o.op, o.guard)) = some (some 92, .move (.tmp 5), none) := by kernel_rfl
theorem kn12_o1 : kn12_l[1]?.map (fun o => (o.dst, o.op, o.guard)) = some (some 93, .binOp .eql 25 (.tmp 92) (.const (.int .i64 0)) 25, none) := by kernel_rfl
theorem kn12_o2 : kn12_l[2]?.map (fun o => (o.dst, o.op, o.guard)) = some (some 94, .move (.tmp 93), none) := by kernel_rfl
theorem kn12_o3 : kn12_l[3]?.map (fun o => (o.dst, o.op, o.guard)) = some (some 95, .move (.tmp 4), some (2, true)) := by kernel_rfl
theorem kn12_o4 : kn12_l[4]?.map (fun o => (o.dst, o.op, o.guard)) = some (some 96, .binOp .eql 3 (.tmp 95) (.const (.int .i64 1)) 3, some (2, true)) := by kernel_rfl
theorem kn12_o5 : kn12_l[5]?.map (fun o => (o.dst, o.op, o.guard)) = some (some 97, .pick (.tmp 94) (.tmp 96) (.const (.bool false)), none) := by kernel_rfl
theorem kn12_o6 : kn12_l[6]?.map (fun o => (o.dst, o.op, o.guard)) = some (some 98, .move (.tmp 97), none) := by kernel_rfl
theorem kn12_o7 : kn12_l[7]?.map (fun o => (o.dst, o.op, o.guard)) = some (some 99, .load 24 (.tmp 3), some (6, true)) := by kernel_rfl
theorem kn12_o8 : kn12_l[8]?.map (fun o => (o.dst, o.op, o.guard)) = some (some 100, .buildSlice 22 1 #[(0, .const (.int .i64 2))], some (6, true)) := by kernel_rfl
theorem kn12_o9 : kn12_l[9]?.map (fun o => (o.dst, o.op, o.guard)) = some (some 101, .call { callee := .value (.func 29), args := #[(.tmp 100)], argTypes := #[22] }, some (6, true)) := by kernel_rfl
theorem kn12_o10 : kn12_l[10]?.map (fun o => (o.dst, o.op, o.guard)) = some (some 102, .call { callee := .value (.func 13), args := #[(.tmp 99), (.tmp 101)], argTypes := #[24, 24] }, some (6, true)) := by kernel_rfl
theorem kn12_o11 : kn12_l[11]?.map (fun o => (o.dst, o.op, o.guard)) = some (some 103, .pick (.tmp 98) (.tmp 102) (.const (.bool false)), none) := by kernel_rfl
theorem kn12_o12 : kn12_l[12]?.map (fun o => (o.dst, o.op, o.guard)) = some (some 104, .move (.tmp 103), none) := by kernel_rfl
theorem kn12_o13 : kn12_l[13]?.map (fun o => (o.dst, o.op, o.guard)) = some (some 105, .move (.tmp 7), some (12, true)) := by kernel_rfl
theorem kn12_o14 : kn12_l[14]?.map (fun o => (o.dst, o.op, o.guard)) = some (some 106, .binOp .eql 25 (.tmp 105) (.const (.int .i64 7)) 25, some (12, true)) := by kernel_rfl
theorem kn12_o15 : kn12_l[15]?.map (fun o => (o.dst, o.op, o.guard)) = some (some 107, .pick (.tmp 104) (.tmp 106) (.const (.bool false)), none) := by kernel_rfl
theorem kn12_o16 : kn12_l[16]?.map (fun o => (o.dst, o.op, o.guard)) = some (some 108, .move (.tmp 107), none) := by kernel_rfl
theorem kn12_o17 : kn12_l[17]?.map (fun o => (o.dst, o.op, o.guard)) = some (some 109, .move (.tmp 9), some (16, true)) := by kernel_rfl
theorem kn12_o18 : kn12_l[18]?.map (fun o => (o.dst, o.op, o.guard)) = some (some 110, .binOp .eql 25 (.tmp 109) (.const (.int .i64 2)) 25, some (16, true)) := by kernel_rfl
theorem kn12_o19 : kn12_l[19]?.map (fun o => (o.dst, o.op, o.guard)) = some (some 111, .pick (.tmp 108) (.tmp 110) (.const (.bool false)), none) := by kernel_rfl
theorem kn12_o20 : kn12_l[20]?.map (fun o => (o.dst, o.op, o.guard)) = some (some 112, .move (.tmp 111), none) := by kernel_rfl
theorem kn12_o21 : kn12_l[21]?.map (fun o => (o.dst, o.op, o.guard)) = some (some 113, .move (.tmp 11), some (20, true)) := by kernel_rfl
theorem kn12_o22 : kn12_l[22]?.map (fun o => (o.dst, o.op, o.guard)) = some (some 114, .binOp .eql 25 (.tmp 113) (.const (.int .i64 0)) 25, some (20, true)) := by kernel_rfl
theorem kn12_o23 : kn12_l[23]?.map (fun o => (o.dst, o.op, o.guard)) = some (some 115, .pick (.tmp 112) (.tmp 114) (.const (.bool false)), none) := by kernel_rfl
theorem kn12_o24 : kn12_l[24]?.map (fun o => (o.dst, o.op, o.guard)) = some (some 116, .move (.tmp 115), none) := by kernel_rfl
theorem kn12_o25 : kn12_l[25]?.map (fun o => (o.dst, o.op, o.guard)) = some (some 117, .move (.tmp 10), some (24, true)) := by kernel_rfl
theorem kn12_o26 : kn12_l[26]?.map (fun o => (o.dst, o.op, o.guard)) = some (some 118, .binOp .eql 3 (.tmp 117) (.const (.int .i64 1)) 3, some (24, true)) := by kernel_rfl
theorem kn12_o27 : kn12_l[27]?.map (fun o => (o.dst, o.op, o.guard)) = some (some 119, .pick (.tmp 116) (.tmp 118) (.const (.bool false)), none) := by kernel_rfl
theorem kn12_o28 : kn12_l[28]?.map (fun o => (o.dst, o.op, o.guard)) = some (some 120, .move (.tmp 119), none) := by kernel_rfl
theorem kn12_o29 : kn12_l[29]?.map (fun o => (o.dst, o.op, o.guard)) = some (some 121, .move (.tmp 14), some (28, true)) := by kernel_rfl
theorem kn12_o30 : kn12_l[30]?.map (fun o => (o.dst, o.op, o.guard)) = some (some 122, .binOp .eql 25 (.tmp 121) (.const (.int .i64 5)) 25, some (28, true)) := by kernel_rfl
theorem kn12_o31 : kn12_l[31]?.map (fun o => (o.dst, o.op, o.guard)) = some (some 123, .pick (.tmp 120) (.tmp 122) (.const (.bool false)), none) := by kernel_rfl
theorem kn12_o32 : kn12_l[32]?.map (fun o => (o.dst, o.op, o.guard)) = some (some 27, .assign (.tmp 123), none) := by kernel_rfl
def kn12_sp (A3 : Option Addr) (c3 : Nat) (B3 : Nat) (W : World) : Nat → Spec
  | 0 => ⟨Unit, [92], fun _ => [(92, .int .i64 0)], fun _ _ => True⟩
  | 1 => ⟨Unit, [93], fun _ => [(93, .bool true)], fun _ _ => True⟩
  | 2 => ⟨Unit, [94], fun _ => [(94, .bool true)], fun _ _ => True⟩
  | 3 => ⟨Unit, [95], fun _ => [(95, .int .i64 1)], fun _ _ => True⟩
  | 4 => ⟨Unit, [96], fun _ => [(96, .bool true)], fun _ _ => True⟩
  | 5 => ⟨Unit, [97], fun _ => [(97, .bool true)], fun _ _ => True⟩
  | 6 => ⟨Unit, [98], fun _ => [(98, .bool true)], fun _ _ => True⟩
  | 7 => ⟨Unit, [99], fun _ => [(99, .agg #[.int .i64 3, .slice A3 1 c3])], fun _ _ => True⟩
  | 8 => ⟨Nat, [100], fun Gn => [(100, .slice (some ⟨Gn, 0, none⟩) 1 1)], fun Gn w => GI w (some ⟨Gn, 0, none⟩) 1 [2]⟩
  | 9 => ⟨Nat, [101], fun Gn => [(101, .agg #[.int .i64 3, .slice (some ⟨Gn, 0, none⟩) 1 1])], fun Gn w => GI w (some ⟨Gn, 0, none⟩) 1 [2]⟩
  | 10 => ⟨Unit, [102], fun _ => [(102, .bool true)], fun _ _ => True⟩
  | 11 => ⟨Unit, [103], fun _ => [(103, .bool true)], fun _ _ => True⟩
  | 12 => ⟨Unit, [104], fun _ => [(104, .bool true)], fun _ _ => True⟩
  | 13 => ⟨Unit, [105], fun _ => [(105, .int .i64 7)], fun _ _ => True⟩
  | 14 => ⟨Unit, [106], fun _ => [(106, .bool true)], fun _ _ => True⟩
  | 15 => ⟨Unit, [107], fun _ => [(107, .bool true)], fun _ _ => True⟩
  | 16 => ⟨Unit, [108], fun _ => [(108, .bool true)], fun _ _ => True⟩
  | 17 => ⟨Unit, [109], fun _ => [(109, .int .i64 2)], fun _ _ => True⟩
  | 18 => ⟨Unit, [110], fun _ => [(110, .bool true)], fun _ _ => True⟩
  | 19 => ⟨Unit, [111], fun _ => [(111, .bool true)], fun _ _ => True⟩
  | 20 => ⟨Unit, [112], fun _ => [(112, .bool true)], fun _ _ => True⟩
  | 21 => ⟨Unit, [113], fun _ => [(113, .int .i64 0)], fun _ _ => True⟩
  | 22 => ⟨Unit, [114], fun _ => [(114, .bool true)], fun _ _ => True⟩
  | 23 => ⟨Unit, [115], fun _ => [(115, .bool true)], fun _ _ => True⟩
  | 24 => ⟨Unit, [116], fun _ => [(116, .bool true)], fun _ _ => True⟩
  | 25 => ⟨Unit, [117], fun _ => [(117, .int .i64 1)], fun _ _ => True⟩
  | 26 => ⟨Unit, [118], fun _ => [(118, .bool true)], fun _ _ => True⟩
  | 27 => ⟨Unit, [119], fun _ => [(119, .bool true)], fun _ _ => True⟩
  | 28 => ⟨Unit, [120], fun _ => [(120, .bool true)], fun _ _ => True⟩
  | 29 => ⟨Unit, [121], fun _ => [(121, .int .i64 5)], fun _ _ => True⟩
  | 30 => ⟨Unit, [122], fun _ => [(122, .bool true)], fun _ _ => True⟩
  | 31 => ⟨Unit, [123], fun _ => [(123, .bool true)], fun _ _ => True⟩
  | 32 => ⟨Unit, [27], fun _ => [(27, .bool true)], fun _ _ => True⟩
  | _ => ⟨Unit, [], fun _ => [], fun _ _ => True⟩
theorem kn12_fb (A3 : Option Addr) (c3 : Nat) (B3 : Nat) (W : World) : slB kn12_l (fun j => (kn12_sp A3 c3 B3 W j).ss) = true := by kernel_rfl
set_option maxRecDepth 100000 in
set_option maxHeartbeats 2000000 in
theorem kn12 {Q : Exit → Act → World → Prop} {a0 : Act} {W : World} (A3 : Option Addr) (c3 : Nat) (B3 : Nat)  (z0 : a0.tmps.size = 178) (p3 : Sv a0 3 (.pointer (some ⟨B3, 0, none⟩))) (p4 : Sv a0 4 (.int .i64 1)) (p5 : Sv a0 5 (.int .i64 0)) (p7 : Sv a0 7 (.int .i64 7)) (p9 : Sv a0 9 (.int .i64 2)) (p10 : Sv a0 10 (.int .i64 1)) (p11 : Sv a0 11 (.int .i64 0)) (p14 : Sv a0 14 (.int .i64 5)) (hB3 : Bx W B3 24 #[.int .i64 3, .slice A3 1 c3]) (hgB3 : GI W A3 c3 [2])
    (fin : ∀ ac w, Fr a0 kn12_l ac → Below W.heap.size W w → (Sv ac 27 (.bool true)) → Q .normal ac w) : (Code.region 12 kn12_l.toArray true).wp Tryd.prog Q a0 W := by
  refine region_of (n := 33) (by kernel_rfl) (by kernel_rfl) (by kernel_rfl) (kn12_sp A3 c3 B3 W) (kn12_fb A3 c3 B3 W) (fun w => Below W.heap.size W w) (stpN 24 []) (bel0 W) ?_ ?_ ?_
  · intro i hi ac w hF hI hk
    have z := hF.1.trans z0
    have f3 := hF.sv (s := 3) (by kernel_rfl) p3
    have f4 := hF.sv (s := 4) (by kernel_rfl) p4
    have f5 := hF.sv (s := 5) (by kernel_rfl) p5
    have f7 := hF.sv (s := 7) (by kernel_rfl) p7
    have f9 := hF.sv (s := 9) (by kernel_rfl) p9
    have f10 := hF.sv (s := 10) (by kernel_rfl) p10
    have f11 := hF.sv (s := 11) (by kernel_rfl) p11
    have f14 := hF.sv (s := 14) (by kernel_rfl) p14
    match i, hi with
    | 0, _ =>
      exact ob_val (v := .int .i64 0) kn12_o0 (.inl rfl) (ev_move f5.eval) ⟨⟨_, rfl⟩, hI, Below.refl _ _, ⟨(), rfl, sv1 (Sv.dst (by kernel_rfl) (by rw [z]; decide) _), trivial⟩⟩
    | 1, _ =>
      obtain ⟨⟨⟩, -, hs0, hw0⟩ := hk 0 (mem_reach (by kernel_rfl))
      have f92 : Sv ac 92 (.int .i64 0) := hs0 _ (List.Mem.head _)
      exact ob_val (v := .bool true) kn12_o1 (.inl rfl) (fun o ho => by have e0 := f92.eval; have e1 : ac.eval (.const (.int .i64 0)) = .int .i64 0 := rfl; generalize ac.eval = ρ at *; simp [execOp, ho, e0, e1, go_sem]) ⟨⟨_, rfl⟩, hI, Below.refl _ _, ⟨(), rfl, sv1 (Sv.dst (by kernel_rfl) (by rw [z]; decide) _), trivial⟩⟩
    | 2, _ =>
      obtain ⟨⟨⟩, -, hs1, hw1⟩ := hk 1 (mem_reach (by kernel_rfl))
      have f93 : Sv ac 93 (.bool true) := hs1 _ (List.Mem.head _)
      exact ob_val (v := .bool true) kn12_o2 (.inl rfl) (ev_move f93.eval) ⟨⟨_, rfl⟩, hI, Below.refl _ _, ⟨(), rfl, sv1 (Sv.dst (by kernel_rfl) (by rw [z]; decide) _), trivial⟩⟩
    | 3, _ =>
      obtain ⟨⟨⟩, -, hs2, hw2⟩ := hk 2 (mem_reach (by kernel_rfl))
      have f94 : Sv ac 94 (.bool true) := hs2 _ (List.Mem.head _)
      exact ob_val (v := .int .i64 1) kn12_o3 (.inr ⟨2, true, 94, rfl, by kernel_rfl, f94⟩) (ev_move f4.eval) ⟨⟨_, rfl⟩, hI, Below.refl _ _, ⟨(), rfl, sv1 (Sv.dst (by kernel_rfl) (by rw [z]; decide) _), trivial⟩⟩
    | 4, _ =>
      obtain ⟨⟨⟩, -, hs3, hw3⟩ := hk 3 (mem_reach (by kernel_rfl))
      have f95 : Sv ac 95 (.int .i64 1) := hs3 _ (List.Mem.head _)
      obtain ⟨⟨⟩, -, hs2, hw2⟩ := hk 2 (mem_reach (by kernel_rfl))
      have f94 : Sv ac 94 (.bool true) := hs2 _ (List.Mem.head _)
      exact ob_val (v := .bool true) kn12_o4 (.inr ⟨2, true, 94, rfl, by kernel_rfl, f94⟩) (fun o ho => by have e0 := f95.eval; have e1 : ac.eval (.const (.int .i64 1)) = .int .i64 1 := rfl; generalize ac.eval = ρ at *; simp [execOp, ho, e0, e1, go_sem]) ⟨⟨_, rfl⟩, hI, Below.refl _ _, ⟨(), rfl, sv1 (Sv.dst (by kernel_rfl) (by rw [z]; decide) _), trivial⟩⟩
    | 5, _ =>
      obtain ⟨⟨⟩, -, hs2, hw2⟩ := hk 2 (mem_reach (by kernel_rfl))
      have f94 : Sv ac 94 (.bool true) := hs2 _ (List.Mem.head _)
      obtain ⟨⟨⟩, -, hs4, hw4⟩ := hk 4 (mem_reach (by kernel_rfl))
      have f96 : Sv ac 96 (.bool true) := hs4 _ (List.Mem.head _)
      exact ob_val (v := .bool true) kn12_o5 (.inl rfl) (fun o ho => ev_pickT f94.eval f96.eval o ho) ⟨⟨_, rfl⟩, hI, Below.refl _ _, ⟨(), rfl, sv1 (Sv.dst (by kernel_rfl) (by rw [z]; decide) _), trivial⟩⟩
    | 6, _ =>
      obtain ⟨⟨⟩, -, hs5, hw5⟩ := hk 5 (mem_reach (by kernel_rfl))
      have f97 : Sv ac 97 (.bool true) := hs5 _ (List.Mem.head _)
      exact ob_val (v := .bool true) kn12_o6 (.inl rfl) (ev_move f97.eval) ⟨⟨_, rfl⟩, hI, Below.refl _ _, ⟨(), rfl, sv1 (Sv.dst (by kernel_rfl) (by rw [z]; decide) _), trivial⟩⟩
    | 7, _ =>
      obtain ⟨⟨⟩, -, hs6, hw6⟩ := hk 6 (mem_reach (by kernel_rfl))
      have f98 : Sv ac 98 (.bool true) := hs6 _ (List.Mem.head _)
      exact ob_val (v := .agg #[.int .i64 3, .slice A3 1 c3]) kn12_o7 (.inr ⟨6, true, 98, rfl, by kernel_rfl, f98⟩) (ev_row f3.eval (hB3.below hI) Tryd.underlying24 rfl (n := 2) (by kernel_rfl) rfl) ⟨⟨_, rfl⟩, hI, Below.refl _ _, ⟨(), rfl, sv1 (Sv.dst (by kernel_rfl) (by rw [z]; decide) _), trivial⟩⟩
    | 8, _ =>
      obtain ⟨⟨⟩, -, hs6, hw6⟩ := hk 6 (mem_reach (by kernel_rfl))
      have f98 : Sv ac 98 (.bool true) := hs6 _ (List.Mem.head _)
      refine ob_val (v := .slice (some ⟨w.heap.size, 0, none⟩) 1 1) (w' := w.alloc (.cells #[.int .i64 2] 3)) kn12_o8 (.inr ⟨6, true, 98, rfl, by kernel_rfl, f98⟩) (fun o ho => by simp [execOp, ho, go_sem]) ⟨⟨_, rfl⟩, below_step hI (al _ _), al _ _, ?_⟩
      exact ⟨w.heap.size, rfl, sv1 (Sv.dst (by kernel_rfl) (by rw [z]; decide) _), gi_bx (xs := [2]) (Bx.new w _ _) rfl (by simp [maxLen])⟩
    | 9, _ =>
      obtain ⟨Gn, -, hs8, hw8⟩ := hk 8 (mem_reach (by kernel_rfl))
      have f100 : Sv ac 100 (.slice (some ⟨Gn, 0, none⟩) 1 1) := hs8 _ (List.Mem.head _)
      obtain ⟨⟨⟩, -, hs6, hw6⟩ := hk 6 (mem_reach (by kernel_rfl))
      have f98 : Sv ac 98 (.bool true) := hs6 _ (List.Mem.head _)
      refine ob_call (f := 29) (args := #[.slice (some ⟨Gn, 0, none⟩) 1 1]) (w' := w) (R := fun v w'' => ∃ Gn : Nat, v = .agg #[.int .i64 3, .slice (some ⟨Gn, 0, none⟩) 1 1] ∧ GI w'' (some ⟨Gn, 0, none⟩) 1 [2] ∧ Below w.heap.size w w'') kn12_o9 (.inr ⟨6, true, 98, rfl, by kernel_rfl, f98⟩) (fun o ho => ?_) ((freeL_any (some ⟨Gn, 0, none⟩) 1 1 w).mono ?_) ?_
      · have e : execOp ac.eval o = (do let d ← resolve ac.eval { callee := .value (.func 29), args := #[(.tmp 100)], argTypes := #[22] } o.type; invoke d.target d.args) := by simp only [execOp, ho]
        have e100 := f100.eval
        have ef : ac.eval (.func 29) = .func (.func 29) #[] #[] := rfl
        rw [e]
        generalize ac.eval = ρ at *
        simp [ef, e100, go_sem]
      · rintro e w' ⟨rfl, hb⟩; exact ⟨_, rfl, Gn, rfl, hw8.below hb, hb⟩
      · rintro v w2 ⟨Gn, rfl, hwd, hb⟩
        exact ⟨⟨_, rfl⟩, below_step hI hb, hb, ⟨Gn, rfl, sv1 (Sv.dst (by kernel_rfl) (by rw [z]; decide) _), hwd⟩⟩
    | 10, _ =>
      obtain ⟨⟨⟩, -, hs7, hw7⟩ := hk 7 (mem_reach (by kernel_rfl))
      have f99 : Sv ac 99 (.agg #[.int .i64 3, .slice A3 1 c3]) := hs7 _ (List.Mem.head _)
      obtain ⟨Gn, -, hs9, hw9⟩ := hk 9 (mem_reach (by kernel_rfl))
      have f101 : Sv ac 101 (.agg #[.int .i64 3, .slice (some ⟨Gn, 0, none⟩) 1 1]) := hs9 _ (List.Mem.head _)
      obtain ⟨⟨⟩, -, hs6, hw6⟩ := hk 6 (mem_reach (by kernel_rfl))
      have f98 : Sv ac 98 (.bool true) := hs6 _ (List.Mem.head _)
      refine ob_call (f := 13) (args := #[.agg #[.int .i64 3, .slice A3 1 c3], .agg #[.int .i64 3, .slice (some ⟨Gn, 0, none⟩) 1 1]]) (w' := w) (R := fun v w'' => v = .bool true ∧ True ∧ Below w.heap.size w w'') kn12_o10 (.inr ⟨6, true, 98, rfl, by kernel_rfl, f98⟩) (fun o ho => ?_) ((SamePool_yes 3 A3 c3 [2] (some ⟨Gn, 0, none⟩) 1 w (hgB3.below hI) hw9).mono ?_) ?_
      · have e : execOp ac.eval o = (do let d ← resolve ac.eval { callee := .value (.func 13), args := #[(.tmp 99), (.tmp 101)], argTypes := #[24, 24] } o.type; invoke d.target d.args) := by simp only [execOp, ho]
        have e99 := f99.eval
        have e101 := f101.eval
        have ef : ac.eval (.func 13) = .func (.func 13) #[] #[] := rfl
        rw [e]
        generalize ac.eval = ρ at *
        simp [ef, e99, e101, go_sem]
      · rintro e w' ⟨rfl, hb⟩; exact ⟨_, rfl, rfl, trivial, hb⟩
      · rintro v w2 ⟨rfl, hwd, hb⟩
        exact ⟨⟨_, rfl⟩, below_step hI hb, hb, ⟨(), rfl, sv1 (Sv.dst (by kernel_rfl) (by rw [z]; decide) _), hwd⟩⟩
    | 11, _ =>
      obtain ⟨⟨⟩, -, hs6, hw6⟩ := hk 6 (mem_reach (by kernel_rfl))
      have f98 : Sv ac 98 (.bool true) := hs6 _ (List.Mem.head _)
      obtain ⟨⟨⟩, -, hs10, hw10⟩ := hk 10 (mem_reach (by kernel_rfl))
      have f102 : Sv ac 102 (.bool true) := hs10 _ (List.Mem.head _)
      exact ob_val (v := .bool true) kn12_o11 (.inl rfl) (fun o ho => ev_pickT f98.eval f102.eval o ho) ⟨⟨_, rfl⟩, hI, Below.refl _ _, ⟨(), rfl, sv1 (Sv.dst (by kernel_rfl) (by rw [z]; decide) _), trivial⟩⟩
    | 12, _ =>
      obtain ⟨⟨⟩, -, hs11, hw11⟩ := hk 11 (mem_reach (by kernel_rfl))
      have f103 : Sv ac 103 (.bool true) := hs11 _ (List.Mem.head _)
      exact ob_val (v := .bool true) kn12_o12 (.inl rfl) (ev_move f103.eval) ⟨⟨_, rfl⟩, hI, Below.refl _ _, ⟨(), rfl, sv1 (Sv.dst (by kernel_rfl) (by rw [z]; decide) _), trivial⟩⟩
    | 13, _ =>
      obtain ⟨⟨⟩, -, hs12, hw12⟩ := hk 12 (mem_reach (by kernel_rfl))
      have f104 : Sv ac 104 (.bool true) := hs12 _ (List.Mem.head _)
      exact ob_val (v := .int .i64 7) kn12_o13 (.inr ⟨12, true, 104, rfl, by kernel_rfl, f104⟩) (ev_move f7.eval) ⟨⟨_, rfl⟩, hI, Below.refl _ _, ⟨(), rfl, sv1 (Sv.dst (by kernel_rfl) (by rw [z]; decide) _), trivial⟩⟩
    | 14, _ =>
      obtain ⟨⟨⟩, -, hs13, hw13⟩ := hk 13 (mem_reach (by kernel_rfl))
      have f105 : Sv ac 105 (.int .i64 7) := hs13 _ (List.Mem.head _)
      obtain ⟨⟨⟩, -, hs12, hw12⟩ := hk 12 (mem_reach (by kernel_rfl))
      have f104 : Sv ac 104 (.bool true) := hs12 _ (List.Mem.head _)
      exact ob_val (v := .bool true) kn12_o14 (.inr ⟨12, true, 104, rfl, by kernel_rfl, f104⟩) (fun o ho => by have e0 := f105.eval; have e1 : ac.eval (.const (.int .i64 7)) = .int .i64 7 := rfl; generalize ac.eval = ρ at *; simp [execOp, ho, e0, e1, go_sem]) ⟨⟨_, rfl⟩, hI, Below.refl _ _, ⟨(), rfl, sv1 (Sv.dst (by kernel_rfl) (by rw [z]; decide) _), trivial⟩⟩
    | 15, _ =>
      obtain ⟨⟨⟩, -, hs12, hw12⟩ := hk 12 (mem_reach (by kernel_rfl))
      have f104 : Sv ac 104 (.bool true) := hs12 _ (List.Mem.head _)
      obtain ⟨⟨⟩, -, hs14, hw14⟩ := hk 14 (mem_reach (by kernel_rfl))
      have f106 : Sv ac 106 (.bool true) := hs14 _ (List.Mem.head _)
      exact ob_val (v := .bool true) kn12_o15 (.inl rfl) (fun o ho => ev_pickT f104.eval f106.eval o ho) ⟨⟨_, rfl⟩, hI, Below.refl _ _, ⟨(), rfl, sv1 (Sv.dst (by kernel_rfl) (by rw [z]; decide) _), trivial⟩⟩
    | 16, _ =>
      obtain ⟨⟨⟩, -, hs15, hw15⟩ := hk 15 (mem_reach (by kernel_rfl))
      have f107 : Sv ac 107 (.bool true) := hs15 _ (List.Mem.head _)
      exact ob_val (v := .bool true) kn12_o16 (.inl rfl) (ev_move f107.eval) ⟨⟨_, rfl⟩, hI, Below.refl _ _, ⟨(), rfl, sv1 (Sv.dst (by kernel_rfl) (by rw [z]; decide) _), trivial⟩⟩
    | 17, _ =>
      obtain ⟨⟨⟩, -, hs16, hw16⟩ := hk 16 (mem_reach (by kernel_rfl))
      have f108 : Sv ac 108 (.bool true) := hs16 _ (List.Mem.head _)
      exact ob_val (v := .int .i64 2) kn12_o17 (.inr ⟨16, true, 108, rfl, by kernel_rfl, f108⟩) (ev_move f9.eval) ⟨⟨_, rfl⟩, hI, Below.refl _ _, ⟨(), rfl, sv1 (Sv.dst (by kernel_rfl) (by rw [z]; decide) _), trivial⟩⟩
    | 18, _ =>
      obtain ⟨⟨⟩, -, hs17, hw17⟩ := hk 17 (mem_reach (by kernel_rfl))
      have f109 : Sv ac 109 (.int .i64 2) := hs17 _ (List.Mem.head _)
      obtain ⟨⟨⟩, -, hs16, hw16⟩ := hk 16 (mem_reach (by kernel_rfl))
      have f108 : Sv ac 108 (.bool true) := hs16 _ (List.Mem.head _)
      exact ob_val (v := .bool true) kn12_o18 (.inr ⟨16, true, 108, rfl, by kernel_rfl, f108⟩) (fun o ho => by have e0 := f109.eval; have e1 : ac.eval (.const (.int .i64 2)) = .int .i64 2 := rfl; generalize ac.eval = ρ at *; simp [execOp, ho, e0, e1, go_sem]) ⟨⟨_, rfl⟩, hI, Below.refl _ _, ⟨(), rfl, sv1 (Sv.dst (by kernel_rfl) (by rw [z]; decide) _), trivial⟩⟩
    | 19, _ =>
      obtain ⟨⟨⟩, -, hs16, hw16⟩ := hk 16 (mem_reach (by kernel_rfl))
      have f108 : Sv ac 108 (.bool true) := hs16 _ (List.Mem.head _)
      obtain ⟨⟨⟩, -, hs18, hw18⟩ := hk 18 (mem_reach (by kernel_rfl))
      have f110 : Sv ac 110 (.bool true) := hs18 _ (List.Mem.head _)
      exact ob_val (v := .bool true) kn12_o19 (.inl rfl) (fun o ho => ev_pickT f108.eval f110.eval o ho) ⟨⟨_, rfl⟩, hI, Below.refl _ _, ⟨(), rfl, sv1 (Sv.dst (by kernel_rfl) (by rw [z]; decide) _), trivial⟩⟩
    | 20, _ =>
      obtain ⟨⟨⟩, -, hs19, hw19⟩ := hk 19 (mem_reach (by kernel_rfl))
      have f111 : Sv ac 111 (.bool true) := hs19 _ (List.Mem.head _)
      exact ob_val (v := .bool true) kn12_o20 (.inl rfl) (ev_move f111.eval) ⟨⟨_, rfl⟩, hI, Below.refl _ _, ⟨(), rfl, sv1 (Sv.dst (by kernel_rfl) (by rw [z]; decide) _), trivial⟩⟩
    | 21, _ =>
      obtain ⟨⟨⟩, -, hs20, hw20⟩ := hk 20 (mem_reach (by kernel_rfl))
      have f112 : Sv ac 112 (.bool true) := hs20 _ (List.Mem.head _)
      exact ob_val (v := .int .i64 0) kn12_o21 (.inr ⟨20, true, 112, rfl, by kernel_rfl, f112⟩) (ev_move f11.eval) ⟨⟨_, rfl⟩, hI, Below.refl _ _, ⟨(), rfl, sv1 (Sv.dst (by kernel_rfl) (by rw [z]; decide) _), trivial⟩⟩
    | 22, _ =>
      obtain ⟨⟨⟩, -, hs21, hw21⟩ := hk 21 (mem_reach (by kernel_rfl))
      have f113 : Sv ac 113 (.int .i64 0) := hs21 _ (List.Mem.head _)
      obtain ⟨⟨⟩, -, hs20, hw20⟩ := hk 20 (mem_reach (by kernel_rfl))
      have f112 : Sv ac 112 (.bool true) := hs20 _ (List.Mem.head _)
      exact ob_val (v := .bool true) kn12_o22 (.inr ⟨20, true, 112, rfl, by kernel_rfl, f112⟩) (fun o ho => by have e0 := f113.eval; have e1 : ac.eval (.const (.int .i64 0)) = .int .i64 0 := rfl; generalize ac.eval = ρ at *; simp [execOp, ho, e0, e1, go_sem]) ⟨⟨_, rfl⟩, hI, Below.refl _ _, ⟨(), rfl, sv1 (Sv.dst (by kernel_rfl) (by rw [z]; decide) _), trivial⟩⟩
    | 23, _ =>
      obtain ⟨⟨⟩, -, hs20, hw20⟩ := hk 20 (mem_reach (by kernel_rfl))
      have f112 : Sv ac 112 (.bool true) := hs20 _ (List.Mem.head _)
      obtain ⟨⟨⟩, -, hs22, hw22⟩ := hk 22 (mem_reach (by kernel_rfl))
      have f114 : Sv ac 114 (.bool true) := hs22 _ (List.Mem.head _)
      exact ob_val (v := .bool true) kn12_o23 (.inl rfl) (fun o ho => ev_pickT f112.eval f114.eval o ho) ⟨⟨_, rfl⟩, hI, Below.refl _ _, ⟨(), rfl, sv1 (Sv.dst (by kernel_rfl) (by rw [z]; decide) _), trivial⟩⟩
    | 24, _ =>
      obtain ⟨⟨⟩, -, hs23, hw23⟩ := hk 23 (mem_reach (by kernel_rfl))
      have f115 : Sv ac 115 (.bool true) := hs23 _ (List.Mem.head _)
      exact ob_val (v := .bool true) kn12_o24 (.inl rfl) (ev_move f115.eval) ⟨⟨_, rfl⟩, hI, Below.refl _ _, ⟨(), rfl, sv1 (Sv.dst (by kernel_rfl) (by rw [z]; decide) _), trivial⟩⟩
    | 25, _ =>
      obtain ⟨⟨⟩, -, hs24, hw24⟩ := hk 24 (mem_reach (by kernel_rfl))
      have f116 : Sv ac 116 (.bool true) := hs24 _ (List.Mem.head _)
      exact ob_val (v := .int .i64 1) kn12_o25 (.inr ⟨24, true, 116, rfl, by kernel_rfl, f116⟩) (ev_move f10.eval) ⟨⟨_, rfl⟩, hI, Below.refl _ _, ⟨(), rfl, sv1 (Sv.dst (by kernel_rfl) (by rw [z]; decide) _), trivial⟩⟩
    | 26, _ =>
      obtain ⟨⟨⟩, -, hs25, hw25⟩ := hk 25 (mem_reach (by kernel_rfl))
      have f117 : Sv ac 117 (.int .i64 1) := hs25 _ (List.Mem.head _)
      obtain ⟨⟨⟩, -, hs24, hw24⟩ := hk 24 (mem_reach (by kernel_rfl))
      have f116 : Sv ac 116 (.bool true) := hs24 _ (List.Mem.head _)
      exact ob_val (v := .bool true) kn12_o26 (.inr ⟨24, true, 116, rfl, by kernel_rfl, f116⟩) (fun o ho => by have e0 := f117.eval; have e1 : ac.eval (.const (.int .i64 1)) = .int .i64 1 := rfl; generalize ac.eval = ρ at *; simp [execOp, ho, e0, e1, go_sem]) ⟨⟨_, rfl⟩, hI, Below.refl _ _, ⟨(), rfl, sv1 (Sv.dst (by kernel_rfl) (by rw [z]; decide) _), trivial⟩⟩
    | 27, _ =>
      obtain ⟨⟨⟩, -, hs24, hw24⟩ := hk 24 (mem_reach (by kernel_rfl))
      have f116 : Sv ac 116 (.bool true) := hs24 _ (List.Mem.head _)
      obtain ⟨⟨⟩, -, hs26, hw26⟩ := hk 26 (mem_reach (by kernel_rfl))
      have f118 : Sv ac 118 (.bool true) := hs26 _ (List.Mem.head _)
      exact ob_val (v := .bool true) kn12_o27 (.inl rfl) (fun o ho => ev_pickT f116.eval f118.eval o ho) ⟨⟨_, rfl⟩, hI, Below.refl _ _, ⟨(), rfl, sv1 (Sv.dst (by kernel_rfl) (by rw [z]; decide) _), trivial⟩⟩
    | 28, _ =>
      obtain ⟨⟨⟩, -, hs27, hw27⟩ := hk 27 (mem_reach (by kernel_rfl))
      have f119 : Sv ac 119 (.bool true) := hs27 _ (List.Mem.head _)
      exact ob_val (v := .bool true) kn12_o28 (.inl rfl) (ev_move f119.eval) ⟨⟨_, rfl⟩, hI, Below.refl _ _, ⟨(), rfl, sv1 (Sv.dst (by kernel_rfl) (by rw [z]; decide) _), trivial⟩⟩
    | 29, _ =>
      obtain ⟨⟨⟩, -, hs28, hw28⟩ := hk 28 (mem_reach (by kernel_rfl))
      have f120 : Sv ac 120 (.bool true) := hs28 _ (List.Mem.head _)
      exact ob_val (v := .int .i64 5) kn12_o29 (.inr ⟨28, true, 120, rfl, by kernel_rfl, f120⟩) (ev_move f14.eval) ⟨⟨_, rfl⟩, hI, Below.refl _ _, ⟨(), rfl, sv1 (Sv.dst (by kernel_rfl) (by rw [z]; decide) _), trivial⟩⟩
    | 30, _ =>
      obtain ⟨⟨⟩, -, hs29, hw29⟩ := hk 29 (mem_reach (by kernel_rfl))
      have f121 : Sv ac 121 (.int .i64 5) := hs29 _ (List.Mem.head _)
      obtain ⟨⟨⟩, -, hs28, hw28⟩ := hk 28 (mem_reach (by kernel_rfl))
      have f120 : Sv ac 120 (.bool true) := hs28 _ (List.Mem.head _)
      exact ob_val (v := .bool true) kn12_o30 (.inr ⟨28, true, 120, rfl, by kernel_rfl, f120⟩) (fun o ho => by have e0 := f121.eval; have e1 : ac.eval (.const (.int .i64 5)) = .int .i64 5 := rfl; generalize ac.eval = ρ at *; simp [execOp, ho, e0, e1, go_sem]) ⟨⟨_, rfl⟩, hI, Below.refl _ _, ⟨(), rfl, sv1 (Sv.dst (by kernel_rfl) (by rw [z]; decide) _), trivial⟩⟩
    | 31, _ =>
      obtain ⟨⟨⟩, -, hs28, hw28⟩ := hk 28 (mem_reach (by kernel_rfl))
      have f120 : Sv ac 120 (.bool true) := hs28 _ (List.Mem.head _)
      obtain ⟨⟨⟩, -, hs30, hw30⟩ := hk 30 (mem_reach (by kernel_rfl))
      have f122 : Sv ac 122 (.bool true) := hs30 _ (List.Mem.head _)
      exact ob_val (v := .bool true) kn12_o31 (.inl rfl) (fun o ho => ev_pickT f120.eval f122.eval o ho) ⟨⟨_, rfl⟩, hI, Below.refl _ _, ⟨(), rfl, sv1 (Sv.dst (by kernel_rfl) (by rw [z]; decide) _), trivial⟩⟩
    | 32, _ =>
      obtain ⟨⟨⟩, -, hs31, hw31⟩ := hk 31 (mem_reach (by kernel_rfl))
      have f123 : Sv ac 123 (.bool true) := hs31 _ (List.Mem.head _)
      exact ob_val (v := .bool true) kn12_o32 (.inl rfl) (ev_assign f123.eval) ⟨⟨_, rfl⟩, hI, Below.refl _ _, ⟨(), rfl, sv1 (Sv.dst (by kernel_rfl) (by rw [z]; decide) _), trivial⟩⟩
    | k + 33, h => exact absurd h (by omega)
  · intro i j hi hj hij x w w' hI hst hw
    match j, hj, x, hw with
    | 0, _, _, _ => exact trivial
    | 1, _, _, _ => exact trivial
    | 2, _, _, _ => exact trivial
    | 3, _, _, _ => exact trivial
    | 4, _, _, _ => exact trivial
    | 5, _, _, _ => exact trivial
    | 6, _, _, _ => exact trivial
    | 7, _, _, _ => exact trivial
    | 8, _, Gn, hw => exact hw.below (hst.low (by simp))
    | 9, _, Gn, hw => exact hw.below (hst.low (by simp))
    | 10, _, _, _ => exact trivial
    | 11, _, _, _ => exact trivial
    | 12, _, _, _ => exact trivial
    | 13, _, _, _ => exact trivial
    | 14, _, _, _ => exact trivial
    | 15, _, _, _ => exact trivial
    | 16, _, _, _ => exact trivial
    | 17, _, _, _ => exact trivial
    | 18, _, _, _ => exact trivial
    | 19, _, _, _ => exact trivial
    | 20, _, _, _ => exact trivial
    | 21, _, _, _ => exact trivial
    | 22, _, _, _ => exact trivial
    | 23, _, _, _ => exact trivial
    | 24, _, _, _ => exact trivial
    | 25, _, _, _ => exact trivial
    | 26, _, _, _ => exact trivial
    | 27, _, _, _ => exact trivial
    | 28, _, _, _ => exact trivial
    | 29, _, _, _ => exact trivial
    | 30, _, _, _ => exact trivial
    | 31, _, _, _ => exact trivial
    | 32, _, _, _ => exact trivial
    | k + 33, h, _, _ => exact absurd h (by omega)
  · intro ac w hF hI hall
    obtain ⟨⟨⟩, -, hs32, hw32⟩ := hall 32 (by omega)
    have g32 : (Sv ac 27 (.bool true)) := hs32 _ (List.Mem.head _)
    exact fin ac w hF hI g32

set_option maxRecDepth 100000 in
set_option maxHeartbeats 8000000 in
theorem PoolKnown_walk (w : World) (hL : Laid w) (h0 : 0 < w.heap.size) : Calls Tryd.prog 6 #[] w (RetB w (.returned (.bool true))) := by
  have hw := Below.refl w.heap.size w
  go_enter Tryd.func6, Tryd.ntmps6
  go_wp2_with fail
  refine (show Calls Tryd.prog 11 #[.int .i64 33] _ (fun e w' => e = .returned (.tuple #[.int .i64 0, .int .i64 2]) ∧ _ = w') from Frames_any 33 _).mono ?_
  rintro e v1 ⟨rfl, rfl⟩
  have hx := gi_bx (xs := [1, 2]) (Bx.new w 3 #[.int .i64 1, .int .i64 2]) rfl (by simp [maxLen])
  replace hL := hL.below (al w (.cells #[.int .i64 1, .int .i64 2] 3)) h0
  replace h0 : 0 < (w.alloc (.cells #[.int .i64 1, .int .i64 2] 3)).heap.size := by rw [World.size_alloc]; omega
  replace hw := below_step hw (al _ (.cells #[.int .i64 1, .int .i64 2] 3))
  go_wp2_with fail
  refine (freeL_any (some ⟨w.heap.size, 0, none⟩) 2 2 _).mono ?_
  rintro e v2 ⟨rfl, hb⟩
  replace hx := hx.below hb
  replace hL := hL.below hb h0
  replace h0 : 0 < v2.heap.size := Nat.lt_of_lt_of_le h0 hb.size
  replace hw := below_step hw hb
  clear hb
  go_wp2_with fail
  refine (show Calls Tryd.prog 18 #[.agg #[.int .i64 3, .slice (some ⟨w.heap.size, 0, none⟩) 2 2]] _ (RetP3 _ 3 [2] 1 0) from Take_ok 3 (some ⟨w.heap.size, 0, none⟩) 2 1 [2] _ hx (chkP_ok (by decide))).mono ?_
  rintro e v3 ⟨A3, c3, rfl, ho, hb⟩
  replace hx := hx.below hb
  replace hL := hL.below hb h0
  replace h0 : 0 < v3.heap.size := Nat.lt_of_lt_of_le h0 hb.size
  replace hw := below_step hw hb
  clear hb
  clear hx
  have hg3 := OwnI.gi ho
  clear ho
  have hn := Bx.new v3 24 #[.int .i64 0, .slice none 0 0]
  replace hg3 := hg3.alloc (.cells #[.int .i64 3, .slice A3 1 c3] 24)
  replace hL := hL.below (al v3 (.cells #[.int .i64 3, .slice A3 1 c3] 24)) h0
  replace h0 : 0 < (v3.alloc (.cells #[.int .i64 3, .slice A3 1 c3] 24)).heap.size := by rw [World.size_alloc]; omega
  replace hw := below_step hw (al _ (.cells #[.int .i64 3, .slice A3 1 c3] 24))
  have hB3 := Bx.new v3 24 #[.int .i64 3, .slice A3 1 c3]
  have hx := gi_bx (xs := [2]) (Bx.new (v3.alloc (.cells #[.int .i64 3, .slice A3 1 c3] 24)) 3 #[.int .i64 2]) rfl (by simp [maxLen])
  replace hg3 := hg3.alloc (.cells #[.int .i64 2] 3)
  replace hB3 := hB3.alloc (.cells #[.int .i64 2] 3)
  replace hL := hL.below (al (v3.alloc (.cells #[.int .i64 3, .slice A3 1 c3] 24)) (.cells #[.int .i64 2] 3)) h0
  replace h0 : 0 < ((v3.alloc (.cells #[.int .i64 3, .slice A3 1 c3] 24)).alloc (.cells #[.int .i64 2] 3)).heap.size := by rw [World.size_alloc]; omega
  replace hw := below_step hw (al _ (.cells #[.int .i64 2] 3))
  rw [World.size_alloc] at hx
  go_wp2_with (first | (refine wpList_store_row rfl 24 _ _ rfl v3.heap.size _ rfl rfl 24 _ hn pool_size rfl (pv_one _ _ _ _) ?_; rw [World.setRow_alloc_new]; simp only [Act.put]))
  refine (freeL_any (some ⟨v3.heap.size + 1, 0, none⟩) 1 1 _).mono ?_
  rintro e v4 ⟨rfl, hb⟩
  replace hg3 := hg3.below hb
  replace hB3 := hB3.below hb
  replace hx := hx.below hb
  replace hL := hL.below hb h0
  replace h0 : 0 < v4.heap.size := Nat.lt_of_lt_of_le h0 hb.size
  replace hw := below_step hw hb
  clear hb
  clear hn
  generalize v3.heap.size = B3 at *
  go_wp2_with fail
  refine (show Calls Tryd.prog 20 #[.agg #[.int .i64 3, .slice (some ⟨B3 + 1, 0, none⟩) 1 1], .int .i64 2] _ (RetP _ 0 [] 7) from Give_bad 3 (some ⟨B3 + 1, 0, none⟩) 1 [2] 2 _ hx (by decide)).mono ?_
  rintro e v5 ⟨A6, c6, rfl, ho, hb⟩
  replace hg3 := hg3.below hb
  replace hB3 := hB3.below hb
  replace hx := hx.below hb
  replace hL := hL.below hb h0
  replace h0 : 0 < v5.heap.size := Nat.lt_of_lt_of_le h0 hb.size
  replace hw := below_step hw hb
  clear hb
  clear hx
  clear ho
  have hn := Bx.new v5 24 #[.int .i64 0, .slice none 0 0]
  replace hg3 := hg3.alloc (.cells #[.int .i64 0, .slice A6 0 c6] 24)
  replace hB3 := hB3.alloc (.cells #[.int .i64 0, .slice A6 0 c6] 24)
  replace hL := hL.below (al v5 (.cells #[.int .i64 0, .slice A6 0 c6] 24)) h0
  replace h0 : 0 < (v5.alloc (.cells #[.int .i64 0, .slice A6 0 c6] 24)).heap.size := by rw [World.size_alloc]; omega
  replace hw := below_step hw (al _ (.cells #[.int .i64 0, .slice A6 0 c6] 24))
  have hx := gi_bx (xs := [2]) (Bx.new (v5.alloc (.cells #[.int .i64 0, .slice A6 0 c6] 24)) 3 #[.int .i64 2]) rfl (by simp [maxLen])
  replace hg3 := hg3.alloc (.cells #[.int .i64 2] 3)
  replace hB3 := hB3.alloc (.cells #[.int .i64 2] 3)
  replace hL := hL.below (al (v5.alloc (.cells #[.int .i64 0, .slice A6 0 c6] 24)) (.cells #[.int .i64 2] 3)) h0
  replace h0 : 0 < ((v5.alloc (.cells #[.int .i64 0, .slice A6 0 c6] 24)).alloc (.cells #[.int .i64 2] 3)).heap.size := by rw [World.size_alloc]; omega
  replace hw := below_step hw (al _ (.cells #[.int .i64 2] 3))
  rw [World.size_alloc] at hx
  go_wp2_with (first | (refine wpList_store_row rfl 24 _ _ rfl v5.heap.size _ rfl rfl 24 _ hn pool_size rfl (pv_one _ _ _ _) ?_; rw [World.setRow_alloc_new]; simp only [Act.put]))
  refine (freeL_any (some ⟨v5.heap.size + 1, 0, none⟩) 1 1 _).mono ?_
  rintro e v6 ⟨rfl, hb⟩
  replace hg3 := hg3.below hb
  replace hB3 := hB3.below hb
  replace hx := hx.below hb
  replace hL := hL.below hb h0
  replace h0 : 0 < v6.heap.size := Nat.lt_of_lt_of_le h0 hb.size
  replace hw := below_step hw hb
  clear hb
  clear hn
  generalize v5.heap.size = B6 at *
  go_wp2_with fail
  refine (show Calls Tryd.prog 20 #[.agg #[.int .i64 3, .slice (some ⟨B6 + 1, 0, none⟩) 1 1], .int .i64 3] _ (RetP _ 0 [] 2) from Give_bad 3 (some ⟨B6 + 1, 0, none⟩) 1 [2] 3 _ hx (by decide)).mono ?_
  rintro e v7 ⟨A8, c8, rfl, ho, hb⟩
  replace hg3 := hg3.below hb
  replace hB3 := hB3.below hb
  replace hx := hx.below hb
  replace hL := hL.below hb h0
  replace h0 : 0 < v7.heap.size := Nat.lt_of_lt_of_le h0 hb.size
  replace hw := below_step hw hb
  clear hb
  clear hx
  clear ho
  have hn := Bx.new v7 24 #[.int .i64 0, .slice none 0 0]
  replace hg3 := hg3.alloc (.cells #[.int .i64 0, .slice A8 0 c8] 24)
  replace hB3 := hB3.alloc (.cells #[.int .i64 0, .slice A8 0 c8] 24)
  replace hL := hL.below (al v7 (.cells #[.int .i64 0, .slice A8 0 c8] 24)) h0
  replace h0 : 0 < (v7.alloc (.cells #[.int .i64 0, .slice A8 0 c8] 24)).heap.size := by rw [World.size_alloc]; omega
  replace hw := below_step hw (al _ (.cells #[.int .i64 0, .slice A8 0 c8] 24))
  have hx := gi_bx (xs := [2]) (Bx.new (v7.alloc (.cells #[.int .i64 0, .slice A8 0 c8] 24)) 3 #[.int .i64 2]) rfl (by simp [maxLen])
  replace hg3 := hg3.alloc (.cells #[.int .i64 2] 3)
  replace hB3 := hB3.alloc (.cells #[.int .i64 2] 3)
  replace hL := hL.below (al (v7.alloc (.cells #[.int .i64 0, .slice A8 0 c8] 24)) (.cells #[.int .i64 2] 3)) h0
  replace h0 : 0 < ((v7.alloc (.cells #[.int .i64 0, .slice A8 0 c8] 24)).alloc (.cells #[.int .i64 2] 3)).heap.size := by rw [World.size_alloc]; omega
  replace hw := below_step hw (al _ (.cells #[.int .i64 2] 3))
  rw [World.size_alloc] at hx
  go_wp2_with (first | (refine wpList_store_row rfl 24 _ _ rfl v7.heap.size _ rfl rfl 24 _ hn pool_size rfl (pv_one _ _ _ _) ?_; rw [World.setRow_alloc_new]; simp only [Act.put]))
  refine (freeL_any (some ⟨v7.heap.size + 1, 0, none⟩) 1 1 _).mono ?_
  rintro e v8 ⟨rfl, hb⟩
  replace hg3 := hg3.below hb
  replace hB3 := hB3.below hb
  replace hx := hx.below hb
  replace hL := hL.below hb h0
  replace h0 : 0 < v8.heap.size := Nat.lt_of_lt_of_le h0 hb.size
  replace hw := below_step hw hb
  clear hb
  clear hn
  generalize v7.heap.size = B8 at *
  go_wp2_with fail
  refine (show Calls Tryd.prog 22 #[.agg #[.int .i64 3, .slice (some ⟨B8 + 1, 0, none⟩) 1 1]] _ (RetB _ (.returned (.tuple #[.int .i64 1, .int .i64 0]))) from Left_any 3 (some ⟨B8 + 1, 0, none⟩) 1 [2] _ hx).mono ?_
  rintro e v9 ⟨rfl, hb⟩
  replace hg3 := hg3.below hb
  replace hB3 := hB3.below hb
  replace hx := hx.below hb
  replace hL := hL.below hb h0
  replace h0 : 0 < v9.heap.size := Nat.lt_of_lt_of_le h0 hb.size
  replace hw := below_step hw hb
  clear hb
  clear hx
  go_wp2_with fail
  refine (freeL_any none 0 0 _).mono ?_
  rintro e v10 ⟨rfl, hb⟩
  replace hg3 := hg3.below hb
  replace hB3 := hB3.below hb
  replace hL := hL.below hb h0
  replace h0 : 0 < v10.heap.size := Nat.lt_of_lt_of_le h0 hb.size
  replace hw := below_step hw hb
  clear hb
  go_wp2_with fail
  refine (show Calls Tryd.prog 18 #[.agg #[.int .i64 3, .slice none 0 0]] _ (RetP3 _ 0 [] 0 5) from Take_bad 3 none 0 [] _ (GI.nil _) (by decide)).mono ?_
  rintro e v11 ⟨A12, c12, rfl, ho, hb⟩
  replace hg3 := hg3.below hb
  replace hB3 := hB3.below hb
  replace hL := hL.below hb h0
  replace h0 : 0 < v11.heap.size := Nat.lt_of_lt_of_le h0 hb.size
  replace hw := below_step hw hb
  clear hb
  clear ho
  have hn := Bx.new v11 24 #[.int .i64 0, .slice none 0 0]
  replace hg3 := hg3.alloc (.cells #[.int .i64 0, .slice A12 0 c12] 24)
  replace hB3 := hB3.alloc (.cells #[.int .i64 0, .slice A12 0 c12] 24)
  replace hL := hL.below (al v11 (.cells #[.int .i64 0, .slice A12 0 c12] 24)) h0
  replace h0 : 0 < (v11.alloc (.cells #[.int .i64 0, .slice A12 0 c12] 24)).heap.size := by rw [World.size_alloc]; omega
  replace hw := below_step hw (al _ (.cells #[.int .i64 0, .slice A12 0 c12] 24))
  go_wp2_with (first | (refine wpList_store_row rfl 24 _ _ rfl v11.heap.size _ rfl rfl 24 _ hn pool_size rfl (pv_one _ _ _ _) ?_; rw [World.setRow_alloc_new]; simp only [Act.put]))
  refine (show Calls Tryd.prog 9 #[.int .i64 9] _ (RetP _ 9 [0, 1, 2, 3, 4, 5, 6, 7, 8] 0) from New_any 9 _).mono ?_
  rintro e v12 ⟨A15, c15, rfl, ho, hb⟩
  replace hg3 := hg3.below hb
  replace hB3 := hB3.below hb
  replace hL := hL.below hb h0
  replace h0 : 0 < v12.heap.size := Nat.lt_of_lt_of_le h0 hb.size
  replace hw := below_step hw hb
  clear hb
  clear hn
  generalize v11.heap.size = B12 at *
  have hg15 := OwnI.gi ho
  clear ho
  have hn := Bx.new v12 24 #[.int .i64 0, .slice none 0 0]
  replace hg3 := hg3.alloc (.cells #[.int .i64 9, .slice A15 9 c15] 24)
  replace hB3 := hB3.alloc (.cells #[.int .i64 9, .slice A15 9 c15] 24)
  replace hg15 := hg15.alloc (.cells #[.int .i64 9, .slice A15 9 c15] 24)
  replace hL := hL.below (al v12 (.cells #[.int .i64 9, .slice A15 9 c15] 24)) h0
  replace h0 : 0 < (v12.alloc (.cells #[.int .i64 9, .slice A15 9 c15] 24)).heap.size := by rw [World.size_alloc]; omega
  replace hw := below_step hw (al _ (.cells #[.int .i64 9, .slice A15 9 c15] 24))
  have hB15 := Bx.new v12 24 #[.int .i64 9, .slice A15 9 c15]
  go_wp2_with (first | (refine wpList_store_row rfl 24 _ _ rfl v12.heap.size _ rfl rfl 24 _ hn pool_size rfl (pv_one _ _ _ _) ?_; rw [World.setRow_alloc_new]; simp only [Act.put]) | (refine wpList_load_row rfl 24 _ rfl (v12.heap.size) rfl 24 _ _ _ hB15 Tryd.underlying24 rfl pool_size ?_))
  refine (show Calls Tryd.prog 26 #[.agg #[.int .i64 9, .slice A15 9 c15], .int .i64 8] _ (RetB _ (.returned (.tuple #[.int .i64 1, .int .i64 0, .int .i64 0]))) from Home_ok 9 A15 c15 [0, 1, 2, 3, 4, 5, 6, 7, 8] 8 _ hg15 (chkP_ok (by decide)) (by decide)).mono ?_
  rintro e v13 ⟨rfl, hb⟩
  replace hg3 := hg3.below hb
  replace hB3 := hB3.below hb
  replace hg15 := hg15.below hb
  replace hB15 := hB15.below hb
  replace hL := hL.below hb h0
  replace h0 : 0 < v13.heap.size := Nat.lt_of_lt_of_le h0 hb.size
  replace hw := below_step hw hb
  clear hb
  clear hn
  generalize v12.heap.size = B15 at *
  go_wp2_with (first | (refine wpList_load_row rfl 24 _ rfl (B15) rfl 24 _ _ _ hB15 Tryd.underlying24 rfl pool_size ?_))
  refine (show Calls Tryd.prog 26 #[.agg #[.int .i64 9, .slice A15 9 c15], .int .i64 9] _ (RetB _ (.returned (.tuple #[.int .i64 0, .int .i64 0, .int .i64 2]))) from Home_bad 9 A15 c15 [0, 1, 2, 3, 4, 5, 6, 7, 8] 9 _ hg15 (by decide)).mono ?_
  rintro e v14 ⟨rfl, hb⟩
  replace hg3 := hg3.below hb
  replace hB3 := hB3.below hb
  replace hg15 := hg15.below hb
  replace hB15 := hB15.below hb
  replace hL := hL.below hb h0
  replace h0 : 0 < v14.heap.size := Nat.lt_of_lt_of_le h0 hb.size
  replace hw := below_step hw hb
  clear hb
  clear hB15 hg15
  have hx := gi_bx (xs := [2, 1]) (Bx.new v14 3 #[.int .i64 2, .int .i64 1]) rfl (by simp [maxLen])
  replace hg3 := hg3.alloc (.cells #[.int .i64 2, .int .i64 1] 3)
  replace hB3 := hB3.alloc (.cells #[.int .i64 2, .int .i64 1] 3)
  replace hL := hL.below (al v14 (.cells #[.int .i64 2, .int .i64 1] 3)) h0
  replace h0 : 0 < (v14.alloc (.cells #[.int .i64 2, .int .i64 1] 3)).heap.size := by rw [World.size_alloc]; omega
  replace hw := below_step hw (al _ (.cells #[.int .i64 2, .int .i64 1] 3))
  go_wp2_with fail
  refine (freeL_any (some ⟨v14.heap.size, 0, none⟩) 2 2 _).mono ?_
  rintro e v15 ⟨rfl, hb⟩
  replace hg3 := hg3.below hb
  replace hB3 := hB3.below hb
  replace hx := hx.below hb
  replace hL := hL.below hb h0
  replace h0 : 0 < v15.heap.size := Nat.lt_of_lt_of_le h0 hb.size
  replace hw := below_step hw hb
  clear hb
  go_wp2_with fail
  refine (show Calls Tryd.prog 16 #[.agg #[.int .i64 3, .slice (some ⟨v14.heap.size, 0, none⟩) 2 2]] _ (RetB _ (.returned (.tuple #[.int .i64 8, .int .i64 1]))) from Check_any 3 (some ⟨v14.heap.size, 0, none⟩) 2 [2, 1] _ hx).mono ?_
  rintro e v16 ⟨rfl, hb⟩
  replace hg3 := hg3.below hb
  replace hB3 := hB3.below hb
  replace hx := hx.below hb
  replace hL := hL.below hb h0
  replace h0 : 0 < v16.heap.size := Nat.lt_of_lt_of_le h0 hb.size
  replace hw := below_step hw hb
  clear hb
  clear hx
  have hx := gi_bx (xs := [3]) (Bx.new v16 3 #[.int .i64 3]) rfl (by simp [maxLen])
  replace hg3 := hg3.alloc (.cells #[.int .i64 3] 3)
  replace hB3 := hB3.alloc (.cells #[.int .i64 3] 3)
  replace hL := hL.below (al v16 (.cells #[.int .i64 3] 3)) h0
  replace h0 : 0 < (v16.alloc (.cells #[.int .i64 3] 3)).heap.size := by rw [World.size_alloc]; omega
  replace hw := below_step hw (al _ (.cells #[.int .i64 3] 3))
  go_wp2_with fail
  refine (freeL_any (some ⟨v16.heap.size, 0, none⟩) 1 1 _).mono ?_
  rintro e v17 ⟨rfl, hb⟩
  replace hg3 := hg3.below hb
  replace hB3 := hB3.below hb
  replace hx := hx.below hb
  replace hL := hL.below hb h0
  replace h0 : 0 < v17.heap.size := Nat.lt_of_lt_of_le h0 hb.size
  replace hw := below_step hw hb
  clear hb
  go_wp2_with fail
  refine (show Calls Tryd.prog 16 #[.agg #[.int .i64 3, .slice (some ⟨v16.heap.size, 0, none⟩) 1 1]] _ (RetB _ (.returned (.tuple #[.int .i64 2, .int .i64 0]))) from Check_any 3 (some ⟨v16.heap.size, 0, none⟩) 1 [3] _ hx).mono ?_
  rintro e v18 ⟨rfl, hb⟩
  replace hg3 := hg3.below hb
  replace hB3 := hB3.below hb
  replace hx := hx.below hb
  replace hL := hL.below hb h0
  replace h0 : 0 < v18.heap.size := Nat.lt_of_lt_of_le h0 hb.size
  replace hw := below_step hw hb
  clear hb
  clear hx
  go_upto_region 12 with fail
  rename_i K hK
  refine kn12 (W := v18) A3 c3 B3 rfl rfl rfl rfl rfl rfl rfl rfl rfl hB3 hg3 ?_
  rintro a' w9 hF hb f27
  refine hK _ _ ?_
  obtain ⟨fv, hfv, hfr⟩ := hF.lit [92, 93, 94, 95, 96, 97, 98, 99, 100, 101, 102, 103, 104, 105, 106, 107, 108, 109, 110, 111, 112, 113, 114, 115, 116, 117, 118, 119, 120, 121, 122, 123, 27] (dsts_in (by kernel_rfl))
  have ev27 := hfv 27 _ f27
  subst hfr
  simp only [List.foldl_cons, List.foldl_nil, Act.put, List.setIfInBounds_toArray, List.set_cons_zero, List.set_cons_succ, ev27]
  clear hfv hF ev27 f27
  generalize fv 92 = u92
  generalize fv 93 = u93
  generalize fv 94 = u94
  generalize fv 95 = u95
  generalize fv 96 = u96
  generalize fv 97 = u97
  generalize fv 98 = u98
  generalize fv 99 = u99
  generalize fv 100 = u100
  generalize fv 101 = u101
  generalize fv 102 = u102
  generalize fv 103 = u103
  generalize fv 104 = u104
  generalize fv 105 = u105
  generalize fv 106 = u106
  generalize fv 107 = u107
  generalize fv 108 = u108
  generalize fv 109 = u109
  generalize fv 110 = u110
  generalize fv 111 = u111
  generalize fv 112 = u112
  generalize fv 113 = u113
  generalize fv 114 = u114
  generalize fv 115 = u115
  generalize fv 116 = u116
  generalize fv 117 = u117
  generalize fv 118 = u118
  generalize fv 119 = u119
  generalize fv 120 = u120
  generalize fv 121 = u121
  generalize fv 122 = u122
  generalize fv 123 = u123
  clear fv
  clear hK K
  replace hL := hL.below hb h0
  replace h0 : 0 < w9.heap.size := Nat.lt_of_lt_of_le h0 hb.size
  replace hw := below_step hw hb
  clear hb hB3 hg3
  go_wp2_with fail
  refine (awake_any _ hL h0).mono ?_
  rintro e v19 ⟨rfl, hb⟩
  replace hL := hL.below hb h0
  replace h0 : 0 < v19.heap.size := Nat.lt_of_lt_of_le h0 hb.size
  replace hw := below_step hw hb
  clear hb
  go_wp2_with fail
  refine (frames_yes 1 1 _ rfl).mono ?_
  rintro e v20 ⟨rfl, rfl⟩
  go_wp2_with fail
  refine (frames_yes 8 1 _ rfl).mono ?_
  rintro e v21 ⟨rfl, rfl⟩
  go_wp2_with fail
  refine (frames_yes 32 4 _ rfl).mono ?_
  rintro e v22 ⟨rfl, rfl⟩
  go_wp2
  go_ret
  exact ⟨rfl, hw⟩
end Go.Proofs.YtoimmfcodflmkaaDoor
