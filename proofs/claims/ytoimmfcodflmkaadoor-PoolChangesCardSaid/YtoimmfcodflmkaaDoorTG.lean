/- The laws of pool: awake. -/
import Derived.Test.YtoimmfcodflmkaaDoorTF
namespace Go.Proofs.YtoimmfcodflmkaaDoor
open Go.RowKit
set_option linter.unusedVariables false

noncomputable def aw7_l : List Oper := (Tryd.f14.body.bind (regIn · 7)).getD []
theorem aw7_o0 : aw7_l[0]?.map (fun o => (o.dst, o.op, o.guard)) = some (some 46, .move (.tmp 2), none) := by kernel_rfl
theorem aw7_o1 : aw7_l[1]?.map (fun o => (o.dst, o.op, o.guard)) = some (some 47, .binOp .eql 25 (.tmp 46) (.const (.int .i64 0)) 25, none) := by kernel_rfl
theorem aw7_o2 : aw7_l[2]?.map (fun o => (o.dst, o.op, o.guard)) = some (some 48, .move (.tmp 47), none) := by kernel_rfl
theorem aw7_o3 : aw7_l[3]?.map (fun o => (o.dst, o.op, o.guard)) = some (some 49, .load 24 (.tmp 1), some (2, true)) := by kernel_rfl
theorem aw7_o4 : aw7_l[4]?.map (fun o => (o.dst, o.op, o.guard)) = some (some 50, .buildSlice 22 3 #[(0, .const (.int .i64 0)), (1, .const (.int .i64 1)), (2, .const (.int .i64 2))], some (2, true)) := by kernel_rfl
theorem aw7_o5 : aw7_l[5]?.map (fun o => (o.dst, o.op, o.guard)) = some (some 51, .call { callee := .value (.func 29), args := #[(.tmp 50)], argTypes := #[22] }, some (2, true)) := by kernel_rfl
theorem aw7_o6 : aw7_l[6]?.map (fun o => (o.dst, o.op, o.guard)) = some (some 52, .call { callee := .value (.func 13), args := #[(.tmp 49), (.tmp 51)], argTypes := #[24, 24] }, some (2, true)) := by kernel_rfl
theorem aw7_o7 : aw7_l[7]?.map (fun o => (o.dst, o.op, o.guard)) = some (some 53, .pick (.tmp 48) (.tmp 52) (.const (.bool false)), none) := by kernel_rfl
theorem aw7_o8 : aw7_l[8]?.map (fun o => (o.dst, o.op, o.guard)) = some (some 54, .move (.tmp 53), none) := by kernel_rfl
theorem aw7_o9 : aw7_l[9]?.map (fun o => (o.dst, o.op, o.guard)) = some (some 55, .move (.tmp 5), some (8, true)) := by kernel_rfl
theorem aw7_o10 : aw7_l[10]?.map (fun o => (o.dst, o.op, o.guard)) = some (some 56, .binOp .eql 25 (.tmp 55) (.const (.int .i64 0)) 25, some (8, true)) := by kernel_rfl
theorem aw7_o11 : aw7_l[11]?.map (fun o => (o.dst, o.op, o.guard)) = some (some 57, .pick (.tmp 54) (.tmp 56) (.const (.bool false)), none) := by kernel_rfl
theorem aw7_o12 : aw7_l[12]?.map (fun o => (o.dst, o.op, o.guard)) = some (some 58, .move (.tmp 57), none) := by kernel_rfl
theorem aw7_o13 : aw7_l[13]?.map (fun o => (o.dst, o.op, o.guard)) = some (some 59, .move (.tmp 4), some (12, true)) := by kernel_rfl
theorem aw7_o14 : aw7_l[14]?.map (fun o => (o.dst, o.op, o.guard)) = some (some 60, .binOp .eql 3 (.tmp 59) (.const (.int .i64 0)) 3, some (12, true)) := by kernel_rfl
theorem aw7_o15 : aw7_l[15]?.map (fun o => (o.dst, o.op, o.guard)) = some (some 61, .pick (.tmp 58) (.tmp 60) (.const (.bool false)), none) := by kernel_rfl
theorem aw7_o16 : aw7_l[16]?.map (fun o => (o.dst, o.op, o.guard)) = some (some 62, .move (.tmp 61), none) := by kernel_rfl
theorem aw7_o17 : aw7_l[17]?.map (fun o => (o.dst, o.op, o.guard)) = some (some 63, .load 24 (.tmp 3), some (16, true)) := by kernel_rfl
theorem aw7_o18 : aw7_l[18]?.map (fun o => (o.dst, o.op, o.guard)) = some (some 64, .buildSlice 22 2 #[(0, .const (.int .i64 1)), (1, .const (.int .i64 2))], some (16, true)) := by kernel_rfl
theorem aw7_o19 : aw7_l[19]?.map (fun o => (o.dst, o.op, o.guard)) = some (some 65, .call { callee := .value (.func 29), args := #[(.tmp 64)], argTypes := #[22] }, some (16, true)) := by kernel_rfl
theorem aw7_o20 : aw7_l[20]?.map (fun o => (o.dst, o.op, o.guard)) = some (some 66, .call { callee := .value (.func 13), args := #[(.tmp 63), (.tmp 65)], argTypes := #[24, 24] }, some (16, true)) := by kernel_rfl
theorem aw7_o21 : aw7_l[21]?.map (fun o => (o.dst, o.op, o.guard)) = some (some 67, .pick (.tmp 62) (.tmp 66) (.const (.bool false)), none) := by kernel_rfl
theorem aw7_o22 : aw7_l[22]?.map (fun o => (o.dst, o.op, o.guard)) = some (some 68, .move (.tmp 67), none) := by kernel_rfl
theorem aw7_o23 : aw7_l[23]?.map (fun o => (o.dst, o.op, o.guard)) = some (some 69, .move (.tmp 7), some (22, true)) := by kernel_rfl
theorem aw7_o24 : aw7_l[24]?.map (fun o => (o.dst, o.op, o.guard)) = some (some 70, .binOp .eql 25 (.tmp 69) (.const (.int .i64 0)) 25, some (22, true)) := by kernel_rfl
theorem aw7_o25 : aw7_l[25]?.map (fun o => (o.dst, o.op, o.guard)) = some (some 71, .pick (.tmp 68) (.tmp 70) (.const (.bool false)), none) := by kernel_rfl
theorem aw7_o26 : aw7_l[26]?.map (fun o => (o.dst, o.op, o.guard)) = some (some 72, .move (.tmp 71), none) := by kernel_rfl
theorem aw7_o27 : aw7_l[27]?.map (fun o => (o.dst, o.op, o.guard)) = some (some 73, .load 24 (.tmp 6), some (26, true)) := by kernel_rfl
theorem aw7_o28 : aw7_l[28]?.map (fun o => (o.dst, o.op, o.guard)) = some (some 74, .buildSlice 22 2 #[(0, .const (.int .i64 0)), (1, .const (.int .i64 2))], some (26, true)) := by kernel_rfl
theorem aw7_o29 : aw7_l[29]?.map (fun o => (o.dst, o.op, o.guard)) = some (some 75, .call { callee := .value (.func 29), args := #[(.tmp 74)], argTypes := #[22] }, some (26, true)) := by kernel_rfl
theorem aw7_o30 : aw7_l[30]?.map (fun o => (o.dst, o.op, o.guard)) = some (some 76, .call { callee := .value (.func 13), args := #[(.tmp 73), (.tmp 75)], argTypes := #[24, 24] }, some (26, true)) := by kernel_rfl
theorem aw7_o31 : aw7_l[31]?.map (fun o => (o.dst, o.op, o.guard)) = some (some 77, .pick (.tmp 72) (.tmp 76) (.const (.bool false)), none) := by kernel_rfl
theorem aw7_o32 : aw7_l[32]?.map (fun o => (o.dst, o.op, o.guard)) = some (some 78, .move (.tmp 77), none) := by kernel_rfl
theorem aw7_o33 : aw7_l[33]?.map (fun o => (o.dst, o.op, o.guard)) = some (some 79, .move (.tmp 9), some (32, true)) := by kernel_rfl
theorem aw7_o34 : aw7_l[34]?.map (fun o => (o.dst, o.op, o.guard)) = some (some 80, .binOp .eql 25 (.tmp 79) (.const (.int .i64 0)) 25, some (32, true)) := by kernel_rfl
theorem aw7_o35 : aw7_l[35]?.map (fun o => (o.dst, o.op, o.guard)) = some (some 81, .pick (.tmp 78) (.tmp 80) (.const (.bool false)), none) := by kernel_rfl
theorem aw7_o36 : aw7_l[36]?.map (fun o => (o.dst, o.op, o.guard)) = some (some 82, .move (.tmp 81), none) := by kernel_rfl
theorem aw7_o37 : aw7_l[37]?.map (fun o => (o.dst, o.op, o.guard)) = some (some 83, .move (.tmp 8), some (36, true)) := by kernel_rfl
theorem aw7_o38 : aw7_l[38]?.map (fun o => (o.dst, o.op, o.guard)) = some (some 84, .binOp .eql 3 (.tmp 83) (.const (.int .i64 2)) 3, some (36, true)) := by kernel_rfl
theorem aw7_o39 : aw7_l[39]?.map (fun o => (o.dst, o.op, o.guard)) = some (some 85, .pick (.tmp 82) (.tmp 84) (.const (.bool false)), none) := by kernel_rfl
theorem aw7_o40 : aw7_l[40]?.map (fun o => (o.dst, o.op, o.guard)) = some (some 86, .move (.tmp 85), none) := by kernel_rfl
theorem aw7_o41 : aw7_l[41]?.map (fun o => (o.dst, o.op, o.guard)) = some (some 87, .move (.tmp 11), some (40, true)) := by kernel_rfl
theorem aw7_o42 : aw7_l[42]?.map (fun o => (o.dst, o.op, o.guard)) = some (some 88, .binOp .eql 25 (.tmp 87) (.const (.int .i64 0)) 25, some (40, true)) := by kernel_rfl
theorem aw7_o43 : aw7_l[43]?.map (fun o => (o.dst, o.op, o.guard)) = some (some 89, .pick (.tmp 86) (.tmp 88) (.const (.bool false)), none) := by kernel_rfl
theorem aw7_o44 : aw7_l[44]?.map (fun o => (o.dst, o.op, o.guard)) = some (some 90, .move (.tmp 89), none) := by kernel_rfl
theorem aw7_o45 : aw7_l[45]?.map (fun o => (o.dst, o.op, o.guard)) = some (some 91, .move (.tmp 10), some (44, true)) := by kernel_rfl
theorem aw7_o46 : aw7_l[46]?.map (fun o => (o.dst, o.op, o.guard)) = some (some 92, .buildSlice 22 2 #[(0, .const (.int .i64 0)), (1, .const (.int .i64 1))], some (44, true)) := by kernel_rfl
theorem aw7_o47 : aw7_l[47]?.map (fun o => (o.dst, o.op, o.guard)) = some (some 93, .call { callee := .value (.func 28), args := #[(.tmp 91), (.tmp 92)], argTypes := #[22, 22] }, some (44, true)) := by kernel_rfl
theorem aw7_o48 : aw7_l[48]?.map (fun o => (o.dst, o.op, o.guard)) = some (some 94, .pick (.tmp 90) (.tmp 93) (.const (.bool false)), none) := by kernel_rfl
theorem aw7_o49 : aw7_l[49]?.map (fun o => (o.dst, o.op, o.guard)) = some (some 95, .move (.tmp 94), none) := by kernel_rfl
theorem aw7_o50 : aw7_l[50]?.map (fun o => (o.dst, o.op, o.guard)) = some (some 96, .move (.tmp 12), some (49, true)) := by kernel_rfl
theorem aw7_o51 : aw7_l[51]?.map (fun o => (o.dst, o.op, o.guard)) = some (some 97, .binOp .eql 25 (.tmp 96) (.const (.int .i64 0)) 25, some (49, true)) := by kernel_rfl
theorem aw7_o52 : aw7_l[52]?.map (fun o => (o.dst, o.op, o.guard)) = some (some 98, .pick (.tmp 95) (.tmp 97) (.const (.bool false)), none) := by kernel_rfl
theorem aw7_o53 : aw7_l[53]?.map (fun o => (o.dst, o.op, o.guard)) = some (some 0, .assign (.tmp 98), none) := by kernel_rfl
def aw7_sp (A1 A3 A6 A10 : Option Addr) (c1 c3 c6 c10 : Nat) (B1 B3 B6 : Nat) (W : World) : Nat → Spec
  | 0 => ⟨Unit, [46], fun _ => [(46, .int .i64 0)], fun _ _ => True⟩
  | 1 => ⟨Unit, [47], fun _ => [(47, .bool true)], fun _ _ => True⟩
  | 2 => ⟨Unit, [48], fun _ => [(48, .bool true)], fun _ _ => True⟩
  | 3 => ⟨Unit, [49], fun _ => [(49, .agg #[.int .i64 3, .slice A1 3 c1])], fun _ _ => True⟩
  | 4 => ⟨Nat, [50], fun Gn => [(50, .slice (some ⟨Gn, 0, none⟩) 3 3)], fun Gn w => GI w (some ⟨Gn, 0, none⟩) 3 [0, 1, 2]⟩
  | 5 => ⟨Nat, [51], fun Gn => [(51, .agg #[.int .i64 3, .slice (some ⟨Gn, 0, none⟩) 3 3])], fun Gn w => GI w (some ⟨Gn, 0, none⟩) 3 [0, 1, 2]⟩
  | 6 => ⟨Unit, [52], fun _ => [(52, .bool true)], fun _ _ => True⟩
  | 7 => ⟨Unit, [53], fun _ => [(53, .bool true)], fun _ _ => True⟩
  | 8 => ⟨Unit, [54], fun _ => [(54, .bool true)], fun _ _ => True⟩
  | 9 => ⟨Unit, [55], fun _ => [(55, .int .i64 0)], fun _ _ => True⟩
  | 10 => ⟨Unit, [56], fun _ => [(56, .bool true)], fun _ _ => True⟩
  | 11 => ⟨Unit, [57], fun _ => [(57, .bool true)], fun _ _ => True⟩
  | 12 => ⟨Unit, [58], fun _ => [(58, .bool true)], fun _ _ => True⟩
  | 13 => ⟨Unit, [59], fun _ => [(59, .int .i64 0)], fun _ _ => True⟩
  | 14 => ⟨Unit, [60], fun _ => [(60, .bool true)], fun _ _ => True⟩
  | 15 => ⟨Unit, [61], fun _ => [(61, .bool true)], fun _ _ => True⟩
  | 16 => ⟨Unit, [62], fun _ => [(62, .bool true)], fun _ _ => True⟩
  | 17 => ⟨Unit, [63], fun _ => [(63, .agg #[.int .i64 3, .slice A3 2 c3])], fun _ _ => True⟩
  | 18 => ⟨Nat, [64], fun Gn => [(64, .slice (some ⟨Gn, 0, none⟩) 2 2)], fun Gn w => GI w (some ⟨Gn, 0, none⟩) 2 [1, 2]⟩
  | 19 => ⟨Nat, [65], fun Gn => [(65, .agg #[.int .i64 3, .slice (some ⟨Gn, 0, none⟩) 2 2])], fun Gn w => GI w (some ⟨Gn, 0, none⟩) 2 [1, 2]⟩
  | 20 => ⟨Unit, [66], fun _ => [(66, .bool true)], fun _ _ => True⟩
  | 21 => ⟨Unit, [67], fun _ => [(67, .bool true)], fun _ _ => True⟩
  | 22 => ⟨Unit, [68], fun _ => [(68, .bool true)], fun _ _ => True⟩
  | 23 => ⟨Unit, [69], fun _ => [(69, .int .i64 0)], fun _ _ => True⟩
  | 24 => ⟨Unit, [70], fun _ => [(70, .bool true)], fun _ _ => True⟩
  | 25 => ⟨Unit, [71], fun _ => [(71, .bool true)], fun _ _ => True⟩
  | 26 => ⟨Unit, [72], fun _ => [(72, .bool true)], fun _ _ => True⟩
  | 27 => ⟨Unit, [73], fun _ => [(73, .agg #[.int .i64 3, .slice A6 2 c6])], fun _ _ => True⟩
  | 28 => ⟨Nat, [74], fun Gn => [(74, .slice (some ⟨Gn, 0, none⟩) 2 2)], fun Gn w => GI w (some ⟨Gn, 0, none⟩) 2 [0, 2]⟩
  | 29 => ⟨Nat, [75], fun Gn => [(75, .agg #[.int .i64 3, .slice (some ⟨Gn, 0, none⟩) 2 2])], fun Gn w => GI w (some ⟨Gn, 0, none⟩) 2 [0, 2]⟩
  | 30 => ⟨Unit, [76], fun _ => [(76, .bool true)], fun _ _ => True⟩
  | 31 => ⟨Unit, [77], fun _ => [(77, .bool true)], fun _ _ => True⟩
  | 32 => ⟨Unit, [78], fun _ => [(78, .bool true)], fun _ _ => True⟩
  | 33 => ⟨Unit, [79], fun _ => [(79, .int .i64 0)], fun _ _ => True⟩
  | 34 => ⟨Unit, [80], fun _ => [(80, .bool true)], fun _ _ => True⟩
  | 35 => ⟨Unit, [81], fun _ => [(81, .bool true)], fun _ _ => True⟩
  | 36 => ⟨Unit, [82], fun _ => [(82, .bool true)], fun _ _ => True⟩
  | 37 => ⟨Unit, [83], fun _ => [(83, .int .i64 2)], fun _ _ => True⟩
  | 38 => ⟨Unit, [84], fun _ => [(84, .bool true)], fun _ _ => True⟩
  | 39 => ⟨Unit, [85], fun _ => [(85, .bool true)], fun _ _ => True⟩
  | 40 => ⟨Unit, [86], fun _ => [(86, .bool true)], fun _ _ => True⟩
  | 41 => ⟨Unit, [87], fun _ => [(87, .int .i64 0)], fun _ _ => True⟩
  | 42 => ⟨Unit, [88], fun _ => [(88, .bool true)], fun _ _ => True⟩
  | 43 => ⟨Unit, [89], fun _ => [(89, .bool true)], fun _ _ => True⟩
  | 44 => ⟨Unit, [90], fun _ => [(90, .bool true)], fun _ _ => True⟩
  | 45 => ⟨Unit, [91], fun _ => [(91, .slice A10 2 c10)], fun _ _ => True⟩
  | 46 => ⟨Nat, [92], fun Gn => [(92, .slice (some ⟨Gn, 0, none⟩) 2 2)], fun Gn w => GI w (some ⟨Gn, 0, none⟩) 2 [0, 1]⟩
  | 47 => ⟨Unit, [93], fun _ => [(93, .bool true)], fun _ _ => True⟩
  | 48 => ⟨Unit, [94], fun _ => [(94, .bool true)], fun _ _ => True⟩
  | 49 => ⟨Unit, [95], fun _ => [(95, .bool true)], fun _ _ => True⟩
  | 50 => ⟨Unit, [96], fun _ => [(96, .int .i64 0)], fun _ _ => True⟩
  | 51 => ⟨Unit, [97], fun _ => [(97, .bool true)], fun _ _ => True⟩
  | 52 => ⟨Unit, [98], fun _ => [(98, .bool true)], fun _ _ => True⟩
  | 53 => ⟨Unit, [0], fun _ => [(0, .bool true)], fun _ _ => True⟩
  | _ => ⟨Unit, [], fun _ => [], fun _ _ => True⟩
theorem aw7_fb (A1 A3 A6 A10 : Option Addr) (c1 c3 c6 c10 : Nat) (B1 B3 B6 : Nat) (W : World) : slB aw7_l (fun j => (aw7_sp A1 A3 A6 A10 c1 c3 c6 c10 B1 B3 B6 W j).ss) = true := by kernel_rfl
set_option maxRecDepth 100000 in
set_option maxHeartbeats 8000000 in
theorem aw7 {Q : Exit → Act → World → Prop} {a0 : Act} {W : World} (A1 A3 A6 A10 : Option Addr) (c1 c3 c6 c10 : Nat) (B1 B3 B6 : Nat)  (z0 : a0.tmps.size = 99) (p1 : Sv a0 1 (.pointer (some ⟨B1, 0, none⟩))) (p2 : Sv a0 2 (.int .i64 0)) (p3 : Sv a0 3 (.pointer (some ⟨B3, 0, none⟩))) (p4 : Sv a0 4 (.int .i64 0)) (p5 : Sv a0 5 (.int .i64 0)) (p6 : Sv a0 6 (.pointer (some ⟨B6, 0, none⟩))) (p7 : Sv a0 7 (.int .i64 0)) (p8 : Sv a0 8 (.int .i64 2)) (p9 : Sv a0 9 (.int .i64 0)) (p10 : Sv a0 10 (.slice A10 2 c10)) (p11 : Sv a0 11 (.int .i64 0)) (p12 : Sv a0 12 (.int .i64 0)) (hB1 : Bx W B1 24 #[.int .i64 3, .slice A1 3 c1]) (hB3 : Bx W B3 24 #[.int .i64 3, .slice A3 2 c3]) (hB6 : Bx W B6 24 #[.int .i64 3, .slice A6 2 c6]) (hgB1 : GI W A1 c1 [0, 1, 2]) (hgB3 : GI W A3 c3 [1, 2]) (hgB6 : GI W A6 c6 [0, 2]) (hgl : GI W A10 c10 [0, 1])
    (fin : ∀ ac w, Fr a0 aw7_l ac → Below W.heap.size W w → (Sv ac 0 (.bool true)) → Q .normal ac w) : (Code.region 7 aw7_l.toArray true).wp Tryd.prog Q a0 W := by
  refine region_of (n := 54) (by kernel_rfl) (by kernel_rfl) (by kernel_rfl) (aw7_sp A1 A3 A6 A10 c1 c3 c6 c10 B1 B3 B6 W) (aw7_fb A1 A3 A6 A10 c1 c3 c6 c10 B1 B3 B6 W) (fun w => Below W.heap.size W w) (stpN 24 []) (bel0 W) ?_ ?_ ?_
  · intro i hi ac w hF hI hk
    have z := hF.1.trans z0
    have f1 := hF.sv (s := 1) (by kernel_rfl) p1
    have f2 := hF.sv (s := 2) (by kernel_rfl) p2
    have f3 := hF.sv (s := 3) (by kernel_rfl) p3
    have f4 := hF.sv (s := 4) (by kernel_rfl) p4
    have f5 := hF.sv (s := 5) (by kernel_rfl) p5
    have f6 := hF.sv (s := 6) (by kernel_rfl) p6
    have f7 := hF.sv (s := 7) (by kernel_rfl) p7
    have f8 := hF.sv (s := 8) (by kernel_rfl) p8
    have f9 := hF.sv (s := 9) (by kernel_rfl) p9
    have f10 := hF.sv (s := 10) (by kernel_rfl) p10
    have f11 := hF.sv (s := 11) (by kernel_rfl) p11
    have f12 := hF.sv (s := 12) (by kernel_rfl) p12
    match i, hi with
    | 0, _ =>
      exact ob_val (v := .int .i64 0) aw7_o0 (.inl rfl) (ev_move f2.eval) ⟨⟨_, rfl⟩, hI, Below.refl _ _, ⟨(), rfl, sv1 (Sv.dst (by kernel_rfl) (by rw [z]; decide) _), trivial⟩⟩
    | 1, _ =>
      obtain ⟨⟨⟩, -, hs0, hw0⟩ := hk 0 (mem_reach (by kernel_rfl))
      have f46 : Sv ac 46 (.int .i64 0) := hs0 _ (List.Mem.head _)
      exact ob_val (v := .bool true) aw7_o1 (.inl rfl) (fun o ho => by have e0 := f46.eval; have e1 : ac.eval (.const (.int .i64 0)) = .int .i64 0 := rfl; generalize ac.eval = ρ at *; simp [execOp, ho, e0, e1, go_sem]) ⟨⟨_, rfl⟩, hI, Below.refl _ _, ⟨(), rfl, sv1 (Sv.dst (by kernel_rfl) (by rw [z]; decide) _), trivial⟩⟩
    | 2, _ =>
      obtain ⟨⟨⟩, -, hs1, hw1⟩ := hk 1 (mem_reach (by kernel_rfl))
      have f47 : Sv ac 47 (.bool true) := hs1 _ (List.Mem.head _)
      exact ob_val (v := .bool true) aw7_o2 (.inl rfl) (ev_move f47.eval) ⟨⟨_, rfl⟩, hI, Below.refl _ _, ⟨(), rfl, sv1 (Sv.dst (by kernel_rfl) (by rw [z]; decide) _), trivial⟩⟩
    | 3, _ =>
      obtain ⟨⟨⟩, -, hs2, hw2⟩ := hk 2 (mem_reach (by kernel_rfl))
      have f48 : Sv ac 48 (.bool true) := hs2 _ (List.Mem.head _)
      exact ob_val (v := .agg #[.int .i64 3, .slice A1 3 c1]) aw7_o3 (.inr ⟨2, true, 48, rfl, by kernel_rfl, f48⟩) (ev_row f1.eval (hB1.below hI) Tryd.underlying24 rfl (n := 2) (by kernel_rfl) rfl) ⟨⟨_, rfl⟩, hI, Below.refl _ _, ⟨(), rfl, sv1 (Sv.dst (by kernel_rfl) (by rw [z]; decide) _), trivial⟩⟩
    | 4, _ =>
      obtain ⟨⟨⟩, -, hs2, hw2⟩ := hk 2 (mem_reach (by kernel_rfl))
      have f48 : Sv ac 48 (.bool true) := hs2 _ (List.Mem.head _)
      refine ob_val (v := .slice (some ⟨w.heap.size, 0, none⟩) 3 3) (w' := w.alloc (.cells #[.int .i64 0, .int .i64 1, .int .i64 2] 3)) aw7_o4 (.inr ⟨2, true, 48, rfl, by kernel_rfl, f48⟩) (fun o ho => by simp [execOp, ho, go_sem]) ⟨⟨_, rfl⟩, below_step hI (al _ _), al _ _, ?_⟩
      exact ⟨w.heap.size, rfl, sv1 (Sv.dst (by kernel_rfl) (by rw [z]; decide) _), gi_bx (xs := [0, 1, 2]) (Bx.new w _ _) rfl (by simp [maxLen])⟩
    | 5, _ =>
      obtain ⟨Gn, -, hs4, hw4⟩ := hk 4 (mem_reach (by kernel_rfl))
      have f50 : Sv ac 50 (.slice (some ⟨Gn, 0, none⟩) 3 3) := hs4 _ (List.Mem.head _)
      obtain ⟨⟨⟩, -, hs2, hw2⟩ := hk 2 (mem_reach (by kernel_rfl))
      have f48 : Sv ac 48 (.bool true) := hs2 _ (List.Mem.head _)
      refine ob_call (f := 29) (args := #[.slice (some ⟨Gn, 0, none⟩) 3 3]) (w' := w) (R := fun v w'' => ∃ Gn : Nat, v = .agg #[.int .i64 3, .slice (some ⟨Gn, 0, none⟩) 3 3] ∧ GI w'' (some ⟨Gn, 0, none⟩) 3 [0, 1, 2] ∧ Below w.heap.size w w'') aw7_o5 (.inr ⟨2, true, 48, rfl, by kernel_rfl, f48⟩) (fun o ho => ?_) ((freeL_any (some ⟨Gn, 0, none⟩) 3 3 w).mono ?_) ?_
      · have e : execOp ac.eval o = (do let d ← resolve ac.eval { callee := .value (.func 29), args := #[(.tmp 50)], argTypes := #[22] } o.type; invoke d.target d.args) := by simp only [execOp, ho]
        have e50 := f50.eval
        have ef : ac.eval (.func 29) = .func (.func 29) #[] #[] := rfl
        rw [e]
        generalize ac.eval = ρ at *
        simp [ef, e50, go_sem]
      · rintro e w' ⟨rfl, hb⟩; exact ⟨_, rfl, Gn, rfl, hw4.below hb, hb⟩
      · rintro v w2 ⟨Gn, rfl, hwd, hb⟩
        exact ⟨⟨_, rfl⟩, below_step hI hb, hb, ⟨Gn, rfl, sv1 (Sv.dst (by kernel_rfl) (by rw [z]; decide) _), hwd⟩⟩
    | 6, _ =>
      obtain ⟨⟨⟩, -, hs3, hw3⟩ := hk 3 (mem_reach (by kernel_rfl))
      have f49 : Sv ac 49 (.agg #[.int .i64 3, .slice A1 3 c1]) := hs3 _ (List.Mem.head _)
      obtain ⟨Gn, -, hs5, hw5⟩ := hk 5 (mem_reach (by kernel_rfl))
      have f51 : Sv ac 51 (.agg #[.int .i64 3, .slice (some ⟨Gn, 0, none⟩) 3 3]) := hs5 _ (List.Mem.head _)
      obtain ⟨⟨⟩, -, hs2, hw2⟩ := hk 2 (mem_reach (by kernel_rfl))
      have f48 : Sv ac 48 (.bool true) := hs2 _ (List.Mem.head _)
      refine ob_call (f := 13) (args := #[.agg #[.int .i64 3, .slice A1 3 c1], .agg #[.int .i64 3, .slice (some ⟨Gn, 0, none⟩) 3 3]]) (w' := w) (R := fun v w'' => v = .bool true ∧ True ∧ Below w.heap.size w w'') aw7_o6 (.inr ⟨2, true, 48, rfl, by kernel_rfl, f48⟩) (fun o ho => ?_) ((SamePool_yes 3 A1 c1 [0, 1, 2] (some ⟨Gn, 0, none⟩) 3 w (hgB1.below hI) hw5).mono ?_) ?_
      · have e : execOp ac.eval o = (do let d ← resolve ac.eval { callee := .value (.func 13), args := #[(.tmp 49), (.tmp 51)], argTypes := #[24, 24] } o.type; invoke d.target d.args) := by simp only [execOp, ho]
        have e49 := f49.eval
        have e51 := f51.eval
        have ef : ac.eval (.func 13) = .func (.func 13) #[] #[] := rfl
        rw [e]
        generalize ac.eval = ρ at *
        simp [ef, e49, e51, go_sem]
      · rintro e w' ⟨rfl, hb⟩; exact ⟨_, rfl, rfl, trivial, hb⟩
      · rintro v w2 ⟨rfl, hwd, hb⟩
        exact ⟨⟨_, rfl⟩, below_step hI hb, hb, ⟨(), rfl, sv1 (Sv.dst (by kernel_rfl) (by rw [z]; decide) _), hwd⟩⟩
    | 7, _ =>
      obtain ⟨⟨⟩, -, hs2, hw2⟩ := hk 2 (mem_reach (by kernel_rfl))
      have f48 : Sv ac 48 (.bool true) := hs2 _ (List.Mem.head _)
      obtain ⟨⟨⟩, -, hs6, hw6⟩ := hk 6 (mem_reach (by kernel_rfl))
      have f52 : Sv ac 52 (.bool true) := hs6 _ (List.Mem.head _)
      exact ob_val (v := .bool true) aw7_o7 (.inl rfl) (fun o ho => ev_pickT f48.eval f52.eval o ho) ⟨⟨_, rfl⟩, hI, Below.refl _ _, ⟨(), rfl, sv1 (Sv.dst (by kernel_rfl) (by rw [z]; decide) _), trivial⟩⟩
    | 8, _ =>
      obtain ⟨⟨⟩, -, hs7, hw7⟩ := hk 7 (mem_reach (by kernel_rfl))
      have f53 : Sv ac 53 (.bool true) := hs7 _ (List.Mem.head _)
      exact ob_val (v := .bool true) aw7_o8 (.inl rfl) (ev_move f53.eval) ⟨⟨_, rfl⟩, hI, Below.refl _ _, ⟨(), rfl, sv1 (Sv.dst (by kernel_rfl) (by rw [z]; decide) _), trivial⟩⟩
    | 9, _ =>
      obtain ⟨⟨⟩, -, hs8, hw8⟩ := hk 8 (mem_reach (by kernel_rfl))
      have f54 : Sv ac 54 (.bool true) := hs8 _ (List.Mem.head _)
      exact ob_val (v := .int .i64 0) aw7_o9 (.inr ⟨8, true, 54, rfl, by kernel_rfl, f54⟩) (ev_move f5.eval) ⟨⟨_, rfl⟩, hI, Below.refl _ _, ⟨(), rfl, sv1 (Sv.dst (by kernel_rfl) (by rw [z]; decide) _), trivial⟩⟩
    | 10, _ =>
      obtain ⟨⟨⟩, -, hs9, hw9⟩ := hk 9 (mem_reach (by kernel_rfl))
      have f55 : Sv ac 55 (.int .i64 0) := hs9 _ (List.Mem.head _)
      obtain ⟨⟨⟩, -, hs8, hw8⟩ := hk 8 (mem_reach (by kernel_rfl))
      have f54 : Sv ac 54 (.bool true) := hs8 _ (List.Mem.head _)
      exact ob_val (v := .bool true) aw7_o10 (.inr ⟨8, true, 54, rfl, by kernel_rfl, f54⟩) (fun o ho => by have e0 := f55.eval; have e1 : ac.eval (.const (.int .i64 0)) = .int .i64 0 := rfl; generalize ac.eval = ρ at *; simp [execOp, ho, e0, e1, go_sem]) ⟨⟨_, rfl⟩, hI, Below.refl _ _, ⟨(), rfl, sv1 (Sv.dst (by kernel_rfl) (by rw [z]; decide) _), trivial⟩⟩
    | 11, _ =>
      obtain ⟨⟨⟩, -, hs8, hw8⟩ := hk 8 (mem_reach (by kernel_rfl))
      have f54 : Sv ac 54 (.bool true) := hs8 _ (List.Mem.head _)
      obtain ⟨⟨⟩, -, hs10, hw10⟩ := hk 10 (mem_reach (by kernel_rfl))
      have f56 : Sv ac 56 (.bool true) := hs10 _ (List.Mem.head _)
      exact ob_val (v := .bool true) aw7_o11 (.inl rfl) (fun o ho => ev_pickT f54.eval f56.eval o ho) ⟨⟨_, rfl⟩, hI, Below.refl _ _, ⟨(), rfl, sv1 (Sv.dst (by kernel_rfl) (by rw [z]; decide) _), trivial⟩⟩
    | 12, _ =>
      obtain ⟨⟨⟩, -, hs11, hw11⟩ := hk 11 (mem_reach (by kernel_rfl))
      have f57 : Sv ac 57 (.bool true) := hs11 _ (List.Mem.head _)
      exact ob_val (v := .bool true) aw7_o12 (.inl rfl) (ev_move f57.eval) ⟨⟨_, rfl⟩, hI, Below.refl _ _, ⟨(), rfl, sv1 (Sv.dst (by kernel_rfl) (by rw [z]; decide) _), trivial⟩⟩
    | 13, _ =>
      obtain ⟨⟨⟩, -, hs12, hw12⟩ := hk 12 (mem_reach (by kernel_rfl))
      have f58 : Sv ac 58 (.bool true) := hs12 _ (List.Mem.head _)
      exact ob_val (v := .int .i64 0) aw7_o13 (.inr ⟨12, true, 58, rfl, by kernel_rfl, f58⟩) (ev_move f4.eval) ⟨⟨_, rfl⟩, hI, Below.refl _ _, ⟨(), rfl, sv1 (Sv.dst (by kernel_rfl) (by rw [z]; decide) _), trivial⟩⟩
    | 14, _ =>
      obtain ⟨⟨⟩, -, hs13, hw13⟩ := hk 13 (mem_reach (by kernel_rfl))
      have f59 : Sv ac 59 (.int .i64 0) := hs13 _ (List.Mem.head _)
      obtain ⟨⟨⟩, -, hs12, hw12⟩ := hk 12 (mem_reach (by kernel_rfl))
      have f58 : Sv ac 58 (.bool true) := hs12 _ (List.Mem.head _)
      exact ob_val (v := .bool true) aw7_o14 (.inr ⟨12, true, 58, rfl, by kernel_rfl, f58⟩) (fun o ho => by have e0 := f59.eval; have e1 : ac.eval (.const (.int .i64 0)) = .int .i64 0 := rfl; generalize ac.eval = ρ at *; simp [execOp, ho, e0, e1, go_sem]) ⟨⟨_, rfl⟩, hI, Below.refl _ _, ⟨(), rfl, sv1 (Sv.dst (by kernel_rfl) (by rw [z]; decide) _), trivial⟩⟩
    | 15, _ =>
      obtain ⟨⟨⟩, -, hs12, hw12⟩ := hk 12 (mem_reach (by kernel_rfl))
      have f58 : Sv ac 58 (.bool true) := hs12 _ (List.Mem.head _)
      obtain ⟨⟨⟩, -, hs14, hw14⟩ := hk 14 (mem_reach (by kernel_rfl))
      have f60 : Sv ac 60 (.bool true) := hs14 _ (List.Mem.head _)
      exact ob_val (v := .bool true) aw7_o15 (.inl rfl) (fun o ho => ev_pickT f58.eval f60.eval o ho) ⟨⟨_, rfl⟩, hI, Below.refl _ _, ⟨(), rfl, sv1 (Sv.dst (by kernel_rfl) (by rw [z]; decide) _), trivial⟩⟩
    | 16, _ =>
      obtain ⟨⟨⟩, -, hs15, hw15⟩ := hk 15 (mem_reach (by kernel_rfl))
      have f61 : Sv ac 61 (.bool true) := hs15 _ (List.Mem.head _)
      exact ob_val (v := .bool true) aw7_o16 (.inl rfl) (ev_move f61.eval) ⟨⟨_, rfl⟩, hI, Below.refl _ _, ⟨(), rfl, sv1 (Sv.dst (by kernel_rfl) (by rw [z]; decide) _), trivial⟩⟩
    | 17, _ =>
      obtain ⟨⟨⟩, -, hs16, hw16⟩ := hk 16 (mem_reach (by kernel_rfl))
      have f62 : Sv ac 62 (.bool true) := hs16 _ (List.Mem.head _)
      exact ob_val (v := .agg #[.int .i64 3, .slice A3 2 c3]) aw7_o17 (.inr ⟨16, true, 62, rfl, by kernel_rfl, f62⟩) (ev_row f3.eval (hB3.below hI) Tryd.underlying24 rfl (n := 2) (by kernel_rfl) rfl) ⟨⟨_, rfl⟩, hI, Below.refl _ _, ⟨(), rfl, sv1 (Sv.dst (by kernel_rfl) (by rw [z]; decide) _), trivial⟩⟩
    | 18, _ =>
      obtain ⟨⟨⟩, -, hs16, hw16⟩ := hk 16 (mem_reach (by kernel_rfl))
      have f62 : Sv ac 62 (.bool true) := hs16 _ (List.Mem.head _)
      refine ob_val (v := .slice (some ⟨w.heap.size, 0, none⟩) 2 2) (w' := w.alloc (.cells #[.int .i64 1, .int .i64 2] 3)) aw7_o18 (.inr ⟨16, true, 62, rfl, by kernel_rfl, f62⟩) (fun o ho => by simp [execOp, ho, go_sem]) ⟨⟨_, rfl⟩, below_step hI (al _ _), al _ _, ?_⟩
      exact ⟨w.heap.size, rfl, sv1 (Sv.dst (by kernel_rfl) (by rw [z]; decide) _), gi_bx (xs := [1, 2]) (Bx.new w _ _) rfl (by simp [maxLen])⟩
    | 19, _ =>
      obtain ⟨Gn, -, hs18, hw18⟩ := hk 18 (mem_reach (by kernel_rfl))
      have f64 : Sv ac 64 (.slice (some ⟨Gn, 0, none⟩) 2 2) := hs18 _ (List.Mem.head _)
      obtain ⟨⟨⟩, -, hs16, hw16⟩ := hk 16 (mem_reach (by kernel_rfl))
      have f62 : Sv ac 62 (.bool true) := hs16 _ (List.Mem.head _)
      refine ob_call (f := 29) (args := #[.slice (some ⟨Gn, 0, none⟩) 2 2]) (w' := w) (R := fun v w'' => ∃ Gn : Nat, v = .agg #[.int .i64 3, .slice (some ⟨Gn, 0, none⟩) 2 2] ∧ GI w'' (some ⟨Gn, 0, none⟩) 2 [1, 2] ∧ Below w.heap.size w w'') aw7_o19 (.inr ⟨16, true, 62, rfl, by kernel_rfl, f62⟩) (fun o ho => ?_) ((freeL_any (some ⟨Gn, 0, none⟩) 2 2 w).mono ?_) ?_
      · have e : execOp ac.eval o = (do let d ← resolve ac.eval { callee := .value (.func 29), args := #[(.tmp 64)], argTypes := #[22] } o.type; invoke d.target d.args) := by simp only [execOp, ho]
        have e64 := f64.eval
        have ef : ac.eval (.func 29) = .func (.func 29) #[] #[] := rfl
        rw [e]
        generalize ac.eval = ρ at *
        simp [ef, e64, go_sem]
      · rintro e w' ⟨rfl, hb⟩; exact ⟨_, rfl, Gn, rfl, hw18.below hb, hb⟩
      · rintro v w2 ⟨Gn, rfl, hwd, hb⟩
        exact ⟨⟨_, rfl⟩, below_step hI hb, hb, ⟨Gn, rfl, sv1 (Sv.dst (by kernel_rfl) (by rw [z]; decide) _), hwd⟩⟩
    | 20, _ =>
      obtain ⟨⟨⟩, -, hs17, hw17⟩ := hk 17 (mem_reach (by kernel_rfl))
      have f63 : Sv ac 63 (.agg #[.int .i64 3, .slice A3 2 c3]) := hs17 _ (List.Mem.head _)
      obtain ⟨Gn, -, hs19, hw19⟩ := hk 19 (mem_reach (by kernel_rfl))
      have f65 : Sv ac 65 (.agg #[.int .i64 3, .slice (some ⟨Gn, 0, none⟩) 2 2]) := hs19 _ (List.Mem.head _)
      obtain ⟨⟨⟩, -, hs16, hw16⟩ := hk 16 (mem_reach (by kernel_rfl))
      have f62 : Sv ac 62 (.bool true) := hs16 _ (List.Mem.head _)
      refine ob_call (f := 13) (args := #[.agg #[.int .i64 3, .slice A3 2 c3], .agg #[.int .i64 3, .slice (some ⟨Gn, 0, none⟩) 2 2]]) (w' := w) (R := fun v w'' => v = .bool true ∧ True ∧ Below w.heap.size w w'') aw7_o20 (.inr ⟨16, true, 62, rfl, by kernel_rfl, f62⟩) (fun o ho => ?_) ((SamePool_yes 3 A3 c3 [1, 2] (some ⟨Gn, 0, none⟩) 2 w (hgB3.below hI) hw19).mono ?_) ?_
      · have e : execOp ac.eval o = (do let d ← resolve ac.eval { callee := .value (.func 13), args := #[(.tmp 63), (.tmp 65)], argTypes := #[24, 24] } o.type; invoke d.target d.args) := by simp only [execOp, ho]
        have e63 := f63.eval
        have e65 := f65.eval
        have ef : ac.eval (.func 13) = .func (.func 13) #[] #[] := rfl
        rw [e]
        generalize ac.eval = ρ at *
        simp [ef, e63, e65, go_sem]
      · rintro e w' ⟨rfl, hb⟩; exact ⟨_, rfl, rfl, trivial, hb⟩
      · rintro v w2 ⟨rfl, hwd, hb⟩
        exact ⟨⟨_, rfl⟩, below_step hI hb, hb, ⟨(), rfl, sv1 (Sv.dst (by kernel_rfl) (by rw [z]; decide) _), hwd⟩⟩
    | 21, _ =>
      obtain ⟨⟨⟩, -, hs16, hw16⟩ := hk 16 (mem_reach (by kernel_rfl))
      have f62 : Sv ac 62 (.bool true) := hs16 _ (List.Mem.head _)
      obtain ⟨⟨⟩, -, hs20, hw20⟩ := hk 20 (mem_reach (by kernel_rfl))
      have f66 : Sv ac 66 (.bool true) := hs20 _ (List.Mem.head _)
      exact ob_val (v := .bool true) aw7_o21 (.inl rfl) (fun o ho => ev_pickT f62.eval f66.eval o ho) ⟨⟨_, rfl⟩, hI, Below.refl _ _, ⟨(), rfl, sv1 (Sv.dst (by kernel_rfl) (by rw [z]; decide) _), trivial⟩⟩
    | 22, _ =>
      obtain ⟨⟨⟩, -, hs21, hw21⟩ := hk 21 (mem_reach (by kernel_rfl))
      have f67 : Sv ac 67 (.bool true) := hs21 _ (List.Mem.head _)
      exact ob_val (v := .bool true) aw7_o22 (.inl rfl) (ev_move f67.eval) ⟨⟨_, rfl⟩, hI, Below.refl _ _, ⟨(), rfl, sv1 (Sv.dst (by kernel_rfl) (by rw [z]; decide) _), trivial⟩⟩
    | 23, _ =>
      obtain ⟨⟨⟩, -, hs22, hw22⟩ := hk 22 (mem_reach (by kernel_rfl))
      have f68 : Sv ac 68 (.bool true) := hs22 _ (List.Mem.head _)
      exact ob_val (v := .int .i64 0) aw7_o23 (.inr ⟨22, true, 68, rfl, by kernel_rfl, f68⟩) (ev_move f7.eval) ⟨⟨_, rfl⟩, hI, Below.refl _ _, ⟨(), rfl, sv1 (Sv.dst (by kernel_rfl) (by rw [z]; decide) _), trivial⟩⟩
    | 24, _ =>
      obtain ⟨⟨⟩, -, hs23, hw23⟩ := hk 23 (mem_reach (by kernel_rfl))
      have f69 : Sv ac 69 (.int .i64 0) := hs23 _ (List.Mem.head _)
      obtain ⟨⟨⟩, -, hs22, hw22⟩ := hk 22 (mem_reach (by kernel_rfl))
      have f68 : Sv ac 68 (.bool true) := hs22 _ (List.Mem.head _)
      exact ob_val (v := .bool true) aw7_o24 (.inr ⟨22, true, 68, rfl, by kernel_rfl, f68⟩) (fun o ho => by have e0 := f69.eval; have e1 : ac.eval (.const (.int .i64 0)) = .int .i64 0 := rfl; generalize ac.eval = ρ at *; simp [execOp, ho, e0, e1, go_sem]) ⟨⟨_, rfl⟩, hI, Below.refl _ _, ⟨(), rfl, sv1 (Sv.dst (by kernel_rfl) (by rw [z]; decide) _), trivial⟩⟩
    | 25, _ =>
      obtain ⟨⟨⟩, -, hs22, hw22⟩ := hk 22 (mem_reach (by kernel_rfl))
      have f68 : Sv ac 68 (.bool true) := hs22 _ (List.Mem.head _)
      obtain ⟨⟨⟩, -, hs24, hw24⟩ := hk 24 (mem_reach (by kernel_rfl))
      have f70 : Sv ac 70 (.bool true) := hs24 _ (List.Mem.head _)
      exact ob_val (v := .bool true) aw7_o25 (.inl rfl) (fun o ho => ev_pickT f68.eval f70.eval o ho) ⟨⟨_, rfl⟩, hI, Below.refl _ _, ⟨(), rfl, sv1 (Sv.dst (by kernel_rfl) (by rw [z]; decide) _), trivial⟩⟩
    | 26, _ =>
      obtain ⟨⟨⟩, -, hs25, hw25⟩ := hk 25 (mem_reach (by kernel_rfl))
      have f71 : Sv ac 71 (.bool true) := hs25 _ (List.Mem.head _)
      exact ob_val (v := .bool true) aw7_o26 (.inl rfl) (ev_move f71.eval) ⟨⟨_, rfl⟩, hI, Below.refl _ _, ⟨(), rfl, sv1 (Sv.dst (by kernel_rfl) (by rw [z]; decide) _), trivial⟩⟩
    | 27, _ =>
      obtain ⟨⟨⟩, -, hs26, hw26⟩ := hk 26 (mem_reach (by kernel_rfl))
      have f72 : Sv ac 72 (.bool true) := hs26 _ (List.Mem.head _)
      exact ob_val (v := .agg #[.int .i64 3, .slice A6 2 c6]) aw7_o27 (.inr ⟨26, true, 72, rfl, by kernel_rfl, f72⟩) (ev_row f6.eval (hB6.below hI) Tryd.underlying24 rfl (n := 2) (by kernel_rfl) rfl) ⟨⟨_, rfl⟩, hI, Below.refl _ _, ⟨(), rfl, sv1 (Sv.dst (by kernel_rfl) (by rw [z]; decide) _), trivial⟩⟩
    | 28, _ =>
      obtain ⟨⟨⟩, -, hs26, hw26⟩ := hk 26 (mem_reach (by kernel_rfl))
      have f72 : Sv ac 72 (.bool true) := hs26 _ (List.Mem.head _)
      refine ob_val (v := .slice (some ⟨w.heap.size, 0, none⟩) 2 2) (w' := w.alloc (.cells #[.int .i64 0, .int .i64 2] 3)) aw7_o28 (.inr ⟨26, true, 72, rfl, by kernel_rfl, f72⟩) (fun o ho => by simp [execOp, ho, go_sem]) ⟨⟨_, rfl⟩, below_step hI (al _ _), al _ _, ?_⟩
      exact ⟨w.heap.size, rfl, sv1 (Sv.dst (by kernel_rfl) (by rw [z]; decide) _), gi_bx (xs := [0, 2]) (Bx.new w _ _) rfl (by simp [maxLen])⟩
    | 29, _ =>
      obtain ⟨Gn, -, hs28, hw28⟩ := hk 28 (mem_reach (by kernel_rfl))
      have f74 : Sv ac 74 (.slice (some ⟨Gn, 0, none⟩) 2 2) := hs28 _ (List.Mem.head _)
      obtain ⟨⟨⟩, -, hs26, hw26⟩ := hk 26 (mem_reach (by kernel_rfl))
      have f72 : Sv ac 72 (.bool true) := hs26 _ (List.Mem.head _)
      refine ob_call (f := 29) (args := #[.slice (some ⟨Gn, 0, none⟩) 2 2]) (w' := w) (R := fun v w'' => ∃ Gn : Nat, v = .agg #[.int .i64 3, .slice (some ⟨Gn, 0, none⟩) 2 2] ∧ GI w'' (some ⟨Gn, 0, none⟩) 2 [0, 2] ∧ Below w.heap.size w w'') aw7_o29 (.inr ⟨26, true, 72, rfl, by kernel_rfl, f72⟩) (fun o ho => ?_) ((freeL_any (some ⟨Gn, 0, none⟩) 2 2 w).mono ?_) ?_
      · have e : execOp ac.eval o = (do let d ← resolve ac.eval { callee := .value (.func 29), args := #[(.tmp 74)], argTypes := #[22] } o.type; invoke d.target d.args) := by simp only [execOp, ho]
        have e74 := f74.eval
        have ef : ac.eval (.func 29) = .func (.func 29) #[] #[] := rfl
        rw [e]
        generalize ac.eval = ρ at *
        simp [ef, e74, go_sem]
      · rintro e w' ⟨rfl, hb⟩; exact ⟨_, rfl, Gn, rfl, hw28.below hb, hb⟩
      · rintro v w2 ⟨Gn, rfl, hwd, hb⟩
        exact ⟨⟨_, rfl⟩, below_step hI hb, hb, ⟨Gn, rfl, sv1 (Sv.dst (by kernel_rfl) (by rw [z]; decide) _), hwd⟩⟩
    | 30, _ =>
      obtain ⟨⟨⟩, -, hs27, hw27⟩ := hk 27 (mem_reach (by kernel_rfl))
      have f73 : Sv ac 73 (.agg #[.int .i64 3, .slice A6 2 c6]) := hs27 _ (List.Mem.head _)
      obtain ⟨Gn, -, hs29, hw29⟩ := hk 29 (mem_reach (by kernel_rfl))
      have f75 : Sv ac 75 (.agg #[.int .i64 3, .slice (some ⟨Gn, 0, none⟩) 2 2]) := hs29 _ (List.Mem.head _)
      obtain ⟨⟨⟩, -, hs26, hw26⟩ := hk 26 (mem_reach (by kernel_rfl))
      have f72 : Sv ac 72 (.bool true) := hs26 _ (List.Mem.head _)
      refine ob_call (f := 13) (args := #[.agg #[.int .i64 3, .slice A6 2 c6], .agg #[.int .i64 3, .slice (some ⟨Gn, 0, none⟩) 2 2]]) (w' := w) (R := fun v w'' => v = .bool true ∧ True ∧ Below w.heap.size w w'') aw7_o30 (.inr ⟨26, true, 72, rfl, by kernel_rfl, f72⟩) (fun o ho => ?_) ((SamePool_yes 3 A6 c6 [0, 2] (some ⟨Gn, 0, none⟩) 2 w (hgB6.below hI) hw29).mono ?_) ?_
      · have e : execOp ac.eval o = (do let d ← resolve ac.eval { callee := .value (.func 13), args := #[(.tmp 73), (.tmp 75)], argTypes := #[24, 24] } o.type; invoke d.target d.args) := by simp only [execOp, ho]
        have e73 := f73.eval
        have e75 := f75.eval
        have ef : ac.eval (.func 13) = .func (.func 13) #[] #[] := rfl
        rw [e]
        generalize ac.eval = ρ at *
        simp [ef, e73, e75, go_sem]
      · rintro e w' ⟨rfl, hb⟩; exact ⟨_, rfl, rfl, trivial, hb⟩
      · rintro v w2 ⟨rfl, hwd, hb⟩
        exact ⟨⟨_, rfl⟩, below_step hI hb, hb, ⟨(), rfl, sv1 (Sv.dst (by kernel_rfl) (by rw [z]; decide) _), hwd⟩⟩
    | 31, _ =>
      obtain ⟨⟨⟩, -, hs26, hw26⟩ := hk 26 (mem_reach (by kernel_rfl))
      have f72 : Sv ac 72 (.bool true) := hs26 _ (List.Mem.head _)
      obtain ⟨⟨⟩, -, hs30, hw30⟩ := hk 30 (mem_reach (by kernel_rfl))
      have f76 : Sv ac 76 (.bool true) := hs30 _ (List.Mem.head _)
      exact ob_val (v := .bool true) aw7_o31 (.inl rfl) (fun o ho => ev_pickT f72.eval f76.eval o ho) ⟨⟨_, rfl⟩, hI, Below.refl _ _, ⟨(), rfl, sv1 (Sv.dst (by kernel_rfl) (by rw [z]; decide) _), trivial⟩⟩
    | 32, _ =>
      obtain ⟨⟨⟩, -, hs31, hw31⟩ := hk 31 (mem_reach (by kernel_rfl))
      have f77 : Sv ac 77 (.bool true) := hs31 _ (List.Mem.head _)
      exact ob_val (v := .bool true) aw7_o32 (.inl rfl) (ev_move f77.eval) ⟨⟨_, rfl⟩, hI, Below.refl _ _, ⟨(), rfl, sv1 (Sv.dst (by kernel_rfl) (by rw [z]; decide) _), trivial⟩⟩
    | 33, _ =>
      obtain ⟨⟨⟩, -, hs32, hw32⟩ := hk 32 (mem_reach (by kernel_rfl))
      have f78 : Sv ac 78 (.bool true) := hs32 _ (List.Mem.head _)
      exact ob_val (v := .int .i64 0) aw7_o33 (.inr ⟨32, true, 78, rfl, by kernel_rfl, f78⟩) (ev_move f9.eval) ⟨⟨_, rfl⟩, hI, Below.refl _ _, ⟨(), rfl, sv1 (Sv.dst (by kernel_rfl) (by rw [z]; decide) _), trivial⟩⟩
    | 34, _ =>
      obtain ⟨⟨⟩, -, hs33, hw33⟩ := hk 33 (mem_reach (by kernel_rfl))
      have f79 : Sv ac 79 (.int .i64 0) := hs33 _ (List.Mem.head _)
      obtain ⟨⟨⟩, -, hs32, hw32⟩ := hk 32 (mem_reach (by kernel_rfl))
      have f78 : Sv ac 78 (.bool true) := hs32 _ (List.Mem.head _)
      exact ob_val (v := .bool true) aw7_o34 (.inr ⟨32, true, 78, rfl, by kernel_rfl, f78⟩) (fun o ho => by have e0 := f79.eval; have e1 : ac.eval (.const (.int .i64 0)) = .int .i64 0 := rfl; generalize ac.eval = ρ at *; simp [execOp, ho, e0, e1, go_sem]) ⟨⟨_, rfl⟩, hI, Below.refl _ _, ⟨(), rfl, sv1 (Sv.dst (by kernel_rfl) (by rw [z]; decide) _), trivial⟩⟩
    | 35, _ =>
      obtain ⟨⟨⟩, -, hs32, hw32⟩ := hk 32 (mem_reach (by kernel_rfl))
      have f78 : Sv ac 78 (.bool true) := hs32 _ (List.Mem.head _)
      obtain ⟨⟨⟩, -, hs34, hw34⟩ := hk 34 (mem_reach (by kernel_rfl))
      have f80 : Sv ac 80 (.bool true) := hs34 _ (List.Mem.head _)
      exact ob_val (v := .bool true) aw7_o35 (.inl rfl) (fun o ho => ev_pickT f78.eval f80.eval o ho) ⟨⟨_, rfl⟩, hI, Below.refl _ _, ⟨(), rfl, sv1 (Sv.dst (by kernel_rfl) (by rw [z]; decide) _), trivial⟩⟩
    | 36, _ =>
      obtain ⟨⟨⟩, -, hs35, hw35⟩ := hk 35 (mem_reach (by kernel_rfl))
      have f81 : Sv ac 81 (.bool true) := hs35 _ (List.Mem.head _)
      exact ob_val (v := .bool true) aw7_o36 (.inl rfl) (ev_move f81.eval) ⟨⟨_, rfl⟩, hI, Below.refl _ _, ⟨(), rfl, sv1 (Sv.dst (by kernel_rfl) (by rw [z]; decide) _), trivial⟩⟩
    | 37, _ =>
      obtain ⟨⟨⟩, -, hs36, hw36⟩ := hk 36 (mem_reach (by kernel_rfl))
      have f82 : Sv ac 82 (.bool true) := hs36 _ (List.Mem.head _)
      exact ob_val (v := .int .i64 2) aw7_o37 (.inr ⟨36, true, 82, rfl, by kernel_rfl, f82⟩) (ev_move f8.eval) ⟨⟨_, rfl⟩, hI, Below.refl _ _, ⟨(), rfl, sv1 (Sv.dst (by kernel_rfl) (by rw [z]; decide) _), trivial⟩⟩
    | 38, _ =>
      obtain ⟨⟨⟩, -, hs37, hw37⟩ := hk 37 (mem_reach (by kernel_rfl))
      have f83 : Sv ac 83 (.int .i64 2) := hs37 _ (List.Mem.head _)
      obtain ⟨⟨⟩, -, hs36, hw36⟩ := hk 36 (mem_reach (by kernel_rfl))
      have f82 : Sv ac 82 (.bool true) := hs36 _ (List.Mem.head _)
      exact ob_val (v := .bool true) aw7_o38 (.inr ⟨36, true, 82, rfl, by kernel_rfl, f82⟩) (fun o ho => by have e0 := f83.eval; have e1 : ac.eval (.const (.int .i64 2)) = .int .i64 2 := rfl; generalize ac.eval = ρ at *; simp [execOp, ho, e0, e1, go_sem]) ⟨⟨_, rfl⟩, hI, Below.refl _ _, ⟨(), rfl, sv1 (Sv.dst (by kernel_rfl) (by rw [z]; decide) _), trivial⟩⟩
    | 39, _ =>
      obtain ⟨⟨⟩, -, hs36, hw36⟩ := hk 36 (mem_reach (by kernel_rfl))
      have f82 : Sv ac 82 (.bool true) := hs36 _ (List.Mem.head _)
      obtain ⟨⟨⟩, -, hs38, hw38⟩ := hk 38 (mem_reach (by kernel_rfl))
      have f84 : Sv ac 84 (.bool true) := hs38 _ (List.Mem.head _)
      exact ob_val (v := .bool true) aw7_o39 (.inl rfl) (fun o ho => ev_pickT f82.eval f84.eval o ho) ⟨⟨_, rfl⟩, hI, Below.refl _ _, ⟨(), rfl, sv1 (Sv.dst (by kernel_rfl) (by rw [z]; decide) _), trivial⟩⟩
    | 40, _ =>
      obtain ⟨⟨⟩, -, hs39, hw39⟩ := hk 39 (mem_reach (by kernel_rfl))
      have f85 : Sv ac 85 (.bool true) := hs39 _ (List.Mem.head _)
      exact ob_val (v := .bool true) aw7_o40 (.inl rfl) (ev_move f85.eval) ⟨⟨_, rfl⟩, hI, Below.refl _ _, ⟨(), rfl, sv1 (Sv.dst (by kernel_rfl) (by rw [z]; decide) _), trivial⟩⟩
    | 41, _ =>
      obtain ⟨⟨⟩, -, hs40, hw40⟩ := hk 40 (mem_reach (by kernel_rfl))
      have f86 : Sv ac 86 (.bool true) := hs40 _ (List.Mem.head _)
      exact ob_val (v := .int .i64 0) aw7_o41 (.inr ⟨40, true, 86, rfl, by kernel_rfl, f86⟩) (ev_move f11.eval) ⟨⟨_, rfl⟩, hI, Below.refl _ _, ⟨(), rfl, sv1 (Sv.dst (by kernel_rfl) (by rw [z]; decide) _), trivial⟩⟩
    | 42, _ =>
      obtain ⟨⟨⟩, -, hs41, hw41⟩ := hk 41 (mem_reach (by kernel_rfl))
      have f87 : Sv ac 87 (.int .i64 0) := hs41 _ (List.Mem.head _)
      obtain ⟨⟨⟩, -, hs40, hw40⟩ := hk 40 (mem_reach (by kernel_rfl))
      have f86 : Sv ac 86 (.bool true) := hs40 _ (List.Mem.head _)
      exact ob_val (v := .bool true) aw7_o42 (.inr ⟨40, true, 86, rfl, by kernel_rfl, f86⟩) (fun o ho => by have e0 := f87.eval; have e1 : ac.eval (.const (.int .i64 0)) = .int .i64 0 := rfl; generalize ac.eval = ρ at *; simp [execOp, ho, e0, e1, go_sem]) ⟨⟨_, rfl⟩, hI, Below.refl _ _, ⟨(), rfl, sv1 (Sv.dst (by kernel_rfl) (by rw [z]; decide) _), trivial⟩⟩
    | 43, _ =>
      obtain ⟨⟨⟩, -, hs40, hw40⟩ := hk 40 (mem_reach (by kernel_rfl))
      have f86 : Sv ac 86 (.bool true) := hs40 _ (List.Mem.head _)
      obtain ⟨⟨⟩, -, hs42, hw42⟩ := hk 42 (mem_reach (by kernel_rfl))
      have f88 : Sv ac 88 (.bool true) := hs42 _ (List.Mem.head _)
      exact ob_val (v := .bool true) aw7_o43 (.inl rfl) (fun o ho => ev_pickT f86.eval f88.eval o ho) ⟨⟨_, rfl⟩, hI, Below.refl _ _, ⟨(), rfl, sv1 (Sv.dst (by kernel_rfl) (by rw [z]; decide) _), trivial⟩⟩
    | 44, _ =>
      obtain ⟨⟨⟩, -, hs43, hw43⟩ := hk 43 (mem_reach (by kernel_rfl))
      have f89 : Sv ac 89 (.bool true) := hs43 _ (List.Mem.head _)
      exact ob_val (v := .bool true) aw7_o44 (.inl rfl) (ev_move f89.eval) ⟨⟨_, rfl⟩, hI, Below.refl _ _, ⟨(), rfl, sv1 (Sv.dst (by kernel_rfl) (by rw [z]; decide) _), trivial⟩⟩
    | 45, _ =>
      obtain ⟨⟨⟩, -, hs44, hw44⟩ := hk 44 (mem_reach (by kernel_rfl))
      have f90 : Sv ac 90 (.bool true) := hs44 _ (List.Mem.head _)
      exact ob_val (v := .slice A10 2 c10) aw7_o45 (.inr ⟨44, true, 90, rfl, by kernel_rfl, f90⟩) (ev_move f10.eval) ⟨⟨_, rfl⟩, hI, Below.refl _ _, ⟨(), rfl, sv1 (Sv.dst (by kernel_rfl) (by rw [z]; decide) _), trivial⟩⟩
    | 46, _ =>
      obtain ⟨⟨⟩, -, hs44, hw44⟩ := hk 44 (mem_reach (by kernel_rfl))
      have f90 : Sv ac 90 (.bool true) := hs44 _ (List.Mem.head _)
      refine ob_val (v := .slice (some ⟨w.heap.size, 0, none⟩) 2 2) (w' := w.alloc (.cells #[.int .i64 0, .int .i64 1] 3)) aw7_o46 (.inr ⟨44, true, 90, rfl, by kernel_rfl, f90⟩) (fun o ho => by simp [execOp, ho, go_sem]) ⟨⟨_, rfl⟩, below_step hI (al _ _), al _ _, ?_⟩
      exact ⟨w.heap.size, rfl, sv1 (Sv.dst (by kernel_rfl) (by rw [z]; decide) _), gi_bx (xs := [0, 1]) (Bx.new w _ _) rfl (by simp [maxLen])⟩
    | 47, _ =>
      obtain ⟨⟨⟩, -, hs45, hw45⟩ := hk 45 (mem_reach (by kernel_rfl))
      have f91 : Sv ac 91 (.slice A10 2 c10) := hs45 _ (List.Mem.head _)
      obtain ⟨Gn, -, hs46, hw46⟩ := hk 46 (mem_reach (by kernel_rfl))
      have f92 : Sv ac 92 (.slice (some ⟨Gn, 0, none⟩) 2 2) := hs46 _ (List.Mem.head _)
      obtain ⟨⟨⟩, -, hs44, hw44⟩ := hk 44 (mem_reach (by kernel_rfl))
      have f90 : Sv ac 90 (.bool true) := hs44 _ (List.Mem.head _)
      refine ob_call (f := 28) (args := #[.slice A10 2 c10, .slice (some ⟨Gn, 0, none⟩) 2 2]) (w' := w) (R := fun v w'' => v = .bool true ∧ True ∧ Below w.heap.size w w'') aw7_o47 (.inr ⟨44, true, 90, rfl, by kernel_rfl, f90⟩) (fun o ho => ?_) ((sameInts_yes A10 (some ⟨Gn, 0, none⟩) c10 2 [0, 1] w (hgl.below hI) hw46).mono ?_) ?_
      · have e : execOp ac.eval o = (do let d ← resolve ac.eval { callee := .value (.func 28), args := #[(.tmp 91), (.tmp 92)], argTypes := #[22, 22] } o.type; invoke d.target d.args) := by simp only [execOp, ho]
        have e91 := f91.eval
        have e92 := f92.eval
        have ef : ac.eval (.func 28) = .func (.func 28) #[] #[] := rfl
        rw [e]
        generalize ac.eval = ρ at *
        simp [ef, e91, e92, go_sem]
      · rintro e w' ⟨rfl, kk, rfl⟩; exact ⟨_, rfl, rfl, trivial, below_dN (Below.refl _ _) kk⟩
      · rintro v w2 ⟨rfl, hwd, hb⟩
        exact ⟨⟨_, rfl⟩, below_step hI hb, hb, ⟨(), rfl, sv1 (Sv.dst (by kernel_rfl) (by rw [z]; decide) _), hwd⟩⟩
    | 48, _ =>
      obtain ⟨⟨⟩, -, hs44, hw44⟩ := hk 44 (mem_reach (by kernel_rfl))
      have f90 : Sv ac 90 (.bool true) := hs44 _ (List.Mem.head _)
      obtain ⟨⟨⟩, -, hs47, hw47⟩ := hk 47 (mem_reach (by kernel_rfl))
      have f93 : Sv ac 93 (.bool true) := hs47 _ (List.Mem.head _)
      exact ob_val (v := .bool true) aw7_o48 (.inl rfl) (fun o ho => ev_pickT f90.eval f93.eval o ho) ⟨⟨_, rfl⟩, hI, Below.refl _ _, ⟨(), rfl, sv1 (Sv.dst (by kernel_rfl) (by rw [z]; decide) _), trivial⟩⟩
    | 49, _ =>
      obtain ⟨⟨⟩, -, hs48, hw48⟩ := hk 48 (mem_reach (by kernel_rfl))
      have f94 : Sv ac 94 (.bool true) := hs48 _ (List.Mem.head _)
      exact ob_val (v := .bool true) aw7_o49 (.inl rfl) (ev_move f94.eval) ⟨⟨_, rfl⟩, hI, Below.refl _ _, ⟨(), rfl, sv1 (Sv.dst (by kernel_rfl) (by rw [z]; decide) _), trivial⟩⟩
    | 50, _ =>
      obtain ⟨⟨⟩, -, hs49, hw49⟩ := hk 49 (mem_reach (by kernel_rfl))
      have f95 : Sv ac 95 (.bool true) := hs49 _ (List.Mem.head _)
      exact ob_val (v := .int .i64 0) aw7_o50 (.inr ⟨49, true, 95, rfl, by kernel_rfl, f95⟩) (ev_move f12.eval) ⟨⟨_, rfl⟩, hI, Below.refl _ _, ⟨(), rfl, sv1 (Sv.dst (by kernel_rfl) (by rw [z]; decide) _), trivial⟩⟩
    | 51, _ =>
      obtain ⟨⟨⟩, -, hs50, hw50⟩ := hk 50 (mem_reach (by kernel_rfl))
      have f96 : Sv ac 96 (.int .i64 0) := hs50 _ (List.Mem.head _)
      obtain ⟨⟨⟩, -, hs49, hw49⟩ := hk 49 (mem_reach (by kernel_rfl))
      have f95 : Sv ac 95 (.bool true) := hs49 _ (List.Mem.head _)
      exact ob_val (v := .bool true) aw7_o51 (.inr ⟨49, true, 95, rfl, by kernel_rfl, f95⟩) (fun o ho => by have e0 := f96.eval; have e1 : ac.eval (.const (.int .i64 0)) = .int .i64 0 := rfl; generalize ac.eval = ρ at *; simp [execOp, ho, e0, e1, go_sem]) ⟨⟨_, rfl⟩, hI, Below.refl _ _, ⟨(), rfl, sv1 (Sv.dst (by kernel_rfl) (by rw [z]; decide) _), trivial⟩⟩
    | 52, _ =>
      obtain ⟨⟨⟩, -, hs49, hw49⟩ := hk 49 (mem_reach (by kernel_rfl))
      have f95 : Sv ac 95 (.bool true) := hs49 _ (List.Mem.head _)
      obtain ⟨⟨⟩, -, hs51, hw51⟩ := hk 51 (mem_reach (by kernel_rfl))
      have f97 : Sv ac 97 (.bool true) := hs51 _ (List.Mem.head _)
      exact ob_val (v := .bool true) aw7_o52 (.inl rfl) (fun o ho => ev_pickT f95.eval f97.eval o ho) ⟨⟨_, rfl⟩, hI, Below.refl _ _, ⟨(), rfl, sv1 (Sv.dst (by kernel_rfl) (by rw [z]; decide) _), trivial⟩⟩
    | 53, _ =>
      obtain ⟨⟨⟩, -, hs52, hw52⟩ := hk 52 (mem_reach (by kernel_rfl))
      have f98 : Sv ac 98 (.bool true) := hs52 _ (List.Mem.head _)
      exact ob_val (v := .bool true) aw7_o53 (.inl rfl) (ev_assign f98.eval) ⟨⟨_, rfl⟩, hI, Below.refl _ _, ⟨(), rfl, sv1 (Sv.dst (by kernel_rfl) (by rw [z]; decide) _), trivial⟩⟩
    | k + 54, h => exact absurd h (by omega)
  · intro i j hi hj hij x w w' hI hst hw
    match j, hj, x, hw with
    | 0, _, _, _ => exact trivial
    | 1, _, _, _ => exact trivial
    | 2, _, _, _ => exact trivial
    | 3, _, _, _ => exact trivial
    | 4, _, Gn, hw => exact hw.below (hst.low (by simp))
    | 5, _, Gn, hw => exact hw.below (hst.low (by simp))
    | 6, _, _, _ => exact trivial
    | 7, _, _, _ => exact trivial
    | 8, _, _, _ => exact trivial
    | 9, _, _, _ => exact trivial
    | 10, _, _, _ => exact trivial
    | 11, _, _, _ => exact trivial
    | 12, _, _, _ => exact trivial
    | 13, _, _, _ => exact trivial
    | 14, _, _, _ => exact trivial
    | 15, _, _, _ => exact trivial
    | 16, _, _, _ => exact trivial
    | 17, _, _, _ => exact trivial
    | 18, _, Gn, hw => exact hw.below (hst.low (by simp))
    | 19, _, Gn, hw => exact hw.below (hst.low (by simp))
    | 20, _, _, _ => exact trivial
    | 21, _, _, _ => exact trivial
    | 22, _, _, _ => exact trivial
    | 23, _, _, _ => exact trivial
    | 24, _, _, _ => exact trivial
    | 25, _, _, _ => exact trivial
    | 26, _, _, _ => exact trivial
    | 27, _, _, _ => exact trivial
    | 28, _, Gn, hw => exact hw.below (hst.low (by simp))
    | 29, _, Gn, hw => exact hw.below (hst.low (by simp))
    | 30, _, _, _ => exact trivial
    | 31, _, _, _ => exact trivial
    | 32, _, _, _ => exact trivial
    | 33, _, _, _ => exact trivial
    | 34, _, _, _ => exact trivial
    | 35, _, _, _ => exact trivial
    | 36, _, _, _ => exact trivial
    | 37, _, _, _ => exact trivial
    | 38, _, _, _ => exact trivial
    | 39, _, _, _ => exact trivial
    | 40, _, _, _ => exact trivial
    | 41, _, _, _ => exact trivial
    | 42, _, _, _ => exact trivial
    | 43, _, _, _ => exact trivial
    | 44, _, _, _ => exact trivial
    | 45, _, _, _ => exact trivial
    | 46, _, Gn, hw => exact hw.below (hst.low (by simp))
    | 47, _, _, _ => exact trivial
    | 48, _, _, _ => exact trivial
    | 49, _, _, _ => exact trivial
    | 50, _, _, _ => exact trivial
    | 51, _, _, _ => exact trivial
    | 52, _, _, _ => exact trivial
    | 53, _, _, _ => exact trivial
    | k + 54, h, _, _ => exact absurd h (by omega)
  · intro ac w hF hI hall
    obtain ⟨⟨⟩, -, hs53, hw53⟩ := hall 53 (by omega)
    have g53 : (Sv ac 0 (.bool true)) := hs53 _ (List.Mem.head _)
    exact fin ac w hF hI g53

set_option maxRecDepth 100000 in
set_option maxHeartbeats 4000000 in
theorem awake_any (w : World) (hL : Laid w) (h0 : 0 < w.heap.size) : Calls Tryd.prog 14 #[] w (RetB w (.returned (.bool true))) := by
  have hw := Below.refl w.heap.size w
  go_enter Tryd.func14, Tryd.ntmps14
  go_wp2_with fail
  refine (show Calls Tryd.prog 9 #[.int .i64 3] _ (RetP _ 3 [0, 1, 2] 0) from New_any 3 _).mono ?_
  rintro e v1 ⟨A1, c1, rfl, ho, hb⟩
  replace hL := hL.below hb h0
  replace h0 : 0 < v1.heap.size := Nat.lt_of_lt_of_le h0 hb.size
  replace hw := below_step hw hb
  clear hb
  have hg1 := OwnI.gi ho
  clear ho
  have hn := Bx.new v1 24 #[.int .i64 0, .slice none 0 0]
  replace hg1 := hg1.alloc (.cells #[.int .i64 3, .slice A1 3 c1] 24)
  replace hL := hL.below (al v1 (.cells #[.int .i64 3, .slice A1 3 c1] 24)) h0
  replace h0 : 0 < (v1.alloc (.cells #[.int .i64 3, .slice A1 3 c1] 24)).heap.size := by rw [World.size_alloc]; omega
  replace hw := below_step hw (al _ (.cells #[.int .i64 3, .slice A1 3 c1] 24))
  have hB1 := Bx.new v1 24 #[.int .i64 3, .slice A1 3 c1]
  go_wp2_with (first | (refine wpList_store_row rfl 24 _ _ rfl v1.heap.size _ rfl rfl 24 _ hn pool_size rfl (pv_one _ _ _ _) ?_; rw [World.setRow_alloc_new]; simp only [Act.put]) | (refine wpList_load_row rfl 24 _ rfl (v1.heap.size) rfl 24 _ _ _ hB1 Tryd.underlying24 rfl pool_size ?_))
  refine (show Calls Tryd.prog 18 #[.agg #[.int .i64 3, .slice A1 3 c1]] _ (RetP3 _ 3 [1, 2] 0 0) from Take_ok 3 A1 c1 0 [1, 2] _ hg1 (chkP_ok (by decide))).mono ?_
  rintro e v2 ⟨A3, c3, rfl, ho, hb⟩
  replace hg1 := hg1.below hb
  replace hB1 := hB1.below hb
  replace hL := hL.below hb h0
  replace h0 : 0 < v2.heap.size := Nat.lt_of_lt_of_le h0 hb.size
  replace hw := below_step hw hb
  clear hb
  clear hn
  generalize v1.heap.size = B1 at *
  have hg3 := OwnI.gi ho
  clear ho
  have hn := Bx.new v2 24 #[.int .i64 0, .slice none 0 0]
  replace hg1 := hg1.alloc (.cells #[.int .i64 3, .slice A3 2 c3] 24)
  replace hB1 := hB1.alloc (.cells #[.int .i64 3, .slice A3 2 c3] 24)
  replace hg3 := hg3.alloc (.cells #[.int .i64 3, .slice A3 2 c3] 24)
  replace hL := hL.below (al v2 (.cells #[.int .i64 3, .slice A3 2 c3] 24)) h0
  replace h0 : 0 < (v2.alloc (.cells #[.int .i64 3, .slice A3 2 c3] 24)).heap.size := by rw [World.size_alloc]; omega
  replace hw := below_step hw (al _ (.cells #[.int .i64 3, .slice A3 2 c3] 24))
  have hB3 := Bx.new v2 24 #[.int .i64 3, .slice A3 2 c3]
  have hx := gi_bx (xs := [2]) (Bx.new (v2.alloc (.cells #[.int .i64 3, .slice A3 2 c3] 24)) 3 #[.int .i64 2]) rfl (by simp [maxLen])
  replace hg1 := hg1.alloc (.cells #[.int .i64 2] 3)
  replace hB1 := hB1.alloc (.cells #[.int .i64 2] 3)
  replace hg3 := hg3.alloc (.cells #[.int .i64 2] 3)
  replace hB3 := hB3.alloc (.cells #[.int .i64 2] 3)
  replace hL := hL.below (al (v2.alloc (.cells #[.int .i64 3, .slice A3 2 c3] 24)) (.cells #[.int .i64 2] 3)) h0
  replace h0 : 0 < ((v2.alloc (.cells #[.int .i64 3, .slice A3 2 c3] 24)).alloc (.cells #[.int .i64 2] 3)).heap.size := by rw [World.size_alloc]; omega
  replace hw := below_step hw (al _ (.cells #[.int .i64 2] 3))
  rw [World.size_alloc] at hx
  go_wp2_with (first | (refine wpList_store_row rfl 24 _ _ rfl v2.heap.size _ rfl rfl 24 _ hn pool_size rfl (pv_one _ _ _ _) ?_; rw [World.setRow_alloc_new]; simp only [Act.put]))
  refine (freeL_any (some ⟨v2.heap.size + 1, 0, none⟩) 1 1 _).mono ?_
  rintro e v3 ⟨rfl, hb⟩
  replace hg1 := hg1.below hb
  replace hB1 := hB1.below hb
  replace hg3 := hg3.below hb
  replace hB3 := hB3.below hb
  replace hx := hx.below hb
  replace hL := hL.below hb h0
  replace h0 : 0 < v3.heap.size := Nat.lt_of_lt_of_le h0 hb.size
  replace hw := below_step hw hb
  clear hb
  clear hn
  generalize v2.heap.size = B3 at *
  go_wp2_with fail
  refine (show Calls Tryd.prog 20 #[.agg #[.int .i64 3, .slice (some ⟨B3 + 1, 0, none⟩) 1 1], .int .i64 0] _ (RetP _ 3 [0, 2] 0) from Give_ok 3 (some ⟨B3 + 1, 0, none⟩) 1 [2] 0 _ hx (by decide)).mono ?_
  rintro e v4 ⟨A6, c6, rfl, ho, hb⟩
  replace hg1 := hg1.below hb
  replace hB1 := hB1.below hb
  replace hg3 := hg3.below hb
  replace hB3 := hB3.below hb
  replace hx := hx.below hb
  replace hL := hL.below hb h0
  replace h0 : 0 < v4.heap.size := Nat.lt_of_lt_of_le h0 hb.size
  replace hw := below_step hw hb
  clear hb
  clear hx
  have hg6 := OwnI.gi ho
  clear ho
  have hn := Bx.new v4 24 #[.int .i64 0, .slice none 0 0]
  replace hg1 := hg1.alloc (.cells #[.int .i64 3, .slice A6 2 c6] 24)
  replace hB1 := hB1.alloc (.cells #[.int .i64 3, .slice A6 2 c6] 24)
  replace hg3 := hg3.alloc (.cells #[.int .i64 3, .slice A6 2 c6] 24)
  replace hB3 := hB3.alloc (.cells #[.int .i64 3, .slice A6 2 c6] 24)
  replace hg6 := hg6.alloc (.cells #[.int .i64 3, .slice A6 2 c6] 24)
  replace hL := hL.below (al v4 (.cells #[.int .i64 3, .slice A6 2 c6] 24)) h0
  replace h0 : 0 < (v4.alloc (.cells #[.int .i64 3, .slice A6 2 c6] 24)).heap.size := by rw [World.size_alloc]; omega
  replace hw := below_step hw (al _ (.cells #[.int .i64 3, .slice A6 2 c6] 24))
  have hB6 := Bx.new v4 24 #[.int .i64 3, .slice A6 2 c6]
  go_wp2_with (first | (refine wpList_store_row rfl 24 _ _ rfl v4.heap.size _ rfl rfl 24 _ hn pool_size rfl (pv_one _ _ _ _) ?_; rw [World.setRow_alloc_new]; simp only [Act.put]))
  refine (show Calls Tryd.prog 11 #[.int .i64 9] _ (fun e w' => e = .returned (.tuple #[.int .i64 2, .int .i64 0]) ∧ _ = w') from Frames_any 9 _).mono ?_
  rintro e w' ⟨rfl, rfl⟩
  clear hn
  generalize hW : v4.alloc (.cells #[.int .i64 3, .slice A6 2 c6] 24) = W6 at *
  generalize v4.heap.size = B6 at *
  clear hW
  have hx := gi_bx (xs := [2]) (Bx.new W6 3 #[.int .i64 2]) rfl (by simp [maxLen])
  replace hg1 := hg1.alloc (.cells #[.int .i64 2] 3)
  replace hB1 := hB1.alloc (.cells #[.int .i64 2] 3)
  replace hg3 := hg3.alloc (.cells #[.int .i64 2] 3)
  replace hB3 := hB3.alloc (.cells #[.int .i64 2] 3)
  replace hg6 := hg6.alloc (.cells #[.int .i64 2] 3)
  replace hB6 := hB6.alloc (.cells #[.int .i64 2] 3)
  replace hL := hL.below (al W6 (.cells #[.int .i64 2] 3)) h0
  replace h0 : 0 < (W6.alloc (.cells #[.int .i64 2] 3)).heap.size := by rw [World.size_alloc]; omega
  replace hw := below_step hw (al _ (.cells #[.int .i64 2] 3))
  go_wp2_with fail
  refine (freeL_any (some ⟨W6.heap.size, 0, none⟩) 1 1 _).mono ?_
  rintro e v5 ⟨rfl, hb⟩
  replace hg1 := hg1.below hb
  replace hB1 := hB1.below hb
  replace hg3 := hg3.below hb
  replace hB3 := hB3.below hb
  replace hg6 := hg6.below hb
  replace hB6 := hB6.below hb
  replace hx := hx.below hb
  replace hL := hL.below hb h0
  replace h0 : 0 < v5.heap.size := Nat.lt_of_lt_of_le h0 hb.size
  replace hw := below_step hw hb
  clear hb
  go_wp2_with fail
  refine (show Calls Tryd.prog 24 #[.agg #[.int .i64 3, .slice (some ⟨W6.heap.size, 0, none⟩) 1 1]] _ (RetL _ [0, 1] 0) from Taken_ok 3 (some ⟨W6.heap.size, 0, none⟩) 1 [2] _ hL h0 hx (chkP_ok (by decide))).mono ?_
  rintro e v6 ⟨A10, c10, rfl, ho, hb⟩
  replace hg1 := hg1.below hb
  replace hB1 := hB1.below hb
  replace hg3 := hg3.below hb
  replace hB3 := hB3.below hb
  replace hg6 := hg6.below hb
  replace hB6 := hB6.below hb
  replace hx := hx.below hb
  replace hL := hL.below hb h0
  replace h0 : 0 < v6.heap.size := Nat.lt_of_lt_of_le h0 hb.size
  replace hw := below_step hw hb
  clear hb
  clear hx
  have hgl := OwnI.gi ho
  clear ho
  have hx := gi_bx (xs := [0, 2]) (Bx.new v6 3 #[.int .i64 0, .int .i64 2]) rfl (by simp [maxLen])
  replace hg1 := hg1.alloc (.cells #[.int .i64 0, .int .i64 2] 3)
  replace hB1 := hB1.alloc (.cells #[.int .i64 0, .int .i64 2] 3)
  replace hg3 := hg3.alloc (.cells #[.int .i64 0, .int .i64 2] 3)
  replace hB3 := hB3.alloc (.cells #[.int .i64 0, .int .i64 2] 3)
  replace hg6 := hg6.alloc (.cells #[.int .i64 0, .int .i64 2] 3)
  replace hB6 := hB6.alloc (.cells #[.int .i64 0, .int .i64 2] 3)
  replace hgl := hgl.alloc (.cells #[.int .i64 0, .int .i64 2] 3)
  replace hL := hL.below (al v6 (.cells #[.int .i64 0, .int .i64 2] 3)) h0
  replace h0 : 0 < (v6.alloc (.cells #[.int .i64 0, .int .i64 2] 3)).heap.size := by rw [World.size_alloc]; omega
  replace hw := below_step hw (al _ (.cells #[.int .i64 0, .int .i64 2] 3))
  go_wp2_with fail
  refine (freeL_any (some ⟨v6.heap.size, 0, none⟩) 2 2 _).mono ?_
  rintro e v7 ⟨rfl, hb⟩
  replace hg1 := hg1.below hb
  replace hB1 := hB1.below hb
  replace hg3 := hg3.below hb
  replace hB3 := hB3.below hb
  replace hg6 := hg6.below hb
  replace hB6 := hB6.below hb
  replace hgl := hgl.below hb
  replace hx := hx.below hb
  replace hL := hL.below hb h0
  replace h0 : 0 < v7.heap.size := Nat.lt_of_lt_of_le h0 hb.size
  replace hw := below_step hw hb
  clear hb
  go_wp2_with fail
  refine (show Calls Tryd.prog 16 #[.agg #[.int .i64 3, .slice (some ⟨v6.heap.size, 0, none⟩) 2 2]] _ (RetB _ (.returned (.tuple #[.int .i64 0, .int .i64 0]))) from Check_any 3 (some ⟨v6.heap.size, 0, none⟩) 2 [0, 2] _ hx).mono ?_
  rintro e v8 ⟨rfl, hb⟩
  replace hg1 := hg1.below hb
  replace hB1 := hB1.below hb
  replace hg3 := hg3.below hb
  replace hB3 := hB3.below hb
  replace hg6 := hg6.below hb
  replace hB6 := hB6.below hb
  replace hgl := hgl.below hb
  replace hx := hx.below hb
  replace hL := hL.below hb h0
  replace h0 : 0 < v8.heap.size := Nat.lt_of_lt_of_le h0 hb.size
  replace hw := below_step hw hb
  clear hb
  clear hx
  go_upto_region 7 with fail
  rename_i K hK
  refine aw7 (W := v8) A1 A3 A6 A10 c1 c3 c6 c10 B1 B3 B6 rfl rfl rfl rfl rfl rfl rfl rfl rfl rfl rfl rfl rfl hB1 hB3 hB6 hg1 hg3 hg6 hgl ?_
  rintro a' w9 hF hb f0
  refine hK _ _ ?_
  obtain ⟨fv, hfv, hfr⟩ := hF.lit [46, 47, 48, 49, 50, 51, 52, 53, 54, 55, 56, 57, 58, 59, 60, 61, 62, 63, 64, 65, 66, 67, 68, 69, 70, 71, 72, 73, 74, 75, 76, 77, 78, 79, 80, 81, 82, 83, 84, 85, 86, 87, 88, 89, 90, 91, 92, 93, 94, 95, 96, 97, 98, 0] (dsts_in (by kernel_rfl))
  have ev0 := hfv 0 _ f0
  subst hfr
  simp only [List.foldl_cons, List.foldl_nil, Act.put, List.setIfInBounds_toArray, List.set_cons_zero, List.set_cons_succ, ev0]
  clear hfv hF ev0 f0
  generalize fv 46 = u46
  generalize fv 47 = u47
  generalize fv 48 = u48
  generalize fv 49 = u49
  generalize fv 50 = u50
  generalize fv 51 = u51
  generalize fv 52 = u52
  generalize fv 53 = u53
  generalize fv 54 = u54
  generalize fv 55 = u55
  generalize fv 56 = u56
  generalize fv 57 = u57
  generalize fv 58 = u58
  generalize fv 59 = u59
  generalize fv 60 = u60
  generalize fv 61 = u61
  generalize fv 62 = u62
  generalize fv 63 = u63
  generalize fv 64 = u64
  generalize fv 65 = u65
  generalize fv 66 = u66
  generalize fv 67 = u67
  generalize fv 68 = u68
  generalize fv 69 = u69
  generalize fv 70 = u70
  generalize fv 71 = u71
  generalize fv 72 = u72
  generalize fv 73 = u73
  generalize fv 74 = u74
  generalize fv 75 = u75
  generalize fv 76 = u76
  generalize fv 77 = u77
  generalize fv 78 = u78
  generalize fv 79 = u79
  generalize fv 80 = u80
  generalize fv 81 = u81
  generalize fv 82 = u82
  generalize fv 83 = u83
  generalize fv 84 = u84
  generalize fv 85 = u85
  generalize fv 86 = u86
  generalize fv 87 = u87
  generalize fv 88 = u88
  generalize fv 89 = u89
  generalize fv 90 = u90
  generalize fv 91 = u91
  generalize fv 92 = u92
  generalize fv 93 = u93
  generalize fv 94 = u94
  generalize fv 95 = u95
  generalize fv 96 = u96
  generalize fv 97 = u97
  generalize fv 98 = u98
  clear fv
  clear hK K
  go_wp2
  go_ret
  exact ⟨rfl, below_step hw hb⟩
end Go.Proofs.YtoimmfcodflmkaaDoor
