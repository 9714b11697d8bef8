/- The statement FaultKnown. -/
import Derived.Test.YtbcfnocefjolfaaH3
namespace Go.Proofs.Ytbcfnocefjolfaa
open Go.RowKit
set_option linter.unusedVariables false

set_option maxHeartbeats 1000000 in
theorem most_yes (tk kind proc a b val st : Int) (A : Option Addr) (c : Nat) (xs : List Int) (slot : Int) (m : Int) (w : World) (ha : GI w A c xs) (hc : chkE tk kind proc a b val st xs slot = 0) (hm : mostV kind st xs.length = m) :
    Calls Try.prog 31 #[.agg #[.int .u64 tk, .int .i64 kind, .int .i64 proc, .int .i64 a, .int .i64 b, .int .u64 val, .int .i64 st, .slice A xs.length c, .int .i64 slot], .int .i64 m] w (RetB w (.returned (.bool true))) := by
  have hx := Bx.new w 27 #[.int .u64 tk, .int .i64 kind, .int .i64 proc, .int .i64 a, .int .i64 b, .int .u64 val, .int .i64 st, .slice A xs.length c, .int .i64 slot]
  have hw := al w (.cells #[.int .u64 tk, .int .i64 kind, .int .i64 proc, .int .i64 a, .int .i64 b, .int .u64 val, .int .i64 st, .slice A xs.length c, .int .i64 slot] 27)
  have HM := Lib.hid (Most_ok tk kind proc a b val st A c xs slot _ (ha.below hw) hc)
  rw [hm] at HM
  have e1 : (m == m) = true := by simp
  clear ha hc hm
  go_enter Try.func31, Try.ntmps31
  go_wp2_with (first | (refine wpList_load_row rfl 27 _ rfl (w.heap.size) rfl 27 _ _ _ hx Try.underlying27 rfl req_size ?_))
  refine HM.out.mono ?_
  rintro e w1 ⟨rfl, hb1⟩
  go_wp2
  go_ret
  exact ⟨rfl, below_step hw hb1⟩

theorem gi_bx {w : World} {B : Nat} {t : TypeId} {cs : Array Value} {xs : List Int} (h : Bx w B t cs) (hc : cs = (iv xs).toArray) (hl : xs.length ≤ maxLen) : GI w (some ⟨B, 0, none⟩) xs.length xs := by
  subst hc
  refine ⟨Nat.le_refl _, hl, by rw [iv_len]; omega, fun _ => ⟨_, rfl, h.lt, fun j u hu => ?_⟩⟩
  rw [mk_add, Nat.zero_add, h.cell j]
  simpa using hu

noncomputable def kn9_l : List Oper := (Try.f7.body.bind (regIn · 9)).getD []
theorem kn9_o0 : kn9_l[0]?.map (fun o => (o.dst, o.op, o.guard)) = some (some 67, .move (.tmp 2), none) := by kernel_rfl
theorem kn9_o1 : kn9_l[1]?.map (fun o => (o.dst, o.op, o.guard)) = some (some 68, .binOp .neq 29 (.tmp 67) (.const (.int .i64 0)) 29, none) := by kernel_rfl
theorem kn9_o2 : kn9_l[2]?.map (fun o => (o.dst, o.op, o.guard)) = some (some 69, .move (.tmp 68), none) := by kernel_rfl
theorem kn9_o3 : kn9_l[3]?.map (fun o => (o.dst, o.op, o.guard)) = some (some 70, .move (.tmp 5), some (2, false)) := by kernel_rfl
theorem kn9_o4 : kn9_l[4]?.map (fun o => (o.dst, o.op, o.guard)) = some (some 71, .binOp .neq 29 (.tmp 70) (.const (.int .i64 0)) 29, some (2, false)) := by kernel_rfl
theorem kn9_o5 : kn9_l[5]?.map (fun o => (o.dst, o.op, o.guard)) = some (some 72, .pick (.tmp 69) (.const (.bool true)) (.tmp 71), none) := by kernel_rfl
theorem kn9_o6 : kn9_l[6]?.map (fun o => (o.dst, o.op, o.guard)) = some (some 73, .move (.tmp 72), none) := by kernel_rfl
theorem kn9_o7 : kn9_l[7]?.map (fun o => (o.dst, o.op, o.guard)) = some (some 74, .move (.tmp 7), some (6, false)) := by kernel_rfl
theorem kn9_o8 : kn9_l[8]?.map (fun o => (o.dst, o.op, o.guard)) = some (some 75, .binOp .neq 29 (.tmp 74) (.const (.int .i64 0)) 29, some (6, false)) := by kernel_rfl
theorem kn9_o9 : kn9_l[9]?.map (fun o => (o.dst, o.op, o.guard)) = some (some 76, .pick (.tmp 73) (.const (.bool true)) (.tmp 75), none) := by kernel_rfl
theorem kn9_o10 : kn9_l[10]?.map (fun o => (o.dst, o.op, o.guard)) = some (some 77, .move (.tmp 76), none) := by kernel_rfl
theorem kn9_o11 : kn9_l[11]?.map (fun o => (o.dst, o.op, o.guard)) = some (some 78, .fieldAddr 27 (.tmp 3) 2, some (10, false)) := by kernel_rfl
theorem kn9_o12 : kn9_l[12]?.map (fun o => (o.dst, o.op, o.guard)) = some (some 79, .load 3 (.tmp 78), some (10, false)) := by kernel_rfl
theorem kn9_o13 : kn9_l[13]?.map (fun o => (o.dst, o.op, o.guard)) = some (some 80, .binOp .neq 3 (.tmp 79) (.const (.int .i64 4)) 3, some (10, false)) := by kernel_rfl
theorem kn9_o14 : kn9_l[14]?.map (fun o => (o.dst, o.op, o.guard)) = some (some 81, .pick (.tmp 77) (.const (.bool true)) (.tmp 80), none) := by kernel_rfl
theorem kn9_o15 : kn9_l[15]?.map (fun o => (o.dst, o.op, o.guard)) = some (some 82, .move (.tmp 81), none) := by kernel_rfl
theorem kn9_o16 : kn9_l[16]?.map (fun o => (o.dst, o.op, o.guard)) = some (some 83, .load 27 (.tmp 3), some (15, false)) := by kernel_rfl
theorem kn9_o17 : kn9_l[17]?.map (fun o => (o.dst, o.op, o.guard)) = some (some 84, .build 38 #[(0, .const (.int .i64 8))], some (15, false)) := by kernel_rfl
theorem kn9_o18 : kn9_l[18]?.map (fun o => (o.dst, o.op, o.guard)) = some (some 85, .call { callee := .value (.func 28), args := #[(.tmp 83), (.tmp 84), (.const (.int .i64 7)), (.const (.int .i64 1))], argTypes := #[27, 38, 3, 3] }, some (15, false)) := by kernel_rfl
theorem kn9_o19 : kn9_l[19]?.map (fun o => (o.dst, o.op, o.guard)) = some (some 86, .unOp .not 4 (.tmp 85), some (15, false)) := by kernel_rfl
theorem kn9_o20 : kn9_l[20]?.map (fun o => (o.dst, o.op, o.guard)) = some (some 87, .pick (.tmp 82) (.const (.bool true)) (.tmp 86), none) := by kernel_rfl
theorem kn9_o21 : kn9_l[21]?.map (fun o => (o.dst, o.op, o.guard)) = some (some 88, .move (.tmp 87), none) := by kernel_rfl
theorem kn9_o22 : kn9_l[22]?.map (fun o => (o.dst, o.op, o.guard)) = some (some 89, .load 27 (.tmp 6), some (21, false)) := by kernel_rfl
theorem kn9_o23 : kn9_l[23]?.map (fun o => (o.dst, o.op, o.guard)) = some (some 90, .call { callee := .value (.func 29), args := #[], argTypes := #[] }, some (21, false)) := by kernel_rfl
theorem kn9_o24 : kn9_l[24]?.map (fun o => (o.dst, o.op, o.guard)) = some (some 91, .call { callee := .value (.func 13), args := #[(.tmp 89), (.tmp 90)], argTypes := #[27, 27] }, some (21, false)) := by kernel_rfl
theorem kn9_o25 : kn9_l[25]?.map (fun o => (o.dst, o.op, o.guard)) = some (some 92, .unOp .not 4 (.tmp 91), some (21, false)) := by kernel_rfl
theorem kn9_o26 : kn9_l[26]?.map (fun o => (o.dst, o.op, o.guard)) = some (some 93, .pick (.tmp 88) (.const (.bool true)) (.tmp 92), none) := by kernel_rfl
def kn9_sp (A3 A6 : Option Addr) (c3 c6 : Nat) (B3 B6 : Nat) (W : World) : Nat → Spec
  | 0 => ⟨Unit, [67], fun _ => [(67, .int .i64 0)], fun _ _ => True⟩
  | 1 => ⟨Unit, [68], fun _ => [(68, .bool false)], fun _ _ => True⟩
  | 2 => ⟨Unit, [69], fun _ => [(69, .bool false)], fun _ _ => True⟩
  | 3 => ⟨Unit, [70], fun _ => [(70, .int .i64 0)], fun _ _ => True⟩
  | 4 => ⟨Unit, [71], fun _ => [(71, .bool false)], fun _ _ => True⟩
  | 5 => ⟨Unit, [72], fun _ => [(72, .bool false)], fun _ _ => True⟩
  | 6 => ⟨Unit, [73], fun _ => [(73, .bool false)], fun _ _ => True⟩
  | 7 => ⟨Unit, [74], fun _ => [(74, .int .i64 0)], fun _ _ => True⟩
  | 8 => ⟨Unit, [75], fun _ => [(75, .bool false)], fun _ _ => True⟩
  | 9 => ⟨Unit, [76], fun _ => [(76, .bool false)], fun _ _ => True⟩
  | 10 => ⟨Unit, [77], fun _ => [(77, .bool false)], fun _ _ => True⟩
  | 11 => ⟨Unit, [78], fun _ => [(78, .pointer (some ⟨B3, 6, none⟩))], fun _ _ => True⟩
  | 12 => ⟨Unit, [79], fun _ => [(79, .int .i64 4)], fun _ _ => True⟩
  | 13 => ⟨Unit, [80], fun _ => [(80, .bool false)], fun _ _ => True⟩
  | 14 => ⟨Unit, [81], fun _ => [(81, .bool false)], fun _ _ => True⟩
  | 15 => ⟨Unit, [82], fun _ => [(82, .bool false)], fun _ _ => True⟩
  | 16 => ⟨Unit, [83], fun _ => [(83, .agg #[.int .u64 5, .int .i64 5, .int .i64 2, .int .i64 9, .int .i64 0, .int .u64 1, .int .i64 4, .slice A3 1 c3, .int .i64 7])], fun _ _ => True⟩
  | 17 => ⟨Unit, [84], fun _ => [(84, .agg #[.int .i64 8, .bool false, .bool false, .int .i64 0, .bool false])], fun _ _ => True⟩
  | 18 => ⟨Unit, [85], fun _ => [(85, .bool true)], fun _ _ => True⟩
  | 19 => ⟨Unit, [86], fun _ => [(86, .bool false)], fun _ _ => True⟩
  | 20 => ⟨Unit, [87], fun _ => [(87, .bool false)], fun _ _ => True⟩
  | 21 => ⟨Unit, [88], fun _ => [(88, .bool false)], fun _ _ => True⟩
  | 22 => ⟨Unit, [89], fun _ => [(89, .agg #[.int .u64 5, .int .i64 5, .int .i64 2, .int .i64 9, .int .i64 0, .int .u64 1, .int .i64 1, .slice A6 0 c6, .int .i64 0])], fun _ _ => True⟩
  | 23 => ⟨Unit, [90], fun _ => [(90, .agg #[.int .u64 5, .int .i64 5, .int .i64 2, .int .i64 9, .int .i64 0, .int .u64 1, .int .i64 1, .slice none 0 0, .int .i64 0])], fun _ _ => True⟩
  | 24 => ⟨Unit, [91], fun _ => [(91, .bool true)], fun _ _ => True⟩
  | 25 => ⟨Unit, [92], fun _ => [(92, .bool false)], fun _ _ => True⟩
  | 26 => ⟨Unit, [93], fun _ => [(93, .bool false)], fun _ _ => True⟩
  | _ => ⟨Unit, [], fun _ => [], fun _ _ => True⟩
theorem kn9_fb (A3 A6 : Option Addr) (c3 c6 : Nat) (B3 B6 : Nat) (W : World) : slB kn9_l (fun j => (kn9_sp A3 A6 c3 c6 B3 B6 W j).ss) = true := by kernel_rfl
set_option maxHeartbeats 2000000 in
theorem kn9 {Q : Exit → Act → World → Prop} {a0 : Act} {W : World} (A3 A6 : Option Addr) (c3 c6 : Nat) (B3 B6 : Nat)  (z0 : a0.tmps.size = 156) (p2 : Sv a0 2 (.int .i64 0)) (p3 : Sv a0 3 (.pointer (some ⟨B3, 0, none⟩))) (p5 : Sv a0 5 (.int .i64 0)) (p6 : Sv a0 6 (.pointer (some ⟨B6, 0, none⟩))) (p7 : Sv a0 7 (.int .i64 0)) (hB3 : Bx W B3 27 #[.int .u64 5, .int .i64 5, .int .i64 2, .int .i64 9, .int .i64 0, .int .u64 1, .int .i64 4, .slice A3 1 c3, .int .i64 7]) (hB6 : Bx W B6 27 #[.int .u64 5, .int .i64 5, .int .i64 2, .int .i64 9, .int .i64 0, .int .u64 1, .int .i64 1, .slice A6 0 c6, .int .i64 0]) (hg3 : GI W A3 c3 [40]) (hg6 : GI W A6 c6 [])
    (fin : ∀ ac w, Fr a0 kn9_l ac → Below W.heap.size W w → (Sv ac 93 (.bool false)) → Q .normal ac w) : (Code.region 9 kn9_l.toArray true).wp Try.prog Q a0 W := by
  refine region_of (n := 27) (by kernel_rfl) (by kernel_rfl) (by kernel_rfl) (kn9_sp A3 A6 c3 c6 B3 B6 W) (kn9_fb A3 A6 c3 c6 B3 B6 W) (fun w => Below W.heap.size W w) (stpN 27 []) (bel0 W) ?_ ?_ ?_
  · intro i hi ac w hF hI hk
    have z := hF.1.trans z0
    have f2 := hF.sv (s := 2) (by kernel_rfl) p2
    have f3 := hF.sv (s := 3) (by kernel_rfl) p3
    have f5 := hF.sv (s := 5) (by kernel_rfl) p5
    have f6 := hF.sv (s := 6) (by kernel_rfl) p6
    have f7 := hF.sv (s := 7) (by kernel_rfl) p7
    match i, hi with
    | 0, _ =>
      exact ob_val (v := .int .i64 0) kn9_o0 (.inl rfl) (ev_move f2.eval) ⟨⟨_, rfl⟩, hI, Below.refl _ _, ⟨(), rfl, sv1 (Sv.dst (by kernel_rfl) (by rw [z]; decide) _), trivial⟩⟩
    | 1, _ =>
      obtain ⟨⟨⟩, -, hs0, hw0⟩ := hk 0 (mem_reach (by kernel_rfl))
      have f67 : Sv ac 67 (.int .i64 0) := hs0 _ (List.Mem.head _)
      exact ob_val (v := .bool false) kn9_o1 (.inl rfl) (fun o ho => by have e0 := f67.eval; have e1 : ac.eval (.const (.int .i64 0)) = .int .i64 0 := rfl; generalize ac.eval = ρ at *; simp [execOp, ho, e0, e1, go_sem]) ⟨⟨_, rfl⟩, hI, Below.refl _ _, ⟨(), rfl, sv1 (Sv.dst (by kernel_rfl) (by rw [z]; decide) _), trivial⟩⟩
    | 2, _ =>
      obtain ⟨⟨⟩, -, hs1, hw1⟩ := hk 1 (mem_reach (by kernel_rfl))
      have f68 : Sv ac 68 (.bool false) := hs1 _ (List.Mem.head _)
      exact ob_val (v := .bool false) kn9_o2 (.inl rfl) (ev_move f68.eval) ⟨⟨_, rfl⟩, hI, Below.refl _ _, ⟨(), rfl, sv1 (Sv.dst (by kernel_rfl) (by rw [z]; decide) _), trivial⟩⟩
    | 3, _ =>
      obtain ⟨⟨⟩, -, hs2, hw2⟩ := hk 2 (mem_reach (by kernel_rfl))
      have f69 : Sv ac 69 (.bool false) := hs2 _ (List.Mem.head _)
      exact ob_val (v := .int .i64 0) kn9_o3 (.inr ⟨2, false, 69, rfl, by kernel_rfl, f69⟩) (ev_move f5.eval) ⟨⟨_, rfl⟩, hI, Below.refl _ _, ⟨(), rfl, sv1 (Sv.dst (by kernel_rfl) (by rw [z]; decide) _), trivial⟩⟩
    | 4, _ =>
      obtain ⟨⟨⟩, -, hs3, hw3⟩ := hk 3 (mem_reach (by kernel_rfl))
      have f70 : Sv ac 70 (.int .i64 0) := hs3 _ (List.Mem.head _)
      obtain ⟨⟨⟩, -, hs2, hw2⟩ := hk 2 (mem_reach (by kernel_rfl))
      have f69 : Sv ac 69 (.bool false) := hs2 _ (List.Mem.head _)
      exact ob_val (v := .bool false) kn9_o4 (.inr ⟨2, false, 69, rfl, by kernel_rfl, f69⟩) (fun o ho => by have e0 := f70.eval; have e1 : ac.eval (.const (.int .i64 0)) = .int .i64 0 := rfl; generalize ac.eval = ρ at *; simp [execOp, ho, e0, e1, go_sem]) ⟨⟨_, rfl⟩, hI, Below.refl _ _, ⟨(), rfl, sv1 (Sv.dst (by kernel_rfl) (by rw [z]; decide) _), trivial⟩⟩
    | 5, _ =>
      obtain ⟨⟨⟩, -, hs2, hw2⟩ := hk 2 (mem_reach (by kernel_rfl))
      have f69 : Sv ac 69 (.bool false) := hs2 _ (List.Mem.head _)
      obtain ⟨⟨⟩, -, hs4, hw4⟩ := hk 4 (mem_reach (by kernel_rfl))
      have f71 : Sv ac 71 (.bool false) := hs4 _ (List.Mem.head _)
      exact ob_val (v := .bool false) kn9_o5 (.inl rfl) (fun o ho => ev_pickF f69.eval f71.eval o ho) ⟨⟨_, rfl⟩, hI, Below.refl _ _, ⟨(), rfl, sv1 (Sv.dst (by kernel_rfl) (by rw [z]; decide) _), trivial⟩⟩
    | 6, _ =>
      obtain ⟨⟨⟩, -, hs5, hw5⟩ := hk 5 (mem_reach (by kernel_rfl))
      have f72 : Sv ac 72 (.bool false) := hs5 _ (List.Mem.head _)
      exact ob_val (v := .bool false) kn9_o6 (.inl rfl) (ev_move f72.eval) ⟨⟨_, rfl⟩, hI, Below.refl _ _, ⟨(), rfl, sv1 (Sv.dst (by kernel_rfl) (by rw [z]; decide) _), trivial⟩⟩
    | 7, _ =>
      obtain ⟨⟨⟩, -, hs6, hw6⟩ := hk 6 (mem_reach (by kernel_rfl))
      have f73 : Sv ac 73 (.bool false) := hs6 _ (List.Mem.head _)
      exact ob_val (v := .int .i64 0) kn9_o7 (.inr ⟨6, false, 73, rfl, by kernel_rfl, f73⟩) (ev_move f7.eval) ⟨⟨_, rfl⟩, hI, Below.refl _ _, ⟨(), rfl, sv1 (Sv.dst (by kernel_rfl) (by rw [z]; decide) _), trivial⟩⟩
    | 8, _ =>
      obtain ⟨⟨⟩, -, hs7, hw7⟩ := hk 7 (mem_reach (by kernel_rfl))
      have f74 : Sv ac 74 (.int .i64 0) := hs7 _ (List.Mem.head _)
      obtain ⟨⟨⟩, -, hs6, hw6⟩ := hk 6 (mem_reach (by kernel_rfl))
      have f73 : Sv ac 73 (.bool false) := hs6 _ (List.Mem.head _)
      exact ob_val (v := .bool false) kn9_o8 (.inr ⟨6, false, 73, rfl, by kernel_rfl, f73⟩) (fun o ho => by have e0 := f74.eval; have e1 : ac.eval (.const (.int .i64 0)) = .int .i64 0 := rfl; generalize ac.eval = ρ at *; simp [execOp, ho, e0, e1, go_sem]) ⟨⟨_, rfl⟩, hI, Below.refl _ _, ⟨(), rfl, sv1 (Sv.dst (by kernel_rfl) (by rw [z]; decide) _), trivial⟩⟩
    | 9, _ =>
      obtain ⟨⟨⟩, -, hs6, hw6⟩ := hk 6 (mem_reach (by kernel_rfl))
      have f73 : Sv ac 73 (.bool false) := hs6 _ (List.Mem.head _)
      obtain ⟨⟨⟩, -, hs8, hw8⟩ := hk 8 (mem_reach (by kernel_rfl))
      have f75 : Sv ac 75 (.bool false) := hs8 _ (List.Mem.head _)
      exact ob_val (v := .bool false) kn9_o9 (.inl rfl) (fun o ho => ev_pickF f73.eval f75.eval o ho) ⟨⟨_, rfl⟩, hI, Below.refl _ _, ⟨(), rfl, sv1 (Sv.dst (by kernel_rfl) (by rw [z]; decide) _), trivial⟩⟩
    | 10, _ =>
      obtain ⟨⟨⟩, -, hs9, hw9⟩ := hk 9 (mem_reach (by kernel_rfl))
      have f76 : Sv ac 76 (.bool false) := hs9 _ (List.Mem.head _)
      exact ob_val (v := .bool false) kn9_o10 (.inl rfl) (ev_move f76.eval) ⟨⟨_, rfl⟩, hI, Below.refl _ _, ⟨(), rfl, sv1 (Sv.dst (by kernel_rfl) (by rw [z]; decide) _), trivial⟩⟩
    | 11, _ =>
      obtain ⟨⟨⟩, -, hs10, hw10⟩ := hk 10 (mem_reach (by kernel_rfl))
      have f77 : Sv ac 77 (.bool false) := hs10 _ (List.Mem.head _)
      exact ob_val (v := .pointer (some ⟨B3, 6, none⟩)) kn9_o11 (.inr ⟨10, false, 77, rfl, by kernel_rfl, f77⟩) (fun o ho => by have e1 := f3.eval; generalize ac.eval = ρ at *; simp [execOp, ho, e1, go_sem]) ⟨⟨_, rfl⟩, hI, Below.refl _ _, ⟨(), rfl, sv1 (Sv.dst (by kernel_rfl) (by rw [z]; decide) _), trivial⟩⟩
    | 12, _ =>
      obtain ⟨⟨⟩, -, hs11, hw11⟩ := hk 11 (mem_reach (by kernel_rfl))
      have f78 : Sv ac 78 (.pointer (some ⟨B3, 6, none⟩)) := hs11 _ (List.Mem.head _)
      obtain ⟨⟨⟩, -, hs10, hw10⟩ := hk 10 (mem_reach (by kernel_rfl))
      have f77 : Sv ac 77 (.bool false) := hs10 _ (List.Mem.head _)
      exact ob_val (v := .int .i64 4) kn9_o12 (.inr ⟨10, false, 77, rfl, by kernel_rfl, f77⟩) (fun o ho => by have e1 := f78.eval; have hc : w.cell? ⟨B3, 6, none⟩ = some (.int .i64 4) := (hB3.below hI).cell 6; generalize ac.eval = ρ at *; simp [execOp, ho, e1, hc, go_sem]) ⟨⟨_, rfl⟩, hI, Below.refl _ _, ⟨(), rfl, sv1 (Sv.dst (by kernel_rfl) (by rw [z]; decide) _), trivial⟩⟩
    | 13, _ =>
      obtain ⟨⟨⟩, -, hs12, hw12⟩ := hk 12 (mem_reach (by kernel_rfl))
      have f79 : Sv ac 79 (.int .i64 4) := hs12 _ (List.Mem.head _)
      obtain ⟨⟨⟩, -, hs10, hw10⟩ := hk 10 (mem_reach (by kernel_rfl))
      have f77 : Sv ac 77 (.bool false) := hs10 _ (List.Mem.head _)
      exact ob_val (v := .bool false) kn9_o13 (.inr ⟨10, false, 77, rfl, by kernel_rfl, f77⟩) (fun o ho => by have e0 := f79.eval; have e1 : ac.eval (.const (.int .i64 4)) = .int .i64 4 := rfl; generalize ac.eval = ρ at *; simp [execOp, ho, e0, e1, go_sem]) ⟨⟨_, rfl⟩, hI, Below.refl _ _, ⟨(), rfl, sv1 (Sv.dst (by kernel_rfl) (by rw [z]; decide) _), trivial⟩⟩
    | 14, _ =>
      obtain ⟨⟨⟩, -, hs10, hw10⟩ := hk 10 (mem_reach (by kernel_rfl))
      have f77 : Sv ac 77 (.bool false) := hs10 _ (List.Mem.head _)
      obtain ⟨⟨⟩, -, hs13, hw13⟩ := hk 13 (mem_reach (by kernel_rfl))
      have f80 : Sv ac 80 (.bool false) := hs13 _ (List.Mem.head _)
      exact ob_val (v := .bool false) kn9_o14 (.inl rfl) (fun o ho => ev_pickF f77.eval f80.eval o ho) ⟨⟨_, rfl⟩, hI, Below.refl _ _, ⟨(), rfl, sv1 (Sv.dst (by kernel_rfl) (by rw [z]; decide) _), trivial⟩⟩
    | 15, _ =>
      obtain ⟨⟨⟩, -, hs14, hw14⟩ := hk 14 (mem_reach (by kernel_rfl))
      have f81 : Sv ac 81 (.bool false) := hs14 _ (List.Mem.head _)
      exact ob_val (v := .bool false) kn9_o15 (.inl rfl) (ev_move f81.eval) ⟨⟨_, rfl⟩, hI, Below.refl _ _, ⟨(), rfl, sv1 (Sv.dst (by kernel_rfl) (by rw [z]; decide) _), trivial⟩⟩
    | 16, _ =>
      obtain ⟨⟨⟩, -, hs15, hw15⟩ := hk 15 (mem_reach (by kernel_rfl))
      have f82 : Sv ac 82 (.bool false) := hs15 _ (List.Mem.head _)
      exact ob_val (v := .agg #[.int .u64 5, .int .i64 5, .int .i64 2, .int .i64 9, .int .i64 0, .int .u64 1, .int .i64 4, .slice A3 1 c3, .int .i64 7]) kn9_o16 (.inr ⟨15, false, 82, rfl, by kernel_rfl, f82⟩) (ev_row f3.eval (hB3.below hI) Try.underlying27 rfl (n := 9) (by kernel_rfl) rfl) ⟨⟨_, rfl⟩, hI, Below.refl _ _, ⟨(), rfl, sv1 (Sv.dst (by kernel_rfl) (by rw [z]; decide) _), trivial⟩⟩
    | 17, _ =>
      obtain ⟨⟨⟩, -, hs15, hw15⟩ := hk 15 (mem_reach (by kernel_rfl))
      have f82 : Sv ac 82 (.bool false) := hs15 _ (List.Mem.head _)
      exact ob_val (v := .agg #[.int .i64 8, .bool false, .bool false, .int .i64 0, .bool false]) kn9_o17 (.inr ⟨15, false, 82, rfl, by kernel_rfl, f82⟩) (fun o ho => by simp [execOp, ho, go_sem]) ⟨⟨_, rfl⟩, hI, Below.refl _ _, ⟨(), rfl, sv1 (Sv.dst (by kernel_rfl) (by rw [z]; decide) _), trivial⟩⟩
    | 18, _ =>
      obtain ⟨⟨⟩, -, hs16, hw16⟩ := hk 16 (mem_reach (by kernel_rfl))
      have f83 : Sv ac 83 (.agg #[.int .u64 5, .int .i64 5, .int .i64 2, .int .i64 9, .int .i64 0, .int .u64 1, .int .i64 4, .slice A3 1 c3, .int .i64 7]) := hs16 _ (List.Mem.head _)
      obtain ⟨⟨⟩, -, hs17, hw17⟩ := hk 17 (mem_reach (by kernel_rfl))
      have f84 : Sv ac 84 (.agg #[.int .i64 8, .bool false, .bool false, .int .i64 0, .bool false]) := hs17 _ (List.Mem.head _)
      obtain ⟨⟨⟩, -, hs15, hw15⟩ := hk 15 (mem_reach (by kernel_rfl))
      have f82 : Sv ac 82 (.bool false) := hs15 _ (List.Mem.head _)
      refine ob_call (f := 28) (args := #[.agg #[.int .u64 5, .int .i64 5, .int .i64 2, .int .i64 9, .int .i64 0, .int .u64 1, .int .i64 4, .slice A3 1 c3, .int .i64 7], .agg #[.int .i64 8, .bool false, .bool false, .int .i64 0, .bool false], .int .i64 7, .int .i64 1]) (w' := w) (R := fun v w'' => v = .bool true ∧ True ∧ Below w.heap.size w w'') kn9_o18 (.inr ⟨15, false, 82, rfl, by kernel_rfl, f82⟩) (fun o ho => ?_) ((does_yes 5 5 2 9 0 1 4 A3 c3 [40] 7 8 false false 0 false 7 1 w (hg3.below hI) (by decide) (by decide) (by decide)).mono ?_) ?_
      · have e : execOp ac.eval o = (do let d ← resolve ac.eval { callee := .value (.func 28), args := #[(.tmp 83), (.tmp 84), (.const (.int .i64 7)), (.const (.int .i64 1))], argTypes := #[27, 38, 3, 3] } o.type; invoke d.target d.args) := by simp only [execOp, ho]
        have e83 := f83.eval
        have e84 := f84.eval
        have ef : ac.eval (.func 28) = .func (.func 28) #[] #[] := rfl
        have ec2 : ac.eval (.const (.int .i64 7)) = .int .i64 7 := rfl
        have ec3 : ac.eval (.const (.int .i64 1)) = .int .i64 1 := rfl
        rw [e]
        generalize ac.eval = ρ at *
        simp [ef, e83, e84, ec2, ec3, go_sem]
      · rintro e w' ⟨rfl, hb⟩; exact ⟨_, rfl, rfl, trivial, hb⟩
      · rintro v w2 ⟨rfl, hwd, hb⟩
        exact ⟨⟨_, rfl⟩, below_step hI hb, hb, ⟨(), rfl, sv1 (Sv.dst (by kernel_rfl) (by rw [z]; decide) _), hwd⟩⟩
    | 19, _ =>
      obtain ⟨⟨⟩, -, hs18, hw18⟩ := hk 18 (mem_reach (by kernel_rfl))
      have f85 : Sv ac 85 (.bool true) := hs18 _ (List.Mem.head _)
      obtain ⟨⟨⟩, -, hs15, hw15⟩ := hk 15 (mem_reach (by kernel_rfl))
      have f82 : Sv ac 82 (.bool false) := hs15 _ (List.Mem.head _)
      exact ob_val (v := .bool false) kn9_o19 (.inr ⟨15, false, 82, rfl, by kernel_rfl, f82⟩) (ev_not f85.eval) ⟨⟨_, rfl⟩, hI, Below.refl _ _, ⟨(), rfl, sv1 (Sv.dst (by kernel_rfl) (by rw [z]; decide) _), trivial⟩⟩
    | 20, _ =>
      obtain ⟨⟨⟩, -, hs15, hw15⟩ := hk 15 (mem_reach (by kernel_rfl))
      have f82 : Sv ac 82 (.bool false) := hs15 _ (List.Mem.head _)
      obtain ⟨⟨⟩, -, hs19, hw19⟩ := hk 19 (mem_reach (by kernel_rfl))
      have f86 : Sv ac 86 (.bool false) := hs19 _ (List.Mem.head _)
      exact ob_val (v := .bool false) kn9_o20 (.inl rfl) (fun o ho => ev_pickF f82.eval f86.eval o ho) ⟨⟨_, rfl⟩, hI, Below.refl _ _, ⟨(), rfl, sv1 (Sv.dst (by kernel_rfl) (by rw [z]; decide) _), trivial⟩⟩
    | 21, _ =>
      obtain ⟨⟨⟩, -, hs20, hw20⟩ := hk 20 (mem_reach (by kernel_rfl))
      have f87 : Sv ac 87 (.bool false) := hs20 _ (List.Mem.head _)
      exact ob_val (v := .bool false) kn9_o21 (.inl rfl) (ev_move f87.eval) ⟨⟨_, rfl⟩, hI, Below.refl _ _, ⟨(), rfl, sv1 (Sv.dst (by kernel_rfl) (by rw [z]; decide) _), trivial⟩⟩
    | 22, _ =>
      obtain ⟨⟨⟩, -, hs21, hw21⟩ := hk 21 (mem_reach (by kernel_rfl))
      have f88 : Sv ac 88 (.bool false) := hs21 _ (List.Mem.head _)
      exact ob_val (v := .agg #[.int .u64 5, .int .i64 5, .int .i64 2, .int .i64 9, .int .i64 0, .int .u64 1, .int .i64 1, .slice A6 0 c6, .int .i64 0]) kn9_o22 (.inr ⟨21, false, 88, rfl, by kernel_rfl, f88⟩) (ev_row f6.eval (hB6.below hI) Try.underlying27 rfl (n := 9) (by kernel_rfl) rfl) ⟨⟨_, rfl⟩, hI, Below.refl _ _, ⟨(), rfl, sv1 (Sv.dst (by kernel_rfl) (by rw [z]; decide) _), trivial⟩⟩
    | 23, _ =>
      obtain ⟨⟨⟩, -, hs21, hw21⟩ := hk 21 (mem_reach (by kernel_rfl))
      have f88 : Sv ac 88 (.bool false) := hs21 _ (List.Mem.head _)
      refine ob_call (f := 29) (args := #[]) (w' := w) (R := fun v w'' => v = .agg #[.int .u64 5, .int .i64 5, .int .i64 2, .int .i64 9, .int .i64 0, .int .u64 1, .int .i64 1, .slice none 0 0, .int .i64 0] ∧ True ∧ Below w.heap.size w w'') kn9_o23 (.inr ⟨21, false, 88, rfl, by kernel_rfl, f88⟩) (fun o ho => ?_) ((write_any w).mono ?_) ?_
      · have e : execOp ac.eval o = (do let d ← resolve ac.eval { callee := .value (.func 29), args := #[], argTypes := #[] } o.type; invoke d.target d.args) := by simp only [execOp, ho]
        have ef : ac.eval (.func 29) = .func (.func 29) #[] #[] := rfl
        rw [e]
        generalize ac.eval = ρ at *
        simp [ef, go_sem]
      · rintro e w' ⟨rfl, hb⟩; exact ⟨_, rfl, rfl, trivial, hb⟩
      · rintro v w2 ⟨rfl, hwd, hb⟩
        exact ⟨⟨_, rfl⟩, below_step hI hb, hb, ⟨(), rfl, sv1 (Sv.dst (by kernel_rfl) (by rw [z]; decide) _), hwd⟩⟩
    | 24, _ =>
      obtain ⟨⟨⟩, -, hs22, hw22⟩ := hk 22 (mem_reach (by kernel_rfl))
      have f89 : Sv ac 89 (.agg #[.int .u64 5, .int .i64 5, .int .i64 2, .int .i64 9, .int .i64 0, .int .u64 1, .int .i64 1, .slice A6 0 c6, .int .i64 0]) := hs22 _ (List.Mem.head _)
      obtain ⟨⟨⟩, -, hs23, hw23⟩ := hk 23 (mem_reach (by kernel_rfl))
      have f90 : Sv ac 90 (.agg #[.int .u64 5, .int .i64 5, .int .i64 2, .int .i64 9, .int .i64 0, .int .u64 1, .int .i64 1, .slice none 0 0, .int .i64 0]) := hs23 _ (List.Mem.head _)
      obtain ⟨⟨⟩, -, hs21, hw21⟩ := hk 21 (mem_reach (by kernel_rfl))
      have f88 : Sv ac 88 (.bool false) := hs21 _ (List.Mem.head _)
      refine ob_call (f := 13) (args := #[.agg #[.int .u64 5, .int .i64 5, .int .i64 2, .int .i64 9, .int .i64 0, .int .u64 1, .int .i64 1, .slice A6 0 c6, .int .i64 0], .agg #[.int .u64 5, .int .i64 5, .int .i64 2, .int .i64 9, .int .i64 0, .int .u64 1, .int .i64 1, .slice none 0 0, .int .i64 0]]) (w' := w) (R := fun v w'' => v = .bool true ∧ True ∧ Below w.heap.size w w'') kn9_o24 (.inr ⟨21, false, 88, rfl, by kernel_rfl, f88⟩) (fun o ho => ?_) ((SameRequest_yes 5 5 2 9 0 1 1 A6 c6 [] 0 none 0 w (hg6.below hI) (GI.nil _)).mono ?_) ?_
      · have e : execOp ac.eval o = (do let d ← resolve ac.eval { callee := .value (.func 13), args := #[(.tmp 89), (.tmp 90)], argTypes := #[27, 27] } o.type; invoke d.target d.args) := by simp only [execOp, ho]
        have e89 := f89.eval
        have e90 := f90.eval
        have ef : ac.eval (.func 13) = .func (.func 13) #[] #[] := rfl
        rw [e]
        generalize ac.eval = ρ at *
        simp [ef, e89, e90, go_sem]
      · rintro e w' ⟨rfl, hb⟩; exact ⟨_, rfl, rfl, trivial, hb⟩
      · rintro v w2 ⟨rfl, hwd, hb⟩
        exact ⟨⟨_, rfl⟩, below_step hI hb, hb, ⟨(), rfl, sv1 (Sv.dst (by kernel_rfl) (by rw [z]; decide) _), hwd⟩⟩
    | 25, _ =>
      obtain ⟨⟨⟩, -, hs24, hw24⟩ := hk 24 (mem_reach (by kernel_rfl))
      have f91 : Sv ac 91 (.bool true) := hs24 _ (List.Mem.head _)
      obtain ⟨⟨⟩, -, hs21, hw21⟩ := hk 21 (mem_reach (by kernel_rfl))
      have f88 : Sv ac 88 (.bool false) := hs21 _ (List.Mem.head _)
      exact ob_val (v := .bool false) kn9_o25 (.inr ⟨21, false, 88, rfl, by kernel_rfl, f88⟩) (ev_not f91.eval) ⟨⟨_, rfl⟩, hI, Below.refl _ _, ⟨(), rfl, sv1 (Sv.dst (by kernel_rfl) (by rw [z]; decide) _), trivial⟩⟩
    | 26, _ =>
      obtain ⟨⟨⟩, -, hs21, hw21⟩ := hk 21 (mem_reach (by kernel_rfl))
      have f88 : Sv ac 88 (.bool false) := hs21 _ (List.Mem.head _)
      obtain ⟨⟨⟩, -, hs25, hw25⟩ := hk 25 (mem_reach (by kernel_rfl))
      have f92 : Sv ac 92 (.bool false) := hs25 _ (List.Mem.head _)
      exact ob_val (v := .bool false) kn9_o26 (.inl rfl) (fun o ho => ev_pickF f88.eval f92.eval o ho) ⟨⟨_, rfl⟩, hI, Below.refl _ _, ⟨(), rfl, sv1 (Sv.dst (by kernel_rfl) (by rw [z]; decide) _), trivial⟩⟩
    | k + 27, h => exact absurd h (by omega)
  · intro i j hi hj hij x w w' hI hst hw
    match j, hj, x, hw with
    | 0, _, _, _ => exact trivial
    | 1, _, _, _ => exact trivial
    | 2, _, _, _ => exact trivial
    | 3, _, _, _ => exact trivial
    | 4, _, _, _ => exact trivial
    | 5, _, _, _ => exact trivial
    | 6, _, _, _ => exact trivial
    | 7, _, _, _ => exact trivial
    | 8, _, _, _ => exact trivial
    | 9, _, _, _ => exact trivial
    | 10, _, _, _ => exact trivial
    | 11, _, _, _ => exact trivial
    | 12, _, _, _ => exact trivial
    | 13, _, _, _ => exact trivial
    | 14, _, _, _ => exact trivial
    | 15, _, _, _ => exact trivial
    | 16, _, _, _ => exact trivial
    | 17, _, _, _ => exact trivial
    | 18, _, _, _ => exact trivial
    | 19, _, _, _ => exact trivial
    | 20, _, _, _ => exact trivial
    | 21, _, _, _ => exact trivial
    | 22, _, _, _ => exact trivial
    | 23, _, _, _ => exact trivial
    | 24, _, _, _ => exact trivial
    | 25, _, _, _ => exact trivial
    | 26, _, _, _ => exact trivial
    | k + 27, h, _, _ => exact absurd h (by omega)
  · intro ac w hF hI hall
    obtain ⟨⟨⟩, -, hs26, hw26⟩ := hall 26 (by omega)
    have g26 : (Sv ac 93 (.bool false)) := hs26 _ (List.Mem.head _)
    exact fin ac w hF hI g26

set_option maxRecDepth 100000 in
set_option maxHeartbeats 8000000 in
theorem FaultKnown_walk (w : World) : Calls Try.prog 7 #[] w (RetB w (.returned (.bool true))) := by
  have hw := Below.refl w.heap.size w
  go_enter Try.func7, Try.ntmps7
  go_wp2_with fail
  refine (write_any _).mono ?_
  rintro e v1 ⟨rfl, hb⟩
  replace hw := below_step hw hb
  clear hb
  go_wp2_with fail
  refine (does_yes 5 5 2 9 0 1 1 none 0 [] 0 5 false false 0 false 3 3 _ (GI.nil _) (by decide) (by decide) (by decide)).mono ?_
  rintro e v2 ⟨rfl, hb⟩
  replace hw := below_step hw hb
  clear hb
  go_wp2_with fail
  refine (write_any _).mono ?_
  rintro e v3 ⟨rfl, hb⟩
  replace hw := below_step hw hb
  clear hb
  go_wp2_with fail
  refine (does_yes 5 5 2 9 0 1 1 none 0 [] 0 8 true false 0 false 5 2 _ (GI.nil _) (by decide) (by decide) (by decide)).mono ?_
  rintro e v4 ⟨rfl, hb⟩
  replace hw := below_step hw hb
  clear hb
  go_wp2_with fail
  refine (write_any _).mono ?_
  rintro e v5 ⟨rfl, hb⟩
  replace hw := below_step hw hb
  clear hb
  go_wp2_with fail
  refine (does_yes 5 5 2 9 0 1 1 none 0 [] 0 8 false false 0 false 4 3 _ (GI.nil _) (by decide) (by decide) (by decide)).mono ?_
  rintro e v6 ⟨rfl, hb⟩
  replace hw := below_step hw hb
  clear hb
  go_wp2_with fail
  refine (write_any _).mono ?_
  rintro e v7 ⟨rfl, hb⟩
  replace hw := below_step hw hb
  clear hb
  go_wp2_with fail
  refine (Give_ok 5 5 2 9 0 1 1 none 0 [] 0 40 _ (GI.nil _) (by decide)).mono ?_
  rintro e v8 ⟨A1, c1, rfl, hown, hb⟩
  replace hw := below_step hw hb
  clear hb
  have hg1 := hown.gi
  clear hown
  have hn1 := Bx.new v8 27 #[.int .u64 0, .int .i64 0, .int .i64 0, .int .i64 0, .int .i64 0, .int .u64 0, .int .i64 0, .slice none 0 0, .int .i64 0]
  replace hg1 := hg1.alloc (.cells #[.int .u64 5, .int .i64 5, .int .i64 2, .int .i64 9, .int .i64 0, .int .u64 1, .int .i64 2, .slice A1 1 c1, .int .i64 0] 27)
  have hB1 := Bx.new v8 27 #[.int .u64 5, .int .i64 5, .int .i64 2, .int .i64 9, .int .i64 0, .int .u64 1, .int .i64 2, .slice A1 1 c1, .int .i64 0]
  replace hw := below_step hw (al _ (.cells #[.int .u64 5, .int .i64 5, .int .i64 2, .int .i64 9, .int .i64 0, .int .u64 1, .int .i64 2, .slice A1 1 c1, .int .i64 0] 27))
  obtain ⟨q0, q1, q2, q3, q4, q5, q6, q7, q8⟩ := s9 hB1
  go_wp2_with (first | (refine wpList_store_row rfl 27 _ _ rfl v8.heap.size _ rfl rfl 27 _ hn1 req_size rfl (by simp [Value.oneCell']) ?_; rw [World.setRow_alloc_new]; simp only [Act.put]))
  refine (does_yes 5 5 2 9 0 1 2 A1 c1 [40] 0 6 false false 0 false 1 1 _ hg1 (by decide) (by decide) (by decide)).mono ?_
  rintro e v9 ⟨rfl, hb⟩
  replace hB1 := hB1.below hb
  replace hg1 := hg1.below hb
  replace hw := below_step hw hb
  clear hb
  clear q0 q1 q2 q3 q4 q5 q6 q7 q8
  obtain ⟨q0, q1, q2, q3, q4, q5, q6, q7, q8⟩ := s9 hB1
  clear hn1
  generalize v8.heap.size = B1 at *
  go_wp2_with fail
  refine (does_yes 5 5 2 9 0 1 2 A1 c1 [40] 0 8 false true 0 false 6 2 _ hg1 (by decide) (by decide) (by decide)).mono ?_
  rintro e v10 ⟨rfl, hb⟩
  replace hB1 := hB1.below hb
  replace hg1 := hg1.below hb
  replace hw := below_step hw hb
  clear hb
  clear q0 q1 q2 q3 q4 q5 q6 q7 q8
  obtain ⟨q0, q1, q2, q3, q4, q5, q6, q7, q8⟩ := s9 hB1
  go_wp2_with fail
  refine (does_yes 5 5 2 9 0 1 2 A1 c1 [40] 0 8 false false 0 false 7 2 _ hg1 (by decide) (by decide) (by decide)).mono ?_
  rintro e v11 ⟨rfl, hb⟩
  replace hB1 := hB1.below hb
  replace hg1 := hg1.below hb
  replace hw := below_step hw hb
  clear hb
  clear q0 q1 q2 q3 q4 q5 q6 q7 q8
  obtain ⟨q0, q1, q2, q3, q4, q5, q6, q7, q8⟩ := s9 hB1
  clear q0 q1 q2 q3 q4 q5 q6 q7 q8
  go_wp2_with (first | (refine wpList_load_row rfl 27 _ rfl (B1) rfl 27 _ _ _ hB1 Try.underlying27 rfl req_size ?_))
  refine (Read_ok 5 5 2 9 0 1 2 A1 c1 [40] 0 7 _ hg1 (by decide)).mono ?_
  rintro e v12 ⟨A3, c3, rfl, hown, hb⟩
  replace hB1 := hB1.below hb
  replace hg1 := hg1.below hb
  replace hw := below_step hw hb
  clear hb
  have hg3 := hown.gi
  clear hown
  have hn3 := Bx.new v12 27 #[.int .u64 0, .int .i64 0, .int .i64 0, .int .i64 0, .int .i64 0, .int .u64 0, .int .i64 0, .slice none 0 0, .int .i64 0]
  replace hB1 := hB1.alloc (.cells #[.int .u64 5, .int .i64 5, .int .i64 2, .int .i64 9, .int .i64 0, .int .u64 1, .int .i64 4, .slice A3 1 c3, .int .i64 7] 27)
  replace hg1 := hg1.alloc (.cells #[.int .u64 5, .int .i64 5, .int .i64 2, .int .i64 9, .int .i64 0, .int .u64 1, .int .i64 4, .slice A3 1 c3, .int .i64 7] 27)
  replace hw := below_step hw (al _ (.cells #[.int .u64 5, .int .i64 5, .int .i64 2, .int .i64 9, .int .i64 0, .int .u64 1, .int .i64 4, .slice A3 1 c3, .int .i64 7] 27))
  replace hg3 := hg3.alloc (.cells #[.int .u64 5, .int .i64 5, .int .i64 2, .int .i64 9, .int .i64 0, .int .u64 1, .int .i64 4, .slice A3 1 c3, .int .i64 7] 27)
  have hB3 := Bx.new v12 27 #[.int .u64 5, .int .i64 5, .int .i64 2, .int .i64 9, .int .i64 0, .int .u64 1, .int .i64 4, .slice A3 1 c3, .int .i64 7]
  go_wp2_with (first | (refine wpList_load_row rfl 27 _ rfl (B1) rfl 27 _ _ _ hB1 Try.underlying27 rfl req_size ?_) | (refine wpList_store_row rfl 27 _ _ rfl v12.heap.size _ rfl rfl 27 _ hn3 req_size rfl (by simp [Value.oneCell']) ?_; rw [World.setRow_alloc_new]; simp only [Act.put]))
  refine (write_any _).mono ?_
  rintro e v13 ⟨rfl, hb⟩
  replace hB1 := hB1.below hb
  replace hg1 := hg1.below hb
  replace hB3 := hB3.below hb
  replace hg3 := hg3.below hb
  replace hw := below_step hw hb
  clear hb
  clear hn3
  generalize v12.heap.size = B3 at *
  go_wp2_with (first | (refine wpList_load_row rfl 27 _ rfl (B1) rfl 27 _ _ _ hB1 Try.underlying27 rfl req_size ?_))
  refine (Claim_ok 5 5 2 9 0 1 1 none 0 [] 0 7 _ (GI.nil _) (by decide)).mono ?_
  rintro e v14 ⟨A4, c4, rfl, hown, hb⟩
  replace hB1 := hB1.below hb
  replace hg1 := hg1.below hb
  replace hB3 := hB3.below hb
  replace hg3 := hg3.below hb
  replace hw := below_step hw hb
  clear hb
  have hg4 := hown.gi
  clear hown
  have hn4 := Bx.new v14 27 #[.int .u64 0, .int .i64 0, .int .i64 0, .int .i64 0, .int .i64 0, .int .u64 0, .int .i64 0, .slice none 0 0, .int .i64 0]
  replace hB1 := hB1.alloc (.cells #[.int .u64 5, .int .i64 5, .int .i64 2, .int .i64 9, .int .i64 0, .int .u64 1, .int .i64 3, .slice A4 0 c4, .int .i64 7] 27)
  replace hg1 := hg1.alloc (.cells #[.int .u64 5, .int .i64 5, .int .i64 2, .int .i64 9, .int .i64 0, .int .u64 1, .int .i64 3, .slice A4 0 c4, .int .i64 7] 27)
  replace hB3 := hB3.alloc (.cells #[.int .u64 5, .int .i64 5, .int .i64 2, .int .i64 9, .int .i64 0, .int .u64 1, .int .i64 3, .slice A4 0 c4, .int .i64 7] 27)
  replace hg3 := hg3.alloc (.cells #[.int .u64 5, .int .i64 5, .int .i64 2, .int .i64 9, .int .i64 0, .int .u64 1, .int .i64 3, .slice A4 0 c4, .int .i64 7] 27)
  replace hw := below_step hw (al _ (.cells #[.int .u64 5, .int .i64 5, .int .i64 2, .int .i64 9, .int .i64 0, .int .u64 1, .int .i64 3, .slice A4 0 c4, .int .i64 7] 27))
  replace hg4 := hg4.alloc (.cells #[.int .u64 5, .int .i64 5, .int .i64 2, .int .i64 9, .int .i64 0, .int .u64 1, .int .i64 3, .slice A4 0 c4, .int .i64 7] 27)
  have hB4 := Bx.new v14 27 #[.int .u64 5, .int .i64 5, .int .i64 2, .int .i64 9, .int .i64 0, .int .u64 1, .int .i64 3, .slice A4 0 c4, .int .i64 7]
  go_wp2_with (first | (refine wpList_load_row rfl 27 _ rfl (B1) rfl 27 _ _ _ hB1 Try.underlying27 rfl req_size ?_) | (refine wpList_load_row rfl 27 _ rfl (v14.heap.size) rfl 27 _ _ _ hB4 Try.underlying27 rfl req_size ?_) | (refine wpList_store_row rfl 27 _ _ rfl v14.heap.size _ rfl rfl 27 _ hn4 req_size rfl (by simp [Value.oneCell']) ?_; rw [World.setRow_alloc_new]; simp only [Act.put]))
  refine (show Calls Try.prog 12 #[.agg #[.int .u64 5, .int .i64 5, .int .i64 2, .int .i64 9, .int .i64 0, .int .u64 1, .int .i64 3, .slice A4 0 c4, .int .i64 7]] _ (RetR _ 5 5 2 9 0 1 1 [] 0 0) from Lose_ok 5 5 2 9 0 1 3 A4 c4 [] 7 _ hg4 (by decide)).mono ?_
  rintro e v15 ⟨A6, c6, rfl, hown, hb⟩
  replace hB1 := hB1.below hb
  replace hg1 := hg1.below hb
  replace hB3 := hB3.below hb
  replace hg3 := hg3.below hb
  replace hB4 := hB4.below hb
  replace hg4 := hg4.below hb
  replace hw := below_step hw hb
  clear hb
  have hg6 := hown.gi
  clear hown hn4 hB4 hg4
  generalize v14.heap.size = B4 at *
  have hn6 := Bx.new v15 27 #[.int .u64 0, .int .i64 0, .int .i64 0, .int .i64 0, .int .i64 0, .int .u64 0, .int .i64 0, .slice none 0 0, .int .i64 0]
  replace hB1 := hB1.alloc (.cells #[.int .u64 5, .int .i64 5, .int .i64 2, .int .i64 9, .int .i64 0, .int .u64 1, .int .i64 1, .slice A6 0 c6, .int .i64 0] 27)
  replace hg1 := hg1.alloc (.cells #[.int .u64 5, .int .i64 5, .int .i64 2, .int .i64 9, .int .i64 0, .int .u64 1, .int .i64 1, .slice A6 0 c6, .int .i64 0] 27)
  replace hB3 := hB3.alloc (.cells #[.int .u64 5, .int .i64 5, .int .i64 2, .int .i64 9, .int .i64 0, .int .u64 1, .int .i64 1, .slice A6 0 c6, .int .i64 0] 27)
  replace hg3 := hg3.alloc (.cells #[.int .u64 5, .int .i64 5, .int .i64 2, .int .i64 9, .int .i64 0, .int .u64 1, .int .i64 1, .slice A6 0 c6, .int .i64 0] 27)
  replace hw := below_step hw (al _ (.cells #[.int .u64 5, .int .i64 5, .int .i64 2, .int .i64 9, .int .i64 0, .int .u64 1, .int .i64 1, .slice A6 0 c6, .int .i64 0] 27))
  replace hg6 := hg6.alloc (.cells #[.int .u64 5, .int .i64 5, .int .i64 2, .int .i64 9, .int .i64 0, .int .u64 1, .int .i64 1, .slice A6 0 c6, .int .i64 0] 27)
  have hB6 := Bx.new v15 27 #[.int .u64 5, .int .i64 5, .int .i64 2, .int .i64 9, .int .i64 0, .int .u64 1, .int .i64 1, .slice A6 0 c6, .int .i64 0]
  go_upto_region 9 with (refine wpList_store_row rfl 27 _ _ rfl v15.heap.size _ rfl rfl 27 _ hn6 req_size rfl (by simp [Value.oneCell']) ?_; rw [World.setRow_alloc_new]; simp only [Act.put])
  clear hn6
  generalize hW : v15.alloc (.cells #[.int .u64 5, .int .i64 5, .int .i64 2, .int .i64 9, .int .i64 0, .int .u64 1, .int .i64 1, .slice A6 0 c6, .int .i64 0] 27) = W6 at *
  generalize v15.heap.size = B6 at *
  clear hW
  rename_i K hK
  refine kn9 (W := W6) A3 A6 c3 c6 B3 B6 rfl rfl rfl rfl rfl rfl hB3 hB6 hg3 hg6 ?_
  rintro a' w9 hF hb f93
  refine hK _ _ ?_
  obtain ⟨fv, hfv, hfr⟩ := hF.lit [67, 68, 69, 70, 71, 72, 73, 74, 75, 76, 77, 78, 79, 80, 81, 82, 83, 84, 85, 86, 87, 88, 89, 90, 91, 92, 93] (dsts_in (by kernel_rfl))
  have ev93 := hfv 93 _ f93
  subst hfr
  simp only [List.foldl_cons, List.foldl_nil, Act.put, List.setIfInBounds_toArray, List.set_cons_zero, List.set_cons_succ, ev93]
  clear hfv hF ev93 f93
  generalize fv 67 = u67
  generalize fv 68 = u68
  generalize fv 69 = u69
  generalize fv 70 = u70
  generalize fv 71 = u71
  generalize fv 72 = u72
  generalize fv 73 = u73
  generalize fv 74 = u74
  generalize fv 75 = u75
  generalize fv 76 = u76
  generalize fv 77 = u77
  generalize fv 78 = u78
  generalize fv 79 = u79
  generalize fv 80 = u80
  generalize fv 81 = u81
  generalize fv 82 = u82
  generalize fv 83 = u83
  generalize fv 84 = u84
  generalize fv 85 = u85
  generalize fv 86 = u86
  generalize fv 87 = u87
  generalize fv 88 = u88
  generalize fv 89 = u89
  generalize fv 90 = u90
  generalize fv 91 = u91
  generalize fv 92 = u92
  clear fv
  clear hK K
  replace hB1 := hB1.below hb
  replace hg1 := hg1.below hb
  replace hw := below_step hw hb
  clear hb hB3 hB6 hg3 hg6
  go_wp2_with (first | (refine wpList_load_row rfl 27 _ rfl (B1) rfl 27 _ _ _ hB1 Try.underlying27 rfl req_size ?_))
  refine (Give_bad 5 5 2 9 0 1 2 A1 c1 [40] 0 40 _ hg1 (by decide)).mono ?_
  rintro e v16 ⟨Aa, ca, rfl, hown, hb⟩
  replace hB1 := hB1.below hb
  replace hg1 := hg1.below hb
  replace hw := below_step hw hb
  clear hb
  clear hown
  go_wp2_with (first | (refine wpList_load_row rfl 27 _ rfl (B1) rfl 27 _ _ _ hB1 Try.underlying27 rfl req_size ?_))
  refine (Give_bad 5 5 2 9 0 1 2 A1 c1 [40] 0 41 _ hg1 (by decide)).mono ?_
  rintro e v17 ⟨Ab, cb, rfl, hown, hb⟩
  replace hB1 := hB1.below hb
  replace hg1 := hg1.below hb
  replace hw := below_step hw hb
  clear hb
  clear hown
  go_wp2_with (first | (refine wpList_load_row rfl 27 _ rfl (B1) rfl 27 _ _ _ hB1 Try.underlying27 rfl req_size ?_))
  refine (write_any _).mono ?_
  rintro e v18 ⟨rfl, hb⟩
  replace hB1 := hB1.below hb
  replace hg1 := hg1.below hb
  replace hw := below_step hw hb
  clear hb
  go_wp2_with (first | (refine wpList_load_row rfl 27 _ rfl (B1) rfl 27 _ _ _ hB1 Try.underlying27 rfl req_size ?_))
  refine (Read_bad 5 5 2 9 0 1 1 none 0 [] 0 7 _ (GI.nil _) (by decide)).mono ?_
  rintro e v19 ⟨Ad, cd, rfl, hown, hb⟩
  replace hB1 := hB1.below hb
  replace hg1 := hg1.below hb
  replace hw := below_step hw hb
  clear hb
  clear hown
  go_wp2_with (first | (refine wpList_load_row rfl 27 _ rfl (B1) rfl 27 _ _ _ hB1 Try.underlying27 rfl req_size ?_))
  refine (write_any _).mono ?_
  rintro e v20 ⟨rfl, hb⟩
  replace hB1 := hB1.below hb
  replace hg1 := hg1.below hb
  replace hw := below_step hw hb
  clear hb
  go_wp2_with (first | (refine wpList_load_row rfl 27 _ rfl (B1) rfl 27 _ _ _ hB1 Try.underlying27 rfl req_size ?_))
  refine (Lose_bad 5 5 2 9 0 1 1 none 0 [] 0 _ (GI.nil _) (by decide)).mono ?_
  rintro e v21 ⟨Ae, ce, rfl, hown, hb⟩
  replace hB1 := hB1.below hb
  replace hg1 := hg1.below hb
  replace hw := below_step hw hb
  clear hb
  clear hown
  have hn8 := Bx.new v21 27 #[.int .u64 0, .int .i64 0, .int .i64 0, .int .i64 0, .int .i64 0, .int .u64 0, .int .i64 0, .slice none 0 0, .int .i64 0]
  have hn10 := Bx.new (v21.alloc (.cells #[.int .u64 0, .int .i64 0, .int .i64 0, .int .i64 0, .int .i64 0, .int .u64 0, .int .i64 0, .slice Ae 0 ce, .int .i64 0] 27)) 27 #[.int .u64 0, .int .i64 0, .int .i64 0, .int .i64 0, .int .i64 0, .int .u64 0, .int .i64 0, .slice none 0 0, .int .i64 0]
  have hB10 := (Bx.new (v21.alloc (.cells #[.int .u64 0, .int .i64 0, .int .i64 0, .int .i64 0, .int .i64 0, .int .u64 0, .int .i64 0, .slice Ae 0 ce, .int .i64 0] 27)) 27 #[.int .u64 1, .int .i64 1, .int .i64 4, .int .i64 0, .int .i64 0, .int .u64 0, .int .i64 1, .slice none 0 0, .int .i64 0]).alloc (.cells #[.int .i64 7, .int .i64 8, .int .i64 9] 3)
  have hIn := Bx.new ((v21.alloc (.cells #[.int .u64 0, .int .i64 0, .int .i64 0, .int .i64 0, .int .i64 0, .int .u64 0, .int .i64 0, .slice Ae 0 ce, .int .i64 0] 27)).alloc (.cells #[.int .u64 1, .int .i64 1, .int .i64 4, .int .i64 0, .int .i64 0, .int .u64 0, .int .i64 1, .slice none 0 0, .int .i64 0] 27)) 3 #[.int .i64 7, .int .i64 8, .int .i64 9]
  rw [World.size_alloc] at hn10 hB10
  rw [World.size_alloc, World.size_alloc] at hIn
  have hgI := gi_bx (xs := [7, 8, 9]) hIn rfl (by simp [maxLen])
  replace hw := below_step (below_step (below_step hw (al _ (.cells #[.int .u64 0, .int .i64 0, .int .i64 0, .int .i64 0, .int .i64 0, .int .u64 0, .int .i64 0, .slice Ae 0 ce, .int .i64 0] 27))) (al _ (.cells #[.int .u64 1, .int .i64 1, .int .i64 4, .int .i64 0, .int .i64 0, .int .u64 0, .int .i64 1, .slice none 0 0, .int .i64 0] 27))) (al _ (.cells #[.int .i64 7, .int .i64 8, .int .i64 9] 3))
  clear hB1 hg1 hIn
  go_wp2_with (first | (refine wpList_store_row rfl 27 _ _ rfl v21.heap.size _ rfl rfl 27 _ hn8 req_size rfl (by simp [Value.oneCell']) ?_; rw [World.setRow_alloc_new]; simp only [Act.put]) | (refine wpList_store_row rfl 27 _ _ rfl (v21.heap.size + 1) _ rfl rfl 27 _ hn10 req_size rfl (by simp [Value.oneCell']) ?_; rw [← World.size_alloc (w := v21) (o := (.cells #[.int .u64 0, .int .i64 0, .int .i64 0, .int .i64 0, .int .i64 0, .int .u64 0, .int .i64 0, .slice Ae 0 ce, .int .i64 0] 27)), World.setRow_alloc_new]; rw [World.size_alloc]; simp only [Act.put]))
  refine (fork_any (some ⟨v21.heap.size + 1 + 1, 0, none⟩) 3 [7, 8, 9] _).mono ?_
  rintro e v22 ⟨rfl, hb⟩
  replace hB10 := hB10.below hb
  replace hgI := hgI.below hb
  replace hw := below_step hw hb
  clear hb
  clear hn8 hn10
  generalize v21.heap.size = B8 at *
  go_wp2_with fail
  refine (does_yes 5 6 2 3 0 0 2 (some ⟨B8 + 1 + 1, 0, none⟩) 3 [7, 8, 9] 0 0 false false 2 true 1 1 _ hgI (by decide) (by decide) (by decide)).mono ?_
  rintro e v23 ⟨rfl, hb⟩
  replace hB10 := hB10.below hb
  replace hgI := hgI.below hb
  replace hw := below_step hw hb
  clear hb
  go_wp2_with fail
  refine (fork_any none 0 [] _).mono ?_
  rintro e v24 ⟨rfl, hb⟩
  replace hB10 := hB10.below hb
  replace hgI := hgI.below hb
  replace hw := below_step hw hb
  clear hb
  go_wp2_with fail
  refine (does_yes 5 6 2 3 0 0 1 none 0 [] 0 0 false false 2 false 2 1 _ (GI.nil _) (by decide) (by decide) (by decide)).mono ?_
  rintro e v25 ⟨rfl, hb⟩
  replace hB10 := hB10.below hb
  replace hgI := hgI.below hb
  replace hw := below_step hw hb
  clear hb
  go_wp2_with fail
  refine (write_any _).mono ?_
  rintro e v26 ⟨rfl, hb⟩
  replace hB10 := hB10.below hb
  replace hgI := hgI.below hb
  replace hw := below_step hw hb
  clear hb
  go_wp2_with fail
  refine (most_yes 5 5 2 9 0 1 1 none 0 [] 0 3 _ (GI.nil _) (by decide) (by decide)).mono ?_
  rintro e v27 ⟨rfl, hb⟩
  replace hB10 := hB10.below hb
  replace hgI := hgI.below hb
  replace hw := below_step hw hb
  clear hb
  obtain ⟨q0, q1, q2, q3, q4, q5, q6, q7, q8⟩ := s9 hB10
  go_wp2_with fail
  refine (most_yes 1 1 4 0 0 0 1 none 0 [] 0 2 _ (GI.nil _) (by decide) (by decide)).mono ?_
  rintro e v28 ⟨rfl, hb⟩
  replace hB10 := hB10.below hb
  replace hgI := hgI.below hb
  replace hw := below_step hw hb
  clear hb
  clear q0 q1 q2 q3 q4 q5 q6 q7 q8
  go_wp2_with fail
  refine (fork_any none 0 [] _).mono ?_
  rintro e v29 ⟨rfl, hb⟩
  replace hB10 := hB10.below hb
  replace hgI := hgI.below hb
  replace hw := below_step hw hb
  clear hb
  go_wp2_with fail
  refine (most_yes 5 6 2 3 0 0 1 none 0 [] 0 10 _ (GI.nil _) (by decide) (by decide)).mono ?_
  rintro e v30 ⟨rfl, hb⟩
  replace hB10 := hB10.below hb
  replace hgI := hgI.below hb
  replace hw := below_step hw hb
  clear hb
  go_wp2_with fail
  refine (awake_any _).mono ?_
  rintro e v31 ⟨rfl, hb⟩
  replace hB10 := hB10.below hb
  replace hgI := hgI.below hb
  replace hw := below_step hw hb
  clear hb
  go_wp2
  go_ret
  exact ⟨rfl, hw⟩
end Go.Proofs.Ytbcfnocefjolfaa
