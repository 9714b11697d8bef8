/- The law's made: a pool made of a size and numbers. -/
import Derived.Test.YtoimmfcodflmkaaDoorTJ
import Derived.Test.YtoimmfcodflmkaaDoorS2
import Derived.RegionTactic
namespace Go.Proofs.YtoimmfcodflmkaaDoor
open Go.RowKit
set_option linter.unusedVariables false

theorem Take_step (n : Nat) (ys : List Int) (hok : OkP (n : Int) ys) : ∃ (s' : Int) (zs : List Int) (d er : Int), (∀ A c W, GI W A c ys → Calls Tryd.prog 18 #[.agg #[.int .i64 (n : Int), .slice A ys.length c]] W (RetP3 W s' zs d er)) ∧ ((er = 0 ∧ s' = (n : Int) ∧ OkP (n : Int) zs) ∨ (er == 0) = false) := by
  rcases ys with _ | ⟨x, ys⟩
  · have he : tkE (n : Int) [] = 5 := by unfold tkE; rw [hok.chk]; rfl
    refine ⟨_, _, _, _, fun A c W hW => Take_bad (n : Int) A c [] W hW (by rw [he]; decide), .inr ?_⟩
    rw [he]; rfl
  · exact ⟨_, _, _, _, fun A c W hW => Take_ok (n : Int) A c x ys W hW hok, .inl ⟨rfl, rfl, hok.tail⟩⟩
theorem Give_step (n : Nat) (ys : List Int) (hok : OkP (n : Int) ys) (d : Int) : ∃ (s' : Int) (zs : List Int) (er : Int), (∀ A c W, GI W A c ys → Calls Tryd.prog 20 #[.agg #[.int .i64 (n : Int), .slice A ys.length c], .int .i64 d] W (RetP W s' zs er)) ∧ ((er = 0 ∧ s' = (n : Int) ∧ OkP (n : Int) zs) ∨ (er == 0) = false) := by
  by_cases h : gvE (n : Int) ys d = 0
  · exact ⟨_, _, _, fun A c W hW => Give_ok (n : Int) A c ys d W hW h, .inl ⟨rfl, rfl, hok.give d⟩⟩
  · exact ⟨_, _, _, fun A c W hW => Give_bad (n : Int) A c ys d W hW h, .inr (by simpa using h)⟩

structure MdL (w : World) (n : Nat) (B : Nat) (A : Option Addr) (m c : Nat) (ys : List Int) (wx : World) : Prop where
  res : Bx wx w.heap.size 24 #[.int .i64 0, .slice none 0 0]
  box : Bx wx B 24 #[.int .i64 (n : Int), .slice A m c]
  own : OwnI wx (w.heap.size + 1) A m c ys
  ok : OkP (n : Int) ys
  lo : Below w.heap.size w wx
  hB : w.heap.size < B

/-- A pool was made. -/
def RetMd (w : World) (n : Nat) (e : Ending) (w' : World) : Prop :=
  ∃ A c ys, e = .returned (.tuple #[.agg #[.int .i64 (n : Int), .slice A ys.length c], .bool true]) ∧ GI w' A c ys ∧ OkP (n : Int) ys ∧ Below w.heap.size w w'

noncomputable def md16_l : List Oper := (Tryd.f31.body.bind (regIn · 16)).getD []
theorem md16_o0 : md16_l[0]?.map (fun o => (o.dst, o.op, o.guard)) = some (some 82, .load 24 (.tmp 6), none) := by kernel_rfl
theorem md16_o1 : md16_l[1]?.map (fun o => (o.dst, o.op, o.guard)) = some (some 83, .move (.tmp 7), none) := by kernel_rfl
theorem md16_o2 : md16_l[2]?.map (fun o => (o.dst, o.op, o.guard)) = some (some 84, .binOp .eql 25 (.tmp 83) (.const (.int .i64 0)) 25, none) := by kernel_rfl
theorem md16_o3 : md16_l[3]?.map (fun o => (o.dst, o.op, o.guard)) = some (some 85, .move (.tmp 84), none) := by kernel_rfl
theorem md16_o4 : md16_l[4]?.map (fun o => (o.dst, o.op, o.guard)) = some (some 86, .move (.tmp 12), some (3, true)) := by kernel_rfl
theorem md16_o5 : md16_l[5]?.map (fun o => (o.dst, o.op, o.guard)) = some (some 87, .binOp .eql 25 (.tmp 86) (.const (.int .i64 0)) 25, some (3, true)) := by kernel_rfl
theorem md16_o6 : md16_l[6]?.map (fun o => (o.dst, o.op, o.guard)) = some (some 88, .pick (.tmp 85) (.tmp 87) (.const (.bool false)), none) := by kernel_rfl
theorem md16_o7 : md16_l[7]?.map (fun o => (o.dst, o.op, o.guard)) = some (some 89, .move (.tmp 88), none) := by kernel_rfl
theorem md16_o8 : md16_l[8]?.map (fun o => (o.dst, o.op, o.guard)) = some (some 90, .fieldAddr 24 (.tmp 6) 0, some (7, true)) := by kernel_rfl
theorem md16_o9 : md16_l[9]?.map (fun o => (o.dst, o.op, o.guard)) = some (some 91, .load 3 (.tmp 90), some (7, true)) := by kernel_rfl
theorem md16_o10 : md16_l[10]?.map (fun o => (o.dst, o.op, o.guard)) = some (some 92, .move (.tmp 0), some (7, true)) := by kernel_rfl
theorem md16_o11 : md16_l[11]?.map (fun o => (o.dst, o.op, o.guard)) = some (some 93, .call { callee := .value (.func 32), args := #[(.tmp 92), (.const (.int .i64 32))], argTypes := #[3, 3] }, some (7, true)) := by kernel_rfl
theorem md16_o12 : md16_l[12]?.map (fun o => (o.dst, o.op, o.guard)) = some (some 94, .binOp .add 3 (.const (.int .i64 1)) (.tmp 93) 3, some (7, true)) := by kernel_rfl
theorem md16_o13 : md16_l[13]?.map (fun o => (o.dst, o.op, o.guard)) = some (some 95, .binOp .eql 3 (.tmp 91) (.tmp 94) 3, some (7, true)) := by kernel_rfl
theorem md16_o14 : md16_l[14]?.map (fun o => (o.dst, o.op, o.guard)) = some (some 96, .pick (.tmp 89) (.tmp 95) (.const (.bool false)), none) := by kernel_rfl
theorem md16_o15 : md16_l[15]?.map (fun o => (o.dst, o.op, o.guard)) = some (none, .store 24 (.tmp 4) (.tmp 82), none) := by kernel_rfl
theorem md16_o16 : md16_l[16]?.map (fun o => (o.dst, o.op, o.guard)) = some (some 5, .assign (.tmp 96), none) := by kernel_rfl
def md16_sp (s sm : Int) (n : Nat) (A : Option Addr) (c m B R L b : Nat) (ys : List Int) (W : World) : Nat → Spec
  | 0 => ⟨Unit, [82], fun _ => [(82, .agg #[.int .i64 (n : Int), .slice A m c])], fun _ _ => True⟩
  | 1 => ⟨Unit, [83], fun _ => [(83, .int .i64 0)], fun _ _ => True⟩
  | 2 => ⟨Unit, [84], fun _ => [(84, .bool true)], fun _ _ => True⟩
  | 3 => ⟨Unit, [85], fun _ => [(85, .bool true)], fun _ _ => True⟩
  | 4 => ⟨Unit, [86], fun _ => [(86, .int .i64 0)], fun _ _ => True⟩
  | 5 => ⟨Unit, [87], fun _ => [(87, .bool true)], fun _ _ => True⟩
  | 6 => ⟨Unit, [88], fun _ => [(88, .bool true)], fun _ _ => True⟩
  | 7 => ⟨Unit, [89], fun _ => [(89, .bool true)], fun _ _ => True⟩
  | 8 => ⟨Unit, [90], fun _ => [(90, .pointer (some ⟨B, 0, none⟩))], fun _ _ => True⟩
  | 9 => ⟨Unit, [91], fun _ => [(91, .int .i64 (n : Int))], fun _ _ => True⟩
  | 10 => ⟨Unit, [92], fun _ => [(92, .int .i64 s)], fun _ _ => True⟩
  | 11 => ⟨Unit, [93], fun _ => [(93, .int .i64 sm)], fun _ _ => True⟩
  | 12 => ⟨Unit, [94], fun _ => [(94, .int .i64 (n : Int))], fun _ _ => True⟩
  | 13 => ⟨Unit, [95], fun _ => [(95, .bool true)], fun _ _ => True⟩
  | 14 => ⟨Unit, [96], fun _ => [(96, .bool true)], fun _ _ => True⟩
  | 15 => ⟨Unit, [], fun _ => [], fun _ w => Bx w R 24 #[.int .i64 (n : Int), .slice A m c]⟩
  | 16 => ⟨Unit, [5], fun _ => [(5, .bool true)], fun _ _ => True⟩
  | _ => ⟨Unit, [], fun _ => [], fun _ _ => True⟩
theorem md16_fb (s sm : Int) (n : Nat) (A : Option Addr) (c m B R L b : Nat) (ys : List Int) (W : World) : slB md16_l (fun j => (md16_sp s sm n A c m B R L b ys W j).ss) = true := by kernel_rfl
set_option maxRecDepth 100000 in
set_option maxHeartbeats 2000000 in
theorem md16 {Q : Exit → Act → World → Prop} {a0 : Act} {W : World} (s sm : Int) (n : Nat) (A : Option Addr) (c m B R L b : Nat) (ys : List Int)  (z0 : a0.tmps.size = 97) (p0 : Sv a0 0 (.int .i64 s)) (p4 : Sv a0 4 (.pointer (some ⟨R, 0, none⟩))) (p6 : Sv a0 6 (.pointer (some ⟨B, 0, none⟩))) (p7 : Sv a0 7 (.int .i64 0)) (p12 : Sv a0 12 (.int .i64 0)) (hB : Bx W B 24 #[.int .i64 (n : Int), .slice A m c]) (hR : Bx W R 24 #[.int .i64 0, .slice none 0 0]) (hsm : Hid (s % 32 = sm)) (hnn : IntKind.i64.wrap (1 + sm) = (n : Int)) (hLW : L ≤ W.heap.size) (hLR : L ≤ R) (hne : B ≠ R) (hown : OwnI W b A m c ys) (hRb : R < b)
    (fin : ∀ ac w, Fr a0 md16_l ac → Below L W w → OwnI w b A m c ys → (Bx w R 24 #[.int .i64 (n : Int), .slice A m c]) → (Sv ac 5 (.bool true)) → Q .normal ac w) : (Code.region 16 md16_l.toArray true).wp Tryd.prog Q a0 W := by
  refine region_of (n := 17) (by kernel_rfl) (by kernel_rfl) (by kernel_rfl) (md16_sp s sm n A c m B R L b ys W) (md16_fb s sm n A c m B R L b ys W) (fun w => Below L W w ∧ (∃ cs, Bx w R 24 cs ∧ cs.size = 2) ∧ Bx w B 24 #[.int .i64 (n : Int), .slice A m c] ∧ OwnI w b A m c ys) (stpN 24 [15]) ⟨⟨rfl, rfl, rfl, Nat.le_refl _, fun _ _ => rfl⟩, ⟨_, hR, rfl⟩, hB, hown⟩ ?_ ?_ ?_
  · intro i hi ac w hF hI hk
    have z := hF.1.trans z0
    have f0 := hF.sv (s := 0) (by kernel_rfl) p0
    have f4 := hF.sv (s := 4) (by kernel_rfl) p4
    have f6 := hF.sv (s := 6) (by kernel_rfl) p6
    have f7 := hF.sv (s := 7) (by kernel_rfl) p7
    have f12 := hF.sv (s := 12) (by kernel_rfl) p12
    match i, hi with
    | 0, _ =>
      exact ob_val (v := .agg #[.int .i64 (n : Int), .slice A m c]) md16_o0 (.inl rfl) (ev_row f6.eval hI.2.2.1 Tryd.underlying24 rfl (n := 2) (by kernel_rfl) rfl) ⟨⟨_, rfl⟩, hI, Below.refl _ _, ⟨(), rfl, sv1 (Sv.dst (by kernel_rfl) (by rw [z]; decide) _), trivial⟩⟩
    | 1, _ =>
      exact ob_val (v := .int .i64 0) md16_o1 (.inl rfl) (ev_move f7.eval) ⟨⟨_, rfl⟩, hI, Below.refl _ _, ⟨(), rfl, sv1 (Sv.dst (by kernel_rfl) (by rw [z]; decide) _), trivial⟩⟩
    | 2, _ =>
      obtain ⟨⟨⟩, -, hs1, hw1⟩ := hk 1 (mem_reach (by kernel_rfl))
      have f83 : Sv ac 83 (.int .i64 0) := hs1 _ (List.Mem.head _)
      exact ob_val (v := .bool true) md16_o2 (.inl rfl) (fun o ho => by have e0 := f83.eval; have e1 : ac.eval (.const (.int .i64 0)) = .int .i64 0 := rfl; generalize ac.eval = ρ at *; simp [execOp, ho, e0, e1, go_sem]) ⟨⟨_, rfl⟩, hI, Below.refl _ _, ⟨(), rfl, sv1 (Sv.dst (by kernel_rfl) (by rw [z]; decide) _), trivial⟩⟩
    | 3, _ =>
      obtain ⟨⟨⟩, -, hs2, hw2⟩ := hk 2 (mem_reach (by kernel_rfl))
      have f84 : Sv ac 84 (.bool true) := hs2 _ (List.Mem.head _)
      exact ob_val (v := .bool true) md16_o3 (.inl rfl) (ev_move f84.eval) ⟨⟨_, rfl⟩, hI, Below.refl _ _, ⟨(), rfl, sv1 (Sv.dst (by kernel_rfl) (by rw [z]; decide) _), trivial⟩⟩
    | 4, _ =>
      obtain ⟨⟨⟩, -, hs3, hw3⟩ := hk 3 (mem_reach (by kernel_rfl))
      have f85 : Sv ac 85 (.bool true) := hs3 _ (List.Mem.head _)
      exact ob_val (v := .int .i64 0) md16_o4 (.inr ⟨3, true, 85, rfl, by kernel_rfl, f85⟩) (ev_move f12.eval) ⟨⟨_, rfl⟩, hI, Below.refl _ _, ⟨(), rfl, sv1 (Sv.dst (by kernel_rfl) (by rw [z]; decide) _), trivial⟩⟩
    | 5, _ =>
      obtain ⟨⟨⟩, -, hs4, hw4⟩ := hk 4 (mem_reach (by kernel_rfl))
      have f86 : Sv ac 86 (.int .i64 0) := hs4 _ (List.Mem.head _)
      obtain ⟨⟨⟩, -, hs3, hw3⟩ := hk 3 (mem_reach (by kernel_rfl))
      have f85 : Sv ac 85 (.bool true) := hs3 _ (List.Mem.head _)
      exact ob_val (v := .bool true) md16_o5 (.inr ⟨3, true, 85, rfl, by kernel_rfl, f85⟩) (fun o ho => by have e0 := f86.eval; have e1 : ac.eval (.const (.int .i64 0)) = .int .i64 0 := rfl; generalize ac.eval = ρ at *; simp [execOp, ho, e0, e1, go_sem]) ⟨⟨_, rfl⟩, hI, Below.refl _ _, ⟨(), rfl, sv1 (Sv.dst (by kernel_rfl) (by rw [z]; decide) _), trivial⟩⟩
    | 6, _ =>
      obtain ⟨⟨⟩, -, hs3, hw3⟩ := hk 3 (mem_reach (by kernel_rfl))
      have f85 : Sv ac 85 (.bool true) := hs3 _ (List.Mem.head _)
      obtain ⟨⟨⟩, -, hs5, hw5⟩ := hk 5 (mem_reach (by kernel_rfl))
      have f87 : Sv ac 87 (.bool true) := hs5 _ (List.Mem.head _)
      exact ob_val (v := .bool true) md16_o6 (.inl rfl) (fun o ho => ev_pickT f85.eval f87.eval o ho) ⟨⟨_, rfl⟩, hI, Below.refl _ _, ⟨(), rfl, sv1 (Sv.dst (by kernel_rfl) (by rw [z]; decide) _), trivial⟩⟩
    | 7, _ =>
      obtain ⟨⟨⟩, -, hs6, hw6⟩ := hk 6 (mem_reach (by kernel_rfl))
      have f88 : Sv ac 88 (.bool true) := hs6 _ (List.Mem.head _)
      exact ob_val (v := .bool true) md16_o7 (.inl rfl) (ev_move f88.eval) ⟨⟨_, rfl⟩, hI, Below.refl _ _, ⟨(), rfl, sv1 (Sv.dst (by kernel_rfl) (by rw [z]; decide) _), trivial⟩⟩
    | 8, _ =>
      obtain ⟨⟨⟩, -, hs7, hw7⟩ := hk 7 (mem_reach (by kernel_rfl))
      have f89 : Sv ac 89 (.bool true) := hs7 _ (List.Mem.head _)
      exact ob_val (v := .pointer (some ⟨B, 0, none⟩)) md16_o8 (.inr ⟨7, true, 89, rfl, by kernel_rfl, f89⟩) (fun o ho => by have e1 := f6.eval; generalize ac.eval = ρ at *; simp [execOp, ho, e1, go_sem]) ⟨⟨_, rfl⟩, hI, Below.refl _ _, ⟨(), rfl, sv1 (Sv.dst (by kernel_rfl) (by rw [z]; decide) _), trivial⟩⟩
    | 9, _ =>
      obtain ⟨⟨⟩, -, hs8, hw8⟩ := hk 8 (mem_reach (by kernel_rfl))
      have f90 : Sv ac 90 (.pointer (some ⟨B, 0, none⟩)) := hs8 _ (List.Mem.head _)
      obtain ⟨⟨⟩, -, hs7, hw7⟩ := hk 7 (mem_reach (by kernel_rfl))
      have f89 : Sv ac 89 (.bool true) := hs7 _ (List.Mem.head _)
      exact ob_val (v := .int .i64 (n : Int)) md16_o9 (.inr ⟨7, true, 89, rfl, by kernel_rfl, f89⟩) (fun o ho => by have e1 := f90.eval; have hc : w.cell? ⟨B, 0, none⟩ = some (.int .i64 (n : Int)) := hI.2.2.1.cell 0; generalize ac.eval = ρ at *; simp [execOp, ho, e1, hc, go_sem]) ⟨⟨_, rfl⟩, hI, Below.refl _ _, ⟨(), rfl, sv1 (Sv.dst (by kernel_rfl) (by rw [z]; decide) _), trivial⟩⟩
    | 10, _ =>
      obtain ⟨⟨⟩, -, hs7, hw7⟩ := hk 7 (mem_reach (by kernel_rfl))
      have f89 : Sv ac 89 (.bool true) := hs7 _ (List.Mem.head _)
      exact ob_val (v := .int .i64 s) md16_o10 (.inr ⟨7, true, 89, rfl, by kernel_rfl, f89⟩) (ev_move f0.eval) ⟨⟨_, rfl⟩, hI, Below.refl _ _, ⟨(), rfl, sv1 (Sv.dst (by kernel_rfl) (by rw [z]; decide) _), trivial⟩⟩
    | 11, _ =>
      obtain ⟨⟨⟩, -, hs10, hw10⟩ := hk 10 (mem_reach (by kernel_rfl))
      have f92 : Sv ac 92 (.int .i64 s) := hs10 _ (List.Mem.head _)
      obtain ⟨⟨⟩, -, hs7, hw7⟩ := hk 7 (mem_reach (by kernel_rfl))
      have f89 : Sv ac 89 (.bool true) := hs7 _ (List.Mem.head _)
      refine ob_call (f := 32) (args := #[.int .i64 s, .int .i64 32]) (w' := w) (R := fun v w'' => v = .int .i64 sm ∧ True ∧ Below w.heap.size w w'') md16_o11 (.inr ⟨7, true, 89, rfl, by kernel_rfl, f89⟩) (fun o ho => ?_) ((mod_any s 32 (by omega) (by omega) w).mono ?_) ?_
      · have e : execOp ac.eval o = (do let d ← resolve ac.eval { callee := .value (.func 32), args := #[(.tmp 92), (.const (.int .i64 32))], argTypes := #[3, 3] } o.type; invoke d.target d.args) := by simp only [execOp, ho]
        have e92 := f92.eval
        have ef : ac.eval (.func 32) = .func (.func 32) #[] #[] := rfl
        have ec1 : ac.eval (.const (.int .i64 32)) = .int .i64 32 := rfl
        rw [e]
        generalize ac.eval = ρ at *
        simp [ef, e92, ec1, go_sem]
      · rintro e w' ⟨rfl, rfl⟩; exact ⟨_, rfl, by rw [hsm.out], trivial, Below.refl _ _⟩
      · rintro v w2 ⟨rfl, hwd, hb⟩
        exact ⟨⟨_, rfl⟩, ⟨hI.1.trans (hb.mono (Nat.le_trans hLW hI.1.size)), ⟨_, hI.2.1.choose_spec.1.below hb, hI.2.1.choose_spec.2⟩, hI.2.2.1.below hb, Own.below hI.2.2.2 hb⟩, hb, ⟨(), rfl, sv1 (Sv.dst (by kernel_rfl) (by rw [z]; decide) _), hwd⟩⟩
    | 12, _ =>
      obtain ⟨⟨⟩, -, hs11, hw11⟩ := hk 11 (mem_reach (by kernel_rfl))
      have f93 : Sv ac 93 (.int .i64 sm) := hs11 _ (List.Mem.head _)
      obtain ⟨⟨⟩, -, hs7, hw7⟩ := hk 7 (mem_reach (by kernel_rfl))
      have f89 : Sv ac 89 (.bool true) := hs7 _ (List.Mem.head _)
      exact ob_val (v := .int .i64 (n : Int)) md16_o12 (.inr ⟨7, true, 89, rfl, by kernel_rfl, f89⟩) (fun o ho => by have e93 := f93.eval; have ec0 : ac.eval (.const (.int .i64 1)) = .int .i64 1 := rfl; generalize ac.eval = ρ at *; simp [execOp, ho, e93, ec0, go_sem, hnn]) ⟨⟨_, rfl⟩, hI, Below.refl _ _, ⟨(), rfl, sv1 (Sv.dst (by kernel_rfl) (by rw [z]; decide) _), trivial⟩⟩
    | 13, _ =>
      obtain ⟨⟨⟩, -, hs9, hw9⟩ := hk 9 (mem_reach (by kernel_rfl))
      have f91 : Sv ac 91 (.int .i64 (n : Int)) := hs9 _ (List.Mem.head _)
      obtain ⟨⟨⟩, -, hs12, hw12⟩ := hk 12 (mem_reach (by kernel_rfl))
      have f94 : Sv ac 94 (.int .i64 (n : Int)) := hs12 _ (List.Mem.head _)
      obtain ⟨⟨⟩, -, hs7, hw7⟩ := hk 7 (mem_reach (by kernel_rfl))
      have f89 : Sv ac 89 (.bool true) := hs7 _ (List.Mem.head _)
      exact ob_val (v := .bool true) md16_o13 (.inr ⟨7, true, 89, rfl, by kernel_rfl, f89⟩) (fun o ho => by have e0 := f91.eval; have e1 := f94.eval; generalize ac.eval = ρ at *; simp [execOp, ho, e0, e1, go_sem]) ⟨⟨_, rfl⟩, hI, Below.refl _ _, ⟨(), rfl, sv1 (Sv.dst (by kernel_rfl) (by rw [z]; decide) _), trivial⟩⟩
    | 14, _ =>
      obtain ⟨⟨⟩, -, hs7, hw7⟩ := hk 7 (mem_reach (by kernel_rfl))
      have f89 : Sv ac 89 (.bool true) := hs7 _ (List.Mem.head _)
      obtain ⟨⟨⟩, -, hs13, hw13⟩ := hk 13 (mem_reach (by kernel_rfl))
      have f95 : Sv ac 95 (.bool true) := hs13 _ (List.Mem.head _)
      exact ob_val (v := .bool true) md16_o14 (.inl rfl) (fun o ho => ev_pickT f89.eval f95.eval o ho) ⟨⟨_, rfl⟩, hI, Below.refl _ _, ⟨(), rfl, sv1 (Sv.dst (by kernel_rfl) (by rw [z]; decide) _), trivial⟩⟩
    | 15, _ =>
      obtain ⟨⟨⟩, -, hs0, hw0⟩ := hk 0 (mem_reach (by kernel_rfl))
      have f82 : Sv ac 82 (.agg #[.int .i64 (n : Int), .slice A m c]) := hs0 _ (List.Mem.head _)
      obtain ⟨cs0, hb0, hz0⟩ := hI.2.1
      refine ob_skip (w' := w.setRow R #[.int .i64 (n : Int), .slice A m c]) md16_o15 (.inl rfl) (ev_srow f4.eval f82.eval hb0 (n := 2) (by kernel_rfl) rfl hz0 (by simp [Value.oneCell'])) ⟨⟨_, rfl⟩, ⟨below_setRow hI.1 hLR _, ⟨_, hb0.row _, rfl⟩, hI.2.2.1.rowO hne _, Own.rowLow hI.2.2.2 hRb _⟩, ⟨R, cs0, _, hb0, by rw [hz0]; rfl, rfl⟩, ?_⟩
      exact ⟨(), rfl, (fun _ h => by cases h), hb0.row _⟩
    | 16, _ =>
      obtain ⟨⟨⟩, -, hs14, hw14⟩ := hk 14 (mem_reach (by kernel_rfl))
      have f96 : Sv ac 96 (.bool true) := hs14 _ (List.Mem.head _)
      exact ob_val (v := .bool true) md16_o16 (.inl rfl) (ev_assign f96.eval) ⟨⟨_, rfl⟩, hI, Below.refl _ _, ⟨(), rfl, sv1 (Sv.dst (by kernel_rfl) (by rw [z]; decide) _), trivial⟩⟩
    | k + 17, h => exact absurd h (by omega)
  · intro i j hi hj hij x w w' hI hst hw
    match j, hj, x, hw with
    | 0, _, _, _ => exact trivial
    | 1, _, _, _ => exact trivial
    | 2, _, _, _ => exact trivial
    | 3, _, _, _ => exact trivial
    | 4, _, _, _ => exact trivial
    | 5, _, _, _ => exact trivial
    | 6, _, _, _ => exact trivial
    | 7, _, _, _ => exact trivial
    | 8, _, _, _ => exact trivial
    | 9, _, _, _ => exact trivial
    | 10, _, _, _ => exact trivial
    | 11, _, _, _ => exact trivial
    | 12, _, _, _ => exact trivial
    | 13, _, _, _ => exact trivial
    | 14, _, _, _ => exact trivial
    | 15, _, (), hw => exact hw.below (hst.low (by simp; omega))
    | 16, _, _, _ => exact trivial
    | k + 17, h, _, _ => exact absurd h (by omega)
  · intro ac w hF hI hall
    obtain ⟨⟨⟩, -, hs15, hw15⟩ := hall 15 (by omega)
    have g15 : (Bx w R 24 #[.int .i64 (n : Int), .slice A m c]) := hw15
    obtain ⟨⟨⟩, -, hs16, hw16⟩ := hall 16 (by omega)
    have g16 : (Sv ac 5 (.bool true)) := hs16 _ (List.Mem.head _)
    exact fin ac w hF hI.1 hI.2.2.2 g15 g16

set_option maxRecDepth 100000 in
set_option maxHeartbeats 2000000 in
theorem made_any (s : Int) (Al : Option Addr) (cl : Nat) (sc : List Int) (n : Nat) (hn : 1 + s % 32 = (n : Int)) (w : World) (ha : GI w Al cl sc) : Calls Tryd.prog 31 #[.int .i64 s, .slice Al sc.length cl] w (RetMd w n) := by
  have hn1 : 1 ≤ n := by omega
  have hn2 : n ≤ 32 := by omega
  have hlen := ha.len
  obtain ⟨sm, hsm⟩ : ∃ sm, s % 32 = sm := ⟨_, rfl⟩
  have HS := Lib.hid hsm
  rw [hsm] at hn
  have hnI : (n : Int) ≤ 32 := by omega
  have hnJ : 1 ≤ (n : Int) := by omega
  have d1 : decide ((n : Int) < 1) = false := by simp; omega
  have HN : Hid (∀ W, Calls Tryd.prog 9 #[.int .i64 (n : Int)] W (RetP W (n : Int) (upto n) 0)) := Lib.hid fun W => by
    have := New_any (n : Int) W
    rw [show nwS (n : Int) = n from if_neg (by omega), show nwX (n : Int) = upto n from (if_neg (by omega)).trans (by rw [Int.toNat_natCast]), show nwE (n : Int) = 0 from if_neg (by omega)] at this
    exact this
  have HOK := Lib.hid (show OkP (n : Int) (upto n) from ⟨by omega, by omega, fun x hx => by have := (mem_upto n x).1 hx; omega, upto_asc n⟩)
  have hz := Bx.new w 24 #[.int .i64 0, .slice none 0 0]
  have hw0 := al w (.cells #[.int .i64 0, .slice none 0 0] 24)
  have HMd : Hid (∀ W, Calls Tryd.prog 32 #[.int .i64 s, .int .i64 32] W fun e w' => e = .returned (.int .i64 sm) ∧ W = w') := Lib.hid fun W => by
    have := mod_any s 32 (by omega) (by omega) W
    rw [hsm] at this
    exact this
  clear hsm
  go_enter Tryd.func31, Tryd.ntmps31
  go_wp2_with fail
  refine (mod_any s 32 (by omega) (by omega) _).mono ?_
  rintro e w' ⟨rfl, rfl⟩
  rw [HS.out]
  go_wp2_with fail
  refine (HN.out _).mono ?_
  rintro e v2 ⟨A6, c6, rfl, ho, hb⟩
  rw [upto_len] at ho ⊢
  have hg := Own.alloc (Own.mono ho (base' := w.heap.size + 1) (by have := hb.size; rw [World.size_alloc] at this ⊢; omega)) (.cells #[.int .i64 (n : Int), .slice A6 n c6] 24)
  have hB6 := Bx.new v2 24 #[.int .i64 (n : Int), .slice A6 n c6]
  have hn0 := Bx.new v2 24 #[.int .i64 0, .slice none 0 0]
  have hz2 := (hz.below hb).alloc (.cells #[.int .i64 (n : Int), .slice A6 n c6] 24)
  have hlz := (hz.below hb).lt
  have hw := below_step (below_step hw0 hb) (al v2 (.cells #[.int .i64 (n : Int), .slice A6 n c6] 24))
  have hq0 : (v2.alloc (.cells #[.int .i64 (n : Int), .slice A6 n c6] 24)).cell? ⟨v2.heap.size, 0, none⟩ = some (.int .i64 (n : Int)) := hB6.cell 0
  clear ho hb hz hw0
  go_wp2_with (first | (refine wpList_store_row rfl 24 _ _ rfl v2.heap.size _ rfl rfl 24 _ hn0 pool_size rfl (pv_one _ _ _ _) ?_; rw [World.setRow_alloc_new]; simp only [Act.put]))
  clear hn0 hq0
  generalize v2.alloc (.cells #[.int .i64 (n : Int), .slice A6 n c6] 24) = W2 at *
  generalize v2.heap.size = B at *
  go_loopg [8] 60 (fun g i wx => ∃ (k m : Nat) (A : Option Addr) (c : Nat) (ys : List Int), g = 60 - k ∧ k ≤ 60 ∧ i = .int .i64 k ∧ MdL w n B A m c ys wx)
  case atStart => exact ⟨0, n, A6, c6, upto n, rfl, by omega, rfl, hz2, hB6, hg, HOK.out, hw, hlz⟩
  case round =>
    obtain ⟨k, m, A, c, ys, rfl, hk, rfl, hr⟩ := hrel
    clear hB6 hg hw hz2
    have hres := hr.res
    have hb := hr.box
    have hown := hr.own
    have hgi := OwnI.gi hown
    have hln := OwnI.len hown
    have hok := hr.ok
    have hlo := hr.lo
    have hBw := hr.hB
    have hltB := hb.lt
    have hsc := ha.below hlo
    clear hr
    by_cases hgo : k < sc.length ∧ k < 60
    · obtain ⟨hk1, hk2⟩ := hgo
      have kd1 : decide ((k : Int) < (sc.length : Int)) = true := by simp; omega
      have kd2 : decide ((k : Int) < 60) = true := by simp; omega
      have kd3 : (k < 60) = True := by simp; omega
      obtain ⟨ad, rfl, _, hca⟩ := hsc.at_ (k := k) hk1
      obtain ⟨x, hx⟩ : ∃ x, sc[k]?.getD 0 % 1048576 = x := ⟨_, rfl⟩
      have hx0 : 0 ≤ x := by omega
      have hx1 : x < 1048576 := by omega
      have HX := Lib.hid hx
      clear hx
      generalize sc[k]?.getD 0 = scv at *
      obtain ⟨ts, tz, td, te, htk, hte⟩ := Take_step n ys hok
      obtain ⟨gs, gz, ge, hgv, hge⟩ := Give_step n ys hok ((IntKind.i64.wrap (x.tdiv 2)).tmod (n : Int))
      have HT := Lib.hid (htk A c)
      have HV := Lib.hid (hgv A c)
      rw [← hln] at HT HV
      have HLN := Lib.hid hln
      have HOK2 := Lib.hid hok
      clear htk hgv hln hok
      go_wp2_with fail
      refine (mod_any scv 1048576 (by omega) (by omega) _).mono ?_
      rintro e w' ⟨rfl, rfl⟩
      rw [HX.out]
      have hB10 := Bx.new wr 24 #[.int .i64 0, .slice none 0 0]
      have hb2 := hb.alloc (.cells #[.int .i64 0, .slice none 0 0] 24)
      have hres2 := hres.alloc (.cells #[.int .i64 0, .slice none 0 0] 24)
      have hgi2 := hgi.alloc (.cells #[.int .i64 0, .slice none 0 0] 24)
      have hlo2 := below_step hlo (al wr (.cells #[.int .i64 0, .slice none 0 0] 24))
      have W5lo := al wr (.cells #[.int .i64 0, .slice none 0 0] 24)
      have hsz2 : wr.heap.size < (wr.alloc (.cells #[.int .i64 0, .slice none 0 0] 24)).heap.size := by rw [World.size_alloc]; omega
      cases hev : (x % 2 == 0)
      · -- odd: Give
        clear HT hte
        go_wp2_with fail
        generalize wr.alloc (.cells #[.int .i64 0, .slice none 0 0] 24) = W5 at *
        obtain ⟨y0, y1⟩ := s2 hb2
        have hnz : ((n : Int) == 0) = false := by simp; omega
        have hnz2 : (n = 0) = False := by simp; omega
        rename_i K hK
        go_region_with (first | (go_at_call 20; refine (HV.out W5.drew hgi2).mono ?_; rintro e w6 ⟨A7, c7, rfl, ho, hb6⟩; obtain ⟨x0, x1⟩ := s2 (hB10.below (undrew hb6)); have z0 := (hB10.below (undrew hb6)).frozen 0; have hBa := (hB10.below (undrew hb6)).set 0 (.int .i64 gs); have z1 := hBa.frozen 1; have x2 : (w6.setCell ⟨wr.heap.size, 0, none⟩ (.int .i64 gs)).cell? ⟨wr.heap.size, 1, none⟩ = some (.slice none 0 0) := hBa.cell 1; have hB10' : Bx ((w6.setCell ⟨wr.heap.size, 0, none⟩ (.int .i64 gs)).setCell ⟨wr.heap.size, 1, none⟩ (.slice A7 gz.length c7)) wr.heap.size 24 #[.int .i64 gs, .slice A7 gz.length c7] := hBa.set 1 _; have hb7 := ((hb2.below (undrew hb6)).setO (p := ⟨wr.heap.size, 0, none⟩) (by show _ ≠ wr.heap.size; omega) (.int .i64 gs)).setO (p := ⟨wr.heap.size, 1, none⟩) (by show _ ≠ wr.heap.size; omega) (.slice A7 gz.length c7); have hres7 := ((hres2.below (undrew hb6)).setO (p := ⟨wr.heap.size, 0, none⟩) (by show _ ≠ wr.heap.size; omega) (.int .i64 gs)).setO (p := ⟨wr.heap.size, 1, none⟩) (by show _ ≠ wr.heap.size; omega) (.slice A7 gz.length c7); have ho7 := Own.setLow (Own.setLow ho (p := ⟨wr.heap.size, 0, none⟩) hsz2 (.int .i64 gs)) (p := ⟨wr.heap.size, 1, none⟩) hsz2 (.slice A7 gz.length c7); have hbw := ((below_step W5lo (undrew hb6)).setCell (p := ⟨wr.heap.size, 0, none⟩) (Nat.le_refl _) (.int .i64 gs)).setCell (p := ⟨wr.heap.size, 1, none⟩) (Nat.le_refl _) (.slice A7 gz.length c7)))
        all_goals
          refine (show K _ _ from hK _ _ ?_)
          try simp only [Act.put, List.getElem_toArray, List.getElem_cons_succ, List.getElem_cons_zero, List.setIfInBounds_toArray, List.set_cons_zero, List.set_cons_succ]
          have hgi7 : OwnI _ (w.heap.size + 1) A m c ys := Own.below hown hbw
          have hlo7 := below_step hlo hbw
          clear hBa x0 x1 z0 z1 x2 ho hb6 hbw y0 y1
          generalize (w6.setCell ⟨wr.heap.size, 0, none⟩ (.int .i64 gs)).setCell ⟨wr.heap.size, 1, none⟩ (.slice A7 gz.length c7) = W7 at *
          obtain ⟨x0, x1⟩ := s2 hB10'
          obtain ⟨y0, y1⟩ := s2 hb7
          rcases hge with ⟨rfl, rfl, hok'⟩ | hne
          · have HO := Lib.hid hok'
            clear hok'
            have e7 : ((n : Int) == (n : Int)) = true := by simp
            go_wp2_with (first | (refine wpList_load_row rfl 24 _ rfl (wr.heap.size) rfl 24 _ _ _ hB10' Tryd.underlying24 rfl pool_size ?_) | (refine wpList_store_row rfl 24 _ _ rfl (B) _ rfl rfl 24 _ hb7 pool_size rfl (pv_one _ _ _ _) ?_; simp only [Act.put]))
            go_roundg (60 - (k + 1))
            case measure => omega
            case rel =>
              refine ⟨k + 1, gz.length, A7, c7, gz, rfl, by omega, by go_num, hres7.rowO (by omega) _, hb7.row _, ?_, HO.out, below_setRow hlo7 (by omega) _, hBw⟩
              exact Own.mono (Own.rowLow ho7 (by show B < W5.heap.size; omega) _) (by show w.heap.size + 1 ≤ W5.heap.size; omega)
          · go_wp2
            go_roundg (60 - (k + 1))
            case measure => omega
            case rel => exact ⟨k + 1, m, A, c, ys, rfl, by omega, by go_num, hres7, hb7, hgi7, HOK2.out, hlo7, hBw⟩
      · -- even: Take
        clear HV hge
        go_wp2_with (first | (refine wpList_load_row rfl 24 _ rfl (B) rfl 24 _ _ _ hb2 Tryd.underlying24 rfl pool_size ?_))
        generalize wr.alloc (.cells #[.int .i64 0, .slice none 0 0] 24) = W5 at *
        refine (HT.out _ hgi2).mono ?_
        rintro e w6 ⟨A7, c7, rfl, ho, hb6⟩
        have hB10' := (hB10.below hb6).row #[.int .i64 ts, .slice A7 tz.length c7]
        have hb7 := (hb2.below hb6).rowO (g := wr.heap.size) (by omega) #[.int .i64 ts, .slice A7 tz.length c7]
        have hres7 := (hres2.below hb6).rowO (g := wr.heap.size) (by omega) #[.int .i64 ts, .slice A7 tz.length c7]
        have ho7 := Own.rowLow ho hsz2 #[.int .i64 ts, .slice A7 tz.length c7]
        have hgi7 : OwnI (w6.setRow wr.heap.size #[.int .i64 ts, .slice A7 tz.length c7]) (w.heap.size + 1) A m c ys := Own.below hown (below_setRow (below_step (W5lo) hb6) (Nat.le_refl _) _)
        have hlo7 := below_setRow (below_step hlo2 hb6) (by omega : w.heap.size ≤ wr.heap.size) #[.int .i64 ts, .slice A7 tz.length c7]
        have hn7 := hB10.below hb6
        rcases hte with ⟨rfl, rfl, hok'⟩ | hne
        · have HO := Lib.hid hok'
          clear hok'
          obtain ⟨x0, x1⟩ := s2 hB10'
          obtain ⟨y0, y1⟩ := s2 hb7
          have e7 : ((n : Int) == (n : Int)) = true := by simp
          go_wp2_with (first | (refine wpList_store_row rfl 24 _ _ rfl (wr.heap.size) _ rfl rfl 24 _ hn7 pool_size rfl (pv_one _ _ _ _) ?_; simp only [Act.put]) | (refine wpList_load_row rfl 24 _ rfl (wr.heap.size) rfl 24 _ _ _ hB10' Tryd.underlying24 rfl pool_size ?_) | (refine wpList_store_row rfl 24 _ _ rfl (B) _ rfl rfl 24 _ hb7 pool_size rfl (pv_one _ _ _ _) ?_; simp only [Act.put]))
          go_roundg (60 - (k + 1))
          case measure => omega
          case rel =>
            refine ⟨k + 1, tz.length, A7, c7, tz, rfl, by omega, by go_num, hres7.rowO (by omega) _, hb7.row _, ?_, HO.out, below_setRow hlo7 (by omega) _, hBw⟩
            exact Own.mono (Own.rowLow ho7 (by omega) _) (by omega)
        · obtain ⟨x0, x1⟩ := s2 hB10'
          obtain ⟨y0, y1⟩ := s2 hb7
          go_wp2_with (first | (refine wpList_store_row rfl 24 _ _ rfl (wr.heap.size) _ rfl rfl 24 _ hn7 pool_size rfl (pv_one _ _ _ _) ?_; simp only [Act.put]))
          go_roundg (60 - (k + 1))
          case measure => omega
          case rel => exact ⟨k + 1, m, A, c, ys, rfl, by omega, by go_num, hres7, hb7, hgi7, HOK2.out, hlo7, hBw⟩
    · have hge : (decide ((k : Int) < (sc.length : Int)) = false ∧ ¬ k < sc.length) ∨ (decide ((k : Int) < (sc.length : Int)) = true ∧ k < sc.length ∧ 60 ≤ k) := by
        by_cases h : k < sc.length
        · right; refine ⟨by simp; omega, h, by omega⟩
        · left; exact ⟨by simp; omega, h⟩
      have HC := Lib.hid (Check_any (n : Int) A c ys wr hgi)
      rw [hok.chk, ← hln] at HC
      have HLN := Lib.hid hln
      have HOK2 := Lib.hid hok
      clear hln hok hgo
      rcases hge with ⟨kd1, kd0⟩ | ⟨kd1, kd2, kd3⟩
      case' inr =>
        obtain rfl : k = 60 := by omega
        have kd4 : decide ((60 : Int) < (sc.length : Int)) = true := kd1
        clear kd1 kd3
      all_goals
        go_wp2_with (first | (refine wpList_load_row rfl 24 _ rfl (B) rfl 24 _ _ _ hb Tryd.underlying24 rfl pool_size ?_))
        refine HC.out.mono ?_
        rintro e w3 ⟨rfl, hb3⟩
        have hb4 := hb.below hb3
        have hres4 := hres.below hb3
        have hown4 := Own.below hown hb3
        have hlo4 := below_step hlo hb3
        clear hb hres hlo HC
        have hwn : IntKind.i64.wrap (1 + sm) = (n : Int) := by rw [hn]; rw [IntKind.wrap_i64]; omega
        go_upto_region 16 with (first | (refine wpList_load_row rfl 24 _ rfl (B) rfl 24 _ _ _ hb Tryd.underlying24 rfl pool_size ?_))
        rename_i K hK
        refine md16 s sm n A c m B w.heap.size w.heap.size (w.heap.size + 1) ys rfl rfl rfl rfl rfl rfl hb4 hres4 HS hwn hlo4.size (Nat.le_refl _) (by omega) hown4 (Nat.lt_succ_self _) ?_
        intro a' w' hF hb go g15 g16
        refine hK _ _ ?_
        obtain ⟨fv, hfv, hfr⟩ := hF.lit [82, 83, 84, 85, 86, 87, 88, 89, 90, 91, 92, 93, 94, 95, 96, 5] (dsts_in (by kernel_rfl))
        have ev5 := hfv 5 _ g16
        subst hfr
        simp only [List.foldl_cons, List.foldl_nil, Act.put, List.setIfInBounds_toArray, List.set_cons_zero, List.set_cons_succ, ev5]
        clear hfv hF ev5 g16
        generalize fv 82 = u82
        generalize fv 83 = u83
        generalize fv 84 = u84
        generalize fv 85 = u85
        generalize fv 86 = u86
        generalize fv 87 = u87
        generalize fv 88 = u88
        generalize fv 89 = u89
        generalize fv 90 = u90
        generalize fv 91 = u91
        generalize fv 92 = u92
        generalize fv 93 = u93
        generalize fv 94 = u94
        generalize fv 95 = u95
        generalize fv 96 = u96
        clear fv
        clear hK K
        go_wp2
        refine bodyPost_ret (res_c rfl (v := .bool true) rfl rfl g15 Tryd.underlying24 pool_size) rfl ⟨A, c, ys, by rw [← HLN.out], ?_, HOK2.out, hlo4.trans hb⟩
        exact OwnI.gi go
end Go.Proofs.YtoimmfcodflmkaaDoor
