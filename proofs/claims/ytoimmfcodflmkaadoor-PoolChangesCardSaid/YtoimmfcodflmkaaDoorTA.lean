/- Package bitmap, for sets of one word: Check, New, Clone. -/
import Derived.Test.YtoimmfcodflmkaaDoorT9
namespace Go.Proofs.YtoimmfcodflmkaaDoor
open Go.RowKit
set_option linter.unusedVariables false

/-- A slice of words with one word in it. -/
def GW (w : World) (A : Option Addr) (m : Nat) : Prop := ∃ ad : Addr, A = some ad ∧ ad.block < w.heap.size ∧ w.cell? ad = some (.int .u64 (m : Int))
theorem GW.below {w w' : World} {A : Option Addr} {m : Nat} (h : GW w A m) (hb : Below w.heap.size w w') : GW w' A m := by
  obtain ⟨ad, rfl, h1, h2⟩ := h
  exact ⟨ad, rfl, Nat.lt_of_lt_of_le h1 hb.size, (hb.cell (p := ad) h1).trans h2⟩
theorem make1 (W : World) : (Instr.makeSlice 60 (.int .i64 1) (.int .i64 1)).run Tryd.prog W = .ok (.slice (some ⟨W.heap.size, 0, none⟩) 1 1) (W.alloc (.cells #[.int .u64 0] 75)) := by kernel_rfl
theorem bits_size : (Tryd.prog.info? 62).map (·.size) = some 2 := by kernel_rfl

noncomputable def bc3_l : List Oper := (Tryd.f45.body.bind (regIn · 3)).getD []
theorem bc3_o0 : bc3_l[0]?.map (fun o => (o.dst, o.op, o.guard)) = some (some 12, .fieldAddr 62 (.tmp 1) 1, none) := by kernel_rfl
theorem bc3_o1 : bc3_l[1]?.map (fun o => (o.dst, o.op, o.guard)) = some (some 13, .load 60 (.tmp 12), none) := by kernel_rfl
theorem bc3_o2 : bc3_l[2]?.map (fun o => (o.dst, o.op, o.guard)) = some (some 14, .call { callee := .builtin .len, args := #[(.tmp 13)], argTypes := #[60] }, none) := by kernel_rfl
theorem bc3_o3 : bc3_l[3]?.map (fun o => (o.dst, o.op, o.guard)) = some (some 15, .fieldAddr 62 (.tmp 1) 0, none) := by kernel_rfl
theorem bc3_o4 : bc3_l[4]?.map (fun o => (o.dst, o.op, o.guard)) = some (some 16, .load 3 (.tmp 15), none) := by kernel_rfl
theorem bc3_o5 : bc3_l[5]?.map (fun o => (o.dst, o.op, o.guard)) = some (some 17, .call { callee := .value (.func 44), args := #[(.tmp 16)], argTypes := #[3] }, none) := by kernel_rfl
theorem bc3_o6 : bc3_l[6]?.map (fun o => (o.dst, o.op, o.guard)) = some (some 18, .binOp .neq 3 (.tmp 14) (.tmp 17) 3, none) := by kernel_rfl
def bc3_sp (n : Nat) (ad : Addr) (c : Nat) (B1 : Nat) (W : World) : Nat → Spec
  | 0 => ⟨Unit, [12], fun _ => [(12, .pointer (some ⟨B1, 1, none⟩))], fun _ _ => True⟩
  | 1 => ⟨Unit, [13], fun _ => [(13, .slice (some ad) 1 c)], fun _ _ => True⟩
  | 2 => ⟨Unit, [14], fun _ => [(14, .int .i64 1)], fun _ _ => True⟩
  | 3 => ⟨Unit, [15], fun _ => [(15, .pointer (some ⟨B1, 0, none⟩))], fun _ _ => True⟩
  | 4 => ⟨Unit, [16], fun _ => [(16, .int .i64 (n : Int))], fun _ _ => True⟩
  | 5 => ⟨Unit, [17], fun _ => [(17, .int .i64 1)], fun _ _ => True⟩
  | 6 => ⟨Unit, [18], fun _ => [(18, .bool false)], fun _ _ => True⟩
  | _ => ⟨Unit, [], fun _ => [], fun _ _ => True⟩
theorem bc3_fb (n : Nat) (ad : Addr) (c : Nat) (B1 : Nat) (W : World) : slB bc3_l (fun j => (bc3_sp n ad c B1 W j).ss) = true := by kernel_rfl
set_option maxHeartbeats 2000000 in
theorem bc3 {Q : Exit → Act → World → Prop} {a0 : Act} {W : World} (n : Nat) (ad : Addr) (c : Nat) (B1 : Nat)  (z0 : a0.tmps.size = 38) (p1 : Sv a0 1 (.pointer (some ⟨B1, 0, none⟩))) (hx : Bx W B1 62 #[.int .i64 (n : Int), .slice (some ad) 1 c]) (h1 : 1 ≤ n) (h2 : n ≤ 32)
    (fin : ∀ ac w, Fr a0 bc3_l ac → Below W.heap.size W w → (Sv ac 18 (.bool false)) → Q .normal ac w) : (Code.region 3 bc3_l.toArray true).wp Tryd.prog Q a0 W := by
  refine region_of (n := 7) (by kernel_rfl) (by kernel_rfl) (by kernel_rfl) (bc3_sp n ad c B1 W) (bc3_fb n ad c B1 W) (fun w => Below W.heap.size W w) (stpN 62 []) (bel0 W) ?_ ?_ ?_
  · intro i hi ac w hF hI hk
    have z := hF.1.trans z0
    have f1 := hF.sv (s := 1) (by kernel_rfl) p1
    match i, hi with
    | 0, _ =>
      exact ob_val (v := .pointer (some ⟨B1, 1, none⟩)) bc3_o0 (.inl rfl) (fun o ho => by have e1 := f1.eval; generalize ac.eval = ρ at *; simp [execOp, ho, e1, go_sem]) ⟨⟨_, rfl⟩, hI, Below.refl _ _, ⟨(), rfl, sv1 (Sv.dst (by kernel_rfl) (by rw [z]; decide) _), trivial⟩⟩
    | 1, _ =>
      obtain ⟨⟨⟩, -, hs0, hw0⟩ := hk 0 (mem_reach (by kernel_rfl))
      have f12 : Sv ac 12 (.pointer (some ⟨B1, 1, none⟩)) := hs0 _ (List.Mem.head _)
      exact ob_val (v := .slice (some ad) 1 c) bc3_o1 (.inl rfl) (fun o ho => by have e1 := f12.eval; have hc : w.cell? ⟨B1, 1, none⟩ = some (.slice (some ad) 1 c) := (hx.below hI).cell 1; generalize ac.eval = ρ at *; simp [execOp, ho, e1, hc, go_sem]) ⟨⟨_, rfl⟩, hI, Below.refl _ _, ⟨(), rfl, sv1 (Sv.dst (by kernel_rfl) (by rw [z]; decide) _), trivial⟩⟩
    | 2, _ =>
      obtain ⟨⟨⟩, -, hs1, hw1⟩ := hk 1 (mem_reach (by kernel_rfl))
      have f13 : Sv ac 13 (.slice (some ad) 1 c) := hs1 _ (List.Mem.head _)
      exact ob_val (v := .int .i64 1) bc3_o2 (.inl rfl) (fun o ho => by have e13 := f13.eval; generalize ac.eval = ρ at *; simp [execOp, ho, e13, go_sem]) ⟨⟨_, rfl⟩, hI, Below.refl _ _, ⟨(), rfl, sv1 (Sv.dst (by kernel_rfl) (by rw [z]; decide) _), trivial⟩⟩
    | 3, _ =>
      exact ob_val (v := .pointer (some ⟨B1, 0, none⟩)) bc3_o3 (.inl rfl) (fun o ho => by have e1 := f1.eval; generalize ac.eval = ρ at *; simp [execOp, ho, e1, go_sem]) ⟨⟨_, rfl⟩, hI, Below.refl _ _, ⟨(), rfl, sv1 (Sv.dst (by kernel_rfl) (by rw [z]; decide) _), trivial⟩⟩
    | 4, _ =>
      obtain ⟨⟨⟩, -, hs3, hw3⟩ := hk 3 (mem_reach (by kernel_rfl))
      have f15 : Sv ac 15 (.pointer (some ⟨B1, 0, none⟩)) := hs3 _ (List.Mem.head _)
      exact ob_val (v := .int .i64 (n : Int)) bc3_o4 (.inl rfl) (fun o ho => by have e1 := f15.eval; have hc : w.cell? ⟨B1, 0, none⟩ = some (.int .i64 (n : Int)) := (hx.below hI).cell 0; generalize ac.eval = ρ at *; simp [execOp, ho, e1, hc, go_sem]) ⟨⟨_, rfl⟩, hI, Below.refl _ _, ⟨(), rfl, sv1 (Sv.dst (by kernel_rfl) (by rw [z]; decide) _), trivial⟩⟩
    | 5, _ =>
      obtain ⟨⟨⟩, -, hs4, hw4⟩ := hk 4 (mem_reach (by kernel_rfl))
      have f16 : Sv ac 16 (.int .i64 (n : Int)) := hs4 _ (List.Mem.head _)
      refine ob_call (f := 44) (args := #[.int .i64 (n : Int)]) (w' := w) (R := fun v w'' => v = .int .i64 1 ∧ True ∧ Below w.heap.size w w'') bc3_o5 (.inl rfl) (fun o ho => ?_) ((words_any n h1 (by omega) w).mono ?_) ?_
      · have e : execOp ac.eval o = (do let d ← resolve ac.eval { callee := .value (.func 44), args := #[(.tmp 16)], argTypes := #[3] } o.type; invoke d.target d.args) := by simp only [execOp, ho]
        have e16 := f16.eval
        have ef : ac.eval (.func 44) = .func (.func 44) #[] #[] := rfl
        rw [e]
        generalize ac.eval = ρ at *
        simp [ef, e16, go_sem]
      · rintro e w' ⟨rfl, rfl⟩; exact ⟨_, rfl, rfl, trivial, Below.refl _ _⟩
      · rintro v w2 ⟨rfl, hwd, hb⟩
        exact ⟨⟨_, rfl⟩, below_step hI hb, hb, ⟨(), rfl, sv1 (Sv.dst (by kernel_rfl) (by rw [z]; decide) _), hwd⟩⟩
    | 6, _ =>
      obtain ⟨⟨⟩, -, hs2, hw2⟩ := hk 2 (mem_reach (by kernel_rfl))
      have f14 : Sv ac 14 (.int .i64 1) := hs2 _ (List.Mem.head _)
      obtain ⟨⟨⟩, -, hs5, hw5⟩ := hk 5 (mem_reach (by kernel_rfl))
      have f17 : Sv ac 17 (.int .i64 1) := hs5 _ (List.Mem.head _)
      exact ob_val (v := .bool false) bc3_o6 (.inl rfl) (fun o ho => by have e0 := f14.eval; have e1 := f17.eval; generalize ac.eval = ρ at *; simp [execOp, ho, e0, e1, go_sem]) ⟨⟨_, rfl⟩, hI, Below.refl _ _, ⟨(), rfl, sv1 (Sv.dst (by kernel_rfl) (by rw [z]; decide) _), trivial⟩⟩
    | k + 7, h => exact absurd h (by omega)
  · intro i j hi hj hij x w w' hI hst hw
    match j, hj, x, hw with
    | 0, _, _, _ => exact trivial
    | 1, _, _, _ => exact trivial
    | 2, _, _, _ => exact trivial
    | 3, _, _, _ => exact trivial
    | 4, _, _, _ => exact trivial
    | 5, _, _, _ => exact trivial
    | 6, _, _, _ => exact trivial
    | k + 7, h, _, _ => exact absurd h (by omega)
  · intro ac w hF hI hall
    obtain ⟨⟨⟩, -, hs6, hw6⟩ := hall 6 (by omega)
    have g6 : (Sv ac 18 (.bool false)) := hs6 _ (List.Mem.head _)
    exact fin ac w hF hI g6
set_option maxHeartbeats 1000000 in
theorem bCheck_any (n : Nat) (A : Option Addr) (c m : Nat) (w : World) (h1 : 1 ≤ n) (h2 : n ≤ 32) (hm : m < 2 ^ n) (hg : GW w A m) :
    Calls Tryd.prog 45 #[.agg #[.int .i64 (n : Int), .slice A 1 c]] w (RetB w (.returned (.int .i64 0))) := by
  have hx := Bx.new w 62 #[.int .i64 (n : Int), .slice A 1 c]
  have hw := al w (.cells #[.int .i64 (n : Int), .slice A 1 c] 62)
  have hg2 := hg.below hw
  obtain ⟨ad, rfl, hb, hcell⟩ := hg2
  obtain ⟨c0, c1⟩ := s2 hx
  clear hg
  generalize hW : w.alloc (.cells #[.int .i64 (n : Int), .slice (some ad) 1 c] 62) = W at *
  have HW := Lib.hid hW
  clear hW
  have e1 : (n : Int) ≤ 32 := by omega
  have e2 : (n : Int) % 64 = (n : Int) := by omega
  have e3 : (n = 0) = False := by simp; omega
  have e4 : decide (1024 < (n : Int)) = false := by simp; omega
  have e5 : (m : Int) / 2 ^ n = 0 := by
    rw [show (2 : Int) ^ n = ((2 ^ n : Nat) : Int) by rw [Int.natCast_pow]; rfl]
    generalize 2 ^ n = y at hm ⊢
    exact Int.ediv_eq_zero_of_lt (by omega) (by omega)
  have e7 : (m : Int) / 2 ^ (n % 64) = 0 := by rw [show n % 64 = n by omega]; exact e5
  have e6 : ((n : Int) != 0) = true := by simp; omega
  go_enter Tryd.func45, Tryd.ntmps45
  go_upto_region 3 with fail
  rename_i K hK
  rw [HW.out]
  refine bc3 (W := W) n ad c w.heap.size rfl rfl hx h1 h2 ?_
  rintro a' w5 hF hb5 f18
  refine hK _ _ ?_
  obtain ⟨fv, hfv, hfr⟩ := hF.lit [12, 13, 14, 15, 16, 17, 18] (dsts_in (by kernel_rfl))
  have ev18 := hfv 18 _ f18
  subst hfr
  simp only [List.foldl_cons, List.foldl_nil, Act.put, List.setIfInBounds_toArray, List.set_cons_zero, List.set_cons_succ, ev18]
  clear hfv hF ev18 f18
  generalize fv 12 = u12
  generalize fv 13 = u13
  generalize fv 14 = u14
  generalize fv 15 = u15
  generalize fv 16 = u16
  generalize fv 17 = u17
  clear fv
  clear hK K
  have hx5 := hx.below hb5
  obtain ⟨d0, d1⟩ := s2 hx5
  have hc5 := (hb5.cell (p := ad) hb).trans hcell
  clear c0 c1 hcell hx hx5
  go_wp2
  go_ret
  exact ⟨rfl, below_step hw hb5⟩

set_option maxHeartbeats 1000000 in
theorem bNew_any (n : Nat) (w : World) (h1 : 1 ≤ n) (h2 : n ≤ 32) :
    Calls Tryd.prog 40 #[.int .i64 (n : Int)] w fun e w' => ∃ A c, e = .returned (.tuple #[.agg #[.int .i64 (n : Int), .slice A 1 c], .int .i64 0]) ∧ GW w' A 0 ∧ Below w.heap.size w w' := by
  have hz := Bx.new w 62 #[.int .i64 0, .slice none 0 0]
  have hw := al w (.cells #[.int .i64 0, .slice none 0 0] 62)
  have e1 : (n : Int) ≤ 32 := by omega
  have e4 : decide (1024 < (n : Int)) = false := by simp; omega
  have hmk := make1
  have hz2 := hz.alloc (.cells #[.int .u64 0] 75)
  have hw2 := below_step hw (al _ (.cells #[.int .u64 0] 75))
  have hn := Bx.new (w.alloc (.cells #[.int .i64 0, .slice none 0 0] 62)) 75 #[.int .u64 0]
  rw [World.size_alloc] at hn
  go_enter Tryd.func40, Tryd.ntmps40
  go_wp2_with fail
  refine (words_any n h1 (by omega) _).mono ?_
  rintro e w' ⟨rfl, rfl⟩
  go_wp2_with (first | (refine wpList_store_row rfl 62 _ _ rfl w.heap.size _ rfl rfl 62 _ hz2 bits_size rfl (pv_one _ _ _ _) ?_))
  refine bodyPost_ret (res_c rfl (v := .int .i64 0) rfl rfl (hz2.row _) Tryd.underlying62 bits_size) rfl ⟨_, 1, rfl, ⟨⟨w.heap.size + 1, 0, none⟩, rfl, ?_, ?_⟩, ?_⟩
  · have := hn.lt
    exact ((hn.rowO (g := w.heap.size) (by omega) _).lt)
  · exact (hn.rowO (g := w.heap.size) (by omega) _).cell 0
  · exact below_setRow hw2 (Nat.le_refl _) _
end Go.Proofs.YtoimmfcodflmkaaDoor
