/- The statement FaultEnds. -/
import Derived.Test.YtbcfnocefjolfaaE1
namespace Go.Proofs.Ytbcfnocefjolfaa
open Go.RowKit
set_option linter.unusedVariables false

/-- Facts made of a number fit the request's kind. -/
def RetFc (w : World) (kind : Int) (e : Ending) (w' : World) : Prop :=
  ∃ acc wr rm lv fr, e = .returned (.agg #[.int .i64 acc, .bool wr, .bool rm, .int .i64 lv, .bool fr]) ∧ fcE kind acc lv = 0 ∧ Below w.heap.size w w'
theorem facts_f (tk kind proc a b val st : Int) (A : Option Addr) (c : Nat) (xs : List Int) (slot : Int) (n : Int) (w : World) : Calls Try.prog 14 #[.agg #[.int .u64 tk, .int .i64 kind, .int .i64 proc, .int .i64 a, .int .i64 b, .int .u64 val, .int .i64 st, .slice A xs.length c, .int .i64 slot], .int .i64 n] w (RetFc w kind) := by
  refine (facts_any tk kind proc a b val st A c xs slot n w).mono ?_
  rintro e w' ⟨rfl, hb⟩
  obtain ⟨k, hk⟩ : ∃ k, n % 1048576 = k := ⟨_, rfl⟩
  rw [hk]
  refine ⟨_, _, _, _, _, rfl, ?_, hb⟩
  unfold fcE accF
  cases h : accB kind
  · simp only [Bool.false_eq_true, if_false]
    rw [if_neg (by omega)]
  · simp only [if_true]
    rw [if_neg (by omega)]

noncomputable def en3_l : List Oper := (Try.f4.body.bind (regIn · 3)).getD []
theorem en3_o0 : en3_l[0]?.map (fun o => (o.dst, o.op, o.guard)) = some (some 27, .load 27 (.tmp 9), none) := by kernel_rfl
theorem en3_o1 : en3_l[1]?.map (fun o => (o.dst, o.op, o.guard)) = some (some 28, .move (.tmp 3), none) := by kernel_rfl
theorem en3_o2 : en3_l[2]?.map (fun o => (o.dst, o.op, o.guard)) = some (some 29, .call { callee := .value (.func 10), args := #[(.tmp 28), (.const (.int .i64 256))], argTypes := #[3, 3] }, none) := by kernel_rfl
theorem en3_o3 : en3_l[3]?.map (fun o => (o.dst, o.op, o.guard)) = some (some 30, .call { callee := .value (.func 9), args := #[(.tmp 27), (.tmp 29)], argTypes := #[27, 3] }, none) := by kernel_rfl
theorem en3_o4 : en3_l[4]?.map (fun o => (o.dst, o.op, o.guard)) = some (some 26, .move (.tmp 30), none) := by kernel_rfl
theorem en3_o5 : en3_l[5]?.map (fun o => (o.dst, o.op, o.guard)) = some (some 31, .extract (.tmp 26) 0, none) := by kernel_rfl
theorem en3_o6 : en3_l[6]?.map (fun o => (o.dst, o.op, o.guard)) = some (some 32, .extract (.tmp 26) 1, none) := by kernel_rfl
theorem en3_o7 : en3_l[7]?.map (fun o => (o.dst, o.op, o.guard)) = some (some 11, .alloc 27, none) := by kernel_rfl
theorem en3_o8 : en3_l[8]?.map (fun o => (o.dst, o.op, o.guard)) = some (none, .store 27 (.tmp 11) (.tmp 31), none) := by kernel_rfl
theorem en3_o9 : en3_l[9]?.map (fun o => (o.dst, o.op, o.guard)) = some (some 12, .assign (.tmp 32), none) := by kernel_rfl
def en3_sp (tk kind proc a b val st : Int) (A : Option Addr) (c : Nat) (xs : List Int) (sl slot : Int) (B9 : Nat) (W : World) : Nat → Spec
  | 0 => ⟨Unit, [27], fun _ => [(27, .agg #[.int .u64 tk, .int .i64 kind, .int .i64 proc, .int .i64 a, .int .i64 b, .int .u64 val, .int .i64 st, .slice A xs.length c, .int .i64 0])], fun _ _ => True⟩
  | 1 => ⟨Unit, [28], fun _ => [(28, .int .i64 slot)], fun _ _ => True⟩
  | 2 => ⟨Unit, [29], fun _ => [(29, .int .i64 sl)], fun _ _ => True⟩
  | 3 => ⟨Option Addr × Nat, [30], fun ⟨A8, c8⟩ => [(30, .tuple #[.agg #[.int .u64 tk, .int .i64 kind, .int .i64 proc, .int .i64 a, .int .i64 b, .int .u64 val, .int .i64 3, .slice A8 xs.length c8, .int .i64 sl], .int .i64 0])], fun ⟨A8, c8⟩ w => OwnI w W.heap.size A8 xs.length c8 xs⟩
  | 4 => ⟨Option Addr × Nat, [26], fun ⟨A8, c8⟩ => [(26, .tuple #[.agg #[.int .u64 tk, .int .i64 kind, .int .i64 proc, .int .i64 a, .int .i64 b, .int .u64 val, .int .i64 3, .slice A8 xs.length c8, .int .i64 sl], .int .i64 0])], fun ⟨A8, c8⟩ w => OwnI w W.heap.size A8 xs.length c8 xs⟩
  | 5 => ⟨Option Addr × Nat, [31], fun ⟨A8, c8⟩ => [(31, .agg #[.int .u64 tk, .int .i64 kind, .int .i64 proc, .int .i64 a, .int .i64 b, .int .u64 val, .int .i64 3, .slice A8 xs.length c8, .int .i64 sl])], fun ⟨A8, c8⟩ w => OwnI w W.heap.size A8 xs.length c8 xs⟩
  | 6 => ⟨Unit, [32], fun _ => [(32, .int .i64 0)], fun _ _ => True⟩
  | 7 => ⟨Nat, [11], fun Bn => [(11, .pointer (some ⟨Bn, 0, none⟩))], fun Bn w => (∃ cs, Bx w Bn 27 cs ∧ cs.size = 9) ∧ W.heap.size ≤ Bn⟩
  | 8 => ⟨Nat × Option Addr × Nat, [11], fun ⟨Bn, A8, c8⟩ => [(11, .pointer (some ⟨Bn, 0, none⟩))], fun ⟨Bn, A8, c8⟩ w => Bx w Bn 27 #[.int .u64 tk, .int .i64 kind, .int .i64 proc, .int .i64 a, .int .i64 b, .int .u64 val, .int .i64 3, .slice A8 xs.length c8, .int .i64 sl] ∧ OwnI w W.heap.size A8 xs.length c8 xs⟩
  | 9 => ⟨Unit, [12], fun _ => [(12, .int .i64 0)], fun _ _ => True⟩
  | _ => ⟨Unit, [], fun _ => [], fun _ _ => True⟩
theorem en3_fb (tk kind proc a b val st : Int) (A : Option Addr) (c : Nat) (xs : List Int) (sl slot : Int) (B9 : Nat) (W : World) : slB en3_l (fun j => (en3_sp tk kind proc a b val st A c xs sl slot B9 W j).ss) = true := by kernel_rfl
set_option maxHeartbeats 2000000 in
theorem en3 {Q : Exit → Act → World → Prop} {a0 : Act} {W : World} (tk kind proc a b val st : Int) (A : Option Addr) (c : Nat) (xs : List Int) (sl slot : Int) (B9 : Nat)  (z0 : a0.tmps.size = 122) (p3 : Sv a0 3 (.int .i64 slot)) (p9 : Sv a0 9 (.pointer (some ⟨B9, 0, none⟩))) (hx : Bx W B9 27 #[.int .u64 tk, .int .i64 kind, .int .i64 proc, .int .i64 a, .int .i64 b, .int .u64 val, .int .i64 st, .slice A xs.length c, .int .i64 0]) (hg : GI W A c xs) (hwe : waitE tk kind proc a b val st xs 0 sl 3 = 0) (Hsl : Hid (slot % 256 = sl))
    (fin : ∀ ac w, Fr a0 en3_l ac → Below W.heap.size W w → (∃ Bn : Nat, ∃ A8 : Option Addr, ∃ c8 : Nat, Sv ac 11 (.pointer (some ⟨Bn, 0, none⟩)) ∧ Bx w Bn 27 #[.int .u64 tk, .int .i64 kind, .int .i64 proc, .int .i64 a, .int .i64 b, .int .u64 val, .int .i64 3, .slice A8 xs.length c8, .int .i64 sl] ∧ OwnI w W.heap.size A8 xs.length c8 xs) → (Sv ac 12 (.int .i64 0)) → Q .normal ac w) : (Code.region 3 en3_l.toArray true).wp Try.prog Q a0 W := by
  refine region_of (n := 10) (by kernel_rfl) (by kernel_rfl) (by kernel_rfl) (en3_sp tk kind proc a b val st A c xs sl slot B9 W) (en3_fb tk kind proc a b val st A c xs sl slot B9 W) (fun w => Below W.heap.size W w) (stpN 27 [8]) (bel0 W) ?_ ?_ ?_
  · intro i hi ac w hF hI hk
    have z := hF.1.trans z0
    have f3 := hF.sv (s := 3) (by kernel_rfl) p3
    have f9 := hF.sv (s := 9) (by kernel_rfl) p9
    match i, hi with
    | 0, _ =>
      exact ob_val (v := .agg #[.int .u64 tk, .int .i64 kind, .int .i64 proc, .int .i64 a, .int .i64 b, .int .u64 val, .int .i64 st, .slice A xs.length c, .int .i64 0]) en3_o0 (.inl rfl) (ev_row f9.eval (hx.below hI) Try.underlying27 rfl (n := 9) (by kernel_rfl) rfl) ⟨⟨_, rfl⟩, hI, Below.refl _ _, ⟨(), rfl, sv1 (Sv.dst (by kernel_rfl) (by rw [z]; decide) _), trivial⟩⟩
    | 1, _ =>
      exact ob_val (v := .int .i64 slot) en3_o1 (.inl rfl) (ev_move f3.eval) ⟨⟨_, rfl⟩, hI, Below.refl _ _, ⟨(), rfl, sv1 (Sv.dst (by kernel_rfl) (by rw [z]; decide) _), trivial⟩⟩
    | 2, _ =>
      obtain ⟨⟨⟩, -, hs1, hw1⟩ := hk 1 (mem_reach (by kernel_rfl))
      have f28 : Sv ac 28 (.int .i64 slot) := hs1 _ (List.Mem.head _)
      refine ob_call (f := 10) (args := #[.int .i64 slot, .int .i64 256]) (w' := w) (R := fun v w'' => v = .int .i64 sl ∧ True ∧ Below w.heap.size w w'') en3_o2 (.inl rfl) (fun o ho => ?_) ((mod_any slot 256 (by omega) (by omega) w).mono ?_) ?_
      · have e : execOp ac.eval o = (do let d ← resolve ac.eval { callee := .value (.func 10), args := #[(.tmp 28), (.const (.int .i64 256))], argTypes := #[3, 3] } o.type; invoke d.target d.args) := by simp only [execOp, ho]
        have e28 := f28.eval
        have ef : ac.eval (.func 10) = .func (.func 10) #[] #[] := rfl
        have ec : ac.eval (.const (.int .i64 256)) = .int .i64 256 := rfl
        rw [e]
        generalize ac.eval = ρ at *
        simp [ef, e28, ec, go_sem]
      · rintro e w' ⟨rfl, rfl⟩; exact ⟨_, rfl, by rw [Hsl.out], trivial, Below.refl _ _⟩
      · rintro v w2 ⟨rfl, hwd, hb⟩
        exact ⟨⟨_, rfl⟩, below_step hI hb, hb, ⟨(), rfl, sv1 (Sv.dst (by kernel_rfl) (by rw [z]; decide) _), hwd⟩⟩
    | 3, _ =>
      obtain ⟨⟨⟩, -, hs0, hw0⟩ := hk 0 (mem_reach (by kernel_rfl))
      have f27 : Sv ac 27 (.agg #[.int .u64 tk, .int .i64 kind, .int .i64 proc, .int .i64 a, .int .i64 b, .int .u64 val, .int .i64 st, .slice A xs.length c, .int .i64 0]) := hs0 _ (List.Mem.head _)
      obtain ⟨⟨⟩, -, hs2, hw2⟩ := hk 2 (mem_reach (by kernel_rfl))
      have f29 : Sv ac 29 (.int .i64 sl) := hs2 _ (List.Mem.head _)
      refine ob_call (f := 9) (args := #[.agg #[.int .u64 tk, .int .i64 kind, .int .i64 proc, .int .i64 a, .int .i64 b, .int .u64 val, .int .i64 st, .slice A xs.length c, .int .i64 0], .int .i64 sl]) (w' := w) (R := fun v w'' => ∃ A8 : Option Addr, ∃ c8 : Nat, v = .tuple #[.agg #[.int .u64 tk, .int .i64 kind, .int .i64 proc, .int .i64 a, .int .i64 b, .int .u64 val, .int .i64 3, .slice A8 xs.length c8, .int .i64 sl], .int .i64 0] ∧ OwnI w'' W.heap.size A8 xs.length c8 xs ∧ Below w.heap.size w w'') en3_o3 (.inl rfl) (fun o ho => ?_) ((Claim_ok tk kind proc a b val st A c xs 0 sl w (hg.below hI) hwe).mono ?_) ?_
      · have e : execOp ac.eval o = (do let d ← resolve ac.eval { callee := .value (.func 9), args := #[(.tmp 27), (.tmp 29)], argTypes := #[27, 3] } o.type; invoke d.target d.args) := by simp only [execOp, ho]
        have e27 := f27.eval
        have e29 := f29.eval
        have ef : ac.eval (.func 9) = .func (.func 9) #[] #[] := rfl
        rw [e]
        generalize ac.eval = ρ at *
        simp [ef, e27, e29, go_sem]
      · rintro e w' ⟨A8, c8, rfl, hown, hb⟩; exact ⟨_, rfl, A8, c8, rfl, hown.mono hI.size, hb⟩
      · rintro v w2 ⟨A8, c8, rfl, hwd, hb⟩
        exact ⟨⟨_, rfl⟩, below_step hI hb, hb, ⟨(A8, c8), rfl, sv1 (Sv.dst (by kernel_rfl) (by rw [z]; decide) _), hwd⟩⟩
    | 4, _ =>
      obtain ⟨⟨A8, c8⟩, -, hs3, hw3⟩ := hk 3 (mem_reach (by kernel_rfl))
      have f30 : Sv ac 30 (.tuple #[.agg #[.int .u64 tk, .int .i64 kind, .int .i64 proc, .int .i64 a, .int .i64 b, .int .u64 val, .int .i64 3, .slice A8 xs.length c8, .int .i64 sl], .int .i64 0]) := hs3 _ (List.Mem.head _)
      exact ob_val (v := .tuple #[.agg #[.int .u64 tk, .int .i64 kind, .int .i64 proc, .int .i64 a, .int .i64 b, .int .u64 val, .int .i64 3, .slice A8 xs.length c8, .int .i64 sl], .int .i64 0]) en3_o4 (.inl rfl) (ev_move f30.eval) ⟨⟨_, rfl⟩, hI, Below.refl _ _, ⟨(A8, c8), rfl, sv1 (Sv.dst (by kernel_rfl) (by rw [z]; decide) _), hw3⟩⟩
    | 5, _ =>
      obtain ⟨⟨A8, c8⟩, -, hs4, hw4⟩ := hk 4 (mem_reach (by kernel_rfl))
      have f26 : Sv ac 26 (.tuple #[.agg #[.int .u64 tk, .int .i64 kind, .int .i64 proc, .int .i64 a, .int .i64 b, .int .u64 val, .int .i64 3, .slice A8 xs.length c8, .int .i64 sl], .int .i64 0]) := hs4 _ (List.Mem.head _)
      exact ob_val (v := .agg #[.int .u64 tk, .int .i64 kind, .int .i64 proc, .int .i64 a, .int .i64 b, .int .u64 val, .int .i64 3, .slice A8 xs.length c8, .int .i64 sl]) en3_o5 (.inl rfl) (ev_ext f26.eval rfl) ⟨⟨_, rfl⟩, hI, Below.refl _ _, ⟨(A8, c8), rfl, sv1 (Sv.dst (by kernel_rfl) (by rw [z]; decide) _), hw4⟩⟩
    | 6, _ =>
      obtain ⟨⟨A8, c8⟩, -, hs4, hw4⟩ := hk 4 (mem_reach (by kernel_rfl))
      have f26 : Sv ac 26 (.tuple #[.agg #[.int .u64 tk, .int .i64 kind, .int .i64 proc, .int .i64 a, .int .i64 b, .int .u64 val, .int .i64 3, .slice A8 xs.length c8, .int .i64 sl], .int .i64 0]) := hs4 _ (List.Mem.head _)
      exact ob_val (v := .int .i64 0) en3_o6 (.inl rfl) (ev_ext f26.eval rfl) ⟨⟨_, rfl⟩, hI, Below.refl _ _, ⟨(), rfl, sv1 (Sv.dst (by kernel_rfl) (by rw [z]; decide) _), trivial⟩⟩
    | 7, _ =>
      refine ob_val (v := .pointer (some ⟨w.heap.size, 0, none⟩)) (w' := w.alloc (.cells #[.int .u64 0, .int .i64 0, .int .i64 0, .int .i64 0, .int .i64 0, .int .u64 0, .int .i64 0, .slice none 0 0, .int .i64 0] 27)) en3_o7 (.inl rfl) (fun o ho => by simp [execOp, ho, go_sem]) ⟨⟨_, rfl⟩, below_step hI (al _ _), al _ _, ?_⟩
      exact ⟨w.heap.size, rfl, sv1 (Sv.dst (by kernel_rfl) (by rw [z]; decide) _), ⟨⟨_, Bx.new w _ _, rfl⟩, hI.size⟩⟩
    | 8, _ =>
      obtain ⟨Bn, -, hs7, hw7⟩ := hk 7 (mem_reach (by kernel_rfl))
      have f11 : Sv ac 11 (.pointer (some ⟨Bn, 0, none⟩)) := hs7 _ (List.Mem.head _)
      obtain ⟨⟨A8, c8⟩, -, hs5, hw5⟩ := hk 5 (mem_reach (by kernel_rfl))
      have f31 : Sv ac 31 (.agg #[.int .u64 tk, .int .i64 kind, .int .i64 proc, .int .i64 a, .int .i64 b, .int .u64 val, .int .i64 3, .slice A8 xs.length c8, .int .i64 sl]) := hs5 _ (List.Mem.head _)
      obtain ⟨⟨cs0, hb0, hz0⟩, hlow⟩ := hw7
      refine ob_skip (w' := w.setRow Bn #[.int .u64 tk, .int .i64 kind, .int .i64 proc, .int .i64 a, .int .i64 b, .int .u64 val, .int .i64 3, .slice A8 xs.length c8, .int .i64 sl]) en3_o8 (.inl rfl) (ev_srow f11.eval f31.eval hb0 (n := 9) (by kernel_rfl) rfl hz0 (by simp [Value.oneCell'])) ⟨⟨_, rfl⟩, below_setRow hI ?_ _, ⟨Bn, cs0, _, hb0, by rw [hz0]; rfl, rfl⟩, ?_⟩
      · exact hlow
      · exact ⟨(Bn, A8, c8), rfl, sv1 f11, ⟨hb0.row _, (hw5.rowT hb0 (by decide) _)⟩⟩
    | 9, _ =>
      obtain ⟨⟨⟩, -, hs6, hw6⟩ := hk 6 (mem_reach (by kernel_rfl))
      have f32 : Sv ac 32 (.int .i64 0) := hs6 _ (List.Mem.head _)
      exact ob_val (v := .int .i64 0) en3_o9 (.inl rfl) (ev_assign f32.eval) ⟨⟨_, rfl⟩, hI, Below.refl _ _, ⟨(), rfl, sv1 (Sv.dst (by kernel_rfl) (by rw [z]; decide) _), trivial⟩⟩
    | k + 10, h => exact absurd h (by omega)
  · intro i j hi hj hij x w w' hI hst hw
    match j, hj, x, hw with
    | 0, _, _, _ => exact trivial
    | 1, _, _, _ => exact trivial
    | 2, _, _, _ => exact trivial
    | 3, _, ⟨A8, c8⟩, hw => exact hst.own (by decide) hw
    | 4, _, ⟨A8, c8⟩, hw => exact hst.own (by decide) hw
    | 5, _, ⟨A8, c8⟩, hw => exact hst.own (by decide) hw
    | 6, _, _, _ => exact trivial
    | 7, _, Bn, hw => exact ⟨hst.box hw.1, hw.2⟩
    | 8, _, ⟨Bn, A8, c8⟩, hw => exact ⟨hw.1.below (hst.low (by simp; omega)), hst.own (by decide) hw.2⟩
    | 9, _, _, _ => exact trivial
    | k + 10, h, _, _ => exact absurd h (by omega)
  · intro ac w hF hI hall
    obtain ⟨⟨Bn, A8, c8⟩, -, hs8, hw8⟩ := hall 8 (by omega)
    have g8 : (∃ Bn : Nat, ∃ A8 : Option Addr, ∃ c8 : Nat, Sv ac 11 (.pointer (some ⟨Bn, 0, none⟩)) ∧ Bx w Bn 27 #[.int .u64 tk, .int .i64 kind, .int .i64 proc, .int .i64 a, .int .i64 b, .int .u64 val, .int .i64 3, .slice A8 xs.length c8, .int .i64 sl] ∧ OwnI w W.heap.size A8 xs.length c8 xs) := ⟨Bn, A8, c8, hs8 _ (List.Mem.head _), hw8⟩
    obtain ⟨⟨⟩, -, hs9, hw9⟩ := hall 9 (by omega)
    have g9 : (Sv ac 12 (.int .i64 0)) := hs9 _ (List.Mem.head _)
    exact fin ac w hF hI g8 g9
noncomputable def en3b_l : List Oper := (Try.f4.body.bind (regIn · 3)).getD []
theorem en3b_o0 : en3b_l[0]?.map (fun o => (o.dst, o.op, o.guard)) = some (some 27, .load 27 (.tmp 9), none) := by kernel_rfl
theorem en3b_o1 : en3b_l[1]?.map (fun o => (o.dst, o.op, o.guard)) = some (some 28, .move (.tmp 3), none) := by kernel_rfl
theorem en3b_o2 : en3b_l[2]?.map (fun o => (o.dst, o.op, o.guard)) = some (some 29, .call { callee := .value (.func 10), args := #[(.tmp 28), (.const (.int .i64 256))], argTypes := #[3, 3] }, none) := by kernel_rfl
theorem en3b_o3 : en3b_l[3]?.map (fun o => (o.dst, o.op, o.guard)) = some (some 30, .call { callee := .value (.func 9), args := #[(.tmp 27), (.tmp 29)], argTypes := #[27, 3] }, none) := by kernel_rfl
theorem en3b_o4 : en3b_l[4]?.map (fun o => (o.dst, o.op, o.guard)) = some (some 26, .move (.tmp 30), none) := by kernel_rfl
theorem en3b_o5 : en3b_l[5]?.map (fun o => (o.dst, o.op, o.guard)) = some (some 31, .extract (.tmp 26) 0, none) := by kernel_rfl
theorem en3b_o6 : en3b_l[6]?.map (fun o => (o.dst, o.op, o.guard)) = some (some 32, .extract (.tmp 26) 1, none) := by kernel_rfl
theorem en3b_o7 : en3b_l[7]?.map (fun o => (o.dst, o.op, o.guard)) = some (some 11, .alloc 27, none) := by kernel_rfl
theorem en3b_o8 : en3b_l[8]?.map (fun o => (o.dst, o.op, o.guard)) = some (none, .store 27 (.tmp 11) (.tmp 31), none) := by kernel_rfl
theorem en3b_o9 : en3b_l[9]?.map (fun o => (o.dst, o.op, o.guard)) = some (some 12, .assign (.tmp 32), none) := by kernel_rfl
def en3b_sp (tk kind proc a b val st : Int) (A : Option Addr) (c : Nat) (xs : List Int) (sl slot : Int) (B9 : Nat) (W : World) : Nat → Spec
  | 0 => ⟨Unit, [27], fun _ => [(27, .agg #[.int .u64 tk, .int .i64 kind, .int .i64 proc, .int .i64 a, .int .i64 b, .int .u64 val, .int .i64 st, .slice A xs.length c, .int .i64 0])], fun _ _ => True⟩
  | 1 => ⟨Unit, [28], fun _ => [(28, .int .i64 slot)], fun _ _ => True⟩
  | 2 => ⟨Unit, [29], fun _ => [(29, .int .i64 sl)], fun _ _ => True⟩
  | 3 => ⟨Option Addr × Nat, [30], fun ⟨A8, c8⟩ => [(30, .tuple #[.agg #[.int .u64 0, .int .i64 0, .int .i64 0, .int .i64 0, .int .i64 0, .int .u64 0, .int .i64 0, .slice A8 0 c8, .int .i64 0], .int .i64 9])], fun ⟨A8, c8⟩ w => OwnI w W.heap.size A8 0 c8 []⟩
  | 4 => ⟨Option Addr × Nat, [26], fun ⟨A8, c8⟩ => [(26, .tuple #[.agg #[.int .u64 0, .int .i64 0, .int .i64 0, .int .i64 0, .int .i64 0, .int .u64 0, .int .i64 0, .slice A8 0 c8, .int .i64 0], .int .i64 9])], fun ⟨A8, c8⟩ w => OwnI w W.heap.size A8 0 c8 []⟩
  | 5 => ⟨Option Addr × Nat, [31], fun ⟨A8, c8⟩ => [(31, .agg #[.int .u64 0, .int .i64 0, .int .i64 0, .int .i64 0, .int .i64 0, .int .u64 0, .int .i64 0, .slice A8 0 c8, .int .i64 0])], fun ⟨A8, c8⟩ w => OwnI w W.heap.size A8 0 c8 []⟩
  | 6 => ⟨Unit, [32], fun _ => [(32, .int .i64 9)], fun _ _ => True⟩
  | 7 => ⟨Nat, [11], fun Bn => [(11, .pointer (some ⟨Bn, 0, none⟩))], fun Bn w => (∃ cs, Bx w Bn 27 cs ∧ cs.size = 9) ∧ W.heap.size ≤ Bn⟩
  | 8 => ⟨Nat × Option Addr × Nat, [11], fun ⟨Bn, A8, c8⟩ => [(11, .pointer (some ⟨Bn, 0, none⟩))], fun ⟨Bn, A8, c8⟩ w => Bx w Bn 27 #[.int .u64 0, .int .i64 0, .int .i64 0, .int .i64 0, .int .i64 0, .int .u64 0, .int .i64 0, .slice A8 0 c8, .int .i64 0] ∧ OwnI w W.heap.size A8 0 c8 []⟩
  | 9 => ⟨Unit, [12], fun _ => [(12, .int .i64 9)], fun _ _ => True⟩
  | _ => ⟨Unit, [], fun _ => [], fun _ _ => True⟩
theorem en3b_fb (tk kind proc a b val st : Int) (A : Option Addr) (c : Nat) (xs : List Int) (sl slot : Int) (B9 : Nat) (W : World) : slB en3b_l (fun j => (en3b_sp tk kind proc a b val st A c xs sl slot B9 W j).ss) = true := by kernel_rfl
set_option maxHeartbeats 2000000 in
theorem en3b {Q : Exit → Act → World → Prop} {a0 : Act} {W : World} (tk kind proc a b val st : Int) (A : Option Addr) (c : Nat) (xs : List Int) (sl slot : Int) (B9 : Nat)  (z0 : a0.tmps.size = 122) (p3 : Sv a0 3 (.int .i64 slot)) (p9 : Sv a0 9 (.pointer (some ⟨B9, 0, none⟩))) (hx : Bx W B9 27 #[.int .u64 tk, .int .i64 kind, .int .i64 proc, .int .i64 a, .int .i64 b, .int .u64 val, .int .i64 st, .slice A xs.length c, .int .i64 0]) (hg : GI W A c xs) (hwe : waitE tk kind proc a b val st xs 0 sl 3 = 9) (Hsl : Hid (slot % 256 = sl))
    (fin : ∀ ac w, Fr a0 en3b_l ac → Below W.heap.size W w → (Sv ac 12 (.int .i64 9)) → Q .normal ac w) : (Code.region 3 en3b_l.toArray true).wp Try.prog Q a0 W := by
  refine region_of (n := 10) (by kernel_rfl) (by kernel_rfl) (by kernel_rfl) (en3b_sp tk kind proc a b val st A c xs sl slot B9 W) (en3b_fb tk kind proc a b val st A c xs sl slot B9 W) (fun w => Below W.heap.size W w) (stpN 27 [8]) (bel0 W) ?_ ?_ ?_
  · intro i hi ac w hF hI hk
    have z := hF.1.trans z0
    have f3 := hF.sv (s := 3) (by kernel_rfl) p3
    have f9 := hF.sv (s := 9) (by kernel_rfl) p9
    match i, hi with
    | 0, _ =>
      exact ob_val (v := .agg #[.int .u64 tk, .int .i64 kind, .int .i64 proc, .int .i64 a, .int .i64 b, .int .u64 val, .int .i64 st, .slice A xs.length c, .int .i64 0]) en3b_o0 (.inl rfl) (ev_row f9.eval (hx.below hI) Try.underlying27 rfl (n := 9) (by kernel_rfl) rfl) ⟨⟨_, rfl⟩, hI, Below.refl _ _, ⟨(), rfl, sv1 (Sv.dst (by kernel_rfl) (by rw [z]; decide) _), trivial⟩⟩
    | 1, _ =>
      exact ob_val (v := .int .i64 slot) en3b_o1 (.inl rfl) (ev_move f3.eval) ⟨⟨_, rfl⟩, hI, Below.refl _ _, ⟨(), rfl, sv1 (Sv.dst (by kernel_rfl) (by rw [z]; decide) _), trivial⟩⟩
    | 2, _ =>
      obtain ⟨⟨⟩, -, hs1, hw1⟩ := hk 1 (mem_reach (by kernel_rfl))
      have f28 : Sv ac 28 (.int .i64 slot) := hs1 _ (List.Mem.head _)
      refine ob_call (f := 10) (args := #[.int .i64 slot, .int .i64 256]) (w' := w) (R := fun v w'' => v = .int .i64 sl ∧ True ∧ Below w.heap.size w w'') en3b_o2 (.inl rfl) (fun o ho => ?_) ((mod_any slot 256 (by omega) (by omega) w).mono ?_) ?_
      · have e : execOp ac.eval o = (do let d ← resolve ac.eval { callee := .value (.func 10), args := #[(.tmp 28), (.const (.int .i64 256))], argTypes := #[3, 3] } o.type; invoke d.target d.args) := by simp only [execOp, ho]
        have e28 := f28.eval
        have ef : ac.eval (.func 10) = .func (.func 10) #[] #[] := rfl
        have ec : ac.eval (.const (.int .i64 256)) = .int .i64 256 := rfl
        rw [e]
        generalize ac.eval = ρ at *
        simp [ef, e28, ec, go_sem]
      · rintro e w' ⟨rfl, rfl⟩; exact ⟨_, rfl, by rw [Hsl.out], trivial, Below.refl _ _⟩
      · rintro v w2 ⟨rfl, hwd, hb⟩
        exact ⟨⟨_, rfl⟩, below_step hI hb, hb, ⟨(), rfl, sv1 (Sv.dst (by kernel_rfl) (by rw [z]; decide) _), hwd⟩⟩
    | 3, _ =>
      obtain ⟨⟨⟩, -, hs0, hw0⟩ := hk 0 (mem_reach (by kernel_rfl))
      have f27 : Sv ac 27 (.agg #[.int .u64 tk, .int .i64 kind, .int .i64 proc, .int .i64 a, .int .i64 b, .int .u64 val, .int .i64 st, .slice A xs.length c, .int .i64 0]) := hs0 _ (List.Mem.head _)
      obtain ⟨⟨⟩, -, hs2, hw2⟩ := hk 2 (mem_reach (by kernel_rfl))
      have f29 : Sv ac 29 (.int .i64 sl) := hs2 _ (List.Mem.head _)
      refine ob_call (f := 9) (args := #[.agg #[.int .u64 tk, .int .i64 kind, .int .i64 proc, .int .i64 a, .int .i64 b, .int .u64 val, .int .i64 st, .slice A xs.length c, .int .i64 0], .int .i64 sl]) (w' := w) (R := fun v w'' => ∃ A8 : Option Addr, ∃ c8 : Nat, v = .tuple #[.agg #[.int .u64 0, .int .i64 0, .int .i64 0, .int .i64 0, .int .i64 0, .int .u64 0, .int .i64 0, .slice A8 0 c8, .int .i64 0], .int .i64 9] ∧ OwnI w'' W.heap.size A8 0 c8 [] ∧ Below w.heap.size w w'') en3b_o3 (.inl rfl) (fun o ho => ?_) ((Claim_bad tk kind proc a b val st A c xs 0 sl w (hg.below hI) (by rw [hwe]; decide)).mono ?_) ?_
      · have e : execOp ac.eval o = (do let d ← resolve ac.eval { callee := .value (.func 9), args := #[(.tmp 27), (.tmp 29)], argTypes := #[27, 3] } o.type; invoke d.target d.args) := by simp only [execOp, ho]
        have e27 := f27.eval
        have e29 := f29.eval
        have ef : ac.eval (.func 9) = .func (.func 9) #[] #[] := rfl
        rw [e]
        generalize ac.eval = ρ at *
        simp [ef, e27, e29, go_sem]
      · rintro e w' ⟨A8, c8, rfl, hown, hb⟩; exact ⟨_, rfl, A8, c8, by rw [hwe]; rfl, hown.mono hI.size, hb⟩
      · rintro v w2 ⟨A8, c8, rfl, hwd, hb⟩
        exact ⟨⟨_, rfl⟩, below_step hI hb, hb, ⟨(A8, c8), rfl, sv1 (Sv.dst (by kernel_rfl) (by rw [z]; decide) _), hwd⟩⟩
    | 4, _ =>
      obtain ⟨⟨A8, c8⟩, -, hs3, hw3⟩ := hk 3 (mem_reach (by kernel_rfl))
      have f30 : Sv ac 30 (.tuple #[.agg #[.int .u64 0, .int .i64 0, .int .i64 0, .int .i64 0, .int .i64 0, .int .u64 0, .int .i64 0, .slice A8 0 c8, .int .i64 0], .int .i64 9]) := hs3 _ (List.Mem.head _)
      exact ob_val (v := .tuple #[.agg #[.int .u64 0, .int .i64 0, .int .i64 0, .int .i64 0, .int .i64 0, .int .u64 0, .int .i64 0, .slice A8 0 c8, .int .i64 0], .int .i64 9]) en3b_o4 (.inl rfl) (ev_move f30.eval) ⟨⟨_, rfl⟩, hI, Below.refl _ _, ⟨(A8, c8), rfl, sv1 (Sv.dst (by kernel_rfl) (by rw [z]; decide) _), hw3⟩⟩
    | 5, _ =>
      obtain ⟨⟨A8, c8⟩, -, hs4, hw4⟩ := hk 4 (mem_reach (by kernel_rfl))
      have f26 : Sv ac 26 (.tuple #[.agg #[.int .u64 0, .int .i64 0, .int .i64 0, .int .i64 0, .int .i64 0, .int .u64 0, .int .i64 0, .slice A8 0 c8, .int .i64 0], .int .i64 9]) := hs4 _ (List.Mem.head _)
      exact ob_val (v := .agg #[.int .u64 0, .int .i64 0, .int .i64 0, .int .i64 0, .int .i64 0, .int .u64 0, .int .i64 0, .slice A8 0 c8, .int .i64 0]) en3b_o5 (.inl rfl) (ev_ext f26.eval rfl) ⟨⟨_, rfl⟩, hI, Below.refl _ _, ⟨(A8, c8), rfl, sv1 (Sv.dst (by kernel_rfl) (by rw [z]; decide) _), hw4⟩⟩
    | 6, _ =>
      obtain ⟨⟨A8, c8⟩, -, hs4, hw4⟩ := hk 4 (mem_reach (by kernel_rfl))
      have f26 : Sv ac 26 (.tuple #[.agg #[.int .u64 0, .int .i64 0, .int .i64 0, .int .i64 0, .int .i64 0, .int .u64 0, .int .i64 0, .slice A8 0 c8, .int .i64 0], .int .i64 9]) := hs4 _ (List.Mem.head _)
      exact ob_val (v := .int .i64 9) en3b_o6 (.inl rfl) (ev_ext f26.eval rfl) ⟨⟨_, rfl⟩, hI, Below.refl _ _, ⟨(), rfl, sv1 (Sv.dst (by kernel_rfl) (by rw [z]; decide) _), trivial⟩⟩
    | 7, _ =>
      refine ob_val (v := .pointer (some ⟨w.heap.size, 0, none⟩)) (w' := w.alloc (.cells #[.int .u64 0, .int .i64 0, .int .i64 0, .int .i64 0, .int .i64 0, .int .u64 0, .int .i64 0, .slice none 0 0, .int .i64 0] 27)) en3b_o7 (.inl rfl) (fun o ho => by simp [execOp, ho, go_sem]) ⟨⟨_, rfl⟩, below_step hI (al _ _), al _ _, ?_⟩
      exact ⟨w.heap.size, rfl, sv1 (Sv.dst (by kernel_rfl) (by rw [z]; decide) _), ⟨⟨_, Bx.new w _ _, rfl⟩, hI.size⟩⟩
    | 8, _ =>
      obtain ⟨Bn, -, hs7, hw7⟩ := hk 7 (mem_reach (by kernel_rfl))
      have f11 : Sv ac 11 (.pointer (some ⟨Bn, 0, none⟩)) := hs7 _ (List.Mem.head _)
      obtain ⟨⟨A8, c8⟩, -, hs5, hw5⟩ := hk 5 (mem_reach (by kernel_rfl))
      have f31 : Sv ac 31 (.agg #[.int .u64 0, .int .i64 0, .int .i64 0, .int .i64 0, .int .i64 0, .int .u64 0, .int .i64 0, .slice A8 0 c8, .int .i64 0]) := hs5 _ (List.Mem.head _)
      obtain ⟨⟨cs0, hb0, hz0⟩, hlow⟩ := hw7
      refine ob_skip (w' := w.setRow Bn #[.int .u64 0, .int .i64 0, .int .i64 0, .int .i64 0, .int .i64 0, .int .u64 0, .int .i64 0, .slice A8 0 c8, .int .i64 0]) en3b_o8 (.inl rfl) (ev_srow f11.eval f31.eval hb0 (n := 9) (by kernel_rfl) rfl hz0 (by simp [Value.oneCell'])) ⟨⟨_, rfl⟩, below_setRow hI ?_ _, ⟨Bn, cs0, _, hb0, by rw [hz0]; rfl, rfl⟩, ?_⟩
      · exact hlow
      · exact ⟨(Bn, A8, c8), rfl, sv1 f11, ⟨hb0.row _, (hw5.rowT hb0 (by decide) _)⟩⟩
    | 9, _ =>
      obtain ⟨⟨⟩, -, hs6, hw6⟩ := hk 6 (mem_reach (by kernel_rfl))
      have f32 : Sv ac 32 (.int .i64 9) := hs6 _ (List.Mem.head _)
      exact ob_val (v := .int .i64 9) en3b_o9 (.inl rfl) (ev_assign f32.eval) ⟨⟨_, rfl⟩, hI, Below.refl _ _, ⟨(), rfl, sv1 (Sv.dst (by kernel_rfl) (by rw [z]; decide) _), trivial⟩⟩
    | k + 10, h => exact absurd h (by omega)
  · intro i j hi hj hij x w w' hI hst hw
    match j, hj, x, hw with
    | 0, _, _, _ => exact trivial
    | 1, _, _, _ => exact trivial
    | 2, _, _, _ => exact trivial
    | 3, _, ⟨A8, c8⟩, hw => exact hst.own (by decide) hw
    | 4, _, ⟨A8, c8⟩, hw => exact hst.own (by decide) hw
    | 5, _, ⟨A8, c8⟩, hw => exact hst.own (by decide) hw
    | 6, _, _, _ => exact trivial
    | 7, _, Bn, hw => exact ⟨hst.box hw.1, hw.2⟩
    | 8, _, ⟨Bn, A8, c8⟩, hw => exact ⟨hw.1.below (hst.low (by simp; omega)), hst.own (by decide) hw.2⟩
    | 9, _, _, _ => exact trivial
    | k + 10, h, _, _ => exact absurd h (by omega)
  · intro ac w hF hI hall
    obtain ⟨⟨⟩, -, hs9, hw9⟩ := hall 9 (by omega)
    have g9 : (Sv ac 12 (.int .i64 9)) := hs9 _ (List.Mem.head _)
    exact fin ac w hF hI g9

set_option maxRecDepth 100000 in
set_option maxHeartbeats 8000000 in
theorem FaultEnds_walk (n fs kk slot : Int) (w : World) : Calls Try.prog 4 #[.int .i64 n, .int .i64 fs, .int .i64 kk, .int .i64 slot] w (RetB w (.returned (.bool true))) := by
  obtain ⟨sl, hsl⟩ : ∃ sl, slot % 256 = sl := ⟨_, rfl⟩
  have hs0 : 0 ≤ sl := by omega
  have hs1 : sl < 256 := by omega
  have Hsl := Lib.hid hsl
  clear hsl
  go_enter Try.func4, Try.ntmps4
  go_wp2_with fail
  refine (made_f n fs w).mono ?_
  rintro e w1 ⟨tk, kind, proc, a, b, val, xs, st, A, c, rfl, hown, hb1, hM⟩
  have hn := Bx.new w1 27 #[.int .u64 0, .int .i64 0, .int .i64 0, .int .i64 0, .int .i64 0, .int .u64 0, .int .i64 0, .slice none 0 0, .int .i64 0]
  have hx := Bx.new w1 27 #[.int .u64 tk, .int .i64 kind, .int .i64 proc, .int .i64 a, .int .i64 b, .int .u64 val, .int .i64 st, .slice A xs.length c, .int .i64 0]
  have hg := hown.gi.alloc (.cells #[.int .u64 tk, .int .i64 kind, .int .i64 proc, .int .i64 a, .int .i64 b, .int .u64 val, .int .i64 st, .slice A xs.length c, .int .i64 0] 27)
  have hw := below_step hb1 (al w1 (.cells #[.int .u64 tk, .int .i64 kind, .int .i64 proc, .int .i64 a, .int .i64 b, .int .u64 val, .int .i64 st, .slice A xs.length c, .int .i64 0] 27))
  have hB9 := hb1.size
  clear hown hb1
  go_wp2_with (first | (refine wpList_load_row rfl 27 _ rfl (w1.heap.size) rfl 27 _ _ _ hx Try.underlying27 rfl req_size ?_) | (refine wpList_store_row rfl 27 _ _ rfl w1.heap.size _ rfl rfl 27 _ hn req_size rfl (by simp [Value.oneCell']) ?_; rw [World.setRow_alloc_new]; simp only [Act.put]))
  refine (facts_f tk kind proc a b val st A c xs 0 kk _).mono ?_
  rintro e w2 ⟨acc, wr, rm, lv, fr, rfl, hfc, hb2⟩
  have hx2 := (hx.below hb2).alloc (.cells #[.int .i64 acc, .bool wr, .bool rm, .int .i64 lv, .bool fr] 38)
  have hg2 := (hg.below hb2).alloc (.cells #[.int .i64 acc, .bool wr, .bool rm, .int .i64 lv, .bool fr] 38)
  have hw2 := below_step (below_step hw hb2) (al w2 (.cells #[.int .i64 acc, .bool wr, .bool rm, .int .i64 lv, .bool fr] 38))
  have hy2 := Bx.new w2 38 #[.int .i64 acc, .bool wr, .bool rm, .int .i64 lv, .bool fr]
  have hn2 := Bx.new w2 38 #[.int .i64 0, .bool false, .bool false, .int .i64 0, .bool false]
  have hB10 : w1.heap.size ≠ w2.heap.size := by have := hb2.size; rw [World.size_alloc] at this; omega
  clear hn hx hg hw hb2
  go_upto_region 3 with ((refine wpList_store_row rfl 38 _ _ rfl w2.heap.size _ rfl rfl 38 _ hn2 fac_size rfl (by simp [Value.oneCell']) ?_; rw [World.setRow_alloc_new]; simp only [Act.put]))
  clear hn2
  generalize hW : w2.alloc (.cells #[.int .i64 acc, .bool wr, .bool rm, .int .i64 lv, .bool fr] 38) = W2 at *
  generalize w2.heap.size = B10 at *
  generalize w1.heap.size = B9 at *
  clear hW
  rename_i K hK
  cases hac : accB kind
  · have hwe : waitE tk kind proc a b val st xs 0 sl 3 = 9 := by
      unfold waitE
      rw [if_neg (by simp [hM.ok]), hM.able, hac]
      rfl
    refine en3b (W := W2) tk kind proc a b val st A c xs sl slot B9 rfl rfl rfl hx2 hg2 hwe Hsl ?_
    rintro a' w3 hF hb3 f12
    refine hK _ _ ?_
    obtain ⟨fv, hfv, hfr⟩ := hF.lit [27, 28, 29, 30, 26, 31, 32, 11, 12] (dsts_in (by kernel_rfl))
    have ev12 := hfv 12 _ f12
    subst hfr
    simp only [List.foldl_cons, List.foldl_nil, Act.put, List.setIfInBounds_toArray, List.set_cons_zero, List.set_cons_succ, ev12]
    clear hfv hF ev12 f12
    generalize fv 27 = u27
    generalize fv 28 = u28
    generalize fv 29 = u29
    generalize fv 30 = u30
    generalize fv 26 = u26
    generalize fv 31 = u31
    generalize fv 32 = u32
    generalize fv 11 = u11
    clear fv
    clear hK K hac hwe
    have hok := hM.ok
    obtain ⟨st', A', c', sl', est, eA, ec, esl⟩ : ∃ st' A' c' sl', st' = st ∧ A' = A ∧ c' = c ∧ sl' = (0 : Int) := ⟨_, _, _, _, rfl, rfl, rfl, rfl⟩
    have hxT : Bx w3 B9 27 #[.int .u64 tk, .int .i64 kind, .int .i64 proc, .int .i64 a, .int .i64 b, .int .u64 val, .int .i64 st', .slice A' xs.length c', .int .i64 sl'] := by rw [est, eA, ec, esl]; exact hx2.below hb3
    have hyT := hy2.below hb3
    have hgT : GI w3 A' c' xs := by rw [eA, ec]; exact hg2.below hb3
    have hwT := below_step hw2 hb3
    have hok : chkE tk kind proc a b val st' xs sl' = 0 := by rw [est, esl]; exact hok
    have hce : (0 : Int) = cfE tk kind proc a b val st' xs sl' acc lv := by unfold cfE; rw [if_pos hok, hfc]
    clear est eA ec esl hx2 hy2 hg2 hw2 hb3
    have HN := Lib.hid (fun W (hW : GI W A' c' xs) => Next_any tk kind proc a b val st' A' c' xs sl' acc wr rm lv fr W hW 0 hce)
    have HD := Lib.hid (fun W (hW : GI W A' c' xs) => Needs_any tk kind proc a b val st' A' c' xs sl' acc wr rm lv fr W hW 0 hce)
    have HCF := Lib.hid (fun W (hW : GI W A' c' xs) => CheckFacts_any tk kind proc a b val st' A' c' xs sl' acc wr rm lv fr W hW)
    rw [← hce] at HCF
    have HM := Lib.hid (fun W (hW : GI W A' c' xs) => Most_ok tk kind proc a b val st' A' c' xs sl' W hW hok)
    have hen := ends_of (wr := wr) (rm := rm) (fr := fr) (st := st') hM.kd hM.l9 hfc
    rw [show okE 0 (lookF kind st' xs.length acc wr rm lv fr).2.1 = (lookF kind st' xs.length acc wr rm lv fr).2.1 from if_pos rfl] at HN
    rw [show okE 0 (lookF kind st' xs.length acc wr rm lv fr).2.2 = (lookF kind st' xs.length acc wr rm lv fr).2.2 from if_pos rfl] at HD
    generalize (lookF kind st' xs.length acc wr rm lv fr).2.1 = nx at *
    generalize (lookF kind st' xs.length acc wr rm lv fr).2.2 = nd at *
    generalize mostV kind st' xs.length = mo at *
    have g1 := hen.lo
    have g2 := hen.hi
    have g3 := hen.m10
    have g4 := hen.m3
    have g5 := hen.e1
    have g6 := hen.e2
    clear hen hM hfc hce hok Hsl hB9 hB10
    go_wp2_with (first | (refine wpList_load_row rfl 27 _ rfl (B9) rfl 27 _ _ _ hxT Try.underlying27 rfl req_size ?_) | (refine wpList_load_row rfl 38 _ rfl (B10) rfl 38 _ _ _ hyT Try.underlying38 rfl fac_size ?_))
    refine (HN.out _ hgT).mono ?_
    rintro e w11 ⟨rfl, hb11⟩
    have hx11 := hxT.below hb11
    have hy11 := hyT.below hb11
    have hg11 := hgT.below hb11
    have hw11 := below_step hwT hb11
    clear hxT hyT hgT hwT hb11
    go_wp2_with (first | (refine wpList_load_row rfl 27 _ rfl (B9) rfl 27 _ _ _ hx11 Try.underlying27 rfl req_size ?_) | (refine wpList_load_row rfl 38 _ rfl (B10) rfl 38 _ _ _ hy11 Try.underlying38 rfl fac_size ?_))
    refine (HD.out _ hg11).mono ?_
    rintro e w12 ⟨rfl, hb12⟩
    have hx12 := hx11.below hb12
    have hy12 := hy11.below hb12
    have hg12 := hg11.below hb12
    have hw12 := below_step hw11 hb12
    clear hx11 hy11 hg11 hw11 hb12
    go_wp2_with (first | (refine wpList_load_row rfl 27 _ rfl (B9) rfl 27 _ _ _ hx12 Try.underlying27 rfl req_size ?_))
    refine (HM.out _ hg12).mono ?_
    rintro e w13 ⟨rfl, hb13⟩
    have hx13 := hx12.below hb13
    have hy13 := hy12.below hb13
    have hg13 := hg12.below hb13
    have hw13 := below_step hw12 hb13
    clear hx12 hy12 hg12 hw12 hb13
    go_wp2_with (first | (refine wpList_load_row rfl 27 _ rfl (B9) rfl 27 _ _ _ hx13 Try.underlying27 rfl req_size ?_) | (refine wpList_load_row rfl 38 _ rfl (B10) rfl 38 _ _ _ hy13 Try.underlying38 rfl fac_size ?_))
    refine (HCF.out _ hg13).mono ?_
    rintro e w14 ⟨rfl, hb14⟩
    have hy14 := hy13.below hb14
    have hw14 := below_step hw13 hb14
    have cA : w14.cell? ⟨B10, 0, none⟩ = some (.int .i64 acc) := hy14.cell 0
    clear hx13 hy13 hg13 hw13 hb14 HN HD HM HCF
    have d1 : decide (nd < 1) = false := by simp; omega
    have d2 : decide (mo < nd) = false := by simp; omega
    have d3 : decide (10 < mo) = false := by simp; omega
    have HAW := Lib.hid awake_any
    have hq : (((nx == 1) = true ∧ (nd == 1) = true) ∨ ((nx == 1) = false ∧ (nx == 2) = true ∧ (nd == 1) = true)) ∨ (((nx == 1) = false ∧ (nx == 2) = false ∧ (nd == 1) = true ∧ (nd != 1) = false ∧ (nx == 7) = true) ∨ ((nx == 1) = false ∧ (nx == 2) = false ∧ (nd != 1) = true)) := by
      by_cases h1 : nx = 1
      · have := g5 (.inl h1); exact .inl (.inl (by simp [h1, this]))
      · by_cases h2 : nx = 2
        · have := g5 (.inr h2); exact .inl (.inr (by simp [h2, this]))
        · by_cases hn : nd = 1
          · have h7 : nx = 7 := by have := g6 hn; omega
            exact .inr (.inl (by simp [hn, h7]))
          · exact .inr (.inr (by simp [h1, h2, hn]))
    have hp : (decide (0 < acc) = true ∧ decide (3 < mo) = false) ∨ decide (0 < acc) = false := by
      by_cases ha : 0 < acc
      · have := g4 ha; exact .inl ⟨by simp [ha], by simp; omega⟩
      · exact .inr (by simp; omega)
    clear g1 g2 g3 g4 g5 g6
    rcases hp with ⟨p1, p2⟩ | p1
    all_goals rcases hq with (⟨e1, e2⟩ | ⟨e1, e2, e3⟩) | (⟨e1, e2, e3, e4, e5⟩ | ⟨e1, e2, e3⟩)
    all_goals (go_wp2_with (first | (go_at_call 11; refine (HAW.out _).mono ?_; rintro e w15 ⟨rfl, hb15⟩))) <;> (go_ret; exact ⟨rfl, below_step hw14 hb15⟩)
  · have hf : frB sl = true := by simp [frB]; omega
    have hwe : waitE tk kind proc a b val st xs 0 sl 3 = 0 := by
      unfold waitE
      rw [if_neg (by simp [hM.ok]), hM.able, if_pos hac, if_pos hf]
    refine en3 (W := W2) tk kind proc a b val st A c xs sl slot B9 rfl rfl rfl hx2 hg2 hwe Hsl ?_
    rintro a' w3 hF hb3 ⟨B11, A8, c8, f11, hb11, hown8⟩ f12
    refine hK _ _ ?_
    obtain ⟨fv, hfv, hfr⟩ := hF.lit [27, 28, 29, 30, 26, 31, 32, 11, 12] (dsts_in (by kernel_rfl))
    have ev11 := hfv 11 _ f11
    have ev12 := hfv 12 _ f12
    subst hfr
    simp only [List.foldl_cons, List.foldl_nil, Act.put, List.setIfInBounds_toArray, List.set_cons_zero, List.set_cons_succ, ev11, ev12]
    clear hfv hF ev11 ev12 f11 f12
    generalize fv 27 = u27
    generalize fv 28 = u28
    generalize fv 29 = u29
    generalize fv 30 = u30
    generalize fv 26 = u26
    generalize fv 31 = u31
    generalize fv 32 = u32
    clear fv
    clear hK K hwe hf
    obtain ⟨k5, hk5⟩ : ∃ k5, kk % 5 = k5 := ⟨_, rfl⟩
    have Hk5 := Lib.hid hk5
    clear hk5
    cases h0 : (k5 == 0)
    · have hok := hM.ok
      obtain ⟨st', A', c', sl', est, eA, ec, esl⟩ : ∃ st' A' c' sl', st' = st ∧ A' = A ∧ c' = c ∧ sl' = (0 : Int) := ⟨_, _, _, _, rfl, rfl, rfl, rfl⟩
      have hxT : Bx w3 B9 27 #[.int .u64 tk, .int .i64 kind, .int .i64 proc, .int .i64 a, .int .i64 b, .int .u64 val, .int .i64 st', .slice A' xs.length c', .int .i64 sl'] := by rw [est, eA, ec, esl]; exact hx2.below hb3
      have hyT := hy2.below hb3
      have hgT : GI w3 A' c' xs := by rw [eA, ec]; exact hg2.below hb3
      have hwT := below_step hw2 hb3
      have hok : chkE tk kind proc a b val st' xs sl' = 0 := by rw [est, esl]; exact hok
      have hce : (0 : Int) = cfE tk kind proc a b val st' xs sl' acc lv := by unfold cfE; rw [if_pos hok, hfc]
      clear est eA ec esl hx2 hy2 hg2 hw2 hb3 hac hb11 hown8
      go_upto_region 6 with (go_at_call 10; refine (mod_any _ _ (by omega) (by omega) _).mono ?_; rintro e w' ⟨rfl, rfl⟩; rw [Hk5.out])
      have HN := Lib.hid (fun W (hW : GI W A' c' xs) => Next_any tk kind proc a b val st' A' c' xs sl' acc wr rm lv fr W hW 0 hce)
      have HD := Lib.hid (fun W (hW : GI W A' c' xs) => Needs_any tk kind proc a b val st' A' c' xs sl' acc wr rm lv fr W hW 0 hce)
      have HCF := Lib.hid (fun W (hW : GI W A' c' xs) => CheckFacts_any tk kind proc a b val st' A' c' xs sl' acc wr rm lv fr W hW)
      rw [← hce] at HCF
      have HM := Lib.hid (fun W (hW : GI W A' c' xs) => Most_ok tk kind proc a b val st' A' c' xs sl' W hW hok)
      have hen := ends_of (wr := wr) (rm := rm) (fr := fr) (st := st') hM.kd hM.l9 hfc
      rw [show okE 0 (lookF kind st' xs.length acc wr rm lv fr).2.1 = (lookF kind st' xs.length acc wr rm lv fr).2.1 from if_pos rfl] at HN
      rw [show okE 0 (lookF kind st' xs.length acc wr rm lv fr).2.2 = (lookF kind st' xs.length acc wr rm lv fr).2.2 from if_pos rfl] at HD
      generalize (lookF kind st' xs.length acc wr rm lv fr).2.1 = nx at *
      generalize (lookF kind st' xs.length acc wr rm lv fr).2.2 = nd at *
      generalize mostV kind st' xs.length = mo at *
      have g1 := hen.lo
      have g2 := hen.hi
      have g3 := hen.m10
      have g4 := hen.m3
      have g5 := hen.e1
      have g6 := hen.e2
      clear hen hM hfc hce hok Hsl hB9 hB10
      go_wp2_with (first | (refine wpList_load_row rfl 27 _ rfl (B9) rfl 27 _ _ _ hxT Try.underlying27 rfl req_size ?_) | (refine wpList_load_row rfl 38 _ rfl (B10) rfl 38 _ _ _ hyT Try.underlying38 rfl fac_size ?_))
      refine (HN.out _ hgT).mono ?_
      rintro e w11 ⟨rfl, hb11⟩
      have hx11 := hxT.below hb11
      have hy11 := hyT.below hb11
      have hg11 := hgT.below hb11
      have hw11 := below_step hwT hb11
      clear hxT hyT hgT hwT hb11
      go_wp2_with (first | (refine wpList_load_row rfl 27 _ rfl (B9) rfl 27 _ _ _ hx11 Try.underlying27 rfl req_size ?_) | (refine wpList_load_row rfl 38 _ rfl (B10) rfl 38 _ _ _ hy11 Try.underlying38 rfl fac_size ?_))
      refine (HD.out _ hg11).mono ?_
      rintro e w12 ⟨rfl, hb12⟩
      have hx12 := hx11.below hb12
      have hy12 := hy11.below hb12
      have hg12 := hg11.below hb12
      have hw12 := below_step hw11 hb12
      clear hx11 hy11 hg11 hw11 hb12
      go_wp2_with (first | (refine wpList_load_row rfl 27 _ rfl (B9) rfl 27 _ _ _ hx12 Try.underlying27 rfl req_size ?_))
      refine (HM.out _ hg12).mono ?_
      rintro e w13 ⟨rfl, hb13⟩
      have hx13 := hx12.below hb13
      have hy13 := hy12.below hb13
      have hg13 := hg12.below hb13
      have hw13 := below_step hw12 hb13
      clear hx12 hy12 hg12 hw12 hb13
      go_wp2_with (first | (refine wpList_load_row rfl 27 _ rfl (B9) rfl 27 _ _ _ hx13 Try.underlying27 rfl req_size ?_) | (refine wpList_load_row rfl 38 _ rfl (B10) rfl 38 _ _ _ hy13 Try.underlying38 rfl fac_size ?_))
      refine (HCF.out _ hg13).mono ?_
      rintro e w14 ⟨rfl, hb14⟩
      have hy14 := hy13.below hb14
      have hw14 := below_step hw13 hb14
      have cA : w14.cell? ⟨B10, 0, none⟩ = some (.int .i64 acc) := hy14.cell 0
      clear hx13 hy13 hg13 hw13 hb14 HN HD HM HCF
      have d1 : decide (nd < 1) = false := by simp; omega
      have d2 : decide (mo < nd) = false := by simp; omega
      have d3 : decide (10 < mo) = false := by simp; omega
      have HAW := Lib.hid awake_any
      have hq : (((nx == 1) = true ∧ (nd == 1) = true) ∨ ((nx == 1) = false ∧ (nx == 2) = true ∧ (nd == 1) = true)) ∨ (((nx == 1) = false ∧ (nx == 2) = false ∧ (nd == 1) = true ∧ (nd != 1) = false ∧ (nx == 7) = true) ∨ ((nx == 1) = false ∧ (nx == 2) = false ∧ (nd != 1) = true)) := by
        by_cases h1 : nx = 1
        · have := g5 (.inl h1); exact .inl (.inl (by simp [h1, this]))
        · by_cases h2 : nx = 2
          · have := g5 (.inr h2); exact .inl (.inr (by simp [h2, this]))
          · by_cases hn : nd = 1
            · have h7 : nx = 7 := by have := g6 hn; omega
              exact .inr (.inl (by simp [hn, h7]))
            · exact .inr (.inr (by simp [h1, h2, hn]))
      have hp : (decide (0 < acc) = true ∧ decide (3 < mo) = false) ∨ decide (0 < acc) = false := by
        by_cases ha : 0 < acc
        · have := g4 ha; exact .inl ⟨by simp [ha], by simp; omega⟩
        · exact .inr (by simp; omega)
      clear g1 g2 g3 g4 g5 g6
      rcases hp with ⟨p1, p2⟩ | p1
      all_goals rcases hq with (⟨e1, e2⟩ | ⟨e1, e2, e3⟩) | (⟨e1, e2, e3, e4, e5⟩ | ⟨e1, e2, e3⟩)
      all_goals (go_wp2_with (first | (go_at_call 11; refine (HAW.out _).mono ?_; rintro e w15 ⟨rfl, hb15⟩))) <;> (go_ret; exact ⟨rfl, below_step hw14 hb15⟩)
    · have hok := hM.ok3 hac sl hs0 hs1
      obtain ⟨st', A', c', sl', est, eA, ec, esl⟩ : ∃ st' A' c' sl', st' = (3 : Int) ∧ A' = A8 ∧ c' = c8 ∧ sl' = sl := ⟨_, _, _, _, rfl, rfl, rfl, rfl⟩
      have hx3 := hx2.below hb3
      have hlt := hx2.lt
      have hlo : w.heap.size ≤ B9 := hB9
      have hxT : Bx (w3.setRow B9 #[.int .u64 tk, .int .i64 kind, .int .i64 proc, .int .i64 a, .int .i64 b, .int .u64 val, .int .i64 st', .slice A' xs.length c', .int .i64 sl']) B9 27 #[.int .u64 tk, .int .i64 kind, .int .i64 proc, .int .i64 a, .int .i64 b, .int .u64 val, .int .i64 st', .slice A' xs.length c', .int .i64 sl'] := hx3.row _
      have hyT : Bx (w3.setRow B9 #[.int .u64 tk, .int .i64 kind, .int .i64 proc, .int .i64 a, .int .i64 b, .int .u64 val, .int .i64 st', .slice A' xs.length c', .int .i64 sl']) B10 38 #[.int .i64 acc, .bool wr, .bool rm, .int .i64 lv, .bool fr] := (hy2.below hb3).rowO (fun e => hB10 e.symm) _
      have hgT : GI (w3.setRow B9 #[.int .u64 tk, .int .i64 kind, .int .i64 proc, .int .i64 a, .int .i64 b, .int .u64 val, .int .i64 st', .slice A' xs.length c', .int .i64 sl']) A' c' xs := by rw [eA, ec]; exact OwnI.gi (show OwnI _ W2.heap.size A8 xs.length c8 xs from hown8.rowT hx3 (by decide) _)
      have hwT := below_setRow (below_step hw2 hb3) hlo #[.int .u64 tk, .int .i64 kind, .int .i64 proc, .int .i64 a, .int .i64 b, .int .u64 val, .int .i64 st', .slice A' xs.length c', .int .i64 sl']
      have hok : chkE tk kind proc a b val st' xs sl' = 0 := by rw [est, esl]; exact hok
      have hce : (0 : Int) = cfE tk kind proc a b val st' xs sl' acc lv := by unfold cfE; rw [if_pos hok, hfc]
      have hb11' : Bx w3 B11 27 #[.int .u64 tk, .int .i64 kind, .int .i64 proc, .int .i64 a, .int .i64 b, .int .u64 val, .int .i64 st', .slice A' xs.length c', .int .i64 sl'] := by rw [est, eA, ec, esl]; exact hb11
      clear est eA ec esl hx2 hy2 hg2 hw2 hb3 hac hb11 hown8
      go_upto_region 6 with (first | (go_at_call 10; refine (mod_any _ _ (by omega) (by omega) _).mono ?_; rintro e w' ⟨rfl, rfl⟩; rw [Hk5.out]) | (refine wpList_load_row rfl 27 _ rfl (B11) rfl 27 _ _ _ hb11' Try.underlying27 rfl req_size ?_) | (refine wpList_store_row rfl 27 _ _ rfl B9 _ rfl rfl 27 _ hx3 req_size rfl (by simp [Value.oneCell']) ?_; simp only [Act.put]))
      generalize w3.setRow B9 #[.int .u64 tk, .int .i64 kind, .int .i64 proc, .int .i64 a, .int .i64 b, .int .u64 val, .int .i64 st', .slice A' xs.length c', .int .i64 sl'] = w4 at *
      clear hx3 hb11' hlt hlo
      have HN := Lib.hid (fun W (hW : GI W A' c' xs) => Next_any tk kind proc a b val st' A' c' xs sl' acc wr rm lv fr W hW 0 hce)
      have HD := Lib.hid (fun W (hW : GI W A' c' xs) => Needs_any tk kind proc a b val st' A' c' xs sl' acc wr rm lv fr W hW 0 hce)
      have HCF := Lib.hid (fun W (hW : GI W A' c' xs) => CheckFacts_any tk kind proc a b val st' A' c' xs sl' acc wr rm lv fr W hW)
      rw [← hce] at HCF
      have HM := Lib.hid (fun W (hW : GI W A' c' xs) => Most_ok tk kind proc a b val st' A' c' xs sl' W hW hok)
      have hen := ends_of (wr := wr) (rm := rm) (fr := fr) (st := st') hM.kd hM.l9 hfc
      rw [show okE 0 (lookF kind st' xs.length acc wr rm lv fr).2.1 = (lookF kind st' xs.length acc wr rm lv fr).2.1 from if_pos rfl] at HN
      rw [show okE 0 (lookF kind st' xs.length acc wr rm lv fr).2.2 = (lookF kind st' xs.length acc wr rm lv fr).2.2 from if_pos rfl] at HD
      generalize (lookF kind st' xs.length acc wr rm lv fr).2.1 = nx at *
      generalize (lookF kind st' xs.length acc wr rm lv fr).2.2 = nd at *
      generalize mostV kind st' xs.length = mo at *
      have g1 := hen.lo
      have g2 := hen.hi
      have g3 := hen.m10
      have g4 := hen.m3
      have g5 := hen.e1
      have g6 := hen.e2
      clear hen hM hfc hce hok Hsl hB9 hB10
      go_wp2_with (first | (refine wpList_load_row rfl 27 _ rfl (B9) rfl 27 _ _ _ hxT Try.underlying27 rfl req_size ?_) | (refine wpList_load_row rfl 38 _ rfl (B10) rfl 38 _ _ _ hyT Try.underlying38 rfl fac_size ?_))
      refine (HN.out _ hgT).mono ?_
      rintro e w11 ⟨rfl, hb11⟩
      have hx11 := hxT.below hb11
      have hy11 := hyT.below hb11
      have hg11 := hgT.below hb11
      have hw11 := below_step hwT hb11
      clear hxT hyT hgT hwT hb11
      go_wp2_with (first | (refine wpList_load_row rfl 27 _ rfl (B9) rfl 27 _ _ _ hx11 Try.underlying27 rfl req_size ?_) | (refine wpList_load_row rfl 38 _ rfl (B10) rfl 38 _ _ _ hy11 Try.underlying38 rfl fac_size ?_))
      refine (HD.out _ hg11).mono ?_
      rintro e w12 ⟨rfl, hb12⟩
      have hx12 := hx11.below hb12
      have hy12 := hy11.below hb12
      have hg12 := hg11.below hb12
      have hw12 := below_step hw11 hb12
      clear hx11 hy11 hg11 hw11 hb12
      go_wp2_with (first | (refine wpList_load_row rfl 27 _ rfl (B9) rfl 27 _ _ _ hx12 Try.underlying27 rfl req_size ?_))
      refine (HM.out _ hg12).mono ?_
      rintro e w13 ⟨rfl, hb13⟩
      have hx13 := hx12.below hb13
      have hy13 := hy12.below hb13
      have hg13 := hg12.below hb13
      have hw13 := below_step hw12 hb13
      clear hx12 hy12 hg12 hw12 hb13
      go_wp2_with (first | (refine wpList_load_row rfl 27 _ rfl (B9) rfl 27 _ _ _ hx13 Try.underlying27 rfl req_size ?_) | (refine wpList_load_row rfl 38 _ rfl (B10) rfl 38 _ _ _ hy13 Try.underlying38 rfl fac_size ?_))
      refine (HCF.out _ hg13).mono ?_
      rintro e w14 ⟨rfl, hb14⟩
      have hy14 := hy13.below hb14
      have hw14 := below_step hw13 hb14
      have cA : w14.cell? ⟨B10, 0, none⟩ = some (.int .i64 acc) := hy14.cell 0
      clear hx13 hy13 hg13 hw13 hb14 HN HD HM HCF
      have d1 : decide (nd < 1) = false := by simp; omega
      have d2 : decide (mo < nd) = false := by simp; omega
      have d3 : decide (10 < mo) = false := by simp; omega
      have HAW := Lib.hid awake_any
      have hq : (((nx == 1) = true ∧ (nd == 1) = true) ∨ ((nx == 1) = false ∧ (nx == 2) = true ∧ (nd == 1) = true)) ∨ (((nx == 1) = false ∧ (nx == 2) = false ∧ (nd == 1) = true ∧ (nd != 1) = false ∧ (nx == 7) = true) ∨ ((nx == 1) = false ∧ (nx == 2) = false ∧ (nd != 1) = true)) := by
        by_cases h1 : nx = 1
        · have := g5 (.inl h1); exact .inl (.inl (by simp [h1, this]))
        · by_cases h2 : nx = 2
          · have := g5 (.inr h2); exact .inl (.inr (by simp [h2, this]))
          · by_cases hn : nd = 1
            · have h7 : nx = 7 := by have := g6 hn; omega
              exact .inr (.inl (by simp [hn, h7]))
            · exact .inr (.inr (by simp [h1, h2, hn]))
      have hp : (decide (0 < acc) = true ∧ decide (3 < mo) = false) ∨ decide (0 < acc) = false := by
        by_cases ha : 0 < acc
        · have := g4 ha; exact .inl ⟨by simp [ha], by simp; omega⟩
        · exact .inr (by simp; omega)
      clear g1 g2 g3 g4 g5 g6
      rcases hp with ⟨p1, p2⟩ | p1
      all_goals rcases hq with (⟨e1, e2⟩ | ⟨e1, e2, e3⟩) | (⟨e1, e2, e3, e4, e5⟩ | ⟨e1, e2, e3⟩)
      all_goals (go_wp2_with (first | (go_at_call 11; refine (HAW.out _).mono ?_; rintro e w15 ⟨rfl, hb15⟩))) <;> (go_ret; exact ⟨rfl, below_step hw14 hb15⟩)

end Go.Proofs.Ytbcfnocefjolfaa
