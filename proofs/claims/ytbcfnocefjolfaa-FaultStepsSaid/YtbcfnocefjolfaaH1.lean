/- The statement FaultLoses. -/
import Derived.Test.YtbcfnocefjolfaaG5
import Derived.Test.YtbcfnocefjolfaaZ
namespace Go.Proofs.Ytbcfnocefjolfaa
open Go.RowKit
set_option linter.unusedVariables false

/-- What is known of a request made of numbers. -/
structure MF (tk kind proc a b val : Int) (xs : List Int) (st : Int) : Prop where
  ok : chkE tk kind proc a b val st xs 0 = 0
  ok3 : accB kind = true → ∀ sl, 0 ≤ sl → sl < 256 → chkE tk kind proc a b val 3 xs sl = 0
  st_ : st = loseS xs.length
  kd : kind = 4 ∨ kind = 5 ∨ kind = 6 ∨ kind = 1
  l9 : xs.length ≤ 9
  l1 : kind ≠ 6 → xs.length ≤ 1
/-- A request made of numbers came back. -/
def RetF (w : World) (e : Ending) (w' : World) : Prop :=
  ∃ tk kind proc a b val xs st A c, e = .returned (.agg #[.int .u64 tk, .int .i64 kind, .int .i64 proc, .int .i64 a, .int .i64 b, .int .u64 val, .int .i64 st, .slice A xs.length c, .int .i64 0]) ∧ OwnI w' w.heap.size A xs.length c xs ∧ Below w.heap.size w w' ∧ MF tk kind proc a b val xs st
theorem made_f (n fs : Int) (w : World) : Calls Try.prog 8 #[.int .i64 n, .int .i64 fs] w (RetF w) := by
  refine (made_any n fs w).mono ?_
  rintro e w' ⟨A, c, rfl, ho, hb⟩
  obtain ⟨k, hk⟩ : ∃ k, n % 16777216 = k := ⟨_, rfl⟩
  obtain ⟨m, hm⟩ : ∃ m, fs % 1048576 = m := ⟨_, rfl⟩
  rw [hk, hm] at ho ⊢
  have hmn := manyF_le k m
  refine ⟨1 + k % 50, kindF k, 1 + k / 50 % 8, aF k, bF k, valF k, xsF m (manyF k m), stF (manyF k m), A, c, by rw [xsF_len], by rw [xsF_len]; exact ho, hb, ?_⟩
  refine ⟨made_ok n k m hk _ _ (.inl ⟨rfl, rfl⟩), fun ha sl h0 h1 => made_ok n k m hk _ _ (.inr ⟨ha, rfl, h0, h1⟩), ?_, ?_, by rw [xsF_len]; exact hmn.1, fun h => by rw [xsF_len]; exact hmn.2.2 h⟩
  · rw [xsF_len]
    unfold stF loseS
    split <;> split <;> omega
  · unfold kindF
    repeat' split
    all_goals simp

theorem loseS_12 (n : Nat) : loseS n = 1 ∨ loseS n = 2 := by unfold loseS; split <;> simp
theorem MF.able {tk kind proc a b val : Int} {xs : List Int} {st : Int} (h : MF tk kind proc a b val xs st) : ableB kind st 3 = accB kind := by
  have h1 := h.st_
  rcases loseS_12 xs.length with h2 | h2
  · rw [h2] at h1; subst h1; unfold ableB; cases accB kind <;> rfl
  · rw [h2] at h1; subst h1; unfold ableB; cases accB kind <;> rfl

theorem s9 {w : World} {B : Nat} {f0 f1 f2 f3 f4 f5 f6 f7 f8 : Value} (h : Bx w B 27 #[f0, f1, f2, f3, f4, f5, f6, f7, f8]) : w.cell? ⟨B, 0, none⟩ = some f0 ∧ w.cell? ⟨B, 1, none⟩ = some f1 ∧ w.cell? ⟨B, 2, none⟩ = some f2 ∧ w.cell? ⟨B, 3, none⟩ = some f3 ∧ w.cell? ⟨B, 4, none⟩ = some f4 ∧ w.cell? ⟨B, 5, none⟩ = some f5 ∧ w.cell? ⟨B, 6, none⟩ = some f6 ∧ w.cell? ⟨B, 7, none⟩ = some f7 ∧ w.cell? ⟨B, 8, none⟩ = some f8 :=
  ⟨h.cell 0, h.cell 1, h.cell 2, h.cell 3, h.cell 4, h.cell 5, h.cell 6, h.cell 7, h.cell 8⟩
noncomputable def lo2_l : List Oper := (Try.f3.body.bind (regIn · 2)).getD []
theorem lo2_o0 : lo2_l[0]?.map (fun o => (o.dst, o.op, o.guard)) = some (some 16, .load 27 (.tmp 7), none) := by kernel_rfl
theorem lo2_o1 : lo2_l[1]?.map (fun o => (o.dst, o.op, o.guard)) = some (some 17, .move (.tmp 2), none) := by kernel_rfl
theorem lo2_o2 : lo2_l[2]?.map (fun o => (o.dst, o.op, o.guard)) = some (some 18, .call { callee := .value (.func 10), args := #[(.tmp 17), (.const (.int .i64 256))], argTypes := #[3, 3] }, none) := by kernel_rfl
theorem lo2_o3 : lo2_l[3]?.map (fun o => (o.dst, o.op, o.guard)) = some (some 19, .call { callee := .value (.func 9), args := #[(.tmp 16), (.tmp 18)], argTypes := #[27, 3] }, none) := by kernel_rfl
theorem lo2_o4 : lo2_l[4]?.map (fun o => (o.dst, o.op, o.guard)) = some (some 15, .move (.tmp 19), none) := by kernel_rfl
theorem lo2_o5 : lo2_l[5]?.map (fun o => (o.dst, o.op, o.guard)) = some (some 20, .extract (.tmp 15) 0, none) := by kernel_rfl
theorem lo2_o6 : lo2_l[6]?.map (fun o => (o.dst, o.op, o.guard)) = some (some 21, .extract (.tmp 15) 1, none) := by kernel_rfl
theorem lo2_o7 : lo2_l[7]?.map (fun o => (o.dst, o.op, o.guard)) = some (some 8, .alloc 27, none) := by kernel_rfl
theorem lo2_o8 : lo2_l[8]?.map (fun o => (o.dst, o.op, o.guard)) = some (none, .store 27 (.tmp 8) (.tmp 20), none) := by kernel_rfl
theorem lo2_o9 : lo2_l[9]?.map (fun o => (o.dst, o.op, o.guard)) = some (some 9, .assign (.tmp 21), none) := by kernel_rfl
def lo2_sp (tk kind proc a b val st : Int) (A : Option Addr) (c : Nat) (xs : List Int) (sl slot : Int) (B7 : Nat) (W : World) : Nat → Spec
  | 0 => ⟨Unit, [16], fun _ => [(16, .agg #[.int .u64 tk, .int .i64 kind, .int .i64 proc, .int .i64 a, .int .i64 b, .int .u64 val, .int .i64 st, .slice A xs.length c, .int .i64 0])], fun _ _ => True⟩
  | 1 => ⟨Unit, [17], fun _ => [(17, .int .i64 slot)], fun _ _ => True⟩
  | 2 => ⟨Unit, [18], fun _ => [(18, .int .i64 sl)], fun _ _ => True⟩
  | 3 => ⟨Option Addr × Nat, [19], fun ⟨A8, c8⟩ => [(19, .tuple #[.agg #[.int .u64 tk, .int .i64 kind, .int .i64 proc, .int .i64 a, .int .i64 b, .int .u64 val, .int .i64 3, .slice A8 xs.length c8, .int .i64 sl], .int .i64 0])], fun ⟨A8, c8⟩ w => OwnI w W.heap.size A8 xs.length c8 xs⟩
  | 4 => ⟨Option Addr × Nat, [15], fun ⟨A8, c8⟩ => [(15, .tuple #[.agg #[.int .u64 tk, .int .i64 kind, .int .i64 proc, .int .i64 a, .int .i64 b, .int .u64 val, .int .i64 3, .slice A8 xs.length c8, .int .i64 sl], .int .i64 0])], fun ⟨A8, c8⟩ w => OwnI w W.heap.size A8 xs.length c8 xs⟩
  | 5 => ⟨Option Addr × Nat, [20], fun ⟨A8, c8⟩ => [(20, .agg #[.int .u64 tk, .int .i64 kind, .int .i64 proc, .int .i64 a, .int .i64 b, .int .u64 val, .int .i64 3, .slice A8 xs.length c8, .int .i64 sl])], fun ⟨A8, c8⟩ w => OwnI w W.heap.size A8 xs.length c8 xs⟩
  | 6 => ⟨Unit, [21], fun _ => [(21, .int .i64 0)], fun _ _ => True⟩
  | 7 => ⟨Nat, [8], fun Bn => [(8, .pointer (some ⟨Bn, 0, none⟩))], fun Bn w => (∃ cs, Bx w Bn 27 cs ∧ cs.size = 9) ∧ W.heap.size ≤ Bn⟩
  | 8 => ⟨Nat × Option Addr × Nat, [8], fun ⟨Bn, A8, c8⟩ => [(8, .pointer (some ⟨Bn, 0, none⟩))], fun ⟨Bn, A8, c8⟩ w => Bx w Bn 27 #[.int .u64 tk, .int .i64 kind, .int .i64 proc, .int .i64 a, .int .i64 b, .int .u64 val, .int .i64 3, .slice A8 xs.length c8, .int .i64 sl] ∧ OwnI w W.heap.size A8 xs.length c8 xs⟩
  | 9 => ⟨Unit, [9], fun _ => [(9, .int .i64 0)], fun _ _ => True⟩
  | _ => ⟨Unit, [], fun _ => [], fun _ _ => True⟩
theorem lo2_fb (tk kind proc a b val st : Int) (A : Option Addr) (c : Nat) (xs : List Int) (sl slot : Int) (B7 : Nat) (W : World) : slB lo2_l (fun j => (lo2_sp tk kind proc a b val st A c xs sl slot B7 W j).ss) = true := by kernel_rfl
set_option maxHeartbeats 2000000 in
theorem lo2 {Q : Exit → Act → World → Prop} {a0 : Act} {W : World} (tk kind proc a b val st : Int) (A : Option Addr) (c : Nat) (xs : List Int) (sl slot : Int) (B7 : Nat)  (z0 : a0.tmps.size = 68) (p2 : Sv a0 2 (.int .i64 slot)) (p7 : Sv a0 7 (.pointer (some ⟨B7, 0, none⟩))) (hx : Bx W B7 27 #[.int .u64 tk, .int .i64 kind, .int .i64 proc, .int .i64 a, .int .i64 b, .int .u64 val, .int .i64 st, .slice A xs.length c, .int .i64 0]) (hg : GI W A c xs) (hwe : waitE tk kind proc a b val st xs 0 sl 3 = 0) (Hsl : Hid (slot % 256 = sl))
    (fin : ∀ ac w, Fr a0 lo2_l ac → Below W.heap.size W w → (∃ Bn : Nat, ∃ A8 : Option Addr, ∃ c8 : Nat, Sv ac 8 (.pointer (some ⟨Bn, 0, none⟩)) ∧ Bx w Bn 27 #[.int .u64 tk, .int .i64 kind, .int .i64 proc, .int .i64 a, .int .i64 b, .int .u64 val, .int .i64 3, .slice A8 xs.length c8, .int .i64 sl] ∧ OwnI w W.heap.size A8 xs.length c8 xs) → (Sv ac 9 (.int .i64 0)) → Q .normal ac w) : (Code.region 2 lo2_l.toArray true).wp Try.prog Q a0 W := by
  refine region_of (n := 10) (by kernel_rfl) (by kernel_rfl) (by kernel_rfl) (lo2_sp tk kind proc a b val st A c xs sl slot B7 W) (lo2_fb tk kind proc a b val st A c xs sl slot B7 W) (fun w => Below W.heap.size W w) (stpN 27 [8]) (bel0 W) ?_ ?_ ?_
  · intro i hi ac w hF hI hk
    have z := hF.1.trans z0
    have f2 := hF.sv (s := 2) (by kernel_rfl) p2
    have f7 := hF.sv (s := 7) (by kernel_rfl) p7
    match i, hi with
    | 0, _ =>
      exact ob_val (v := .agg #[.int .u64 tk, .int .i64 kind, .int .i64 proc, .int .i64 a, .int .i64 b, .int .u64 val, .int .i64 st, .slice A xs.length c, .int .i64 0]) lo2_o0 (.inl rfl) (ev_row f7.eval (hx.below hI) Try.underlying27 rfl (n := 9) (by kernel_rfl) rfl) ⟨⟨_, rfl⟩, hI, Below.refl _ _, ⟨(), rfl, sv1 (Sv.dst (by kernel_rfl) (by rw [z]; decide) _), trivial⟩⟩
    | 1, _ =>
      exact ob_val (v := .int .i64 slot) lo2_o1 (.inl rfl) (ev_move f2.eval) ⟨⟨_, rfl⟩, hI, Below.refl _ _, ⟨(), rfl, sv1 (Sv.dst (by kernel_rfl) (by rw [z]; decide) _), trivial⟩⟩
    | 2, _ =>
      obtain ⟨⟨⟩, -, hs1, hw1⟩ := hk 1 (mem_reach (by kernel_rfl))
      have f17 : Sv ac 17 (.int .i64 slot) := hs1 _ (List.Mem.head _)
      refine ob_call (f := 10) (args := #[.int .i64 slot, .int .i64 256]) (w' := w) (R := fun v w'' => v = .int .i64 sl ∧ True ∧ Below w.heap.size w w'') lo2_o2 (.inl rfl) (fun o ho => ?_) ((mod_any slot 256 (by omega) (by omega) w).mono ?_) ?_
      · have e : execOp ac.eval o = (do let d ← resolve ac.eval { callee := .value (.func 10), args := #[(.tmp 17), (.const (.int .i64 256))], argTypes := #[3, 3] } o.type; invoke d.target d.args) := by simp only [execOp, ho]
        have e17 := f17.eval
        have ef : ac.eval (.func 10) = .func (.func 10) #[] #[] := rfl
        have ec : ac.eval (.const (.int .i64 256)) = .int .i64 256 := rfl
        rw [e]
        generalize ac.eval = ρ at *
        simp [ef, e17, ec, go_sem]
      · rintro e w' ⟨rfl, rfl⟩; exact ⟨_, rfl, by rw [Hsl.out], trivial, Below.refl _ _⟩
      · rintro v w2 ⟨rfl, hwd, hb⟩
        exact ⟨⟨_, rfl⟩, below_step hI hb, hb, ⟨(), rfl, sv1 (Sv.dst (by kernel_rfl) (by rw [z]; decide) _), hwd⟩⟩
    | 3, _ =>
      obtain ⟨⟨⟩, -, hs0, hw0⟩ := hk 0 (mem_reach (by kernel_rfl))
      have f16 : Sv ac 16 (.agg #[.int .u64 tk, .int .i64 kind, .int .i64 proc, .int .i64 a, .int .i64 b, .int .u64 val, .int .i64 st, .slice A xs.length c, .int .i64 0]) := hs0 _ (List.Mem.head _)
      obtain ⟨⟨⟩, -, hs2, hw2⟩ := hk 2 (mem_reach (by kernel_rfl))
      have f18 : Sv ac 18 (.int .i64 sl) := hs2 _ (List.Mem.head _)
      refine ob_call (f := 9) (args := #[.agg #[.int .u64 tk, .int .i64 kind, .int .i64 proc, .int .i64 a, .int .i64 b, .int .u64 val, .int .i64 st, .slice A xs.length c, .int .i64 0], .int .i64 sl]) (w' := w) (R := fun v w'' => ∃ A8 : Option Addr, ∃ c8 : Nat, v = .tuple #[.agg #[.int .u64 tk, .int .i64 kind, .int .i64 proc, .int .i64 a, .int .i64 b, .int .u64 val, .int .i64 3, .slice A8 xs.length c8, .int .i64 sl], .int .i64 0] ∧ OwnI w'' W.heap.size A8 xs.length c8 xs ∧ Below w.heap.size w w'') lo2_o3 (.inl rfl) (fun o ho => ?_) ((Claim_ok tk kind proc a b val st A c xs 0 sl w (hg.below hI) hwe).mono ?_) ?_
      · have e : execOp ac.eval o = (do let d ← resolve ac.eval { callee := .value (.func 9), args := #[(.tmp 16), (.tmp 18)], argTypes := #[27, 3] } o.type; invoke d.target d.args) := by simp only [execOp, ho]
        have e16 := f16.eval
        have e18 := f18.eval
        have ef : ac.eval (.func 9) = .func (.func 9) #[] #[] := rfl
        rw [e]
        generalize ac.eval = ρ at *
        simp [ef, e16, e18, go_sem]
      · rintro e w' ⟨A8, c8, rfl, hown, hb⟩; exact ⟨_, rfl, A8, c8, rfl, hown.mono hI.size, hb⟩
      · rintro v w2 ⟨A8, c8, rfl, hwd, hb⟩
        exact ⟨⟨_, rfl⟩, below_step hI hb, hb, ⟨(A8, c8), rfl, sv1 (Sv.dst (by kernel_rfl) (by rw [z]; decide) _), hwd⟩⟩
    | 4, _ =>
      obtain ⟨⟨A8, c8⟩, -, hs3, hw3⟩ := hk 3 (mem_reach (by kernel_rfl))
      have f19 : Sv ac 19 (.tuple #[.agg #[.int .u64 tk, .int .i64 kind, .int .i64 proc, .int .i64 a, .int .i64 b, .int .u64 val, .int .i64 3, .slice A8 xs.length c8, .int .i64 sl], .int .i64 0]) := hs3 _ (List.Mem.head _)
      exact ob_val (v := .tuple #[.agg #[.int .u64 tk, .int .i64 kind, .int .i64 proc, .int .i64 a, .int .i64 b, .int .u64 val, .int .i64 3, .slice A8 xs.length c8, .int .i64 sl], .int .i64 0]) lo2_o4 (.inl rfl) (ev_move f19.eval) ⟨⟨_, rfl⟩, hI, Below.refl _ _, ⟨(A8, c8), rfl, sv1 (Sv.dst (by kernel_rfl) (by rw [z]; decide) _), hw3⟩⟩
    | 5, _ =>
      obtain ⟨⟨A8, c8⟩, -, hs4, hw4⟩ := hk 4 (mem_reach (by kernel_rfl))
      have f15 : Sv ac 15 (.tuple #[.agg #[.int .u64 tk, .int .i64 kind, .int .i64 proc, .int .i64 a, .int .i64 b, .int .u64 val, .int .i64 3, .slice A8 xs.length c8, .int .i64 sl], .int .i64 0]) := hs4 _ (List.Mem.head _)
      exact ob_val (v := .agg #[.int .u64 tk, .int .i64 kind, .int .i64 proc, .int .i64 a, .int .i64 b, .int .u64 val, .int .i64 3, .slice A8 xs.length c8, .int .i64 sl]) lo2_o5 (.inl rfl) (ev_ext f15.eval rfl) ⟨⟨_, rfl⟩, hI, Below.refl _ _, ⟨(A8, c8), rfl, sv1 (Sv.dst (by kernel_rfl) (by rw [z]; decide) _), hw4⟩⟩
    | 6, _ =>
      obtain ⟨⟨A8, c8⟩, -, hs4, hw4⟩ := hk 4 (mem_reach (by kernel_rfl))
      have f15 : Sv ac 15 (.tuple #[.agg #[.int .u64 tk, .int .i64 kind, .int .i64 proc, .int .i64 a, .int .i64 b, .int .u64 val, .int .i64 3, .slice A8 xs.length c8, .int .i64 sl], .int .i64 0]) := hs4 _ (List.Mem.head _)
      exact ob_val (v := .int .i64 0) lo2_o6 (.inl rfl) (ev_ext f15.eval rfl) ⟨⟨_, rfl⟩, hI, Below.refl _ _, ⟨(), rfl, sv1 (Sv.dst (by kernel_rfl) (by rw [z]; decide) _), trivial⟩⟩
    | 7, _ =>
      refine ob_val (v := .pointer (some ⟨w.heap.size, 0, none⟩)) (w' := w.alloc (.cells #[.int .u64 0, .int .i64 0, .int .i64 0, .int .i64 0, .int .i64 0, .int .u64 0, .int .i64 0, .slice none 0 0, .int .i64 0] 27)) lo2_o7 (.inl rfl) (fun o ho => by simp [execOp, ho, go_sem]) ⟨⟨_, rfl⟩, below_step hI (al _ _), al _ _, ?_⟩
      exact ⟨w.heap.size, rfl, sv1 (Sv.dst (by kernel_rfl) (by rw [z]; decide) _), ⟨⟨_, Bx.new w _ _, rfl⟩, hI.size⟩⟩
    | 8, _ =>
      obtain ⟨Bn, -, hs7, hw7⟩ := hk 7 (mem_reach (by kernel_rfl))
      have f8 : Sv ac 8 (.pointer (some ⟨Bn, 0, none⟩)) := hs7 _ (List.Mem.head _)
      obtain ⟨⟨A8, c8⟩, -, hs5, hw5⟩ := hk 5 (mem_reach (by kernel_rfl))
      have f20 : Sv ac 20 (.agg #[.int .u64 tk, .int .i64 kind, .int .i64 proc, .int .i64 a, .int .i64 b, .int .u64 val, .int .i64 3, .slice A8 xs.length c8, .int .i64 sl]) := hs5 _ (List.Mem.head _)
      obtain ⟨⟨cs0, hb0, hz0⟩, hlow⟩ := hw7
      refine ob_skip (w' := w.setRow Bn #[.int .u64 tk, .int .i64 kind, .int .i64 proc, .int .i64 a, .int .i64 b, .int .u64 val, .int .i64 3, .slice A8 xs.length c8, .int .i64 sl]) lo2_o8 (.inl rfl) (ev_srow f8.eval f20.eval hb0 (n := 9) (by kernel_rfl) rfl hz0 (by simp [Value.oneCell'])) ⟨⟨_, rfl⟩, below_setRow hI ?_ _, ⟨Bn, cs0, _, hb0, by rw [hz0]; rfl, rfl⟩, ?_⟩
      · exact hlow
      · exact ⟨(Bn, A8, c8), rfl, sv1 f8, ⟨hb0.row _, (hw5.rowT hb0 (by decide) _)⟩⟩
    | 9, _ =>
      obtain ⟨⟨⟩, -, hs6, hw6⟩ := hk 6 (mem_reach (by kernel_rfl))
      have f21 : Sv ac 21 (.int .i64 0) := hs6 _ (List.Mem.head _)
      exact ob_val (v := .int .i64 0) lo2_o9 (.inl rfl) (ev_assign f21.eval) ⟨⟨_, rfl⟩, hI, Below.refl _ _, ⟨(), rfl, sv1 (Sv.dst (by kernel_rfl) (by rw [z]; decide) _), trivial⟩⟩
    | k + 10, h => exact absurd h (by omega)
  · intro i j hi hj hij x w w' hI hst hw
    match j, hj, x, hw with
    | 0, _, _, _ => exact trivial
    | 1, _, _, _ => exact trivial
    | 2, _, _, _ => exact trivial
    | 3, _, ⟨A8, c8⟩, hw => exact hst.own (by decide) hw
    | 4, _, ⟨A8, c8⟩, hw => exact hst.own (by decide) hw
    | 5, _, ⟨A8, c8⟩, hw => exact hst.own (by decide) hw
    | 6, _, _, _ => exact trivial
    | 7, _, Bn, hw => exact ⟨hst.box hw.1, hw.2⟩
    | 8, _, ⟨Bn, A8, c8⟩, hw => exact ⟨hw.1.below (hst.low (by simp; omega)), hst.own (by decide) hw.2⟩
    | 9, _, _, _ => exact trivial
    | k + 10, h, _, _ => exact absurd h (by omega)
  · intro ac w hF hI hall
    obtain ⟨⟨Bn, A8, c8⟩, -, hs8, hw8⟩ := hall 8 (by omega)
    have g8 : (∃ Bn : Nat, ∃ A8 : Option Addr, ∃ c8 : Nat, Sv ac 8 (.pointer (some ⟨Bn, 0, none⟩)) ∧ Bx w Bn 27 #[.int .u64 tk, .int .i64 kind, .int .i64 proc, .int .i64 a, .int .i64 b, .int .u64 val, .int .i64 3, .slice A8 xs.length c8, .int .i64 sl] ∧ OwnI w W.heap.size A8 xs.length c8 xs) := ⟨Bn, A8, c8, hs8 _ (List.Mem.head _), hw8⟩
    obtain ⟨⟨⟩, -, hs9, hw9⟩ := hall 9 (by omega)
    have g9 : (Sv ac 9 (.int .i64 0)) := hs9 _ (List.Mem.head _)
    exact fin ac w hF hI g8 g9
noncomputable def lo2b_l : List Oper := (Try.f3.body.bind (regIn · 2)).getD []
theorem lo2b_o0 : lo2b_l[0]?.map (fun o => (o.dst, o.op, o.guard)) = some (some 16, .load 27 (.tmp 7), none) := by kernel_rfl
theorem lo2b_o1 : lo2b_l[1]?.map (fun o => (o.dst, o.op, o.guard)) = some (some 17, .move (.tmp 2), none) := by kernel_rfl
theorem lo2b_o2 : lo2b_l[2]?.map (fun o => (o.dst, o.op, o.guard)) = some (some 18, .call { callee := .value (.func 10), args := #[(.tmp 17), (.const (.int .i64 256))], argTypes := #[3, 3] }, none) := by kernel_rfl
theorem lo2b_o3 : lo2b_l[3]?.map (fun o => (o.dst, o.op, o.guard)) = some (some 19, .call { callee := .value (.func 9), args := #[(.tmp 16), (.tmp 18)], argTypes := #[27, 3] }, none) := by kernel_rfl
theorem lo2b_o4 : lo2b_l[4]?.map (fun o => (o.dst, o.op, o.guard)) = some (some 15, .move (.tmp 19), none) := by kernel_rfl
theorem lo2b_o5 : lo2b_l[5]?.map (fun o => (o.dst, o.op, o.guard)) = some (some 20, .extract (.tmp 15) 0, none) := by kernel_rfl
theorem lo2b_o6 : lo2b_l[6]?.map (fun o => (o.dst, o.op, o.guard)) = some (some 21, .extract (.tmp 15) 1, none) := by kernel_rfl
theorem lo2b_o7 : lo2b_l[7]?.map (fun o => (o.dst, o.op, o.guard)) = some (some 8, .alloc 27, none) := by kernel_rfl
theorem lo2b_o8 : lo2b_l[8]?.map (fun o => (o.dst, o.op, o.guard)) = some (none, .store 27 (.tmp 8) (.tmp 20), none) := by kernel_rfl
theorem lo2b_o9 : lo2b_l[9]?.map (fun o => (o.dst, o.op, o.guard)) = some (some 9, .assign (.tmp 21), none) := by kernel_rfl
def lo2b_sp (tk kind proc a b val st : Int) (A : Option Addr) (c : Nat) (xs : List Int) (sl slot : Int) (B7 : Nat) (W : World) : Nat → Spec
  | 0 => ⟨Unit, [16], fun _ => [(16, .agg #[.int .u64 tk, .int .i64 kind, .int .i64 proc, .int .i64 a, .int .i64 b, .int .u64 val, .int .i64 st, .slice A xs.length c, .int .i64 0])], fun _ _ => True⟩
  | 1 => ⟨Unit, [17], fun _ => [(17, .int .i64 slot)], fun _ _ => True⟩
  | 2 => ⟨Unit, [18], fun _ => [(18, .int .i64 sl)], fun _ _ => True⟩
  | 3 => ⟨Option Addr × Nat, [19], fun ⟨A8, c8⟩ => [(19, .tuple #[.agg #[.int .u64 0, .int .i64 0, .int .i64 0, .int .i64 0, .int .i64 0, .int .u64 0, .int .i64 0, .slice A8 0 c8, .int .i64 0], .int .i64 9])], fun ⟨A8, c8⟩ w => OwnI w W.heap.size A8 0 c8 []⟩
  | 4 => ⟨Option Addr × Nat, [15], fun ⟨A8, c8⟩ => [(15, .tuple #[.agg #[.int .u64 0, .int .i64 0, .int .i64 0, .int .i64 0, .int .i64 0, .int .u64 0, .int .i64 0, .slice A8 0 c8, .int .i64 0], .int .i64 9])], fun ⟨A8, c8⟩ w => OwnI w W.heap.size A8 0 c8 []⟩
  | 5 => ⟨Option Addr × Nat, [20], fun ⟨A8, c8⟩ => [(20, .agg #[.int .u64 0, .int .i64 0, .int .i64 0, .int .i64 0, .int .i64 0, .int .u64 0, .int .i64 0, .slice A8 0 c8, .int .i64 0])], fun ⟨A8, c8⟩ w => OwnI w W.heap.size A8 0 c8 []⟩
  | 6 => ⟨Unit, [21], fun _ => [(21, .int .i64 9)], fun _ _ => True⟩
  | 7 => ⟨Nat, [8], fun Bn => [(8, .pointer (some ⟨Bn, 0, none⟩))], fun Bn w => (∃ cs, Bx w Bn 27 cs ∧ cs.size = 9) ∧ W.heap.size ≤ Bn⟩
  | 8 => ⟨Nat × Option Addr × Nat, [8], fun ⟨Bn, A8, c8⟩ => [(8, .pointer (some ⟨Bn, 0, none⟩))], fun ⟨Bn, A8, c8⟩ w => Bx w Bn 27 #[.int .u64 0, .int .i64 0, .int .i64 0, .int .i64 0, .int .i64 0, .int .u64 0, .int .i64 0, .slice A8 0 c8, .int .i64 0] ∧ OwnI w W.heap.size A8 0 c8 []⟩
  | 9 => ⟨Unit, [9], fun _ => [(9, .int .i64 9)], fun _ _ => True⟩
  | _ => ⟨Unit, [], fun _ => [], fun _ _ => True⟩
theorem lo2b_fb (tk kind proc a b val st : Int) (A : Option Addr) (c : Nat) (xs : List Int) (sl slot : Int) (B7 : Nat) (W : World) : slB lo2b_l (fun j => (lo2b_sp tk kind proc a b val st A c xs sl slot B7 W j).ss) = true := by kernel_rfl
set_option maxHeartbeats 2000000 in
theorem lo2b {Q : Exit → Act → World → Prop} {a0 : Act} {W : World} (tk kind proc a b val st : Int) (A : Option Addr) (c : Nat) (xs : List Int) (sl slot : Int) (B7 : Nat)  (z0 : a0.tmps.size = 68) (p2 : Sv a0 2 (.int .i64 slot)) (p7 : Sv a0 7 (.pointer (some ⟨B7, 0, none⟩))) (hx : Bx W B7 27 #[.int .u64 tk, .int .i64 kind, .int .i64 proc, .int .i64 a, .int .i64 b, .int .u64 val, .int .i64 st, .slice A xs.length c, .int .i64 0]) (hg : GI W A c xs) (hwe : waitE tk kind proc a b val st xs 0 sl 3 = 9) (Hsl : Hid (slot % 256 = sl))
    (fin : ∀ ac w, Fr a0 lo2b_l ac → Below W.heap.size W w → (Sv ac 9 (.int .i64 9)) → Q .normal ac w) : (Code.region 2 lo2b_l.toArray true).wp Try.prog Q a0 W := by
  refine region_of (n := 10) (by kernel_rfl) (by kernel_rfl) (by kernel_rfl) (lo2b_sp tk kind proc a b val st A c xs sl slot B7 W) (lo2b_fb tk kind proc a b val st A c xs sl slot B7 W) (fun w => Below W.heap.size W w) (stpN 27 [8]) (bel0 W) ?_ ?_ ?_
  · intro i hi ac w hF hI hk
    have z := hF.1.trans z0
    have f2 := hF.sv (s := 2) (by kernel_rfl) p2
    have f7 := hF.sv (s := 7) (by kernel_rfl) p7
    match i, hi with
    | 0, _ =>
      exact ob_val (v := .agg #[.int .u64 tk, .int .i64 kind, .int .i64 proc, .int .i64 a, .int .i64 b, .int .u64 val, .int .i64 st, .slice A xs.length c, .int .i64 0]) lo2b_o0 (.inl rfl) (ev_row f7.eval (hx.below hI) Try.underlying27 rfl (n := 9) (by kernel_rfl) rfl) ⟨⟨_, rfl⟩, hI, Below.refl _ _, ⟨(), rfl, sv1 (Sv.dst (by kernel_rfl) (by rw [z]; decide) _), trivial⟩⟩
    | 1, _ =>
      exact ob_val (v := .int .i64 slot) lo2b_o1 (.inl rfl) (ev_move f2.eval) ⟨⟨_, rfl⟩, hI, Below.refl _ _, ⟨(), rfl, sv1 (Sv.dst (by kernel_rfl) (by rw [z]; decide) _), trivial⟩⟩
    | 2, _ =>
      obtain ⟨⟨⟩, -, hs1, hw1⟩ := hk 1 (mem_reach (by kernel_rfl))
      have f17 : Sv ac 17 (.int .i64 slot) := hs1 _ (List.Mem.head _)
      refine ob_call (f := 10) (args := #[.int .i64 slot, .int .i64 256]) (w' := w) (R := fun v w'' => v = .int .i64 sl ∧ True ∧ Below w.heap.size w w'') lo2b_o2 (.inl rfl) (fun o ho => ?_) ((mod_any slot 256 (by omega) (by omega) w).mono ?_) ?_
      · have e : execOp ac.eval o = (do let d ← resolve ac.eval { callee := .value (.func 10), args := #[(.tmp 17), (.const (.int .i64 256))], argTypes := #[3, 3] } o.type; invoke d.target d.args) := by simp only [execOp, ho]
        have e17 := f17.eval
        have ef : ac.eval (.func 10) = .func (.func 10) #[] #[] := rfl
        have ec : ac.eval (.const (.int .i64 256)) = .int .i64 256 := rfl
        rw [e]
        generalize ac.eval = ρ at *
        simp [ef, e17, ec, go_sem]
      · rintro e w' ⟨rfl, rfl⟩; exact ⟨_, rfl, by rw [Hsl.out], trivial, Below.refl _ _⟩
      · rintro v w2 ⟨rfl, hwd, hb⟩
        exact ⟨⟨_, rfl⟩, below_step hI hb, hb, ⟨(), rfl, sv1 (Sv.dst (by kernel_rfl) (by rw [z]; decide) _), hwd⟩⟩
    | 3, _ =>
      obtain ⟨⟨⟩, -, hs0, hw0⟩ := hk 0 (mem_reach (by kernel_rfl))
      have f16 : Sv ac 16 (.agg #[.int .u64 tk, .int .i64 kind, .int .i64 proc, .int .i64 a, .int .i64 b, .int .u64 val, .int .i64 st, .slice A xs.length c, .int .i64 0]) := hs0 _ (List.Mem.head _)
      obtain ⟨⟨⟩, -, hs2, hw2⟩ := hk 2 (mem_reach (by kernel_rfl))
      have f18 : Sv ac 18 (.int .i64 sl) := hs2 _ (List.Mem.head _)
      refine ob_call (f := 9) (args := #[.agg #[.int .u64 tk, .int .i64 kind, .int .i64 proc, .int .i64 a, .int .i64 b, .int .u64 val, .int .i64 st, .slice A xs.length c, .int .i64 0], .int .i64 sl]) (w' := w) (R := fun v w'' => ∃ A8 : Option Addr, ∃ c8 : Nat, v = .tuple #[.agg #[.int .u64 0, .int .i64 0, .int .i64 0, .int .i64 0, .int .i64 0, .int .u64 0, .int .i64 0, .slice A8 0 c8, .int .i64 0], .int .i64 9] ∧ OwnI w'' W.heap.size A8 0 c8 [] ∧ Below w.heap.size w w'') lo2b_o3 (.inl rfl) (fun o ho => ?_) ((Claim_bad tk kind proc a b val st A c xs 0 sl w (hg.below hI) (by rw [hwe]; decide)).mono ?_) ?_
      · have e : execOp ac.eval o = (do let d ← resolve ac.eval { callee := .value (.func 9), args := #[(.tmp 16), (.tmp 18)], argTypes := #[27, 3] } o.type; invoke d.target d.args) := by simp only [execOp, ho]
        have e16 := f16.eval
        have e18 := f18.eval
        have ef : ac.eval (.func 9) = .func (.func 9) #[] #[] := rfl
        rw [e]
        generalize ac.eval = ρ at *
        simp [ef, e16, e18, go_sem]
      · rintro e w' ⟨A8, c8, rfl, hown, hb⟩; exact ⟨_, rfl, A8, c8, by rw [hwe]; rfl, hown.mono hI.size, hb⟩
      · rintro v w2 ⟨A8, c8, rfl, hwd, hb⟩
        exact ⟨⟨_, rfl⟩, below_step hI hb, hb, ⟨(A8, c8), rfl, sv1 (Sv.dst (by kernel_rfl) (by rw [z]; decide) _), hwd⟩⟩
    | 4, _ =>
      obtain ⟨⟨A8, c8⟩, -, hs3, hw3⟩ := hk 3 (mem_reach (by kernel_rfl))
      have f19 : Sv ac 19 (.tuple #[.agg #[.int .u64 0, .int .i64 0, .int .i64 0, .int .i64 0, .int .i64 0, .int .u64 0, .int .i64 0, .slice A8 0 c8, .int .i64 0], .int .i64 9]) := hs3 _ (List.Mem.head _)
      exact ob_val (v := .tuple #[.agg #[.int .u64 0, .int .i64 0, .int .i64 0, .int .i64 0, .int .i64 0, .int .u64 0, .int .i64 0, .slice A8 0 c8, .int .i64 0], .int .i64 9]) lo2b_o4 (.inl rfl) (ev_move f19.eval) ⟨⟨_, rfl⟩, hI, Below.refl _ _, ⟨(A8, c8), rfl, sv1 (Sv.dst (by kernel_rfl) (by rw [z]; decide) _), hw3⟩⟩
    | 5, _ =>
      obtain ⟨⟨A8, c8⟩, -, hs4, hw4⟩ := hk 4 (mem_reach (by kernel_rfl))
      have f15 : Sv ac 15 (.tuple #[.agg #[.int .u64 0, .int .i64 0, .int .i64 0, .int .i64 0, .int .i64 0, .int .u64 0, .int .i64 0, .slice A8 0 c8, .int .i64 0], .int .i64 9]) := hs4 _ (List.Mem.head _)
      exact ob_val (v := .agg #[.int .u64 0, .int .i64 0, .int .i64 0, .int .i64 0, .int .i64 0, .int .u64 0, .int .i64 0, .slice A8 0 c8, .int .i64 0]) lo2b_o5 (.inl rfl) (ev_ext f15.eval rfl) ⟨⟨_, rfl⟩, hI, Below.refl _ _, ⟨(A8, c8), rfl, sv1 (Sv.dst (by kernel_rfl) (by rw [z]; decide) _), hw4⟩⟩
    | 6, _ =>
      obtain ⟨⟨A8, c8⟩, -, hs4, hw4⟩ := hk 4 (mem_reach (by kernel_rfl))
      have f15 : Sv ac 15 (.tuple #[.agg #[.int .u64 0, .int .i64 0, .int .i64 0, .int .i64 0, .int .i64 0, .int .u64 0, .int .i64 0, .slice A8 0 c8, .int .i64 0], .int .i64 9]) := hs4 _ (List.Mem.head _)
      exact ob_val (v := .int .i64 9) lo2b_o6 (.inl rfl) (ev_ext f15.eval rfl) ⟨⟨_, rfl⟩, hI, Below.refl _ _, ⟨(), rfl, sv1 (Sv.dst (by kernel_rfl) (by rw [z]; decide) _), trivial⟩⟩
    | 7, _ =>
      refine ob_val (v := .pointer (some ⟨w.heap.size, 0, none⟩)) (w' := w.alloc (.cells #[.int .u64 0, .int .i64 0, .int .i64 0, .int .i64 0, .int .i64 0, .int .u64 0, .int .i64 0, .slice none 0 0, .int .i64 0] 27)) lo2b_o7 (.inl rfl) (fun o ho => by simp [execOp, ho, go_sem]) ⟨⟨_, rfl⟩, below_step hI (al _ _), al _ _, ?_⟩
      exact ⟨w.heap.size, rfl, sv1 (Sv.dst (by kernel_rfl) (by rw [z]; decide) _), ⟨⟨_, Bx.new w _ _, rfl⟩, hI.size⟩⟩
    | 8, _ =>
      obtain ⟨Bn, -, hs7, hw7⟩ := hk 7 (mem_reach (by kernel_rfl))
      have f8 : Sv ac 8 (.pointer (some ⟨Bn, 0, none⟩)) := hs7 _ (List.Mem.head _)
      obtain ⟨⟨A8, c8⟩, -, hs5, hw5⟩ := hk 5 (mem_reach (by kernel_rfl))
      have f20 : Sv ac 20 (.agg #[.int .u64 0, .int .i64 0, .int .i64 0, .int .i64 0, .int .i64 0, .int .u64 0, .int .i64 0, .slice A8 0 c8, .int .i64 0]) := hs5 _ (List.Mem.head _)
      obtain ⟨⟨cs0, hb0, hz0⟩, hlow⟩ := hw7
      refine ob_skip (w' := w.setRow Bn #[.int .u64 0, .int .i64 0, .int .i64 0, .int .i64 0, .int .i64 0, .int .u64 0, .int .i64 0, .slice A8 0 c8, .int .i64 0]) lo2b_o8 (.inl rfl) (ev_srow f8.eval f20.eval hb0 (n := 9) (by kernel_rfl) rfl hz0 (by simp [Value.oneCell'])) ⟨⟨_, rfl⟩, below_setRow hI ?_ _, ⟨Bn, cs0, _, hb0, by rw [hz0]; rfl, rfl⟩, ?_⟩
      · exact hlow
      · exact ⟨(Bn, A8, c8), rfl, sv1 f8, ⟨hb0.row _, (hw5.rowT hb0 (by decide) _)⟩⟩
    | 9, _ =>
      obtain ⟨⟨⟩, -, hs6, hw6⟩ := hk 6 (mem_reach (by kernel_rfl))
      have f21 : Sv ac 21 (.int .i64 9) := hs6 _ (List.Mem.head _)
      exact ob_val (v := .int .i64 9) lo2b_o9 (.inl rfl) (ev_assign f21.eval) ⟨⟨_, rfl⟩, hI, Below.refl _ _, ⟨(), rfl, sv1 (Sv.dst (by kernel_rfl) (by rw [z]; decide) _), trivial⟩⟩
    | k + 10, h => exact absurd h (by omega)
  · intro i j hi hj hij x w w' hI hst hw
    match j, hj, x, hw with
    | 0, _, _, _ => exact trivial
    | 1, _, _, _ => exact trivial
    | 2, _, _, _ => exact trivial
    | 3, _, ⟨A8, c8⟩, hw => exact hst.own (by decide) hw
    | 4, _, ⟨A8, c8⟩, hw => exact hst.own (by decide) hw
    | 5, _, ⟨A8, c8⟩, hw => exact hst.own (by decide) hw
    | 6, _, _, _ => exact trivial
    | 7, _, Bn, hw => exact ⟨hst.box hw.1, hw.2⟩
    | 8, _, ⟨Bn, A8, c8⟩, hw => exact ⟨hw.1.below (hst.low (by simp; omega)), hst.own (by decide) hw.2⟩
    | 9, _, _, _ => exact trivial
    | k + 10, h, _, _ => exact absurd h (by omega)
  · intro ac w hF hI hall
    obtain ⟨⟨⟩, -, hs9, hw9⟩ := hall 9 (by omega)
    have g9 : (Sv ac 9 (.int .i64 9)) := hs9 _ (List.Mem.head _)
    exact fin ac w hF hI g9
noncomputable def lo6_l : List Oper := (Try.f3.body.bind (regIn · 6)).getD []
theorem lo6_o0 : lo6_l[0]?.map (fun o => (o.dst, o.op, o.guard)) = some (some 46, .move (.tmp 11), none) := by kernel_rfl
theorem lo6_o1 : lo6_l[1]?.map (fun o => (o.dst, o.op, o.guard)) = some (some 47, .binOp .eql 29 (.tmp 46) (.const (.int .i64 0)) 29, none) := by kernel_rfl
theorem lo6_o2 : lo6_l[2]?.map (fun o => (o.dst, o.op, o.guard)) = some (some 48, .move (.tmp 47), none) := by kernel_rfl
theorem lo6_o3 : lo6_l[3]?.map (fun o => (o.dst, o.op, o.guard)) = some (some 49, .fieldAddr 27 (.tmp 8) 2, some (2, true)) := by kernel_rfl
theorem lo6_o4 : lo6_l[4]?.map (fun o => (o.dst, o.op, o.guard)) = some (some 50, .load 3 (.tmp 49), some (2, true)) := by kernel_rfl
theorem lo6_o5 : lo6_l[5]?.map (fun o => (o.dst, o.op, o.guard)) = some (some 51, .binOp .eql 3 (.tmp 50) (.const (.int .i64 3)) 3, some (2, true)) := by kernel_rfl
theorem lo6_o6 : lo6_l[6]?.map (fun o => (o.dst, o.op, o.guard)) = some (some 52, .pick (.tmp 48) (.tmp 51) (.const (.bool false)), none) := by kernel_rfl
theorem lo6_o7 : lo6_l[7]?.map (fun o => (o.dst, o.op, o.guard)) = some (some 53, .move (.tmp 52), none) := by kernel_rfl
theorem lo6_o8 : lo6_l[8]?.map (fun o => (o.dst, o.op, o.guard)) = some (some 54, .fieldAddr 27 (.tmp 8) 4, some (7, true)) := by kernel_rfl
theorem lo6_o9 : lo6_l[9]?.map (fun o => (o.dst, o.op, o.guard)) = some (some 55, .load 3 (.tmp 54), some (7, true)) := by kernel_rfl
theorem lo6_o10 : lo6_l[10]?.map (fun o => (o.dst, o.op, o.guard)) = some (some 56, .move (.tmp 2), some (7, true)) := by kernel_rfl
theorem lo6_o11 : lo6_l[11]?.map (fun o => (o.dst, o.op, o.guard)) = some (some 57, .call { callee := .value (.func 10), args := #[(.tmp 56), (.const (.int .i64 256))], argTypes := #[3, 3] }, some (7, true)) := by kernel_rfl
theorem lo6_o12 : lo6_l[12]?.map (fun o => (o.dst, o.op, o.guard)) = some (some 58, .binOp .eql 3 (.tmp 55) (.tmp 57) 3, some (7, true)) := by kernel_rfl
theorem lo6_o13 : lo6_l[13]?.map (fun o => (o.dst, o.op, o.guard)) = some (some 59, .pick (.tmp 53) (.tmp 58) (.const (.bool false)), none) := by kernel_rfl
theorem lo6_o14 : lo6_l[14]?.map (fun o => (o.dst, o.op, o.guard)) = some (some 60, .move (.tmp 59), none) := by kernel_rfl
theorem lo6_o15 : lo6_l[15]?.map (fun o => (o.dst, o.op, o.guard)) = some (some 61, .load 27 (.tmp 10), some (14, true)) := by kernel_rfl
theorem lo6_o16 : lo6_l[16]?.map (fun o => (o.dst, o.op, o.guard)) = some (some 62, .load 27 (.tmp 7), some (14, true)) := by kernel_rfl
theorem lo6_o17 : lo6_l[17]?.map (fun o => (o.dst, o.op, o.guard)) = some (some 63, .call { callee := .value (.func 13), args := #[(.tmp 61), (.tmp 62)], argTypes := #[27, 27] }, some (14, true)) := by kernel_rfl
theorem lo6_o18 : lo6_l[18]?.map (fun o => (o.dst, o.op, o.guard)) = some (some 64, .pick (.tmp 60) (.tmp 63) (.const (.bool false)), none) := by kernel_rfl
theorem lo6_o19 : lo6_l[19]?.map (fun o => (o.dst, o.op, o.guard)) = some (some 65, .move (.tmp 64), none) := by kernel_rfl
theorem lo6_o20 : lo6_l[20]?.map (fun o => (o.dst, o.op, o.guard)) = some (some 66, .call { callee := .value (.func 11), args := #[], argTypes := #[] }, some (19, true)) := by kernel_rfl
theorem lo6_o21 : lo6_l[21]?.map (fun o => (o.dst, o.op, o.guard)) = some (some 67, .pick (.tmp 65) (.tmp 66) (.const (.bool false)), none) := by kernel_rfl
theorem lo6_o22 : lo6_l[22]?.map (fun o => (o.dst, o.op, o.guard)) = some (some 6, .assign (.tmp 67), none) := by kernel_rfl
def lo6_sp (tk kind proc a b val st : Int) (A AL : Option Addr) (c cL : Nat) (A8 : Option Addr) (c8 : Nat) (xs : List Int) (sl slot : Int) (B7 B8 B10 : Nat) (W : World) : Nat → Spec
  | 0 => ⟨Unit, [46], fun _ => [(46, .int .i64 0)], fun _ _ => True⟩
  | 1 => ⟨Unit, [47], fun _ => [(47, .bool true)], fun _ _ => True⟩
  | 2 => ⟨Unit, [48], fun _ => [(48, .bool true)], fun _ _ => True⟩
  | 3 => ⟨Unit, [49], fun _ => [(49, .pointer (some ⟨B8, 6, none⟩))], fun _ _ => True⟩
  | 4 => ⟨Unit, [50], fun _ => [(50, .int .i64 3)], fun _ _ => True⟩
  | 5 => ⟨Unit, [51], fun _ => [(51, .bool true)], fun _ _ => True⟩
  | 6 => ⟨Unit, [52], fun _ => [(52, .bool true)], fun _ _ => True⟩
  | 7 => ⟨Unit, [53], fun _ => [(53, .bool true)], fun _ _ => True⟩
  | 8 => ⟨Unit, [54], fun _ => [(54, .pointer (some ⟨B8, 8, none⟩))], fun _ _ => True⟩
  | 9 => ⟨Unit, [55], fun _ => [(55, .int .i64 sl)], fun _ _ => True⟩
  | 10 => ⟨Unit, [56], fun _ => [(56, .int .i64 slot)], fun _ _ => True⟩
  | 11 => ⟨Unit, [57], fun _ => [(57, .int .i64 sl)], fun _ _ => True⟩
  | 12 => ⟨Unit, [58], fun _ => [(58, .bool true)], fun _ _ => True⟩
  | 13 => ⟨Unit, [59], fun _ => [(59, .bool true)], fun _ _ => True⟩
  | 14 => ⟨Unit, [60], fun _ => [(60, .bool true)], fun _ _ => True⟩
  | 15 => ⟨Unit, [61], fun _ => [(61, .agg #[.int .u64 tk, .int .i64 kind, .int .i64 proc, .int .i64 a, .int .i64 b, .int .u64 val, .int .i64 st, .slice AL xs.length cL, .int .i64 0])], fun _ _ => True⟩
  | 16 => ⟨Unit, [62], fun _ => [(62, .agg #[.int .u64 tk, .int .i64 kind, .int .i64 proc, .int .i64 a, .int .i64 b, .int .u64 val, .int .i64 st, .slice A xs.length c, .int .i64 0])], fun _ _ => True⟩
  | 17 => ⟨Unit, [63], fun _ => [(63, .bool true)], fun _ _ => True⟩
  | 18 => ⟨Unit, [64], fun _ => [(64, .bool true)], fun _ _ => True⟩
  | 19 => ⟨Unit, [65], fun _ => [(65, .bool true)], fun _ _ => True⟩
  | 20 => ⟨Unit, [66], fun _ => [(66, .bool true)], fun _ _ => True⟩
  | 21 => ⟨Unit, [67], fun _ => [(67, .bool true)], fun _ _ => True⟩
  | 22 => ⟨Unit, [6], fun _ => [(6, .bool true)], fun _ _ => True⟩
  | _ => ⟨Unit, [], fun _ => [], fun _ _ => True⟩
theorem lo6_fb (tk kind proc a b val st : Int) (A AL : Option Addr) (c cL : Nat) (A8 : Option Addr) (c8 : Nat) (xs : List Int) (sl slot : Int) (B7 B8 B10 : Nat) (W : World) : slB lo6_l (fun j => (lo6_sp tk kind proc a b val st A AL c cL A8 c8 xs sl slot B7 B8 B10 W j).ss) = true := by kernel_rfl
set_option maxHeartbeats 2000000 in
theorem lo6 {Q : Exit → Act → World → Prop} {a0 : Act} {W : World} (tk kind proc a b val st : Int) (A AL : Option Addr) (c cL : Nat) (A8 : Option Addr) (c8 : Nat) (xs : List Int) (sl slot : Int) (B7 B8 B10 : Nat)  (z0 : a0.tmps.size = 68) (p2 : Sv a0 2 (.int .i64 slot)) (p7 : Sv a0 7 (.pointer (some ⟨B7, 0, none⟩))) (p8 : Sv a0 8 (.pointer (some ⟨B8, 0, none⟩))) (p10 : Sv a0 10 (.pointer (some ⟨B10, 0, none⟩))) (p11 : Sv a0 11 (.int .i64 0)) (hx : Bx W B7 27 #[.int .u64 tk, .int .i64 kind, .int .i64 proc, .int .i64 a, .int .i64 b, .int .u64 val, .int .i64 st, .slice A xs.length c, .int .i64 0]) (hb8 : Bx W B8 27 #[.int .u64 tk, .int .i64 kind, .int .i64 proc, .int .i64 a, .int .i64 b, .int .u64 val, .int .i64 3, .slice A8 xs.length c8, .int .i64 sl]) (hbL : Bx W B10 27 #[.int .u64 tk, .int .i64 kind, .int .i64 proc, .int .i64 a, .int .i64 b, .int .u64 val, .int .i64 st, .slice AL xs.length cL, .int .i64 0]) (hg : GI W A c xs) (hgL : GI W AL cL xs) (Hsl : Hid (slot % 256 = sl))
    (fin : ∀ ac w, Fr a0 lo6_l ac → Below W.heap.size W w → (Sv ac 6 (.bool true)) → Q .normal ac w) : (Code.region 6 lo6_l.toArray true).wp Try.prog Q a0 W := by
  refine region_of (n := 23) (by kernel_rfl) (by kernel_rfl) (by kernel_rfl) (lo6_sp tk kind proc a b val st A AL c cL A8 c8 xs sl slot B7 B8 B10 W) (lo6_fb tk kind proc a b val st A AL c cL A8 c8 xs sl slot B7 B8 B10 W) (fun w => Below W.heap.size W w) (stpN 27 []) (bel0 W) ?_ ?_ ?_
  · intro i hi ac w hF hI hk
    have z := hF.1.trans z0
    have f2 := hF.sv (s := 2) (by kernel_rfl) p2
    have f7 := hF.sv (s := 7) (by kernel_rfl) p7
    have f8 := hF.sv (s := 8) (by kernel_rfl) p8
    have f10 := hF.sv (s := 10) (by kernel_rfl) p10
    have f11 := hF.sv (s := 11) (by kernel_rfl) p11
    match i, hi with
    | 0, _ =>
      exact ob_val (v := .int .i64 0) lo6_o0 (.inl rfl) (ev_move f11.eval) ⟨⟨_, rfl⟩, hI, Below.refl _ _, ⟨(), rfl, sv1 (Sv.dst (by kernel_rfl) (by rw [z]; decide) _), trivial⟩⟩
    | 1, _ =>
      obtain ⟨⟨⟩, -, hs0, hw0⟩ := hk 0 (mem_reach (by kernel_rfl))
      have f46 : Sv ac 46 (.int .i64 0) := hs0 _ (List.Mem.head _)
      exact ob_val (v := .bool true) lo6_o1 (.inl rfl) (fun o ho => by have e0 := f46.eval; have e1 : ac.eval (.const (.int .i64 0)) = .int .i64 0 := rfl; generalize ac.eval = ρ at *; simp [execOp, ho, e0, e1, go_sem]) ⟨⟨_, rfl⟩, hI, Below.refl _ _, ⟨(), rfl, sv1 (Sv.dst (by kernel_rfl) (by rw [z]; decide) _), trivial⟩⟩
    | 2, _ =>
      obtain ⟨⟨⟩, -, hs1, hw1⟩ := hk 1 (mem_reach (by kernel_rfl))
      have f47 : Sv ac 47 (.bool true) := hs1 _ (List.Mem.head _)
      exact ob_val (v := .bool true) lo6_o2 (.inl rfl) (ev_move f47.eval) ⟨⟨_, rfl⟩, hI, Below.refl _ _, ⟨(), rfl, sv1 (Sv.dst (by kernel_rfl) (by rw [z]; decide) _), trivial⟩⟩
    | 3, _ =>
      obtain ⟨⟨⟩, -, hs2, hw2⟩ := hk 2 (mem_reach (by kernel_rfl))
      have f48 : Sv ac 48 (.bool true) := hs2 _ (List.Mem.head _)
      exact ob_val (v := .pointer (some ⟨B8, 6, none⟩)) lo6_o3 (.inr ⟨2, true, 48, rfl, by kernel_rfl, f48⟩) (fun o ho => by have e1 := f8.eval; generalize ac.eval = ρ at *; simp [execOp, ho, e1, go_sem]) ⟨⟨_, rfl⟩, hI, Below.refl _ _, ⟨(), rfl, sv1 (Sv.dst (by kernel_rfl) (by rw [z]; decide) _), trivial⟩⟩
    | 4, _ =>
      obtain ⟨⟨⟩, -, hs3, hw3⟩ := hk 3 (mem_reach (by kernel_rfl))
      have f49 : Sv ac 49 (.pointer (some ⟨B8, 6, none⟩)) := hs3 _ (List.Mem.head _)
      obtain ⟨⟨⟩, -, hs2, hw2⟩ := hk 2 (mem_reach (by kernel_rfl))
      have f48 : Sv ac 48 (.bool true) := hs2 _ (List.Mem.head _)
      exact ob_val (v := .int .i64 3) lo6_o4 (.inr ⟨2, true, 48, rfl, by kernel_rfl, f48⟩) (fun o ho => by have e1 := f49.eval; have hc : w.cell? ⟨B8, 6, none⟩ = some (.int .i64 3) := (hb8.below hI).cell 6; generalize ac.eval = ρ at *; simp [execOp, ho, e1, hc, go_sem]) ⟨⟨_, rfl⟩, hI, Below.refl _ _, ⟨(), rfl, sv1 (Sv.dst (by kernel_rfl) (by rw [z]; decide) _), trivial⟩⟩
    | 5, _ =>
      obtain ⟨⟨⟩, -, hs4, hw4⟩ := hk 4 (mem_reach (by kernel_rfl))
      have f50 : Sv ac 50 (.int .i64 3) := hs4 _ (List.Mem.head _)
      obtain ⟨⟨⟩, -, hs2, hw2⟩ := hk 2 (mem_reach (by kernel_rfl))
      have f48 : Sv ac 48 (.bool true) := hs2 _ (List.Mem.head _)
      exact ob_val (v := .bool true) lo6_o5 (.inr ⟨2, true, 48, rfl, by kernel_rfl, f48⟩) (fun o ho => by have e0 := f50.eval; have e1 : ac.eval (.const (.int .i64 3)) = .int .i64 3 := rfl; generalize ac.eval = ρ at *; simp [execOp, ho, e0, e1, go_sem]) ⟨⟨_, rfl⟩, hI, Below.refl _ _, ⟨(), rfl, sv1 (Sv.dst (by kernel_rfl) (by rw [z]; decide) _), trivial⟩⟩
    | 6, _ =>
      obtain ⟨⟨⟩, -, hs2, hw2⟩ := hk 2 (mem_reach (by kernel_rfl))
      have f48 : Sv ac 48 (.bool true) := hs2 _ (List.Mem.head _)
      obtain ⟨⟨⟩, -, hs5, hw5⟩ := hk 5 (mem_reach (by kernel_rfl))
      have f51 : Sv ac 51 (.bool true) := hs5 _ (List.Mem.head _)
      exact ob_val (v := .bool true) lo6_o6 (.inl rfl) (fun o ho => ev_pickT f48.eval f51.eval o ho) ⟨⟨_, rfl⟩, hI, Below.refl _ _, ⟨(), rfl, sv1 (Sv.dst (by kernel_rfl) (by rw [z]; decide) _), trivial⟩⟩
    | 7, _ =>
      obtain ⟨⟨⟩, -, hs6, hw6⟩ := hk 6 (mem_reach (by kernel_rfl))
      have f52 : Sv ac 52 (.bool true) := hs6 _ (List.Mem.head _)
      exact ob_val (v := .bool true) lo6_o7 (.inl rfl) (ev_move f52.eval) ⟨⟨_, rfl⟩, hI, Below.refl _ _, ⟨(), rfl, sv1 (Sv.dst (by kernel_rfl) (by rw [z]; decide) _), trivial⟩⟩
    | 8, _ =>
      obtain ⟨⟨⟩, -, hs7, hw7⟩ := hk 7 (mem_reach (by kernel_rfl))
      have f53 : Sv ac 53 (.bool true) := hs7 _ (List.Mem.head _)
      exact ob_val (v := .pointer (some ⟨B8, 8, none⟩)) lo6_o8 (.inr ⟨7, true, 53, rfl, by kernel_rfl, f53⟩) (fun o ho => by have e1 := f8.eval; generalize ac.eval = ρ at *; simp [execOp, ho, e1, go_sem]) ⟨⟨_, rfl⟩, hI, Below.refl _ _, ⟨(), rfl, sv1 (Sv.dst (by kernel_rfl) (by rw [z]; decide) _), trivial⟩⟩
    | 9, _ =>
      obtain ⟨⟨⟩, -, hs8, hw8⟩ := hk 8 (mem_reach (by kernel_rfl))
      have f54 : Sv ac 54 (.pointer (some ⟨B8, 8, none⟩)) := hs8 _ (List.Mem.head _)
      obtain ⟨⟨⟩, -, hs7, hw7⟩ := hk 7 (mem_reach (by kernel_rfl))
      have f53 : Sv ac 53 (.bool true) := hs7 _ (List.Mem.head _)
      exact ob_val (v := .int .i64 sl) lo6_o9 (.inr ⟨7, true, 53, rfl, by kernel_rfl, f53⟩) (fun o ho => by have e1 := f54.eval; have hc : w.cell? ⟨B8, 8, none⟩ = some (.int .i64 sl) := (hb8.below hI).cell 8; generalize ac.eval = ρ at *; simp [execOp, ho, e1, hc, go_sem]) ⟨⟨_, rfl⟩, hI, Below.refl _ _, ⟨(), rfl, sv1 (Sv.dst (by kernel_rfl) (by rw [z]; decide) _), trivial⟩⟩
    | 10, _ =>
      obtain ⟨⟨⟩, -, hs7, hw7⟩ := hk 7 (mem_reach (by kernel_rfl))
      have f53 : Sv ac 53 (.bool true) := hs7 _ (List.Mem.head _)
      exact ob_val (v := .int .i64 slot) lo6_o10 (.inr ⟨7, true, 53, rfl, by kernel_rfl, f53⟩) (ev_move f2.eval) ⟨⟨_, rfl⟩, hI, Below.refl _ _, ⟨(), rfl, sv1 (Sv.dst (by kernel_rfl) (by rw [z]; decide) _), trivial⟩⟩
    | 11, _ =>
      obtain ⟨⟨⟩, -, hs10, hw10⟩ := hk 10 (mem_reach (by kernel_rfl))
      have f56 : Sv ac 56 (.int .i64 slot) := hs10 _ (List.Mem.head _)
      obtain ⟨⟨⟩, -, hs7, hw7⟩ := hk 7 (mem_reach (by kernel_rfl))
      have f53 : Sv ac 53 (.bool true) := hs7 _ (List.Mem.head _)
      refine ob_call (f := 10) (args := #[.int .i64 slot, .int .i64 256]) (w' := w) (R := fun v w'' => v = .int .i64 sl ∧ True ∧ Below w.heap.size w w'') lo6_o11 (.inr ⟨7, true, 53, rfl, by kernel_rfl, f53⟩) (fun o ho => ?_) ((mod_any slot 256 (by omega) (by omega) w).mono ?_) ?_
      · have e : execOp ac.eval o = (do let d ← resolve ac.eval { callee := .value (.func 10), args := #[(.tmp 56), (.const (.int .i64 256))], argTypes := #[3, 3] } o.type; invoke d.target d.args) := by simp only [execOp, ho]
        have e56 := f56.eval
        have ef : ac.eval (.func 10) = .func (.func 10) #[] #[] := rfl
        have ec : ac.eval (.const (.int .i64 256)) = .int .i64 256 := rfl
        rw [e]
        generalize ac.eval = ρ at *
        simp [ef, e56, ec, go_sem]
      · rintro e w' ⟨rfl, rfl⟩; exact ⟨_, rfl, by rw [Hsl.out], trivial, Below.refl _ _⟩
      · rintro v w2 ⟨rfl, hwd, hb⟩
        exact ⟨⟨_, rfl⟩, below_step hI hb, hb, ⟨(), rfl, sv1 (Sv.dst (by kernel_rfl) (by rw [z]; decide) _), hwd⟩⟩
    | 12, _ =>
      obtain ⟨⟨⟩, -, hs9, hw9⟩ := hk 9 (mem_reach (by kernel_rfl))
      have f55 : Sv ac 55 (.int .i64 sl) := hs9 _ (List.Mem.head _)
      obtain ⟨⟨⟩, -, hs11, hw11⟩ := hk 11 (mem_reach (by kernel_rfl))
      have f57 : Sv ac 57 (.int .i64 sl) := hs11 _ (List.Mem.head _)
      obtain ⟨⟨⟩, -, hs7, hw7⟩ := hk 7 (mem_reach (by kernel_rfl))
      have f53 : Sv ac 53 (.bool true) := hs7 _ (List.Mem.head _)
      exact ob_val (v := .bool true) lo6_o12 (.inr ⟨7, true, 53, rfl, by kernel_rfl, f53⟩) (fun o ho => by have e0 := f55.eval; have e1 := f57.eval; generalize ac.eval = ρ at *; simp [execOp, ho, e0, e1, go_sem]) ⟨⟨_, rfl⟩, hI, Below.refl _ _, ⟨(), rfl, sv1 (Sv.dst (by kernel_rfl) (by rw [z]; decide) _), trivial⟩⟩
    | 13, _ =>
      obtain ⟨⟨⟩, -, hs7, hw7⟩ := hk 7 (mem_reach (by kernel_rfl))
      have f53 : Sv ac 53 (.bool true) := hs7 _ (List.Mem.head _)
      obtain ⟨⟨⟩, -, hs12, hw12⟩ := hk 12 (mem_reach (by kernel_rfl))
      have f58 : Sv ac 58 (.bool true) := hs12 _ (List.Mem.head _)
      exact ob_val (v := .bool true) lo6_o13 (.inl rfl) (fun o ho => ev_pickT f53.eval f58.eval o ho) ⟨⟨_, rfl⟩, hI, Below.refl _ _, ⟨(), rfl, sv1 (Sv.dst (by kernel_rfl) (by rw [z]; decide) _), trivial⟩⟩
    | 14, _ =>
      obtain ⟨⟨⟩, -, hs13, hw13⟩ := hk 13 (mem_reach (by kernel_rfl))
      have f59 : Sv ac 59 (.bool true) := hs13 _ (List.Mem.head _)
      exact ob_val (v := .bool true) lo6_o14 (.inl rfl) (ev_move f59.eval) ⟨⟨_, rfl⟩, hI, Below.refl _ _, ⟨(), rfl, sv1 (Sv.dst (by kernel_rfl) (by rw [z]; decide) _), trivial⟩⟩
    | 15, _ =>
      obtain ⟨⟨⟩, -, hs14, hw14⟩ := hk 14 (mem_reach (by kernel_rfl))
      have f60 : Sv ac 60 (.bool true) := hs14 _ (List.Mem.head _)
      exact ob_val (v := .agg #[.int .u64 tk, .int .i64 kind, .int .i64 proc, .int .i64 a, .int .i64 b, .int .u64 val, .int .i64 st, .slice AL xs.length cL, .int .i64 0]) lo6_o15 (.inr ⟨14, true, 60, rfl, by kernel_rfl, f60⟩) (ev_row f10.eval (hbL.below hI) Try.underlying27 rfl (n := 9) (by kernel_rfl) rfl) ⟨⟨_, rfl⟩, hI, Below.refl _ _, ⟨(), rfl, sv1 (Sv.dst (by kernel_rfl) (by rw [z]; decide) _), trivial⟩⟩
    | 16, _ =>
      obtain ⟨⟨⟩, -, hs14, hw14⟩ := hk 14 (mem_reach (by kernel_rfl))
      have f60 : Sv ac 60 (.bool true) := hs14 _ (List.Mem.head _)
      exact ob_val (v := .agg #[.int .u64 tk, .int .i64 kind, .int .i64 proc, .int .i64 a, .int .i64 b, .int .u64 val, .int .i64 st, .slice A xs.length c, .int .i64 0]) lo6_o16 (.inr ⟨14, true, 60, rfl, by kernel_rfl, f60⟩) (ev_row f7.eval (hx.below hI) Try.underlying27 rfl (n := 9) (by kernel_rfl) rfl) ⟨⟨_, rfl⟩, hI, Below.refl _ _, ⟨(), rfl, sv1 (Sv.dst (by kernel_rfl) (by rw [z]; decide) _), trivial⟩⟩
    | 17, _ =>
      obtain ⟨⟨⟩, -, hs15, hw15⟩ := hk 15 (mem_reach (by kernel_rfl))
      have f61 : Sv ac 61 (.agg #[.int .u64 tk, .int .i64 kind, .int .i64 proc, .int .i64 a, .int .i64 b, .int .u64 val, .int .i64 st, .slice AL xs.length cL, .int .i64 0]) := hs15 _ (List.Mem.head _)
      obtain ⟨⟨⟩, -, hs16, hw16⟩ := hk 16 (mem_reach (by kernel_rfl))
      have f62 : Sv ac 62 (.agg #[.int .u64 tk, .int .i64 kind, .int .i64 proc, .int .i64 a, .int .i64 b, .int .u64 val, .int .i64 st, .slice A xs.length c, .int .i64 0]) := hs16 _ (List.Mem.head _)
      obtain ⟨⟨⟩, -, hs14, hw14⟩ := hk 14 (mem_reach (by kernel_rfl))
      have f60 : Sv ac 60 (.bool true) := hs14 _ (List.Mem.head _)
      refine ob_call (f := 13) (args := #[.agg #[.int .u64 tk, .int .i64 kind, .int .i64 proc, .int .i64 a, .int .i64 b, .int .u64 val, .int .i64 st, .slice AL xs.length cL, .int .i64 0], .agg #[.int .u64 tk, .int .i64 kind, .int .i64 proc, .int .i64 a, .int .i64 b, .int .u64 val, .int .i64 st, .slice A xs.length c, .int .i64 0]]) (w' := w) (R := fun v w'' => v = .bool true ∧ True ∧ Below w.heap.size w w'') lo6_o17 (.inr ⟨14, true, 60, rfl, by kernel_rfl, f60⟩) (fun o ho => ?_) ((SameRequest_yes tk kind proc a b val st AL cL xs 0 A c w (hgL.below hI) (hg.below hI)).mono ?_) ?_
      · have e : execOp ac.eval o = (do let d ← resolve ac.eval { callee := .value (.func 13), args := #[(.tmp 61), (.tmp 62)], argTypes := #[27, 27] } o.type; invoke d.target d.args) := by simp only [execOp, ho]
        have e61 := f61.eval
        have e62 := f62.eval
        have ef : ac.eval (.func 13) = .func (.func 13) #[] #[] := rfl
        rw [e]
        generalize ac.eval = ρ at *
        simp [ef, e61, e62, go_sem]
      · rintro e w' ⟨rfl, hb⟩; exact ⟨_, rfl, rfl, trivial, hb⟩
      · rintro v w2 ⟨rfl, hwd, hb⟩
        exact ⟨⟨_, rfl⟩, below_step hI hb, hb, ⟨(), rfl, sv1 (Sv.dst (by kernel_rfl) (by rw [z]; decide) _), hwd⟩⟩
    | 18, _ =>
      obtain ⟨⟨⟩, -, hs14, hw14⟩ := hk 14 (mem_reach (by kernel_rfl))
      have f60 : Sv ac 60 (.bool true) := hs14 _ (List.Mem.head _)
      obtain ⟨⟨⟩, -, hs17, hw17⟩ := hk 17 (mem_reach (by kernel_rfl))
      have f63 : Sv ac 63 (.bool true) := hs17 _ (List.Mem.head _)
      exact ob_val (v := .bool true) lo6_o18 (.inl rfl) (fun o ho => ev_pickT f60.eval f63.eval o ho) ⟨⟨_, rfl⟩, hI, Below.refl _ _, ⟨(), rfl, sv1 (Sv.dst (by kernel_rfl) (by rw [z]; decide) _), trivial⟩⟩
    | 19, _ =>
      obtain ⟨⟨⟩, -, hs18, hw18⟩ := hk 18 (mem_reach (by kernel_rfl))
      have f64 : Sv ac 64 (.bool true) := hs18 _ (List.Mem.head _)
      exact ob_val (v := .bool true) lo6_o19 (.inl rfl) (ev_move f64.eval) ⟨⟨_, rfl⟩, hI, Below.refl _ _, ⟨(), rfl, sv1 (Sv.dst (by kernel_rfl) (by rw [z]; decide) _), trivial⟩⟩
    | 20, _ =>
      obtain ⟨⟨⟩, -, hs19, hw19⟩ := hk 19 (mem_reach (by kernel_rfl))
      have f65 : Sv ac 65 (.bool true) := hs19 _ (List.Mem.head _)
      refine ob_call (f := 11) (args := #[]) (w' := w) (R := fun v w'' => v = .bool true ∧ True ∧ Below w.heap.size w w'') lo6_o20 (.inr ⟨19, true, 65, rfl, by kernel_rfl, f65⟩) (fun o ho => ?_) ((awake_any w).mono ?_) ?_
      · have e : execOp ac.eval o = (do let d ← resolve ac.eval { callee := .value (.func 11), args := #[], argTypes := #[] } o.type; invoke d.target d.args) := by simp only [execOp, ho]
        have ef : ac.eval (.func 11) = .func (.func 11) #[] #[] := rfl
        rw [e]
        generalize ac.eval = ρ at *
        simp [ef, go_sem]
      · rintro e w' ⟨rfl, hb⟩; exact ⟨_, rfl, rfl, trivial, hb⟩
      · rintro v w2 ⟨rfl, hwd, hb⟩
        exact ⟨⟨_, rfl⟩, below_step hI hb, hb, ⟨(), rfl, sv1 (Sv.dst (by kernel_rfl) (by rw [z]; decide) _), hwd⟩⟩
    | 21, _ =>
      obtain ⟨⟨⟩, -, hs19, hw19⟩ := hk 19 (mem_reach (by kernel_rfl))
      have f65 : Sv ac 65 (.bool true) := hs19 _ (List.Mem.head _)
      obtain ⟨⟨⟩, -, hs20, hw20⟩ := hk 20 (mem_reach (by kernel_rfl))
      have f66 : Sv ac 66 (.bool true) := hs20 _ (List.Mem.head _)
      exact ob_val (v := .bool true) lo6_o21 (.inl rfl) (fun o ho => ev_pickT f65.eval f66.eval o ho) ⟨⟨_, rfl⟩, hI, Below.refl _ _, ⟨(), rfl, sv1 (Sv.dst (by kernel_rfl) (by rw [z]; decide) _), trivial⟩⟩
    | 22, _ =>
      obtain ⟨⟨⟩, -, hs21, hw21⟩ := hk 21 (mem_reach (by kernel_rfl))
      have f67 : Sv ac 67 (.bool true) := hs21 _ (List.Mem.head _)
      exact ob_val (v := .bool true) lo6_o22 (.inl rfl) (ev_assign f67.eval) ⟨⟨_, rfl⟩, hI, Below.refl _ _, ⟨(), rfl, sv1 (Sv.dst (by kernel_rfl) (by rw [z]; decide) _), trivial⟩⟩
    | k + 23, h => exact absurd h (by omega)
  · intro i j hi hj hij x w w' hI hst hw
    match j, hj, x, hw with
    | 0, _, _, _ => exact trivial
    | 1, _, _, _ => exact trivial
    | 2, _, _, _ => exact trivial
    | 3, _, _, _ => exact trivial
    | 4, _, _, _ => exact trivial
    | 5, _, _, _ => exact trivial
    | 6, _, _, _ => exact trivial
    | 7, _, _, _ => exact trivial
    | 8, _, _, _ => exact trivial
    | 9, _, _, _ => exact trivial
    | 10, _, _, _ => exact trivial
    | 11, _, _, _ => exact trivial
    | 12, _, _, _ => exact trivial
    | 13, _, _, _ => exact trivial
    | 14, _, _, _ => exact trivial
    | 15, _, _, _ => exact trivial
    | 16, _, _, _ => exact trivial
    | 17, _, _, _ => exact trivial
    | 18, _, _, _ => exact trivial
    | 19, _, _, _ => exact trivial
    | 20, _, _, _ => exact trivial
    | 21, _, _, _ => exact trivial
    | 22, _, _, _ => exact trivial
    | k + 23, h, _, _ => exact absurd h (by omega)
  · intro ac w hF hI hall
    obtain ⟨⟨⟩, -, hs22, hw22⟩ := hall 22 (by omega)
    have g22 : (Sv ac 6 (.bool true)) := hs22 _ (List.Mem.head _)
    exact fin ac w hF hI g22

set_option maxRecDepth 100000 in
set_option maxHeartbeats 4000000 in
theorem FaultLoses_walk (n fs slot : Int) (w : World) : Calls Try.prog 3 #[.int .i64 n, .int .i64 fs, .int .i64 slot] w (RetB w (.returned (.bool true))) := by
  obtain ⟨sl, hsl⟩ : ∃ sl, slot % 256 = sl := ⟨_, rfl⟩
  have hs0 : 0 ≤ sl := by omega
  have hs1 : sl < 256 := by omega
  have Hsl := Lib.hid hsl
  clear hsl
  go_enter Try.func3, Try.ntmps3
  go_wp2_with fail
  refine (made_f n fs w).mono ?_
  rintro e w1 ⟨tk, kind, proc, a, b, val, xs, st, A, c, rfl, hown, hb1, hM⟩
  have hn := Bx.new w1 27 #[.int .u64 0, .int .i64 0, .int .i64 0, .int .i64 0, .int .i64 0, .int .u64 0, .int .i64 0, .slice none 0 0, .int .i64 0]
  have hx := Bx.new w1 27 #[.int .u64 tk, .int .i64 kind, .int .i64 proc, .int .i64 a, .int .i64 b, .int .u64 val, .int .i64 st, .slice A xs.length c, .int .i64 0]
  have hg := hown.gi.alloc (.cells #[.int .u64 tk, .int .i64 kind, .int .i64 proc, .int .i64 a, .int .i64 b, .int .u64 val, .int .i64 st, .slice A xs.length c, .int .i64 0] 27)
  have hw := below_step hb1 (al w1 (.cells #[.int .u64 tk, .int .i64 kind, .int .i64 proc, .int .i64 a, .int .i64 b, .int .u64 val, .int .i64 st, .slice A xs.length c, .int .i64 0] 27))
  have hl9 := hM.l9
  clear hown hb1
  go_upto_region 2 with ((refine wpList_store_row rfl 27 _ _ rfl w1.heap.size _ rfl rfl 27 _ hn req_size rfl (by simp [Value.oneCell']) ?_; rw [World.setRow_alloc_new]; simp only [Act.put]))
  clear hn
  generalize hW : w1.alloc (.cells #[.int .u64 tk, .int .i64 kind, .int .i64 proc, .int .i64 a, .int .i64 b, .int .u64 val, .int .i64 st, .slice A xs.length c, .int .i64 0] 27) = W1 at *
  generalize w1.heap.size = B7 at *
  clear hW
  have hlt := hx.lt
  have q0 : W1.cell? ⟨B7, 0, none⟩ = some (.int .u64 tk) := hx.cell 0
  have q1 : W1.cell? ⟨B7, 1, none⟩ = some (.int .i64 kind) := hx.cell 1
  have q2 : W1.cell? ⟨B7, 2, none⟩ = some (.int .i64 proc) := hx.cell 2
  have q3 : W1.cell? ⟨B7, 3, none⟩ = some (.int .i64 a) := hx.cell 3
  have q4 : W1.cell? ⟨B7, 4, none⟩ = some (.int .i64 b) := hx.cell 4
  have q5 : W1.cell? ⟨B7, 5, none⟩ = some (.int .u64 val) := hx.cell 5
  have q6 : W1.cell? ⟨B7, 6, none⟩ = some (.int .i64 st) := hx.cell 6
  have q7 : W1.cell? ⟨B7, 7, none⟩ = some (.slice A xs.length c) := hx.cell 7
  have q8 : W1.cell? ⟨B7, 8, none⟩ = some (.int .i64 0) := hx.cell 8
  rename_i K hK
  cases hac : accB kind
  · have hwe : waitE tk kind proc a b val st xs 0 sl 3 = 9 := by
      unfold waitE
      rw [if_neg (by simp [hM.ok]), hM.able, hac]
      rfl
    have k4 : (kind != 4) = true := by
      cases h : (kind == 4)
      · simp at h ⊢; exact h
      · unfold accB at hac; rw [h] at hac; cases hac
    have k5 : (kind != 5) = true := by
      cases h : (kind == 5)
      · simp at h ⊢; exact h
      · unfold accB at hac; rw [h] at hac; simp at hac
    clear hac
    refine lo2b (W := W1) tk kind proc a b val st A c xs sl slot B7 rfl rfl rfl hx hg hwe Hsl ?_
    rintro a' w2 hF hb2 f9
    refine hK _ _ ?_
    obtain ⟨fv, hfv, hfr⟩ := hF.lit [16, 17, 18, 19, 15, 20, 21, 8, 9] (dsts_in (by kernel_rfl))
    have ev9 := hfv 9 _ f9
    subst hfr
    simp only [List.foldl_cons, List.foldl_nil, Act.put, List.setIfInBounds_toArray, List.set_cons_zero, List.set_cons_succ, ev9]
    clear hfv hF ev9 f9
    generalize fv 16 = u16
    generalize fv 17 = u17
    generalize fv 18 = u18
    generalize fv 19 = u19
    generalize fv 15 = u15
    generalize fv 20 = u20
    generalize fv 21 = u21
    generalize fv 8 = u8
    clear fv
    clear hK K
    have hx2 := hx.below hb2
    have c1 : w2.cell? ⟨B7, 1, none⟩ = some (.int .i64 kind) := hx2.cell 1
    go_wp2_with (first | (go_at_call 11; refine (awake_any _).mono ?_; rintro e w' ⟨rfl, hb3⟩))
    go_ret
    exact ⟨rfl, below_step (below_step hw hb2) hb3⟩
  · have hf : frB sl = true := by simp [frB]; omega
    have hwe : waitE tk kind proc a b val st xs 0 sl 3 = 0 := by
      unfold waitE
      rw [if_neg (by simp [hM.ok]), hM.able, if_pos hac, if_pos hf]
    have hle : loseE tk kind proc a b val 3 xs sl = 0 := by
      unfold loseE
      rw [hM.ok3 hac sl hs0 hs1]
      rfl
    have hst := hM.st_
    clear hac hf hM
    refine lo2 (W := W1) tk kind proc a b val st A c xs sl slot B7 rfl rfl rfl hx hg hwe Hsl ?_
    rintro a' w2 hF hb2 ⟨B8, A8, c8, f8, hb8, hown8⟩ f9
    refine hK _ _ ?_
    obtain ⟨fv, hfv, hfr⟩ := hF.lit [16, 17, 18, 19, 15, 20, 21, 8, 9] (dsts_in (by kernel_rfl))
    have ev8 := hfv 8 _ f8
    have ev9 := hfv 9 _ f9
    subst hfr
    simp only [List.foldl_cons, List.foldl_nil, Act.put, List.setIfInBounds_toArray, List.set_cons_zero, List.set_cons_succ, ev8, ev9]
    clear hfv hF ev8 ev9 f8 f9
    generalize fv 16 = u16
    generalize fv 17 = u17
    generalize fv 18 = u18
    generalize fv 19 = u19
    generalize fv 15 = u15
    generalize fv 20 = u20
    generalize fv 21 = u21
    clear fv
    clear hK K
    have hx2 := hx.below hb2
    have hg2 := hg.below hb2
    have hw2 := below_step hw hb2
    clear hx hg hw hb2 q0 q1 q2 q3 q4 q5 q6 q7 q8
    have HL := Lib.hid (Lose_ok tk kind proc a b val 3 A8 c8 xs sl w2 hown8.gi hle)
    rw [← hst] at HL
    have Hst := Lib.hid hst
    clear hst hle hwe
    go_wp2_with (first | (refine wpList_load_row rfl 27 _ rfl B8 rfl 27 _ _ _ hb8 Try.underlying27 rfl req_size ?_))
    refine HL.out.mono ?_
    rintro e w3 ⟨AL, cL, rfl, hownL, hb3⟩
    have hn3 := Bx.new w3 27 #[.int .u64 0, .int .i64 0, .int .i64 0, .int .i64 0, .int .i64 0, .int .u64 0, .int .i64 0, .slice none 0 0, .int .i64 0]
    have hbL := Bx.new w3 27 #[.int .u64 tk, .int .i64 kind, .int .i64 proc, .int .i64 a, .int .i64 b, .int .u64 val, .int .i64 st, .slice AL xs.length cL, .int .i64 0]
    have hx3 := (hx2.below hb3).alloc (.cells #[.int .u64 tk, .int .i64 kind, .int .i64 proc, .int .i64 a, .int .i64 b, .int .u64 val, .int .i64 st, .slice AL xs.length cL, .int .i64 0] 27)
    have hb83 := (hb8.below hb3).alloc (.cells #[.int .u64 tk, .int .i64 kind, .int .i64 proc, .int .i64 a, .int .i64 b, .int .u64 val, .int .i64 st, .slice AL xs.length cL, .int .i64 0] 27)
    have hg3 := (hg2.below hb3).alloc (.cells #[.int .u64 tk, .int .i64 kind, .int .i64 proc, .int .i64 a, .int .i64 b, .int .u64 val, .int .i64 st, .slice AL xs.length cL, .int .i64 0] 27)
    have hgL := hownL.gi.alloc (.cells #[.int .u64 tk, .int .i64 kind, .int .i64 proc, .int .i64 a, .int .i64 b, .int .u64 val, .int .i64 st, .slice AL xs.length cL, .int .i64 0] 27)
    have hw3 := below_step (below_step hw2 hb3) (al w3 (.cells #[.int .u64 tk, .int .i64 kind, .int .i64 proc, .int .i64 a, .int .i64 b, .int .u64 val, .int .i64 st, .slice AL xs.length cL, .int .i64 0] 27))
    go_upto_region 6 with ((refine wpList_store_row rfl 27 _ _ rfl w3.heap.size _ rfl rfl 27 _ hn3 req_size rfl (by simp [Value.oneCell']) ?_; rw [World.setRow_alloc_new]; simp only [Act.put]))
    clear hn3 hx2 hg2 hw2 hownL hb3 hown8 hb8
    generalize hW : w3.alloc (.cells #[.int .u64 tk, .int .i64 kind, .int .i64 proc, .int .i64 a, .int .i64 b, .int .u64 val, .int .i64 st, .slice AL xs.length cL, .int .i64 0] 27) = W3 at *
    generalize w3.heap.size = B10 at *
    clear hW
    rename_i K hK
    refine lo6 (W := W3) tk kind proc a b val st A AL c cL A8 c8 xs sl slot B7 B8 B10 rfl rfl rfl rfl rfl rfl hx3 hb83 hbL hg3 hgL Hsl ?_
    rintro a' w4 hF hb4 f6
    refine hK _ _ ?_
    obtain ⟨fv, hfv, hfr⟩ := hF.lit [46, 47, 48, 49, 50, 51, 52, 53, 54, 55, 56, 57, 58, 59, 60, 61, 62, 63, 64, 65, 66, 67, 6] (dsts_in (by kernel_rfl))
    have ev6 := hfv 6 _ f6
    subst hfr
    simp only [List.foldl_cons, List.foldl_nil, Act.put, List.setIfInBounds_toArray, List.set_cons_zero, List.set_cons_succ, ev6]
    clear hfv hF ev6 f6
    generalize fv 46 = u46
    generalize fv 47 = u47
    generalize fv 48 = u48
    generalize fv 49 = u49
    generalize fv 50 = u50
    generalize fv 51 = u51
    generalize fv 52 = u52
    generalize fv 53 = u53
    generalize fv 54 = u54
    generalize fv 55 = u55
    generalize fv 56 = u56
    generalize fv 57 = u57
    generalize fv 58 = u58
    generalize fv 59 = u59
    generalize fv 60 = u60
    generalize fv 61 = u61
    generalize fv 62 = u62
    generalize fv 63 = u63
    generalize fv 64 = u64
    generalize fv 65 = u65
    generalize fv 66 = u66
    generalize fv 67 = u67
    clear fv
    go_wp2
    go_ret
    exact ⟨rfl, below_step hw3 hb4⟩
end Go.Proofs.Ytbcfnocefjolfaa
