/- Package bitmap, for sets of one word: Clone, Put. -/
import Derived.Test.YtoimmfcodflmkaaDoorTA
import Derived.RegionTactic
namespace Go.Proofs.YtoimmfcodflmkaaDoor
open Go.RowKit
set_option linter.unusedVariables false

theorem u64_info : (Tryd.prog.info? 75).map (fun i => (i.zero, i.size, i.bytes)) = some (some (.int .u64 0), 1, 8) := by kernel_rfl
/-- The slice of one word is the call's own. -/
def OwW (w : World) (base : Nat) (A : Option Addr) (c m : Nat) : Prop := Own w base 75 1 (.slice A 1 c) 1 [.int .u64 (m : Int)]
theorem OwW.at_ {w : World} {base : Nat} {A : Option Addr} {c m : Nat} (h : OwW w base A c m) :
    ∃ g off, A = some ⟨g, off, none⟩ ∧ base ≤ g ∧ g < w.heap.size ∧ w.cell? ⟨g, off, none⟩ = some (.int .u64 (m : Int)) ∧ w.frozen? ⟨g, off, none⟩ = false := by
  obtain ⟨g, off, rfl, h1, h2, hc⟩ := Own.cells h (by omega)
  exact ⟨g, off, rfl, h1, h2, hc 0 _ rfl, Own.frozen h rfl off⟩
theorem OwW.gw {w : World} {base : Nat} {A : Option Addr} {c m : Nat} (h : OwW w base A c m) : GW w A m := by
  obtain ⟨g, off, rfl, h1, h2, hc, -⟩ := h.at_
  exact ⟨_, rfl, h2, hc⟩
theorem OwW.put {w : World} {base g off : Nat} {c m : Nat} (h : OwW w base (some ⟨g, off, none⟩) c m) (m2 : Nat) : OwW (w.setCell ⟨g, off, none⟩ (.int .u64 (m2 : Int))) base (some ⟨g, off, none⟩) c m2 := by
  have := Own.set h (j := 0) (by omega) (.int .u64 (m2 : Int))
  exact this
theorem wNew (w : World) : Own (w.alloc (.cells #[] 75)) w.heap.size 75 1 (.slice (some ⟨w.heap.size, 0, none⟩) 0 0) 0 [] :=
  ⟨by simp, .inr ⟨w.heap.size, 0, 0, #[], rfl, Nat.le_refl _, heap_alloc_new w _, Nat.le_refl _, by simp [maxLen], by simp, by simp⟩⟩

theorem cloneW_any (A : Option Addr) (c m : Nat) (w : World) (hg : GW w A m) :
    Calls Tryd.prog 46 #[.slice A 1 c] w fun e w' => ∃ A' c', e = .returned (.slice A' 1 c') ∧ Own w' w.heap.size 75 1 (.slice A' 1 c') 1 [.int .u64 (m : Int)] ∧ Below w.heap.size w w' := by
  have hq := fun (W : World) (a : Option Addr) (n c : Nat) => Lib.run_eql_slice_nil (P := Tryd.prog) W 60 75 a n c 0 0 Tryd.underlying60
  obtain ⟨ad, rfl, hb, hc⟩ := hg.below (al w (.cells #[] 75))
  clear hg
  obtain ⟨i0, hi, hz0, hz1, hz2⟩ := info_parts u64_info
  have hs : Sl (w.alloc (.cells #[] 75)) (w.alloc (.cells #[] 75)).heap.size 1 (some ad) 1 [.int .u64 (m : Int)] := ⟨rfl, fun _ => ⟨ad, rfl, hb, fun j u hu => by
    match j, hu with
    | 0, hu => simp at hu; subst hu; exact hc
    | j + 1, hu => simp at hu⟩⟩
  go_enter Tryd.func46, Tryd.ntmps46
  go_wp2_with (first | (at_builtin; refine wpList_appendG _ rfl _ _ 60 rfl w.heap.size 75 i0 (.int .u64 0) 1 8 Tryd.underlying60 hi hz0 hz1 hz2 rfl (by omega) _ 0 [] rfl (wNew w) _ (some ad) 1 c [.int .u64 (m : Int)] rfl hs (by simp [Value.oneCell']) (by simp only [maxLen]; omega) (by omega) (by simp) ?_; intro A' c' w1 hown hg _))
  go_ret
  have hb : Below w.heap.size w w1 := grown_below ((Below.refl _ _).alloc (Nat.le_refl _) _) (wNew w) hg (by simp) (Nat.le_refl _)
  exact ⟨A', c', rfl, hown, hb⟩

noncomputable def pt6_l : List Oper := (Tryd.f41.body.bind (regIn · 6)).getD []
theorem pt6_o0 : pt6_l[0]?.map (fun o => (o.dst, o.op, o.guard)) = some (some 33, .fieldAddr 62 (.tmp 4) 0, none) := by kernel_rfl
theorem pt6_o1 : pt6_l[1]?.map (fun o => (o.dst, o.op, o.guard)) = some (some 34, .load 3 (.tmp 33), none) := by kernel_rfl
theorem pt6_o2 : pt6_l[2]?.map (fun o => (o.dst, o.op, o.guard)) = some (some 35, .fieldAddr 62 (.tmp 4) 1, none) := by kernel_rfl
theorem pt6_o3 : pt6_l[3]?.map (fun o => (o.dst, o.op, o.guard)) = some (some 36, .load 60 (.tmp 35), none) := by kernel_rfl
theorem pt6_o4 : pt6_l[4]?.map (fun o => (o.dst, o.op, o.guard)) = some (some 37, .call { callee := .value (.func 46), args := #[(.tmp 36)], argTypes := #[60] }, none) := by kernel_rfl
theorem pt6_o5 : pt6_l[5]?.map (fun o => (o.dst, o.op, o.guard)) = some (some 38, .build 62 #[(0, .tmp 34), (1, .tmp 37)], none) := by kernel_rfl
theorem pt6_o6 : pt6_l[6]?.map (fun o => (o.dst, o.op, o.guard)) = some (some 11, .alloc 62, none) := by kernel_rfl
theorem pt6_o7 : pt6_l[7]?.map (fun o => (o.dst, o.op, o.guard)) = some (none, .store 62 (.tmp 11) (.tmp 38), none) := by kernel_rfl
def pt6_sp (n : Nat) (A : Option Addr) (c m : Nat) (B4 : Nat) (W : World) : Nat → Spec
  | 0 => ⟨Unit, [33], fun _ => [(33, .pointer (some ⟨B4, 0, none⟩))], fun _ _ => True⟩
  | 1 => ⟨Unit, [34], fun _ => [(34, .int .i64 (n : Int))], fun _ _ => True⟩
  | 2 => ⟨Unit, [35], fun _ => [(35, .pointer (some ⟨B4, 1, none⟩))], fun _ _ => True⟩
  | 3 => ⟨Unit, [36], fun _ => [(36, .slice A 1 c)], fun _ _ => True⟩
  | 4 => ⟨Option Addr × Nat, [37], fun ⟨A9, c9⟩ => [(37, .slice A9 1 c9)], fun ⟨A9, c9⟩ w => Own w W.heap.size 75 1 (.slice A9 1 c9) 1 [.int .u64 (m : Int)]⟩
  | 5 => ⟨Option Addr × Nat, [38], fun ⟨A9, c9⟩ => [(38, .agg #[.int .i64 (n : Int), .slice A9 1 c9])], fun ⟨A9, c9⟩ w => Own w W.heap.size 75 1 (.slice A9 1 c9) 1 [.int .u64 (m : Int)]⟩
  | 6 => ⟨Nat, [11], fun Bn => [(11, .pointer (some ⟨Bn, 0, none⟩))], fun Bn w => (∃ cs, Bx w Bn 62 cs ∧ cs.size = 2) ∧ W.heap.size ≤ Bn⟩
  | 7 => ⟨Nat × Option Addr × Nat, [11], fun ⟨Bn, A9, c9⟩ => [(11, .pointer (some ⟨Bn, 0, none⟩))], fun ⟨Bn, A9, c9⟩ w => Bx w Bn 62 #[.int .i64 (n : Int), .slice A9 1 c9] ∧ W.heap.size ≤ Bn ∧ Own w W.heap.size 75 1 (.slice A9 1 c9) 1 [.int .u64 (m : Int)]⟩
  | _ => ⟨Unit, [], fun _ => [], fun _ _ => True⟩
theorem pt6_fb (n : Nat) (A : Option Addr) (c m : Nat) (B4 : Nat) (W : World) : slB pt6_l (fun j => (pt6_sp n A c m B4 W j).ss) = true := by kernel_rfl
set_option maxHeartbeats 2000000 in
theorem pt6 {Q : Exit → Act → World → Prop} {a0 : Act} {W : World} (n : Nat) (A : Option Addr) (c m : Nat) (B4 : Nat)  (z0 : a0.tmps.size = 70) (p4 : Sv a0 4 (.pointer (some ⟨B4, 0, none⟩))) (hx : Bx W B4 62 #[.int .i64 (n : Int), .slice A 1 c]) (hg : GW W A m)
    (fin : ∀ ac w, Fr a0 pt6_l ac → Below W.heap.size W w → (∃ Bn : Nat, ∃ A9 : Option Addr, ∃ c9 : Nat, Sv ac 11 (.pointer (some ⟨Bn, 0, none⟩)) ∧ Bx w Bn 62 #[.int .i64 (n : Int), .slice A9 1 c9] ∧ W.heap.size ≤ Bn ∧ Own w W.heap.size 75 1 (.slice A9 1 c9) 1 [.int .u64 (m : Int)]) → Q .normal ac w) : (Code.region 6 pt6_l.toArray true).wp Tryd.prog Q a0 W := by
  refine region_of (n := 8) (by kernel_rfl) (by kernel_rfl) (by kernel_rfl) (pt6_sp n A c m B4 W) (pt6_fb n A c m B4 W) (fun w => Below W.heap.size W w) (stpN 62 [7]) (bel0 W) ?_ ?_ ?_
  · intro i hi ac w hF hI hk
    have z := hF.1.trans z0
    have f4 := hF.sv (s := 4) (by kernel_rfl) p4
    match i, hi with
    | 0, _ =>
      exact ob_val (v := .pointer (some ⟨B4, 0, none⟩)) pt6_o0 (.inl rfl) (fun o ho => by have e1 := f4.eval; generalize ac.eval = ρ at *; simp [execOp, ho, e1, go_sem]) ⟨⟨_, rfl⟩, hI, Below.refl _ _, ⟨(), rfl, sv1 (Sv.dst (by kernel_rfl) (by rw [z]; decide) _), trivial⟩⟩
    | 1, _ =>
      obtain ⟨⟨⟩, -, hs0, hw0⟩ := hk 0 (mem_reach (by kernel_rfl))
      have f33 : Sv ac 33 (.pointer (some ⟨B4, 0, none⟩)) := hs0 _ (List.Mem.head _)
      exact ob_val (v := .int .i64 (n : Int)) pt6_o1 (.inl rfl) (fun o ho => by have e1 := f33.eval; have hc : w.cell? ⟨B4, 0, none⟩ = some (.int .i64 (n : Int)) := (hx.below hI).cell 0; generalize ac.eval = ρ at *; simp [execOp, ho, e1, hc, go_sem]) ⟨⟨_, rfl⟩, hI, Below.refl _ _, ⟨(), rfl, sv1 (Sv.dst (by kernel_rfl) (by rw [z]; decide) _), trivial⟩⟩
    | 2, _ =>
      exact ob_val (v := .pointer (some ⟨B4, 1, none⟩)) pt6_o2 (.inl rfl) (fun o ho => by have e1 := f4.eval; generalize ac.eval = ρ at *; simp [execOp, ho, e1, go_sem]) ⟨⟨_, rfl⟩, hI, Below.refl _ _, ⟨(), rfl, sv1 (Sv.dst (by kernel_rfl) (by rw [z]; decide) _), trivial⟩⟩
    | 3, _ =>
      obtain ⟨⟨⟩, -, hs2, hw2⟩ := hk 2 (mem_reach (by kernel_rfl))
      have f35 : Sv ac 35 (.pointer (some ⟨B4, 1, none⟩)) := hs2 _ (List.Mem.head _)
      exact ob_val (v := .slice A 1 c) pt6_o3 (.inl rfl) (fun o ho => by have e1 := f35.eval; have hc : w.cell? ⟨B4, 1, none⟩ = some (.slice A 1 c) := (hx.below hI).cell 1; generalize ac.eval = ρ at *; simp [execOp, ho, e1, hc, go_sem]) ⟨⟨_, rfl⟩, hI, Below.refl _ _, ⟨(), rfl, sv1 (Sv.dst (by kernel_rfl) (by rw [z]; decide) _), trivial⟩⟩
    | 4, _ =>
      obtain ⟨⟨⟩, -, hs3, hw3⟩ := hk 3 (mem_reach (by kernel_rfl))
      have f36 : Sv ac 36 (.slice A 1 c) := hs3 _ (List.Mem.head _)
      refine ob_call (f := 46) (args := #[.slice A 1 c]) (w' := w) (R := fun v w'' => ∃ A9 : Option Addr, ∃ c9 : Nat, v = .slice A9 1 c9 ∧ Own w'' W.heap.size 75 1 (.slice A9 1 c9) 1 [.int .u64 (m : Int)] ∧ Below w.heap.size w w'') pt6_o4 (.inl rfl) (fun o ho => ?_) ((cloneW_any A c m w (hg.below hI)).mono ?_) ?_
      · have e : execOp ac.eval o = (do let d ← resolve ac.eval { callee := .value (.func 46), args := #[(.tmp 36)], argTypes := #[60] } o.type; invoke d.target d.args) := by simp only [execOp, ho]
        have e36 := f36.eval
        have ef : ac.eval (.func 46) = .func (.func 46) #[] #[] := rfl
        rw [e]
        generalize ac.eval = ρ at *
        simp [ef, e36, go_sem]
      · rintro e w' ⟨A9, c9, rfl, hown, hb⟩; exact ⟨_, rfl, A9, c9, rfl, hown.mono hI.size, hb⟩
      · rintro v w2 ⟨A9, c9, rfl, hwd, hb⟩
        exact ⟨⟨_, rfl⟩, below_step hI hb, hb, ⟨(A9, c9), rfl, sv1 (Sv.dst (by kernel_rfl) (by rw [z]; decide) _), hwd⟩⟩
    | 5, _ =>
      obtain ⟨⟨⟩, -, hs1, hw1⟩ := hk 1 (mem_reach (by kernel_rfl))
      have f34 : Sv ac 34 (.int .i64 (n : Int)) := hs1 _ (List.Mem.head _)
      obtain ⟨⟨A9, c9⟩, -, hs4, hw4⟩ := hk 4 (mem_reach (by kernel_rfl))
      have f37 : Sv ac 37 (.slice A9 1 c9) := hs4 _ (List.Mem.head _)
      exact ob_val (v := .agg #[.int .i64 (n : Int), .slice A9 1 c9]) pt6_o5 (.inl rfl) (fun o ho => by have e34 := f34.eval; have e37 := f37.eval; generalize ac.eval = ρ at *; simp [execOp, ho, e34, e37, go_sem]) ⟨⟨_, rfl⟩, hI, Below.refl _ _, ⟨(A9, c9), rfl, sv1 (Sv.dst (by kernel_rfl) (by rw [z]; decide) _), hw4⟩⟩
    | 6, _ =>
      refine ob_val (v := .pointer (some ⟨w.heap.size, 0, none⟩)) (w' := w.alloc (.cells #[.int .i64 0, .slice none 0 0] 62)) pt6_o6 (.inl rfl) (fun o ho => by simp [execOp, ho, go_sem]) ⟨⟨_, rfl⟩, below_step hI (al _ _), al _ _, ?_⟩
      exact ⟨w.heap.size, rfl, sv1 (Sv.dst (by kernel_rfl) (by rw [z]; decide) _), ⟨⟨_, Bx.new w _ _, rfl⟩, hI.size⟩⟩
    | 7, _ =>
      obtain ⟨Bn, -, hs6, hw6⟩ := hk 6 (mem_reach (by kernel_rfl))
      have f11 : Sv ac 11 (.pointer (some ⟨Bn, 0, none⟩)) := hs6 _ (List.Mem.head _)
      obtain ⟨⟨A9, c9⟩, -, hs5, hw5⟩ := hk 5 (mem_reach (by kernel_rfl))
      have f38 : Sv ac 38 (.agg #[.int .i64 (n : Int), .slice A9 1 c9]) := hs5 _ (List.Mem.head _)
      obtain ⟨⟨cs0, hb0, hz0⟩, hlow⟩ := hw6
      refine ob_skip (w' := w.setRow Bn #[.int .i64 (n : Int), .slice A9 1 c9]) pt6_o7 (.inl rfl) (ev_srow f11.eval f38.eval hb0 (n := 2) (by kernel_rfl) rfl hz0 (by simp [Value.oneCell'])) ⟨⟨_, rfl⟩, below_setRow hI ?_ _, ⟨Bn, cs0, _, hb0, by rw [hz0]; rfl, rfl⟩, ?_⟩
      · exact hlow
      · exact ⟨(Bn, A9, c9), rfl, sv1 f11, ⟨hb0.row _, hlow, (hw5.rowT hb0 (by decide) _)⟩⟩
    | k + 8, h => exact absurd h (by omega)
  · intro i j hi hj hij x w w' hI hst hw
    match j, hj, x, hw with
    | 0, _, _, _ => exact trivial
    | 1, _, _, _ => exact trivial
    | 2, _, _, _ => exact trivial
    | 3, _, _, _ => exact trivial
    | 4, _, ⟨A9, c9⟩, hw => exact hst.own (by decide) hw
    | 5, _, ⟨A9, c9⟩, hw => exact hst.own (by decide) hw
    | 6, _, Bn, hw => exact ⟨hst.box hw.1, hw.2⟩
    | 7, _, ⟨Bn, A9, c9⟩, hw => exact ⟨hw.1.below (hst.low (by simp; omega)), hw.2.1, hst.own (by decide) hw.2.2⟩
    | k + 8, h, _, _ => exact absurd h (by omega)
  · intro ac w hF hI hall
    obtain ⟨⟨Bn, A9, c9⟩, -, hs7, hw7⟩ := hall 7 (by omega)
    have g7 : (∃ Bn : Nat, ∃ A9 : Option Addr, ∃ c9 : Nat, Sv ac 11 (.pointer (some ⟨Bn, 0, none⟩)) ∧ Bx w Bn 62 #[.int .i64 (n : Int), .slice A9 1 c9] ∧ W.heap.size ≤ Bn ∧ Own w W.heap.size 75 1 (.slice A9 1 c9) 1 [.int .u64 (m : Int)]) := ⟨Bn, A9, c9, hs7 _ (List.Mem.head _), hw7⟩
    exact fin ac w hF hI g7

end Go.Proofs.YtoimmfcodflmkaaDoor
