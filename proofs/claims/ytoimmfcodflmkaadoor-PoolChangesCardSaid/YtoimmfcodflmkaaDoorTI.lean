/- Package pool: Left, Home; the law's frames. -/
import Derived.Test.YtoimmfcodflmkaaDoorTF
namespace Go.Proofs.YtoimmfcodflmkaaDoor
open Go.RowKit
set_option linter.unusedVariables false

/-- What Left gives. -/
def lfP (s : Int) (xs : List Int) : Int × Int := if (chkP s xs).1 ≠ 0 then (0, (chkP s xs).1) else ((xs.length : Int), 0)
set_option maxHeartbeats 1000000 in
theorem Left_any (s : Int) (A : Option Addr) (c : Nat) (xs : List Int) (w : World) (ha : GI w A c xs) :
    Calls Tryd.prog 22 #[.agg #[.int .i64 s, .slice A xs.length c]] w (RetB w (.returned (.tuple #[.int .i64 (lfP s xs).1, .int .i64 (lfP s xs).2]))) := by
  have hx := Bx.new w 24 #[.int .i64 s, .slice A xs.length c]
  have hw := al w (.cells #[.int .i64 s, .slice A xs.length c] 24)
  have hg := ha.below hw
  have hl := ha.len
  have Hc := Lib.hid (fun W (hW : GI W A c xs) => Check_any s A c xs W hW)
  by_cases hc : (chkP s xs).1 = 0
  · have E := Lib.hid (show lfP s xs = ((xs.length : Int), 0) by unfold lfP; rw [if_neg (by simpa using hc)])
    rw [(chkP_ok hc).chk] at Hc
    generalize lfP s xs = lf at *
    clear hc ha
    go_enter Tryd.func22, Tryd.ntmps22
    go_wp2_with (first | (refine wpList_load_row rfl 24 _ rfl (w.heap.size) rfl 24 _ _ _ hx Tryd.underlying24 rfl pool_size ?_))
    refine (Hc.out _ hg).mono ?_
    rintro e w1 ⟨rfl, hb1⟩
    obtain ⟨c0, c1⟩ := s2 (hx.below hb1)
    go_wp2
    go_ret2
    exact ⟨by rw [E.out]; rfl, below_step hw hb1⟩
  · have E := Lib.hid (show lfP s xs = (0, (chkP s xs).1) by unfold lfP; rw [if_pos hc])
    have hc' : ((chkP s xs).1 != 0) = true := by simp [hc]
    generalize lfP s xs = lf at *
    generalize chkP s xs = ce at *
    obtain ⟨ce, ci⟩ := ce
    simp only at hc' E
    clear hc ha
    go_enter Tryd.func22, Tryd.ntmps22
    go_wp2_with (first | (refine wpList_load_row rfl 24 _ rfl (w.heap.size) rfl 24 _ _ _ hx Tryd.underlying24 rfl pool_size ?_))
    refine (Hc.out _ hg).mono ?_
    rintro e w1 ⟨rfl, hb1⟩
    go_wp2
    go_ret2
    exact ⟨by rw [E.out]; rfl, below_step hw hb1⟩

theorem idx8_0 (W : World) : (Instr.index 68 (.agg #[.int .i64 8, .int .i64 8, .int .i64 8, .int .i64 8]) (.int .i64 0)).run Tryd.prog W = .ok (.int .i64 8) W := by kernel_rfl
theorem idx8_1 (W : World) : (Instr.index 68 (.agg #[.int .i64 8, .int .i64 8, .int .i64 8, .int .i64 8]) (.int .i64 1)).run Tryd.prog W = .ok (.int .i64 8) W := by kernel_rfl
theorem idx8_2 (W : World) : (Instr.index 68 (.agg #[.int .i64 8, .int .i64 8, .int .i64 8, .int .i64 8]) (.int .i64 2)).run Tryd.prog W = .ok (.int .i64 8) W := by kernel_rfl
theorem idx8_3 (W : World) : (Instr.index 68 (.agg #[.int .i64 8, .int .i64 8, .int .i64 8, .int .i64 8]) (.int .i64 3)).run Tryd.prog W = .ok (.int .i64 8) W := by kernel_rfl
theorem idx8 (W : World) (k : Nat) (hk : k < 4) : (Instr.index 68 (.agg #[.int .i64 8, .int .i64 8, .int .i64 8, .int .i64 8]) (.int .i64 (k : Int))).run Tryd.prog W = .ok (.int .i64 8) W := by
  have h4 : k = 0 ∨ k = 1 ∨ k = 2 ∨ k = 3 := by omega
  rcases h4 with rfl | rfl | rfl | rfl
  · exact idx8_0 W
  · exact idx8_1 W
  · exact idx8_2 W
  · exact idx8_3 W
theorem shape_size : (Tryd.prog.info? 68).map (·.size) = some 4 := by kernel_rfl
set_option maxHeartbeats 1000000 in
theorem home_any (d : Nat) (hd : d < 32) (w : World) :
    Calls Tryd.prog 43 #[.agg #[.int .i64 8, .int .i64 8, .int .i64 8, .int .i64 8], .int .i64 (d : Int)] w (RetB w (.returned (.tuple #[.int .i64 ((d / 8 : Nat) : Int), .int .i64 ((d % 8 : Nat) : Int)]))) := by
  have hx := Bx.new w 68 #[.int .i64 8, .int .i64 8, .int .i64 8, .int .i64 8]
  have hw := al w (.cells #[.int .i64 8, .int .i64 8, .int .i64 8, .int .i64 8] 68)
  go_enter Tryd.func43, Tryd.ntmps43
  go_wp2_with (first | (refine wpList_load_row rfl 68 _ rfl w.heap.size rfl 68 _ _ _ hx Tryd.underlying68 rfl shape_size ?_))
  go_loopg [9, 1] 4 (fun g i dd wx => w.alloc (.cells #[.int .i64 8, .int .i64 8, .int .i64 8, .int .i64 8] 68) = wx ∧ ∃ k : Nat, g = 4 - k ∧ k ≤ 3 ∧ 8 * k ≤ d ∧ i = .int .i64 k ∧ dd = .int .i64 ((d - 8 * k : Nat) : Int))
  case atStart => exact ⟨rfl, 0, rfl, by omega, by omega, rfl, rfl⟩
  case round =>
    obtain ⟨rfl, k, rfl, hk, hkd, rfl, rfl⟩ := hrel
    have hidx := idx8 (w.alloc (.cells #[.int .i64 8, .int .i64 8, .int .i64 8, .int .i64 8] 68)) k (by omega)
    have kd : decide ((k : Int) < 4) = true := by simp; omega
    obtain ⟨r, hr⟩ : ∃ r, d - 8 * k = r := ⟨_, rfl⟩
    rw [hr]
    by_cases h8 : r < 8
    · have rd : decide ((r : Int) < 8) = true := by simp; omega
      have E1 := Lib.hid (show d / 8 = k by omega)
      have E2 := Lib.hid (show d % 8 = r by omega)
      rw [E1.out, E2.out]
      clear hr hx
      go_wp2
      go_ret2
      exact ⟨rfl, hw⟩
    · have rd : decide ((r : Int) < 8) = false := by simp; omega
      have hr32 : (r : Int) < 32 := by omega
      have E3 := Lib.hid (show (r : Int) - 8 = ((d - 8 * (k + 1) : Nat) : Int) by omega)
      clear hx
      go_wp2
      go_roundg (4 - (k + 1))
      case measure => omega
      case rel => exact ⟨rfl, k + 1, rfl, by omega, by omega, by go_num, congrArg (Value.int .i64) (by first | exact E3.out | omega)⟩

/-- The error of Home. -/
def hmE (s : Int) (xs : List Int) (d : Int) : Int := if (chkP s xs).1 ≠ 0 then (chkP s xs).1 else if d < 0 ∨ s ≤ d then 2 else 0
set_option maxHeartbeats 1000000 in
theorem Home_bad (s : Int) (A : Option Addr) (c : Nat) (xs : List Int) (d : Int) (w : World) (ha : GI w A c xs) (he : hmE s xs d ≠ 0) :
    Calls Tryd.prog 26 #[.agg #[.int .i64 s, .slice A xs.length c], .int .i64 d] w (RetB w (.returned (.tuple #[.int .i64 0, .int .i64 0, .int .i64 (hmE s xs d)]))) := by
  have hx := Bx.new w 24 #[.int .i64 s, .slice A xs.length c]
  have hw := al w (.cells #[.int .i64 s, .slice A xs.length c] 24)
  have hg := ha.below hw
  have Hc := Lib.hid (fun W (hW : GI W A c xs) => Check_any s A c xs W hW)
  unfold hmE at he ⊢
  by_cases hc : (chkP s xs).1 = 0
  · rw [if_neg (by simpa using hc)] at he ⊢
    rw [(chkP_ok hc).chk] at Hc
    have hd : d < 0 ∨ s ≤ d := by
      refine Decidable.byContradiction fun h => ?_
      rw [if_neg h] at he
      exact he rfl
    rw [if_pos hd]
    have hd2 : decide (d < 0) = true ∨ (decide (d < 0) = false ∧ decide (s ≤ d) = true) := by simp; omega
    clear hc ha he hd
    rcases hd2 with d1 | ⟨d1, d2⟩
    all_goals
      go_enter Tryd.func26, Tryd.ntmps26
      go_wp2_with (first | (refine wpList_load_row rfl 24 _ rfl (w.heap.size) rfl 24 _ _ _ hx Tryd.underlying24 rfl pool_size ?_))
      refine (Hc.out _ hg).mono ?_
      rintro e w1 ⟨rfl, hb1⟩
      obtain ⟨c0, c1⟩ := s2 (hx.below hb1)
      go_wp2
      go_ret3
      exact ⟨rfl, below_step hw hb1⟩
  · rw [if_pos hc]
    have hc' : ((chkP s xs).1 != 0) = true := by simp [hc]
    clear hc he
    generalize chkP s xs = ce at *
    obtain ⟨ce, ci⟩ := ce
    simp only at hc' ⊢
    go_enter Tryd.func26, Tryd.ntmps26
    go_wp2_with (first | (refine wpList_load_row rfl 24 _ rfl (w.heap.size) rfl 24 _ _ _ hx Tryd.underlying24 rfl pool_size ?_))
    refine (Hc.out _ hg).mono ?_
    rintro e w1 ⟨rfl, hb1⟩
    go_wp2
    go_ret3
    exact ⟨rfl, below_step hw hb1⟩
set_option maxHeartbeats 2000000 in
theorem Home_ok (s : Int) (A : Option Addr) (c : Nat) (xs : List Int) (d : Nat) (w : World) (ha : GI w A c xs) (hok : OkP s xs) (hd : (d : Int) < s) :
    Calls Tryd.prog 26 #[.agg #[.int .i64 s, .slice A xs.length c], .int .i64 (d : Int)] w (RetB w (.returned (.tuple #[.int .i64 ((d / 8 : Nat) : Int), .int .i64 ((d % 8 : Nat) : Int), .int .i64 0]))) := by
  have hx := Bx.new w 24 #[.int .i64 s, .slice A xs.length c]
  have hw := al w (.cells #[.int .i64 s, .slice A xs.length c] 24)
  have hg := ha.below hw
  have Hc := Lib.hid (fun W (hW : GI W A c xs) => Check_any s A c xs W hW)
  rw [hok.chk] at Hc
  have h2 := hok.hi
  have d1 : decide ((d : Int) < 0) = false := by simp
  have d2 : decide (s ≤ (d : Int)) = false := by simp; omega
  have HH := Lib.hid (fun W => home_any d (by omega) W)
  generalize d / 8 = f at *
  generalize d % 8 = p at *
  clear ha hok
  go_enter Tryd.func26, Tryd.ntmps26
  go_wp2_with (first | (refine wpList_load_row rfl 24 _ rfl (w.heap.size) rfl 24 _ _ _ hx Tryd.underlying24 rfl pool_size ?_))
  refine (Hc.out _ hg).mono ?_
  rintro e w1 ⟨rfl, hb1⟩
  obtain ⟨c0, c1⟩ := s2 (hx.below hb1)
  have hw1 := below_step hw hb1
  have hlt1 := hw1.size
  clear hx hb1 hw hg Hc
  have hB0 := Bx.new w1 68 #[.int .i64 0, .int .i64 0, .int .i64 0, .int .i64 0]
  have hw2 := below_step hw1 (al w1 (.cells #[.int .i64 0, .int .i64 0, .int .i64 0, .int .i64 0] 68))
  go_wp2_with fail
  clear c0 c1
  generalize w1.alloc (.cells #[.int .i64 0, .int .i64 0, .int .i64 0, .int .i64 0] 68) = W2 at *
  generalize w1.heap.size = B at *
  go_loopg [27] 4 (fun g i wx => Below w.heap.size w wx ∧ ((g = 4 ∧ i = .int .i64 0 ∧ Bx wx B 68 #[.int .i64 0, .int .i64 0, .int .i64 0, .int .i64 0]) ∨ (g = 3 ∧ i = .int .i64 1 ∧ Bx wx B 68 #[.int .i64 8, .int .i64 0, .int .i64 0, .int .i64 0]) ∨ (g = 2 ∧ i = .int .i64 2 ∧ Bx wx B 68 #[.int .i64 8, .int .i64 8, .int .i64 0, .int .i64 0]) ∨ (g = 1 ∧ i = .int .i64 3 ∧ Bx wx B 68 #[.int .i64 8, .int .i64 8, .int .i64 8, .int .i64 0]) ∨ (g = 0 ∧ i = .int .i64 4 ∧ Bx wx B 68 #[.int .i64 8, .int .i64 8, .int .i64 8, .int .i64 8])))
  case atStart => exact ⟨hw2, .inl ⟨rfl, rfl, hB0⟩⟩
  case round =>
    clear hB0 hw2
    obtain ⟨hlo, ⟨rfl, rfl, hb⟩ | ⟨rfl, rfl, hb⟩ | ⟨rfl, rfl, hb⟩ | ⟨rfl, rfl, hb⟩ | ⟨rfl, rfl, hb⟩⟩ := hrel
    · have q0 : wr.cell? ⟨B, 0, none⟩ = some (.int .i64 0) := hb.cell 0
      have z0 := hb.frozen 0
      have hb2 : Bx (wr.setCell ⟨B, 0, none⟩ (.int .i64 8)) B 68 #[.int .i64 8, .int .i64 0, .int .i64 0, .int .i64 0] := hb.set 0 _
      have hlo2 := hlo.setCell (p := ⟨B, 0, none⟩) (by show _ ≤ B; omega) (.int .i64 8)
      clear hb hlo
      go_wp2
      go_roundg 3
      case measure => omega
      case rel => exact ⟨hlo2, .inr (.inl ⟨rfl, rfl, hb2⟩)⟩
    · have q0 : wr.cell? ⟨B, 1, none⟩ = some (.int .i64 0) := hb.cell 1
      have z0 := hb.frozen 1
      have hb2 : Bx (wr.setCell ⟨B, 1, none⟩ (.int .i64 8)) B 68 #[.int .i64 8, .int .i64 8, .int .i64 0, .int .i64 0] := hb.set 1 _
      have hlo2 := hlo.setCell (p := ⟨B, 1, none⟩) (by show _ ≤ B; omega) (.int .i64 8)
      clear hb hlo
      go_wp2
      go_roundg 2
      case measure => omega
      case rel => exact ⟨hlo2, .inr (.inr (.inl ⟨rfl, rfl, hb2⟩))⟩
    · have q0 : wr.cell? ⟨B, 2, none⟩ = some (.int .i64 0) := hb.cell 2
      have z0 := hb.frozen 2
      have hb2 : Bx (wr.setCell ⟨B, 2, none⟩ (.int .i64 8)) B 68 #[.int .i64 8, .int .i64 8, .int .i64 8, .int .i64 0] := hb.set 2 _
      have hlo2 := hlo.setCell (p := ⟨B, 2, none⟩) (by show _ ≤ B; omega) (.int .i64 8)
      clear hb hlo
      go_wp2
      go_roundg 1
      case measure => omega
      case rel => exact ⟨hlo2, .inr (.inr (.inr (.inl ⟨rfl, rfl, hb2⟩)))⟩
    · have q0 : wr.cell? ⟨B, 3, none⟩ = some (.int .i64 0) := hb.cell 3
      have z0 := hb.frozen 3
      have hb2 : Bx (wr.setCell ⟨B, 3, none⟩ (.int .i64 8)) B 68 #[.int .i64 8, .int .i64 8, .int .i64 8, .int .i64 8] := hb.set 3 _
      have hlo2 := hlo.setCell (p := ⟨B, 3, none⟩) (by show _ ≤ B; omega) (.int .i64 8)
      clear hb hlo
      go_wp2
      go_roundg 0
      case measure => omega
      case rel => exact ⟨hlo2, .inr (.inr (.inr (.inr ⟨rfl, rfl, hb2⟩)))⟩
    · go_wp2_with (first | (refine wpList_load_row rfl 68 _ rfl B rfl 68 _ _ _ hb Tryd.underlying68 rfl shape_size ?_))
      refine (HH.out _).mono ?_
      rintro e w5 ⟨rfl, hb5⟩
      go_wp2
      go_ret3
      exact ⟨rfl, below_step hlo hb5⟩

/-- The law's frames. -/
theorem frames_yes (n want : Int) (w : World) (h : frP n = (want, 0)) : Calls Tryd.prog 30 #[.int .i64 n, .int .i64 want] w fun e w' => e = .returned (.bool true) ∧ w = w' := by
  have HF := Lib.hid (fun W => Frames_any n W)
  rw [h] at HF
  have e1 : (want == want) = true := by simp
  clear h
  go_enter Tryd.func30, Tryd.ntmps30
  go_wp2_with fail
  refine (HF.out _).mono ?_
  rintro e w' ⟨rfl, rfl⟩
  go_wp2
  go_ret
  exact ⟨rfl, rfl⟩
end Go.Proofs.YtoimmfcodflmkaaDoor
