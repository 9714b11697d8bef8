/- Package pool: sizes, New, Frames; the reference's. -/
import Derived.Test.YtoimmfcodflmkaaDoorT0
namespace Go.Proofs.YtoimmfcodflmkaaDoor
open Go.RowKit
set_option linter.unusedVariables false

/-- May a pool have this size? -/
def szB (s : Int) : Bool := decide (1 ≤ s) && decide (s ≤ 32)
theorem szB_yes {s : Int} (h1 : 1 ≤ s) (h2 : s ≤ 32) : szB s = true := by simp [szB, h1, h2]
theorem szB_no {s : Int} (h : s < 1 ∨ 32 < s) : szB s = false := by simp [szB]; omega
theorem sized_any (s : Int) (w : World) : Calls Tryd.prog 33 #[.int .i64 s] w fun e w' => e = .returned (.bool (szB s)) ∧ w = w' := by
  have E := Lib.hid (show szB s = (decide (1 ≤ s) && decide (s ≤ 32)) from rfl)
  generalize szB s = b at *
  cases h1 : decide (1 ≤ s) <;> cases h2 : decide (s ≤ 32)
  all_goals
    rw [h1, h2] at E
    go_enter Tryd.func33, Tryd.ntmps33
    go_wp2
    go_ret
    exact ⟨by rw [E.out]; rfl, rfl⟩
/-- How many frames. -/
def frP (s : Int) : Int × Int := if s < 1 ∨ 32 < s then (0, 2) else ((s + 7) / 8, 0)
set_option maxHeartbeats 1000000 in
theorem Frames_any (s : Int) (w : World) : Calls Tryd.prog 11 #[.int .i64 s] w fun e w' => e = .returned (.tuple #[.int .i64 (frP s).1, .int .i64 (frP s).2]) ∧ w = w' := by
  by_cases h : s < 1 ∨ 32 < s
  · have E := Lib.hid (show frP s = (0, 2) from if_pos h)
    have t : decide (s < 1) = true ∨ (decide (s < 1) = false ∧ decide (32 < s) = true) := by simp; omega
    generalize frP s = f at *
    clear h
    rcases t with t1 | ⟨t1, t2⟩
    all_goals
      go_enter Tryd.func11, Tryd.ntmps11
      go_wp2
      go_ret2
      exact ⟨by rw [E.out]; rfl, rfl⟩
  · have E := Lib.hid (show frP s = ((s + 7) / 8, 0) from if_neg h)
    have t1 : decide (s < 1) = false := by simp; omega
    have t2 : decide (32 < s) = false := by simp; omega
    have h1 : 1 ≤ s := by omega
    have h2 : s ≤ 32 := by omega
    generalize frP s = f at *
    clear h
    go_enter Tryd.func11, Tryd.ntmps11
    go_wp2
    go_ret2
    exact ⟨by rw [E.out]; first | (simp [Array.getD]; done) | (simp [Array.getD]; omega), rfl⟩
set_option maxHeartbeats 1000000 in
theorem sFrames_any (s : Int) (w : World) : Calls Tryd.prog 12 #[.int .i64 s] w fun e w' => e = .returned (.tuple #[.int .i64 (frP s).1, .int .i64 (frP s).2]) ∧ w = w' := by
  by_cases h : s < 1 ∨ 32 < s
  · have E := Lib.hid (show frP s = (0, 2) from if_pos h)
    have HS := Lib.hid (sized_any s)
    rw [szB_no h] at HS
    generalize frP s = f at *
    clear h
    go_enter Tryd.func12, Tryd.ntmps12
    go_wp2_with fail
    refine (HS.out _).mono ?_
    rintro e w' ⟨rfl, rfl⟩
    go_wp2
    go_ret2
    exact ⟨by rw [E.out]; rfl, rfl⟩
  · have E := Lib.hid (show frP s = ((s + 7) / 8, 0) from if_neg h)
    have h1 : 1 ≤ s := by omega
    have h2 : s ≤ 32 := by omega
    have HS := Lib.hid (sized_any s)
    rw [szB_yes h1 h2] at HS
    generalize frP s = f at *
    clear h
    go_enter Tryd.func12, Tryd.ntmps12
    go_wp2_with fail
    refine (HS.out _).mono ?_
    rintro e w' ⟨rfl, rfl⟩
    go_wp2
    go_ret2
    exact ⟨by rw [E.out]; first | (simp [Array.getD]; done) | (simp [Array.getD]; omega), rfl⟩

/-- What a first pool is. -/
def nwX (s : Int) : List Int := if s < 1 ∨ 32 < s then [] else upto s.toNat
def nwS (s : Int) : Int := if s < 1 ∨ 32 < s then 0 else s
def nwE (s : Int) : Int := if s < 1 ∨ 32 < s then 2 else 0
/-- What holds at the head of a round: the pool's variable, its list, the result's variable. -/
structure NwL (w : World) (s : Int) (m : Nat) (ys : List Int) (A : Option Addr) (c : Nat) (wx : World) : Prop where
  res : Bx wx w.heap.size 24 #[.int .i64 0, .slice none 0 0]
  box : Bx wx (w.heap.size + 1) 24 #[.int .i64 s, .slice A m c]
  own : OwnI wx (w.heap.size + 2) A m c ys
  lo : Below w.heap.size w wx

set_option maxHeartbeats 2000000 in
theorem New_any (s : Int) (w : World) : Calls Tryd.prog 9 #[.int .i64 s] w (RetP w (nwS s) (nwX s) (nwE s)) := by
  have hz := Bx.new w 24 #[.int .i64 0, .slice none 0 0]
  have hw := al w (.cells #[.int .i64 0, .slice none 0 0] 24)
  by_cases h : s < 1 ∨ 32 < s
  · have E1 := Lib.hid (show nwS s = 0 from if_pos h)
    have E2 := Lib.hid (show nwX s = [] from if_pos h)
    have E3 := Lib.hid (show nwE s = 2 from if_pos h)
    rw [E1.out, E2.out, E3.out]
    clear E1 E2 E3
    have t : decide (s < 1) = true ∨ (decide (s < 1) = false ∧ decide (32 < s) = true) := by simp; omega
    clear h
    rcases t with t1 | ⟨t1, t2⟩
    all_goals
      go_enter Tryd.func9, Tryd.ntmps9
      go_wp2_with (first | (refine wpList_store_row rfl 24 _ _ rfl (w.heap.size) _ rfl rfl 24 _ hz pool_size rfl (pv_one _ _ _ _) ?_))
      refine bodyPost_ret (res_c rfl (v := .int .i64 2) rfl rfl (hz.row _) Tryd.underlying24 pool_size) rfl ⟨none, 0, rfl, OwnI.none _ _, ?_⟩
      exact below_setRow hw (Nat.le_refl _) _
  · have E1 := Lib.hid (show nwS s = s from if_neg h)
    have E2 := Lib.hid (show nwX s = upto s.toNat from if_neg h)
    have E3 := Lib.hid (show nwE s = 0 from if_neg h)
    rw [E1.out, E2.out, E3.out]
    clear E1 E2 E3
    obtain ⟨n, hn⟩ : ∃ n : Nat, s = (n : Int) := ⟨s.toNat, by omega⟩
    subst hn
    rw [Int.toNat_natCast]
    have h1 : 1 ≤ (n : Int) := by omega
    have h2 : (n : Int) ≤ 32 := by omega
    have t1 : decide ((n : Int) < 1) = false := by simp; omega
    have t2 : decide (32 < (n : Int)) = false := by simp; omega
    clear h
    have hn0 := Bx.new (w.alloc (.cells #[.int .i64 0, .slice none 0 0] 24)) 24 #[.int .i64 0, .slice none 0 0]
    rw [World.size_alloc] at hn0
    have hb0 := Bx.new (w.alloc (.cells #[.int .i64 0, .slice none 0 0] 24)) 24 #[.int .i64 (n : Int), .slice none 0 0]
    rw [World.size_alloc] at hb0
    have hr0 := hz.alloc (.cells #[.int .i64 (n : Int), .slice none 0 0] 24)
    have hw0 := below_step hw (al _ (.cells #[.int .i64 (n : Int), .slice none 0 0] 24))
    go_enter Tryd.func9, Tryd.ntmps9
    go_wp2_with (first | (refine wpList_store_row rfl 24 _ _ rfl (w.heap.size + 1) _ rfl rfl 24 _ hn0 pool_size rfl (pv_one _ _ _ _) ?_; rw [← World.size_alloc (w := w) (o := .cells #[.int .i64 0, .slice none 0 0] 24), World.setRow_alloc_new]; rw [World.size_alloc]; simp only [Act.put]))
    go_loopg [16] n (fun g i wx => ∃ (k : Nat) (A : Option Addr) (c : Nat), g = n - k ∧ k ≤ n ∧ i = .int .i64 k ∧ NwL w (n : Int) k (upto k) A c wx)
    case atStart => exact ⟨0, none, 0, rfl, by omega, rfl, hr0, hb0, OwnI.none _ _, hw0⟩
    case round =>
      obtain ⟨k, A, c, rfl, hk, rfl, hr⟩ := hrel
      clear hn0 hb0 hr0 hw0 hz hw
      have HU := Lib.hid (upto_succ k)
      by_cases hlt' : k < n
      · have kd : decide ((k : Int) < (n : Int)) = true := by simp; omega
        generalize upto k = ys at *
        have hb := hr.box
        have ho := hr.own
        have hr0 := hr.res
        have hwr := hr.lo
        have hlt := hb.lt
        clear hr
        have c1 : wr.cell? ⟨w.heap.size + 1, 1, none⟩ = some (.slice A k c) := hb.cell 1
        have ob : Bx (wr.alloc (.cells #[.int .i64 (k : Int)] 3)) wr.heap.size 3 #[.int .i64 (k : Int)] := Bx.new wr _ _
        have hcn : (wr.alloc (.cells #[.int .i64 (k : Int)] 3)).cell? ⟨wr.heap.size, 0, none⟩ = some (.int .i64 (k : Int)) := ob.cell 0
        have hb3 := hb.alloc (.cells #[.int .i64 (k : Int)] 3)
        have hr3 := hr0.alloc (.cells #[.int .i64 (k : Int)] 3)
        have ho3 := Own.alloc ho (.cells #[.int .i64 (k : Int)] 3)
        have hw3 := below_step hwr (al _ (.cells #[.int .i64 (k : Int)] 3))
        clear ob
        go_wp2_with (first | (at_builtin; refine wpList_ap1 _ rfl _ _ rfl (w.heap.size + 2) A k c ys rfl ho3 ⟨wr.heap.size, 0, none⟩ 1 (k : Int) rfl hcn (by omega) (by simp only [World.size_alloc]; omega) ?_; intro A5 c5 w5 hown5 hg5; have hn5 := hb3.grown hg5 (fun h => by have := (Own.lt ho3 _ h.symm).1; omega); have hr5 := hr3.grown hg5 (fun h => by have := (Own.lt ho3 _ h.symm).1; omega); have hw5 : Below w.heap.size w w5 := grown_below hw3 ho3 hg5 (by simp only [World.size_alloc]; omega) (by omega); have d1 : w5.cell? ⟨w.heap.size + 1, 1, none⟩ = some (.slice A k c) := hn5.cell 1; have z1 := hn5.frozen 1; have hn6 : Bx (w5.setCell ⟨w.heap.size + 1, 1, none⟩ (.slice A5 (k + 1) c5)) (w.heap.size + 1) 24 #[.int .i64 (n : Int), .slice A5 (k + 1) c5] := hn5.set 1 _; have hr6 := hr5.setO (p := ⟨w.heap.size + 1, 1, none⟩) (by simp) (.slice A5 (k + 1) c5); have ho6 := Own.setLow hown5 (p := ⟨w.heap.size + 1, 1, none⟩) (by show w.heap.size + 1 < _; omega) (.slice A5 (k + 1) c5); have hw6 := hw5.setCell (p := ⟨w.heap.size + 1, 1, none⟩) (by show _ ≤ w.heap.size + 1; omega) (.slice A5 (k + 1) c5); clear hb3 hr3 ho3 hcn hw3 hg5 hn5 hr5 hown5 hw5))
        go_roundg (n - (k + 1))
        case measure => omega
        case rel =>
          refine ⟨k + 1, A5, c5, rfl, by omega, by go_num, ?_⟩
          rw [HU.out]
          exact ⟨hr6, hn6, ho6, hw6⟩
      · have kd : decide ((k : Int) < (n : Int)) = false := by simp; omega
        obtain rfl : k = n := by omega
        have hb := hr.box
        have ho := hr.own
        have hr0 := hr.res
        have hwr := hr.lo
        have hlt := hb.lt
        clear hr HU
        have HL := Lib.hid (upto_len k)
        generalize upto k = ys at *
        go_wp2_with (first | (refine wpList_load_row rfl 24 _ rfl (w.heap.size + 1) rfl 24 _ _ _ hb Tryd.underlying24 rfl pool_size ?_) | (refine wpList_store_row rfl 24 _ _ rfl (w.heap.size) _ rfl rfl 24 _ hr0 pool_size rfl (pv_one _ _ _ _) ?_))
        refine bodyPost_ret (res_c rfl (v := .int .i64 0) rfl rfl (hr0.row _) Tryd.underlying24 pool_size) rfl ⟨A, c, by rw [HL.out], ?_, ?_⟩
        · rw [HL.out]; exact (Own.rowLow ho (by omega) _).mono (by omega)
        · exact below_setRow hwr (Nat.le_refl _) _

set_option maxHeartbeats 2000000 in
theorem sNew_any (s : Int) (w : World) : Calls Tryd.prog 10 #[.int .i64 s] w (RetP w (nwS s) (nwX s) (nwE s)) := by
  have hz := Bx.new w 24 #[.int .i64 0, .slice none 0 0]
  have hw := al w (.cells #[.int .i64 0, .slice none 0 0] 24)
  by_cases h : s < 1 ∨ 32 < s
  · have E1 := Lib.hid (show nwS s = 0 from if_pos h)
    have E2 := Lib.hid (show nwX s = [] from if_pos h)
    have E3 := Lib.hid (show nwE s = 2 from if_pos h)
    rw [E1.out, E2.out, E3.out]
    clear E1 E2 E3
    have HS := Lib.hid (sized_any s)
    rw [szB_no h] at HS
    clear h
    go_enter Tryd.func10, Tryd.ntmps10
    go_wp2_with fail
    refine (HS.out _).mono ?_
    rintro e w' ⟨rfl, rfl⟩
    go_wp2_with (first | (refine wpList_store_row rfl 24 _ _ rfl (w.heap.size) _ rfl rfl 24 _ hz pool_size rfl (pv_one _ _ _ _) ?_))
    refine bodyPost_ret (res_c rfl (v := .int .i64 2) rfl rfl (hz.row _) Tryd.underlying24 pool_size) rfl ⟨none, 0, rfl, OwnI.none _ _, ?_⟩
    exact below_setRow hw (Nat.le_refl _) _
  · have E1 := Lib.hid (show nwS s = s from if_neg h)
    have E2 := Lib.hid (show nwX s = upto s.toNat from if_neg h)
    have E3 := Lib.hid (show nwE s = 0 from if_neg h)
    rw [E1.out, E2.out, E3.out]
    clear E1 E2 E3
    obtain ⟨n, hn⟩ : ∃ n : Nat, s = (n : Int) := ⟨s.toNat, by omega⟩
    subst hn
    rw [Int.toNat_natCast]
    have h1 : 1 ≤ (n : Int) := by omega
    have h2 : (n : Int) ≤ 32 := by omega
    have t1 : decide ((n : Int) < 1) = false := by simp; omega
    have t2 : decide (32 < (n : Int)) = false := by simp; omega
    have HS := Lib.hid (sized_any (n : Int))
    rw [szB_yes h1 h2] at HS
    clear h
    have hn0 := Bx.new (w.alloc (.cells #[.int .i64 0, .slice none 0 0] 24)) 24 #[.int .i64 0, .slice none 0 0]
    rw [World.size_alloc] at hn0
    have hb0 := Bx.new (w.alloc (.cells #[.int .i64 0, .slice none 0 0] 24)) 24 #[.int .i64 (n : Int), .slice none 0 0]
    rw [World.size_alloc] at hb0
    have hr0 := hz.alloc (.cells #[.int .i64 (n : Int), .slice none 0 0] 24)
    have hw0 := below_step hw (al _ (.cells #[.int .i64 (n : Int), .slice none 0 0] 24))
    go_enter Tryd.func10, Tryd.ntmps10
    go_wp2_with fail
    refine (HS.out _).mono ?_
    rintro e w' ⟨rfl, rfl⟩
    go_wp2_with (first | (refine wpList_store_row rfl 24 _ _ rfl (w.heap.size + 1) _ rfl rfl 24 _ hn0 pool_size rfl (pv_one _ _ _ _) ?_; rw [← World.size_alloc (w := w) (o := .cells #[.int .i64 0, .slice none 0 0] 24), World.setRow_alloc_new]; rw [World.size_alloc]; simp only [Act.put]))
    go_loopg [5] n (fun g i wx => ∃ (k : Nat) (A : Option Addr) (c : Nat), g = n - k ∧ k ≤ n ∧ i = .int .i64 k ∧ NwL w (n : Int) k (upto k) A c wx)
    case atStart => exact ⟨0, none, 0, rfl, by omega, rfl, hr0, hb0, OwnI.none _ _, hw0⟩
    case round =>
      obtain ⟨k, A, c, rfl, hk, rfl, hr⟩ := hrel
      clear hn0 hb0 hr0 hw0 hz hw
      have HU := Lib.hid (upto_succ k)
      by_cases hlt' : k < n
      · have kd : decide ((k : Int) < (n : Int)) = true := by simp; omega
        generalize upto k = ys at *
        have hb := hr.box
        have ho := hr.own
        have hr0 := hr.res
        have hwr := hr.lo
        have hlt := hb.lt
        clear hr
        have c1 : wr.cell? ⟨w.heap.size + 1, 1, none⟩ = some (.slice A k c) := hb.cell 1
        have ob : Bx (wr.alloc (.cells #[.int .i64 (k : Int)] 3)) wr.heap.size 3 #[.int .i64 (k : Int)] := Bx.new wr _ _
        have hcn : (wr.alloc (.cells #[.int .i64 (k : Int)] 3)).cell? ⟨wr.heap.size, 0, none⟩ = some (.int .i64 (k : Int)) := ob.cell 0
        have hb3 := hb.alloc (.cells #[.int .i64 (k : Int)] 3)
        have hr3 := hr0.alloc (.cells #[.int .i64 (k : Int)] 3)
        have ho3 := Own.alloc ho (.cells #[.int .i64 (k : Int)] 3)
        have hw3 := below_step hwr (al _ (.cells #[.int .i64 (k : Int)] 3))
        clear ob
        go_wp2_with (first | (at_builtin; refine wpList_ap1 _ rfl _ _ rfl (w.heap.size + 2) A k c ys rfl ho3 ⟨wr.heap.size, 0, none⟩ 1 (k : Int) rfl hcn (by omega) (by simp only [World.size_alloc]; omega) ?_; intro A5 c5 w5 hown5 hg5; have hn5 := hb3.grown hg5 (fun h => by have := (Own.lt ho3 _ h.symm).1; omega); have hr5 := hr3.grown hg5 (fun h => by have := (Own.lt ho3 _ h.symm).1; omega); have hw5 : Below w.heap.size w w5 := grown_below hw3 ho3 hg5 (by simp only [World.size_alloc]; omega) (by omega); have d1 : w5.cell? ⟨w.heap.size + 1, 1, none⟩ = some (.slice A k c) := hn5.cell 1; have z1 := hn5.frozen 1; have hn6 : Bx (w5.setCell ⟨w.heap.size + 1, 1, none⟩ (.slice A5 (k + 1) c5)) (w.heap.size + 1) 24 #[.int .i64 (n : Int), .slice A5 (k + 1) c5] := hn5.set 1 _; have hr6 := hr5.setO (p := ⟨w.heap.size + 1, 1, none⟩) (by simp) (.slice A5 (k + 1) c5); have ho6 := Own.setLow hown5 (p := ⟨w.heap.size + 1, 1, none⟩) (by show w.heap.size + 1 < _; omega) (.slice A5 (k + 1) c5); have hw6 := hw5.setCell (p := ⟨w.heap.size + 1, 1, none⟩) (by show _ ≤ w.heap.size + 1; omega) (.slice A5 (k + 1) c5); clear hb3 hr3 ho3 hcn hw3 hg5 hn5 hr5 hown5 hw5))
        go_roundg (n - (k + 1))
        case measure => omega
        case rel =>
          refine ⟨k + 1, A5, c5, rfl, by omega, by go_num, ?_⟩
          rw [HU.out]
          exact ⟨hr6, hn6, ho6, hw6⟩
      · have kd : decide ((k : Int) < (n : Int)) = false := by simp; omega
        obtain rfl : k = n := by omega
        have hb := hr.box
        have ho := hr.own
        have hr0 := hr.res
        have hwr := hr.lo
        have hlt := hb.lt
        clear hr HU
        have HL := Lib.hid (upto_len k)
        generalize upto k = ys at *
        go_wp2_with (first | (refine wpList_load_row rfl 24 _ rfl (w.heap.size + 1) rfl 24 _ _ _ hb Tryd.underlying24 rfl pool_size ?_) | (refine wpList_store_row rfl 24 _ _ rfl (w.heap.size) _ rfl rfl 24 _ hr0 pool_size rfl (pv_one _ _ _ _) ?_))
        refine bodyPost_ret (res_c rfl (v := .int .i64 0) rfl rfl (hr0.row _) Tryd.underlying24 pool_size) rfl ⟨A, c, by rw [HL.out], ?_, ?_⟩
        · rw [HL.out]; exact (Own.rowLow ho (by omega) _).mono (by omega)
        · exact below_setRow hwr (Nat.le_refl _) _

end Go.Proofs.YtoimmfcodflmkaaDoor
