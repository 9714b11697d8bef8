/- The reference of pool: Give. -/
import Derived.Test.YtoimmfcodflmkaaDoorTK
namespace Go.Proofs.YtoimmfcodflmkaaDoor
open Go.RowKit
set_option linter.unusedVariables false

theorem gv_ak (s : Int) (xs : List Int) (d : Int) : gvE s xs d = if akE s xs d ≠ 0 then akE s xs d else if xs.contains d = true then 7 else 0 := by
  unfold gvE akE
  by_cases h1 : (chkP s xs).1 = 0 <;> by_cases h2 : d < 0 ∨ s ≤ d <;> simp [h1, h2]

set_option maxHeartbeats 2000000 in
theorem sGive_bad (s : Int) (A : Option Addr) (c : Nat) (xs : List Int) (d : Int) (w : World) (ha : GI w A c xs) (he : gvE s xs d ≠ 0) :
    Calls Tryd.prog 21 #[.agg #[.int .i64 s, .slice A xs.length c], .int .i64 d] w (RetP w 0 [] (gvE s xs d)) := by
  have hx := (Bx.new w 24 #[.int .i64 s, .slice A xs.length c]).alloc (.cells #[.int .i64 0, .slice none 0 0] 24)
  have hy := Bx.new (w.alloc (.cells #[.int .i64 s, .slice A xs.length c] 24)) 24 #[.int .i64 0, .slice none 0 0]
  rw [World.size_alloc] at hy
  have hw := below_step (al w (.cells #[.int .i64 s, .slice A xs.length c] 24)) (al _ (.cells #[.int .i64 0, .slice none 0 0] 24))
  have hg := ha.below hw
  have Hc := Lib.hid (fun W (hW : GI W A c xs) => sAsked_any s A c xs d W hW)
  have HF := Lib.hid (fun W (hW : GI W A c xs) => sFree_any s A c xs d W hW)
  clear ha
  rw [gv_ak] at he ⊢
  by_cases hc : akE s xs d = 0
  · rw [if_neg (by simpa using hc)] at he ⊢
    rw [hc] at Hc
    have hcx : xs.contains d = true := by
      refine Decidable.byContradiction fun h => ?_
      rw [if_neg h] at he
      exact he rfl
    rw [if_pos hcx]
    rw [hcx] at HF
    clear hc he hcx
    go_enter Tryd.func21, Tryd.ntmps21
    go_wp2_with (first | (refine wpList_load_row rfl 24 _ rfl (w.heap.size) rfl 24 _ _ _ hx Tryd.underlying24 rfl pool_size ?_))
    refine (Hc.out _ hg).mono ?_
    rintro e w1 ⟨rfl, hb1⟩
    have hx1 := hx.below hb1
    have hy1 := hy.below hb1
    have hw1 := below_step hw hb1
    have hg1 := hg.below hb1
    clear hx hy hb1 hw hg
    go_wp2_with (first | (refine wpList_load_row rfl 24 _ rfl (w.heap.size) rfl 24 _ _ _ hx1 Tryd.underlying24 rfl pool_size ?_))
    refine (HF.out _ hg1).mono ?_
    rintro e w2 ⟨rfl, hb2⟩
    have hy2 := hy1.below hb2
    have hw2 := below_step hw1 hb2
    clear hx1 hy1 hb2 hw1 hg1
    go_wp2_with (first | (refine wpList_store_row rfl 24 _ _ rfl (w.heap.size + 1) _ rfl rfl 24 _ hy2 pool_size rfl (pv_one _ _ _ _) ?_))
    refine bodyPost_ret (res_c rfl (v := .int .i64 7) rfl rfl (hy2.row _) Tryd.underlying24 pool_size) rfl ⟨none, 0, rfl, OwnI.none _ _, ?_⟩
    exact below_setRow hw2 (by omega) _
  · rw [if_pos hc]
    have hc' : (akE s xs d != 0) = true := by simp [hc]
    clear hc he
    generalize akE s xs d = ce at *
    go_enter Tryd.func21, Tryd.ntmps21
    go_wp2_with (first | (refine wpList_load_row rfl 24 _ rfl (w.heap.size) rfl 24 _ _ _ hx Tryd.underlying24 rfl pool_size ?_))
    refine (Hc.out _ hg).mono ?_
    rintro e w1 ⟨rfl, hb1⟩
    have hx1 := hx.below hb1
    have hy1 := hy.below hb1
    have hw1 := below_step hw hb1
    have hg1 := hg.below hb1
    clear hx hy hb1 hw hg
    go_wp2_with (first | (refine wpList_store_row rfl 24 _ _ rfl (w.heap.size + 1) _ rfl rfl 24 _ hy1 pool_size rfl (pv_one _ _ _ _) ?_))
    refine bodyPost_ret (res_c rfl (v := .int .i64 ce) rfl rfl (hy1.row _) Tryd.underlying24 pool_size) rfl ⟨none, 0, rfl, OwnI.none _ _, ?_⟩
    exact below_setRow hw1 (by omega) _

set_option maxHeartbeats 4000000 in
theorem sGive_ok (s : Int) (A : Option Addr) (c : Nat) (xs : List Int) (d : Int) (w : World) (ha : GI w A c xs) (he : gvE s xs d = 0) :
    Calls Tryd.prog 21 #[.agg #[.int .i64 s, .slice A xs.length c], .int .i64 d] w (RetP w s (giveP s xs d) 0) := by
  have hx := (Bx.new w 24 #[.int .i64 s, .slice A xs.length c]).alloc (.cells #[.int .i64 0, .slice none 0 0] 24)
  have hy := Bx.new (w.alloc (.cells #[.int .i64 s, .slice A xs.length c] 24)) 24 #[.int .i64 0, .slice none 0 0]
  rw [World.size_alloc] at hy
  have hw := below_step (al w (.cells #[.int .i64 s, .slice A xs.length c] 24)) (al _ (.cells #[.int .i64 0, .slice none 0 0] 24))
  have hg := ha.below hw
  have Hc := Lib.hid (fun W (hW : GI W A c xs) => sAsked_any s A c xs d W hW)
  have HF := Lib.hid (fun W (hW : GI W A c xs) => sFree_any s A c xs d W hW)
  have HFk := Lib.hid (fun k W (hW : GI W A c xs) => sFree_any s A c xs k W hW)
  rw [gv_ak] at he
  have hc : akE s xs d = 0 := by
    refine Decidable.byContradiction fun h => ?_
    rw [if_pos h] at he
    exact h he
  rw [if_neg (by simpa using hc)] at he
  have hcx : xs.contains d = false := by
    cases h : xs.contains d
    · rfl
    · rw [if_pos h] at he; omega
  have hck : (chkP s xs).1 = 0 := by
    refine Decidable.byContradiction fun h => ?_
    unfold akE at hc
    rw [if_pos h] at hc
    exact h hc
  have hok := chkP_ok hck
  have h1 := hok.lo
  have h2 := hok.hi
  rw [hc] at Hc
  rw [hcx] at HF
  obtain ⟨n, rfl⟩ : ∃ n : Nat, s = (n : Int) := ⟨s.toNat, by omega⟩
  have HG := Lib.hid (show giveP (n : Int) xs d = (upto n).filter (fun i => i == d || xs.contains i) by unfold giveP; rw [Int.toNat_natCast])
  generalize giveP (n : Int) xs d = gs at *
  have hn32 : n ≤ 32 := by omega
  clear he hc hcx hck hok
  go_enter Tryd.func21, Tryd.ntmps21
  go_wp2_with (first | (refine wpList_load_row rfl 24 _ rfl (w.heap.size) rfl 24 _ _ _ hx Tryd.underlying24 rfl pool_size ?_))
  refine (Hc.out _ hg).mono ?_
  rintro e w1 ⟨rfl, hb1⟩
  have hx1 := hx.below hb1
  have hy1 := hy.below hb1
  have hw1 := below_step hw hb1
  have hg1 := hg.below hb1
  clear hx hy hb1 hw hg
  go_wp2_with (first | (refine wpList_load_row rfl 24 _ rfl (w.heap.size) rfl 24 _ _ _ hx1 Tryd.underlying24 rfl pool_size ?_))
  refine (HF.out _ hg1).mono ?_
  rintro e w2 ⟨rfl, hb2⟩
  have hx2 := hx1.below hb2
  have hy2 := hy1.below hb2
  have hw2 := below_step hw1 hb2
  have hlty := hy2.lt
  clear hx1 hy1 hb2 hw1 hg1
  have hn0 := Bx.new w2 24 #[.int .i64 0, .slice none 0 0]
  have hb0 := Bx.new w2 24 #[.int .i64 (n : Int), .slice none 0 0]
  have hx3 := hx2.alloc (.cells #[.int .i64 (n : Int), .slice none 0 0] 24)
  have hy3 := hy2.alloc (.cells #[.int .i64 (n : Int), .slice none 0 0] 24)
  have hw3 := below_step hw2 (al _ (.cells #[.int .i64 (n : Int), .slice none 0 0] 24))
  obtain ⟨e0, e1⟩ := s2 hx2
  obtain ⟨g0, g1⟩ := s2 hx3
  clear hx2 hy2 hw2 HF Hc
  go_wp2_with (first | (refine wpList_store_row rfl 24 _ _ rfl w2.heap.size _ rfl rfl 24 _ hn0 pool_size rfl (pv_one _ _ _ _) ?_; rw [World.setRow_alloc_new]; simp only [Act.put]))
  clear e0 e1 g0 g1 hn0
  generalize hB : w2.heap.size = B at *
  generalize w2.alloc (.cells #[.int .i64 (n : Int), .slice none 0 0] 24) = W3 at *
  clear hB
  go_loopg [8] n (fun g i wx => ∃ (k m : Nat) (ys : List Int) (A' : Option Addr) (c' : Nat), g = n - k ∧ k ≤ n ∧ m ≤ k ∧ i = .int .i64 k ∧ Hid (ys = (upto k).filter (fun i => i == d || xs.contains i)) ∧ GvL w B (n : Int) A xs.length c m ys A' c' wx)
  case atStart => exact ⟨0, 0, [], none, 0, rfl, by omega, by omega, rfl, Lib.hid rfl, hx3, hy3, hb0, OwnI.none _ _, hw3⟩
  case round =>
    obtain ⟨k, m, ys, A', c', rfl, hk, hmk, rfl, HY, hr⟩ := hrel
    clear hx3 hy3 hb0 hw3
    have HU := Lib.hid (show (upto (k + 1)).filter (fun i => i == d || xs.contains i) = ys ++ (if ((k : Int) == d || xs.contains (k : Int)) = true then [(k : Int)] else []) by
      rw [filt_succ, ← HY.out])
    have hb := hr.box
    have ho := hr.own
    have hr0 := hr.res
    have hp0 := hr.par
    have hwr := hr.lo
    have hlt := hb.lt
    clear hr
    obtain ⟨c0, cp1⟩ := s2 hp0
    have hgi := ha.below hwr
    by_cases hlt' : k < n
    · have kd : decide ((k : Int) < (n : Int)) = true := by simp; omega
      have HK := Lib.hid (HFk.out (k : Int) wr hgi)
      cases hkd : ((k : Int) == d)
      · rw [hkd, Bool.false_or] at HU
        cases hb' : xs.contains (k : Int)
        · rw [hb'] at HU HK
          clear hb'
          go_wp2_with fail
          refine HK.out.mono ?_
          rintro e w6 ⟨rfl, hb6⟩
          have hb := hb.below hb6
          have ho := Own.below ho hb6
          have hr0 := hr0.below hb6
          have hp0 := hp0.below hb6
          have hwr := below_step hwr hb6
          have hlt := hb.lt
          go_wp2
          go_roundg (n - (k + 1))
          case measure => omega
          case rel =>
            refine ⟨k + 1, m, ys, A', c', rfl, by omega, by omega, by go_num, Lib.hid ?_, hp0, hr0, hb, ho, hwr⟩
            rw [HU.out]; simp
        · rw [hb'] at HU HK
          clear hb'
          go_wp2_with fail
          refine HK.out.mono ?_
          rintro e w6 ⟨rfl, hb6⟩
          have hb := hb.below hb6
          have ho := Own.below ho hb6
          have hr0 := hr0.below hb6
          have hp0 := hp0.below hb6
          have hwr := below_step hwr hb6
          have hlt := hb.lt
          have c1 : w6.cell? ⟨B, 1, none⟩ = some (.slice A' m c') := hb.cell 1
          have ob : Bx (w6.alloc (.cells #[.int .i64 (k : Int)] 3)) w6.heap.size 3 #[.int .i64 (k : Int)] := Bx.new w6 _ _
          have hcn : (w6.alloc (.cells #[.int .i64 (k : Int)] 3)).cell? ⟨w6.heap.size, 0, none⟩ = some (.int .i64 (k : Int)) := ob.cell 0
          have hb3 := hb.alloc (.cells #[.int .i64 (k : Int)] 3)
          have hr3 := hr0.alloc (.cells #[.int .i64 (k : Int)] 3)
          have hp3 := hp0.alloc (.cells #[.int .i64 (k : Int)] 3)
          have ho3 := Own.alloc ho (.cells #[.int .i64 (k : Int)] 3)
          have hw3 := below_step hwr (al _ (.cells #[.int .i64 (k : Int)] 3))
          clear ob
          go_wp2_with (first | (at_builtin; refine wpList_ap1 _ rfl _ _ rfl (B + 1) A' m c' ys rfl ho3 ⟨w6.heap.size, 0, none⟩ 1 (k : Int) rfl hcn (by omega) (by simp only [World.size_alloc]; omega) ?_; intro A5 c5 w5 hown5 hg5; have hn5 := hb3.grown hg5 (fun h => by have := (Own.lt ho3 _ h.symm).1; omega); have hr5 := hr3.grown hg5 (fun h => by have := (Own.lt ho3 _ h.symm).1; omega); have hp5 := hp3.grown hg5 (fun h => by have := (Own.lt ho3 _ h.symm).1; omega); have hw5 : Below w.heap.size w w5 := grown_below hw3 ho3 hg5 (by simp only [World.size_alloc]; omega) (by omega); have d1 : w5.cell? ⟨B, 1, none⟩ = some (.slice A' m c') := hn5.cell 1; have z1 := hn5.frozen 1; have hn6 : Bx (w5.setCell ⟨B, 1, none⟩ (.slice A5 (m + 1) c5)) B 24 #[.int .i64 (n : Int), .slice A5 (m + 1) c5] := hn5.set 1 _; have hr6 := hr5.setO (p := ⟨B, 1, none⟩) (by show _ ≠ B; omega) (.slice A5 (m + 1) c5); have hp6 := hp5.setO (p := ⟨B, 1, none⟩) (by show _ ≠ B; omega) (.slice A5 (m + 1) c5); have ho6 := Own.setLow hown5 (p := ⟨B, 1, none⟩) (by show B < _; omega) (.slice A5 (m + 1) c5); have hw6 := hw5.setCell (p := ⟨B, 1, none⟩) (by show _ ≤ B; omega) (.slice A5 (m + 1) c5); clear hb3 hr3 hp3 ho3 hcn hw3 hg5 hn5 hr5 hp5 hown5 hw5))
          go_roundg (n - (k + 1))
          case measure => omega
          case rel =>
            refine ⟨k + 1, m + 1, ys ++ [(k : Int)], A5, c5, rfl, by omega, by omega, by go_num, Lib.hid ?_, hp6, hr6, hn6, ho6, hw6⟩
            rw [HU.out]; rfl
      · rw [hkd, Bool.true_or] at HU
        clear HK
        have c1 : wr.cell? ⟨B, 1, none⟩ = some (.slice A' m c') := hb.cell 1
        have ob : Bx (wr.alloc (.cells #[.int .i64 (k : Int)] 3)) wr.heap.size 3 #[.int .i64 (k : Int)] := Bx.new wr _ _
        have hcn : (wr.alloc (.cells #[.int .i64 (k : Int)] 3)).cell? ⟨wr.heap.size, 0, none⟩ = some (.int .i64 (k : Int)) := ob.cell 0
        have hb3 := hb.alloc (.cells #[.int .i64 (k : Int)] 3)
        have hr3 := hr0.alloc (.cells #[.int .i64 (k : Int)] 3)
        have hp3 := hp0.alloc (.cells #[.int .i64 (k : Int)] 3)
        have ho3 := Own.alloc ho (.cells #[.int .i64 (k : Int)] 3)
        have hw3 := below_step hwr (al _ (.cells #[.int .i64 (k : Int)] 3))
        clear ob
        go_wp2_with (first | (at_builtin; refine wpList_ap1 _ rfl _ _ rfl (B + 1) A' m c' ys rfl ho3 ⟨wr.heap.size, 0, none⟩ 1 (k : Int) rfl hcn (by omega) (by simp only [World.size_alloc]; omega) ?_; intro A5 c5 w5 hown5 hg5; have hn5 := hb3.grown hg5 (fun h => by have := (Own.lt ho3 _ h.symm).1; omega); have hr5 := hr3.grown hg5 (fun h => by have := (Own.lt ho3 _ h.symm).1; omega); have hp5 := hp3.grown hg5 (fun h => by have := (Own.lt ho3 _ h.symm).1; omega); have hw5 : Below w.heap.size w w5 := grown_below hw3 ho3 hg5 (by simp only [World.size_alloc]; omega) (by omega); have d1 : w5.cell? ⟨B, 1, none⟩ = some (.slice A' m c') := hn5.cell 1; have z1 := hn5.frozen 1; have hn6 : Bx (w5.setCell ⟨B, 1, none⟩ (.slice A5 (m + 1) c5)) B 24 #[.int .i64 (n : Int), .slice A5 (m + 1) c5] := hn5.set 1 _; have hr6 := hr5.setO (p := ⟨B, 1, none⟩) (by show _ ≠ B; omega) (.slice A5 (m + 1) c5); have hp6 := hp5.setO (p := ⟨B, 1, none⟩) (by show _ ≠ B; omega) (.slice A5 (m + 1) c5); have ho6 := Own.setLow hown5 (p := ⟨B, 1, none⟩) (by show B < _; omega) (.slice A5 (m + 1) c5); have hw6 := hw5.setCell (p := ⟨B, 1, none⟩) (by show _ ≤ B; omega) (.slice A5 (m + 1) c5); clear hb3 hr3 hp3 ho3 hcn hw3 hg5 hn5 hr5 hp5 hown5 hw5))
        go_roundg (n - (k + 1))
        case measure => omega
        case rel =>
          refine ⟨k + 1, m + 1, ys ++ [(k : Int)], A5, c5, rfl, by omega, by omega, by go_num, Lib.hid ?_, hp6, hr6, hn6, ho6, hw6⟩
          rw [HU.out]; rfl
    · have kd : decide ((k : Int) < (n : Int)) = false := by simp; omega
      obtain rfl : k = n := by omega
      have hml := Lib.hid (OwnI.len ho)
      go_wp2_with (first | (refine wpList_load_row rfl 24 _ rfl (B) rfl 24 _ _ _ hb Tryd.underlying24 rfl pool_size ?_) | (refine wpList_store_row rfl 24 _ _ rfl (w.heap.size + 1) _ rfl rfl 24 _ hr0 pool_size rfl (pv_one _ _ _ _) ?_))
      refine bodyPost_ret (res_c rfl (v := .int .i64 0) rfl rfl (hr0.row _) Tryd.underlying24 pool_size) rfl ⟨A', c', by rw [HG.out, ← HY.out, ← hml.out], ?_, ?_⟩
      · rw [HG.out, ← HY.out, ← hml.out]; exact (Own.rowLow ho (by omega) _).mono (by omega)
      · exact below_setRow hwr (by omega) _
end Go.Proofs.YtoimmfcodflmkaaDoor
