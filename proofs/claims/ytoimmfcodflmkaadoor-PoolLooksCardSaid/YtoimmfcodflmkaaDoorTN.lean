/- The statement PoolLooks. -/
import Derived.Test.YtoimmfcodflmkaaDoorTG
import Derived.Test.YtoimmfcodflmkaaDoorTM
namespace Go.Proofs.YtoimmfcodflmkaaDoor
open Go.RowKit
set_option linter.unusedVariables false

theorem Taken_both (s : Int) (xs : List Int) : ∃ (ts : List Int) (er : Int), (∀ A c W, Laid W → 0 < W.heap.size → GI W A c xs → Calls Tryd.prog 24 #[.agg #[.int .i64 s, .slice A xs.length c]] W (RetL W ts er)) ∧
    (∀ A c W, GI W A c xs → Calls Tryd.prog 25 #[.agg #[.int .i64 s, .slice A xs.length c]] W (RetL W ts er)) := by
  by_cases h : (chkP s xs).1 = 0
  · exact ⟨_, _, fun A c W hL h0 hW => Taken_ok s A c xs W hL h0 hW (chkP_ok h), fun A c W hW => sTaken_ok s A c xs W hW (chkP_ok h)⟩
  · exact ⟨_, _, fun A c W _ _ hW => Taken_bad s A c xs W hW h, fun A c W hW => sTaken_bad s A c xs W hW h⟩
theorem Home_both (s : Int) (xs : List Int) (d : Int) : ∃ f p er : Int, (∀ A c W, GI W A c xs → Calls Tryd.prog 26 #[.agg #[.int .i64 s, .slice A xs.length c], .int .i64 d] W (RetB W (.returned (.tuple #[.int .i64 f, .int .i64 p, .int .i64 er])))) ∧
    (∀ A c W, GI W A c xs → Calls Tryd.prog 27 #[.agg #[.int .i64 s, .slice A xs.length c], .int .i64 d] W (RetB W (.returned (.tuple #[.int .i64 f, .int .i64 p, .int .i64 er])))) := by
  by_cases h : hmE s xs d = 0
  · have hc : (chkP s xs).1 = 0 := by
      refine Decidable.byContradiction fun h' => ?_
      unfold hmE at h
      rw [if_pos h'] at h
      exact h' h
    have hd : ¬ (d < 0 ∨ s ≤ d) := by
      intro h'
      unfold hmE at h
      rw [if_neg (by simpa using hc), if_pos h'] at h
      omega
    obtain ⟨n, rfl⟩ : ∃ n : Nat, d = (n : Int) := ⟨d.toNat, by omega⟩
    exact ⟨_, _, _, fun A c W hW => Home_ok s A c xs n W hW (chkP_ok hc) (by omega), fun A c W hW => sHome_ok s A c xs n W hW (chkP_ok hc) (by omega)⟩
  · exact ⟨_, _, _, fun A c W hW => Home_bad s A c xs d W hW h, fun A c W hW => sHome_bad s A c xs d W hW h⟩

set_option maxRecDepth 100000 in
set_option maxHeartbeats 8000000 in
theorem PoolLooks_walk (s : Int) (A : Option Addr) (c : Nat) (xs : List Int) (d : Int) (w : World) (hL : Laid w) (h0 : 0 < w.heap.size) (ha : GI w A c xs) : Calls Tryd.prog 5 #[.agg #[.int .i64 s, .slice A xs.length c], .int .i64 d] w (RetB w (.returned (.bool true))) := by
  have hl := ha.len
  have hL0 := hL
  have h00 := h0
  have hQ := Bx.new w 24 #[.int .i64 s, .slice A xs.length c]
  have hw := al w (.cells #[.int .i64 s, .slice A xs.length c] 24)
  replace hL := hL.below hw h0
  replace h0 : 0 < (w.alloc (.cells #[.int .i64 s, .slice A xs.length c] 24)).heap.size := by rw [World.size_alloc]; omega
  have c7 : (w.alloc (.cells #[.int .i64 s, .slice A xs.length c] 24)).cell? ⟨w.heap.size, 1, none⟩ = some (.slice A xs.length c) := hQ.cell 1
  by_cases h60 : (xs.length : Int) ≤ 60
  · have d60 : decide (60 < (xs.length : Int)) = false := by simp; omega
    have HL := Lib.hid (fun A c W (hW : GI W A c xs) => Left_any s A c xs W hW)
    have HSL := Lib.hid (fun A c W (hW : GI W A c xs) => sLeft_any s A c xs W hW)
    generalize lfP s xs = lf at *
    obtain ⟨l1, l2⟩ := lf
    simp only at HL HSL
    obtain ⟨ts, te, ht, hst⟩ := Taken_both s xs
    have HT := Lib.hid ht
    have HST := Lib.hid hst
    obtain ⟨f1, f2, f3, hh, hsh⟩ := Home_both s xs d
    have HH := Lib.hid hh
    have HSH := Lib.hid hsh
    have e1 : (l1 != l1) = false := by simp
    have e2 : (l2 != l2) = false := by simp
    have e3 : (te == te) = true := by simp
    have e4 : (f1 == f1) = true := by simp
    have e5 : (f2 == f2) = true := by simp
    have e6 : (f3 == f3) = true := by simp
    clear ht hst hh hsh
    go_enter Tryd.func5, Tryd.ntmps5
    go_wp2_with (first | (refine wpList_load_row rfl 24 _ rfl (w.heap.size) rfl 24 _ _ _ hQ Tryd.underlying24 rfl pool_size ?_))
    refine (ownPool_any s A c xs _ (ha.below hw) (by omega)).mono ?_
    rintro e v1 ⟨A5, c5, rfl, ho, hb⟩
    replace hQ := hQ.below hb
    replace hL := hL.below hb h0
    replace h0 : 0 < v1.heap.size := Nat.lt_of_lt_of_le h0 hb.size
    replace hw := below_step hw hb
    clear hb
    have hg5 := OwnI.gi ho
    clear ho
    have hn := Bx.new v1 24 #[.int .i64 0, .slice none 0 0]
    replace hQ := hQ.alloc (.cells #[.int .i64 s, .slice A5 xs.length c5] 24)
    replace hg5 := hg5.alloc (.cells #[.int .i64 s, .slice A5 xs.length c5] 24)
    replace hL := hL.below (al v1 (.cells #[.int .i64 s, .slice A5 xs.length c5] 24)) h0
    replace h0 : 0 < (v1.alloc (.cells #[.int .i64 s, .slice A5 xs.length c5] 24)).heap.size := by rw [World.size_alloc]; omega
    replace hw := below_step hw (al _ (.cells #[.int .i64 s, .slice A5 xs.length c5] 24))
    have hX := Bx.new v1 24 #[.int .i64 s, .slice A5 xs.length c5]
    go_wp2_with (first | (refine wpList_store_row rfl 24 _ _ rfl v1.heap.size _ rfl rfl 24 _ hn pool_size rfl (pv_one _ _ _ _) ?_; rw [World.setRow_alloc_new]; simp only [Act.put]) | (refine wpList_load_row rfl 24 _ rfl (v1.heap.size) rfl 24 _ _ _ hX Tryd.underlying24 rfl pool_size ?_))
    refine (HL.out _ _ _ hg5).mono ?_
    rintro e v2 ⟨rfl, hb⟩
    replace hQ := hQ.below hb
    replace hg5 := hg5.below hb
    replace hX := hX.below hb
    replace hL := hL.below hb h0
    replace h0 : 0 < v2.heap.size := Nat.lt_of_lt_of_le h0 hb.size
    replace hw := below_step hw hb
    clear hb
    clear hn
    generalize v1.heap.size = B5 at *
    go_wp2_with (first | (refine wpList_load_row rfl 24 _ rfl (w.heap.size) rfl 24 _ _ _ hQ Tryd.underlying24 rfl pool_size ?_))
    refine (HSL.out _ _ _ (ha.below hw)).mono ?_
    rintro e v3 ⟨rfl, hb⟩
    replace hQ := hQ.below hb
    replace hg5 := hg5.below hb
    replace hX := hX.below hb
    replace hL := hL.below hb h0
    replace h0 : 0 < v3.heap.size := Nat.lt_of_lt_of_le h0 hb.size
    replace hw := below_step hw hb
    clear hb
    go_wp2_with (first | (refine wpList_load_row rfl 24 _ rfl (B5) rfl 24 _ _ _ hX Tryd.underlying24 rfl pool_size ?_))
    refine (HT.out _ _ _ hL h0 hg5).mono ?_
    rintro e v4 ⟨A10, c10, rfl, ho, hb⟩
    replace hQ := hQ.below hb
    replace hg5 := hg5.below hb
    replace hX := hX.below hb
    replace hL := hL.below hb h0
    replace h0 : 0 < v4.heap.size := Nat.lt_of_lt_of_le h0 hb.size
    replace hw := below_step hw hb
    clear hb
    have hg10 := OwnI.gi ho
    clear ho
    go_wp2_with (first | (refine wpList_load_row rfl 24 _ rfl (w.heap.size) rfl 24 _ _ _ hQ Tryd.underlying24 rfl pool_size ?_))
    refine (HST.out _ _ _ (ha.below hw)).mono ?_
    rintro e v5 ⟨A11, c11, rfl, ho, hb⟩
    replace hQ := hQ.below hb
    replace hg5 := hg5.below hb
    replace hX := hX.below hb
    replace hg10 := hg10.below hb
    replace hL := hL.below hb h0
    replace h0 : 0 < v5.heap.size := Nat.lt_of_lt_of_le h0 hb.size
    replace hw := below_step hw hb
    clear hb
    have hg11 := OwnI.gi ho
    clear ho
    go_wp2_with (first | (refine wpList_load_row rfl 24 _ rfl (B5) rfl 24 _ _ _ hX Tryd.underlying24 rfl pool_size ?_))
    refine (HH.out _ _ _ hg5).mono ?_
    rintro e v6 ⟨rfl, hb⟩
    replace hQ := hQ.below hb
    replace hg5 := hg5.below hb
    replace hX := hX.below hb
    replace hg10 := hg10.below hb
    replace hg11 := hg11.below hb
    replace hL := hL.below hb h0
    replace h0 : 0 < v6.heap.size := Nat.lt_of_lt_of_le h0 hb.size
    replace hw := below_step hw hb
    clear hb
    go_wp2_with (first | (refine wpList_load_row rfl 24 _ rfl (w.heap.size) rfl 24 _ _ _ hQ Tryd.underlying24 rfl pool_size ?_))
    refine (HSH.out _ _ _ (ha.below hw)).mono ?_
    rintro e v7 ⟨rfl, hb⟩
    replace hQ := hQ.below hb
    replace hg5 := hg5.below hb
    replace hX := hX.below hb
    replace hg10 := hg10.below hb
    replace hg11 := hg11.below hb
    replace hL := hL.below hb h0
    replace h0 : 0 < v7.heap.size := Nat.lt_of_lt_of_le h0 hb.size
    replace hw := below_step hw hb
    clear hb
    go_wp2_with fail
    refine (sameInts_yes A10 A11 c10 c11 ts _ hg10 hg11).mono ?_
    rintro e vx ⟨rfl, kk, rfl⟩
    obtain ⟨p0, p1⟩ := s2 hX
    obtain ⟨q0, q1⟩ := s2 hQ
    go_wp2_with fail
    refine (SamePool_yes s A5 c5 xs A c _ (hg5.drewN kk) (ha.below (below_dN hw kk))).mono ?_
    rintro e vy ⟨rfl, hb⟩
    replace hw := below_step (below_dN hw kk) hb
    go_wp2_with fail
    refine (awake_any _ (hL0.below hw h00) (Nat.lt_of_lt_of_le h00 hw.size)).mono ?_
    rintro e vz ⟨rfl, hb2⟩
    go_wp2
    go_ret
    exact ⟨rfl, below_step hw hb2⟩
  · have d60 : decide (60 < (xs.length : Int)) = true := by simp; omega
    clear h60
    go_enter Tryd.func5, Tryd.ntmps5
    go_wp2_with fail
    refine (awake_any _ hL h0).mono ?_
    rintro e v1 ⟨rfl, hb⟩
    go_wp2
    go_ret
    exact ⟨rfl, below_step hw hb⟩
end Go.Proofs.YtoimmfcodflmkaaDoor
