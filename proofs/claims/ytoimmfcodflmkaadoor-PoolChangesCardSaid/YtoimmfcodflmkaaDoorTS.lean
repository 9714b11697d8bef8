/- The statement PoolChanges. -/
import Derived.Test.YtoimmfcodflmkaaDoorTR
import Derived.Test.YtoimmfcodflmkaaDoorTG
import Derived.Test.YtoimmfcodflmkaaDoorTM
import Derived.Test.YtoimmfcodflmkaaDoorTL
namespace Go.Proofs.YtoimmfcodflmkaaDoor
open Go.RowKit
set_option linter.unusedVariables false
set_option linter.unusedSimpArgs false

theorem tkE_cons {s x : Int} {ys : List Int} (h : tkE s (x :: ys) = 0) : OkP s (x :: ys) := by
  refine chkP_ok (Decidable.byContradiction fun h' => ?_)
  unfold tkE at h
  rw [if_pos h'] at h
  exact h' h
theorem Take_both (s : Int) (xs : List Int) : ∃ (ts : Int) (tz : List Int) (td te : Int), (∀ A c W, GI W A c xs → Calls Tryd.prog 18 #[.agg #[.int .i64 s, .slice A xs.length c]] W (RetP3 W ts tz td te)) ∧
    (∀ A c W, GI W A c xs → Calls Tryd.prog 19 #[.agg #[.int .i64 s, .slice A xs.length c]] W (RetP3 W ts tz td te)) := by
  by_cases h : tkE s xs = 0
  · rcases xs with _ | ⟨x, ys⟩
    · unfold tkE at h
      by_cases hc : (chkP s []).1 = 0
      · rw [if_neg (by simpa using hc)] at h
        simp at h
      · rw [if_pos hc] at h
        exact absurd h hc
    · exact ⟨_, _, _, _, fun A c W hW => Take_ok s A c x ys W hW (tkE_cons h), fun A c W hW => sTake_ok s A c x ys W hW (tkE_cons h)⟩
  · exact ⟨_, _, _, _, fun A c W hW => Take_bad s A c xs W hW h, fun A c W hW => sTake_bad s A c xs W hW h⟩
theorem Give_both (s : Int) (xs : List Int) (d : Int) : ∃ (gs : Int) (gz : List Int) (ge : Int), (∀ A c W, GI W A c xs → Calls Tryd.prog 20 #[.agg #[.int .i64 s, .slice A xs.length c], .int .i64 d] W (RetP W gs gz ge)) ∧
    (∀ A c W, GI W A c xs → Calls Tryd.prog 21 #[.agg #[.int .i64 s, .slice A xs.length c], .int .i64 d] W (RetP W gs gz ge)) := by
  by_cases h : gvE s xs d = 0
  · exact ⟨_, _, _, fun A c W hW => Give_ok s A c xs d W hW h, fun A c W hW => sGive_ok s A c xs d W hW h⟩
  · exact ⟨_, _, _, fun A c W hW => Give_bad s A c xs d W hW h, fun A c W hW => sGive_bad s A c xs d W hW h⟩

set_option maxRecDepth 100000 in
set_option maxHeartbeats 8000000 in
theorem PoolChanges_walk (s : Int) (A : Option Addr) (c : Nat) (xs : List Int) (d : Int) (w : World) (hL : Laid w) (h0 : 0 < w.heap.size) (ha : GI w A c xs) : Calls Tryd.prog 4 #[.agg #[.int .i64 s, .slice A xs.length c], .int .i64 d] w (RetB w (.returned (.bool true))) := by
  have hl := ha.len
  have hQ := Bx.new w 24 #[.int .i64 s, .slice A xs.length c]
  have hw := al w (.cells #[.int .i64 s, .slice A xs.length c] 24)
  replace hL := hL.below hw h0
  replace h0 : 0 < (w.alloc (.cells #[.int .i64 s, .slice A xs.length c] 24)).heap.size := by rw [World.size_alloc]; omega
  have c7 : (w.alloc (.cells #[.int .i64 s, .slice A xs.length c] 24)).cell? ⟨w.heap.size, 1, none⟩ = some (.slice A xs.length c) := hQ.cell 1
  by_cases h60 : (xs.length : Int) ≤ 60
  · have d60 : decide (60 < (xs.length : Int)) = false := by simp; omega
    have HC := Lib.hid (fun A c W (hW : GI W A c xs) => Check_any s A c xs W hW)
    have HSC := Lib.hid (fun A c W (hW : GI W A c xs) => sCheck_any s A c xs W hW)
    obtain ⟨ts, tz, td, te, ht, hst⟩ := Take_both s xs
    have HT := Lib.hid ht
    have HST := Lib.hid hst
    obtain ⟨gs, gz, ge, hh, hsh⟩ := Give_both s xs d
    have HG := Lib.hid hh
    have HSG := Lib.hid hsh
    generalize chkP s xs = ck at *
    obtain ⟨k1, k2⟩ := ck
    simp only at HC HSC
    have e1 : (k1 != k1) = false := by simp
    have e2 : (k2 != k2) = false := by simp
    have e3 : (td == td) = true := by simp
    have e4 : (te == te) = true := by simp
    have e5 : (ge == ge) = true := by simp
    clear ht hst hh hsh
    go_enter Tryd.func4, Tryd.ntmps4
    go_wp2_with (first | (refine wpList_load_row rfl 24 _ rfl (w.heap.size) rfl 24 _ _ _ hQ Tryd.underlying24 rfl pool_size ?_))
    refine (ownPool_any s A c xs _ (ha.below hw) (by omega)).mono ?_
    rintro e v1 ⟨A5, c5, rfl, ho, hb⟩
    replace hQ := hQ.below hb
    replace hL := hL.below hb h0
    replace h0 : 0 < v1.heap.size := Nat.lt_of_lt_of_le h0 hb.size
    replace hw := below_step hw hb
    clear hb
    have hg5 := OwnI.gi ho
    clear ho
    have hn := Bx.new v1 24 #[.int .i64 0, .slice none 0 0]
    replace hQ := hQ.alloc (.cells #[.int .i64 s, .slice A5 xs.length c5] 24)
    replace hg5 := hg5.alloc (.cells #[.int .i64 s, .slice A5 xs.length c5] 24)
    replace hL := hL.below (al v1 (.cells #[.int .i64 s, .slice A5 xs.length c5] 24)) h0
    replace h0 : 0 < (v1.alloc (.cells #[.int .i64 s, .slice A5 xs.length c5] 24)).heap.size := by rw [World.size_alloc]; omega
    replace hw := below_step hw (al _ (.cells #[.int .i64 s, .slice A5 xs.length c5] 24))
    have hX := Bx.new v1 24 #[.int .i64 s, .slice A5 xs.length c5]
    go_wp2_with (first | (refine wpList_store_row rfl 24 _ _ rfl v1.heap.size _ rfl rfl 24 _ hn pool_size rfl (pv_one _ _ _ _) ?_; rw [World.setRow_alloc_new]; simp only [Act.put]) | (refine wpList_load_row rfl 24 _ rfl (v1.heap.size) rfl 24 _ _ _ hX Tryd.underlying24 rfl pool_size ?_))
    refine (HC.out _ _ _ hg5).mono ?_
    rintro e v2 ⟨rfl, hb⟩
    replace hQ := hQ.below hb
    replace hg5 := hg5.below hb
    replace hX := hX.below hb
    replace hL := hL.below hb h0
    replace h0 : 0 < v2.heap.size := Nat.lt_of_lt_of_le h0 hb.size
    replace hw := below_step hw hb
    clear hb
    clear hn
    generalize v1.heap.size = B5 at *
    go_wp2_with (first | (refine wpList_load_row rfl 24 _ rfl (w.heap.size) rfl 24 _ _ _ hQ Tryd.underlying24 rfl pool_size ?_))
    refine (HSC.out _ _ _ (ha.below hw)).mono ?_
    rintro e v3 ⟨rfl, hb⟩
    replace hQ := hQ.below hb
    replace hg5 := hg5.below hb
    replace hX := hX.below hb
    replace hL := hL.below hb h0
    replace h0 : 0 < v3.heap.size := Nat.lt_of_lt_of_le h0 hb.size
    replace hw := below_step hw hb
    clear hb
    go_wp2_with (first | (refine wpList_load_row rfl 24 _ rfl (B5) rfl 24 _ _ _ hX Tryd.underlying24 rfl pool_size ?_))
    refine (HT.out _ _ _ hg5).mono ?_
    rintro e v4 ⟨A10, c10, rfl, ho, hb⟩
    replace hQ := hQ.below hb
    replace hg5 := hg5.below hb
    replace hX := hX.below hb
    replace hL := hL.below hb h0
    replace h0 : 0 < v4.heap.size := Nat.lt_of_lt_of_le h0 hb.size
    replace hw := below_step hw hb
    clear hb
    have hg10 := OwnI.gi ho
    clear ho
    have hn := Bx.new v4 24 #[.int .i64 0, .slice none 0 0]
    replace hQ := hQ.alloc (.cells #[.int .i64 ts, .slice A10 tz.length c10] 24)
    replace hg5 := hg5.alloc (.cells #[.int .i64 ts, .slice A10 tz.length c10] 24)
    replace hX := hX.alloc (.cells #[.int .i64 ts, .slice A10 tz.length c10] 24)
    replace hg10 := hg10.alloc (.cells #[.int .i64 ts, .slice A10 tz.length c10] 24)
    replace hL := hL.below (al v4 (.cells #[.int .i64 ts, .slice A10 tz.length c10] 24)) h0
    replace h0 : 0 < (v4.alloc (.cells #[.int .i64 ts, .slice A10 tz.length c10] 24)).heap.size := by rw [World.size_alloc]; omega
    replace hw := below_step hw (al _ (.cells #[.int .i64 ts, .slice A10 tz.length c10] 24))
    have hB10 := Bx.new v4 24 #[.int .i64 ts, .slice A10 tz.length c10]
    go_wp2_with (first | (refine wpList_store_row rfl 24 _ _ rfl v4.heap.size _ rfl rfl 24 _ hn pool_size rfl (pv_one _ _ _ _) ?_; rw [World.setRow_alloc_new]; simp only [Act.put]) | (refine wpList_load_row rfl 24 _ rfl (w.heap.size) rfl 24 _ _ _ hQ Tryd.underlying24 rfl pool_size ?_))
    refine (HST.out _ _ _ (ha.below hw)).mono ?_
    rintro e v5 ⟨A12, c12, rfl, ho, hb⟩
    replace hQ := hQ.below hb
    replace hg5 := hg5.below hb
    replace hX := hX.below hb
    replace hg10 := hg10.below hb
    replace hB10 := hB10.below hb
    replace hL := hL.below hb h0
    replace h0 : 0 < v5.heap.size := Nat.lt_of_lt_of_le h0 hb.size
    replace hw := below_step hw hb
    clear hb
    clear hn
    generalize v4.heap.size = B10 at *
    have hg12 := OwnI.gi ho
    clear ho
    have hn := Bx.new v5 24 #[.int .i64 0, .slice none 0 0]
    replace hQ := hQ.alloc (.cells #[.int .i64 ts, .slice A12 tz.length c12] 24)
    replace hg5 := hg5.alloc (.cells #[.int .i64 ts, .slice A12 tz.length c12] 24)
    replace hX := hX.alloc (.cells #[.int .i64 ts, .slice A12 tz.length c12] 24)
    replace hg10 := hg10.alloc (.cells #[.int .i64 ts, .slice A12 tz.length c12] 24)
    replace hB10 := hB10.alloc (.cells #[.int .i64 ts, .slice A12 tz.length c12] 24)
    replace hg12 := hg12.alloc (.cells #[.int .i64 ts, .slice A12 tz.length c12] 24)
    replace hL := hL.below (al v5 (.cells #[.int .i64 ts, .slice A12 tz.length c12] 24)) h0
    replace h0 : 0 < (v5.alloc (.cells #[.int .i64 ts, .slice A12 tz.length c12] 24)).heap.size := by rw [World.size_alloc]; omega
    replace hw := below_step hw (al _ (.cells #[.int .i64 ts, .slice A12 tz.length c12] 24))
    have hB12 := Bx.new v5 24 #[.int .i64 ts, .slice A12 tz.length c12]
    go_wp2_with (first | (refine wpList_store_row rfl 24 _ _ rfl v5.heap.size _ rfl rfl 24 _ hn pool_size rfl (pv_one _ _ _ _) ?_; rw [World.setRow_alloc_new]; simp only [Act.put]) | (refine wpList_load_row rfl 24 _ rfl (B5) rfl 24 _ _ _ hX Tryd.underlying24 rfl pool_size ?_))
    refine (HG.out _ _ _ hg5).mono ?_
    rintro e v6 ⟨A14, c14, rfl, ho, hb⟩
    replace hQ := hQ.below hb
    replace hg5 := hg5.below hb
    replace hX := hX.below hb
    replace hg10 := hg10.below hb
    replace hB10 := hB10.below hb
    replace hg12 := hg12.below hb
    replace hB12 := hB12.below hb
    replace hL := hL.below hb h0
    replace h0 : 0 < v6.heap.size := Nat.lt_of_lt_of_le h0 hb.size
    replace hw := below_step hw hb
    clear hb
    clear hn
    generalize v5.heap.size = B12 at *
    have hg14 := OwnI.gi ho
    clear ho
    have hn := Bx.new v6 24 #[.int .i64 0, .slice none 0 0]
    replace hQ := hQ.alloc (.cells #[.int .i64 gs, .slice A14 gz.length c14] 24)
    replace hg5 := hg5.alloc (.cells #[.int .i64 gs, .slice A14 gz.length c14] 24)
    replace hX := hX.alloc (.cells #[.int .i64 gs, .slice A14 gz.length c14] 24)
    replace hg10 := hg10.alloc (.cells #[.int .i64 gs, .slice A14 gz.length c14] 24)
    replace hB10 := hB10.alloc (.cells #[.int .i64 gs, .slice A14 gz.length c14] 24)
    replace hg12 := hg12.alloc (.cells #[.int .i64 gs, .slice A14 gz.length c14] 24)
    replace hB12 := hB12.alloc (.cells #[.int .i64 gs, .slice A14 gz.length c14] 24)
    replace hg14 := hg14.alloc (.cells #[.int .i64 gs, .slice A14 gz.length c14] 24)
    replace hL := hL.below (al v6 (.cells #[.int .i64 gs, .slice A14 gz.length c14] 24)) h0
    replace h0 : 0 < (v6.alloc (.cells #[.int .i64 gs, .slice A14 gz.length c14] 24)).heap.size := by rw [World.size_alloc]; omega
    replace hw := below_step hw (al _ (.cells #[.int .i64 gs, .slice A14 gz.length c14] 24))
    have hB14 := Bx.new v6 24 #[.int .i64 gs, .slice A14 gz.length c14]
    go_wp2_with (first | (refine wpList_store_row rfl 24 _ _ rfl v6.heap.size _ rfl rfl 24 _ hn pool_size rfl (pv_one _ _ _ _) ?_; rw [World.setRow_alloc_new]; simp only [Act.put]) | (refine wpList_load_row rfl 24 _ rfl (w.heap.size) rfl 24 _ _ _ hQ Tryd.underlying24 rfl pool_size ?_))
    refine (HSG.out _ _ _ (ha.below hw)).mono ?_
    rintro e v7 ⟨A16, c16, rfl, ho, hb⟩
    replace hQ := hQ.below hb
    replace hg5 := hg5.below hb
    replace hX := hX.below hb
    replace hg10 := hg10.below hb
    replace hB10 := hB10.below hb
    replace hg12 := hg12.below hb
    replace hB12 := hB12.below hb
    replace hg14 := hg14.below hb
    replace hB14 := hB14.below hb
    replace hL := hL.below hb h0
    replace h0 : 0 < v7.heap.size := Nat.lt_of_lt_of_le h0 hb.size
    replace hw := below_step hw hb
    clear hb
    clear hn
    generalize v6.heap.size = B14 at *
    have hg16 := OwnI.gi ho
    clear ho
    have hn := Bx.new v7 24 #[.int .i64 0, .slice none 0 0]
    replace hQ := hQ.alloc (.cells #[.int .i64 gs, .slice A16 gz.length c16] 24)
    replace hg5 := hg5.alloc (.cells #[.int .i64 gs, .slice A16 gz.length c16] 24)
    replace hX := hX.alloc (.cells #[.int .i64 gs, .slice A16 gz.length c16] 24)
    replace hg10 := hg10.alloc (.cells #[.int .i64 gs, .slice A16 gz.length c16] 24)
    replace hB10 := hB10.alloc (.cells #[.int .i64 gs, .slice A16 gz.length c16] 24)
    replace hg12 := hg12.alloc (.cells #[.int .i64 gs, .slice A16 gz.length c16] 24)
    replace hB12 := hB12.alloc (.cells #[.int .i64 gs, .slice A16 gz.length c16] 24)
    replace hg14 := hg14.alloc (.cells #[.int .i64 gs, .slice A16 gz.length c16] 24)
    replace hB14 := hB14.alloc (.cells #[.int .i64 gs, .slice A16 gz.length c16] 24)
    replace hg16 := hg16.alloc (.cells #[.int .i64 gs, .slice A16 gz.length c16] 24)
    replace hL := hL.below (al v7 (.cells #[.int .i64 gs, .slice A16 gz.length c16] 24)) h0
    replace h0 : 0 < (v7.alloc (.cells #[.int .i64 gs, .slice A16 gz.length c16] 24)).heap.size := by rw [World.size_alloc]; omega
    replace hw := below_step hw (al _ (.cells #[.int .i64 gs, .slice A16 gz.length c16] 24))
    have hB16 := Bx.new v7 24 #[.int .i64 gs, .slice A16 gz.length c16]
    go_wp2_with (first | (refine wpList_store_row rfl 24 _ _ rfl v7.heap.size _ rfl rfl 24 _ hn pool_size rfl (pv_one _ _ _ _) ?_; rw [World.setRow_alloc_new]; simp only [Act.put]) | (refine wpList_load_row rfl 24 _ rfl (B10) rfl 24 _ _ _ hB10 Tryd.underlying24 rfl pool_size ?_) | (refine wpList_load_row rfl 24 _ rfl (B12) rfl 24 _ _ _ hB12 Tryd.underlying24 rfl pool_size ?_))
    refine (SamePool_yes ts A10 c10 tz A12 c12 _ hg10 hg12).mono ?_
    rintro e v8 ⟨rfl, hb⟩
    replace hQ := hQ.below hb
    replace hg5 := hg5.below hb
    replace hX := hX.below hb
    replace hg10 := hg10.below hb
    replace hB10 := hB10.below hb
    replace hg12 := hg12.below hb
    replace hB12 := hB12.below hb
    replace hg14 := hg14.below hb
    replace hB14 := hB14.below hb
    replace hg16 := hg16.below hb
    replace hB16 := hB16.below hb
    replace hL := hL.below hb h0
    replace h0 : 0 < v8.heap.size := Nat.lt_of_lt_of_le h0 hb.size
    replace hw := below_step hw hb
    clear hb
    clear hn
    generalize v7.heap.size = B16 at *
    obtain ⟨m0, m1⟩ := s2 hB14
    obtain ⟨n0, n1⟩ := s2 hB16
    go_wp2_with (first | (refine wpList_load_row rfl 24 _ rfl (B14) rfl 24 _ _ _ hB14 Tryd.underlying24 rfl pool_size ?_) | (refine wpList_load_row rfl 24 _ rfl (B16) rfl 24 _ _ _ hB16 Tryd.underlying24 rfl pool_size ?_))
    refine (SamePool_yes gs A14 c14 gz A16 c16 _ hg14 hg16).mono ?_
    rintro e v9 ⟨rfl, hb⟩
    replace hQ := hQ.below hb
    replace hg5 := hg5.below hb
    replace hX := hX.below hb
    replace hg10 := hg10.below hb
    replace hB10 := hB10.below hb
    replace hg12 := hg12.below hb
    replace hB12 := hB12.below hb
    replace hg14 := hg14.below hb
    replace hB14 := hB14.below hb
    replace hg16 := hg16.below hb
    replace hB16 := hB16.below hb
    replace hL := hL.below hb h0
    replace h0 : 0 < v9.heap.size := Nat.lt_of_lt_of_le h0 hb.size
    replace hw := below_step hw hb
    clear hb
    clear m0 m1 n0 n1
    obtain ⟨m0, m1⟩ := s2 hX
    obtain ⟨n0, n1⟩ := s2 hQ
    go_wp2_with (first | (refine wpList_load_row rfl 24 _ rfl (B5) rfl 24 _ _ _ hX Tryd.underlying24 rfl pool_size ?_) | (refine wpList_load_row rfl 24 _ rfl (w.heap.size) rfl 24 _ _ _ hQ Tryd.underlying24 rfl pool_size ?_))
    refine (SamePool_yes s A5 c5 xs A c _ hg5 (ha.below hw)).mono ?_
    rintro e v10 ⟨rfl, hb⟩
    replace hQ := hQ.below hb
    replace hg5 := hg5.below hb
    replace hX := hX.below hb
    replace hg10 := hg10.below hb
    replace hB10 := hB10.below hb
    replace hg12 := hg12.below hb
    replace hB12 := hB12.below hb
    replace hg14 := hg14.below hb
    replace hB14 := hB14.below hb
    replace hg16 := hg16.below hb
    replace hB16 := hB16.below hb
    replace hL := hL.below hb h0
    replace h0 : 0 < v10.heap.size := Nat.lt_of_lt_of_le h0 hb.size
    replace hw := below_step hw hb
    clear hb
    clear m0 m1 n0 n1
    go_wp2_with fail
    refine (awake_any _ hL h0).mono ?_
    rintro e v11 ⟨rfl, hb⟩
    replace hQ := hQ.below hb
    replace hg5 := hg5.below hb
    replace hX := hX.below hb
    replace hg10 := hg10.below hb
    replace hB10 := hB10.below hb
    replace hg12 := hg12.below hb
    replace hB12 := hB12.below hb
    replace hg14 := hg14.below hb
    replace hB14 := hB14.below hb
    replace hg16 := hg16.below hb
    replace hB16 := hB16.below hb
    replace hL := hL.below hb h0
    replace h0 : 0 < v11.heap.size := Nat.lt_of_lt_of_le h0 hb.size
    replace hw := below_step hw hb
    clear hb
    go_wp2
    go_ret
    exact ⟨rfl, hw⟩
  · have d60 : decide (60 < (xs.length : Int)) = true := by simp; omega
    clear h60
    go_enter Tryd.func4, Tryd.ntmps4
    go_wp2_with fail
    refine (awake_any _ hL h0).mono ?_
    rintro e v1 ⟨rfl, hb⟩
    go_wp2
    go_ret
    exact ⟨rfl, below_step hw hb⟩
end Go.Proofs.YtoimmfcodflmkaaDoor
