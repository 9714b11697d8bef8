/- The statement PoolMakes. -/
import Derived.Test.YtoimmfcodflmkaaDoorTG
namespace Go.Proofs.YtoimmfcodflmkaaDoor
open Go.RowKit
set_option linter.unusedVariables false

set_option maxRecDepth 100000 in
set_option maxHeartbeats 4000000 in
theorem PoolMakes_walk (s : Int) (w : World) (hL : Laid w) (h0 : 0 < w.heap.size) : Calls Tryd.prog 3 #[.int .i64 s] w (RetB w (.returned (.bool true))) := by
  have HN := Lib.hid (fun W => New_any s W)
  have HS := Lib.hid (fun W => sNew_any s W)
  have HF := Lib.hid (fun W => Frames_any s W)
  have HG := Lib.hid (fun W => sFrames_any s W)
  generalize nwS s = s0 at *
  generalize nwX s = xs at *
  generalize nwE s = er at *
  generalize frP s = fp at *
  obtain ⟨f1, f2⟩ := fp
  simp only at HF HG
  have e1 : (er == er) = true := by simp
  have e2 : (f1 == f1) = true := by simp
  have e3 : (f2 == f2) = true := by simp
  go_enter Tryd.func3, Tryd.ntmps3
  go_wp2_with fail
  refine (HN.out _).mono ?_
  rintro e v1 ⟨A1, c1, rfl, ho, hb⟩
  have hg1 := (OwnI.gi ho).alloc (.cells #[.int .i64 s0, .slice A1 xs.length c1] 24)
  have hB1 := Bx.new v1 24 #[.int .i64 s0, .slice A1 xs.length c1]
  have hn := Bx.new v1 24 #[.int .i64 0, .slice none 0 0]
  have hw := below_step hb (al v1 (.cells #[.int .i64 s0, .slice A1 xs.length c1] 24))
  clear ho hb
  go_wp2_with (first | (refine wpList_store_row rfl 24 _ _ rfl v1.heap.size _ rfl rfl 24 _ hn pool_size rfl (pv_one _ _ _ _) ?_; rw [World.setRow_alloc_new]; simp only [Act.put]))
  clear hn
  generalize v1.alloc (.cells #[.int .i64 s0, .slice A1 xs.length c1] 24) = W1 at *
  generalize v1.heap.size = B1 at *
  refine (HS.out _).mono ?_
  rintro e v2 ⟨A2, c2, rfl, ho, hb⟩
  replace hg1 := (hg1.below hb).alloc (.cells #[.int .i64 s0, .slice A2 xs.length c2] 24)
  replace hB1 := (hB1.below hb).alloc (.cells #[.int .i64 s0, .slice A2 xs.length c2] 24)
  have hg2 := (OwnI.gi ho).alloc (.cells #[.int .i64 s0, .slice A2 xs.length c2] 24)
  have hB2 := Bx.new v2 24 #[.int .i64 s0, .slice A2 xs.length c2]
  have hn := Bx.new v2 24 #[.int .i64 0, .slice none 0 0]
  replace hw := below_step (below_step hw hb) (al v2 (.cells #[.int .i64 s0, .slice A2 xs.length c2] 24))
  clear ho hb
  go_wp2_with (first | (refine wpList_store_row rfl 24 _ _ rfl v2.heap.size _ rfl rfl 24 _ hn pool_size rfl (pv_one _ _ _ _) ?_; rw [World.setRow_alloc_new]; simp only [Act.put]))
  clear hn
  generalize v2.alloc (.cells #[.int .i64 s0, .slice A2 xs.length c2] 24) = W2 at *
  generalize v2.heap.size = B2 at *
  refine (HF.out _).mono ?_
  rintro e w' ⟨rfl, rfl⟩
  go_wp2_with fail
  refine (HG.out _).mono ?_
  rintro e w' ⟨rfl, rfl⟩
  go_wp2_with (first | (refine wpList_load_row rfl 24 _ rfl (B1) rfl 24 _ _ _ hB1 Tryd.underlying24 rfl pool_size ?_) | (refine wpList_load_row rfl 24 _ rfl (B2) rfl 24 _ _ _ hB2 Tryd.underlying24 rfl pool_size ?_))
  refine (SamePool_yes s0 A1 c1 xs A2 c2 _ hg1 hg2).mono ?_
  rintro e v3 ⟨rfl, hb⟩
  replace hw := below_step hw hb
  go_wp2_with fail
  refine (awake_any _ (hL.below hw h0) (Nat.lt_of_lt_of_le h0 hw.size)).mono ?_
  rintro e v4 ⟨rfl, hb4⟩
  go_wp2
  go_ret
  exact ⟨rfl, below_step hw hb4⟩
end Go.Proofs.YtoimmfcodflmkaaDoor
