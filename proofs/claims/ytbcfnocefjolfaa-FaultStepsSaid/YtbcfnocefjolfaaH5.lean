/- The statement FaultSteps. -/
import Derived.Test.YtbcfnocefjolfaaGD
namespace Go.Proofs.Ytbcfnocefjolfaa
open Go.RowKit
set_option linter.unusedVariables false

theorem Give_both (tk kind proc a b val st : Int) (xs : List Int) (slot : Int) (fr : Int) : ∃ t0 t1 t2 t3 t4 t5 t6 ys t7 t8,
    (∀ A c W, GI W A c xs → Calls Try.prog 20 #[.agg #[.int .u64 tk, .int .i64 kind, .int .i64 proc, .int .i64 a, .int .i64 b, .int .u64 val, .int .i64 st, .slice A xs.length c, .int .i64 slot], .int .i64 fr] W (RetR W t0 t1 t2 t3 t4 t5 t6 ys t7 t8)) ∧
    (∀ A c W, GI W A c xs → Calls Try.prog 24 #[.agg #[.int .u64 tk, .int .i64 kind, .int .i64 proc, .int .i64 a, .int .i64 b, .int .u64 val, .int .i64 st, .slice A xs.length c, .int .i64 slot], .int .i64 fr] W (RetR W t0 t1 t2 t3 t4 t5 t6 ys t7 t8)) := by
  by_cases h : giveE tk kind proc a b val st xs slot fr = 0
  · exact ⟨_, _, _, _, _, _, _, _, _, _, fun A c W hW => Give_ok tk kind proc a b val st A c xs slot fr W hW h, fun A c W hW => sGive_ok tk kind proc a b val st A c xs slot fr W hW h⟩
  · exact ⟨_, _, _, _, _, _, _, _, _, _, fun A c W hW => Give_bad tk kind proc a b val st A c xs slot fr W hW h, fun A c W hW => sGive_bad tk kind proc a b val st A c xs slot fr W hW h⟩

theorem Claim_both (tk kind proc a b val st : Int) (xs : List Int) (slot : Int) (sl : Int) : ∃ t0 t1 t2 t3 t4 t5 t6 ys t7 t8,
    (∀ A c W, GI W A c xs → Calls Try.prog 9 #[.agg #[.int .u64 tk, .int .i64 kind, .int .i64 proc, .int .i64 a, .int .i64 b, .int .u64 val, .int .i64 st, .slice A xs.length c, .int .i64 slot], .int .i64 sl] W (RetR W t0 t1 t2 t3 t4 t5 t6 ys t7 t8)) ∧
    (∀ A c W, GI W A c xs → Calls Try.prog 25 #[.agg #[.int .u64 tk, .int .i64 kind, .int .i64 proc, .int .i64 a, .int .i64 b, .int .u64 val, .int .i64 st, .slice A xs.length c, .int .i64 slot], .int .i64 sl] W (RetR W t0 t1 t2 t3 t4 t5 t6 ys t7 t8)) := by
  by_cases h : waitE tk kind proc a b val st xs slot sl 3 = 0
  · exact ⟨_, _, _, _, _, _, _, _, _, _, fun A c W hW => Claim_ok tk kind proc a b val st A c xs slot sl W hW h, fun A c W hW => sClaim_ok tk kind proc a b val st A c xs slot sl W hW h⟩
  · exact ⟨_, _, _, _, _, _, _, _, _, _, fun A c W hW => Claim_bad tk kind proc a b val st A c xs slot sl W hW h, fun A c W hW => sClaim_bad tk kind proc a b val st A c xs slot sl W hW h⟩

theorem Read_both (tk kind proc a b val st : Int) (xs : List Int) (slot : Int) (sl : Int) : ∃ t0 t1 t2 t3 t4 t5 t6 ys t7 t8,
    (∀ A c W, GI W A c xs → Calls Try.prog 21 #[.agg #[.int .u64 tk, .int .i64 kind, .int .i64 proc, .int .i64 a, .int .i64 b, .int .u64 val, .int .i64 st, .slice A xs.length c, .int .i64 slot], .int .i64 sl] W (RetR W t0 t1 t2 t3 t4 t5 t6 ys t7 t8)) ∧
    (∀ A c W, GI W A c xs → Calls Try.prog 26 #[.agg #[.int .u64 tk, .int .i64 kind, .int .i64 proc, .int .i64 a, .int .i64 b, .int .u64 val, .int .i64 st, .slice A xs.length c, .int .i64 slot], .int .i64 sl] W (RetR W t0 t1 t2 t3 t4 t5 t6 ys t7 t8)) := by
  by_cases h : waitE tk kind proc a b val st xs slot sl 4 = 0
  · exact ⟨_, _, _, _, _, _, _, _, _, _, fun A c W hW => Read_ok tk kind proc a b val st A c xs slot sl W hW h, fun A c W hW => sRead_ok tk kind proc a b val st A c xs slot sl W hW h⟩
  · exact ⟨_, _, _, _, _, _, _, _, _, _, fun A c W hW => Read_bad tk kind proc a b val st A c xs slot sl W hW h, fun A c W hW => sRead_bad tk kind proc a b val st A c xs slot sl W hW h⟩

theorem Lose_both (tk kind proc a b val st : Int) (xs : List Int) (slot : Int)  : ∃ t0 t1 t2 t3 t4 t5 t6 ys t7 t8,
    (∀ A c W, GI W A c xs → Calls Try.prog 12 #[.agg #[.int .u64 tk, .int .i64 kind, .int .i64 proc, .int .i64 a, .int .i64 b, .int .u64 val, .int .i64 st, .slice A xs.length c, .int .i64 slot]] W (RetR W t0 t1 t2 t3 t4 t5 t6 ys t7 t8)) ∧
    (∀ A c W, GI W A c xs → Calls Try.prog 27 #[.agg #[.int .u64 tk, .int .i64 kind, .int .i64 proc, .int .i64 a, .int .i64 b, .int .u64 val, .int .i64 st, .slice A xs.length c, .int .i64 slot]] W (RetR W t0 t1 t2 t3 t4 t5 t6 ys t7 t8)) := by
  by_cases h : loseE tk kind proc a b val st xs slot = 0
  · exact ⟨_, _, _, _, _, _, _, _, _, _, fun A c W hW => Lose_ok tk kind proc a b val st A c xs slot  W hW h, fun A c W hW => sLose_ok tk kind proc a b val st A c xs slot  W hW h⟩
  · exact ⟨_, _, _, _, _, _, _, _, _, _, fun A c W hW => Lose_bad tk kind proc a b val st A c xs slot  W hW h, fun A c W hW => sLose_bad tk kind proc a b val st A c xs slot  W hW h⟩

set_option maxRecDepth 100000 in
set_option maxHeartbeats 8000000 in
theorem FaultSteps_walk (tk kind proc a b val st : Int) (A : Option Addr) (c : Nat) (xs : List Int) (slot : Int) (frame sl : Int) (w : World) (ha : GI w A c xs) : Calls Try.prog 6 #[.agg #[.int .u64 tk, .int .i64 kind, .int .i64 proc, .int .i64 a, .int .i64 b, .int .u64 val, .int .i64 st, .slice A xs.length c, .int .i64 slot], .int .i64 frame, .int .i64 sl] w (RetB w (.returned (.bool true))) := by
  have hl := ha.len
  have hQ := Bx.new w 27 #[.int .u64 tk, .int .i64 kind, .int .i64 proc, .int .i64 a, .int .i64 b, .int .u64 val, .int .i64 st, .slice A xs.length c, .int .i64 slot]
  have hw := al w (.cells #[.int .u64 tk, .int .i64 kind, .int .i64 proc, .int .i64 a, .int .i64 b, .int .u64 val, .int .i64 st, .slice A xs.length c, .int .i64 slot] 27)
  have c7 : (w.alloc (.cells #[.int .u64 tk, .int .i64 kind, .int .i64 proc, .int .i64 a, .int .i64 b, .int .u64 val, .int .i64 st, .slice A xs.length c, .int .i64 slot] 27)).cell? ⟨w.heap.size, 7, none⟩ = some (.slice A xs.length c) := hQ.cell 7
  by_cases h12 : (xs.length : Int) ≤ 12
  · have d12 : decide (12 < (xs.length : Int)) = false := by simp; omega
    obtain ⟨g0, g1, g2, g3, g4, g5, g6, gy, g7, g8, hp, hs⟩ := Give_both tk kind proc a b val st xs slot frame
    have HG := Lib.hid hp
    have HSG := Lib.hid hs
    clear hp hs
    have eg : (g8 == g8) = true := by simp
    have fg : (g8 != g8) = false := by simp
    obtain ⟨k0, k1, k2, k3, k4, k5, k6, ky, k7, k8, hp, hs⟩ := Claim_both tk kind proc a b val st xs slot sl
    have HK := Lib.hid hp
    have HSK := Lib.hid hs
    clear hp hs
    have ek : (k8 == k8) = true := by simp
    have fk : (k8 != k8) = false := by simp
    obtain ⟨r0, r1, r2, r3, r4, r5, r6, ry, r7, r8, hp, hs⟩ := Read_both tk kind proc a b val st xs slot sl
    have HR := Lib.hid hp
    have HSR := Lib.hid hs
    clear hp hs
    have er : (r8 == r8) = true := by simp
    have fr : (r8 != r8) = false := by simp
    obtain ⟨l0, l1, l2, l3, l4, l5, l6, ly, l7, l8, hp, hs⟩ := Lose_both tk kind proc a b val st xs slot 
    have HL := Lib.hid hp
    have HSL := Lib.hid hs
    clear hp hs
    have el : (l8 == l8) = true := by simp
    have fl : (l8 != l8) = false := by simp
    go_enter Try.func6, Try.ntmps6
    go_wp2_with (first | (refine wpList_load_row rfl 27 _ rfl (w.heap.size) rfl 27 _ _ _ hQ Try.underlying27 rfl req_size ?_))
    refine (ownRequest_any tk kind proc a b val st A c xs slot _ (ha.below hw) (by omega)).mono ?_
    rintro e v1 ⟨A7, c7, rfl, ho7, hb⟩
    replace hQ := hQ.below hb
    replace hw := below_step hw hb
    clear hb
    have hn := Bx.new v1 27 #[.int .u64 0, .int .i64 0, .int .i64 0, .int .i64 0, .int .i64 0, .int .u64 0, .int .i64 0, .slice none 0 0, .int .i64 0]
    have hlt := hQ.lt
    replace hQ := hQ.alloc (.cells #[.int .u64 tk, .int .i64 kind, .int .i64 proc, .int .i64 a, .int .i64 b, .int .u64 val, .int .i64 st, .slice A7 xs.length c7, .int .i64 slot] 27)
    replace ho7 := ho7.alloc (.cells #[.int .u64 tk, .int .i64 kind, .int .i64 proc, .int .i64 a, .int .i64 b, .int .u64 val, .int .i64 st, .slice A7 xs.length c7, .int .i64 slot] 27)
    have hX := Bx.new v1 27 #[.int .u64 tk, .int .i64 kind, .int .i64 proc, .int .i64 a, .int .i64 b, .int .u64 val, .int .i64 st, .slice A7 xs.length c7, .int .i64 slot]
    replace hw := below_step hw (al _ (.cells #[.int .u64 tk, .int .i64 kind, .int .i64 proc, .int .i64 a, .int .i64 b, .int .u64 val, .int .i64 st, .slice A7 xs.length c7, .int .i64 slot] 27))
    go_wp2_with (first | (refine wpList_store_row rfl 27 _ _ rfl v1.heap.size _ rfl rfl 27 _ hn req_size rfl (by simp [Value.oneCell']) ?_; rw [World.setRow_alloc_new]; simp only [Act.put]) | (refine wpList_load_row rfl 27 _ rfl (v1.heap.size) rfl 27 _ _ _ hX Try.underlying27 rfl req_size ?_))
    refine (HG.out _ _ _ (OwnI.gi ho7)).mono ?_
    rintro e v2 ⟨A8, c8, rfl, ho8, hb⟩
    replace hQ := hQ.below hb
    replace hX := hX.below hb
    replace ho7 := ho7.below hb
    replace hw := below_step hw hb
    clear hb
    clear hn
    generalize v1.heap.size = B7 at *
    have d7 := hlt
    clear hlt
    have hn := Bx.new v2 27 #[.int .u64 0, .int .i64 0, .int .i64 0, .int .i64 0, .int .i64 0, .int .u64 0, .int .i64 0, .slice none 0 0, .int .i64 0]
    have hlt := hX.lt
    replace hQ := hQ.alloc (.cells #[.int .u64 g0, .int .i64 g1, .int .i64 g2, .int .i64 g3, .int .i64 g4, .int .u64 g5, .int .i64 g6, .slice A8 gy.length c8, .int .i64 g7] 27)
    replace hX := hX.alloc (.cells #[.int .u64 g0, .int .i64 g1, .int .i64 g2, .int .i64 g3, .int .i64 g4, .int .u64 g5, .int .i64 g6, .slice A8 gy.length c8, .int .i64 g7] 27)
    replace ho7 := ho7.alloc (.cells #[.int .u64 g0, .int .i64 g1, .int .i64 g2, .int .i64 g3, .int .i64 g4, .int .u64 g5, .int .i64 g6, .slice A8 gy.length c8, .int .i64 g7] 27)
    replace ho8 := ho8.alloc (.cells #[.int .u64 g0, .int .i64 g1, .int .i64 g2, .int .i64 g3, .int .i64 g4, .int .u64 g5, .int .i64 g6, .slice A8 gy.length c8, .int .i64 g7] 27)
    have hB8 := Bx.new v2 27 #[.int .u64 g0, .int .i64 g1, .int .i64 g2, .int .i64 g3, .int .i64 g4, .int .u64 g5, .int .i64 g6, .slice A8 gy.length c8, .int .i64 g7]
    replace hw := below_step hw (al _ (.cells #[.int .u64 g0, .int .i64 g1, .int .i64 g2, .int .i64 g3, .int .i64 g4, .int .u64 g5, .int .i64 g6, .slice A8 gy.length c8, .int .i64 g7] 27))
    go_wp2_with (first | (refine wpList_store_row rfl 27 _ _ rfl v2.heap.size _ rfl rfl 27 _ hn req_size rfl (by simp [Value.oneCell']) ?_; rw [World.setRow_alloc_new]; simp only [Act.put]) | (refine wpList_load_row rfl 27 _ rfl (w.heap.size) rfl 27 _ _ _ hQ Try.underlying27 rfl req_size ?_))
    refine (HSG.out _ _ _ (ha.below hw)).mono ?_
    rintro e v3 ⟨A10, c10, rfl, ho10, hb⟩
    replace hQ := hQ.below hb
    replace hX := hX.below hb
    replace hB8 := hB8.below hb
    replace ho7 := ho7.below hb
    replace ho8 := ho8.below hb
    replace hw := below_step hw hb
    clear hb
    clear hn
    generalize v2.heap.size = B8 at *
    have d8 := hlt
    clear hlt
    have hn := Bx.new v3 27 #[.int .u64 0, .int .i64 0, .int .i64 0, .int .i64 0, .int .i64 0, .int .u64 0, .int .i64 0, .slice none 0 0, .int .i64 0]
    have hlt := hB8.lt
    replace hQ := hQ.alloc (.cells #[.int .u64 g0, .int .i64 g1, .int .i64 g2, .int .i64 g3, .int .i64 g4, .int .u64 g5, .int .i64 g6, .slice A10 gy.length c10, .int .i64 g7] 27)
    replace hX := hX.alloc (.cells #[.int .u64 g0, .int .i64 g1, .int .i64 g2, .int .i64 g3, .int .i64 g4, .int .u64 g5, .int .i64 g6, .slice A10 gy.length c10, .int .i64 g7] 27)
    replace hB8 := hB8.alloc (.cells #[.int .u64 g0, .int .i64 g1, .int .i64 g2, .int .i64 g3, .int .i64 g4, .int .u64 g5, .int .i64 g6, .slice A10 gy.length c10, .int .i64 g7] 27)
    replace ho7 := ho7.alloc (.cells #[.int .u64 g0, .int .i64 g1, .int .i64 g2, .int .i64 g3, .int .i64 g4, .int .u64 g5, .int .i64 g6, .slice A10 gy.length c10, .int .i64 g7] 27)
    replace ho8 := ho8.alloc (.cells #[.int .u64 g0, .int .i64 g1, .int .i64 g2, .int .i64 g3, .int .i64 g4, .int .u64 g5, .int .i64 g6, .slice A10 gy.length c10, .int .i64 g7] 27)
    replace ho10 := ho10.alloc (.cells #[.int .u64 g0, .int .i64 g1, .int .i64 g2, .int .i64 g3, .int .i64 g4, .int .u64 g5, .int .i64 g6, .slice A10 gy.length c10, .int .i64 g7] 27)
    have hB10 := Bx.new v3 27 #[.int .u64 g0, .int .i64 g1, .int .i64 g2, .int .i64 g3, .int .i64 g4, .int .u64 g5, .int .i64 g6, .slice A10 gy.length c10, .int .i64 g7]
    replace hw := below_step hw (al _ (.cells #[.int .u64 g0, .int .i64 g1, .int .i64 g2, .int .i64 g3, .int .i64 g4, .int .u64 g5, .int .i64 g6, .slice A10 gy.length c10, .int .i64 g7] 27))
    go_wp2_with (first | (refine wpList_store_row rfl 27 _ _ rfl v3.heap.size _ rfl rfl 27 _ hn req_size rfl (by simp [Value.oneCell']) ?_; rw [World.setRow_alloc_new]; simp only [Act.put]) | (refine wpList_load_row rfl 27 _ rfl (B7) rfl 27 _ _ _ hX Try.underlying27 rfl req_size ?_))
    refine (HK.out _ _ _ (OwnI.gi ho7)).mono ?_
    rintro e v4 ⟨A12, c12, rfl, ho12, hb⟩
    replace hQ := hQ.below hb
    replace hX := hX.below hb
    replace hB8 := hB8.below hb
    replace hB10 := hB10.below hb
    replace ho7 := ho7.below hb
    replace ho8 := ho8.below hb
    replace ho10 := ho10.below hb
    replace hw := below_step hw hb
    clear hb
    clear hn
    generalize v3.heap.size = B10 at *
    have d10 := hlt
    clear hlt
    have hn := Bx.new v4 27 #[.int .u64 0, .int .i64 0, .int .i64 0, .int .i64 0, .int .i64 0, .int .u64 0, .int .i64 0, .slice none 0 0, .int .i64 0]
    have hlt := hB10.lt
    replace hQ := hQ.alloc (.cells #[.int .u64 k0, .int .i64 k1, .int .i64 k2, .int .i64 k3, .int .i64 k4, .int .u64 k5, .int .i64 k6, .slice A12 ky.length c12, .int .i64 k7] 27)
    replace hX := hX.alloc (.cells #[.int .u64 k0, .int .i64 k1, .int .i64 k2, .int .i64 k3, .int .i64 k4, .int .u64 k5, .int .i64 k6, .slice A12 ky.length c12, .int .i64 k7] 27)
    replace hB8 := hB8.alloc (.cells #[.int .u64 k0, .int .i64 k1, .int .i64 k2, .int .i64 k3, .int .i64 k4, .int .u64 k5, .int .i64 k6, .slice A12 ky.length c12, .int .i64 k7] 27)
    replace hB10 := hB10.alloc (.cells #[.int .u64 k0, .int .i64 k1, .int .i64 k2, .int .i64 k3, .int .i64 k4, .int .u64 k5, .int .i64 k6, .slice A12 ky.length c12, .int .i64 k7] 27)
    replace ho7 := ho7.alloc (.cells #[.int .u64 k0, .int .i64 k1, .int .i64 k2, .int .i64 k3, .int .i64 k4, .int .u64 k5, .int .i64 k6, .slice A12 ky.length c12, .int .i64 k7] 27)
    replace ho8 := ho8.alloc (.cells #[.int .u64 k0, .int .i64 k1, .int .i64 k2, .int .i64 k3, .int .i64 k4, .int .u64 k5, .int .i64 k6, .slice A12 ky.length c12, .int .i64 k7] 27)
    replace ho10 := ho10.alloc (.cells #[.int .u64 k0, .int .i64 k1, .int .i64 k2, .int .i64 k3, .int .i64 k4, .int .u64 k5, .int .i64 k6, .slice A12 ky.length c12, .int .i64 k7] 27)
    replace ho12 := ho12.alloc (.cells #[.int .u64 k0, .int .i64 k1, .int .i64 k2, .int .i64 k3, .int .i64 k4, .int .u64 k5, .int .i64 k6, .slice A12 ky.length c12, .int .i64 k7] 27)
    have hB12 := Bx.new v4 27 #[.int .u64 k0, .int .i64 k1, .int .i64 k2, .int .i64 k3, .int .i64 k4, .int .u64 k5, .int .i64 k6, .slice A12 ky.length c12, .int .i64 k7]
    replace hw := below_step hw (al _ (.cells #[.int .u64 k0, .int .i64 k1, .int .i64 k2, .int .i64 k3, .int .i64 k4, .int .u64 k5, .int .i64 k6, .slice A12 ky.length c12, .int .i64 k7] 27))
    go_wp2_with (first | (refine wpList_store_row rfl 27 _ _ rfl v4.heap.size _ rfl rfl 27 _ hn req_size rfl (by simp [Value.oneCell']) ?_; rw [World.setRow_alloc_new]; simp only [Act.put]) | (refine wpList_load_row rfl 27 _ rfl (w.heap.size) rfl 27 _ _ _ hQ Try.underlying27 rfl req_size ?_))
    refine (HSK.out _ _ _ (ha.below hw)).mono ?_
    rintro e v5 ⟨A14, c14, rfl, ho14, hb⟩
    replace hQ := hQ.below hb
    replace hX := hX.below hb
    replace hB8 := hB8.below hb
    replace hB10 := hB10.below hb
    replace hB12 := hB12.below hb
    replace ho7 := ho7.below hb
    replace ho8 := ho8.below hb
    replace ho10 := ho10.below hb
    replace ho12 := ho12.below hb
    replace hw := below_step hw hb
    clear hb
    clear hn
    generalize v4.heap.size = B12 at *
    have d12 := hlt
    clear hlt
    have hn := Bx.new v5 27 #[.int .u64 0, .int .i64 0, .int .i64 0, .int .i64 0, .int .i64 0, .int .u64 0, .int .i64 0, .slice none 0 0, .int .i64 0]
    have hlt := hB12.lt
    replace hQ := hQ.alloc (.cells #[.int .u64 k0, .int .i64 k1, .int .i64 k2, .int .i64 k3, .int .i64 k4, .int .u64 k5, .int .i64 k6, .slice A14 ky.length c14, .int .i64 k7] 27)
    replace hX := hX.alloc (.cells #[.int .u64 k0, .int .i64 k1, .int .i64 k2, .int .i64 k3, .int .i64 k4, .int .u64 k5, .int .i64 k6, .slice A14 ky.length c14, .int .i64 k7] 27)
    replace hB8 := hB8.alloc (.cells #[.int .u64 k0, .int .i64 k1, .int .i64 k2, .int .i64 k3, .int .i64 k4, .int .u64 k5, .int .i64 k6, .slice A14 ky.length c14, .int .i64 k7] 27)
    replace hB10 := hB10.alloc (.cells #[.int .u64 k0, .int .i64 k1, .int .i64 k2, .int .i64 k3, .int .i64 k4, .int .u64 k5, .int .i64 k6, .slice A14 ky.length c14, .int .i64 k7] 27)
    replace hB12 := hB12.alloc (.cells #[.int .u64 k0, .int .i64 k1, .int .i64 k2, .int .i64 k3, .int .i64 k4, .int .u64 k5, .int .i64 k6, .slice A14 ky.length c14, .int .i64 k7] 27)
    replace ho7 := ho7.alloc (.cells #[.int .u64 k0, .int .i64 k1, .int .i64 k2, .int .i64 k3, .int .i64 k4, .int .u64 k5, .int .i64 k6, .slice A14 ky.length c14, .int .i64 k7] 27)
    replace ho8 := ho8.alloc (.cells #[.int .u64 k0, .int .i64 k1, .int .i64 k2, .int .i64 k3, .int .i64 k4, .int .u64 k5, .int .i64 k6, .slice A14 ky.length c14, .int .i64 k7] 27)
    replace ho10 := ho10.alloc (.cells #[.int .u64 k0, .int .i64 k1, .int .i64 k2, .int .i64 k3, .int .i64 k4, .int .u64 k5, .int .i64 k6, .slice A14 ky.length c14, .int .i64 k7] 27)
    replace ho12 := ho12.alloc (.cells #[.int .u64 k0, .int .i64 k1, .int .i64 k2, .int .i64 k3, .int .i64 k4, .int .u64 k5, .int .i64 k6, .slice A14 ky.length c14, .int .i64 k7] 27)
    replace ho14 := ho14.alloc (.cells #[.int .u64 k0, .int .i64 k1, .int .i64 k2, .int .i64 k3, .int .i64 k4, .int .u64 k5, .int .i64 k6, .slice A14 ky.length c14, .int .i64 k7] 27)
    have hB14 := Bx.new v5 27 #[.int .u64 k0, .int .i64 k1, .int .i64 k2, .int .i64 k3, .int .i64 k4, .int .u64 k5, .int .i64 k6, .slice A14 ky.length c14, .int .i64 k7]
    replace hw := below_step hw (al _ (.cells #[.int .u64 k0, .int .i64 k1, .int .i64 k2, .int .i64 k3, .int .i64 k4, .int .u64 k5, .int .i64 k6, .slice A14 ky.length c14, .int .i64 k7] 27))
    go_wp2_with (first | (refine wpList_store_row rfl 27 _ _ rfl v5.heap.size _ rfl rfl 27 _ hn req_size rfl (by simp [Value.oneCell']) ?_; rw [World.setRow_alloc_new]; simp only [Act.put]) | (refine wpList_load_row rfl 27 _ rfl (B8) rfl 27 _ _ _ hB8 Try.underlying27 rfl req_size ?_) | (refine wpList_load_row rfl 27 _ rfl (B10) rfl 27 _ _ _ hB10 Try.underlying27 rfl req_size ?_))
    refine (SameRequest_yes g0 g1 g2 g3 g4 g5 g6 A8 c8 gy g7 A10 c10 _ (OwnI.gi ho8) (OwnI.gi ho10)).mono ?_
    rintro e v6 ⟨rfl, hb⟩
    replace hQ := hQ.below hb
    replace hX := hX.below hb
    replace hB8 := hB8.below hb
    replace hB10 := hB10.below hb
    replace hB12 := hB12.below hb
    replace hB14 := hB14.below hb
    replace ho7 := ho7.below hb
    replace ho8 := ho8.below hb
    replace ho10 := ho10.below hb
    replace ho12 := ho12.below hb
    replace ho14 := ho14.below hb
    replace hw := below_step hw hb
    clear hb
    clear hn
    generalize v5.heap.size = B14 at *
    have d14 := hlt
    clear hlt
    obtain ⟨p0, p1, p2, p3, p4, p5, p6, p7, p8⟩ := s9 hB12
    obtain ⟨q0, q1, q2, q3, q4, q5, q6, q7, q8⟩ := s9 hB14
    go_wp2_with (first | (refine wpList_load_row rfl 27 _ rfl (B12) rfl 27 _ _ _ hB12 Try.underlying27 rfl req_size ?_) | (refine wpList_load_row rfl 27 _ rfl (B14) rfl 27 _ _ _ hB14 Try.underlying27 rfl req_size ?_))
    refine (SameRequest_yes k0 k1 k2 k3 k4 k5 k6 A12 c12 ky k7 A14 c14 _ (OwnI.gi ho12) (OwnI.gi ho14)).mono ?_
    rintro e v7 ⟨rfl, hb⟩
    replace hQ := hQ.below hb
    replace hX := hX.below hb
    replace hB8 := hB8.below hb
    replace hB10 := hB10.below hb
    replace hB12 := hB12.below hb
    replace hB14 := hB14.below hb
    replace ho7 := ho7.below hb
    replace ho8 := ho8.below hb
    replace ho10 := ho10.below hb
    replace ho12 := ho12.below hb
    replace ho14 := ho14.below hb
    replace hw := below_step hw hb
    clear hb
    clear p0 p1 p2 p3 p4 p5 p6 p7 p8 q0 q1 q2 q3 q4 q5 q6 q7 q8
    clear ho8 ho10 ho12 ho14
    go_wp2_with (first | (refine wpList_load_row rfl 27 _ rfl (B7) rfl 27 _ _ _ hX Try.underlying27 rfl req_size ?_))
    refine (HR.out _ _ _ (OwnI.gi ho7)).mono ?_
    rintro e v8 ⟨A8, c8, rfl, ho8, hb⟩
    replace hQ := hQ.below hb
    replace hX := hX.below hb
    replace hB8 := hB8.below hb
    replace hB10 := hB10.below hb
    replace hB12 := hB12.below hb
    replace hB14 := hB14.below hb
    replace ho7 := ho7.below hb
    replace hw := below_step hw hb
    clear hb
    have hn := hB8
    replace hQ := hQ.rowO (g := B8) (by omega) #[.int .u64 r0, .int .i64 r1, .int .i64 r2, .int .i64 r3, .int .i64 r4, .int .u64 r5, .int .i64 r6, .slice A8 ry.length c8, .int .i64 r7]
    replace hX := hX.rowO (g := B8) (by omega) #[.int .u64 r0, .int .i64 r1, .int .i64 r2, .int .i64 r3, .int .i64 r4, .int .u64 r5, .int .i64 r6, .slice A8 ry.length c8, .int .i64 r7]
    replace hB10 := hB10.rowO (g := B8) (by omega) #[.int .u64 r0, .int .i64 r1, .int .i64 r2, .int .i64 r3, .int .i64 r4, .int .u64 r5, .int .i64 r6, .slice A8 ry.length c8, .int .i64 r7]
    replace hB12 := hB12.rowO (g := B8) (by omega) #[.int .u64 r0, .int .i64 r1, .int .i64 r2, .int .i64 r3, .int .i64 r4, .int .u64 r5, .int .i64 r6, .slice A8 ry.length c8, .int .i64 r7]
    replace hB14 := hB14.rowO (g := B8) (by omega) #[.int .u64 r0, .int .i64 r1, .int .i64 r2, .int .i64 r3, .int .i64 r4, .int .u64 r5, .int .i64 r6, .slice A8 ry.length c8, .int .i64 r7]
    replace ho7 := Own.rowT ho7 hn (by decide) #[.int .u64 r0, .int .i64 r1, .int .i64 r2, .int .i64 r3, .int .i64 r4, .int .u64 r5, .int .i64 r6, .slice A8 ry.length c8, .int .i64 r7]
    replace ho8 := Own.rowT ho8 hn (by decide) #[.int .u64 r0, .int .i64 r1, .int .i64 r2, .int .i64 r3, .int .i64 r4, .int .u64 r5, .int .i64 r6, .slice A8 ry.length c8, .int .i64 r7]
    replace hB8 := hn.row #[.int .u64 r0, .int .i64 r1, .int .i64 r2, .int .i64 r3, .int .i64 r4, .int .u64 r5, .int .i64 r6, .slice A8 ry.length c8, .int .i64 r7]
    replace hw := below_setRow hw (g := B8) (by omega) #[.int .u64 r0, .int .i64 r1, .int .i64 r2, .int .i64 r3, .int .i64 r4, .int .u64 r5, .int .i64 r6, .slice A8 ry.length c8, .int .i64 r7]
    go_wp2_with (first | (refine wpList_store_row rfl 27 _ _ rfl B8 _ rfl rfl 27 _ hn req_size rfl (by simp [Value.oneCell']) ?_; simp only [Act.put]) | (refine wpList_load_row rfl 27 _ rfl (w.heap.size) rfl 27 _ _ _ hQ Try.underlying27 rfl req_size ?_))
    refine (HSR.out _ _ _ (ha.below hw)).mono ?_
    rintro e v9 ⟨A10, c10, rfl, ho10, hb⟩
    replace hQ := hQ.below hb
    replace hX := hX.below hb
    replace hB8 := hB8.below hb
    replace hB10 := hB10.below hb
    replace hB12 := hB12.below hb
    replace hB14 := hB14.below hb
    replace ho7 := ho7.below hb
    replace ho8 := ho8.below hb
    replace hw := below_step hw hb
    clear hb
    clear hn
    have hn := hB10
    replace hQ := hQ.rowO (g := B10) (by omega) #[.int .u64 r0, .int .i64 r1, .int .i64 r2, .int .i64 r3, .int .i64 r4, .int .u64 r5, .int .i64 r6, .slice A10 ry.length c10, .int .i64 r7]
    replace hX := hX.rowO (g := B10) (by omega) #[.int .u64 r0, .int .i64 r1, .int .i64 r2, .int .i64 r3, .int .i64 r4, .int .u64 r5, .int .i64 r6, .slice A10 ry.length c10, .int .i64 r7]
    replace hB8 := hB8.rowO (g := B10) (by omega) #[.int .u64 r0, .int .i64 r1, .int .i64 r2, .int .i64 r3, .int .i64 r4, .int .u64 r5, .int .i64 r6, .slice A10 ry.length c10, .int .i64 r7]
    replace hB12 := hB12.rowO (g := B10) (by omega) #[.int .u64 r0, .int .i64 r1, .int .i64 r2, .int .i64 r3, .int .i64 r4, .int .u64 r5, .int .i64 r6, .slice A10 ry.length c10, .int .i64 r7]
    replace hB14 := hB14.rowO (g := B10) (by omega) #[.int .u64 r0, .int .i64 r1, .int .i64 r2, .int .i64 r3, .int .i64 r4, .int .u64 r5, .int .i64 r6, .slice A10 ry.length c10, .int .i64 r7]
    replace ho7 := Own.rowT ho7 hn (by decide) #[.int .u64 r0, .int .i64 r1, .int .i64 r2, .int .i64 r3, .int .i64 r4, .int .u64 r5, .int .i64 r6, .slice A10 ry.length c10, .int .i64 r7]
    replace ho8 := Own.rowT ho8 hn (by decide) #[.int .u64 r0, .int .i64 r1, .int .i64 r2, .int .i64 r3, .int .i64 r4, .int .u64 r5, .int .i64 r6, .slice A10 ry.length c10, .int .i64 r7]
    replace ho10 := Own.rowT ho10 hn (by decide) #[.int .u64 r0, .int .i64 r1, .int .i64 r2, .int .i64 r3, .int .i64 r4, .int .u64 r5, .int .i64 r6, .slice A10 ry.length c10, .int .i64 r7]
    replace hB10 := hn.row #[.int .u64 r0, .int .i64 r1, .int .i64 r2, .int .i64 r3, .int .i64 r4, .int .u64 r5, .int .i64 r6, .slice A10 ry.length c10, .int .i64 r7]
    replace hw := below_setRow hw (g := B10) (by omega) #[.int .u64 r0, .int .i64 r1, .int .i64 r2, .int .i64 r3, .int .i64 r4, .int .u64 r5, .int .i64 r6, .slice A10 ry.length c10, .int .i64 r7]
    go_wp2_with (first | (refine wpList_store_row rfl 27 _ _ rfl B10 _ rfl rfl 27 _ hn req_size rfl (by simp [Value.oneCell']) ?_; simp only [Act.put]) | (refine wpList_load_row rfl 27 _ rfl (B7) rfl 27 _ _ _ hX Try.underlying27 rfl req_size ?_))
    refine (HL.out _ _ _ (OwnI.gi ho7)).mono ?_
    rintro e v10 ⟨A12, c12, rfl, ho12, hb⟩
    replace hQ := hQ.below hb
    replace hX := hX.below hb
    replace hB8 := hB8.below hb
    replace hB10 := hB10.below hb
    replace hB12 := hB12.below hb
    replace hB14 := hB14.below hb
    replace ho7 := ho7.below hb
    replace ho8 := ho8.below hb
    replace ho10 := ho10.below hb
    replace hw := below_step hw hb
    clear hb
    clear hn
    have hn := hB12
    replace hQ := hQ.rowO (g := B12) (by omega) #[.int .u64 l0, .int .i64 l1, .int .i64 l2, .int .i64 l3, .int .i64 l4, .int .u64 l5, .int .i64 l6, .slice A12 ly.length c12, .int .i64 l7]
    replace hX := hX.rowO (g := B12) (by omega) #[.int .u64 l0, .int .i64 l1, .int .i64 l2, .int .i64 l3, .int .i64 l4, .int .u64 l5, .int .i64 l6, .slice A12 ly.length c12, .int .i64 l7]
    replace hB8 := hB8.rowO (g := B12) (by omega) #[.int .u64 l0, .int .i64 l1, .int .i64 l2, .int .i64 l3, .int .i64 l4, .int .u64 l5, .int .i64 l6, .slice A12 ly.length c12, .int .i64 l7]
    replace hB10 := hB10.rowO (g := B12) (by omega) #[.int .u64 l0, .int .i64 l1, .int .i64 l2, .int .i64 l3, .int .i64 l4, .int .u64 l5, .int .i64 l6, .slice A12 ly.length c12, .int .i64 l7]
    replace hB14 := hB14.rowO (g := B12) (by omega) #[.int .u64 l0, .int .i64 l1, .int .i64 l2, .int .i64 l3, .int .i64 l4, .int .u64 l5, .int .i64 l6, .slice A12 ly.length c12, .int .i64 l7]
    replace ho7 := Own.rowT ho7 hn (by decide) #[.int .u64 l0, .int .i64 l1, .int .i64 l2, .int .i64 l3, .int .i64 l4, .int .u64 l5, .int .i64 l6, .slice A12 ly.length c12, .int .i64 l7]
    replace ho8 := Own.rowT ho8 hn (by decide) #[.int .u64 l0, .int .i64 l1, .int .i64 l2, .int .i64 l3, .int .i64 l4, .int .u64 l5, .int .i64 l6, .slice A12 ly.length c12, .int .i64 l7]
    replace ho10 := Own.rowT ho10 hn (by decide) #[.int .u64 l0, .int .i64 l1, .int .i64 l2, .int .i64 l3, .int .i64 l4, .int .u64 l5, .int .i64 l6, .slice A12 ly.length c12, .int .i64 l7]
    replace ho12 := Own.rowT ho12 hn (by decide) #[.int .u64 l0, .int .i64 l1, .int .i64 l2, .int .i64 l3, .int .i64 l4, .int .u64 l5, .int .i64 l6, .slice A12 ly.length c12, .int .i64 l7]
    replace hB12 := hn.row #[.int .u64 l0, .int .i64 l1, .int .i64 l2, .int .i64 l3, .int .i64 l4, .int .u64 l5, .int .i64 l6, .slice A12 ly.length c12, .int .i64 l7]
    replace hw := below_setRow hw (g := B12) (by omega) #[.int .u64 l0, .int .i64 l1, .int .i64 l2, .int .i64 l3, .int .i64 l4, .int .u64 l5, .int .i64 l6, .slice A12 ly.length c12, .int .i64 l7]
    go_wp2_with (first | (refine wpList_store_row rfl 27 _ _ rfl B12 _ rfl rfl 27 _ hn req_size rfl (by simp [Value.oneCell']) ?_; simp only [Act.put]) | (refine wpList_load_row rfl 27 _ rfl (w.heap.size) rfl 27 _ _ _ hQ Try.underlying27 rfl req_size ?_))
    refine (HSL.out _ _ _ (ha.below hw)).mono ?_
    rintro e v11 ⟨A14, c14, rfl, ho14, hb⟩
    replace hQ := hQ.below hb
    replace hX := hX.below hb
    replace hB8 := hB8.below hb
    replace hB10 := hB10.below hb
    replace hB12 := hB12.below hb
    replace hB14 := hB14.below hb
    replace ho7 := ho7.below hb
    replace ho8 := ho8.below hb
    replace ho10 := ho10.below hb
    replace ho12 := ho12.below hb
    replace hw := below_step hw hb
    clear hb
    clear hn
    have hn := hB14
    replace hQ := hQ.rowO (g := B14) (by omega) #[.int .u64 l0, .int .i64 l1, .int .i64 l2, .int .i64 l3, .int .i64 l4, .int .u64 l5, .int .i64 l6, .slice A14 ly.length c14, .int .i64 l7]
    replace hX := hX.rowO (g := B14) (by omega) #[.int .u64 l0, .int .i64 l1, .int .i64 l2, .int .i64 l3, .int .i64 l4, .int .u64 l5, .int .i64 l6, .slice A14 ly.length c14, .int .i64 l7]
    replace hB8 := hB8.rowO (g := B14) (by omega) #[.int .u64 l0, .int .i64 l1, .int .i64 l2, .int .i64 l3, .int .i64 l4, .int .u64 l5, .int .i64 l6, .slice A14 ly.length c14, .int .i64 l7]
    replace hB10 := hB10.rowO (g := B14) (by omega) #[.int .u64 l0, .int .i64 l1, .int .i64 l2, .int .i64 l3, .int .i64 l4, .int .u64 l5, .int .i64 l6, .slice A14 ly.length c14, .int .i64 l7]
    replace hB12 := hB12.rowO (g := B14) (by omega) #[.int .u64 l0, .int .i64 l1, .int .i64 l2, .int .i64 l3, .int .i64 l4, .int .u64 l5, .int .i64 l6, .slice A14 ly.length c14, .int .i64 l7]
    replace ho7 := Own.rowT ho7 hn (by decide) #[.int .u64 l0, .int .i64 l1, .int .i64 l2, .int .i64 l3, .int .i64 l4, .int .u64 l5, .int .i64 l6, .slice A14 ly.length c14, .int .i64 l7]
    replace ho8 := Own.rowT ho8 hn (by decide) #[.int .u64 l0, .int .i64 l1, .int .i64 l2, .int .i64 l3, .int .i64 l4, .int .u64 l5, .int .i64 l6, .slice A14 ly.length c14, .int .i64 l7]
    replace ho10 := Own.rowT ho10 hn (by decide) #[.int .u64 l0, .int .i64 l1, .int .i64 l2, .int .i64 l3, .int .i64 l4, .int .u64 l5, .int .i64 l6, .slice A14 ly.length c14, .int .i64 l7]
    replace ho12 := Own.rowT ho12 hn (by decide) #[.int .u64 l0, .int .i64 l1, .int .i64 l2, .int .i64 l3, .int .i64 l4, .int .u64 l5, .int .i64 l6, .slice A14 ly.length c14, .int .i64 l7]
    replace ho14 := Own.rowT ho14 hn (by decide) #[.int .u64 l0, .int .i64 l1, .int .i64 l2, .int .i64 l3, .int .i64 l4, .int .u64 l5, .int .i64 l6, .slice A14 ly.length c14, .int .i64 l7]
    replace hB14 := hn.row #[.int .u64 l0, .int .i64 l1, .int .i64 l2, .int .i64 l3, .int .i64 l4, .int .u64 l5, .int .i64 l6, .slice A14 ly.length c14, .int .i64 l7]
    replace hw := below_setRow hw (g := B14) (by omega) #[.int .u64 l0, .int .i64 l1, .int .i64 l2, .int .i64 l3, .int .i64 l4, .int .u64 l5, .int .i64 l6, .slice A14 ly.length c14, .int .i64 l7]
    go_wp2_with (first | (refine wpList_store_row rfl 27 _ _ rfl B14 _ rfl rfl 27 _ hn req_size rfl (by simp [Value.oneCell']) ?_; simp only [Act.put]) | (refine wpList_load_row rfl 27 _ rfl (B8) rfl 27 _ _ _ hB8 Try.underlying27 rfl req_size ?_) | (refine wpList_load_row rfl 27 _ rfl (B10) rfl 27 _ _ _ hB10 Try.underlying27 rfl req_size ?_))
    refine (SameRequest_yes r0 r1 r2 r3 r4 r5 r6 A8 c8 ry r7 A10 c10 _ (OwnI.gi ho8) (OwnI.gi ho10)).mono ?_
    rintro e v12 ⟨rfl, hb⟩
    replace hQ := hQ.below hb
    replace hX := hX.below hb
    replace hB8 := hB8.below hb
    replace hB10 := hB10.below hb
    replace hB12 := hB12.below hb
    replace hB14 := hB14.below hb
    replace ho7 := ho7.below hb
    replace ho8 := ho8.below hb
    replace ho10 := ho10.below hb
    replace ho12 := ho12.below hb
    replace ho14 := ho14.below hb
    replace hw := below_step hw hb
    clear hb
    clear hn
    obtain ⟨p0, p1, p2, p3, p4, p5, p6, p7, p8⟩ := s9 hB12
    obtain ⟨q0, q1, q2, q3, q4, q5, q6, q7, q8⟩ := s9 hB14
    go_wp2_with (first | (refine wpList_load_row rfl 27 _ rfl (B12) rfl 27 _ _ _ hB12 Try.underlying27 rfl req_size ?_) | (refine wpList_load_row rfl 27 _ rfl (B14) rfl 27 _ _ _ hB14 Try.underlying27 rfl req_size ?_))
    refine (SameRequest_yes l0 l1 l2 l3 l4 l5 l6 A12 c12 ly l7 A14 c14 _ (OwnI.gi ho12) (OwnI.gi ho14)).mono ?_
    rintro e v13 ⟨rfl, hb⟩
    replace hQ := hQ.below hb
    replace hX := hX.below hb
    replace hB8 := hB8.below hb
    replace hB10 := hB10.below hb
    replace hB12 := hB12.below hb
    replace hB14 := hB14.below hb
    replace ho7 := ho7.below hb
    replace ho8 := ho8.below hb
    replace ho10 := ho10.below hb
    replace ho12 := ho12.below hb
    replace ho14 := ho14.below hb
    replace hw := below_step hw hb
    clear hb
    clear p0 p1 p2 p3 p4 p5 p6 p7 p8 q0 q1 q2 q3 q4 q5 q6 q7 q8
    obtain ⟨p0, p1, p2, p3, p4, p5, p6, p7, p8⟩ := s9 hX
    obtain ⟨q0, q1, q2, q3, q4, q5, q6, q7, q8⟩ := s9 hQ
    go_wp2_with (first | (refine wpList_load_row rfl 27 _ rfl (B7) rfl 27 _ _ _ hX Try.underlying27 rfl req_size ?_) | (refine wpList_load_row rfl 27 _ rfl (w.heap.size) rfl 27 _ _ _ hQ Try.underlying27 rfl req_size ?_))
    refine (SameRequest_yes tk kind proc a b val st A7 c7 xs slot A c _ (OwnI.gi ho7) (ha.below hw)).mono ?_
    rintro e v14 ⟨rfl, hb⟩
    replace hQ := hQ.below hb
    replace hX := hX.below hb
    replace hB8 := hB8.below hb
    replace hB10 := hB10.below hb
    replace hB12 := hB12.below hb
    replace hB14 := hB14.below hb
    replace ho7 := ho7.below hb
    replace ho8 := ho8.below hb
    replace ho10 := ho10.below hb
    replace ho12 := ho12.below hb
    replace ho14 := ho14.below hb
    replace hw := below_step hw hb
    clear hb
    go_wp2_with fail
    refine (awake_any _).mono ?_
    rintro e v15 ⟨rfl, hb⟩
    replace hQ := hQ.below hb
    replace hX := hX.below hb
    replace hB8 := hB8.below hb
    replace hB10 := hB10.below hb
    replace hB12 := hB12.below hb
    replace hB14 := hB14.below hb
    replace ho7 := ho7.below hb
    replace ho8 := ho8.below hb
    replace ho10 := ho10.below hb
    replace ho12 := ho12.below hb
    replace ho14 := ho14.below hb
    replace hw := below_step hw hb
    clear hb
    go_wp2
    go_ret
    exact ⟨rfl, hw⟩
  · have d12 : decide (12 < (xs.length : Int)) = true := by simp; omega
    clear h12
    go_enter Try.func6, Try.ntmps6
    go_wp2_with fail
    refine (awake_any _).mono ?_
    rintro e v1 ⟨rfl, hb⟩
    go_wp2
    go_ret
    exact ⟨rfl, below_step hw hb⟩
end Go.Proofs.Ytbcfnocefjolfaa
