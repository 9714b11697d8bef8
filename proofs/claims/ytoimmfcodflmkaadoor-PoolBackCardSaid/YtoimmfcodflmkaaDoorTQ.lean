/- The statement PoolBack. -/
import Derived.Test.YtoimmfcodflmkaaDoorTP
namespace Go.Proofs.YtoimmfcodflmkaaDoor
open Go.RowKit
set_option linter.unusedVariables false

set_option maxRecDepth 100000 in
set_option maxHeartbeats 4000000 in
theorem PoolBack_walk (s : Int) (Al : Option Addr) (cl : Nat) (sc : List Int) (w : World) (hL : Laid w) (h0 : 0 < w.heap.size) (ha : GI w Al cl sc) : Calls Tryd.prog 7 #[.int .i64 s, .slice Al sc.length cl] w (RetB w (.returned (.bool true))) := by
  obtain ⟨n, hn⟩ : ∃ n : Nat, 1 + s % 32 = (n : Int) := ⟨(1 + s % 32).toNat, by omega⟩
  have hnI : (n : Int) ≤ 32 := by omega
  have hnJ : 1 ≤ (n : Int) := by omega
  have HN := Lib.hid hn
  have hw := Below.refl w.heap.size w
  clear hn
  go_enter Tryd.func7, Tryd.ntmps7
  go_wp2_with fail
  refine (PoolKnown_walk w hL h0).mono ?_
  rintro e v1 ⟨rfl, hb⟩
  replace ha := ha.below hb
  replace hL := hL.below hb h0
  replace h0 : 0 < v1.heap.size := Nat.lt_of_lt_of_le h0 hb.size
  replace hw := below_step hw hb
  clear hb
  go_wp2_with fail
  refine (made_any s Al cl sc n HN.out _ (ha)).mono ?_
  rintro e v2 ⟨A6, c6, ys, rfl, hg, hok, hb⟩
  replace ha := ha.below hb
  replace hL := hL.below hb h0
  replace h0 : 0 < v2.heap.size := Nat.lt_of_lt_of_le h0 hb.size
  replace hw := below_step hw hb
  clear hb
  clear ha
  obtain ⟨m, hm⟩ : ∃ m, ys.length = m := ⟨_, rfl⟩
  have hadd := hok.adds
  rw [hm] at hadd
  have e1 : ((m : Int) + ((takenP (n : Int) ys).length : Int) != (n : Int)) = false := by rw [hadd]; simp
  have hmI : (m : Int) ≤ 32 := by omega
  have hkI : ((takenP (n : Int) ys).length : Int) ≤ 32 := by omega
  have e0 : ((m : Int) != (m : Int)) = false := by simp
  have HLf : Hid (∀ W, GI W A6 c6 ys → Calls Tryd.prog 22 #[.agg #[.int .i64 (n : Int), .slice A6 m c6]] W (RetB W (.returned (.tuple #[.int .i64 (m : Int), .int .i64 0])))) := Lib.hid fun W hW => by
    have := Left_any (n : Int) A6 c6 ys W hW
    rw [show lfP (n : Int) ys = ((m : Int), 0) by unfold lfP; rw [hok.chk, hm]; rfl, hm] at this
    exact this
  have HTn : Hid (∀ W, Laid W → 0 < W.heap.size → GI W A6 c6 ys → Calls Tryd.prog 24 #[.agg #[.int .i64 (n : Int), .slice A6 m c6]] W (RetL W (takenP (n : Int) ys) 0)) := Lib.hid fun W h1 h2 hW => by
    have := Taken_ok (n : Int) A6 c6 ys W h1 h2 hW hok
    rw [hm] at this
    exact this
  have HM := Lib.hid hm
  have HOK := Lib.hid hok
  rw [hm]
  clear hm hok hadd
  have hn := Bx.new v2 24 #[.int .i64 0, .slice none 0 0]
  replace hg := hg.alloc (.cells #[.int .i64 (n : Int), .slice A6 m c6] 24)
  replace hL := hL.below (al v2 (.cells #[.int .i64 (n : Int), .slice A6 m c6] 24)) h0
  replace h0 : 0 < (v2.alloc (.cells #[.int .i64 (n : Int), .slice A6 m c6] 24)).heap.size := by rw [World.size_alloc]; omega
  replace hw := below_step hw (al _ (.cells #[.int .i64 (n : Int), .slice A6 m c6] 24))
  have hB6 := Bx.new v2 24 #[.int .i64 (n : Int), .slice A6 m c6]
  have hlz := hB6.lt
  go_wp2_with (first | (refine wpList_store_row rfl 24 _ _ rfl v2.heap.size _ rfl rfl 24 _ hn pool_size rfl (pv_one _ _ _ _) ?_; rw [World.setRow_alloc_new]; simp only [Act.put]) | (refine wpList_load_row rfl 24 _ rfl (v2.heap.size) rfl 24 _ _ _ hB6 Tryd.underlying24 rfl pool_size ?_))
  refine (HLf.out _ hg).mono ?_
  rintro e v3 ⟨rfl, hb⟩
  replace hg := hg.below hb
  replace hB6 := hB6.below hb
  replace hL := hL.below hb h0
  replace h0 : 0 < v3.heap.size := Nat.lt_of_lt_of_le h0 hb.size
  replace hw := below_step hw hb
  clear hb
  go_wp2_with (first | (refine wpList_load_row rfl 24 _ rfl (v2.heap.size) rfl 24 _ _ _ hB6 Tryd.underlying24 rfl pool_size ?_))
  refine (HTn.out _ hL h0 hg).mono ?_
  rintro e v4 ⟨A10, c10, rfl, ho, hb⟩
  replace hg := hg.below hb
  replace hB6 := hB6.below hb
  replace hL := hL.below hb h0
  replace h0 : 0 < v4.heap.size := Nat.lt_of_lt_of_le h0 hb.size
  replace hw := below_step hw hb
  clear hb
  clear ho
  obtain ⟨y0, y1⟩ := s2 hB6
  by_cases hys : ys = []
  · subst hys
    obtain rfl : m = 0 := by rw [← HM.out]; rfl
    have HT : Hid (∀ W, GI W A6 c6 [] → Calls Tryd.prog 18 #[.agg #[.int .i64 (n : Int), .slice A6 0 c6]] W (RetP3 W 0 [] 0 5)) := Lib.hid fun W hW => by
      have he : tkE (n : Int) [] = 5 := by unfold tkE; rw [HOK.out.chk]; rfl
      have := Take_bad (n : Int) A6 c6 [] W hW (by rw [he]; decide)
      rw [he] at this
      exact this
    generalize (takenP (n : Int) []).length = k at *
    go_wp2_with (first | (refine wpList_load_row rfl 24 _ rfl (v2.heap.size) rfl 24 _ _ _ hB6 Tryd.underlying24 rfl pool_size ?_))
    refine (HT.out _ hg).mono ?_
    rintro e v5 ⟨A12, c12, rfl, ho, hb⟩
    replace hg := hg.below hb
    replace hB6 := hB6.below hb
    replace hL := hL.below hb h0
    replace h0 : 0 < v5.heap.size := Nat.lt_of_lt_of_le h0 hb.size
    replace hw := below_step hw hb
    clear hb
    clear ho
    have hn := Bx.new v5 24 #[.int .i64 0, .slice none 0 0]
    replace hg := hg.alloc (.cells #[.int .i64 0, .slice A12 0 c12] 24)
    replace hB6 := hB6.alloc (.cells #[.int .i64 0, .slice A12 0 c12] 24)
    replace hL := hL.below (al v5 (.cells #[.int .i64 0, .slice A12 0 c12] 24)) h0
    replace h0 : 0 < (v5.alloc (.cells #[.int .i64 0, .slice A12 0 c12] 24)).heap.size := by rw [World.size_alloc]; omega
    replace hw := below_step hw (al _ (.cells #[.int .i64 0, .slice A12 0 c12] 24))
    have hB12 := Bx.new v5 24 #[.int .i64 0, .slice A12 0 c12]
    clear y0 y1
    go_wp2_with (first | (refine wpList_store_row rfl 24 _ _ rfl v5.heap.size _ rfl rfl 24 _ hn pool_size rfl (pv_one _ _ _ _) ?_; rw [World.setRow_alloc_new]; simp only [Act.put]))
    go_ret
    exact ⟨rfl, hw⟩
  · obtain ⟨x, zs, hyx⟩ := List.exists_cons_of_ne_nil hys
    have hokx : OkP (n : Int) (x :: zs) := by rw [← hyx]; exact HOK.out
    have hm1 : m = zs.length + 1 := by rw [← HM.out, hyx]; rfl
    have em1 : ((m : Int) == 0) = false := by simp; omega
    have em2 : (m = 0) = False := by simp; omega
    have em3 : 0 < m := by omega
    have em4 : (0 : Int) < (m : Int) := by omega
    have hx0 := (hokx.rng x (by simp)).1
    have hx1 := (hokx.rng x (by simp)).2
    have hnx : x ∉ zs := fun h => by have := (List.pairwise_cons.1 hokx.asc).1 x h; omega
    have hadd := HOK.out.adds
    have hadd2 := hokx.tail.adds
    rw [HM.out] at hadd
    have e2 : (((takenP (n : Int) zs).length : Int) == ((takenP (n : Int) ys).length : Int) + 1) = true := by simp; omega
    have hnxt : ((takenP (n : Int) zs).length : Int) ≤ 33 := by have := hokx.hi; omega
    have HT : Hid (∀ W, GI W A6 c6 ys → Calls Tryd.prog 18 #[.agg #[.int .i64 (n : Int), .slice A6 m c6]] W (RetP3 W (n : Int) zs x 0)) := Lib.hid fun W hW => by
      have := Take_ok (n : Int) A6 c6 x zs W (by rw [← hyx]; exact hW) hokx
      rw [← hyx, HM.out] at this
      exact this
    have HG : Hid (∀ A c W, GI W A c zs → Calls Tryd.prog 20 #[.agg #[.int .i64 (n : Int), .slice A zs.length c], .int .i64 x] W (RetP W (n : Int) ys 0)) := Lib.hid fun A c W hW => by
      have he : gvE (n : Int) zs x = 0 := by
        unfold gvE
        rw [hokx.tail.chk, if_neg (by simp), if_neg (by omega), if_neg (by simpa using hnx)]
      have := Give_ok (n : Int) A c zs x W hW he
      rw [hokx.back, ← hyx] at this
      exact this
    have HB : Hid (∀ W, GI W A6 c6 ys → Calls Tryd.prog 20 #[.agg #[.int .i64 (n : Int), .slice A6 m c6], .int .i64 x] W (RetP W 0 [] 7)) := Lib.hid fun W hW => by
      have he : gvE (n : Int) ys x = 7 := by
        unfold gvE
        rw [HOK.out.chk, if_neg (by simp), if_neg (by omega), if_pos (by rw [hyx]; simp)]
      have := Give_bad (n : Int) A6 c6 ys x W hW (by rw [he]; decide)
      rw [he, HM.out] at this
      exact this
    have HS : Hid (∀ A c W, GI W A c ys → GI W A6 c6 ys → Calls Tryd.prog 13 #[.agg #[.int .i64 (n : Int), .slice A m c], .agg #[.int .i64 (n : Int), .slice A6 m c6]] W (RetB W (.returned (.bool true)))) := Lib.hid fun A c W h1 h2 => by
      have := SamePool_yes (n : Int) A c ys A6 c6 W h1 h2
      rw [HM.out] at this
      exact this
    have HZ := Lib.hid hokx.tail
    have HX := Lib.hid (show ys[0]?.getD 0 = x by rw [hyx]; rfl)
    have HL0 := Lib.hid (show 0 < ys.length by rw [HM.out]; omega)
    have exx : (x == x) = true := by simp
    clear hys hyx hokx hm1 hnx hadd hadd2
    generalize (takenP (n : Int) ys).length = k at *
    go_wp2_with (first | (refine wpList_load_row rfl 24 _ rfl (v2.heap.size) rfl 24 _ _ _ hB6 Tryd.underlying24 rfl pool_size ?_))
    refine (HT.out _ hg).mono ?_
    rintro e v5 ⟨A12, c12, rfl, ho, hb⟩
    replace hg := hg.below hb
    replace hB6 := hB6.below hb
    replace hL := hL.below hb h0
    replace h0 : 0 < v5.heap.size := Nat.lt_of_lt_of_le h0 hb.size
    replace hw := below_step hw hb
    clear hb
    have hz := OwnI.gi ho
    clear ho
    have hn := Bx.new v5 24 #[.int .i64 0, .slice none 0 0]
    replace hg := hg.alloc (.cells #[.int .i64 (n : Int), .slice A12 zs.length c12] 24)
    replace hB6 := hB6.alloc (.cells #[.int .i64 (n : Int), .slice A12 zs.length c12] 24)
    replace hz := hz.alloc (.cells #[.int .i64 (n : Int), .slice A12 zs.length c12] 24)
    replace hL := hL.below (al v5 (.cells #[.int .i64 (n : Int), .slice A12 zs.length c12] 24)) h0
    replace h0 : 0 < (v5.alloc (.cells #[.int .i64 (n : Int), .slice A12 zs.length c12] 24)).heap.size := by rw [World.size_alloc]; omega
    replace hw := below_step hw (al _ (.cells #[.int .i64 (n : Int), .slice A12 zs.length c12] 24))
    have hB12 := Bx.new v5 24 #[.int .i64 (n : Int), .slice A12 zs.length c12]
    go_wp2_with (first | (refine wpList_store_row rfl 24 _ _ rfl v5.heap.size _ rfl rfl 24 _ hn pool_size rfl (pv_one _ _ _ _) ?_; rw [World.setRow_alloc_new]; simp only [Act.put]) | (refine wpList_load_row rfl 24 _ rfl (v5.heap.size) rfl 24 _ _ _ hB12 Tryd.underlying24 rfl pool_size ?_))
    refine (Taken_ok (n : Int) A12 c12 zs _ hL h0 hz HZ.out).mono ?_
    rintro e v6 ⟨A15, c15, rfl, ho, hb⟩
    replace hg := hg.below hb
    replace hB6 := hB6.below hb
    replace hz := hz.below hb
    replace hB12 := hB12.below hb
    replace hL := hL.below hb h0
    replace h0 : 0 < v6.heap.size := Nat.lt_of_lt_of_le h0 hb.size
    replace hw := below_step hw hb
    clear hb
    clear ho
    generalize (takenP (n : Int) zs).length = j at *
    go_wp2_with (first | (refine wpList_load_row rfl 24 _ rfl (v5.heap.size) rfl 24 _ _ _ hB12 Tryd.underlying24 rfl pool_size ?_))
    refine (HG.out A12 c12 _ hz).mono ?_
    rintro e v7 ⟨A17, c17, rfl, ho, hb⟩
    replace hg := hg.below hb
    replace hB6 := hB6.below hb
    replace hz := hz.below hb
    replace hB12 := hB12.below hb
    replace hL := hL.below hb h0
    replace h0 : 0 < v7.heap.size := Nat.lt_of_lt_of_le h0 hb.size
    replace hw := below_step hw hb
    clear hb
    have hg17 := OwnI.gi ho
    clear ho
    clear hz
    rw [HM.out]
    have hn := Bx.new v7 24 #[.int .i64 0, .slice none 0 0]
    replace hg := hg.alloc (.cells #[.int .i64 (n : Int), .slice A17 m c17] 24)
    replace hB6 := hB6.alloc (.cells #[.int .i64 (n : Int), .slice A17 m c17] 24)
    replace hB12 := hB12.alloc (.cells #[.int .i64 (n : Int), .slice A17 m c17] 24)
    replace hg17 := hg17.alloc (.cells #[.int .i64 (n : Int), .slice A17 m c17] 24)
    replace hL := hL.below (al v7 (.cells #[.int .i64 (n : Int), .slice A17 m c17] 24)) h0
    replace h0 : 0 < (v7.alloc (.cells #[.int .i64 (n : Int), .slice A17 m c17] 24)).heap.size := by rw [World.size_alloc]; omega
    replace hw := below_step hw (al _ (.cells #[.int .i64 (n : Int), .slice A17 m c17] 24))
    have hB17 := Bx.new v7 24 #[.int .i64 (n : Int), .slice A17 m c17]
    go_wp2_with (first | (refine wpList_store_row rfl 24 _ _ rfl v7.heap.size _ rfl rfl 24 _ hn pool_size rfl (pv_one _ _ _ _) ?_; rw [World.setRow_alloc_new]; simp only [Act.put]) | (refine wpList_load_row rfl 24 _ rfl (v2.heap.size) rfl 24 _ _ _ hB6 Tryd.underlying24 rfl pool_size ?_))
    refine (HB.out _ hg).mono ?_
    rintro e v8 ⟨A19, c19, rfl, ho, hb⟩
    replace hg := hg.below hb
    replace hB6 := hB6.below hb
    replace hB12 := hB12.below hb
    replace hg17 := hg17.below hb
    replace hB17 := hB17.below hb
    replace hL := hL.below hb h0
    replace h0 : 0 < v8.heap.size := Nat.lt_of_lt_of_le h0 hb.size
    replace hw := below_step hw hb
    clear hb
    clear ho
    have hn := Bx.new v8 24 #[.int .i64 0, .slice none 0 0]
    replace hg := hg.alloc (.cells #[.int .i64 0, .slice A19 0 c19] 24)
    replace hB6 := hB6.alloc (.cells #[.int .i64 0, .slice A19 0 c19] 24)
    replace hB12 := hB12.alloc (.cells #[.int .i64 0, .slice A19 0 c19] 24)
    replace hg17 := hg17.alloc (.cells #[.int .i64 0, .slice A19 0 c19] 24)
    replace hB17 := hB17.alloc (.cells #[.int .i64 0, .slice A19 0 c19] 24)
    replace hL := hL.below (al v8 (.cells #[.int .i64 0, .slice A19 0 c19] 24)) h0
    replace h0 : 0 < (v8.alloc (.cells #[.int .i64 0, .slice A19 0 c19] 24)).heap.size := by rw [World.size_alloc]; omega
    replace hw := below_step hw (al _ (.cells #[.int .i64 0, .slice A19 0 c19] 24))
    have hB19 := Bx.new v8 24 #[.int .i64 0, .slice A19 0 c19]
    clear hB19 y0 y1
    have HS2 := Lib.hid (HS.out A17 c17 _ hg17 hg)
    obtain ⟨ad, rfl, _, hca⟩ := hg.at_ (k := 0) HL0.out
    rw [HX.out] at hca
    have hcb : World.cell? _ ad = some (.int .i64 x) := hca
    obtain ⟨y0, y1⟩ := s2 hB6
    obtain ⟨q0, q1⟩ := s2 hB17
    go_wp2_with (first | (refine wpList_store_row rfl 24 _ _ rfl v8.heap.size _ rfl rfl 24 _ hn pool_size rfl (pv_one _ _ _ _) ?_; rw [World.setRow_alloc_new]; simp only [Act.put]) | (refine wpList_load_row rfl 24 _ rfl (v7.heap.size) rfl 24 _ _ _ hB17 Tryd.underlying24 rfl pool_size ?_) | (refine wpList_load_row rfl 24 _ rfl (v2.heap.size) rfl 24 _ _ _ hB6 Tryd.underlying24 rfl pool_size ?_))
    refine HS2.out.mono ?_
    rintro e wz ⟨rfl, hb⟩
    go_wp2
    go_ret
    exact ⟨rfl, below_step hw hb⟩
end Go.Proofs.YtoimmfcodflmkaaDoor
