/- The statements' own helpers: may, path, awake: they return true. -/
import Derived.Test.YtfacdnpgidnafaaDoorA5
namespace Go.Proofs.YtfacdnpgidnafaaDoor
open Go.RowKit

set_option maxHeartbeats 400000 in
theorem lmay_any (f t : Int) (b : Bool) (h : mayR f t = (b, 0)) (w : World) (hL : Laid w) :
    Calls Tryd.prog 35 #[.int .i64 f, .int .i64 t, .bool b] w fun e w' => e = .returned (.bool true) ∧ w = w' := by
  have hc := May_any f t w hL
  rw [h] at hc
  have Hc := Lib.hid hc
  clear hc h
  go_enter Tryd.func35, Tryd.ntmps35
  go_wp2_with fail
  refine Hc.out.mono ?_
  rintro e w' ⟨rfl, rfl⟩
  have hb : (b == b) = true := by cases b <;> rfl
  go_wp2
  go_ret
  exact ⟨rfl, rfl⟩

set_option maxHeartbeats 400000 in
theorem lpath_any (f t : Int) (xs : List Int) (h : pathR f t = (xs, 0)) (A : Option Addr) (c : Nat) (w : World) (hL : Laid w) (h0 : 0 < w.heap.size) (hg : GI w A c xs) :
    Calls Tryd.prog 36 #[.int .i64 f, .int .i64 t, .slice A xs.length c] w (RetB w (.returned (.bool true))) := by
  have hc := Path_any f t w hL h0
  rw [h] at hc
  have Hc := Lib.hid hc
  clear hc h
  go_enter Tryd.func36, Tryd.ntmps36
  go_wp2_with fail
  refine Hc.out.mono ?_
  rintro e w1 ⟨A1, c1, rfl, hg1, hb1⟩
  go_wp2_with fail
  refine (sameInts_yes A1 A c1 c xs _ hg1 (hg.below hb1)).mono ?_
  rintro e w2 ⟨rfl, k, rfl⟩
  go_wp2
  go_ret
  exact ⟨rfl, below_drewN' hb1 k⟩

theorem k1 : parseR [46, 80, 83, 84, 77, 87, 82, 79] = ([0, 1, 2, 3, 4, 5, 6, 7], 0, 0) := by decide
theorem k2 : mayR 0 6 = (true, 0) := by decide
theorem k3 : mayR 0 4 = (false, 0) := by decide
theorem k4 : pathR 0 4 = ([6, 4], 0) := by decide +kernel

theorem gi_new (w : World) (xs : List Int) (t : TypeId) (n B : Nat) (hn : n = xs.length) (hx : xs.length ≤ 1000) (cs : Array Value) (hcs : cs = (iv xs).toArray) (hB : B = w.heap.size) : GI (w.alloc (.cells cs t)) (some ⟨B, 0, none⟩) n xs := by
  subst hn hcs hB
  refine ⟨Nat.le_refl _, by simp only [maxLen]; omega, by simp [iv_len], fun _ => ⟨_, rfl, by simp, fun j u hu => ?_⟩⟩
  rw [mk_add, World.cell?_alloc_at _ _ _ _ rfl]
  simpa using hu

set_option maxHeartbeats 1000000 in
theorem awake_any (w : World) (hL : Laid w) (h0 : 0 < w.heap.size) :
    Calls Tryd.prog 17 #[] w (RetB w (.returned (.bool true))) := by
  have hc := Parse_any { data := #[46, 80, 83, 84, 77, 87, 82, 79] } (by decide) w
  rw [show ({ data := #[46, 80, 83, 84, 77, 87, 82, 79] } : ByteArray).data.toList = [46, 80, 83, 84, 77, 87, 82, 79] from rfl, k1] at hc
  have Hc := Lib.hid hc
  clear hc
  go_enter Tryd.func17, Tryd.ntmps17
  go_wp2_with fail
  refine Hc.out.mono ?_
  rintro e w1 ⟨A1, c1, rfl, hg1, hb1⟩
  clear Hc
  have hbW1 : Below w.heap.size w (w1.alloc (.cells #[.int .i64 0, .int .i64 0] 32)) := hb1.alloc hb1.size _
  have hLW1 := hL.below h0 hbW1
  have hs1 := hb1.size
  have hbW2 : Below w.heap.size w ((w1.alloc (.cells #[.int .i64 0, .int .i64 0] 32)).alloc (.cells #[.int .i64 6, .int .i64 4] 3)) := hbW1.alloc (by simp; omega) _
  have hLW2 := hL.below h0 hbW2
  have hgw := gi_new (w1.alloc (.cells #[.int .i64 0, .int .i64 0] 32)) [6, 4] 3 2 (w1.heap.size + 1) rfl (by decide) #[.int .i64 6, .int .i64 4] rfl (by simp)
  go_wp2_with fail
  refine (lmay_any 0 6 true k2 _ hLW1).mono ?_
  rintro e w' ⟨rfl, rfl⟩
  go_wp2_with fail
  refine (lmay_any 0 4 false k3 _ hLW1).mono ?_
  rintro e w' ⟨rfl, rfl⟩
  go_wp2_with fail
  refine (lpath_any 0 4 [6, 4] k4 _ 2 _ hLW2 (by simp) hgw).mono ?_
  rintro e w3 ⟨rfl, hb3⟩
  have hc0 : w3.cell? ⟨w1.heap.size, 0, none⟩ = some (.int .i64 0) := by
    rw [hb3.cell (p := ⟨w1.heap.size, 0, none⟩) (by simp; omega), World.cell?_alloc_past _ _ _ (by simp), World.cell?_alloc_at _ _ _ _ rfl]; rfl
  have hc1 : w3.cell? ⟨w1.heap.size, 1, none⟩ = some (.int .i64 0) := by
    rw [hb3.cell (p := ⟨w1.heap.size, 1, none⟩) (by simp; omega), World.cell?_alloc_past _ _ _ (by simp), World.cell?_alloc_at _ _ _ _ rfl]; rfl
  have hs3 := hb3.size
  simp only [World.size_alloc] at hs3
  have hbW3 : Below w.heap.size w w3 := hbW2.trans (hb3.mono (by simp; omega))
  have hg3 : GI w3 A1 c1 [0, 1, 2, 3, 4, 5, 6, 7] := (((hg1.alloc _).alloc _).below hb3)
  clear hgw hLW1 hLW2 hbW1 hbW2 hb3
  go_wp2_with fail
  refine (sameInts_yes A1 _ c1 8 [0, 1, 2, 3, 4, 5, 6, 7] _ (hg3.alloc _) (gi_new w3 [0, 1, 2, 3, 4, 5, 6, 7] 3 8 w3.heap.size rfl (by decide) _ rfl rfl)).mono ?_
  rintro e w4 ⟨rfl, k, rfl⟩
  go_wp2
  go_ret
  exact ⟨rfl, below_drewN' (hbW3.alloc (by omega) _) k⟩
end Go.Proofs.YtfacdnpgidnafaaDoor
