/- The law RoleKnown: the chapter's examples. -/
import Derived.Test.YtfacdnpgidnafaaDoorL4
namespace Go.Proofs.YtfacdnpgidnafaaDoor
open Go.RowKit

/-- A world behind w: nothing that was there has changed, the table is laid. -/
structure Wk (w W : World) : Prop where
  old : Below w.heap.size w W
  laid : Laid W
  pos : 0 < W.heap.size
theorem Wk.below {w W W' : World} (h : Wk w W) (hb : Below W.heap.size W W') : Wk w W' := ⟨below_step h.old hb, h.laid.below h.pos hb, Nat.lt_of_lt_of_le h.pos hb.size⟩
theorem Wk.alloc {w W : World} (h : Wk w W) (o : Obj) : Wk w (W.alloc o) := h.below ((Below.refl _ _).alloc (Nat.le_refl _) o)
theorem Wk.drewN {w W : World} (h : Wk w W) (k : Nat) : Wk w (W.drewN k) := ⟨below_drewN' h.old k, h.laid, h.pos⟩

/-- A call returned k; the world behind it is W'. -/
def KI (w W : World) (xs : List Int) (k : Value → Ending) (e : Ending) (W' : World) : Prop := ∃ A c, e = k (.slice A xs.length c) ∧ GI W' A c xs ∧ Wk w W' ∧ Below W.heap.size W W'
theorem KI.of {w W V : World} {xs : List Int} {k : Value → Ending} {e : Ending} {W' : World} (hV : Below W.heap.size W V) (hk : Wk w V) (h : RetI V xs k e W') : KI w W xs k e W' := by
  obtain ⟨A, c, rfl, hg, hb⟩ := h
  exact ⟨A, c, rfl, hg, hk.below hb, below_step hV hb⟩
theorem alloc_b (W : World) (o : Obj) : Below W.heap.size W (W.alloc o) := (Below.refl _ _).alloc (Nat.le_refl _) o

section
variable {w W : World} (h : Wk w W)
include h
theorem kChange (B : Nat) (hB : B = W.heap.size) (xs : List Int) (cs : Array Value) (hcs : cs = (iv xs).toArray) (n : Nat) (hn : n = xs.length) (hx : xs.length ≤ 1000) (f r : Int) (ys : List Int) (e : Int) (hr : changeR xs f r = (ys, e)) :
    Calls Tryd.prog 23 #[.slice (some ⟨B, 0, none⟩) n n, .int .i64 f, .int .i64 r] (W.alloc (.cells cs 3)) (KI w W ys fun v => .returned (.tuple #[v, .int .i64 e])) := by
  have hg := gi_new W xs 3 n B hn hx cs hcs hB
  have hk := h.alloc (.cells cs 3)
  have hc := Change_any (some ⟨B, 0, none⟩) n xs f r _ hg hk.laid hk.pos
  rw [hr] at hc
  subst hn
  exact hc.mono fun _ _ hh => KI.of (alloc_b _ _) hk hh
theorem kCounts (B : Nat) (hB : B = W.heap.size) (xs : List Int) (cs : Array Value) (hcs : cs = (iv xs).toArray) (n : Nat) (hn : n = xs.length) (hx : xs.length ≤ 1000) (ys : List Int) (e : Int) (hr : countR xs = (ys, e)) :
    Calls Tryd.prog 28 #[.slice (some ⟨B, 0, none⟩) n n] (W.alloc (.cells cs 3)) (KI w W ys fun v => .returned (.tuple #[v, .int .i64 e])) := by
  have hg := gi_new W xs 3 n B hn hx cs hcs hB
  have hk := h.alloc (.cells cs 3)
  have hc := Counts_any (some ⟨B, 0, none⟩) n xs _ hg
  rw [hr] at hc
  subst hn
  exact hc.mono fun _ _ hh => KI.of (alloc_b _ _) hk hh
theorem kOf (B : Nat) (hB : B = W.heap.size) (xs : List Int) (cs : Array Value) (hcs : cs = (iv xs).toArray) (n : Nat) (hn : n = xs.length) (hx : xs.length ≤ 1000) (r : Int) (ys : List Int) (e : Int) (hr : ofR xs r = (ys, e)) :
    Calls Tryd.prog 26 #[.slice (some ⟨B, 0, none⟩) n n, .int .i64 r] (W.alloc (.cells cs 3)) (KI w W ys fun v => .returned (.tuple #[v, .int .i64 e])) := by
  have hg := gi_new W xs 3 n B hn hx cs hcs hB
  have hk := h.alloc (.cells cs 3)
  have hc := Of_any (some ⟨B, 0, none⟩) n xs r _ hg
  rw [hr] at hc
  subst hn
  exact hc.mono fun _ _ hh => KI.of (alloc_b _ _) hk hh
theorem kSame (B : Nat) (hB : B = W.heap.size) (xs : List Int) (cs : Array Value) (hcs : cs = (iv xs).toArray) (n : Nat) (hn : n = xs.length) (hx : xs.length ≤ 1000) (A : Option Addr) (c : Nat) (hg : GI W A c xs) :
    Calls Tryd.prog 16 #[.slice A n c, .slice (some ⟨B, 0, none⟩) n n] (W.alloc (.cells cs 3)) fun e W' => e = .returned (.bool true) ∧ Wk w W' ∧ Below W.heap.size W W' := by
  have hg2 := gi_new W xs 3 n B hn hx cs hcs hB
  subst hn
  refine (sameInts_yes A (some ⟨B, 0, none⟩) c xs.length xs _ (hg.alloc _) hg2).mono ?_
  rintro e w' ⟨rfl, k, rfl⟩
  exact ⟨rfl, (h.alloc _).drewN k, below_drewN' (alloc_b _ _) k⟩
theorem kPath (B : Nat) (hB : B = W.heap.size) (xs : List Int) (cs : Array Value) (hcs : cs = (iv xs).toArray) (n : Nat) (hn : n = xs.length) (hx : xs.length ≤ 1000) (f t : Int) (hr : pathR f t = (xs, 0)) :
    Calls Tryd.prog 36 #[.int .i64 f, .int .i64 t, .slice (some ⟨B, 0, none⟩) n n] (W.alloc (.cells cs 3)) fun e W' => e = .returned (.bool true) ∧ Wk w W' ∧ Below W.heap.size W W' := by
  have hg2 := gi_new W xs 3 n B hn hx cs hcs hB
  have hk := h.alloc (.cells cs 3)
  subst hn
  refine (lpath_any f t xs hr _ _ _ hk.laid hk.pos hg2).mono ?_
  rintro e w' ⟨rfl, hb⟩
  exact ⟨rfl, hk.below hb, below_step (alloc_b _ _) hb⟩
theorem kPath0 (f t : Int) (hr : pathR f t = ([], 0)) :
    Calls Tryd.prog 36 #[.int .i64 f, .int .i64 t, .slice none 0 0] W fun e W' => e = .returned (.bool true) ∧ Wk w W' ∧ Below W.heap.size W W' := by
  refine (lpath_any f t [] hr none 0 W h.laid h.pos (GI.nil _)).mono ?_
  rintro e w' ⟨rfl, hb⟩
  exact ⟨rfl, h.below hb, hb⟩
end

theorem gc_new (w : World) (ps : List (Int × Int)) (t : TypeId) (n B : Nat) (hn : n = ps.length) (hx : ps.length ≤ 1000) (cs : Array Value) (hcs : cs = (pv ps).toArray) (hB : B = w.heap.size) : GC (w.alloc (.cells cs t)) (some ⟨B, 0, none⟩) n ps := by
  subst hn hcs hB
  refine ⟨Nat.le_refl _, by simp only [maxLen]; omega, by rw [pv_len], fun _ => ⟨_, rfl, by simp, fun j u hu => ?_⟩⟩
  rw [mk_add, World.cell?_alloc_at _ _ _ _ rfl]
  simpa using hu
theorem kRun {w W : World} (h : Wk w W) (B : Nat) (hB : B = W.heap.size) (xs : List Int) (cs : Array Value) (hcs : cs = (iv xs).toArray) (n : Nat) (hn : n = xs.length) (hx : xs.length ≤ 1000)
    (B2 : Nat) (hB2 : B2 = W.heap.size + 1) (ps : List (Int × Int)) (ds : Array Value) (hds : ds = (pv ps).toArray) (m : Nat) (hm : m = ps.length) (hp : ps.length ≤ 1000) (ys : List Int) (e i : Int) (hr : runR xs ps = (ys, e, i)) :
    Calls Tryd.prog 24 #[.slice (some ⟨B, 0, none⟩) n n, .slice (some ⟨B2, 0, none⟩) m m] ((W.alloc (.cells cs 3)).alloc (.cells ds 43)) (KI w W ys fun v => .returned (.tuple #[v, .int .i64 e, .int .i64 i])) := by
  have hg := (gi_new W xs 3 n B hn hx cs hcs hB).alloc (.cells ds 43)
  have hd := gc_new (W.alloc (.cells cs 3)) ps 43 m B2 hm hp ds hds (by simp [hB2])
  have hk := (h.alloc (.cells cs 3)).alloc (.cells ds 43)
  have hc := Run_any (some ⟨B, 0, none⟩) n xs (some ⟨B2, 0, none⟩) m ps _ hg hd (by omega) hk.laid hk.pos
  rw [hr] at hc
  subst hn hm
  exact hc.mono fun _ _ hh => KI.of (below_step (alloc_b _ _) (alloc_b _ _)) hk hh

set_option maxHeartbeats 2000000 in
set_option maxRecDepth 100000 in
theorem roleKnown_walk (w : World) (hL : Laid w) (h0 : 0 < w.heap.size) :
    Calls Tryd.prog 11 #[] w (RetB w (.returned (.bool true))) := by
  have hk0 : Wk w w := ⟨Below.refl _ _, hL, h0⟩
  have hm := May_any 8 0 w hL
  rw [show mayR 8 0 = (false, 14) by decide] at hm
  have Hm := Lib.hid hm
  clear hm
  go_enter Tryd.func11, Tryd.ntmps11
  go_wp2_with fail
  refine Hm.out.mono ?_
  rintro e w' ⟨rfl, rfl⟩
  go_wp2_with fail
  refine (kChange hk0 w.heap.size rfl [0, 4] #[.int .i64 0, .int .i64 4] rfl 2 rfl (by simp) 1 5 [0, 5] 0 (by decide)).mono ?_
  rintro e w1 ⟨A1, c1, rfl, hg1, hk1, hb1⟩
  go_wp2_with fail
  refine (kChange hk1 w1.heap.size rfl [0, 4] #[.int .i64 0, .int .i64 4] rfl 2 rfl (by simp) 0 4 [] 14 (by decide)).mono ?_
  rintro e w2 ⟨A2, c2, rfl, hg2, hk2, hb2⟩
  have hg12 := hg1.below hb2
  go_wp2_with fail
  refine (kChange hk2 w2.heap.size rfl [0, 4] #[.int .i64 0, .int .i64 4] rfl 2 rfl (by simp) 2 0 [] 2 (by decide)).mono ?_
  rintro e w3 ⟨A3, c3, rfl, hg3, hk3, hb3⟩
  have hg13 := hg12.below hb3
  clear hg1 hg12 hb1 hb2 hb3 hg2 hg3 hk0 hk1 hk2
  go_wp2_with fail
  refine (lmay_any 0 0 false (by decide) w3 hk3.laid).mono ?_
  rintro e w' ⟨rfl, rfl⟩
  go_wp2_with fail
  refine (kSame hk3 w3.heap.size rfl [0, 5] #[.int .i64 0, .int .i64 5] rfl 2 rfl (by simp) A1 c1 hg13).mono ?_
  rintro e w4 ⟨rfl, hk4, hb4⟩
  clear hg13 hk3 hb4
  go_wp2_with fail
  refine (kRun hk4 w4.heap.size rfl [0] #[.int .i64 0] rfl 1 rfl (by simp) (w4.heap.size + 1) rfl [(0, 6), (0, 4), (0, 5), (0, 0)] #[.int .i64 0, .int .i64 6, .int .i64 0, .int .i64 4, .int .i64 0, .int .i64 5, .int .i64 0, .int .i64 0] rfl 4 rfl (by simp) [0] 0 0 (by decide)).mono ?_
  rintro e w5 ⟨A5, c5, rfl, hg5, hk5, hb5⟩
  clear hk4 hb5
  go_wp2_with fail
  refine (kRun hk5 w5.heap.size rfl [0, 0] #[.int .i64 0, .int .i64 0] rfl 2 rfl (by simp) (w5.heap.size + 1) rfl [(0, 3), (1, 7)] #[.int .i64 0, .int .i64 3, .int .i64 1, .int .i64 7] rfl 2 rfl (by simp) [] 14 1 (by decide)).mono ?_
  rintro e w6 ⟨A6, c6, rfl, hg6, hk6, hb6⟩
  have hg56 := hg5.below hb6
  clear hk5 hb6 hg5 hg6
  have hpp := Path_any 1 0 w6 hk6.laid hk6.pos
  rw [show pathR 1 0 = ([], 14) by decide +kernel] at hpp
  have Hpp := Lib.hid hpp
  clear hpp
  go_wp2_with fail
  refine Hpp.out.mono ?_
  rintro e w7 ⟨A7, c7, rfl, hg7, hb7⟩
  have hk7 := hk6.below hb7
  have hg57 := hg56.below hb7
  clear hk6 hg56 hb7 hg7 Hpp
  go_wp2_with fail
  refine (kSame hk7 w7.heap.size rfl [0] #[.int .i64 0] rfl 1 rfl (by simp) A5 c5 hg57).mono ?_
  rintro e w8 ⟨rfl, hk8, hb8⟩
  clear hk7 hg57 hb8
  go_wp2_with fail
  refine (kPath hk8 w8.heap.size rfl [6, 4, 5] #[.int .i64 6, .int .i64 4, .int .i64 5] rfl 3 rfl (by simp) 0 5 (by decide +kernel)).mono ?_
  rintro e w9 ⟨rfl, hk9, hb9⟩
  clear hk8 hb9
  go_wp2_with fail
  refine (kPath0 hk9 0 0 (by decide +kernel)).mono ?_
  rintro e w10 ⟨rfl, hk10, hb10⟩
  clear hk9 hb10
  go_wp2_with fail
  refine (kCounts hk10 w10.heap.size rfl [0, 1, 2, 3, 4] #[.int .i64 0, .int .i64 1, .int .i64 2, .int .i64 3, .int .i64 4] rfl 5 rfl (by simp) [1, 1, 1, 1, 1, 0, 0, 0] 0 (by decide)).mono ?_
  rintro e w11 ⟨A11, c11, rfl, hg11, hk11, hb11⟩
  clear hk10 hb11
  go_wp2_with fail
  refine (kOf hk11 w11.heap.size rfl [4, 0, 4] #[.int .i64 4, .int .i64 0, .int .i64 4] rfl 3 rfl (by simp) 4 [0, 2] 0 (by decide)).mono ?_
  rintro e w12 ⟨A12, c12, rfl, hg12, hk12, hb12⟩
  have g11 := hg11.below hb12
  clear hk11 hb12 hg11
  have hpa := Parse_any { data := #[46, 112] } (by decide) w12
  rw [show ({ data := #[46, 112] } : ByteArray).data.toList = [46, 112] from rfl, show parseR [46, 112] = ([], 3, 1) by decide] at hpa
  have Hpa := Lib.hid hpa
  clear hpa
  go_wp2_with fail
  refine Hpa.out.mono ?_
  rintro e w13 ⟨A13, c13, rfl, hg13, hb13⟩
  have hk13 := (hk12.below hb13).alloc (.cells #[.int .i64 3, .int .i64 1] 32)
  have g11' := (g11.below hb13).alloc (.cells #[.int .i64 3, .int .i64 1] 32)
  have g12' := (hg12.below hb13).alloc (.cells #[.int .i64 3, .int .i64 1] 32)
  clear hk12 hg12 g11 hb13 hg13 Hpa
  go_wp2_with fail
  refine (kSame hk13 (w13.heap.size + 1) (by simp) [1, 1, 1, 1, 1, 0, 0, 0] #[.int .i64 1, .int .i64 1, .int .i64 1, .int .i64 1, .int .i64 1, .int .i64 0, .int .i64 0, .int .i64 0] rfl 8 rfl (by simp) A11 c11 g11').mono ?_
  rintro e w14 ⟨rfl, hk14, hb14⟩
  have g14 := g12'.below hb14
  clear hk13 g11' g12' hb14
  go_wp2_with fail
  refine (kSame hk14 w14.heap.size rfl [0, 2] #[.int .i64 0, .int .i64 2] rfl 2 rfl (by simp) A12 c12 g14).mono ?_
  rintro e w15 ⟨rfl, hk15, hb15⟩
  clear hk14 g14 hb15
  go_wp2_with fail
  refine (awake_any w15 hk15.laid hk15.pos).mono ?_
  rintro e w16 ⟨rfl, hb16⟩
  go_wp2
  go_ret
  exact ⟨rfl, below_step hk15.old hb16⟩
end Go.Proofs.YtfacdnpgidnafaaDoor
