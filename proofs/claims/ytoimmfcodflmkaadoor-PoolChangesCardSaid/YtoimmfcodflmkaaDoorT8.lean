/- Package pool: Take. -/
import Derived.Test.YtoimmfcodflmkaaDoorT7
import Derived.RegionTactic
namespace Go.Proofs.YtoimmfcodflmkaaDoor
open Go.RowKit Go.Conc
set_option linter.unusedVariables false

theorem Bx.chan {w : World} {g : Nat} {t : TypeId} {cs : Array Value} (h : Bx w g t cs) {B : Nat} (hB : g ≠ B) (cap : Nat) (buf : Array Value) (cl : Bool) (s r : Nat) (tm : Bool) : Bx (w.setChan B cap buf cl s r tm) g t cs := by
  show (w.setChan B cap buf cl s r tm).heap[g]? = _
  simp only [World.setChan]
  rw [Array.getElem?_setIfInBounds_ne (fun e => hB e.symm)]
  exact h
/-- The error of Take. -/
def tkE (s : Int) (xs : List Int) : Int := if (chkP s xs).1 ≠ 0 then (chkP s xs).1 else if xs.length = 0 then 5 else 0

set_option maxHeartbeats 2000000 in
theorem Take_bad (s : Int) (A : Option Addr) (c : Nat) (xs : List Int) (w : World) (ha : GI w A c xs) (he : tkE s xs ≠ 0) :
    Calls Tryd.prog 18 #[.agg #[.int .i64 s, .slice A xs.length c]] w (RetP3 w 0 [] 0 (tkE s xs)) := by
  have hx := (Bx.new w 24 #[.int .i64 s, .slice A xs.length c]).alloc (.cells #[.int .i64 0, .slice none 0 0] 24)
  have hy := Bx.new (w.alloc (.cells #[.int .i64 s, .slice A xs.length c] 24)) 24 #[.int .i64 0, .slice none 0 0]
  rw [World.size_alloc] at hy
  have hw := below_step (al w (.cells #[.int .i64 s, .slice A xs.length c] 24)) (al _ (.cells #[.int .i64 0, .slice none 0 0] 24))
  have hg := ha.below hw
  have Hc := Lib.hid (fun W (hW : GI W A c xs) => Check_any s A c xs W hW)
  clear ha
  unfold tkE at he ⊢
  by_cases hc : (chkP s xs).1 = 0
  · rw [if_neg (by simpa using hc)] at he ⊢
    have hok := chkP_ok hc
    rw [hok.chk] at Hc
    have hl0 : xs = [] := by
      refine Decidable.byContradiction fun h => ?_
      rw [if_neg (by simpa using h)] at he
      exact he rfl
    subst hl0
    rw [show (if ([] : List Int).length = 0 then (5 : Int) else 0) = 5 from rfl]
    have HR := Lib.hid (fun W (hW : GI W A c []) => ready_any s A c [] W hW (by simp))
    clear hc he hok
    refine CN.calls Tryd.func18 rfl ?_
    simp only [Tryd.ntmps18, List.size_toArray, List.length_cons, List.length_nil, Nat.reduceAdd, Nat.reduceSub, Array.replicate_succ, Array.replicate_zero, List.push_toArray, List.append_toArray, List.nil_append, List.cons_append]
    refine CN.seq fun K hK => CN.of_wp ?_
    go_wp2
    refine CN.seq fun K hK => CN.of_wp ?_
    go_wp2_with (first | (refine wpList_load_row rfl 24 _ rfl (w.heap.size) rfl 24 _ _ _ hx Tryd.underlying24 rfl pool_size ?_))
    refine (Hc.out _ hg).mono ?_
    rintro e w1 ⟨rfl, hb1⟩
    have hx1 := hx.below hb1
    have hy1 := hy.below hb1
    have hw1 := below_step hw hb1
    have hg1 := hg.below hb1
    have hlt1 := hy1.lt
    clear hx hy hb1 hw hg
    go_wp2
    refine CN.seq fun K hK => CN.of_wp ?_
    go_wp2_with (first | (refine wpList_load_row rfl 24 _ rfl (w.heap.size) rfl 24 _ _ _ hx1 Tryd.underlying24 rfl pool_size ?_))
    refine (HR.out _ hg1).mono ?_
    rintro e w2 ⟨B, rfl, hch, hBl, hBlt, hb2⟩
    have hx2 := hx1.below hb2
    have hy2 := hy1.below hb2
    have hw2 := below_step hw1 hb2
    clear hx1 hy1 hb2 hw1 hg1
    go_wp2
    refine CN.seq fun K hK => CN.of_wp ?_
    go_wp2
    refine CN.seq fun K1 hK1 => CN.region ?_
    show SN _ _ _ [0, 1, 2] _ _
    refine SN.none (c := B) (cap := 32) (s := 0) (r := 0) (tm := false) (z := .int .i64 0) rfl (by rfl) (by simp [go_sem, rcase]) hch ?_
    refine SN.value (v := .int .i64 (-1)) (w' := w2) rfl (by rfl) (by simp [execOp, go_sem, Act.eval, Act.put]) ?_
    refine SN.value (v := .bool false) (w' := w2) rfl (by rfl) (by simp [execOp, go_sem, Act.eval, Act.put]) ?_
    refine SN.of_ops (show K1 _ _ from hK1 _ _ ?_)
    simp only [Act.put, List.setIfInBounds_toArray, List.set_cons_zero, List.set_cons_succ]
    refine CN.of_wp ?_
    go_wp2_with (first | (refine wpList_store_row rfl 24 _ _ rfl (w.heap.size + 1) _ rfl rfl 24 _ hy2 pool_size rfl (pv_one _ _ _ _) ?_))
    refine bodyPost_ret (res_c2 rfl (v := .int .i64 0) (v2 := .int .i64 5) rfl rfl rfl (hy2.row _) Tryd.underlying24 pool_size) rfl ⟨none, 0, rfl, OwnI.none _ _, ?_⟩
    exact below_setRow hw2 (by omega) _
  · rw [if_pos hc]
    have hc' : ((chkP s xs).1 != 0) = true := by simp [hc]
    clear hc he
    generalize chkP s xs = ce at *
    obtain ⟨ce, ci⟩ := ce
    simp only at hc' ⊢
    refine CN.calls Tryd.func18 rfl ?_
    simp only [Tryd.ntmps18, List.size_toArray, List.length_cons, List.length_nil, Nat.reduceAdd, Nat.reduceSub, Array.replicate_succ, Array.replicate_zero, List.push_toArray, List.append_toArray, List.nil_append, List.cons_append]
    refine CN.seq fun K hK => CN.of_wp ?_
    go_wp2
    refine CN.seq fun K hK => CN.of_wp ?_
    go_wp2_with (first | (refine wpList_load_row rfl 24 _ rfl (w.heap.size) rfl 24 _ _ _ hx Tryd.underlying24 rfl pool_size ?_))
    refine (Hc.out _ hg).mono ?_
    rintro e w1 ⟨rfl, hb1⟩
    have hx1 := hx.below hb1
    have hy1 := hy.below hb1
    have hw1 := below_step hw hb1
    have hg1 := hg.below hb1
    have hlt1 := hy1.lt
    clear hx hy hb1 hw hg
    go_wp2_with (first | (refine wpList_store_row rfl 24 _ _ rfl (w.heap.size + 1) _ rfl rfl 24 _ hy1 pool_size rfl (pv_one _ _ _ _) ?_))
    refine bodyPost_ret (res_c2 rfl (v := .int .i64 0) (v2 := .int .i64 ce) rfl rfl rfl (hy1.row _) Tryd.underlying24 pool_size) rfl ⟨none, 0, rfl, OwnI.none _ _, ?_⟩
    exact below_setRow hw1 (by omega) _

set_option maxHeartbeats 4000000 in
theorem Take_ok (s : Int) (A : Option Addr) (c : Nat) (x : Int) (ys : List Int) (w : World) (ha : GI w A c (x :: ys)) (hok : OkP s (x :: ys)) :
    Calls Tryd.prog 18 #[.agg #[.int .i64 s, .slice A (x :: ys).length c]] w (RetP3 w s ys x 0) := by
  have hx := (Bx.new w 24 #[.int .i64 s, .slice A (x :: ys).length c]).alloc (.cells #[.int .i64 0, .slice none 0 0] 24)
  have hy := Bx.new (w.alloc (.cells #[.int .i64 s, .slice A (x :: ys).length c] 24)) 24 #[.int .i64 0, .slice none 0 0]
  rw [World.size_alloc] at hy
  have hw := below_step (al w (.cells #[.int .i64 s, .slice A (x :: ys).length c] 24)) (al _ (.cells #[.int .i64 0, .slice none 0 0] 24))
  have hg := ha.below hw
  have Hc := Lib.hid (fun W (hW : GI W A c (x :: ys)) => Check_any s A c (x :: ys) W hW)
  rw [hok.chk] at Hc
  have h1 := hok.lo
  have h2 := hok.hi
  have h3 := hok.len
  have HR := Lib.hid (fun W (hW : GI W A c (x :: ys)) => ready_any s A c (x :: ys) W hW (by omega))
  have hl : ys.length ≤ 32 := by simp at h3; omega
  have HX := Lib.hid (fun B sn rn W hB hch => rest_any B ys sn rn W hB hch hl)
  clear hok ha h3
  generalize (x :: ys).length = n at *
  refine CN.calls Tryd.func18 rfl ?_
  simp only [Tryd.ntmps18, List.size_toArray, List.length_cons, List.length_nil, Nat.reduceAdd, Nat.reduceSub, Array.replicate_succ, Array.replicate_zero, List.push_toArray, List.append_toArray, List.nil_append, List.cons_append]
  refine CN.seq fun K hK => CN.of_wp ?_
  go_wp2
  refine CN.seq fun K hK => CN.of_wp ?_
  go_wp2_with (first | (refine wpList_load_row rfl 24 _ rfl (w.heap.size) rfl 24 _ _ _ hx Tryd.underlying24 rfl pool_size ?_))
  refine (Hc.out _ hg).mono ?_
  rintro e w1 ⟨rfl, hb1⟩
  have hx1 := hx.below hb1
  have hy1 := hy.below hb1
  have hw1 := below_step hw hb1
  have hg1 := hg.below hb1
  have hlt1 := hy1.lt
  clear hx hy hb1 hw hg
  go_wp2
  refine CN.seq fun K hK => CN.of_wp ?_
  go_wp2_with (first | (refine wpList_load_row rfl 24 _ rfl (w.heap.size) rfl 24 _ _ _ hx1 Tryd.underlying24 rfl pool_size ?_))
  refine (HR.out _ hg1).mono ?_
  rintro e w2 ⟨B, rfl, hch, hBl, hBlt, hb2⟩
  have hx2 := hx1.below hb2
  have hy2 := hy1.below hb2
  have hw2 := below_step hw1 hb2
  clear hx1 hy1 hb2 hw1 hg1
  go_wp2
  refine CN.seq fun K hK => CN.of_wp ?_
  go_wp2
  refine CN.seq fun K1 hK1 => CN.region ?_
  show SN _ _ _ [0, 1, 2] _ _
  refine SN.pick (c := B) (cap := 32) (s := n) (r := 0) (tm := false) (closed := false) (buf := (iv (x :: ys)).toArray) (z := .int .i64 0) rfl (by rfl) (by simp [go_sem, rcase]) hch (by simp [iv]) ?_
  have e0 : (iv (x :: ys)).toArray.getD 0 undef = .int .i64 x := rfl
  rw [e0, ext1 x ys]
  have hc2 := heap_setChan w2 B 32 (iv ys).toArray false n (0 + 1) false hBlt
  have hw3 := below_setChan hw2 (by omega : w.heap.size ≤ B) 32 (iv ys).toArray false n (0 + 1) false
  have hx3 := hx2.chan (by omega : w.heap.size ≠ B) 32 (iv ys).toArray false n (0 + 1) false
  have hy3 := hy2.chan (by omega : w.heap.size + 1 ≠ B) 32 (iv ys).toArray false n (0 + 1) false
  have hBlt3 : B < (w2.setChan B 32 (iv ys).toArray false n (0 + 1) false).heap.size := by rw [size_setChan]; exact hBlt
  generalize w2.setChan B 32 (iv ys).toArray false n (0 + 1) false = W3 at *
  clear e0 hch hw2 hx2 hy2 hBlt
  refine SN.value (v := .int .i64 0) (w' := W3) rfl (by rfl) (by simp [execOp, go_sem, Act.eval, Act.put]) ?_
  refine SN.value (v := .bool true) (w' := W3) rfl (by rfl) (by simp [execOp, go_sem, Act.eval, Act.put]) ?_
  refine SN.of_ops (show K1 _ _ from hK1 _ _ ?_)
  simp only [Act.put, List.setIfInBounds_toArray, List.set_cons_zero, List.set_cons_succ]
  refine CN.of_wp ?_
  obtain ⟨c0, c1⟩ := s2 hx3
  go_wp2_with fail
  rename_i K hK
  go_region_with (first | (go_at_call 35; go_must (refine (HX.out B n (0 + 1) W3.drew hBlt3 hc2).mono ?_; rintro e w4 ⟨A4, c4, rfl, ho4, hb4⟩; have hx4 := hx3.belowB (undrew hb4) (by omega); have hy4 := hy3.belowB (undrew hb4) (by omega); obtain ⟨d0, d1⟩ := s2 hx4; obtain ⟨y0, y1⟩ := s2 hy4; have z0 := hy4.frozen 0; have hy5 := hy4.set 0 (.int .i64 s); have z1 := hy5.frozen 1; have y2 : (w4.setCell ⟨w.heap.size + 1, 0, none⟩ (.int .i64 s)).cell? ⟨w.heap.size + 1, 1, none⟩ = some (.slice none 0 0) := hy5.cell 1; have hy6 : Bx ((w4.setCell ⟨w.heap.size + 1, 0, none⟩ (.int .i64 s)).setCell ⟨w.heap.size + 1, 1, none⟩ (.slice A4 ys.length c4)) (w.heap.size + 1) 24 #[.int .i64 s, .slice A4 ys.length c4] := hy5.set 1 _; have hw6 : Below w.heap.size w ((w4.setCell ⟨w.heap.size + 1, 0, none⟩ (.int .i64 s)).setCell ⟨w.heap.size + 1, 1, none⟩ (.slice A4 ys.length c4)) := ((hw3.trans ((undrew hb4).mono (by omega))).setCell (by show _ ≤ w.heap.size + 1; omega) _).setCell (by show _ ≤ w.heap.size + 1; omega) _; have ho6 := (Own.setLow (Own.setLow ho4 (p := ⟨w.heap.size + 1, 0, none⟩) (by show w.heap.size + 1 < W3.heap.size; omega) (.int .i64 s)) (p := ⟨w.heap.size + 1, 1, none⟩) (by show w.heap.size + 1 < W3.heap.size; omega) (.slice A4 ys.length c4)).mono (base' := w.heap.size) (by show w.heap.size ≤ W3.heap.size; omega))) | (refine wpList_store_row rfl 24 _ _ rfl (w.heap.size + 1) _ rfl rfl 24 _ hy4 pool_size rfl (pv_one _ _ _ _) ?_))
  all_goals
    refine (show K _ _ from hK _ _ ?_)
    simp only [Act.put, List.getElem_toArray, List.getElem_cons_succ, List.getElem_cons_zero, List.setIfInBounds_toArray, List.set_cons_zero, List.set_cons_succ]
    go_wp2
    exact bodyPost_ret (res_c2 rfl (v := .int .i64 x) (v2 := .int .i64 0) rfl rfl rfl hy6 Tryd.underlying24 pool_size) rfl ⟨A4, c4, rfl, ho6, hw6⟩
end Go.Proofs.YtoimmfcodflmkaaDoor
