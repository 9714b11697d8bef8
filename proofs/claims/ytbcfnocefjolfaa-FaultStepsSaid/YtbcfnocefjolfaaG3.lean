/- The law's own functions: SameRequest, does, write, fork, awake. -/
import Derived.Test.YtbcfnocefjolfaaG2
namespace Go.Proofs.Ytbcfnocefjolfaa
open Go.RowKit

theorem fac_size : (Try.prog.info? 38).map (·.size) = some 5 := by kernel_rfl
set_option maxHeartbeats 1000000 in
theorem SameRequest_yes (tk kind proc a b val st : Int) (A : Option Addr) (c : Nat) (xs : List Int) (slot : Int) (A2 : Option Addr) (c2 : Nat) (w : World) (ha : GI w A c xs) (hb : GI w A2 c2 xs) :
    Calls Try.prog 13 #[.agg #[.int .u64 tk, .int .i64 kind, .int .i64 proc, .int .i64 a, .int .i64 b, .int .u64 val, .int .i64 st, .slice A xs.length c, .int .i64 slot], .agg #[.int .u64 tk, .int .i64 kind, .int .i64 proc, .int .i64 a, .int .i64 b, .int .u64 val, .int .i64 st, .slice A2 xs.length c2, .int .i64 slot]] w (RetB w (.returned (.bool true))) := by
  have hw := below_step (al w (.cells #[.int .u64 tk, .int .i64 kind, .int .i64 proc, .int .i64 a, .int .i64 b, .int .u64 val, .int .i64 st, .slice A xs.length c, .int .i64 slot] 27)) (al _ (.cells #[.int .u64 tk, .int .i64 kind, .int .i64 proc, .int .i64 a, .int .i64 b, .int .u64 val, .int .i64 st, .slice A2 xs.length c2, .int .i64 slot] 27))
  have ha1 := ha.below hw
  have hb1 := hb.below hw
  have HS := Lib.hid (fun W (h1 : GI W A c xs) (h2 : GI W A2 c2 xs) => sameInts_yes A A2 c c2 xs W h1 h2)
  have e1 : (tk == tk) = true := by simp
  have e2 : (st == st) = true := by simp
  have e3 : (slot == slot) = true := by simp
  clear ha hb
  go_enter Try.func13, Try.ntmps13
  go_wp2_with (first | (go_at_call 34; refine (HS.out _ ha1 hb1).mono ?_; rintro e w' ⟨rfl, kk, rfl⟩))
  go_ret
  exact ⟨rfl, below_drewN' hw kk⟩

set_option maxHeartbeats 1000000 in
theorem does_yes (tk kind proc a b val st : Int) (A : Option Addr) (c : Nat) (xs : List Int) (slot : Int) (acc : Int) (wr rm : Bool) (lv : Int) (fr : Bool) (nx nd : Int) (w : World) (ha : GI w A c xs) (hce : cfE tk kind proc a b val st xs slot acc lv = 0) (h1 : (lookF kind st xs.length acc wr rm lv fr).2.1 = nx) (h2 : (lookF kind st xs.length acc wr rm lv fr).2.2 = nd) :
    Calls Try.prog 28 #[.agg #[.int .u64 tk, .int .i64 kind, .int .i64 proc, .int .i64 a, .int .i64 b, .int .u64 val, .int .i64 st, .slice A xs.length c, .int .i64 slot], .agg #[.int .i64 acc, .bool wr, .bool rm, .int .i64 lv, .bool fr], .int .i64 nx, .int .i64 nd] w (RetB w (.returned (.bool true))) := by
  have hx := (Bx.new w 27 #[.int .u64 tk, .int .i64 kind, .int .i64 proc, .int .i64 a, .int .i64 b, .int .u64 val, .int .i64 st, .slice A xs.length c, .int .i64 slot]).alloc (.cells #[.int .i64 acc, .bool wr, .bool rm, .int .i64 lv, .bool fr] 38)
  have hy := Bx.new (w.alloc (.cells #[.int .u64 tk, .int .i64 kind, .int .i64 proc, .int .i64 a, .int .i64 b, .int .u64 val, .int .i64 st, .slice A xs.length c, .int .i64 slot] 27)) 38 #[.int .i64 acc, .bool wr, .bool rm, .int .i64 lv, .bool fr]
  rw [World.size_alloc] at hy
  have hw := below_step (al w (.cells #[.int .u64 tk, .int .i64 kind, .int .i64 proc, .int .i64 a, .int .i64 b, .int .u64 val, .int .i64 st, .slice A xs.length c, .int .i64 slot] 27)) (al _ (.cells #[.int .i64 acc, .bool wr, .bool rm, .int .i64 lv, .bool fr] 38))
  have hg := ha.below hw
  have HN := Lib.hid (fun W (hW : GI W A c xs) => Next_any tk kind proc a b val st A c xs slot acc wr rm lv fr W hW 0 hce.symm)
  have HD := Lib.hid (fun W (hW : GI W A c xs) => Needs_any tk kind proc a b val st A c xs slot acc wr rm lv fr W hW 0 hce.symm)
  rw [show okE 0 (lookF kind st xs.length acc wr rm lv fr).2.1 = nx from (if_pos rfl).trans h1] at HN
  rw [show okE 0 (lookF kind st xs.length acc wr rm lv fr).2.2 = nd from (if_pos rfl).trans h2] at HD
  have e1 : (nx == nx) = true := by simp
  have e2 : (nd == nd) = true := by simp
  clear ha hce h1 h2
  go_enter Try.func28, Try.ntmps28
  go_wp2_with (first | (refine wpList_load_row rfl 27 _ rfl (w.heap.size) rfl 27 _ _ _ hx Try.underlying27 rfl req_size ?_) | (refine wpList_load_row rfl 38 _ rfl (w.heap.size + 1) rfl 38 _ _ _ hy Try.underlying38 rfl fac_size ?_))
  refine (HN.out _ hg).mono ?_
  rintro e w1 ⟨rfl, hb1⟩
  have hx1 := hx.below hb1
  have hy1 := hy.below hb1
  have hw1 := below_step hw hb1
  have hg1 := hg.below hb1
  clear hx hy hw hg hb1
  go_wp2_with (first | (refine wpList_load_row rfl 27 _ rfl (w.heap.size) rfl 27 _ _ _ hx1 Try.underlying27 rfl req_size ?_) | (refine wpList_load_row rfl 38 _ rfl (w.heap.size + 1) rfl 38 _ _ _ hy1 Try.underlying38 rfl fac_size ?_))
  refine (HD.out _ hg1).mono ?_
  rintro e w2 ⟨rfl, hb2⟩
  go_wp2
  go_ret
  exact ⟨rfl, below_step hw1 hb2⟩

set_option maxHeartbeats 1000000 in
theorem write_any (w : World) : Calls Try.prog 29 #[] w (RetB w (.returned (.agg #[.int .u64 5, .int .i64 5, .int .i64 2, .int .i64 9, .int .i64 0, .int .u64 1, .int .i64 1, .slice none 0 0, .int .i64 0]))) := by
  have hn := Bx.new w 27 #[.int .u64 0, .int .i64 0, .int .i64 0, .int .i64 0, .int .i64 0, .int .u64 0, .int .i64 0, .slice none 0 0, .int .i64 0]
  go_enter Try.func29, Try.ntmps29
  go_wp2_with (first | (refine wpList_store_row rfl 27 _ _ rfl w.heap.size _ rfl rfl 27 _ hn req_size rfl (by simp [Value.oneCell']) ?_; rw [World.setRow_alloc_new]))
  refine bodyPost_ret (results_cell_row rfl _ _ w.heap.size 27 _ (0, 0) _ rfl (Bx.new w _ _) Try.underlying27 rfl req_size) rfl ⟨rfl, al _ _⟩

set_option maxHeartbeats 1000000 in
theorem fork_any (A : Option Addr) (c : Nat) (xs : List Int) (w : World) : Calls Try.prog 30 #[.slice A xs.length c] w (RetB w (.returned (.agg #[.int .u64 5, .int .i64 6, .int .i64 2, .int .i64 3, .int .i64 0, .int .u64 0, .int .i64 (loseS xs.length), .slice A xs.length c, .int .i64 0]))) := by
  have hy := Bx.new w 27 #[.int .u64 0, .int .i64 0, .int .i64 0, .int .i64 0, .int .i64 0, .int .u64 0, .int .i64 0, .slice none 0 0, .int .i64 0]
  have hn := Bx.new (w.alloc (.cells #[.int .u64 0, .int .i64 0, .int .i64 0, .int .i64 0, .int .i64 0, .int .u64 0, .int .i64 0, .slice none 0 0, .int .i64 0] 27)) 27 #[.int .u64 0, .int .i64 0, .int .i64 0, .int .i64 0, .int .i64 0, .int .u64 0, .int .i64 0, .slice none 0 0, .int .i64 0]
  by_cases hn0 : 0 < xs.length
  · have E := Lib.hid (show loseS xs.length = 2 from if_pos hn0)
    go_enter Try.func30, Try.ntmps30
    go_wp2_with (first | (refine wpList_store_row rfl 27 _ _ rfl (w.heap.size + 1) _ rfl rfl 27 _ hn req_size rfl (by simp [Value.oneCell']) ?_; rw [← World.size_alloc (w := w) (o := .cells #[.int .u64 0, .int .i64 0, .int .i64 0, .int .i64 0, .int .i64 0, .int .u64 0, .int .i64 0, .slice none 0 0, .int .i64 0] 27), World.setRow_alloc_new]; rw [World.size_alloc]) | (refine wpList_store_row rfl 27 _ _ rfl (w.heap.size) _ rfl rfl 27 _ (hy.alloc _) req_size rfl (by simp [Value.oneCell']) ?_))
    refine bodyPost_ret (results_cell_row rfl _ _ w.heap.size 27 _ (0, 0) _ rfl ((hy.alloc _).row _) Try.underlying27 rfl req_size) rfl ⟨by rw [E.out], ?_⟩
    exact below_setRow (below_step (al _ _) (al _ _)) (by omega) _
  · have E := Lib.hid (show loseS xs.length = 1 from if_neg hn0)
    go_enter Try.func30, Try.ntmps30
    go_wp2_with (first | (refine wpList_store_row rfl 27 _ _ rfl (w.heap.size + 1) _ rfl rfl 27 _ hn req_size rfl (by simp [Value.oneCell']) ?_; rw [← World.size_alloc (w := w) (o := .cells #[.int .u64 0, .int .i64 0, .int .i64 0, .int .i64 0, .int .i64 0, .int .u64 0, .int .i64 0, .slice none 0 0, .int .i64 0] 27), World.setRow_alloc_new]; rw [World.size_alloc]) | (refine wpList_store_row rfl 27 _ _ rfl (w.heap.size) _ rfl rfl 27 _ (hy.alloc _) req_size rfl (by simp [Value.oneCell']) ?_))
    refine bodyPost_ret (results_cell_row rfl _ _ w.heap.size 27 _ (0, 0) _ rfl ((hy.alloc _).row _) Try.underlying27 rfl req_size) rfl ⟨by rw [E.out], ?_⟩
    exact below_setRow (below_step (al _ _) (al _ _)) (by omega) _

set_option maxHeartbeats 1000000 in
theorem awake_any (w : World) : Calls Try.prog 11 #[] w (RetB w (.returned (.bool true))) := by
  have H1 := Lib.hid (fun W => does_yes 5 5 2 9 0 1 1 none 0 [] 0 6 false false 0 false 4 2 W (GI.nil _) (by decide) (by decide) (by decide))
  have H2 := Lib.hid (fun W => does_yes 5 5 2 9 0 1 1 none 0 [] 0 4 false false 0 false 1 1 W (GI.nil _) (by decide) (by decide) (by decide))
  have H3 := Lib.hid (fun W => does_yes 5 6 2 3 0 0 1 none 0 [] 0 0 false false 2 true 3 4 W (GI.nil _) (by decide) (by decide) (by decide))
  have HF := Lib.hid (fun W => fork_any none 0 [] W)
  go_enter Try.func11, Try.ntmps11
  go_wp2_with fail
  refine (write_any _).mono ?_
  rintro e w1 ⟨rfl, hb1⟩
  go_wp2_with fail
  refine (H1.out _).mono ?_
  rintro e w2 ⟨rfl, hb2⟩
  go_wp2_with fail
  refine (write_any _).mono ?_
  rintro e w3 ⟨rfl, hb3⟩
  go_wp2_with fail
  refine (H2.out _).mono ?_
  rintro e w4 ⟨rfl, hb4⟩
  go_wp2_with fail
  refine (HF.out _).mono ?_
  rintro e w5 ⟨rfl, hb5⟩
  go_wp2_with fail
  refine (H3.out _).mono ?_
  rintro e w6 ⟨rfl, hb6⟩
  go_wp2
  go_ret
  exact ⟨rfl, below_step (below_step (below_step (below_step (below_step hb1 hb2) hb3) hb4) hb5) hb6⟩

end Go.Proofs.Ytbcfnocefjolfaa
