/- Package fault: copied, wait, Claim, Read, Lose. -/
import Derived.Test.YtbcfnocefjolfaaF8
import Derived.Laws.ResultCell
namespace Go.Proofs.Ytbcfnocefjolfaa
open Go.RowKit

/-- A call returned a request and an error; nothing that was there has changed. -/
def RetR (w : World) (tk kind proc a b val st : Int) (xs : List Int) (slot err : Int) (e : Ending) (w' : World) : Prop :=
  ∃ A c, e = .returned (.tuple #[.agg #[.int .u64 tk, .int .i64 kind, .int .i64 proc, .int .i64 a, .int .i64 b, .int .u64 val, .int .i64 st, .slice A xs.length c, .int .i64 slot], .int .i64 err]) ∧ OwnI w' w.heap.size A xs.length c xs ∧ Below w.heap.size w w'

theorem req_size : (Try.prog.info? 27).map (·.size) = some 9 := by kernel_rfl
theorem frq_size : (Try.prog.info? 54).map (·.size) = some 9 := by kernel_rfl
theorem rq_one (tk kind proc a b val st : Int) (A : Option Addr) (n c : Nat) (slot : Int) : ((#[.int .u64 tk, .int .i64 kind, .int .i64 proc, .int .i64 a, .int .i64 b, .int .u64 val, .int .i64 st, .slice A n c, .int .i64 slot] : Array Value).all fun v => v.oneCell') = true := by simp [Value.oneCell']

/-- A frame that returns a request out of a variable and an error out of a slot. -/
theorem res_cell {fn : Func} {p u : Tmp} (h : fn.results = #[.cell p 27, .tmp u]) {tmps : Array Value} {w : World} {g : Nat} {cs : Array Value} {v : Value} (hp : tmps.getD p undef = .pointer (some ⟨g, 0, none⟩)) (hu : tmps.getD u undef = v) (hg : Bx w g 27 cs) (hs : cs.size = 9) :
    (results fn tmps).run Try.prog w = .ok (.tuple #[.agg cs, v]) w := by
  rw [results_cell_tmp h, hp, hu]
  simp [asAddr, run_loadVar_row w g _ 27 cs _ _ hg Try.underlying27 rfl (by rw [hs]; exact req_size)]

set_option maxHeartbeats 1000000 in
theorem copied_any (tk kind proc a b val st : Int) (A : Option Addr) (c : Nat) (xs : List Int) (slot : Int) (w : World) (ha : GI w A c xs) (hl : xs.length ≤ 1000) :
    Calls Try.prog 33 #[.agg #[.int .u64 tk, .int .i64 kind, .int .i64 proc, .int .i64 a, .int .i64 b, .int .u64 val, .int .i64 st, .slice A xs.length c, .int .i64 slot]] w fun e w' => ∃ A' c', e = .returned (.agg #[.int .u64 tk, .int .i64 kind, .int .i64 proc, .int .i64 a, .int .i64 b, .int .u64 val, .int .i64 st, .slice A' xs.length c', .int .i64 slot]) ∧ OwnI w' w.heap.size A' xs.length c' xs ∧ Below w.heap.size w w' := by
  have hx := (Bx.new w 54 #[.int .u64 tk, .int .i64 kind, .int .i64 proc, .int .i64 a, .int .i64 b, .int .u64 val, .int .i64 st, .slice A xs.length c, .int .i64 slot]).alloc (.cells #[.int .u64 0, .int .i64 0, .int .i64 0, .int .i64 0, .int .i64 0, .int .u64 0, .int .i64 0, .slice none 0 0, .int .i64 0] 54)
  have hy := Bx.new (w.alloc (.cells #[.int .u64 tk, .int .i64 kind, .int .i64 proc, .int .i64 a, .int .i64 b, .int .u64 val, .int .i64 st, .slice A xs.length c, .int .i64 slot] 54)) 54 #[.int .u64 0, .int .i64 0, .int .i64 0, .int .i64 0, .int .i64 0, .int .u64 0, .int .i64 0, .slice none 0 0, .int .i64 0]
  rw [World.size_alloc] at hy
  have hw := below_step (al w (.cells #[.int .u64 tk, .int .i64 kind, .int .i64 proc, .int .i64 a, .int .i64 b, .int .u64 val, .int .i64 st, .slice A xs.length c, .int .i64 slot] 54)) (al _ (.cells #[.int .u64 0, .int .i64 0, .int .i64 0, .int .i64 0, .int .i64 0, .int .u64 0, .int .i64 0, .slice none 0 0, .int .i64 0] 54))
  have hg := ha.below hw
  have HC := Lib.hid (fun W (hW : GI W A c xs) => clone_any A c xs W hW (by omega))
  clear ha
  go_enter Try.func33, Try.ntmps33
  go_wp2_with fail
  refine (HC.out _ hg).mono ?_
  rintro e w1 ⟨A', c', rfl, hown, hb1⟩
  have hx1 := hx.below hb1
  have hy1 := hy.below hb1
  have hw1 := below_step hw hb1
  have hc7 : w1.cell? ⟨w.heap.size, 7, none⟩ = some (.slice A xs.length c) := hx1.cell 7
  have hz7 := hx1.frozen 7
  have hx2 : Bx (w1.setCell ⟨w.heap.size, 7, none⟩ (.slice A' xs.length c')) w.heap.size 54 #[.int .u64 tk, .int .i64 kind, .int .i64 proc, .int .i64 a, .int .i64 b, .int .u64 val, .int .i64 st, .slice A' xs.length c', .int .i64 slot] := hx1.set 7 _
  have hy2 := hy1.setO (p := ⟨w.heap.size, 7, none⟩) (by simp) (.slice A' xs.length c')
  simp only [World.size_alloc] at hown
  clear hx hy hb1 hg HC hw
  go_wp2_with (first | (refine wpList_load_row rfl 54 _ rfl w.heap.size rfl 54 _ _ _ hx2 Try.underlying54 rfl frq_size ?_) | (refine wpList_store_row rfl 54 _ _ rfl (w.heap.size + 1) _ rfl rfl 54 _ hy2 frq_size rfl (rq_one tk kind proc a b val st A' xs.length c' slot) ?_))
  refine bodyPost_ret (results_cell_row rfl _ _ (w.heap.size + 1) 54 _ (0, 0) _ rfl (hy2.row _) Try.underlying54 rfl frq_size) rfl ⟨A', c', rfl, ?_, ?_⟩
  · exact ((hown.setLow (by show w.heap.size < _; omega) _).rowLow (by omega) _).mono (by omega)
  · exact below_setRow (hw1.setCell (Nat.le_refl _) _) (by omega) _

/-- The error of Lose. -/
def loseE (tk kind proc a b val st : Int) (xs : List Int) (slot : Int) : Int := if chkE tk kind proc a b val st xs slot ≠ 0 then chkE tk kind proc a b val st xs slot else if st ≠ 3 then 9 else 0
def loseS (n : Nat) : Int := if 0 < n then 2 else 1

set_option maxHeartbeats 1000000 in
theorem Lose_bad (tk kind proc a b val st : Int) (A : Option Addr) (c : Nat) (xs : List Int) (slot : Int) (w : World) (ha : GI w A c xs) (he : loseE tk kind proc a b val st xs slot ≠ 0) :
    Calls Try.prog 12 #[.agg #[.int .u64 tk, .int .i64 kind, .int .i64 proc, .int .i64 a, .int .i64 b, .int .u64 val, .int .i64 st, .slice A xs.length c, .int .i64 slot]] w (RetR w 0 0 0 0 0 0 0 [] 0 (loseE tk kind proc a b val st xs slot)) := by
  have hx := (Bx.new w 27 #[.int .u64 tk, .int .i64 kind, .int .i64 proc, .int .i64 a, .int .i64 b, .int .u64 val, .int .i64 st, .slice A xs.length c, .int .i64 slot]).alloc (.cells #[.int .u64 0, .int .i64 0, .int .i64 0, .int .i64 0, .int .i64 0, .int .u64 0, .int .i64 0, .slice none 0 0, .int .i64 0] 27)
  have hy := Bx.new (w.alloc (.cells #[.int .u64 tk, .int .i64 kind, .int .i64 proc, .int .i64 a, .int .i64 b, .int .u64 val, .int .i64 st, .slice A xs.length c, .int .i64 slot] 27)) 27 #[.int .u64 0, .int .i64 0, .int .i64 0, .int .i64 0, .int .i64 0, .int .u64 0, .int .i64 0, .slice none 0 0, .int .i64 0]
  rw [World.size_alloc] at hy
  have hw := below_step (al w (.cells #[.int .u64 tk, .int .i64 kind, .int .i64 proc, .int .i64 a, .int .i64 b, .int .u64 val, .int .i64 st, .slice A xs.length c, .int .i64 slot] 27)) (al _ (.cells #[.int .u64 0, .int .i64 0, .int .i64 0, .int .i64 0, .int .i64 0, .int .u64 0, .int .i64 0, .slice none 0 0, .int .i64 0] 27))
  have hg := ha.below hw
  have Hc := Lib.hid (fun W (hW : GI W A c xs) => Check_any tk kind proc a b val st A c xs slot W hW)
  clear ha
  unfold loseE at he ⊢
  by_cases hc : chkE tk kind proc a b val st xs slot = 0
  · rw [if_neg (by simpa using hc)] at he ⊢
    have hs : st ≠ 3 := by intro h; rw [if_neg (by simpa using h)] at he; exact he rfl
    rw [if_pos hs]
    have hs' : (st != 3) = true := by simp [hs]
    rw [hc] at Hc
    clear hc he hs
    go_enter Try.func12, Try.ntmps12
    go_wp2_with (first | (refine wpList_load_row rfl 27 _ rfl (w.heap.size) rfl 27 _ _ _ hx Try.underlying27 rfl req_size ?_))
    refine (Hc.out _ hg).mono ?_
    rintro e w1 ⟨rfl, hb1⟩
    have hx1 := hx.below hb1
    have hy1 := hy.below hb1
    have hw1 := below_step hw hb1
    have q6 : w1.cell? ⟨w.heap.size, 6, none⟩ = some (.int .i64 st) := hx1.cell 6
    clear hx hy hb1 hw hg
    go_wp2_with (first | (refine wpList_store_row rfl 27 _ _ rfl (w.heap.size + 1) _ rfl rfl 27 _ hy1 req_size rfl (rq_one 0 0 0 0 0 0 0 none 0 0 0) ?_))
    refine bodyPost_ret (res_cell rfl rfl rfl (hy1.row _) rfl) rfl ⟨none, 0, rfl, OwnI.none _ _, ?_⟩
    exact below_setRow hw1 (by omega) _
  · rw [if_pos hc]
    have hc' : (chkE tk kind proc a b val st xs slot != 0) = true := by simp [hc]
    clear hc he
    generalize chkE tk kind proc a b val st xs slot = ce at *
    go_enter Try.func12, Try.ntmps12
    go_wp2_with (first | (refine wpList_load_row rfl 27 _ rfl (w.heap.size) rfl 27 _ _ _ hx Try.underlying27 rfl req_size ?_))
    refine (Hc.out _ hg).mono ?_
    rintro e w1 ⟨rfl, hb1⟩
    have hy1 := hy.below hb1
    have hw1 := below_step hw hb1
    clear hx hy hb1 hw hg
    go_wp2_with (first | (refine wpList_store_row rfl 27 _ _ rfl (w.heap.size + 1) _ rfl rfl 27 _ hy1 req_size rfl (rq_one 0 0 0 0 0 0 0 none 0 0 0) ?_))
    refine bodyPost_ret (res_cell rfl rfl rfl (hy1.row _) rfl) rfl ⟨none, 0, rfl, OwnI.none _ _, ?_⟩
    exact below_setRow hw1 (by omega) _


set_option maxHeartbeats 1000000 in
theorem Lose_ok (tk kind proc a b val st : Int) (A : Option Addr) (c : Nat) (xs : List Int) (slot : Int) (w : World) (ha : GI w A c xs) (he : loseE tk kind proc a b val st xs slot = 0) :
    Calls Try.prog 12 #[.agg #[.int .u64 tk, .int .i64 kind, .int .i64 proc, .int .i64 a, .int .i64 b, .int .u64 val, .int .i64 st, .slice A xs.length c, .int .i64 slot]] w (RetR w tk kind proc a b val (loseS xs.length) xs 0 0) := by
  have hx := (Bx.new w 27 #[.int .u64 tk, .int .i64 kind, .int .i64 proc, .int .i64 a, .int .i64 b, .int .u64 val, .int .i64 st, .slice A xs.length c, .int .i64 slot]).alloc (.cells #[.int .u64 0, .int .i64 0, .int .i64 0, .int .i64 0, .int .i64 0, .int .u64 0, .int .i64 0, .slice none 0 0, .int .i64 0] 27)
  have hy := Bx.new (w.alloc (.cells #[.int .u64 tk, .int .i64 kind, .int .i64 proc, .int .i64 a, .int .i64 b, .int .u64 val, .int .i64 st, .slice A xs.length c, .int .i64 slot] 27)) 27 #[.int .u64 0, .int .i64 0, .int .i64 0, .int .i64 0, .int .i64 0, .int .u64 0, .int .i64 0, .slice none 0 0, .int .i64 0]
  rw [World.size_alloc] at hy
  have hw := below_step (al w (.cells #[.int .u64 tk, .int .i64 kind, .int .i64 proc, .int .i64 a, .int .i64 b, .int .u64 val, .int .i64 st, .slice A xs.length c, .int .i64 slot] 27)) (al _ (.cells #[.int .u64 0, .int .i64 0, .int .i64 0, .int .i64 0, .int .i64 0, .int .u64 0, .int .i64 0, .slice none 0 0, .int .i64 0] 27))
  have hg := ha.below hw
  have Hc := Lib.hid (fun W (hW : GI W A c xs) => Check_any tk kind proc a b val st A c xs slot W hW)
  unfold loseE at he
  have hc : chkE tk kind proc a b val st xs slot = 0 := by
    refine Decidable.byContradiction fun h => ?_
    rw [if_pos h] at he
    exact h he
  rw [if_neg (by simpa using hc)] at he
  have hs : st = 3 := by
    refine Decidable.byContradiction fun h => ?_
    rw [if_pos h] at he
    omega
  have hl := chk_len _ _ _ _ _ _ _ _ _ hc
  rw [hc] at Hc
  have hs' : (st != 3) = false := by simp [hs]
  have HC := Lib.hid (fun W (hW : GI W A c xs) => copied_any tk kind proc a b val st A c xs slot W hW (by omega))
  clear hc hs he
  go_enter Try.func12, Try.ntmps12
  go_wp2_with (first | (refine wpList_load_row rfl 27 _ rfl (w.heap.size) rfl 27 _ _ _ hx Try.underlying27 rfl req_size ?_))
  refine (Hc.out _ hg).mono ?_
  rintro e w1 ⟨rfl, hb1⟩
  have hx1 := hx.below hb1
  have hy1 := hy.below hb1
  have hw1 := below_step hw hb1
  have q6 : w1.cell? ⟨w.heap.size, 6, none⟩ = some (.int .i64 st) := hx1.cell 6
  have hg1 := hg.below hb1
  clear hx hy hb1 hw hg
  go_wp2_with (first | (refine wpList_load_row rfl 27 _ rfl (w.heap.size) rfl 27 _ _ _ hx1 Try.underlying27 rfl req_size ?_))
  refine (HC.out _ hg1).mono ?_
  rintro e w2 ⟨A', c', rfl, hown, hb2⟩
  have hy2 := hy1.below hb2
  have hw2 := below_step hw1 hb2
  have hlt1 := hy1.lt
  have hlt := hy2.lt
  clear hx1 hy1 hb2 hw1 hg1 q6 Hc HC
  have hn := Bx.new w2 54 #[.int .u64 0, .int .i64 0, .int .i64 0, .int .i64 0, .int .i64 0, .int .u64 0, .int .i64 0, .slice none 0 0, .int .i64 0]
  by_cases hn0 : 0 < xs.length
  · have E := Lib.hid (show loseS xs.length = 2 from if_pos hn0)
    go_wp2_with (first | (refine wpList_store_row rfl 54 _ _ rfl w2.heap.size _ rfl rfl 54 _ hn frq_size rfl (rq_one tk kind proc a b val st A' xs.length c' slot) ?_; rw [World.setRow_alloc_new]) | (refine wpList_store_row rfl 27 _ _ rfl (w.heap.size + 1) _ rfl rfl 27 _ (hy2.alloc _) req_size rfl (by simp [Value.oneCell']) ?_))
    refine bodyPost_ret (res_cell (v := .int .i64 0) rfl rfl rfl ((hy2.alloc _).row _) rfl) rfl ⟨A', c', by rw [E.out], ?_, ?_⟩
    · exact ((hown.alloc _).rowLow (by omega) _).mono (by omega)
    · exact below_setRow (below_step hw2 (al _ _)) (by omega) _
  · have E := Lib.hid (show loseS xs.length = 1 from if_neg hn0)
    go_wp2_with (first | (refine wpList_store_row rfl 54 _ _ rfl w2.heap.size _ rfl rfl 54 _ hn frq_size rfl (rq_one tk kind proc a b val st A' xs.length c' slot) ?_; rw [World.setRow_alloc_new]) | (refine wpList_store_row rfl 27 _ _ rfl (w.heap.size + 1) _ rfl rfl 27 _ (hy2.alloc _) req_size rfl (by simp [Value.oneCell']) ?_))
    refine bodyPost_ret (res_cell (v := .int .i64 0) rfl rfl rfl ((hy2.alloc _).row _) rfl) rfl ⟨A', c', by rw [E.out], ?_, ?_⟩
    · exact ((hown.alloc _).rowLow (by omega) _).mono (by omega)
    · exact below_setRow (below_step hw2 (al _ _)) (by omega) _

end Go.Proofs.Ytbcfnocefjolfaa
