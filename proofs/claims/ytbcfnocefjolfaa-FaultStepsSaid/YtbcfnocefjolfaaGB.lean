/- A request in new memory: own of the reference, OwnRequest. -/
import Derived.Test.YtbcfnocefjolfaaGA
namespace Go.Proofs.Ytbcfnocefjolfaa
open Go.RowKit
set_option linter.unusedVariables false

set_option maxHeartbeats 1000000 in
theorem sOwn_any (tk kind proc a b val st : Int) (A : Option Addr) (c : Nat) (xs : List Int) (slot : Int) (w : World) (ha : GI w A c xs) (hl : xs.length ≤ 1000) :
    Calls Try.prog 46 #[.agg #[.int .u64 tk, .int .i64 kind, .int .i64 proc, .int .i64 a, .int .i64 b, .int .u64 val, .int .i64 st, .slice A xs.length c, .int .i64 slot]] w fun e w' => ∃ A' c', e = .returned (.agg #[.int .u64 tk, .int .i64 kind, .int .i64 proc, .int .i64 a, .int .i64 b, .int .u64 val, .int .i64 st, .slice A' xs.length c', .int .i64 slot]) ∧ OwnI w' w.heap.size A' xs.length c' xs ∧ Below w.heap.size w w' := by
  have hx := ((Bx.new w 27 #[.int .u64 tk, .int .i64 kind, .int .i64 proc, .int .i64 a, .int .i64 b, .int .u64 val, .int .i64 st, .slice A xs.length c, .int .i64 slot]).alloc (.cells #[.int .u64 0, .int .i64 0, .int .i64 0, .int .i64 0, .int .i64 0, .int .u64 0, .int .i64 0, .slice none 0 0, .int .i64 0] 27)).alloc (.cells #[] 3)
  have hy := (Bx.new (w.alloc (.cells #[.int .u64 tk, .int .i64 kind, .int .i64 proc, .int .i64 a, .int .i64 b, .int .u64 val, .int .i64 st, .slice A xs.length c, .int .i64 slot] 27)) 27 #[.int .u64 0, .int .i64 0, .int .i64 0, .int .i64 0, .int .i64 0, .int .u64 0, .int .i64 0, .slice none 0 0, .int .i64 0]).alloc (.cells #[] 3)
  have ho := OwnI.new ((w.alloc (.cells #[.int .u64 tk, .int .i64 kind, .int .i64 proc, .int .i64 a, .int .i64 b, .int .u64 val, .int .i64 st, .slice A xs.length c, .int .i64 slot] 27)).alloc (.cells #[.int .u64 0, .int .i64 0, .int .i64 0, .int .i64 0, .int .i64 0, .int .u64 0, .int .i64 0, .slice none 0 0, .int .i64 0] 27))
  simp only [World.size_alloc] at ho hy
  have hw := below_step (below_step (al w (.cells #[.int .u64 tk, .int .i64 kind, .int .i64 proc, .int .i64 a, .int .i64 b, .int .u64 val, .int .i64 st, .slice A xs.length c, .int .i64 slot] 27)) (al _ (.cells #[.int .u64 0, .int .i64 0, .int .i64 0, .int .i64 0, .int .i64 0, .int .u64 0, .int .i64 0, .slice none 0 0, .int .i64 0] 27))) (al _ (.cells #[] 3))
  have hg := (ha.below hw).2.2
  clear ha
  go_enter Try.func46, Try.ntmps46
  go_wp2_with (first | (at_builtin; refine wpList_apl _ rfl _ _ rfl (w.heap.size + 1 + 1) (some ⟨w.heap.size + 1 + 1, 0, none⟩) 0 0 [] rfl ho _ A xs.length c xs rfl hg (by omega) (by simp only [World.size_alloc]; omega) ?_; intro A' c' w2 hown hgr; rw [Nat.zero_add] at hown ⊢; rw [List.nil_append] at hown; have hx2 := hx.grown hgr (by intro h; simp [Value.ownBlock] at h <;> omega); have hy2 := hy.grown hgr (by intro h; simp [Value.ownBlock] at h <;> omega); have hw2 : Below w.heap.size w w2 := grown_below hw ho hgr (by simp only [World.size_alloc]; omega) (by omega); have c7 : w2.cell? ⟨w.heap.size, 7, none⟩ = some (.slice A xs.length c) := hx2.cell 7; have z7 := hx2.frozen 7; have hx3 : Bx (w2.setCell ⟨w.heap.size, 7, none⟩ (.slice A' xs.length c')) w.heap.size 27 #[.int .u64 tk, .int .i64 kind, .int .i64 proc, .int .i64 a, .int .i64 b, .int .u64 val, .int .i64 st, .slice A' xs.length c', .int .i64 slot] := hx2.set 7 _; have hy3 := hy2.setO (p := ⟨w.heap.size, 7, none⟩) (by simp) (.slice A' xs.length c'); clear hx hy ho hgr hw hg) | (refine wpList_load_row rfl 27 _ rfl w.heap.size rfl 27 _ _ _ hx3 Try.underlying27 rfl req_size ?_) | (refine wpList_store_row rfl 27 _ _ rfl (w.heap.size + 1) _ rfl rfl 27 _ hy3 req_size rfl (rq_one tk kind proc a b val st A' xs.length c' slot) ?_))
  refine bodyPost_ret (results_cell_row rfl _ _ (w.heap.size + 1) 27 _ (0, 0) _ rfl (hy3.row _) Try.underlying27 rfl req_size) rfl ⟨A', c', rfl, ?_, ?_⟩
  · exact ((hown.setLow (by show w.heap.size < _; omega) _).rowLow (by omega) _).mono (by omega)
  · exact below_setRow (hw2.setCell (Nat.le_refl _) _) (by omega) _

set_option maxHeartbeats 1000000 in
theorem ownRequest_any (tk kind proc a b val st : Int) (A : Option Addr) (c : Nat) (xs : List Int) (slot : Int) (w : World) (ha : GI w A c xs) (hl : xs.length ≤ 1000) :
    Calls Try.prog 23 #[.agg #[.int .u64 tk, .int .i64 kind, .int .i64 proc, .int .i64 a, .int .i64 b, .int .u64 val, .int .i64 st, .slice A xs.length c, .int .i64 slot]] w fun e w' => ∃ A' c', e = .returned (.agg #[.int .u64 tk, .int .i64 kind, .int .i64 proc, .int .i64 a, .int .i64 b, .int .u64 val, .int .i64 st, .slice A' xs.length c', .int .i64 slot]) ∧ OwnI w' w.heap.size A' xs.length c' xs ∧ Below w.heap.size w w' := by
  have hx := ((Bx.new w 27 #[.int .u64 tk, .int .i64 kind, .int .i64 proc, .int .i64 a, .int .i64 b, .int .u64 val, .int .i64 st, .slice A xs.length c, .int .i64 slot]).alloc (.cells #[.int .u64 0, .int .i64 0, .int .i64 0, .int .i64 0, .int .i64 0, .int .u64 0, .int .i64 0, .slice none 0 0, .int .i64 0] 27)).alloc (.cells #[] 3)
  have hy := (Bx.new (w.alloc (.cells #[.int .u64 tk, .int .i64 kind, .int .i64 proc, .int .i64 a, .int .i64 b, .int .u64 val, .int .i64 st, .slice A xs.length c, .int .i64 slot] 27)) 27 #[.int .u64 0, .int .i64 0, .int .i64 0, .int .i64 0, .int .i64 0, .int .u64 0, .int .i64 0, .slice none 0 0, .int .i64 0]).alloc (.cells #[] 3)
  have ho := OwnI.new ((w.alloc (.cells #[.int .u64 tk, .int .i64 kind, .int .i64 proc, .int .i64 a, .int .i64 b, .int .u64 val, .int .i64 st, .slice A xs.length c, .int .i64 slot] 27)).alloc (.cells #[.int .u64 0, .int .i64 0, .int .i64 0, .int .i64 0, .int .i64 0, .int .u64 0, .int .i64 0, .slice none 0 0, .int .i64 0] 27))
  simp only [World.size_alloc] at ho hy
  have hw := below_step (below_step (al w (.cells #[.int .u64 tk, .int .i64 kind, .int .i64 proc, .int .i64 a, .int .i64 b, .int .u64 val, .int .i64 st, .slice A xs.length c, .int .i64 slot] 27)) (al _ (.cells #[.int .u64 0, .int .i64 0, .int .i64 0, .int .i64 0, .int .i64 0, .int .u64 0, .int .i64 0, .slice none 0 0, .int .i64 0] 27))) (al _ (.cells #[] 3))
  have hg := (ha.below hw).2.2
  clear ha
  go_enter Try.func23, Try.ntmps23
  go_wp2_with (first | (at_builtin; refine wpList_apl _ rfl _ _ rfl (w.heap.size + 1 + 1) (some ⟨w.heap.size + 1 + 1, 0, none⟩) 0 0 [] rfl ho _ A xs.length c xs rfl hg (by omega) (by simp only [World.size_alloc]; omega) ?_; intro A' c' w2 hown hgr; rw [Nat.zero_add] at hown ⊢; rw [List.nil_append] at hown; have hx2 := hx.grown hgr (by intro h; simp [Value.ownBlock] at h <;> omega); have hy2 := hy.grown hgr (by intro h; simp [Value.ownBlock] at h <;> omega); have hw2 : Below w.heap.size w w2 := grown_below hw ho hgr (by simp only [World.size_alloc]; omega) (by omega); have c7 : w2.cell? ⟨w.heap.size, 7, none⟩ = some (.slice A xs.length c) := hx2.cell 7; have z7 := hx2.frozen 7; have hx3 : Bx (w2.setCell ⟨w.heap.size, 7, none⟩ (.slice A' xs.length c')) w.heap.size 27 #[.int .u64 tk, .int .i64 kind, .int .i64 proc, .int .i64 a, .int .i64 b, .int .u64 val, .int .i64 st, .slice A' xs.length c', .int .i64 slot] := hx2.set 7 _; have hy3 := hy2.setO (p := ⟨w.heap.size, 7, none⟩) (by simp) (.slice A' xs.length c'); clear hx hy ho hgr hw hg) | (refine wpList_load_row rfl 27 _ rfl w.heap.size rfl 27 _ _ _ hx3 Try.underlying27 rfl req_size ?_) | (refine wpList_store_row rfl 27 _ _ rfl (w.heap.size + 1) _ rfl rfl 27 _ hy3 req_size rfl (rq_one tk kind proc a b val st A' xs.length c' slot) ?_))
  refine bodyPost_ret (results_cell_row rfl _ _ (w.heap.size + 1) 27 _ (0, 0) _ rfl (hy3.row _) Try.underlying27 rfl req_size) rfl ⟨A', c', rfl, ?_, ?_⟩
  · exact ((hown.setLow (by show w.heap.size < _; omega) _).rowLow (by omega) _).mono (by omega)
  · exact below_setRow (hw2.setCell (Nat.le_refl _) _) (by omega) _

end Go.Proofs.Ytbcfnocefjolfaa
