/- The law's own functions: made, facts. -/
import Derived.Test.YtbcfnocefjolfaaG3
namespace Go.Proofs.Ytbcfnocefjolfaa
open Go.RowKit

def kindF (k : Int) : Int := if k / 400 % 4 = 0 then 4 else if k / 400 % 4 = 1 then 5 else if k / 400 % 4 = 2 then 6 else 1
def aF (k : Int) : Int := if k / 400 % 4 = 0 ∨ k / 400 % 4 = 1 then k / 1600 % 64 else if k / 400 % 4 = 2 then 1 + (1 + k / 50 % 8 + k / 1600 % 7) % 8 else 0
def bF (k : Int) : Int := if k / 400 % 4 = 0 ∨ k / 400 % 4 = 1 then k / 102400 % 8 else 0
def valF (k : Int) : Int := if k / 400 % 4 = 1 then k else 0
def manyF (k m : Int) : Nat := if k / 400 % 4 = 2 then (m % 10).toNat else (m % 2).toNat
def xsF (m : Int) : Nat → List Int
  | 0 => []
  | j + 1 => xsF m j ++ [(m / 10 + 17 * j) % 256]
def stF (j : Nat) : Int := if j = 0 then 1 else 2
theorem xsF_len (m : Int) (j : Nat) : (xsF m j).length = j := by
  induction j with
  | zero => rfl
  | succ j ih => simp [xsF, ih]

structure MdL (w : World) (B4 B7 : Nat) (k m kind a b val : Int) (j : Nat) (wx : World) : Prop where
  ex : ∃ A c, OwnI wx w.heap.size A j c (xsF m j) ∧ Bx wx B7 27 #[.int .u64 (1 + k % 50), .int .i64 kind, .int .i64 (1 + k / 50 % 8), .int .i64 a, .int .i64 b, .int .u64 val, .int .i64 (stF j), .slice A j c, .int .i64 0] ∧ (Value.slice A j c).ownBlock ≠ some B7 ∧ (Value.slice A j c).ownBlock ≠ some B4
  res : Bx wx B4 27 #[.int .u64 0, .int .i64 0, .int .i64 0, .int .i64 0, .int .i64 0, .int .u64 0, .int .i64 0, .slice none 0 0, .int .i64 0]
  lo : Below w.heap.size w wx


set_option maxRecDepth 100000 in
set_option maxHeartbeats 2000000 in
theorem made_0 (n fs k m : Int) (hk : n % 16777216 = k) (hm : fs % 1048576 = m) (h4 : k / 400 % 4 = 0) (w : World) :
    Calls Try.prog 8 #[.int .i64 n, .int .i64 fs] w (fun e w' => ∃ A c, e = .returned (.agg #[.int .u64 (1 + k % 50), .int .i64 4, .int .i64 (1 + k / 50 % 8), .int .i64 (k / 1600 % 64), .int .i64 (k / 102400 % 8), .int .u64 0, .int .i64 (stF (m % 2).toNat), .slice A (m % 2).toNat c, .int .i64 0]) ∧ OwnI w' w.heap.size A (m % 2).toNat c (xsF m (m % 2).toNat) ∧ Below w.heap.size w w') := by
  have hk0 : 0 ≤ k := by omega
  have hk1 : k < 16777216 := by omega
  have hm0 : 0 ≤ m := by omega
  have hm1 : m < 1048576 := by omega
  have Hk := Lib.hid hk
  have Hm := Lib.hid hm
  clear hk hm
  have hn := Bx.new (w.alloc (.cells #[.int .u64 0, .int .i64 0, .int .i64 0, .int .i64 0, .int .i64 0, .int .u64 0, .int .i64 0, .slice none 0 0, .int .i64 0] 27)) 27 #[.int .u64 0, .int .i64 0, .int .i64 0, .int .i64 0, .int .i64 0, .int .u64 0, .int .i64 0, .slice none 0 0, .int .i64 0]
  go_enter Try.func8, Try.ntmps8
  go_wp2_with (first | (go_at_call 10; refine (mod_any _ _ (by omega) (by omega) _).mono ?_; rintro e w' ⟨rfl, rfl⟩; first | rw [Hk.out] | rw [Hm.out]) | (refine wpList_store_row rfl 27 _ _ rfl (w.heap.size + 1) _ rfl rfl 27 _ hn req_size rfl (by simp [Value.oneCell']) ?_; rw [← World.size_alloc (w := w) (o := .cells #[.int .u64 0, .int .i64 0, .int .i64 0, .int .i64 0, .int .i64 0, .int .u64 0, .int .i64 0, .slice none 0 0, .int .i64 0] 27), World.setRow_alloc_new]; rw [World.size_alloc]))
  clear hn h4
  go_loopg [9] (m % 2).toNat (fun g i wx => ∃ j : Nat, g = (m % 2).toNat - j ∧ (j : Int) ≤ m % 2 ∧ i = .int .i64 j ∧ MdL w w.heap.size (w.heap.size + 1) k m 4 (k / 1600 % 64) (k / 102400 % 8) 0 j wx)
  case atStart =>
    refine ⟨0, rfl, by omega, rfl, ⟨none, 0, OwnI.none _ _, ?_, by simp [Value.ownBlock], by simp [Value.ownBlock]⟩, ?_, ?_⟩
    · have := (Bx.new (w.alloc (.cells #[.int .u64 0, .int .i64 0, .int .i64 0, .int .i64 0, .int .i64 0, .int .u64 0, .int .i64 0, .slice none 0 0, .int .i64 0] 27)) 27 #[.int .u64 (1 + k % 50), .int .i64 4, .int .i64 (1 + k / 50 % 8), .int .i64 (k / 1600 % 64), .int .i64 (k / 102400 % 8), .int .u64 0, .int .i64 1, .slice none 0 0, .int .i64 0]).alloc (.cells #[.int .i64 4, .int .i64 5, .int .i64 6, .int .i64 1] 3)
      rw [World.size_alloc] at this
      exact this
    · exact ((Bx.new w 27 #[.int .u64 0, .int .i64 0, .int .i64 0, .int .i64 0, .int .i64 0, .int .u64 0, .int .i64 0, .slice none 0 0, .int .i64 0]).alloc _).alloc _
    · exact below_step (below_step (al _ _) (al _ _)) (al _ _)
  case round =>
    obtain ⟨j, rfl, hj, rfl, hr⟩ := hrel
    obtain ⟨A, c, hown, hbx, hne7, hne4⟩ := hr.ex
    have hres := hr.res
    have hlo := hr.lo
    have hl7 := hbx.lt
    have hl4 := hres.lt
    clear hr
    by_cases hlt : (j : Int) < m % 2
    · have hj10 : j ≤ 10 := by omega
      have c7 : wr.cell? ⟨w.heap.size + 1, 7, none⟩ = some (.slice A j c) := hbx.cell 7
      have hcn := (Bx.new wr 3 #[.int .i64 ((m / 10 + 17 * (j : Int)) % 256)]).cell 0
      have ho1 := hown.alloc (.cells #[.int .i64 ((m / 10 + 17 * (j : Int)) % 256)] 3)
      have hbx1 := hbx.alloc (.cells #[.int .i64 ((m / 10 + 17 * (j : Int)) % 256)] 3)
      have hrs1 := hres.alloc (.cells #[.int .i64 ((m / 10 + 17 * (j : Int)) % 256)] 3)
      have hlo1 := below_step hlo (al _ (.cells #[.int .i64 ((m / 10 + 17 * (j : Int)) % 256)] 3))
      go_wp2_with (first | (at_builtin; refine wpList_ap1b _ rfl _ _ rfl w.heap.size A j c (xsF m j) rfl ho1 ⟨wr.heap.size, 0, none⟩ 1 ((m / 10 + 17 * (j : Int)) % 256) rfl hcn (by omega) (by simp; omega) ?_; intro A5 c5 w5 hown5 hg5 hl5; rw [World.size_alloc] at hl5; have hbx5 := hbx1.grown hg5 (fun h => hne7 h.symm); have hrs5 := hrs1.grown hg5 (fun h => hne4 h.symm); have hlo5 : Below w.heap.size w w5 := grown_below hlo1 ho1 hg5 (by simp; omega) (by omega); have hr7 : (Value.slice A5 (j + 1) c5).ownBlock ≠ some (w.heap.size + 1) := (fun h => hl5.elim (fun h' => hne7 (h'.symm.trans h)) (fun h' => by have := Option.some.inj (h'.symm.trans h); omega)); have hr4 : (Value.slice A5 (j + 1) c5).ownBlock ≠ some w.heap.size := (fun h => hl5.elim (fun h' => hne4 (h'.symm.trans h)) (fun h' => by have := Option.some.inj (h'.symm.trans h); omega)); have d7 : w5.cell? ⟨w.heap.size + 1, 7, none⟩ = some (.slice A j c) := hbx5.cell 7; have z7 := hbx5.frozen 7; have d6 : w5.cell? ⟨w.heap.size + 1, 6, none⟩ = some (.int .i64 (stF j)) := hbx5.cell 6; have z6 := hbx5.frozen 6; clear c7 hcn ho1 hbx1 hrs1 hlo1 hg5 hl5 hbx hres hlo hown))
      go_roundg ((m % 2).toNat - (j + 1))
      case measure => omega
      case rel =>
        refine ⟨j + 1, rfl, by omega, by go_num, ⟨A5, c5, ?_, ?_, hr7, hr4⟩, ?_, ?_⟩
        · exact (hown5.setCell_far (p := ⟨w.heap.size + 1, 7, none⟩) hr7 _).setCell_far (p := ⟨w.heap.size + 1, 6, none⟩) hr7 _
        · exact (hbx5.set 7 _).set 6 _
        · exact (hrs5.setO (p := ⟨w.heap.size + 1, 7, none⟩) (by show _ ≠ w.heap.size + 1; omega) _).setO (p := ⟨w.heap.size + 1, 6, none⟩) (by show _ ≠ w.heap.size + 1; omega) _
        · exact (hlo5.setCell (by show _ ≤ w.heap.size + 1; omega) _).setCell (by show _ ≤ w.heap.size + 1; omega) _
    · have hje : j = (m % 2).toNat := by omega
      have Hje := Lib.hid hje
      clear hje
      go_wp2_with (first | (refine wpList_load_row rfl 27 _ rfl (w.heap.size + 1) rfl 27 _ _ _ hbx Try.underlying27 rfl req_size ?_) | (refine wpList_store_row rfl 27 _ _ rfl (w.heap.size) _ rfl rfl 27 _ hres req_size rfl (by simp [Value.oneCell']) ?_))
      refine bodyPost_ret (results_cell_row rfl _ _ w.heap.size 27 _ (0, 0) _ rfl (hres.row _) Try.underlying27 rfl req_size) rfl ⟨A, c, by rw [← Hje.out], ?_, ?_⟩
      · rw [← Hje.out]
        refine ⟨hown.1, ?_⟩
        rcases hown.2 with h | ⟨g, off, cap, cur, hv, hb, hgg, r⟩
        · exact .inl h
        · refine .inr ⟨g, off, cap, cur, hv, hb, (setRow_other wr w.heap.size g _ ?_).trans hgg, r⟩
          intro e
          subst e
          rw [hv] at hne4
          exact hne4 rfl
      · exact below_setRow hlo (Nat.le_refl _) _


set_option maxRecDepth 100000 in
set_option maxHeartbeats 2000000 in
theorem made_1 (n fs k m : Int) (hk : n % 16777216 = k) (hm : fs % 1048576 = m) (h4 : k / 400 % 4 = 1) (w : World) :
    Calls Try.prog 8 #[.int .i64 n, .int .i64 fs] w (fun e w' => ∃ A c, e = .returned (.agg #[.int .u64 (1 + k % 50), .int .i64 5, .int .i64 (1 + k / 50 % 8), .int .i64 (k / 1600 % 64), .int .i64 (k / 102400 % 8), .int .u64 k, .int .i64 (stF (m % 2).toNat), .slice A (m % 2).toNat c, .int .i64 0]) ∧ OwnI w' w.heap.size A (m % 2).toNat c (xsF m (m % 2).toNat) ∧ Below w.heap.size w w') := by
  have hk0 : 0 ≤ k := by omega
  have hk1 : k < 16777216 := by omega
  have hm0 : 0 ≤ m := by omega
  have hm1 : m < 1048576 := by omega
  have Hk := Lib.hid hk
  have Hm := Lib.hid hm
  clear hk hm
  have hn := Bx.new (w.alloc (.cells #[.int .u64 0, .int .i64 0, .int .i64 0, .int .i64 0, .int .i64 0, .int .u64 0, .int .i64 0, .slice none 0 0, .int .i64 0] 27)) 27 #[.int .u64 0, .int .i64 0, .int .i64 0, .int .i64 0, .int .i64 0, .int .u64 0, .int .i64 0, .slice none 0 0, .int .i64 0]
  go_enter Try.func8, Try.ntmps8
  go_wp2_with (first | (go_at_call 10; refine (mod_any _ _ (by omega) (by omega) _).mono ?_; rintro e w' ⟨rfl, rfl⟩; first | rw [Hk.out] | rw [Hm.out]) | (refine wpList_store_row rfl 27 _ _ rfl (w.heap.size + 1) _ rfl rfl 27 _ hn req_size rfl (by simp [Value.oneCell']) ?_; rw [← World.size_alloc (w := w) (o := .cells #[.int .u64 0, .int .i64 0, .int .i64 0, .int .i64 0, .int .i64 0, .int .u64 0, .int .i64 0, .slice none 0 0, .int .i64 0] 27), World.setRow_alloc_new]; rw [World.size_alloc]))
  clear hn h4
  go_loopg [9] (m % 2).toNat (fun g i wx => ∃ j : Nat, g = (m % 2).toNat - j ∧ (j : Int) ≤ m % 2 ∧ i = .int .i64 j ∧ MdL w w.heap.size (w.heap.size + 1) k m 5 (k / 1600 % 64) (k / 102400 % 8) k j wx)
  case atStart =>
    refine ⟨0, rfl, by omega, rfl, ⟨none, 0, OwnI.none _ _, ?_, by simp [Value.ownBlock], by simp [Value.ownBlock]⟩, ?_, ?_⟩
    · have := (Bx.new (w.alloc (.cells #[.int .u64 0, .int .i64 0, .int .i64 0, .int .i64 0, .int .i64 0, .int .u64 0, .int .i64 0, .slice none 0 0, .int .i64 0] 27)) 27 #[.int .u64 (1 + k % 50), .int .i64 5, .int .i64 (1 + k / 50 % 8), .int .i64 (k / 1600 % 64), .int .i64 (k / 102400 % 8), .int .u64 k, .int .i64 1, .slice none 0 0, .int .i64 0]).alloc (.cells #[.int .i64 4, .int .i64 5, .int .i64 6, .int .i64 1] 3)
      rw [World.size_alloc] at this
      exact this
    · exact ((Bx.new w 27 #[.int .u64 0, .int .i64 0, .int .i64 0, .int .i64 0, .int .i64 0, .int .u64 0, .int .i64 0, .slice none 0 0, .int .i64 0]).alloc _).alloc _
    · exact below_step (below_step (al _ _) (al _ _)) (al _ _)
  case round =>
    obtain ⟨j, rfl, hj, rfl, hr⟩ := hrel
    obtain ⟨A, c, hown, hbx, hne7, hne4⟩ := hr.ex
    have hres := hr.res
    have hlo := hr.lo
    have hl7 := hbx.lt
    have hl4 := hres.lt
    clear hr
    by_cases hlt : (j : Int) < m % 2
    · have hj10 : j ≤ 10 := by omega
      have c7 : wr.cell? ⟨w.heap.size + 1, 7, none⟩ = some (.slice A j c) := hbx.cell 7
      have hcn := (Bx.new wr 3 #[.int .i64 ((m / 10 + 17 * (j : Int)) % 256)]).cell 0
      have ho1 := hown.alloc (.cells #[.int .i64 ((m / 10 + 17 * (j : Int)) % 256)] 3)
      have hbx1 := hbx.alloc (.cells #[.int .i64 ((m / 10 + 17 * (j : Int)) % 256)] 3)
      have hrs1 := hres.alloc (.cells #[.int .i64 ((m / 10 + 17 * (j : Int)) % 256)] 3)
      have hlo1 := below_step hlo (al _ (.cells #[.int .i64 ((m / 10 + 17 * (j : Int)) % 256)] 3))
      go_wp2_with (first | (at_builtin; refine wpList_ap1b _ rfl _ _ rfl w.heap.size A j c (xsF m j) rfl ho1 ⟨wr.heap.size, 0, none⟩ 1 ((m / 10 + 17 * (j : Int)) % 256) rfl hcn (by omega) (by simp; omega) ?_; intro A5 c5 w5 hown5 hg5 hl5; rw [World.size_alloc] at hl5; have hbx5 := hbx1.grown hg5 (fun h => hne7 h.symm); have hrs5 := hrs1.grown hg5 (fun h => hne4 h.symm); have hlo5 : Below w.heap.size w w5 := grown_below hlo1 ho1 hg5 (by simp; omega) (by omega); have hr7 : (Value.slice A5 (j + 1) c5).ownBlock ≠ some (w.heap.size + 1) := (fun h => hl5.elim (fun h' => hne7 (h'.symm.trans h)) (fun h' => by have := Option.some.inj (h'.symm.trans h); omega)); have hr4 : (Value.slice A5 (j + 1) c5).ownBlock ≠ some w.heap.size := (fun h => hl5.elim (fun h' => hne4 (h'.symm.trans h)) (fun h' => by have := Option.some.inj (h'.symm.trans h); omega)); have d7 : w5.cell? ⟨w.heap.size + 1, 7, none⟩ = some (.slice A j c) := hbx5.cell 7; have z7 := hbx5.frozen 7; have d6 : w5.cell? ⟨w.heap.size + 1, 6, none⟩ = some (.int .i64 (stF j)) := hbx5.cell 6; have z6 := hbx5.frozen 6; clear c7 hcn ho1 hbx1 hrs1 hlo1 hg5 hl5 hbx hres hlo hown))
      go_roundg ((m % 2).toNat - (j + 1))
      case measure => omega
      case rel =>
        refine ⟨j + 1, rfl, by omega, by go_num, ⟨A5, c5, ?_, ?_, hr7, hr4⟩, ?_, ?_⟩
        · exact (hown5.setCell_far (p := ⟨w.heap.size + 1, 7, none⟩) hr7 _).setCell_far (p := ⟨w.heap.size + 1, 6, none⟩) hr7 _
        · exact (hbx5.set 7 _).set 6 _
        · exact (hrs5.setO (p := ⟨w.heap.size + 1, 7, none⟩) (by show _ ≠ w.heap.size + 1; omega) _).setO (p := ⟨w.heap.size + 1, 6, none⟩) (by show _ ≠ w.heap.size + 1; omega) _
        · exact (hlo5.setCell (by show _ ≤ w.heap.size + 1; omega) _).setCell (by show _ ≤ w.heap.size + 1; omega) _
    · have hje : j = (m % 2).toNat := by omega
      have Hje := Lib.hid hje
      clear hje
      go_wp2_with (first | (refine wpList_load_row rfl 27 _ rfl (w.heap.size + 1) rfl 27 _ _ _ hbx Try.underlying27 rfl req_size ?_) | (refine wpList_store_row rfl 27 _ _ rfl (w.heap.size) _ rfl rfl 27 _ hres req_size rfl (by simp [Value.oneCell']) ?_))
      refine bodyPost_ret (results_cell_row rfl _ _ w.heap.size 27 _ (0, 0) _ rfl (hres.row _) Try.underlying27 rfl req_size) rfl ⟨A, c, by rw [← Hje.out], ?_, ?_⟩
      · rw [← Hje.out]
        refine ⟨hown.1, ?_⟩
        rcases hown.2 with h | ⟨g, off, cap, cur, hv, hb, hgg, r⟩
        · exact .inl h
        · refine .inr ⟨g, off, cap, cur, hv, hb, (setRow_other wr w.heap.size g _ ?_).trans hgg, r⟩
          intro e
          subst e
          rw [hv] at hne4
          exact hne4 rfl
      · exact below_setRow hlo (Nat.le_refl _) _


set_option maxRecDepth 100000 in
set_option maxHeartbeats 2000000 in
theorem made_2 (n fs k m : Int) (hk : n % 16777216 = k) (hm : fs % 1048576 = m) (h4 : k / 400 % 4 = 2) (w : World) :
    Calls Try.prog 8 #[.int .i64 n, .int .i64 fs] w (fun e w' => ∃ A c, e = .returned (.agg #[.int .u64 (1 + k % 50), .int .i64 6, .int .i64 (1 + k / 50 % 8), .int .i64 (1 + (1 + k / 50 % 8 + k / 1600 % 7) % 8), .int .i64 0, .int .u64 0, .int .i64 (stF (m % 10).toNat), .slice A (m % 10).toNat c, .int .i64 0]) ∧ OwnI w' w.heap.size A (m % 10).toNat c (xsF m (m % 10).toNat) ∧ Below w.heap.size w w') := by
  have hk0 : 0 ≤ k := by omega
  have hk1 : k < 16777216 := by omega
  have hm0 : 0 ≤ m := by omega
  have hm1 : m < 1048576 := by omega
  have Hk := Lib.hid hk
  have Hm := Lib.hid hm
  clear hk hm
  have hn := Bx.new (w.alloc (.cells #[.int .u64 0, .int .i64 0, .int .i64 0, .int .i64 0, .int .i64 0, .int .u64 0, .int .i64 0, .slice none 0 0, .int .i64 0] 27)) 27 #[.int .u64 0, .int .i64 0, .int .i64 0, .int .i64 0, .int .i64 0, .int .u64 0, .int .i64 0, .slice none 0 0, .int .i64 0]
  go_enter Try.func8, Try.ntmps8
  go_wp2_with (first | (go_at_call 10; refine (mod_any _ _ (by omega) (by omega) _).mono ?_; rintro e w' ⟨rfl, rfl⟩; first | rw [Hk.out] | rw [Hm.out]) | (refine wpList_store_row rfl 27 _ _ rfl (w.heap.size + 1) _ rfl rfl 27 _ hn req_size rfl (by simp [Value.oneCell']) ?_; rw [← World.size_alloc (w := w) (o := .cells #[.int .u64 0, .int .i64 0, .int .i64 0, .int .i64 0, .int .i64 0, .int .u64 0, .int .i64 0, .slice none 0 0, .int .i64 0] 27), World.setRow_alloc_new]; rw [World.size_alloc]))
  clear hn h4
  go_loopg [9] (m % 10).toNat (fun g i wx => ∃ j : Nat, g = (m % 10).toNat - j ∧ (j : Int) ≤ m % 10 ∧ i = .int .i64 j ∧ MdL w w.heap.size (w.heap.size + 1) k m 6 (1 + (1 + k / 50 % 8 + k / 1600 % 7) % 8) 0 0 j wx)
  case atStart =>
    refine ⟨0, rfl, by omega, rfl, ⟨none, 0, OwnI.none _ _, ?_, by simp [Value.ownBlock], by simp [Value.ownBlock]⟩, ?_, ?_⟩
    · have := (Bx.new (w.alloc (.cells #[.int .u64 0, .int .i64 0, .int .i64 0, .int .i64 0, .int .i64 0, .int .u64 0, .int .i64 0, .slice none 0 0, .int .i64 0] 27)) 27 #[.int .u64 (1 + k % 50), .int .i64 6, .int .i64 (1 + k / 50 % 8), .int .i64 (1 + (1 + k / 50 % 8 + k / 1600 % 7) % 8), .int .i64 0, .int .u64 0, .int .i64 1, .slice none 0 0, .int .i64 0]).alloc (.cells #[.int .i64 4, .int .i64 5, .int .i64 6, .int .i64 1] 3)
      rw [World.size_alloc] at this
      exact this
    · exact ((Bx.new w 27 #[.int .u64 0, .int .i64 0, .int .i64 0, .int .i64 0, .int .i64 0, .int .u64 0, .int .i64 0, .slice none 0 0, .int .i64 0]).alloc _).alloc _
    · exact below_step (below_step (al _ _) (al _ _)) (al _ _)
  case round =>
    obtain ⟨j, rfl, hj, rfl, hr⟩ := hrel
    obtain ⟨A, c, hown, hbx, hne7, hne4⟩ := hr.ex
    have hres := hr.res
    have hlo := hr.lo
    have hl7 := hbx.lt
    have hl4 := hres.lt
    clear hr
    by_cases hlt : (j : Int) < m % 10
    · have hj10 : j ≤ 10 := by omega
      have c7 : wr.cell? ⟨w.heap.size + 1, 7, none⟩ = some (.slice A j c) := hbx.cell 7
      have hcn := (Bx.new wr 3 #[.int .i64 ((m / 10 + 17 * (j : Int)) % 256)]).cell 0
      have ho1 := hown.alloc (.cells #[.int .i64 ((m / 10 + 17 * (j : Int)) % 256)] 3)
      have hbx1 := hbx.alloc (.cells #[.int .i64 ((m / 10 + 17 * (j : Int)) % 256)] 3)
      have hrs1 := hres.alloc (.cells #[.int .i64 ((m / 10 + 17 * (j : Int)) % 256)] 3)
      have hlo1 := below_step hlo (al _ (.cells #[.int .i64 ((m / 10 + 17 * (j : Int)) % 256)] 3))
      go_wp2_with (first | (at_builtin; refine wpList_ap1b _ rfl _ _ rfl w.heap.size A j c (xsF m j) rfl ho1 ⟨wr.heap.size, 0, none⟩ 1 ((m / 10 + 17 * (j : Int)) % 256) rfl hcn (by omega) (by simp; omega) ?_; intro A5 c5 w5 hown5 hg5 hl5; rw [World.size_alloc] at hl5; have hbx5 := hbx1.grown hg5 (fun h => hne7 h.symm); have hrs5 := hrs1.grown hg5 (fun h => hne4 h.symm); have hlo5 : Below w.heap.size w w5 := grown_below hlo1 ho1 hg5 (by simp; omega) (by omega); have hr7 : (Value.slice A5 (j + 1) c5).ownBlock ≠ some (w.heap.size + 1) := (fun h => hl5.elim (fun h' => hne7 (h'.symm.trans h)) (fun h' => by have := Option.some.inj (h'.symm.trans h); omega)); have hr4 : (Value.slice A5 (j + 1) c5).ownBlock ≠ some w.heap.size := (fun h => hl5.elim (fun h' => hne4 (h'.symm.trans h)) (fun h' => by have := Option.some.inj (h'.symm.trans h); omega)); have d7 : w5.cell? ⟨w.heap.size + 1, 7, none⟩ = some (.slice A j c) := hbx5.cell 7; have z7 := hbx5.frozen 7; have d6 : w5.cell? ⟨w.heap.size + 1, 6, none⟩ = some (.int .i64 (stF j)) := hbx5.cell 6; have z6 := hbx5.frozen 6; clear c7 hcn ho1 hbx1 hrs1 hlo1 hg5 hl5 hbx hres hlo hown))
      go_roundg ((m % 10).toNat - (j + 1))
      case measure => omega
      case rel =>
        refine ⟨j + 1, rfl, by omega, by go_num, ⟨A5, c5, ?_, ?_, hr7, hr4⟩, ?_, ?_⟩
        · exact (hown5.setCell_far (p := ⟨w.heap.size + 1, 7, none⟩) hr7 _).setCell_far (p := ⟨w.heap.size + 1, 6, none⟩) hr7 _
        · exact (hbx5.set 7 _).set 6 _
        · exact (hrs5.setO (p := ⟨w.heap.size + 1, 7, none⟩) (by show _ ≠ w.heap.size + 1; omega) _).setO (p := ⟨w.heap.size + 1, 6, none⟩) (by show _ ≠ w.heap.size + 1; omega) _
        · exact (hlo5.setCell (by show _ ≤ w.heap.size + 1; omega) _).setCell (by show _ ≤ w.heap.size + 1; omega) _
    · have hje : j = (m % 10).toNat := by omega
      have Hje := Lib.hid hje
      clear hje
      go_wp2_with (first | (refine wpList_load_row rfl 27 _ rfl (w.heap.size + 1) rfl 27 _ _ _ hbx Try.underlying27 rfl req_size ?_) | (refine wpList_store_row rfl 27 _ _ rfl (w.heap.size) _ rfl rfl 27 _ hres req_size rfl (by simp [Value.oneCell']) ?_))
      refine bodyPost_ret (results_cell_row rfl _ _ w.heap.size 27 _ (0, 0) _ rfl (hres.row _) Try.underlying27 rfl req_size) rfl ⟨A, c, by rw [← Hje.out], ?_, ?_⟩
      · rw [← Hje.out]
        refine ⟨hown.1, ?_⟩
        rcases hown.2 with h | ⟨g, off, cap, cur, hv, hb, hgg, r⟩
        · exact .inl h
        · refine .inr ⟨g, off, cap, cur, hv, hb, (setRow_other wr w.heap.size g _ ?_).trans hgg, r⟩
          intro e
          subst e
          rw [hv] at hne4
          exact hne4 rfl
      · exact below_setRow hlo (Nat.le_refl _) _


set_option maxRecDepth 100000 in
set_option maxHeartbeats 2000000 in
theorem made_3 (n fs k m : Int) (hk : n % 16777216 = k) (hm : fs % 1048576 = m) (h4 : k / 400 % 4 = 3) (w : World) :
    Calls Try.prog 8 #[.int .i64 n, .int .i64 fs] w (fun e w' => ∃ A c, e = .returned (.agg #[.int .u64 (1 + k % 50), .int .i64 1, .int .i64 (1 + k / 50 % 8), .int .i64 0, .int .i64 0, .int .u64 0, .int .i64 (stF (m % 2).toNat), .slice A (m % 2).toNat c, .int .i64 0]) ∧ OwnI w' w.heap.size A (m % 2).toNat c (xsF m (m % 2).toNat) ∧ Below w.heap.size w w') := by
  have hk0 : 0 ≤ k := by omega
  have hk1 : k < 16777216 := by omega
  have hm0 : 0 ≤ m := by omega
  have hm1 : m < 1048576 := by omega
  have Hk := Lib.hid hk
  have Hm := Lib.hid hm
  clear hk hm
  have hn := Bx.new (w.alloc (.cells #[.int .u64 0, .int .i64 0, .int .i64 0, .int .i64 0, .int .i64 0, .int .u64 0, .int .i64 0, .slice none 0 0, .int .i64 0] 27)) 27 #[.int .u64 0, .int .i64 0, .int .i64 0, .int .i64 0, .int .i64 0, .int .u64 0, .int .i64 0, .slice none 0 0, .int .i64 0]
  go_enter Try.func8, Try.ntmps8
  go_wp2_with (first | (go_at_call 10; refine (mod_any _ _ (by omega) (by omega) _).mono ?_; rintro e w' ⟨rfl, rfl⟩; first | rw [Hk.out] | rw [Hm.out]) | (refine wpList_store_row rfl 27 _ _ rfl (w.heap.size + 1) _ rfl rfl 27 _ hn req_size rfl (by simp [Value.oneCell']) ?_; rw [← World.size_alloc (w := w) (o := .cells #[.int .u64 0, .int .i64 0, .int .i64 0, .int .i64 0, .int .i64 0, .int .u64 0, .int .i64 0, .slice none 0 0, .int .i64 0] 27), World.setRow_alloc_new]; rw [World.size_alloc]))
  clear hn h4
  go_loopg [9] (m % 2).toNat (fun g i wx => ∃ j : Nat, g = (m % 2).toNat - j ∧ (j : Int) ≤ m % 2 ∧ i = .int .i64 j ∧ MdL w w.heap.size (w.heap.size + 1) k m 1 0 0 0 j wx)
  case atStart =>
    refine ⟨0, rfl, by omega, rfl, ⟨none, 0, OwnI.none _ _, ?_, by simp [Value.ownBlock], by simp [Value.ownBlock]⟩, ?_, ?_⟩
    · have := (Bx.new (w.alloc (.cells #[.int .u64 0, .int .i64 0, .int .i64 0, .int .i64 0, .int .i64 0, .int .u64 0, .int .i64 0, .slice none 0 0, .int .i64 0] 27)) 27 #[.int .u64 (1 + k % 50), .int .i64 1, .int .i64 (1 + k / 50 % 8), .int .i64 0, .int .i64 0, .int .u64 0, .int .i64 1, .slice none 0 0, .int .i64 0]).alloc (.cells #[.int .i64 4, .int .i64 5, .int .i64 6, .int .i64 1] 3)
      rw [World.size_alloc] at this
      exact this
    · exact ((Bx.new w 27 #[.int .u64 0, .int .i64 0, .int .i64 0, .int .i64 0, .int .i64 0, .int .u64 0, .int .i64 0, .slice none 0 0, .int .i64 0]).alloc _).alloc _
    · exact below_step (below_step (al _ _) (al _ _)) (al _ _)
  case round =>
    obtain ⟨j, rfl, hj, rfl, hr⟩ := hrel
    obtain ⟨A, c, hown, hbx, hne7, hne4⟩ := hr.ex
    have hres := hr.res
    have hlo := hr.lo
    have hl7 := hbx.lt
    have hl4 := hres.lt
    clear hr
    by_cases hlt : (j : Int) < m % 2
    · have hj10 : j ≤ 10 := by omega
      have c7 : wr.cell? ⟨w.heap.size + 1, 7, none⟩ = some (.slice A j c) := hbx.cell 7
      have hcn := (Bx.new wr 3 #[.int .i64 ((m / 10 + 17 * (j : Int)) % 256)]).cell 0
      have ho1 := hown.alloc (.cells #[.int .i64 ((m / 10 + 17 * (j : Int)) % 256)] 3)
      have hbx1 := hbx.alloc (.cells #[.int .i64 ((m / 10 + 17 * (j : Int)) % 256)] 3)
      have hrs1 := hres.alloc (.cells #[.int .i64 ((m / 10 + 17 * (j : Int)) % 256)] 3)
      have hlo1 := below_step hlo (al _ (.cells #[.int .i64 ((m / 10 + 17 * (j : Int)) % 256)] 3))
      go_wp2_with (first | (at_builtin; refine wpList_ap1b _ rfl _ _ rfl w.heap.size A j c (xsF m j) rfl ho1 ⟨wr.heap.size, 0, none⟩ 1 ((m / 10 + 17 * (j : Int)) % 256) rfl hcn (by omega) (by simp; omega) ?_; intro A5 c5 w5 hown5 hg5 hl5; rw [World.size_alloc] at hl5; have hbx5 := hbx1.grown hg5 (fun h => hne7 h.symm); have hrs5 := hrs1.grown hg5 (fun h => hne4 h.symm); have hlo5 : Below w.heap.size w w5 := grown_below hlo1 ho1 hg5 (by simp; omega) (by omega); have hr7 : (Value.slice A5 (j + 1) c5).ownBlock ≠ some (w.heap.size + 1) := (fun h => hl5.elim (fun h' => hne7 (h'.symm.trans h)) (fun h' => by have := Option.some.inj (h'.symm.trans h); omega)); have hr4 : (Value.slice A5 (j + 1) c5).ownBlock ≠ some w.heap.size := (fun h => hl5.elim (fun h' => hne4 (h'.symm.trans h)) (fun h' => by have := Option.some.inj (h'.symm.trans h); omega)); have d7 : w5.cell? ⟨w.heap.size + 1, 7, none⟩ = some (.slice A j c) := hbx5.cell 7; have z7 := hbx5.frozen 7; have d6 : w5.cell? ⟨w.heap.size + 1, 6, none⟩ = some (.int .i64 (stF j)) := hbx5.cell 6; have z6 := hbx5.frozen 6; clear c7 hcn ho1 hbx1 hrs1 hlo1 hg5 hl5 hbx hres hlo hown))
      go_roundg ((m % 2).toNat - (j + 1))
      case measure => omega
      case rel =>
        refine ⟨j + 1, rfl, by omega, by go_num, ⟨A5, c5, ?_, ?_, hr7, hr4⟩, ?_, ?_⟩
        · exact (hown5.setCell_far (p := ⟨w.heap.size + 1, 7, none⟩) hr7 _).setCell_far (p := ⟨w.heap.size + 1, 6, none⟩) hr7 _
        · exact (hbx5.set 7 _).set 6 _
        · exact (hrs5.setO (p := ⟨w.heap.size + 1, 7, none⟩) (by show _ ≠ w.heap.size + 1; omega) _).setO (p := ⟨w.heap.size + 1, 6, none⟩) (by show _ ≠ w.heap.size + 1; omega) _
        · exact (hlo5.setCell (by show _ ≤ w.heap.size + 1; omega) _).setCell (by show _ ≤ w.heap.size + 1; omega) _
    · have hje : j = (m % 2).toNat := by omega
      have Hje := Lib.hid hje
      clear hje
      go_wp2_with (first | (refine wpList_load_row rfl 27 _ rfl (w.heap.size + 1) rfl 27 _ _ _ hbx Try.underlying27 rfl req_size ?_) | (refine wpList_store_row rfl 27 _ _ rfl (w.heap.size) _ rfl rfl 27 _ hres req_size rfl (by simp [Value.oneCell']) ?_))
      refine bodyPost_ret (results_cell_row rfl _ _ w.heap.size 27 _ (0, 0) _ rfl (hres.row _) Try.underlying27 rfl req_size) rfl ⟨A, c, by rw [← Hje.out], ?_, ?_⟩
      · rw [← Hje.out]
        refine ⟨hown.1, ?_⟩
        rcases hown.2 with h | ⟨g, off, cap, cur, hv, hb, hgg, r⟩
        · exact .inl h
        · refine .inr ⟨g, off, cap, cur, hv, hb, (setRow_other wr w.heap.size g _ ?_).trans hgg, r⟩
          intro e
          subst e
          rw [hv] at hne4
          exact hne4 rfl
      · exact below_setRow hlo (Nat.le_refl _) _

end Go.Proofs.Ytbcfnocefjolfaa
