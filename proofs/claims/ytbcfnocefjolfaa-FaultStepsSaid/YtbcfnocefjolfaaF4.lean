/- Package fault: the search in the table of look. -/
import Derived.Test.YtbcfnocefjolfaaF3
namespace Go.Proofs.Ytbcfnocefjolfaa
open Go.RowKit

/-- Lines as cells. -/
def tv (T : List (Bool × Int × Int)) : List Value := T.flatMap fun l => [.bool l.1, .int .i64 l.2.1, .int .i64 l.2.2]
theorem tv_len (T : List (Bool × Int × Int)) : (tv T).length = T.length * 3 := by
  induction T with
  | nil => rfl
  | cons l T ih => simp only [tv, List.flatMap_cons, List.length_append, List.length_cons, List.length_nil] at ih ⊢; omega
theorem tv_at (T : List (Bool × Int × Int)) (k : Nat) (h : k < T.length) : ((tv T).drop (k * 3)).take 3 = [.bool (T[k]?.getD (false, 0, 0)).1, .int .i64 (T[k]?.getD (false, 0, 0)).2.1, .int .i64 (T[k]?.getD (false, 0, 0)).2.2] := by
  induction T generalizing k with
  | nil => simp at h
  | cons l T ih =>
    cases k with
    | zero => rfl
    | succ k =>
      have e : tv (l :: T) = .bool l.1 :: .int .i64 l.2.1 :: .int .i64 l.2.2 :: tv T := rfl
      rw [e, show (k + 1) * 3 = k * 3 + 3 by omega]
      simpa using ih k (by simpa using h)
/-- The first line from number k on that applies. -/
def srch (T : List (Bool × Int × Int)) : Bool × Int × Int := (T.find? fun l => l.1).getD (false, 0, 0)

theorem run_line (W : World) (T : List (Bool × Int × Int)) (k : Nat) (hk : k < 16) (hT : T.length = 16) : (Instr.index 68 (.agg (tv T).toArray) (.int .i64 (k : Int))).run Try.prog W = .ok (.agg #[.bool (T[k]?.getD (false, 0, 0)).1, .int .i64 (T[k]?.getD (false, 0, 0)).2.1, .int .i64 (T[k]?.getD (false, 0, 0)).2.2]) W := by
  have h1 : (Try.prog.info? 58).map (·.size) = some 3 := by kernel_rfl
  obtain ⟨i0, hi, hs⟩ := Option.map_eq_some_iff.1 h1
  have hd := tv_at T k (by omega)
  have ha : (asIntOf (.int .i64 (k : Int))).run Try.prog W = .ok (.i64, (k : Int)) W := rfl
  have hk' : (k : Int) < 16 := by omega
  simp [Instr.index, run_underlying Try.underlying68, sizeOf, typeInfo, hi, hs, part, ha, hk', hd]


structure SrL (T : List (Bool × Int × Int)) (w : World) (B R : Nat) (k : Nat) (wx : World) : Prop where
  le : k ≤ 16
  cont : Hid (srch T = srch (T.drop k))
  lo : Below R w wx
  tab : Bx wx B 68 (tv T).toArray
  res : Bx wx R 58 #[.bool false, .int .i64 0, .int .i64 0]

set_option maxHeartbeats 1000000 in
theorem search_any (T : List (Bool × Int × Int)) (hT : T.length = 16) (B : Nat) (w : World) (hB : Bx w B 68 (tv T).toArray) :
    Calls Try.prog 49 #[.pointer (some ⟨B, 0, none⟩)] w (RetB w (.returned (.agg #[.bool (srch T).1, .int .i64 (srch T).2.1, .int .i64 (srch T).2.2]))) := by
  have hB1 := hB.alloc (.cells #[.bool false, .int .i64 0, .int .i64 0] 58)
  have hR := Bx.new w 58 #[.bool false, .int .i64 0, .int .i64 0]
  have hsz : (Try.prog.info? 68).map (·.size) = some (tv T).toArray.size := by
    rw [List.size_toArray, tv_len, hT]
    kernel_rfl
  go_enter Try.func49, Try.ntmps49
  go_wp2_with (refine wpList_load_row rfl 68 _ rfl B rfl 68 _ _ _ hB1 Try.underlying68 rfl hsz ?_)
  go_loopg [5] 16 (fun g i wx => ∃ k : Nat, g = 16 - k ∧ i = .int .i64 k ∧ SrL T w B w.heap.size k wx)
  case atStart => exact ⟨0, rfl, rfl, by omega, Lib.hid (show srch T = srch (T.drop 0) from rfl), al w _, hB1, hR⟩
  case round =>
    obtain ⟨k, rfl, rfl, hr⟩ := hrel
    have Hc := hr.cont
    by_cases hlt : k < 16
    · have hlt' : decide ((k : Int) < 16) = true := by simp; omega
      have hidx := run_line wr T k hlt hT
      have hst : T.drop k = (T[k]?.getD (false, 0, 0)) :: T.drop (k + 1) := by
        rw [List.drop_eq_getElem_cons (by omega), List.getElem?_eq_getElem (by omega)]
        rfl
      have hE1 := Lib.hid (show (T[k]?.getD (false, 0, 0)).1 = true → srch T = T[k]?.getD (false, 0, 0) by
        intro hh; rw [Hc.out, hst]; simp [srch, hh])
      have hE2 := Lib.hid (show (T[k]?.getD (false, 0, 0)).1 = false → srch T = srch (T.drop (k + 1)) by
        intro hh; rw [Hc.out, hst]; simp [srch, hh])
      generalize T[k]?.getD (false, 0, 0) = l at *
      obtain ⟨l1, l2, l3⟩ := l
      simp only at hidx hE1 hE2
      clear hst Hc
      cases l1
      · go_wp2_with fail
        go_roundg (16 - (k + 1))
        case measure => omega
        case rel => exact ⟨k + 1, rfl, by go_num, by omega, Lib.hid (hE2.out (by trivial)), below_step hr.lo (al _ _), hr.tab.alloc _, hr.res.alloc _⟩
      · have hcx := hr.res.alloc (.cells #[.bool true, .int .i64 l2, .int .i64 l3] 58)
        have e0 : (wr.alloc (.cells #[.bool true, .int .i64 l2, .int .i64 l3] 58)).cell? ⟨w.heap.size, 0, none⟩ = some (.bool false) := hcx.cell 0
        have e1 : (wr.alloc (.cells #[.bool true, .int .i64 l2, .int .i64 l3] 58)).cell? ⟨w.heap.size, 1, none⟩ = some (.int .i64 0) := hcx.cell 1
        have e2 : (wr.alloc (.cells #[.bool true, .int .i64 l2, .int .i64 l3] 58)).cell? ⟨w.heap.size, 2, none⟩ = some (.int .i64 0) := hcx.cell 2
        have z0 := hcx.frozen 0
        have z1 := hcx.frozen 1
        have z2 := hcx.frozen 2
        go_wp2_with fail
        have hq := ((hcx.set 0 (.bool true)).set 1 (.int .i64 l2)).set 2 (.int .i64 l3)
        refine bodyPost_ret (results_cell_row rfl _ _ _ _ _ _ _ rfl hq Try.underlying58 rfl (by kernel_rfl)) rfl ⟨?_, ?_⟩
        · rw [hE1.out (by trivial)]
          rfl
        · exact ((((below_step hr.lo (al _ _)).setCell (Nat.le_refl _) _).setCell (Nat.le_refl _) _).setCell (Nat.le_refl _) _)
    · have hk16 : k = 16 := by have := hr.le; omega
      subst hk16
      have E := Lib.hid (show srch T = (false, 0, 0) by rw [Hc.out, List.drop_of_length_le (by omega)]; rfl)
      have e0 : wr.cell? ⟨w.heap.size, 0, none⟩ = some (.bool false) := hr.res.cell 0
      have e1 : wr.cell? ⟨w.heap.size, 1, none⟩ = some (.int .i64 0) := hr.res.cell 1
      have e2 : wr.cell? ⟨w.heap.size, 2, none⟩ = some (.int .i64 0) := hr.res.cell 2
      have z0 := hr.res.frozen 0
      have z1 := hr.res.frozen 1
      have z2 := hr.res.frozen 2
      go_wp2_with fail
      have hq := ((hr.res.set 0 (.bool false)).set 1 (.int .i64 0)).set 2 (.int .i64 0)
      refine bodyPost_ret (results_cell_row rfl _ _ _ _ _ _ _ rfl hq Try.underlying58 rfl (by kernel_rfl)) rfl ⟨?_, ?_⟩
      · rw [E.out]
        rfl
      · exact (((hr.lo.setCell (Nat.le_refl _) _).setCell (Nat.le_refl _) _).setCell (Nat.le_refl _) _)
end Go.Proofs.Ytbcfnocefjolfaa
