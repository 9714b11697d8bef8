/- The statement PoolAll. -/
import Derived.Test.YtoimmfcodflmkaaDoorTJ
import Derived.Test.YtoimmfcodflmkaaDoorS2
import Derived.RegionTactic
namespace Go.Proofs.YtoimmfcodflmkaaDoor
open Go.RowKit
set_option linter.unusedVariables false

theorem OkP.upto {n : Nat} (h1 : 1 ≤ n) (h2 : n ≤ 32) (k : Nat) : OkP (n : Int) ((upto n).drop k) := by
  refine ⟨by omega, by omega, fun x hx => ?_, (upto_asc n).sublist (List.drop_sublist _ _)⟩
  have := (mem_upto n x).1 (List.mem_of_mem_drop hx)
  omega
theorem upto_drop (n k : Nat) (h : k < n) : (upto n).drop k = (k : Int) :: (upto n).drop (k + 1) := by
  rw [List.drop_eq_getElem_cons (by rw [upto_len]; exact h)]
  congr 1
  have := upto_at n k h
  rw [List.getElem?_eq_getElem (by rw [upto_len]; exact h)] at this
  exact this
/-- Where the last one lay. -/
def lastF (k : Nat) : Int := ((k - 1) / 8 : Nat)
def lastP (k : Nat) : Int := if k = 0 then -1 else ((k - 1) % 8 : Nat)
theorem last_facts (k n : Nat) (h : k < n) : decide (((k / 8 : Nat) : Int) < lastF k) = false ∧ ((((k / 8 : Nat) : Int) == lastF k) = false ∨ ((((k / 8 : Nat) : Int) == lastF k) = true ∧ decide (((k % 8 : Nat) : Int) ≤ lastP k) = false)) ∧ decide ((((n : Int) + 7) / 8) ≤ ((k / 8 : Nat) : Int)) = false := by
  unfold lastF lastP
  refine ⟨by simp; omega, ?_, by simp; omega⟩
  by_cases h0 : k = 0
  · subst h0; right; exact ⟨by simp, by simp⟩
  · rw [if_neg h0]
    by_cases he : k / 8 = (k - 1) / 8
    · right; refine ⟨by simp; omega, by simp; omega⟩
    · left; simp; omega
theorem last_next (k : Nat) : lastF (k + 1) = ((k / 8 : Nat) : Int) ∧ lastP (k + 1) = ((k % 8 : Nat) : Int) := by
  unfold lastF lastP
  simp
structure AlL (w : World) (n : Nat) (B : Nat) (A : Option Addr) (m c : Nat) (ys : List Int) (wx : World) : Prop where
  box : Bx wx B 24 #[.int .i64 (n : Int), .slice A m c]
  gi : GI wx A c ys
  ln : m = ys.length
  lo : Below w.heap.size w wx
  hB : w.heap.size ≤ B

set_option maxRecDepth 100000 in
set_option maxHeartbeats 8000000 in
theorem PoolAll_walk (s : Int) (w : World) (hL : Laid w) (h0 : 0 < w.heap.size) : Calls Tryd.prog 8 #[.int .i64 s] w (RetB w (.returned (.bool true))) := by
  obtain ⟨n, hn⟩ : ∃ n : Nat, 1 + s % 32 = (n : Int) := ⟨(1 + s % 32).toNat, by omega⟩
  have hn1 : 1 ≤ n := by omega
  have hn2 : n ≤ 32 := by omega
  have HM := Lib.hid hn
  obtain ⟨sm, hsm⟩ : ∃ sm, s % 32 = sm := ⟨_, rfl⟩
  have HS := Lib.hid hsm
  rw [hsm] at hn
  have hn' : 1 + sm = (n : Int) := hn
  have hnI : (n : Int) ≤ 32 := by omega
  have hnJ : 1 ≤ (n : Int) := by omega
  have HF := Lib.hid (fun W => Frames_any (n : Int) W)
  rw [show frP (n : Int) = (((n : Int) + 7) / 8, 0) from if_neg (by omega)] at HF
  have HFN := Lib.hid (show lastF n = ((n : Int) + 7) / 8 - 1 by unfold lastF; omega)
  have HLF := Lib.hid (fun k hk => last_facts k n hk)
  obtain ⟨mn, hmn⟩ : ∃ mn, ((n : Int) + 7) / 8 = mn := ⟨_, rfl⟩
  rw [hmn] at HF HFN HLF
  have hmn1 : 1 ≤ mn := by omega
  have hmn2 : mn ≤ 5 := by omega
  have HN : Hid (∀ W, Calls Tryd.prog 9 #[.int .i64 (n : Int)] W (RetP W (n : Int) (upto n) 0)) := Lib.hid fun W => by
    have := New_any (n : Int) W
    rw [show nwS (n : Int) = n from if_neg (by omega), show nwX (n : Int) = upto n from (if_neg (by omega)).trans (by rw [Int.toNat_natCast]), show nwE (n : Int) = 0 from if_neg (by omega)] at this
    exact this
  clear hsm hmn hn
  go_enter Tryd.func8, Tryd.ntmps8
  go_wp2_with fail
  refine (PoolKnown_walk w hL h0).mono ?_
  rintro e v1 ⟨rfl, hw⟩
  go_wp2_with fail
  refine (mod_any s 32 (by omega) (by omega) _).mono ?_
  rintro e w' ⟨rfl, rfl⟩
  rw [HS.out]
  go_wp2_with fail
  refine (HN.out _).mono ?_
  rintro e v2 ⟨A4, c4, rfl, ho, hb⟩
  rw [upto_len] at ho ⊢
  have hg := (OwnI.gi ho).alloc (.cells #[.int .i64 (n : Int), .slice A4 n c4] 24)
  have hB4 := Bx.new v2 24 #[.int .i64 (n : Int), .slice A4 n c4]
  have hn0 := Bx.new v2 24 #[.int .i64 0, .slice none 0 0]
  have hsz := (below_step hw hb).size
  replace hw := below_step (below_step hw hb) (al v2 (.cells #[.int .i64 (n : Int), .slice A4 n c4] 24))
  clear ho hb
  go_wp2_with (first | (refine wpList_store_row rfl 24 _ _ rfl v2.heap.size _ rfl rfl 24 _ hn0 pool_size rfl (pv_one _ _ _ _) ?_; rw [World.setRow_alloc_new]; simp only [Act.put]))
  clear hn0
  generalize v2.alloc (.cells #[.int .i64 (n : Int), .slice A4 n c4] 24) = W2 at *
  generalize v2.heap.size = B at *
  refine (HF.out _).mono ?_
  rintro e w' ⟨rfl, rfl⟩
  go_wp2_with fail
  go_loopg [8, 9, 10] n (fun g f p i wx => ∃ (k m : Nat) (A : Option Addr) (c : Nat), g = n - k ∧ k ≤ n ∧ f = .int .i64 (lastF k) ∧ p = .int .i64 (lastP k) ∧ i = .int .i64 k ∧ AlL w n B A m c ((upto n).drop k) wx)
  case atStart => exact ⟨0, n, A4, c4, rfl, by omega, rfl, rfl, rfl, hB4, hg, (upto_len n).symm, hw, hsz⟩
  case round =>
    obtain ⟨k, m, A, c, rfl, hk, rfl, rfl, rfl, hr⟩ := hrel
    clear hB4 hg hw
    have hb := hr.box
    have hgi := hr.gi
    have hln := hr.ln
    have hlo := hr.lo
    have hBw := hr.hB
    clear hr
    by_cases hlt : k < n
    · have kd : decide ((k : Int) < (n : Int)) = true := by simp; omega
      obtain ⟨t1, t2, t4⟩ := HLF.out k hlt
      have hok := OkP.upto hn1 hn2 k
      obtain ⟨hn3, hn4⟩ := last_next k
      have HA := Lib.hid hn3
      have HP := Lib.hid hn4
      rw [upto_drop n k hlt] at hgi hln hok
      have HT := Lib.hid (Take_ok (n : Int) A c (k : Int) ((upto n).drop (k + 1)) wr hgi hok)
      have HH := Lib.hid (fun W (hW : GI W A c ((k : Int) :: (upto n).drop (k + 1))) => Home_ok (n : Int) A c ((k : Int) :: (upto n).drop (k + 1)) k W hW hok (by omega))
      rw [← hln] at HT HH
      have t5 : decide (((k % 8 : Nat) : Int) < 0) = false := by simp; omega
      have t6 : decide (7 < ((k % 8 : Nat) : Int)) = false := by simp; omega
      have e8 : ((k : Int) != (k : Int)) = false := by simp
      clear hn3 hn4 hln hok
      have hyl : ((upto n).drop (k + 1)).length = ((upto n).drop (k + 1)).length := rfl
      have HYE := Lib.hid (show (upto n).drop (k + 1) = (upto n).drop (k + 1) from rfl)
      generalize hys : (upto n).drop (k + 1) = ys at HT HH hgi hyl
      have HYS := Lib.hid hys
      clear hys hyl HYE
      generalize ((k / 8 : Nat) : Int) = fa at *
      generalize ((k % 8 : Nat) : Int) = pb at *
      generalize lastF k = lf at *
      generalize lastP k = lp at *
      rcases t2 with t2 | ⟨t2, t3⟩
      all_goals
        go_wp2_with (first | (refine wpList_load_row rfl 24 _ rfl (B) rfl 24 _ _ _ hb Tryd.underlying24 rfl pool_size ?_))
        refine HT.out.mono ?_
        rintro e w3 ⟨A11, c11, rfl, ho, hb3⟩
        have hbx := (hb.below hb3).alloc (.cells #[.int .i64 (n : Int), .slice A11 ys.length c11] 24)
        have hgi3 := (hgi.below hb3).alloc (.cells #[.int .i64 (n : Int), .slice A11 ys.length c11] 24)
        have ho3 := Own.alloc ho (.cells #[.int .i64 (n : Int), .slice A11 ys.length c11] 24)
        have hB11 := Bx.new w3 24 #[.int .i64 (n : Int), .slice A11 ys.length c11]
        have hn0 := Bx.new w3 24 #[.int .i64 0, .slice none 0 0]
        have hlo3 := below_step (below_step hlo hb3) (al w3 (.cells #[.int .i64 (n : Int), .slice A11 ys.length c11] 24))
        have hltB := hb.lt
        have hszz := hb3.size
        clear hb3 ho
        go_wp2_with (first | (refine wpList_store_row rfl 24 _ _ rfl w3.heap.size _ rfl rfl 24 _ hn0 pool_size rfl (pv_one _ _ _ _) ?_; rw [World.setRow_alloc_new]; simp only [Act.put]) | (refine wpList_load_row rfl 24 _ rfl (B) rfl 24 _ _ _ hbx Tryd.underlying24 rfl pool_size ?_))
        clear hn0
        generalize w3.alloc (.cells #[.int .i64 (n : Int), .slice A11 ys.length c11] 24) = W4 at *
        have hne : B ≠ w3.heap.size := by omega
        generalize w3.heap.size = B11 at *
        refine (HH.out _ hgi3).mono ?_
        rintro e w5 ⟨rfl, hb5⟩
        have hbx5 := hbx.below hb5
        have hB115 := hB11.below hb5
        have ho5 := Own.below ho3 hb5
        have hlo5 := below_step hlo3 hb5
        obtain ⟨x0, x1⟩ := s2 hB115
        obtain ⟨y0, y1⟩ := s2 hbx5
        have z0 := hbx5.frozen 0
        have hbx6 := hbx5.set 0 (.int .i64 (n : Int))
        have z1 := hbx6.frozen 1
        have y2 : (w5.setCell ⟨B, 0, none⟩ (.int .i64 (n : Int))).cell? ⟨B, 1, none⟩ = some (.slice A m c) := hbx6.cell 1
        have hbx7 : Bx ((w5.setCell ⟨B, 0, none⟩ (.int .i64 (n : Int))).setCell ⟨B, 1, none⟩ (.slice A11 ys.length c11)) B 24 #[.int .i64 (n : Int), .slice A11 ys.length c11] := hbx6.set 1 _
        have ho7 := Own.setLow (Own.setLow ho5 (p := ⟨B, 0, none⟩) hltB (.int .i64 (n : Int))) (p := ⟨B, 1, none⟩) hltB (.slice A11 ys.length c11)
        have hlo7 := (hlo5.setCell (p := ⟨B, 0, none⟩) hBw (.int .i64 (n : Int))).setCell (p := ⟨B, 1, none⟩) hBw (.slice A11 ys.length c11)
        clear hbx hgi3 ho3 hB11 hlo3 hb5 hbx5 hB115 ho5 hlo5 hbx6
        go_wp2_with fail
        rename_i K hK
        go_region_with (fail)
        all_goals
          refine (show K _ _ from hK _ _ ?_)
          try simp only [Act.put, List.getElem_toArray, List.getElem_cons_succ, List.getElem_cons_zero, List.setIfInBounds_toArray, List.set_cons_zero, List.set_cons_succ]
          go_wp2
          go_roundg (n - (k + 1))
          case measure => omega
          case rel => exact ⟨k + 1, ys.length, A11, c11, rfl, by omega, by rw [HA.out], by rw [HP.out], by go_num, hbx7, by rw [HYS.out]; exact OwnI.gi ho7, by rw [HYS.out], ⟨hlo7.os, hlo7.tape, hlo7.output, hlo7.size, hlo7.block⟩, hBw⟩
    · have kd : decide ((k : Int) < (n : Int)) = false := by simp; omega
      obtain rfl : k = n := by omega
      rw [List.drop_of_length_le (by rw [upto_len]; exact Nat.le_refl _)] at hgi hln
      obtain rfl : m = 0 := hln
      have HT := Lib.hid (show Calls Tryd.prog 18 #[.agg #[.int .i64 (k : Int), .slice A 0 c]] wr (RetP3 wr 0 [] 0 5) by
        have hok : OkP (k : Int) [] := ⟨by omega, by omega, by simp, List.Pairwise.nil⟩
        have he : tkE (k : Int) [] = 5 := by unfold tkE; rw [hok.chk]; rfl
        have := Take_bad (k : Int) A c [] wr hgi (by rw [he]; decide)
        rw [he] at this
        exact this)
      have e9 : (lastF k == mn - 1) = true := by rw [HFN.out]; simp
      generalize lastF k = lf at *
      generalize lastP k = lp at *
      go_wp2_with (first | (refine wpList_load_row rfl 24 _ rfl (B) rfl 24 _ _ _ hb Tryd.underlying24 rfl pool_size ?_))
      refine HT.out.mono ?_
      rintro e w3 ⟨A11, c11, rfl, ho, hb3⟩
      have hn0 := Bx.new w3 24 #[.int .i64 0, .slice none 0 0]
      go_wp2_with (first | (refine wpList_store_row rfl 24 _ _ rfl w3.heap.size _ rfl rfl 24 _ hn0 pool_size rfl (pv_one _ _ _ _) ?_; rw [World.setRow_alloc_new]; simp only [Act.put]))
      go_ret
      exact ⟨rfl, below_step (below_step hlo hb3) (al _ _)⟩
end Go.Proofs.YtoimmfcodflmkaaDoor
