/- Package fault: Check. -/
import Derived.Test.YtbcfnocefjolfaaF2
namespace Go.Proofs.Ytbcfnocefjolfaa
open Go.RowKit

theorem run_head (W : World) (A : Option Addr) (n c k : Nat) (hk : k ≤ c) : (Instr.slice 25 (.slice A n c) none (some (.int .i64 (k : Int))) none).run Try.prog W = .ok (.slice A k c) W := by
  obtain ⟨i0, hi, hz0, hz1, hz2⟩ := info_parts int_info
  have hb := run_sliceBound (P := Try.prog) (w := W) .i64 (k : Int) c .sliceAcap (by omega) (by omega)
  have e : (if c = 0 then A else Option.map (fun x : Addr => x.add 0) A) = A := by
    split
    · rfl
    · cases A <;> simp [Addr.add]
  simp [Instr.slice, run_underlying Try.underlying25, Instr.sliceBounds, hb, sizeOf, typeInfo, hi, e]

theorem iv_take (xs : List Int) (k : Nat) : iv (xs.take k) = (iv xs).take k := by simp [iv]
theorem GI.take {w : World} {A : Option Addr} {c : Nat} {xs : List Int} (h : GI w A c xs) (k : Nat) : GI w A c (xs.take k) := by
  have hl : (xs.take k).length ≤ xs.length := by rw [List.length_take]; omega
  refine ⟨Nat.le_trans hl h.1, h.2.1, by rw [iv_len]; omega, fun hn => ?_⟩
  obtain ⟨ad, e, hb, hc⟩ := h.2.2.2 (by omega)
  refine ⟨ad, e, hb, fun j u hu => hc j u ?_⟩
  rw [iv_take, List.getElem?_take] at hu
  split at hu
  · exact hu
  · cases hu
theorem GI.len {w : World} {A : Option Addr} {c : Nat} {xs : List Int} (h : GI w A c xs) : xs.length ≤ 9223372036854775807 := by have := h.1; have := h.2.1; unfold maxLen at this; omega

/-- The first error of the frames from number k on. -/
def frE (xs : List Int) (k : Nat) : Nat → Int
  | 0 => 0
  | m + 1 => if frB (xs[k]?.getD 0) = true then (if (xs.take k).contains (xs[k]?.getD 0) = true then 7 else frE xs (k + 1) m) else 2
def slE (st slot : Int) : Int := if st = 3 ∨ st = 4 then (if frB slot = true then 0 else 2) else (if slot = 0 then 0 else 2)
/-- The first error of a request. -/
def chkE (tk kind proc a b val st : Int) (xs : List Int) (slot : Int) : Int :=
  if tk < 1 ∨ 1099511627776 < tk then 2
  else if cmdE kind proc a b val ≠ 0 then cmdE kind proc a b val
  else if stE st kind xs.length ≠ 0 then stE st kind xs.length
  else if frE xs 0 xs.length ≠ 0 then frE xs 0 xs.length
  else slE st slot

set_option maxHeartbeats 1000000 in
theorem Check_any (tk kind proc a b val st : Int) (A : Option Addr) (c : Nat) (xs : List Int) (slot : Int) (w : World) (ha : GI w A c xs) :
    Calls Try.prog 22 #[.agg #[.int .u64 tk, .int .i64 kind, .int .i64 proc, .int .i64 a, .int .i64 b, .int .u64 val, .int .i64 st, .slice A xs.length c, .int .i64 slot]] w (RetB w (.returned (.int .i64 (chkE tk kind proc a b val st xs slot)))) := by
  have hl := ha.len
  have hcap := ha.1
  have hx := Bx.new w 27 #[.int .u64 tk, .int .i64 kind, .int .i64 proc, .int .i64 a, .int .i64 b, .int .u64 val, .int .i64 st, .slice A xs.length c, .int .i64 slot]
  by_cases ht : tk < 1 ∨ 1099511627776 < tk
  · have E := Lib.hid (show chkE tk kind proc a b val st xs slot = 2 by unfold chkE; rw [if_pos ht])
    rcases ht with ht | ht
    all_goals
      go_enter Try.func22, Try.ntmps22
      go_wp2
      go_ret
      exact ⟨by rw [E.out]; rfl, al _ _⟩
  · have t1 : decide (tk < 1) = false := by simp; omega
    have t2 : decide (1099511627776 < tk) = false := by simp; omega
    by_cases hc : cmdE kind proc a b val = 0
    · by_cases hs : stE st kind xs.length = 0
      · have E := Lib.hid (show chkE tk kind proc a b val st xs slot = (if frE xs 0 xs.length ≠ 0 then frE xs 0 xs.length else slE st slot) by unfold chkE; rw [if_neg ht, if_neg (by simp [hc]), if_neg (by simp [hs])])
        have Hc := Lib.hid (checkCommand_any kind proc a b val)
        rw [hc] at Hc
        have Hs := Lib.hid (checkState_any tk kind proc a b val st A xs.length c slot hl)
        rw [hs] at Hs
        clear ht hc hs
        have hsl := run_head
        generalize hn : xs.length = n at *
        have Hn := Lib.hid hn
        clear hn
        go_enter Try.func22, Try.ntmps22
        go_wp2_with fail
        refine (Hc.out _).mono ?_
        rintro e w1 ⟨rfl, hb1⟩
        have hx1 := hx.below hb1
        have hw1 := below_step (al w _) hb1
        have q0 : w1.cell? ⟨w.heap.size, 0, none⟩ = some (.int .u64 tk) := hx1.cell 0
        have q1 : w1.cell? ⟨w.heap.size, 1, none⟩ = some (.int .i64 kind) := hx1.cell 1
        have q2 : w1.cell? ⟨w.heap.size, 2, none⟩ = some (.int .i64 proc) := hx1.cell 2
        have q3 : w1.cell? ⟨w.heap.size, 3, none⟩ = some (.int .i64 a) := hx1.cell 3
        have q4 : w1.cell? ⟨w.heap.size, 4, none⟩ = some (.int .i64 b) := hx1.cell 4
        have q5 : w1.cell? ⟨w.heap.size, 5, none⟩ = some (.int .u64 val) := hx1.cell 5
        have q6 : w1.cell? ⟨w.heap.size, 6, none⟩ = some (.int .i64 st) := hx1.cell 6
        have q7 : w1.cell? ⟨w.heap.size, 7, none⟩ = some (.slice A n c) := hx1.cell 7
        have q8 : w1.cell? ⟨w.heap.size, 8, none⟩ = some (.int .i64 slot) := hx1.cell 8
        go_wp2_with fail
        refine (Hs.out _).mono ?_
        rintro e w2 ⟨rfl, hb2⟩
        have hx2 := hx1.below hb2
        have hw2 := below_step hw1 hb2
        have ha2 := ha.below hw2
        clear q0 q1 q2 q3 q4 q5 q6 q7 q8 hx hx1 hb1 hb2 hw1 ha
        have p0 : w2.cell? ⟨w.heap.size, 0, none⟩ = some (.int .u64 tk) := hx2.cell 0
        have p1 : w2.cell? ⟨w.heap.size, 1, none⟩ = some (.int .i64 kind) := hx2.cell 1
        have p2 : w2.cell? ⟨w.heap.size, 2, none⟩ = some (.int .i64 proc) := hx2.cell 2
        have p3 : w2.cell? ⟨w.heap.size, 3, none⟩ = some (.int .i64 a) := hx2.cell 3
        have p4 : w2.cell? ⟨w.heap.size, 4, none⟩ = some (.int .i64 b) := hx2.cell 4
        have p5 : w2.cell? ⟨w.heap.size, 5, none⟩ = some (.int .u64 val) := hx2.cell 5
        have p6 : w2.cell? ⟨w.heap.size, 6, none⟩ = some (.int .i64 st) := hx2.cell 6
        have p7 : w2.cell? ⟨w.heap.size, 7, none⟩ = some (.slice A n c) := hx2.cell 7
        have p8 : w2.cell? ⟨w.heap.size, 8, none⟩ = some (.int .i64 slot) := hx2.cell 8
        go_wp2
        go_loopg [30] n (fun g i wx => w2 = wx ∧ ∃ k : Nat, g = n - k ∧ k ≤ n ∧ i = .int .i64 k ∧ Hid (frE xs 0 n = frE xs k (n - k)))
        case atStart => exact ⟨rfl, 0, rfl, by omega, rfl, rfl⟩
        case round =>
          obtain ⟨rfl, k, rfl, hk, rfl, HQ⟩ := hrel
          by_cases hlt : k < n
          · obtain ⟨ad, rfl, _, hca⟩ := ha2.at_ (k := k) (by rw [Hn.out]; exact hlt)
            have Hst := Lib.hid (show frE xs k (n - k) = (if frB (xs[k]?.getD 0) = true then (if (xs.take k).contains (xs[k]?.getD 0) = true then 7 else frE xs (k + 1) (n - (k + 1))) else 2) by
              rw [show n - k = (n - (k + 1)) + 1 by omega]; rfl)
            have hkc : k ≤ c := by omega
            have Hco := Lib.hid (fun (W : World) (hW : GI W (some ad) c (xs.take k)) => contains_any (some ad) c (xs.take k) (xs[k]?.getD 0) W hW)
            rw [show (xs.take k).length = k by rw [List.length_take, Hn.out]; omega] at Hco
            have ha2k := ha2.take k
            by_cases hf : frB (xs[k]?.getD 0) = true
            · by_cases hq : (xs.take k).contains (xs[k]?.getD 0) = true
              · have E2 := Lib.hid (show frE xs 0 n = 7 by rw [HQ.out, Hst.out, if_pos hf, if_pos hq])
                generalize (xs.take k).contains (xs[k]?.getD 0) = qb at *
                generalize xs[k]?.getD 0 = x at *
                go_wp2_with (first | (go_at_call 38; refine (isFrame_any _ _).mono ?_; rintro e w' ⟨rfl, rfl⟩) | (go_at_call 39; refine (Hco.out _ ha2k).mono ?_; rintro e w' ⟨rfl, rfl⟩))
                go_ret
                exact ⟨by rw [E.out, E2.out]; rfl, hw2⟩
              · have hq' : (xs.take k).contains (xs[k]?.getD 0) = false := by simpa using hq
                have E2 := Lib.hid (show frE xs 0 n = frE xs (k + 1) (n - (k + 1)) by rw [HQ.out, Hst.out, if_pos hf, if_neg hq])
                clear hq
                generalize (xs.take k).contains (xs[k]?.getD 0) = qb at *
                generalize xs[k]?.getD 0 = x at *
                go_wp2_with (first | (go_at_call 38; refine (isFrame_any _ _).mono ?_; rintro e w' ⟨rfl, rfl⟩) | (go_at_call 39; refine (Hco.out _ ha2k).mono ?_; rintro e w' ⟨rfl, rfl⟩))
                go_roundg (n - (k + 1))
                case measure => omega
                case rel => exact ⟨rfl, k + 1, rfl, by omega, by go_num, E2.out⟩
            · have hf' : frB (xs[k]?.getD 0) = false := by simpa using hf
              have E2 := Lib.hid (show frE xs 0 n = 2 by rw [HQ.out, Hst.out, if_neg hf])
              clear hf
              generalize xs[k]?.getD 0 = x at *
              go_wp2_with (first | (go_at_call 38; refine (isFrame_any _ _).mono ?_; rintro e w' ⟨rfl, rfl⟩))
              go_ret
              exact ⟨by rw [E.out, E2.out]; rfl, hw2⟩
          · have E2 := Lib.hid (show frE xs 0 n = 0 by rw [HQ.out, show n - k = 0 by omega]; rfl)
            have E3 := Lib.hid (show chkE tk kind proc a b val st xs slot = slE st slot by rw [E.out, E2.out]; rfl)
            clear E
            have hkd : decide ((k : Int) < (n : Int)) = false := by simp; omega
            by_cases h3 : st = 3
            · have h3' : (st == 3) = true := by simp [h3]
              have H3 := Lib.hid h3
              clear h3
              go_wp2_with (first | (go_at_call 42; refine (isSlot_any _ _).mono ?_; rintro e w' ⟨rfl, rfl⟩))
              all_goals go_ret
              all_goals exact ⟨by rw [E3.out, H3.out]; exact ret_int (by simp_all [slE]), hw2⟩
            · have h3' : (st == 3) = false := by simp [h3]
              by_cases h4 : st = 4
              · have h4' : (st == 4) = true := by simp [h4]
                have H3 := Lib.hid h4
                clear h3 h4
                go_wp2_with (first | (go_at_call 42; refine (isSlot_any _ _).mono ?_; rintro e w' ⟨rfl, rfl⟩))
                all_goals go_ret
                all_goals exact ⟨by rw [E3.out, H3.out]; exact ret_int (by simp_all [slE]), hw2⟩
              · have h4' : (st == 4) = false := by simp [h4]
                have E4 := Lib.hid (show slE st slot = (if slot = 0 then 0 else 2) by unfold slE; rw [if_neg (by omega)])
                clear h3 h4
                go_wp2
                all_goals go_ret
                all_goals exact ⟨by rw [E3.out, E4.out]; exact ret_int (by simp_all), hw2⟩
      · have E := Lib.hid (show chkE tk kind proc a b val st xs slot = stE st kind xs.length by unfold chkE; rw [if_neg ht, if_neg (by simp [hc]), if_pos hs])
        have Hc := Lib.hid (checkCommand_any kind proc a b val)
        rw [hc] at Hc
        have Hs := Lib.hid (checkState_any tk kind proc a b val st A xs.length c slot hl)
        have hs' : (stE st kind xs.length != 0) = true := by simp [hs]
        clear ht hc hs
        generalize stE st kind xs.length = se at *
        go_enter Try.func22, Try.ntmps22
        go_wp2_with fail
        refine (Hc.out _).mono ?_
        rintro e w1 ⟨rfl, hb1⟩
        have hx1 := hx.below hb1
        have hw1 := below_step (al w _) hb1
        have q0 : w1.cell? ⟨w.heap.size, 0, none⟩ = some (.int .u64 tk) := hx1.cell 0
        have q1 : w1.cell? ⟨w.heap.size, 1, none⟩ = some (.int .i64 kind) := hx1.cell 1
        have q2 : w1.cell? ⟨w.heap.size, 2, none⟩ = some (.int .i64 proc) := hx1.cell 2
        have q3 : w1.cell? ⟨w.heap.size, 3, none⟩ = some (.int .i64 a) := hx1.cell 3
        have q4 : w1.cell? ⟨w.heap.size, 4, none⟩ = some (.int .i64 b) := hx1.cell 4
        have q5 : w1.cell? ⟨w.heap.size, 5, none⟩ = some (.int .u64 val) := hx1.cell 5
        have q6 : w1.cell? ⟨w.heap.size, 6, none⟩ = some (.int .i64 st) := hx1.cell 6
        have q7 : w1.cell? ⟨w.heap.size, 7, none⟩ = some (.slice A xs.length c) := hx1.cell 7
        have q8 : w1.cell? ⟨w.heap.size, 8, none⟩ = some (.int .i64 slot) := hx1.cell 8
        go_wp2_with fail
        refine (Hs.out _).mono ?_
        rintro e w2 ⟨rfl, hb2⟩
        go_wp2
        go_ret
        exact ⟨by rw [E.out]; rfl, below_step hw1 hb2⟩
    · have E := Lib.hid (show chkE tk kind proc a b val st xs slot = cmdE kind proc a b val by unfold chkE; rw [if_neg ht, if_pos hc])
      have Hc := Lib.hid (checkCommand_any kind proc a b val)
      have hc' : (cmdE kind proc a b val != 0) = true := by simp [hc]
      clear ht hc
      generalize cmdE kind proc a b val = ce at *
      go_enter Try.func22, Try.ntmps22
      go_wp2_with fail
      refine (Hc.out _).mono ?_
      rintro e w1 ⟨rfl, hb1⟩
      go_wp2
      go_ret
      exact ⟨by rw [E.out]; rfl, below_step (al w _) hb1⟩
end Go.Proofs.Ytbcfnocefjolfaa
