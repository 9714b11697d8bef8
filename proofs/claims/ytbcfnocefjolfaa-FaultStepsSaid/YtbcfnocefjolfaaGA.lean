/- The reference of fault: Check, its contract. -/
import Derived.Test.YtbcfnocefjolfaaG9
namespace Go.Proofs.Ytbcfnocefjolfaa
open Go.RowKit
set_option linter.unusedVariables false

set_option maxRecDepth 100000 in
set_option maxHeartbeats 8000000 in
theorem sCheck_any (tk kind proc a b val st : Int) (A : Option Addr) (c : Nat) (xs : List Int) (slot : Int) (w : World) (ha : GI w A c xs) :
    Calls Try.prog 43 #[.agg #[.int .u64 tk, .int .i64 kind, .int .i64 proc, .int .i64 a, .int .i64 b, .int .u64 val, .int .i64 st, .slice A xs.length c, .int .i64 slot]] w (RetB w (.returned (.int .i64 (chkE tk kind proc a b val st xs slot)))) := by
  have hl := ha.len
  have hx := Bx.new w 27 #[.int .u64 tk, .int .i64 kind, .int .i64 proc, .int .i64 a, .int .i64 b, .int .u64 val, .int .i64 st, .slice A xs.length c, .int .i64 slot]
  have hw := al w (.cells #[.int .u64 tk, .int .i64 kind, .int .i64 proc, .int .i64 a, .int .i64 b, .int .u64 val, .int .i64 st, .slice A xs.length c, .int .i64 slot] 27)
  have hg := ha.below hw
  by_cases ht : tk < 1 ∨ 1099511627776 < tk
  · have E := Lib.hid (show chkE tk kind proc a b val st xs slot = 2 by unfold chkE; rw [if_pos ht])
    generalize chkE tk kind proc a b val st xs slot = ce at *
    have ht2 : decide (tk < 1) = true ∨ (decide (tk < 1) = false ∧ decide (1099511627776 < tk) = true) := by simp; omega
    clear ht
    rcases ht2 with t1 | ⟨t1, t2⟩
    all_goals
      go_enter Try.func43, Try.ntmps43
      go_wp2
      go_ret
      exact ⟨by rw [E.out]; rfl, hw⟩
  · by_cases hc : cmdE kind proc a b val = 0
    · by_cases hs : stE st kind xs.length = 0
      · have E : chkE tk kind proc a b val st xs slot = tailE st xs slot := by
          unfold chkE tailE
          rw [if_neg ht, if_neg (by simp [hc]), if_neg (by simp [hs])]
        rw [E]
        exact sCheck_tail tk kind proc a b val st A c xs slot w ha (by omega) (by omega) hc hs
      · have E := Lib.hid (show chkE tk kind proc a b val st xs slot = stE st kind xs.length by unfold chkE; rw [if_neg ht, if_neg (by simp [hc]), if_pos hs])
        have t1 : decide (tk < 1) = false := by simp; omega
        have t2 : decide (1099511627776 < tk) = false := by simp; omega
        have Hc := Lib.hid (sCmd_any kind proc a b val)
        rw [hc] at Hc
        rw [stE_ref] at E hs
        generalize chkE tk kind proc a b val st xs slot = ce at *
        clear ht hc
        clear ha
        generalize hn : xs.length = n at *
        have Hn := Lib.hid hn
        have hmo9 : mostN kind = 1 ∨ mostN kind = 9 := by unfold mostN; split <;> simp
        obtain ⟨mo, hmo⟩ : ∃ mo, mostN kind = mo := ⟨_, rfl⟩
        rw [hmo] at hs E hmo9
        have HMo := Lib.hid hmo
        obtain ⟨ac, hac⟩ : ∃ ac, accB kind = ac := ⟨_, rfl⟩
        rw [hac] at hs E
        have HA := Lib.hid hac
        clear hn hmo hac
        by_cases h9 : (st < 1 ∨ 4 < st) ∨ (ac = false ∧ 2 < st)
        · rw [if_pos h9] at E
          clear hs
          have h9' : decide (st < 1) = true ∨ (decide (st < 1) = false ∧ (decide (4 < st) = true ∨ (decide (4 < st) = false ∧ ac = false ∧ decide (2 < st) = true))) := by
            by_cases x1 : st < 1
            · exact .inl (by simpa using x1)
            · refine .inr ⟨by simpa using x1, ?_⟩
              by_cases x2 : 4 < st
              · exact .inl (by simpa using x2)
              · refine .inr ⟨by simpa using x2, ?_⟩
                rcases h9 with h | ⟨h, h'⟩
                · omega
                · exact ⟨h, by simpa using h'⟩
          clear h9
          rcases h9' with u1 | ⟨u1, u2 | ⟨u2, rfl, u3⟩⟩
          all_goals
            go_enter Try.func43, Try.ntmps43
            go_wp2_with fail
            refine (Hc.out _).mono ?_
            rintro e w1 ⟨rfl, hb1⟩
            have hx1 := hx.below hb1
            have hw1 := below_step hw hb1
            have hg1 := hg.below hb1
            obtain ⟨q0, q1, q2, q3, q4, q5, q6, q7, q8⟩ := s9 hx1
            clear hb1 hx hw hg
            go_wp2_with (first | (go_at_call 53; go_must (refine (sAccess_any tk kind proc a b val st A _ c slot _).mono ?_; rintro e w2 ⟨rfl, hb2⟩; rw [HA.out]; have hx2 := hx1.below hb2; have hw2 := below_step hw1 hb2; have hg2 := hg1.below hb2; clear q0 q1 q2 q3 q4 q5 q6 q7 q8; clear hb2 hx1 hw1 hg1; obtain ⟨r0, r1, r2, r3, r4, r5, r6, r7, r8⟩ := s9 hx2)) | (go_at_call 44; go_must (refine (sRoom_any tk kind proc a b val st A _ c slot _).mono ?_; rintro e w3 ⟨rfl, hb3⟩; rw [HMo.out]; have hx3 := hx2.below hb3; have hw3 := below_step hw2 hb3; have hg3 := hg2.below hb3; clear r0 r1 r2 r3 r4 r5 r6 r7 r8; clear hb3 hx2 hw2 hg2; obtain ⟨p0, p1, p2, p3, p4, p5, p6, p7, p8⟩ := s9 hx3)))
            go_ret
            first | exact ⟨by rw [E.out]; rfl, hw2⟩ | exact ⟨by rw [E.out]; rfl, hw1⟩
        · rw [if_neg h9] at E hs
          have h5 : ((st = 1 ∧ 0 < (n : Int)) ∨ ((st = 2 ∨ st = 4) ∧ (n : Int) = 0)) ∨ mo < (n : Int) := by
            refine Decidable.byContradiction fun h => ?_
            rw [if_neg h] at hs
            omega
          rw [if_pos h5] at E
          clear hs
          have u1 : decide (st < 1) = false := by simp; omega
          have u2 : decide (4 < st) = false := by simp; omega
          have hst4 : st = 1 ∨ st = 2 ∨ st = 3 ∨ st = 4 := by omega
          have hp : (ac = true) ∨ (ac = false ∧ decide (2 < st) = false) := by
            cases ac
            · exact .inr ⟨rfl, by simp at h9 ⊢; omega⟩
            · exact .inl rfl
          have hr : ((st == 1) = true ∧ decide (0 < (n : Int)) = true ∧ (st == 2) = false ∧ (st == 4) = false ∧ ((n : Int) == 0) = false ∧ 0 < n ∧ (n = 0) = False) ∨ ((st == 1) = false ∧ (
              ((st == 2) = true ∧ (((n : Int) == 0) = true ∨ (((n : Int) == 0) = false ∧ decide (mo < (n : Int)) = true))) ∨
              ((st == 2) = false ∧ (((st == 4) = true ∧ (((n : Int) == 0) = true ∨ (((n : Int) == 0) = false ∧ decide (mo < (n : Int)) = true))) ∨ ((st == 4) = false ∧ decide (mo < (n : Int)) = true))))) := by
            have h0 : ((n : Int) = 0) ∨ (((n : Int) == 0) = false ∧ (n : Int) ≠ 0) := by
              by_cases h : (n : Int) = 0
              · exact .inl h
              · exact .inr ⟨by simpa using h, h⟩
            rcases hst4 with h | h | h | h
            · subst h; exact .inl ⟨rfl, by simp; omega, rfl, rfl, by simp; omega, by omega, by simp; omega⟩
            · subst h; refine .inr ⟨rfl, .inl ⟨rfl, ?_⟩⟩
              rcases h0 with h | ⟨h, h'⟩
              · exact .inl (by rw [h]; rfl)
              · exact .inr ⟨h, by simp; omega⟩
            · subst h; exact .inr ⟨rfl, .inr ⟨rfl, .inr ⟨rfl, by simp; omega⟩⟩⟩
            · subst h; refine .inr ⟨rfl, .inr ⟨rfl, .inl ⟨rfl, ?_⟩⟩⟩
              rcases h0 with h | ⟨h, h'⟩
              · exact .inl (by rw [h]; rfl)
              · exact .inr ⟨h, by simp; omega⟩
          clear h9 h5 hst4 hmo9
          rcases hp with rfl | ⟨rfl, p2⟩
          all_goals rcases hr with ⟨e1, e2, e3, e4, e5, e6, e7⟩ | ⟨e1, ⟨e2, e3 | ⟨e3, e4⟩⟩ | ⟨e2, ⟨e3, e4 | ⟨e4, e5⟩⟩ | ⟨e3, e4⟩⟩⟩
          all_goals
            go_enter Try.func43, Try.ntmps43
            go_wp2_with fail
            refine (Hc.out _).mono ?_
            rintro e w1 ⟨rfl, hb1⟩
            have hx1 := hx.below hb1
            have hw1 := below_step hw hb1
            have hg1 := hg.below hb1
            obtain ⟨q0, q1, q2, q3, q4, q5, q6, q7, q8⟩ := s9 hx1
            clear hb1 hx hw hg
            go_wp2_with (first | (go_at_call 53; go_must (refine (sAccess_any tk kind proc a b val st A _ c slot _).mono ?_; rintro e w2 ⟨rfl, hb2⟩; rw [HA.out]; have hx2 := hx1.below hb2; have hw2 := below_step hw1 hb2; have hg2 := hg1.below hb2; clear q0 q1 q2 q3 q4 q5 q6 q7 q8; clear hb2 hx1 hw1 hg1; obtain ⟨r0, r1, r2, r3, r4, r5, r6, r7, r8⟩ := s9 hx2)) | (go_at_call 44; go_must (refine (sRoom_any tk kind proc a b val st A _ c slot _).mono ?_; rintro e w3 ⟨rfl, hb3⟩; rw [HMo.out]; have hx3 := hx2.below hb3; have hw3 := below_step hw2 hb3; have hg3 := hg2.below hb3; clear r0 r1 r2 r3 r4 r5 r6 r7 r8; clear hb3 hx2 hw2 hg2; obtain ⟨p0, p1, p2, p3, p4, p5, p6, p7, p8⟩ := s9 hx3)))
            go_ret
            first | exact ⟨by rw [E.out]; rfl, hw3⟩ | exact ⟨by rw [E.out]; rfl, hw2⟩
    · have E := Lib.hid (show chkE tk kind proc a b val st xs slot = cmdE kind proc a b val by unfold chkE; rw [if_neg ht, if_pos hc])
      have Hc := Lib.hid (sCmd_any kind proc a b val)
      have hc' : (cmdE kind proc a b val != 0) = true := by simp [hc]
      have t1 : decide (tk < 1) = false := by simp; omega
      have t2 : decide (1099511627776 < tk) = false := by simp; omega
      clear ht hc
      generalize chkE tk kind proc a b val st xs slot = ke at *
      generalize cmdE kind proc a b val = ce at *
      go_enter Try.func43, Try.ntmps43
      go_wp2_with fail
      refine (Hc.out _).mono ?_
      rintro e w1 ⟨rfl, hb1⟩
      go_wp2
      go_ret
      exact ⟨by rw [E.out]; rfl, below_step hw hb1⟩
end Go.Proofs.Ytbcfnocefjolfaa
