/- Plain facts on the table of fault: what is next, what is needed, the most. -/
import Derived.Test.YtbcfnocefjolfaaG6
import Derived.Test.YtbcfnocefjolfaaH1
namespace Go.Proofs.Ytbcfnocefjolfaa
open Go.RowKit

/-- The lines of an access. -/
def accL (s3 n0 : Bool) (acc : Int) (wr rm : Bool) : Bool × Int × Int :=
  srch [(s3, 7, 1), (acc == 1, 2, 1), (((acc == 2) || (acc == 3)) || (acc == 4), 1, 1), ((acc == 5) && n0, 3, 3), (acc == 5, 3, 2), (((acc == 6) || (acc == 7)) && n0, 4, 2), ((acc == 6) || (acc == 7), 1, 1), ((acc == 8) && wr, 5, 2), ((acc == 8) && n0, 4, 3), ((acc == 8) && rm, 6, 2), (acc == 8, 7, 2)]
theorem srch_skip (x y : Int) (T : List (Bool × Int × Int)) : srch ((false, x, y) :: T) = srch T := rfl
theorem look_acc {kind : Int} (h1 : kind ≠ 1) (h6 : kind ≠ 6) (st : Int) (n : Nat) (acc : Int) (wr rm : Bool) (lv : Int) (fr : Bool) :
    lookF kind st n acc wr rm lv fr = accL ((st == 3) || (st == 4)) ((n : Int) == 0) acc wr rm := by
  have e1 : (kind == 1) = false := by simp [h1]
  have e6 : (kind == 6) = false := by simp [h6]
  unfold lookF accL
  rw [e1, e6]
  simp only [Bool.false_and, srch_skip]
def mxL (s3 n0 : Bool) : Nat → Int
  | 0 => 0
  | k + 1 => max (max (mxL s3 n0 k) (accL s3 n0 (k + 1) false false).2.2) (accL s3 n0 (k + 1) true false).2.2
theorem mx_acc {kind : Int} (h1 : kind ≠ 1) (h6 : kind ≠ 6) (st : Int) (n : Nat) (k : Nat) : mxA kind st n k = mxL ((st == 3) || (st == 4)) ((n : Int) == 0) k := by
  induction k with
  | zero => rfl
  | succ k ih =>
    show mxI kind st n (k + 1) (mxA kind st n k) 2 = _
    rw [ih]
    show max (max _ (ndA kind st n (k + 1) false)) (ndA kind st n (k + 1) true) = _
    unfold ndA
    rw [look_acc h1 h6, look_acc h1 h6]
    rfl
theorem acc_all : ∀ (s3 n0 wr rm : Bool) (i : Fin 8), 1 ≤ (accL s3 n0 (i.val + 1) wr rm).2.2 ∧ (accL s3 n0 (i.val + 1) wr rm).2.2 ≤ mxL s3 n0 8 ∧ mxL s3 n0 8 ≤ 3 ∧
    (((accL s3 n0 (i.val + 1) wr rm).2.1 = 1 ∨ (accL s3 n0 (i.val + 1) wr rm).2.1 = 2) → (accL s3 n0 (i.val + 1) wr rm).2.2 = 1) ∧
    ((accL s3 n0 (i.val + 1) wr rm).2.2 = 1 → ((accL s3 n0 (i.val + 1) wr rm).2.1 = 1 ∨ (accL s3 n0 (i.val + 1) wr rm).2.1 = 2 ∨ (accL s3 n0 (i.val + 1) wr rm).2.1 = 7)) := by decide +kernel

/-- What the table says of a valid request and its facts. -/
structure EndsR (nx nd m acc : Int) : Prop where
  lo : 1 ≤ nd
  hi : nd ≤ m
  m10 : m ≤ 10
  m3 : 0 < acc → m ≤ 3
  e1 : nx = 1 ∨ nx = 2 → nd = 1
  e2 : nd = 1 → nx = 1 ∨ nx = 2 ∨ nx = 7
theorem ends_of {kind st : Int} {n : Nat} {acc : Int} {wr rm : Bool} {lv : Int} {fr : Bool} (hk : kind = 4 ∨ kind = 5 ∨ kind = 6 ∨ kind = 1) (hn : n ≤ 9) (hf : fcE kind acc lv = 0) :
    EndsR (lookF kind st n acc wr rm lv fr).2.1 (lookF kind st n acc wr rm lv fr).2.2 (mostV kind st n) acc := by
  by_cases h6 : kind = 6
  · subst h6
    have hlv : acc = 0 ∧ 0 ≤ lv ∧ lv ≤ 8 := by unfold fcE at hf; simp [accB] at hf; omega
    have hm : mostV 6 st n = if n = 9 then 1 else 10 - (n : Int) := by
      unfold mostV
      rw [if_neg (by simp [accB])]
      unfold lookF
      by_cases h9 : n = 9
      · subst h9; rfl
      · have : decide (0 < (8 : Int) + 1 - n) = true := by simp; omega
        rw [if_neg h9, this]
        simp [srch]
        omega
    cases fr
    · have e : lookF 6 st n acc wr rm lv false = (true, 2, 1) := rfl
      rw [e, hm]
      refine ⟨by simp, ?_, ?_, by omega, by simp, by simp⟩
      all_goals (show _ ≤ _; split <;> first | omega | (simp; omega) | simp)
    · by_cases hl : 0 < lv + 1 - (n : Int)
      · have e : lookF 6 st n acc wr rm lv true = (true, 3, lv + 1 - n + 1) := by
          unfold lookF
          have : decide (0 < lv + 1 - (n : Int)) = true := by simp; omega
          rw [this]
          rfl
        rw [e, hm]
        refine ⟨?_, ?_, ?_, by omega, by simp, ?_⟩
        · show (1 : Int) ≤ lv + 1 - n + 1; omega
        · show lv + 1 - n + 1 ≤ _
          split <;> omega
        · split <;> omega
        · show lv + 1 - n + 1 = 1 → _; omega
      · have e : lookF 6 st n acc wr rm lv true = (true, 1, 1) := by
          unfold lookF
          have : decide (0 < lv + 1 - (n : Int)) = false := by simp; omega
          rw [this]
          rfl
        rw [e, hm]
        refine ⟨by simp, ?_, ?_, by omega, by simp, by simp⟩
        all_goals (show _ ≤ _; split <;> first | omega | (simp; omega) | simp)
  · by_cases h1 : kind = 1
    · subst h1
      have hlv : acc = 0 := by unfold fcE at hf; simp [accB] at hf; omega
      have hl : ∀ acc wr rm lv fr, lookF 1 st n acc wr rm lv fr = if n = 0 then (true, 3, 2) else (true, 1, 1) := by
        intro acc wr rm lv fr
        by_cases h0 : n = 0
        · subst h0; rfl
        · have : ((n : Int) == 0) = false := by simp; omega
          unfold lookF
          rw [this, if_neg h0]
          rfl
      have hm : mostV 1 st n = (if n = 0 then ((true, 3, 2) : Bool × Int × Int) else (true, 1, 1)).2.2 := by
        unfold mostV
        rw [if_neg (by simp [accB]), hl]
      rw [hl, hm]
      split
      · exact ⟨by simp, by simp, by simp, by omega, by simp, by simp⟩
      · exact ⟨by simp, by simp, by simp, by omega, by simp, by simp⟩
    · have ha : accB kind = true := by
        rcases hk with rfl | rfl | rfl | rfl
        · rfl
        · rfl
        · exact absurd rfl h6
        · exact absurd rfl h1
      have hacc : 1 ≤ acc ∧ acc ≤ 8 := by unfold fcE at hf; rw [if_pos ha] at hf; split at hf <;> omega
      have hm : mostV kind st n = mxL ((st == 3) || (st == 4)) ((n : Int) == 0) 8 := by
        unfold mostV
        rw [if_pos ha, mx_acc h1 h6]
      have hq := acc_all ((st == 3) || (st == 4)) ((n : Int) == 0) wr rm ⟨(acc - 1).toNat, by omega⟩
      have e : (((⟨(acc - 1).toNat, by omega⟩ : Fin 8).val : Int) + 1) = acc := by show ((acc - 1).toNat : Int) + 1 = acc; omega
      rw [e] at hq
      rw [look_acc h1 h6, hm]
      exact ⟨hq.1, hq.2.1, by omega, fun _ => hq.2.2.1, hq.2.2.2.1, hq.2.2.2.2⟩
end Go.Proofs.Ytbcfnocefjolfaa
