/- Plain facts on the table of fault: what is done next lowers what is needed; the requests that come of it are valid; a free frame. -/
import Derived.Test.YtbcfnocefjolfaaE1
namespace Go.Proofs.Ytbcfnocefjolfaa
open Go.RowKit

theorem chk_mk {tk kind proc a b val st : Int} {xs : List Int} {slot : Int} (h1 : 1 ≤ tk ∧ tk ≤ 1099511627776) (h2 : cmdE kind proc a b val = 0) (h3 : stE st kind xs.length = 0) (h4 : frE xs 0 xs.length = 0) (h5 : slE st slot = 0) :
    chkE tk kind proc a b val st xs slot = 0 := by
  unfold chkE
  rw [if_neg (by omega), if_neg (by simp [h2]), if_neg (by simp [h3]), if_neg (by simp [h4])]
  exact h5
theorem frE_snoc (xs : List Int) (p : Int) (hp : frB p = true) (hn : xs.contains p = false) : ∀ (m k : Nat), k + m = xs.length → frE xs k m = 0 → frE (xs ++ [p]) k (m + 1) = 0
  | 0, k, hk, _ => by
    have hk' : k = xs.length := by omega
    subst hk'
    show (if frB ((xs ++ [p])[xs.length]?.getD 0) = true then (if ((xs ++ [p]).take xs.length).contains ((xs ++ [p])[xs.length]?.getD 0) = true then 7 else 0) else 2) = 0
    have e : (xs ++ [p])[xs.length]?.getD 0 = p := by simp
    rw [e, if_pos hp, List.take_left, if_neg (by rw [hn]; simp)]
  | m + 1, k, hk, h => by
    have h' : (if frB (xs[k]?.getD 0) = true then (if (xs.take k).contains (xs[k]?.getD 0) = true then 7 else frE xs (k + 1) m) else 2) = 0 := h
    show (if frB ((xs ++ [p])[k]?.getD 0) = true then (if ((xs ++ [p]).take k).contains ((xs ++ [p])[k]?.getD 0) = true then 7 else frE (xs ++ [p]) (k + 1) (m + 1)) else 2) = 0
    have e : (xs ++ [p])[k]? = xs[k]? := List.getElem?_append_left (by omega)
    have e2 : (xs ++ [p]).take k = xs.take k := List.take_append_of_le_length (by omega)
    rw [e, e2]
    by_cases hf : frB (xs[k]?.getD 0) = true
    · rw [if_pos hf] at h' ⊢
      by_cases hc : (xs.take k).contains (xs[k]?.getD 0) = true
      · rw [if_pos hc] at h'; omega
      · rw [if_neg hc] at h' ⊢
        exact frE_snoc xs p hp hn m (k + 1) (by omega) h'
    · rw [if_neg hf] at h'; omega
theorem give_ok {tk kind proc a b val st : Int} {xs : List Int} {p : Int} (h : chkE tk kind proc a b val st xs 0 = 0) (hm : (xs.length : Int) + 1 ≤ mostN kind) (hp : frB p = true) (hn : xs.contains p = false) :
    chkE tk kind proc a b val 2 (xs ++ [p]) 0 = 0 := by
  obtain ⟨h1, h2, _, h4, _⟩ := chk_parts _ _ _ _ _ _ _ _ _ h
  refine chk_mk h1 h2 ?_ ?_ (by simp [slE])
  · have e : (((xs ++ [p]).length : Nat) : Int) = (xs.length : Int) + 1 := by simp
    rw [e]
    unfold stE
    rw [if_neg (by omega), if_neg (by omega), if_pos rfl]
    unfold lenE
    rw [if_neg (by omega)]
  · have := frE_snoc xs p hp hn xs.length 0 (by omega) h4
    rwa [show (xs ++ [p]).length = xs.length + 1 by simp]
theorem read_ok {tk kind proc a b val st : Int} {xs : List Int} {p : Int} (h : chkE tk kind proc a b val st xs 0 = 0) (ha : accB kind = true) (hl : xs.length = 1) (hp : frB p = true) :
    chkE tk kind proc a b val 4 xs p = 0 := by
  obtain ⟨h1, h2, _, h4, _⟩ := chk_parts _ _ _ _ _ _ _ _ _ h
  have h6 : kind ≠ 6 := by intro e; subst e; simp [accB] at ha
  refine chk_mk h1 h2 ?_ h4 (by simp [slE, hp])
  rw [hl]
  unfold stE
  rw [if_pos rfl, if_pos ha]
  unfold lenE mostN
  rw [if_neg h6]
  simp

theorem acc_low : ∀ (n0 wr rm : Bool) (i : Fin 8), ((accL false n0 (i.val + 1) wr rm).2.1 = 4 ∧ n0 = true ∧ (accL false false (i.val + 1) wr rm).2.2 = (accL false n0 (i.val + 1) wr rm).2.2 - 1) ∨
    ((accL false n0 (i.val + 1) wr rm).2.1 = 3 ∧ i.val = 4 ∧ (accL false n0 6 wr rm).2.2 = (accL false n0 (i.val + 1) wr rm).2.2 - 1) ∨
    ((accL false n0 (i.val + 1) wr rm).2.1 = 5 ∧ (accL true n0 (i.val + 1) wr rm).2.2 = (accL false n0 (i.val + 1) wr rm).2.2 - 1) ∨
    ((accL false n0 (i.val + 1) wr rm).2.1 = 6 ∧ n0 = false ∧ (accL true n0 (i.val + 1) wr rm).2.2 = (accL false n0 (i.val + 1) wr rm).2.2 - 1) ∨
    ((accL false n0 (i.val + 1) wr rm).2.1 = 1 ∨ (accL false n0 (i.val + 1) wr rm).2.1 = 2 ∨ (accL false n0 (i.val + 1) wr rm).2.1 = 7) := by decide +kernel

/-- What is next, and that it lowers what is needed. -/
inductive LowR (kind st : Int) (n : Nat) (acc : Int) (wr rm : Bool) (lv : Int) (fr : Bool) (nx nd : Int) : Prop
  | page (h : nx = 4) (ha : accB kind = true) (hn : n = 0) (hd : (lookF kind 2 (n + 1) acc wr rm lv fr).2.2 = nd - 1)
  | leaf (h : nx = 3) (ha : accB kind = true) (h5 : acc = 5) (hd : (lookF kind st n 6 wr rm lv fr).2.2 = nd - 1)
  | table (h : nx = 3) (h5 : acc ≠ 5) (hm : (n : Int) + 1 ≤ mostN kind) (hd : (lookF kind 2 (n + 1) acc wr rm lv fr).2.2 = nd - 1)
  | claim (h : nx = 5) (ha : accB kind = true) (hd : (lookF kind 3 n acc wr rm lv fr).2.2 = nd - 1)
  | start (h : nx = 6) (ha : accB kind = true) (hn : n = 1) (hd : (lookF kind 4 n acc wr rm lv fr).2.2 = nd - 1)
  | rest (h : nx = 1 ∨ nx = 2 ∨ nx = 7)

theorem low_of {kind st : Int} {n : Nat} {acc : Int} {wr rm : Bool} {lv : Int} {fr : Bool} (hk : kind = 4 ∨ kind = 5 ∨ kind = 6 ∨ kind = 1) (hn : n ≤ 9) (hn1 : kind ≠ 6 → n ≤ 1) (hst : st = loseS n) (hf : fcE kind acc lv = 0) :
    LowR kind st n acc wr rm lv fr (lookF kind st n acc wr rm lv fr).2.1 (lookF kind st n acc wr rm lv fr).2.2 := by
  have hs : ((st == 3) || (st == 4)) = false := by
    rcases loseS_12 n with h | h <;> rw [h] at hst <;> subst hst <;> rfl
  by_cases h6 : kind = 6
  · subst h6
    have hlv : acc = 0 ∧ 0 ≤ lv ∧ lv ≤ 8 := by unfold fcE at hf; simp [accB] at hf; omega
    cases fr
    · exact .rest (.inr (.inl rfl))
    · by_cases hl : 0 < lv + 1 - (n : Int)
      · have e : ∀ st, lookF 6 st n acc wr rm lv true = (true, 3, lv + 1 - n + 1) := by
          intro st
          unfold lookF
          have : decide (0 < lv + 1 - (n : Int)) = true := by simp; omega
          rw [this]
          rfl
        rw [e st]
        refine .table rfl (by omega) (by unfold mostN; rw [if_pos rfl]; omega) ?_
        by_cases hl2 : 0 < lv + 1 - ((n + 1 : Nat) : Int)
        · have e2 : lookF 6 2 (n + 1) acc wr rm lv true = (true, 3, lv + 1 - ((n + 1 : Nat) : Int) + 1) := by
            unfold lookF
            have : decide (0 < lv + 1 - ((n + 1 : Nat) : Int)) = true := by simp; omega
            rw [this]
            rfl
          rw [e2]
          show lv + 1 - ((n + 1 : Nat) : Int) + 1 = lv + 1 - n + 1 - 1
          omega
        · have e2 : lookF 6 2 (n + 1) acc wr rm lv true = (true, 1, 1) := by
            unfold lookF
            have : decide (0 < lv + 1 - ((n + 1 : Nat) : Int)) = false := by simp; omega
            rw [this]
            rfl
          rw [e2]
          show (1 : Int) = lv + 1 - n + 1 - 1
          omega
      · have e : lookF 6 st n acc wr rm lv true = (true, 1, 1) := by
          unfold lookF
          have : decide (0 < lv + 1 - (n : Int)) = false := by simp; omega
          rw [this]
          rfl
        rw [e]
        exact .rest (.inl rfl)
  · by_cases h1 : kind = 1
    · subst h1
      have hlv : acc = 0 := by unfold fcE at hf; simp [accB] at hf; omega
      by_cases h0 : n = 0
      · subst h0
        exact .table rfl (by omega) (by simp [mostN]) rfl
      · have e : lookF 1 st n acc wr rm lv fr = (true, 1, 1) := by
          have : ((n : Int) == 0) = false := by simp; omega
          unfold lookF
          rw [this]
          rfl
        rw [e]
        exact .rest (.inl rfl)
    · have ha : accB kind = true := by
        rcases hk with rfl | rfl | rfl | rfl
        · rfl
        · rfl
        · exact absurd rfl h6
        · exact absurd rfl h1
      have hacc : 1 ≤ acc ∧ acc ≤ 8 := by unfold fcE at hf; rw [if_pos ha] at hf; split at hf <;> omega
      have hq := acc_low ((n : Int) == 0) wr rm ⟨(acc - 1).toNat, by omega⟩
      have e : (((⟨(acc - 1).toNat, by omega⟩ : Fin 8).val : Int) + 1) = acc := by show ((acc - 1).toNat : Int) + 1 = acc; omega
      have e4 : (⟨(acc - 1).toNat, by omega⟩ : Fin 8).val = (acc - 1).toNat := rfl
      rw [e, e4] at hq
      have hn1' := hn1 h6
      rw [look_acc h1 h6, hs]
      rcases hq with ⟨q1, q2, q3⟩ | ⟨q1, q2, q3⟩ | ⟨q1, q3⟩ | ⟨q1, q2, q3⟩ | q1
      · have h0 : n = 0 := by simpa using q2
        refine .page q1 ha h0 ?_
        rw [look_acc h1 h6, ← q3]
        subst h0
        rfl
      · refine .leaf q1 ha (by omega) ?_
        rw [look_acc h1 h6, hs, ← q3]
      · refine .claim q1 ha ?_
        rw [look_acc h1 h6, ← q3]
        rfl
      · have h0 : n = 1 := by simp at q2; omega
        refine .start q1 ha h0 ?_
        rw [look_acc h1 h6, ← q3]
        rfl
      · exact .rest q1

/-! A free frame is found. -/
theorem sub_len : ∀ (l xs : List Int), l.Nodup → (∀ x ∈ l, x ∈ xs) → l.length ≤ xs.length
  | [], _, _, _ => by simp
  | y :: ys, xs, hnd, hs => by
    have hy : y ∈ xs := hs y (by simp)
    rw [List.nodup_cons] at hnd
    have := sub_len ys (xs.erase y) hnd.2 (fun x hx => (List.mem_erase_of_ne (by intro e; subst e; exact hnd.1 hx)).2 (hs x (by simp [hx])))
    rw [List.length_erase_of_mem hy] at this
    have hpos := List.length_pos_of_mem hy
    simp only [List.length_cons]
    omega
theorem free_at (sl : Int) (xs : List Int) (_h0 : 0 ≤ sl) (_h1 : sl < 256) (hl : xs.length ≤ 9) :
    ∃ N : Nat, N ≤ 9 ∧ xs.contains ((sl + N) % 256) = false ∧ ∀ j : Nat, j < N → xs.contains ((sl + j) % 256) = true := by
  have key : ∃ N : Nat, N ≤ 9 ∧ xs.contains ((sl + N) % 256) = false := by
    refine Decidable.byContradiction fun hno => ?_
    have hall : ∀ N : Nat, N ≤ 9 → (sl + N) % 256 ∈ xs := by
      intro N hN
      cases hc : xs.contains ((sl + N) % 256)
      · exact absurd ⟨N, hN, hc⟩ hno
      · exact List.contains_iff_mem.1 hc
    have := sub_len ((List.range 10).map fun i => (sl + (i : Nat)) % 256) xs ?_ ?_
    · simp at this; omega
    · rw [List.nodup_iff_pairwise_ne, List.pairwise_map]
      refine List.Pairwise.imp_of_mem ?_ (List.nodup_iff_pairwise_ne.1 (List.nodup_range (n := 10)))
      intro x y hx hy hxy
      rw [List.mem_range] at hx hy
      omega
    · intro x hx
      rw [List.mem_map] at hx
      obtain ⟨i, hi, rfl⟩ := hx
      rw [List.mem_range] at hi
      exact hall i (by omega)
  obtain ⟨N, hN, hc⟩ := key
  induction N using Nat.strongRecOn with
  | _ N ih =>
    by_cases hj : ∃ j, j < N ∧ xs.contains ((sl + (j : Nat)) % 256) = false
    · obtain ⟨j, hj1, hj2⟩ := hj
      exact ih j hj1 (by omega) hj2
    · refine ⟨N, hN, hc, fun j hjN => ?_⟩
      cases h : xs.contains ((sl + (j : Nat)) % 256)
      · exact absurd ⟨j, hjN, h⟩ hj
      · rfl
end Go.Proofs.Ytbcfnocefjolfaa
