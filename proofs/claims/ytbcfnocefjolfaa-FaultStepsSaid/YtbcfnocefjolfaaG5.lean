/- The law's own functions: what made and facts give. -/
import Derived.Test.YtbcfnocefjolfaaG4
namespace Go.Proofs.Ytbcfnocefjolfaa
open Go.RowKit

/-- A request made of numbers. -/
def RetM (w : World) (k m : Int) (e : Ending) (w' : World) : Prop :=
  ∃ A c, e = .returned (.agg #[.int .u64 (1 + k % 50), .int .i64 (kindF k), .int .i64 (1 + k / 50 % 8), .int .i64 (aF k), .int .i64 (bF k), .int .u64 (valF k), .int .i64 (stF (manyF k m)), .slice A (manyF k m) c, .int .i64 0]) ∧ OwnI w' w.heap.size A (manyF k m) c (xsF m (manyF k m)) ∧ Below w.heap.size w w'
theorem made_any (n fs : Int) (w : World) : Calls Try.prog 8 #[.int .i64 n, .int .i64 fs] w (RetM w (n % 16777216) (fs % 1048576)) := by
  obtain ⟨k, hk⟩ : ∃ k, n % 16777216 = k := ⟨_, rfl⟩
  obtain ⟨m, hm⟩ : ∃ m, fs % 1048576 = m := ⟨_, rfl⟩
  rw [hk, hm]
  have h : k / 400 % 4 = 0 ∨ k / 400 % 4 = 1 ∨ k / 400 % 4 = 2 ∨ k / 400 % 4 = 3 := by omega
  unfold RetM
  rcases h with h | h | h | h
  · refine (made_0 n fs k m hk hm h w).mono ?_
    rintro e w' ⟨A, c, rfl, ho, hb⟩
    exact ⟨A, c, by simp [kindF, aF, bF, valF, manyF, h], by simpa [manyF, h] using ho, hb⟩
  · refine (made_1 n fs k m hk hm h w).mono ?_
    rintro e w' ⟨A, c, rfl, ho, hb⟩
    exact ⟨A, c, by simp [kindF, aF, bF, valF, manyF, h], by simpa [manyF, h] using ho, hb⟩
  · refine (made_2 n fs k m hk hm h w).mono ?_
    rintro e w' ⟨A, c, rfl, ho, hb⟩
    exact ⟨A, c, by simp [kindF, aF, bF, valF, manyF, h], by simpa [manyF, h] using ho, hb⟩
  · refine (made_3 n fs k m hk hm h w).mono ?_
    rintro e w' ⟨A, c, rfl, ho, hb⟩
    exact ⟨A, c, by simp [kindF, aF, bF, valF, manyF, h], by simpa [manyF, h] using ho, hb⟩

def accF (kind k : Int) : Int := if accB kind = true then 1 + k / 72 % 8 else 0
set_option maxHeartbeats 1000000 in
theorem facts_any (tk kind proc a b val st : Int) (A : Option Addr) (c : Nat) (xs : List Int) (slot : Int) (n : Int) (w : World) :
    Calls Try.prog 14 #[.agg #[.int .u64 tk, .int .i64 kind, .int .i64 proc, .int .i64 a, .int .i64 b, .int .u64 val, .int .i64 st, .slice A xs.length c, .int .i64 slot], .int .i64 n] w (RetB w (.returned (.agg #[.int .i64 (accF kind (n % 1048576)), .bool (n % 1048576 % 2 == 1), .bool (n % 1048576 / 2 % 2 == 1), .int .i64 (n % 1048576 / 4 % 9), .bool (n % 1048576 / 36 % 2 == 1)]))) := by
  obtain ⟨k, hk⟩ : ∃ k, n % 1048576 = k := ⟨_, rfl⟩
  rw [hk]
  have hk0 : 0 ≤ k := by omega
  have hk1 : k < 1048576 := by omega
  have Hk := Lib.hid hk
  clear hk
  have hn := (Bx.new ((w.alloc (.cells #[.int .u64 tk, .int .i64 kind, .int .i64 proc, .int .i64 a, .int .i64 b, .int .u64 val, .int .i64 st, .slice A xs.length c, .int .i64 slot] 27)).alloc (.cells #[.int .i64 0, .bool false, .bool false, .int .i64 0, .bool false] 38)) 38 #[.int .i64 0, .bool false, .bool false, .int .i64 0, .bool false])
  have hy := (Bx.new (w.alloc (.cells #[.int .u64 tk, .int .i64 kind, .int .i64 proc, .int .i64 a, .int .i64 b, .int .u64 val, .int .i64 st, .slice A xs.length c, .int .i64 slot] 27)) 38 #[.int .i64 0, .bool false, .bool false, .int .i64 0, .bool false])
  rw [World.size_alloc] at hy
  have hw := below_step (al w (.cells #[.int .u64 tk, .int .i64 kind, .int .i64 proc, .int .i64 a, .int .i64 b, .int .u64 val, .int .i64 st, .slice A xs.length c, .int .i64 slot] 27)) (al _ (.cells #[.int .i64 0, .bool false, .bool false, .int .i64 0, .bool false] 38))
  have E : Hid (accF kind k = if accB kind = true then 1 + k / 72 % 8 else 0) := Lib.hid rfl
  cases h4 : (kind == 4)
  · cases h5 : (kind == 5)
    · have hac : accB kind = false := by simp [accB, h4, h5]
      have E2 := Lib.hid (show accF kind k = 0 by rw [E.out, hac]; rfl)
      clear hac E
      go_enter Try.func14, Try.ntmps14
      go_wp2_with (first | (go_at_call 10; refine (mod_any _ _ (by omega) (by omega) _).mono ?_; rintro e w' ⟨rfl, rfl⟩; rw [Hk.out]) | (refine wpList_store_row rfl 38 _ _ rfl (w.heap.size + 1 + 1) _ rfl rfl 38 _ hn fac_size rfl (by simp [Value.oneCell']) ?_; rw [← World.size_alloc (w := w) (o := .cells #[.int .u64 tk, .int .i64 kind, .int .i64 proc, .int .i64 a, .int .i64 b, .int .u64 val, .int .i64 st, .slice A xs.length c, .int .i64 slot] 27), ← World.size_alloc (w := w.alloc (.cells #[.int .u64 tk, .int .i64 kind, .int .i64 proc, .int .i64 a, .int .i64 b, .int .u64 val, .int .i64 st, .slice A xs.length c, .int .i64 slot] 27)) (o := .cells #[.int .i64 0, .bool false, .bool false, .int .i64 0, .bool false] 38), World.setRow_alloc_new]; rw [World.size_alloc, World.size_alloc]) | (refine wpList_store_row rfl 38 _ _ rfl (w.heap.size + 1) _ rfl rfl 38 _ (hy.alloc _) fac_size rfl (by simp [Value.oneCell']) ?_))
      refine bodyPost_ret (results_cell_row rfl _ _ (w.heap.size + 1) 38 _ (0, 0) _ rfl ((hy.alloc _).row _) Try.underlying38 rfl fac_size) rfl ⟨by rw [E2.out], ?_⟩
      exact below_setRow (below_step hw (al _ _)) (by omega) _
    · have hac : accB kind = true := by simp [accB, h4, h5]
      have E2 := Lib.hid (show accF kind k = 1 + k / 72 % 8 by rw [E.out, hac]; rfl)
      clear hac E
      go_enter Try.func14, Try.ntmps14
      go_wp2_with (first | (go_at_call 10; refine (mod_any _ _ (by omega) (by omega) _).mono ?_; rintro e w' ⟨rfl, rfl⟩; rw [Hk.out]) | (refine wpList_store_row rfl 38 _ _ rfl (w.heap.size + 1 + 1) _ rfl rfl 38 _ hn fac_size rfl (by simp [Value.oneCell']) ?_; rw [← World.size_alloc (w := w) (o := .cells #[.int .u64 tk, .int .i64 kind, .int .i64 proc, .int .i64 a, .int .i64 b, .int .u64 val, .int .i64 st, .slice A xs.length c, .int .i64 slot] 27), ← World.size_alloc (w := w.alloc (.cells #[.int .u64 tk, .int .i64 kind, .int .i64 proc, .int .i64 a, .int .i64 b, .int .u64 val, .int .i64 st, .slice A xs.length c, .int .i64 slot] 27)) (o := .cells #[.int .i64 0, .bool false, .bool false, .int .i64 0, .bool false] 38), World.setRow_alloc_new]; rw [World.size_alloc, World.size_alloc]) | (refine wpList_store_row rfl 38 _ _ rfl (w.heap.size + 1) _ rfl rfl 38 _ (hy.alloc _) fac_size rfl (by simp [Value.oneCell']) ?_))
      refine bodyPost_ret (results_cell_row rfl _ _ (w.heap.size + 1) 38 _ (0, 0) _ rfl ((hy.alloc _).row _) Try.underlying38 rfl fac_size) rfl ⟨by rw [E2.out], ?_⟩
      exact below_setRow (below_step hw (al _ _)) (by omega) _
  · have hac : accB kind = true := by simp [accB, h4]
    have E2 := Lib.hid (show accF kind k = 1 + k / 72 % 8 by rw [E.out, hac]; rfl)
    clear hac E
    go_enter Try.func14, Try.ntmps14
    go_wp2_with (first | (go_at_call 10; refine (mod_any _ _ (by omega) (by omega) _).mono ?_; rintro e w' ⟨rfl, rfl⟩; rw [Hk.out]) | (refine wpList_store_row rfl 38 _ _ rfl (w.heap.size + 1 + 1) _ rfl rfl 38 _ hn fac_size rfl (by simp [Value.oneCell']) ?_; rw [← World.size_alloc (w := w) (o := .cells #[.int .u64 tk, .int .i64 kind, .int .i64 proc, .int .i64 a, .int .i64 b, .int .u64 val, .int .i64 st, .slice A xs.length c, .int .i64 slot] 27), ← World.size_alloc (w := w.alloc (.cells #[.int .u64 tk, .int .i64 kind, .int .i64 proc, .int .i64 a, .int .i64 b, .int .u64 val, .int .i64 st, .slice A xs.length c, .int .i64 slot] 27)) (o := .cells #[.int .i64 0, .bool false, .bool false, .int .i64 0, .bool false] 38), World.setRow_alloc_new]; rw [World.size_alloc, World.size_alloc]) | (refine wpList_store_row rfl 38 _ _ rfl (w.heap.size + 1) _ rfl rfl 38 _ (hy.alloc _) fac_size rfl (by simp [Value.oneCell']) ?_))
    refine bodyPost_ret (results_cell_row rfl _ _ (w.heap.size + 1) 38 _ (0, 0) _ rfl ((hy.alloc _).row _) Try.underlying38 rfl fac_size) rfl ⟨by rw [E2.out], ?_⟩
    exact below_setRow (below_step hw (al _ _)) (by omega) _

/-! What made gives is valid. -/
theorem frE_zero (xs : List Int) (n k : Nat) (h : ∀ i, k ≤ i → i < k + n → frB (xs[i]?.getD 0) = true ∧ (xs.take i).contains (xs[i]?.getD 0) = false) : frE xs k n = 0 := by
  induction n generalizing k with
  | zero => rfl
  | succ n ih =>
    obtain ⟨h1, h2⟩ := h k (Nat.le_refl _) (by omega)
    show (if frB (xs[k]?.getD 0) = true then (if (xs.take k).contains (xs[k]?.getD 0) = true then 7 else frE xs (k + 1) n) else 2) = 0
    rw [if_pos h1, if_neg (by rw [h2]; simp)]
    exact ih (k + 1) (fun i hi hj => h i (by omega) (by omega))
theorem xsF_get (m : Int) (n i : Nat) (h : i < n) : (xsF m n)[i]? = some ((m / 10 + 17 * i) % 256) := by
  induction n with
  | zero => omega
  | succ n ih =>
    rw [xsF]
    by_cases hi : i < n
    · rw [List.getElem?_append_left (by rw [xsF_len]; exact hi)]
      exact ih hi
    · have : i = n := by omega
      subst this
      rw [List.getElem?_append_right (by rw [xsF_len]; omega), xsF_len]
      simp
theorem xsF_fr (m : Int) (n : Nat) (hn : n ≤ 10) : frE (xsF m n) 0 (xsF m n).length = 0 := by
  rw [xsF_len]
  refine frE_zero _ _ _ fun i _ hi => ?_
  rw [xsF_get m n i (by omega)]
  refine ⟨by simp [frB]; omega, ?_⟩
  cases hc : (List.take i (xsF m n)).contains ((some ((m / 10 + 17 * (i : Int)) % 256)).getD 0)
  · rfl
  · rw [List.contains_iff_mem, List.mem_take_iff_getElem] at hc
    obtain ⟨j, hj, he⟩ := hc
    have hj' : j < i ∧ j < (xsF m n).length := by omega
    have h2 := xsF_get m n j (by omega)
    rw [List.getElem?_eq_getElem hj'.2] at h2
    have h3 := Option.some.inj h2
    rw [h3] at he
    simp at he
    omega
theorem manyF_le (k m : Int) : manyF k m ≤ 9 ∧ ((kindF k = 6 → manyF k m ≤ 9) ∧ (kindF k ≠ 6 → manyF k m ≤ 1)) := by
  unfold manyF kindF
  repeat' split
  all_goals omega
theorem made_ok (n k m : Int) (hk : n % 16777216 = k) (st slot : Int)
    (hst : (st = stF (manyF k m) ∧ slot = 0) ∨ (accB (kindF k) = true ∧ st = 3 ∧ 0 ≤ slot ∧ slot < 256)) :
    chkE (1 + k % 50) (kindF k) (1 + k / 50 % 8) (aF k) (bF k) (valF k) st (xsF m (manyF k m)) slot = 0 := by
  have hk0 : 0 ≤ k := by omega
  have hk1 : k < 16777216 := by omega
  have hp : procB (1 + k / 50 % 8) = true := by simp [procB]; omega
  have hmn := manyF_le k m
  have hfr := xsF_fr m (manyF k m) (by omega)
  have hcmd : cmdE (kindF k) (1 + k / 50 % 8) (aF k) (bF k) (valF k) = 0 := by
    have h : k / 400 % 4 = 0 ∨ k / 400 % 4 = 1 ∨ k / 400 % 4 = 2 ∨ k / 400 % 4 = 3 := by omega
    rcases h with h | h | h | h
    · simp [cmdE, kindF, aF, bF, valF, h, hp]; omega
    · simp [cmdE, kindF, aF, bF, valF, h, hp]; omega
    · have hp2 : procB (1 + (1 + k / 50 % 8 + k / 1600 % 7) % 8) = true := by simp [procB]; omega
      simp [cmdE, kindF, aF, bF, valF, h, hp, hp2]; omega
    · simp [cmdE, kindF, aF, bF, valF, h, hp]
  have hkd : kindF k = 4 ∨ kindF k = 5 ∨ kindF k = 6 ∨ kindF k = 1 := by unfold kindF; repeat' split
                                                                         all_goals simp
  have hste : stE st (kindF k) (xsF m (manyF k m)).length = 0 := by
    rw [xsF_len]
    rcases hst with ⟨rfl, _⟩ | ⟨ha, rfl, _⟩
    · unfold stF
      split
      · rename_i h0; rw [h0]; simp [stE, lenE]
      · unfold stE
        rw [if_neg (by omega), if_neg (by omega), if_pos (by omega)]
        unfold lenE mostN
        split <;> (try split) <;> omega
    · have h6 : kindF k ≠ 6 := by intro h; rw [h] at ha; simp [accB] at ha
      have := hmn.2.2 h6
      unfold stE
      rw [if_neg (by omega), if_pos (by omega), if_pos ha]
      unfold lenE mostN
      rw [if_neg h6, if_neg (by omega)]
  have hsl : slE st slot = 0 := by
    rcases hst with ⟨rfl, rfl⟩ | ⟨_, rfl, h1, h2⟩
    · unfold slE stF
      rw [if_neg (by split <;> omega)]
      simp
    · have : frB slot = true := by simp [frB]; omega
      simp [slE, this]
  unfold chkE
  rw [if_neg (by omega), if_neg (by simp [hcmd]), if_neg (by simp [hste]), if_neg (by simp [hfr])]
  exact hsl
end Go.Proofs.Ytbcfnocefjolfaa
