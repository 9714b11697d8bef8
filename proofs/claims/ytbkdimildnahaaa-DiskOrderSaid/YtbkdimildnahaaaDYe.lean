/- The disk in plain Lean: completions in any order. No function of the program is walked here. -/
import Derived.Test.YtbkdimildnahaaaDYb
namespace Go.Proofs.Ytbkdimildnahaaa
open Go.RowKit
set_option linter.unusedVariables false
set_option linter.unusedSimpArgs false

/-- What a job brings when it completes. -/
def rs (cs : List Ct) (x : Jb) : Jb := if x.wr = true then x else ⟨false, x.slot, x.frame, cs[x.slot.toNat]?.getD Ct.zero⟩
def rsl (d : Dk) : List Jb := d.js.map (rs d.cs)
theorem rsl_len (d : Dk) : (rsl d).length = d.js.length := by simp [rsl]
theorem slot_in {d : Dk} (h : OkD d) {k : Nat} {x : Jb} (hx : d.js[k]? = some x) : 0 ≤ x.slot ∧ x.slot < d.cs.length := by
  have := h.inr k x hx
  simp [inR] at this
  omega
/-- Two jobs have two slots. -/
theorem slot_ne {d : Dk} (h : OkD d) {i k : Nat} {x y : Jb} (hx : d.js[k]? = some x) (hy : d.js[i]? = some y) (hne : i ≠ k) : y.slot ≠ x.slot := by
  intro he
  have key : ∀ {i k : Nat} {x y : Jb}, d.js[k]? = some x → d.js[i]? = some y → i < k → y.slot ≠ x.slot := by
    intro i k x y hx hy hlt he
    have h1 := h.apart k x hx
    unfold clash at h1
    rw [List.any_eq_false] at h1
    have hm : y ∈ d.js.take k := by
      refine List.mem_of_getElem? (i := i) ?_
      rw [List.getElem?_take]
      simp [hlt, hy]
    have h2 := h1 y hm
    simp [hits, he] at h2
  rcases Nat.lt_or_gt_of_ne hne with hl | hl
  · exact key hx hy hl he
  · exact key hy hx hl he.symm
theorem com_rs {d : Dk} {k : Nat} {x : Jb} (hx : d.js[k]? = some x) : (com d k).2 = rs d.cs x := by
  rw [com_at hx]
  unfold rs
  split <;> rfl
theorem com_cs {d : Dk} {k : Nat} {x : Jb} (hx : d.js[k]? = some x) : (com d k).1.cs = if x.wr = true then d.cs.set x.slot.toNat x.data else d.cs := by
  rw [com_at hx]
  split <;> rfl
theorem com_cs_other {d : Dk} (h : OkD d) {k : Nat} {x : Jb} (hx : d.js[k]? = some x) {s : Int} (hs : 0 ≤ s) (hne : s ≠ x.slot) : (com d k).1.cs[s.toNat]? = d.cs[s.toNat]? := by
  rw [com_cs hx]
  have := (slot_in h hx).1
  split
  · rw [List.getElem?_set_ne (by omega)]
  · rfl
theorem rsl_com {d : Dk} (h : OkD d) {k : Nat} (hk : k < d.js.length) : rsl (com d k).1 = (rsl d).eraseIdx k := by
  obtain ⟨x, hx⟩ : ∃ x, d.js[k]? = some x := ⟨_, List.getElem?_eq_getElem hk⟩
  unfold rsl
  rw [com_js d k hk]
  apply List.ext_getElem?
  intro i
  simp only [List.getElem?_eraseIdx, List.getElem?_map]
  have go : ∀ j, j ≠ k → Option.map (rs (com d k).1.cs) d.js[j]? = Option.map (rs d.cs) d.js[j]? := by
    intro j hj
    cases hy : d.js[j]? with
    | none => rfl
    | some y =>
      simp only [Option.map_some]
      congr 1
      unfold rs
      rw [com_cs_other h hx (slot_in h hy).1 (slot_ne h hx hy hj)]
  split
  · exact go i (by omega)
  · exact go (i + 1) (by omega)
theorem erase_perm {α : Type} {l : List α} {k : Nat} {x : α} (hx : l[k]? = some x) : (x :: l.eraseIdx k).Perm l := by
  induction l generalizing k with
  | nil => cases hx
  | cons a l ih =>
    cases k with
    | zero => simp at hx; subst hx; exact List.Perm.refl _
    | succ k =>
      simp at hx
      exact (List.Perm.swap a x _).trans ((ih hx).cons a)
/-- One round: the jobs that came out and those to come are the same. -/
theorem perm_com {d : Dk} (h : OkD d) {k : Nat} (hk : k < d.js.length) {out l : List Jb} (hp : (out ++ rsl d).Perm l) : (out ++ [(com d k).2] ++ rsl (com d k).1).Perm l := by
  obtain ⟨x, hx⟩ : ∃ x, d.js[k]? = some x := ⟨_, List.getElem?_eq_getElem hk⟩
  rw [rsl_com h hk, com_rs hx, List.append_assoc]
  refine List.Perm.trans ?_ hp
  refine List.Perm.append_left _ ?_
  have h2 : (rsl d)[k]? = some (rs d.cs x) := by simp [rsl, hx]
  exact erase_perm h2
theorem cs_at {d : Dk} {s : Int} (h : d.js = []) : ltc d s = d.cs[s.toNat]?.getD Ct.zero := by
  unfold ltc
  rw [h]
  rfl
/-- The content that a slot has later. -/
theorem ltc_of {d : Dk} (h : OkD d) {s : Int} (hs : 0 ≤ s) {k : Nat} {x : Jb} (hx : d.js[k]? = some x) (he : x.slot = s) : ltc d s = if x.wr = true then x.data else d.cs[s.toNat]?.getD Ct.zero := by
  unfold ltc
  cases hf : fdJ d.js s with
  | none => exact absurd he (fd_no hf x (List.mem_of_getElem? hx))
  | some i =>
    obtain ⟨y, hy, hys⟩ := fd_at hf
    have hik : i = k := Classical.byContradiction fun hne => slot_ne h hx hy hne (by rw [hys, he])
    subst hik
    simp only [hx]
theorem ltc_no {d : Dk} {s : Int} (hn : ∀ x ∈ d.js, x.slot ≠ s) : ltc d s = d.cs[s.toNat]?.getD Ct.zero := by
  unfold ltc
  rw [fd_none' hn]
theorem ltc_com {d : Dk} (h : OkD d) {k : Nat} (hk : k < d.js.length) {s : Int} (hs : 0 ≤ s) : ltc (com d k).1 s = ltc d s := by
  obtain ⟨x, hx⟩ : ∃ x, d.js[k]? = some x := ⟨_, List.getElem?_eq_getElem hk⟩
  have hjs := com_js d k hk
  have hok := com_ok h hk
  have hat : ∀ (i : Nat) (y : Jb), (d.js.eraseIdx k)[i]? = some y → ∃ j, j ≠ k ∧ d.js[j]? = some y := by
    intro i y hy
    rw [List.getElem?_eraseIdx] at hy
    split at hy
    · exact ⟨i, by omega, hy⟩
    · exact ⟨i + 1, by omega, hy⟩
  by_cases he : x.slot = s
  · have hn : ∀ y ∈ (com d k).1.js, y.slot ≠ s := by
      rw [hjs]
      intro y hy
      obtain ⟨i, hi⟩ := List.getElem?_of_mem hy
      obtain ⟨j, hj, hyj⟩ := hat i y hi
      rw [← he]
      exact slot_ne h hx hyj hj
    rw [ltc_no hn, ltc_of h hs hx he, com_cs hx]
    have h2 := slot_in h hx
    split
    · rw [he, List.getElem?_set_self (by omega)]
      rfl
    · rfl
  · by_cases hy : ∃ (j : Nat) (y : Jb), d.js[j]? = some y ∧ y.slot = s
    · obtain ⟨j, y, hyj, hys⟩ := hy
      have hjk : j ≠ k := fun e => by subst e; rw [hx] at hyj; injection hyj with e; subst e; exact he hys
      have hin : ∃ i : Nat, (com d k).1.js[i]? = some y := by
        rw [hjs]
        by_cases hl : j < k
        · exact ⟨j, by rw [List.getElem?_eraseIdx, if_pos hl]; exact hyj⟩
        · exact ⟨j - 1, by rw [List.getElem?_eraseIdx, if_neg (by omega), show j - 1 + 1 = j by omega]; exact hyj⟩
      obtain ⟨i, hi⟩ := hin
      rw [ltc_of hok hs hi hys, ltc_of h hs hyj hys, com_cs_other h hx hs (fun e => he e.symm)]
    · have hn : ∀ y ∈ d.js, y.slot ≠ s := by
        intro y hm e
        obtain ⟨j, hj⟩ := List.getElem?_of_mem hm
        exact hy ⟨j, y, hj, e⟩
      have hn2 : ∀ y ∈ (com d k).1.js, y.slot ≠ s := by
        rw [hjs]
        intro y hm
        exact hn y ((List.eraseIdx_sublist _ _).subset hm)
      rw [ltc_no hn, ltc_no hn2, com_cs_other h hx hs (fun e => he e.symm)]
/-- All jobs complete, the first one first. -/
theorem all_rs : ∀ (n : Nat) (d : Dk) (l : List Jb), OkD d → d.js.length = n → OkD (allJ n d l).1 ∧ (allJ n d l).1.js = [] ∧ (allJ n d l).1.cs.length = d.cs.length ∧ (allJ n d l).1.room = d.room ∧ (allJ n d l).2 = l ++ rsl d ∧ ∀ s : Int, 0 ≤ s → ltc (allJ n d l).1 s = ltc d s
  | 0, d, l, h, hn => by
    have hj : d.js = [] := List.eq_nil_of_length_eq_zero hn
    exact ⟨h, hj, rfl, rfl, by simp [allJ, rsl, hj], fun _ _ => rfl⟩
  | n + 1, d, l, h, hn => by
    have hk : 0 < d.js.length := by omega
    have e1 : allJ (n + 1) d l = allJ n (com d 0).1 (l ++ [(com d 0).2]) := by
      cases hj : d.js with
      | nil => rw [hj] at hk; cases hk
      | cons a t => simp only [allJ, hj]
    have hl2 : (com d 0).1.js.length = n := by rw [com_js d 0 hk, List.length_eraseIdx_of_lt hk]; omega
    obtain ⟨a1, a2, a3, a4, a5, a6⟩ := all_rs n (com d 0).1 (l ++ [(com d 0).2]) (com_ok h hk) hl2
    rw [e1]
    refine ⟨a1, a2, by rw [a3, com_len], by rw [a4, com_room], ?_, fun s hs => by rw [a6 s hs, ltc_com h hk hs]⟩
    rw [a5, rsl_com h hk, List.append_assoc]
    congr 1
    obtain ⟨x, hx⟩ : ∃ x, d.js[0]? = some x := ⟨_, List.getElem?_eq_getElem hk⟩
    rw [com_rs hx]
    cases hj : d.js with
    | nil => rw [hj] at hk; cases hk
    | cons a t =>
      rw [hj] at hx
      simp at hx
      subst hx
      simp [rsl, hj]
theorem all86 {d : Dk} (h : D86 d) : (all d).2.2 = 0 ∧ (all d).1.js = [] ∧ (all d).1.cs.length = 8 ∧ (all d).1.room = d.room ∧ (all d).2.1 = rsl d ∧ (∀ s : Int, 0 ≤ s → ltc (all d).1 s = ltc d s) ∧ OkD (all d).1 := by
  obtain ⟨a1, a2, a3, a4, a5, a6⟩ := all_rs d.js.length d [] h.ok rfl
  have e : all d = ((allJ d.js.length d []).1, (allJ d.js.length d []).2, 0) := by
    unfold all
    rw [if_pos (by rw [chk_of h.ok])]
  rw [e]
  exact ⟨rfl, a2, by rw [a3]; exact h.n, a4, by simpa using a5, a6, a1⟩
/-- The contents after All are those that Later tells. -/
theorem all_at {d : Dk} (h : D86 d) {k : Nat} (hk : k < 8) : (lat d (k : Int)).2 = 0 ∧ (all d).1.cs[k]? = some (lat d (k : Int)).1 := by
  obtain ⟨-, b2, b3, -, -, b6, -⟩ := all86 h
  have hl := lat_eq h.ok (s := (k : Int)) (inS8 h.n (by omega) (by omega))
  rw [hl]
  refine ⟨rfl, ?_⟩
  have h1 := b6 (k : Int) (by omega)
  rw [cs_at b2] at h1
  have hk2 : k < (all d).1.cs.length := by omega
  rw [Int.toNat_natCast, List.getElem?_eq_getElem hk2] at h1
  rw [List.getElem?_eq_getElem hk2]
  exact congrArg some h1
theorem D86.com {d : Dk} (h : D86 d) {k : Nat} (hk : k < d.js.length) : D86 (com d k).1 := by
  have hc := cmp_ok h.ok hk
  have := D86.cmp (i := (k : Int)) h (by rw [hc])
  rw [hc] at this
  exact this
/-- One round of DiskOrder. -/
theorem ord_cmp {g d : Dk} (h : D86 g) {n : Int} (hp : 0 < g.js.length) (hl : ∀ s : Int, 0 ≤ s → ltc g s = ltc d s) {out l : List Jb} (hpm : (out ++ rsl g).Perm l) :
    (cmp g (n % (g.js.length : Int))).2.2 = 0 ∧ D86 (cmp g (n % (g.js.length : Int))).1 ∧ (cmp g (n % (g.js.length : Int))).1.js.length + 1 = g.js.length ∧ (∀ s : Int, 0 ≤ s → ltc (cmp g (n % (g.js.length : Int))).1 s = ltc d s) ∧ (out ++ [(cmp g (n % (g.js.length : Int))).2.1] ++ rsl (cmp g (n % (g.js.length : Int))).1).Perm l := by
  have h0 : 0 ≤ n % (g.js.length : Int) := Int.emod_nonneg _ (by omega)
  have h1 : n % (g.js.length : Int) < (g.js.length : Int) := Int.emod_lt_of_pos _ (by omega)
  obtain ⟨k, hk⟩ := Int.eq_ofNat_of_zero_le h0
  rw [hk] at h1 ⊢
  have hk2 : k < g.js.length := by omega
  rw [cmp_ok h.ok hk2]
  exact ⟨rfl, h.com hk2, by rw [com_js g k hk2, List.length_eraseIdx_of_lt hk2]; omega, fun s hs => by rw [ltc_com h.ok hk2 hs, hl s hs], perm_com h.ok hk2 hpm⟩
theorem ord_lat {x d : Dk} (h : D86 x) {k : Nat} (hk : k < 8) (hl : ∀ s : Int, 0 ≤ s → ltc x s = ltc d s) {ls : List Ct} (hi : ls[k]? = some (ltc d (k : Int))) : (lat x (k : Int)).2 = 0 ∧ ls[k]? = some (lat x (k : Int)).1 := by
  rw [lat_eq h.ok (inS8 h.n (by omega) (by omega))]
  exact ⟨rfl, by rw [hi, hl (k : Int) (by omega)]⟩
theorem same_end {d e : Dk} (hd : d.js = []) (he : e.js = []) (hr : d.room = e.room) (hl : d.cs.length = e.cs.length) (h : ∀ s : Int, 0 ≤ s → ltc d s = ltc e s) : d = e := by
  obtain ⟨c1, j1, r1⟩ := d
  obtain ⟨c2, j2, r2⟩ := e
  simp at hd he hr hl
  subst hd he hr
  congr 1
  apply List.ext_getElem hl
  intro i h1 h2
  have := h (i : Int) (by omega)
  rw [cs_at rfl, cs_at rfl] at this
  simpa [h1, h2] using this
end Go.Proofs.Ytbkdimildnahaaa
