/- Plain laws of slots: steps keep slots valid, kinds add up, what undoes what. No function of the program is walked here. -/
import Derived.Test.YtpoilgfblhacaaaKI
namespace Go.Proofs.Ytpoilgfblhacaaa
open Go.RowKit
set_option linter.unusedVariables false
set_option linter.unusedSimpArgs false

theorem alc_len (s : Ss) (r : Int) : (alc s r).1.rs.length ≤ s.rs.length ∧ (alc s r).1.bs.length ≤ s.bs.length := by
  unfold alc
  split
  · simp [Ss.nil]
  · split
    · simp [Ss.nil]
    · split
      · simp [Ss.nil]
      · simp [wth]
theorem rff_len (s : Ss) (k : Int) : (rff s k).1.rs.length ≤ s.rs.length ∧ (rff s k).1.bs.length ≤ s.bs.length := by
  unfold rff
  split
  · simp [Ss.nil]
  · split
    · simp [Ss.nil]
    · split
      · simp [Ss.nil]
      · simp [wth]
theorem unr_len (s : Ss) (k : Int) : (unr s k).1.rs.length ≤ s.rs.length ∧ (unr s k).1.bs.length ≤ s.bs.length := by
  unfold unr
  split
  · simp [Ss.nil]
  · split
    · simp [Ss.nil]
    · simp [wth]
theorem sta_len (s : Ss) (k : Int) : (sta s k).1.rs.length ≤ s.rs.length ∧ (sta s k).1.bs.length ≤ s.bs.length := by
  unfold sta
  split
  · simp [Ss.nil]
  · split
    · simp [Ss.nil]
    · split
      · simp [Ss.nil]
      · simp [wth]
theorem stl_len (s : Ss) (k : Int) : (stl s k).1.rs.length ≤ s.rs.length ∧ (stl s k).1.bs.length ≤ s.bs.length := by
  unfold stl
  split
  · simp [Ss.nil]
  · split
    · simp [Ss.nil]
    · simp [wth]
/-- What a number says. -/
def stp (s : Ss) (m : Nat) : Ss × Int × Int :=
  if m % 6 = 0 ∨ m % 6 = 1 then alc s ((1 + m / 100 % 3 : Nat) : Int)
  else if m % 6 = 2 then ((rff s ((m / 6 % s.rs.length : Nat) : Int)).1, -1, (rff s ((m / 6 % s.rs.length : Nat) : Int)).2)
  else if m % 6 = 3 then ((unr s ((m / 6 % s.rs.length : Nat) : Int)).1, -1, (unr s ((m / 6 % s.rs.length : Nat) : Int)).2.2)
  else if m % 6 = 4 then ((sta s ((m / 6 % s.rs.length : Nat) : Int)).1, -1, (sta s ((m / 6 % s.rs.length : Nat) : Int)).2)
  else ((stl s ((m / 6 % s.rs.length : Nat) : Int)).1, -1, (stl s ((m / 6 % s.rs.length : Nat) : Int)).2.2)
theorem wth_at {s : Ss} {k : Nat} {r : Int} {b : Bool} (hk : k < s.rs.length) (hl : s.bs.length = s.rs.length) (i : Nat) : rat (wth s k r b) i = (if i = k then r else rat s i) ∧ bat (wth s k r b) i = (if i = k then b else bat s i) := by
  unfold rat bat wth
  simp only [List.getElem?_set]
  by_cases hi : k = i
  · subst hi
    simp [hk, hl]
  · rw [if_neg hi, if_neg hi, if_neg (fun e => hi e.symm), if_neg (fun e => hi e.symm)]
    exact ⟨rfl, rfl⟩
/-- What a step without an error leaves. -/
structure Stp (s t : Ss) (sl : Int) : Prop where
  ok : OkS t
  len : t.rs.length = s.rs.length
  up : ∀ k, rat t k ≤ rat s k + 1 ∨ rat t k ≤ 3
  slot : sl = -1 ∨ ∃ j : Nat, sl = (j : Int) ∧ j < s.rs.length ∧ fre s j = true ∧ (∀ i : Nat, i < j → fre s i = false) ∧ bat t j = true
theorem Stp.mk' {s : Ss} (h : OkS s) {k : Nat} {r : Int} {b : Bool} {sl : Int} (hk : k < s.rs.length) (h1 : 0 ≤ r) (h2 : r ≤ 512) (h3 : r ≤ rat s k + 1 ∨ r ≤ 3)
    (hs : sl = -1 ∨ ∃ j : Nat, sl = (j : Int) ∧ j < s.rs.length ∧ fre s j = true ∧ (∀ i : Nat, i < j → fre s i = false) ∧ bat (wth s k r b) j = true) : Stp s (wth s k r b) sl :=
  ⟨h.with h1 h2, by simp [wth], fun i => by
    rw [(wth_at hk h.len i).1]
    split
    · rename_i e; subst e; exact h3
    · left; omega, hs⟩
theorem alc_stp {s : Ss} (h : OkS s) {r : Int} (hr : r ≤ 3) (h0 : (alc s r).2.2 = 0) : Stp s (alc s r).1 (alc s r).2.1 := by
  unfold alc at h0 ⊢
  by_cases h1 : (chs s).1 ≠ 0
  · rw [if_pos h1] at h0; exact absurd h0 h1
  · rw [if_neg h1] at h0 ⊢
    by_cases h2 : r < 1 ∨ 512 < r
    · rw [if_pos h2] at h0; cases h0
    · rw [if_neg h2] at h0 ⊢
      by_cases h3 : fr s < 0
      · rw [if_pos h3] at h0; cases h0
      · rw [if_neg h3]
        obtain ⟨j, hj, hjl, hjf, hjm⟩ := fr_pos h3
        rw [hj]
        refine Stp.mk' h hjl (by omega) (by omega) (.inr hr) (.inr ⟨j, rfl, hjl, hjf, hjm, ?_⟩)
        show bat (wth s j r true) j = true
        rw [(wth_at hjl h.len j).2, if_pos rfl]
theorem ask_ok {s : Ss} (h : OkS s) {k : Nat} (hk : k < s.rs.length) : ask s (k : Int) = 0 := ask_mk (by rw [chs_mk h]) (by omega) (by omega)
theorem rff_stp {s : Ss} (h : OkS s) {k : Nat} (hk : k < s.rs.length) (h0 : (rff s (k : Int)).2 = 0) : Stp s (rff s (k : Int)).1 (-1) := by
  have hr := h.rat k
  unfold rff at h0 ⊢
  rw [if_neg (by rw [ask_ok h hk]; decide), Int.toNat_natCast] at h0 ⊢
  split at h0
  · cases h0
  · split at h0
    · cases h0
    · rename_i h1 h2
      rw [if_neg h1, if_neg h2]
      exact Stp.mk' h hk (by omega) (by omega) (.inl (Int.le_refl _)) (.inl rfl)
theorem unr_stp {s : Ss} (h : OkS s) {k : Nat} (hk : k < s.rs.length) (h0 : (unr s (k : Int)).2.2 = 0) : Stp s (unr s (k : Int)).1 (-1) := by
  have hr := h.rat k
  unfold unr at h0 ⊢
  rw [if_neg (by rw [ask_ok h hk]; decide), Int.toNat_natCast] at h0 ⊢
  split at h0
  · cases h0
  · rename_i h1
    rw [if_neg h1]
    exact Stp.mk' h hk (by omega) (by omega) (.inl (by omega)) (.inl rfl)
theorem sta_stp {s : Ss} (h : OkS s) {k : Nat} (hk : k < s.rs.length) (h0 : (sta s (k : Int)).2 = 0) : Stp s (sta s (k : Int)).1 (-1) := by
  have hr := h.rat k
  unfold sta at h0 ⊢
  rw [if_neg (by rw [ask_ok h hk]; decide), Int.toNat_natCast] at h0 ⊢
  split at h0
  · cases h0
  · split at h0
    · cases h0
    · rename_i h1 h2
      rw [if_neg h1, if_neg h2]
      exact Stp.mk' h hk (by omega) (by omega) (.inl (by omega)) (.inl rfl)
theorem stl_stp {s : Ss} (h : OkS s) {k : Nat} (hk : k < s.rs.length) (h0 : (stl s (k : Int)).2.2 = 0) : Stp s (stl s (k : Int)).1 (-1) := by
  have hr := h.rat k
  unfold stl at h0 ⊢
  rw [if_neg (by rw [ask_ok h hk]; decide), Int.toNat_natCast] at h0 ⊢
  split at h0
  · cases h0
  · rename_i h1
    rw [if_neg h1]
    exact Stp.mk' h hk (by omega) (by omega) (.inl (by omega)) (.inl rfl)
theorem stp_ok {s : Ss} (h : OkS s) (m : Nat) (h0 : (stp s m).2.2 = 0) : Stp s (stp s m).1 (stp s m).2.1 := by
  have hk : m / 6 % s.rs.length < s.rs.length := Nat.mod_lt _ h.lo
  unfold stp at h0 ⊢
  split at h0
  · rename_i c
    rw [if_pos c]
    exact alc_stp h (by omega) h0
  · rename_i c
    rw [if_neg c]
    split at h0
    · rename_i c
      rw [if_pos c]
      exact rff_stp h hk h0
    · rename_i c
      rw [if_neg c]
      split at h0
      · rename_i c
        rw [if_pos c]
        exact unr_stp h hk h0
      · rename_i c
        rw [if_neg c]
        split at h0
        · rename_i c
          rw [if_pos c]
          exact sta_stp h hk h0
        · rename_i c
          rw [if_neg c]
          exact stl_stp h hk h0
/-- Referred to, and not busy, among the first k. -/
def usd (s : Ss) : Nat → Nat
  | 0 => 0
  | k + 1 => usd s k + bif decide (0 < rat s k) && !bat s k then 1 else 0
theorem usd_le (s : Ss) : ∀ k, usd s k ≤ k
  | 0 => Nat.le_refl _
  | k + 1 => by
    have := usd_le s k
    unfold usd
    cases decide (0 < rat s k) && !bat s k <;> simp <;> omega
theorem usd_t {s : Ss} {k : Nat} (h : (decide (0 < rat s k) && !bat s k) = true) : usd s k + 1 = usd s (k + 1) := by
  show _ = usd s k + bif decide (0 < rat s k) && !bat s k then 1 else 0
  rw [h]; rfl
theorem usd_f {s : Ss} {k : Nat} (h : (decide (0 < rat s k) && !bat s k) = false) : usd s k = usd s (k + 1) := by
  show _ = usd s k + bif decide (0 < rat s k) && !bat s k then 1 else 0
  rw [h]; rfl
theorem kinds {s : Ss} (h : OkS s) : ∀ k, cfr s k + cntS (opm s.bs) 0 k + usd s k = k
  | 0 => rfl
  | k + 1 => by
    have ih := kinds h k
    have hr := (h.rat k).1
    show cfr s k + (bif fre s k then 1 else 0) + (cntS (opm s.bs) 0 k + bif opm s.bs (0 + k) then 1 else 0) + (usd s k + bif decide (0 < rat s k) && !bat s k then 1 else 0) = k + 1
    rw [Nat.zero_add, fre_eq, show opm s.bs k = bat s k from rfl]
    cases hb : bat s k
    · by_cases h0 : rat s k = 0
      · have : ¬ 0 < rat s k := by omega
        simp [h0]; omega
      · have : 0 < rat s k := by omega
        simp [h0, this]; omega
    · simp; omega
theorem cnt_ok {s : Ss} (h : OkS s) : cnt s = (((cfr s s.rs.length : Nat) : Int), ((cntS (opm s.bs) 0 s.rs.length : Nat) : Int), sumr s.rs s.rs.length, 0) := if_neg (by rw [chs_mk h]; decide)
theorem nws_ok {n : Nat} (h1 : 1 ≤ n) (h2 : n ≤ 256) : (nws (n : Int)).2 = 0 ∧ OkS (nws (n : Int)).1 ∧ (nws (n : Int)).1.rs.length = n ∧ ∀ k, rat (nws (n : Int)).1 k ≤ 3 := by
  have e : nws (n : Int) = (⟨List.replicate n 0, List.replicate n false⟩, 0) := by
    unfold nws
    rw [if_neg (by omega), Int.toNat_natCast]
  rw [e]
  refine ⟨rfl, ⟨by simpa using h1, by simpa using h2, by simp, fun i r hr => ?_⟩, by simp, fun k => ?_⟩
  · simp only [List.getElem?_replicate] at hr
    split at hr
    · injection hr with hr; omega
    · cases hr
  · show (List.replicate n (0 : Int))[k]?.getD 0 ≤ 3
    rw [List.getElem?_replicate]
    split <;> simp
section
variable {s : Ss} {k : Nat}
theorem wth_wth {r r' : Int} {b b' : Bool} : wth (wth s k r b) k r' b' = wth s k r' b' := by simp [wth]
theorem wth_self (hk : k < s.rs.length) (hl : s.bs.length = s.rs.length) : wth s k (rat s k) (bat s k) = s := by
  obtain ⟨rs, bs⟩ := s
  simp only [wth]
  rw [show bs.set k (bat ⟨rs, bs⟩ k) = bs from bset (by simp only at hk hl; omega)]
  congr 1
  refine set_same ?_
  show rs[k]? = some (rs[k]?.getD 0)
  rw [List.getElem?_eq_getElem hk]; rfl
theorem rff_eq (h : OkS s) (hk : k < s.rs.length) (hf : fre s k = false) (hb : rat s k < 512) : rff s (k : Int) = (wth s k (rat s k + 1) (bat s k), 0) := by
  unfold rff
  rw [if_neg (by rw [ask_ok h hk]; decide), Int.toNat_natCast, if_neg (by rw [hf]; decide), if_neg (by omega)]
theorem unr_eq (h : OkS s) (hk : k < s.rs.length) (h0 : rat s k ≠ 0) : unr s (k : Int) = (wth s k (rat s k - 1) (bat s k), fre (wth s k (rat s k - 1) (bat s k)) k, 0) := by
  unfold unr
  rw [if_neg (by rw [ask_ok h hk]; decide), Int.toNat_natCast, if_neg h0]
theorem sta_eq (h : OkS s) (hk : k < s.rs.length) (h0 : rat s k ≠ 0) (hb : bat s k = false) : sta s (k : Int) = (wth s k (rat s k) true, 0) := by
  unfold sta
  rw [if_neg (by rw [ask_ok h hk]; decide), Int.toNat_natCast, if_neg (by rw [hb]; decide), if_neg h0]
theorem stl_eq (h : OkS s) (hk : k < s.rs.length) (hb : bat s k = true) : stl s (k : Int) = (wth s k (rat s k) false, fre (wth s k (rat s k) false) k, 0) := by
  unfold stl
  rw [if_neg (by rw [ask_ok h hk]; decide), Int.toNat_natCast, if_neg (by rw [hb]; decide)]
theorem back0 (h : OkS s) (hk : k < s.rs.length) (hf : fre s k = true) : (rff s (k : Int)).2 = 9 := by
  unfold rff
  rw [if_neg (by rw [ask_ok h hk]; decide), Int.toNat_natCast, if_pos hf]
theorem back1 (h : OkS s) (hk : k < s.rs.length) (hf : fre s k = false) (hb : rat s k < 512) : (rff s (k : Int)).2 = 0 ∧ (unr (rff s (k : Int)).1 (k : Int)).2.2 = 0 ∧ (unr (rff s (k : Int)).1 (k : Int)).1 = s := by
  have hr := h.rat k
  obtain ⟨w1, w2⟩ := wth_at (r := rat s k + 1) (b := bat s k) hk h.len k
  rw [if_pos rfl] at w1 w2
  rw [rff_eq h hk hf hb]
  simp only
  rw [unr_eq (h.with (by omega) (by omega)) (by simpa [wth] using hk) (by rw [w1]; omega), w1, w2, wth_wth, Int.add_sub_cancel, wth_self hk h.len]
  simp
theorem back2 (h : OkS s) (hk : k < s.rs.length) (hf : fre s k = false) (hb : bat s k = false) : (sta s (k : Int)).2 = 0 ∧ (stl (sta s (k : Int)).1 (k : Int)).2.2 = 0 ∧ (stl (sta s (k : Int)).1 (k : Int)).1 = s := by
  have hr := h.rat k
  have h0 : rat s k ≠ 0 := by
    intro e
    rw [fre_eq, hb, e] at hf
    simp at hf
  obtain ⟨w1, w2⟩ := wth_at (r := rat s k) (b := true) hk h.len k
  rw [if_pos rfl] at w1 w2
  rw [sta_eq h hk h0 hb]
  simp only
  rw [stl_eq (h.with (by omega) (by omega)) (by simpa [wth] using hk) w2, w1, wth_wth]
  have := wth_self hk h.len
  rw [hb] at this
  rw [this]
  simp
theorem back3 (h : OkS s) (hk : k < s.rs.length) (hb : bat s k = true) (h1 : rat s k = 1) :
    (unr s (k : Int)).2.2 = 0 ∧ (stl (unr s (k : Int)).1 (k : Int)).2.2 = 0 ∧ (stl s (k : Int)).2.2 = 0 ∧ (unr (stl s (k : Int)).1 (k : Int)).2.2 = 0 ∧ (unr s (k : Int)).2.1 = false ∧ (stl (unr s (k : Int)).1 (k : Int)).2.1 = true ∧ (stl s (k : Int)).2.1 = false ∧ (unr (stl s (k : Int)).1 (k : Int)).2.1 = true ∧ sme (stl (unr s (k : Int)).1 (k : Int)).1 (unr (stl s (k : Int)).1 (k : Int)).1 = true := by
  obtain ⟨w1, w2⟩ := wth_at (r := rat s k - 1) (b := bat s k) hk h.len k
  obtain ⟨u1, u2⟩ := wth_at (r := rat s k) (b := false) hk h.len k
  obtain ⟨v1, v2⟩ := wth_at (r := rat s k - 1) (b := false) hk h.len k
  rw [if_pos rfl] at w1 w2 u1 u2 v1 v2
  rw [unr_eq h hk (by omega), stl_eq h hk hb]
  simp only
  rw [stl_eq (h.with (by omega) (by omega)) (by simpa [wth] using hk) (by rw [w2]; exact hb), unr_eq (h.with (by omega) (by omega)) (by simpa [wth] using hk) (by rw [u1]; omega), w1, u1, u2, wth_wth, wth_wth]
  simp only [fre_eq, w1, w2, u1, u2, v1, v2]
  rw [h1, hb]
  simp [sme_refl]
end
end Go.Proofs.Ytpoilgfblhacaaa
