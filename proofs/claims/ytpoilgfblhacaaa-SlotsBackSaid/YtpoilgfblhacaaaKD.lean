/- Slots of the disk in plain Lean: what is checked, free, given out, counted; how they lie in memory. No function of the program is walked here. -/
import Derived.Test.YtpoilgfblhacaaaKL
namespace Go.Proofs.Ytpoilgfblhacaaa
open Go.RowKit
set_option linter.unusedVariables false
set_option linter.unusedSimpArgs false

structure Ss where
  rs : List Int
  bs : List Bool
deriving DecidableEq
def Ss.nil : Ss := ⟨[], []⟩
/-- The first reference count that is not proper, from k on. -/
def ckS (rs : List Int) (k : Nat) : Nat → Int × Int
  | 0 => (0, 0)
  | m + 1 => if rs[k]?.getD 0 < 0 ∨ 512 < rs[k]?.getD 0 then (15, (k : Int)) else ckS rs (k + 1) m
def chs (s : Ss) : Int × Int := if s.rs.length < 1 ∨ 256 < s.rs.length then (2, 0) else if s.bs.length ≠ s.rs.length then (3, 0) else ckS s.rs 0 s.rs.length
theorem ckS_step {rs : List Int} {k : Nat} {r : Int} (hx : rs[k]? = some r) (hk : k < rs.length) : ckS rs k (rs.length - k) = if r < 0 ∨ 512 < r then (15, (k : Int)) else ckS rs (k + 1) (rs.length - (k + 1)) := by
  rw [show rs.length - k = rs.length - (k + 1) + 1 by omega]
  show (if rs[k]?.getD 0 < 0 ∨ 512 < rs[k]?.getD 0 then _ else _) = _
  rw [hx]; rfl
theorem ckS_ok {rs : List Int} : ∀ m k, (ckS rs k m).1 = 0 → ckS rs k m = (0, 0) ∧ ∀ (i : Nat) (r : Int), k ≤ i → i < k + m → rs[i]? = some r → 0 ≤ r ∧ r ≤ 512
  | 0, k, h => ⟨rfl, fun i r h1 h2 => by omega⟩
  | m + 1, k, h => by
    unfold ckS at h ⊢
    by_cases hc : rs[k]?.getD 0 < 0 ∨ 512 < rs[k]?.getD 0
    · rw [if_pos hc] at h; simp at h
    · rw [if_neg hc] at h ⊢
      obtain ⟨h1, h2⟩ := ckS_ok m (k + 1) h
      refine ⟨h1, fun i r hi hj hr => ?_⟩
      by_cases hik : i = k
      · subst hik
        rw [hr] at hc
        simp at hc
        omega
      · exact h2 i r (by omega) (by omega) hr
theorem ckS_mk {rs : List Int} (h : ∀ (i : Nat) (r : Int), rs[i]? = some r → 0 ≤ r ∧ r ≤ 512) : ∀ m k, ckS rs k m = (0, 0)
  | 0, k => rfl
  | m + 1, k => by
    unfold ckS
    have : 0 ≤ rs[k]?.getD 0 ∧ rs[k]?.getD 0 ≤ 512 := by
      cases hr : rs[k]? with
      | none => simp
      | some r => simpa using h k r hr
    rw [if_neg (by omega)]
    exact ckS_mk h m (k + 1)
/-- Valid slots. -/
structure OkS (s : Ss) : Prop where
  lo : 1 ≤ s.rs.length
  hi : s.rs.length ≤ 256
  len : s.bs.length = s.rs.length
  val : ∀ (i : Nat) (r : Int), s.rs[i]? = some r → 0 ≤ r ∧ r ≤ 512
theorem chs_ok {s : Ss} (h : (chs s).1 = 0) : chs s = (0, 0) ∧ OkS s := by
  unfold chs at h ⊢
  by_cases h1 : s.rs.length < 1 ∨ 256 < s.rs.length
  · rw [if_pos h1] at h; simp at h
  · rw [if_neg h1] at h ⊢
    by_cases h2 : s.bs.length ≠ s.rs.length
    · rw [if_pos h2] at h; simp at h
    · rw [if_neg h2] at h ⊢
      obtain ⟨h3, h4⟩ := ckS_ok _ _ h
      exact ⟨h3, by omega, by omega, by omega, fun i r hr => h4 i r (by omega) (by have := (List.getElem?_eq_some_iff.1 hr).1; omega) hr⟩
theorem chs_mk {s : Ss} (h : OkS s) : chs s = (0, 0) := by
  have h1 := h.lo
  have h2 := h.hi
  have h3 := h.len
  unfold chs
  rw [if_neg (by omega), if_neg (by omega)]
  exact ckS_mk h.val _ _

/-- Is a slot free? -/
def fre (s : Ss) (k : Nat) : Bool := decide (s.rs[k]?.getD 0 = 0) && !(s.bs[k]?.getD false)
def frf (s : Ss) (k : Nat) : Nat → Int
  | 0 => -1
  | m + 1 => if fre s k = true then (k : Int) else frf s (k + 1) m
/-- The least free slot, or -1. -/
def fr (s : Ss) : Int := frf s 0 s.rs.length
theorem frf_at {s : Ss} : ∀ m k j, k ≤ j → j < k + m → fre s j = true → (∀ i, k ≤ i → i < j → fre s i = false) → frf s k m = (j : Int)
  | 0, k, j, h1, h2, _, _ => by omega
  | m + 1, k, j, h1, h2, h3, h4 => by
    unfold frf
    by_cases hk : k = j
    · subst hk; rw [if_pos h3]
    · rw [if_neg (by rw [h4 k (by omega) (by omega)]; decide)]
      exact frf_at m (k + 1) j (by omega) (by omega) h3 (fun i h5 h6 => h4 i (by omega) h6)
theorem frf_no {s : Ss} : ∀ m k, (∀ i, k ≤ i → i < k + m → fre s i = false) → frf s k m = -1
  | 0, k, _ => rfl
  | m + 1, k, h => by
    unfold frf
    rw [if_neg (by rw [h k (by omega) (by omega)]; decide)]
    exact frf_no m (k + 1) (fun i h1 h2 => h i (by omega) (by omega))
theorem fr_at {s : Ss} {j : Nat} (h1 : j < s.rs.length) (h2 : fre s j = true) (h3 : ∀ i, i < j → fre s i = false) : fr s = (j : Int) :=
  frf_at _ _ _ (by omega) (by omega) h2 (fun i _ h => h3 i h)
theorem fr_no {s : Ss} (h : ∀ i : Nat, i < s.rs.length → fre s i = false) : fr s = -1 := frf_no _ _ (fun i _ h1 => h i (by omega))
theorem fr_cases (s : Ss) : (fr s = -1 ∧ ∀ i : Nat, i < s.rs.length → fre s i = false) ∨ ∃ j : Nat, fr s = (j : Int) ∧ j < s.rs.length ∧ fre s j = true ∧ ∀ i : Nat, i < j → fre s i = false := by
  by_cases h : ∀ i, i < s.rs.length → fre s i = false
  · exact .inl ⟨fr_no h, h⟩
  · right
    have hex : ∃ i : Nat, i < s.rs.length ∧ fre s i = true := by
      refine Classical.byContradiction fun hn => h fun i hi => ?_
      cases hb : fre s i
      · rfl
      · exact absurd ⟨i, hi, hb⟩ hn
    have hmin : ∀ n i, i ≤ n → i < s.rs.length → fre s i = true → ∃ j, j < s.rs.length ∧ fre s j = true ∧ ∀ i : Nat, i < j → fre s i = false := by
      intro n
      induction n with
      | zero => intro i h1 h2 h3; exact ⟨i, h2, h3, fun q hq => by omega⟩
      | succ n ih =>
        intro i h1 h2 h3
        by_cases hall : ∀ q, q < i → fre s q = false
        · exact ⟨i, h2, h3, hall⟩
        · have : ∃ q, q < i ∧ fre s q = true := by
            refine Classical.byContradiction fun hn => hall fun q hq => ?_
            cases hb : fre s q
            · rfl
            · exact absurd ⟨q, hq, hb⟩ hn
          obtain ⟨q, hq, hb⟩ := this
          exact ih q (by omega) (by omega) hb
    obtain ⟨i, hi, hb⟩ := hex
    obtain ⟨j, h1, h2, h3⟩ := hmin i i (Nat.le_refl _) hi hb
    exact ⟨j, fr_at h1 h2 h3, h1, h2, h3⟩
/-- One slot changed. -/
def wth (s : Ss) (k : Nat) (r : Int) (b : Bool) : Ss := ⟨s.rs.set k r, s.bs.set k b⟩
def rat (s : Ss) (k : Nat) : Int := s.rs[k]?.getD 0
def bat (s : Ss) (k : Nat) : Bool := s.bs[k]?.getD false
theorem fre_eq (s : Ss) (k : Nat) : fre s k = (decide (rat s k = 0) && !bat s k) := rfl
theorem OkS.with {s : Ss} (h : OkS s) {k : Nat} {r : Int} {b : Bool} (h1 : 0 ≤ r) (h2 : r ≤ 512) : OkS (wth s k r b) := by
  refine ⟨by simpa [wth] using h.lo, by simpa [wth] using h.hi, by simpa [wth] using h.len, fun i q hq => ?_⟩
  simp only [wth, List.getElem?_set] at hq
  split at hq
  · split at hq
    · injection hq with hq; omega
    · cases hq
  · exact h.val i q hq
theorem OkS.rat {s : Ss} (h : OkS s) (k : Nat) : 0 ≤ rat s k ∧ rat s k ≤ 512 := by
  unfold Go.Proofs.Ytpoilgfblhacaaa.rat
  cases hr : s.rs[k]? with
  | none => simp
  | some r => simpa using h.val k r hr
def ask (s : Ss) (k : Int) : Int := if (chs s).1 ≠ 0 then (chs s).1 else if k < 0 ∨ (s.rs.length : Int) ≤ k then 2 else 0
def frst (s : Ss) : Int × Int := if (chs s).1 ≠ 0 then (0, (chs s).1) else if fr s < 0 then (0, 5) else (fr s, 0)
def alc (s : Ss) (r : Int) : Ss × Int × Int := if (chs s).1 ≠ 0 then (.nil, 0, (chs s).1) else if r < 1 ∨ 512 < r then (.nil, 0, 15) else if fr s < 0 then (.nil, 0, 5) else (wth s (fr s).toNat r true, fr s, 0)
def rff (s : Ss) (k : Int) : Ss × Int := if ask s k ≠ 0 then (.nil, ask s k) else if fre s k.toNat = true then (.nil, 9) else if 512 ≤ rat s k.toNat then (.nil, 15) else (wth s k.toNat (rat s k.toNat + 1) (bat s k.toNat), 0)
def unr (s : Ss) (k : Int) : Ss × Bool × Int := if ask s k ≠ 0 then (.nil, false, ask s k) else if rat s k.toNat = 0 then (.nil, false, 15) else (wth s k.toNat (rat s k.toNat - 1) (bat s k.toNat), fre (wth s k.toNat (rat s k.toNat - 1) (bat s k.toNat)) k.toNat, 0)
def sta (s : Ss) (k : Int) : Ss × Int := if ask s k ≠ 0 then (.nil, ask s k) else if bat s k.toNat = true then (.nil, 10) else if rat s k.toNat = 0 then (.nil, 9) else (wth s k.toNat (rat s k.toNat) true, 0)
def stl (s : Ss) (k : Int) : Ss × Bool × Int := if ask s k ≠ 0 then (.nil, false, ask s k) else if bat s k.toNat = false then (.nil, false, 9) else (wth s k.toNat (rat s k.toNat) false, fre (wth s k.toNat (rat s k.toNat) false) k.toNat, 0)
def nws (n : Int) : Ss × Int := if n < 1 ∨ 256 < n then (.nil, 2) else (⟨List.replicate n.toNat 0, List.replicate n.toNat false⟩, 0)
/-- How many are free among the first k, and the sum of their references. -/
def cfr (s : Ss) : Nat → Nat
  | 0 => 0
  | k + 1 => cfr s k + bif fre s k then 1 else 0
def sumr (rs : List Int) : Nat → Int
  | 0 => 0
  | k + 1 => sumr rs k + rs[k]?.getD 0
/-- The set of busy slots. -/
def opm (bs : List Bool) : Nat → Bool := fun i => bs[i]?.getD false
def cnt (s : Ss) : Int × Int × Int × Int := if (chs s).1 ≠ 0 then (0, 0, 0, (chs s).1) else ((cfr s s.rs.length : Nat), (cntS (opm s.bs) 0 s.rs.length : Nat), sumr s.rs s.rs.length, 0)
theorem cfr_le (s : Ss) : ∀ k, cfr s k ≤ k
  | 0 => Nat.le_refl _
  | k + 1 => by
    have := cfr_le s k
    unfold cfr
    cases fre s k <;> simp <;> omega
theorem sumr_bd {rs : List Int} (h : ∀ (i : Nat) (r : Int), rs[i]? = some r → 0 ≤ r ∧ r ≤ 512) : ∀ k : Nat, 0 ≤ sumr rs k ∧ sumr rs k ≤ 512 * (k : Int)
  | 0 => by simp [sumr]
  | k + 1 => by
    have := sumr_bd h k
    unfold sumr
    have : 0 ≤ rs[k]?.getD 0 ∧ rs[k]?.getD 0 ≤ 512 := by
      cases hr : rs[k]? with
      | none => simp
      | some r => simpa using h k r hr
    omega

/-! The book. -/
def opf (rs : List Int) : Int → Option Int := fun q => if 0 ≤ q ∧ rs[q.toNat]?.getD 0 ≠ 0 then some (rs[q.toNat]?.getD 0) else none
theorem opf_at (rs : List Int) (k : Nat) : (opf rs (k : Int)).getD 0 = rs[k]?.getD 0 := by
  unfold opf
  by_cases h : rs[k]?.getD 0 = 0
  · simp [h]
  · simp [h]
theorem opf_is (rs : List Int) (k : Nat) : (opf rs (k : Int)).isSome = !decide (rs[k]?.getD 0 = 0) := by
  unfold opf
  by_cases h : rs[k]?.getD 0 = 0
  · simp [h]
  · simp [h]
theorem opf_set {rs : List Int} {k : Nat} {v : Int} (hk : k < rs.length) (hv : v ≠ 0) (x : Int) : (if x = (k : Int) then some v else opf rs x) = opf (rs.set k v) x := by
  unfold opf
  by_cases hx : x = (k : Int)
  · subst hx; simp [hk, hv]
  · by_cases h0 : 0 ≤ x
    · have : ¬ k = x.toNat := by omega
      simp [hx, h0, List.getElem?_set, this]
    · simp [hx, h0]
theorem opf_del {rs : List Int} {k : Nat} (hk : k < rs.length) (x : Int) : (if x = (k : Int) then none else opf rs x) = opf (rs.set k 0) x := by
  unfold opf
  by_cases hx : x = (k : Int)
  · subst hx; simp [hk]
  · by_cases h0 : 0 ≤ x
    · have : ¬ k = x.toNat := by omega
      simp [hx, h0, List.getElem?_set, this]
    · simp [hx, h0]
theorem opf_nil (x : Int) : none = opf [] x := by simp [opf]
theorem getD_take {α : Type} (l : List α) (d : α) (k i : Nat) : (l.take k)[i]?.getD d = if i < k then l[i]?.getD d else d := by
  rw [List.getElem?_take]
  split <;> rfl
theorem opf_take {rs : List Int} {k : Nat} {r : Int} (hx : rs[k]? = some r) (x : Int) : opf (rs.take (k + 1)) x = if r = 0 then opf (rs.take k) x else if x = (k : Int) then some r else opf (rs.take k) x := by
  unfold opf
  rw [getD_take, getD_take]
  by_cases h0 : 0 ≤ x
  · by_cases hxk : x = (k : Int)
    · subst hxk
      simp [hx]
    · by_cases hlt : x.toNat < k
      · simp [hlt, hxk, show x.toNat < k + 1 by omega]
      · simp [hlt, hxk, show ¬ x.toNat < k + 1 by omega]
  · have : ¬ x = (k : Int) := by omega
    simp [h0, this]
theorem opm_take {bs : List Bool} {k : Nat} {b : Bool} (hx : bs[k]? = some b) : opm (bs.take (k + 1)) = if b = true then upS (opm (bs.take k)) k true else opm (bs.take k) := by
  cases b
  · rw [if_neg (by decide)]
    funext i
    show (bs.take (k + 1))[i]?.getD false = (bs.take k)[i]?.getD false
    rw [getD_take, getD_take]
    by_cases hi : i = k
    · subst hi; simp [hx]
    · by_cases hlt : i < k
      · simp [hlt, show i < k + 1 by omega]
      · simp [hlt, show ¬ i < k + 1 by omega]
  · rw [if_pos rfl]
    funext i
    show (bs.take (k + 1))[i]?.getD false = if i = k then true else (bs.take k)[i]?.getD false
    rw [getD_take, getD_take]
    by_cases hi : i = k
    · subst hi; simp [hx]
    · by_cases hlt : i < k
      · simp [hi, hlt, show i < k + 1 by omega]
      · simp [hi, hlt, show ¬ i < k + 1 by omega]
theorem opm_set {bs : List Bool} {k : Nat} (b : Bool) (hk : k < bs.length) : upS (opm bs) k b = opm (bs.set k b) := by
  funext i
  show (if i = k then b else bs[i]?.getD false) = (bs.set k b)[i]?.getD false
  rw [List.getElem?_set]
  by_cases hi : i = k
  · subst hi; simp [hk]
  · rw [if_neg hi, if_neg (fun e => hi e.symm)]
theorem opm_nil : opm [] = fun _ => false := by funext i; simp [opm]
/-- The used slots among the first k. -/
def usS (s : Ss) (k : Nat) : Nat → Bool := fun i => decide (i < k) && !fre s i
theorem usS_zero (s : Ss) : usS s 0 = fun _ => false := by funext i; simp [usS]
theorem usS_succ (s : Ss) (k : Nat) : upS (usS s k) k (!fre s k) = usS s (k + 1) := by
  funext i
  show (if i = k then !fre s k else decide (i < k) && !fre s i) = (decide (i < k + 1) && !fre s i)
  by_cases hi : i = k
  · subst hi; simp
  · by_cases hlt : i < k
    · simp [hi, hlt, show i < k + 1 by omega]
    · simp [hi, hlt, show ¬ i < k + 1 by omega]
/-- A word of a set. -/
def mw (S : Nat → Bool) (j : Nat) : Value := .int .u64 ((wdn S (64 * j) 64 : Nat) : Int)
def mrow (S : Nat → Bool) : Array Value := #[mw S 0, mw S 1, mw S 2, mw S 3]
def bkr (n M : Nat) (S : Nat → Bool) : Array Value := #[.int .i64 (n : Int), .map (some M), mw S 0, mw S 1, mw S 2, mw S 3]
theorem mw_other {S : Nat → Bool} {k j : Nat} (b : Bool) (h : j ≠ k / 64) : mw (upS S k b) j = mw S j := by
  unfold mw
  rw [wdn_other S (64 * j) 64 k b (by omega)]
theorem mrow_set (S : Nat → Bool) (k : Nat) (b : Bool) (hk : k < 256) : (mrow S).setIfInBounds (0 + k / 64) (mw (upS S k b) (k / 64)) = mrow (upS S k b) := by
  have : k / 64 = 0 ∨ k / 64 = 1 ∨ k / 64 = 2 ∨ k / 64 = 3 := by omega
  unfold mrow
  rcases this with h | h | h | h <;> rw [h] <;> simp [mw_other (S := S) (k := k) b (j := 0), mw_other (S := S) (k := k) b (j := 1), mw_other (S := S) (k := k) b (j := 2), mw_other (S := S) (k := k) b (j := 3), h]
theorem bkr_set (n M : Nat) (S : Nat → Bool) (k : Nat) (b : Bool) (hk : k < 256) : (bkr n M S).setIfInBounds (2 + k / 64) (mw (upS S k b) (k / 64)) = bkr n M (upS S k b) := by
  have : k / 64 = 0 ∨ k / 64 = 1 ∨ k / 64 = 2 ∨ k / 64 = 3 := by omega
  unfold bkr
  rcases this with h | h | h | h <;> rw [h] <;> simp [mw_other (S := S) (k := k) b (j := 0), mw_other (S := S) (k := k) b (j := 1), mw_other (S := S) (k := k) b (j := 2), mw_other (S := S) (k := k) b (j := 3), h]
theorem mrow_at (S : Nat → Bool) (k : Nat) (hk : k < 256) : (mrow S)[0 + k / 64]? = some (mw S (k / 64)) := by
  have : k / 64 = 0 ∨ k / 64 = 1 ∨ k / 64 = 2 ∨ k / 64 = 3 := by omega
  rcases this with h | h | h | h <;> rw [h] <;> rfl
theorem bkr_at (n M : Nat) (S : Nat → Bool) (k : Nat) (hk : k < 256) : (bkr n M S)[2 + k / 64]? = some (mw S (k / 64)) := by
  have : k / 64 = 0 ∨ k / 64 = 1 ∨ k / 64 = 2 ∨ k / 64 = 3 := by omega
  rcases this with h | h | h | h <;> rw [h] <;> rfl
/-- A bit of a word. -/
theorem bit_of (S : Nat → Bool) (k : Nat) : decide (((wdn S (64 * (k / 64)) 64 / 2 ^ (k % 64) &&& 1 : Nat) : Int) = 0) = !S k := by
  have h := wdn_bit S (64 * (k / 64)) 64 (k % 64)
  rw [Nat.testBit, Nat.shiftRight_eq_div_pow, Nat.and_comm] at h
  rw [show 64 * (k / 64) + k % 64 = k by omega, show decide (k % 64 < 64) = true by simp; omega, Bool.true_and] at h
  rw [← h]
  generalize wdn S (64 * (k / 64)) 64 / 2 ^ (k % 64) &&& 1 = m
  by_cases hm : m = 0
  · simp [hm]
  · simp [hm]

/-! How slots lie. -/
structure GS (w : World) (A1 : Option Addr) (c1 : Nat) (A2 : Option Addr) (c2 : Nat) (rs : List Int) (bs : List Bool) : Prop where
  r : GR 1 iva w A1 c1 rs
  b : GR 1 bva w A2 c2 bs
/-- The call returned slots of its own, in K. -/
def RSl (w : World) (s : Ss) (K : Value → Value) (e : Ending) (w' : World) : Prop :=
  ∃ A1 c1 A2 c2, e = .returned (K (.agg #[.slice A1 s.rs.length c1, .slice A2 s.bs.length c2])) ∧ Own w' w.heap.size 3 1 (.slice A1 s.rs.length c1) s.rs.length (flat iva s.rs) ∧ Own w' w.heap.size 4 1 (.slice A2 s.bs.length c2) s.bs.length (flat bva s.bs) ∧ Below w.heap.size w w'
/-- The book of slots. -/
structure Bks (w : World) (B M n : Nat) (rs : List Int) (bs : List Bool) : Prop where
  x : Bx w B 56 (bkr n M (opm bs))
  m : Mp w M (Value.int .i64) (Value.int .i64) (opf rs)
end Go.Proofs.Ytpoilgfblhacaaa
