/- Plain laws of slots: what the functions answer at a slot that there is. No function of the program is walked here. -/
import Derived.Test.YtpoilgfblhacaaaKE
namespace Go.Proofs.Ytpoilgfblhacaaa
open Go.RowKit
set_option linter.unusedVariables false
set_option linter.unusedSimpArgs false

theorem set_same {α : Type} {l : List α} {k : Nat} {y : α} (h : l[k]? = some y) : l.set k y = l := by
  apply List.ext_getElem?
  intro i
  rw [List.getElem?_set]
  by_cases hi : k = i
  · subst hi; rw [if_pos rfl, if_pos (List.getElem?_eq_some_iff.1 h).1, h]
  · rw [if_neg hi]
section
variable {rs : List Int} {bs : List Bool} {k : Nat} {x : Int}
theorem bset (hk : k < bs.length) : bs.set k (bat ⟨rs, bs⟩ k) = bs := by
  refine set_same ?_
  show bs[k]? = some (bs[k]?.getD false)
  rw [List.getElem?_eq_getElem hk]; rfl
theorem rset (hx : rs[k]? = some x) : rat ⟨rs, bs⟩ k = x := by
  show rs[k]?.getD 0 = x
  rw [hx]; rfl
theorem rff_ok (ha : ask ⟨rs, bs⟩ (k : Int) = 0) (hx : rs[k]? = some x) (hk : k < bs.length) : rff ⟨rs, bs⟩ (k : Int) = if fre ⟨rs, bs⟩ k = true then (.nil, 9) else if 512 ≤ x then (.nil, 15) else (⟨rs.set k (x + 1), bs⟩, 0) := by
  unfold rff
  rw [if_neg (by omega), Int.toNat_natCast, rset hx]
  unfold wth
  rw [bset hk]
theorem unr_ok (ha : ask ⟨rs, bs⟩ (k : Int) = 0) (hx : rs[k]? = some x) (hk : k < bs.length) : unr ⟨rs, bs⟩ (k : Int) = if x = 0 then (.nil, false, 15) else (⟨rs.set k (x - 1), bs⟩, fre ⟨rs.set k (x - 1), bs⟩ k, 0) := by
  unfold unr
  rw [if_neg (by omega), Int.toNat_natCast, rset hx]
  unfold wth
  rw [bset hk]
theorem sta_ok (ha : ask ⟨rs, bs⟩ (k : Int) = 0) (hx : rs[k]? = some x) : sta ⟨rs, bs⟩ (k : Int) = if opm bs k = true then (.nil, 10) else if x = 0 then (.nil, 9) else (⟨rs, bs.set k true⟩, 0) := by
  unfold sta
  rw [if_neg (by omega), Int.toNat_natCast, rset hx]
  unfold wth
  rw [show (⟨rs, bs⟩ : Ss).rs.set k x = rs from set_same hx]
  rfl
theorem stl_ok (ha : ask ⟨rs, bs⟩ (k : Int) = 0) (hx : rs[k]? = some x) : stl ⟨rs, bs⟩ (k : Int) = if opm bs k = false then (.nil, false, 9) else (⟨rs, bs.set k false⟩, fre ⟨rs, bs.set k false⟩ k, 0) := by
  unfold stl
  rw [if_neg (by omega), Int.toNat_natCast, rset hx]
  unfold wth
  rw [show (⟨rs, bs⟩ : Ss).rs.set k x = rs from set_same hx]
  rfl
theorem alc_ok {r : Int} (hc : (chs ⟨rs, bs⟩).1 = 0) (h1 : 1 ≤ r) (h2 : r ≤ 512) (hf : fr ⟨rs, bs⟩ = (k : Int)) : alc ⟨rs, bs⟩ r = (⟨rs.set k r, bs.set k true⟩, (k : Int), 0) := by
  unfold alc
  rw [if_neg (by omega), if_neg (by omega), if_neg (by omega), hf]
  rfl
theorem fr_pos {s : Ss} (h : ¬ fr s < 0) : ∃ j : Nat, fr s = (j : Int) ∧ j < s.rs.length ∧ fre s j = true ∧ ∀ i : Nat, i < j → fre s i = false := by
  rcases fr_cases s with ⟨h1, _⟩ | h1
  · omega
  · exact h1
theorem ask_of {s : Ss} {k : Int} (h : ask s k = 0) : ∃ kn : Nat, k = (kn : Int) ∧ kn < s.rs.length ∧ OkS s := by
  obtain ⟨h1, h2, h3⟩ := ask_zero h
  exact ⟨k.toNat, by omega, by omega, (chs_ok h1).2⟩
theorem opf_unset (hk : k < rs.length) (h0 : x = 0) (q : Int) : (if q = (k : Int) then none else if q = (k : Int) then some x else opf rs q) = opf (rs.set k x) q := by
  rw [h0, ← opf_del hk q]
  by_cases hq : q = (k : Int) <;> simp [hq]
theorem opm_out {n : Nat} (h : bs.length = n) (j : Nat) (hj : n ≤ j) : opm bs j = false := by
  unfold opm
  rw [List.getElem?_eq_none (by omega)]; rfl
theorem cfr_t {s : Ss} (h : fre s k = true) : cfr s k + 1 = cfr s (k + 1) := by
  show _ = cfr s k + bif fre s k then 1 else 0
  rw [h]; rfl
theorem cfr_f {s : Ss} (h : fre s k = false) : cfr s k = cfr s (k + 1) := by
  show _ = cfr s k + bif fre s k then 1 else 0
  rw [h]; rfl
theorem sumr_succ (hx : rs[k]? = some x) : sumr rs k + x = sumr rs (k + 1) := by
  show _ = sumr rs k + rs[k]?.getD 0
  rw [hx]; rfl
theorem look_upd (k v : Int) (f : Int → Option Int) : (((fun q => if q = k then some v else f q) k).map (Value.int .i64)).getD (.int .i64 0) = .int .i64 v := by simp
theorem RSl.nil {w w' : World} {K : Value → Value} {e : Ending} (he : e = .returned (K (.agg #[.slice none 0 0, .slice none 0 0]))) (hb : Below w.heap.size w w') : RSl w Ss.nil K e w' :=
  ⟨none, 0, none, 0, he, Own.nil _ _ _ 1, Own.nil _ _ _ 1, hb⟩
end
end Go.Proofs.Ytpoilgfblhacaaa
