/- The disk in plain Lean: devices stay without error. No function of the program is walked here. -/
import Derived.Test.YtbkdimildnahaaaDL
namespace Go.Proofs.Ytbkdimildnahaaa
open Go.RowKit
set_option linter.unusedVariables false
set_option linter.unusedSimpArgs false

theorem apart_iff {js : List Jb} : (∀ (k : Nat) (x : Jb), js[k]? = some x → clash js k x = false) ↔ js.Pairwise (fun a b => hits b a = false) := by
  rw [List.pairwise_iff_getElem]
  constructor
  · intro h i j hi hj hij
    have := h j js[j] (List.getElem?_eq_getElem hj)
    unfold clash at this
    rw [List.any_eq_false] at this
    have h2 := this js[i] (by rw [List.mem_take_iff_getElem]; exact ⟨i, by omega, rfl⟩)
    simpa using h2
  · intro h k x hx
    have hk := (List.getElem?_eq_some_iff.1 hx).1
    have hv := (List.getElem?_eq_some_iff.1 hx).2
    unfold clash
    rw [List.any_eq_false]
    intro y hy
    rw [List.mem_take_iff_getElem] at hy
    obtain ⟨i, hi, rfl⟩ := hy
    have := h i k (by omega) hk (by omega)
    rw [hv] at this
    simp [this]
theorem com_ok {d : Dk} (h : OkD d) {k : Nat} (hk : k < d.js.length) : OkD (com d k).1 := by
  have hj := com_js d k hk
  have hl := com_len d k
  have hr := com_room d k
  have hsub : ∀ (i : Nat) (x : Jb), (d.js.eraseIdx k)[i]? = some x → ∃ m : Nat, d.js[m]? = some x := by
    intro i x hx
    have := (List.eraseIdx_sublist d.js k).subset (List.mem_of_getElem? hx)
    obtain ⟨m, hm, e⟩ := List.getElem_of_mem this
    exact ⟨m, by rw [List.getElem?_eq_getElem hm, e]⟩
  refine ⟨by rw [hl]; exact h.lo, by rw [hl]; exact h.hi, by rw [hr]; exact h.rlo, by rw [hr]; exact h.rhi, ?_, ?_, ?_, ?_⟩
  · rw [hj, hr, List.length_eraseIdx]
    have := h.fit
    split <;> omega
  · rw [hj, hl]
    intro i x hx
    obtain ⟨m, hm⟩ := hsub i x hx
    exact h.inr m x hm
  · rw [hj]
    exact apart_iff.2 ((apart_iff.1 h.apart).sublist (List.eraseIdx_sublist d.js k))
  · rw [hj]
    intro i x hx
    obtain ⟨m, hm⟩ := hsub i x hx
    exact h.cln m x hm
theorem cmp_ok {d : Dk} (h : OkD d) {k : Nat} (hk : k < d.js.length) : cmp d (k : Int) = ((com d k).1, (com d k).2, 0) := by
  unfold cmp
  rw [if_pos (by rw [chk_of h]), if_neg (by omega), Int.toNat_natCast]
theorem sub_ok {d : Dk} {x : Jb} (hc : clean x = true) (h2 : (sub d x).2 = 0) : OkD (sub d x).1 ∧ OkD d ∧ (sub d x).1 = ⟨d.cs, d.js ++ [x], d.room⟩ ∧ inR d.cs.length x.slot x.frame = true ∧ d.js.any (hits x) = false ∧ ((d.js.length : Int) < d.room) := by
  unfold sub at h2 ⊢
  by_cases h0 : (chk d).1 = 0
  · rw [if_pos h0] at h2 ⊢
    have hok := chk_ok h0
    cases h3 : inR d.cs.length x.slot x.frame
    · rw [h3] at h2; simp at h2
    · cases h4 : d.js.any (hits x)
      · by_cases h5 : d.room ≤ d.js.length
        · rw [h3, h4, if_neg (by decide), if_neg (by decide), if_pos h5] at h2; simp at h2
        · rw [if_neg (by decide), if_neg (by decide), if_neg h5]
          refine ⟨⟨hok.lo, hok.hi, hok.rlo, hok.rhi, by simp; omega, ?_, ?_, ?_⟩, hok, rfl, rfl, rfl, by omega⟩
          · intro k y hy
            rw [List.getElem?_append] at hy
            split at hy
            · exact hok.inr k y hy
            · rw [List.getElem?_singleton] at hy
              split at hy
              · injection hy with hy; subst hy; exact h3
              · cases hy
          · refine apart_iff.2 ?_
            rw [List.pairwise_append]
            refine ⟨apart_iff.1 hok.apart, by simp, ?_⟩
            intro a ha b hb
            simp at hb
            subst hb
            rw [List.any_eq_false] at h4
            simpa using h4 a ha
          · intro k y hy
            rw [List.getElem?_append] at hy
            split at hy
            · exact hok.cln k y hy
            · rw [List.getElem?_singleton] at hy
              split at hy
              · injection hy with hy; subst hy; exact hc
              · cases hy
      · rw [h3, h4, if_neg (by decide), if_pos rfl] at h2; simp at h2
  · rw [if_neg h0] at h2; exact absurd h2 h0
theorem nw_ok {s r : Int} (h : (nw s r).2 = 0) : OkD (nw s r).1 := by
  unfold nw at h ⊢
  split at h
  · simp at h
  · rename_i h1
    rw [if_neg h1]
    refine ⟨by simp; omega, by simp; omega, by show 1 ≤ r; omega, by show r ≤ 32; omega, by simp; omega, ?_, ?_, ?_⟩ <;> intro k x hx <;> simp at hx
end Go.Proofs.Ytbkdimildnahaaa
