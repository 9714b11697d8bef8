/- The disk in plain Lean: writes, reads, completions of devices without error. No function of the program is walked here. -/
import Derived.Test.YtbkdimildnahaaaDYa
namespace Go.Proofs.Ytbkdimildnahaaa
open Go.RowKit
set_option linter.unusedVariables false
set_option linter.unusedSimpArgs false

/-- An operation whose guard's operation was left out itself is not wanted. -/
theorem dj_nu {P : Program} {l : List Oper} {Q : Exit → Act → World → Prop} {i : Nat} {K : Act → World → Prop} {a : Act} {w : World} {o : Oper} {j s : Nat} {want : Bool} (ho : l[i]? = some o) (hg : o.guard = some (j, want)) (hj : dstOf l j = some s) (hs : Sv a s undef) (h : K (a.put o.dst undef) w) : wpOp P l.toArray Q i K a w := by
  have h1 : l.toArray[i]? = some o := by simpa using ho
  have hj2 : (l.toArray[j]?).bind (·.dst) = some s := by unfold dstOf at hj; simpa using hj
  have hy : yielded l.toArray a.tmps j = none := by
    unfold yielded
    rw [hj2]
    show (match a.tmps[s]? with | some (.bool b) => some b | _ => none) = none
    rw [hs]
    rfl
  have hw : Region.wanted o (yielded l.toArray a.tmps) = false := by
    simp only [Region.wanted, hg, hy]
    cases want <;> rfl
  unfold wpOp
  rw [h1]
  simp only []
  rw [hw, if_neg (by simp)]
  exact h
theorem D86.lft {d : Dk} (h : D86 d) : lft d = (6 - (d.js.length : Int), 0) := by
  unfold Go.Proofs.Ytbkdimildnahaaa.lft
  rw [if_pos (by rw [chk_of h.ok]), h.r]
theorem inS8 {d : Dk} (h : d.cs.length = 8) {s : Int} (h0 : 0 ≤ s) (h1 : s < 8) : inS d.cs.length s = true := by
  simp [inS, h]; omega
theorem fnd_eq {d : Dk} (h : OkD d) {s : Int} (hs : inS d.cs.length s = true) : fnd d s = match fdJ d.js s with | some k => ((k : Int), 0) | none => (0, 6) := by
  unfold fnd
  rw [if_pos (by rw [chk_of h]), if_neg (by rw [hs]; decide)]
  cases fdJ d.js s <;> rfl
theorem lat_eq {d : Dk} (h : OkD d) {s : Int} (hs : inS d.cs.length s = true) : lat d s = (ltc d s, 0) := by
  unfold lat
  rw [if_pos (by rw [chk_of h]), if_neg (by rw [hs]; decide)]
theorem fd_none' {js : List Jb} {s : Int} (h : ∀ x ∈ js, x.slot ≠ s) : fdJ js s = none := by
  unfold fdJ
  rw [List.findIdx?_eq_none_iff]
  intro x hx
  simpa using h x hx
theorem fd_no {js : List Jb} {s : Int} (h : fdJ js s = none) : ∀ x ∈ js, x.slot ≠ s := by
  unfold fdJ at h
  rw [List.findIdx?_eq_none_iff] at h
  intro x hx
  simpa using h x hx
theorem fd_at {js : List Jb} {s : Int} {k : Nat} (h : fdJ js s = some k) : ∃ x, js[k]? = some x ∧ x.slot = s := by
  unfold fdJ at h
  rw [List.findIdx?_eq_some_iff_getElem] at h
  obtain ⟨hk, hp, _⟩ := h
  exact ⟨js[k], List.getElem?_eq_getElem hk, by simpa using hp⟩
theorem clash_hit' {js : List Jb} {m k : Nat} {x y : Jb} (h : js[m]? = some y) (hm : m < k) (hh : hits x y = true) : clash js k x = true := by
  unfold clash
  rw [List.any_eq_true]
  have hl := (List.getElem?_eq_some_iff.1 h).1
  refine ⟨y, ?_, hh⟩
  rw [List.mem_take_iff_getElem]
  exact ⟨m, by omega, (List.getElem?_eq_some_iff.1 h).2⟩
theorem com_jlen' (d : Dk) (k : Nat) : (com d k).1.js.length ≤ d.js.length := by
  by_cases hk : k < d.js.length
  · rw [com_js d k hk, List.length_eraseIdx]; split <;> omega
  · unfold com; rw [List.getElem?_eq_none (by omega)]; exact Nat.le_refl _
/-- A job's slot is no other job's. -/
theorem alone {d : Dk} (h : OkD d) {k : Nat} {x : Jb} (hx : d.js[k]? = some x) : ∀ y ∈ d.js.eraseIdx k, y.slot ≠ x.slot ∧ y.frame ≠ x.frame := by
  intro y hy
  obtain ⟨i, hi, e⟩ := List.getElem_of_mem hy
  have hy2 : (d.js.eraseIdx k)[i]? = some y := by rw [List.getElem?_eq_getElem hi, e]
  rw [List.getElem?_eraseIdx] at hy2
  have key : ∀ (a b : Nat) (u v : Jb), a < b → d.js[a]? = some u → d.js[b]? = some v → u.slot ≠ v.slot ∧ u.frame ≠ v.frame := by
    intro a b u v hab hu hv
    have hc := h.apart b v hv
    constructor <;> intro e
    · rw [clash_hit' hu hab (by simp [hits, e])] at hc; cases hc
    · rw [clash_hit' hu hab (by simp [hits, e])] at hc; cases hc
  split at hy2
  · exact key i k y x (by omega) hy2 hx
  · have := key k (i + 1) x y (by omega) hx hy2
    exact ⟨fun e => this.1 e.symm, fun e => this.2 e.symm⟩
theorem com_at {d : Dk} {k : Nat} {x : Jb} (hx : d.js[k]? = some x) : com d k = if x.wr = true then (⟨d.cs.set x.slot.toNat x.data, d.js.eraseIdx k, d.room⟩, x) else (⟨d.cs, d.js.eraseIdx k, d.room⟩, ⟨false, x.slot, x.frame, d.cs[x.slot.toNat]?.getD Ct.zero⟩) := by
  unfold com
  rw [hx]
theorem com_slot {d : Dk} {k : Nat} {x : Jb} (hx : d.js[k]? = some x) : (com d k).2.slot = x.slot ∧ (com d k).2.frame = x.frame := by
  rw [com_at hx]
  split <;> exact ⟨rfl, rfl⟩
theorem rd_find {d : Dk} (h : D86 d) {s : Int} (h0 : 0 ≤ s) (h1 : s < 8) (hf : (fnd d s).2 = 0) :
    (cmp d (fnd d s).1).2.2 = 0 ∧ (cmp d (fnd d s).1).2.1.slot = s ∧ (fnd (cmp d (fnd d s).1).1 s).2 = 6 ∧ (cmp d (fnd d s).1).1.cs.length = 8 ∧ (cmp d (fnd d s).1).1.js.length ≤ 6 := by
  have hs := inS8 h.n h0 h1
  have e := fnd_eq h.ok hs
  cases hk : fdJ d.js s with
  | none => rw [hk] at e; rw [e] at hf; simp at hf
  | some k =>
    rw [hk] at e
    obtain ⟨x, hx, hxs⟩ := fd_at hk
    have hkl := (List.getElem?_eq_some_iff.1 hx).1
    have e2 := cmp_ok h.ok hkl
    simp only [e, e2]
    have hjl := h.jl
    have hc := com_jlen' d k
    refine ⟨trivial, by rw [(com_slot hx).1, hxs], ?_, by rw [com_len]; exact h.n, by omega⟩
    rw [fnd_eq (com_ok h.ok hkl) (inS8 (by rw [com_len]; exact h.n) h0 h1), com_js d k hkl, fd_none' (fun y hy => by rw [← hxs]; exact (alone h.ok hx y hy).1)]
theorem rd_no {d : Dk} (h : D86 d) {s : Int} (h0 : 0 ≤ s) (h1 : s < 8) (hf : ¬ (fnd d s).2 = 0) : (fnd d s).2 = 6 ∧ ∀ x ∈ d.js, x.slot ≠ s := by
  have e := fnd_eq h.ok (inS8 h.n h0 h1)
  cases hk : fdJ d.js s with
  | none => rw [hk] at e; rw [e]; exact ⟨rfl, fd_no hk⟩
  | some k => rw [hk] at e; rw [e] at hf; exact absurd rfl hf
theorem no_hits {js : List Jb} {b : Bool} {s f : Int} {c : Ct} (h1 : ∀ x ∈ js, x.slot ≠ s) (h2 : ∀ x ∈ js, x.frame ≠ f) : js.any (hits ⟨b, s, f, c⟩) = false := by
  rw [List.any_eq_false]
  intro x hx
  have a1 := h1 x hx
  have a2 := h2 x hx
  simp [hits, a1, a2]
theorem sub_yes {d : Dk} (h : OkD d) {x : Jb} (hr : inR d.cs.length x.slot x.frame = true) (hh : d.js.any (hits x) = false) (hl : (d.js.length : Int) < d.room) : sub d x = (⟨d.cs, d.js ++ [x], d.room⟩, 0) := by
  unfold sub
  rw [if_pos (by rw [chk_of h]), if_neg (by rw [hr]; decide), if_neg (by rw [hh]; decide), if_neg (by omega)]
theorem rd_full {d : Dk} (h : D86 d) {s : Int} {c : Ct} (h0 : 0 ≤ s) (h1 : s < 8) (hn : ∀ x ∈ d.js, x.slot ≠ s) (hl : d.js.length = 6) : (sub d ⟨true, s, 200, c⟩).2 = 5 := by
  unfold sub
  have hr := h.r
  rw [if_pos (by rw [chk_of h.ok]), if_neg (by rw [h.rng h0 h1 (by omega) (by omega)]; decide), if_neg (by rw [no_hits hn (fun x hx => by have := h.fr x hx; omega)]; decide), if_pos (by omega)]
/-- A content that is written and completed is what a read brings. -/
theorem rd_all {d : Dk} (h : D86 d) {s : Int} {c : Ct} (h0 : 0 ≤ s) (h1 : s < 8) (hn : ∀ x ∈ d.js, x.slot ≠ s) (hl : d.js.length < 6) :
    let a := (sub d ⟨true, s, 200, c⟩).1
    let b := (cmp a (d.js.length : Int)).1
    let e := (sub b ⟨false, s, 201, Ct.zero⟩).1
    (sub d ⟨true, s, 200, c⟩).2 = 0 ∧ a.cs.length = 8 ∧ a.js.length ≤ 6 ∧ (cmp a (d.js.length : Int)).2.2 = 0 ∧ b.cs.length = 8 ∧ b.js.length ≤ 6 ∧ (sub b ⟨false, s, 201, Ct.zero⟩).2 = 0 ∧ e.cs.length = 8 ∧ e.js.length ≤ 6 ∧ (cmp e (d.js.length : Int)).2.2 = 0 ∧ (cmp e (d.js.length : Int)).2.1.frame = 201 ∧ (cmp e (d.js.length : Int)).2.1.data = c := by
  intro a b e
  have hr := h.r
  have hcl := h.n
  have hrg := h.rng (b := true) (c := c) h0 h1 (show (0 : Int) ≤ 200 by omega) (by omega)
  have hh := no_hits (b := true) (c := c) hn (fun x hx => by have := h.fr x hx; omega : ∀ x ∈ d.js, x.frame ≠ 200)
  have ha := sub_yes h.ok (x := ⟨true, s, 200, c⟩) hrg hh (by omega)
  have ea : a = ⟨d.cs, d.js ++ [⟨true, s, 200, c⟩], d.room⟩ := congrArg Prod.fst ha
  have oka : OkD a := (sub_ok (d := d) (x := ⟨true, s, 200, c⟩) rfl (by rw [ha])).1
  have hka : d.js.length < a.js.length := by rw [ea]; simp
  have hxa : a.js[d.js.length]? = some ⟨true, s, 200, c⟩ := by rw [ea]; simp
  have hca := cmp_ok oka hka
  have eb : b = ⟨d.cs.set s.toNat c, d.js, d.room⟩ := by
    have : b = (com a d.js.length).1 := congrArg Prod.fst hca
    rw [this, com_at hxa, if_pos rfl, ea]
    simp only []
    congr 1
    rw [List.eraseIdx_append_of_length_le (Nat.le_refl _)]
    simp
  have okb : OkD b := by
    have : b = (com a d.js.length).1 := congrArg Prod.fst hca
    rw [this]; exact com_ok oka hka
  have hbl : b.cs.length = 8 := by rw [eb]; simp [hcl]
  have hjb : b.js = d.js := by rw [eb]
  have hrg2 : inR b.cs.length (⟨false, s, 201, Ct.zero⟩ : Jb).slot (⟨false, s, 201, Ct.zero⟩ : Jb).frame = true := by
    rw [hbl]; simp [inR, h0]; omega
  have hh2 : b.js.any (hits ⟨false, s, 201, Ct.zero⟩) = false := by
    rw [hjb]; exact no_hits hn (fun x hx => by have := h.fr x hx; omega)
  have he := sub_yes okb (x := ⟨false, s, 201, Ct.zero⟩) hrg2 hh2 (by rw [hjb, eb]; simp only []; omega)
  have ee : e = ⟨b.cs, b.js ++ [⟨false, s, 201, Ct.zero⟩], b.room⟩ := congrArg Prod.fst he
  have oke : OkD e := (sub_ok (d := b) (x := ⟨false, s, 201, Ct.zero⟩) rfl (by rw [he])).1
  have hke : d.js.length < e.js.length := by rw [ee, hjb]; simp
  have hxe : e.js[d.js.length]? = some ⟨false, s, 201, Ct.zero⟩ := by rw [ee, hjb]; simp
  have hce := cmp_ok oke hke
  have hcom := com_at hxe
  rw [if_neg (fun h => by cases h)] at hcom
  refine ⟨by rw [ha], by rw [ea]; exact hcl, by rw [ea]; simp; omega, by rw [hca], hbl, by rw [hjb]; omega, by rw [he], by rw [ee]; exact hbl, by rw [ee, hjb]; simp; omega, by rw [hce], by rw [hce, hcom], ?_⟩
  rw [hce, hcom, ee]
  simp only []
  rw [eb]
  simp only []
  rw [List.getElem?_set_self (by rw [hcl]; omega)]
  rfl
theorem fd_app_ne {js : List Jb} {x : Jb} {k : Int} (h : x.slot ≠ k) : fdJ (js ++ [x]) k = fdJ js k := by
  unfold fdJ
  rw [List.findIdx?_append]
  have : ([x] : List Jb).findIdx? (fun y => y.slot == k) = none := by simp [h]
  rw [this]
  cases List.findIdx? (fun y => y.slot == k) js <;> rfl
theorem fd_app_eq {js : List Jb} {x : Jb} (h : ∀ y ∈ js, y.slot ≠ x.slot) : fdJ (js ++ [x]) x.slot = some js.length := by
  have hn := fd_none' h
  unfold fdJ at hn ⊢
  rw [List.findIdx?_append, hn]
  simp
theorem any_no {js : List Jb} {x : Jb} (h : js.any (hits x) = false) : ∀ y ∈ js, y.slot ≠ x.slot := by
  rw [List.any_eq_false] at h
  intro y hy e
  have := h y hy
  simp [hits, e] at this
/-- A write changes what one slot will contain, and no other. -/
theorem al_later {d : Dk} (h : D86 d) {s : Int} {c : Ct} (hs : (sub d ⟨true, s, 200, c⟩).2 = 0) {k : Nat} (hk : k < 8) :
    (lat d (k : Int)).2 = 0 ∧ (lat (sub d ⟨true, s, 200, c⟩).1 (k : Int)).2 = 0 ∧ ((k : Int) ≠ s → (lat d (k : Int)).1 = (lat (sub d ⟨true, s, 200, c⟩).1 (k : Int)).1) ∧ ((k : Int) = s → (lat (sub d ⟨true, s, 200, c⟩).1 (k : Int)).1 = c) := by
  obtain ⟨o1, o2, o3, o4, o5, o6⟩ := sub_ok (d := d) (x := ⟨true, s, 200, c⟩) rfl hs
  have e1 := lat_eq h.ok (inS8 h.n (s := (k : Int)) (by omega) (by omega))
  have hl : (sub d ⟨true, s, 200, c⟩).1.cs.length = 8 := by rw [o3]; exact h.n
  have e2 := lat_eq o1 (inS8 hl (s := (k : Int)) (by omega) (by omega))
  refine ⟨by rw [e1], by rw [e2], ?_, ?_⟩
  · intro hne
    rw [e1, e2, o3]
    show ltc d k = ltc _ k
    unfold ltc
    simp only []
    rw [fd_app_ne (by simp; exact fun e => hne e.symm)]
    cases hf : fdJ d.js (k : Int) with
    | none => rfl
    | some m =>
      obtain ⟨x, hx, _⟩ := fd_at hf
      have hm := (List.getElem?_eq_some_iff.1 hx).1
      simp only [hx, List.getElem?_append_left hm]
  · intro he
    rw [e2, o3]
    show ltc _ k = c
    unfold ltc
    simp only []
    have := fd_app_eq (js := d.js) (x := ⟨true, s, 200, c⟩) (any_no o5)
    simp only [] at this
    rw [he, this]
    simp
end Go.Proofs.Ytbkdimildnahaaa
