/- A device that came in: its contents and its jobs; a content; a list of integers. -/
import Derived.Test.YtbkdimildnahaaaDP
import Derived.ProofKit
import Derived.OpenShut
import Derived.ShutString
namespace Go.Proofs.Ytbkdimildnahaaa
open Go.ChangeShapes Go.WideShapes Go.ChangeAt Go.RowKit

section
variable {H : Type} {enc : TypeId × Value → H} {W : World} {sp : Nat → Bool} {held : Bool}
/-- A slice that came in, element by element. -/
theorem gr_open {α : Type} {va : α → Array Value} {n : Nat} {t e : TypeId} (ht : Try.prog.underlying t = some (.slice e)) (hc : Try.prog.cellsOf e = n) (h0 : 0 < n) (hs : ∀ x, (va x).size = n)
    (hel : ∀ fuel cs x, DataW.trod enc Try.prog W 0 sp held fuel e cs = some x → ∃ y : α, cs = (va y).toList) {fuel : Nat} {c : Value} {x : DataW H × List MemPlace} (h : DataW.trod enc Try.prog W 0 sp held fuel t [c] = some x) :
    ∃ A cap, ∃ xs : List α, c = .slice A xs.length cap ∧ GR n va W A cap xs := by
  rcases DataW.trod_slice ht h with ⟨hcs, -⟩ | ⟨a, len, cap, elems, rest, m, -, hcs, -, -, hl, hm, hel2, hi, -, -⟩
  · simp at hcs
    subst hcs
    exact ⟨none, 0, [], rfl, GR.nil _⟩
  · simp at hcs
    subst hcs
    have key : ∀ k, k ≤ len → ∃ xs : List α, xs.length = k ∧ ∀ i y, xs[i]? = some y → W.cells? 0 (a.add (i * n)) n = some (va y).toList := by
      intro k
      induction k with
      | zero => intro _; exact ⟨[], rfl, by simp⟩
      | succ k ih =>
        intro hk
        obtain ⟨xs, hxl, hx⟩ := ih (by omega)
        have hq := hi k (by omega)
        rw [hc, List.getElem?_eq_getElem (by omega), Option.bind_eq_some_iff] at hq
        obtain ⟨cs, h1, h2⟩ := hq
        obtain ⟨y, rfl⟩ := hel _ _ _ h2
        refine ⟨xs ++ [y], by simp [hxl], fun i z hz => ?_⟩
        rw [List.getElem?_append] at hz
        split at hz
        · exact hx i z hz
        · rename_i hik
          rw [List.getElem?_singleton] at hz
          split at hz
          · rename_i he
            injection hz with hz
            subst hz
            rw [show i = k by omega]
            exact h1
          · cases hz
    obtain ⟨xs, hxl, hx⟩ := key len (Nat.le_refl _)
    subst hxl
    refine ⟨some a, cap, xs, rfl, hl, hm, flat_len hs xs, fun hn => ⟨a, rfl, ?_, fun j u hu => ?_⟩⟩
    · obtain ⟨y, hy⟩ : ∃ y, xs[0]? = some y := ⟨_, List.getElem?_eq_getElem hn⟩
      have := hx 0 y hy
      have hb := World.cells?_block this h0
      simpa [add_block] using hb
    · have hjl : j < xs.length * n := by
        have := (List.getElem?_eq_some_iff.1 hu).1
        rw [flat_len hs] at this
        exact this
      have hk : j / n < xs.length := (Nat.div_lt_iff_lt_mul h0).2 hjl
      obtain ⟨y, hy⟩ : ∃ y, xs[j / n]? = some y := ⟨_, List.getElem?_eq_getElem hk⟩
      have h1 := flat_at (va := va) hs hy (i := j % n) (Nat.mod_lt _ h0)
      have e1 : j / n * n + j % n = j := by rw [Nat.mul_comm]; exact Nat.div_add_mod j n
      rw [e1, hu] at h1
      have h2 := World.cells?_some (hx _ y hy)
      have h3 := h2.2.2 (j % n) (Nat.mod_lt _ h0)
      rw [add_twice, e1, Array.getElem?_toList] at h3
      rw [h3, ← h1]
theorem ct_el {fuel : Nat} {cs : List Value} {x : DataW H × List MemPlace} (h : DataW.trod enc Try.prog W 0 sp held fuel 28 cs = some x) : ∃ y : Ct, cs = y.va.toList := by
  obtain ⟨xs, m, -, -, hl, hn, hi⟩ := DataW.trod_array Try.underlying28 h
  have k8 : Try.prog.cellsOf 28 = 8 := by kernel_rfl
  have k1 : Try.prog.cellsOf 26 = 1 := by kernel_rfl
  rw [k8] at hl
  match cs, hl with
  | [c0, c1, c2, c3, c4, c5, c6, c7], _ =>
    have g : ∀ i, i < 8 → ∃ a, ([c0, c1, c2, c3, c4, c5, c6, c7].drop i).take 1 = [.int .u64 a] := by
      intro i hi8
      have := hi i hi8
      rw [k1, Nat.mul_one, List.getElem?_eq_getElem (by omega)] at this
      obtain ⟨a, ha, -, -⟩ := DataW.trod_int Try.underlying26 this
      exact ⟨a, ha⟩
    obtain ⟨a0, h0⟩ := g 0 (by omega)
    obtain ⟨a1, h1⟩ := g 1 (by omega)
    obtain ⟨a2, h2⟩ := g 2 (by omega)
    obtain ⟨a3, h3⟩ := g 3 (by omega)
    obtain ⟨a4, h4⟩ := g 4 (by omega)
    obtain ⟨a5, h5⟩ := g 5 (by omega)
    obtain ⟨a6, h6⟩ := g 6 (by omega)
    obtain ⟨a7, h7⟩ := g 7 (by omega)
    simp at h0 h1 h2 h3 h4 h5 h6 h7
    subst h0 h1 h2 h3 h4 h5 h6 h7
    exact ⟨⟨a0, a1, a2, a3, a4, a5, a6, a7⟩, rfl⟩
theorem jb_el {fuel : Nat} {cs : List Value} {x : DataW H × List MemPlace} (h : DataW.trod enc Try.prog W 0 sp held fuel 38 cs = some x) : ∃ y : Jb, cs = y.va.toList := by
  obtain ⟨xs, m, -, -, hl, hn, hi⟩ := DataW.trod_struct Try.underlying38 h
  have k11 : Try.prog.cellsOf 38 = 11 := by kernel_rfl
  have k8 : Try.prog.cellsOf 28 = 8 := by kernel_rfl
  have k1 : Try.prog.cellsOf 3 = 1 := by kernel_rfl
  have kb : Try.prog.cellsOf 4 = 1 := by kernel_rfl
  rw [k11] at hl
  obtain ⟨y0, y1, y2, y3, rfl⟩ : ∃ y0 y1 y2 y3, xs = [y0, y1, y2, y3] := by
    match xs, hn with
    | [y0, y1, y2, y3], _ => exact ⟨y0, y1, y2, y3, rfl⟩
  match cs, hl with
  | [c0, c1, c2, d0, d1, d2, d3, d4, d5, d6, d7], _ =>
    have f0 : DataW.trod enc Try.prog W 0 sp held m 4 [c0] = some y0 := by simpa [kb] using hi 0 _ rfl
    have f1 : DataW.trod enc Try.prog W 0 sp held m 3 [c1] = some y1 := by simpa [k1] using hi 1 _ rfl
    have f2 : DataW.trod enc Try.prog W 0 sp held m 3 [c2] = some y2 := by simpa [k1] using hi 2 _ rfl
    have f3 : DataW.trod enc Try.prog W 0 sp held m 28 [d0, d1, d2, d3, d4, d5, d6, d7] = some y3 := by simpa [k8] using hi 3 _ rfl
    obtain ⟨b, e0, -⟩ := DataW.trod_bool Try.underlying4 f0
    obtain ⟨s, e1, -, -⟩ := DataW.trod_int Try.underlying3 f1
    obtain ⟨f, e2, -, -⟩ := DataW.trod_int Try.underlying3 f2
    obtain ⟨c, e3⟩ := ct_el f3
    refine ⟨⟨b, s, f, c⟩, ?_⟩
    simp only [List.cons.injEq, and_true] at e0 e1 e2
    rw [e0, e1, e2, e3]
    simp [Jb.va, Ct.va]
theorem cells3 {cs : Array Value} (h : cs.size = 3) : ∃ c0 c1 c2, cs = #[c0, c1, c2] := by
  obtain ⟨l⟩ := cs
  match l, h with
  | [c0, c1, c2], _ => exact ⟨c0, c1, c2, rfl⟩
/-- A device that came in. -/
theorem dk_open {r : Reach} {b0 : Nat} {v : Value} {d : DataW H} {p : List MemPlace} (hv : Value.okWide Try.prog W r b0 25 v) (h : DataW.Trod enc Try.prog W 0 sp held 25 v d p) :
    ∃ A1 c1 A2 c2, ∃ cs : List Ct, ∃ js : List Jb, ∃ room, v = .agg #[.slice A1 cs.length c1, .slice A2 js.length c2, .int .i64 room] ∧ GD W A1 c1 A2 c2 cs js := by
  obtain ⟨cs, rfl, hsz⟩ := okWide_struct Try.underlying25 hv
  obtain ⟨c0, c1, c2, rfl⟩ := cells3 (hsz.trans (show Try.prog.cellsOf 25 = 3 by kernel_rfl))
  have k3 : Try.prog.cellsOf 3 = 1 := by kernel_rfl
  have ks : Try.prog.cellsOf 22 = 1 := by kernel_rfl
  have kj : Try.prog.cellsOf 23 = 1 := by kernel_rfl
  obtain ⟨fuel, hf⟩ := h
  obtain ⟨ys, n, -, -, -, hl, hfs⟩ := DataW.trod_struct Try.underlying25 hf
  obtain ⟨y0, y1, y2, rfl⟩ : ∃ y0 y1 y2, ys = [y0, y1, y2] := by
    match ys, hl with
    | [y0, y1, y2], _ => exact ⟨y0, y1, y2, rfl⟩
  have f0 : DataW.trod enc Try.prog W 0 sp held n 22 [c0] = some y0 := by simpa [Value.cells, ks] using hfs 0 _ rfl
  have f1 : DataW.trod enc Try.prog W 0 sp held n 23 [c1] = some y1 := by simpa [Value.cells, kj] using hfs 1 _ rfl
  have f2 : DataW.trod enc Try.prog W 0 sp held n 3 [c2] = some y2 := by simpa [Value.cells, k3] using hfs 2 _ rfl
  obtain ⟨A1, e1, cs, rfl, g1⟩ := gr_open Try.underlying22 (show Try.prog.cellsOf 28 = 8 by kernel_rfl) (by decide) ct_sz (fun _ _ _ h => ct_el h) f0
  obtain ⟨A2, e2, js, rfl, g2⟩ := gr_open Try.underlying23 (show Try.prog.cellsOf 38 = 11 by kernel_rfl) (by decide) jb_sz (fun _ _ _ h => jb_el h) f1
  obtain ⟨room, e3, -, -⟩ := DataW.trod_int Try.underlying3 f2
  simp only [List.cons.injEq, and_true] at e3
  subst e3
  exact ⟨A1, e1, A2, e2, cs, js, room, rfl, g1, g2⟩
/-- A content that came in. -/
theorem ct_open {r : Reach} {b0 : Nat} {v : Value} {d : DataW H} {p : List MemPlace} (hv : Value.okWide Try.prog W r b0 28 v) (h : DataW.Trod enc Try.prog W 0 sp held 28 v d p) : ∃ c : Ct, v = .agg c.va := by
  obtain ⟨fuel, hf⟩ := h
  obtain ⟨c, hc⟩ := ct_el hf
  cases v <;> simp [Value.cells, Ct.va] at hc
  rename_i cs
  refine ⟨c, ?_⟩
  congr 1
  obtain ⟨l⟩ := cs
  simp at hc
  rw [hc]
  rfl
end
end Go.Proofs.Ytbkdimildnahaaa
