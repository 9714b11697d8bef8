/- The reference's Parse. -/
import Derived.Test.YtfacdnpgidnafaaDoorA4
namespace Go.Proofs.YtfacdnpgidnafaaDoor
open Go.RowKit

/-- The role of a byte, as the reference's inner loop finds it: the last one that fits. -/
def roleTo (c : UInt8) : Nat → Int
  | 0 => -1
  | k + 1 => if (((lets[k]?.getD 0).toNat : Int) == (c.toNat : Int)) then (k : Int) else roleTo c k
theorem roleTo_lix (c : UInt8) : roleTo c 8 = lix c := by
  rcases lix_cases c with ⟨_, _, h, _⟩ | ⟨h, hm⟩
  · have hm : c ∈ lets := List.mem_of_getElem? h
    simp only [lets, List.mem_cons, List.not_mem_nil, or_false] at hm
    rcases hm with h | h | h | h | h | h | h | h <;> subst h <;> decide
  · rw [h]
    have hn : ∀ k, k < 8 → (((lets[k]?.getD 0).toNat : Int) == (c.toNat : Int)) = false := by
      intro k hk
      rw [beq_eq_false_iff_ne]
      intro e
      apply hm
      have e' : (lets[k]?.getD 0).toNat = c.toNat := by omega
      have e2 : lets[k]?.getD 0 = c := UInt8.toNat_inj.1 e'
      have hk' : k < lets.length := by simpa [lets] using hk
      rw [List.getElem?_eq_getElem hk'] at e2
      simp only [Option.getD_some] at e2
      rw [← e2]
      exact List.getElem_mem hk'
    simp [roleTo, hn]

theorem lets_at : ∀ j (h : j < 8), ({ data := #[46, 80, 83, 84, 77, 87, 82, 79] } : ByteArray)[j]'h = lets[j]?.getD 0 := by decide
theorem roleTo_yes {c : UInt8} {j : Nat} (hj : j < 8) (h : (((({ data := #[46, 80, 83, 84, 77, 87, 82, 79] } : ByteArray)[j]'hj).toNat : Int) == (c.toNat : Int)) = true) : roleTo c (j + 1) = j := by
  rw [lets_at j hj] at h
  show (if _ then _ else _) = _
  rw [if_pos h]
theorem roleTo_no {c : UInt8} {j : Nat} (hj : j < 8) (h : (((({ data := #[46, 80, 83, 84, 77, 87, 82, 79] } : ByteArray)[j]'hj).toNat : Int) == (c.toNat : Int)) = false) : roleTo c (j + 1) = roleTo c j := by
  rw [lets_at j hj] at h
  show (if _ then _ else _) = _
  rw [if_neg (by rw [h]; decide)]

/-- What holds in the reference's Parse. -/
structure SParseAt (w : World) (A : Option Addr) (n c : Nat) (xs : List Int) (wr : World) : Prop where
  res : wr.heap[w.heap.size]? = some (.cells #[.int .i64 0, .int .i64 0] 32 (0, 0))
  own : OwnI wr (w.heap.size + 1) A n c xs
  old : Below w.heap.size w wr
section
variable {w wr : World} {A : Option Addr} {n c : Nat} {xs : List Int}
theorem SParseAt.cells (h : SParseAt w A n c xs wr) : wr.cell? ⟨w.heap.size, 0, none⟩ = some (.int .i64 0) ∧ wr.cell? ⟨w.heap.size, 1, none⟩ = some (.int .i64 0) ∧ wr.frozen? ⟨w.heap.size, 0, none⟩ = false ∧ wr.frozen? ⟨w.heap.size, 1, none⟩ = false := by
  refine ⟨?_, ?_, ?_, ?_⟩
  · rw [cell_of_row wr _ 0 _ _ (0, 0) h.res]; rfl
  · rw [cell_of_row wr _ 1 _ _ (0, 0) h.res]; rfl
  · simp [World.frozen?, h.res]
  · simp [World.frozen?, h.res]
theorem SParseAt.size (h : SParseAt w A n c xs wr) : w.heap.size + 1 ≤ wr.heap.size := (Array.getElem?_eq_some_iff.1 h.res).1
theorem SParseAt.drewN (h : SParseAt w A n c xs wr) (k : Nat) : SParseAt w A n c xs (wr.drewN k) := ⟨h.res, h.own, below_drewN' h.old k⟩
theorem SParseAt.put {w1 : World} {A' : Option Addr} {c' : Nat} {x : Int} (h : SParseAt w A n c xs wr) (h1 : OwnI w1 (w.heap.size + 1) A' (n + 1) c' (xs ++ [x]))
    (hg : (wr.alloc (.cells #[.int .i64 x] 3)).grownBy w1 (Value.ownBlock (.slice A n c))) : SParseAt w A' (n + 1) c' (xs ++ [x]) w1 := by
  have hs := h.size
  have far : ∀ j, j < w.heap.size + 1 → some j ≠ Value.ownBlock (.slice A n c) := fun j hj e => by
    have := (h.own.lt _ e.symm).1
    omega
  refine ⟨?_, h1, ?_⟩
  · rw [hg.block _ (by simp; omega) (far _ (by omega)), Below.heap_alloc _ _ _ (by omega)]; exact h.res
  · refine (h.old.alloc (by omega) _).grown hg (by simp; omega) (fun j hj => ?_)
    have := (h.own.lt j hj).1
    omega
end

set_option maxHeartbeats 1000000 in
theorem sParse_in (s : ByteArray) (hs : s.size ≤ 256) (w : World) :
    Calls Tryd.prog 19 #[.string s] w (RetF w (parseL s.data.toList 0 [])) := by
  have hd0 : decide ((256 : Int) < s.size) = false := by simp; omega
  go_enter Tryd.func19, Tryd.ntmps19
  go_wp2
  go_loopg [4, 5, 6, 7] s.size (fun g v i _ _ wx => ∃ (k : Nat) (A : Option Addr) (n c : Nat) (xs : List Int), g = s.size - k ∧ k ≤ s.size ∧ n ≤ k ∧ v = .slice A n c ∧ i = .int .i64 k ∧ SParseAt w A n c xs wx ∧ Hid (parseL (s.data.toList.drop k) k xs = parseL s.data.toList 0 []))
  case atStart =>
    refine ⟨0, _, _, _, [], rfl, by omega, by omega, rfl, rfl, ⟨heap_alloc_new w _, OwnI.none _ _, (Below.refl _ _).alloc (Nat.le_refl _) _⟩, rfl⟩
  case round =>
    obtain ⟨k, A, n, c, xs, rfl, hk, hn, rfl, rfl, hp, HQ⟩ := hrel
    by_cases hlt : k < s.size
    · have Hdrop := Lib.hid (show s.data.toList.drop k = s[k] :: s.data.toList.drop (k + 1) from List.drop_eq_getElem_cons (by simpa using hlt))
      go_wp2
      go_loopg [6, 7] 8 (fun g v i wx => ∃ j : Nat, g = 8 - j ∧ j ≤ 8 ∧ i = .int .i64 j ∧ v = .int .i64 (roleTo s[k] j) ∧ SParseAt w A n c xs wx)
      case atStart => exact ⟨0, rfl, by omega, rfl, rfl, hp⟩
      case round =>
        obtain ⟨j, rfl, hj, rfl, rfl, hp1⟩ := hrel
        clear hp
        by_cases hlt8 : j < 8
        · have hjd : decide ((j : Int) < 8) = true := by simp; omega
          have k0 : (0 : Int) ≤ k := by omega
          have k1 : (k : Int) < s.size := by omega
          have j0 : (0 : Int) ≤ j := by omega
          have j1 : (j : Int) < 8 := by omega
          go_wp2
          go_quiet (fail)
          go_wp2
          · have hq : (((({ data := #[46, 80, 83, 84, 77, 87, 82, 79] } : ByteArray)[j]'hlt8).toNat : Int) == (s[k].toNat : Int)) = true := by assumption
            go_roundg (8 - (j + 1))
            case measure => omega
            case rel => exact ⟨j + 1, rfl, by omega, by go_num, by rw [roleTo_yes hlt8 hq], hp1.drewN _⟩
          · have hq : (((({ data := #[46, 80, 83, 84, 77, 87, 82, 79] } : ByteArray)[j]'hlt8).toNat : Int) == (s[k].toNat : Int)) = false := by assumption
            go_roundg (8 - (j + 1))
            case measure => omega
            case rel => exact ⟨j + 1, rfl, by omega, by go_num, by rw [roleTo_no hlt8 hq], hp1.drewN _⟩
        · have hj8 : j = 8 := by omega
          have hr : roleTo s[k] j = lix s[k] := by rw [hj8]; exact roleTo_lix _
          have hjd : decide ((j : Int) < 8) = false := by simp; omega
          obtain ⟨c0, c1, f0, f1⟩ := hp1.cells
          have hsz := hp1.size
          have HQ' := HQ
          rcases lix_cases s[k] with ⟨x0, x8, _, hasc'⟩ | ⟨hx, _⟩
          · rw [← hr] at x0 x8
            have Hstep := Lib.hid (show parseL (s.data.toList.drop k) k xs = parseL (s.data.toList.drop (k + 1)) (k + 1) (xs ++ [roleTo s[k] j]) by
              rw [Hdrop.out, hr]
              show (if lix s[k] < 0 then _ else _) = _
              rw [if_neg (by omega)])
            clear hr hasc' hj8
            generalize roleTo s[k] j = x at *
            have hmid : OwnI (wr.alloc (.cells #[.int .i64 x] 3)) (w.heap.size + 1) A n c xs := Own.alloc hp1.own _
            have hcn := cell_new1 wr (.int .i64 x) 3 wr.heap.size rfl
            go_wp2_with (first | (at_builtin; refine wpList_ap1 _ rfl _ _ rfl (w.heap.size + 1) A n c xs rfl hmid ⟨wr.heap.size, 0, none⟩ 1 x rfl hcn (by omega) (by simp; omega) ?_; intro A2 c2 w2 hown2 hg2))
            go_roundg (s.size - (k + 1))
            case measure => omega
            case rel => exact ⟨k + 1, A2, n + 1, c2, _, rfl, by omega, by omega, rfl, by go_num, hp1.put hown2 hg2, Hstep.out.symm.trans HQ.out⟩
          · rw [← hr] at hx
            have Hfin := Lib.hid (show parseL s.data.toList 0 [] = ([], 3, (k : Int)) by
              rw [← HQ.out, Hdrop.out]
              show (if lix s[k] < 0 then _ else _) = _
              rw [if_pos (by omega)])
            have hx0 : roleTo s[k] j < 0 := by omega
            clear hr hx hj8
            generalize roleTo s[k] j = x at *
            go_wp2
            refine bodyPost_ret (v := .tuple #[.slice none 0 0, .agg #[.int .i64 3, .int .i64 k]]) (by simp [results, Tryd.results19, go_sem, c0, c1]) rfl ?_
            rw [Hfin.out]
            exact ⟨none, 0, rfl, GI.nil _, (hp1.old.setCell (Nat.le_refl _) _).setCell (Nat.le_refl _) _⟩
    · obtain ⟨c0, c1, f0, f1⟩ := hp.cells
      have Hfin := Lib.hid (show parseL s.data.toList 0 [] = (xs, 0, 0) by
        rw [← HQ.out, List.drop_eq_nil_of_le (by simpa using hlt)]; rfl)
      go_wp2
      refine bodyPost_ret (v := .tuple #[.slice A n c, .agg #[.int .i64 0, .int .i64 0]]) (by simp [results, Tryd.results19, go_sem, c0, c1]) rfl ?_
      rw [Hfin.out]
      have far : Value.ownBlock (.slice A n c) ≠ some w.heap.size := fun e => by have := (hp.own.lt _ e).1; omega
      have hown : OwnI ((wr.setCell ⟨w.heap.size, 0, none⟩ (.int .i64 0)).setCell ⟨w.heap.size, 1, none⟩ (.int .i64 0)) (w.heap.size + 1) A n c xs :=
        Own.setCell_far (Own.setCell_far hp.own (p := ⟨w.heap.size, 0, none⟩) far _) (p := ⟨w.heap.size, 1, none⟩) far _
      have hl := hp.own.len
      subst hl
      exact ⟨A, c, rfl, hown.gi, (hp.old.setCell (Nat.le_refl _) _).setCell (Nat.le_refl _) _⟩

set_option maxHeartbeats 400000 in
theorem sParse_any (s : ByteArray) (hs : s.size ≤ 9223372036854775807) (w : World) :
    Calls Tryd.prog 19 #[.string s] w (RetF w (parseR s.data.toList)) := by
  have hsz : s.data.toList.length = s.size := by simp
  by_cases h : s.size ≤ 256
  · rw [show parseR s.data.toList = parseL s.data.toList 0 [] by unfold parseR; rw [if_neg (by omega)]]
    exact sParse_in s h w
  · rw [show parseR s.data.toList = ([], 4, 256) by unfold parseR; rw [if_pos (by omega)]]
    have hlt : 256 < s.size := by omega
    clear hsz
    go_enter Tryd.func19, Tryd.ntmps19
    go_wp2
    refine bodyPost_ret (v := .tuple #[.slice none 0 0, .agg #[.int .i64 4, .int .i64 256]]) (by simp [results, Tryd.results19, go_sem]) rfl ?_
    exact ⟨none, 0, rfl, GI.nil _, (Below.refl _ _).alloc (Nat.le_refl _) _⟩
end Go.Proofs.YtfacdnpgidnafaaDoor
