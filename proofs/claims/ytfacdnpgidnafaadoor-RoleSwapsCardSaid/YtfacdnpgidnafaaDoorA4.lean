/- strings.IndexByte at the letters; role.Parse and the reference's. -/
import Derived.Test.YtfacdnpgidnafaaDoorP3
import Derived.Lib.OthersKept
import Derived.Lib.Bytealg
namespace Go.Proofs.YtfacdnpgidnafaaDoor
open Go.RowKit

def lets : List UInt8 := [46, 80, 83, 84, 77, 87, 82, 79]
def lix (c : UInt8) : Int := Lib.indexByte lets c

set_option maxHeartbeats 400000 in
theorem indexByte_any (c : UInt8) (w : World) :
    Calls Tryd.prog 43 #[.string { data := #[46, 80, 83, 84, 77, 87, 82, 79] }, .int .u8 c.toNat] w fun e w' => e = .returned (.int .i64 (lix c)) ∧ w = w' := by
  have hx : ∀ W : World, (callFunc 47 #[.string { data := #[46, 80, 83, 84, 77, 87, 82, 79] }, .int .u8 c.toNat]).run Tryd.prog W = .ok (.value (.int .i64 (lix c))) W := fun W => by
    rw [run_callFunc_extern Tryd.func47 (by kernel_rfl) (by kernel_rfl) (by kernel_rfl) (e := Extern.BytealgIndexByte.indexByte) (by kernel_rfl), Lib.run_indexByteString]
    simp only [Result.andThen, Int.toNat_natCast]
    rw [show c.toNat.toUInt8 = c by simp]
    rfl
  go_enter Tryd.func43, Tryd.ntmps43
  go_wp2
  go_ret
  exact ⟨rfl, rfl⟩

theorem lix_cases (c : UInt8) : (0 ≤ lix c ∧ lix c < 8 ∧ lets[(lix c).toNat]? = some c ∧ c.toNat < 128) ∨ (lix c = -1 ∧ c ∉ lets) := by
  by_cases hm : c ∈ lets
  · left
    simp only [lets, List.mem_cons, List.not_mem_nil, or_false] at hm
    rcases hm with h | h | h | h | h | h | h | h <;> subst h <;> decide
  · right
    refine ⟨?_, hm⟩
    simp only [lets, List.mem_cons, List.not_mem_nil, or_false, not_or] at hm
    obtain ⟨h0, h1, h2, h3, h4, h5, h6, h7⟩ := hm
    simp [lix, lets, Lib.indexByte, Ne.symm h0, Ne.symm h1, Ne.symm h2, Ne.symm h3, Ne.symm h4, Ne.symm h5, Ne.symm h6, Ne.symm h7]

/-- What Parse returns: the list, the error, its place. -/
def parseL : List UInt8 → Nat → List Int → List Int × Int × Int
  | [], _, acc => (acc, 0, 0)
  | c :: cs, i, acc => if lix c < 0 then ([], 3, (i : Int)) else parseL cs (i + 1) (acc ++ [lix c])
def parseR (l : List UInt8) : List Int × Int × Int := if 256 < l.length then ([], 4, 256) else parseL l 0 []

/-- The call returned a list and a fault. -/
def RetF (w : World) (r : List Int × Int × Int) (e : Ending) (w' : World) : Prop :=
  ∃ A c, e = .returned (.tuple #[.slice A r.1.length c, .agg #[.int .i64 r.2.1, .int .i64 r.2.2]]) ∧ GI w' A c r.1 ∧ Below w.heap.size w w'

/-- What holds at the head of a round of role.Parse. -/
structure ParseAt (w : World) (s : ByteArray) (k : Nat) (A : Option Addr) (n c : Nat) (xs : List Int) (wr : World) : Prop where
  res : wr.heap[w.heap.size]? = some (.cells #[.int .i64 0, .int .i64 0] 32 (0, 0))
  itr : wr.heap[w.heap.size + 1]? = some (.stringIter s k)
  own : OwnI wr (w.heap.size + 2) A n c xs
  old : Below w.heap.size w wr
section
variable {w wr : World} {s : ByteArray} {k : Nat} {A : Option Addr} {n c : Nat} {xs : List Int}
theorem ParseAt.cells (h : ParseAt w s k A n c xs wr) : wr.cell? ⟨w.heap.size, 0, none⟩ = some (.int .i64 0) ∧ wr.cell? ⟨w.heap.size, 1, none⟩ = some (.int .i64 0) ∧ wr.frozen? ⟨w.heap.size, 0, none⟩ = false ∧ wr.frozen? ⟨w.heap.size, 1, none⟩ = false := by
  refine ⟨?_, ?_, ?_, ?_⟩
  · rw [cell_of_row wr _ 0 _ _ (0, 0) h.res]; rfl
  · rw [cell_of_row wr _ 1 _ _ (0, 0) h.res]; rfl
  · simp [World.frozen?, h.res]
  · simp [World.frozen?, h.res]
theorem ParseAt.size (h : ParseAt w s k A n c xs wr) : w.heap.size + 2 ≤ wr.heap.size := (Array.getElem?_eq_some_iff.1 h.itr).1
theorem ParseAt.next (h : ParseAt w s k A n c xs wr) (hk : k < s.size) :
    ∃ w1 r p', (∀ ty, (Instr.next (.pointer (some ⟨w.heap.size + 1, 0, none⟩)) true ty).run Tryd.prog wr = .ok (.tuple #[.bool true, .int .i64 k, .int .i32 r]) w1) ∧ ParseAt w s p' A n c xs w1 ∧ ((s[k]'hk).toNat < 128 → p' = k + 1) := by
  refine ⟨_, _, k + (Utf8.decode s k).2, fun ty => Lib.run_next_any_at wr (w.heap.size + 1) s k ty h.itr hk, ⟨?_, ?_, ?_, ?_⟩, fun ha => ?_⟩
  · rw [Lib.iterAt_other _ _ _ _ _ (by omega)]; exact h.res
  · exact Lib.iterAt_heap _ _ _ _ _ h.itr
  · refine h.own.kept (row := some (w.heap.size + 1)) ⟨rfl, rfl, rfl, by rw [Lib.iterAt_size]; exact Nat.le_refl _, fun j _ hne => Lib.iterAt_other _ _ _ _ _ (fun e => hne (by rw [e]))⟩ (.inr fun e => ?_)
    have := (h.own.lt _ e).1
    omega
  · exact Lib.below_iterAt h.old (by omega) _ _
  · rw [decode_ascii s k hk ha]
theorem ParseAt.put {w1 : World} {A' : Option Addr} {c' : Nat} {x : Int} (h : ParseAt w s k A n c xs wr) (h1 : OwnI w1 (w.heap.size + 2) A' (n + 1) c' (xs ++ [x]))
    (hg : (wr.alloc (.cells #[.int .i64 x] 3)).grownBy w1 (Value.ownBlock (.slice A n c))) : ParseAt w s k A' (n + 1) c' (xs ++ [x]) w1 := by
  have hs := h.size
  have far : ∀ j, j < w.heap.size + 2 → some j ≠ Value.ownBlock (.slice A n c) := fun j hj e => by
    have := (h.own.lt _ e.symm).1
    omega
  refine ⟨?_, ?_, h1, ?_⟩
  · rw [hg.block _ (by simp; omega) (far _ (by omega)), Below.heap_alloc _ _ _ (by omega)]; exact h.res
  · rw [hg.block _ (by simp; omega) (far _ (by omega)), Below.heap_alloc _ _ _ (by omega)]; exact h.itr
  · refine (h.old.alloc (by omega) _).grown hg (by simp; omega) (fun j hj => ?_)
    have := (h.own.lt j hj).1
    omega
end

set_option maxHeartbeats 1000000 in
theorem Parse_in (s : ByteArray) (hs : s.size ≤ 256) (w : World) :
    Calls Tryd.prog 18 #[.string s] w (RetF w (parseL s.data.toList 0 [])) := by
  have hd0 : decide ((256 : Int) < s.size) = false := by simp; omega
  go_enter Tryd.func18, Tryd.ntmps18
  go_wp2
  go_loopg [4] s.size (fun g v wx => ∃ (k : Nat) (A : Option Addr) (n c : Nat) (xs : List Int), g = s.size - k ∧ k ≤ s.size ∧ n ≤ k ∧ v = .slice A n c ∧ ParseAt w s k A n c xs wx ∧ Hid (parseL (s.data.toList.drop k) k xs = parseL s.data.toList 0 []))
  case atStart =>
    refine ⟨0, _, _, _, [], rfl, by omega, by omega, rfl, ⟨?_, ?_, OwnI.none _ _, ?_⟩, rfl⟩
    · show ((w.heap.push _).push _)[w.heap.size]? = _
      rw [Array.getElem?_push, if_neg (by simp), Array.getElem?_push, if_pos rfl]
    · show ((w.heap.push _).push _)[w.heap.size + 1]? = _
      rw [Array.getElem?_push, if_pos (by simp)]
    · exact ((Below.refl _ _).alloc (Nat.le_refl _) _).alloc (o := .stringIter s 0) (by simp)
  case round =>
    obtain ⟨k, A, n, c, xs, rfl, hk, hn, rfl, hp, HQ⟩ := hrel
    by_cases hlt : k < s.size
    · obtain ⟨w1, r, p', hrun, hp1, hasc⟩ := hp.next hlt
      obtain ⟨c0, c1, f0, f1⟩ := hp1.cells
      have hsz := hp1.size
      clear hp
      have Hdrop := Lib.hid (show s.data.toList.drop k = s[k] :: s.data.toList.drop (k + 1) from List.drop_eq_getElem_cons (by simpa using hlt))
      rcases lix_cases s[k] with ⟨x0, x8, _, hasc'⟩ | ⟨hx, _⟩
      · have Hp := Lib.hid (hasc hasc')
        have Hstep := Lib.hid (show parseL (s.data.toList.drop k) k xs = parseL (s.data.toList.drop (k + 1)) (k + 1) (xs ++ [lix s[k]]) by
          rw [Hdrop.out]
          show (if lix s[k] < 0 then _ else _) = _
          rw [if_neg (by omega)])
        have hmid : OwnI (w1.alloc (.cells #[.int .i64 (lix s[k])] 3)) (w.heap.size + 2) A n c xs := Own.alloc hp1.own _
        have hcn := cell_new1 w1 (.int .i64 (lix s[k])) 3 w1.heap.size rfl
        clear hasc hasc'
        go_wp2_with (first | (go_at_call 43; refine (indexByte_any s[k] _).mono ?_; rintro e w' ⟨rfl, rfl⟩) | (at_builtin; refine wpList_ap1 _ rfl _ _ rfl (w.heap.size + 2) A n c xs rfl hmid ⟨w1.heap.size, 0, none⟩ 1 (lix s[k]) rfl hcn (by omega) (by simp; omega) ?_; intro A2 c2 w2 hown2 hg2))
        go_roundg (s.size - (k + 1))
        case measure => omega
        case rel =>
          have e := Hp.out
          subst e
          exact ⟨k + 1, A2, n + 1, c2, _, rfl, by omega, by omega, rfl, hp1.put hown2 hg2, Hstep.out.symm.trans HQ.out⟩
      · have Hfin := Lib.hid (show parseL s.data.toList 0 [] = ([], 3, (k : Int)) by
          rw [← HQ.out, Hdrop.out]
          show (if lix s[k] < 0 then _ else _) = _
          rw [if_pos (by omega)])
        have hx0 : lix s[k] < 0 := by omega
        clear hx hasc
        go_wp2_with (first | (go_at_call 43; refine (indexByte_any s[k] _).mono ?_; rintro e w' ⟨rfl, rfl⟩))
        refine bodyPost_ret (v := .tuple #[.slice none 0 0, .agg #[.int .i64 3, .int .i64 k]]) (by simp [results, Tryd.results18, go_sem, c0, c1]) rfl ?_
        rw [Hfin.out]
        exact ⟨none, 0, rfl, GI.nil _, (hp1.old.setCell (Nat.le_refl _) _).setCell (Nat.le_refl _) _⟩
    · have hrun := fun ty => Lib.run_next_end_at (P := Tryd.prog) wr (w.heap.size + 1) s k ty hp.itr hlt
      obtain ⟨c0, c1, f0, f1⟩ := hp.cells
      have Hfin := Lib.hid (show parseL s.data.toList 0 [] = (xs, 0, 0) by
        rw [← HQ.out, List.drop_eq_nil_of_le (by simpa using hlt)]; rfl)
      go_wp2
      refine bodyPost_ret (v := .tuple #[.slice A n c, .agg #[.int .i64 0, .int .i64 0]]) (by simp [results, Tryd.results18, go_sem, c0, c1]) rfl ?_
      rw [Hfin.out]
      have far : Value.ownBlock (.slice A n c) ≠ some w.heap.size := fun e => by have := (hp.own.lt _ e).1; omega
      have hown : OwnI ((wr.setCell ⟨w.heap.size, 0, none⟩ (.int .i64 0)).setCell ⟨w.heap.size, 1, none⟩ (.int .i64 0)) (w.heap.size + 2) A n c xs :=
        Own.setCell_far (Own.setCell_far hp.own (p := ⟨w.heap.size, 0, none⟩) far _) (p := ⟨w.heap.size, 1, none⟩) far _
      have hl := hp.own.len
      subst hl
      exact ⟨A, c, rfl, hown.gi, (hp.old.setCell (Nat.le_refl _) _).setCell (Nat.le_refl _) _⟩

set_option maxHeartbeats 400000 in
theorem Parse_any (s : ByteArray) (hs : s.size ≤ 9223372036854775807) (w : World) :
    Calls Tryd.prog 18 #[.string s] w (RetF w (parseR s.data.toList)) := by
  have hsz : s.data.toList.length = s.size := by simp
  by_cases h : s.size ≤ 256
  · rw [show parseR s.data.toList = parseL s.data.toList 0 [] by unfold parseR; rw [if_neg (by omega)]]
    exact Parse_in s h w
  · rw [show parseR s.data.toList = ([], 4, 256) by unfold parseR; rw [if_pos (by omega)]]
    have hlt : 256 < s.size := by omega
    clear hsz
    go_enter Tryd.func18, Tryd.ntmps18
    go_wp2
    refine bodyPost_ret (v := .tuple #[.slice none 0 0, .agg #[.int .i64 4, .int .i64 256]]) (by simp [results, Tryd.results18, go_sem]) rfl ?_
    exact ⟨none, 0, rfl, GI.nil _, (Below.refl _ _).alloc (Nat.le_refl _) _⟩

end Go.Proofs.YtfacdnpgidnafaaDoor
