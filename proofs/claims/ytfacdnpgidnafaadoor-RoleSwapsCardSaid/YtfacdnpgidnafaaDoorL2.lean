/- The laws RoleBack and RoleWays: each returns true, and nothing that was there has changed. -/
import Derived.Test.YtfacdnpgidnafaaDoorB3
import Derived.Test.YtfacdnpgidnafaaDoorL1
namespace Go.Proofs.YtfacdnpgidnafaaDoor
open Go.RowKit

theorem lix_let : ∀ r : Nat, r < 8 → lix (lets[r]?.getD 0) = (r : Int) := by decide
theorem parse_text (ys : List Int) (h : ∀ x ∈ ys, isR x = true) (i : Nat) (acc : List Int) : parseL (textL ys) i acc = (acc ++ ys, 0, 0) := by
  induction ys generalizing i acc with
  | nil => simp [textL, parseL]
  | cons y ys ih =>
    obtain ⟨y0, y8⟩ := isR_iff.1 (h y (by simp))
    obtain ⟨y, rfl⟩ := Int.eq_ofNat_of_zero_le y0
    have e := lix_let y (by omega)
    show parseL ((lets[(y : Int).toNat]?.getD 0) :: textL ys) i acc = _
    rw [Int.toNat_natCast]
    unfold parseL
    rw [e, if_neg (by omega), ih (fun x hx => h x (by simp [hx]))]
    simp
theorem text_len (ys : List Int) : (textL ys).length = ys.length := by simp [textL]
theorem parse_back {ys : List Int} (h : VL ys) : parseR (textL ys) = (ys, 0, 0) := by
  unfold parseR
  rw [text_len, if_neg (by have := h.1; omega), parse_text ys h.2]
  simp
theorem made_vl (xs : List Int) : VL (madeL xs) := by
  refine ⟨by simp [madeL]; omega, fun x hx => ?_⟩
  simp only [madeL, List.mem_map] at hx
  obtain ⟨y, _, rfl⟩ := hx
  exact isR_yes (Int.emod_nonneg _ (by decide)) (Int.emod_lt_of_pos _ (by decide))
theorem made_len (xs : List Int) : (madeL xs).length ≤ 30 := by simp [madeL]; omega

set_option maxHeartbeats 1000000 in
theorem roleBack_walk (A : Option Addr) (c : Nat) (xs : List Int) (w : World) (hL : Laid w) (h0 : 0 < w.heap.size) (ha : GI w A c xs) (_ : ∀ x ∈ xs, (Lit.int .i64 x).wf = true) :
    Calls Tryd.prog 5 #[.slice A xs.length c] w (RetB w (.returned (.bool true))) := by
  have hvl := made_vl xs
  have hml := made_len xs
  go_enter Tryd.func5, Tryd.ntmps5
  go_wp2_with fail
  refine (made_any A c xs w ha).mono ?_
  rintro e w1 ⟨A1, c1, rfl, hg1, hb1⟩
  generalize madeL xs = ys at *
  go_wp2_with fail
  refine (Text_in A1 c1 ys w1 hg1 hvl).mono ?_
  rintro e w2 ⟨rfl, hb2⟩
  have hsz : (ByteArray.mk (textL ys).toArray).size = ys.length := by show (textL ys).toArray.size = _; simp [text_len]
  have hp := Parse_any ⟨(textL ys).toArray⟩ (by rw [hsz]; omega) w2
  rw [show (ByteArray.mk (textL ys).toArray).data.toList = textL ys by simp, parse_back hvl] at hp
  have Hp := Lib.hid hp
  clear hp
  generalize ByteArray.mk (textL ys).toArray = s at *
  go_wp2_with fail
  refine Hp.out.mono ?_
  rintro e w3 ⟨A3, c3, rfl, hg3, hb3⟩
  simp only at hg3
  have hb13 := below_step (below_step hb1 hb2) hb3
  have hs3 := hb13.size
  have hbb : Below w.heap.size w (w3.alloc (.cells #[.int .i64 0, .int .i64 0] 32)) := hb13.alloc hs3 _
  have hL2 := hL.below h0 hbb
  have hg1' : GI (w3.alloc (.cells #[.int .i64 0, .int .i64 0] 32)) A1 c1 ys := ((hg1.below hb2).below hb3).alloc _
  have q1 : ((s.size : Int) == (ys.length : Int)) = true := by rw [hsz]; simp
  have q2 : (s.size == ys.length) = true := by rw [hsz]; simp
  have Hsz := Lib.hid hsz; clear hsz
  go_wp2_with fail
  refine (sameInts_yes A3 A1 c3 c1 ys _ (hg3.alloc _) hg1').mono ?_
  rintro e w4 ⟨rfl, k, rfl⟩
  go_wp2_with fail
  refine (awake_any _ (Laid.drewN hL2 k) (Nat.lt_of_lt_of_le h0 hbb.size)).mono ?_
  rintro e w5 ⟨rfl, hb5⟩
  go_wp2
  go_ret
  exact ⟨rfl, below_step (below_drewN' hbb k) hb5⟩

/-- The role before step k of a path. -/
def cur (f : Nat) (l : List Int) (k : Nat) : Int := if k = 0 then (f : Int) else l[k - 1]?.getD 0
def okW (f t : Nat) : Bool :=
  let l := (pathB f t).1
  if (pathB f t).2 = 0 then
    (decide (f = 1 → t = f) && decide (f = 0 → l.length ≤ 3) && decide (t = 0 → f ≠ t → l.length = 1) && decide (l.length ≤ 8) && decide (cur f l l.length = t) &&
      (List.range l.length).all fun k => decide (changeR [cur f l k] 0 (l[k]?.getD 0) = ([l[k]?.getD 0], 0)))
  else decide ((pathB f t).2 = 14) && decide (f = 1) && decide (t ≠ f)
theorem ways_ok : ∀ f, f < 8 → ∀ t, t < 8 → okW f t = true := by decide +kernel

set_option maxHeartbeats 1000000 in
set_option maxRecDepth 100000 in
theorem roleWays_walk (x y : Int) (w : World) (hL : Laid w) (h0 : 0 < w.heap.size) (_ : (Lit.int .i64 x).wf = true) (_ : (Lit.int .i64 y).wf = true) :
    Calls Tryd.prog 6 #[.int .i64 x, .int .i64 y] w (RetB w (.returned (.bool true))) := by
  obtain ⟨f, hf⟩ := Int.eq_ofNat_of_zero_le (show 0 ≤ x % 8 from Int.emod_nonneg _ (by decide))
  obtain ⟨t, ht⟩ := Int.eq_ofNat_of_zero_le (show 0 ≤ y % 8 from Int.emod_nonneg _ (by decide))
  have f8 : f < 8 := by have := Int.emod_lt_of_pos x (show (0 : Int) < 8 by decide); omega
  have t8 : t < 8 := by have := Int.emod_lt_of_pos y (show (0 : Int) < 8 by decide); omega
  have hmx : ∀ W : World, Calls Tryd.prog 22 #[.int .i64 x, .int .i64 8] W fun e w' => e = .returned (.int .i64 f) ∧ W = w' := fun W => by
    have := mod_any x 8 (by decide) (by decide) W; rwa [hf] at this
  have hmy : ∀ W : World, Calls Tryd.prog 22 #[.int .i64 y, .int .i64 8] W fun e w' => e = .returned (.int .i64 t) ∧ W = w' := fun W => by
    have := mod_any y 8 (by decide) (by decide) W; rwa [ht] at this
  have Hmx := Lib.hid hmx
  have Hmy := Lib.hid hmy
  have Hpa := Lib.hid (Path_in f t f8 t8 w hL h0)
  have hok := ways_ok f f8 t t8
  clear hmx hmy hf ht
  unfold okW at hok
  generalize pathB f t = q at *
  obtain ⟨l, er⟩ := q
  simp only at hok
  by_cases he : er = 0
  · subst he
    simp only [if_true, Bool.and_eq_true, decide_eq_true_eq, List.all_eq_true, List.mem_range] at hok
    obtain ⟨⟨⟨⟨⟨o1, o2⟩, o3⟩, o4⟩, o5⟩, o6⟩ := hok
    have H5 := Lib.hid o5
    have H6 := Lib.hid o6
    have hcase : (f = 1 ∧ t = 1) ∨ (f = 0 ∧ t = 0 ∧ l.length ≤ 3) ∨ (f = 0 ∧ t ≠ 0 ∧ l.length ≤ 3) ∨ (f ≠ 0 ∧ f ≠ 1 ∧ t = 0 ∧ l.length = 1) ∨ (f ≠ 0 ∧ f ≠ 1 ∧ t ≠ 0) := by omega
    clear o1 o2 o3 o5 o6
    have go : ∀ (q1 q2 q3 q4 q5 q6 : Bool), ((f : Int) == 1) = q1 → ((t : Int) != (f : Int)) = q2 → ((f : Int) == 0) = q3 → ((t : Int) == 0) = q4 → ((f : Int) != (t : Int)) = q5 → ((l.length : Int) != 1) = q6 →
        ((q1 = true ∧ q2 = false ∧ q3 = false ∧ q4 = false) ∨ (q1 = false ∧ q3 = true ∧ q4 = true ∧ q5 = false ∧ l.length ≤ 3) ∨ (q1 = false ∧ q3 = true ∧ q4 = false ∧ l.length ≤ 3) ∨ (q1 = false ∧ q3 = false ∧ q4 = true ∧ q5 = true ∧ q6 = false) ∨ (q1 = false ∧ q3 = false ∧ q4 = false)) →
        Calls Tryd.prog 6 #[.int .i64 x, .int .i64 y] w (RetB w (.returned (.bool true))) := by
      intro q1 q2 q3 q4 q5 q6 e1 e2 e3 e4 e5 e6 hq
      clear hcase
      rcases hq with ⟨rfl, rfl, rfl, rfl⟩ | ⟨rfl, rfl, rfl, rfl, l3⟩ | ⟨rfl, rfl, rfl, l3⟩ | ⟨rfl, rfl, rfl, rfl, rfl⟩ | ⟨rfl, rfl, rfl⟩
      all_goals
        go_enter Tryd.func6, Tryd.ntmps6
        go_wp2_with fail
        refine (Hmx.out w).mono ?_
        rintro e w' ⟨rfl, rfl⟩
        go_wp2_with fail
        refine (Hmy.out w).mono ?_
        rintro e w' ⟨rfl, rfl⟩
        go_wp2_with fail
        refine Hpa.out.mono ?_
        rintro e w1 ⟨A1, c1, rfl, hg1, hb1⟩
        have hnew := gi_new w1 [(f : Int)] 3 1 w1.heap.size rfl (by simp) #[.int .i64 (f : Int)] rfl rfl
        have hbn : Below w.heap.size w (w1.alloc (.cells #[.int .i64 (f : Int)] 3)) := hb1.alloc hb1.size _
        have hgn : GI (w1.alloc (.cells #[.int .i64 (f : Int)] 3)) A1 c1 l := hg1.alloc _
        go_wp2
        clear hg1 hb1
        go_loopg [9, 10] l.length (fun g v i wx => ∃ (k : Nat) (A : Option Addr) (c : Nat), g = l.length - k ∧ k ≤ l.length ∧ v = .slice A 1 c ∧ i = .int .i64 k ∧ GI wx A c [cur f l k] ∧ GI wx A1 c1 l ∧ Below w.heap.size w wx)
        case atStart => exact ⟨0, _, _, rfl, by omega, rfl, rfl, hnew, hgn, hbn⟩
        case round =>
          obtain ⟨k, A2, c2, rfl, hk, rfl, rfl, hgk, hgl, hbk⟩ := hrel
          clear hnew hbn hgn
          have hLk := hL.below h0 hbk
          have hpk := Nat.lt_of_lt_of_le h0 hbk.size
          by_cases hlt : k < l.length
          · obtain ⟨ad, rfl, _, hcl⟩ := hgl.at_ hlt
            have hch := Change_any A2 c2 [cur f l k] 0 (l[k]?.getD 0) wr hgk hLk hpk
            rw [H6.out k hlt] at hch
            have Hch := Lib.hid (show Calls Tryd.prog 23 #[.slice A2 1 c2, .int .i64 0, .int .i64 (l[k]?.getD 0)] wr (RetI wr [l[k]?.getD 0] fun v => .returned (.tuple #[v, .int .i64 0])) from hch)
            have Hcur := Lib.hid (show cur f l (k + 1) = l[k]?.getD 0 by simp [cur])
            clear hch
            generalize l[k]?.getD 0 = z at *
            go_wp2_with fail
            go_fit Hch.out
            rintro e w3 ⟨A3, c3, rfl, hg3, hb3⟩
            go_wp2
            go_roundg (l.length - (k + 1))
            case measure => omega
            case rel => exact ⟨k + 1, A3, c3, rfl, by omega, rfl, by go_num, by rw [Hcur.out]; exact hg3, hgl.below hb3, below_step hbk hb3⟩
          · have hke := Lib.hid (show k = l.length by omega)
            obtain ⟨ad, rfl, _, hca⟩ := hgk.at_ (k := 0) (by simp)
            have hcb : wr.cell? ad = some (.int .i64 (t : Int)) := by
              have : wr.cell? (ad.add 0) = some (.int .i64 (cur f l k)) := hca
              rw [hke.out, H5.out] at this
              simpa [Addr.add] using this
            clear hca
            have hcb' : wr.cell? (ad.add 0) = some (.int .i64 (t : Int)) := by simpa [Addr.add] using hcb
            have htt : ((t : Int) == (t : Int)) = true := by simp
            go_wp2_with fail
            refine (awake_any _ hLk hpk).mono ?_
            rintro e w5 ⟨rfl, hb5⟩
            go_wp2
            go_ret
            exact ⟨rfl, below_step hbk hb5⟩
    exact go _ _ _ _ _ _ rfl rfl rfl rfl rfl rfl (by simp only [beq_iff_eq, bne_iff_ne, beq_eq_false_iff_ne, bne_eq_false_iff_eq]; omega)
  · rw [if_neg he] at hok
    simp only [Bool.and_eq_true, decide_eq_true_eq] at hok
    obtain ⟨⟨o1, o2⟩, o3⟩ := hok
    subst o1 o2
    have q3 : ((t : Int) != 1) = true := by simp; omega
    go_enter Tryd.func6, Tryd.ntmps6
    go_wp2_with fail
    refine (Hmx.out w).mono ?_
    rintro e w' ⟨rfl, rfl⟩
    go_wp2_with fail
    refine (Hmy.out w).mono ?_
    rintro e w' ⟨rfl, rfl⟩
    go_wp2_with fail
    refine Hpa.out.mono ?_
    rintro e w1 ⟨A1, c1, rfl, hg1, hb1⟩
    go_wp2_with fail
    refine (awake_any _ (hL.below h0 hb1) (Nat.lt_of_lt_of_le h0 hb1.size)).mono ?_
    rintro e w5 ⟨rfl, hb5⟩
    go_wp2
    go_ret
    exact ⟨rfl, below_step hb1 hb5⟩
end Go.Proofs.YtfacdnpgidnafaaDoor
