/- The statements' made; Text, in the program and in the reference. -/
import Derived.Test.YtfacdnpgidnafaaDoorB2
import Derived.Test.YtfacdnpgidnafaaDoorA5
namespace Go.Proofs.YtfacdnpgidnafaaDoor
open Go.RowKit

def madeL (xs : List Int) : List Int := (xs.take 30).map (· % 8)

theorem made_step (xs : List Int) (k : Nat) (h : k < xs.length) : (xs.take (k + 1)).map (· % 8) = (xs.take k).map (· % 8) ++ [xs[k]?.getD 0 % 8] := by
  rw [List.take_succ_eq_append_getElem h, List.map_append, List.getElem?_eq_getElem h]; rfl

/-- A list of the call's own, nothing that was there changed. -/
structure MadeAt (w : World) (A : Option Addr) (n c : Nat) (ys : List Int) (wr : World) : Prop where
  own : OwnI wr w.heap.size A n c ys
  old : Below w.heap.size w wr
theorem MadeAt.put {w wr w1 : World} {A A' : Option Addr} {n c c' : Nat} {ys : List Int} {x : Int} (h : MadeAt w A n c ys wr) (h1 : OwnI w1 w.heap.size A' (n + 1) c' (ys ++ [x]))
    (hg : (wr.alloc (.cells #[.int .i64 x] 3)).grownBy w1 (Value.ownBlock (.slice A n c))) : MadeAt w A' (n + 1) c' (ys ++ [x]) w1 :=
  ⟨h1, (h.old.alloc h.old.size _).grown hg (by have := h.old.size; simp; omega) (fun k hk => (h.own.lt k hk).1)⟩

set_option maxHeartbeats 1000000 in
theorem made_any (A : Option Addr) (c : Nat) (xs : List Int) (w : World) (ha : GI w A c xs) :
    Calls Tryd.prog 20 #[.slice A xs.length c] w (RetI w (madeL xs) fun v => .returned v) := by
  have hl := ha.len
  go_enter Tryd.func20, Tryd.ntmps20
  go_wp2
  go_loopg [3, 4] 30 (fun g v i wx => ∃ (k : Nat) (A : Option Addr) (c : Nat), g = 30 - k ∧ k ≤ 30 ∧ k ≤ xs.length ∧ v = .slice A k c ∧ i = .int .i64 k ∧ MadeAt w A k c ((xs.take k).map (· % 8)) wx)
  case atStart => exact ⟨0, _, _, rfl, by omega, by omega, rfl, rfl, OwnI.none _ _, Below.refl _ _⟩
  case round =>
    obtain ⟨k, A1, c1, rfl, hk, hkl, rfl, rfl, hm⟩ := hrel
    by_cases hlt : k < xs.length
    · by_cases hlt3 : k < 30
      · obtain ⟨ad, rfl, _, hca⟩ := (ha.below hm.old).at_ hlt
        have Hst := Lib.hid (made_step xs k hlt)
        have hkd : decide ((k : Int) < 30) = true := by simp; omega
        clear ha
        generalize xs[k]?.getD 0 = x at *
        generalize (xs.take k).map (· % 8) = ys at *
        have hmid : OwnI (wr.alloc (.cells #[.int .i64 (x % 8)] 3)) w.heap.size A1 k c1 ys := Own.alloc hm.own _
        have hcn := cell_new1 wr (.int .i64 (x % 8)) 3 wr.heap.size rfl
        have hs := hm.old.size
        go_wp2_with (first | (go_at_call 22; refine (mod_any x 8 (by omega) (by omega) _).mono ?_; rintro e w' ⟨rfl, rfl⟩) | (at_builtin; refine wpList_ap1 _ rfl _ _ rfl w.heap.size A1 k c1 ys rfl hmid ⟨wr.heap.size, 0, none⟩ 1 (x % 8) rfl hcn (by omega) (by simp; omega) ?_; intro A2 c2 w2 hown2 hg2))
        go_roundg (30 - (k + 1))
        case measure => omega
        case rel => exact ⟨k + 1, A2, c2, rfl, by omega, by omega, rfl, by go_num, by rw [Hst.out]; exact hm.put hown2 hg2⟩
      · have hk30 := Lib.hid (show k = 30 by omega)
        have hkd : decide ((k : Int) < 30) = false := by simp; omega
        go_wp2
        go_ret
        have e : madeL xs = (xs.take k).map (· % 8) := by rw [hk30.out]; rfl
        rw [e]
        have hl3 := hm.own.len
        exact ⟨A1, c1, by rw [← hl3]; rfl, hm.own.gi, hm.old⟩
    · have e : madeL xs = (xs.take k).map (· % 8) := by
        unfold madeL
        rw [List.take_of_length_le (show xs.length ≤ 30 by omega), List.take_of_length_le (show xs.length ≤ k by omega)]
      have E := Lib.hid e; clear e
      go_wp2
      go_ret
      rw [E.out]
      have hl3 := hm.own.len
      exact ⟨A1, c1, by rw [← hl3]; rfl, hm.own.gi, hm.old⟩

/-! Bytes. -/
def bv (bs : List UInt8) : List Value := bs.map fun b => .int .u8 (b.toNat : Int)
def OwnB (w : World) (base : Nat) (A : Option Addr) (n c : Nat) (bs : List UInt8) : Prop := Own w base 5 1 (.slice A n c) n (bv bs)
theorem byte_info : (Tryd.prog.info? 5).map (fun i => (i.zero, i.size, i.bytes)) = some (some (.int .u8 0), 1, 1) := by kernel_rfl

theorem wpList_apB (w : World) {ops : Array Oper} {rest : List Oper} {o : Oper} {a : Act} {Q : Exit → Act → World → Prop} (hgd : o.guard = none) (s x : Operand)
    (ho : o.op = .call { callee := .builtin .append, args := #[s, x], argTypes := #[61, 61] })
    (base : Nat) (A : Option Addr) (n c : Nat) (bs : List UInt8) (hs : a.eval s = .slice A n c) (hown : OwnB w base A n c bs)
    (ad : Addr) (c1 : Nat) (b : UInt8) (hx : a.eval x = .slice (some ad) 1 c1) (hcell : w.cell? ad = some (.int .u8 (b.toNat : Int))) (hn : n ≤ 2147483648) (hbase : base ≤ w.heap.size)
    (h : ∀ A' c' w', OwnB w' base A' (n + 1) c' (bs ++ [b]) → w.grownBy w' (Value.ownBlock (.slice A n c)) → wpList Tryd.prog ops Q rest (a.put o.dst (.slice A' (n + 1) c')) w') : wpList Tryd.prog ops Q (o :: rest) a w := by
  obtain ⟨i0, hi, hz0, hz1, hz2⟩ := info_parts byte_info
  refine wpList_appendG w hgd s x 61 ho base 5 i0 (.int .u8 0) 1 1 Tryd.underlying61 hi hz0 hz1 hz2 rfl (by omega) _ n (bv bs) hs hown (ad.block + 1) (some ad) 1 c1 [.int .u8 (b.toNat : Int)] hx
    ⟨rfl, fun _ => ⟨ad, rfl, by omega, fun j u hu => ?_⟩⟩ (by simp [Value.oneCell']) (by simp only [maxLen]; omega) (by omega) hbase (fun A' c' w' h2 h3 _ => h A' c' w' (by unfold OwnB; rw [show bv (bs ++ [b]) = bv bs ++ [.int .u8 (b.toNat : Int)] by simp [bv]]; exact h2) h3)
  match j, hu with
  | 0, hu => simp at hu; subst hu; exact hcell
  | j + 1, hu => simp at hu

theorem OwnB.len {w : World} {base : Nat} {A : Option Addr} {n c : Nat} {bs : List UInt8} (h : OwnB w base A n c bs) : n = bs.length := by
  have := h.1
  simp [bv] at this
  omega
theorem OwnB.conv {w : World} {base : Nat} {A : Option Addr} {n c : Nat} {bs : List UInt8} (h : OwnB w base A n c bs) : (convert 61 9 (.slice A n c)).run Tryd.prog w = .ok (.string ⟨bs.toArray⟩) w := by
  have hn := h.len
  subst hn
  rcases A with _ | ad
  · have hb : bs = [] := by
      rcases bs with _ | ⟨b, bs⟩
      · rfl
      · obtain ⟨g, off, hA, _⟩ := Own.cells h (by simp)
        cases hA
    subst hb
    exact run_convert_bytes_nil (P := Tryd.prog) w 61 5 Tryd.underlying61 Tryd.underlying5 0 c 9 Tryd.underlying9
  · refine run_convert_bytes_back (P := Tryd.prog) w 61 9 5 ad c bs Tryd.underlying61 Tryd.underlying5 Tryd.underlying9 (fun j hj => ?_)
    obtain ⟨ad', hA, _, hc⟩ := h.sl.2 (by omega)
    injection hA with hA
    subst hA
    exact hc j _ (by simp [bv, hj])

def textL (xs : List Int) : List UInt8 := xs.map fun r => lets[r.toNat]?.getD 0
theorem text_step (xs : List Int) (k : Nat) (h : k < xs.length) : textL (xs.take (k + 1)) = textL (xs.take k) ++ [lets[(xs[k]?.getD 0).toNat]?.getD 0] := by
  unfold textL
  rw [List.take_succ_eq_append_getElem h, List.map_append, List.getElem?_eq_getElem h]; rfl

structure TextAt (w : World) (A : Option Addr) (n c : Nat) (bs : List UInt8) (wr : World) : Prop where
  own : OwnB wr w.heap.size A n c bs
  old : Below w.heap.size w wr

set_option maxHeartbeats 1000000 in
theorem Text_in (A : Option Addr) (c : Nat) (xs : List Int) (w : World) (ha : GI w A c xs) (hv : VL xs) :
    Calls Tryd.prog 21 #[.slice A xs.length c] w (RetB w (.returned (.tuple #[.string ⟨(textL xs).toArray⟩, .int .i64 0]))) := by
  have hl := hv.1
  obtain ⟨i0, hi, hz0, hz1, hz2⟩ := info_parts byte_info
  have hmk : ∀ W : World, ∃ F : Array Value, F.size = xs.length ∧ (Instr.makeSlice 61 (.int .i64 0) (.int .i64 xs.length)).run Tryd.prog W = .ok (.slice (some ⟨W.heap.size, 0, none⟩) 0 xs.length) (W.alloc (.cells F 5)) := fun W => by
    have hr := run_make (P := Tryd.prog) W 61 5 i0 _ Tryd.underlying61 hi hz0 .i64 .i64 0 (xs.length : Int) (by omega) (by omega) (by rw [hz2]; omega) (by omega)
    refine ⟨_, ?_, by simpa using hr⟩
    rw [hz1]
    simp [madeCells]
  obtain ⟨F, hF, hmk⟩ := hmk w
  have HF := Lib.hid hF
  clear hi hz0 hz1 hz2 hF
  go_enter Tryd.func21, Tryd.ntmps21
  go_wp2_with fail
  refine (Check_yes A c xs w ha hv).mono ?_
  rintro e w' ⟨rfl, rfl⟩
  go_wp2
  clear hmk
  go_loopg [6, 22] xs.length (fun g v i wx => ∃ (k : Nat) (A : Option Addr) (c : Nat), g = xs.length - k ∧ k ≤ xs.length ∧ v = .slice A k c ∧ i = .int .i64 k ∧ TextAt w A k c (textL (xs.take k)) wx)
  case atStart => exact ⟨0, _, _, rfl, by omega, rfl, rfl, ⟨rfl, .inr ⟨w.heap.size, 0, xs.length, F, rfl, Nat.le_refl _, heap_alloc_new w _, by omega, by simp only [maxLen]; omega, by rw [HF.out]; omega, by simp [textL, bv]⟩⟩, (Below.refl _ _).alloc (Nat.le_refl _) _⟩
  case round =>
    obtain ⟨k, A1, c1, rfl, hk, rfl, rfl, hm⟩ := hrel
    by_cases hlt : k < xs.length
    · obtain ⟨ad, rfl, _, hca⟩ := (ha.below hm.old).at_ hlt
      have Hst := Lib.hid (text_step xs k hlt)
      obtain ⟨b0, b8⟩ := isR_getD hv.2 k
      generalize xs[k]?.getD 0 = x at *
      obtain ⟨x, rfl⟩ := Int.eq_ofNat_of_zero_le b0
      have hx8 : x < 8 := by omega
      have Hb := Lib.hid (lets_at x hx8)
      have hmid : OwnB (wr.alloc (.cells #[.int .u8 ((({ data := #[46, 80, 83, 84, 77, 87, 82, 79] } : ByteArray)[x]'hx8).toNat : Int)] 5)) w.heap.size A1 k c1 (textL (xs.take k)) := Own.alloc hm.own _
      have hcn := cell_new1 wr (.int .u8 ((({ data := #[46, 80, 83, 84, 77, 87, 82, 79] } : ByteArray)[x]'hx8).toNat : Int)) 5 wr.heap.size rfl
      have hs := hm.old.size
      go_wp2_with (first | (at_builtin; refine wpList_apB _ rfl _ _ rfl w.heap.size A1 k c1 (textL (xs.take k)) rfl hmid ⟨wr.heap.size, 0, none⟩ 1 (({ data := #[46, 80, 83, 84, 77, 87, 82, 79] } : ByteArray)[x]'hx8) rfl hcn (by omega) (by simp; omega) ?_; intro A2 c2 w2 hown2 hg2))
      go_roundg (xs.length - (k + 1))
      case measure => omega
      case rel =>
        refine ⟨k + 1, A2, c2, rfl, by omega, rfl, by go_num, ?_, ?_⟩
        · rw [Hst.out, Int.toNat_natCast, ← Hb.out]
          exact hown2
        · exact (hm.old.alloc hm.old.size _).grown hg2 (by simp; omega) (fun j hj => (hm.own.lt j hj).1)
    · have Hk := Lib.hid (show xs.take k = xs from List.take_of_length_le (by omega))
      have hconv := hm.own.conv
      rw [Hk.out] at hconv
      generalize textL xs = bs at *
      go_wp2
      go_ret2
      exact ⟨rfl, hm.old⟩

/-- What Text returns. -/
def textR (xs : List Int) : List UInt8 × Int := if (chk xs).1 = 0 then (textL xs, 0) else ([], (chk xs).1)

set_option maxHeartbeats 1000000 in
theorem Text_any (A : Option Addr) (c : Nat) (xs : List Int) (w : World) (ha : GI w A c xs) :
    Calls Tryd.prog 21 #[.slice A xs.length c] w (RetB w (.returned (.tuple #[.string ⟨(textR xs).1.toArray⟩, .int .i64 (textR xs).2]))) := by
  by_cases hv : VL xs
  · rw [show textR xs = (textL xs, 0) by unfold textR; rw [chk_vl hv]; rfl]
    exact Text_in A c xs w ha hv
  · rw [show textR xs = ([], (chk xs).1) by unfold textR; rw [if_neg (chk_not hv)]]
    have Hck := Lib.hid (Check_any A c xs w ha)
    have hk : ((chk xs).1 != 0) = true := by simpa using chk_not hv
    generalize chk xs = q at *
    obtain ⟨q1, q2⟩ := q
    simp only at hk
    go_enter Tryd.func21, Tryd.ntmps21
    go_wp2_with fail
    refine Hck.out.mono ?_
    rintro e w' ⟨rfl, rfl⟩
    go_wp2
    go_ret2
    exact ⟨rfl, Below.refl _ _⟩

theorem cut_let : ∀ x, x < 8 → ({ data := #[46, 80, 83, 84, 77, 87, 82, 79] } : ByteArray).extract x (x + 1) = ⟨#[lets[x]?.getD 0]⟩ := by decide
theorem run_cut_let (W : World) (x : Nat) (hx : x < 8) : (Instr.slice 9 (.string { data := #[46, 80, 83, 84, 77, 87, 82, 79] }) (some (.int .i64 x)) (some (.int .i64 ((x : Int) + 1))) none).run Tryd.prog W = .ok (.string ⟨#[lets[x]?.getD 0]⟩) W := by
  have b1 := run_sliceBound (P := Tryd.prog) (w := W) .i64 ((x : Int) + 1) 8 .sliceAlen (by omega) (by omega)
  have b2 := run_sliceBound (P := Tryd.prog) (w := W) .i64 (x : Int) (x + 1) .sliceB (by omega) (by omega)
  have hs : ({ data := #[46, 80, 83, 84, 77, 87, 82, 79] } : ByteArray).size = 8 := rfl
  have e1 : ((x : Int) + 1).toNat = x + 1 := by omega
  simp [Instr.slice, run_underlying Tryd.underlying9, Instr.sliceBounds, hs, b1, b2, e1, cut_let x hx]

theorem run_add_let (W : World) (bs : List UInt8) (b : UInt8) (h : bs.length ≤ 1000) : (Op.stringOp .add ⟨bs.toArray⟩ ⟨#[b]⟩).run Tryd.prog W = .ok (.string ⟨(bs ++ [b]).toArray⟩) W := by
  have h1 : (ByteArray.mk bs.toArray).size = bs.length := by show bs.toArray.size = _; simp
  have h2 : (ByteArray.mk #[b]).size = 1 := rfl
  rw [run_string_add_sum W _ _ (by rw [h1, h2]; omega)]
  have e : (ByteArray.mk bs.toArray ++ ByteArray.mk #[b]) = ⟨(bs ++ [b]).toArray⟩ := by
    apply ByteArray.ext
    simp
  rw [e]

set_option maxHeartbeats 1000000 in
theorem sText_in (A : Option Addr) (c : Nat) (xs : List Int) (w : World) (ha : GI w A c xs) (hv : VL xs) :
    Calls Tryd.prog 30 #[.slice A xs.length c] w (RetB w (.returned (.tuple #[.string ⟨(textL xs).toArray⟩, .int .i64 0]))) := by
  have hl := hv.1
  go_enter Tryd.func30, Tryd.ntmps30
  go_wp2_with fail
  refine (sCheck_yes A c xs w ha hv).mono ?_
  rintro e w' ⟨rfl, rfl⟩
  go_wp2
  go_loopg [6, 7] xs.length (fun g v i wx => ∃ k : Nat, g = xs.length - k ∧ k ≤ xs.length ∧ i = .int .i64 k ∧ v = .string ⟨(textL (xs.take k)).toArray⟩ ∧ Below w.heap.size w wx)
  case atStart => exact ⟨0, rfl, by omega, rfl, rfl, Below.refl _ _⟩
  case round =>
    obtain ⟨k, rfl, hk, rfl, rfl, hb⟩ := hrel
    by_cases hlt : k < xs.length
    · obtain ⟨ad, rfl, _, hca⟩ := (ha.below hb).at_ hlt
      have Hst := Lib.hid (text_step xs k hlt)
      obtain ⟨b0, b8⟩ := isR_getD hv.2 k
      generalize xs[k]?.getD 0 = x at *
      obtain ⟨x, rfl⟩ := Int.eq_ofNat_of_zero_le b0
      have hx8 : x < 8 := by omega
      have hbl : (textL (xs.take k)).length ≤ 256 := by unfold textL; rw [List.length_map, List.length_take]; omega
      generalize textL (xs.take k) = bs at *
      have hadd := fun W => run_add_let W bs (lets[x]?.getD 0) (by omega)
      clear hbl
      have i1 : (0 : Int) ≤ k := by omega
      have i2 : (k : Int) < xs.length := by omega
      have j1 : (0 : Int) ≤ (x : Int) + 1 := by omega
      have j2 : (x : Int) + 1 ≤ 8 := by omega
      have j3 : (x : Int) ≤ (x : Int) + 1 := by omega
      have j4 : IntKind.i64.wrap ((x : Int) + 1) = (x : Int) + 1 := IntWalk.i64_in _ (by omega)
      have hcut := fun W => run_cut_let W x hx8
      go_wp2
      go_quiet (fail)
      go_wp2
      go_roundg (xs.length - (k + 1))
      case measure => omega
      case rel => exact ⟨k + 1, rfl, by omega, by go_num, by rw [Hst.out, Int.toNat_natCast], below_drewN' hb _⟩
    · have Hk := Lib.hid (show xs.take k = xs from List.take_of_length_le (by omega))
      go_wp2
      go_ret2
      have e : textL (xs.take k) = textL xs := by rw [Hk.out]
      exact ⟨by rw [← e]; rfl, hb⟩

set_option maxHeartbeats 1000000 in
theorem sText_any (A : Option Addr) (c : Nat) (xs : List Int) (w : World) (ha : GI w A c xs) :
    Calls Tryd.prog 30 #[.slice A xs.length c] w (RetB w (.returned (.tuple #[.string ⟨(textR xs).1.toArray⟩, .int .i64 (textR xs).2]))) := by
  by_cases hv : VL xs
  · rw [show textR xs = (textL xs, 0) by unfold textR; rw [chk_vl hv]; rfl]
    exact sText_in A c xs w ha hv
  · rw [show textR xs = ([], (chk xs).1) by unfold textR; rw [if_neg (chk_not hv)]]
    have Hck := Lib.hid (sCheck_any A c xs w ha)
    have hk : ((chk xs).1 != 0) = true := by simpa using chk_not hv
    generalize chk xs = q at *
    obtain ⟨q1, q2⟩ := q
    simp only at hk
    go_enter Tryd.func30, Tryd.ntmps30
    go_wp2_with fail
    refine Hck.out.mono ?_
    rintro e w' ⟨rfl, rfl⟩
    go_wp2
    go_ret2
    exact ⟨rfl, Below.refl _ _⟩
end Go.Proofs.YtfacdnpgidnafaaDoor
