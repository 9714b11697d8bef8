/- The reference of fault: Check. -/
import Derived.Test.YtbcfnocefjolfaaG8
import Derived.Test.YtbcfnocefjolfaaH1
namespace Go.Proofs.Ytbcfnocefjolfaa
open Go.RowKit
set_option linter.unusedVariables false

/-- The reference's tests of the state are the program's. -/
theorem stE_ref (st kind : Int) (n : Nat) : stE st kind n =
    if (st < 1 ∨ 4 < st) ∨ (accB kind = false ∧ 2 < st) then 9
    else if ((st = 1 ∧ 0 < (n : Int)) ∨ ((st = 2 ∨ st = 4) ∧ (n : Int) = 0)) ∨ mostN kind < (n : Int) then 5 else 0 := by
  have hm : mostN kind = 1 ∨ mostN kind = 9 := by unfold mostN; split <;> simp
  unfold stE lenE
  cases ha : accB kind
  · by_cases h4 : st = 4
    · subst h4; simp
    · by_cases h3 : st = 3
      · subst h3; simp
      · by_cases h2 : st = 2
        · subst h2; simp; omega
        · by_cases h1 : st = 1
          · subst h1; simp; omega
          · rw [if_neg h4, if_neg h3, if_neg h2, if_neg h1, if_pos (by omega)]
  · by_cases h4 : st = 4
    · subst h4; simp; omega
    · by_cases h3 : st = 3
      · subst h3; simp; omega
      · by_cases h2 : st = 2
        · subst h2; simp; omega
        · by_cases h1 : st = 1
          · subst h1; simp; omega
          · rw [if_neg h4, if_neg h3, if_neg h2, if_neg h1, if_pos (by omega)]
theorem slE_ref (st slot : Int) (h : st = 1 ∨ st = 2 ∨ st = 3 ∨ st = 4) :
    (decide (slot < 0) = true ∧ slE st slot = 2) ∨ (decide (slot < 0) = false ∧ ((decide (256 ≤ slot) = true ∧ slE st slot = 2) ∨ (decide (256 ≤ slot) = false ∧
      ((decide (st ≤ 2) = false ∧ slE st slot = 0) ∨ (decide (st ≤ 2) = true ∧ (((slot != 0) = true ∧ slE st slot = 2) ∨ ((slot != 0) = false ∧ slE st slot = 0))))))) := by
  unfold slE frB
  by_cases h1 : slot < 0
  · left; refine ⟨by simp [h1], ?_⟩
    split
    · rw [if_neg (by simp; omega)]
    · rw [if_neg (by omega)]
  · right; refine ⟨by simp; omega, ?_⟩
    by_cases h2 : 256 ≤ slot
    · left; refine ⟨by simp [h2], ?_⟩
      split
      · rw [if_neg (by simp; omega)]
      · rw [if_neg (by omega)]
    · right; refine ⟨by simp; omega, ?_⟩
      by_cases h3 : st ≤ 2
      · right; refine ⟨by simp [h3], ?_⟩
        rw [if_neg (by omega)]
        by_cases h4 : slot = 0
        · right; simp [h4]
        · left; simp [h4]
      · left; refine ⟨by simp; omega, ?_⟩
        rw [if_pos (by omega), if_pos (by simp; omega)]
def tailE (st : Int) (xs : List Int) (slot : Int) : Int := if frE xs 0 xs.length ≠ 0 then frE xs 0 xs.length else slE st slot
structure CkL (w : World) (A : Option Addr) (c : Nat) (xs : List Int) (fs : Array Value) (wx : World) : Prop where
  box : Bx wx w.heap.size 27 fs
  gi : GI wx A c xs
  lo : Below w.heap.size w wx

noncomputable def ck16_l : List Oper := (Try.f43.body.bind (regIn · 16)).getD []
theorem ck16_o0 : ck16_l[0]?.map (fun o => (o.dst, o.op, o.guard)) = some (some 87, .fieldAddr 27 (.tmp 1) 3, none) := by kernel_rfl
theorem ck16_o1 : ck16_l[1]?.map (fun o => (o.dst, o.op, o.guard)) = some (some 88, .load 25 (.tmp 87), none) := by kernel_rfl
theorem ck16_o2 : ck16_l[2]?.map (fun o => (o.dst, o.op, o.guard)) = some (some 89, .move (.tmp 5), none) := by kernel_rfl
theorem ck16_o3 : ck16_l[3]?.map (fun o => (o.dst, o.op, o.guard)) = some (some 90, .slice 25 (.tmp 88) none (some (.tmp 89)) none, none) := by kernel_rfl
theorem ck16_o4 : ck16_l[4]?.map (fun o => (o.dst, o.op, o.guard)) = some (some 91, .fieldAddr 27 (.tmp 1) 3, none) := by kernel_rfl
theorem ck16_o5 : ck16_l[5]?.map (fun o => (o.dst, o.op, o.guard)) = some (some 92, .load 25 (.tmp 91), none) := by kernel_rfl
theorem ck16_o6 : ck16_l[6]?.map (fun o => (o.dst, o.op, o.guard)) = some (some 93, .move (.tmp 5), none) := by kernel_rfl
theorem ck16_o7 : ck16_l[7]?.map (fun o => (o.dst, o.op, o.guard)) = some (some 94, .indexAddr 25 (.tmp 92) (.tmp 93), none) := by kernel_rfl
theorem ck16_o8 : ck16_l[8]?.map (fun o => (o.dst, o.op, o.guard)) = some (some 95, .load 3 (.tmp 94), none) := by kernel_rfl
theorem ck16_o9 : ck16_l[9]?.map (fun o => (o.dst, o.op, o.guard)) = some (some 96, .call { callee := .value (.func 45), args := #[(.tmp 90), (.tmp 95)], argTypes := #[25, 3] }, none) := by kernel_rfl
def ck16_sp (tk kind proc a b val st : Int) (ad : Addr) (c n : Nat) (ys : List Int) (slot : Int) (k : Nat) (x : Int) (qb : Bool) (B1 : Nat) (W : World) : Nat → Spec
  | 0 => ⟨Unit, [87], fun _ => [(87, .pointer (some ⟨B1, 7, none⟩))], fun _ _ => True⟩
  | 1 => ⟨Unit, [88], fun _ => [(88, .slice (some ad) n c)], fun _ _ => True⟩
  | 2 => ⟨Unit, [89], fun _ => [(89, .int .i64 (k : Int))], fun _ _ => True⟩
  | 3 => ⟨Unit, [90], fun _ => [(90, .slice (some ad) k c)], fun _ _ => True⟩
  | 4 => ⟨Unit, [91], fun _ => [(91, .pointer (some ⟨B1, 7, none⟩))], fun _ _ => True⟩
  | 5 => ⟨Unit, [92], fun _ => [(92, .slice (some ad) n c)], fun _ _ => True⟩
  | 6 => ⟨Unit, [93], fun _ => [(93, .int .i64 (k : Int))], fun _ _ => True⟩
  | 7 => ⟨Unit, [94], fun _ => [(94, .pointer (some (ad.add k)))], fun _ _ => True⟩
  | 8 => ⟨Unit, [95], fun _ => [(95, .int .i64 x)], fun _ _ => True⟩
  | 9 => ⟨Unit, [96], fun _ => [(96, .bool qb)], fun _ _ => True⟩
  | _ => ⟨Unit, [], fun _ => [], fun _ _ => True⟩
theorem ck16_fb (tk kind proc a b val st : Int) (ad : Addr) (c n : Nat) (ys : List Int) (slot : Int) (k : Nat) (x : Int) (qb : Bool) (B1 : Nat) (W : World) : slB ck16_l (fun j => (ck16_sp tk kind proc a b val st ad c n ys slot k x qb B1 W j).ss) = true := by kernel_rfl
set_option maxHeartbeats 2000000 in
theorem ck16 {Q : Exit → Act → World → Prop} {a0 : Act} {W : World} (tk kind proc a b val st : Int) (ad : Addr) (c n : Nat) (ys : List Int) (slot : Int) (k : Nat) (x : Int) (qb : Bool) (B1 : Nat)  (z0 : a0.tmps.size = 115) (p1 : Sv a0 1 (.pointer (some ⟨B1, 0, none⟩))) (p5 : Sv a0 5 (.int .i64 (k : Int))) (hx : Bx W B1 27 #[.int .u64 tk, .int .i64 kind, .int .i64 proc, .int .i64 a, .int .i64 b, .int .u64 val, .int .i64 st, .slice (some ad) n c, .int .i64 slot]) (hkc : k ≤ c) (hk1 : k < n) (had : ad.block < W.heap.size) (hca : W.cell? (ad.add k) = some (.int .i64 x)) (hgk : GI W (some ad) c ys) (Hco : Hid (∀ W, GI W (some ad) c ys → Calls Try.prog 45 #[.slice (some ad) k c, .int .i64 x] W fun e w' => e = .returned (.bool qb) ∧ W = w'))
    (fin : ∀ ac w, Fr a0 ck16_l ac → Below W.heap.size W w → (Sv ac 96 (.bool qb)) → Q .normal ac w) : (Code.region 16 ck16_l.toArray true).wp Try.prog Q a0 W := by
  refine region_of (n := 10) (by kernel_rfl) (by kernel_rfl) (by kernel_rfl) (ck16_sp tk kind proc a b val st ad c n ys slot k x qb B1 W) (ck16_fb tk kind proc a b val st ad c n ys slot k x qb B1 W) (fun w => Below W.heap.size W w) (stpN 27 []) (bel0 W) ?_ ?_ ?_
  · intro i hi ac w hF hI hk
    have z := hF.1.trans z0
    have f1 := hF.sv (s := 1) (by kernel_rfl) p1
    have f5 := hF.sv (s := 5) (by kernel_rfl) p5
    match i, hi with
    | 0, _ =>
      exact ob_val (v := .pointer (some ⟨B1, 7, none⟩)) ck16_o0 (.inl rfl) (fun o ho => by have e1 := f1.eval; generalize ac.eval = ρ at *; simp [execOp, ho, e1, go_sem]) ⟨⟨_, rfl⟩, hI, Below.refl _ _, ⟨(), rfl, sv1 (Sv.dst (by kernel_rfl) (by rw [z]; decide) _), trivial⟩⟩
    | 1, _ =>
      obtain ⟨⟨⟩, -, hs0, hw0⟩ := hk 0 (mem_reach (by kernel_rfl))
      have f87 : Sv ac 87 (.pointer (some ⟨B1, 7, none⟩)) := hs0 _ (List.Mem.head _)
      exact ob_val (v := .slice (some ad) n c) ck16_o1 (.inl rfl) (fun o ho => by have e87 := f87.eval; generalize ac.eval = ρ at *; have hc : w.cell? ⟨B1, 7, none⟩ = some (.slice (some ad) n c) := (hx.below hI).cell 7; simp [execOp, ho, e87, hc, go_sem]) ⟨⟨_, rfl⟩, hI, Below.refl _ _, ⟨(), rfl, sv1 (Sv.dst (by kernel_rfl) (by rw [z]; decide) _), trivial⟩⟩
    | 2, _ =>
      exact ob_val (v := .int .i64 (k : Int)) ck16_o2 (.inl rfl) (ev_move f5.eval) ⟨⟨_, rfl⟩, hI, Below.refl _ _, ⟨(), rfl, sv1 (Sv.dst (by kernel_rfl) (by rw [z]; decide) _), trivial⟩⟩
    | 3, _ =>
      obtain ⟨⟨⟩, -, hs1, hw1⟩ := hk 1 (mem_reach (by kernel_rfl))
      have f88 : Sv ac 88 (.slice (some ad) n c) := hs1 _ (List.Mem.head _)
      obtain ⟨⟨⟩, -, hs2, hw2⟩ := hk 2 (mem_reach (by kernel_rfl))
      have f89 : Sv ac 89 (.int .i64 (k : Int)) := hs2 _ (List.Mem.head _)
      exact ob_val (v := .slice (some ad) k c) ck16_o3 (.inl rfl) (fun o ho => by have e88 := f88.eval; have e89 := f89.eval; generalize ac.eval = ρ at *; simp [execOp, ho, e88, e89, run_head _ (some ad) n c k hkc, go_sem]) ⟨⟨_, rfl⟩, hI, Below.refl _ _, ⟨(), rfl, sv1 (Sv.dst (by kernel_rfl) (by rw [z]; decide) _), trivial⟩⟩
    | 4, _ =>
      exact ob_val (v := .pointer (some ⟨B1, 7, none⟩)) ck16_o4 (.inl rfl) (fun o ho => by have e1 := f1.eval; generalize ac.eval = ρ at *; simp [execOp, ho, e1, go_sem]) ⟨⟨_, rfl⟩, hI, Below.refl _ _, ⟨(), rfl, sv1 (Sv.dst (by kernel_rfl) (by rw [z]; decide) _), trivial⟩⟩
    | 5, _ =>
      obtain ⟨⟨⟩, -, hs4, hw4⟩ := hk 4 (mem_reach (by kernel_rfl))
      have f91 : Sv ac 91 (.pointer (some ⟨B1, 7, none⟩)) := hs4 _ (List.Mem.head _)
      exact ob_val (v := .slice (some ad) n c) ck16_o5 (.inl rfl) (fun o ho => by have e91 := f91.eval; generalize ac.eval = ρ at *; have hc : w.cell? ⟨B1, 7, none⟩ = some (.slice (some ad) n c) := (hx.below hI).cell 7; simp [execOp, ho, e91, hc, go_sem]) ⟨⟨_, rfl⟩, hI, Below.refl _ _, ⟨(), rfl, sv1 (Sv.dst (by kernel_rfl) (by rw [z]; decide) _), trivial⟩⟩
    | 6, _ =>
      exact ob_val (v := .int .i64 (k : Int)) ck16_o6 (.inl rfl) (ev_move f5.eval) ⟨⟨_, rfl⟩, hI, Below.refl _ _, ⟨(), rfl, sv1 (Sv.dst (by kernel_rfl) (by rw [z]; decide) _), trivial⟩⟩
    | 7, _ =>
      obtain ⟨⟨⟩, -, hs5, hw5⟩ := hk 5 (mem_reach (by kernel_rfl))
      have f92 : Sv ac 92 (.slice (some ad) n c) := hs5 _ (List.Mem.head _)
      obtain ⟨⟨⟩, -, hs6, hw6⟩ := hk 6 (mem_reach (by kernel_rfl))
      have f93 : Sv ac 93 (.int .i64 (k : Int)) := hs6 _ (List.Mem.head _)
      exact ob_val (v := .pointer (some (ad.add k))) ck16_o7 (.inl rfl) (fun o ho => by have e92 := f92.eval; have e93 := f93.eval; generalize ac.eval = ρ at *; simp [execOp, ho, e92, e93, hk1, go_sem]) ⟨⟨_, rfl⟩, hI, Below.refl _ _, ⟨(), rfl, sv1 (Sv.dst (by kernel_rfl) (by rw [z]; decide) _), trivial⟩⟩
    | 8, _ =>
      obtain ⟨⟨⟩, -, hs7, hw7⟩ := hk 7 (mem_reach (by kernel_rfl))
      have f94 : Sv ac 94 (.pointer (some (ad.add k))) := hs7 _ (List.Mem.head _)
      exact ob_val (v := .int .i64 x) ck16_o8 (.inl rfl) (fun o ho => by have e94 := f94.eval; generalize ac.eval = ρ at *; have hc := (hI.cell (p := ad.add k) (by rw [add_block]; exact had)).trans hca; simp [execOp, ho, e94, hc, go_sem]) ⟨⟨_, rfl⟩, hI, Below.refl _ _, ⟨(), rfl, sv1 (Sv.dst (by kernel_rfl) (by rw [z]; decide) _), trivial⟩⟩
    | 9, _ =>
      obtain ⟨⟨⟩, -, hs3, hw3⟩ := hk 3 (mem_reach (by kernel_rfl))
      have f90 : Sv ac 90 (.slice (some ad) k c) := hs3 _ (List.Mem.head _)
      obtain ⟨⟨⟩, -, hs8, hw8⟩ := hk 8 (mem_reach (by kernel_rfl))
      have f95 : Sv ac 95 (.int .i64 x) := hs8 _ (List.Mem.head _)
      refine ob_call (f := 45) (args := #[.slice (some ad) k c, .int .i64 x]) (w' := w) (R := fun v w'' => v = .bool qb ∧ True ∧ Below w.heap.size w w'') ck16_o9 (.inl rfl) (fun o ho => ?_) ((Hco.out w (hgk.below hI)).mono ?_) ?_
      · have e : execOp ac.eval o = (do let d ← resolve ac.eval { callee := .value (.func 45), args := #[(.tmp 90), (.tmp 95)], argTypes := #[25, 3] } o.type; invoke d.target d.args) := by simp only [execOp, ho]
        have e90 := f90.eval
        have e95 := f95.eval
        have ef : ac.eval (.func 45) = .func (.func 45) #[] #[] := rfl
        rw [e]
        generalize ac.eval = ρ at *
        simp [ef, e90, e95, go_sem]
      · rintro e w' ⟨rfl, rfl⟩; exact ⟨_, rfl, rfl, trivial, Below.refl _ _⟩
      · rintro v w2 ⟨rfl, hwd, hb⟩
        exact ⟨⟨_, rfl⟩, below_step hI hb, hb, ⟨(), rfl, sv1 (Sv.dst (by kernel_rfl) (by rw [z]; decide) _), hwd⟩⟩
    | k + 10, h => exact absurd h (by omega)
  · intro i j hi hj hij x w w' hI hst hw
    match j, hj, x, hw with
    | 0, _, _, _ => exact trivial
    | 1, _, _, _ => exact trivial
    | 2, _, _, _ => exact trivial
    | 3, _, _, _ => exact trivial
    | 4, _, _, _ => exact trivial
    | 5, _, _, _ => exact trivial
    | 6, _, _, _ => exact trivial
    | 7, _, _, _ => exact trivial
    | 8, _, _, _ => exact trivial
    | 9, _, _, _ => exact trivial
    | k + 10, h, _, _ => exact absurd h (by omega)
  · intro ac w hF hI hall
    obtain ⟨⟨⟩, -, hs9, hw9⟩ := hall 9 (by omega)
    have g9 : (Sv ac 96 (.bool qb)) := hs9 _ (List.Mem.head _)
    exact fin ac w hF hI g9

set_option maxRecDepth 100000 in
set_option maxHeartbeats 8000000 in
theorem sCheck_tail (tk kind proc a b val st : Int) (A : Option Addr) (c : Nat) (xs : List Int) (slot : Int) (w : World) (ha : GI w A c xs) (h1 : 1 ≤ tk) (h2 : tk ≤ 1099511627776) (hc : cmdE kind proc a b val = 0) (hs : stE st kind xs.length = 0) :
    Calls Try.prog 43 #[.agg #[.int .u64 tk, .int .i64 kind, .int .i64 proc, .int .i64 a, .int .i64 b, .int .u64 val, .int .i64 st, .slice A xs.length c, .int .i64 slot]] w (RetB w (.returned (.int .i64 (tailE st xs slot)))) := by
  have hl := ha.len
  have hcap := ha.1
  have hx := Bx.new w 27 #[.int .u64 tk, .int .i64 kind, .int .i64 proc, .int .i64 a, .int .i64 b, .int .u64 val, .int .i64 st, .slice A xs.length c, .int .i64 slot]
  have hw := al w (.cells #[.int .u64 tk, .int .i64 kind, .int .i64 proc, .int .i64 a, .int .i64 b, .int .u64 val, .int .i64 st, .slice A xs.length c, .int .i64 slot] 27)
  have hg := ha.below hw
  have t1 : decide (tk < 1) = false := by simp; omega
  have t2 : decide (1099511627776 < tk) = false := by simp; omega
  have Hc := Lib.hid (sCmd_any kind proc a b val)
  rw [hc] at Hc
  rw [stE_ref] at hs
  have E := Lib.hid (show tailE st xs slot = (if frE xs 0 xs.length ≠ 0 then frE xs 0 xs.length else slE st slot) from rfl)
  generalize tailE st xs slot = te at *
  have hsl := run_head
  have h9 : ¬ ((st < 1 ∨ 4 < st) ∨ (accB kind = false ∧ 2 < st)) := by intro h; rw [if_pos h] at hs; omega
  rw [if_neg h9] at hs
  have h5 : ¬ (((st = 1 ∧ 0 < (xs.length : Int)) ∨ ((st = 2 ∨ st = 4) ∧ (xs.length : Int) = 0)) ∨ mostN kind < (xs.length : Int)) := by intro h; rw [if_pos h] at hs; omega
  clear hs ha hc
  generalize hn : xs.length = n at *
  have Hn := Lib.hid hn
  obtain ⟨mo, hmo⟩ : ∃ mo, mostN kind = mo := ⟨_, rfl⟩
  rw [hmo] at h5
  have HMo := Lib.hid hmo
  obtain ⟨ac, hac⟩ : ∃ ac, accB kind = ac := ⟨_, rfl⟩
  rw [hac] at h9
  have HA := Lib.hid hac
  clear hn hmo hac
  have u1 : decide (st < 1) = false := by simp; omega
  have u2 : decide (4 < st) = false := by simp; omega
  have u3 : decide (mo < (n : Int)) = false := by simp; omega
  have hst4 : st = 1 ∨ st = 2 ∨ st = 3 ∨ st = 4 := by omega
  have hp : (ac = true) ∨ (ac = false ∧ decide (2 < st) = false) := by
    cases ac
    · exact .inr ⟨rfl, by simp at h9 ⊢; omega⟩
    · exact .inl rfl
  have hr : ((st == 1) = true ∧ decide (0 < (n : Int)) = false ∧ (st == 2) = false ∧ (st == 4) = false) ∨ ((st == 1) = false ∧ (((st == 2) = true ∧ ((n : Int) == 0) = false) ∨ ((st == 2) = false ∧ (((st == 4) = true ∧ ((n : Int) == 0) = false) ∨ (st == 4) = false)))) := by
    rcases hst4 with h | h | h | h
    · subst h; exact .inl ⟨rfl, by simp; omega, rfl, rfl⟩
    · subst h; exact .inr ⟨rfl, .inl ⟨rfl, by simp; omega⟩⟩
    · subst h; exact .inr ⟨rfl, .inr ⟨rfl, .inr rfl⟩⟩
    · subst h; exact .inr ⟨rfl, .inr ⟨rfl, .inl ⟨rfl, by simp; omega⟩⟩⟩
  have Hst4 := Lib.hid hst4
  clear h9 h5 hst4
  rcases hp with rfl | ⟨rfl, p2⟩
  all_goals rcases hr with ⟨e1, e2, e3, e4⟩ | ⟨e1, ⟨e2, e3⟩ | ⟨e2, ⟨e3, e4⟩ | e3⟩⟩
  case inl.inl | inr.inl =>
    obtain rfl : n = 0 := by simp at e2; omega
    have u4 : decide (mo < (0 : Int)) = false := u3
    clear e2 u3
    go_enter Try.func43, Try.ntmps43
    go_wp2_with fail
    refine (Hc.out _).mono ?_
    rintro e w1 ⟨rfl, hb1⟩
    have hx1 := hx.below hb1
    have hw1 := below_step hw hb1
    have hg1 := hg.below hb1
    obtain ⟨q0, q1, q2, q3, q4, q5, q6, q7, q8⟩ := s9 hx1
    clear hb1 hx hw hg
    go_wp2_with (first | (go_at_call 53; go_must (refine (sAccess_any tk kind proc a b val st A _ c slot _).mono ?_; rintro e w2 ⟨rfl, hb2⟩; rw [HA.out]; have hx2 := hx1.below hb2; have hw2 := below_step hw1 hb2; have hg2 := hg1.below hb2; clear q0 q1 q2 q3 q4 q5 q6 q7 q8; clear hb2 hx1 hw1 hg1; obtain ⟨r0, r1, r2, r3, r4, r5, r6, r7, r8⟩ := s9 hx2)) | (go_at_call 44; go_must (refine (sRoom_any tk kind proc a b val st A _ c slot _).mono ?_; rintro e w3 ⟨rfl, hb3⟩; rw [HMo.out]; have hx3 := hx2.below hb3; have hw3 := below_step hw2 hb3; have hg3 := hg2.below hb3; clear r0 r1 r2 r3 r4 r5 r6 r7 r8; clear hb3 hx2 hw2 hg2; obtain ⟨p0, p1, p2, p3, p4, p5, p6, p7, p8⟩ := s9 hx3)))
    go_loopg [5] 0 (fun g i wx => i = .int .i64 0 ∧ CkL w A c xs #[.int .u64 tk, .int .i64 kind, .int .i64 proc, .int .i64 a, .int .i64 b, .int .u64 val, .int .i64 st, .slice A 0 c, .int .i64 slot] wx)
    case atStart => exact ⟨rfl, hx3, hg3, hw3⟩
    case round =>
      obtain ⟨rfl, hr⟩ := hrel
      have hx4 := hr.box
      have hw4 := hr.lo
      clear p0 p1 p2 p3 p4 p5 p6 p7 p8
      obtain ⟨s0, s1, s2, s3, s4, s5, s6, s7, s8⟩ := s9 hx4
      clear hr hx3 hg3 hw3
      have E2 := Lib.hid (show te = slE st slot by rw [E.out]; rfl)
      clear E
      have hsl := slE_ref st slot Hst4.out
      rcases hsl with ⟨s1, s5⟩ | ⟨s1, ⟨s2, s5⟩ | ⟨s2, ⟨s3, s5⟩ | ⟨s3, ⟨s4, s5⟩ | ⟨s4, s5⟩⟩⟩⟩
      all_goals
        have S5 := Lib.hid s5
        clear s5
        go_wp2
        go_ret
        exact ⟨by rw [E2.out, S5.out]; rfl, hw4⟩
  all_goals
    go_enter Try.func43, Try.ntmps43
    go_wp2_with fail
    refine (Hc.out _).mono ?_
    rintro e w1 ⟨rfl, hb1⟩
    have hx1 := hx.below hb1
    have hw1 := below_step hw hb1
    have hg1 := hg.below hb1
    obtain ⟨q0, q1, q2, q3, q4, q5, q6, q7, q8⟩ := s9 hx1
    clear hb1 hx hw hg
    go_wp2_with (first | (go_at_call 53; go_must (refine (sAccess_any tk kind proc a b val st A _ c slot _).mono ?_; rintro e w2 ⟨rfl, hb2⟩; rw [HA.out]; have hx2 := hx1.below hb2; have hw2 := below_step hw1 hb2; have hg2 := hg1.below hb2; clear q0 q1 q2 q3 q4 q5 q6 q7 q8; clear hb2 hx1 hw1 hg1; obtain ⟨r0, r1, r2, r3, r4, r5, r6, r7, r8⟩ := s9 hx2)) | (go_at_call 44; go_must (refine (sRoom_any tk kind proc a b val st A _ c slot _).mono ?_; rintro e w3 ⟨rfl, hb3⟩; rw [HMo.out]; have hx3 := hx2.below hb3; have hw3 := below_step hw2 hb3; have hg3 := hg2.below hb3; clear r0 r1 r2 r3 r4 r5 r6 r7 r8; clear hb3 hx2 hw2 hg2; obtain ⟨p0, p1, p2, p3, p4, p5, p6, p7, p8⟩ := s9 hx3)))
    go_loopg [5] n (fun g i wx => ∃ k : Nat, g = n - k ∧ k ≤ n ∧ i = .int .i64 k ∧ Hid (frE xs 0 n = frE xs k (n - k)) ∧ CkL w A c xs #[.int .u64 tk, .int .i64 kind, .int .i64 proc, .int .i64 a, .int .i64 b, .int .u64 val, .int .i64 st, .slice A n c, .int .i64 slot] wx)
    case atStart => exact ⟨0, rfl, by omega, rfl, rfl, hx3, hg3, hw3⟩
    case round =>
      obtain ⟨k, rfl, hk, rfl, HQ, hr⟩ := hrel
      have hx4 := hr.box
      have hg4 := hr.gi
      have hw4 := hr.lo
      clear p0 p1 p2 p3 p4 p5 p6 p7 p8
      obtain ⟨s0, s1, s2, s3, s4, s5, s6, s7, s8⟩ := s9 hx4
      clear hr hx3 hg3 hw3
      by_cases hlt : k < n
      · obtain ⟨ad, rfl, had, hca⟩ := hg4.at_ (k := k) (by rw [Hn.out]; exact hlt)
        have Hst2 := Lib.hid (show frE xs k (n - k) = (if frB (xs[k]?.getD 0) = true then (if (xs.take k).contains (xs[k]?.getD 0) = true then 7 else frE xs (k + 1) (n - (k + 1))) else 2) by
          rw [show n - k = (n - (k + 1)) + 1 by omega]; rfl)
        have hkc : k ≤ c := by omega
        have hlt' : decide ((k : Int) < (n : Int)) = true := by simp; omega
        have hk0 : (0 : Int) ≤ (k : Int) := by omega
        have hk1 : (k : Int) < (n : Int) := by omega
        have Hco := Lib.hid (fun (W : World) (hW : GI W (some ad) c (xs.take k)) => sHas_any (some ad) c (xs.take k) (xs[k]?.getD 0) W hW)
        rw [show (xs.take k).length = k by rw [List.length_take, Hn.out]; omega] at Hco
        have hg4k := hg4.take k
        have HF := Lib.hid (show frB (xs[k]?.getD 0) = (decide (0 ≤ xs[k]?.getD 0) && decide (xs[k]?.getD 0 < 256)) from rfl)
        by_cases hf : frB (xs[k]?.getD 0) = true
        · have f1 : decide (xs[k]?.getD 0 < 0) = false := by rw [HF.out] at hf; simp at hf ⊢; omega
          have f2 : decide (256 ≤ xs[k]?.getD 0) = false := by rw [HF.out] at hf; simp at hf ⊢; omega
          by_cases hq : (xs.take k).contains (xs[k]?.getD 0) = true
          · have E2 := Lib.hid (show frE xs 0 n = 7 by rw [HQ.out, Hst2.out, if_pos hf, if_pos hq])
            have HB := Lib.hid hq
            clear hf hq Hst2 HF
            generalize (xs.take k).contains (xs[k]?.getD 0) = qb at *
            generalize xs[k]?.getD 0 = x at *
            go_upto_region 16 with fail
            rename_i K hK
            refine ck16 (W := wr) tk kind proc a b val st ad c n (xs.take k) slot k x qb w.heap.size rfl rfl rfl hx4 hkc hlt had hca hg4k Hco ?_
            rintro a' w5 hF hb5 f96
            refine hK _ _ ?_
            obtain ⟨fv, hfv, hfr⟩ := hF.lit [87, 88, 89, 90, 91, 92, 93, 94, 95, 96] (dsts_in (by kernel_rfl))
            have ev96 := hfv 96 _ f96
            subst hfr
            simp only [List.foldl_cons, List.foldl_nil, Act.put, List.setIfInBounds_toArray, List.set_cons_zero, List.set_cons_succ, ev96]
            clear hfv hF ev96 f96
            generalize fv 87 = u87
            generalize fv 88 = u88
            generalize fv 89 = u89
            generalize fv 90 = u90
            generalize fv 91 = u91
            generalize fv 92 = u92
            generalize fv 93 = u93
            generalize fv 94 = u94
            generalize fv 95 = u95
            clear fv
            clear hK K
            cases HB.out
            go_wp2
            go_ret
            exact ⟨by rw [E.out, E2.out]; rfl, below_step hw4 hb5⟩
          · have E2 := Lib.hid (show frE xs 0 n = frE xs (k + 1) (n - (k + 1)) by rw [HQ.out, Hst2.out, if_pos hf, if_neg hq])
            have HB := Lib.hid (show (xs.take k).contains (xs[k]?.getD 0) = false by simpa using hq)
            clear hf hq Hst2 HF HQ
            generalize (xs.take k).contains (xs[k]?.getD 0) = qb at *
            generalize xs[k]?.getD 0 = x at *
            go_upto_region 16 with fail
            rename_i K hK
            refine ck16 (W := wr) tk kind proc a b val st ad c n (xs.take k) slot k x qb w.heap.size rfl rfl rfl hx4 hkc hlt had hca hg4k Hco ?_
            rintro a' w5 hF hb5 f96
            refine hK _ _ ?_
            obtain ⟨fv, hfv, hfr⟩ := hF.lit [87, 88, 89, 90, 91, 92, 93, 94, 95, 96] (dsts_in (by kernel_rfl))
            have ev96 := hfv 96 _ f96
            subst hfr
            simp only [List.foldl_cons, List.foldl_nil, Act.put, List.setIfInBounds_toArray, List.set_cons_zero, List.set_cons_succ, ev96]
            clear hfv hF ev96 f96
            generalize fv 87 = u87
            generalize fv 88 = u88
            generalize fv 89 = u89
            generalize fv 90 = u90
            generalize fv 91 = u91
            generalize fv 92 = u92
            generalize fv 93 = u93
            generalize fv 94 = u94
            generalize fv 95 = u95
            clear fv
            clear hK K
            cases HB.out
            go_wp2
            go_roundg (n - (k + 1))
            case measure => omega
            case rel => exact ⟨k + 1, rfl, by omega, by go_num, E2.out, hx4.below hb5, hg4.below hb5, below_step hw4 hb5⟩
        · have E2 := Lib.hid (show frE xs 0 n = 2 by rw [HQ.out, Hst2.out, if_neg hf])
          have f1 : decide (xs[k]?.getD 0 < 0) = true ∨ (decide (xs[k]?.getD 0 < 0) = false ∧ decide (256 ≤ xs[k]?.getD 0) = true) := by rw [HF.out] at hf; simp at hf ⊢; omega
          clear hf Hst2 HF HQ Hco
          generalize xs[k]?.getD 0 = x at *
          rcases f1 with f1 | ⟨f1, f2⟩
          all_goals
            go_wp2
            go_ret
            exact ⟨by rw [E.out, E2.out]; rfl, hw4⟩
      · have E2 := Lib.hid (show te = slE st slot by rw [E.out, show frE xs 0 n = 0 by rw [HQ.out, show n - k = 0 by omega]; rfl]; rfl)
        clear E HQ
        have hkd : decide ((k : Int) < (n : Int)) = false := by simp; omega
        have hsl := slE_ref st slot Hst4.out
        rcases hsl with ⟨s1, s5⟩ | ⟨s1, ⟨s2, s5⟩ | ⟨s2, ⟨s3, s5⟩ | ⟨s3, ⟨s4, s5⟩ | ⟨s4, s5⟩⟩⟩⟩
        all_goals
          have S5 := Lib.hid s5
          clear s5
          go_wp2
          go_ret
          exact ⟨by rw [E2.out, S5.out]; rfl, hw4⟩
end Go.Proofs.Ytbcfnocefjolfaa
