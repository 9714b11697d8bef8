/- Package disk: Check. -/
import Derived.Test.YtbkdimildnahaaaDC
import Derived.Test.YtbkdimildnahaaaSD
namespace Go.Proofs.Ytbkdimildnahaaa
open Go.RowKit
set_option linter.unusedVariables false
set_option maxRecDepth 100000

/-- Is a slot or a frame taken by the first k jobs? -/
def tk (js : List Jb) (k : Nat) (q : Bool × Int) : Bool := (js.take k).any fun x => if q.1 = true then x.frame == q.2 else x.slot == q.2
def tkf (js : List Jb) (k : Nat) (q : Bool × Int) : Option Bool := if tk js k q = true then some true else none
theorem tkf_look (js : List Jb) (k : Nat) (q : Bool × Int) : ((tkf js k q).map Value.bool).getD (.bool false) = .bool (tk js k q) := by
  unfold tkf; cases tk js k q <;> rfl
theorem clash_tk (js : List Jb) (k : Nat) (x : Jb) : clash js k x = (tk js k (false, x.slot) || tk js k (true, x.frame)) := by
  unfold clash tk hits
  induction js.take k with
  | nil => rfl
  | cons y l ih => simp only [List.any_cons, ih]; simp; cases (y.slot == x.slot) <;> cases (y.frame == x.frame) <;> simp
theorem tkf_succ {js : List Jb} {k : Nat} {x : Jb} (h : js[k]? = some x) (q : Bool × Int) : (if q = (true, x.frame) ∨ q = (false, x.slot) then some true else tkf js k q) = tkf js (k + 1) q := by
  unfold tkf
  have e : tk js (k + 1) q = (tk js k q || (if q.1 = true then x.frame == q.2 else x.slot == q.2)) := by
    unfold tk; rw [List.take_add_one, h]; simp
  rw [e]
  obtain ⟨b, s⟩ := q
  cases b
  · by_cases h1 : s = x.slot
    · simp [h1]
    · have : (x.slot == s) = false := by simp; exact fun e => h1 e.symm
      simp [h1, this]
  · by_cases h1 : s = x.frame
    · simp [h1]
    · have : (x.frame == s) = false := by simp; exact fun e => h1 e.symm
      simp [h1, this]
theorem tkf_zero (js : List Jb) (q : Bool × Int) : none = tkf js 0 q := by simp [tkf, tk]

set_option maxHeartbeats 8000000 in
theorem Check_any (A1 : Option Addr) (c1 : Nat) (A2 : Option Addr) (c2 : Nat) (cs : List Ct) (js : List Jb) (room : Int) (w : World) (hd : GD w A1 c1 A2 c2 cs js) (hj : js.length ≤ 900000) : Calls Try.prog 24 #[.agg #[.slice A1 cs.length c1, .slice A2 js.length c2, .int .i64 room]] w (RetB w (.returned (.tuple #[.int .i64 (chk ⟨cs, js, room⟩).1, .int .i64 (chk ⟨cs, js, room⟩).2]))) := by
  have hbel0 := below0 w
  refine sx_enter (N := 84) [(0, .agg #[.slice A1 cs.length c1, .slice A2 js.length c2, .int .i64 room])] Try.func24 rfl Try.ntmps24 (by simp) (fun a z d s => ((Ag.nil z d).cons (s 0 _ rfl))) ?_
  intro a0 hA0
  refine wp_seq ?_
  refine wp_region_lit ?_
  refine sx_new (cs := #[.slice A1 cs.length c1, .slice A2 js.length c2, .int .i64 room]) (t := 25) hA0 rfl (by decide) (.inl rfl) (ev_box (hA0.ev (i := 0) (v := .agg #[.slice A1 cs.length c1, .slice A2 js.length c2, .int .i64 room])) rfl _ rfl) ?_
  intro B1 w1 a1 hB1 hx1 hg1 hA1
  clear hA0
  have hs1 := hg1.size
  have hl1 := hx1.lt
  refine sx_val hA1 rfl (ev_assign (ec _ (.int .i64 0)) _ rfl) ?_
  intro a2 hA2; clear hA1
  refine sx_val hA2 rfl (ev_assign (ec _ (.int .i64 0)) _ rfl) ?_
  intro a3 hA3; clear hA2
  refine sx_nil ?_
  refine then_n ?_
  refine wp_seq ?_
  refine wp_seq ?_
  refine wp_region_lit ?_
  refine sx_val (v := .pointer (some ⟨B1, 0, none⟩)) hA3 rfl (fb_Disk_0 (hA3.ev (i := 1) (v := .pointer (some ⟨B1, 0, none⟩))) _ rfl) ?_
  intro a4 hA4; clear hA3
  refine sx_val (v := .slice A1 cs.length c1) hA4 rfl (ev_cell (v := .slice A1 cs.length c1) (hA4.ev (i := 10) (v := .pointer (some ⟨B1, 0, none⟩))) ((hx1.cell 0).trans rfl) Try.underlying22 rfl _ rfl) ?_
  intro a5 hA5; clear hA4
  refine sx_val (v := .int .i64 (cs.length : Int)) hA5 rfl (ev_len (hA5.ev (i := 11) (v := .slice A1 cs.length c1)) Try.underlying22 _ rfl) ?_
  intro a6 hA6; clear hA5
  cases hd7 : decide ((cs.length : Int) < 1)
  rotate_left
  · have hp7 := of_decide_eq_true hd7
    refine sx_val (v := .bool true) hA6 rfl (ev_lssB (k := .i64) (m := (cs.length : Int)) (n := 1) (hA6.ev (i := 12)) (ec _ (.int .i64 1)) hd7 _ rfl) ?_
    intro a175 hA175; clear hA6
    refine sx_val hA175 rfl (ev_move (hA175.ev (i := 13) (v := .bool true)) _ rfl) ?_
    intro a176 hA176; clear hA175
    refine sx_no (j := 4) (s := 14) (want := false) (b := true) hA176 rfl ?_
    intro a177 hA177; clear hA176
    refine sx_no (j := 4) (s := 14) (want := false) (b := true) hA177 rfl ?_
    intro a178 hA178; clear hA177
    refine sx_no (j := 4) (s := 14) (want := false) (b := true) hA178 rfl ?_
    intro a179 hA179; clear hA178
    refine sx_no (j := 4) (s := 14) (want := false) (b := true) hA179 rfl ?_
    intro a180 hA180; clear hA179
    refine sx_val hA180 rfl (ev_pickT (hA180.ev (i := 14) (v := .bool true)) (ec _ (.bool true)) _ rfl) ?_
    intro a181 hA181; clear hA180
    refine sx_val hA181 rfl (ev_move (hA181.ev (i := 19) (v := .bool true)) _ rfl) ?_
    intro a182 hA182; clear hA181
    refine sx_no (j := 10) (s := 20) (want := false) (b := true) hA182 rfl ?_
    intro a183 hA183; clear hA182
    refine sx_no (j := 10) (s := 20) (want := false) (b := true) hA183 rfl ?_
    intro a184 hA184; clear hA183
    refine sx_no (j := 10) (s := 20) (want := false) (b := true) hA184 rfl ?_
    intro a185 hA185; clear hA184
    refine sx_val hA185 rfl (ev_pickT (hA185.ev (i := 20) (v := .bool true)) (ec _ (.bool true)) _ rfl) ?_
    intro a186 hA186; clear hA185
    refine sx_val hA186 rfl (ev_move (hA186.ev (i := 24) (v := .bool true)) _ rfl) ?_
    intro a187 hA187; clear hA186
    refine sx_no (j := 15) (s := 25) (want := false) (b := true) hA187 rfl ?_
    intro a188 hA188; clear hA187
    refine sx_no (j := 15) (s := 25) (want := false) (b := true) hA188 rfl ?_
    intro a189 hA189; clear hA188
    refine sx_no (j := 15) (s := 25) (want := false) (b := true) hA189 rfl ?_
    intro a190 hA190; clear hA189
    refine sx_val hA190 rfl (ev_pickT (hA190.ev (i := 25) (v := .bool true)) (ec _ (.bool true)) _ rfl) ?_
    intro a191 hA191; clear hA190
    refine sx_nil ?_
    refine then_n ?_
    refine wp_cond_true (hA191.ev (i := 29) (v := .bool true)) ?_
    refine wp_seq ?_
    refine wp_region_lit ?_
    refine sx_val hA191 rfl (ev_assign (ec _ (.int .i64 2)) _ rfl) ?_
    intro a192 hA192; clear hA191
    refine sx_val hA192 rfl (ev_assign (ec _ (.int .i64 0)) _ rfl) ?_
    intro a193 hA193; clear hA192
    refine sx_nil ?_
    refine then_n ?_
    refine wp_ret ?_
    refine then_r ?_
    refine bodyPost_ret (rs_tt (v := .int .i64 2) (v2 := .int .i64 0) Try.results24 hA193 (by kernel_rfl) (by kernel_rfl) ) hA193.2.1 ?_
    have hbel0_194 := Below.gN hbel0 hg1 hbel0.size
    have E : chk ⟨cs, js, room⟩ = (2, 0) := if_pos (by show cs.length < 1 ∨ 256 < cs.length ∨ room < 1 ∨ 32 < room; omega)
    exact ⟨ret2 (by rw [E]), hbel0_194⟩
  have hp7 := of_decide_eq_false hd7
  refine sx_val (v := .bool false) hA6 rfl (ev_lssB (k := .i64) (m := (cs.length : Int)) (n := 1) (hA6.ev (i := 12)) (ec _ (.int .i64 1)) hd7 _ rfl) ?_
  intro a8 hA8; clear hA6
  refine sx_val hA8 rfl (ev_move (hA8.ev (i := 13) (v := .bool false)) _ rfl) ?_
  intro a9 hA9; clear hA8
  refine sx_val (hg := (.inr ⟨4, false, 14, rfl, rfl, by kernel_rfl⟩)) (v := .pointer (some ⟨B1, 0, none⟩)) hA9 rfl (fb_Disk_0 (hA9.ev (i := 1) (v := .pointer (some ⟨B1, 0, none⟩))) _ rfl) ?_
  intro a10 hA10; clear hA9
  refine sx_val (hg := (.inr ⟨4, false, 14, rfl, rfl, by kernel_rfl⟩)) (v := .slice A1 cs.length c1) hA10 rfl (ev_cell (v := .slice A1 cs.length c1) (hA10.ev (i := 15) (v := .pointer (some ⟨B1, 0, none⟩))) ((hx1.cell 0).trans rfl) Try.underlying22 rfl _ rfl) ?_
  intro a11 hA11; clear hA10
  refine sx_val (hg := (.inr ⟨4, false, 14, rfl, rfl, by kernel_rfl⟩)) (v := .int .i64 (cs.length : Int)) hA11 rfl (ev_len (hA11.ev (i := 16) (v := .slice A1 cs.length c1)) Try.underlying22 _ rfl) ?_
  intro a12 hA12; clear hA11
  cases hd13 : decide (256 < (cs.length : Int))
  rotate_left
  · have hp13 := of_decide_eq_true hd13
    refine sx_val (hg := (.inr ⟨4, false, 14, rfl, rfl, by kernel_rfl⟩)) (v := .bool true) hA12 rfl (ev_gtrB (k := .i64) (m := (cs.length : Int)) (n := 256) (hA12.ev (i := 17)) (ec _ (.int .i64 256)) hd13 _ rfl) ?_
    intro a160 hA160; clear hA12
    refine sx_val hA160 rfl (ev_pickF (hA160.ev (i := 14) (v := .bool false)) (hA160.ev (i := 18) (v := .bool true)) _ rfl) ?_
    intro a161 hA161; clear hA160
    refine sx_val hA161 rfl (ev_move (hA161.ev (i := 19) (v := .bool true)) _ rfl) ?_
    intro a162 hA162; clear hA161
    refine sx_no (j := 10) (s := 20) (want := false) (b := true) hA162 rfl ?_
    intro a163 hA163; clear hA162
    refine sx_no (j := 10) (s := 20) (want := false) (b := true) hA163 rfl ?_
    intro a164 hA164; clear hA163
    refine sx_no (j := 10) (s := 20) (want := false) (b := true) hA164 rfl ?_
    intro a165 hA165; clear hA164
    refine sx_val hA165 rfl (ev_pickT (hA165.ev (i := 20) (v := .bool true)) (ec _ (.bool true)) _ rfl) ?_
    intro a166 hA166; clear hA165
    refine sx_val hA166 rfl (ev_move (hA166.ev (i := 24) (v := .bool true)) _ rfl) ?_
    intro a167 hA167; clear hA166
    refine sx_no (j := 15) (s := 25) (want := false) (b := true) hA167 rfl ?_
    intro a168 hA168; clear hA167
    refine sx_no (j := 15) (s := 25) (want := false) (b := true) hA168 rfl ?_
    intro a169 hA169; clear hA168
    refine sx_no (j := 15) (s := 25) (want := false) (b := true) hA169 rfl ?_
    intro a170 hA170; clear hA169
    refine sx_val hA170 rfl (ev_pickT (hA170.ev (i := 25) (v := .bool true)) (ec _ (.bool true)) _ rfl) ?_
    intro a171 hA171; clear hA170
    refine sx_nil ?_
    refine then_n ?_
    refine wp_cond_true (hA171.ev (i := 29) (v := .bool true)) ?_
    refine wp_seq ?_
    refine wp_region_lit ?_
    refine sx_val hA171 rfl (ev_assign (ec _ (.int .i64 2)) _ rfl) ?_
    intro a172 hA172; clear hA171
    refine sx_val hA172 rfl (ev_assign (ec _ (.int .i64 0)) _ rfl) ?_
    intro a173 hA173; clear hA172
    refine sx_nil ?_
    refine then_n ?_
    refine wp_ret ?_
    refine then_r ?_
    refine bodyPost_ret (rs_tt (v := .int .i64 2) (v2 := .int .i64 0) Try.results24 hA173 (by kernel_rfl) (by kernel_rfl) ) hA173.2.1 ?_
    have hbel0_174 := Below.gN hbel0 hg1 hbel0.size
    have E : chk ⟨cs, js, room⟩ = (2, 0) := if_pos (by show cs.length < 1 ∨ 256 < cs.length ∨ room < 1 ∨ 32 < room; omega)
    exact ⟨ret2 (by rw [E]), hbel0_174⟩
  have hp13 := of_decide_eq_false hd13
  refine sx_val (hg := (.inr ⟨4, false, 14, rfl, rfl, by kernel_rfl⟩)) (v := .bool false) hA12 rfl (ev_gtrB (k := .i64) (m := (cs.length : Int)) (n := 256) (hA12.ev (i := 17)) (ec _ (.int .i64 256)) hd13 _ rfl) ?_
  intro a14 hA14; clear hA12
  refine sx_val hA14 rfl (ev_pickF (hA14.ev (i := 14) (v := .bool false)) (hA14.ev (i := 18) (v := .bool false)) _ rfl) ?_
  intro a15 hA15; clear hA14
  refine sx_val hA15 rfl (ev_move (hA15.ev (i := 19) (v := .bool false)) _ rfl) ?_
  intro a16 hA16; clear hA15
  refine sx_val (hg := (.inr ⟨10, false, 20, rfl, rfl, by kernel_rfl⟩)) (v := .pointer (some ⟨B1, 2, none⟩)) hA16 rfl (fb_Disk_2 (hA16.ev (i := 1) (v := .pointer (some ⟨B1, 0, none⟩))) _ rfl) ?_
  intro a17 hA17; clear hA16
  refine sx_val (hg := (.inr ⟨10, false, 20, rfl, rfl, by kernel_rfl⟩)) (v := .int .i64 room) hA17 rfl (ev_cell (v := .int .i64 room) (hA17.ev (i := 21) (v := .pointer (some ⟨B1, 2, none⟩))) ((hx1.cell 2).trans rfl) Try.underlying3 rfl _ rfl) ?_
  intro a18 hA18; clear hA17
  cases hd19 : decide (room < 1)
  rotate_left
  · have hp19 := of_decide_eq_true hd19
    refine sx_val (hg := (.inr ⟨10, false, 20, rfl, rfl, by kernel_rfl⟩)) (v := .bool true) hA18 rfl (ev_lssB (k := .i64) (m := room) (n := 1) (hA18.ev (i := 22)) (ec _ (.int .i64 1)) hd19 _ rfl) ?_
    intro a150 hA150; clear hA18
    refine sx_val hA150 rfl (ev_pickF (hA150.ev (i := 20) (v := .bool false)) (hA150.ev (i := 23) (v := .bool true)) _ rfl) ?_
    intro a151 hA151; clear hA150
    refine sx_val hA151 rfl (ev_move (hA151.ev (i := 24) (v := .bool true)) _ rfl) ?_
    intro a152 hA152; clear hA151
    refine sx_no (j := 15) (s := 25) (want := false) (b := true) hA152 rfl ?_
    intro a153 hA153; clear hA152
    refine sx_no (j := 15) (s := 25) (want := false) (b := true) hA153 rfl ?_
    intro a154 hA154; clear hA153
    refine sx_no (j := 15) (s := 25) (want := false) (b := true) hA154 rfl ?_
    intro a155 hA155; clear hA154
    refine sx_val hA155 rfl (ev_pickT (hA155.ev (i := 25) (v := .bool true)) (ec _ (.bool true)) _ rfl) ?_
    intro a156 hA156; clear hA155
    refine sx_nil ?_
    refine then_n ?_
    refine wp_cond_true (hA156.ev (i := 29) (v := .bool true)) ?_
    refine wp_seq ?_
    refine wp_region_lit ?_
    refine sx_val hA156 rfl (ev_assign (ec _ (.int .i64 2)) _ rfl) ?_
    intro a157 hA157; clear hA156
    refine sx_val hA157 rfl (ev_assign (ec _ (.int .i64 0)) _ rfl) ?_
    intro a158 hA158; clear hA157
    refine sx_nil ?_
    refine then_n ?_
    refine wp_ret ?_
    refine then_r ?_
    refine bodyPost_ret (rs_tt (v := .int .i64 2) (v2 := .int .i64 0) Try.results24 hA158 (by kernel_rfl) (by kernel_rfl) ) hA158.2.1 ?_
    have hbel0_159 := Below.gN hbel0 hg1 hbel0.size
    have E : chk ⟨cs, js, room⟩ = (2, 0) := if_pos (by show cs.length < 1 ∨ 256 < cs.length ∨ room < 1 ∨ 32 < room; omega)
    exact ⟨ret2 (by rw [E]), hbel0_159⟩
  have hp19 := of_decide_eq_false hd19
  refine sx_val (hg := (.inr ⟨10, false, 20, rfl, rfl, by kernel_rfl⟩)) (v := .bool false) hA18 rfl (ev_lssB (k := .i64) (m := room) (n := 1) (hA18.ev (i := 22)) (ec _ (.int .i64 1)) hd19 _ rfl) ?_
  intro a20 hA20; clear hA18
  refine sx_val hA20 rfl (ev_pickF (hA20.ev (i := 20) (v := .bool false)) (hA20.ev (i := 23) (v := .bool false)) _ rfl) ?_
  intro a21 hA21; clear hA20
  refine sx_val hA21 rfl (ev_move (hA21.ev (i := 24) (v := .bool false)) _ rfl) ?_
  intro a22 hA22; clear hA21
  refine sx_val (hg := (.inr ⟨15, false, 25, rfl, rfl, by kernel_rfl⟩)) (v := .pointer (some ⟨B1, 2, none⟩)) hA22 rfl (fb_Disk_2 (hA22.ev (i := 1) (v := .pointer (some ⟨B1, 0, none⟩))) _ rfl) ?_
  intro a23 hA23; clear hA22
  refine sx_val (hg := (.inr ⟨15, false, 25, rfl, rfl, by kernel_rfl⟩)) (v := .int .i64 room) hA23 rfl (ev_cell (v := .int .i64 room) (hA23.ev (i := 26) (v := .pointer (some ⟨B1, 2, none⟩))) ((hx1.cell 2).trans rfl) Try.underlying3 rfl _ rfl) ?_
  intro a24 hA24; clear hA23
  cases hd25 : decide (32 < room)
  rotate_left
  · have hp25 := of_decide_eq_true hd25
    refine sx_val (hg := (.inr ⟨15, false, 25, rfl, rfl, by kernel_rfl⟩)) (v := .bool true) hA24 rfl (ev_gtrB (k := .i64) (m := room) (n := 32) (hA24.ev (i := 27)) (ec _ (.int .i64 32)) hd25 _ rfl) ?_
    intro a145 hA145; clear hA24
    refine sx_val hA145 rfl (ev_pickF (hA145.ev (i := 25) (v := .bool false)) (hA145.ev (i := 28) (v := .bool true)) _ rfl) ?_
    intro a146 hA146; clear hA145
    refine sx_nil ?_
    refine then_n ?_
    refine wp_cond_true (hA146.ev (i := 29) (v := .bool true)) ?_
    refine wp_seq ?_
    refine wp_region_lit ?_
    refine sx_val hA146 rfl (ev_assign (ec _ (.int .i64 2)) _ rfl) ?_
    intro a147 hA147; clear hA146
    refine sx_val hA147 rfl (ev_assign (ec _ (.int .i64 0)) _ rfl) ?_
    intro a148 hA148; clear hA147
    refine sx_nil ?_
    refine then_n ?_
    refine wp_ret ?_
    refine then_r ?_
    refine bodyPost_ret (rs_tt (v := .int .i64 2) (v2 := .int .i64 0) Try.results24 hA148 (by kernel_rfl) (by kernel_rfl) ) hA148.2.1 ?_
    have hbel0_149 := Below.gN hbel0 hg1 hbel0.size
    have E : chk ⟨cs, js, room⟩ = (2, 0) := if_pos (by show cs.length < 1 ∨ 256 < cs.length ∨ room < 1 ∨ 32 < room; omega)
    exact ⟨ret2 (by rw [E]), hbel0_149⟩
  have hp25 := of_decide_eq_false hd25
  refine sx_val (hg := (.inr ⟨15, false, 25, rfl, rfl, by kernel_rfl⟩)) (v := .bool false) hA24 rfl (ev_gtrB (k := .i64) (m := room) (n := 32) (hA24.ev (i := 27)) (ec _ (.int .i64 32)) hd25 _ rfl) ?_
  intro a26 hA26; clear hA24
  refine sx_val hA26 rfl (ev_pickF (hA26.ev (i := 25) (v := .bool false)) (hA26.ev (i := 28) (v := .bool false)) _ rfl) ?_
  intro a27 hA27; clear hA26
  refine sx_nil ?_
  refine then_n ?_
  refine wp_cond_false (hA27.ev (i := 29) (v := .bool false)) ?_
  refine wp_skip ?_
  refine then_n ?_
  refine wp_seq ?_
  refine wp_seq ?_
  refine wp_region_lit ?_
  refine sx_val (v := .pointer (some ⟨B1, 1, none⟩)) hA27 rfl (fb_Disk_1 (hA27.ev (i := 1) (v := .pointer (some ⟨B1, 0, none⟩))) _ rfl) ?_
  intro a28 hA28; clear hA27
  refine sx_val (v := .slice A2 js.length c2) hA28 rfl (ev_cell (v := .slice A2 js.length c2) (hA28.ev (i := 30) (v := .pointer (some ⟨B1, 1, none⟩))) ((hx1.cell 1).trans rfl) Try.underlying23 rfl _ rfl) ?_
  intro a29 hA29; clear hA28
  refine sx_val (v := .int .i64 (js.length : Int)) hA29 rfl (ev_len (hA29.ev (i := 31) (v := .slice A2 js.length c2)) Try.underlying23 _ rfl) ?_
  intro a30 hA30; clear hA29
  refine sx_val (v := .pointer (some ⟨B1, 2, none⟩)) hA30 rfl (fb_Disk_2 (hA30.ev (i := 1) (v := .pointer (some ⟨B1, 0, none⟩))) _ rfl) ?_
  intro a31 hA31; clear hA30
  refine sx_val (v := .int .i64 room) hA31 rfl (ev_cell (v := .int .i64 room) (hA31.ev (i := 33) (v := .pointer (some ⟨B1, 2, none⟩))) ((hx1.cell 2).trans rfl) Try.underlying3 rfl _ rfl) ?_
  intro a32 hA32; clear hA31
  cases hd33 : decide (room < (js.length : Int))
  rotate_left
  · have hp33 := of_decide_eq_true hd33
    refine sx_val (v := .bool true) hA32 rfl (ev_gtrB (k := .i64) (m := (js.length : Int)) (n := room) (hA32.ev (i := 32)) (hA32.ev (i := 34)) hd33 _ rfl) ?_
    intro a141 hA141; clear hA32
    refine sx_nil ?_
    refine then_n ?_
    refine wp_cond_true (hA141.ev (i := 35) (v := .bool true)) ?_
    refine wp_seq ?_
    refine wp_region_lit ?_
    refine sx_val hA141 rfl (ev_assign (ec _ (.int .i64 5)) _ rfl) ?_
    intro a142 hA142; clear hA141
    refine sx_val hA142 rfl (ev_assign (ec _ (.int .i64 0)) _ rfl) ?_
    intro a143 hA143; clear hA142
    refine sx_nil ?_
    refine then_n ?_
    refine wp_ret ?_
    refine then_r ?_
    refine bodyPost_ret (rs_tt (v := .int .i64 5) (v2 := .int .i64 0) Try.results24 hA143 (by kernel_rfl) (by kernel_rfl) ) hA143.2.1 ?_
    have hbel0_144 := Below.gN hbel0 hg1 hbel0.size
    have E : chk ⟨cs, js, room⟩ = (5, 0) := by
      unfold chk
      rw [if_neg (by show ¬ (cs.length < 1 ∨ 256 < cs.length ∨ room < 1 ∨ 32 < room); omega), if_pos (by show room < (js.length : Int); omega)]
    exact ⟨ret2 (by rw [E]), hbel0_144⟩
  have hp33 := of_decide_eq_false hd33
  refine sx_val (v := .bool false) hA32 rfl (ev_gtrB (k := .i64) (m := (js.length : Int)) (n := room) (hA32.ev (i := 32)) (hA32.ev (i := 34)) hd33 _ rfl) ?_
  intro a34 hA34; clear hA32
  refine sx_nil ?_
  refine then_n ?_
  refine wp_cond_false (hA34.ev (i := 35) (v := .bool false)) ?_
  refine wp_skip ?_
  refine then_n ?_
  refine wp_seq ?_
  refine wp_region_lit ?_
  refine sx_map (kv := kyv) (vv := Value.bool) hA34 rfl (by decide) (.inl rfl) rfl ?_
  intro B35 w35 a35 hB35 hm35 hg35 hA35
  clear hA34
  have hs35 := hg35.size
  have hl35 := hm35.lt
  refine sx_val hA35 rfl (ev_assign (hA35.ev (i := 36) (v := .map (some B35))) _ rfl) ?_
  intro a36 hA36; clear hA35
  refine sx_nil ?_
  refine then_n ?_
  refine wp_seq ?_
  refine wp_seq ?_
  refine wp_region_lit ?_
  refine sx_val (v := .pointer (some ⟨B1, 1, none⟩)) hA36 rfl (fb_Disk_1 (hA36.ev (i := 1) (v := .pointer (some ⟨B1, 0, none⟩))) _ rfl) ?_
  intro a37 hA37; clear hA36
  have hx1_38 := hx1.gN hg35
  refine sx_val (v := .slice A2 js.length c2) hA37 rfl (ev_cell (v := .slice A2 js.length c2) (hA37.ev (i := 37) (v := .pointer (some ⟨B1, 1, none⟩))) ((hx1_38.cell 1).trans rfl) Try.underlying23 rfl _ rfl) ?_
  intro a39 hA39; clear hA37
  refine sx_val (v := .int .i64 (js.length : Int)) hA39 rfl (ev_len (hA39.ev (i := 38) (v := .slice A2 js.length c2)) Try.underlying23 _ rfl) ?_
  intro a40 hA40; clear hA39
  refine sx_val hA40 rfl (ev_move (ec _ (.int .i64 0)) _ rfl) ?_
  intro a41 hA41; clear hA40
  refine sx_nil ?_
  refine then_n ?_
  refine wp_block ?_
  have hbel0_43 := Below.gN hbel0 hg1 hbel0.size
  have hbel0_44 := Below.gN hbel0_43 hg35 hbel0_43.size
  refine wp_loop_ghost (fun n a wl => ∃ (k : Nat), n = js.length - k ∧ Ag a 84 [(1, .pointer (some ⟨B1, 0, none⟩)), (4, .map (some B35)), (38, .slice A2 js.length c2), (39, .int .i64 (js.length : Int)), (40, .int .i64 (k : Int))] ∧ k ≤ js.length ∧ chk ⟨cs, js, room⟩ = ckJ cs.length js k (js.length - k) ∧ Bx wl B1 25 #[.slice A1 cs.length c1, .slice A2 js.length c2, .int .i64 room] ∧ Mp wl B35 kyv Value.bool (tkf js k) ∧ w35.heap.size ≤ wl.heap.size ∧ Below w.heap.size w wl) (js.length - 0) ⟨0, rfl, ((((((Ag.nil hA41.1 hA41.2.1).cons (hA41.get (i := 40) (v := .int .i64 0))).cons (hA41.get (i := 39) (v := .int .i64 (js.length : Int)))).cons (hA41.get (i := 38) (v := .slice A2 js.length c2))).cons (hA41.get (i := 4) (v := .map (some B35)))).cons (hA41.get (i := 1) (v := .pointer (some ⟨B1, 0, none⟩)))), Nat.zero_le _, (by unfold chk; rw [if_neg (by show ¬ (cs.length < 1 ∨ 256 < cs.length ∨ room < 1 ∨ 32 < room); omega), if_neg (by show ¬ room < (js.length : Int); omega)]; rfl), hx1_38, (Mp.congr hm35 (tkf_zero js)), Nat.le_refl _, hbel0_44⟩ ?_
  intro n42 a42 w42 hI42
  obtain ⟨k, hn42, hA42, q42_0, q42_1, f42_0, f42_1, hsz42, hbel42⟩ := hI42
  subst hn42
  clear hA41
  have hlB1_42 := f42_0.lt
  have hlB35_42 := f42_1.lt
  cases hd45 : decide ((k : Int) < (js.length : Int))
  · have hp45 := of_decide_eq_false hd45
    refine wp_seq ?_
    refine wp_region_lit ?_
    refine sx_val (v := .bool false) hA42 rfl (ev_lssB (k := .i64) (m := (k : Int)) (n := (js.length : Int)) (hA42.ev (i := 40)) (hA42.ev (i := 39)) hd45 _ rfl) ?_
    intro a46 hA46; clear hA42
    refine sx_nil ?_
    refine then_n ?_
    refine wp_seq ?_
    refine wp_cond_false (hA46.ev (i := 41) (v := .bool false)) ?_
    refine wp_exit ?_
    refine then_x ?_
    refine then_x ?_
    refine blk_hit ?_
    refine then_n ?_
    refine wp_seq ?_
    refine wp_region_lit ?_
    refine sx_val hA46 rfl (ev_assign (ec _ (.int .i64 0)) _ rfl) ?_
    intro a47 hA47; clear hA46
    refine sx_val hA47 rfl (ev_assign (ec _ (.int .i64 0)) _ rfl) ?_
    intro a48 hA48; clear hA47
    refine sx_nil ?_
    refine then_n ?_
    refine wp_ret ?_
    refine bodyPost_ret (rs_tt (v := .int .i64 0) (v2 := .int .i64 0) Try.results24 hA48 (by kernel_rfl) (by kernel_rfl) ) hA48.2.1 ?_
    have E : chk ⟨cs, js, room⟩ = (0, 0) := by
      rw [q42_1, show js.length - k = 0 by omega]
      rfl
    exact ⟨ret2 (by rw [E]), hbel42⟩
  have hp45 := of_decide_eq_true hd45
  obtain ⟨x, hx⟩ : ∃ x, js[k]? = some x := ⟨_, List.getElem?_eq_getElem (by omega)⟩
  refine wp_seq ?_
  refine wp_region_lit ?_
  refine sx_val (v := .bool true) hA42 rfl (ev_lssB (k := .i64) (m := (k : Int)) (n := (js.length : Int)) (hA42.ev (i := 40)) (hA42.ev (i := 39)) hd45 _ rfl) ?_
  intro a49 hA49; clear hA42
  refine sx_nil ?_
  refine then_n ?_
  refine wp_seq ?_
  refine wp_cond_true (hA49.ev (i := 41) (v := .bool true)) ?_
  refine wp_skip ?_
  refine then_n ?_
  refine wp_seq ?_
  refine wp_block ?_
  refine wp_seq ?_
  refine wp_region_lit ?_
  refine sx_val hA49 rfl (ev_move (hA49.ev (i := 40) (v := .int .i64 (k : Int))) _ rfl) ?_
  intro a50 hA50; clear hA49
  obtain ⟨ad51, hAd51, hbl51, hce51⟩ := GR.at_ (hd.j.below hbel42) jb_sz hx
  refine sx_val (v := .pointer (some (ad51.add (k * 11)))) hA50 rfl (ev_idx (k := k) (hA50.ev (i := 38) (v := .slice A2 js.length c2)) hAd51 (hA50.ev (i := 40) (v := .int .i64 (k : Int))) rfl (by omega) Try.underlying23 (by kernel_rfl) _ rfl) ?_
  intro a52 hA52; clear hA50
  refine sx_val (v := .agg x.va) hA52 rfl (ev_loadR (cs := x.va) (n := 11) (hA52.ev (i := 43) (v := .pointer (some (ad51.add (k * 11))))) hce51 Try.underlying38 rfl (by kernel_rfl) rfl _ rfl) ?_
  intro a53 hA53; clear hA52
  refine sx_new (cs := Jb.zero.va) (t := 38) hA53 rfl (by decide) (.inl rfl) (ev_alloc (z := .agg Jb.zero.va) (by kernel_rfl) (by kernel_rfl) _ rfl) ?_
  intro B54 w54 a54 hB54 hx54 hg54 hA54
  clear hA53
  have hs54 := hg54.size
  have hl54 := hx54.lt
  refine sx_val hA54 rfl (ev_assign (hA54.ev (i := 42) (v := .int .i64 (k : Int))) _ rfl) ?_
  intro a55 hA55; clear hA54
  refine sx_store hA55 rfl (.inl rfl) rfl (hA55.ev (i := 6) (v := .pointer (some ⟨B54, 0, none⟩))) (hA55.ev (i := 44) (v := .agg x.va)) hx54 (by kernel_rfl) rfl (jb_one _) ?_
  intro w56 hx56 hg56
  have hs56 := hg56.size
  refine sx_nil ?_
  refine then_n ?_
  refine wp_seq ?_
  have f42_57 := f42_0.gN hg54
  have f42_58 := f42_57.gB hg56 (by omega)
  have f42_59 := f42_1.gN hg54
  have f42_60 := f42_59.gB hg56 (by omega)
  have hbel42_61 := Below.gN hbel42 hg54 hbel42.size
  have hbel42_62 := Below.gB hbel42_61 hg56 hbel42_61.size (by omega)
  refine region_D (n := 10) (by kernel_rfl) (by kernel_rfl) rfl (fun L ac wc => ∃ N6r9 : Nat, ∃ N7r9 : Nat, Below w.heap.size w wc ∧ w56.heap.size ≤ wc.heap.size ∧ Bx wc B1 25 (#[.slice A1 cs.length c1, .slice A2 js.length c2, .int .i64 room]) ∧ Bx wc B54 38 x.va ∧ Mp wc B35 kyv Value.bool (tkf js k) ∧ (L 6 = true → w56.heap.size ≤ N6r9 ∧ Bx wc N6r9 70 (bif L 8 then (#[.bool false, .int .i64 x.slot]) else (#[.bool false, .int .i64 0]))) ∧ (L 7 = true → w56.heap.size ≤ N7r9 ∧ Bx wc N7r9 70 (bif L 9 then (#[.bool true, .int .i64 x.frame]) else (#[.bool false, .int .i64 0]))) ∧ (L 6 = true → L 7 = true → N6r9 ≠ N7r9) ∧ (L 8 = true → L 6 = true) ∧ (L 9 = true → L 7 = true) ∧ (L 0 = true → Sv ac 45 (.pointer (some ⟨B54, 1, none⟩))) ∧ (L 1 = true → Sv ac 46 (.int .i64 x.slot)) ∧ (L 2 = true → Sv ac 47 (.agg #[.bool false, .int .i64 x.slot])) ∧ (L 3 = true → Sv ac 48 (.pointer (some ⟨B54, 2, none⟩))) ∧ (L 4 = true → Sv ac 49 (.int .i64 x.frame)) ∧ (L 5 = true → Sv ac 50 (.agg #[.bool true, .int .i64 x.frame])) ∧ (L 6 = true → Sv ac 7 (.pointer (some ⟨N6r9, 0, none⟩))) ∧ (L 7 = true → Sv ac 8 (.pointer (some ⟨N7r9, 0, none⟩)))) ⟨0, 0, (Below.gN hbel42_62 (gdr _) hbel42_62.size), (Nat.le_refl _), (f42_58.gN (gdr _)), (hx56.gN (gdr _)), (f42_60.gN (gdr _)), (fun h => by cases h), (fun h => by cases h), (fun h => by cases h), (fun h => by cases h), (fun h => by cases h), (fun h => by cases h), (fun h => by cases h), (fun h => by cases h), (fun h => by cases h), (fun h => by cases h), (fun h => by cases h), (fun h => by cases h), (fun h => by cases h)⟩ ?_ ?_
  · intro iq hiq o ho L hL hdep ac wc hF hJ
    obtain ⟨N6r9, N7r9, bl, sz, b_B1, b_B54, m_B35, n_N6r9, n_N7r9, d_6_7, cl_8_6, cl_9_7, s_45, s_46, s_47, s_48, s_49, s_50, s_7, s_8⟩ := hJ
    have z := hF.1.trans hA55.1
    match iq, hiq with
    | 0, _ =>
      obtain rfl := Option.some.inj (show some _ = some o from ho); clear ho
      have v6 := hF.sv (s := 6) (by kernel_rfl) (hA55.get (i := 6) (v := .pointer (some ⟨B54, 0, none⟩)))
      refine dj_val (i := 0) (v := .pointer (some ⟨B54, 1, none⟩)) rfl (.inl rfl) (fb_Job_1 v6.eval _ rfl) ?_
      exact ⟨⟨_, rfl⟩, N6r9, N7r9, bl, sz, b_B1, b_B54, m_B35, n_N6r9, n_N7r9, d_6_7, cl_8_6, cl_9_7, (fun _ => Sv.self (by rw [z]; decide) _), (so s_46), (so s_47), (so s_48), (so s_49), (so s_50), (so s_7), (so s_8)⟩
    | 1, _ =>
      obtain rfl := Option.some.inj (show some _ = some o from ho); clear ho
      have v45 := s_45 (dp hdep 0)
      refine dj_val (i := 1) (v := .int .i64 x.slot) rfl (.inl rfl) (ev_cell (v := .int .i64 x.slot) v45.eval ((b_B54.cell 1).trans rfl) Try.underlying3 rfl _ rfl) ?_
      exact ⟨⟨_, rfl⟩, N6r9, N7r9, bl, sz, b_B1, b_B54, m_B35, n_N6r9, n_N7r9, d_6_7, cl_8_6, cl_9_7, (so s_45), (fun _ => Sv.self (by rw [z]; decide) _), (so s_47), (so s_48), (so s_49), (so s_50), (so s_7), (so s_8)⟩
    | 2, _ =>
      obtain rfl := Option.some.inj (show some _ = some o from ho); clear ho
      have v46 := s_46 (dp hdep 1)
      refine dj_val (i := 2) (v := .agg #[.bool false, .int .i64 x.slot]) rfl (.inl rfl) (bd_key_1 v46.eval _ rfl) ?_
      exact ⟨⟨_, rfl⟩, N6r9, N7r9, bl, sz, b_B1, b_B54, m_B35, n_N6r9, n_N7r9, d_6_7, cl_8_6, cl_9_7, (so s_45), (so s_46), (fun _ => Sv.self (by rw [z]; decide) _), (so s_48), (so s_49), (so s_50), (so s_7), (so s_8)⟩
    | 3, _ =>
      obtain rfl := Option.some.inj (show some _ = some o from ho); clear ho
      have v6 := hF.sv (s := 6) (by kernel_rfl) (hA55.get (i := 6) (v := .pointer (some ⟨B54, 0, none⟩)))
      refine dj_val (i := 3) (v := .pointer (some ⟨B54, 2, none⟩)) rfl (.inl rfl) (fb_Job_2 v6.eval _ rfl) ?_
      exact ⟨⟨_, rfl⟩, N6r9, N7r9, bl, sz, b_B1, b_B54, m_B35, n_N6r9, n_N7r9, d_6_7, cl_8_6, cl_9_7, (so s_45), (so s_46), (so s_47), (fun _ => Sv.self (by rw [z]; decide) _), (so s_49), (so s_50), (so s_7), (so s_8)⟩
    | 4, _ =>
      obtain rfl := Option.some.inj (show some _ = some o from ho); clear ho
      have v48 := s_48 (dp hdep 3)
      refine dj_val (i := 4) (v := .int .i64 x.frame) rfl (.inl rfl) (ev_cell (v := .int .i64 x.frame) v48.eval ((b_B54.cell 2).trans rfl) Try.underlying3 rfl _ rfl) ?_
      exact ⟨⟨_, rfl⟩, N6r9, N7r9, bl, sz, b_B1, b_B54, m_B35, n_N6r9, n_N7r9, d_6_7, cl_8_6, cl_9_7, (so s_45), (so s_46), (so s_47), (so s_48), (fun _ => Sv.self (by rw [z]; decide) _), (so s_50), (so s_7), (so s_8)⟩
    | 5, _ =>
      obtain rfl := Option.some.inj (show some _ = some o from ho); clear ho
      have v49 := s_49 (dp hdep 4)
      refine dj_val (i := 5) (v := .agg #[.bool true, .int .i64 x.frame]) rfl (.inl rfl) (bd_key_0_1 (ec ac (.bool true)) v49.eval _ rfl) ?_
      exact ⟨⟨_, rfl⟩, N6r9, N7r9, bl, sz, b_B1, b_B54, m_B35, n_N6r9, n_N7r9, d_6_7, cl_8_6, cl_9_7, (so s_45), (so s_46), (so s_47), (so s_48), (so s_49), (fun _ => Sv.self (by rw [z]; decide) _), (so s_7), (so s_8)⟩
    | 6, _ =>
      obtain rfl := Option.some.inj (show some _ = some o from ho); clear ho
      refine dj_val (i := 6) rfl (.inl rfl) (w' := wc.alloc (.cells (#[.bool false, .int .i64 0]) 70)) (v := .pointer (some ⟨wc.heap.size, 0, none⟩)) (ev_alloc (z := .agg (#[.bool false, .int .i64 0])) (by kernel_rfl) (by kernel_rfl) _ rfl) ?_
      have hx := Bx.new wc 70 (#[.bool false, .int .i64 0])
      have hg := g0 (al wc (.cells (#[.bool false, .int .i64 0]) 70))
      have e0 : L 8 = false := by
        cases hc : L 8
        · rfl
        · exact absurd (cl_8_6 hc) (by rw [hL]; decide)
      replace hx : Bx (wc.alloc (.cells (#[.bool false, .int .i64 0]) 70)) wc.heap.size 70 (bif L 8 then (#[.bool false, .int .i64 x.slot]) else (#[.bool false, .int .i64 0])) := by rw [e0]; exact hx
      exact ⟨⟨_, rfl⟩, wc.heap.size, N7r9, (Below.gN bl hg bl.size), (Nat.le_trans sz hg.size), (b_B1.gN hg), (b_B54.gN hg), (m_B35.gN hg), (fun _ => ⟨sz, hx⟩), (fun h => ⟨(n_N7r9 h).1, (n_N7r9 h).2.gN hg⟩), (fun _ h => by have := (n_N7r9 h).2.lt; omega), (fun _ => rfl), cl_9_7, (so s_45), (so s_46), (so s_47), (so s_48), (so s_49), (so s_50), (fun _ => Sv.self (by rw [z]; decide) _), (so s_8)⟩
    | 7, _ =>
      obtain rfl := Option.some.inj (show some _ = some o from ho); clear ho
      refine dj_val (i := 7) rfl (.inl rfl) (w' := wc.alloc (.cells (#[.bool false, .int .i64 0]) 70)) (v := .pointer (some ⟨wc.heap.size, 0, none⟩)) (ev_alloc (z := .agg (#[.bool false, .int .i64 0])) (by kernel_rfl) (by kernel_rfl) _ rfl) ?_
      have hx := Bx.new wc 70 (#[.bool false, .int .i64 0])
      have hg := g0 (al wc (.cells (#[.bool false, .int .i64 0]) 70))
      have e0 : L 9 = false := by
        cases hc : L 9
        · rfl
        · exact absurd (cl_9_7 hc) (by rw [hL]; decide)
      replace hx : Bx (wc.alloc (.cells (#[.bool false, .int .i64 0]) 70)) wc.heap.size 70 (bif L 9 then (#[.bool true, .int .i64 x.frame]) else (#[.bool false, .int .i64 0])) := by rw [e0]; exact hx
      exact ⟨⟨_, rfl⟩, N6r9, wc.heap.size, (Below.gN bl hg bl.size), (Nat.le_trans sz hg.size), (b_B1.gN hg), (b_B54.gN hg), (m_B35.gN hg), (fun h => ⟨(n_N6r9 h).1, (n_N6r9 h).2.gN hg⟩), (fun _ => ⟨sz, hx⟩), (fun h _ => by have := (n_N6r9 h).2.lt; omega), cl_8_6, (fun _ => rfl), (so s_45), (so s_46), (so s_47), (so s_48), (so s_49), (so s_50), (so s_7), (fun _ => Sv.self (by rw [z]; decide) _)⟩
    | 8, _ =>
      obtain rfl := Option.some.inj (show some _ = some o from ho); clear ho
      have v7 := s_7 (dp hdep 6)
      have v47 := s_47 (dp hdep 2)
      have xN6r9 := (n_N6r9 (dp hdep 6)).2
      rw [hL] at xN6r9
      refine dj_skip (i := 8) rfl rfl (.inl rfl) (w' := wc.setRow N6r9 (#[.bool false, .int .i64 x.slot])) (ev_srow v7.eval v47.eval xN6r9 (n := 2) (by kernel_rfl) rfl rfl (ky_one _ _) _ rfl) ?_
      have hg := grw xN6r9 (#[.bool false, .int .i64 x.slot])
      have hx := xN6r9.row (#[.bool false, .int .i64 x.slot])
      exact ⟨⟨undef, rfl⟩, N6r9, N7r9, (Below.gB bl hg bl.size (by have := (n_N6r9 (dp hdep 6)).1; omega)), (Nat.le_trans sz hg.size), (b_B1.gB hg (by have := (n_N6r9 (dp hdep 6)).1; omega)), (b_B54.gB hg (by have := (n_N6r9 (dp hdep 6)).1; omega)), (m_B35.gB hg (by have := (n_N6r9 (dp hdep 6)).1; omega)), (fun h => ⟨(n_N6r9 h).1, hx⟩), (fun h => ⟨(n_N7r9 h).1, (n_N7r9 h).2.gB hg ((d_6_7 (dp hdep 6) h).symm)⟩), d_6_7, (fun _ => dp hdep 6), cl_9_7, s_45, s_46, s_47, s_48, s_49, s_50, s_7, s_8⟩
    | 9, _ =>
      obtain rfl := Option.some.inj (show some _ = some o from ho); clear ho
      have v8 := s_8 (dp hdep 7)
      have v50 := s_50 (dp hdep 5)
      have xN7r9 := (n_N7r9 (dp hdep 7)).2
      rw [hL] at xN7r9
      refine dj_skip (i := 9) rfl rfl (.inl rfl) (w' := wc.setRow N7r9 (#[.bool true, .int .i64 x.frame])) (ev_srow v8.eval v50.eval xN7r9 (n := 2) (by kernel_rfl) rfl rfl (ky_one _ _) _ rfl) ?_
      have hg := grw xN7r9 (#[.bool true, .int .i64 x.frame])
      have hx := xN7r9.row (#[.bool true, .int .i64 x.frame])
      exact ⟨⟨undef, rfl⟩, N6r9, N7r9, (Below.gB bl hg bl.size (by have := (n_N7r9 (dp hdep 7)).1; omega)), (Nat.le_trans sz hg.size), (b_B1.gB hg (by have := (n_N7r9 (dp hdep 7)).1; omega)), (b_B54.gB hg (by have := (n_N7r9 (dp hdep 7)).1; omega)), (m_B35.gB hg (by have := (n_N7r9 (dp hdep 7)).1; omega)), (fun h => ⟨(n_N6r9 h).1, (n_N6r9 h).2.gB hg (d_6_7 h (dp hdep 7))⟩), (fun h => ⟨(n_N7r9 h).1, hx⟩), d_6_7, cl_8_6, (fun _ => dp hdep 7), s_45, s_46, s_47, s_48, s_49, s_50, s_7, s_8⟩
    | k + 10, h => exact absurd h (by omega)
  · intro L hall ac63 wc63 hF hJ
    obtain ⟨N6r9, N7r9, bl, sz, b_B1, b_B54, m_B35, n_N6r9, n_N7r9, d_6_7, cl_8_6, cl_9_7, s_45, s_46, s_47, s_48, s_49, s_50, s_7, s_8⟩ := hJ
    have hA63 : Ag ac63 84 [(1, .pointer (some ⟨B1, 0, none⟩)), (4, .map (some B35)), (38, .slice A2 js.length c2), (39, .int .i64 (js.length : Int)), (40, .int .i64 (k : Int)), (41, .bool true), (42, .int .i64 (k : Int)), (43, .pointer (some (ad51.add (k * 11)))), (44, .agg x.va), (6, .pointer (some ⟨B54, 0, none⟩)), (5, .int .i64 (k : Int)), (45, .pointer (some ⟨B54, 1, none⟩)), (46, .int .i64 x.slot), (47, .agg #[.bool false, .int .i64 x.slot]), (48, .pointer (some ⟨B54, 2, none⟩)), (49, .int .i64 x.frame), (50, .agg #[.bool true, .int .i64 x.frame]), (7, .pointer (some ⟨N6r9, 0, none⟩)), (8, .pointer (some ⟨N7r9, 0, none⟩))] := ((((((((((((((((((((Ag.nil (hF.1.trans hA55.1) (hF.2.1.trans hA55.2.1)).cons (s_8 (hall 7 (by decide)))).cons (s_7 (hall 6 (by decide)))).cons (s_50 (hall 5 (by decide)))).cons (s_49 (hall 4 (by decide)))).cons (s_48 (hall 3 (by decide)))).cons (s_47 (hall 2 (by decide)))).cons (s_46 (hall 1 (by decide)))).cons (s_45 (hall 0 (by decide)))).cons (hF.sv (s := 5) (by kernel_rfl) (hA55.get (i := 5) (v := .int .i64 (k : Int))))).cons (hF.sv (s := 6) (by kernel_rfl) (hA55.get (i := 6) (v := .pointer (some ⟨B54, 0, none⟩))))).cons (hF.sv (s := 44) (by kernel_rfl) (hA55.get (i := 44) (v := .agg x.va)))).cons (hF.sv (s := 43) (by kernel_rfl) (hA55.get (i := 43) (v := .pointer (some (ad51.add (k * 11))))))).cons (hF.sv (s := 42) (by kernel_rfl) (hA55.get (i := 42) (v := .int .i64 (k : Int))))).cons (hF.sv (s := 41) (by kernel_rfl) (hA55.get (i := 41) (v := .bool true)))).cons (hF.sv (s := 40) (by kernel_rfl) (hA55.get (i := 40) (v := .int .i64 (k : Int))))).cons (hF.sv (s := 39) (by kernel_rfl) (hA55.get (i := 39) (v := .int .i64 (js.length : Int))))).cons (hF.sv (s := 38) (by kernel_rfl) (hA55.get (i := 38) (v := .slice A2 js.length c2)))).cons (hF.sv (s := 4) (by kernel_rfl) (hA55.get (i := 4) (v := .map (some B35))))).cons (hF.sv (s := 1) (by kernel_rfl) (hA55.get (i := 1) (v := .pointer (some ⟨B1, 0, none⟩)))))
    have bl63 := bl
    have sz63 := sz
    have b63_B1 := b_B1
    have b63_B54 := b_B54
    have m63_B35 := m_B35
    have n63_N6r9 := (n_N6r9 (hall 6 (by decide))).1
    have b63_N6r9 : Bx wc63 N6r9 70 (#[.bool false, .int .i64 x.slot]) := by
      have h := (n_N6r9 (hall 6 (by decide))).2
      rw [hall 8 (by decide)] at h
      exact h
    have l63_N6r9 := b63_N6r9.lt
    have n63_N7r9 := (n_N7r9 (hall 7 (by decide))).1
    have b63_N7r9 : Bx wc63 N7r9 70 (#[.bool true, .int .i64 x.frame]) := by
      have h := (n_N7r9 (hall 7 (by decide))).2
      rw [hall 9 (by decide)] at h
      exact h
    have l63_N7r9 := b63_N7r9.lt
    have d63_6_7 := d_6_7 (hall 6 (by decide)) (hall 7 (by decide))
    clear hF bl sz b_B1 b_B54 m_B35 n_N6r9 n_N7r9 d_6_7 cl_8_6 cl_9_7 s_45 s_46 s_47 s_48 s_49 s_50 s_7 s_8 hall hA55
    refine then_n ?_
    refine wp_seq ?_
    refine wp_seq ?_
    refine wp_region_lit ?_
    refine sx_val (v := .agg #[.slice A1 cs.length c1, .slice A2 js.length c2, .int .i64 room]) hA63 rfl (ev_row (hA63.ev (i := 1) (v := .pointer (some ⟨B1, 0, none⟩))) b63_B1 Try.underlying25 rfl (n := 3) (by kernel_rfl) rfl _ rfl) ?_
    intro a64 hA64; clear hA63
    refine sx_val (v := .pointer (some ⟨B54, 1, none⟩)) hA64 rfl (fb_Job_1 (hA64.ev (i := 6) (v := .pointer (some ⟨B54, 0, none⟩))) _ rfl) ?_
    intro a65 hA65; clear hA64
    refine sx_val (v := .int .i64 x.slot) hA65 rfl (ev_cell (v := .int .i64 x.slot) (hA65.ev (i := 52) (v := .pointer (some ⟨B54, 1, none⟩))) ((b63_B54.cell 1).trans rfl) Try.underlying3 rfl _ rfl) ?_
    intro a66 hA66; clear hA65
    refine sx_val (v := .pointer (some ⟨B54, 2, none⟩)) hA66 rfl (fb_Job_2 (hA66.ev (i := 6) (v := .pointer (some ⟨B54, 0, none⟩))) _ rfl) ?_
    intro a67 hA67; clear hA66
    refine sx_val (v := .int .i64 x.frame) hA67 rfl (ev_cell (v := .int .i64 x.frame) (hA67.ev (i := 54) (v := .pointer (some ⟨B54, 2, none⟩))) ((b63_B54.cell 2).trans rfl) Try.underlying3 rfl _ rfl) ?_
    intro a68 hA68; clear hA67
    cases hd70 : inR cs.length x.slot x.frame
    · refine sx_call (f := 43) (args := #[.agg #[.slice A1 cs.length c1, .slice A2 js.length c2, .int .i64 room], .int .i64 x.slot, .int .i64 x.frame]) hA68 rfl (by decide) (.inl rfl) (ev_fn rfl (mp3 (hA68.ev (i := 51) (v := .agg #[.slice A1 cs.length c1, .slice A2 js.length c2, .int .i64 room])) (hA68.ev (i := 53) (v := .int .i64 x.slot)) (hA68.ev (i := 55) (v := .int .i64 x.frame))) (by kernel_rfl) _ rfl) (inRange_any A1 c1 A2 c2 cs js room x.slot x.frame _) ?_
      intro e71 w71 hR71
      obtain ⟨he71, hb71⟩ := hR71
      rw [hd70] at he71
      subst he71
      refine ⟨_, rfl, ?_⟩
      intro a71 hA71
      clear hA68
      have hg71 := g0 hb71
      have hs71 := hg71.size
      clear hb71
      refine sx_val (v := .bool true) hA71 rfl (ev_notF (hA71.ev (i := 56) (v := .bool false)) _ rfl) ?_
      intro a72 hA72; clear hA71
      refine sx_nil ?_
      refine then_n ?_
      refine wp_cond_true (hA72.ev (i := 57) (v := .bool true)) ?_
      refine wp_seq ?_
      refine wp_region_lit ?_
      refine sx_val hA72 rfl (ev_move (hA72.ev (i := 5) (v := .int .i64 (k : Int))) _ rfl) ?_
      intro a73 hA73; clear hA72
      refine sx_val hA73 rfl (ev_assign (ec _ (.int .i64 2)) _ rfl) ?_
      intro a74 hA74; clear hA73
      refine sx_val hA74 rfl (ev_assign (hA74.ev (i := 58) (v := .int .i64 (k : Int))) _ rfl) ?_
      intro a75 hA75; clear hA74
      refine sx_nil ?_
      refine then_n ?_
      refine wp_ret ?_
      refine then_r ?_
      refine blk_r ?_
      refine then_r ?_
      refine then_r ?_
      refine blk_r ?_
      refine then_r ?_
      refine bodyPost_ret (rs_tt (v := .int .i64 2) (v2 := .int .i64 (k : Int)) Try.results24 hA75 (by kernel_rfl) (by kernel_rfl) ) hA75.2.1 ?_
      have bl63_76 := Below.gN bl63 hg71 bl63.size
      have E : chk ⟨cs, js, room⟩ = (2, (k : Int)) := by
        rw [q42_1, ckJ_step hx (by omega), if_pos hd70]
      exact ⟨ret2 (by rw [E]), bl63_76⟩
    refine sx_call (f := 43) (args := #[.agg #[.slice A1 cs.length c1, .slice A2 js.length c2, .int .i64 room], .int .i64 x.slot, .int .i64 x.frame]) hA68 rfl (by decide) (.inl rfl) (ev_fn rfl (mp3 (hA68.ev (i := 51) (v := .agg #[.slice A1 cs.length c1, .slice A2 js.length c2, .int .i64 room])) (hA68.ev (i := 53) (v := .int .i64 x.slot)) (hA68.ev (i := 55) (v := .int .i64 x.frame))) (by kernel_rfl) _ rfl) (inRange_any A1 c1 A2 c2 cs js room x.slot x.frame _) ?_
    intro e77 w77 hR77
    obtain ⟨he77, hb77⟩ := hR77
    rw [hd70] at he77
    subst he77
    refine ⟨_, rfl, ?_⟩
    intro a77 hA77
    clear hA68
    have hg77 := g0 hb77
    have hs77 := hg77.size
    clear hb77
    refine sx_val (v := .bool false) hA77 rfl (ev_notT (hA77.ev (i := 56) (v := .bool true)) _ rfl) ?_
    intro a78 hA78; clear hA77
    refine sx_nil ?_
    refine then_n ?_
    refine wp_cond_false (hA78.ev (i := 57) (v := .bool false)) ?_
    refine wp_skip ?_
    refine then_n ?_
    refine wp_seq ?_
    refine wp_seq ?_
    refine wp_region_lit ?_
    refine sx_val hA78 rfl (ev_move (hA78.ev (i := 4) (v := .map (some B35))) _ rfl) ?_
    intro a79 hA79; clear hA78
    have b63_N6r9_80 := b63_N6r9.gN hg77
    refine sx_val (v := .agg #[.bool false, .int .i64 x.slot]) hA79 rfl (ev_row (hA79.ev (i := 7) (v := .pointer (some ⟨N6r9, 0, none⟩))) b63_N6r9_80 Try.underlying70 rfl (n := 2) (by kernel_rfl) rfl _ rfl) ?_
    intro a81 hA81; clear hA79
    have m63_B35_82 := m63_B35.gN hg77
    refine sx_val (v := .bool (tk js k (false, x.slot))) hA81 rfl (ev_look mk_key m63_B35_82 Try.underlying68 (by kernel_rfl) (k := (false, x.slot)) (r := .bool (tk js k (false, x.slot))) (hA81.ev (i := 59) (v := .map (some B35))) (hA81.ev (i := 60) (v := .agg #[.bool false, .int .i64 x.slot])) (tkf_look js k _) _ rfl) ?_
    intro a83 hA83; clear hA81
    refine sx_val hA83 rfl (ev_move (hA83.ev (i := 61) (v := .bool (tk js k (false, x.slot)))) _ rfl) ?_
    intro a84 hA84; clear hA83
    cases hd85 : tk js k (false, x.slot)
    rotate_left
    · rw [hd85] at hA84
      refine sx_no (j := 3) (s := 62) (want := false) (b := true) hA84 rfl ?_
      intro a133 hA133; clear hA84
      refine sx_no (j := 3) (s := 62) (want := false) (b := true) hA133 rfl ?_
      intro a134 hA134; clear hA133
      refine sx_no (j := 3) (s := 62) (want := false) (b := true) hA134 rfl ?_
      intro a135 hA135; clear hA134
      refine sx_val hA135 rfl (ev_pickT (hA135.ev (i := 62) (v := .bool true)) (ec _ (.bool true)) _ rfl) ?_
      intro a136 hA136; clear hA135
      refine sx_nil ?_
      refine then_n ?_
      refine wp_cond_true (hA136.ev (i := 66) (v := .bool true)) ?_
      refine wp_seq ?_
      refine wp_region_lit ?_
      refine sx_val hA136 rfl (ev_move (hA136.ev (i := 5) (v := .int .i64 (k : Int))) _ rfl) ?_
      intro a137 hA137; clear hA136
      refine sx_val hA137 rfl (ev_assign (ec _ (.int .i64 10)) _ rfl) ?_
      intro a138 hA138; clear hA137
      refine sx_val hA138 rfl (ev_assign (hA138.ev (i := 67) (v := .int .i64 (k : Int))) _ rfl) ?_
      intro a139 hA139; clear hA138
      refine sx_nil ?_
      refine then_n ?_
      refine wp_ret ?_
      refine then_r ?_
      refine blk_r ?_
      refine then_r ?_
      refine then_r ?_
      refine blk_r ?_
      refine then_r ?_
      refine bodyPost_ret (rs_tt (v := .int .i64 10) (v2 := .int .i64 (k : Int)) Try.results24 hA139 (by kernel_rfl) (by kernel_rfl) ) hA139.2.1 ?_
      have bl63_140 := Below.gN bl63 hg77 bl63.size
      have E : chk ⟨cs, js, room⟩ = (10, (k : Int)) := by
        rw [q42_1, ckJ_step hx (by omega), if_neg (by rw [hd70]; decide), if_pos (by rw [clash_tk]; simp [hd85])]
      exact ⟨ret2 (by rw [E]), bl63_140⟩
    rw [hd85] at hA84
    refine sx_val (hg := (.inr ⟨3, false, 62, rfl, rfl, by kernel_rfl⟩)) hA84 rfl (ev_move (hA84.ev (i := 4) (v := .map (some B35))) _ rfl) ?_
    intro a86 hA86; clear hA84
    have b63_N7r9_87 := b63_N7r9.gN hg77
    refine sx_val (hg := (.inr ⟨3, false, 62, rfl, rfl, by kernel_rfl⟩)) (v := .agg #[.bool true, .int .i64 x.frame]) hA86 rfl (ev_row (hA86.ev (i := 8) (v := .pointer (some ⟨N7r9, 0, none⟩))) b63_N7r9_87 Try.underlying70 rfl (n := 2) (by kernel_rfl) rfl _ rfl) ?_
    intro a88 hA88; clear hA86
    refine sx_val (hg := (.inr ⟨3, false, 62, rfl, rfl, by kernel_rfl⟩)) (v := .bool (tk js k (true, x.frame))) hA88 rfl (ev_look mk_key m63_B35_82 Try.underlying68 (by kernel_rfl) (k := (true, x.frame)) (r := .bool (tk js k (true, x.frame))) (hA88.ev (i := 63) (v := .map (some B35))) (hA88.ev (i := 64) (v := .agg #[.bool true, .int .i64 x.frame])) (tkf_look js k _) _ rfl) ?_
    intro a89 hA89; clear hA88
    refine sx_val hA89 rfl (ev_pickF (hA89.ev (i := 62) (v := .bool false)) (hA89.ev (i := 65) (v := .bool (tk js k (true, x.frame)))) _ rfl) ?_
    intro a90 hA90; clear hA89
    refine sx_nil ?_
    refine then_n ?_
    cases hd91 : tk js k (true, x.frame)
    rotate_left
    · rw [hd91] at hA90
      refine wp_cond_true (hA90.ev (i := 66) (v := .bool true)) ?_
      refine wp_seq ?_
      refine wp_region_lit ?_
      refine sx_val hA90 rfl (ev_move (hA90.ev (i := 5) (v := .int .i64 (k : Int))) _ rfl) ?_
      intro a129 hA129; clear hA90
      refine sx_val hA129 rfl (ev_assign (ec _ (.int .i64 10)) _ rfl) ?_
      intro a130 hA130; clear hA129
      refine sx_val hA130 rfl (ev_assign (hA130.ev (i := 67) (v := .int .i64 (k : Int))) _ rfl) ?_
      intro a131 hA131; clear hA130
      refine sx_nil ?_
      refine then_n ?_
      refine wp_ret ?_
      refine then_r ?_
      refine blk_r ?_
      refine then_r ?_
      refine then_r ?_
      refine blk_r ?_
      refine then_r ?_
      refine bodyPost_ret (rs_tt (v := .int .i64 10) (v2 := .int .i64 (k : Int)) Try.results24 hA131 (by kernel_rfl) (by kernel_rfl) ) hA131.2.1 ?_
      have bl63_132 := Below.gN bl63 hg77 bl63.size
      have E : chk ⟨cs, js, room⟩ = (10, (k : Int)) := by
        rw [q42_1, ckJ_step hx (by omega), if_neg (by rw [hd70]; decide), if_pos (by rw [clash_tk]; simp [hd85, hd91])]
      exact ⟨ret2 (by rw [E]), bl63_132⟩
    rw [hd91] at hA90
    refine wp_cond_false (hA90.ev (i := 66) (v := .bool false)) ?_
    refine wp_skip ?_
    refine then_n ?_
    refine wp_seq ?_
    refine wp_seq ?_
    refine wp_region_lit ?_
    refine sx_val (v := .pointer (some ⟨B54, 0, none⟩)) hA90 rfl (fb_Job_0 (hA90.ev (i := 6) (v := .pointer (some ⟨B54, 0, none⟩))) _ rfl) ?_
    intro a92 hA92; clear hA90
    have b63_B54_93 := b63_B54.gN hg77
    refine sx_val (v := .bool x.wr) hA92 rfl (ev_cell (v := .bool x.wr) (hA92.ev (i := 68) (v := .pointer (some ⟨B54, 0, none⟩))) ((b63_B54_93.cell 0).trans rfl) Try.underlying4 rfl _ rfl) ?_
    intro a94 hA94; clear hA92
    refine sx_val hA94 rfl (ev_move (hA94.ev (i := 69) (v := .bool x.wr)) _ rfl) ?_
    intro a95 hA95; clear hA94
    cases hd96 : x.wr
    rotate_left
    · rw [hd96] at hA95
      refine sx_no (j := 2) (s := 70) (want := false) (b := true) hA95 rfl ?_
      intro a116 hA116; clear hA95
      refine sx_no (j := 2) (s := 70) (want := false) (b := true) hA116 rfl ?_
      intro a117 hA117; clear hA116
      refine sx_no (j := 2) (s := 70) (want := false) (b := true) hA117 rfl ?_
      intro a118 hA118; clear hA117
      refine sx_no (j := 2) (s := 70) (want := false) (b := true) hA118 rfl ?_
      intro a119 hA119; clear hA118
      refine sx_val hA119 rfl (ev_pickT (hA119.ev (i := 70) (v := .bool true)) (ec _ (.bool true)) _ rfl) ?_
      intro a120 hA120; clear hA119
      refine sx_val hA120 rfl (ev_assign (hA120.ev (i := 75) (v := .bool true)) _ rfl) ?_
      intro a121 hA121; clear hA120
      refine sx_nil ?_
      refine then_n ?_
      refine wp_seq ?_
      refine wp_region_lit ?_
      refine sx_val hA121 rfl (ev_move (hA121.ev (i := 9) (v := .bool true)) _ rfl) ?_
      intro a122 hA122; clear hA121
      refine sx_val (v := .bool false) hA122 rfl (ev_notT (hA122.ev (i := 76) (v := .bool true)) _ rfl) ?_
      intro a123 hA123; clear hA122
      refine sx_nil ?_
      refine then_n ?_
      refine wp_cond_false (hA123.ev (i := 77) (v := .bool false)) ?_
      refine wp_skip ?_
      refine then_n ?_
      have b63_B1_124 := b63_B1.gN hg77
      have bl63_125 := Below.gN bl63 hg77 bl63.size
      refine region_D (n := 6) (by kernel_rfl) (by kernel_rfl) rfl (fun L ac wc => Below w.heap.size w wc ∧ w77.heap.size ≤ wc.heap.size ∧ Bx wc B1 25 (#[.slice A1 cs.length c1, .slice A2 js.length c2, .int .i64 room]) ∧ Bx wc B54 38 x.va ∧ Bx wc N6r9 70 (#[.bool false, .int .i64 x.slot]) ∧ Bx wc N7r9 70 (#[.bool true, .int .i64 x.frame]) ∧ Mp wc B35 kyv Value.bool (fun q => if (L 5 = true ∧ q = (true, x.frame)) ∨ (L 4 = true ∧ q = (false, x.slot)) then some true else (tkf js k) q) ∧ (L 0 = true → Sv ac 79 (.map (some B35))) ∧ (L 1 = true → Sv ac 80 (.agg #[.bool false, .int .i64 x.slot])) ∧ (L 2 = true → Sv ac 81 (.map (some B35))) ∧ (L 3 = true → Sv ac 82 (.agg #[.bool true, .int .i64 x.frame]))) ⟨(Below.gN bl63_125 (gdr _) bl63_125.size), (Nat.le_refl _), (b63_B1_124.gN (gdr _)), (b63_B54_93.gN (gdr _)), (b63_N6r9_80.gN (gdr _)), (b63_N7r9_87.gN (gdr _)), (Mp.congr (m63_B35_82.gN (gdr _)) (fun q => by simp)), (fun h => by cases h), (fun h => by cases h), (fun h => by cases h), (fun h => by cases h)⟩ ?_ ?_
      · intro iq hiq o ho L hL hdep ac wc hF hJ
        obtain ⟨bl, sz, b_B1, b_B54, b_N6r9, b_N7r9, m_B35, s_79, s_80, s_81, s_82⟩ := hJ
        have z := hF.1.trans hA123.1
        match iq, hiq with
        | 0, _ =>
          obtain rfl := Option.some.inj (show some _ = some o from ho); clear ho
          have v4 := hF.sv (s := 4) (by kernel_rfl) (hA123.get (i := 4) (v := .map (some B35)))
          refine dj_val (i := 0) (v := .map (some B35)) rfl (.inl rfl) (ev_move v4.eval _ rfl) ?_
          exact ⟨⟨_, rfl⟩, bl, sz, b_B1, b_B54, b_N6r9, b_N7r9, m_B35, (fun _ => Sv.self (by rw [z]; decide) _), (so s_80), (so s_81), (so s_82)⟩
        | 1, _ =>
          obtain rfl := Option.some.inj (show some _ = some o from ho); clear ho
          have v7 := hF.sv (s := 7) (by kernel_rfl) (hA123.get (i := 7) (v := .pointer (some ⟨N6r9, 0, none⟩)))
          refine dj_val (i := 1) (v := .agg #[.bool false, .int .i64 x.slot]) rfl (.inl rfl) (ev_row v7.eval b_N6r9 Try.underlying70 rfl (n := 2) (by kernel_rfl) rfl _ rfl) ?_
          exact ⟨⟨_, rfl⟩, bl, sz, b_B1, b_B54, b_N6r9, b_N7r9, m_B35, (so s_79), (fun _ => Sv.self (by rw [z]; decide) _), (so s_81), (so s_82)⟩
        | 2, _ =>
          obtain rfl := Option.some.inj (show some _ = some o from ho); clear ho
          have v4 := hF.sv (s := 4) (by kernel_rfl) (hA123.get (i := 4) (v := .map (some B35)))
          refine dj_val (i := 2) (v := .map (some B35)) rfl (.inl rfl) (ev_move v4.eval _ rfl) ?_
          exact ⟨⟨_, rfl⟩, bl, sz, b_B1, b_B54, b_N6r9, b_N7r9, m_B35, (so s_79), (so s_80), (fun _ => Sv.self (by rw [z]; decide) _), (so s_82)⟩
        | 3, _ =>
          obtain rfl := Option.some.inj (show some _ = some o from ho); clear ho
          have v8 := hF.sv (s := 8) (by kernel_rfl) (hA123.get (i := 8) (v := .pointer (some ⟨N7r9, 0, none⟩)))
          refine dj_val (i := 3) (v := .agg #[.bool true, .int .i64 x.frame]) rfl (.inl rfl) (ev_row v8.eval b_N7r9 Try.underlying70 rfl (n := 2) (by kernel_rfl) rfl _ rfl) ?_
          exact ⟨⟨_, rfl⟩, bl, sz, b_B1, b_B54, b_N6r9, b_N7r9, m_B35, (so s_79), (so s_80), (so s_81), (fun _ => Sv.self (by rw [z]; decide) _)⟩
        | 4, _ =>
          obtain rfl := Option.some.inj (show some _ = some o from ho); clear ho
          have v79 := s_79 (dp hdep 0)
          have v80 := s_80 (dp hdep 1)
          obtain ⟨w2, hr, hm, hg⟩ := m_B35.upd mk_key Try.underlying68 (false, x.slot) true
          have e1 := v79.eval
          have e2 := v80.eval
          have e3 := (ec ac (.bool true))
          refine dj_skip (i := 4) rfl rfl (.inl rfl) (w' := w2) (by simp only [execOp, e1, e2, e3]; simp [kyv] at hr; simp [hr, Result.andThen]) ?_
          exact ⟨⟨undef, rfl⟩, (Below.gB bl hg bl.size (by omega)), (Nat.le_trans sz hg.size), (b_B1.gB hg (by omega)), (b_B54.gB hg (by omega)), (b_N6r9.gB hg (by omega)), (b_N7r9.gB hg (by omega)), (hm.congr (fun q => by show (if q = (false, x.slot) then some true else (if (L 5 = true ∧ q = (true, x.frame)) ∨ (L 4 = true ∧ q = (false, x.slot)) then some true else (tkf js k) q)) = (if (L 5 = true ∧ q = (true, x.frame)) ∨ (true = true ∧ q = (false, x.slot)) then some true else (tkf js k) q); rw [hL]; by_cases h1 : q = (false, x.slot) <;> simp [h1])), s_79, s_80, s_81, s_82⟩
        | 5, _ =>
          obtain rfl := Option.some.inj (show some _ = some o from ho); clear ho
          have v81 := s_81 (dp hdep 2)
          have v82 := s_82 (dp hdep 3)
          obtain ⟨w2, hr, hm, hg⟩ := m_B35.upd mk_key Try.underlying68 (true, x.frame) true
          have e1 := v81.eval
          have e2 := v82.eval
          have e3 := (ec ac (.bool true))
          refine dj_skip (i := 5) rfl rfl (.inl rfl) (w' := w2) (by simp only [execOp, e1, e2, e3]; simp [kyv] at hr; simp [hr, Result.andThen]) ?_
          exact ⟨⟨undef, rfl⟩, (Below.gB bl hg bl.size (by omega)), (Nat.le_trans sz hg.size), (b_B1.gB hg (by omega)), (b_B54.gB hg (by omega)), (b_N6r9.gB hg (by omega)), (b_N7r9.gB hg (by omega)), (hm.congr (fun q => by show (if q = (true, x.frame) then some true else (if (L 5 = true ∧ q = (true, x.frame)) ∨ (L 4 = true ∧ q = (false, x.slot)) then some true else (tkf js k) q)) = (if (true = true ∧ q = (true, x.frame)) ∨ (L 4 = true ∧ q = (false, x.slot)) then some true else (tkf js k) q); rw [hL]; by_cases h1 : q = (true, x.frame) <;> simp [h1])), s_79, s_80, s_81, s_82⟩
        | k + 6, h => exact absurd h (by omega)
      · intro L hall ac126 wc126 hF hJ
        obtain ⟨bl, sz, b_B1, b_B54, b_N6r9, b_N7r9, m_B35, s_79, s_80, s_81, s_82⟩ := hJ
        have hA126 : Ag ac126 84 [(1, .pointer (some ⟨B1, 0, none⟩)), (4, .map (some B35)), (38, .slice A2 js.length c2), (39, .int .i64 (js.length : Int)), (40, .int .i64 (k : Int)), (41, .bool true), (42, .int .i64 (k : Int)), (43, .pointer (some (ad51.add (k * 11)))), (44, .agg x.va), (6, .pointer (some ⟨B54, 0, none⟩)), (5, .int .i64 (k : Int)), (45, .pointer (some ⟨B54, 1, none⟩)), (46, .int .i64 x.slot), (47, .agg #[.bool false, .int .i64 x.slot]), (48, .pointer (some ⟨B54, 2, none⟩)), (49, .int .i64 x.frame), (50, .agg #[.bool true, .int .i64 x.frame]), (7, .pointer (some ⟨N6r9, 0, none⟩)), (8, .pointer (some ⟨N7r9, 0, none⟩)), (51, .agg #[.slice A1 cs.length c1, .slice A2 js.length c2, .int .i64 room]), (52, .pointer (some ⟨B54, 1, none⟩)), (53, .int .i64 x.slot), (54, .pointer (some ⟨B54, 2, none⟩)), (55, .int .i64 x.frame), (56, .bool true), (57, .bool false), (59, .map (some B35)), (60, .agg #[.bool false, .int .i64 x.slot]), (61, .bool false), (62, .bool false), (63, .map (some B35)), (64, .agg #[.bool true, .int .i64 x.frame]), (65, .bool false), (66, .bool false), (68, .pointer (some ⟨B54, 0, none⟩)), (69, .bool true), (70, .bool true), (75, .bool true), (9, .bool true), (76, .bool true), (77, .bool false), (79, .map (some B35)), (80, .agg #[.bool false, .int .i64 x.slot]), (81, .map (some B35)), (82, .agg #[.bool true, .int .i64 x.frame])] := ((((((((((((((((((((((((((((((((((((((((((((((Ag.nil (hF.1.trans hA123.1) (hF.2.1.trans hA123.2.1)).cons (s_82 (hall 3 (by decide)))).cons (s_81 (hall 2 (by decide)))).cons (s_80 (hall 1 (by decide)))).cons (s_79 (hall 0 (by decide)))).cons (hF.sv (s := 77) (by kernel_rfl) (hA123.get (i := 77) (v := .bool false)))).cons (hF.sv (s := 76) (by kernel_rfl) (hA123.get (i := 76) (v := .bool true)))).cons (hF.sv (s := 9) (by kernel_rfl) (hA123.get (i := 9) (v := .bool true)))).cons (hF.sv (s := 75) (by kernel_rfl) (hA123.get (i := 75) (v := .bool true)))).cons (hF.sv (s := 70) (by kernel_rfl) (hA123.get (i := 70) (v := .bool true)))).cons (hF.sv (s := 69) (by kernel_rfl) (hA123.get (i := 69) (v := .bool true)))).cons (hF.sv (s := 68) (by kernel_rfl) (hA123.get (i := 68) (v := .pointer (some ⟨B54, 0, none⟩))))).cons (hF.sv (s := 66) (by kernel_rfl) (hA123.get (i := 66) (v := .bool false)))).cons (hF.sv (s := 65) (by kernel_rfl) (hA123.get (i := 65) (v := .bool false)))).cons (hF.sv (s := 64) (by kernel_rfl) (hA123.get (i := 64) (v := .agg #[.bool true, .int .i64 x.frame])))).cons (hF.sv (s := 63) (by kernel_rfl) (hA123.get (i := 63) (v := .map (some B35))))).cons (hF.sv (s := 62) (by kernel_rfl) (hA123.get (i := 62) (v := .bool false)))).cons (hF.sv (s := 61) (by kernel_rfl) (hA123.get (i := 61) (v := .bool false)))).cons (hF.sv (s := 60) (by kernel_rfl) (hA123.get (i := 60) (v := .agg #[.bool false, .int .i64 x.slot])))).cons (hF.sv (s := 59) (by kernel_rfl) (hA123.get (i := 59) (v := .map (some B35))))).cons (hF.sv (s := 57) (by kernel_rfl) (hA123.get (i := 57) (v := .bool false)))).cons (hF.sv (s := 56) (by kernel_rfl) (hA123.get (i := 56) (v := .bool true)))).cons (hF.sv (s := 55) (by kernel_rfl) (hA123.get (i := 55) (v := .int .i64 x.frame)))).cons (hF.sv (s := 54) (by kernel_rfl) (hA123.get (i := 54) (v := .pointer (some ⟨B54, 2, none⟩))))).cons (hF.sv (s := 53) (by kernel_rfl) (hA123.get (i := 53) (v := .int .i64 x.slot)))).cons (hF.sv (s := 52) (by kernel_rfl) (hA123.get (i := 52) (v := .pointer (some ⟨B54, 1, none⟩))))).cons (hF.sv (s := 51) (by kernel_rfl) (hA123.get (i := 51) (v := .agg #[.slice A1 cs.length c1, .slice A2 js.length c2, .int .i64 room])))).cons (hF.sv (s := 8) (by kernel_rfl) (hA123.get (i := 8) (v := .pointer (some ⟨N7r9, 0, none⟩))))).cons (hF.sv (s := 7) (by kernel_rfl) (hA123.get (i := 7) (v := .pointer (some ⟨N6r9, 0, none⟩))))).cons (hF.sv (s := 50) (by kernel_rfl) (hA123.get (i := 50) (v := .agg #[.bool true, .int .i64 x.frame])))).cons (hF.sv (s := 49) (by kernel_rfl) (hA123.get (i := 49) (v := .int .i64 x.frame)))).cons (hF.sv (s := 48) (by kernel_rfl) (hA123.get (i := 48) (v := .pointer (some ⟨B54, 2, none⟩))))).cons (hF.sv (s := 47) (by kernel_rfl) (hA123.get (i := 47) (v := .agg #[.bool false, .int .i64 x.slot])))).cons (hF.sv (s := 46) (by kernel_rfl) (hA123.get (i := 46) (v := .int .i64 x.slot)))).cons (hF.sv (s := 45) (by kernel_rfl) (hA123.get (i := 45) (v := .pointer (some ⟨B54, 1, none⟩))))).cons (hF.sv (s := 5) (by kernel_rfl) (hA123.get (i := 5) (v := .int .i64 (k : Int))))).cons (hF.sv (s := 6) (by kernel_rfl) (hA123.get (i := 6) (v := .pointer (some ⟨B54, 0, none⟩))))).cons (hF.sv (s := 44) (by kernel_rfl) (hA123.get (i := 44) (v := .agg x.va)))).cons (hF.sv (s := 43) (by kernel_rfl) (hA123.get (i := 43) (v := .pointer (some (ad51.add (k * 11))))))).cons (hF.sv (s := 42) (by kernel_rfl) (hA123.get (i := 42) (v := .int .i64 (k : Int))))).cons (hF.sv (s := 41) (by kernel_rfl) (hA123.get (i := 41) (v := .bool true)))).cons (hF.sv (s := 40) (by kernel_rfl) (hA123.get (i := 40) (v := .int .i64 (k : Int))))).cons (hF.sv (s := 39) (by kernel_rfl) (hA123.get (i := 39) (v := .int .i64 (js.length : Int))))).cons (hF.sv (s := 38) (by kernel_rfl) (hA123.get (i := 38) (v := .slice A2 js.length c2)))).cons (hF.sv (s := 4) (by kernel_rfl) (hA123.get (i := 4) (v := .map (some B35))))).cons (hF.sv (s := 1) (by kernel_rfl) (hA123.get (i := 1) (v := .pointer (some ⟨B1, 0, none⟩)))))
        have bl126 := bl
        have sz126 := sz
        have b126_B1 := b_B1
        have b126_B54 := b_B54
        have b126_N6r9 := b_N6r9
        have b126_N7r9 := b_N7r9
        have m126_B35 := m_B35.congr (fun q => by show _ = (if q = (true, x.frame) ∨ q = (false, x.slot) then some true else (tkf js k) q); rw [hall 4 (by decide), hall 5 (by decide)]; simp)
        clear hF bl sz b_B1 b_B54 b_N6r9 b_N7r9 m_B35 s_79 s_80 s_81 s_82 hall hA123
        refine blk_n ?_
        refine then_n ?_
        refine wp_region_lit ?_
        refine sx_val (v := .int .i64 ((k + 1 : Nat) : Int)) hA126 rfl (ev_addR (k := .i64) (m := (k : Int)) (n := 1) (r := ((k + 1 : Nat) : Int)) (hA126.ev (i := 40)) (ec _ (.int .i64 1)) (wr (by omega) (by omega) (by omega)) _ rfl) ?_
        intro a127 hA127; clear hA126
        refine sx_val hA127 rfl (ev_move (hA127.ev (i := 83) (v := .int .i64 ((k + 1 : Nat) : Int))) _ rfl) ?_
        intro a128 hA128; clear hA127
        refine sx_nil ?_
        refine then_n ?_
        refine ⟨js.length - (k + 1), by omega, k + 1, rfl, ((((((Ag.nil hA128.1 hA128.2.1).cons (hA128.get (i := 40) (v := .int .i64 ((k + 1 : Nat) : Int)))).cons (hA128.get (i := 39) (v := .int .i64 (js.length : Int)))).cons (hA128.get (i := 38) (v := .slice A2 js.length c2))).cons (hA128.get (i := 4) (v := .map (some B35)))).cons (hA128.get (i := 1) (v := .pointer (some ⟨B1, 0, none⟩)))), by omega, by rw [q42_1, ckJ_step hx (by omega), if_neg (by rw [hd70]; decide), if_neg (by rw [clash_tk]; simp [hd85, hd91]), if_neg (by simp [clean, hd96])], b126_B1, (Mp.congr m126_B35 (tkf_succ hx)), by omega, bl126⟩
    rw [hd96] at hA95
    refine sx_val (hg := (.inr ⟨2, false, 70, rfl, rfl, by kernel_rfl⟩)) (v := .pointer (some ⟨B54, 3, none⟩)) hA95 rfl (fb_Job_3 (hA95.ev (i := 6) (v := .pointer (some ⟨B54, 0, none⟩))) _ rfl) ?_
    intro a97 hA97; clear hA95
    refine sx_val (hg := (.inr ⟨2, false, 70, rfl, rfl, by kernel_rfl⟩)) (v := .agg x.data.va) hA97 rfl (ev_loadR (cs := x.data.va) (n := 8) (hA97.ev (i := 71) (v := .pointer (some ⟨B54, 3, none⟩))) (jb_part b63_B54_93) Try.underlying28 rfl (by kernel_rfl) rfl _ rfl) ?_
    intro a98 hA98; clear hA97
    refine sx_val (hg := (.inr ⟨2, false, 70, rfl, rfl, by kernel_rfl⟩)) (v := .agg Ct.zero.va) hA98 rfl (bd0_Content _ rfl) ?_
    intro a99 hA99; clear hA98
    refine sx_val (hg := (.inr ⟨2, false, 70, rfl, rfl, by kernel_rfl⟩)) (v := .bool (x.data == Ct.zero)) hA99 rfl (ev_eqC (a := x.data) (b := Ct.zero) (hA99.ev (i := 72) (v := .agg x.data.va)) (hA99.ev (i := 73) (v := .agg Ct.zero.va)) _ rfl) ?_
    intro a100 hA100; clear hA99
    refine sx_val hA100 rfl (ev_pickF (hA100.ev (i := 70) (v := .bool false)) (hA100.ev (i := 74) (v := .bool (x.data == Ct.zero))) _ rfl) ?_
    intro a101 hA101; clear hA100
    refine sx_val hA101 rfl (ev_assign (hA101.ev (i := 75) (v := .bool (x.data == Ct.zero))) _ rfl) ?_
    intro a102 hA102; clear hA101
    refine sx_nil ?_
    refine then_n ?_
    refine wp_seq ?_
    refine wp_region_lit ?_
    refine sx_val hA102 rfl (ev_move (hA102.ev (i := 9) (v := .bool (x.data == Ct.zero))) _ rfl) ?_
    intro a103 hA103; clear hA102
    cases hd104 : (x.data == Ct.zero)
    · rw [hd104] at hA103
      refine sx_val (v := .bool true) hA103 rfl (ev_notF (hA103.ev (i := 76) (v := .bool false)) _ rfl) ?_
      intro a105 hA105; clear hA103
      refine sx_nil ?_
      refine then_n ?_
      refine wp_cond_true (hA105.ev (i := 77) (v := .bool true)) ?_
      refine wp_seq ?_
      refine wp_region_lit ?_
      refine sx_val hA105 rfl (ev_move (hA105.ev (i := 5) (v := .int .i64 (k : Int))) _ rfl) ?_
      intro a106 hA106; clear hA105
      refine sx_val hA106 rfl (ev_assign (ec _ (.int .i64 3)) _ rfl) ?_
      intro a107 hA107; clear hA106
      refine sx_val hA107 rfl (ev_assign (hA107.ev (i := 78) (v := .int .i64 (k : Int))) _ rfl) ?_
      intro a108 hA108; clear hA107
      refine sx_nil ?_
      refine then_n ?_
      refine wp_ret ?_
      refine then_r ?_
      refine blk_r ?_
      refine then_r ?_
      refine then_r ?_
      refine blk_r ?_
      refine then_r ?_
      refine bodyPost_ret (rs_tt (v := .int .i64 3) (v2 := .int .i64 (k : Int)) Try.results24 hA108 (by kernel_rfl) (by kernel_rfl) ) hA108.2.1 ?_
      have bl63_109 := Below.gN bl63 hg77 bl63.size
      have E : chk ⟨cs, js, room⟩ = (3, (k : Int)) := by
        rw [q42_1, ckJ_step hx (by omega), if_neg (by rw [hd70]; decide), if_neg (by rw [clash_tk]; simp [hd85, hd91]), if_pos (by simp [clean, hd96, hd104])]
      exact ⟨ret2 (by rw [E]), bl63_109⟩
    rw [hd104] at hA103
    refine sx_val (v := .bool false) hA103 rfl (ev_notT (hA103.ev (i := 76) (v := .bool true)) _ rfl) ?_
    intro a110 hA110; clear hA103
    refine sx_nil ?_
    refine then_n ?_
    refine wp_cond_false (hA110.ev (i := 77) (v := .bool false)) ?_
    refine wp_skip ?_
    refine then_n ?_
    have b63_B1_111 := b63_B1.gN hg77
    have bl63_112 := Below.gN bl63 hg77 bl63.size
    refine region_D (n := 6) (by kernel_rfl) (by kernel_rfl) rfl (fun L ac wc => Below w.heap.size w wc ∧ w77.heap.size ≤ wc.heap.size ∧ Bx wc B1 25 (#[.slice A1 cs.length c1, .slice A2 js.length c2, .int .i64 room]) ∧ Bx wc B54 38 x.va ∧ Bx wc N6r9 70 (#[.bool false, .int .i64 x.slot]) ∧ Bx wc N7r9 70 (#[.bool true, .int .i64 x.frame]) ∧ Mp wc B35 kyv Value.bool (fun q => if (L 5 = true ∧ q = (true, x.frame)) ∨ (L 4 = true ∧ q = (false, x.slot)) then some true else (tkf js k) q) ∧ (L 0 = true → Sv ac 79 (.map (some B35))) ∧ (L 1 = true → Sv ac 80 (.agg #[.bool false, .int .i64 x.slot])) ∧ (L 2 = true → Sv ac 81 (.map (some B35))) ∧ (L 3 = true → Sv ac 82 (.agg #[.bool true, .int .i64 x.frame]))) ⟨(Below.gN bl63_112 (gdr _) bl63_112.size), (Nat.le_refl _), (b63_B1_111.gN (gdr _)), (b63_B54_93.gN (gdr _)), (b63_N6r9_80.gN (gdr _)), (b63_N7r9_87.gN (gdr _)), (Mp.congr (m63_B35_82.gN (gdr _)) (fun q => by simp)), (fun h => by cases h), (fun h => by cases h), (fun h => by cases h), (fun h => by cases h)⟩ ?_ ?_
    · intro iq hiq o ho L hL hdep ac wc hF hJ
      obtain ⟨bl, sz, b_B1, b_B54, b_N6r9, b_N7r9, m_B35, s_79, s_80, s_81, s_82⟩ := hJ
      have z := hF.1.trans hA110.1
      match iq, hiq with
      | 0, _ =>
        obtain rfl := Option.some.inj (show some _ = some o from ho); clear ho
        have v4 := hF.sv (s := 4) (by kernel_rfl) (hA110.get (i := 4) (v := .map (some B35)))
        refine dj_val (i := 0) (v := .map (some B35)) rfl (.inl rfl) (ev_move v4.eval _ rfl) ?_
        exact ⟨⟨_, rfl⟩, bl, sz, b_B1, b_B54, b_N6r9, b_N7r9, m_B35, (fun _ => Sv.self (by rw [z]; decide) _), (so s_80), (so s_81), (so s_82)⟩
      | 1, _ =>
        obtain rfl := Option.some.inj (show some _ = some o from ho); clear ho
        have v7 := hF.sv (s := 7) (by kernel_rfl) (hA110.get (i := 7) (v := .pointer (some ⟨N6r9, 0, none⟩)))
        refine dj_val (i := 1) (v := .agg #[.bool false, .int .i64 x.slot]) rfl (.inl rfl) (ev_row v7.eval b_N6r9 Try.underlying70 rfl (n := 2) (by kernel_rfl) rfl _ rfl) ?_
        exact ⟨⟨_, rfl⟩, bl, sz, b_B1, b_B54, b_N6r9, b_N7r9, m_B35, (so s_79), (fun _ => Sv.self (by rw [z]; decide) _), (so s_81), (so s_82)⟩
      | 2, _ =>
        obtain rfl := Option.some.inj (show some _ = some o from ho); clear ho
        have v4 := hF.sv (s := 4) (by kernel_rfl) (hA110.get (i := 4) (v := .map (some B35)))
        refine dj_val (i := 2) (v := .map (some B35)) rfl (.inl rfl) (ev_move v4.eval _ rfl) ?_
        exact ⟨⟨_, rfl⟩, bl, sz, b_B1, b_B54, b_N6r9, b_N7r9, m_B35, (so s_79), (so s_80), (fun _ => Sv.self (by rw [z]; decide) _), (so s_82)⟩
      | 3, _ =>
        obtain rfl := Option.some.inj (show some _ = some o from ho); clear ho
        have v8 := hF.sv (s := 8) (by kernel_rfl) (hA110.get (i := 8) (v := .pointer (some ⟨N7r9, 0, none⟩)))
        refine dj_val (i := 3) (v := .agg #[.bool true, .int .i64 x.frame]) rfl (.inl rfl) (ev_row v8.eval b_N7r9 Try.underlying70 rfl (n := 2) (by kernel_rfl) rfl _ rfl) ?_
        exact ⟨⟨_, rfl⟩, bl, sz, b_B1, b_B54, b_N6r9, b_N7r9, m_B35, (so s_79), (so s_80), (so s_81), (fun _ => Sv.self (by rw [z]; decide) _)⟩
      | 4, _ =>
        obtain rfl := Option.some.inj (show some _ = some o from ho); clear ho
        have v79 := s_79 (dp hdep 0)
        have v80 := s_80 (dp hdep 1)
        obtain ⟨w2, hr, hm, hg⟩ := m_B35.upd mk_key Try.underlying68 (false, x.slot) true
        have e1 := v79.eval
        have e2 := v80.eval
        have e3 := (ec ac (.bool true))
        refine dj_skip (i := 4) rfl rfl (.inl rfl) (w' := w2) (by simp only [execOp, e1, e2, e3]; simp [kyv] at hr; simp [hr, Result.andThen]) ?_
        exact ⟨⟨undef, rfl⟩, (Below.gB bl hg bl.size (by omega)), (Nat.le_trans sz hg.size), (b_B1.gB hg (by omega)), (b_B54.gB hg (by omega)), (b_N6r9.gB hg (by omega)), (b_N7r9.gB hg (by omega)), (hm.congr (fun q => by show (if q = (false, x.slot) then some true else (if (L 5 = true ∧ q = (true, x.frame)) ∨ (L 4 = true ∧ q = (false, x.slot)) then some true else (tkf js k) q)) = (if (L 5 = true ∧ q = (true, x.frame)) ∨ (true = true ∧ q = (false, x.slot)) then some true else (tkf js k) q); rw [hL]; by_cases h1 : q = (false, x.slot) <;> simp [h1])), s_79, s_80, s_81, s_82⟩
      | 5, _ =>
        obtain rfl := Option.some.inj (show some _ = some o from ho); clear ho
        have v81 := s_81 (dp hdep 2)
        have v82 := s_82 (dp hdep 3)
        obtain ⟨w2, hr, hm, hg⟩ := m_B35.upd mk_key Try.underlying68 (true, x.frame) true
        have e1 := v81.eval
        have e2 := v82.eval
        have e3 := (ec ac (.bool true))
        refine dj_skip (i := 5) rfl rfl (.inl rfl) (w' := w2) (by simp only [execOp, e1, e2, e3]; simp [kyv] at hr; simp [hr, Result.andThen]) ?_
        exact ⟨⟨undef, rfl⟩, (Below.gB bl hg bl.size (by omega)), (Nat.le_trans sz hg.size), (b_B1.gB hg (by omega)), (b_B54.gB hg (by omega)), (b_N6r9.gB hg (by omega)), (b_N7r9.gB hg (by omega)), (hm.congr (fun q => by show (if q = (true, x.frame) then some true else (if (L 5 = true ∧ q = (true, x.frame)) ∨ (L 4 = true ∧ q = (false, x.slot)) then some true else (tkf js k) q)) = (if (true = true ∧ q = (true, x.frame)) ∨ (L 4 = true ∧ q = (false, x.slot)) then some true else (tkf js k) q); rw [hL]; by_cases h1 : q = (true, x.frame) <;> simp [h1])), s_79, s_80, s_81, s_82⟩
      | k + 6, h => exact absurd h (by omega)
    · intro L hall ac113 wc113 hF hJ
      obtain ⟨bl, sz, b_B1, b_B54, b_N6r9, b_N7r9, m_B35, s_79, s_80, s_81, s_82⟩ := hJ
      have hA113 : Ag ac113 84 [(1, .pointer (some ⟨B1, 0, none⟩)), (4, .map (some B35)), (38, .slice A2 js.length c2), (39, .int .i64 (js.length : Int)), (40, .int .i64 (k : Int)), (41, .bool true), (42, .int .i64 (k : Int)), (43, .pointer (some (ad51.add (k * 11)))), (44, .agg x.va), (6, .pointer (some ⟨B54, 0, none⟩)), (5, .int .i64 (k : Int)), (45, .pointer (some ⟨B54, 1, none⟩)), (46, .int .i64 x.slot), (47, .agg #[.bool false, .int .i64 x.slot]), (48, .pointer (some ⟨B54, 2, none⟩)), (49, .int .i64 x.frame), (50, .agg #[.bool true, .int .i64 x.frame]), (7, .pointer (some ⟨N6r9, 0, none⟩)), (8, .pointer (some ⟨N7r9, 0, none⟩)), (51, .agg #[.slice A1 cs.length c1, .slice A2 js.length c2, .int .i64 room]), (52, .pointer (some ⟨B54, 1, none⟩)), (53, .int .i64 x.slot), (54, .pointer (some ⟨B54, 2, none⟩)), (55, .int .i64 x.frame), (56, .bool true), (57, .bool false), (59, .map (some B35)), (60, .agg #[.bool false, .int .i64 x.slot]), (61, .bool false), (62, .bool false), (63, .map (some B35)), (64, .agg #[.bool true, .int .i64 x.frame]), (65, .bool false), (66, .bool false), (68, .pointer (some ⟨B54, 0, none⟩)), (69, .bool false), (70, .bool false), (71, .pointer (some ⟨B54, 3, none⟩)), (72, .agg x.data.va), (73, .agg Ct.zero.va), (74, .bool true), (75, .bool true), (9, .bool true), (76, .bool true), (77, .bool false), (79, .map (some B35)), (80, .agg #[.bool false, .int .i64 x.slot]), (81, .map (some B35)), (82, .agg #[.bool true, .int .i64 x.frame])] := ((((((((((((((((((((((((((((((((((((((((((((((((((Ag.nil (hF.1.trans hA110.1) (hF.2.1.trans hA110.2.1)).cons (s_82 (hall 3 (by decide)))).cons (s_81 (hall 2 (by decide)))).cons (s_80 (hall 1 (by decide)))).cons (s_79 (hall 0 (by decide)))).cons (hF.sv (s := 77) (by kernel_rfl) (hA110.get (i := 77) (v := .bool false)))).cons (hF.sv (s := 76) (by kernel_rfl) (hA110.get (i := 76) (v := .bool true)))).cons (hF.sv (s := 9) (by kernel_rfl) (hA110.get (i := 9) (v := .bool true)))).cons (hF.sv (s := 75) (by kernel_rfl) (hA110.get (i := 75) (v := .bool true)))).cons (hF.sv (s := 74) (by kernel_rfl) (hA110.get (i := 74) (v := .bool true)))).cons (hF.sv (s := 73) (by kernel_rfl) (hA110.get (i := 73) (v := .agg Ct.zero.va)))).cons (hF.sv (s := 72) (by kernel_rfl) (hA110.get (i := 72) (v := .agg x.data.va)))).cons (hF.sv (s := 71) (by kernel_rfl) (hA110.get (i := 71) (v := .pointer (some ⟨B54, 3, none⟩))))).cons (hF.sv (s := 70) (by kernel_rfl) (hA110.get (i := 70) (v := .bool false)))).cons (hF.sv (s := 69) (by kernel_rfl) (hA110.get (i := 69) (v := .bool false)))).cons (hF.sv (s := 68) (by kernel_rfl) (hA110.get (i := 68) (v := .pointer (some ⟨B54, 0, none⟩))))).cons (hF.sv (s := 66) (by kernel_rfl) (hA110.get (i := 66) (v := .bool false)))).cons (hF.sv (s := 65) (by kernel_rfl) (hA110.get (i := 65) (v := .bool false)))).cons (hF.sv (s := 64) (by kernel_rfl) (hA110.get (i := 64) (v := .agg #[.bool true, .int .i64 x.frame])))).cons (hF.sv (s := 63) (by kernel_rfl) (hA110.get (i := 63) (v := .map (some B35))))).cons (hF.sv (s := 62) (by kernel_rfl) (hA110.get (i := 62) (v := .bool false)))).cons (hF.sv (s := 61) (by kernel_rfl) (hA110.get (i := 61) (v := .bool false)))).cons (hF.sv (s := 60) (by kernel_rfl) (hA110.get (i := 60) (v := .agg #[.bool false, .int .i64 x.slot])))).cons (hF.sv (s := 59) (by kernel_rfl) (hA110.get (i := 59) (v := .map (some B35))))).cons (hF.sv (s := 57) (by kernel_rfl) (hA110.get (i := 57) (v := .bool false)))).cons (hF.sv (s := 56) (by kernel_rfl) (hA110.get (i := 56) (v := .bool true)))).cons (hF.sv (s := 55) (by kernel_rfl) (hA110.get (i := 55) (v := .int .i64 x.frame)))).cons (hF.sv (s := 54) (by kernel_rfl) (hA110.get (i := 54) (v := .pointer (some ⟨B54, 2, none⟩))))).cons (hF.sv (s := 53) (by kernel_rfl) (hA110.get (i := 53) (v := .int .i64 x.slot)))).cons (hF.sv (s := 52) (by kernel_rfl) (hA110.get (i := 52) (v := .pointer (some ⟨B54, 1, none⟩))))).cons (hF.sv (s := 51) (by kernel_rfl) (hA110.get (i := 51) (v := .agg #[.slice A1 cs.length c1, .slice A2 js.length c2, .int .i64 room])))).cons (hF.sv (s := 8) (by kernel_rfl) (hA110.get (i := 8) (v := .pointer (some ⟨N7r9, 0, none⟩))))).cons (hF.sv (s := 7) (by kernel_rfl) (hA110.get (i := 7) (v := .pointer (some ⟨N6r9, 0, none⟩))))).cons (hF.sv (s := 50) (by kernel_rfl) (hA110.get (i := 50) (v := .agg #[.bool true, .int .i64 x.frame])))).cons (hF.sv (s := 49) (by kernel_rfl) (hA110.get (i := 49) (v := .int .i64 x.frame)))).cons (hF.sv (s := 48) (by kernel_rfl) (hA110.get (i := 48) (v := .pointer (some ⟨B54, 2, none⟩))))).cons (hF.sv (s := 47) (by kernel_rfl) (hA110.get (i := 47) (v := .agg #[.bool false, .int .i64 x.slot])))).cons (hF.sv (s := 46) (by kernel_rfl) (hA110.get (i := 46) (v := .int .i64 x.slot)))).cons (hF.sv (s := 45) (by kernel_rfl) (hA110.get (i := 45) (v := .pointer (some ⟨B54, 1, none⟩))))).cons (hF.sv (s := 5) (by kernel_rfl) (hA110.get (i := 5) (v := .int .i64 (k : Int))))).cons (hF.sv (s := 6) (by kernel_rfl) (hA110.get (i := 6) (v := .pointer (some ⟨B54, 0, none⟩))))).cons (hF.sv (s := 44) (by kernel_rfl) (hA110.get (i := 44) (v := .agg x.va)))).cons (hF.sv (s := 43) (by kernel_rfl) (hA110.get (i := 43) (v := .pointer (some (ad51.add (k * 11))))))).cons (hF.sv (s := 42) (by kernel_rfl) (hA110.get (i := 42) (v := .int .i64 (k : Int))))).cons (hF.sv (s := 41) (by kernel_rfl) (hA110.get (i := 41) (v := .bool true)))).cons (hF.sv (s := 40) (by kernel_rfl) (hA110.get (i := 40) (v := .int .i64 (k : Int))))).cons (hF.sv (s := 39) (by kernel_rfl) (hA110.get (i := 39) (v := .int .i64 (js.length : Int))))).cons (hF.sv (s := 38) (by kernel_rfl) (hA110.get (i := 38) (v := .slice A2 js.length c2)))).cons (hF.sv (s := 4) (by kernel_rfl) (hA110.get (i := 4) (v := .map (some B35))))).cons (hF.sv (s := 1) (by kernel_rfl) (hA110.get (i := 1) (v := .pointer (some ⟨B1, 0, none⟩)))))
      have bl113 := bl
      have sz113 := sz
      have b113_B1 := b_B1
      have b113_B54 := b_B54
      have b113_N6r9 := b_N6r9
      have b113_N7r9 := b_N7r9
      have m113_B35 := m_B35.congr (fun q => by show _ = (if q = (true, x.frame) ∨ q = (false, x.slot) then some true else (tkf js k) q); rw [hall 4 (by decide), hall 5 (by decide)]; simp)
      clear hF bl sz b_B1 b_B54 b_N6r9 b_N7r9 m_B35 s_79 s_80 s_81 s_82 hall hA110
      refine blk_n ?_
      refine then_n ?_
      refine wp_region_lit ?_
      refine sx_val (v := .int .i64 ((k + 1 : Nat) : Int)) hA113 rfl (ev_addR (k := .i64) (m := (k : Int)) (n := 1) (r := ((k + 1 : Nat) : Int)) (hA113.ev (i := 40)) (ec _ (.int .i64 1)) (wr (by omega) (by omega) (by omega)) _ rfl) ?_
      intro a114 hA114; clear hA113
      refine sx_val hA114 rfl (ev_move (hA114.ev (i := 83) (v := .int .i64 ((k + 1 : Nat) : Int))) _ rfl) ?_
      intro a115 hA115; clear hA114
      refine sx_nil ?_
      refine then_n ?_
      refine ⟨js.length - (k + 1), by omega, k + 1, rfl, ((((((Ag.nil hA115.1 hA115.2.1).cons (hA115.get (i := 40) (v := .int .i64 ((k + 1 : Nat) : Int)))).cons (hA115.get (i := 39) (v := .int .i64 (js.length : Int)))).cons (hA115.get (i := 38) (v := .slice A2 js.length c2))).cons (hA115.get (i := 4) (v := .map (some B35)))).cons (hA115.get (i := 1) (v := .pointer (some ⟨B1, 0, none⟩)))), by omega, by rw [q42_1, ckJ_step hx (by omega), if_neg (by rw [hd70]; decide), if_neg (by rw [clash_tk]; simp [hd85, hd91]), if_neg (by simp [clean, hd96, hd104])], b113_B1, (Mp.congr m113_B35 (tkf_succ hx)), by omega, bl113⟩
end Go.Proofs.Ytbkdimildnahaaa
