/-
  Layer 9: the chapter's examples; whether a fraction is right.
-/
import Derived.Test.YtmmcffceeahemaaFracLaw
set_option linter.unusedVariables false
set_option linter.unusedSimpArgs false
namespace Go.Proofs.Ytmmcffceeahemaa
open Go.RowKit

theorem rat_a : ((6 : Int) : Rat) / ((-4 : Int) : Rat) = mkRat (-3) 2 := by decide +kernel
theorem rat_b : ((1 : Int) : Rat) / ((2 : Int) : Rat) = mkRat 1 2 := by decide +kernel
theorem num_a : (((6 : Int) : Rat) / ((-4 : Int) : Rat)).num = -3 ∧ (((6 : Int) : Rat) / ((-4 : Int) : Rat)).den = 2 := by decide +kernel
theorem num_b : (((1 : Int) : Rat) / ((2 : Int) : Rat)).num = 1 ∧ (((1 : Int) : Rat) / ((2 : Int) : Rat)).den = 2 := by decide +kernel
theorem lq_works {q : Rat} (h : q.num.natAbs < 4294967296) (h2 : q.den < 4294967296) : Wd.Lq q 1 := ⟨Wd.words_32 h, Wd.words_32 h2⟩

theorem Qw.of {w : World} {u d : Value} {q : Rat} (h : Ws w u (Wd.words q.num.natAbs)) (k : Ws w d (Wd.words q.den)) : Qw w (.agg #[.bool (Wd.ngb q.num), u, d]) q := ⟨u, d, rfl, h, k⟩
theorem lq_zero : Wd.Lq 0 2 := lq_int (n := 0) (by omega)
/-- A fraction written out. -/
theorem lit_qw {w : World} {g1 g2 X Y : Nat} {s : Bool} {q : Rat} (y1 : Bx 150 w g1 [.int .u32 (X : Int)]) (y2 : Bx 150 w g2 [.int .u32 (Y : Int)]) (hn : q.num = Wd.iv s X) (hd : q.den = Y) (hx : X ≠ 0) (hy : Y ≠ 0) (hX : X < 4294967296) (hY : Y < 4294967296) :
    Qw w (.agg #[.bool s, .slice (some ⟨g1, 0, none⟩) 1 1, .slice (some ⟨g2, 0, none⟩) 1 1]) q := by
  have e1 : Ws w (.slice (some ⟨g1, 0, none⟩) 1 1) [X] := Blk.ws (l := [X]) y1 (by intro x hx; simp at hx; subst hx; rw [Wd.B_eq]; exact hX) (by simp [maxLen])
  have e2 : Ws w (.slice (some ⟨g2, 0, none⟩) 1 1) [Y] := Blk.ws (l := [Y]) y2 (by intro x hx; simp at hx; subst hx; rw [Wd.B_eq]; exact hY) (by simp [maxLen])
  rw [← words_small hx hX] at e1
  rw [← words_small hy hY] at e2
  exact Qw.mk e1 e2 (by rw [hn, Wd.iv_ne s hx]) (by rw [hn, Wd.iv_abs]) hd

set_option maxRecDepth 100000 in
set_option maxHeartbeats 3200000 in
theorem works9 (w : World) : Calls Try.prog 36 #[] w fun e w' => e = .returned (.bool true) ∧ Up w w' := by
  have LA : Wd.Lq (((6 : Int) : Rat) / ((-4 : Int) : Rat)) 1 := lq_works (by rw [num_a.1]; decide) (by rw [num_a.2]; omega)
  have LB : Wd.Lq (((1 : Int) : Rat) / ((2 : Int) : Rat)) 1 := lq_works (by rw [num_b.1]; decide) (by rw [num_b.2]; omega)
  generalize hA : ((6 : Int) : Rat) / ((-4 : Int) : Rat) = qa at *
  generalize hB : ((1 : Int) : Rat) / ((2 : Int) : Rat) = qb at *
  have LB1 : (Wd.words qb.num.natAbs).length ≤ 1 := LB.1
  have LB2 : (Wd.words qb.den).length ≤ 1 := LB.2
  have HA := Lib.hid hA
  have HB := Lib.hid hB
  have NA : Hid (qa.num = Wd.iv true 3 ∧ qa.den = 2) := Lib.hid ⟨by rw [← hA, num_a.1]; rfl, by rw [← hA]; exact num_a.2⟩
  have NB : Hid (qb.num = 1 ∧ qb.den = 2) := Lib.hid (by rw [← hB]; exact num_b)
  have HS : Hid (((Wd.bl (Wd.val (Wd.words qb.num.natAbs)) + Wd.bl (Wd.val (Wd.words qb.den)) : Nat) : Int) = 3) := Lib.hid (by
    rw [NB.out.1, NB.out.2, Wd.val_words, Wd.val_words, show (1 : Int).natAbs = 1 from rfl, Wd.bl_small (by omega), Wd.bl_pos (n := 2) (by omega), Wd.bl_small (n := 2 / 2) (by omega)]
    rfl)
  clear hA hB
  have UP : Up w w := Up.refl w
  go_enter Try.func36, Try.ntmps36
  go_wp2_with fail
  go_wp2_with fail
  ((with_reducible refine (frac_ratio (by omega) (by omega) _).mono ?_))
  rintro e W1 ⟨V1, rfl, a, u1⟩
  replace UP := UP.trans u1
  clear u1
  rw [HA.out] at a
  obtain ⟨Xa, Ya, rfl, a, ad⟩ := a
  obtain ⟨Aa, na, ca, rfl⟩ := a.shape
  obtain ⟨Aad, nad, cad, rfl⟩ := ad.shape
  go_wp2_with fail
  have x1 := Bx.new 69 W1 [.bool (Wd.ngb qa.num), .slice Aa na ca, .slice Aad nad cad]
  replace a := a.up ((Up.refl W1).alloc (.cells #[.bool (Wd.ngb qa.num), .slice Aa na ca, .slice Aad nad cad] 69))
  replace ad := ad.up ((Up.refl W1).alloc (.cells #[.bool (Wd.ngb qa.num), .slice Aa na ca, .slice Aad nad cad] 69))
  replace UP := UP.trans ((Up.refl W1).alloc (.cells #[.bool (Wd.ngb qa.num), .slice Aa na ca, .slice Aad nad cad] 69))
  generalize (W1.alloc (.cells #[.bool (Wd.ngb qa.num), .slice Aa na ca, .slice Aad nad cad] 69)) = W2 at *
  obtain ⟨x1_0, x1_1, x1_2⟩ := x1.c3
  go_wp2_with fail
  ((with_reducible refine (frac_of (n := 1) (by omega) _).mono ?_))
  rintro e W3 ⟨V3, rfl, o, u3⟩
  replace a := a.up u3
  replace ad := ad.up u3
  replace x1 := x1.up u3
  replace UP := UP.trans u3
  clear x1_0 x1_1 x1_2
  obtain ⟨x1_0, x1_1, x1_2⟩ := x1.c3
  clear u3
  go_wp2_with fail
  ((with_reducible refine (frac_of0 _).mono ?_))
  rintro e W4 ⟨V4, rfl, z, u4⟩
  replace a := a.up u4
  replace ad := ad.up u4
  replace o := o.up u4
  replace x1 := x1.up u4
  replace UP := UP.trans u4
  clear x1_0 x1_1 x1_2
  obtain ⟨x1_0, x1_1, x1_2⟩ := x1.c3
  clear u4
  go_wp2_with fail
  ((with_reducible refine (frac_quo (o.fr (lq_int (by omega))) (z.fr lq_zero) (by omega) (by omega)).mono ?_))
  rintro e W5 ⟨V5, rfl, n0, u5⟩
  replace a := a.up u5
  replace ad := ad.up u5
  replace o := o.up u5
  replace z := z.up u5
  replace x1 := x1.up u5
  replace UP := UP.trans u5
  clear x1_0 x1_1 x1_2
  obtain ⟨x1_0, x1_1, x1_2⟩ := x1.c3
  clear u5
  rw [show (!decide ((0 : Rat) = 0)) = false from rfl]
  obtain ⟨Xn0, Yn0, rfl, n0, n0d⟩ := n0
  obtain ⟨An0, nn0, cn0, rfl⟩ := n0.shape
  obtain ⟨An0d, nn0d, cn0d, rfl⟩ := n0d.shape
  have x1_0a := fun O0 => (cell_alloc (o := O0) x1_0)
  have x1_1a := fun O0 => (cell_alloc (o := O0) x1_1)
  have x1_2a := fun O0 => (cell_alloc (o := O0) x1_2)
  go_wp2_with fail
  clear x1_0a x1_1a x1_2a
  have x2 := Bx.new 69 W5 [.bool (Wd.ngb (((1 : Int) : Rat) / 0).num), .slice An0 nn0 cn0, .slice An0d nn0d cn0d]
  have x1_lt_x2 := x1.lt
  replace a := a.up ((Up.refl W5).alloc (.cells #[.bool (Wd.ngb (((1 : Int) : Rat) / 0).num), .slice An0 nn0 cn0, .slice An0d nn0d cn0d] 69))
  replace ad := ad.up ((Up.refl W5).alloc (.cells #[.bool (Wd.ngb (((1 : Int) : Rat) / 0).num), .slice An0 nn0 cn0, .slice An0d nn0d cn0d] 69))
  replace o := o.up ((Up.refl W5).alloc (.cells #[.bool (Wd.ngb (((1 : Int) : Rat) / 0).num), .slice An0 nn0 cn0, .slice An0d nn0d cn0d] 69))
  replace z := z.up ((Up.refl W5).alloc (.cells #[.bool (Wd.ngb (((1 : Int) : Rat) / 0).num), .slice An0 nn0 cn0, .slice An0d nn0d cn0d] 69))
  replace n0 := n0.up ((Up.refl W5).alloc (.cells #[.bool (Wd.ngb (((1 : Int) : Rat) / 0).num), .slice An0 nn0 cn0, .slice An0d nn0d cn0d] 69))
  replace n0d := n0d.up ((Up.refl W5).alloc (.cells #[.bool (Wd.ngb (((1 : Int) : Rat) / 0).num), .slice An0 nn0 cn0, .slice An0d nn0d cn0d] 69))
  replace x1 := x1.up ((Up.refl W5).alloc (.cells #[.bool (Wd.ngb (((1 : Int) : Rat) / 0).num), .slice An0 nn0 cn0, .slice An0d nn0d cn0d] 69))
  replace UP := UP.trans ((Up.refl W5).alloc (.cells #[.bool (Wd.ngb (((1 : Int) : Rat) / 0).num), .slice An0 nn0 cn0, .slice An0d nn0d cn0d] 69))
  generalize (W5.alloc (.cells #[.bool (Wd.ngb (((1 : Int) : Rat) / 0).num), .slice An0 nn0 cn0, .slice An0d nn0d cn0d] 69)) = W6 at *
  clear x1_0 x1_1 x1_2
  obtain ⟨x1_0, x1_1, x1_2⟩ := x1.c3
  obtain ⟨x2_0, x2_1, x2_2⟩ := x2.c3
  ((with_reducible refine (frac_ratio (by omega) (by omega) _).mono ?_))
  rintro e W7 ⟨V7, rfl, b, u7⟩
  replace a := a.up u7
  replace ad := ad.up u7
  replace o := o.up u7
  replace z := z.up u7
  replace n0 := n0.up u7
  replace n0d := n0d.up u7
  replace x1 := x1.up u7
  replace x2 := x2.up u7
  replace UP := UP.trans u7
  clear x1_0 x1_1 x1_2 x2_0 x2_1 x2_2
  obtain ⟨x1_0, x1_1, x1_2⟩ := x1.c3
  obtain ⟨x2_0, x2_1, x2_2⟩ := x2.c3
  clear u7
  rw [HB.out] at b
  obtain ⟨Xb, Yb, rfl, b, bd⟩ := b
  obtain ⟨Ab, nb, cb, rfl⟩ := b.shape
  obtain ⟨Abd, nbd, cbd, rfl⟩ := bd.shape
  have x1_0a := fun O0 => (cell_alloc (o := O0) x1_0)
  have x1_1a := fun O0 => (cell_alloc (o := O0) x1_1)
  have x1_2a := fun O0 => (cell_alloc (o := O0) x1_2)
  have x2_0a := fun O0 => (cell_alloc (o := O0) x2_0)
  have x2_1a := fun O0 => (cell_alloc (o := O0) x2_1)
  have x2_2a := fun O0 => (cell_alloc (o := O0) x2_2)
  have x1_0b := fun O0 O1 => (cell_alloc (o := O1) (cell_alloc (o := O0) x1_0))
  have x1_1b := fun O0 O1 => (cell_alloc (o := O1) (cell_alloc (o := O0) x1_1))
  have x1_2b := fun O0 O1 => (cell_alloc (o := O1) (cell_alloc (o := O0) x1_2))
  have x2_0b := fun O0 O1 => (cell_alloc (o := O1) (cell_alloc (o := O0) x2_0))
  have x2_1b := fun O0 O1 => (cell_alloc (o := O1) (cell_alloc (o := O0) x2_1))
  have x2_2b := fun O0 O1 => (cell_alloc (o := O1) (cell_alloc (o := O0) x2_2))
  have x1_0c := fun O0 O1 O2 => (cell_alloc (o := O2) (cell_alloc (o := O1) (cell_alloc (o := O0) x1_0)))
  have x1_1c := fun O0 O1 O2 => (cell_alloc (o := O2) (cell_alloc (o := O1) (cell_alloc (o := O0) x1_1)))
  have x1_2c := fun O0 O1 O2 => (cell_alloc (o := O2) (cell_alloc (o := O1) (cell_alloc (o := O0) x1_2)))
  have x2_0c := fun O0 O1 O2 => (cell_alloc (o := O2) (cell_alloc (o := O1) (cell_alloc (o := O0) x2_0)))
  have x2_1c := fun O0 O1 O2 => (cell_alloc (o := O2) (cell_alloc (o := O1) (cell_alloc (o := O0) x2_1)))
  have x2_2c := fun O0 O1 O2 => (cell_alloc (o := O2) (cell_alloc (o := O1) (cell_alloc (o := O0) x2_2)))
  go_wp2_with fail
  clear x1_0a x1_1a x1_2a x2_0a x2_1a x2_2a x1_0b x1_1b x1_2b x2_0b x2_1b x2_2b x1_0c x1_1c x1_2c x2_0c x2_1c x2_2c
  obtain ⟨x3, y1, y2⟩ := bx_three 69 150 150 W7 [.bool (Wd.ngb qb.num), .slice Ab nb cb, .slice Abd nbd cbd] [.int .u32 3] [.int .u32 2]
  have x1_lt_x3 := x1.lt
  have x2_lt_x3 := x2.lt
  have x1_lt_y1 := x1.lt
  have x2_lt_y1 := x2.lt
  have x1_lt_y2 := x1.lt
  have x2_lt_y2 := x2.lt
  replace a := a.up ((((((Up.refl W7).alloc (.cells #[.bool (Wd.ngb qb.num), .slice Ab nb cb, .slice Abd nbd cbd] 69))).alloc (.cells #[.int .u32 3] 150))).alloc (.cells #[.int .u32 2] 150))
  replace ad := ad.up ((((((Up.refl W7).alloc (.cells #[.bool (Wd.ngb qb.num), .slice Ab nb cb, .slice Abd nbd cbd] 69))).alloc (.cells #[.int .u32 3] 150))).alloc (.cells #[.int .u32 2] 150))
  replace o := o.up ((((((Up.refl W7).alloc (.cells #[.bool (Wd.ngb qb.num), .slice Ab nb cb, .slice Abd nbd cbd] 69))).alloc (.cells #[.int .u32 3] 150))).alloc (.cells #[.int .u32 2] 150))
  replace z := z.up ((((((Up.refl W7).alloc (.cells #[.bool (Wd.ngb qb.num), .slice Ab nb cb, .slice Abd nbd cbd] 69))).alloc (.cells #[.int .u32 3] 150))).alloc (.cells #[.int .u32 2] 150))
  replace n0 := n0.up ((((((Up.refl W7).alloc (.cells #[.bool (Wd.ngb qb.num), .slice Ab nb cb, .slice Abd nbd cbd] 69))).alloc (.cells #[.int .u32 3] 150))).alloc (.cells #[.int .u32 2] 150))
  replace n0d := n0d.up ((((((Up.refl W7).alloc (.cells #[.bool (Wd.ngb qb.num), .slice Ab nb cb, .slice Abd nbd cbd] 69))).alloc (.cells #[.int .u32 3] 150))).alloc (.cells #[.int .u32 2] 150))
  replace b := b.up ((((((Up.refl W7).alloc (.cells #[.bool (Wd.ngb qb.num), .slice Ab nb cb, .slice Abd nbd cbd] 69))).alloc (.cells #[.int .u32 3] 150))).alloc (.cells #[.int .u32 2] 150))
  replace bd := bd.up ((((((Up.refl W7).alloc (.cells #[.bool (Wd.ngb qb.num), .slice Ab nb cb, .slice Abd nbd cbd] 69))).alloc (.cells #[.int .u32 3] 150))).alloc (.cells #[.int .u32 2] 150))
  replace x1 := x1.up ((((((Up.refl W7).alloc (.cells #[.bool (Wd.ngb qb.num), .slice Ab nb cb, .slice Abd nbd cbd] 69))).alloc (.cells #[.int .u32 3] 150))).alloc (.cells #[.int .u32 2] 150))
  replace x2 := x2.up ((((((Up.refl W7).alloc (.cells #[.bool (Wd.ngb qb.num), .slice Ab nb cb, .slice Abd nbd cbd] 69))).alloc (.cells #[.int .u32 3] 150))).alloc (.cells #[.int .u32 2] 150))
  replace UP := UP.trans ((((((Up.refl W7).alloc (.cells #[.bool (Wd.ngb qb.num), .slice Ab nb cb, .slice Abd nbd cbd] 69))).alloc (.cells #[.int .u32 3] 150))).alloc (.cells #[.int .u32 2] 150))
  generalize (((W7.alloc (.cells #[.bool (Wd.ngb qb.num), .slice Ab nb cb, .slice Abd nbd cbd] 69)).alloc (.cells #[.int .u32 3] 150)).alloc (.cells #[.int .u32 2] 150)) = W8 at *
  clear x1_0 x1_1 x1_2 x2_0 x2_1 x2_2
  obtain ⟨x1_0, x1_1, x1_2⟩ := x1.c3
  obtain ⟨x2_0, x2_1, x2_2⟩ := x2.c3
  obtain ⟨x3_0, x3_1, x3_2⟩ := x3.c3
  have y1_0 := y1.c1
  have y2_0 := y2.c1
  ((with_reducible refine (law_is9 (Qw.of a ad) (lit_qw (X := 3) (Y := 2) y1 y2 NA.out.1 NA.out.2 (by omega) (by omega) (by omega) (by omega)) LA (by omega)).mono ?_))
  rintro e W9 ⟨rfl, u9⟩
  replace a := a.up u9
  replace ad := ad.up u9
  replace o := o.up u9
  replace z := z.up u9
  replace n0 := n0.up u9
  replace n0d := n0d.up u9
  replace b := b.up u9
  replace bd := bd.up u9
  replace x1 := x1.up u9
  replace x2 := x2.up u9
  replace x3 := x3.up u9
  replace y1 := y1.up u9
  replace y2 := y2.up u9
  replace UP := UP.trans u9
  clear x1_0 x1_1 x1_2 x2_0 x2_1 x2_2 x3_0 x3_1 x3_2 y1_0 y2_0
  obtain ⟨x1_0, x1_1, x1_2⟩ := x1.c3
  obtain ⟨x2_0, x2_1, x2_2⟩ := x2.c3
  obtain ⟨x3_0, x3_1, x3_2⟩ := x3.c3
  have y1_0 := y1.c1
  have y2_0 := y2.c1
  clear u9
  go_wp2_with fail
  ((with_reducible refine (frac_size b bd (Nat.le_trans LB1 (by omega)) (Nat.le_trans LB2 (by omega))).mono ?_))
  rintro e W10 ⟨rfl, u10⟩
  replace a := a.up u10
  replace ad := ad.up u10
  replace o := o.up u10
  replace z := z.up u10
  replace n0 := n0.up u10
  replace n0d := n0d.up u10
  replace b := b.up u10
  replace bd := bd.up u10
  replace x1 := x1.up u10
  replace x2 := x2.up u10
  replace x3 := x3.up u10
  replace y1 := y1.up u10
  replace y2 := y2.up u10
  replace UP := UP.trans u10
  clear x1_0 x1_1 x1_2 x2_0 x2_1 x2_2 x3_0 x3_1 x3_2 y1_0 y2_0
  obtain ⟨x1_0, x1_1, x1_2⟩ := x1.c3
  obtain ⟨x2_0, x2_1, x2_2⟩ := x2.c3
  obtain ⟨x3_0, x3_1, x3_2⟩ := x3.c3
  have y1_0 := y1.c1
  have y2_0 := y2.c1
  clear u10
  rw [HS.out]
  go_wp2
  go_ret
  exact ⟨rfl, UP⟩
end Go.Proofs.Ytmmcffceeahemaa
