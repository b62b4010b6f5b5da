/-
  Layer 13: the chapter's example; a greater limit.
-/
import Derived.Test.YtmmcffceeahemaaGauge
import Derived.Test.YtmmcffceeahemaaFracWorks
set_option linter.unusedVariables false
set_option linter.unusedSimpArgs false
namespace Go.Proofs.Ytmmcffceeahemaa
open Go.RowKit

theorem Qw.sz {w : World} {v : Value} {q : Rat} {k n : Nat} (h : Qw w v q) (hk : Wd.Lq q k) (hn : Wd.bl q.num.natAbs + Wd.bl q.den = n) : Sz k w v n := by
  obtain ⟨u, d, rfl, h1, h2⟩ := h
  exact ⟨_, u, d, _, _, rfl, h1, h2, by rw [Wd.val_words, Wd.val_words]; exact hn, hk.1, hk.2⟩
theorem bl1_ : Wd.bl 1 = 1 := Wd.bl_small (by omega)
theorem bl2_ : Wd.bl 2 = 2 := by rw [Wd.bl_pos (n := 2) (by omega), Wd.bl_small (n := 2 / 2) (by omega)]
theorem bl4_ : Wd.bl 4 = 3 := by rw [Wd.bl_pos (n := 4) (by omega), show 4 / 2 = 2 from rfl, bl2_]
theorem size_int (n : Nat) : Wd.bl ((n : Int) : Rat).num.natAbs + Wd.bl ((n : Int) : Rat).den = Wd.bl n + 1 := by
  rw [Rat.num_intCast, Rat.den_intCast, Int.natAbs_natCast, bl1_]
set_option maxRecDepth 100000 in
set_option maxHeartbeats 3200000 in
theorem works13 (w : World) : Calls Try.prog 26 #[] w fun e w' => e = .returned (.bool true) ∧ Up w w' := by
  have LB : Wd.Lq (((1 : Int) : Rat) / ((2 : Int) : Rat)) 2 := (lq_works (by rw [num_b.1]; decide) (by rw [num_b.2]; omega)).mono (by omega)
  have HB : Hid (Wd.bl (((1 : Int) : Rat) / ((2 : Int) : Rat)).num.natAbs + Wd.bl (((1 : Int) : Rat) / ((2 : Int) : Rat)).den = 3) := Lib.hid (by
    rw [num_b.1, num_b.2, show (1 : Int).natAbs = 1 from rfl, bl1_, bl2_])
  generalize hq : ((1 : Int) : Rat) / ((2 : Int) : Rat) = qb at *
  have HQ := Lib.hid hq
  clear hq
  have UP := Up.refl w
  go_enter Try.func26, Try.ntmps26
  go_wp2_with fail
  ((with_reducible refine (gauge_new (by omega) _).mono ?_))
  rintro e W1 ⟨g, rfl, gb, hg, u1⟩
  rw [show Ga.lim 3 = 3 from rfl] at gb
  replace UP := UP.trans u1
  clear u1
  obtain ⟨gb_0, gb_1, gb_2⟩ := gb.c3
  go_wp2_with fail
  ((with_reducible refine (frac_ratio (by omega) (by omega) _).mono ?_))
  rintro e W51 ⟨V51, rfl, b, u51⟩
  replace gb := gb.up u51
  replace UP := UP.trans u51
  clear gb_0 gb_1 gb_2
  obtain ⟨gb_0, gb_1, gb_2⟩ := gb.c3
  clear u51
  rw [HQ.out] at b
  obtain ⟨Xb, Yb, rfl, b, bd⟩ := b
  obtain ⟨Ab, nb, cb, rfl⟩ := b.shape
  obtain ⟨Abd, nbd, cbd, rfl⟩ := bd.shape
  have gb_0a := fun O0 => (cell_alloc (o := O0) gb_0)
  have gb_1a := fun O0 => (cell_alloc (o := O0) gb_1)
  have gb_2a := fun O0 => (cell_alloc (o := O0) gb_2)
  go_wp2_with fail
  clear gb_0a gb_1a gb_2a
  have x1 := Bx.new 69 W51 [.bool (Wd.ngb qb.num), .slice Ab nb cb, .slice Abd nbd cbd]
  have gb_lt_x1 := gb.lt
  replace b := b.up ((Up.refl W51).alloc (.cells #[.bool (Wd.ngb qb.num), .slice Ab nb cb, .slice Abd nbd cbd] 69))
  replace bd := bd.up ((Up.refl W51).alloc (.cells #[.bool (Wd.ngb qb.num), .slice Ab nb cb, .slice Abd nbd cbd] 69))
  replace gb := gb.up ((Up.refl W51).alloc (.cells #[.bool (Wd.ngb qb.num), .slice Ab nb cb, .slice Abd nbd cbd] 69))
  replace UP := UP.trans ((Up.refl W51).alloc (.cells #[.bool (Wd.ngb qb.num), .slice Ab nb cb, .slice Abd nbd cbd] 69))
  generalize (W51.alloc (.cells #[.bool (Wd.ngb qb.num), .slice Ab nb cb, .slice Abd nbd cbd] 69)) = W52 at *
  clear gb_0 gb_1 gb_2
  obtain ⟨gb_0, gb_1, gb_2⟩ := gb.c3
  obtain ⟨x1_0, x1_1, x1_2⟩ := x1.c3
  have sz := (Qw.of b bd).sz LB HB.out
  clear b bd x1 x1_0 x1_1 x1_2
  ((with_reducible refine (gauge_take (k := 2) (n := 3) gb sz (by omega) (by omega)).mono ?_))
  rintro e WT ⟨rfl, gt, GT⟩
  rw [show decide (((3 : Nat) : Int) ≤ 3) = true from rfl]
  replace UP := GT.above UP hg
  replace gb : Bx 148 WT g [.int .i64 1, .int .i64 3, .int .i64 3] := gt
  clear gt GT gb_0 gb_1 gb_2
  obtain ⟨W, hW⟩ : ∃ W, W = WT := ⟨_, rfl⟩
  subst hW
  clear sz
  obtain ⟨gb_0, gb_1, gb_2⟩ := gb.c3
  go_wp2_with fail
  ((with_reducible refine (frac_of (n := 2) (by omega) _).mono ?_))
  rintro e W51 ⟨V51, rfl, o, u51⟩
  replace gb := gb.up u51
  replace UP := UP.trans u51
  clear gb_0 gb_1 gb_2
  obtain ⟨gb_0, gb_1, gb_2⟩ := gb.c3
  clear u51
  have sz : Sz 2 W51 _ 3 := o.sz (lq_int (by omega)) (by rw [show ((2 : Int) : Rat) = (((2 : Nat) : Int) : Rat) from rfl, size_int, bl2_])
  generalize ((2 : Int) : Rat) = P at o
  obtain ⟨Xo, Yo, rfl, o, od⟩ := o
  clear o od
  go_wp2_with fail
  ((with_reducible refine (gauge_take (k := 2) (n := 3) gb sz (by omega) (by omega)).mono ?_))
  rintro e WT ⟨rfl, gt, GT⟩
  rw [show decide (((3 : Nat) : Int) ≤ 3) = true from rfl]
  replace UP := GT.above UP hg
  replace gb : Bx 148 WT g [.int .i64 2, .int .i64 3, .int .i64 3] := gt
  clear gt GT gb_0 gb_1 gb_2
  obtain ⟨W, hW⟩ : ∃ W, W = WT := ⟨_, rfl⟩
  subst hW
  clear sz
  obtain ⟨gb_0, gb_1, gb_2⟩ := gb.c3
  go_wp2_with fail
  ((with_reducible refine (frac_of (n := 4) (by omega) _).mono ?_))
  rintro e W51 ⟨V51, rfl, o, u51⟩
  replace gb := gb.up u51
  replace UP := UP.trans u51
  clear gb_0 gb_1 gb_2
  obtain ⟨gb_0, gb_1, gb_2⟩ := gb.c3
  clear u51
  have sz : Sz 2 W51 _ 4 := o.sz (lq_int (by omega)) (by rw [show ((4 : Int) : Rat) = (((4 : Nat) : Int) : Rat) from rfl, size_int, bl4_])
  generalize ((4 : Int) : Rat) = P at o
  obtain ⟨Xo, Yo, rfl, o, od⟩ := o
  clear o od
  go_wp2_with fail
  ((with_reducible refine (gauge_take (k := 2) (n := 4) gb sz (by omega) (by omega)).mono ?_))
  rintro e WT ⟨rfl, gt, GT⟩
  rw [show decide (((4 : Nat) : Int) ≤ 3) = false from rfl]
  replace UP := GT.above UP hg
  replace gb : Bx 148 WT g [.int .i64 3, .int .i64 4, .int .i64 3] := gt
  clear gt GT gb_0 gb_1 gb_2
  obtain ⟨W, hW⟩ : ∃ W, W = WT := ⟨_, rfl⟩
  subst hW
  clear sz
  go_wp2_with fail
  ((with_reducible refine (gauge_tells gb).mono ?_))
  rintro e W2 ⟨rfl, u2⟩
  have gb2 := gb.up u2
  replace UP := UP.trans u2
  clear u2
  go_wp2_with fail
  ((with_reducible refine (gauge_over gb2).mono ?_))
  rintro e W3 ⟨rfl, u3⟩
  replace UP := UP.trans u3
  go_wp2
  go_ret
  exact ⟨rfl, UP⟩
end Go.Proofs.Ytmmcffceeahemaa
