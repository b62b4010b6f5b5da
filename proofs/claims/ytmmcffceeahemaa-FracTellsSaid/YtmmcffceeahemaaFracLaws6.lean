/-
  The walk of FracTells.
-/
import Derived.Test.YtmmcffceeahemaaFracRight
import Derived.Test.YtmmcffceeahemaaFracWorks
import Derived.Test.YtmmcffceeahemaaRefFrac8
set_option linter.unusedVariables false
set_option linter.unusedSimpArgs false
namespace Go.Proofs.Ytmmcffceeahemaa
open Go.RowKit

theorem Zw.intro {w : World} {u : Value} {z : Int} (h : Ws w u (Wd.words z.natAbs)) : Zw w (.agg #[.bool (Wd.ngb z), u]) z := ⟨u, rfl, h⟩
set_option maxRecDepth 100000 in
set_option maxHeartbeats 12800000 in
theorem fracTells_walk {s s' : Bool} {u v u' v' : Value} {l m l' m' : List Nat} {w : World} (hl : Ws w u l) (hm : Ws w v m) (hl' : Ws w u' l') (hm' : Ws w v' m') :
    Calls Try.prog 8 #[.agg #[.bool s, u, v], .agg #[.bool s', u', v']] w fun e w' => e = .returned (.bool true) ∧ Up w w' := by
  obtain ⟨A, c, rfl⟩ := hl.form
  obtain ⟨D, d, rfl⟩ := hm.form
  obtain ⟨A', c', rfl⟩ := hl'.form
  obtain ⟨D', d', rfl⟩ := hm'.form
  by_cases h1 : (30 : Int) < (l.length : Int) ∨ (30 : Int) < (m.length : Int)
  · have H1 := Lib.hid h1
    clear h1
    have UP : Up w ((w.alloc (.cells #[.bool s, .slice A l.length c, .slice D m.length d] 61)).alloc (.cells #[.bool s', .slice A' l'.length c', .slice D' m'.length d'] 61)) := ((Up.refl w).alloc _).alloc _
    obtain ⟨b0, b1⟩ := bx_two 61 61 w [.bool s, .slice A l.length c, .slice D m.length d] [.bool s', .slice A' l'.length c', .slice D' m'.length d']
    go_enter Try.func8, Try.ntmps8
    go_wp2_with fail
    generalize ((w.alloc (.cells #[.bool s, .slice A l.length c, .slice D m.length d] 61)).alloc (.cells #[.bool s', .slice A' l'.length c', .slice D' m'.length d'] 61)) = W at *
    obtain ⟨b0_0, b0_1, b0_2⟩ := b0.c3
    obtain ⟨b1_0, b1_1, b1_2⟩ := b1.c3
    go_wp2_with fail
    ((with_reducible refine (ref_long9_yes H1.out (by omega)).mono ?_))
    rintro e W1 ⟨rfl, u1⟩
    replace b0 := b0.up u1
    replace b1 := b1.up u1
    replace UP := UP.trans u1
    clear b0_0 b0_1 b0_2 b1_0 b1_1 b1_2
    obtain ⟨b0_0, b0_1, b0_2⟩ := b0.c3
    obtain ⟨b1_0, b1_1, b1_2⟩ := b1.c3
    clear u1
    go_wp2_with fail
    ((with_reducible refine (works9 _).mono ?_))
    rintro e W2 ⟨rfl, u2⟩
    replace b0 := b0.up u2
    replace b1 := b1.up u2
    replace UP := UP.trans u2
    clear b0_0 b0_1 b0_2 b1_0 b1_1 b1_2
    obtain ⟨b0_0, b0_1, b0_2⟩ := b0.c3
    obtain ⟨b1_0, b1_1, b1_2⟩ := b1.c3
    clear u2
    go_wp2
    go_ret
    exact ⟨rfl, UP⟩
  have l1 : (l.length : Int) ≤ 30 := by omega
  have l2 : (m.length : Int) ≤ 30 := by omega
  clear h1
  by_cases h1 : (30 : Int) < (l'.length : Int) ∨ (30 : Int) < (m'.length : Int)
  · have H1 := Lib.hid h1
    clear h1
    have UP : Up w ((w.alloc (.cells #[.bool s, .slice A l.length c, .slice D m.length d] 61)).alloc (.cells #[.bool s', .slice A' l'.length c', .slice D' m'.length d'] 61)) := ((Up.refl w).alloc _).alloc _
    obtain ⟨b0, b1⟩ := bx_two 61 61 w [.bool s, .slice A l.length c, .slice D m.length d] [.bool s', .slice A' l'.length c', .slice D' m'.length d']
    go_enter Try.func8, Try.ntmps8
    go_wp2_with fail
    generalize ((w.alloc (.cells #[.bool s, .slice A l.length c, .slice D m.length d] 61)).alloc (.cells #[.bool s', .slice A' l'.length c', .slice D' m'.length d'] 61)) = W at *
    obtain ⟨b0_0, b0_1, b0_2⟩ := b0.c3
    obtain ⟨b1_0, b1_1, b1_2⟩ := b1.c3
    go_wp2_with fail
    ((with_reducible refine (ref_long9_no l1 l2 (by omega)).mono ?_))
    rintro e W1 ⟨rfl, u1⟩
    replace b0 := b0.up u1
    replace b1 := b1.up u1
    replace UP := UP.trans u1
    clear b0_0 b0_1 b0_2 b1_0 b1_1 b1_2
    obtain ⟨b0_0, b0_1, b0_2⟩ := b0.c3
    obtain ⟨b1_0, b1_1, b1_2⟩ := b1.c3
    clear u1
    go_wp2_with fail
    ((with_reducible refine (ref_long9_yes H1.out (by omega)).mono ?_))
    rintro e W2 ⟨rfl, u2⟩
    replace b0 := b0.up u2
    replace b1 := b1.up u2
    replace UP := UP.trans u2
    clear b0_0 b0_1 b0_2 b1_0 b1_1 b1_2
    obtain ⟨b0_0, b0_1, b0_2⟩ := b0.c3
    obtain ⟨b1_0, b1_1, b1_2⟩ := b1.c3
    clear u2
    go_wp2_with fail
    ((with_reducible refine (works9 _).mono ?_))
    rintro e W3 ⟨rfl, u3⟩
    replace b0 := b0.up u3
    replace b1 := b1.up u3
    replace UP := UP.trans u3
    clear b0_0 b0_1 b0_2 b1_0 b1_1 b1_2
    obtain ⟨b0_0, b0_1, b0_2⟩ := b0.c3
    obtain ⟨b1_0, b1_1, b1_2⟩ := b1.c3
    clear u3
    go_wp2
    go_ret
    exact ⟨rfl, UP⟩
  have l3 : (l'.length : Int) ≤ 30 := by omega
  have l4 : (m'.length : Int) ≤ 30 := by omega
  clear h1
  obtain ⟨x, hx⟩ : ∃ q, mkRat (Wd.iv s (Wd.val l)) (Wd.val m) = q := ⟨_, rfl⟩
  obtain ⟨y, hy⟩ : ∃ q, mkRat (Wd.iv s' (Wd.val l')) (Wd.val m') = q := ⟨_, rfl⟩
  have FX : Fr w (.agg #[.bool s, .slice A l.length c, .slice D m.length d]) x 30 := ⟨s, _, _, l, m, rfl, hl, hm, hx, by omega, by omega, by omega⟩
  have FY : Fr w (.agg #[.bool s', .slice A' l'.length c', .slice D' m'.length d']) y 30 := ⟨s', _, _, l', m', rfl, hl', hm', hy, by omega, by omega, by omega⟩
  have HX := Lib.hid hx
  clear hx hy hl' hm'
  have LX := FX.lq
  have LY := FY.lq
  have LX1 : (Wd.words x.num.natAbs).length ≤ 1000000 := Nat.le_trans LX.1 (by omega)
  have LX2 : (Wd.words x.den).length ≤ 1000000 := Nat.le_trans LX.2 (by omega)
  obtain ⟨F, HF⟩ : ∃ F, Hid (x.floor = F) := ⟨_, Lib.hid rfl⟩
  have LF : Wd.Lz F 30 := by rw [← HF.out]; exact Wd.Lq.floor LX
  obtain ⟨B, HB⟩ : ∃ B, Hid (rawB s (Wd.ngb x.num) l (Wd.words x.num.natAbs) m (Wd.words x.den) = B) := ⟨_, Lib.hid rfl⟩
  obtain ⟨Z, HZ⟩ : ∃ Z, Hid (((Wd.bl (Wd.val l) + Wd.bl (Wd.val m) : Nat) : Int) = Z) := ⟨_, Lib.hid rfl⟩
  obtain ⟨G, HG⟩ : ∃ Z, Hid (Wd.sgn x.num = Z) := ⟨_, Lib.hid rfl⟩
  obtain ⟨C, HC⟩ : ∃ Z, Hid (Wd.cmpQ x y = Z) := ⟨_, Lib.hid rfl⟩
  obtain ⟨E, HE⟩ : ∃ Z, Hid (decide (x = y) = Z) := ⟨_, Lib.hid rfl⟩
  have kb : (B != B) = false := by simp
  have kz : (Z != Z) = false := by simp
  have kg : (G == G) = true := by simp
  have kc : (C == C) = true := by simp
  have ke : (E == E) = true := by simp
  have UP : Up w ((w.alloc (.cells #[.bool s, .slice A l.length c, .slice D m.length d] 61)).alloc (.cells #[.bool s', .slice A' l'.length c', .slice D' m'.length d'] 61)) := ((Up.refl w).alloc _).alloc _
  obtain ⟨b0, b1⟩ := bx_two 61 61 w [.bool s, .slice A l.length c, .slice D m.length d] [.bool s', .slice A' l'.length c', .slice D' m'.length d']
  go_enter Try.func8, Try.ntmps8
  go_wp2_with fail
  generalize ((w.alloc (.cells #[.bool s, .slice A l.length c, .slice D m.length d] 61)).alloc (.cells #[.bool s', .slice A' l'.length c', .slice D' m'.length d'] 61)) = W at *
  replace FX := FX.up UP
  replace FY := FY.up UP
  replace hl := hl.up UP
  replace hm := hm.up UP
  obtain ⟨b0_0, b0_1, b0_2⟩ := b0.c3
  obtain ⟨b1_0, b1_1, b1_2⟩ := b1.c3
  go_wp2_with fail
  ((with_reducible refine (ref_long9_no l1 l2 (by omega)).mono ?_))
  rintro e W1 ⟨rfl, u1⟩
  replace FX := FX.up u1
  replace FY := FY.up u1
  replace hl := hl.up u1
  replace hm := hm.up u1
  replace b0 := b0.up u1
  replace b1 := b1.up u1
  replace UP := UP.trans u1
  clear b0_0 b0_1 b0_2 b1_0 b1_1 b1_2
  obtain ⟨b0_0, b0_1, b0_2⟩ := b0.c3
  obtain ⟨b1_0, b1_1, b1_2⟩ := b1.c3
  clear u1
  go_wp2_with fail
  ((with_reducible refine (ref_long9_no l3 l4 (by omega)).mono ?_))
  rintro e W2 ⟨rfl, u2⟩
  replace FX := FX.up u2
  replace FY := FY.up u2
  replace hl := hl.up u2
  replace hm := hm.up u2
  replace b0 := b0.up u2
  replace b1 := b1.up u2
  replace UP := UP.trans u2
  clear b0_0 b0_1 b0_2 b1_0 b1_1 b1_2
  obtain ⟨b0_0, b0_1, b0_2⟩ := b0.c3
  obtain ⟨b1_0, b1_1, b1_2⟩ := b1.c3
  clear u2
  go_wp2_with fail
  ((with_reducible refine (law_to9 _ _ _ _ _ _ _ _).mono ?_))
  rintro e W3 ⟨rfl, u3⟩
  replace FX := FX.up u3
  replace FY := FY.up u3
  replace hl := hl.up u3
  replace hm := hm.up u3
  replace b0 := b0.up u3
  replace b1 := b1.up u3
  replace UP := UP.trans u3
  clear b0_0 b0_1 b0_2 b1_0 b1_1 b1_2
  obtain ⟨b0_0, b0_1, b0_2⟩ := b0.c3
  obtain ⟨b1_0, b1_1, b1_2⟩ := b1.c3
  clear u3
  have b0_0a := fun O0 => (cell_alloc (o := O0) b0_0)
  have b0_1a := fun O0 => (cell_alloc (o := O0) b0_1)
  have b0_2a := fun O0 => (cell_alloc (o := O0) b0_2)
  have b1_0a := fun O0 => (cell_alloc (o := O0) b1_0)
  have b1_1a := fun O0 => (cell_alloc (o := O0) b1_1)
  have b1_2a := fun O0 => (cell_alloc (o := O0) b1_2)
  go_wp2_with fail
  clear b0_0a b0_1a b0_2a b1_0a b1_1a b1_2a
  have x1 := Bx.new 69 W3 [.bool s, .slice A l.length c, .slice D m.length d]
  have b0_lt_x1 := b0.lt
  have b1_lt_x1 := b1.lt
  replace FX := FX.up ((Up.refl W3).alloc (.cells #[.bool s, .slice A l.length c, .slice D m.length d] 69))
  replace FY := FY.up ((Up.refl W3).alloc (.cells #[.bool s, .slice A l.length c, .slice D m.length d] 69))
  replace hl := hl.up ((Up.refl W3).alloc (.cells #[.bool s, .slice A l.length c, .slice D m.length d] 69))
  replace hm := hm.up ((Up.refl W3).alloc (.cells #[.bool s, .slice A l.length c, .slice D m.length d] 69))
  replace b0 := b0.up ((Up.refl W3).alloc (.cells #[.bool s, .slice A l.length c, .slice D m.length d] 69))
  replace b1 := b1.up ((Up.refl W3).alloc (.cells #[.bool s, .slice A l.length c, .slice D m.length d] 69))
  replace UP := UP.trans ((Up.refl W3).alloc (.cells #[.bool s, .slice A l.length c, .slice D m.length d] 69))
  generalize (W3.alloc (.cells #[.bool s, .slice A l.length c, .slice D m.length d] 69)) = W4 at *
  clear b0_0 b0_1 b0_2 b1_0 b1_1 b1_2
  obtain ⟨b0_0, b0_1, b0_2⟩ := b0.c3
  obtain ⟨b1_0, b1_1, b1_2⟩ := b1.c3
  obtain ⟨x1_0, x1_1, x1_2⟩ := x1.c3
  ((with_reducible refine (law_to9 _ _ _ _ _ _ _ _).mono ?_))
  rintro e W5 ⟨rfl, u5⟩
  replace FX := FX.up u5
  replace FY := FY.up u5
  replace hl := hl.up u5
  replace hm := hm.up u5
  replace b0 := b0.up u5
  replace b1 := b1.up u5
  replace x1 := x1.up u5
  replace UP := UP.trans u5
  clear b0_0 b0_1 b0_2 b1_0 b1_1 b1_2 x1_0 x1_1 x1_2
  obtain ⟨b0_0, b0_1, b0_2⟩ := b0.c3
  obtain ⟨b1_0, b1_1, b1_2⟩ := b1.c3
  obtain ⟨x1_0, x1_1, x1_2⟩ := x1.c3
  clear u5
  have b0_0a := fun O0 => (cell_alloc (o := O0) b0_0)
  have b0_1a := fun O0 => (cell_alloc (o := O0) b0_1)
  have b0_2a := fun O0 => (cell_alloc (o := O0) b0_2)
  have b1_0a := fun O0 => (cell_alloc (o := O0) b1_0)
  have b1_1a := fun O0 => (cell_alloc (o := O0) b1_1)
  have b1_2a := fun O0 => (cell_alloc (o := O0) b1_2)
  have x1_0a := fun O0 => (cell_alloc (o := O0) x1_0)
  have x1_1a := fun O0 => (cell_alloc (o := O0) x1_1)
  have x1_2a := fun O0 => (cell_alloc (o := O0) x1_2)
  go_wp2_with fail
  clear b0_0a b0_1a b0_2a b1_0a b1_1a b1_2a x1_0a x1_1a x1_2a
  have x2 := Bx.new 69 W5 [.bool s', .slice A' l'.length c', .slice D' m'.length d']
  have b0_lt_x2 := b0.lt
  have b1_lt_x2 := b1.lt
  have x1_lt_x2 := x1.lt
  replace FX := FX.up ((Up.refl W5).alloc (.cells #[.bool s', .slice A' l'.length c', .slice D' m'.length d'] 69))
  replace FY := FY.up ((Up.refl W5).alloc (.cells #[.bool s', .slice A' l'.length c', .slice D' m'.length d'] 69))
  replace hl := hl.up ((Up.refl W5).alloc (.cells #[.bool s', .slice A' l'.length c', .slice D' m'.length d'] 69))
  replace hm := hm.up ((Up.refl W5).alloc (.cells #[.bool s', .slice A' l'.length c', .slice D' m'.length d'] 69))
  replace b0 := b0.up ((Up.refl W5).alloc (.cells #[.bool s', .slice A' l'.length c', .slice D' m'.length d'] 69))
  replace b1 := b1.up ((Up.refl W5).alloc (.cells #[.bool s', .slice A' l'.length c', .slice D' m'.length d'] 69))
  replace x1 := x1.up ((Up.refl W5).alloc (.cells #[.bool s', .slice A' l'.length c', .slice D' m'.length d'] 69))
  replace UP := UP.trans ((Up.refl W5).alloc (.cells #[.bool s', .slice A' l'.length c', .slice D' m'.length d'] 69))
  generalize (W5.alloc (.cells #[.bool s', .slice A' l'.length c', .slice D' m'.length d'] 69)) = W6 at *
  clear b0_0 b0_1 b0_2 b1_0 b1_1 b1_2 x1_0 x1_1 x1_2
  obtain ⟨b0_0, b0_1, b0_2⟩ := b0.c3
  obtain ⟨b1_0, b1_1, b1_2⟩ := b1.c3
  obtain ⟨x1_0, x1_1, x1_2⟩ := x1.c3
  obtain ⟨x2_0, x2_1, x2_2⟩ := x2.c3
  ((with_reducible refine (ref9_norm FX (by omega)).mono ?_))
  rintro e W7 ⟨V7, rfl, a, u7⟩
  replace FX := FX.up u7
  replace FY := FY.up u7
  replace hl := hl.up u7
  replace hm := hm.up u7
  replace b0 := b0.up u7
  replace b1 := b1.up u7
  replace x1 := x1.up u7
  replace x2 := x2.up u7
  replace UP := UP.trans u7
  clear b0_0 b0_1 b0_2 b1_0 b1_1 b1_2 x1_0 x1_1 x1_2 x2_0 x2_1 x2_2
  obtain ⟨b0_0, b0_1, b0_2⟩ := b0.c3
  obtain ⟨b1_0, b1_1, b1_2⟩ := b1.c3
  obtain ⟨x1_0, x1_1, x1_2⟩ := x1.c3
  obtain ⟨x2_0, x2_1, x2_2⟩ := x2.c3
  clear u7
  obtain ⟨Xa, Ya, rfl, a, ad⟩ := a
  obtain ⟨Aa, na, ca, rfl⟩ := a.shape
  obtain ⟨Aad, nad, cad, rfl⟩ := ad.shape
  have b0_0a := fun O0 => (cell_alloc (o := O0) b0_0)
  have b0_1a := fun O0 => (cell_alloc (o := O0) b0_1)
  have b0_2a := fun O0 => (cell_alloc (o := O0) b0_2)
  have b1_0a := fun O0 => (cell_alloc (o := O0) b1_0)
  have b1_1a := fun O0 => (cell_alloc (o := O0) b1_1)
  have b1_2a := fun O0 => (cell_alloc (o := O0) b1_2)
  have x1_0a := fun O0 => (cell_alloc (o := O0) x1_0)
  have x1_1a := fun O0 => (cell_alloc (o := O0) x1_1)
  have x1_2a := fun O0 => (cell_alloc (o := O0) x1_2)
  have x2_0a := fun O0 => (cell_alloc (o := O0) x2_0)
  have x2_1a := fun O0 => (cell_alloc (o := O0) x2_1)
  have x2_2a := fun O0 => (cell_alloc (o := O0) x2_2)
  go_wp2_with fail
  clear b0_0a b0_1a b0_2a b1_0a b1_1a b1_2a x1_0a x1_1a x1_2a x2_0a x2_1a x2_2a
  have x3 := Bx.new 61 W7 [.bool (Wd.ngb x.num), .slice Aa na ca, .slice Aad nad cad]
  have b0_lt_x3 := b0.lt
  have b1_lt_x3 := b1.lt
  have x1_lt_x3 := x1.lt
  have x2_lt_x3 := x2.lt
  replace FX := FX.up ((Up.refl W7).alloc (.cells #[.bool (Wd.ngb x.num), .slice Aa na ca, .slice Aad nad cad] 61))
  replace FY := FY.up ((Up.refl W7).alloc (.cells #[.bool (Wd.ngb x.num), .slice Aa na ca, .slice Aad nad cad] 61))
  replace hl := hl.up ((Up.refl W7).alloc (.cells #[.bool (Wd.ngb x.num), .slice Aa na ca, .slice Aad nad cad] 61))
  replace hm := hm.up ((Up.refl W7).alloc (.cells #[.bool (Wd.ngb x.num), .slice Aa na ca, .slice Aad nad cad] 61))
  replace a := a.up ((Up.refl W7).alloc (.cells #[.bool (Wd.ngb x.num), .slice Aa na ca, .slice Aad nad cad] 61))
  replace ad := ad.up ((Up.refl W7).alloc (.cells #[.bool (Wd.ngb x.num), .slice Aa na ca, .slice Aad nad cad] 61))
  replace b0 := b0.up ((Up.refl W7).alloc (.cells #[.bool (Wd.ngb x.num), .slice Aa na ca, .slice Aad nad cad] 61))
  replace b1 := b1.up ((Up.refl W7).alloc (.cells #[.bool (Wd.ngb x.num), .slice Aa na ca, .slice Aad nad cad] 61))
  replace x1 := x1.up ((Up.refl W7).alloc (.cells #[.bool (Wd.ngb x.num), .slice Aa na ca, .slice Aad nad cad] 61))
  replace x2 := x2.up ((Up.refl W7).alloc (.cells #[.bool (Wd.ngb x.num), .slice Aa na ca, .slice Aad nad cad] 61))
  replace UP := UP.trans ((Up.refl W7).alloc (.cells #[.bool (Wd.ngb x.num), .slice Aa na ca, .slice Aad nad cad] 61))
  generalize (W7.alloc (.cells #[.bool (Wd.ngb x.num), .slice Aa na ca, .slice Aad nad cad] 61)) = W8 at *
  clear b0_0 b0_1 b0_2 b1_0 b1_1 b1_2 x1_0 x1_1 x1_2 x2_0 x2_1 x2_2
  obtain ⟨b0_0, b0_1, b0_2⟩ := b0.c3
  obtain ⟨b1_0, b1_1, b1_2⟩ := b1.c3
  obtain ⟨x1_0, x1_1, x1_2⟩ := x1.c3
  obtain ⟨x2_0, x2_1, x2_2⟩ := x2.c3
  obtain ⟨x3_0, x3_1, x3_2⟩ := x3.c3
  have MQ : Qw W8 (.agg #[.bool (Wd.ngb x.num), .slice Aa na ca, .slice Aad nad cad]) x := Qw.of a ad
  ((with_reducible refine (ref9_norm FY (by omega)).mono ?_))
  rintro e W9 ⟨V9, rfl, b, u9⟩
  replace FX := FX.up u9
  replace FY := FY.up u9
  replace hl := hl.up u9
  replace hm := hm.up u9
  replace a := a.up u9
  replace ad := ad.up u9
  replace MQ := MQ.up u9
  replace b0 := b0.up u9
  replace b1 := b1.up u9
  replace x1 := x1.up u9
  replace x2 := x2.up u9
  replace x3 := x3.up u9
  replace UP := UP.trans u9
  clear b0_0 b0_1 b0_2 b1_0 b1_1 b1_2 x1_0 x1_1 x1_2 x2_0 x2_1 x2_2 x3_0 x3_1 x3_2
  obtain ⟨b0_0, b0_1, b0_2⟩ := b0.c3
  obtain ⟨b1_0, b1_1, b1_2⟩ := b1.c3
  obtain ⟨x1_0, x1_1, x1_2⟩ := x1.c3
  obtain ⟨x2_0, x2_1, x2_2⟩ := x2.c3
  obtain ⟨x3_0, x3_1, x3_2⟩ := x3.c3
  clear u9
  obtain ⟨Xb, Yb, rfl, b, bd⟩ := b
  obtain ⟨Ab, nb, cb, rfl⟩ := b.shape
  obtain ⟨Abd, nbd, cbd, rfl⟩ := bd.shape
  have b0_0a := fun O0 => (cell_alloc (o := O0) b0_0)
  have b0_1a := fun O0 => (cell_alloc (o := O0) b0_1)
  have b0_2a := fun O0 => (cell_alloc (o := O0) b0_2)
  have b1_0a := fun O0 => (cell_alloc (o := O0) b1_0)
  have b1_1a := fun O0 => (cell_alloc (o := O0) b1_1)
  have b1_2a := fun O0 => (cell_alloc (o := O0) b1_2)
  have x1_0a := fun O0 => (cell_alloc (o := O0) x1_0)
  have x1_1a := fun O0 => (cell_alloc (o := O0) x1_1)
  have x1_2a := fun O0 => (cell_alloc (o := O0) x1_2)
  have x2_0a := fun O0 => (cell_alloc (o := O0) x2_0)
  have x2_1a := fun O0 => (cell_alloc (o := O0) x2_1)
  have x2_2a := fun O0 => (cell_alloc (o := O0) x2_2)
  have x3_0a := fun O0 => (cell_alloc (o := O0) x3_0)
  have x3_1a := fun O0 => (cell_alloc (o := O0) x3_1)
  have x3_2a := fun O0 => (cell_alloc (o := O0) x3_2)
  go_wp2_with fail
  clear b0_0a b0_1a b0_2a b1_0a b1_1a b1_2a x1_0a x1_1a x1_2a x2_0a x2_1a x2_2a x3_0a x3_1a x3_2a
  have x4 := Bx.new 61 W9 [.bool (Wd.ngb y.num), .slice Ab nb cb, .slice Abd nbd cbd]
  have b0_lt_x4 := b0.lt
  have b1_lt_x4 := b1.lt
  have x1_lt_x4 := x1.lt
  have x2_lt_x4 := x2.lt
  have x3_lt_x4 := x3.lt
  replace FX := FX.up ((Up.refl W9).alloc (.cells #[.bool (Wd.ngb y.num), .slice Ab nb cb, .slice Abd nbd cbd] 61))
  replace FY := FY.up ((Up.refl W9).alloc (.cells #[.bool (Wd.ngb y.num), .slice Ab nb cb, .slice Abd nbd cbd] 61))
  replace hl := hl.up ((Up.refl W9).alloc (.cells #[.bool (Wd.ngb y.num), .slice Ab nb cb, .slice Abd nbd cbd] 61))
  replace hm := hm.up ((Up.refl W9).alloc (.cells #[.bool (Wd.ngb y.num), .slice Ab nb cb, .slice Abd nbd cbd] 61))
  replace a := a.up ((Up.refl W9).alloc (.cells #[.bool (Wd.ngb y.num), .slice Ab nb cb, .slice Abd nbd cbd] 61))
  replace ad := ad.up ((Up.refl W9).alloc (.cells #[.bool (Wd.ngb y.num), .slice Ab nb cb, .slice Abd nbd cbd] 61))
  replace MQ := MQ.up ((Up.refl W9).alloc (.cells #[.bool (Wd.ngb y.num), .slice Ab nb cb, .slice Abd nbd cbd] 61))
  replace b := b.up ((Up.refl W9).alloc (.cells #[.bool (Wd.ngb y.num), .slice Ab nb cb, .slice Abd nbd cbd] 61))
  replace bd := bd.up ((Up.refl W9).alloc (.cells #[.bool (Wd.ngb y.num), .slice Ab nb cb, .slice Abd nbd cbd] 61))
  replace b0 := b0.up ((Up.refl W9).alloc (.cells #[.bool (Wd.ngb y.num), .slice Ab nb cb, .slice Abd nbd cbd] 61))
  replace b1 := b1.up ((Up.refl W9).alloc (.cells #[.bool (Wd.ngb y.num), .slice Ab nb cb, .slice Abd nbd cbd] 61))
  replace x1 := x1.up ((Up.refl W9).alloc (.cells #[.bool (Wd.ngb y.num), .slice Ab nb cb, .slice Abd nbd cbd] 61))
  replace x2 := x2.up ((Up.refl W9).alloc (.cells #[.bool (Wd.ngb y.num), .slice Ab nb cb, .slice Abd nbd cbd] 61))
  replace x3 := x3.up ((Up.refl W9).alloc (.cells #[.bool (Wd.ngb y.num), .slice Ab nb cb, .slice Abd nbd cbd] 61))
  replace UP := UP.trans ((Up.refl W9).alloc (.cells #[.bool (Wd.ngb y.num), .slice Ab nb cb, .slice Abd nbd cbd] 61))
  generalize (W9.alloc (.cells #[.bool (Wd.ngb y.num), .slice Ab nb cb, .slice Abd nbd cbd] 61)) = W10 at *
  clear b0_0 b0_1 b0_2 b1_0 b1_1 b1_2 x1_0 x1_1 x1_2 x2_0 x2_1 x2_2 x3_0 x3_1 x3_2
  obtain ⟨b0_0, b0_1, b0_2⟩ := b0.c3
  obtain ⟨b1_0, b1_1, b1_2⟩ := b1.c3
  obtain ⟨x1_0, x1_1, x1_2⟩ := x1.c3
  obtain ⟨x2_0, x2_1, x2_2⟩ := x2.c3
  obtain ⟨x3_0, x3_1, x3_2⟩ := x3.c3
  obtain ⟨x4_0, x4_1, x4_2⟩ := x4.c3
  have NQ : Qw W10 (.agg #[.bool (Wd.ngb y.num), .slice Ab nb cb, .slice Abd nbd cbd]) y := Qw.of b bd
  ((with_reducible refine (frac_floor FX (by omega)).mono ?_))
  rintro e W11 ⟨V11, rfl, f, u11⟩
  replace FX := FX.up u11
  replace FY := FY.up u11
  replace hl := hl.up u11
  replace hm := hm.up u11
  replace a := a.up u11
  replace ad := ad.up u11
  replace MQ := MQ.up u11
  replace b := b.up u11
  replace bd := bd.up u11
  replace NQ := NQ.up u11
  replace b0 := b0.up u11
  replace b1 := b1.up u11
  replace x1 := x1.up u11
  replace x2 := x2.up u11
  replace x3 := x3.up u11
  replace x4 := x4.up u11
  replace UP := UP.trans u11
  clear b0_0 b0_1 b0_2 b1_0 b1_1 b1_2 x1_0 x1_1 x1_2 x2_0 x2_1 x2_2 x3_0 x3_1 x3_2 x4_0 x4_1 x4_2
  obtain ⟨b0_0, b0_1, b0_2⟩ := b0.c3
  obtain ⟨b1_0, b1_1, b1_2⟩ := b1.c3
  obtain ⟨x1_0, x1_1, x1_2⟩ := x1.c3
  obtain ⟨x2_0, x2_1, x2_2⟩ := x2.c3
  obtain ⟨x3_0, x3_1, x3_2⟩ := x3.c3
  obtain ⟨x4_0, x4_1, x4_2⟩ := x4.c3
  clear u11
  rw [HF.out] at f
  obtain ⟨Xf, rfl, f⟩ := f
  obtain ⟨Af, nf, cf, rfl⟩ := f.shape
  have b0_0a := fun O0 => (cell_alloc (o := O0) b0_0)
  have b0_1a := fun O0 => (cell_alloc (o := O0) b0_1)
  have b0_2a := fun O0 => (cell_alloc (o := O0) b0_2)
  have b1_0a := fun O0 => (cell_alloc (o := O0) b1_0)
  have b1_1a := fun O0 => (cell_alloc (o := O0) b1_1)
  have b1_2a := fun O0 => (cell_alloc (o := O0) b1_2)
  have x1_0a := fun O0 => (cell_alloc (o := O0) x1_0)
  have x1_1a := fun O0 => (cell_alloc (o := O0) x1_1)
  have x1_2a := fun O0 => (cell_alloc (o := O0) x1_2)
  have x2_0a := fun O0 => (cell_alloc (o := O0) x2_0)
  have x2_1a := fun O0 => (cell_alloc (o := O0) x2_1)
  have x2_2a := fun O0 => (cell_alloc (o := O0) x2_2)
  have x3_0a := fun O0 => (cell_alloc (o := O0) x3_0)
  have x3_1a := fun O0 => (cell_alloc (o := O0) x3_1)
  have x3_2a := fun O0 => (cell_alloc (o := O0) x3_2)
  have x4_0a := fun O0 => (cell_alloc (o := O0) x4_0)
  have x4_1a := fun O0 => (cell_alloc (o := O0) x4_1)
  have x4_2a := fun O0 => (cell_alloc (o := O0) x4_2)
  go_wp2_with fail
  clear b0_0a b0_1a b0_2a b1_0a b1_1a b1_2a x1_0a x1_1a x1_2a x2_0a x2_1a x2_2a x3_0a x3_1a x3_2a x4_0a x4_1a x4_2a
  have x5 := Bx.new 67 W11 [.bool (Wd.ngb F), .slice Af nf cf]
  have b0_lt_x5 := b0.lt
  have b1_lt_x5 := b1.lt
  have x1_lt_x5 := x1.lt
  have x2_lt_x5 := x2.lt
  have x3_lt_x5 := x3.lt
  have x4_lt_x5 := x4.lt
  replace FX := FX.up ((Up.refl W11).alloc (.cells #[.bool (Wd.ngb F), .slice Af nf cf] 67))
  replace FY := FY.up ((Up.refl W11).alloc (.cells #[.bool (Wd.ngb F), .slice Af nf cf] 67))
  replace hl := hl.up ((Up.refl W11).alloc (.cells #[.bool (Wd.ngb F), .slice Af nf cf] 67))
  replace hm := hm.up ((Up.refl W11).alloc (.cells #[.bool (Wd.ngb F), .slice Af nf cf] 67))
  replace a := a.up ((Up.refl W11).alloc (.cells #[.bool (Wd.ngb F), .slice Af nf cf] 67))
  replace ad := ad.up ((Up.refl W11).alloc (.cells #[.bool (Wd.ngb F), .slice Af nf cf] 67))
  replace MQ := MQ.up ((Up.refl W11).alloc (.cells #[.bool (Wd.ngb F), .slice Af nf cf] 67))
  replace b := b.up ((Up.refl W11).alloc (.cells #[.bool (Wd.ngb F), .slice Af nf cf] 67))
  replace bd := bd.up ((Up.refl W11).alloc (.cells #[.bool (Wd.ngb F), .slice Af nf cf] 67))
  replace NQ := NQ.up ((Up.refl W11).alloc (.cells #[.bool (Wd.ngb F), .slice Af nf cf] 67))
  replace f := f.up ((Up.refl W11).alloc (.cells #[.bool (Wd.ngb F), .slice Af nf cf] 67))
  replace b0 := b0.up ((Up.refl W11).alloc (.cells #[.bool (Wd.ngb F), .slice Af nf cf] 67))
  replace b1 := b1.up ((Up.refl W11).alloc (.cells #[.bool (Wd.ngb F), .slice Af nf cf] 67))
  replace x1 := x1.up ((Up.refl W11).alloc (.cells #[.bool (Wd.ngb F), .slice Af nf cf] 67))
  replace x2 := x2.up ((Up.refl W11).alloc (.cells #[.bool (Wd.ngb F), .slice Af nf cf] 67))
  replace x3 := x3.up ((Up.refl W11).alloc (.cells #[.bool (Wd.ngb F), .slice Af nf cf] 67))
  replace x4 := x4.up ((Up.refl W11).alloc (.cells #[.bool (Wd.ngb F), .slice Af nf cf] 67))
  replace UP := UP.trans ((Up.refl W11).alloc (.cells #[.bool (Wd.ngb F), .slice Af nf cf] 67))
  generalize (W11.alloc (.cells #[.bool (Wd.ngb F), .slice Af nf cf] 67)) = W12 at *
  clear b0_0 b0_1 b0_2 b1_0 b1_1 b1_2 x1_0 x1_1 x1_2 x2_0 x2_1 x2_2 x3_0 x3_1 x3_2 x4_0 x4_1 x4_2
  obtain ⟨b0_0, b0_1, b0_2⟩ := b0.c3
  obtain ⟨b1_0, b1_1, b1_2⟩ := b1.c3
  obtain ⟨x1_0, x1_1, x1_2⟩ := x1.c3
  obtain ⟨x2_0, x2_1, x2_2⟩ := x2.c3
  obtain ⟨x3_0, x3_1, x3_2⟩ := x3.c3
  obtain ⟨x4_0, x4_1, x4_2⟩ := x4.c3
  obtain ⟨x5_0, x5_1⟩ := x5.c2
  go_wp2_with fail
  replace FX := FX.up (Up.refl W12).drew
  replace FY := FY.up (Up.refl W12).drew
  replace hl := hl.up (Up.refl W12).drew
  replace hm := hm.up (Up.refl W12).drew
  replace a := a.up (Up.refl W12).drew
  replace ad := ad.up (Up.refl W12).drew
  replace MQ := MQ.up (Up.refl W12).drew
  replace b := b.up (Up.refl W12).drew
  replace bd := bd.up (Up.refl W12).drew
  replace NQ := NQ.up (Up.refl W12).drew
  replace f := f.up (Up.refl W12).drew
  replace b0 := b0.up (Up.refl W12).drew
  replace b1 := b1.up (Up.refl W12).drew
  replace x1 := x1.up (Up.refl W12).drew
  replace x2 := x2.up (Up.refl W12).drew
  replace x3 := x3.up (Up.refl W12).drew
  replace x4 := x4.up (Up.refl W12).drew
  replace x5 := x5.up (Up.refl W12).drew
  replace UP := UP.trans (Up.refl W12).drew
  clear b0_0 b0_1 b0_2 b1_0 b1_1 b1_2 x1_0 x1_1 x1_2 x2_0 x2_1 x2_2 x3_0 x3_1 x3_2 x4_0 x4_1 x4_2 x5_0 x5_1
  obtain ⟨b0_0, b0_1, b0_2⟩ := b0.c3
  obtain ⟨b1_0, b1_1, b1_2⟩ := b1.c3
  obtain ⟨x1_0, x1_1, x1_2⟩ := x1.c3
  obtain ⟨x2_0, x2_1, x2_2⟩ := x2.c3
  obtain ⟨x3_0, x3_1, x3_2⟩ := x3.c3
  obtain ⟨x4_0, x4_1, x4_2⟩ := x4.c3
  obtain ⟨x5_0, x5_1⟩ := x5.c2
  go_region_held3 (fun w' => Up w w' ∧ w'.cell? ⟨w.heap.size, 0, none⟩ = some (.bool s) ∧ w'.cell? ⟨w.heap.size, 1, none⟩ = some (.slice A l.length c) ∧ w'.cell? ⟨w.heap.size, 2, none⟩ = some (.slice D m.length d) ∧ w'.cell? ⟨W3.heap.size, 0, none⟩ = some (.bool s) ∧ w'.cell? ⟨W3.heap.size, 1, none⟩ = some (.slice A l.length c) ∧ w'.cell? ⟨W3.heap.size, 2, none⟩ = some (.slice D m.length d) ∧ w'.cell? ⟨W7.heap.size, 0, none⟩ = some (.bool (Wd.ngb x.num)) ∧ w'.cell? ⟨W7.heap.size, 1, none⟩ = some (.slice Aa na ca) ∧ w'.cell? ⟨W7.heap.size, 2, none⟩ = some (.slice Aad nad cad) ∧ w'.cell? ⟨W11.heap.size, 0, none⟩ = some (.bool (Wd.ngb F)) ∧ w'.cell? ⟨W11.heap.size, 1, none⟩ = some (.slice Af nf cf))
      (first | with_reducible exact ⟨UP, b0_0, b0_1, b0_2, x1_0, x1_1, x1_2, x3_0, x3_1, x3_2, x5_0, x5_1⟩ | with_reducible exact ⟨UP, b0_0, b0_1, b0_2, x1_0, x1_1, x1_2, x3_0, x3_1, x3_2, x5_0, x5_1⟩ | with_reducible exact ⟨(UP.alloc_drew _), (cell_alloc_drew b0_0), (cell_alloc_drew b0_1), (cell_alloc_drew b0_2), (cell_alloc_drew x1_0), (cell_alloc_drew x1_1), (cell_alloc_drew x1_2), (cell_alloc_drew x3_0), (cell_alloc_drew x3_1), (cell_alloc_drew x3_2), (cell_alloc_drew x5_0), (cell_alloc_drew x5_1)⟩ | with_reducible exact ⟨(UP.alloc2_drew _ _), (cell_alloc2_drew b0_0), (cell_alloc2_drew b0_1), (cell_alloc2_drew b0_2), (cell_alloc2_drew x1_0), (cell_alloc2_drew x1_1), (cell_alloc2_drew x1_2), (cell_alloc2_drew x3_0), (cell_alloc2_drew x3_1), (cell_alloc2_drew x3_2), (cell_alloc2_drew x5_0), (cell_alloc2_drew x5_1)⟩ | (simp only [← World.setCell_drew]; first | with_reducible exact ⟨UP, b0_0, b0_1, b0_2, x1_0, x1_1, x1_2, x3_0, x3_1, x3_2, x5_0, x5_1⟩) | go_keep)
      ((first
        | (go_at_call 58
           ((with_reducible refine (ref9_floor MQ LX (by omega)).mono ?_))
           rintro e W13 ⟨V13, rfl, ff, u13⟩
           replace FX := FX.up u13
           replace FY := FY.up u13
           replace hl := hl.up u13
           replace hm := hm.up u13
           replace a := a.up u13
           replace ad := ad.up u13
           replace MQ := MQ.up u13
           replace b := b.up u13
           replace bd := bd.up u13
           replace NQ := NQ.up u13
           replace f := f.up u13
           try (replace ff := ff.up u13)
           replace b0 := b0.up u13
           replace b1 := b1.up u13
           replace x1 := x1.up u13
           replace x2 := x2.up u13
           replace x3 := x3.up u13
           replace x4 := x4.up u13
           replace x5 := x5.up u13
           replace UP := UP.trans u13
           clear b0_0 b0_1 b0_2 b1_0 b1_1 b1_2 x1_0 x1_1 x1_2 x2_0 x2_1 x2_2 x3_0 x3_1 x3_2 x4_0 x4_1 x4_2 x5_0 x5_1
           obtain ⟨b0_0, b0_1, b0_2⟩ := b0.c3
           obtain ⟨b1_0, b1_1, b1_2⟩ := b1.c3
           obtain ⟨x1_0, x1_1, x1_2⟩ := x1.c3
           obtain ⟨x2_0, x2_1, x2_2⟩ := x2.c3
           obtain ⟨x3_0, x3_1, x3_2⟩ := x3.c3
           obtain ⟨x4_0, x4_1, x4_2⟩ := x4.c3
           obtain ⟨x5_0, x5_1⟩ := x5.c2
           clear u13
           rw [HF.out] at ff
           obtain ⟨Xff, rfl, ff⟩ := ff
           obtain ⟨Aff, nff, cff, rfl⟩ := ff.shape)
        | (go_at_call 57
           ((with_reducible refine (ref8_same_yes (Zw.intro f) (Zw.intro ff) LF (by omega)).mono ?_))
           rintro e W14 ⟨rfl, u14⟩
           replace FX := FX.up u14
           replace FY := FY.up u14
           replace hl := hl.up u14
           replace hm := hm.up u14
           replace a := a.up u14
           replace ad := ad.up u14
           replace MQ := MQ.up u14
           replace b := b.up u14
           replace bd := bd.up u14
           replace NQ := NQ.up u14
           replace f := f.up u14
           try (replace ff := ff.up u14)
           replace b0 := b0.up u14
           replace b1 := b1.up u14
           replace x1 := x1.up u14
           replace x2 := x2.up u14
           replace x3 := x3.up u14
           replace x4 := x4.up u14
           replace x5 := x5.up u14
           replace UP := UP.trans u14
           clear b0_0 b0_1 b0_2 b1_0 b1_1 b1_2 x1_0 x1_1 x1_2 x2_0 x2_1 x2_2 x3_0 x3_1 x3_2 x4_0 x4_1 x4_2 x5_0 x5_1
           obtain ⟨b0_0, b0_1, b0_2⟩ := b0.c3
           obtain ⟨b1_0, b1_1, b1_2⟩ := b1.c3
           obtain ⟨x1_0, x1_1, x1_2⟩ := x1.c3
           obtain ⟨x2_0, x2_1, x2_2⟩ := x2.c3
           obtain ⟨x3_0, x3_1, x3_2⟩ := x3.c3
           obtain ⟨x4_0, x4_1, x4_2⟩ := x4.c3
           obtain ⟨x5_0, x5_1⟩ := x5.c2
           clear u14)
        | (go_at_call 59
           ((with_reducible refine (frac_size hl hm (by omega) (by omega)).mono ?_))
           rintro e W15 ⟨rfl, u15⟩
           replace FX := FX.up u15
           replace FY := FY.up u15
           replace hl := hl.up u15
           replace hm := hm.up u15
           replace a := a.up u15
           replace ad := ad.up u15
           replace MQ := MQ.up u15
           replace b := b.up u15
           replace bd := bd.up u15
           replace NQ := NQ.up u15
           replace f := f.up u15
           try (replace ff := ff.up u15)
           replace b0 := b0.up u15
           replace b1 := b1.up u15
           replace x1 := x1.up u15
           replace x2 := x2.up u15
           replace x3 := x3.up u15
           replace x4 := x4.up u15
           replace x5 := x5.up u15
           replace UP := UP.trans u15
           clear b0_0 b0_1 b0_2 b1_0 b1_1 b1_2 x1_0 x1_1 x1_2 x2_0 x2_1 x2_2 x3_0 x3_1 x3_2 x4_0 x4_1 x4_2 x5_0 x5_1
           obtain ⟨b0_0, b0_1, b0_2⟩ := b0.c3
           obtain ⟨b1_0, b1_1, b1_2⟩ := b1.c3
           obtain ⟨x1_0, x1_1, x1_2⟩ := x1.c3
           obtain ⟨x2_0, x2_1, x2_2⟩ := x2.c3
           obtain ⟨x3_0, x3_1, x3_2⟩ := x3.c3
           obtain ⟨x4_0, x4_1, x4_2⟩ := x4.c3
           obtain ⟨x5_0, x5_1⟩ := x5.c2
           clear u15
           rw [HZ.out])
        | (go_at_call 34
           ((with_reducible refine (ref9_size hl hm (by omega) (by omega)).mono ?_))
           rintro e W16 ⟨rfl, u16⟩
           replace FX := FX.up u16
           replace FY := FY.up u16
           replace hl := hl.up u16
           replace hm := hm.up u16
           replace a := a.up u16
           replace ad := ad.up u16
           replace MQ := MQ.up u16
           replace b := b.up u16
           replace bd := bd.up u16
           replace NQ := NQ.up u16
           replace f := f.up u16
           try (replace ff := ff.up u16)
           replace b0 := b0.up u16
           replace b1 := b1.up u16
           replace x1 := x1.up u16
           replace x2 := x2.up u16
           replace x3 := x3.up u16
           replace x4 := x4.up u16
           replace x5 := x5.up u16
           replace UP := UP.trans u16
           clear b0_0 b0_1 b0_2 b1_0 b1_1 b1_2 x1_0 x1_1 x1_2 x2_0 x2_1 x2_2 x3_0 x3_1 x3_2 x4_0 x4_1 x4_2 x5_0 x5_1
           obtain ⟨b0_0, b0_1, b0_2⟩ := b0.c3
           obtain ⟨b1_0, b1_1, b1_2⟩ := b1.c3
           obtain ⟨x1_0, x1_1, x1_2⟩ := x1.c3
           obtain ⟨x2_0, x2_1, x2_2⟩ := x2.c3
           obtain ⟨x3_0, x3_1, x3_2⟩ := x3.c3
           obtain ⟨x4_0, x4_1, x4_2⟩ := x4.c3
           obtain ⟨x5_0, x5_1⟩ := x5.c2
           clear u16
           rw [HZ.out])
        | (go_at_call 55
           ((with_reducible refine (frac_right hl hm HX.out (by omega) (by omega)).mono ?_))
           rintro e W17 ⟨rfl, u17⟩
           replace FX := FX.up u17
           replace FY := FY.up u17
           replace hl := hl.up u17
           replace hm := hm.up u17
           replace a := a.up u17
           replace ad := ad.up u17
           replace MQ := MQ.up u17
           replace b := b.up u17
           replace bd := bd.up u17
           replace NQ := NQ.up u17
           replace f := f.up u17
           try (replace ff := ff.up u17)
           replace b0 := b0.up u17
           replace b1 := b1.up u17
           replace x1 := x1.up u17
           replace x2 := x2.up u17
           replace x3 := x3.up u17
           replace x4 := x4.up u17
           replace x5 := x5.up u17
           replace UP := UP.trans u17
           clear b0_0 b0_1 b0_2 b1_0 b1_1 b1_2 x1_0 x1_1 x1_2 x2_0 x2_1 x2_2 x3_0 x3_1 x3_2 x4_0 x4_1 x4_2 x5_0 x5_1
           obtain ⟨b0_0, b0_1, b0_2⟩ := b0.c3
           obtain ⟨b1_0, b1_1, b1_2⟩ := b1.c3
           obtain ⟨x1_0, x1_1, x1_2⟩ := x1.c3
           obtain ⟨x2_0, x2_1, x2_2⟩ := x2.c3
           obtain ⟨x3_0, x3_1, x3_2⟩ := x3.c3
           obtain ⟨x4_0, x4_1, x4_2⟩ := x4.c3
           obtain ⟨x5_0, x5_1⟩ := x5.c2
           clear u17
           rw [HB.out])
        | (go_at_call 60
           ((with_reducible refine (ref_same9 hl hm a ad (by omega) (by omega) LX1 LX2).mono ?_))
           rintro e W18 ⟨rfl, u18⟩
           replace FX := FX.up u18
           replace FY := FY.up u18
           replace hl := hl.up u18
           replace hm := hm.up u18
           replace a := a.up u18
           replace ad := ad.up u18
           replace MQ := MQ.up u18
           replace b := b.up u18
           replace bd := bd.up u18
           replace NQ := NQ.up u18
           replace f := f.up u18
           try (replace ff := ff.up u18)
           replace b0 := b0.up u18
           replace b1 := b1.up u18
           replace x1 := x1.up u18
           replace x2 := x2.up u18
           replace x3 := x3.up u18
           replace x4 := x4.up u18
           replace x5 := x5.up u18
           replace UP := UP.trans u18
           clear b0_0 b0_1 b0_2 b1_0 b1_1 b1_2 x1_0 x1_1 x1_2 x2_0 x2_1 x2_2 x3_0 x3_1 x3_2 x4_0 x4_1 x4_2 x5_0 x5_1
           obtain ⟨b0_0, b0_1, b0_2⟩ := b0.c3
           obtain ⟨b1_0, b1_1, b1_2⟩ := b1.c3
           obtain ⟨x1_0, x1_1, x1_2⟩ := x1.c3
           obtain ⟨x2_0, x2_1, x2_2⟩ := x2.c3
           obtain ⟨x3_0, x3_1, x3_2⟩ := x3.c3
           obtain ⟨x4_0, x4_1, x4_2⟩ := x4.c3
           obtain ⟨x5_0, x5_1⟩ := x5.c2
           clear u18
           rw [HB.out])))
  all_goals
    go_wp2_with fail
    replace FX := FX.up (Up.refl W18).drew
    replace FY := FY.up (Up.refl W18).drew
    replace hl := hl.up (Up.refl W18).drew
    replace hm := hm.up (Up.refl W18).drew
    replace a := a.up (Up.refl W18).drew
    replace ad := ad.up (Up.refl W18).drew
    replace MQ := MQ.up (Up.refl W18).drew
    replace b := b.up (Up.refl W18).drew
    replace bd := bd.up (Up.refl W18).drew
    replace NQ := NQ.up (Up.refl W18).drew
    replace f := f.up (Up.refl W18).drew
    replace ff := ff.up (Up.refl W18).drew
    replace b0 := b0.up (Up.refl W18).drew
    replace b1 := b1.up (Up.refl W18).drew
    replace x1 := x1.up (Up.refl W18).drew
    replace x2 := x2.up (Up.refl W18).drew
    replace x3 := x3.up (Up.refl W18).drew
    replace x4 := x4.up (Up.refl W18).drew
    replace x5 := x5.up (Up.refl W18).drew
    replace UP := UP.trans (Up.refl W18).drew
    clear b0_0 b0_1 b0_2 b1_0 b1_1 b1_2 x1_0 x1_1 x1_2 x2_0 x2_1 x2_2 x3_0 x3_1 x3_2 x4_0 x4_1 x4_2 x5_0 x5_1
    obtain ⟨b0_0, b0_1, b0_2⟩ := b0.c3
    obtain ⟨b1_0, b1_1, b1_2⟩ := b1.c3
    obtain ⟨x1_0, x1_1, x1_2⟩ := x1.c3
    obtain ⟨x2_0, x2_1, x2_2⟩ := x2.c3
    obtain ⟨x3_0, x3_1, x3_2⟩ := x3.c3
    obtain ⟨x4_0, x4_1, x4_2⟩ := x4.c3
    obtain ⟨x5_0, x5_1⟩ := x5.c2
    go_region_held3 (fun w' => Up w w' ∧ w'.cell? ⟨W3.heap.size, 0, none⟩ = some (.bool s) ∧ w'.cell? ⟨W3.heap.size, 1, none⟩ = some (.slice A l.length c) ∧ w'.cell? ⟨W3.heap.size, 2, none⟩ = some (.slice D m.length d) ∧ w'.cell? ⟨W5.heap.size, 0, none⟩ = some (.bool s') ∧ w'.cell? ⟨W5.heap.size, 1, none⟩ = some (.slice A' l'.length c') ∧ w'.cell? ⟨W5.heap.size, 2, none⟩ = some (.slice D' m'.length d') ∧ w'.cell? ⟨W7.heap.size, 0, none⟩ = some (.bool (Wd.ngb x.num)) ∧ w'.cell? ⟨W7.heap.size, 1, none⟩ = some (.slice Aa na ca) ∧ w'.cell? ⟨W7.heap.size, 2, none⟩ = some (.slice Aad nad cad) ∧ w'.cell? ⟨W9.heap.size, 0, none⟩ = some (.bool (Wd.ngb y.num)) ∧ w'.cell? ⟨W9.heap.size, 1, none⟩ = some (.slice Ab nb cb) ∧ w'.cell? ⟨W9.heap.size, 2, none⟩ = some (.slice Abd nbd cbd))
        (first | with_reducible exact ⟨UP, x1_0, x1_1, x1_2, x2_0, x2_1, x2_2, x3_0, x3_1, x3_2, x4_0, x4_1, x4_2⟩ | with_reducible exact ⟨UP, x1_0, x1_1, x1_2, x2_0, x2_1, x2_2, x3_0, x3_1, x3_2, x4_0, x4_1, x4_2⟩ | with_reducible exact ⟨(UP.alloc_drew _), (cell_alloc_drew x1_0), (cell_alloc_drew x1_1), (cell_alloc_drew x1_2), (cell_alloc_drew x2_0), (cell_alloc_drew x2_1), (cell_alloc_drew x2_2), (cell_alloc_drew x3_0), (cell_alloc_drew x3_1), (cell_alloc_drew x3_2), (cell_alloc_drew x4_0), (cell_alloc_drew x4_1), (cell_alloc_drew x4_2)⟩ | with_reducible exact ⟨(UP.alloc2_drew _ _), (cell_alloc2_drew x1_0), (cell_alloc2_drew x1_1), (cell_alloc2_drew x1_2), (cell_alloc2_drew x2_0), (cell_alloc2_drew x2_1), (cell_alloc2_drew x2_2), (cell_alloc2_drew x3_0), (cell_alloc2_drew x3_1), (cell_alloc2_drew x3_2), (cell_alloc2_drew x4_0), (cell_alloc2_drew x4_1), (cell_alloc2_drew x4_2)⟩ | (simp only [← World.setCell_drew]; first | with_reducible exact ⟨UP, x1_0, x1_1, x1_2, x2_0, x2_1, x2_2, x3_0, x3_1, x3_2, x4_0, x4_1, x4_2⟩) | go_keep)
        ((first
          | (go_at_call 52
             ((with_reducible refine (frac_norm FX (by omega)).mono ?_))
             rintro e W19 ⟨V19, rfl, d1, u19⟩
             replace FX := FX.up u19
             replace FY := FY.up u19
             replace hl := hl.up u19
             replace hm := hm.up u19
             replace a := a.up u19
             replace ad := ad.up u19
             replace MQ := MQ.up u19
             replace b := b.up u19
             replace bd := bd.up u19
             replace NQ := NQ.up u19
             replace f := f.up u19
             replace ff := ff.up u19
             try (replace d1 := d1.up u19)
             replace b0 := b0.up u19
             replace b1 := b1.up u19
             replace x1 := x1.up u19
             replace x2 := x2.up u19
             replace x3 := x3.up u19
             replace x4 := x4.up u19
             replace x5 := x5.up u19
             replace UP := UP.trans u19
             clear b0_0 b0_1 b0_2 b1_0 b1_1 b1_2 x1_0 x1_1 x1_2 x2_0 x2_1 x2_2 x3_0 x3_1 x3_2 x4_0 x4_1 x4_2 x5_0 x5_1
             obtain ⟨b0_0, b0_1, b0_2⟩ := b0.c3
             obtain ⟨b1_0, b1_1, b1_2⟩ := b1.c3
             obtain ⟨x1_0, x1_1, x1_2⟩ := x1.c3
             obtain ⟨x2_0, x2_1, x2_2⟩ := x2.c3
             obtain ⟨x3_0, x3_1, x3_2⟩ := x3.c3
             obtain ⟨x4_0, x4_1, x4_2⟩ := x4.c3
             obtain ⟨x5_0, x5_1⟩ := x5.c2
             clear u19)
          | (go_at_call 44
             ((with_reducible refine (law_is9 d1 MQ LX (by omega)).mono ?_))
             rintro e W20 ⟨rfl, u20⟩
             replace FX := FX.up u20
             replace FY := FY.up u20
             replace hl := hl.up u20
             replace hm := hm.up u20
             replace a := a.up u20
             replace ad := ad.up u20
             replace MQ := MQ.up u20
             replace b := b.up u20
             replace bd := bd.up u20
             replace NQ := NQ.up u20
             replace f := f.up u20
             replace ff := ff.up u20
             try (replace d1 := d1.up u20)
             replace b0 := b0.up u20
             replace b1 := b1.up u20
             replace x1 := x1.up u20
             replace x2 := x2.up u20
             replace x3 := x3.up u20
             replace x4 := x4.up u20
             replace x5 := x5.up u20
             replace UP := UP.trans u20
             clear b0_0 b0_1 b0_2 b1_0 b1_1 b1_2 x1_0 x1_1 x1_2 x2_0 x2_1 x2_2 x3_0 x3_1 x3_2 x4_0 x4_1 x4_2 x5_0 x5_1
             obtain ⟨b0_0, b0_1, b0_2⟩ := b0.c3
             obtain ⟨b1_0, b1_1, b1_2⟩ := b1.c3
             obtain ⟨x1_0, x1_1, x1_2⟩ := x1.c3
             obtain ⟨x2_0, x2_1, x2_2⟩ := x2.c3
             obtain ⟨x3_0, x3_1, x3_2⟩ := x3.c3
             obtain ⟨x4_0, x4_1, x4_2⟩ := x4.c3
             obtain ⟨x5_0, x5_1⟩ := x5.c2
             clear u20)
          | (go_at_call 53
             ((with_reducible refine (frac_sign FX (by omega)).mono ?_))
             rintro e W21 ⟨rfl, u21⟩
             replace FX := FX.up u21
             replace FY := FY.up u21
             replace hl := hl.up u21
             replace hm := hm.up u21
             replace a := a.up u21
             replace ad := ad.up u21
             replace MQ := MQ.up u21
             replace b := b.up u21
             replace bd := bd.up u21
             replace NQ := NQ.up u21
             replace f := f.up u21
             replace ff := ff.up u21
             try (replace d1 := d1.up u21)
             replace b0 := b0.up u21
             replace b1 := b1.up u21
             replace x1 := x1.up u21
             replace x2 := x2.up u21
             replace x3 := x3.up u21
             replace x4 := x4.up u21
             replace x5 := x5.up u21
             replace UP := UP.trans u21
             clear b0_0 b0_1 b0_2 b1_0 b1_1 b1_2 x1_0 x1_1 x1_2 x2_0 x2_1 x2_2 x3_0 x3_1 x3_2 x4_0 x4_1 x4_2 x5_0 x5_1
             obtain ⟨b0_0, b0_1, b0_2⟩ := b0.c3
             obtain ⟨b1_0, b1_1, b1_2⟩ := b1.c3
             obtain ⟨x1_0, x1_1, x1_2⟩ := x1.c3
             obtain ⟨x2_0, x2_1, x2_2⟩ := x2.c3
             obtain ⟨x3_0, x3_1, x3_2⟩ := x3.c3
             obtain ⟨x4_0, x4_1, x4_2⟩ := x4.c3
             obtain ⟨x5_0, x5_1⟩ := x5.c2
             clear u21
             rw [HG.out])
          | (go_at_call 61
             ((with_reducible refine (ref9_sign MQ).mono ?_))
             rintro e W22 ⟨rfl, u22⟩
             replace FX := FX.up u22
             replace FY := FY.up u22
             replace hl := hl.up u22
             replace hm := hm.up u22
             replace a := a.up u22
             replace ad := ad.up u22
             replace MQ := MQ.up u22
             replace b := b.up u22
             replace bd := bd.up u22
             replace NQ := NQ.up u22
             replace f := f.up u22
             replace ff := ff.up u22
             try (replace d1 := d1.up u22)
             replace b0 := b0.up u22
             replace b1 := b1.up u22
             replace x1 := x1.up u22
             replace x2 := x2.up u22
             replace x3 := x3.up u22
             replace x4 := x4.up u22
             replace x5 := x5.up u22
             replace UP := UP.trans u22
             clear b0_0 b0_1 b0_2 b1_0 b1_1 b1_2 x1_0 x1_1 x1_2 x2_0 x2_1 x2_2 x3_0 x3_1 x3_2 x4_0 x4_1 x4_2 x5_0 x5_1
             obtain ⟨b0_0, b0_1, b0_2⟩ := b0.c3
             obtain ⟨b1_0, b1_1, b1_2⟩ := b1.c3
             obtain ⟨x1_0, x1_1, x1_2⟩ := x1.c3
             obtain ⟨x2_0, x2_1, x2_2⟩ := x2.c3
             obtain ⟨x3_0, x3_1, x3_2⟩ := x3.c3
             obtain ⟨x4_0, x4_1, x4_2⟩ := x4.c3
             obtain ⟨x5_0, x5_1⟩ := x5.c2
             clear u22
             rw [HG.out])
          | (go_at_call 62
             ((with_reducible refine (frac_cmp FX FY (by omega) (by omega)).mono ?_))
             rintro e W23 ⟨rfl, u23⟩
             replace FX := FX.up u23
             replace FY := FY.up u23
             replace hl := hl.up u23
             replace hm := hm.up u23
             replace a := a.up u23
             replace ad := ad.up u23
             replace MQ := MQ.up u23
             replace b := b.up u23
             replace bd := bd.up u23
             replace NQ := NQ.up u23
             replace f := f.up u23
             replace ff := ff.up u23
             try (replace d1 := d1.up u23)
             replace b0 := b0.up u23
             replace b1 := b1.up u23
             replace x1 := x1.up u23
             replace x2 := x2.up u23
             replace x3 := x3.up u23
             replace x4 := x4.up u23
             replace x5 := x5.up u23
             replace UP := UP.trans u23
             clear b0_0 b0_1 b0_2 b1_0 b1_1 b1_2 x1_0 x1_1 x1_2 x2_0 x2_1 x2_2 x3_0 x3_1 x3_2 x4_0 x4_1 x4_2 x5_0 x5_1
             obtain ⟨b0_0, b0_1, b0_2⟩ := b0.c3
             obtain ⟨b1_0, b1_1, b1_2⟩ := b1.c3
             obtain ⟨x1_0, x1_1, x1_2⟩ := x1.c3
             obtain ⟨x2_0, x2_1, x2_2⟩ := x2.c3
             obtain ⟨x3_0, x3_1, x3_2⟩ := x3.c3
             obtain ⟨x4_0, x4_1, x4_2⟩ := x4.c3
             obtain ⟨x5_0, x5_1⟩ := x5.c2
             clear u23
             rw [HC.out])
          | (go_at_call 39
             ((with_reducible refine (ref9_cmp MQ NQ LX LY (by omega) (by omega)).mono ?_))
             rintro e W24 ⟨rfl, u24⟩
             replace FX := FX.up u24
             replace FY := FY.up u24
             replace hl := hl.up u24
             replace hm := hm.up u24
             replace a := a.up u24
             replace ad := ad.up u24
             replace MQ := MQ.up u24
             replace b := b.up u24
             replace bd := bd.up u24
             replace NQ := NQ.up u24
             replace f := f.up u24
             replace ff := ff.up u24
             try (replace d1 := d1.up u24)
             replace b0 := b0.up u24
             replace b1 := b1.up u24
             replace x1 := x1.up u24
             replace x2 := x2.up u24
             replace x3 := x3.up u24
             replace x4 := x4.up u24
             replace x5 := x5.up u24
             replace UP := UP.trans u24
             clear b0_0 b0_1 b0_2 b1_0 b1_1 b1_2 x1_0 x1_1 x1_2 x2_0 x2_1 x2_2 x3_0 x3_1 x3_2 x4_0 x4_1 x4_2 x5_0 x5_1
             obtain ⟨b0_0, b0_1, b0_2⟩ := b0.c3
             obtain ⟨b1_0, b1_1, b1_2⟩ := b1.c3
             obtain ⟨x1_0, x1_1, x1_2⟩ := x1.c3
             obtain ⟨x2_0, x2_1, x2_2⟩ := x2.c3
             obtain ⟨x3_0, x3_1, x3_2⟩ := x3.c3
             obtain ⟨x4_0, x4_1, x4_2⟩ := x4.c3
             obtain ⟨x5_0, x5_1⟩ := x5.c2
             clear u24
             rw [HC.out])
          | (go_at_call 54
             ((with_reducible refine (frac_same FX FY (by omega) (by omega)).mono ?_))
             rintro e W25 ⟨rfl, u25⟩
             replace FX := FX.up u25
             replace FY := FY.up u25
             replace hl := hl.up u25
             replace hm := hm.up u25
             replace a := a.up u25
             replace ad := ad.up u25
             replace MQ := MQ.up u25
             replace b := b.up u25
             replace bd := bd.up u25
             replace NQ := NQ.up u25
             replace f := f.up u25
             replace ff := ff.up u25
             try (replace d1 := d1.up u25)
             replace b0 := b0.up u25
             replace b1 := b1.up u25
             replace x1 := x1.up u25
             replace x2 := x2.up u25
             replace x3 := x3.up u25
             replace x4 := x4.up u25
             replace x5 := x5.up u25
             replace UP := UP.trans u25
             clear b0_0 b0_1 b0_2 b1_0 b1_1 b1_2 x1_0 x1_1 x1_2 x2_0 x2_1 x2_2 x3_0 x3_1 x3_2 x4_0 x4_1 x4_2 x5_0 x5_1
             obtain ⟨b0_0, b0_1, b0_2⟩ := b0.c3
             obtain ⟨b1_0, b1_1, b1_2⟩ := b1.c3
             obtain ⟨x1_0, x1_1, x1_2⟩ := x1.c3
             obtain ⟨x2_0, x2_1, x2_2⟩ := x2.c3
             obtain ⟨x3_0, x3_1, x3_2⟩ := x3.c3
             obtain ⟨x4_0, x4_1, x4_2⟩ := x4.c3
             obtain ⟨x5_0, x5_1⟩ := x5.c2
             clear u25
             rw [HE.out])
          | (go_at_call 60
             ((with_reducible refine (ref_same9_q MQ NQ LX LY (by omega) (by omega)).mono ?_))
             rintro e W26 ⟨rfl, u26⟩
             replace FX := FX.up u26
             replace FY := FY.up u26
             replace hl := hl.up u26
             replace hm := hm.up u26
             replace a := a.up u26
             replace ad := ad.up u26
             replace MQ := MQ.up u26
             replace b := b.up u26
             replace bd := bd.up u26
             replace NQ := NQ.up u26
             replace f := f.up u26
             replace ff := ff.up u26
             try (replace d1 := d1.up u26)
             replace b0 := b0.up u26
             replace b1 := b1.up u26
             replace x1 := x1.up u26
             replace x2 := x2.up u26
             replace x3 := x3.up u26
             replace x4 := x4.up u26
             replace x5 := x5.up u26
             replace UP := UP.trans u26
             clear b0_0 b0_1 b0_2 b1_0 b1_1 b1_2 x1_0 x1_1 x1_2 x2_0 x2_1 x2_2 x3_0 x3_1 x3_2 x4_0 x4_1 x4_2 x5_0 x5_1
             obtain ⟨b0_0, b0_1, b0_2⟩ := b0.c3
             obtain ⟨b1_0, b1_1, b1_2⟩ := b1.c3
             obtain ⟨x1_0, x1_1, x1_2⟩ := x1.c3
             obtain ⟨x2_0, x2_1, x2_2⟩ := x2.c3
             obtain ⟨x3_0, x3_1, x3_2⟩ := x3.c3
             obtain ⟨x4_0, x4_1, x4_2⟩ := x4.c3
             obtain ⟨x5_0, x5_1⟩ := x5.c2
             clear u26
             rw [HE.out])
          | (go_at_call 36
             ((with_reducible refine (works9 _).mono ?_))
             rintro e W27 ⟨rfl, u27⟩
             replace FX := FX.up u27
             replace FY := FY.up u27
             replace hl := hl.up u27
             replace hm := hm.up u27
             replace a := a.up u27
             replace ad := ad.up u27
             replace MQ := MQ.up u27
             replace b := b.up u27
             replace bd := bd.up u27
             replace NQ := NQ.up u27
             replace f := f.up u27
             replace ff := ff.up u27
             try (replace d1 := d1.up u27)
             replace b0 := b0.up u27
             replace b1 := b1.up u27
             replace x1 := x1.up u27
             replace x2 := x2.up u27
             replace x3 := x3.up u27
             replace x4 := x4.up u27
             replace x5 := x5.up u27
             replace UP := UP.trans u27
             clear b0_0 b0_1 b0_2 b1_0 b1_1 b1_2 x1_0 x1_1 x1_2 x2_0 x2_1 x2_2 x3_0 x3_1 x3_2 x4_0 x4_1 x4_2 x5_0 x5_1
             obtain ⟨b0_0, b0_1, b0_2⟩ := b0.c3
             obtain ⟨b1_0, b1_1, b1_2⟩ := b1.c3
             obtain ⟨x1_0, x1_1, x1_2⟩ := x1.c3
             obtain ⟨x2_0, x2_1, x2_2⟩ := x2.c3
             obtain ⟨x3_0, x3_1, x3_2⟩ := x3.c3
             obtain ⟨x4_0, x4_1, x4_2⟩ := x4.c3
             obtain ⟨x5_0, x5_1⟩ := x5.c2
             clear u27)))
    all_goals
      go_wp2
      go_ret
      exact ⟨rfl, UP⟩
end Go.Proofs.Ytmmcffceeahemaa
