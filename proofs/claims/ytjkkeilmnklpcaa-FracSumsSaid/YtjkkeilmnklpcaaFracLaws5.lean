/-
  The walk of FracSums.
-/
import Derived.Test.YtjkkeilmnklpcaaFracWorks
import Derived.Test.YtjkkeilmnklpcaaRefFrac5
set_option linter.unusedVariables false
set_option linter.unusedSimpArgs false
namespace Go.Proofs.Ytjkkeilmnklpcaa
open Go.RowKit

theorem ref9_int0_ (w : World) : Calls Try.prog 47 #[.int .i64 0] w (RetQ 0 w) := ref9_int (n := 0) (by omega) w
theorem lq_abs {q : Rat} {k : Nat} (h : Wd.Lq q k) : Wd.Lq (Wd.absQ q) k := by
  unfold Wd.absQ
  split
  · exact h.neg
  · exact h
set_option maxRecDepth 100000 in
set_option maxHeartbeats 12800000 in
theorem fracSums_walk {s s' : Bool} {u v u' v' : Value} {l m l' m' : List Nat} {w : World} (hl : Ws w u l) (hm : Ws w v m) (hl' : Ws w u' l') (hm' : Ws w v' m') :
    Calls Try.prog 10 #[.agg #[.bool s, u, v], .agg #[.bool s', u', v']] w fun e w' => e = .returned (.bool true) ∧ Up w w' := by
  obtain ⟨A, c, rfl⟩ := hl.form
  obtain ⟨D, d, rfl⟩ := hm.form
  obtain ⟨A', c', rfl⟩ := hl'.form
  obtain ⟨D', d', rfl⟩ := hm'.form
  by_cases h1 : (20 : Int) < (l.length : Int) ∨ (20 : Int) < (m.length : Int)
  · have H1 := Lib.hid h1
    clear h1
    have UP : Up w ((w.alloc (.cells #[.bool s, .slice A l.length c, .slice D m.length d] 61)).alloc (.cells #[.bool s', .slice A' l'.length c', .slice D' m'.length d'] 61)) := ((Up.refl w).alloc _).alloc _
    obtain ⟨b0, b1⟩ := bx_two 61 61 w [.bool s, .slice A l.length c, .slice D m.length d] [.bool s', .slice A' l'.length c', .slice D' m'.length d']
    go_enter Try.func10, Try.ntmps10
    go_wp2_with fail
    generalize ((w.alloc (.cells #[.bool s, .slice A l.length c, .slice D m.length d] 61)).alloc (.cells #[.bool s', .slice A' l'.length c', .slice D' m'.length d'] 61)) = W at *
    have b0_0 := b0.cell (i := 0) rfl
    have b0_1 := b0.cell (i := 1) rfl
    have b0_2 := b0.cell (i := 2) rfl
    have b1_0 := b1.cell (i := 0) rfl
    have b1_1 := b1.cell (i := 1) rfl
    have b1_2 := b1.cell (i := 2) rfl
    go_wp2_with fail
    ((with_reducible refine (ref_long9_yes H1.out (by omega)).mono ?_))
    rintro e W1 ⟨rfl, u1⟩
    replace b0 := b0.up u1
    replace b1 := b1.up u1
    replace UP := UP.trans u1
    replace b0_0 := b0.cell (i := 0) rfl
    replace b0_1 := b0.cell (i := 1) rfl
    replace b0_2 := b0.cell (i := 2) rfl
    replace b1_0 := b1.cell (i := 0) rfl
    replace b1_1 := b1.cell (i := 1) rfl
    replace b1_2 := b1.cell (i := 2) rfl
    clear u1
    go_wp2_with fail
    ((with_reducible refine (works9 _).mono ?_))
    rintro e W2 ⟨rfl, u2⟩
    replace b0 := b0.up u2
    replace b1 := b1.up u2
    replace UP := UP.trans u2
    replace b0_0 := b0.cell (i := 0) rfl
    replace b0_1 := b0.cell (i := 1) rfl
    replace b0_2 := b0.cell (i := 2) rfl
    replace b1_0 := b1.cell (i := 0) rfl
    replace b1_1 := b1.cell (i := 1) rfl
    replace b1_2 := b1.cell (i := 2) rfl
    clear u2
    go_wp2
    go_ret
    exact ⟨rfl, UP⟩
  have l1 : (l.length : Int) ≤ 20 := by omega
  have l2 : (m.length : Int) ≤ 20 := by omega
  clear h1
  by_cases h1 : (20 : Int) < (l'.length : Int) ∨ (20 : Int) < (m'.length : Int)
  · have H1 := Lib.hid h1
    clear h1
    have UP : Up w ((w.alloc (.cells #[.bool s, .slice A l.length c, .slice D m.length d] 61)).alloc (.cells #[.bool s', .slice A' l'.length c', .slice D' m'.length d'] 61)) := ((Up.refl w).alloc _).alloc _
    obtain ⟨b0, b1⟩ := bx_two 61 61 w [.bool s, .slice A l.length c, .slice D m.length d] [.bool s', .slice A' l'.length c', .slice D' m'.length d']
    go_enter Try.func10, Try.ntmps10
    go_wp2_with fail
    generalize ((w.alloc (.cells #[.bool s, .slice A l.length c, .slice D m.length d] 61)).alloc (.cells #[.bool s', .slice A' l'.length c', .slice D' m'.length d'] 61)) = W at *
    have b0_0 := b0.cell (i := 0) rfl
    have b0_1 := b0.cell (i := 1) rfl
    have b0_2 := b0.cell (i := 2) rfl
    have b1_0 := b1.cell (i := 0) rfl
    have b1_1 := b1.cell (i := 1) rfl
    have b1_2 := b1.cell (i := 2) rfl
    go_wp2_with fail
    ((with_reducible refine (ref_long9_no l1 l2 (by omega)).mono ?_))
    rintro e W1 ⟨rfl, u1⟩
    replace b0 := b0.up u1
    replace b1 := b1.up u1
    replace UP := UP.trans u1
    replace b0_0 := b0.cell (i := 0) rfl
    replace b0_1 := b0.cell (i := 1) rfl
    replace b0_2 := b0.cell (i := 2) rfl
    replace b1_0 := b1.cell (i := 0) rfl
    replace b1_1 := b1.cell (i := 1) rfl
    replace b1_2 := b1.cell (i := 2) rfl
    clear u1
    go_wp2_with fail
    ((with_reducible refine (ref_long9_yes H1.out (by omega)).mono ?_))
    rintro e W2 ⟨rfl, u2⟩
    replace b0 := b0.up u2
    replace b1 := b1.up u2
    replace UP := UP.trans u2
    replace b0_0 := b0.cell (i := 0) rfl
    replace b0_1 := b0.cell (i := 1) rfl
    replace b0_2 := b0.cell (i := 2) rfl
    replace b1_0 := b1.cell (i := 0) rfl
    replace b1_1 := b1.cell (i := 1) rfl
    replace b1_2 := b1.cell (i := 2) rfl
    clear u2
    go_wp2_with fail
    ((with_reducible refine (works9 _).mono ?_))
    rintro e W3 ⟨rfl, u3⟩
    replace b0 := b0.up u3
    replace b1 := b1.up u3
    replace UP := UP.trans u3
    replace b0_0 := b0.cell (i := 0) rfl
    replace b0_1 := b0.cell (i := 1) rfl
    replace b0_2 := b0.cell (i := 2) rfl
    replace b1_0 := b1.cell (i := 0) rfl
    replace b1_1 := b1.cell (i := 1) rfl
    replace b1_2 := b1.cell (i := 2) rfl
    clear u3
    go_wp2
    go_ret
    exact ⟨rfl, UP⟩
  have l3 : (l'.length : Int) ≤ 20 := by omega
  have l4 : (m'.length : Int) ≤ 20 := by omega
  clear h1
  obtain ⟨x, hx⟩ : ∃ q, mkRat (Wd.iv s (Wd.val l)) (Wd.val m) = q := ⟨_, rfl⟩
  obtain ⟨y, hy⟩ : ∃ q, mkRat (Wd.iv s' (Wd.val l')) (Wd.val m') = q := ⟨_, rfl⟩
  have FX : Fr w (.agg #[.bool s, .slice A l.length c, .slice D m.length d]) x 20 := ⟨s, _, _, l, m, rfl, hl, hm, hx, by omega, by omega, by omega⟩
  have FY : Fr w (.agg #[.bool s', .slice A' l'.length c', .slice D' m'.length d']) y 20 := ⟨s', _, _, l', m', rfl, hl', hm', hy, by omega, by omega, by omega⟩
  clear hx hy hl hm hl' hm'
  have LX := FX.lq
  have LY := FY.lq
  have LT := LX.div LY
  have LN := LX.neg
  have LA := lq_abs LX
  have LXY := LX.add LY
  have LXS := LX.sub LY
  have LXM := LX.mul LY
  obtain ⟨T, hT⟩ : ∃ T, x / y = T := ⟨_, rfl⟩
  have HT := Lib.hid hT
  rw [hT] at LT
  have HY0 : Hid (y = 0 → (0 : Rat) = T) := Lib.hid (fun h => by rw [← hT, h, Rat.div_def, Rat.inv_zero, Rat.mul_zero])
  clear hT
  by_cases hy : y = 0
  · have HOK : Hid ((!decide (y = 0)) = false) := Lib.hid (by simp [hy])
    have HZ : Hid (decide (y = 0) = true) := Lib.hid (decide_eq_true hy)
    have HP0 := Lib.hid (HY0.out hy)
    clear hy
    have UP : Up w ((w.alloc (.cells #[.bool s, .slice A l.length c, .slice D m.length d] 61)).alloc (.cells #[.bool s', .slice A' l'.length c', .slice D' m'.length d'] 61)) := ((Up.refl w).alloc _).alloc _
    obtain ⟨b0, b1⟩ := bx_two 61 61 w [.bool s, .slice A l.length c, .slice D m.length d] [.bool s', .slice A' l'.length c', .slice D' m'.length d']
    go_enter Try.func10, Try.ntmps10
    go_wp2_with fail
    generalize ((w.alloc (.cells #[.bool s, .slice A l.length c, .slice D m.length d] 61)).alloc (.cells #[.bool s', .slice A' l'.length c', .slice D' m'.length d'] 61)) = W at *
    replace FX := FX.up UP
    replace FY := FY.up UP
    have b0_0 := b0.cell (i := 0) rfl
    have b0_1 := b0.cell (i := 1) rfl
    have b0_2 := b0.cell (i := 2) rfl
    have b1_0 := b1.cell (i := 0) rfl
    have b1_1 := b1.cell (i := 1) rfl
    have b1_2 := b1.cell (i := 2) rfl
    go_wp2_with fail
    ((with_reducible refine (ref_long9_no l1 l2 (by omega)).mono ?_))
    rintro e W1 ⟨rfl, u1⟩
    replace FX := FX.up u1
    replace FY := FY.up u1
    replace b0 := b0.up u1
    replace b1 := b1.up u1
    replace UP := UP.trans u1
    replace b0_0 := b0.cell (i := 0) rfl
    replace b0_1 := b0.cell (i := 1) rfl
    replace b0_2 := b0.cell (i := 2) rfl
    replace b1_0 := b1.cell (i := 0) rfl
    replace b1_1 := b1.cell (i := 1) rfl
    replace b1_2 := b1.cell (i := 2) rfl
    clear u1
    go_wp2_with fail
    ((with_reducible refine (ref_long9_no l3 l4 (by omega)).mono ?_))
    rintro e W2 ⟨rfl, u2⟩
    replace FX := FX.up u2
    replace FY := FY.up u2
    replace b0 := b0.up u2
    replace b1 := b1.up u2
    replace UP := UP.trans u2
    replace b0_0 := b0.cell (i := 0) rfl
    replace b0_1 := b0.cell (i := 1) rfl
    replace b0_2 := b0.cell (i := 2) rfl
    replace b1_0 := b1.cell (i := 0) rfl
    replace b1_1 := b1.cell (i := 1) rfl
    replace b1_2 := b1.cell (i := 2) rfl
    clear u2
    go_wp2_with fail
    ((with_reducible refine (law_to9 _ _ _ _ _ _ _ _).mono ?_))
    rintro e W3 ⟨rfl, u3⟩
    replace FX := FX.up u3
    replace FY := FY.up u3
    replace b0 := b0.up u3
    replace b1 := b1.up u3
    replace UP := UP.trans u3
    replace b0_0 := b0.cell (i := 0) rfl
    replace b0_1 := b0.cell (i := 1) rfl
    replace b0_2 := b0.cell (i := 2) rfl
    replace b1_0 := b1.cell (i := 0) rfl
    replace b1_1 := b1.cell (i := 1) rfl
    replace b1_2 := b1.cell (i := 2) rfl
    clear u3
    have b0_0a := fun O0 => (cell_alloc (o := O0) b0_0)
    have b0_1a := fun O0 => (cell_alloc (o := O0) b0_1)
    have b0_2a := fun O0 => (cell_alloc (o := O0) b0_2)
    have b1_0a := fun O0 => (cell_alloc (o := O0) b1_0)
    have b1_1a := fun O0 => (cell_alloc (o := O0) b1_1)
    have b1_2a := fun O0 => (cell_alloc (o := O0) b1_2)
    go_wp2_with fail
    clear b0_0a b0_1a b0_2a b1_0a b1_1a b1_2a
    have x1 := Bx.new 67 W3 [.bool s, .slice A l.length c, .slice D m.length d]
    have b0_lt_x1 := b0.lt
    have b1_lt_x1 := b1.lt
    replace FX := FX.up ((Up.refl W3).alloc (.cells #[.bool s, .slice A l.length c, .slice D m.length d] 67))
    replace FY := FY.up ((Up.refl W3).alloc (.cells #[.bool s, .slice A l.length c, .slice D m.length d] 67))
    replace b0 := b0.up ((Up.refl W3).alloc (.cells #[.bool s, .slice A l.length c, .slice D m.length d] 67))
    replace b1 := b1.up ((Up.refl W3).alloc (.cells #[.bool s, .slice A l.length c, .slice D m.length d] 67))
    replace UP := UP.trans ((Up.refl W3).alloc (.cells #[.bool s, .slice A l.length c, .slice D m.length d] 67))
    replace b0_0 := b0.cell (i := 0) rfl
    replace b0_1 := b0.cell (i := 1) rfl
    replace b0_2 := b0.cell (i := 2) rfl
    replace b1_0 := b1.cell (i := 0) rfl
    replace b1_1 := b1.cell (i := 1) rfl
    replace b1_2 := b1.cell (i := 2) rfl
    generalize (W3.alloc (.cells #[.bool s, .slice A l.length c, .slice D m.length d] 67)) = W4 at *
    replace b0_0 := b0.cell (i := 0) rfl
    replace b0_1 := b0.cell (i := 1) rfl
    replace b0_2 := b0.cell (i := 2) rfl
    replace b1_0 := b1.cell (i := 0) rfl
    replace b1_1 := b1.cell (i := 1) rfl
    replace b1_2 := b1.cell (i := 2) rfl
    have x1_0 := x1.cell (i := 0) rfl
    have x1_1 := x1.cell (i := 1) rfl
    have x1_2 := x1.cell (i := 2) rfl
    ((with_reducible refine (law_to9 _ _ _ _ _ _ _ _).mono ?_))
    rintro e W5 ⟨rfl, u5⟩
    replace FX := FX.up u5
    replace FY := FY.up u5
    replace b0 := b0.up u5
    replace b1 := b1.up u5
    replace x1 := x1.up u5
    replace UP := UP.trans u5
    replace b0_0 := b0.cell (i := 0) rfl
    replace b0_1 := b0.cell (i := 1) rfl
    replace b0_2 := b0.cell (i := 2) rfl
    replace b1_0 := b1.cell (i := 0) rfl
    replace b1_1 := b1.cell (i := 1) rfl
    replace b1_2 := b1.cell (i := 2) rfl
    replace x1_0 := x1.cell (i := 0) rfl
    replace x1_1 := x1.cell (i := 1) rfl
    replace x1_2 := x1.cell (i := 2) rfl
    clear u5
    have b0_0a := fun O0 => (cell_alloc (o := O0) b0_0)
    have b0_1a := fun O0 => (cell_alloc (o := O0) b0_1)
    have b0_2a := fun O0 => (cell_alloc (o := O0) b0_2)
    have b1_0a := fun O0 => (cell_alloc (o := O0) b1_0)
    have b1_1a := fun O0 => (cell_alloc (o := O0) b1_1)
    have b1_2a := fun O0 => (cell_alloc (o := O0) b1_2)
    have x1_0a := fun O0 => (cell_alloc (o := O0) x1_0)
    have x1_1a := fun O0 => (cell_alloc (o := O0) x1_1)
    have x1_2a := fun O0 => (cell_alloc (o := O0) x1_2)
    go_wp2_with fail
    clear b0_0a b0_1a b0_2a b1_0a b1_1a b1_2a x1_0a x1_1a x1_2a
    have x2 := Bx.new 67 W5 [.bool s', .slice A' l'.length c', .slice D' m'.length d']
    have b0_lt_x2 := b0.lt
    have b1_lt_x2 := b1.lt
    have x1_lt_x2 := x1.lt
    replace FX := FX.up ((Up.refl W5).alloc (.cells #[.bool s', .slice A' l'.length c', .slice D' m'.length d'] 67))
    replace FY := FY.up ((Up.refl W5).alloc (.cells #[.bool s', .slice A' l'.length c', .slice D' m'.length d'] 67))
    replace b0 := b0.up ((Up.refl W5).alloc (.cells #[.bool s', .slice A' l'.length c', .slice D' m'.length d'] 67))
    replace b1 := b1.up ((Up.refl W5).alloc (.cells #[.bool s', .slice A' l'.length c', .slice D' m'.length d'] 67))
    replace x1 := x1.up ((Up.refl W5).alloc (.cells #[.bool s', .slice A' l'.length c', .slice D' m'.length d'] 67))
    replace UP := UP.trans ((Up.refl W5).alloc (.cells #[.bool s', .slice A' l'.length c', .slice D' m'.length d'] 67))
    replace b0_0 := b0.cell (i := 0) rfl
    replace b0_1 := b0.cell (i := 1) rfl
    replace b0_2 := b0.cell (i := 2) rfl
    replace b1_0 := b1.cell (i := 0) rfl
    replace b1_1 := b1.cell (i := 1) rfl
    replace b1_2 := b1.cell (i := 2) rfl
    replace x1_0 := x1.cell (i := 0) rfl
    replace x1_1 := x1.cell (i := 1) rfl
    replace x1_2 := x1.cell (i := 2) rfl
    generalize (W5.alloc (.cells #[.bool s', .slice A' l'.length c', .slice D' m'.length d'] 67)) = W6 at *
    replace b0_0 := b0.cell (i := 0) rfl
    replace b0_1 := b0.cell (i := 1) rfl
    replace b0_2 := b0.cell (i := 2) rfl
    replace b1_0 := b1.cell (i := 0) rfl
    replace b1_1 := b1.cell (i := 1) rfl
    replace b1_2 := b1.cell (i := 2) rfl
    replace x1_0 := x1.cell (i := 0) rfl
    replace x1_1 := x1.cell (i := 1) rfl
    replace x1_2 := x1.cell (i := 2) rfl
    have x2_0 := x2.cell (i := 0) rfl
    have x2_1 := x2.cell (i := 1) rfl
    have x2_2 := x2.cell (i := 2) rfl
    ((with_reducible refine (ref9_norm FX (by omega)).mono ?_))
    rintro e W7 ⟨V7, rfl, a, u7⟩
    replace FX := FX.up u7
    replace FY := FY.up u7
    replace b0 := b0.up u7
    replace b1 := b1.up u7
    replace x1 := x1.up u7
    replace x2 := x2.up u7
    replace UP := UP.trans u7
    replace b0_0 := b0.cell (i := 0) rfl
    replace b0_1 := b0.cell (i := 1) rfl
    replace b0_2 := b0.cell (i := 2) rfl
    replace b1_0 := b1.cell (i := 0) rfl
    replace b1_1 := b1.cell (i := 1) rfl
    replace b1_2 := b1.cell (i := 2) rfl
    replace x1_0 := x1.cell (i := 0) rfl
    replace x1_1 := x1.cell (i := 1) rfl
    replace x1_2 := x1.cell (i := 2) rfl
    replace x2_0 := x2.cell (i := 0) rfl
    replace x2_1 := x2.cell (i := 1) rfl
    replace x2_2 := x2.cell (i := 2) rfl
    clear u7
    obtain ⟨Xa, Ya, rfl, a, ad⟩ := a
    obtain ⟨Aa, na, ca, rfl⟩ := a.shape
    obtain ⟨Aad, nad, cad, rfl⟩ := ad.shape
    have b0_0a := fun O0 => (cell_alloc (o := O0) b0_0)
    have b0_1a := fun O0 => (cell_alloc (o := O0) b0_1)
    have b0_2a := fun O0 => (cell_alloc (o := O0) b0_2)
    have b1_0a := fun O0 => (cell_alloc (o := O0) b1_0)
    have b1_1a := fun O0 => (cell_alloc (o := O0) b1_1)
    have b1_2a := fun O0 => (cell_alloc (o := O0) b1_2)
    have x1_0a := fun O0 => (cell_alloc (o := O0) x1_0)
    have x1_1a := fun O0 => (cell_alloc (o := O0) x1_1)
    have x1_2a := fun O0 => (cell_alloc (o := O0) x1_2)
    have x2_0a := fun O0 => (cell_alloc (o := O0) x2_0)
    have x2_1a := fun O0 => (cell_alloc (o := O0) x2_1)
    have x2_2a := fun O0 => (cell_alloc (o := O0) x2_2)
    go_wp2_with fail
    clear b0_0a b0_1a b0_2a b1_0a b1_1a b1_2a x1_0a x1_1a x1_2a x2_0a x2_1a x2_2a
    have x3 := Bx.new 61 W7 [.bool (Wd.ngb x.num), .slice Aa na ca, .slice Aad nad cad]
    have b0_lt_x3 := b0.lt
    have b1_lt_x3 := b1.lt
    have x1_lt_x3 := x1.lt
    have x2_lt_x3 := x2.lt
    replace FX := FX.up ((Up.refl W7).alloc (.cells #[.bool (Wd.ngb x.num), .slice Aa na ca, .slice Aad nad cad] 61))
    replace FY := FY.up ((Up.refl W7).alloc (.cells #[.bool (Wd.ngb x.num), .slice Aa na ca, .slice Aad nad cad] 61))
    replace a := a.up ((Up.refl W7).alloc (.cells #[.bool (Wd.ngb x.num), .slice Aa na ca, .slice Aad nad cad] 61))
    replace ad := ad.up ((Up.refl W7).alloc (.cells #[.bool (Wd.ngb x.num), .slice Aa na ca, .slice Aad nad cad] 61))
    replace b0 := b0.up ((Up.refl W7).alloc (.cells #[.bool (Wd.ngb x.num), .slice Aa na ca, .slice Aad nad cad] 61))
    replace b1 := b1.up ((Up.refl W7).alloc (.cells #[.bool (Wd.ngb x.num), .slice Aa na ca, .slice Aad nad cad] 61))
    replace x1 := x1.up ((Up.refl W7).alloc (.cells #[.bool (Wd.ngb x.num), .slice Aa na ca, .slice Aad nad cad] 61))
    replace x2 := x2.up ((Up.refl W7).alloc (.cells #[.bool (Wd.ngb x.num), .slice Aa na ca, .slice Aad nad cad] 61))
    replace UP := UP.trans ((Up.refl W7).alloc (.cells #[.bool (Wd.ngb x.num), .slice Aa na ca, .slice Aad nad cad] 61))
    replace b0_0 := b0.cell (i := 0) rfl
    replace b0_1 := b0.cell (i := 1) rfl
    replace b0_2 := b0.cell (i := 2) rfl
    replace b1_0 := b1.cell (i := 0) rfl
    replace b1_1 := b1.cell (i := 1) rfl
    replace b1_2 := b1.cell (i := 2) rfl
    replace x1_0 := x1.cell (i := 0) rfl
    replace x1_1 := x1.cell (i := 1) rfl
    replace x1_2 := x1.cell (i := 2) rfl
    replace x2_0 := x2.cell (i := 0) rfl
    replace x2_1 := x2.cell (i := 1) rfl
    replace x2_2 := x2.cell (i := 2) rfl
    generalize (W7.alloc (.cells #[.bool (Wd.ngb x.num), .slice Aa na ca, .slice Aad nad cad] 61)) = W8 at *
    replace b0_0 := b0.cell (i := 0) rfl
    replace b0_1 := b0.cell (i := 1) rfl
    replace b0_2 := b0.cell (i := 2) rfl
    replace b1_0 := b1.cell (i := 0) rfl
    replace b1_1 := b1.cell (i := 1) rfl
    replace b1_2 := b1.cell (i := 2) rfl
    replace x1_0 := x1.cell (i := 0) rfl
    replace x1_1 := x1.cell (i := 1) rfl
    replace x1_2 := x1.cell (i := 2) rfl
    replace x2_0 := x2.cell (i := 0) rfl
    replace x2_1 := x2.cell (i := 1) rfl
    replace x2_2 := x2.cell (i := 2) rfl
    have x3_0 := x3.cell (i := 0) rfl
    have x3_1 := x3.cell (i := 1) rfl
    have x3_2 := x3.cell (i := 2) rfl
    have MQ : Qw W8 (.agg #[.bool (Wd.ngb x.num), .slice Aa na ca, .slice Aad nad cad]) x := Qw.of a ad
    clear a ad
    ((with_reducible refine (ref9_norm FY (by omega)).mono ?_))
    rintro e W9 ⟨V9, rfl, b, u9⟩
    replace FX := FX.up u9
    replace FY := FY.up u9
    replace MQ := MQ.up u9
    replace b0 := b0.up u9
    replace b1 := b1.up u9
    replace x1 := x1.up u9
    replace x2 := x2.up u9
    replace x3 := x3.up u9
    replace UP := UP.trans u9
    replace b0_0 := b0.cell (i := 0) rfl
    replace b0_1 := b0.cell (i := 1) rfl
    replace b0_2 := b0.cell (i := 2) rfl
    replace b1_0 := b1.cell (i := 0) rfl
    replace b1_1 := b1.cell (i := 1) rfl
    replace b1_2 := b1.cell (i := 2) rfl
    replace x1_0 := x1.cell (i := 0) rfl
    replace x1_1 := x1.cell (i := 1) rfl
    replace x1_2 := x1.cell (i := 2) rfl
    replace x2_0 := x2.cell (i := 0) rfl
    replace x2_1 := x2.cell (i := 1) rfl
    replace x2_2 := x2.cell (i := 2) rfl
    replace x3_0 := x3.cell (i := 0) rfl
    replace x3_1 := x3.cell (i := 1) rfl
    replace x3_2 := x3.cell (i := 2) rfl
    clear u9
    obtain ⟨Xb, Yb, rfl, b, bd⟩ := b
    obtain ⟨Ab, nb, cb, rfl⟩ := b.shape
    obtain ⟨Abd, nbd, cbd, rfl⟩ := bd.shape
    have b0_0a := fun O0 => (cell_alloc (o := O0) b0_0)
    have b0_1a := fun O0 => (cell_alloc (o := O0) b0_1)
    have b0_2a := fun O0 => (cell_alloc (o := O0) b0_2)
    have b1_0a := fun O0 => (cell_alloc (o := O0) b1_0)
    have b1_1a := fun O0 => (cell_alloc (o := O0) b1_1)
    have b1_2a := fun O0 => (cell_alloc (o := O0) b1_2)
    have x1_0a := fun O0 => (cell_alloc (o := O0) x1_0)
    have x1_1a := fun O0 => (cell_alloc (o := O0) x1_1)
    have x1_2a := fun O0 => (cell_alloc (o := O0) x1_2)
    have x2_0a := fun O0 => (cell_alloc (o := O0) x2_0)
    have x2_1a := fun O0 => (cell_alloc (o := O0) x2_1)
    have x2_2a := fun O0 => (cell_alloc (o := O0) x2_2)
    have x3_0a := fun O0 => (cell_alloc (o := O0) x3_0)
    have x3_1a := fun O0 => (cell_alloc (o := O0) x3_1)
    have x3_2a := fun O0 => (cell_alloc (o := O0) x3_2)
    go_wp2_with fail
    clear b0_0a b0_1a b0_2a b1_0a b1_1a b1_2a x1_0a x1_1a x1_2a x2_0a x2_1a x2_2a x3_0a x3_1a x3_2a
    have x4 := Bx.new 61 W9 [.bool (Wd.ngb y.num), .slice Ab nb cb, .slice Abd nbd cbd]
    have b0_lt_x4 := b0.lt
    have b1_lt_x4 := b1.lt
    have x1_lt_x4 := x1.lt
    have x2_lt_x4 := x2.lt
    have x3_lt_x4 := x3.lt
    replace FX := FX.up ((Up.refl W9).alloc (.cells #[.bool (Wd.ngb y.num), .slice Ab nb cb, .slice Abd nbd cbd] 61))
    replace FY := FY.up ((Up.refl W9).alloc (.cells #[.bool (Wd.ngb y.num), .slice Ab nb cb, .slice Abd nbd cbd] 61))
    replace MQ := MQ.up ((Up.refl W9).alloc (.cells #[.bool (Wd.ngb y.num), .slice Ab nb cb, .slice Abd nbd cbd] 61))
    replace b := b.up ((Up.refl W9).alloc (.cells #[.bool (Wd.ngb y.num), .slice Ab nb cb, .slice Abd nbd cbd] 61))
    replace bd := bd.up ((Up.refl W9).alloc (.cells #[.bool (Wd.ngb y.num), .slice Ab nb cb, .slice Abd nbd cbd] 61))
    replace b0 := b0.up ((Up.refl W9).alloc (.cells #[.bool (Wd.ngb y.num), .slice Ab nb cb, .slice Abd nbd cbd] 61))
    replace b1 := b1.up ((Up.refl W9).alloc (.cells #[.bool (Wd.ngb y.num), .slice Ab nb cb, .slice Abd nbd cbd] 61))
    replace x1 := x1.up ((Up.refl W9).alloc (.cells #[.bool (Wd.ngb y.num), .slice Ab nb cb, .slice Abd nbd cbd] 61))
    replace x2 := x2.up ((Up.refl W9).alloc (.cells #[.bool (Wd.ngb y.num), .slice Ab nb cb, .slice Abd nbd cbd] 61))
    replace x3 := x3.up ((Up.refl W9).alloc (.cells #[.bool (Wd.ngb y.num), .slice Ab nb cb, .slice Abd nbd cbd] 61))
    replace UP := UP.trans ((Up.refl W9).alloc (.cells #[.bool (Wd.ngb y.num), .slice Ab nb cb, .slice Abd nbd cbd] 61))
    replace b0_0 := b0.cell (i := 0) rfl
    replace b0_1 := b0.cell (i := 1) rfl
    replace b0_2 := b0.cell (i := 2) rfl
    replace b1_0 := b1.cell (i := 0) rfl
    replace b1_1 := b1.cell (i := 1) rfl
    replace b1_2 := b1.cell (i := 2) rfl
    replace x1_0 := x1.cell (i := 0) rfl
    replace x1_1 := x1.cell (i := 1) rfl
    replace x1_2 := x1.cell (i := 2) rfl
    replace x2_0 := x2.cell (i := 0) rfl
    replace x2_1 := x2.cell (i := 1) rfl
    replace x2_2 := x2.cell (i := 2) rfl
    replace x3_0 := x3.cell (i := 0) rfl
    replace x3_1 := x3.cell (i := 1) rfl
    replace x3_2 := x3.cell (i := 2) rfl
    generalize (W9.alloc (.cells #[.bool (Wd.ngb y.num), .slice Ab nb cb, .slice Abd nbd cbd] 61)) = W10 at *
    replace b0_0 := b0.cell (i := 0) rfl
    replace b0_1 := b0.cell (i := 1) rfl
    replace b0_2 := b0.cell (i := 2) rfl
    replace b1_0 := b1.cell (i := 0) rfl
    replace b1_1 := b1.cell (i := 1) rfl
    replace b1_2 := b1.cell (i := 2) rfl
    replace x1_0 := x1.cell (i := 0) rfl
    replace x1_1 := x1.cell (i := 1) rfl
    replace x1_2 := x1.cell (i := 2) rfl
    replace x2_0 := x2.cell (i := 0) rfl
    replace x2_1 := x2.cell (i := 1) rfl
    replace x2_2 := x2.cell (i := 2) rfl
    replace x3_0 := x3.cell (i := 0) rfl
    replace x3_1 := x3.cell (i := 1) rfl
    replace x3_2 := x3.cell (i := 2) rfl
    have x4_0 := x4.cell (i := 0) rfl
    have x4_1 := x4.cell (i := 1) rfl
    have x4_2 := x4.cell (i := 2) rfl
    have NQ : Qw W10 (.agg #[.bool (Wd.ngb y.num), .slice Ab nb cb, .slice Abd nbd cbd]) y := Qw.of b bd
    clear b bd
    ((with_reducible refine (frac_quo FX FY (by omega) (by omega)).mono ?_))
    rintro e W11 ⟨V11, rfl, p, u11⟩
    replace FX := FX.up u11
    replace FY := FY.up u11
    replace MQ := MQ.up u11
    replace NQ := NQ.up u11
    replace b0 := b0.up u11
    replace b1 := b1.up u11
    replace x1 := x1.up u11
    replace x2 := x2.up u11
    replace x3 := x3.up u11
    replace x4 := x4.up u11
    replace UP := UP.trans u11
    replace b0_0 := b0.cell (i := 0) rfl
    replace b0_1 := b0.cell (i := 1) rfl
    replace b0_2 := b0.cell (i := 2) rfl
    replace b1_0 := b1.cell (i := 0) rfl
    replace b1_1 := b1.cell (i := 1) rfl
    replace b1_2 := b1.cell (i := 2) rfl
    replace x1_0 := x1.cell (i := 0) rfl
    replace x1_1 := x1.cell (i := 1) rfl
    replace x1_2 := x1.cell (i := 2) rfl
    replace x2_0 := x2.cell (i := 0) rfl
    replace x2_1 := x2.cell (i := 1) rfl
    replace x2_2 := x2.cell (i := 2) rfl
    replace x3_0 := x3.cell (i := 0) rfl
    replace x3_1 := x3.cell (i := 1) rfl
    replace x3_2 := x3.cell (i := 2) rfl
    replace x4_0 := x4.cell (i := 0) rfl
    replace x4_1 := x4.cell (i := 1) rfl
    replace x4_2 := x4.cell (i := 2) rfl
    clear u11
    rw [HOK.out]
    rw [HT.out] at p
    obtain ⟨Xp, Yp, rfl, p, pd⟩ := p
    obtain ⟨Ap, np, cp, rfl⟩ := p.shape
    obtain ⟨Apd, npd, cpd, rfl⟩ := pd.shape
    have b0_0a := fun O0 => (cell_alloc (o := O0) b0_0)
    have b0_1a := fun O0 => (cell_alloc (o := O0) b0_1)
    have b0_2a := fun O0 => (cell_alloc (o := O0) b0_2)
    have b1_0a := fun O0 => (cell_alloc (o := O0) b1_0)
    have b1_1a := fun O0 => (cell_alloc (o := O0) b1_1)
    have b1_2a := fun O0 => (cell_alloc (o := O0) b1_2)
    have x1_0a := fun O0 => (cell_alloc (o := O0) x1_0)
    have x1_1a := fun O0 => (cell_alloc (o := O0) x1_1)
    have x1_2a := fun O0 => (cell_alloc (o := O0) x1_2)
    have x2_0a := fun O0 => (cell_alloc (o := O0) x2_0)
    have x2_1a := fun O0 => (cell_alloc (o := O0) x2_1)
    have x2_2a := fun O0 => (cell_alloc (o := O0) x2_2)
    have x3_0a := fun O0 => (cell_alloc (o := O0) x3_0)
    have x3_1a := fun O0 => (cell_alloc (o := O0) x3_1)
    have x3_2a := fun O0 => (cell_alloc (o := O0) x3_2)
    have x4_0a := fun O0 => (cell_alloc (o := O0) x4_0)
    have x4_1a := fun O0 => (cell_alloc (o := O0) x4_1)
    have x4_2a := fun O0 => (cell_alloc (o := O0) x4_2)
    go_wp2_with fail
    clear b0_0a b0_1a b0_2a b1_0a b1_1a b1_2a x1_0a x1_1a x1_2a x2_0a x2_1a x2_2a x3_0a x3_1a x3_2a x4_0a x4_1a x4_2a
    have x5 := Bx.new 67 W11 [.bool (Wd.ngb T.num), .slice Ap np cp, .slice Apd npd cpd]
    have b0_lt_x5 := b0.lt
    have b1_lt_x5 := b1.lt
    have x1_lt_x5 := x1.lt
    have x2_lt_x5 := x2.lt
    have x3_lt_x5 := x3.lt
    have x4_lt_x5 := x4.lt
    replace FX := FX.up ((Up.refl W11).alloc (.cells #[.bool (Wd.ngb T.num), .slice Ap np cp, .slice Apd npd cpd] 67))
    replace FY := FY.up ((Up.refl W11).alloc (.cells #[.bool (Wd.ngb T.num), .slice Ap np cp, .slice Apd npd cpd] 67))
    replace MQ := MQ.up ((Up.refl W11).alloc (.cells #[.bool (Wd.ngb T.num), .slice Ap np cp, .slice Apd npd cpd] 67))
    replace NQ := NQ.up ((Up.refl W11).alloc (.cells #[.bool (Wd.ngb T.num), .slice Ap np cp, .slice Apd npd cpd] 67))
    replace p := p.up ((Up.refl W11).alloc (.cells #[.bool (Wd.ngb T.num), .slice Ap np cp, .slice Apd npd cpd] 67))
    replace pd := pd.up ((Up.refl W11).alloc (.cells #[.bool (Wd.ngb T.num), .slice Ap np cp, .slice Apd npd cpd] 67))
    replace b0 := b0.up ((Up.refl W11).alloc (.cells #[.bool (Wd.ngb T.num), .slice Ap np cp, .slice Apd npd cpd] 67))
    replace b1 := b1.up ((Up.refl W11).alloc (.cells #[.bool (Wd.ngb T.num), .slice Ap np cp, .slice Apd npd cpd] 67))
    replace x1 := x1.up ((Up.refl W11).alloc (.cells #[.bool (Wd.ngb T.num), .slice Ap np cp, .slice Apd npd cpd] 67))
    replace x2 := x2.up ((Up.refl W11).alloc (.cells #[.bool (Wd.ngb T.num), .slice Ap np cp, .slice Apd npd cpd] 67))
    replace x3 := x3.up ((Up.refl W11).alloc (.cells #[.bool (Wd.ngb T.num), .slice Ap np cp, .slice Apd npd cpd] 67))
    replace x4 := x4.up ((Up.refl W11).alloc (.cells #[.bool (Wd.ngb T.num), .slice Ap np cp, .slice Apd npd cpd] 67))
    replace UP := UP.trans ((Up.refl W11).alloc (.cells #[.bool (Wd.ngb T.num), .slice Ap np cp, .slice Apd npd cpd] 67))
    replace b0_0 := b0.cell (i := 0) rfl
    replace b0_1 := b0.cell (i := 1) rfl
    replace b0_2 := b0.cell (i := 2) rfl
    replace b1_0 := b1.cell (i := 0) rfl
    replace b1_1 := b1.cell (i := 1) rfl
    replace b1_2 := b1.cell (i := 2) rfl
    replace x1_0 := x1.cell (i := 0) rfl
    replace x1_1 := x1.cell (i := 1) rfl
    replace x1_2 := x1.cell (i := 2) rfl
    replace x2_0 := x2.cell (i := 0) rfl
    replace x2_1 := x2.cell (i := 1) rfl
    replace x2_2 := x2.cell (i := 2) rfl
    replace x3_0 := x3.cell (i := 0) rfl
    replace x3_1 := x3.cell (i := 1) rfl
    replace x3_2 := x3.cell (i := 2) rfl
    replace x4_0 := x4.cell (i := 0) rfl
    replace x4_1 := x4.cell (i := 1) rfl
    replace x4_2 := x4.cell (i := 2) rfl
    generalize (W11.alloc (.cells #[.bool (Wd.ngb T.num), .slice Ap np cp, .slice Apd npd cpd] 67)) = W12 at *
    replace b0_0 := b0.cell (i := 0) rfl
    replace b0_1 := b0.cell (i := 1) rfl
    replace b0_2 := b0.cell (i := 2) rfl
    replace b1_0 := b1.cell (i := 0) rfl
    replace b1_1 := b1.cell (i := 1) rfl
    replace b1_2 := b1.cell (i := 2) rfl
    replace x1_0 := x1.cell (i := 0) rfl
    replace x1_1 := x1.cell (i := 1) rfl
    replace x1_2 := x1.cell (i := 2) rfl
    replace x2_0 := x2.cell (i := 0) rfl
    replace x2_1 := x2.cell (i := 1) rfl
    replace x2_2 := x2.cell (i := 2) rfl
    replace x3_0 := x3.cell (i := 0) rfl
    replace x3_1 := x3.cell (i := 1) rfl
    replace x3_2 := x3.cell (i := 2) rfl
    replace x4_0 := x4.cell (i := 0) rfl
    replace x4_1 := x4.cell (i := 1) rfl
    replace x4_2 := x4.cell (i := 2) rfl
    have x5_0 := x5.cell (i := 0) rfl
    have x5_1 := x5.cell (i := 1) rfl
    have x5_2 := x5.cell (i := 2) rfl
    ((with_reducible refine (ref9_int0_ _).mono ?_))
    rintro e W13 ⟨V13, rfl, o, u13⟩
    replace FX := FX.up u13
    replace FY := FY.up u13
    replace MQ := MQ.up u13
    replace NQ := NQ.up u13
    replace p := p.up u13
    replace pd := pd.up u13
    replace b0 := b0.up u13
    replace b1 := b1.up u13
    replace x1 := x1.up u13
    replace x2 := x2.up u13
    replace x3 := x3.up u13
    replace x4 := x4.up u13
    replace x5 := x5.up u13
    replace UP := UP.trans u13
    replace b0_0 := b0.cell (i := 0) rfl
    replace b0_1 := b0.cell (i := 1) rfl
    replace b0_2 := b0.cell (i := 2) rfl
    replace b1_0 := b1.cell (i := 0) rfl
    replace b1_1 := b1.cell (i := 1) rfl
    replace b1_2 := b1.cell (i := 2) rfl
    replace x1_0 := x1.cell (i := 0) rfl
    replace x1_1 := x1.cell (i := 1) rfl
    replace x1_2 := x1.cell (i := 2) rfl
    replace x2_0 := x2.cell (i := 0) rfl
    replace x2_1 := x2.cell (i := 1) rfl
    replace x2_2 := x2.cell (i := 2) rfl
    replace x3_0 := x3.cell (i := 0) rfl
    replace x3_1 := x3.cell (i := 1) rfl
    replace x3_2 := x3.cell (i := 2) rfl
    replace x4_0 := x4.cell (i := 0) rfl
    replace x4_1 := x4.cell (i := 1) rfl
    replace x4_2 := x4.cell (i := 2) rfl
    replace x5_0 := x5.cell (i := 0) rfl
    replace x5_1 := x5.cell (i := 1) rfl
    replace x5_2 := x5.cell (i := 2) rfl
    clear u13
    rw [HP0.out] at o
    obtain ⟨Xo, Yo, rfl, o, od⟩ := o
    obtain ⟨Ao, no, co, rfl⟩ := o.shape
    obtain ⟨Aod, nod, cod, rfl⟩ := od.shape
    have b0_0a := fun O0 => (cell_alloc (o := O0) b0_0)
    have b0_1a := fun O0 => (cell_alloc (o := O0) b0_1)
    have b0_2a := fun O0 => (cell_alloc (o := O0) b0_2)
    have b1_0a := fun O0 => (cell_alloc (o := O0) b1_0)
    have b1_1a := fun O0 => (cell_alloc (o := O0) b1_1)
    have b1_2a := fun O0 => (cell_alloc (o := O0) b1_2)
    have x1_0a := fun O0 => (cell_alloc (o := O0) x1_0)
    have x1_1a := fun O0 => (cell_alloc (o := O0) x1_1)
    have x1_2a := fun O0 => (cell_alloc (o := O0) x1_2)
    have x2_0a := fun O0 => (cell_alloc (o := O0) x2_0)
    have x2_1a := fun O0 => (cell_alloc (o := O0) x2_1)
    have x2_2a := fun O0 => (cell_alloc (o := O0) x2_2)
    have x3_0a := fun O0 => (cell_alloc (o := O0) x3_0)
    have x3_1a := fun O0 => (cell_alloc (o := O0) x3_1)
    have x3_2a := fun O0 => (cell_alloc (o := O0) x3_2)
    have x4_0a := fun O0 => (cell_alloc (o := O0) x4_0)
    have x4_1a := fun O0 => (cell_alloc (o := O0) x4_1)
    have x4_2a := fun O0 => (cell_alloc (o := O0) x4_2)
    have x5_0a := fun O0 => (cell_alloc (o := O0) x5_0)
    have x5_1a := fun O0 => (cell_alloc (o := O0) x5_1)
    have x5_2a := fun O0 => (cell_alloc (o := O0) x5_2)
    go_wp2_with fail
    clear b0_0a b0_1a b0_2a b1_0a b1_1a b1_2a x1_0a x1_1a x1_2a x2_0a x2_1a x2_2a x3_0a x3_1a x3_2a x4_0a x4_1a x4_2a x5_0a x5_1a x5_2a
    have x6 := Bx.new 61 W13 [.bool (Wd.ngb T.num), .slice Ao no co, .slice Aod nod cod]
    have b0_lt_x6 := b0.lt
    have b0_ne_x6 : ¬ (w.heap.size = W13.heap.size) := by omega
    have b0_en_x6 : ¬ (W13.heap.size = w.heap.size) := by omega
    have b1_lt_x6 := b1.lt
    have b1_ne_x6 : ¬ (w.heap.size + 1 = W13.heap.size) := by omega
    have b1_en_x6 : ¬ (W13.heap.size = w.heap.size + 1) := by omega
    have x1_lt_x6 := x1.lt
    have x1_ne_x6 : ¬ (W3.heap.size = W13.heap.size) := by omega
    have x1_en_x6 : ¬ (W13.heap.size = W3.heap.size) := by omega
    have x2_lt_x6 := x2.lt
    have x2_ne_x6 : ¬ (W5.heap.size = W13.heap.size) := by omega
    have x2_en_x6 : ¬ (W13.heap.size = W5.heap.size) := by omega
    have x3_lt_x6 := x3.lt
    have x3_ne_x6 : ¬ (W7.heap.size = W13.heap.size) := by omega
    have x3_en_x6 : ¬ (W13.heap.size = W7.heap.size) := by omega
    have x4_lt_x6 := x4.lt
    have x4_ne_x6 : ¬ (W9.heap.size = W13.heap.size) := by omega
    have x4_en_x6 : ¬ (W13.heap.size = W9.heap.size) := by omega
    have x5_lt_x6 := x5.lt
    have x5_ne_x6 : ¬ (W11.heap.size = W13.heap.size) := by omega
    have x5_en_x6 : ¬ (W13.heap.size = W11.heap.size) := by omega
    replace FX := FX.up ((Up.refl W13).alloc (.cells #[.bool (Wd.ngb T.num), .slice Ao no co, .slice Aod nod cod] 61))
    replace FY := FY.up ((Up.refl W13).alloc (.cells #[.bool (Wd.ngb T.num), .slice Ao no co, .slice Aod nod cod] 61))
    replace MQ := MQ.up ((Up.refl W13).alloc (.cells #[.bool (Wd.ngb T.num), .slice Ao no co, .slice Aod nod cod] 61))
    replace NQ := NQ.up ((Up.refl W13).alloc (.cells #[.bool (Wd.ngb T.num), .slice Ao no co, .slice Aod nod cod] 61))
    replace p := p.up ((Up.refl W13).alloc (.cells #[.bool (Wd.ngb T.num), .slice Ao no co, .slice Aod nod cod] 61))
    replace pd := pd.up ((Up.refl W13).alloc (.cells #[.bool (Wd.ngb T.num), .slice Ao no co, .slice Aod nod cod] 61))
    replace o := o.up ((Up.refl W13).alloc (.cells #[.bool (Wd.ngb T.num), .slice Ao no co, .slice Aod nod cod] 61))
    replace od := od.up ((Up.refl W13).alloc (.cells #[.bool (Wd.ngb T.num), .slice Ao no co, .slice Aod nod cod] 61))
    replace b0 := b0.up ((Up.refl W13).alloc (.cells #[.bool (Wd.ngb T.num), .slice Ao no co, .slice Aod nod cod] 61))
    replace b1 := b1.up ((Up.refl W13).alloc (.cells #[.bool (Wd.ngb T.num), .slice Ao no co, .slice Aod nod cod] 61))
    replace x1 := x1.up ((Up.refl W13).alloc (.cells #[.bool (Wd.ngb T.num), .slice Ao no co, .slice Aod nod cod] 61))
    replace x2 := x2.up ((Up.refl W13).alloc (.cells #[.bool (Wd.ngb T.num), .slice Ao no co, .slice Aod nod cod] 61))
    replace x3 := x3.up ((Up.refl W13).alloc (.cells #[.bool (Wd.ngb T.num), .slice Ao no co, .slice Aod nod cod] 61))
    replace x4 := x4.up ((Up.refl W13).alloc (.cells #[.bool (Wd.ngb T.num), .slice Ao no co, .slice Aod nod cod] 61))
    replace x5 := x5.up ((Up.refl W13).alloc (.cells #[.bool (Wd.ngb T.num), .slice Ao no co, .slice Aod nod cod] 61))
    replace UP := UP.trans ((Up.refl W13).alloc (.cells #[.bool (Wd.ngb T.num), .slice Ao no co, .slice Aod nod cod] 61))
    replace b0_0 := b0.cell (i := 0) rfl
    replace b0_1 := b0.cell (i := 1) rfl
    replace b0_2 := b0.cell (i := 2) rfl
    replace b1_0 := b1.cell (i := 0) rfl
    replace b1_1 := b1.cell (i := 1) rfl
    replace b1_2 := b1.cell (i := 2) rfl
    replace x1_0 := x1.cell (i := 0) rfl
    replace x1_1 := x1.cell (i := 1) rfl
    replace x1_2 := x1.cell (i := 2) rfl
    replace x2_0 := x2.cell (i := 0) rfl
    replace x2_1 := x2.cell (i := 1) rfl
    replace x2_2 := x2.cell (i := 2) rfl
    replace x3_0 := x3.cell (i := 0) rfl
    replace x3_1 := x3.cell (i := 1) rfl
    replace x3_2 := x3.cell (i := 2) rfl
    replace x4_0 := x4.cell (i := 0) rfl
    replace x4_1 := x4.cell (i := 1) rfl
    replace x4_2 := x4.cell (i := 2) rfl
    replace x5_0 := x5.cell (i := 0) rfl
    replace x5_1 := x5.cell (i := 1) rfl
    replace x5_2 := x5.cell (i := 2) rfl
    generalize (W13.alloc (.cells #[.bool (Wd.ngb T.num), .slice Ao no co, .slice Aod nod cod] 61)) = W14 at *
    replace b0_0 := b0.cell (i := 0) rfl
    replace b0_1 := b0.cell (i := 1) rfl
    replace b0_2 := b0.cell (i := 2) rfl
    replace b1_0 := b1.cell (i := 0) rfl
    replace b1_1 := b1.cell (i := 1) rfl
    replace b1_2 := b1.cell (i := 2) rfl
    replace x1_0 := x1.cell (i := 0) rfl
    replace x1_1 := x1.cell (i := 1) rfl
    replace x1_2 := x1.cell (i := 2) rfl
    replace x2_0 := x2.cell (i := 0) rfl
    replace x2_1 := x2.cell (i := 1) rfl
    replace x2_2 := x2.cell (i := 2) rfl
    replace x3_0 := x3.cell (i := 0) rfl
    replace x3_1 := x3.cell (i := 1) rfl
    replace x3_2 := x3.cell (i := 2) rfl
    replace x4_0 := x4.cell (i := 0) rfl
    replace x4_1 := x4.cell (i := 1) rfl
    replace x4_2 := x4.cell (i := 2) rfl
    replace x5_0 := x5.cell (i := 0) rfl
    replace x5_1 := x5.cell (i := 1) rfl
    replace x5_2 := x5.cell (i := 2) rfl
    have x6_0 := x6.cell (i := 0) rfl
    have x6_1 := x6.cell (i := 1) rfl
    have x6_2 := x6.cell (i := 2) rfl
    have x6_f0 := x6.free 0
    have x6_f1 := x6.free 1
    have x6_f2 := x6.free 2
    ((with_reducible refine (ref9_zero NQ).mono ?_))
    rintro e W15 ⟨rfl, u15⟩
    replace FX := FX.up u15
    replace FY := FY.up u15
    replace MQ := MQ.up u15
    replace NQ := NQ.up u15
    replace p := p.up u15
    replace pd := pd.up u15
    replace o := o.up u15
    replace od := od.up u15
    replace b0 := b0.up u15
    replace b1 := b1.up u15
    replace x1 := x1.up u15
    replace x2 := x2.up u15
    replace x3 := x3.up u15
    replace x4 := x4.up u15
    replace x5 := x5.up u15
    replace x6 := x6.up u15
    replace UP := UP.trans u15
    replace b0_0 := b0.cell (i := 0) rfl
    replace b0_1 := b0.cell (i := 1) rfl
    replace b0_2 := b0.cell (i := 2) rfl
    replace b1_0 := b1.cell (i := 0) rfl
    replace b1_1 := b1.cell (i := 1) rfl
    replace b1_2 := b1.cell (i := 2) rfl
    replace x1_0 := x1.cell (i := 0) rfl
    replace x1_1 := x1.cell (i := 1) rfl
    replace x1_2 := x1.cell (i := 2) rfl
    replace x2_0 := x2.cell (i := 0) rfl
    replace x2_1 := x2.cell (i := 1) rfl
    replace x2_2 := x2.cell (i := 2) rfl
    replace x3_0 := x3.cell (i := 0) rfl
    replace x3_1 := x3.cell (i := 1) rfl
    replace x3_2 := x3.cell (i := 2) rfl
    replace x4_0 := x4.cell (i := 0) rfl
    replace x4_1 := x4.cell (i := 1) rfl
    replace x4_2 := x4.cell (i := 2) rfl
    replace x5_0 := x5.cell (i := 0) rfl
    replace x5_1 := x5.cell (i := 1) rfl
    replace x5_2 := x5.cell (i := 2) rfl
    replace x6_0 := x6.cell (i := 0) rfl
    replace x6_1 := x6.cell (i := 1) rfl
    replace x6_2 := x6.cell (i := 2) rfl
    replace x6_f0 := x6.free 0
    replace x6_f1 := x6.free 1
    replace x6_f2 := x6.free 2
    clear u15
    rw [HZ.out]
    go_wp2_with fail
    replace FX := FX.up (Up.refl W15).drew
    replace FY := FY.up (Up.refl W15).drew
    replace MQ := MQ.up (Up.refl W15).drew
    replace NQ := NQ.up (Up.refl W15).drew
    replace p := p.up (Up.refl W15).drew
    replace pd := pd.up (Up.refl W15).drew
    replace o := o.up (Up.refl W15).drew
    replace od := od.up (Up.refl W15).drew
    replace b0 := b0.up (Up.refl W15).drew
    replace b1 := b1.up (Up.refl W15).drew
    replace x1 := x1.up (Up.refl W15).drew
    replace x2 := x2.up (Up.refl W15).drew
    replace x3 := x3.up (Up.refl W15).drew
    replace x4 := x4.up (Up.refl W15).drew
    replace x5 := x5.up (Up.refl W15).drew
    replace x6 := x6.up (Up.refl W15).drew
    replace UP := UP.trans (Up.refl W15).drew
    replace b0_0 := b0.cell (i := 0) rfl
    replace b0_1 := b0.cell (i := 1) rfl
    replace b0_2 := b0.cell (i := 2) rfl
    replace b1_0 := b1.cell (i := 0) rfl
    replace b1_1 := b1.cell (i := 1) rfl
    replace b1_2 := b1.cell (i := 2) rfl
    replace x1_0 := x1.cell (i := 0) rfl
    replace x1_1 := x1.cell (i := 1) rfl
    replace x1_2 := x1.cell (i := 2) rfl
    replace x2_0 := x2.cell (i := 0) rfl
    replace x2_1 := x2.cell (i := 1) rfl
    replace x2_2 := x2.cell (i := 2) rfl
    replace x3_0 := x3.cell (i := 0) rfl
    replace x3_1 := x3.cell (i := 1) rfl
    replace x3_2 := x3.cell (i := 2) rfl
    replace x4_0 := x4.cell (i := 0) rfl
    replace x4_1 := x4.cell (i := 1) rfl
    replace x4_2 := x4.cell (i := 2) rfl
    replace x5_0 := x5.cell (i := 0) rfl
    replace x5_1 := x5.cell (i := 1) rfl
    replace x5_2 := x5.cell (i := 2) rfl
    replace x6_0 := x6.cell (i := 0) rfl
    replace x6_1 := x6.cell (i := 1) rfl
    replace x6_2 := x6.cell (i := 2) rfl
    replace x6_f0 := x6.free 0
    replace x6_f1 := x6.free 1
    replace x6_f2 := x6.free 2
    go_region_held3 (fun w' => Up w w' ∧ w'.cell? ⟨W3.heap.size, 0, none⟩ = some (.bool s) ∧ w'.cell? ⟨W3.heap.size, 1, none⟩ = some (.slice A l.length c) ∧ w'.cell? ⟨W3.heap.size, 2, none⟩ = some (.slice D m.length d) ∧ w'.cell? ⟨W7.heap.size, 0, none⟩ = some (.bool (Wd.ngb x.num)) ∧ w'.cell? ⟨W7.heap.size, 1, none⟩ = some (.slice Aa na ca) ∧ w'.cell? ⟨W7.heap.size, 2, none⟩ = some (.slice Aad nad cad) ∧ w'.cell? ⟨W9.heap.size, 0, none⟩ = some (.bool (Wd.ngb y.num)) ∧ w'.cell? ⟨W9.heap.size, 1, none⟩ = some (.slice Ab nb cb) ∧ w'.cell? ⟨W9.heap.size, 2, none⟩ = some (.slice Abd nbd cbd) ∧ w'.cell? ⟨W11.heap.size, 0, none⟩ = some (.bool (Wd.ngb T.num)) ∧ w'.cell? ⟨W11.heap.size, 1, none⟩ = some (.slice Ap np cp) ∧ w'.cell? ⟨W11.heap.size, 2, none⟩ = some (.slice Apd npd cpd) ∧ w'.cell? ⟨W13.heap.size, 0, none⟩ = some (.bool (Wd.ngb T.num)) ∧ w'.cell? ⟨W13.heap.size, 1, none⟩ = some (.slice Ao no co) ∧ w'.cell? ⟨W13.heap.size, 2, none⟩ = some (.slice Aod nod cod))
        (first | with_reducible exact ⟨UP, x1_0, x1_1, x1_2, x3_0, x3_1, x3_2, x4_0, x4_1, x4_2, x5_0, x5_1, x5_2, x6_0, x6_1, x6_2⟩ | with_reducible exact ⟨UP, x1_0, x1_1, x1_2, x3_0, x3_1, x3_2, x4_0, x4_1, x4_2, x5_0, x5_1, x5_2, x6_0, x6_1, x6_2⟩ | with_reducible exact ⟨(UP.alloc_drew _), (cell_alloc_drew x1_0), (cell_alloc_drew x1_1), (cell_alloc_drew x1_2), (cell_alloc_drew x3_0), (cell_alloc_drew x3_1), (cell_alloc_drew x3_2), (cell_alloc_drew x4_0), (cell_alloc_drew x4_1), (cell_alloc_drew x4_2), (cell_alloc_drew x5_0), (cell_alloc_drew x5_1), (cell_alloc_drew x5_2), (cell_alloc_drew x6_0), (cell_alloc_drew x6_1), (cell_alloc_drew x6_2)⟩ | with_reducible exact ⟨(UP.alloc2_drew _ _), (cell_alloc2_drew x1_0), (cell_alloc2_drew x1_1), (cell_alloc2_drew x1_2), (cell_alloc2_drew x3_0), (cell_alloc2_drew x3_1), (cell_alloc2_drew x3_2), (cell_alloc2_drew x4_0), (cell_alloc2_drew x4_1), (cell_alloc2_drew x4_2), (cell_alloc2_drew x5_0), (cell_alloc2_drew x5_1), (cell_alloc2_drew x5_2), (cell_alloc2_drew x6_0), (cell_alloc2_drew x6_1), (cell_alloc2_drew x6_2)⟩ | (simp only [← World.setCell_drew]; with_reducible exact ⟨UP, x1_0, x1_1, x1_2, x3_0, x3_1, x3_2, x4_0, x4_1, x4_2, x5_0, x5_1, x5_2, x6_0, x6_1, x6_2⟩) | go_keep)
        ((first
          | (go_at_call 40
             ((with_reducible refine (law_is9 (Qw.of p pd) (Qw.of o od) LT (by omega)).mono ?_))
             rintro e W16 ⟨rfl, u16⟩
             replace FX := FX.up u16
             replace FY := FY.up u16
             replace MQ := MQ.up u16
             replace NQ := NQ.up u16
             replace p := p.up u16
             replace pd := pd.up u16
             replace o := o.up u16
             replace od := od.up u16
             try (replace a1 := a1.up u16)
             try (replace a2 := a2.up u16)
             try (replace c1 := c1.up u16)
             try (replace c2 := c2.up u16)
             replace b0 := b0.up u16
             replace b1 := b1.up u16
             replace x1 := x1.up u16
             replace x2 := x2.up u16
             replace x3 := x3.up u16
             replace x4 := x4.up u16
             replace x5 := x5.up u16
             replace x6 := x6.up u16
             replace UP := UP.trans u16
             replace b0_0 := b0.cell (i := 0) rfl
             replace b0_1 := b0.cell (i := 1) rfl
             replace b0_2 := b0.cell (i := 2) rfl
             replace b1_0 := b1.cell (i := 0) rfl
             replace b1_1 := b1.cell (i := 1) rfl
             replace b1_2 := b1.cell (i := 2) rfl
             replace x1_0 := x1.cell (i := 0) rfl
             replace x1_1 := x1.cell (i := 1) rfl
             replace x1_2 := x1.cell (i := 2) rfl
             replace x2_0 := x2.cell (i := 0) rfl
             replace x2_1 := x2.cell (i := 1) rfl
             replace x2_2 := x2.cell (i := 2) rfl
             replace x3_0 := x3.cell (i := 0) rfl
             replace x3_1 := x3.cell (i := 1) rfl
             replace x3_2 := x3.cell (i := 2) rfl
             replace x4_0 := x4.cell (i := 0) rfl
             replace x4_1 := x4.cell (i := 1) rfl
             replace x4_2 := x4.cell (i := 2) rfl
             replace x5_0 := x5.cell (i := 0) rfl
             replace x5_1 := x5.cell (i := 1) rfl
             replace x5_2 := x5.cell (i := 2) rfl
             replace x6_0 := x6.cell (i := 0) rfl
             replace x6_1 := x6.cell (i := 1) rfl
             replace x6_2 := x6.cell (i := 2) rfl
             replace x6_f0 := x6.free 0
             replace x6_f1 := x6.free 1
             replace x6_f2 := x6.free 2
             clear u16)
          | (go_at_call 55
             ((with_reducible refine (ref9_zero NQ).mono ?_))
             rintro e W17 ⟨rfl, u17⟩
             replace FX := FX.up u17
             replace FY := FY.up u17
             replace MQ := MQ.up u17
             replace NQ := NQ.up u17
             replace p := p.up u17
             replace pd := pd.up u17
             replace o := o.up u17
             replace od := od.up u17
             try (replace a1 := a1.up u17)
             try (replace a2 := a2.up u17)
             try (replace c1 := c1.up u17)
             try (replace c2 := c2.up u17)
             replace b0 := b0.up u17
             replace b1 := b1.up u17
             replace x1 := x1.up u17
             replace x2 := x2.up u17
             replace x3 := x3.up u17
             replace x4 := x4.up u17
             replace x5 := x5.up u17
             replace x6 := x6.up u17
             replace UP := UP.trans u17
             replace b0_0 := b0.cell (i := 0) rfl
             replace b0_1 := b0.cell (i := 1) rfl
             replace b0_2 := b0.cell (i := 2) rfl
             replace b1_0 := b1.cell (i := 0) rfl
             replace b1_1 := b1.cell (i := 1) rfl
             replace b1_2 := b1.cell (i := 2) rfl
             replace x1_0 := x1.cell (i := 0) rfl
             replace x1_1 := x1.cell (i := 1) rfl
             replace x1_2 := x1.cell (i := 2) rfl
             replace x2_0 := x2.cell (i := 0) rfl
             replace x2_1 := x2.cell (i := 1) rfl
             replace x2_2 := x2.cell (i := 2) rfl
             replace x3_0 := x3.cell (i := 0) rfl
             replace x3_1 := x3.cell (i := 1) rfl
             replace x3_2 := x3.cell (i := 2) rfl
             replace x4_0 := x4.cell (i := 0) rfl
             replace x4_1 := x4.cell (i := 1) rfl
             replace x4_2 := x4.cell (i := 2) rfl
             replace x5_0 := x5.cell (i := 0) rfl
             replace x5_1 := x5.cell (i := 1) rfl
             replace x5_2 := x5.cell (i := 2) rfl
             replace x6_0 := x6.cell (i := 0) rfl
             replace x6_1 := x6.cell (i := 1) rfl
             replace x6_2 := x6.cell (i := 2) rfl
             replace x6_f0 := x6.free 0
             replace x6_f1 := x6.free 1
             replace x6_f2 := x6.free 2
             clear u17
             rw [HZ.out])
          | (go_at_call 56
             ((with_reducible refine (frac_neg FX (by omega)).mono ?_))
             rintro e W18 ⟨V18, rfl, a1, u18⟩
             replace FX := FX.up u18
             replace FY := FY.up u18
             replace MQ := MQ.up u18
             replace NQ := NQ.up u18
             replace p := p.up u18
             replace pd := pd.up u18
             replace o := o.up u18
             replace od := od.up u18
             try (replace a1 := a1.up u18)
             try (replace a2 := a2.up u18)
             try (replace c1 := c1.up u18)
             try (replace c2 := c2.up u18)
             replace b0 := b0.up u18
             replace b1 := b1.up u18
             replace x1 := x1.up u18
             replace x2 := x2.up u18
             replace x3 := x3.up u18
             replace x4 := x4.up u18
             replace x5 := x5.up u18
             replace x6 := x6.up u18
             replace UP := UP.trans u18
             replace b0_0 := b0.cell (i := 0) rfl
             replace b0_1 := b0.cell (i := 1) rfl
             replace b0_2 := b0.cell (i := 2) rfl
             replace b1_0 := b1.cell (i := 0) rfl
             replace b1_1 := b1.cell (i := 1) rfl
             replace b1_2 := b1.cell (i := 2) rfl
             replace x1_0 := x1.cell (i := 0) rfl
             replace x1_1 := x1.cell (i := 1) rfl
             replace x1_2 := x1.cell (i := 2) rfl
             replace x2_0 := x2.cell (i := 0) rfl
             replace x2_1 := x2.cell (i := 1) rfl
             replace x2_2 := x2.cell (i := 2) rfl
             replace x3_0 := x3.cell (i := 0) rfl
             replace x3_1 := x3.cell (i := 1) rfl
             replace x3_2 := x3.cell (i := 2) rfl
             replace x4_0 := x4.cell (i := 0) rfl
             replace x4_1 := x4.cell (i := 1) rfl
             replace x4_2 := x4.cell (i := 2) rfl
             replace x5_0 := x5.cell (i := 0) rfl
             replace x5_1 := x5.cell (i := 1) rfl
             replace x5_2 := x5.cell (i := 2) rfl
             replace x6_0 := x6.cell (i := 0) rfl
             replace x6_1 := x6.cell (i := 1) rfl
             replace x6_2 := x6.cell (i := 2) rfl
             replace x6_f0 := x6.free 0
             replace x6_f1 := x6.free 1
             replace x6_f2 := x6.free 2
             clear u18)
          | (go_at_call 57
             ((with_reducible refine (ref9_neg MQ LX (by omega)).mono ?_))
             rintro e W19 ⟨V19, rfl, a2, u19⟩
             replace FX := FX.up u19
             replace FY := FY.up u19
             replace MQ := MQ.up u19
             replace NQ := NQ.up u19
             replace p := p.up u19
             replace pd := pd.up u19
             replace o := o.up u19
             replace od := od.up u19
             try (replace a1 := a1.up u19)
             try (replace a2 := a2.up u19)
             try (replace c1 := c1.up u19)
             try (replace c2 := c2.up u19)
             replace b0 := b0.up u19
             replace b1 := b1.up u19
             replace x1 := x1.up u19
             replace x2 := x2.up u19
             replace x3 := x3.up u19
             replace x4 := x4.up u19
             replace x5 := x5.up u19
             replace x6 := x6.up u19
             replace UP := UP.trans u19
             replace b0_0 := b0.cell (i := 0) rfl
             replace b0_1 := b0.cell (i := 1) rfl
             replace b0_2 := b0.cell (i := 2) rfl
             replace b1_0 := b1.cell (i := 0) rfl
             replace b1_1 := b1.cell (i := 1) rfl
             replace b1_2 := b1.cell (i := 2) rfl
             replace x1_0 := x1.cell (i := 0) rfl
             replace x1_1 := x1.cell (i := 1) rfl
             replace x1_2 := x1.cell (i := 2) rfl
             replace x2_0 := x2.cell (i := 0) rfl
             replace x2_1 := x2.cell (i := 1) rfl
             replace x2_2 := x2.cell (i := 2) rfl
             replace x3_0 := x3.cell (i := 0) rfl
             replace x3_1 := x3.cell (i := 1) rfl
             replace x3_2 := x3.cell (i := 2) rfl
             replace x4_0 := x4.cell (i := 0) rfl
             replace x4_1 := x4.cell (i := 1) rfl
             replace x4_2 := x4.cell (i := 2) rfl
             replace x5_0 := x5.cell (i := 0) rfl
             replace x5_1 := x5.cell (i := 1) rfl
             replace x5_2 := x5.cell (i := 2) rfl
             replace x6_0 := x6.cell (i := 0) rfl
             replace x6_1 := x6.cell (i := 1) rfl
             replace x6_2 := x6.cell (i := 2) rfl
             replace x6_f0 := x6.free 0
             replace x6_f1 := x6.free 1
             replace x6_f2 := x6.free 2
             clear u19)
          | (go_at_call 40
             ((with_reducible refine (law_is9 a1 a2 LN (by omega)).mono ?_))
             rintro e W20 ⟨rfl, u20⟩
             replace FX := FX.up u20
             replace FY := FY.up u20
             replace MQ := MQ.up u20
             replace NQ := NQ.up u20
             replace p := p.up u20
             replace pd := pd.up u20
             replace o := o.up u20
             replace od := od.up u20
             try (replace a1 := a1.up u20)
             try (replace a2 := a2.up u20)
             try (replace c1 := c1.up u20)
             try (replace c2 := c2.up u20)
             replace b0 := b0.up u20
             replace b1 := b1.up u20
             replace x1 := x1.up u20
             replace x2 := x2.up u20
             replace x3 := x3.up u20
             replace x4 := x4.up u20
             replace x5 := x5.up u20
             replace x6 := x6.up u20
             replace UP := UP.trans u20
             replace b0_0 := b0.cell (i := 0) rfl
             replace b0_1 := b0.cell (i := 1) rfl
             replace b0_2 := b0.cell (i := 2) rfl
             replace b1_0 := b1.cell (i := 0) rfl
             replace b1_1 := b1.cell (i := 1) rfl
             replace b1_2 := b1.cell (i := 2) rfl
             replace x1_0 := x1.cell (i := 0) rfl
             replace x1_1 := x1.cell (i := 1) rfl
             replace x1_2 := x1.cell (i := 2) rfl
             replace x2_0 := x2.cell (i := 0) rfl
             replace x2_1 := x2.cell (i := 1) rfl
             replace x2_2 := x2.cell (i := 2) rfl
             replace x3_0 := x3.cell (i := 0) rfl
             replace x3_1 := x3.cell (i := 1) rfl
             replace x3_2 := x3.cell (i := 2) rfl
             replace x4_0 := x4.cell (i := 0) rfl
             replace x4_1 := x4.cell (i := 1) rfl
             replace x4_2 := x4.cell (i := 2) rfl
             replace x5_0 := x5.cell (i := 0) rfl
             replace x5_1 := x5.cell (i := 1) rfl
             replace x5_2 := x5.cell (i := 2) rfl
             replace x6_0 := x6.cell (i := 0) rfl
             replace x6_1 := x6.cell (i := 1) rfl
             replace x6_2 := x6.cell (i := 2) rfl
             replace x6_f0 := x6.free 0
             replace x6_f1 := x6.free 1
             replace x6_f2 := x6.free 2
             clear u20)
          | (go_at_call 58
             ((with_reducible refine (frac_abs FX (by omega)).mono ?_))
             rintro e W21 ⟨V21, rfl, c1, u21⟩
             replace FX := FX.up u21
             replace FY := FY.up u21
             replace MQ := MQ.up u21
             replace NQ := NQ.up u21
             replace p := p.up u21
             replace pd := pd.up u21
             replace o := o.up u21
             replace od := od.up u21
             try (replace a1 := a1.up u21)
             try (replace a2 := a2.up u21)
             try (replace c1 := c1.up u21)
             try (replace c2 := c2.up u21)
             replace b0 := b0.up u21
             replace b1 := b1.up u21
             replace x1 := x1.up u21
             replace x2 := x2.up u21
             replace x3 := x3.up u21
             replace x4 := x4.up u21
             replace x5 := x5.up u21
             replace x6 := x6.up u21
             replace UP := UP.trans u21
             replace b0_0 := b0.cell (i := 0) rfl
             replace b0_1 := b0.cell (i := 1) rfl
             replace b0_2 := b0.cell (i := 2) rfl
             replace b1_0 := b1.cell (i := 0) rfl
             replace b1_1 := b1.cell (i := 1) rfl
             replace b1_2 := b1.cell (i := 2) rfl
             replace x1_0 := x1.cell (i := 0) rfl
             replace x1_1 := x1.cell (i := 1) rfl
             replace x1_2 := x1.cell (i := 2) rfl
             replace x2_0 := x2.cell (i := 0) rfl
             replace x2_1 := x2.cell (i := 1) rfl
             replace x2_2 := x2.cell (i := 2) rfl
             replace x3_0 := x3.cell (i := 0) rfl
             replace x3_1 := x3.cell (i := 1) rfl
             replace x3_2 := x3.cell (i := 2) rfl
             replace x4_0 := x4.cell (i := 0) rfl
             replace x4_1 := x4.cell (i := 1) rfl
             replace x4_2 := x4.cell (i := 2) rfl
             replace x5_0 := x5.cell (i := 0) rfl
             replace x5_1 := x5.cell (i := 1) rfl
             replace x5_2 := x5.cell (i := 2) rfl
             replace x6_0 := x6.cell (i := 0) rfl
             replace x6_1 := x6.cell (i := 1) rfl
             replace x6_2 := x6.cell (i := 2) rfl
             replace x6_f0 := x6.free 0
             replace x6_f1 := x6.free 1
             replace x6_f2 := x6.free 2
             clear u21)
          | (go_at_call 59
             ((with_reducible refine (ref9_abs MQ).mono ?_))
             rintro e W22 ⟨V22, rfl, c2, u22⟩
             replace FX := FX.up u22
             replace FY := FY.up u22
             replace MQ := MQ.up u22
             replace NQ := NQ.up u22
             replace p := p.up u22
             replace pd := pd.up u22
             replace o := o.up u22
             replace od := od.up u22
             try (replace a1 := a1.up u22)
             try (replace a2 := a2.up u22)
             try (replace c1 := c1.up u22)
             try (replace c2 := c2.up u22)
             replace b0 := b0.up u22
             replace b1 := b1.up u22
             replace x1 := x1.up u22
             replace x2 := x2.up u22
             replace x3 := x3.up u22
             replace x4 := x4.up u22
             replace x5 := x5.up u22
             replace x6 := x6.up u22
             replace UP := UP.trans u22
             replace b0_0 := b0.cell (i := 0) rfl
             replace b0_1 := b0.cell (i := 1) rfl
             replace b0_2 := b0.cell (i := 2) rfl
             replace b1_0 := b1.cell (i := 0) rfl
             replace b1_1 := b1.cell (i := 1) rfl
             replace b1_2 := b1.cell (i := 2) rfl
             replace x1_0 := x1.cell (i := 0) rfl
             replace x1_1 := x1.cell (i := 1) rfl
             replace x1_2 := x1.cell (i := 2) rfl
             replace x2_0 := x2.cell (i := 0) rfl
             replace x2_1 := x2.cell (i := 1) rfl
             replace x2_2 := x2.cell (i := 2) rfl
             replace x3_0 := x3.cell (i := 0) rfl
             replace x3_1 := x3.cell (i := 1) rfl
             replace x3_2 := x3.cell (i := 2) rfl
             replace x4_0 := x4.cell (i := 0) rfl
             replace x4_1 := x4.cell (i := 1) rfl
             replace x4_2 := x4.cell (i := 2) rfl
             replace x5_0 := x5.cell (i := 0) rfl
             replace x5_1 := x5.cell (i := 1) rfl
             replace x5_2 := x5.cell (i := 2) rfl
             replace x6_0 := x6.cell (i := 0) rfl
             replace x6_1 := x6.cell (i := 1) rfl
             replace x6_2 := x6.cell (i := 2) rfl
             replace x6_f0 := x6.free 0
             replace x6_f1 := x6.free 1
             replace x6_f2 := x6.free 2
             clear u22)
          | (go_at_call 40
             ((with_reducible refine (law_is9 c1 c2 LA (by omega)).mono ?_))
             rintro e W23 ⟨rfl, u23⟩
             replace FX := FX.up u23
             replace FY := FY.up u23
             replace MQ := MQ.up u23
             replace NQ := NQ.up u23
             replace p := p.up u23
             replace pd := pd.up u23
             replace o := o.up u23
             replace od := od.up u23
             try (replace a1 := a1.up u23)
             try (replace a2 := a2.up u23)
             try (replace c1 := c1.up u23)
             try (replace c2 := c2.up u23)
             replace b0 := b0.up u23
             replace b1 := b1.up u23
             replace x1 := x1.up u23
             replace x2 := x2.up u23
             replace x3 := x3.up u23
             replace x4 := x4.up u23
             replace x5 := x5.up u23
             replace x6 := x6.up u23
             replace UP := UP.trans u23
             replace b0_0 := b0.cell (i := 0) rfl
             replace b0_1 := b0.cell (i := 1) rfl
             replace b0_2 := b0.cell (i := 2) rfl
             replace b1_0 := b1.cell (i := 0) rfl
             replace b1_1 := b1.cell (i := 1) rfl
             replace b1_2 := b1.cell (i := 2) rfl
             replace x1_0 := x1.cell (i := 0) rfl
             replace x1_1 := x1.cell (i := 1) rfl
             replace x1_2 := x1.cell (i := 2) rfl
             replace x2_0 := x2.cell (i := 0) rfl
             replace x2_1 := x2.cell (i := 1) rfl
             replace x2_2 := x2.cell (i := 2) rfl
             replace x3_0 := x3.cell (i := 0) rfl
             replace x3_1 := x3.cell (i := 1) rfl
             replace x3_2 := x3.cell (i := 2) rfl
             replace x4_0 := x4.cell (i := 0) rfl
             replace x4_1 := x4.cell (i := 1) rfl
             replace x4_2 := x4.cell (i := 2) rfl
             replace x5_0 := x5.cell (i := 0) rfl
             replace x5_1 := x5.cell (i := 1) rfl
             replace x5_2 := x5.cell (i := 2) rfl
             replace x6_0 := x6.cell (i := 0) rfl
             replace x6_1 := x6.cell (i := 1) rfl
             replace x6_2 := x6.cell (i := 2) rfl
             replace x6_f0 := x6.free 0
             replace x6_f1 := x6.free 1
             replace x6_f2 := x6.free 2
             clear u23)))
    go_wp2_with fail
    replace FX := FX.up (Up.refl W23).drew
    replace FY := FY.up (Up.refl W23).drew
    replace MQ := MQ.up (Up.refl W23).drew
    replace NQ := NQ.up (Up.refl W23).drew
    replace p := p.up (Up.refl W23).drew
    replace pd := pd.up (Up.refl W23).drew
    replace o := o.up (Up.refl W23).drew
    replace od := od.up (Up.refl W23).drew
    replace a1 := a1.up (Up.refl W23).drew
    replace a2 := a2.up (Up.refl W23).drew
    replace c1 := c1.up (Up.refl W23).drew
    replace c2 := c2.up (Up.refl W23).drew
    replace b0 := b0.up (Up.refl W23).drew
    replace b1 := b1.up (Up.refl W23).drew
    replace x1 := x1.up (Up.refl W23).drew
    replace x2 := x2.up (Up.refl W23).drew
    replace x3 := x3.up (Up.refl W23).drew
    replace x4 := x4.up (Up.refl W23).drew
    replace x5 := x5.up (Up.refl W23).drew
    replace x6 := x6.up (Up.refl W23).drew
    replace UP := UP.trans (Up.refl W23).drew
    replace b0_0 := b0.cell (i := 0) rfl
    replace b0_1 := b0.cell (i := 1) rfl
    replace b0_2 := b0.cell (i := 2) rfl
    replace b1_0 := b1.cell (i := 0) rfl
    replace b1_1 := b1.cell (i := 1) rfl
    replace b1_2 := b1.cell (i := 2) rfl
    replace x1_0 := x1.cell (i := 0) rfl
    replace x1_1 := x1.cell (i := 1) rfl
    replace x1_2 := x1.cell (i := 2) rfl
    replace x2_0 := x2.cell (i := 0) rfl
    replace x2_1 := x2.cell (i := 1) rfl
    replace x2_2 := x2.cell (i := 2) rfl
    replace x3_0 := x3.cell (i := 0) rfl
    replace x3_1 := x3.cell (i := 1) rfl
    replace x3_2 := x3.cell (i := 2) rfl
    replace x4_0 := x4.cell (i := 0) rfl
    replace x4_1 := x4.cell (i := 1) rfl
    replace x4_2 := x4.cell (i := 2) rfl
    replace x5_0 := x5.cell (i := 0) rfl
    replace x5_1 := x5.cell (i := 1) rfl
    replace x5_2 := x5.cell (i := 2) rfl
    replace x6_0 := x6.cell (i := 0) rfl
    replace x6_1 := x6.cell (i := 1) rfl
    replace x6_2 := x6.cell (i := 2) rfl
    replace x6_f0 := x6.free 0
    replace x6_f1 := x6.free 1
    replace x6_f2 := x6.free 2
    go_region_held3 (fun w' => Up w w' ∧ w'.cell? ⟨W3.heap.size, 0, none⟩ = some (.bool s) ∧ w'.cell? ⟨W3.heap.size, 1, none⟩ = some (.slice A l.length c) ∧ w'.cell? ⟨W3.heap.size, 2, none⟩ = some (.slice D m.length d) ∧ w'.cell? ⟨W5.heap.size, 0, none⟩ = some (.bool s') ∧ w'.cell? ⟨W5.heap.size, 1, none⟩ = some (.slice A' l'.length c') ∧ w'.cell? ⟨W5.heap.size, 2, none⟩ = some (.slice D' m'.length d') ∧ w'.cell? ⟨W7.heap.size, 0, none⟩ = some (.bool (Wd.ngb x.num)) ∧ w'.cell? ⟨W7.heap.size, 1, none⟩ = some (.slice Aa na ca) ∧ w'.cell? ⟨W7.heap.size, 2, none⟩ = some (.slice Aad nad cad) ∧ w'.cell? ⟨W9.heap.size, 0, none⟩ = some (.bool (Wd.ngb y.num)) ∧ w'.cell? ⟨W9.heap.size, 1, none⟩ = some (.slice Ab nb cb) ∧ w'.cell? ⟨W9.heap.size, 2, none⟩ = some (.slice Abd nbd cbd))
        (first | with_reducible exact ⟨UP, x1_0, x1_1, x1_2, x2_0, x2_1, x2_2, x3_0, x3_1, x3_2, x4_0, x4_1, x4_2⟩ | with_reducible exact ⟨UP, x1_0, x1_1, x1_2, x2_0, x2_1, x2_2, x3_0, x3_1, x3_2, x4_0, x4_1, x4_2⟩ | with_reducible exact ⟨(UP.alloc_drew _), (cell_alloc_drew x1_0), (cell_alloc_drew x1_1), (cell_alloc_drew x1_2), (cell_alloc_drew x2_0), (cell_alloc_drew x2_1), (cell_alloc_drew x2_2), (cell_alloc_drew x3_0), (cell_alloc_drew x3_1), (cell_alloc_drew x3_2), (cell_alloc_drew x4_0), (cell_alloc_drew x4_1), (cell_alloc_drew x4_2)⟩ | with_reducible exact ⟨(UP.alloc2_drew _ _), (cell_alloc2_drew x1_0), (cell_alloc2_drew x1_1), (cell_alloc2_drew x1_2), (cell_alloc2_drew x2_0), (cell_alloc2_drew x2_1), (cell_alloc2_drew x2_2), (cell_alloc2_drew x3_0), (cell_alloc2_drew x3_1), (cell_alloc2_drew x3_2), (cell_alloc2_drew x4_0), (cell_alloc2_drew x4_1), (cell_alloc2_drew x4_2)⟩ | (simp only [← World.setCell_drew]; with_reducible exact ⟨UP, x1_0, x1_1, x1_2, x2_0, x2_1, x2_2, x3_0, x3_1, x3_2, x4_0, x4_1, x4_2⟩) | go_keep)
        ((first
          | (go_at_call 45
             ((with_reducible refine (frac_add FX FY (by omega) (by omega)).mono ?_))
             rintro e W24 ⟨V24, rfl, d1, u24⟩
             replace FX := FX.up u24
             replace FY := FY.up u24
             replace MQ := MQ.up u24
             replace NQ := NQ.up u24
             replace p := p.up u24
             replace pd := pd.up u24
             replace o := o.up u24
             replace od := od.up u24
             replace a1 := a1.up u24
             replace a2 := a2.up u24
             replace c1 := c1.up u24
             replace c2 := c2.up u24
             try (replace d1 := d1.up u24)
             try (replace d2 := d2.up u24)
             try (replace f1 := f1.up u24)
             try (replace f2 := f2.up u24)
             try (replace g1 := g1.up u24)
             try (replace g2 := g2.up u24)
             replace b0 := b0.up u24
             replace b1 := b1.up u24
             replace x1 := x1.up u24
             replace x2 := x2.up u24
             replace x3 := x3.up u24
             replace x4 := x4.up u24
             replace x5 := x5.up u24
             replace x6 := x6.up u24
             replace UP := UP.trans u24
             replace b0_0 := b0.cell (i := 0) rfl
             replace b0_1 := b0.cell (i := 1) rfl
             replace b0_2 := b0.cell (i := 2) rfl
             replace b1_0 := b1.cell (i := 0) rfl
             replace b1_1 := b1.cell (i := 1) rfl
             replace b1_2 := b1.cell (i := 2) rfl
             replace x1_0 := x1.cell (i := 0) rfl
             replace x1_1 := x1.cell (i := 1) rfl
             replace x1_2 := x1.cell (i := 2) rfl
             replace x2_0 := x2.cell (i := 0) rfl
             replace x2_1 := x2.cell (i := 1) rfl
             replace x2_2 := x2.cell (i := 2) rfl
             replace x3_0 := x3.cell (i := 0) rfl
             replace x3_1 := x3.cell (i := 1) rfl
             replace x3_2 := x3.cell (i := 2) rfl
             replace x4_0 := x4.cell (i := 0) rfl
             replace x4_1 := x4.cell (i := 1) rfl
             replace x4_2 := x4.cell (i := 2) rfl
             replace x5_0 := x5.cell (i := 0) rfl
             replace x5_1 := x5.cell (i := 1) rfl
             replace x5_2 := x5.cell (i := 2) rfl
             replace x6_0 := x6.cell (i := 0) rfl
             replace x6_1 := x6.cell (i := 1) rfl
             replace x6_2 := x6.cell (i := 2) rfl
             replace x6_f0 := x6.free 0
             replace x6_f1 := x6.free 1
             replace x6_f2 := x6.free 2
             clear u24)
          | (go_at_call 60
             ((with_reducible refine (ref9_add MQ NQ LX LY (by omega) (by omega)).mono ?_))
             rintro e W25 ⟨V25, rfl, d2, u25⟩
             replace FX := FX.up u25
             replace FY := FY.up u25
             replace MQ := MQ.up u25
             replace NQ := NQ.up u25
             replace p := p.up u25
             replace pd := pd.up u25
             replace o := o.up u25
             replace od := od.up u25
             replace a1 := a1.up u25
             replace a2 := a2.up u25
             replace c1 := c1.up u25
             replace c2 := c2.up u25
             try (replace d1 := d1.up u25)
             try (replace d2 := d2.up u25)
             try (replace f1 := f1.up u25)
             try (replace f2 := f2.up u25)
             try (replace g1 := g1.up u25)
             try (replace g2 := g2.up u25)
             replace b0 := b0.up u25
             replace b1 := b1.up u25
             replace x1 := x1.up u25
             replace x2 := x2.up u25
             replace x3 := x3.up u25
             replace x4 := x4.up u25
             replace x5 := x5.up u25
             replace x6 := x6.up u25
             replace UP := UP.trans u25
             replace b0_0 := b0.cell (i := 0) rfl
             replace b0_1 := b0.cell (i := 1) rfl
             replace b0_2 := b0.cell (i := 2) rfl
             replace b1_0 := b1.cell (i := 0) rfl
             replace b1_1 := b1.cell (i := 1) rfl
             replace b1_2 := b1.cell (i := 2) rfl
             replace x1_0 := x1.cell (i := 0) rfl
             replace x1_1 := x1.cell (i := 1) rfl
             replace x1_2 := x1.cell (i := 2) rfl
             replace x2_0 := x2.cell (i := 0) rfl
             replace x2_1 := x2.cell (i := 1) rfl
             replace x2_2 := x2.cell (i := 2) rfl
             replace x3_0 := x3.cell (i := 0) rfl
             replace x3_1 := x3.cell (i := 1) rfl
             replace x3_2 := x3.cell (i := 2) rfl
             replace x4_0 := x4.cell (i := 0) rfl
             replace x4_1 := x4.cell (i := 1) rfl
             replace x4_2 := x4.cell (i := 2) rfl
             replace x5_0 := x5.cell (i := 0) rfl
             replace x5_1 := x5.cell (i := 1) rfl
             replace x5_2 := x5.cell (i := 2) rfl
             replace x6_0 := x6.cell (i := 0) rfl
             replace x6_1 := x6.cell (i := 1) rfl
             replace x6_2 := x6.cell (i := 2) rfl
             replace x6_f0 := x6.free 0
             replace x6_f1 := x6.free 1
             replace x6_f2 := x6.free 2
             clear u25)
          | (go_at_call 40
             ((with_reducible refine (law_is9 d1 d2 LXY (by omega)).mono ?_))
             rintro e W26 ⟨rfl, u26⟩
             replace FX := FX.up u26
             replace FY := FY.up u26
             replace MQ := MQ.up u26
             replace NQ := NQ.up u26
             replace p := p.up u26
             replace pd := pd.up u26
             replace o := o.up u26
             replace od := od.up u26
             replace a1 := a1.up u26
             replace a2 := a2.up u26
             replace c1 := c1.up u26
             replace c2 := c2.up u26
             try (replace d1 := d1.up u26)
             try (replace d2 := d2.up u26)
             try (replace f1 := f1.up u26)
             try (replace f2 := f2.up u26)
             try (replace g1 := g1.up u26)
             try (replace g2 := g2.up u26)
             replace b0 := b0.up u26
             replace b1 := b1.up u26
             replace x1 := x1.up u26
             replace x2 := x2.up u26
             replace x3 := x3.up u26
             replace x4 := x4.up u26
             replace x5 := x5.up u26
             replace x6 := x6.up u26
             replace UP := UP.trans u26
             replace b0_0 := b0.cell (i := 0) rfl
             replace b0_1 := b0.cell (i := 1) rfl
             replace b0_2 := b0.cell (i := 2) rfl
             replace b1_0 := b1.cell (i := 0) rfl
             replace b1_1 := b1.cell (i := 1) rfl
             replace b1_2 := b1.cell (i := 2) rfl
             replace x1_0 := x1.cell (i := 0) rfl
             replace x1_1 := x1.cell (i := 1) rfl
             replace x1_2 := x1.cell (i := 2) rfl
             replace x2_0 := x2.cell (i := 0) rfl
             replace x2_1 := x2.cell (i := 1) rfl
             replace x2_2 := x2.cell (i := 2) rfl
             replace x3_0 := x3.cell (i := 0) rfl
             replace x3_1 := x3.cell (i := 1) rfl
             replace x3_2 := x3.cell (i := 2) rfl
             replace x4_0 := x4.cell (i := 0) rfl
             replace x4_1 := x4.cell (i := 1) rfl
             replace x4_2 := x4.cell (i := 2) rfl
             replace x5_0 := x5.cell (i := 0) rfl
             replace x5_1 := x5.cell (i := 1) rfl
             replace x5_2 := x5.cell (i := 2) rfl
             replace x6_0 := x6.cell (i := 0) rfl
             replace x6_1 := x6.cell (i := 1) rfl
             replace x6_2 := x6.cell (i := 2) rfl
             replace x6_f0 := x6.free 0
             replace x6_f1 := x6.free 1
             replace x6_f2 := x6.free 2
             clear u26)
          | (go_at_call 61
             ((with_reducible refine (frac_sub FX FY (by omega) (by omega)).mono ?_))
             rintro e W27 ⟨V27, rfl, f1, u27⟩
             replace FX := FX.up u27
             replace FY := FY.up u27
             replace MQ := MQ.up u27
             replace NQ := NQ.up u27
             replace p := p.up u27
             replace pd := pd.up u27
             replace o := o.up u27
             replace od := od.up u27
             replace a1 := a1.up u27
             replace a2 := a2.up u27
             replace c1 := c1.up u27
             replace c2 := c2.up u27
             try (replace d1 := d1.up u27)
             try (replace d2 := d2.up u27)
             try (replace f1 := f1.up u27)
             try (replace f2 := f2.up u27)
             try (replace g1 := g1.up u27)
             try (replace g2 := g2.up u27)
             replace b0 := b0.up u27
             replace b1 := b1.up u27
             replace x1 := x1.up u27
             replace x2 := x2.up u27
             replace x3 := x3.up u27
             replace x4 := x4.up u27
             replace x5 := x5.up u27
             replace x6 := x6.up u27
             replace UP := UP.trans u27
             replace b0_0 := b0.cell (i := 0) rfl
             replace b0_1 := b0.cell (i := 1) rfl
             replace b0_2 := b0.cell (i := 2) rfl
             replace b1_0 := b1.cell (i := 0) rfl
             replace b1_1 := b1.cell (i := 1) rfl
             replace b1_2 := b1.cell (i := 2) rfl
             replace x1_0 := x1.cell (i := 0) rfl
             replace x1_1 := x1.cell (i := 1) rfl
             replace x1_2 := x1.cell (i := 2) rfl
             replace x2_0 := x2.cell (i := 0) rfl
             replace x2_1 := x2.cell (i := 1) rfl
             replace x2_2 := x2.cell (i := 2) rfl
             replace x3_0 := x3.cell (i := 0) rfl
             replace x3_1 := x3.cell (i := 1) rfl
             replace x3_2 := x3.cell (i := 2) rfl
             replace x4_0 := x4.cell (i := 0) rfl
             replace x4_1 := x4.cell (i := 1) rfl
             replace x4_2 := x4.cell (i := 2) rfl
             replace x5_0 := x5.cell (i := 0) rfl
             replace x5_1 := x5.cell (i := 1) rfl
             replace x5_2 := x5.cell (i := 2) rfl
             replace x6_0 := x6.cell (i := 0) rfl
             replace x6_1 := x6.cell (i := 1) rfl
             replace x6_2 := x6.cell (i := 2) rfl
             replace x6_f0 := x6.free 0
             replace x6_f1 := x6.free 1
             replace x6_f2 := x6.free 2
             clear u27)
          | (go_at_call 62
             ((with_reducible refine (ref9_sub MQ NQ LX LY (by omega) (by omega)).mono ?_))
             rintro e W28 ⟨V28, rfl, f2, u28⟩
             replace FX := FX.up u28
             replace FY := FY.up u28
             replace MQ := MQ.up u28
             replace NQ := NQ.up u28
             replace p := p.up u28
             replace pd := pd.up u28
             replace o := o.up u28
             replace od := od.up u28
             replace a1 := a1.up u28
             replace a2 := a2.up u28
             replace c1 := c1.up u28
             replace c2 := c2.up u28
             try (replace d1 := d1.up u28)
             try (replace d2 := d2.up u28)
             try (replace f1 := f1.up u28)
             try (replace f2 := f2.up u28)
             try (replace g1 := g1.up u28)
             try (replace g2 := g2.up u28)
             replace b0 := b0.up u28
             replace b1 := b1.up u28
             replace x1 := x1.up u28
             replace x2 := x2.up u28
             replace x3 := x3.up u28
             replace x4 := x4.up u28
             replace x5 := x5.up u28
             replace x6 := x6.up u28
             replace UP := UP.trans u28
             replace b0_0 := b0.cell (i := 0) rfl
             replace b0_1 := b0.cell (i := 1) rfl
             replace b0_2 := b0.cell (i := 2) rfl
             replace b1_0 := b1.cell (i := 0) rfl
             replace b1_1 := b1.cell (i := 1) rfl
             replace b1_2 := b1.cell (i := 2) rfl
             replace x1_0 := x1.cell (i := 0) rfl
             replace x1_1 := x1.cell (i := 1) rfl
             replace x1_2 := x1.cell (i := 2) rfl
             replace x2_0 := x2.cell (i := 0) rfl
             replace x2_1 := x2.cell (i := 1) rfl
             replace x2_2 := x2.cell (i := 2) rfl
             replace x3_0 := x3.cell (i := 0) rfl
             replace x3_1 := x3.cell (i := 1) rfl
             replace x3_2 := x3.cell (i := 2) rfl
             replace x4_0 := x4.cell (i := 0) rfl
             replace x4_1 := x4.cell (i := 1) rfl
             replace x4_2 := x4.cell (i := 2) rfl
             replace x5_0 := x5.cell (i := 0) rfl
             replace x5_1 := x5.cell (i := 1) rfl
             replace x5_2 := x5.cell (i := 2) rfl
             replace x6_0 := x6.cell (i := 0) rfl
             replace x6_1 := x6.cell (i := 1) rfl
             replace x6_2 := x6.cell (i := 2) rfl
             replace x6_f0 := x6.free 0
             replace x6_f1 := x6.free 1
             replace x6_f2 := x6.free 2
             clear u28)
          | (go_at_call 40
             ((with_reducible refine (law_is9 f1 f2 LXS (by omega)).mono ?_))
             rintro e W29 ⟨rfl, u29⟩
             replace FX := FX.up u29
             replace FY := FY.up u29
             replace MQ := MQ.up u29
             replace NQ := NQ.up u29
             replace p := p.up u29
             replace pd := pd.up u29
             replace o := o.up u29
             replace od := od.up u29
             replace a1 := a1.up u29
             replace a2 := a2.up u29
             replace c1 := c1.up u29
             replace c2 := c2.up u29
             try (replace d1 := d1.up u29)
             try (replace d2 := d2.up u29)
             try (replace f1 := f1.up u29)
             try (replace f2 := f2.up u29)
             try (replace g1 := g1.up u29)
             try (replace g2 := g2.up u29)
             replace b0 := b0.up u29
             replace b1 := b1.up u29
             replace x1 := x1.up u29
             replace x2 := x2.up u29
             replace x3 := x3.up u29
             replace x4 := x4.up u29
             replace x5 := x5.up u29
             replace x6 := x6.up u29
             replace UP := UP.trans u29
             replace b0_0 := b0.cell (i := 0) rfl
             replace b0_1 := b0.cell (i := 1) rfl
             replace b0_2 := b0.cell (i := 2) rfl
             replace b1_0 := b1.cell (i := 0) rfl
             replace b1_1 := b1.cell (i := 1) rfl
             replace b1_2 := b1.cell (i := 2) rfl
             replace x1_0 := x1.cell (i := 0) rfl
             replace x1_1 := x1.cell (i := 1) rfl
             replace x1_2 := x1.cell (i := 2) rfl
             replace x2_0 := x2.cell (i := 0) rfl
             replace x2_1 := x2.cell (i := 1) rfl
             replace x2_2 := x2.cell (i := 2) rfl
             replace x3_0 := x3.cell (i := 0) rfl
             replace x3_1 := x3.cell (i := 1) rfl
             replace x3_2 := x3.cell (i := 2) rfl
             replace x4_0 := x4.cell (i := 0) rfl
             replace x4_1 := x4.cell (i := 1) rfl
             replace x4_2 := x4.cell (i := 2) rfl
             replace x5_0 := x5.cell (i := 0) rfl
             replace x5_1 := x5.cell (i := 1) rfl
             replace x5_2 := x5.cell (i := 2) rfl
             replace x6_0 := x6.cell (i := 0) rfl
             replace x6_1 := x6.cell (i := 1) rfl
             replace x6_2 := x6.cell (i := 2) rfl
             replace x6_f0 := x6.free 0
             replace x6_f1 := x6.free 1
             replace x6_f2 := x6.free 2
             clear u29)
          | (go_at_call 43
             ((with_reducible refine (frac_mul FX FY (by omega) (by omega)).mono ?_))
             rintro e W30 ⟨V30, rfl, g1, u30⟩
             replace FX := FX.up u30
             replace FY := FY.up u30
             replace MQ := MQ.up u30
             replace NQ := NQ.up u30
             replace p := p.up u30
             replace pd := pd.up u30
             replace o := o.up u30
             replace od := od.up u30
             replace a1 := a1.up u30
             replace a2 := a2.up u30
             replace c1 := c1.up u30
             replace c2 := c2.up u30
             try (replace d1 := d1.up u30)
             try (replace d2 := d2.up u30)
             try (replace f1 := f1.up u30)
             try (replace f2 := f2.up u30)
             try (replace g1 := g1.up u30)
             try (replace g2 := g2.up u30)
             replace b0 := b0.up u30
             replace b1 := b1.up u30
             replace x1 := x1.up u30
             replace x2 := x2.up u30
             replace x3 := x3.up u30
             replace x4 := x4.up u30
             replace x5 := x5.up u30
             replace x6 := x6.up u30
             replace UP := UP.trans u30
             replace b0_0 := b0.cell (i := 0) rfl
             replace b0_1 := b0.cell (i := 1) rfl
             replace b0_2 := b0.cell (i := 2) rfl
             replace b1_0 := b1.cell (i := 0) rfl
             replace b1_1 := b1.cell (i := 1) rfl
             replace b1_2 := b1.cell (i := 2) rfl
             replace x1_0 := x1.cell (i := 0) rfl
             replace x1_1 := x1.cell (i := 1) rfl
             replace x1_2 := x1.cell (i := 2) rfl
             replace x2_0 := x2.cell (i := 0) rfl
             replace x2_1 := x2.cell (i := 1) rfl
             replace x2_2 := x2.cell (i := 2) rfl
             replace x3_0 := x3.cell (i := 0) rfl
             replace x3_1 := x3.cell (i := 1) rfl
             replace x3_2 := x3.cell (i := 2) rfl
             replace x4_0 := x4.cell (i := 0) rfl
             replace x4_1 := x4.cell (i := 1) rfl
             replace x4_2 := x4.cell (i := 2) rfl
             replace x5_0 := x5.cell (i := 0) rfl
             replace x5_1 := x5.cell (i := 1) rfl
             replace x5_2 := x5.cell (i := 2) rfl
             replace x6_0 := x6.cell (i := 0) rfl
             replace x6_1 := x6.cell (i := 1) rfl
             replace x6_2 := x6.cell (i := 2) rfl
             replace x6_f0 := x6.free 0
             replace x6_f1 := x6.free 1
             replace x6_f2 := x6.free 2
             clear u30)
          | (go_at_call 63
             ((with_reducible refine (ref9_mul MQ NQ LX LY (by omega) (by omega)).mono ?_))
             rintro e W31 ⟨V31, rfl, g2, u31⟩
             replace FX := FX.up u31
             replace FY := FY.up u31
             replace MQ := MQ.up u31
             replace NQ := NQ.up u31
             replace p := p.up u31
             replace pd := pd.up u31
             replace o := o.up u31
             replace od := od.up u31
             replace a1 := a1.up u31
             replace a2 := a2.up u31
             replace c1 := c1.up u31
             replace c2 := c2.up u31
             try (replace d1 := d1.up u31)
             try (replace d2 := d2.up u31)
             try (replace f1 := f1.up u31)
             try (replace f2 := f2.up u31)
             try (replace g1 := g1.up u31)
             try (replace g2 := g2.up u31)
             replace b0 := b0.up u31
             replace b1 := b1.up u31
             replace x1 := x1.up u31
             replace x2 := x2.up u31
             replace x3 := x3.up u31
             replace x4 := x4.up u31
             replace x5 := x5.up u31
             replace x6 := x6.up u31
             replace UP := UP.trans u31
             replace b0_0 := b0.cell (i := 0) rfl
             replace b0_1 := b0.cell (i := 1) rfl
             replace b0_2 := b0.cell (i := 2) rfl
             replace b1_0 := b1.cell (i := 0) rfl
             replace b1_1 := b1.cell (i := 1) rfl
             replace b1_2 := b1.cell (i := 2) rfl
             replace x1_0 := x1.cell (i := 0) rfl
             replace x1_1 := x1.cell (i := 1) rfl
             replace x1_2 := x1.cell (i := 2) rfl
             replace x2_0 := x2.cell (i := 0) rfl
             replace x2_1 := x2.cell (i := 1) rfl
             replace x2_2 := x2.cell (i := 2) rfl
             replace x3_0 := x3.cell (i := 0) rfl
             replace x3_1 := x3.cell (i := 1) rfl
             replace x3_2 := x3.cell (i := 2) rfl
             replace x4_0 := x4.cell (i := 0) rfl
             replace x4_1 := x4.cell (i := 1) rfl
             replace x4_2 := x4.cell (i := 2) rfl
             replace x5_0 := x5.cell (i := 0) rfl
             replace x5_1 := x5.cell (i := 1) rfl
             replace x5_2 := x5.cell (i := 2) rfl
             replace x6_0 := x6.cell (i := 0) rfl
             replace x6_1 := x6.cell (i := 1) rfl
             replace x6_2 := x6.cell (i := 2) rfl
             replace x6_f0 := x6.free 0
             replace x6_f1 := x6.free 1
             replace x6_f2 := x6.free 2
             clear u31)
          | (go_at_call 40
             ((with_reducible refine (law_is9 g1 g2 LXM (by omega)).mono ?_))
             rintro e W32 ⟨rfl, u32⟩
             replace FX := FX.up u32
             replace FY := FY.up u32
             replace MQ := MQ.up u32
             replace NQ := NQ.up u32
             replace p := p.up u32
             replace pd := pd.up u32
             replace o := o.up u32
             replace od := od.up u32
             replace a1 := a1.up u32
             replace a2 := a2.up u32
             replace c1 := c1.up u32
             replace c2 := c2.up u32
             try (replace d1 := d1.up u32)
             try (replace d2 := d2.up u32)
             try (replace f1 := f1.up u32)
             try (replace f2 := f2.up u32)
             try (replace g1 := g1.up u32)
             try (replace g2 := g2.up u32)
             replace b0 := b0.up u32
             replace b1 := b1.up u32
             replace x1 := x1.up u32
             replace x2 := x2.up u32
             replace x3 := x3.up u32
             replace x4 := x4.up u32
             replace x5 := x5.up u32
             replace x6 := x6.up u32
             replace UP := UP.trans u32
             replace b0_0 := b0.cell (i := 0) rfl
             replace b0_1 := b0.cell (i := 1) rfl
             replace b0_2 := b0.cell (i := 2) rfl
             replace b1_0 := b1.cell (i := 0) rfl
             replace b1_1 := b1.cell (i := 1) rfl
             replace b1_2 := b1.cell (i := 2) rfl
             replace x1_0 := x1.cell (i := 0) rfl
             replace x1_1 := x1.cell (i := 1) rfl
             replace x1_2 := x1.cell (i := 2) rfl
             replace x2_0 := x2.cell (i := 0) rfl
             replace x2_1 := x2.cell (i := 1) rfl
             replace x2_2 := x2.cell (i := 2) rfl
             replace x3_0 := x3.cell (i := 0) rfl
             replace x3_1 := x3.cell (i := 1) rfl
             replace x3_2 := x3.cell (i := 2) rfl
             replace x4_0 := x4.cell (i := 0) rfl
             replace x4_1 := x4.cell (i := 1) rfl
             replace x4_2 := x4.cell (i := 2) rfl
             replace x5_0 := x5.cell (i := 0) rfl
             replace x5_1 := x5.cell (i := 1) rfl
             replace x5_2 := x5.cell (i := 2) rfl
             replace x6_0 := x6.cell (i := 0) rfl
             replace x6_1 := x6.cell (i := 1) rfl
             replace x6_2 := x6.cell (i := 2) rfl
             replace x6_f0 := x6.free 0
             replace x6_f1 := x6.free 1
             replace x6_f2 := x6.free 2
             clear u32)
          | (go_at_call 35
             ((with_reducible refine (works9 _).mono ?_))
             rintro e W33 ⟨rfl, u33⟩
             replace FX := FX.up u33
             replace FY := FY.up u33
             replace MQ := MQ.up u33
             replace NQ := NQ.up u33
             replace p := p.up u33
             replace pd := pd.up u33
             replace o := o.up u33
             replace od := od.up u33
             replace a1 := a1.up u33
             replace a2 := a2.up u33
             replace c1 := c1.up u33
             replace c2 := c2.up u33
             try (replace d1 := d1.up u33)
             try (replace d2 := d2.up u33)
             try (replace f1 := f1.up u33)
             try (replace f2 := f2.up u33)
             try (replace g1 := g1.up u33)
             try (replace g2 := g2.up u33)
             replace b0 := b0.up u33
             replace b1 := b1.up u33
             replace x1 := x1.up u33
             replace x2 := x2.up u33
             replace x3 := x3.up u33
             replace x4 := x4.up u33
             replace x5 := x5.up u33
             replace x6 := x6.up u33
             replace UP := UP.trans u33
             replace b0_0 := b0.cell (i := 0) rfl
             replace b0_1 := b0.cell (i := 1) rfl
             replace b0_2 := b0.cell (i := 2) rfl
             replace b1_0 := b1.cell (i := 0) rfl
             replace b1_1 := b1.cell (i := 1) rfl
             replace b1_2 := b1.cell (i := 2) rfl
             replace x1_0 := x1.cell (i := 0) rfl
             replace x1_1 := x1.cell (i := 1) rfl
             replace x1_2 := x1.cell (i := 2) rfl
             replace x2_0 := x2.cell (i := 0) rfl
             replace x2_1 := x2.cell (i := 1) rfl
             replace x2_2 := x2.cell (i := 2) rfl
             replace x3_0 := x3.cell (i := 0) rfl
             replace x3_1 := x3.cell (i := 1) rfl
             replace x3_2 := x3.cell (i := 2) rfl
             replace x4_0 := x4.cell (i := 0) rfl
             replace x4_1 := x4.cell (i := 1) rfl
             replace x4_2 := x4.cell (i := 2) rfl
             replace x5_0 := x5.cell (i := 0) rfl
             replace x5_1 := x5.cell (i := 1) rfl
             replace x5_2 := x5.cell (i := 2) rfl
             replace x6_0 := x6.cell (i := 0) rfl
             replace x6_1 := x6.cell (i := 1) rfl
             replace x6_2 := x6.cell (i := 2) rfl
             replace x6_f0 := x6.free 0
             replace x6_f1 := x6.free 1
             replace x6_f2 := x6.free 2
             clear u33)))
    all_goals
      go_wp2
      go_ret
      exact ⟨rfl, UP⟩
  · have HOK : Hid ((!decide (y = 0)) = true) := Lib.hid (by simp [hy])
    have HZ : Hid (decide (y = 0) = false) := Lib.hid (decide_eq_false hy)
    obtain ⟨P0, HP0⟩ : ∃ P, Hid ((0 : Rat) = P) := ⟨_, Lib.hid rfl⟩
    clear hy
    have UP : Up w ((w.alloc (.cells #[.bool s, .slice A l.length c, .slice D m.length d] 61)).alloc (.cells #[.bool s', .slice A' l'.length c', .slice D' m'.length d'] 61)) := ((Up.refl w).alloc _).alloc _
    obtain ⟨b0, b1⟩ := bx_two 61 61 w [.bool s, .slice A l.length c, .slice D m.length d] [.bool s', .slice A' l'.length c', .slice D' m'.length d']
    go_enter Try.func10, Try.ntmps10
    go_wp2_with fail
    generalize ((w.alloc (.cells #[.bool s, .slice A l.length c, .slice D m.length d] 61)).alloc (.cells #[.bool s', .slice A' l'.length c', .slice D' m'.length d'] 61)) = W at *
    replace FX := FX.up UP
    replace FY := FY.up UP
    have b0_0 := b0.cell (i := 0) rfl
    have b0_1 := b0.cell (i := 1) rfl
    have b0_2 := b0.cell (i := 2) rfl
    have b1_0 := b1.cell (i := 0) rfl
    have b1_1 := b1.cell (i := 1) rfl
    have b1_2 := b1.cell (i := 2) rfl
    go_wp2_with fail
    ((with_reducible refine (ref_long9_no l1 l2 (by omega)).mono ?_))
    rintro e W1 ⟨rfl, u1⟩
    replace FX := FX.up u1
    replace FY := FY.up u1
    replace b0 := b0.up u1
    replace b1 := b1.up u1
    replace UP := UP.trans u1
    replace b0_0 := b0.cell (i := 0) rfl
    replace b0_1 := b0.cell (i := 1) rfl
    replace b0_2 := b0.cell (i := 2) rfl
    replace b1_0 := b1.cell (i := 0) rfl
    replace b1_1 := b1.cell (i := 1) rfl
    replace b1_2 := b1.cell (i := 2) rfl
    clear u1
    go_wp2_with fail
    ((with_reducible refine (ref_long9_no l3 l4 (by omega)).mono ?_))
    rintro e W2 ⟨rfl, u2⟩
    replace FX := FX.up u2
    replace FY := FY.up u2
    replace b0 := b0.up u2
    replace b1 := b1.up u2
    replace UP := UP.trans u2
    replace b0_0 := b0.cell (i := 0) rfl
    replace b0_1 := b0.cell (i := 1) rfl
    replace b0_2 := b0.cell (i := 2) rfl
    replace b1_0 := b1.cell (i := 0) rfl
    replace b1_1 := b1.cell (i := 1) rfl
    replace b1_2 := b1.cell (i := 2) rfl
    clear u2
    go_wp2_with fail
    ((with_reducible refine (law_to9 _ _ _ _ _ _ _ _).mono ?_))
    rintro e W3 ⟨rfl, u3⟩
    replace FX := FX.up u3
    replace FY := FY.up u3
    replace b0 := b0.up u3
    replace b1 := b1.up u3
    replace UP := UP.trans u3
    replace b0_0 := b0.cell (i := 0) rfl
    replace b0_1 := b0.cell (i := 1) rfl
    replace b0_2 := b0.cell (i := 2) rfl
    replace b1_0 := b1.cell (i := 0) rfl
    replace b1_1 := b1.cell (i := 1) rfl
    replace b1_2 := b1.cell (i := 2) rfl
    clear u3
    have b0_0a := fun O0 => (cell_alloc (o := O0) b0_0)
    have b0_1a := fun O0 => (cell_alloc (o := O0) b0_1)
    have b0_2a := fun O0 => (cell_alloc (o := O0) b0_2)
    have b1_0a := fun O0 => (cell_alloc (o := O0) b1_0)
    have b1_1a := fun O0 => (cell_alloc (o := O0) b1_1)
    have b1_2a := fun O0 => (cell_alloc (o := O0) b1_2)
    go_wp2_with fail
    clear b0_0a b0_1a b0_2a b1_0a b1_1a b1_2a
    have x1 := Bx.new 67 W3 [.bool s, .slice A l.length c, .slice D m.length d]
    have b0_lt_x1 := b0.lt
    have b1_lt_x1 := b1.lt
    replace FX := FX.up ((Up.refl W3).alloc (.cells #[.bool s, .slice A l.length c, .slice D m.length d] 67))
    replace FY := FY.up ((Up.refl W3).alloc (.cells #[.bool s, .slice A l.length c, .slice D m.length d] 67))
    replace b0 := b0.up ((Up.refl W3).alloc (.cells #[.bool s, .slice A l.length c, .slice D m.length d] 67))
    replace b1 := b1.up ((Up.refl W3).alloc (.cells #[.bool s, .slice A l.length c, .slice D m.length d] 67))
    replace UP := UP.trans ((Up.refl W3).alloc (.cells #[.bool s, .slice A l.length c, .slice D m.length d] 67))
    replace b0_0 := b0.cell (i := 0) rfl
    replace b0_1 := b0.cell (i := 1) rfl
    replace b0_2 := b0.cell (i := 2) rfl
    replace b1_0 := b1.cell (i := 0) rfl
    replace b1_1 := b1.cell (i := 1) rfl
    replace b1_2 := b1.cell (i := 2) rfl
    generalize (W3.alloc (.cells #[.bool s, .slice A l.length c, .slice D m.length d] 67)) = W4 at *
    replace b0_0 := b0.cell (i := 0) rfl
    replace b0_1 := b0.cell (i := 1) rfl
    replace b0_2 := b0.cell (i := 2) rfl
    replace b1_0 := b1.cell (i := 0) rfl
    replace b1_1 := b1.cell (i := 1) rfl
    replace b1_2 := b1.cell (i := 2) rfl
    have x1_0 := x1.cell (i := 0) rfl
    have x1_1 := x1.cell (i := 1) rfl
    have x1_2 := x1.cell (i := 2) rfl
    ((with_reducible refine (law_to9 _ _ _ _ _ _ _ _).mono ?_))
    rintro e W5 ⟨rfl, u5⟩
    replace FX := FX.up u5
    replace FY := FY.up u5
    replace b0 := b0.up u5
    replace b1 := b1.up u5
    replace x1 := x1.up u5
    replace UP := UP.trans u5
    replace b0_0 := b0.cell (i := 0) rfl
    replace b0_1 := b0.cell (i := 1) rfl
    replace b0_2 := b0.cell (i := 2) rfl
    replace b1_0 := b1.cell (i := 0) rfl
    replace b1_1 := b1.cell (i := 1) rfl
    replace b1_2 := b1.cell (i := 2) rfl
    replace x1_0 := x1.cell (i := 0) rfl
    replace x1_1 := x1.cell (i := 1) rfl
    replace x1_2 := x1.cell (i := 2) rfl
    clear u5
    have b0_0a := fun O0 => (cell_alloc (o := O0) b0_0)
    have b0_1a := fun O0 => (cell_alloc (o := O0) b0_1)
    have b0_2a := fun O0 => (cell_alloc (o := O0) b0_2)
    have b1_0a := fun O0 => (cell_alloc (o := O0) b1_0)
    have b1_1a := fun O0 => (cell_alloc (o := O0) b1_1)
    have b1_2a := fun O0 => (cell_alloc (o := O0) b1_2)
    have x1_0a := fun O0 => (cell_alloc (o := O0) x1_0)
    have x1_1a := fun O0 => (cell_alloc (o := O0) x1_1)
    have x1_2a := fun O0 => (cell_alloc (o := O0) x1_2)
    go_wp2_with fail
    clear b0_0a b0_1a b0_2a b1_0a b1_1a b1_2a x1_0a x1_1a x1_2a
    have x2 := Bx.new 67 W5 [.bool s', .slice A' l'.length c', .slice D' m'.length d']
    have b0_lt_x2 := b0.lt
    have b1_lt_x2 := b1.lt
    have x1_lt_x2 := x1.lt
    replace FX := FX.up ((Up.refl W5).alloc (.cells #[.bool s', .slice A' l'.length c', .slice D' m'.length d'] 67))
    replace FY := FY.up ((Up.refl W5).alloc (.cells #[.bool s', .slice A' l'.length c', .slice D' m'.length d'] 67))
    replace b0 := b0.up ((Up.refl W5).alloc (.cells #[.bool s', .slice A' l'.length c', .slice D' m'.length d'] 67))
    replace b1 := b1.up ((Up.refl W5).alloc (.cells #[.bool s', .slice A' l'.length c', .slice D' m'.length d'] 67))
    replace x1 := x1.up ((Up.refl W5).alloc (.cells #[.bool s', .slice A' l'.length c', .slice D' m'.length d'] 67))
    replace UP := UP.trans ((Up.refl W5).alloc (.cells #[.bool s', .slice A' l'.length c', .slice D' m'.length d'] 67))
    replace b0_0 := b0.cell (i := 0) rfl
    replace b0_1 := b0.cell (i := 1) rfl
    replace b0_2 := b0.cell (i := 2) rfl
    replace b1_0 := b1.cell (i := 0) rfl
    replace b1_1 := b1.cell (i := 1) rfl
    replace b1_2 := b1.cell (i := 2) rfl
    replace x1_0 := x1.cell (i := 0) rfl
    replace x1_1 := x1.cell (i := 1) rfl
    replace x1_2 := x1.cell (i := 2) rfl
    generalize (W5.alloc (.cells #[.bool s', .slice A' l'.length c', .slice D' m'.length d'] 67)) = W6 at *
    replace b0_0 := b0.cell (i := 0) rfl
    replace b0_1 := b0.cell (i := 1) rfl
    replace b0_2 := b0.cell (i := 2) rfl
    replace b1_0 := b1.cell (i := 0) rfl
    replace b1_1 := b1.cell (i := 1) rfl
    replace b1_2 := b1.cell (i := 2) rfl
    replace x1_0 := x1.cell (i := 0) rfl
    replace x1_1 := x1.cell (i := 1) rfl
    replace x1_2 := x1.cell (i := 2) rfl
    have x2_0 := x2.cell (i := 0) rfl
    have x2_1 := x2.cell (i := 1) rfl
    have x2_2 := x2.cell (i := 2) rfl
    ((with_reducible refine (ref9_norm FX (by omega)).mono ?_))
    rintro e W7 ⟨V7, rfl, a, u7⟩
    replace FX := FX.up u7
    replace FY := FY.up u7
    replace b0 := b0.up u7
    replace b1 := b1.up u7
    replace x1 := x1.up u7
    replace x2 := x2.up u7
    replace UP := UP.trans u7
    replace b0_0 := b0.cell (i := 0) rfl
    replace b0_1 := b0.cell (i := 1) rfl
    replace b0_2 := b0.cell (i := 2) rfl
    replace b1_0 := b1.cell (i := 0) rfl
    replace b1_1 := b1.cell (i := 1) rfl
    replace b1_2 := b1.cell (i := 2) rfl
    replace x1_0 := x1.cell (i := 0) rfl
    replace x1_1 := x1.cell (i := 1) rfl
    replace x1_2 := x1.cell (i := 2) rfl
    replace x2_0 := x2.cell (i := 0) rfl
    replace x2_1 := x2.cell (i := 1) rfl
    replace x2_2 := x2.cell (i := 2) rfl
    clear u7
    obtain ⟨Xa, Ya, rfl, a, ad⟩ := a
    obtain ⟨Aa, na, ca, rfl⟩ := a.shape
    obtain ⟨Aad, nad, cad, rfl⟩ := ad.shape
    have b0_0a := fun O0 => (cell_alloc (o := O0) b0_0)
    have b0_1a := fun O0 => (cell_alloc (o := O0) b0_1)
    have b0_2a := fun O0 => (cell_alloc (o := O0) b0_2)
    have b1_0a := fun O0 => (cell_alloc (o := O0) b1_0)
    have b1_1a := fun O0 => (cell_alloc (o := O0) b1_1)
    have b1_2a := fun O0 => (cell_alloc (o := O0) b1_2)
    have x1_0a := fun O0 => (cell_alloc (o := O0) x1_0)
    have x1_1a := fun O0 => (cell_alloc (o := O0) x1_1)
    have x1_2a := fun O0 => (cell_alloc (o := O0) x1_2)
    have x2_0a := fun O0 => (cell_alloc (o := O0) x2_0)
    have x2_1a := fun O0 => (cell_alloc (o := O0) x2_1)
    have x2_2a := fun O0 => (cell_alloc (o := O0) x2_2)
    go_wp2_with fail
    clear b0_0a b0_1a b0_2a b1_0a b1_1a b1_2a x1_0a x1_1a x1_2a x2_0a x2_1a x2_2a
    have x3 := Bx.new 61 W7 [.bool (Wd.ngb x.num), .slice Aa na ca, .slice Aad nad cad]
    have b0_lt_x3 := b0.lt
    have b1_lt_x3 := b1.lt
    have x1_lt_x3 := x1.lt
    have x2_lt_x3 := x2.lt
    replace FX := FX.up ((Up.refl W7).alloc (.cells #[.bool (Wd.ngb x.num), .slice Aa na ca, .slice Aad nad cad] 61))
    replace FY := FY.up ((Up.refl W7).alloc (.cells #[.bool (Wd.ngb x.num), .slice Aa na ca, .slice Aad nad cad] 61))
    replace a := a.up ((Up.refl W7).alloc (.cells #[.bool (Wd.ngb x.num), .slice Aa na ca, .slice Aad nad cad] 61))
    replace ad := ad.up ((Up.refl W7).alloc (.cells #[.bool (Wd.ngb x.num), .slice Aa na ca, .slice Aad nad cad] 61))
    replace b0 := b0.up ((Up.refl W7).alloc (.cells #[.bool (Wd.ngb x.num), .slice Aa na ca, .slice Aad nad cad] 61))
    replace b1 := b1.up ((Up.refl W7).alloc (.cells #[.bool (Wd.ngb x.num), .slice Aa na ca, .slice Aad nad cad] 61))
    replace x1 := x1.up ((Up.refl W7).alloc (.cells #[.bool (Wd.ngb x.num), .slice Aa na ca, .slice Aad nad cad] 61))
    replace x2 := x2.up ((Up.refl W7).alloc (.cells #[.bool (Wd.ngb x.num), .slice Aa na ca, .slice Aad nad cad] 61))
    replace UP := UP.trans ((Up.refl W7).alloc (.cells #[.bool (Wd.ngb x.num), .slice Aa na ca, .slice Aad nad cad] 61))
    replace b0_0 := b0.cell (i := 0) rfl
    replace b0_1 := b0.cell (i := 1) rfl
    replace b0_2 := b0.cell (i := 2) rfl
    replace b1_0 := b1.cell (i := 0) rfl
    replace b1_1 := b1.cell (i := 1) rfl
    replace b1_2 := b1.cell (i := 2) rfl
    replace x1_0 := x1.cell (i := 0) rfl
    replace x1_1 := x1.cell (i := 1) rfl
    replace x1_2 := x1.cell (i := 2) rfl
    replace x2_0 := x2.cell (i := 0) rfl
    replace x2_1 := x2.cell (i := 1) rfl
    replace x2_2 := x2.cell (i := 2) rfl
    generalize (W7.alloc (.cells #[.bool (Wd.ngb x.num), .slice Aa na ca, .slice Aad nad cad] 61)) = W8 at *
    replace b0_0 := b0.cell (i := 0) rfl
    replace b0_1 := b0.cell (i := 1) rfl
    replace b0_2 := b0.cell (i := 2) rfl
    replace b1_0 := b1.cell (i := 0) rfl
    replace b1_1 := b1.cell (i := 1) rfl
    replace b1_2 := b1.cell (i := 2) rfl
    replace x1_0 := x1.cell (i := 0) rfl
    replace x1_1 := x1.cell (i := 1) rfl
    replace x1_2 := x1.cell (i := 2) rfl
    replace x2_0 := x2.cell (i := 0) rfl
    replace x2_1 := x2.cell (i := 1) rfl
    replace x2_2 := x2.cell (i := 2) rfl
    have x3_0 := x3.cell (i := 0) rfl
    have x3_1 := x3.cell (i := 1) rfl
    have x3_2 := x3.cell (i := 2) rfl
    have MQ : Qw W8 (.agg #[.bool (Wd.ngb x.num), .slice Aa na ca, .slice Aad nad cad]) x := Qw.of a ad
    clear a ad
    ((with_reducible refine (ref9_norm FY (by omega)).mono ?_))
    rintro e W9 ⟨V9, rfl, b, u9⟩
    replace FX := FX.up u9
    replace FY := FY.up u9
    replace MQ := MQ.up u9
    replace b0 := b0.up u9
    replace b1 := b1.up u9
    replace x1 := x1.up u9
    replace x2 := x2.up u9
    replace x3 := x3.up u9
    replace UP := UP.trans u9
    replace b0_0 := b0.cell (i := 0) rfl
    replace b0_1 := b0.cell (i := 1) rfl
    replace b0_2 := b0.cell (i := 2) rfl
    replace b1_0 := b1.cell (i := 0) rfl
    replace b1_1 := b1.cell (i := 1) rfl
    replace b1_2 := b1.cell (i := 2) rfl
    replace x1_0 := x1.cell (i := 0) rfl
    replace x1_1 := x1.cell (i := 1) rfl
    replace x1_2 := x1.cell (i := 2) rfl
    replace x2_0 := x2.cell (i := 0) rfl
    replace x2_1 := x2.cell (i := 1) rfl
    replace x2_2 := x2.cell (i := 2) rfl
    replace x3_0 := x3.cell (i := 0) rfl
    replace x3_1 := x3.cell (i := 1) rfl
    replace x3_2 := x3.cell (i := 2) rfl
    clear u9
    obtain ⟨Xb, Yb, rfl, b, bd⟩ := b
    obtain ⟨Ab, nb, cb, rfl⟩ := b.shape
    obtain ⟨Abd, nbd, cbd, rfl⟩ := bd.shape
    have b0_0a := fun O0 => (cell_alloc (o := O0) b0_0)
    have b0_1a := fun O0 => (cell_alloc (o := O0) b0_1)
    have b0_2a := fun O0 => (cell_alloc (o := O0) b0_2)
    have b1_0a := fun O0 => (cell_alloc (o := O0) b1_0)
    have b1_1a := fun O0 => (cell_alloc (o := O0) b1_1)
    have b1_2a := fun O0 => (cell_alloc (o := O0) b1_2)
    have x1_0a := fun O0 => (cell_alloc (o := O0) x1_0)
    have x1_1a := fun O0 => (cell_alloc (o := O0) x1_1)
    have x1_2a := fun O0 => (cell_alloc (o := O0) x1_2)
    have x2_0a := fun O0 => (cell_alloc (o := O0) x2_0)
    have x2_1a := fun O0 => (cell_alloc (o := O0) x2_1)
    have x2_2a := fun O0 => (cell_alloc (o := O0) x2_2)
    have x3_0a := fun O0 => (cell_alloc (o := O0) x3_0)
    have x3_1a := fun O0 => (cell_alloc (o := O0) x3_1)
    have x3_2a := fun O0 => (cell_alloc (o := O0) x3_2)
    go_wp2_with fail
    clear b0_0a b0_1a b0_2a b1_0a b1_1a b1_2a x1_0a x1_1a x1_2a x2_0a x2_1a x2_2a x3_0a x3_1a x3_2a
    have x4 := Bx.new 61 W9 [.bool (Wd.ngb y.num), .slice Ab nb cb, .slice Abd nbd cbd]
    have b0_lt_x4 := b0.lt
    have b1_lt_x4 := b1.lt
    have x1_lt_x4 := x1.lt
    have x2_lt_x4 := x2.lt
    have x3_lt_x4 := x3.lt
    replace FX := FX.up ((Up.refl W9).alloc (.cells #[.bool (Wd.ngb y.num), .slice Ab nb cb, .slice Abd nbd cbd] 61))
    replace FY := FY.up ((Up.refl W9).alloc (.cells #[.bool (Wd.ngb y.num), .slice Ab nb cb, .slice Abd nbd cbd] 61))
    replace MQ := MQ.up ((Up.refl W9).alloc (.cells #[.bool (Wd.ngb y.num), .slice Ab nb cb, .slice Abd nbd cbd] 61))
    replace b := b.up ((Up.refl W9).alloc (.cells #[.bool (Wd.ngb y.num), .slice Ab nb cb, .slice Abd nbd cbd] 61))
    replace bd := bd.up ((Up.refl W9).alloc (.cells #[.bool (Wd.ngb y.num), .slice Ab nb cb, .slice Abd nbd cbd] 61))
    replace b0 := b0.up ((Up.refl W9).alloc (.cells #[.bool (Wd.ngb y.num), .slice Ab nb cb, .slice Abd nbd cbd] 61))
    replace b1 := b1.up ((Up.refl W9).alloc (.cells #[.bool (Wd.ngb y.num), .slice Ab nb cb, .slice Abd nbd cbd] 61))
    replace x1 := x1.up ((Up.refl W9).alloc (.cells #[.bool (Wd.ngb y.num), .slice Ab nb cb, .slice Abd nbd cbd] 61))
    replace x2 := x2.up ((Up.refl W9).alloc (.cells #[.bool (Wd.ngb y.num), .slice Ab nb cb, .slice Abd nbd cbd] 61))
    replace x3 := x3.up ((Up.refl W9).alloc (.cells #[.bool (Wd.ngb y.num), .slice Ab nb cb, .slice Abd nbd cbd] 61))
    replace UP := UP.trans ((Up.refl W9).alloc (.cells #[.bool (Wd.ngb y.num), .slice Ab nb cb, .slice Abd nbd cbd] 61))
    replace b0_0 := b0.cell (i := 0) rfl
    replace b0_1 := b0.cell (i := 1) rfl
    replace b0_2 := b0.cell (i := 2) rfl
    replace b1_0 := b1.cell (i := 0) rfl
    replace b1_1 := b1.cell (i := 1) rfl
    replace b1_2 := b1.cell (i := 2) rfl
    replace x1_0 := x1.cell (i := 0) rfl
    replace x1_1 := x1.cell (i := 1) rfl
    replace x1_2 := x1.cell (i := 2) rfl
    replace x2_0 := x2.cell (i := 0) rfl
    replace x2_1 := x2.cell (i := 1) rfl
    replace x2_2 := x2.cell (i := 2) rfl
    replace x3_0 := x3.cell (i := 0) rfl
    replace x3_1 := x3.cell (i := 1) rfl
    replace x3_2 := x3.cell (i := 2) rfl
    generalize (W9.alloc (.cells #[.bool (Wd.ngb y.num), .slice Ab nb cb, .slice Abd nbd cbd] 61)) = W10 at *
    replace b0_0 := b0.cell (i := 0) rfl
    replace b0_1 := b0.cell (i := 1) rfl
    replace b0_2 := b0.cell (i := 2) rfl
    replace b1_0 := b1.cell (i := 0) rfl
    replace b1_1 := b1.cell (i := 1) rfl
    replace b1_2 := b1.cell (i := 2) rfl
    replace x1_0 := x1.cell (i := 0) rfl
    replace x1_1 := x1.cell (i := 1) rfl
    replace x1_2 := x1.cell (i := 2) rfl
    replace x2_0 := x2.cell (i := 0) rfl
    replace x2_1 := x2.cell (i := 1) rfl
    replace x2_2 := x2.cell (i := 2) rfl
    replace x3_0 := x3.cell (i := 0) rfl
    replace x3_1 := x3.cell (i := 1) rfl
    replace x3_2 := x3.cell (i := 2) rfl
    have x4_0 := x4.cell (i := 0) rfl
    have x4_1 := x4.cell (i := 1) rfl
    have x4_2 := x4.cell (i := 2) rfl
    have NQ : Qw W10 (.agg #[.bool (Wd.ngb y.num), .slice Ab nb cb, .slice Abd nbd cbd]) y := Qw.of b bd
    clear b bd
    ((with_reducible refine (frac_quo FX FY (by omega) (by omega)).mono ?_))
    rintro e W11 ⟨V11, rfl, p, u11⟩
    replace FX := FX.up u11
    replace FY := FY.up u11
    replace MQ := MQ.up u11
    replace NQ := NQ.up u11
    replace b0 := b0.up u11
    replace b1 := b1.up u11
    replace x1 := x1.up u11
    replace x2 := x2.up u11
    replace x3 := x3.up u11
    replace x4 := x4.up u11
    replace UP := UP.trans u11
    replace b0_0 := b0.cell (i := 0) rfl
    replace b0_1 := b0.cell (i := 1) rfl
    replace b0_2 := b0.cell (i := 2) rfl
    replace b1_0 := b1.cell (i := 0) rfl
    replace b1_1 := b1.cell (i := 1) rfl
    replace b1_2 := b1.cell (i := 2) rfl
    replace x1_0 := x1.cell (i := 0) rfl
    replace x1_1 := x1.cell (i := 1) rfl
    replace x1_2 := x1.cell (i := 2) rfl
    replace x2_0 := x2.cell (i := 0) rfl
    replace x2_1 := x2.cell (i := 1) rfl
    replace x2_2 := x2.cell (i := 2) rfl
    replace x3_0 := x3.cell (i := 0) rfl
    replace x3_1 := x3.cell (i := 1) rfl
    replace x3_2 := x3.cell (i := 2) rfl
    replace x4_0 := x4.cell (i := 0) rfl
    replace x4_1 := x4.cell (i := 1) rfl
    replace x4_2 := x4.cell (i := 2) rfl
    clear u11
    rw [HOK.out]
    rw [HT.out] at p
    obtain ⟨Xp, Yp, rfl, p, pd⟩ := p
    obtain ⟨Ap, np, cp, rfl⟩ := p.shape
    obtain ⟨Apd, npd, cpd, rfl⟩ := pd.shape
    have b0_0a := fun O0 => (cell_alloc (o := O0) b0_0)
    have b0_1a := fun O0 => (cell_alloc (o := O0) b0_1)
    have b0_2a := fun O0 => (cell_alloc (o := O0) b0_2)
    have b1_0a := fun O0 => (cell_alloc (o := O0) b1_0)
    have b1_1a := fun O0 => (cell_alloc (o := O0) b1_1)
    have b1_2a := fun O0 => (cell_alloc (o := O0) b1_2)
    have x1_0a := fun O0 => (cell_alloc (o := O0) x1_0)
    have x1_1a := fun O0 => (cell_alloc (o := O0) x1_1)
    have x1_2a := fun O0 => (cell_alloc (o := O0) x1_2)
    have x2_0a := fun O0 => (cell_alloc (o := O0) x2_0)
    have x2_1a := fun O0 => (cell_alloc (o := O0) x2_1)
    have x2_2a := fun O0 => (cell_alloc (o := O0) x2_2)
    have x3_0a := fun O0 => (cell_alloc (o := O0) x3_0)
    have x3_1a := fun O0 => (cell_alloc (o := O0) x3_1)
    have x3_2a := fun O0 => (cell_alloc (o := O0) x3_2)
    have x4_0a := fun O0 => (cell_alloc (o := O0) x4_0)
    have x4_1a := fun O0 => (cell_alloc (o := O0) x4_1)
    have x4_2a := fun O0 => (cell_alloc (o := O0) x4_2)
    go_wp2_with fail
    clear b0_0a b0_1a b0_2a b1_0a b1_1a b1_2a x1_0a x1_1a x1_2a x2_0a x2_1a x2_2a x3_0a x3_1a x3_2a x4_0a x4_1a x4_2a
    have x5 := Bx.new 67 W11 [.bool (Wd.ngb T.num), .slice Ap np cp, .slice Apd npd cpd]
    have b0_lt_x5 := b0.lt
    have b1_lt_x5 := b1.lt
    have x1_lt_x5 := x1.lt
    have x2_lt_x5 := x2.lt
    have x3_lt_x5 := x3.lt
    have x4_lt_x5 := x4.lt
    replace FX := FX.up ((Up.refl W11).alloc (.cells #[.bool (Wd.ngb T.num), .slice Ap np cp, .slice Apd npd cpd] 67))
    replace FY := FY.up ((Up.refl W11).alloc (.cells #[.bool (Wd.ngb T.num), .slice Ap np cp, .slice Apd npd cpd] 67))
    replace MQ := MQ.up ((Up.refl W11).alloc (.cells #[.bool (Wd.ngb T.num), .slice Ap np cp, .slice Apd npd cpd] 67))
    replace NQ := NQ.up ((Up.refl W11).alloc (.cells #[.bool (Wd.ngb T.num), .slice Ap np cp, .slice Apd npd cpd] 67))
    replace p := p.up ((Up.refl W11).alloc (.cells #[.bool (Wd.ngb T.num), .slice Ap np cp, .slice Apd npd cpd] 67))
    replace pd := pd.up ((Up.refl W11).alloc (.cells #[.bool (Wd.ngb T.num), .slice Ap np cp, .slice Apd npd cpd] 67))
    replace b0 := b0.up ((Up.refl W11).alloc (.cells #[.bool (Wd.ngb T.num), .slice Ap np cp, .slice Apd npd cpd] 67))
    replace b1 := b1.up ((Up.refl W11).alloc (.cells #[.bool (Wd.ngb T.num), .slice Ap np cp, .slice Apd npd cpd] 67))
    replace x1 := x1.up ((Up.refl W11).alloc (.cells #[.bool (Wd.ngb T.num), .slice Ap np cp, .slice Apd npd cpd] 67))
    replace x2 := x2.up ((Up.refl W11).alloc (.cells #[.bool (Wd.ngb T.num), .slice Ap np cp, .slice Apd npd cpd] 67))
    replace x3 := x3.up ((Up.refl W11).alloc (.cells #[.bool (Wd.ngb T.num), .slice Ap np cp, .slice Apd npd cpd] 67))
    replace x4 := x4.up ((Up.refl W11).alloc (.cells #[.bool (Wd.ngb T.num), .slice Ap np cp, .slice Apd npd cpd] 67))
    replace UP := UP.trans ((Up.refl W11).alloc (.cells #[.bool (Wd.ngb T.num), .slice Ap np cp, .slice Apd npd cpd] 67))
    replace b0_0 := b0.cell (i := 0) rfl
    replace b0_1 := b0.cell (i := 1) rfl
    replace b0_2 := b0.cell (i := 2) rfl
    replace b1_0 := b1.cell (i := 0) rfl
    replace b1_1 := b1.cell (i := 1) rfl
    replace b1_2 := b1.cell (i := 2) rfl
    replace x1_0 := x1.cell (i := 0) rfl
    replace x1_1 := x1.cell (i := 1) rfl
    replace x1_2 := x1.cell (i := 2) rfl
    replace x2_0 := x2.cell (i := 0) rfl
    replace x2_1 := x2.cell (i := 1) rfl
    replace x2_2 := x2.cell (i := 2) rfl
    replace x3_0 := x3.cell (i := 0) rfl
    replace x3_1 := x3.cell (i := 1) rfl
    replace x3_2 := x3.cell (i := 2) rfl
    replace x4_0 := x4.cell (i := 0) rfl
    replace x4_1 := x4.cell (i := 1) rfl
    replace x4_2 := x4.cell (i := 2) rfl
    generalize (W11.alloc (.cells #[.bool (Wd.ngb T.num), .slice Ap np cp, .slice Apd npd cpd] 67)) = W12 at *
    replace b0_0 := b0.cell (i := 0) rfl
    replace b0_1 := b0.cell (i := 1) rfl
    replace b0_2 := b0.cell (i := 2) rfl
    replace b1_0 := b1.cell (i := 0) rfl
    replace b1_1 := b1.cell (i := 1) rfl
    replace b1_2 := b1.cell (i := 2) rfl
    replace x1_0 := x1.cell (i := 0) rfl
    replace x1_1 := x1.cell (i := 1) rfl
    replace x1_2 := x1.cell (i := 2) rfl
    replace x2_0 := x2.cell (i := 0) rfl
    replace x2_1 := x2.cell (i := 1) rfl
    replace x2_2 := x2.cell (i := 2) rfl
    replace x3_0 := x3.cell (i := 0) rfl
    replace x3_1 := x3.cell (i := 1) rfl
    replace x3_2 := x3.cell (i := 2) rfl
    replace x4_0 := x4.cell (i := 0) rfl
    replace x4_1 := x4.cell (i := 1) rfl
    replace x4_2 := x4.cell (i := 2) rfl
    have x5_0 := x5.cell (i := 0) rfl
    have x5_1 := x5.cell (i := 1) rfl
    have x5_2 := x5.cell (i := 2) rfl
    ((with_reducible refine (ref9_int0_ _).mono ?_))
    rintro e W13 ⟨V13, rfl, o, u13⟩
    replace FX := FX.up u13
    replace FY := FY.up u13
    replace MQ := MQ.up u13
    replace NQ := NQ.up u13
    replace p := p.up u13
    replace pd := pd.up u13
    replace b0 := b0.up u13
    replace b1 := b1.up u13
    replace x1 := x1.up u13
    replace x2 := x2.up u13
    replace x3 := x3.up u13
    replace x4 := x4.up u13
    replace x5 := x5.up u13
    replace UP := UP.trans u13
    replace b0_0 := b0.cell (i := 0) rfl
    replace b0_1 := b0.cell (i := 1) rfl
    replace b0_2 := b0.cell (i := 2) rfl
    replace b1_0 := b1.cell (i := 0) rfl
    replace b1_1 := b1.cell (i := 1) rfl
    replace b1_2 := b1.cell (i := 2) rfl
    replace x1_0 := x1.cell (i := 0) rfl
    replace x1_1 := x1.cell (i := 1) rfl
    replace x1_2 := x1.cell (i := 2) rfl
    replace x2_0 := x2.cell (i := 0) rfl
    replace x2_1 := x2.cell (i := 1) rfl
    replace x2_2 := x2.cell (i := 2) rfl
    replace x3_0 := x3.cell (i := 0) rfl
    replace x3_1 := x3.cell (i := 1) rfl
    replace x3_2 := x3.cell (i := 2) rfl
    replace x4_0 := x4.cell (i := 0) rfl
    replace x4_1 := x4.cell (i := 1) rfl
    replace x4_2 := x4.cell (i := 2) rfl
    replace x5_0 := x5.cell (i := 0) rfl
    replace x5_1 := x5.cell (i := 1) rfl
    replace x5_2 := x5.cell (i := 2) rfl
    clear u13
    rw [HP0.out] at o
    obtain ⟨Xo, Yo, rfl, o, od⟩ := o
    obtain ⟨Ao, no, co, rfl⟩ := o.shape
    obtain ⟨Aod, nod, cod, rfl⟩ := od.shape
    have b0_0a := fun O0 => (cell_alloc (o := O0) b0_0)
    have b0_1a := fun O0 => (cell_alloc (o := O0) b0_1)
    have b0_2a := fun O0 => (cell_alloc (o := O0) b0_2)
    have b1_0a := fun O0 => (cell_alloc (o := O0) b1_0)
    have b1_1a := fun O0 => (cell_alloc (o := O0) b1_1)
    have b1_2a := fun O0 => (cell_alloc (o := O0) b1_2)
    have x1_0a := fun O0 => (cell_alloc (o := O0) x1_0)
    have x1_1a := fun O0 => (cell_alloc (o := O0) x1_1)
    have x1_2a := fun O0 => (cell_alloc (o := O0) x1_2)
    have x2_0a := fun O0 => (cell_alloc (o := O0) x2_0)
    have x2_1a := fun O0 => (cell_alloc (o := O0) x2_1)
    have x2_2a := fun O0 => (cell_alloc (o := O0) x2_2)
    have x3_0a := fun O0 => (cell_alloc (o := O0) x3_0)
    have x3_1a := fun O0 => (cell_alloc (o := O0) x3_1)
    have x3_2a := fun O0 => (cell_alloc (o := O0) x3_2)
    have x4_0a := fun O0 => (cell_alloc (o := O0) x4_0)
    have x4_1a := fun O0 => (cell_alloc (o := O0) x4_1)
    have x4_2a := fun O0 => (cell_alloc (o := O0) x4_2)
    have x5_0a := fun O0 => (cell_alloc (o := O0) x5_0)
    have x5_1a := fun O0 => (cell_alloc (o := O0) x5_1)
    have x5_2a := fun O0 => (cell_alloc (o := O0) x5_2)
    go_wp2_with fail
    clear b0_0a b0_1a b0_2a b1_0a b1_1a b1_2a x1_0a x1_1a x1_2a x2_0a x2_1a x2_2a x3_0a x3_1a x3_2a x4_0a x4_1a x4_2a x5_0a x5_1a x5_2a
    have x6 := Bx.new 61 W13 [.bool (Wd.ngb P0.num), .slice Ao no co, .slice Aod nod cod]
    have b0_lt_x6 := b0.lt
    have b0_ne_x6 : ¬ (w.heap.size = W13.heap.size) := by omega
    have b0_en_x6 : ¬ (W13.heap.size = w.heap.size) := by omega
    have b1_lt_x6 := b1.lt
    have b1_ne_x6 : ¬ (w.heap.size + 1 = W13.heap.size) := by omega
    have b1_en_x6 : ¬ (W13.heap.size = w.heap.size + 1) := by omega
    have x1_lt_x6 := x1.lt
    have x1_ne_x6 : ¬ (W3.heap.size = W13.heap.size) := by omega
    have x1_en_x6 : ¬ (W13.heap.size = W3.heap.size) := by omega
    have x2_lt_x6 := x2.lt
    have x2_ne_x6 : ¬ (W5.heap.size = W13.heap.size) := by omega
    have x2_en_x6 : ¬ (W13.heap.size = W5.heap.size) := by omega
    have x3_lt_x6 := x3.lt
    have x3_ne_x6 : ¬ (W7.heap.size = W13.heap.size) := by omega
    have x3_en_x6 : ¬ (W13.heap.size = W7.heap.size) := by omega
    have x4_lt_x6 := x4.lt
    have x4_ne_x6 : ¬ (W9.heap.size = W13.heap.size) := by omega
    have x4_en_x6 : ¬ (W13.heap.size = W9.heap.size) := by omega
    have x5_lt_x6 := x5.lt
    have x5_ne_x6 : ¬ (W11.heap.size = W13.heap.size) := by omega
    have x5_en_x6 : ¬ (W13.heap.size = W11.heap.size) := by omega
    replace FX := FX.up ((Up.refl W13).alloc (.cells #[.bool (Wd.ngb P0.num), .slice Ao no co, .slice Aod nod cod] 61))
    replace FY := FY.up ((Up.refl W13).alloc (.cells #[.bool (Wd.ngb P0.num), .slice Ao no co, .slice Aod nod cod] 61))
    replace MQ := MQ.up ((Up.refl W13).alloc (.cells #[.bool (Wd.ngb P0.num), .slice Ao no co, .slice Aod nod cod] 61))
    replace NQ := NQ.up ((Up.refl W13).alloc (.cells #[.bool (Wd.ngb P0.num), .slice Ao no co, .slice Aod nod cod] 61))
    replace p := p.up ((Up.refl W13).alloc (.cells #[.bool (Wd.ngb P0.num), .slice Ao no co, .slice Aod nod cod] 61))
    replace pd := pd.up ((Up.refl W13).alloc (.cells #[.bool (Wd.ngb P0.num), .slice Ao no co, .slice Aod nod cod] 61))
    replace o := o.up ((Up.refl W13).alloc (.cells #[.bool (Wd.ngb P0.num), .slice Ao no co, .slice Aod nod cod] 61))
    replace od := od.up ((Up.refl W13).alloc (.cells #[.bool (Wd.ngb P0.num), .slice Ao no co, .slice Aod nod cod] 61))
    replace b0 := b0.up ((Up.refl W13).alloc (.cells #[.bool (Wd.ngb P0.num), .slice Ao no co, .slice Aod nod cod] 61))
    replace b1 := b1.up ((Up.refl W13).alloc (.cells #[.bool (Wd.ngb P0.num), .slice Ao no co, .slice Aod nod cod] 61))
    replace x1 := x1.up ((Up.refl W13).alloc (.cells #[.bool (Wd.ngb P0.num), .slice Ao no co, .slice Aod nod cod] 61))
    replace x2 := x2.up ((Up.refl W13).alloc (.cells #[.bool (Wd.ngb P0.num), .slice Ao no co, .slice Aod nod cod] 61))
    replace x3 := x3.up ((Up.refl W13).alloc (.cells #[.bool (Wd.ngb P0.num), .slice Ao no co, .slice Aod nod cod] 61))
    replace x4 := x4.up ((Up.refl W13).alloc (.cells #[.bool (Wd.ngb P0.num), .slice Ao no co, .slice Aod nod cod] 61))
    replace x5 := x5.up ((Up.refl W13).alloc (.cells #[.bool (Wd.ngb P0.num), .slice Ao no co, .slice Aod nod cod] 61))
    replace UP := UP.trans ((Up.refl W13).alloc (.cells #[.bool (Wd.ngb P0.num), .slice Ao no co, .slice Aod nod cod] 61))
    replace b0_0 := b0.cell (i := 0) rfl
    replace b0_1 := b0.cell (i := 1) rfl
    replace b0_2 := b0.cell (i := 2) rfl
    replace b1_0 := b1.cell (i := 0) rfl
    replace b1_1 := b1.cell (i := 1) rfl
    replace b1_2 := b1.cell (i := 2) rfl
    replace x1_0 := x1.cell (i := 0) rfl
    replace x1_1 := x1.cell (i := 1) rfl
    replace x1_2 := x1.cell (i := 2) rfl
    replace x2_0 := x2.cell (i := 0) rfl
    replace x2_1 := x2.cell (i := 1) rfl
    replace x2_2 := x2.cell (i := 2) rfl
    replace x3_0 := x3.cell (i := 0) rfl
    replace x3_1 := x3.cell (i := 1) rfl
    replace x3_2 := x3.cell (i := 2) rfl
    replace x4_0 := x4.cell (i := 0) rfl
    replace x4_1 := x4.cell (i := 1) rfl
    replace x4_2 := x4.cell (i := 2) rfl
    replace x5_0 := x5.cell (i := 0) rfl
    replace x5_1 := x5.cell (i := 1) rfl
    replace x5_2 := x5.cell (i := 2) rfl
    generalize (W13.alloc (.cells #[.bool (Wd.ngb P0.num), .slice Ao no co, .slice Aod nod cod] 61)) = W14 at *
    replace b0_0 := b0.cell (i := 0) rfl
    replace b0_1 := b0.cell (i := 1) rfl
    replace b0_2 := b0.cell (i := 2) rfl
    replace b1_0 := b1.cell (i := 0) rfl
    replace b1_1 := b1.cell (i := 1) rfl
    replace b1_2 := b1.cell (i := 2) rfl
    replace x1_0 := x1.cell (i := 0) rfl
    replace x1_1 := x1.cell (i := 1) rfl
    replace x1_2 := x1.cell (i := 2) rfl
    replace x2_0 := x2.cell (i := 0) rfl
    replace x2_1 := x2.cell (i := 1) rfl
    replace x2_2 := x2.cell (i := 2) rfl
    replace x3_0 := x3.cell (i := 0) rfl
    replace x3_1 := x3.cell (i := 1) rfl
    replace x3_2 := x3.cell (i := 2) rfl
    replace x4_0 := x4.cell (i := 0) rfl
    replace x4_1 := x4.cell (i := 1) rfl
    replace x4_2 := x4.cell (i := 2) rfl
    replace x5_0 := x5.cell (i := 0) rfl
    replace x5_1 := x5.cell (i := 1) rfl
    replace x5_2 := x5.cell (i := 2) rfl
    have x6_0 := x6.cell (i := 0) rfl
    have x6_1 := x6.cell (i := 1) rfl
    have x6_2 := x6.cell (i := 2) rfl
    have x6_f0 := x6.free 0
    have x6_f1 := x6.free 1
    have x6_f2 := x6.free 2
    ((with_reducible refine (ref9_zero NQ).mono ?_))
    rintro e W15 ⟨rfl, u15⟩
    replace FX := FX.up u15
    replace FY := FY.up u15
    replace MQ := MQ.up u15
    replace NQ := NQ.up u15
    replace p := p.up u15
    replace pd := pd.up u15
    replace o := o.up u15
    replace od := od.up u15
    replace b0 := b0.up u15
    replace b1 := b1.up u15
    replace x1 := x1.up u15
    replace x2 := x2.up u15
    replace x3 := x3.up u15
    replace x4 := x4.up u15
    replace x5 := x5.up u15
    replace x6 := x6.up u15
    replace UP := UP.trans u15
    replace b0_0 := b0.cell (i := 0) rfl
    replace b0_1 := b0.cell (i := 1) rfl
    replace b0_2 := b0.cell (i := 2) rfl
    replace b1_0 := b1.cell (i := 0) rfl
    replace b1_1 := b1.cell (i := 1) rfl
    replace b1_2 := b1.cell (i := 2) rfl
    replace x1_0 := x1.cell (i := 0) rfl
    replace x1_1 := x1.cell (i := 1) rfl
    replace x1_2 := x1.cell (i := 2) rfl
    replace x2_0 := x2.cell (i := 0) rfl
    replace x2_1 := x2.cell (i := 1) rfl
    replace x2_2 := x2.cell (i := 2) rfl
    replace x3_0 := x3.cell (i := 0) rfl
    replace x3_1 := x3.cell (i := 1) rfl
    replace x3_2 := x3.cell (i := 2) rfl
    replace x4_0 := x4.cell (i := 0) rfl
    replace x4_1 := x4.cell (i := 1) rfl
    replace x4_2 := x4.cell (i := 2) rfl
    replace x5_0 := x5.cell (i := 0) rfl
    replace x5_1 := x5.cell (i := 1) rfl
    replace x5_2 := x5.cell (i := 2) rfl
    replace x6_0 := x6.cell (i := 0) rfl
    replace x6_1 := x6.cell (i := 1) rfl
    replace x6_2 := x6.cell (i := 2) rfl
    replace x6_f0 := x6.free 0
    replace x6_f1 := x6.free 1
    replace x6_f2 := x6.free 2
    clear u15
    rw [HZ.out]
    go_wp2_with fail
    ((with_reducible refine (ref9_quo MQ NQ LX LY (by omega) (by omega)).mono ?_))
    rintro e W16 ⟨V16, rfl, t, u16⟩
    replace FX := FX.up u16
    replace FY := FY.up u16
    replace MQ := MQ.up u16
    replace NQ := NQ.up u16
    replace p := p.up u16
    replace pd := pd.up u16
    replace o := o.up u16
    replace od := od.up u16
    replace b0 := b0.up u16
    replace b1 := b1.up u16
    replace x1 := x1.up u16
    replace x2 := x2.up u16
    replace x3 := x3.up u16
    replace x4 := x4.up u16
    replace x5 := x5.up u16
    replace x6 := x6.up u16
    replace UP := UP.trans u16
    replace b0_0 := b0.cell (i := 0) rfl
    replace b0_1 := b0.cell (i := 1) rfl
    replace b0_2 := b0.cell (i := 2) rfl
    replace b1_0 := b1.cell (i := 0) rfl
    replace b1_1 := b1.cell (i := 1) rfl
    replace b1_2 := b1.cell (i := 2) rfl
    replace x1_0 := x1.cell (i := 0) rfl
    replace x1_1 := x1.cell (i := 1) rfl
    replace x1_2 := x1.cell (i := 2) rfl
    replace x2_0 := x2.cell (i := 0) rfl
    replace x2_1 := x2.cell (i := 1) rfl
    replace x2_2 := x2.cell (i := 2) rfl
    replace x3_0 := x3.cell (i := 0) rfl
    replace x3_1 := x3.cell (i := 1) rfl
    replace x3_2 := x3.cell (i := 2) rfl
    replace x4_0 := x4.cell (i := 0) rfl
    replace x4_1 := x4.cell (i := 1) rfl
    replace x4_2 := x4.cell (i := 2) rfl
    replace x5_0 := x5.cell (i := 0) rfl
    replace x5_1 := x5.cell (i := 1) rfl
    replace x5_2 := x5.cell (i := 2) rfl
    replace x6_0 := x6.cell (i := 0) rfl
    replace x6_1 := x6.cell (i := 1) rfl
    replace x6_2 := x6.cell (i := 2) rfl
    replace x6_f0 := x6.free 0
    replace x6_f1 := x6.free 1
    replace x6_f2 := x6.free 2
    clear u16
    rw [HT.out] at t
    obtain ⟨Xt, Yt, rfl, t, td⟩ := t
    obtain ⟨At, nt, ct, rfl⟩ := t.shape
    obtain ⟨Atd, ntd, ctd, rfl⟩ := td.shape
    go_wp2_with fail
    have KW : Kw (W16) ((W16).setCell ⟨W13.heap.size, 0, none⟩ (.bool (Wd.ngb T.num))) := Kw.store (c := (.bool (Wd.ngb P0.num))) x6 rfl trivial _
    replace FX := FX.kw KW
    replace FY := FY.kw KW
    replace MQ := MQ.kw KW
    replace NQ := NQ.kw KW
    replace p := p.kw KW
    replace pd := pd.kw KW
    replace o := o.kw KW
    replace od := od.kw KW
    replace t := t.kw KW
    replace td := td.kw KW
    replace b0 := b0.far (p := ⟨W13.heap.size, 0, none⟩) (by dsimp only; omega) (.bool (Wd.ngb T.num))
    replace b1 := b1.far (p := ⟨W13.heap.size, 0, none⟩) (by dsimp only; omega) (.bool (Wd.ngb T.num))
    replace x1 := x1.far (p := ⟨W13.heap.size, 0, none⟩) (by dsimp only; omega) (.bool (Wd.ngb T.num))
    replace x2 := x2.far (p := ⟨W13.heap.size, 0, none⟩) (by dsimp only; omega) (.bool (Wd.ngb T.num))
    replace x3 := x3.far (p := ⟨W13.heap.size, 0, none⟩) (by dsimp only; omega) (.bool (Wd.ngb T.num))
    replace x4 := x4.far (p := ⟨W13.heap.size, 0, none⟩) (by dsimp only; omega) (.bool (Wd.ngb T.num))
    replace x5 := x5.far (p := ⟨W13.heap.size, 0, none⟩) (by dsimp only; omega) (.bool (Wd.ngb T.num))
    replace x6 : Bx 61 ((W16).setCell ⟨W13.heap.size, 0, none⟩ (.bool (Wd.ngb T.num))) (W13.heap.size) [.bool (Wd.ngb T.num), .slice Ao no co, .slice Aod nod cod] := x6.set 0 (.bool (Wd.ngb T.num))
    replace UP := UP.setCell (p := ⟨W13.heap.size, 0, none⟩) (by dsimp only; omega) (.bool (Wd.ngb T.num))
    have KW : Kw (((W16).setCell ⟨W13.heap.size, 0, none⟩ (.bool (Wd.ngb T.num)))) ((((W16).setCell ⟨W13.heap.size, 0, none⟩ (.bool (Wd.ngb T.num)))).setCell ⟨W13.heap.size, 1, none⟩ (.slice At nt ct)) := Kw.store (c := (.slice Ao no co)) x6 rfl trivial _
    replace FX := FX.kw KW
    replace FY := FY.kw KW
    replace MQ := MQ.kw KW
    replace NQ := NQ.kw KW
    replace p := p.kw KW
    replace pd := pd.kw KW
    replace o := o.kw KW
    replace od := od.kw KW
    replace t := t.kw KW
    replace td := td.kw KW
    replace b0 := b0.far (p := ⟨W13.heap.size, 1, none⟩) (by dsimp only; omega) (.slice At nt ct)
    replace b1 := b1.far (p := ⟨W13.heap.size, 1, none⟩) (by dsimp only; omega) (.slice At nt ct)
    replace x1 := x1.far (p := ⟨W13.heap.size, 1, none⟩) (by dsimp only; omega) (.slice At nt ct)
    replace x2 := x2.far (p := ⟨W13.heap.size, 1, none⟩) (by dsimp only; omega) (.slice At nt ct)
    replace x3 := x3.far (p := ⟨W13.heap.size, 1, none⟩) (by dsimp only; omega) (.slice At nt ct)
    replace x4 := x4.far (p := ⟨W13.heap.size, 1, none⟩) (by dsimp only; omega) (.slice At nt ct)
    replace x5 := x5.far (p := ⟨W13.heap.size, 1, none⟩) (by dsimp only; omega) (.slice At nt ct)
    replace x6 : Bx 61 ((((W16).setCell ⟨W13.heap.size, 0, none⟩ (.bool (Wd.ngb T.num)))).setCell ⟨W13.heap.size, 1, none⟩ (.slice At nt ct)) (W13.heap.size) [.bool (Wd.ngb T.num), .slice At nt ct, .slice Aod nod cod] := x6.set 1 (.slice At nt ct)
    replace UP := UP.setCell (p := ⟨W13.heap.size, 1, none⟩) (by dsimp only; omega) (.slice At nt ct)
    have KW : Kw (((((W16).setCell ⟨W13.heap.size, 0, none⟩ (.bool (Wd.ngb T.num)))).setCell ⟨W13.heap.size, 1, none⟩ (.slice At nt ct))) ((((((W16).setCell ⟨W13.heap.size, 0, none⟩ (.bool (Wd.ngb T.num)))).setCell ⟨W13.heap.size, 1, none⟩ (.slice At nt ct))).setCell ⟨W13.heap.size, 2, none⟩ (.slice Atd ntd ctd)) := Kw.store (c := (.slice Aod nod cod)) x6 rfl trivial _
    replace FX := FX.kw KW
    replace FY := FY.kw KW
    replace MQ := MQ.kw KW
    replace NQ := NQ.kw KW
    replace p := p.kw KW
    replace pd := pd.kw KW
    replace o := o.kw KW
    replace od := od.kw KW
    replace t := t.kw KW
    replace td := td.kw KW
    replace b0 := b0.far (p := ⟨W13.heap.size, 2, none⟩) (by dsimp only; omega) (.slice Atd ntd ctd)
    replace b1 := b1.far (p := ⟨W13.heap.size, 2, none⟩) (by dsimp only; omega) (.slice Atd ntd ctd)
    replace x1 := x1.far (p := ⟨W13.heap.size, 2, none⟩) (by dsimp only; omega) (.slice Atd ntd ctd)
    replace x2 := x2.far (p := ⟨W13.heap.size, 2, none⟩) (by dsimp only; omega) (.slice Atd ntd ctd)
    replace x3 := x3.far (p := ⟨W13.heap.size, 2, none⟩) (by dsimp only; omega) (.slice Atd ntd ctd)
    replace x4 := x4.far (p := ⟨W13.heap.size, 2, none⟩) (by dsimp only; omega) (.slice Atd ntd ctd)
    replace x5 := x5.far (p := ⟨W13.heap.size, 2, none⟩) (by dsimp only; omega) (.slice Atd ntd ctd)
    replace x6 : Bx 61 ((((((W16).setCell ⟨W13.heap.size, 0, none⟩ (.bool (Wd.ngb T.num)))).setCell ⟨W13.heap.size, 1, none⟩ (.slice At nt ct))).setCell ⟨W13.heap.size, 2, none⟩ (.slice Atd ntd ctd)) (W13.heap.size) [.bool (Wd.ngb T.num), .slice At nt ct, .slice Atd ntd ctd] := x6.set 2 (.slice Atd ntd ctd)
    replace UP := UP.setCell (p := ⟨W13.heap.size, 2, none⟩) (by dsimp only; omega) (.slice Atd ntd ctd)
    clear KW
    generalize ((((((W16).setCell ⟨W13.heap.size, 0, none⟩ (.bool (Wd.ngb T.num)))).setCell ⟨W13.heap.size, 1, none⟩ (.slice At nt ct))).setCell ⟨W13.heap.size, 2, none⟩ (.slice Atd ntd ctd)) = W17 at *
    replace b0_0 := b0.cell (i := 0) rfl
    replace b0_1 := b0.cell (i := 1) rfl
    replace b0_2 := b0.cell (i := 2) rfl
    replace b1_0 := b1.cell (i := 0) rfl
    replace b1_1 := b1.cell (i := 1) rfl
    replace b1_2 := b1.cell (i := 2) rfl
    replace x1_0 := x1.cell (i := 0) rfl
    replace x1_1 := x1.cell (i := 1) rfl
    replace x1_2 := x1.cell (i := 2) rfl
    replace x2_0 := x2.cell (i := 0) rfl
    replace x2_1 := x2.cell (i := 1) rfl
    replace x2_2 := x2.cell (i := 2) rfl
    replace x3_0 := x3.cell (i := 0) rfl
    replace x3_1 := x3.cell (i := 1) rfl
    replace x3_2 := x3.cell (i := 2) rfl
    replace x4_0 := x4.cell (i := 0) rfl
    replace x4_1 := x4.cell (i := 1) rfl
    replace x4_2 := x4.cell (i := 2) rfl
    replace x5_0 := x5.cell (i := 0) rfl
    replace x5_1 := x5.cell (i := 1) rfl
    replace x5_2 := x5.cell (i := 2) rfl
    replace x6_0 := x6.cell (i := 0) rfl
    replace x6_1 := x6.cell (i := 1) rfl
    replace x6_2 := x6.cell (i := 2) rfl
    replace FX := FX.up (Up.refl W17).drew
    replace FY := FY.up (Up.refl W17).drew
    replace MQ := MQ.up (Up.refl W17).drew
    replace NQ := NQ.up (Up.refl W17).drew
    replace p := p.up (Up.refl W17).drew
    replace pd := pd.up (Up.refl W17).drew
    replace o := o.up (Up.refl W17).drew
    replace od := od.up (Up.refl W17).drew
    replace t := t.up (Up.refl W17).drew
    replace td := td.up (Up.refl W17).drew
    replace b0 := b0.up (Up.refl W17).drew
    replace b1 := b1.up (Up.refl W17).drew
    replace x1 := x1.up (Up.refl W17).drew
    replace x2 := x2.up (Up.refl W17).drew
    replace x3 := x3.up (Up.refl W17).drew
    replace x4 := x4.up (Up.refl W17).drew
    replace x5 := x5.up (Up.refl W17).drew
    replace x6 := x6.up (Up.refl W17).drew
    replace UP := UP.trans (Up.refl W17).drew
    replace b0_0 := b0.cell (i := 0) rfl
    replace b0_1 := b0.cell (i := 1) rfl
    replace b0_2 := b0.cell (i := 2) rfl
    replace b1_0 := b1.cell (i := 0) rfl
    replace b1_1 := b1.cell (i := 1) rfl
    replace b1_2 := b1.cell (i := 2) rfl
    replace x1_0 := x1.cell (i := 0) rfl
    replace x1_1 := x1.cell (i := 1) rfl
    replace x1_2 := x1.cell (i := 2) rfl
    replace x2_0 := x2.cell (i := 0) rfl
    replace x2_1 := x2.cell (i := 1) rfl
    replace x2_2 := x2.cell (i := 2) rfl
    replace x3_0 := x3.cell (i := 0) rfl
    replace x3_1 := x3.cell (i := 1) rfl
    replace x3_2 := x3.cell (i := 2) rfl
    replace x4_0 := x4.cell (i := 0) rfl
    replace x4_1 := x4.cell (i := 1) rfl
    replace x4_2 := x4.cell (i := 2) rfl
    replace x5_0 := x5.cell (i := 0) rfl
    replace x5_1 := x5.cell (i := 1) rfl
    replace x5_2 := x5.cell (i := 2) rfl
    replace x6_0 := x6.cell (i := 0) rfl
    replace x6_1 := x6.cell (i := 1) rfl
    replace x6_2 := x6.cell (i := 2) rfl
    go_region_held3 (fun w' => Up w w' ∧ w'.cell? ⟨W3.heap.size, 0, none⟩ = some (.bool s) ∧ w'.cell? ⟨W3.heap.size, 1, none⟩ = some (.slice A l.length c) ∧ w'.cell? ⟨W3.heap.size, 2, none⟩ = some (.slice D m.length d) ∧ w'.cell? ⟨W7.heap.size, 0, none⟩ = some (.bool (Wd.ngb x.num)) ∧ w'.cell? ⟨W7.heap.size, 1, none⟩ = some (.slice Aa na ca) ∧ w'.cell? ⟨W7.heap.size, 2, none⟩ = some (.slice Aad nad cad) ∧ w'.cell? ⟨W9.heap.size, 0, none⟩ = some (.bool (Wd.ngb y.num)) ∧ w'.cell? ⟨W9.heap.size, 1, none⟩ = some (.slice Ab nb cb) ∧ w'.cell? ⟨W9.heap.size, 2, none⟩ = some (.slice Abd nbd cbd) ∧ w'.cell? ⟨W11.heap.size, 0, none⟩ = some (.bool (Wd.ngb T.num)) ∧ w'.cell? ⟨W11.heap.size, 1, none⟩ = some (.slice Ap np cp) ∧ w'.cell? ⟨W11.heap.size, 2, none⟩ = some (.slice Apd npd cpd) ∧ w'.cell? ⟨W13.heap.size, 0, none⟩ = some (.bool (Wd.ngb T.num)) ∧ w'.cell? ⟨W13.heap.size, 1, none⟩ = some (.slice At nt ct) ∧ w'.cell? ⟨W13.heap.size, 2, none⟩ = some (.slice Atd ntd ctd))
        (first | with_reducible exact ⟨UP, x1_0, x1_1, x1_2, x3_0, x3_1, x3_2, x4_0, x4_1, x4_2, x5_0, x5_1, x5_2, x6_0, x6_1, x6_2⟩ | with_reducible exact ⟨UP, x1_0, x1_1, x1_2, x3_0, x3_1, x3_2, x4_0, x4_1, x4_2, x5_0, x5_1, x5_2, x6_0, x6_1, x6_2⟩ | with_reducible exact ⟨(UP.alloc_drew _), (cell_alloc_drew x1_0), (cell_alloc_drew x1_1), (cell_alloc_drew x1_2), (cell_alloc_drew x3_0), (cell_alloc_drew x3_1), (cell_alloc_drew x3_2), (cell_alloc_drew x4_0), (cell_alloc_drew x4_1), (cell_alloc_drew x4_2), (cell_alloc_drew x5_0), (cell_alloc_drew x5_1), (cell_alloc_drew x5_2), (cell_alloc_drew x6_0), (cell_alloc_drew x6_1), (cell_alloc_drew x6_2)⟩ | with_reducible exact ⟨(UP.alloc2_drew _ _), (cell_alloc2_drew x1_0), (cell_alloc2_drew x1_1), (cell_alloc2_drew x1_2), (cell_alloc2_drew x3_0), (cell_alloc2_drew x3_1), (cell_alloc2_drew x3_2), (cell_alloc2_drew x4_0), (cell_alloc2_drew x4_1), (cell_alloc2_drew x4_2), (cell_alloc2_drew x5_0), (cell_alloc2_drew x5_1), (cell_alloc2_drew x5_2), (cell_alloc2_drew x6_0), (cell_alloc2_drew x6_1), (cell_alloc2_drew x6_2)⟩ | (simp only [← World.setCell_drew]; with_reducible exact ⟨UP, x1_0, x1_1, x1_2, x3_0, x3_1, x3_2, x4_0, x4_1, x4_2, x5_0, x5_1, x5_2, x6_0, x6_1, x6_2⟩) | go_keep)
        ((first
          | (go_at_call 40
             ((with_reducible refine (law_is9 (Qw.of p pd) (Qw.of t td) LT (by omega)).mono ?_))
             rintro e W18 ⟨rfl, u18⟩
             replace FX := FX.up u18
             replace FY := FY.up u18
             replace MQ := MQ.up u18
             replace NQ := NQ.up u18
             replace p := p.up u18
             replace pd := pd.up u18
             replace o := o.up u18
             replace od := od.up u18
             replace t := t.up u18
             replace td := td.up u18
             try (replace a1 := a1.up u18)
             try (replace a2 := a2.up u18)
             try (replace c1 := c1.up u18)
             try (replace c2 := c2.up u18)
             replace b0 := b0.up u18
             replace b1 := b1.up u18
             replace x1 := x1.up u18
             replace x2 := x2.up u18
             replace x3 := x3.up u18
             replace x4 := x4.up u18
             replace x5 := x5.up u18
             replace x6 := x6.up u18
             replace UP := UP.trans u18
             replace b0_0 := b0.cell (i := 0) rfl
             replace b0_1 := b0.cell (i := 1) rfl
             replace b0_2 := b0.cell (i := 2) rfl
             replace b1_0 := b1.cell (i := 0) rfl
             replace b1_1 := b1.cell (i := 1) rfl
             replace b1_2 := b1.cell (i := 2) rfl
             replace x1_0 := x1.cell (i := 0) rfl
             replace x1_1 := x1.cell (i := 1) rfl
             replace x1_2 := x1.cell (i := 2) rfl
             replace x2_0 := x2.cell (i := 0) rfl
             replace x2_1 := x2.cell (i := 1) rfl
             replace x2_2 := x2.cell (i := 2) rfl
             replace x3_0 := x3.cell (i := 0) rfl
             replace x3_1 := x3.cell (i := 1) rfl
             replace x3_2 := x3.cell (i := 2) rfl
             replace x4_0 := x4.cell (i := 0) rfl
             replace x4_1 := x4.cell (i := 1) rfl
             replace x4_2 := x4.cell (i := 2) rfl
             replace x5_0 := x5.cell (i := 0) rfl
             replace x5_1 := x5.cell (i := 1) rfl
             replace x5_2 := x5.cell (i := 2) rfl
             replace x6_0 := x6.cell (i := 0) rfl
             replace x6_1 := x6.cell (i := 1) rfl
             replace x6_2 := x6.cell (i := 2) rfl
             clear u18)
          | (go_at_call 55
             ((with_reducible refine (ref9_zero NQ).mono ?_))
             rintro e W19 ⟨rfl, u19⟩
             replace FX := FX.up u19
             replace FY := FY.up u19
             replace MQ := MQ.up u19
             replace NQ := NQ.up u19
             replace p := p.up u19
             replace pd := pd.up u19
             replace o := o.up u19
             replace od := od.up u19
             replace t := t.up u19
             replace td := td.up u19
             try (replace a1 := a1.up u19)
             try (replace a2 := a2.up u19)
             try (replace c1 := c1.up u19)
             try (replace c2 := c2.up u19)
             replace b0 := b0.up u19
             replace b1 := b1.up u19
             replace x1 := x1.up u19
             replace x2 := x2.up u19
             replace x3 := x3.up u19
             replace x4 := x4.up u19
             replace x5 := x5.up u19
             replace x6 := x6.up u19
             replace UP := UP.trans u19
             replace b0_0 := b0.cell (i := 0) rfl
             replace b0_1 := b0.cell (i := 1) rfl
             replace b0_2 := b0.cell (i := 2) rfl
             replace b1_0 := b1.cell (i := 0) rfl
             replace b1_1 := b1.cell (i := 1) rfl
             replace b1_2 := b1.cell (i := 2) rfl
             replace x1_0 := x1.cell (i := 0) rfl
             replace x1_1 := x1.cell (i := 1) rfl
             replace x1_2 := x1.cell (i := 2) rfl
             replace x2_0 := x2.cell (i := 0) rfl
             replace x2_1 := x2.cell (i := 1) rfl
             replace x2_2 := x2.cell (i := 2) rfl
             replace x3_0 := x3.cell (i := 0) rfl
             replace x3_1 := x3.cell (i := 1) rfl
             replace x3_2 := x3.cell (i := 2) rfl
             replace x4_0 := x4.cell (i := 0) rfl
             replace x4_1 := x4.cell (i := 1) rfl
             replace x4_2 := x4.cell (i := 2) rfl
             replace x5_0 := x5.cell (i := 0) rfl
             replace x5_1 := x5.cell (i := 1) rfl
             replace x5_2 := x5.cell (i := 2) rfl
             replace x6_0 := x6.cell (i := 0) rfl
             replace x6_1 := x6.cell (i := 1) rfl
             replace x6_2 := x6.cell (i := 2) rfl
             clear u19
             rw [HZ.out])
          | (go_at_call 56
             ((with_reducible refine (frac_neg FX (by omega)).mono ?_))
             rintro e W20 ⟨V20, rfl, a1, u20⟩
             replace FX := FX.up u20
             replace FY := FY.up u20
             replace MQ := MQ.up u20
             replace NQ := NQ.up u20
             replace p := p.up u20
             replace pd := pd.up u20
             replace o := o.up u20
             replace od := od.up u20
             replace t := t.up u20
             replace td := td.up u20
             try (replace a1 := a1.up u20)
             try (replace a2 := a2.up u20)
             try (replace c1 := c1.up u20)
             try (replace c2 := c2.up u20)
             replace b0 := b0.up u20
             replace b1 := b1.up u20
             replace x1 := x1.up u20
             replace x2 := x2.up u20
             replace x3 := x3.up u20
             replace x4 := x4.up u20
             replace x5 := x5.up u20
             replace x6 := x6.up u20
             replace UP := UP.trans u20
             replace b0_0 := b0.cell (i := 0) rfl
             replace b0_1 := b0.cell (i := 1) rfl
             replace b0_2 := b0.cell (i := 2) rfl
             replace b1_0 := b1.cell (i := 0) rfl
             replace b1_1 := b1.cell (i := 1) rfl
             replace b1_2 := b1.cell (i := 2) rfl
             replace x1_0 := x1.cell (i := 0) rfl
             replace x1_1 := x1.cell (i := 1) rfl
             replace x1_2 := x1.cell (i := 2) rfl
             replace x2_0 := x2.cell (i := 0) rfl
             replace x2_1 := x2.cell (i := 1) rfl
             replace x2_2 := x2.cell (i := 2) rfl
             replace x3_0 := x3.cell (i := 0) rfl
             replace x3_1 := x3.cell (i := 1) rfl
             replace x3_2 := x3.cell (i := 2) rfl
             replace x4_0 := x4.cell (i := 0) rfl
             replace x4_1 := x4.cell (i := 1) rfl
             replace x4_2 := x4.cell (i := 2) rfl
             replace x5_0 := x5.cell (i := 0) rfl
             replace x5_1 := x5.cell (i := 1) rfl
             replace x5_2 := x5.cell (i := 2) rfl
             replace x6_0 := x6.cell (i := 0) rfl
             replace x6_1 := x6.cell (i := 1) rfl
             replace x6_2 := x6.cell (i := 2) rfl
             clear u20)
          | (go_at_call 57
             ((with_reducible refine (ref9_neg MQ LX (by omega)).mono ?_))
             rintro e W21 ⟨V21, rfl, a2, u21⟩
             replace FX := FX.up u21
             replace FY := FY.up u21
             replace MQ := MQ.up u21
             replace NQ := NQ.up u21
             replace p := p.up u21
             replace pd := pd.up u21
             replace o := o.up u21
             replace od := od.up u21
             replace t := t.up u21
             replace td := td.up u21
             try (replace a1 := a1.up u21)
             try (replace a2 := a2.up u21)
             try (replace c1 := c1.up u21)
             try (replace c2 := c2.up u21)
             replace b0 := b0.up u21
             replace b1 := b1.up u21
             replace x1 := x1.up u21
             replace x2 := x2.up u21
             replace x3 := x3.up u21
             replace x4 := x4.up u21
             replace x5 := x5.up u21
             replace x6 := x6.up u21
             replace UP := UP.trans u21
             replace b0_0 := b0.cell (i := 0) rfl
             replace b0_1 := b0.cell (i := 1) rfl
             replace b0_2 := b0.cell (i := 2) rfl
             replace b1_0 := b1.cell (i := 0) rfl
             replace b1_1 := b1.cell (i := 1) rfl
             replace b1_2 := b1.cell (i := 2) rfl
             replace x1_0 := x1.cell (i := 0) rfl
             replace x1_1 := x1.cell (i := 1) rfl
             replace x1_2 := x1.cell (i := 2) rfl
             replace x2_0 := x2.cell (i := 0) rfl
             replace x2_1 := x2.cell (i := 1) rfl
             replace x2_2 := x2.cell (i := 2) rfl
             replace x3_0 := x3.cell (i := 0) rfl
             replace x3_1 := x3.cell (i := 1) rfl
             replace x3_2 := x3.cell (i := 2) rfl
             replace x4_0 := x4.cell (i := 0) rfl
             replace x4_1 := x4.cell (i := 1) rfl
             replace x4_2 := x4.cell (i := 2) rfl
             replace x5_0 := x5.cell (i := 0) rfl
             replace x5_1 := x5.cell (i := 1) rfl
             replace x5_2 := x5.cell (i := 2) rfl
             replace x6_0 := x6.cell (i := 0) rfl
             replace x6_1 := x6.cell (i := 1) rfl
             replace x6_2 := x6.cell (i := 2) rfl
             clear u21)
          | (go_at_call 40
             ((with_reducible refine (law_is9 a1 a2 LN (by omega)).mono ?_))
             rintro e W22 ⟨rfl, u22⟩
             replace FX := FX.up u22
             replace FY := FY.up u22
             replace MQ := MQ.up u22
             replace NQ := NQ.up u22
             replace p := p.up u22
             replace pd := pd.up u22
             replace o := o.up u22
             replace od := od.up u22
             replace t := t.up u22
             replace td := td.up u22
             try (replace a1 := a1.up u22)
             try (replace a2 := a2.up u22)
             try (replace c1 := c1.up u22)
             try (replace c2 := c2.up u22)
             replace b0 := b0.up u22
             replace b1 := b1.up u22
             replace x1 := x1.up u22
             replace x2 := x2.up u22
             replace x3 := x3.up u22
             replace x4 := x4.up u22
             replace x5 := x5.up u22
             replace x6 := x6.up u22
             replace UP := UP.trans u22
             replace b0_0 := b0.cell (i := 0) rfl
             replace b0_1 := b0.cell (i := 1) rfl
             replace b0_2 := b0.cell (i := 2) rfl
             replace b1_0 := b1.cell (i := 0) rfl
             replace b1_1 := b1.cell (i := 1) rfl
             replace b1_2 := b1.cell (i := 2) rfl
             replace x1_0 := x1.cell (i := 0) rfl
             replace x1_1 := x1.cell (i := 1) rfl
             replace x1_2 := x1.cell (i := 2) rfl
             replace x2_0 := x2.cell (i := 0) rfl
             replace x2_1 := x2.cell (i := 1) rfl
             replace x2_2 := x2.cell (i := 2) rfl
             replace x3_0 := x3.cell (i := 0) rfl
             replace x3_1 := x3.cell (i := 1) rfl
             replace x3_2 := x3.cell (i := 2) rfl
             replace x4_0 := x4.cell (i := 0) rfl
             replace x4_1 := x4.cell (i := 1) rfl
             replace x4_2 := x4.cell (i := 2) rfl
             replace x5_0 := x5.cell (i := 0) rfl
             replace x5_1 := x5.cell (i := 1) rfl
             replace x5_2 := x5.cell (i := 2) rfl
             replace x6_0 := x6.cell (i := 0) rfl
             replace x6_1 := x6.cell (i := 1) rfl
             replace x6_2 := x6.cell (i := 2) rfl
             clear u22)
          | (go_at_call 58
             ((with_reducible refine (frac_abs FX (by omega)).mono ?_))
             rintro e W23 ⟨V23, rfl, c1, u23⟩
             replace FX := FX.up u23
             replace FY := FY.up u23
             replace MQ := MQ.up u23
             replace NQ := NQ.up u23
             replace p := p.up u23
             replace pd := pd.up u23
             replace o := o.up u23
             replace od := od.up u23
             replace t := t.up u23
             replace td := td.up u23
             try (replace a1 := a1.up u23)
             try (replace a2 := a2.up u23)
             try (replace c1 := c1.up u23)
             try (replace c2 := c2.up u23)
             replace b0 := b0.up u23
             replace b1 := b1.up u23
             replace x1 := x1.up u23
             replace x2 := x2.up u23
             replace x3 := x3.up u23
             replace x4 := x4.up u23
             replace x5 := x5.up u23
             replace x6 := x6.up u23
             replace UP := UP.trans u23
             replace b0_0 := b0.cell (i := 0) rfl
             replace b0_1 := b0.cell (i := 1) rfl
             replace b0_2 := b0.cell (i := 2) rfl
             replace b1_0 := b1.cell (i := 0) rfl
             replace b1_1 := b1.cell (i := 1) rfl
             replace b1_2 := b1.cell (i := 2) rfl
             replace x1_0 := x1.cell (i := 0) rfl
             replace x1_1 := x1.cell (i := 1) rfl
             replace x1_2 := x1.cell (i := 2) rfl
             replace x2_0 := x2.cell (i := 0) rfl
             replace x2_1 := x2.cell (i := 1) rfl
             replace x2_2 := x2.cell (i := 2) rfl
             replace x3_0 := x3.cell (i := 0) rfl
             replace x3_1 := x3.cell (i := 1) rfl
             replace x3_2 := x3.cell (i := 2) rfl
             replace x4_0 := x4.cell (i := 0) rfl
             replace x4_1 := x4.cell (i := 1) rfl
             replace x4_2 := x4.cell (i := 2) rfl
             replace x5_0 := x5.cell (i := 0) rfl
             replace x5_1 := x5.cell (i := 1) rfl
             replace x5_2 := x5.cell (i := 2) rfl
             replace x6_0 := x6.cell (i := 0) rfl
             replace x6_1 := x6.cell (i := 1) rfl
             replace x6_2 := x6.cell (i := 2) rfl
             clear u23)
          | (go_at_call 59
             ((with_reducible refine (ref9_abs MQ).mono ?_))
             rintro e W24 ⟨V24, rfl, c2, u24⟩
             replace FX := FX.up u24
             replace FY := FY.up u24
             replace MQ := MQ.up u24
             replace NQ := NQ.up u24
             replace p := p.up u24
             replace pd := pd.up u24
             replace o := o.up u24
             replace od := od.up u24
             replace t := t.up u24
             replace td := td.up u24
             try (replace a1 := a1.up u24)
             try (replace a2 := a2.up u24)
             try (replace c1 := c1.up u24)
             try (replace c2 := c2.up u24)
             replace b0 := b0.up u24
             replace b1 := b1.up u24
             replace x1 := x1.up u24
             replace x2 := x2.up u24
             replace x3 := x3.up u24
             replace x4 := x4.up u24
             replace x5 := x5.up u24
             replace x6 := x6.up u24
             replace UP := UP.trans u24
             replace b0_0 := b0.cell (i := 0) rfl
             replace b0_1 := b0.cell (i := 1) rfl
             replace b0_2 := b0.cell (i := 2) rfl
             replace b1_0 := b1.cell (i := 0) rfl
             replace b1_1 := b1.cell (i := 1) rfl
             replace b1_2 := b1.cell (i := 2) rfl
             replace x1_0 := x1.cell (i := 0) rfl
             replace x1_1 := x1.cell (i := 1) rfl
             replace x1_2 := x1.cell (i := 2) rfl
             replace x2_0 := x2.cell (i := 0) rfl
             replace x2_1 := x2.cell (i := 1) rfl
             replace x2_2 := x2.cell (i := 2) rfl
             replace x3_0 := x3.cell (i := 0) rfl
             replace x3_1 := x3.cell (i := 1) rfl
             replace x3_2 := x3.cell (i := 2) rfl
             replace x4_0 := x4.cell (i := 0) rfl
             replace x4_1 := x4.cell (i := 1) rfl
             replace x4_2 := x4.cell (i := 2) rfl
             replace x5_0 := x5.cell (i := 0) rfl
             replace x5_1 := x5.cell (i := 1) rfl
             replace x5_2 := x5.cell (i := 2) rfl
             replace x6_0 := x6.cell (i := 0) rfl
             replace x6_1 := x6.cell (i := 1) rfl
             replace x6_2 := x6.cell (i := 2) rfl
             clear u24)
          | (go_at_call 40
             ((with_reducible refine (law_is9 c1 c2 LA (by omega)).mono ?_))
             rintro e W25 ⟨rfl, u25⟩
             replace FX := FX.up u25
             replace FY := FY.up u25
             replace MQ := MQ.up u25
             replace NQ := NQ.up u25
             replace p := p.up u25
             replace pd := pd.up u25
             replace o := o.up u25
             replace od := od.up u25
             replace t := t.up u25
             replace td := td.up u25
             try (replace a1 := a1.up u25)
             try (replace a2 := a2.up u25)
             try (replace c1 := c1.up u25)
             try (replace c2 := c2.up u25)
             replace b0 := b0.up u25
             replace b1 := b1.up u25
             replace x1 := x1.up u25
             replace x2 := x2.up u25
             replace x3 := x3.up u25
             replace x4 := x4.up u25
             replace x5 := x5.up u25
             replace x6 := x6.up u25
             replace UP := UP.trans u25
             replace b0_0 := b0.cell (i := 0) rfl
             replace b0_1 := b0.cell (i := 1) rfl
             replace b0_2 := b0.cell (i := 2) rfl
             replace b1_0 := b1.cell (i := 0) rfl
             replace b1_1 := b1.cell (i := 1) rfl
             replace b1_2 := b1.cell (i := 2) rfl
             replace x1_0 := x1.cell (i := 0) rfl
             replace x1_1 := x1.cell (i := 1) rfl
             replace x1_2 := x1.cell (i := 2) rfl
             replace x2_0 := x2.cell (i := 0) rfl
             replace x2_1 := x2.cell (i := 1) rfl
             replace x2_2 := x2.cell (i := 2) rfl
             replace x3_0 := x3.cell (i := 0) rfl
             replace x3_1 := x3.cell (i := 1) rfl
             replace x3_2 := x3.cell (i := 2) rfl
             replace x4_0 := x4.cell (i := 0) rfl
             replace x4_1 := x4.cell (i := 1) rfl
             replace x4_2 := x4.cell (i := 2) rfl
             replace x5_0 := x5.cell (i := 0) rfl
             replace x5_1 := x5.cell (i := 1) rfl
             replace x5_2 := x5.cell (i := 2) rfl
             replace x6_0 := x6.cell (i := 0) rfl
             replace x6_1 := x6.cell (i := 1) rfl
             replace x6_2 := x6.cell (i := 2) rfl
             clear u25)))
    go_wp2_with fail
    replace FX := FX.up (Up.refl W25).drew
    replace FY := FY.up (Up.refl W25).drew
    replace MQ := MQ.up (Up.refl W25).drew
    replace NQ := NQ.up (Up.refl W25).drew
    replace p := p.up (Up.refl W25).drew
    replace pd := pd.up (Up.refl W25).drew
    replace o := o.up (Up.refl W25).drew
    replace od := od.up (Up.refl W25).drew
    replace t := t.up (Up.refl W25).drew
    replace td := td.up (Up.refl W25).drew
    replace a1 := a1.up (Up.refl W25).drew
    replace a2 := a2.up (Up.refl W25).drew
    replace c1 := c1.up (Up.refl W25).drew
    replace c2 := c2.up (Up.refl W25).drew
    replace b0 := b0.up (Up.refl W25).drew
    replace b1 := b1.up (Up.refl W25).drew
    replace x1 := x1.up (Up.refl W25).drew
    replace x2 := x2.up (Up.refl W25).drew
    replace x3 := x3.up (Up.refl W25).drew
    replace x4 := x4.up (Up.refl W25).drew
    replace x5 := x5.up (Up.refl W25).drew
    replace x6 := x6.up (Up.refl W25).drew
    replace UP := UP.trans (Up.refl W25).drew
    replace b0_0 := b0.cell (i := 0) rfl
    replace b0_1 := b0.cell (i := 1) rfl
    replace b0_2 := b0.cell (i := 2) rfl
    replace b1_0 := b1.cell (i := 0) rfl
    replace b1_1 := b1.cell (i := 1) rfl
    replace b1_2 := b1.cell (i := 2) rfl
    replace x1_0 := x1.cell (i := 0) rfl
    replace x1_1 := x1.cell (i := 1) rfl
    replace x1_2 := x1.cell (i := 2) rfl
    replace x2_0 := x2.cell (i := 0) rfl
    replace x2_1 := x2.cell (i := 1) rfl
    replace x2_2 := x2.cell (i := 2) rfl
    replace x3_0 := x3.cell (i := 0) rfl
    replace x3_1 := x3.cell (i := 1) rfl
    replace x3_2 := x3.cell (i := 2) rfl
    replace x4_0 := x4.cell (i := 0) rfl
    replace x4_1 := x4.cell (i := 1) rfl
    replace x4_2 := x4.cell (i := 2) rfl
    replace x5_0 := x5.cell (i := 0) rfl
    replace x5_1 := x5.cell (i := 1) rfl
    replace x5_2 := x5.cell (i := 2) rfl
    replace x6_0 := x6.cell (i := 0) rfl
    replace x6_1 := x6.cell (i := 1) rfl
    replace x6_2 := x6.cell (i := 2) rfl
    go_region_held3 (fun w' => Up w w' ∧ w'.cell? ⟨W3.heap.size, 0, none⟩ = some (.bool s) ∧ w'.cell? ⟨W3.heap.size, 1, none⟩ = some (.slice A l.length c) ∧ w'.cell? ⟨W3.heap.size, 2, none⟩ = some (.slice D m.length d) ∧ w'.cell? ⟨W5.heap.size, 0, none⟩ = some (.bool s') ∧ w'.cell? ⟨W5.heap.size, 1, none⟩ = some (.slice A' l'.length c') ∧ w'.cell? ⟨W5.heap.size, 2, none⟩ = some (.slice D' m'.length d') ∧ w'.cell? ⟨W7.heap.size, 0, none⟩ = some (.bool (Wd.ngb x.num)) ∧ w'.cell? ⟨W7.heap.size, 1, none⟩ = some (.slice Aa na ca) ∧ w'.cell? ⟨W7.heap.size, 2, none⟩ = some (.slice Aad nad cad) ∧ w'.cell? ⟨W9.heap.size, 0, none⟩ = some (.bool (Wd.ngb y.num)) ∧ w'.cell? ⟨W9.heap.size, 1, none⟩ = some (.slice Ab nb cb) ∧ w'.cell? ⟨W9.heap.size, 2, none⟩ = some (.slice Abd nbd cbd))
        (first | with_reducible exact ⟨UP, x1_0, x1_1, x1_2, x2_0, x2_1, x2_2, x3_0, x3_1, x3_2, x4_0, x4_1, x4_2⟩ | with_reducible exact ⟨UP, x1_0, x1_1, x1_2, x2_0, x2_1, x2_2, x3_0, x3_1, x3_2, x4_0, x4_1, x4_2⟩ | with_reducible exact ⟨(UP.alloc_drew _), (cell_alloc_drew x1_0), (cell_alloc_drew x1_1), (cell_alloc_drew x1_2), (cell_alloc_drew x2_0), (cell_alloc_drew x2_1), (cell_alloc_drew x2_2), (cell_alloc_drew x3_0), (cell_alloc_drew x3_1), (cell_alloc_drew x3_2), (cell_alloc_drew x4_0), (cell_alloc_drew x4_1), (cell_alloc_drew x4_2)⟩ | with_reducible exact ⟨(UP.alloc2_drew _ _), (cell_alloc2_drew x1_0), (cell_alloc2_drew x1_1), (cell_alloc2_drew x1_2), (cell_alloc2_drew x2_0), (cell_alloc2_drew x2_1), (cell_alloc2_drew x2_2), (cell_alloc2_drew x3_0), (cell_alloc2_drew x3_1), (cell_alloc2_drew x3_2), (cell_alloc2_drew x4_0), (cell_alloc2_drew x4_1), (cell_alloc2_drew x4_2)⟩ | (simp only [← World.setCell_drew]; with_reducible exact ⟨UP, x1_0, x1_1, x1_2, x2_0, x2_1, x2_2, x3_0, x3_1, x3_2, x4_0, x4_1, x4_2⟩) | go_keep)
        ((first
          | (go_at_call 45
             ((with_reducible refine (frac_add FX FY (by omega) (by omega)).mono ?_))
             rintro e W26 ⟨V26, rfl, d1, u26⟩
             replace FX := FX.up u26
             replace FY := FY.up u26
             replace MQ := MQ.up u26
             replace NQ := NQ.up u26
             replace p := p.up u26
             replace pd := pd.up u26
             replace o := o.up u26
             replace od := od.up u26
             replace t := t.up u26
             replace td := td.up u26
             replace a1 := a1.up u26
             replace a2 := a2.up u26
             replace c1 := c1.up u26
             replace c2 := c2.up u26
             try (replace d1 := d1.up u26)
             try (replace d2 := d2.up u26)
             try (replace f1 := f1.up u26)
             try (replace f2 := f2.up u26)
             try (replace g1 := g1.up u26)
             try (replace g2 := g2.up u26)
             replace b0 := b0.up u26
             replace b1 := b1.up u26
             replace x1 := x1.up u26
             replace x2 := x2.up u26
             replace x3 := x3.up u26
             replace x4 := x4.up u26
             replace x5 := x5.up u26
             replace x6 := x6.up u26
             replace UP := UP.trans u26
             replace b0_0 := b0.cell (i := 0) rfl
             replace b0_1 := b0.cell (i := 1) rfl
             replace b0_2 := b0.cell (i := 2) rfl
             replace b1_0 := b1.cell (i := 0) rfl
             replace b1_1 := b1.cell (i := 1) rfl
             replace b1_2 := b1.cell (i := 2) rfl
             replace x1_0 := x1.cell (i := 0) rfl
             replace x1_1 := x1.cell (i := 1) rfl
             replace x1_2 := x1.cell (i := 2) rfl
             replace x2_0 := x2.cell (i := 0) rfl
             replace x2_1 := x2.cell (i := 1) rfl
             replace x2_2 := x2.cell (i := 2) rfl
             replace x3_0 := x3.cell (i := 0) rfl
             replace x3_1 := x3.cell (i := 1) rfl
             replace x3_2 := x3.cell (i := 2) rfl
             replace x4_0 := x4.cell (i := 0) rfl
             replace x4_1 := x4.cell (i := 1) rfl
             replace x4_2 := x4.cell (i := 2) rfl
             replace x5_0 := x5.cell (i := 0) rfl
             replace x5_1 := x5.cell (i := 1) rfl
             replace x5_2 := x5.cell (i := 2) rfl
             replace x6_0 := x6.cell (i := 0) rfl
             replace x6_1 := x6.cell (i := 1) rfl
             replace x6_2 := x6.cell (i := 2) rfl
             clear u26)
          | (go_at_call 60
             ((with_reducible refine (ref9_add MQ NQ LX LY (by omega) (by omega)).mono ?_))
             rintro e W27 ⟨V27, rfl, d2, u27⟩
             replace FX := FX.up u27
             replace FY := FY.up u27
             replace MQ := MQ.up u27
             replace NQ := NQ.up u27
             replace p := p.up u27
             replace pd := pd.up u27
             replace o := o.up u27
             replace od := od.up u27
             replace t := t.up u27
             replace td := td.up u27
             replace a1 := a1.up u27
             replace a2 := a2.up u27
             replace c1 := c1.up u27
             replace c2 := c2.up u27
             try (replace d1 := d1.up u27)
             try (replace d2 := d2.up u27)
             try (replace f1 := f1.up u27)
             try (replace f2 := f2.up u27)
             try (replace g1 := g1.up u27)
             try (replace g2 := g2.up u27)
             replace b0 := b0.up u27
             replace b1 := b1.up u27
             replace x1 := x1.up u27
             replace x2 := x2.up u27
             replace x3 := x3.up u27
             replace x4 := x4.up u27
             replace x5 := x5.up u27
             replace x6 := x6.up u27
             replace UP := UP.trans u27
             replace b0_0 := b0.cell (i := 0) rfl
             replace b0_1 := b0.cell (i := 1) rfl
             replace b0_2 := b0.cell (i := 2) rfl
             replace b1_0 := b1.cell (i := 0) rfl
             replace b1_1 := b1.cell (i := 1) rfl
             replace b1_2 := b1.cell (i := 2) rfl
             replace x1_0 := x1.cell (i := 0) rfl
             replace x1_1 := x1.cell (i := 1) rfl
             replace x1_2 := x1.cell (i := 2) rfl
             replace x2_0 := x2.cell (i := 0) rfl
             replace x2_1 := x2.cell (i := 1) rfl
             replace x2_2 := x2.cell (i := 2) rfl
             replace x3_0 := x3.cell (i := 0) rfl
             replace x3_1 := x3.cell (i := 1) rfl
             replace x3_2 := x3.cell (i := 2) rfl
             replace x4_0 := x4.cell (i := 0) rfl
             replace x4_1 := x4.cell (i := 1) rfl
             replace x4_2 := x4.cell (i := 2) rfl
             replace x5_0 := x5.cell (i := 0) rfl
             replace x5_1 := x5.cell (i := 1) rfl
             replace x5_2 := x5.cell (i := 2) rfl
             replace x6_0 := x6.cell (i := 0) rfl
             replace x6_1 := x6.cell (i := 1) rfl
             replace x6_2 := x6.cell (i := 2) rfl
             clear u27)
          | (go_at_call 40
             ((with_reducible refine (law_is9 d1 d2 LXY (by omega)).mono ?_))
             rintro e W28 ⟨rfl, u28⟩
             replace FX := FX.up u28
             replace FY := FY.up u28
             replace MQ := MQ.up u28
             replace NQ := NQ.up u28
             replace p := p.up u28
             replace pd := pd.up u28
             replace o := o.up u28
             replace od := od.up u28
             replace t := t.up u28
             replace td := td.up u28
             replace a1 := a1.up u28
             replace a2 := a2.up u28
             replace c1 := c1.up u28
             replace c2 := c2.up u28
             try (replace d1 := d1.up u28)
             try (replace d2 := d2.up u28)
             try (replace f1 := f1.up u28)
             try (replace f2 := f2.up u28)
             try (replace g1 := g1.up u28)
             try (replace g2 := g2.up u28)
             replace b0 := b0.up u28
             replace b1 := b1.up u28
             replace x1 := x1.up u28
             replace x2 := x2.up u28
             replace x3 := x3.up u28
             replace x4 := x4.up u28
             replace x5 := x5.up u28
             replace x6 := x6.up u28
             replace UP := UP.trans u28
             replace b0_0 := b0.cell (i := 0) rfl
             replace b0_1 := b0.cell (i := 1) rfl
             replace b0_2 := b0.cell (i := 2) rfl
             replace b1_0 := b1.cell (i := 0) rfl
             replace b1_1 := b1.cell (i := 1) rfl
             replace b1_2 := b1.cell (i := 2) rfl
             replace x1_0 := x1.cell (i := 0) rfl
             replace x1_1 := x1.cell (i := 1) rfl
             replace x1_2 := x1.cell (i := 2) rfl
             replace x2_0 := x2.cell (i := 0) rfl
             replace x2_1 := x2.cell (i := 1) rfl
             replace x2_2 := x2.cell (i := 2) rfl
             replace x3_0 := x3.cell (i := 0) rfl
             replace x3_1 := x3.cell (i := 1) rfl
             replace x3_2 := x3.cell (i := 2) rfl
             replace x4_0 := x4.cell (i := 0) rfl
             replace x4_1 := x4.cell (i := 1) rfl
             replace x4_2 := x4.cell (i := 2) rfl
             replace x5_0 := x5.cell (i := 0) rfl
             replace x5_1 := x5.cell (i := 1) rfl
             replace x5_2 := x5.cell (i := 2) rfl
             replace x6_0 := x6.cell (i := 0) rfl
             replace x6_1 := x6.cell (i := 1) rfl
             replace x6_2 := x6.cell (i := 2) rfl
             clear u28)
          | (go_at_call 61
             ((with_reducible refine (frac_sub FX FY (by omega) (by omega)).mono ?_))
             rintro e W29 ⟨V29, rfl, f1, u29⟩
             replace FX := FX.up u29
             replace FY := FY.up u29
             replace MQ := MQ.up u29
             replace NQ := NQ.up u29
             replace p := p.up u29
             replace pd := pd.up u29
             replace o := o.up u29
             replace od := od.up u29
             replace t := t.up u29
             replace td := td.up u29
             replace a1 := a1.up u29
             replace a2 := a2.up u29
             replace c1 := c1.up u29
             replace c2 := c2.up u29
             try (replace d1 := d1.up u29)
             try (replace d2 := d2.up u29)
             try (replace f1 := f1.up u29)
             try (replace f2 := f2.up u29)
             try (replace g1 := g1.up u29)
             try (replace g2 := g2.up u29)
             replace b0 := b0.up u29
             replace b1 := b1.up u29
             replace x1 := x1.up u29
             replace x2 := x2.up u29
             replace x3 := x3.up u29
             replace x4 := x4.up u29
             replace x5 := x5.up u29
             replace x6 := x6.up u29
             replace UP := UP.trans u29
             replace b0_0 := b0.cell (i := 0) rfl
             replace b0_1 := b0.cell (i := 1) rfl
             replace b0_2 := b0.cell (i := 2) rfl
             replace b1_0 := b1.cell (i := 0) rfl
             replace b1_1 := b1.cell (i := 1) rfl
             replace b1_2 := b1.cell (i := 2) rfl
             replace x1_0 := x1.cell (i := 0) rfl
             replace x1_1 := x1.cell (i := 1) rfl
             replace x1_2 := x1.cell (i := 2) rfl
             replace x2_0 := x2.cell (i := 0) rfl
             replace x2_1 := x2.cell (i := 1) rfl
             replace x2_2 := x2.cell (i := 2) rfl
             replace x3_0 := x3.cell (i := 0) rfl
             replace x3_1 := x3.cell (i := 1) rfl
             replace x3_2 := x3.cell (i := 2) rfl
             replace x4_0 := x4.cell (i := 0) rfl
             replace x4_1 := x4.cell (i := 1) rfl
             replace x4_2 := x4.cell (i := 2) rfl
             replace x5_0 := x5.cell (i := 0) rfl
             replace x5_1 := x5.cell (i := 1) rfl
             replace x5_2 := x5.cell (i := 2) rfl
             replace x6_0 := x6.cell (i := 0) rfl
             replace x6_1 := x6.cell (i := 1) rfl
             replace x6_2 := x6.cell (i := 2) rfl
             clear u29)
          | (go_at_call 62
             ((with_reducible refine (ref9_sub MQ NQ LX LY (by omega) (by omega)).mono ?_))
             rintro e W30 ⟨V30, rfl, f2, u30⟩
             replace FX := FX.up u30
             replace FY := FY.up u30
             replace MQ := MQ.up u30
             replace NQ := NQ.up u30
             replace p := p.up u30
             replace pd := pd.up u30
             replace o := o.up u30
             replace od := od.up u30
             replace t := t.up u30
             replace td := td.up u30
             replace a1 := a1.up u30
             replace a2 := a2.up u30
             replace c1 := c1.up u30
             replace c2 := c2.up u30
             try (replace d1 := d1.up u30)
             try (replace d2 := d2.up u30)
             try (replace f1 := f1.up u30)
             try (replace f2 := f2.up u30)
             try (replace g1 := g1.up u30)
             try (replace g2 := g2.up u30)
             replace b0 := b0.up u30
             replace b1 := b1.up u30
             replace x1 := x1.up u30
             replace x2 := x2.up u30
             replace x3 := x3.up u30
             replace x4 := x4.up u30
             replace x5 := x5.up u30
             replace x6 := x6.up u30
             replace UP := UP.trans u30
             replace b0_0 := b0.cell (i := 0) rfl
             replace b0_1 := b0.cell (i := 1) rfl
             replace b0_2 := b0.cell (i := 2) rfl
             replace b1_0 := b1.cell (i := 0) rfl
             replace b1_1 := b1.cell (i := 1) rfl
             replace b1_2 := b1.cell (i := 2) rfl
             replace x1_0 := x1.cell (i := 0) rfl
             replace x1_1 := x1.cell (i := 1) rfl
             replace x1_2 := x1.cell (i := 2) rfl
             replace x2_0 := x2.cell (i := 0) rfl
             replace x2_1 := x2.cell (i := 1) rfl
             replace x2_2 := x2.cell (i := 2) rfl
             replace x3_0 := x3.cell (i := 0) rfl
             replace x3_1 := x3.cell (i := 1) rfl
             replace x3_2 := x3.cell (i := 2) rfl
             replace x4_0 := x4.cell (i := 0) rfl
             replace x4_1 := x4.cell (i := 1) rfl
             replace x4_2 := x4.cell (i := 2) rfl
             replace x5_0 := x5.cell (i := 0) rfl
             replace x5_1 := x5.cell (i := 1) rfl
             replace x5_2 := x5.cell (i := 2) rfl
             replace x6_0 := x6.cell (i := 0) rfl
             replace x6_1 := x6.cell (i := 1) rfl
             replace x6_2 := x6.cell (i := 2) rfl
             clear u30)
          | (go_at_call 40
             ((with_reducible refine (law_is9 f1 f2 LXS (by omega)).mono ?_))
             rintro e W31 ⟨rfl, u31⟩
             replace FX := FX.up u31
             replace FY := FY.up u31
             replace MQ := MQ.up u31
             replace NQ := NQ.up u31
             replace p := p.up u31
             replace pd := pd.up u31
             replace o := o.up u31
             replace od := od.up u31
             replace t := t.up u31
             replace td := td.up u31
             replace a1 := a1.up u31
             replace a2 := a2.up u31
             replace c1 := c1.up u31
             replace c2 := c2.up u31
             try (replace d1 := d1.up u31)
             try (replace d2 := d2.up u31)
             try (replace f1 := f1.up u31)
             try (replace f2 := f2.up u31)
             try (replace g1 := g1.up u31)
             try (replace g2 := g2.up u31)
             replace b0 := b0.up u31
             replace b1 := b1.up u31
             replace x1 := x1.up u31
             replace x2 := x2.up u31
             replace x3 := x3.up u31
             replace x4 := x4.up u31
             replace x5 := x5.up u31
             replace x6 := x6.up u31
             replace UP := UP.trans u31
             replace b0_0 := b0.cell (i := 0) rfl
             replace b0_1 := b0.cell (i := 1) rfl
             replace b0_2 := b0.cell (i := 2) rfl
             replace b1_0 := b1.cell (i := 0) rfl
             replace b1_1 := b1.cell (i := 1) rfl
             replace b1_2 := b1.cell (i := 2) rfl
             replace x1_0 := x1.cell (i := 0) rfl
             replace x1_1 := x1.cell (i := 1) rfl
             replace x1_2 := x1.cell (i := 2) rfl
             replace x2_0 := x2.cell (i := 0) rfl
             replace x2_1 := x2.cell (i := 1) rfl
             replace x2_2 := x2.cell (i := 2) rfl
             replace x3_0 := x3.cell (i := 0) rfl
             replace x3_1 := x3.cell (i := 1) rfl
             replace x3_2 := x3.cell (i := 2) rfl
             replace x4_0 := x4.cell (i := 0) rfl
             replace x4_1 := x4.cell (i := 1) rfl
             replace x4_2 := x4.cell (i := 2) rfl
             replace x5_0 := x5.cell (i := 0) rfl
             replace x5_1 := x5.cell (i := 1) rfl
             replace x5_2 := x5.cell (i := 2) rfl
             replace x6_0 := x6.cell (i := 0) rfl
             replace x6_1 := x6.cell (i := 1) rfl
             replace x6_2 := x6.cell (i := 2) rfl
             clear u31)
          | (go_at_call 43
             ((with_reducible refine (frac_mul FX FY (by omega) (by omega)).mono ?_))
             rintro e W32 ⟨V32, rfl, g1, u32⟩
             replace FX := FX.up u32
             replace FY := FY.up u32
             replace MQ := MQ.up u32
             replace NQ := NQ.up u32
             replace p := p.up u32
             replace pd := pd.up u32
             replace o := o.up u32
             replace od := od.up u32
             replace t := t.up u32
             replace td := td.up u32
             replace a1 := a1.up u32
             replace a2 := a2.up u32
             replace c1 := c1.up u32
             replace c2 := c2.up u32
             try (replace d1 := d1.up u32)
             try (replace d2 := d2.up u32)
             try (replace f1 := f1.up u32)
             try (replace f2 := f2.up u32)
             try (replace g1 := g1.up u32)
             try (replace g2 := g2.up u32)
             replace b0 := b0.up u32
             replace b1 := b1.up u32
             replace x1 := x1.up u32
             replace x2 := x2.up u32
             replace x3 := x3.up u32
             replace x4 := x4.up u32
             replace x5 := x5.up u32
             replace x6 := x6.up u32
             replace UP := UP.trans u32
             replace b0_0 := b0.cell (i := 0) rfl
             replace b0_1 := b0.cell (i := 1) rfl
             replace b0_2 := b0.cell (i := 2) rfl
             replace b1_0 := b1.cell (i := 0) rfl
             replace b1_1 := b1.cell (i := 1) rfl
             replace b1_2 := b1.cell (i := 2) rfl
             replace x1_0 := x1.cell (i := 0) rfl
             replace x1_1 := x1.cell (i := 1) rfl
             replace x1_2 := x1.cell (i := 2) rfl
             replace x2_0 := x2.cell (i := 0) rfl
             replace x2_1 := x2.cell (i := 1) rfl
             replace x2_2 := x2.cell (i := 2) rfl
             replace x3_0 := x3.cell (i := 0) rfl
             replace x3_1 := x3.cell (i := 1) rfl
             replace x3_2 := x3.cell (i := 2) rfl
             replace x4_0 := x4.cell (i := 0) rfl
             replace x4_1 := x4.cell (i := 1) rfl
             replace x4_2 := x4.cell (i := 2) rfl
             replace x5_0 := x5.cell (i := 0) rfl
             replace x5_1 := x5.cell (i := 1) rfl
             replace x5_2 := x5.cell (i := 2) rfl
             replace x6_0 := x6.cell (i := 0) rfl
             replace x6_1 := x6.cell (i := 1) rfl
             replace x6_2 := x6.cell (i := 2) rfl
             clear u32)
          | (go_at_call 63
             ((with_reducible refine (ref9_mul MQ NQ LX LY (by omega) (by omega)).mono ?_))
             rintro e W33 ⟨V33, rfl, g2, u33⟩
             replace FX := FX.up u33
             replace FY := FY.up u33
             replace MQ := MQ.up u33
             replace NQ := NQ.up u33
             replace p := p.up u33
             replace pd := pd.up u33
             replace o := o.up u33
             replace od := od.up u33
             replace t := t.up u33
             replace td := td.up u33
             replace a1 := a1.up u33
             replace a2 := a2.up u33
             replace c1 := c1.up u33
             replace c2 := c2.up u33
             try (replace d1 := d1.up u33)
             try (replace d2 := d2.up u33)
             try (replace f1 := f1.up u33)
             try (replace f2 := f2.up u33)
             try (replace g1 := g1.up u33)
             try (replace g2 := g2.up u33)
             replace b0 := b0.up u33
             replace b1 := b1.up u33
             replace x1 := x1.up u33
             replace x2 := x2.up u33
             replace x3 := x3.up u33
             replace x4 := x4.up u33
             replace x5 := x5.up u33
             replace x6 := x6.up u33
             replace UP := UP.trans u33
             replace b0_0 := b0.cell (i := 0) rfl
             replace b0_1 := b0.cell (i := 1) rfl
             replace b0_2 := b0.cell (i := 2) rfl
             replace b1_0 := b1.cell (i := 0) rfl
             replace b1_1 := b1.cell (i := 1) rfl
             replace b1_2 := b1.cell (i := 2) rfl
             replace x1_0 := x1.cell (i := 0) rfl
             replace x1_1 := x1.cell (i := 1) rfl
             replace x1_2 := x1.cell (i := 2) rfl
             replace x2_0 := x2.cell (i := 0) rfl
             replace x2_1 := x2.cell (i := 1) rfl
             replace x2_2 := x2.cell (i := 2) rfl
             replace x3_0 := x3.cell (i := 0) rfl
             replace x3_1 := x3.cell (i := 1) rfl
             replace x3_2 := x3.cell (i := 2) rfl
             replace x4_0 := x4.cell (i := 0) rfl
             replace x4_1 := x4.cell (i := 1) rfl
             replace x4_2 := x4.cell (i := 2) rfl
             replace x5_0 := x5.cell (i := 0) rfl
             replace x5_1 := x5.cell (i := 1) rfl
             replace x5_2 := x5.cell (i := 2) rfl
             replace x6_0 := x6.cell (i := 0) rfl
             replace x6_1 := x6.cell (i := 1) rfl
             replace x6_2 := x6.cell (i := 2) rfl
             clear u33)
          | (go_at_call 40
             ((with_reducible refine (law_is9 g1 g2 LXM (by omega)).mono ?_))
             rintro e W34 ⟨rfl, u34⟩
             replace FX := FX.up u34
             replace FY := FY.up u34
             replace MQ := MQ.up u34
             replace NQ := NQ.up u34
             replace p := p.up u34
             replace pd := pd.up u34
             replace o := o.up u34
             replace od := od.up u34
             replace t := t.up u34
             replace td := td.up u34
             replace a1 := a1.up u34
             replace a2 := a2.up u34
             replace c1 := c1.up u34
             replace c2 := c2.up u34
             try (replace d1 := d1.up u34)
             try (replace d2 := d2.up u34)
             try (replace f1 := f1.up u34)
             try (replace f2 := f2.up u34)
             try (replace g1 := g1.up u34)
             try (replace g2 := g2.up u34)
             replace b0 := b0.up u34
             replace b1 := b1.up u34
             replace x1 := x1.up u34
             replace x2 := x2.up u34
             replace x3 := x3.up u34
             replace x4 := x4.up u34
             replace x5 := x5.up u34
             replace x6 := x6.up u34
             replace UP := UP.trans u34
             replace b0_0 := b0.cell (i := 0) rfl
             replace b0_1 := b0.cell (i := 1) rfl
             replace b0_2 := b0.cell (i := 2) rfl
             replace b1_0 := b1.cell (i := 0) rfl
             replace b1_1 := b1.cell (i := 1) rfl
             replace b1_2 := b1.cell (i := 2) rfl
             replace x1_0 := x1.cell (i := 0) rfl
             replace x1_1 := x1.cell (i := 1) rfl
             replace x1_2 := x1.cell (i := 2) rfl
             replace x2_0 := x2.cell (i := 0) rfl
             replace x2_1 := x2.cell (i := 1) rfl
             replace x2_2 := x2.cell (i := 2) rfl
             replace x3_0 := x3.cell (i := 0) rfl
             replace x3_1 := x3.cell (i := 1) rfl
             replace x3_2 := x3.cell (i := 2) rfl
             replace x4_0 := x4.cell (i := 0) rfl
             replace x4_1 := x4.cell (i := 1) rfl
             replace x4_2 := x4.cell (i := 2) rfl
             replace x5_0 := x5.cell (i := 0) rfl
             replace x5_1 := x5.cell (i := 1) rfl
             replace x5_2 := x5.cell (i := 2) rfl
             replace x6_0 := x6.cell (i := 0) rfl
             replace x6_1 := x6.cell (i := 1) rfl
             replace x6_2 := x6.cell (i := 2) rfl
             clear u34)
          | (go_at_call 35
             ((with_reducible refine (works9 _).mono ?_))
             rintro e W35 ⟨rfl, u35⟩
             replace FX := FX.up u35
             replace FY := FY.up u35
             replace MQ := MQ.up u35
             replace NQ := NQ.up u35
             replace p := p.up u35
             replace pd := pd.up u35
             replace o := o.up u35
             replace od := od.up u35
             replace t := t.up u35
             replace td := td.up u35
             replace a1 := a1.up u35
             replace a2 := a2.up u35
             replace c1 := c1.up u35
             replace c2 := c2.up u35
             try (replace d1 := d1.up u35)
             try (replace d2 := d2.up u35)
             try (replace f1 := f1.up u35)
             try (replace f2 := f2.up u35)
             try (replace g1 := g1.up u35)
             try (replace g2 := g2.up u35)
             replace b0 := b0.up u35
             replace b1 := b1.up u35
             replace x1 := x1.up u35
             replace x2 := x2.up u35
             replace x3 := x3.up u35
             replace x4 := x4.up u35
             replace x5 := x5.up u35
             replace x6 := x6.up u35
             replace UP := UP.trans u35
             replace b0_0 := b0.cell (i := 0) rfl
             replace b0_1 := b0.cell (i := 1) rfl
             replace b0_2 := b0.cell (i := 2) rfl
             replace b1_0 := b1.cell (i := 0) rfl
             replace b1_1 := b1.cell (i := 1) rfl
             replace b1_2 := b1.cell (i := 2) rfl
             replace x1_0 := x1.cell (i := 0) rfl
             replace x1_1 := x1.cell (i := 1) rfl
             replace x1_2 := x1.cell (i := 2) rfl
             replace x2_0 := x2.cell (i := 0) rfl
             replace x2_1 := x2.cell (i := 1) rfl
             replace x2_2 := x2.cell (i := 2) rfl
             replace x3_0 := x3.cell (i := 0) rfl
             replace x3_1 := x3.cell (i := 1) rfl
             replace x3_2 := x3.cell (i := 2) rfl
             replace x4_0 := x4.cell (i := 0) rfl
             replace x4_1 := x4.cell (i := 1) rfl
             replace x4_2 := x4.cell (i := 2) rfl
             replace x5_0 := x5.cell (i := 0) rfl
             replace x5_1 := x5.cell (i := 1) rfl
             replace x5_2 := x5.cell (i := 2) rfl
             replace x6_0 := x6.cell (i := 0) rfl
             replace x6_1 := x6.cell (i := 1) rfl
             replace x6_2 := x6.cell (i := 2) rfl
             clear u35)))
    all_goals
      go_wp2
      go_ret
      exact ⟨rfl, UP⟩
end Go.Proofs.Ytjkkeilmnklpcaa
