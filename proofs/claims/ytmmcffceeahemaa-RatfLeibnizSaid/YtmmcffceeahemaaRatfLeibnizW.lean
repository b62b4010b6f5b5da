/-
  The walk of RatfLeibniz.
-/
import Derived.Test.YtmmcffceeahemaaRatfWorks
import Derived.Test.YtmmcffceeahemaaRatfLet
set_option linter.unusedVariables false
set_option linter.unusedSimpArgs false
namespace Go.Proofs.Ytmmcffceeahemaa
open Go.RowKit

set_option maxRecDepth 100000 in
set_option maxHeartbeats 12800000 in
theorem ratfLeibniz_walk {V U V' U' X Y : Value} {rs ts rs' ts' : List Raw} {s : Bool} {l m : List Nat} {w : World} (h : RSq w V rs) (h2 : RSq w U ts) (h' : RSq w V' rs') (h2' : RSq w U' ts') (hl : Ws w X l) (hm : Ws w Y m) :
 Calls Try.prog 13 #[.agg #[V, U], .agg #[V', U'], .agg #[.bool s, X, Y]] w fun e w' => e = .returned (.bool true) ∧ Up w w' := by
 obtain ⟨A1, c1, rfl⟩ := h.form
 obtain ⟨B1, d1, rfl⟩ := h2.form
 obtain ⟨A2, c2, rfl⟩ := h'.form
 obtain ⟨B2, d2, rfl⟩ := h2'.form
 obtain ⟨A3, c3, rfl⟩ := hl.form
 obtain ⟨B3, d3, rfl⟩ := hm.form
 have UP : Up w (((w.alloc (.cells #[.slice A1 rs.length c1, .slice B1 ts.length d1] 117)).alloc (.cells #[.slice A2 rs'.length c2, .slice B2 ts'.length d2] 117)).alloc (.cells #[.bool s, .slice A3 l.length c3, .slice B3 m.length d3] 61)) := (((Up.refl w).alloc _).alloc _).alloc _
 obtain ⟨b0, b1, b2⟩ := bx_three 117 117 61 w [.slice A1 rs.length c1, .slice B1 ts.length d1] [.slice A2 rs'.length c2, .slice B2 ts'.length d2] [.bool s, .slice A3 l.length c3, .slice B3 m.length d3]
 go_enter Try.func13, Try.ntmps13
 go_wp2_with fail
 generalize (((w.alloc (.cells #[.slice A1 rs.length c1, .slice B1 ts.length d1] 117)).alloc (.cells #[.slice A2 rs'.length c2, .slice B2 ts'.length d2] 117)).alloc (.cells #[.bool s, .slice A3 l.length c3, .slice B3 m.length d3] 61)) = W at *
 replace h := h.up UP
 replace h2 := h2.up UP
 replace h' := h'.up UP
 replace h2' := h2'.up UP
 replace hl := hl.up UP
 replace hm := hm.up UP
 obtain ⟨b0_0, b0_1⟩ := b0.c2
 obtain ⟨b1_0, b1_1⟩ := b1.c2
 obtain ⟨b2_0, b2_1, b2_2⟩ := b2.c3
 go_wp2_with fail
 ((with_reducible refine (ref_long_31 h h2).mono ?_))
 rintro e W1 ⟨t1, rfl, ht1, u1⟩
 replace h := h.up u1
 replace h2 := h2.up u1
 replace h' := h'.up u1
 replace h2' := h2'.up u1
 replace hl := hl.up u1
 replace hm := hm.up u1
 replace b0 := b0.up u1
 replace b1 := b1.up u1
 replace b2 := b2.up u1
 replace UP := UP.trans u1
 clear b0_0 b0_1 b1_0 b1_1 b2_0 b2_1 b2_2
 obtain ⟨b0_0, b0_1⟩ := b0.c2
 obtain ⟨b1_0, b1_1⟩ := b1.c2
 obtain ⟨b2_0, b2_1, b2_2⟩ := b2.c3
 clear u1
 cases t1
 rotate_left
 · skip
   go_wp2_with fail
   ((with_reducible refine (works15 _).mono ?_))
   rintro e W2 ⟨rfl, u2⟩
   replace h := h.up u2
   replace h2 := h2.up u2
   replace h' := h'.up u2
   replace h2' := h2'.up u2
   replace hl := hl.up u2
   replace hm := hm.up u2
   replace b0 := b0.up u2
   replace b1 := b1.up u2
   replace b2 := b2.up u2
   replace UP := UP.trans u2
   clear b0_0 b0_1 b1_0 b1_1 b2_0 b2_1 b2_2
   obtain ⟨b0_0, b0_1⟩ := b0.c2
   obtain ⟨b1_0, b1_1⟩ := b1.c2
   obtain ⟨b2_0, b2_1, b2_2⟩ := b2.c3
   clear u2
   go_wp2
   go_ret
   exact ⟨rfl, UP⟩
 have g1 := Lib.hid (ht1.out rfl)
 clear ht1
 go_wp2_with fail
 ((with_reducible refine (ref_long_31 h' h2').mono ?_))
 rintro e W2 ⟨t2, rfl, ht2, u2⟩
 replace h := h.up u2
 replace h2 := h2.up u2
 replace h' := h'.up u2
 replace h2' := h2'.up u2
 replace hl := hl.up u2
 replace hm := hm.up u2
 replace b0 := b0.up u2
 replace b1 := b1.up u2
 replace b2 := b2.up u2
 replace UP := UP.trans u2
 clear b0_0 b0_1 b1_0 b1_1 b2_0 b2_1 b2_2
 obtain ⟨b0_0, b0_1⟩ := b0.c2
 obtain ⟨b1_0, b1_1⟩ := b1.c2
 obtain ⟨b2_0, b2_1, b2_2⟩ := b2.c3
 clear u2
 cases t2
 rotate_left
 · skip
   go_wp2_with fail
   ((with_reducible refine (works15 _).mono ?_))
   rintro e W3 ⟨rfl, u3⟩
   replace h := h.up u3
   replace h2 := h2.up u3
   replace h' := h'.up u3
   replace h2' := h2'.up u3
   replace hl := hl.up u3
   replace hm := hm.up u3
   replace b0 := b0.up u3
   replace b1 := b1.up u3
   replace b2 := b2.up u3
   replace UP := UP.trans u3
   clear b0_0 b0_1 b1_0 b1_1 b2_0 b2_1 b2_2
   obtain ⟨b0_0, b0_1⟩ := b0.c2
   obtain ⟨b1_0, b1_1⟩ := b1.c2
   obtain ⟨b2_0, b2_1, b2_2⟩ := b2.c3
   clear u3
   go_wp2
   go_ret
   exact ⟨rfl, UP⟩
 have g2 := Lib.hid (ht2.out rfl)
 clear ht2
 go_wp2_with fail
 ((with_reducible refine (ref_long9h (l := l) (m := m) 1 (K := 1) rfl (by omega)).mono ?_))
 rintro e W3 ⟨t3, rfl, ht3, u3⟩
 replace h := h.up u3
 replace h2 := h2.up u3
 replace h' := h'.up u3
 replace h2' := h2'.up u3
 replace hl := hl.up u3
 replace hm := hm.up u3
 replace b0 := b0.up u3
 replace b1 := b1.up u3
 replace b2 := b2.up u3
 replace UP := UP.trans u3
 clear b0_0 b0_1 b1_0 b1_1 b2_0 b2_1 b2_2
 obtain ⟨b0_0, b0_1⟩ := b0.c2
 obtain ⟨b1_0, b1_1⟩ := b1.c2
 obtain ⟨b2_0, b2_1, b2_2⟩ := b2.c3
 clear u3
 cases t3
 rotate_left
 · skip
   go_wp2_with fail
   ((with_reducible refine (works15 _).mono ?_))
   rintro e W4 ⟨rfl, u4⟩
   replace h := h.up u4
   replace h2 := h2.up u4
   replace h' := h'.up u4
   replace h2' := h2'.up u4
   replace hl := hl.up u4
   replace hm := hm.up u4
   replace b0 := b0.up u4
   replace b1 := b1.up u4
   replace b2 := b2.up u4
   replace UP := UP.trans u4
   clear b0_0 b0_1 b1_0 b1_1 b2_0 b2_1 b2_2
   obtain ⟨b0_0, b0_1⟩ := b0.c2
   obtain ⟨b1_0, b1_1⟩ := b1.c2
   obtain ⟨b2_0, b2_1, b2_2⟩ := b2.c3
   clear u4
   go_wp2
   go_ret
   exact ⟨rfl, UP⟩
 have g3 := Lib.hid (ht3.out rfl)
 clear ht3
 obtain ⟨p, q, fp, fq, lp3, lq3, ep, eq, LPQ⟩ := fun_letters h h2 g1.out
 obtain ⟨p', q', fp', fq', lp3', lq3', ep', eq', LPQ'⟩ := fun_letters h' h2' g2.out
 have FZ : Fr W3 (.agg #[.bool s, .slice A3 l.length c3, .slice B3 m.length d3]) (mkRat (Wd.iv s (Wd.val l)) (Wd.val m)) 1 := ⟨s, _, _, l, m, rfl, hl, hm, rfl, g3.out.1, g3.out.2, by omega⟩
 generalize (mkRat (Wd.iv s (Wd.val l)) (Wd.val m)) = z at *
 clear h h2 h' h2' hl hm
 clear g1 g2 g3
 rw [← ep, ← eq] at b0
 rw [← ep', ← eq'] at b1
 rw [← ep] at b0_0 fp
 rw [← eq] at b0_1 fq
 rw [← ep'] at b1_0 fp'
 rw [← eq'] at b1_1 fq'
 clear ep eq ep' eq'
 obtain ⟨P, D, HP, HD, lP, lD, LPD, DN⟩ := parts_letters p q (m := 3) lp3 lq3 (by omega) LPQ.out
 obtain ⟨P', D', HP', HD', lP', lD', LPD', DN'⟩ := parts_letters p' q' (m := 3) lp3' lq3' (by omega) LPQ'.out
 go_wp2_with fail
 ((with_reducible refine (law_to15 fp fq (by omega) (by omega)).mono ?_))
 rintro e W4 ⟨V4, U4, rfl, x, xe, u4⟩
 obtain ⟨Ax, cx, rfl⟩ := x.form
 obtain ⟨Axe, cxe, rfl⟩ := xe.form
 try simp only [List.length_cons, List.length_nil, Nat.zero_add] at xe
 replace fp := fp.up u4
 replace fq := fq.up u4
 replace fp' := fp'.up u4
 replace fq' := fq'.up u4
 replace FZ := FZ.up u4
 replace b0 := b0.up u4
 replace b1 := b1.up u4
 replace b2 := b2.up u4
 replace UP := UP.trans u4
 clear b0_0 b0_1 b1_0 b1_1 b2_0 b2_1 b2_2
 obtain ⟨b0_0, b0_1⟩ := b0.c2
 obtain ⟨b1_0, b1_1⟩ := b1.c2
 obtain ⟨b2_0, b2_1, b2_2⟩ := b2.c3
 clear u4
 clear fp fq
 have b0_0a := fun O0 => (cell_alloc (o := O0) b0_0)
 have b0_1a := fun O0 => (cell_alloc (o := O0) b0_1)
 have b1_0a := fun O0 => (cell_alloc (o := O0) b1_0)
 have b1_1a := fun O0 => (cell_alloc (o := O0) b1_1)
 have b2_0a := fun O0 => (cell_alloc (o := O0) b2_0)
 have b2_1a := fun O0 => (cell_alloc (o := O0) b2_1)
 have b2_2a := fun O0 => (cell_alloc (o := O0) b2_2)
 go_wp2_with fail
 clear b0_0a b0_1a b1_0a b1_1a b2_0a b2_1a b2_2a
 have x7 := Bx.new 120 W4 [.slice Ax p.length cx, .slice Axe q.length cxe]
 have b0_lt_x7 := b0.lt
 have b1_lt_x7 := b1.lt
 have b2_lt_x7 := b2.lt
 replace fp' := fp'.up ((Up.refl W4).alloc (.cells #[.slice Ax p.length cx, .slice Axe q.length cxe] 120))
 replace fq' := fq'.up ((Up.refl W4).alloc (.cells #[.slice Ax p.length cx, .slice Axe q.length cxe] 120))
 replace FZ := FZ.up ((Up.refl W4).alloc (.cells #[.slice Ax p.length cx, .slice Axe q.length cxe] 120))
 replace x := x.up ((Up.refl W4).alloc (.cells #[.slice Ax p.length cx, .slice Axe q.length cxe] 120))
 replace xe := xe.up ((Up.refl W4).alloc (.cells #[.slice Ax p.length cx, .slice Axe q.length cxe] 120))
 replace b0 := b0.up ((Up.refl W4).alloc (.cells #[.slice Ax p.length cx, .slice Axe q.length cxe] 120))
 replace b1 := b1.up ((Up.refl W4).alloc (.cells #[.slice Ax p.length cx, .slice Axe q.length cxe] 120))
 replace b2 := b2.up ((Up.refl W4).alloc (.cells #[.slice Ax p.length cx, .slice Axe q.length cxe] 120))
 replace UP := UP.trans ((Up.refl W4).alloc (.cells #[.slice Ax p.length cx, .slice Axe q.length cxe] 120))
 generalize (W4.alloc (.cells #[.slice Ax p.length cx, .slice Axe q.length cxe] 120)) = W5 at *
 clear b0_0 b0_1 b1_0 b1_1 b2_0 b2_1 b2_2
 obtain ⟨b0_0, b0_1⟩ := b0.c2
 obtain ⟨b1_0, b1_1⟩ := b1.c2
 obtain ⟨b2_0, b2_1, b2_2⟩ := b2.c3
 obtain ⟨x7_0, x7_1⟩ := x7.c2
 ((with_reducible refine (law_to15 fp' fq' (by omega) (by omega)).mono ?_))
 rintro e W6 ⟨V6, U6, rfl, y, ye, u6⟩
 obtain ⟨Ay, cy, rfl⟩ := y.form
 obtain ⟨Aye, cye, rfl⟩ := ye.form
 try simp only [List.length_cons, List.length_nil, Nat.zero_add] at ye
 replace fp' := fp'.up u6
 replace fq' := fq'.up u6
 replace FZ := FZ.up u6
 replace x := x.up u6
 replace xe := xe.up u6
 replace b0 := b0.up u6
 replace b1 := b1.up u6
 replace b2 := b2.up u6
 replace x7 := x7.up u6
 replace UP := UP.trans u6
 clear b0_0 b0_1 b1_0 b1_1 b2_0 b2_1 b2_2 x7_0 x7_1
 obtain ⟨b0_0, b0_1⟩ := b0.c2
 obtain ⟨b1_0, b1_1⟩ := b1.c2
 obtain ⟨b2_0, b2_1, b2_2⟩ := b2.c3
 obtain ⟨x7_0, x7_1⟩ := x7.c2
 clear u6
 clear fp' fq'
 have b0_0a := fun O0 => (cell_alloc (o := O0) b0_0)
 have b0_1a := fun O0 => (cell_alloc (o := O0) b0_1)
 have b1_0a := fun O0 => (cell_alloc (o := O0) b1_0)
 have b1_1a := fun O0 => (cell_alloc (o := O0) b1_1)
 have b2_0a := fun O0 => (cell_alloc (o := O0) b2_0)
 have b2_1a := fun O0 => (cell_alloc (o := O0) b2_1)
 have b2_2a := fun O0 => (cell_alloc (o := O0) b2_2)
 have x7_0a := fun O0 => (cell_alloc (o := O0) x7_0)
 have x7_1a := fun O0 => (cell_alloc (o := O0) x7_1)
 go_wp2_with fail
 clear b0_0a b0_1a b1_0a b1_1a b2_0a b2_1a b2_2a x7_0a x7_1a
 have x8 := Bx.new 120 W6 [.slice Ay p'.length cy, .slice Aye q'.length cye]
 have b0_lt_x8 := b0.lt
 have b1_lt_x8 := b1.lt
 have b2_lt_x8 := b2.lt
 have x7_lt_x8 := x7.lt
 replace FZ := FZ.up ((Up.refl W6).alloc (.cells #[.slice Ay p'.length cy, .slice Aye q'.length cye] 120))
 replace x := x.up ((Up.refl W6).alloc (.cells #[.slice Ay p'.length cy, .slice Aye q'.length cye] 120))
 replace xe := xe.up ((Up.refl W6).alloc (.cells #[.slice Ay p'.length cy, .slice Aye q'.length cye] 120))
 replace y := y.up ((Up.refl W6).alloc (.cells #[.slice Ay p'.length cy, .slice Aye q'.length cye] 120))
 replace ye := ye.up ((Up.refl W6).alloc (.cells #[.slice Ay p'.length cy, .slice Aye q'.length cye] 120))
 replace b0 := b0.up ((Up.refl W6).alloc (.cells #[.slice Ay p'.length cy, .slice Aye q'.length cye] 120))
 replace b1 := b1.up ((Up.refl W6).alloc (.cells #[.slice Ay p'.length cy, .slice Aye q'.length cye] 120))
 replace b2 := b2.up ((Up.refl W6).alloc (.cells #[.slice Ay p'.length cy, .slice Aye q'.length cye] 120))
 replace x7 := x7.up ((Up.refl W6).alloc (.cells #[.slice Ay p'.length cy, .slice Aye q'.length cye] 120))
 replace UP := UP.trans ((Up.refl W6).alloc (.cells #[.slice Ay p'.length cy, .slice Aye q'.length cye] 120))
 generalize (W6.alloc (.cells #[.slice Ay p'.length cy, .slice Aye q'.length cye] 120)) = W7 at *
 clear b0_0 b0_1 b1_0 b1_1 b2_0 b2_1 b2_2 x7_0 x7_1
 obtain ⟨b0_0, b0_1⟩ := b0.c2
 obtain ⟨b1_0, b1_1⟩ := b1.c2
 obtain ⟨b2_0, b2_1, b2_2⟩ := b2.c3
 obtain ⟨x7_0, x7_1⟩ := x7.c2
 obtain ⟨x8_0, x8_1⟩ := x8.c2
 ((with_reducible refine (ratf_diff x.fs xe.fs lp3 lq3 (by omega) LPQ.out 5 (by omega) (by omega) (K := 160) (by omega) (by omega) (by omega) (by omega) HP HD).mono ?_))
 rintro e W8 ⟨V8, U8, psdx, qsdx, rfl, dx, dxe, cadx, lpdx, ledx, u8⟩
 obtain ⟨Adx, cdx, rfl⟩ := dx.form
 obtain ⟨Adxe, cdxe, rfl⟩ := dxe.form
 replace FZ := FZ.up u8
 replace x := x.up u8
 replace xe := xe.up u8
 replace y := y.up u8
 replace ye := ye.up u8
 replace b0 := b0.up u8
 replace b1 := b1.up u8
 replace b2 := b2.up u8
 replace x7 := x7.up u8
 replace x8 := x8.up u8
 replace UP := UP.trans u8
 clear b0_0 b0_1 b1_0 b1_1 b2_0 b2_1 b2_2 x7_0 x7_1 x8_0 x8_1
 obtain ⟨b0_0, b0_1⟩ := b0.c2
 obtain ⟨b1_0, b1_1⟩ := b1.c2
 obtain ⟨b2_0, b2_1, b2_2⟩ := b2.c3
 obtain ⟨x7_0, x7_1⟩ := x7.c2
 obtain ⟨x8_0, x8_1⟩ := x8.c2
 clear u8
 have b0_0a := fun O0 => (cell_alloc (o := O0) b0_0)
 have b0_1a := fun O0 => (cell_alloc (o := O0) b0_1)
 have b1_0a := fun O0 => (cell_alloc (o := O0) b1_0)
 have b1_1a := fun O0 => (cell_alloc (o := O0) b1_1)
 have b2_0a := fun O0 => (cell_alloc (o := O0) b2_0)
 have b2_1a := fun O0 => (cell_alloc (o := O0) b2_1)
 have b2_2a := fun O0 => (cell_alloc (o := O0) b2_2)
 have x7_0a := fun O0 => (cell_alloc (o := O0) x7_0)
 have x7_1a := fun O0 => (cell_alloc (o := O0) x7_1)
 have x8_0a := fun O0 => (cell_alloc (o := O0) x8_0)
 have x8_1a := fun O0 => (cell_alloc (o := O0) x8_1)
 go_wp2_with fail
 clear b0_0a b0_1a b1_0a b1_1a b2_0a b2_1a b2_2a x7_0a x7_1a x8_0a x8_1a
 have x9 := Bx.new 120 W8 [.slice Adx psdx.length cdx, .slice Adxe qsdx.length cdxe]
 have b0_lt_x9 := b0.lt
 have b1_lt_x9 := b1.lt
 have b2_lt_x9 := b2.lt
 have x7_lt_x9 := x7.lt
 have x8_lt_x9 := x8.lt
 replace FZ := FZ.up ((Up.refl W8).alloc (.cells #[.slice Adx psdx.length cdx, .slice Adxe qsdx.length cdxe] 120))
 replace x := x.up ((Up.refl W8).alloc (.cells #[.slice Adx psdx.length cdx, .slice Adxe qsdx.length cdxe] 120))
 replace xe := xe.up ((Up.refl W8).alloc (.cells #[.slice Adx psdx.length cdx, .slice Adxe qsdx.length cdxe] 120))
 replace y := y.up ((Up.refl W8).alloc (.cells #[.slice Adx psdx.length cdx, .slice Adxe qsdx.length cdxe] 120))
 replace ye := ye.up ((Up.refl W8).alloc (.cells #[.slice Adx psdx.length cdx, .slice Adxe qsdx.length cdxe] 120))
 replace dx := dx.up ((Up.refl W8).alloc (.cells #[.slice Adx psdx.length cdx, .slice Adxe qsdx.length cdxe] 120))
 replace dxe := dxe.up ((Up.refl W8).alloc (.cells #[.slice Adx psdx.length cdx, .slice Adxe qsdx.length cdxe] 120))
 replace b0 := b0.up ((Up.refl W8).alloc (.cells #[.slice Adx psdx.length cdx, .slice Adxe qsdx.length cdxe] 120))
 replace b1 := b1.up ((Up.refl W8).alloc (.cells #[.slice Adx psdx.length cdx, .slice Adxe qsdx.length cdxe] 120))
 replace b2 := b2.up ((Up.refl W8).alloc (.cells #[.slice Adx psdx.length cdx, .slice Adxe qsdx.length cdxe] 120))
 replace x7 := x7.up ((Up.refl W8).alloc (.cells #[.slice Adx psdx.length cdx, .slice Adxe qsdx.length cdxe] 120))
 replace x8 := x8.up ((Up.refl W8).alloc (.cells #[.slice Adx psdx.length cdx, .slice Adxe qsdx.length cdxe] 120))
 replace UP := UP.trans ((Up.refl W8).alloc (.cells #[.slice Adx psdx.length cdx, .slice Adxe qsdx.length cdxe] 120))
 generalize (W8.alloc (.cells #[.slice Adx psdx.length cdx, .slice Adxe qsdx.length cdxe] 120)) = W9 at *
 clear b0_0 b0_1 b1_0 b1_1 b2_0 b2_1 b2_2 x7_0 x7_1 x8_0 x8_1
 obtain ⟨b0_0, b0_1⟩ := b0.c2
 obtain ⟨b1_0, b1_1⟩ := b1.c2
 obtain ⟨b2_0, b2_1, b2_2⟩ := b2.c3
 obtain ⟨x7_0, x7_1⟩ := x7.c2
 obtain ⟨x8_0, x8_1⟩ := x8.c2
 obtain ⟨x9_0, x9_1⟩ := x9.c2
 ((with_reducible refine (ratf_diff y.fs ye.fs lp3' lq3' (by omega) LPQ'.out 5 (by omega) (by omega) (K := 160) (by omega) (by omega) (by omega) (by omega) HP' HD').mono ?_))
 rintro e W10 ⟨V10, U10, psdy, qsdy, rfl, dy, dye, cady, lpdy, ledy, u10⟩
 obtain ⟨Ady, cdy, rfl⟩ := dy.form
 obtain ⟨Adye, cdye, rfl⟩ := dye.form
 replace FZ := FZ.up u10
 replace x := x.up u10
 replace xe := xe.up u10
 replace y := y.up u10
 replace ye := ye.up u10
 replace dx := dx.up u10
 replace dxe := dxe.up u10
 replace b0 := b0.up u10
 replace b1 := b1.up u10
 replace b2 := b2.up u10
 replace x7 := x7.up u10
 replace x8 := x8.up u10
 replace x9 := x9.up u10
 replace UP := UP.trans u10
 clear b0_0 b0_1 b1_0 b1_1 b2_0 b2_1 b2_2 x7_0 x7_1 x8_0 x8_1 x9_0 x9_1
 obtain ⟨b0_0, b0_1⟩ := b0.c2
 obtain ⟨b1_0, b1_1⟩ := b1.c2
 obtain ⟨b2_0, b2_1, b2_2⟩ := b2.c3
 obtain ⟨x7_0, x7_1⟩ := x7.c2
 obtain ⟨x8_0, x8_1⟩ := x8.c2
 obtain ⟨x9_0, x9_1⟩ := x9.c2
 clear u10
 have b0_0a := fun O0 => (cell_alloc (o := O0) b0_0)
 have b0_1a := fun O0 => (cell_alloc (o := O0) b0_1)
 have b1_0a := fun O0 => (cell_alloc (o := O0) b1_0)
 have b1_1a := fun O0 => (cell_alloc (o := O0) b1_1)
 have b2_0a := fun O0 => (cell_alloc (o := O0) b2_0)
 have b2_1a := fun O0 => (cell_alloc (o := O0) b2_1)
 have b2_2a := fun O0 => (cell_alloc (o := O0) b2_2)
 have x7_0a := fun O0 => (cell_alloc (o := O0) x7_0)
 have x7_1a := fun O0 => (cell_alloc (o := O0) x7_1)
 have x8_0a := fun O0 => (cell_alloc (o := O0) x8_0)
 have x8_1a := fun O0 => (cell_alloc (o := O0) x8_1)
 have x9_0a := fun O0 => (cell_alloc (o := O0) x9_0)
 have x9_1a := fun O0 => (cell_alloc (o := O0) x9_1)
 go_wp2_with fail
 clear b0_0a b0_1a b1_0a b1_1a b2_0a b2_1a b2_2a x7_0a x7_1a x8_0a x8_1a x9_0a x9_1a
 have x10 := Bx.new 120 W10 [.slice Ady psdy.length cdy, .slice Adye qsdy.length cdye]
 have b0_lt_x10 := b0.lt
 have b1_lt_x10 := b1.lt
 have b2_lt_x10 := b2.lt
 have x7_lt_x10 := x7.lt
 have x8_lt_x10 := x8.lt
 have x9_lt_x10 := x9.lt
 replace FZ := FZ.up ((Up.refl W10).alloc (.cells #[.slice Ady psdy.length cdy, .slice Adye qsdy.length cdye] 120))
 replace x := x.up ((Up.refl W10).alloc (.cells #[.slice Ady psdy.length cdy, .slice Adye qsdy.length cdye] 120))
 replace xe := xe.up ((Up.refl W10).alloc (.cells #[.slice Ady psdy.length cdy, .slice Adye qsdy.length cdye] 120))
 replace y := y.up ((Up.refl W10).alloc (.cells #[.slice Ady psdy.length cdy, .slice Adye qsdy.length cdye] 120))
 replace ye := ye.up ((Up.refl W10).alloc (.cells #[.slice Ady psdy.length cdy, .slice Adye qsdy.length cdye] 120))
 replace dx := dx.up ((Up.refl W10).alloc (.cells #[.slice Ady psdy.length cdy, .slice Adye qsdy.length cdye] 120))
 replace dxe := dxe.up ((Up.refl W10).alloc (.cells #[.slice Ady psdy.length cdy, .slice Adye qsdy.length cdye] 120))
 replace dy := dy.up ((Up.refl W10).alloc (.cells #[.slice Ady psdy.length cdy, .slice Adye qsdy.length cdye] 120))
 replace dye := dye.up ((Up.refl W10).alloc (.cells #[.slice Ady psdy.length cdy, .slice Adye qsdy.length cdye] 120))
 replace b0 := b0.up ((Up.refl W10).alloc (.cells #[.slice Ady psdy.length cdy, .slice Adye qsdy.length cdye] 120))
 replace b1 := b1.up ((Up.refl W10).alloc (.cells #[.slice Ady psdy.length cdy, .slice Adye qsdy.length cdye] 120))
 replace b2 := b2.up ((Up.refl W10).alloc (.cells #[.slice Ady psdy.length cdy, .slice Adye qsdy.length cdye] 120))
 replace x7 := x7.up ((Up.refl W10).alloc (.cells #[.slice Ady psdy.length cdy, .slice Adye qsdy.length cdye] 120))
 replace x8 := x8.up ((Up.refl W10).alloc (.cells #[.slice Ady psdy.length cdy, .slice Adye qsdy.length cdye] 120))
 replace x9 := x9.up ((Up.refl W10).alloc (.cells #[.slice Ady psdy.length cdy, .slice Adye qsdy.length cdye] 120))
 replace UP := UP.trans ((Up.refl W10).alloc (.cells #[.slice Ady psdy.length cdy, .slice Adye qsdy.length cdye] 120))
 generalize (W10.alloc (.cells #[.slice Ady psdy.length cdy, .slice Adye qsdy.length cdye] 120)) = W11 at *
 clear b0_0 b0_1 b1_0 b1_1 b2_0 b2_1 b2_2 x7_0 x7_1 x8_0 x8_1 x9_0 x9_1
 obtain ⟨b0_0, b0_1⟩ := b0.c2
 obtain ⟨b1_0, b1_1⟩ := b1.c2
 obtain ⟨b2_0, b2_1, b2_2⟩ := b2.c3
 obtain ⟨x7_0, x7_1⟩ := x7.c2
 obtain ⟨x8_0, x8_1⟩ := x8.c2
 obtain ⟨x9_0, x9_1⟩ := x9.c2
 obtain ⟨x10_0, x10_1⟩ := x10.c2
 obtain ⟨RZ, HRZ⟩ : ∃ r, Hid (Pq.nm [z] = r) := ⟨_, Lib.hid rfl⟩
 have lRZ : RZ.length ≤ 1 := by rw [← HRZ.out]; exact Pq.nm_len _
 have LRZ : Hid (Pq.Lp (RZ ++ [1]) 5) := Lib.hid ((Pq.Lp.few (k := 2) (fun y hy => by
  rcases List.mem_append.1 hy with hy | hy
  · rw [← HRZ.out] at hy
    rw [List.mem_singleton.1 (Pq.nm_mem hy)]; exact FZ.lq.mono (by omega)
  · rw [List.mem_singleton.1 hy]; exact lq_one)).mono (by rw [List.length_append]; simp; omega))
 have fdx := dx.fs
 have fdxe := dxe.fs
 have fdy := dy.fs
 have fdye := dye.fs
 have fx := x.fs.mono (show 2 ≤ 160 by omega)
 have fxe := xe.fs.mono (show 2 ≤ 160 by omega)
 have fy := y.fs.mono (show 2 ≤ 160 by omega)
 have fye := ye.fs.mono (show 2 ≤ 160 by omega)
 clear x xe y ye dx dxe dy dye
 have PX := Lib.hid (Pq.pu_of (p := psdx) cadx.out.nd)
 have QX := Lib.hid (Pq.pd_of (p := psdx) cadx.out.nd)
 have PY := Lib.hid (Pq.pu_of (p := psdy) cady.out.nd)
 have QY := Lib.hid (Pq.pd_of (p := psdy) cady.out.nd)
 replace FZ := FZ.up (Up.refl W11).drew
 replace fx := fx.up (Up.refl W11).drew
 replace fxe := fxe.up (Up.refl W11).drew
 replace fy := fy.up (Up.refl W11).drew
 replace fye := fye.up (Up.refl W11).drew
 replace fdx := fdx.up (Up.refl W11).drew
 replace fdxe := fdxe.up (Up.refl W11).drew
 replace fdy := fdy.up (Up.refl W11).drew
 replace fdye := fdye.up (Up.refl W11).drew
 replace b0 := b0.up (Up.refl W11).drew
 replace b1 := b1.up (Up.refl W11).drew
 replace b2 := b2.up (Up.refl W11).drew
 replace x7 := x7.up (Up.refl W11).drew
 replace x8 := x8.up (Up.refl W11).drew
 replace x9 := x9.up (Up.refl W11).drew
 replace x10 := x10.up (Up.refl W11).drew
 replace UP := UP.trans (Up.refl W11).drew
 clear b0_0 b0_1 b1_0 b1_1 b2_0 b2_1 b2_2 x7_0 x7_1 x8_0 x8_1 x9_0 x9_1 x10_0 x10_1
 obtain ⟨b0_0, b0_1⟩ := b0.c2
 obtain ⟨b1_0, b1_1⟩ := b1.c2
 obtain ⟨b2_0, b2_1, b2_2⟩ := b2.c3
 obtain ⟨x7_0, x7_1⟩ := x7.c2
 obtain ⟨x8_0, x8_1⟩ := x8.c2
 obtain ⟨x9_0, x9_1⟩ := x9.c2
 obtain ⟨x10_0, x10_1⟩ := x10.c2
 refine wp_region_noPanic ?_
 refine wp_region_held_drew (S := fun w' => Up w w' ∧ w'.cell? ⟨w.heap.size + 1 + 1, 0, none⟩ = some (.bool s) ∧ w'.cell? ⟨w.heap.size + 1 + 1, 1, none⟩ = some (.slice A3 l.length c3) ∧ w'.cell? ⟨w.heap.size + 1 + 1, 2, none⟩ = some (.slice B3 m.length d3) ∧ w'.cell? ⟨W4.heap.size, 0, none⟩ = some (.slice Ax p.length cx) ∧ w'.cell? ⟨W4.heap.size, 1, none⟩ = some (.slice Axe q.length cxe) ∧ w'.cell? ⟨W6.heap.size, 0, none⟩ = some (.slice Ay p'.length cy) ∧ w'.cell? ⟨W6.heap.size, 1, none⟩ = some (.slice Aye q'.length cye) ∧ w'.cell? ⟨W8.heap.size, 0, none⟩ = some (.slice Adx psdx.length cdx) ∧ w'.cell? ⟨W8.heap.size, 1, none⟩ = some (.slice Adxe qsdx.length cdxe) ∧ w'.cell? ⟨W10.heap.size, 0, none⟩ = some (.slice Ady psdy.length cdy) ∧ w'.cell? ⟨W10.heap.size, 1, none⟩ = some (.slice Adye qsdy.length cdye)) (by kernel_rfl) ?_ (fun hHeld => ?_)
 · with_reducible exact ⟨UP, b2_0, b2_1, b2_2, x7_0, x7_1, x8_0, x8_1, x9_0, x9_1, x10_0, x10_1⟩
 refine wpAnyH_take (i := 0) (v := ?_) rfl (by kernel_rfl) (by kernel_rfl) (by kernel_rfl) (fun _ _ _ h => h) (Or.inl ⟨by rfl, ?_⟩) (by assumption) ?_
 rotate_left
 · (intro w hSw; (try dsimp only at hSw); go_simp; first | done | with_reducible rfl)
 try simp only [List.getElem_toArray, List.getElem_cons_zero, List.getElem_cons_succ, Act.put, List.setIfInBounds_toArray, List.set_cons_zero, List.set_cons_succ]
 refine wpAnyH_take (i := 1) (v := ?_) rfl (by kernel_rfl) (by kernel_rfl) (by kernel_rfl) (fun _ _ _ h => h) (Or.inl ⟨by rfl, ?_⟩) (by assumption) ?_
 rotate_left
 · (intro w hSw; (try dsimp only at hSw); go_simp; first | done | with_reducible rfl)
 try simp only [List.getElem_toArray, List.getElem_cons_zero, List.getElem_cons_succ, Act.put, List.setIfInBounds_toArray, List.set_cons_zero, List.set_cons_succ]
 refine wpAnyH_take (i := 4) (v := ?_) rfl (by kernel_rfl) (by kernel_rfl) (by kernel_rfl) (fun _ _ _ h => h) (Or.inl ⟨by rfl, ?_⟩) (by assumption) ?_
 rotate_left
 · (intro w hSw; (try dsimp only at hSw); go_simp; first | done | with_reducible rfl)
 try simp only [List.getElem_toArray, List.getElem_cons_zero, List.getElem_cons_succ, Act.put, List.setIfInBounds_toArray, List.set_cons_zero, List.set_cons_succ]
 refine wpAnyH_take (i := 5) (v := ?_) rfl (by kernel_rfl) (by kernel_rfl) (by kernel_rfl) (fun _ _ _ h => h) (Or.inl ⟨by rfl, ?_⟩) (by assumption) ?_
 rotate_left
 · (intro w hSw; (try dsimp only at hSw); go_simp; first | done | with_reducible rfl)
 try simp only [List.getElem_toArray, List.getElem_cons_zero, List.getElem_cons_succ, Act.put, List.setIfInBounds_toArray, List.set_cons_zero, List.set_cons_succ]
 refine wpAnyH_ready (rs := [2]) (by kernel_rfl) (by simp) ?_
 refine AllReadyH.cons rfl (fun K hK => ?_) AllReadyH.nil
 go_simp
 (first
   | (go_at_call 84
      ((with_reducible refine (ratf_add (k := 160) fx fxe lp3 lq3 (by omega) LPQ.out fy fye lp3' lq3' (by omega) LPQ'.out 5 (by omega) (by omega) (K := 160) (by omega) (by omega) (by omega) (by omega) HP HD HP' HD').mono ?_))
      rintro e W12 ⟨V12, U12, psr1, qsr1, rfl, r1, r1e, car1, lpr1, ler1, u12⟩
      obtain ⟨Ar1, cr1, rfl⟩ := r1.form
      obtain ⟨Ar1e, cr1e, rfl⟩ := r1e.form
      replace FZ := FZ.up u12
      replace fx := fx.up u12
      replace fxe := fxe.up u12
      replace fy := fy.up u12
      replace fye := fye.up u12
      replace fdx := fdx.up u12
      replace fdxe := fdxe.up u12
      replace fdy := fdy.up u12
      replace fdye := fdye.up u12
      try (replace r1 := r1.up u12)
      try (replace r1e := r1e.up u12)
      try (replace r2 := r2.up u12)
      try (replace r2e := r2e.up u12)
      try (replace r3 := r3.up u12)
      try (replace r3e := r3e.up u12)
      try (replace r4 := r4.up u12)
      try (replace r4e := r4e.up u12)
      try (replace r5 := r5.up u12)
      try (replace r5e := r5e.up u12)
      try (replace r6 := r6.up u12)
      try (replace r6e := r6e.up u12)
      try (replace r7 := r7.up u12)
      try (replace r7e := r7e.up u12)
      try (replace r8 := r8.up u12)
      try (replace r8e := r8e.up u12)
      try (replace r9 := r9.up u12)
      try (replace r9e := r9e.up u12)
      try (replace u1 := u1.up u12)
      try (replace u1e := u1e.up u12)
      replace b0 := b0.up u12
      replace b1 := b1.up u12
      replace b2 := b2.up u12
      replace x7 := x7.up u12
      replace x8 := x8.up u12
      replace x9 := x9.up u12
      replace x10 := x10.up u12
      replace UP := UP.trans u12
      clear b0_0 b0_1 b1_0 b1_1 b2_0 b2_1 b2_2 x7_0 x7_1 x8_0 x8_1 x9_0 x9_1 x10_0 x10_1
      obtain ⟨b0_0, b0_1⟩ := b0.c2
      obtain ⟨b1_0, b1_1⟩ := b1.c2
      obtain ⟨b2_0, b2_1, b2_2⟩ := b2.c3
      obtain ⟨x7_0, x7_1⟩ := x7.c2
      obtain ⟨x8_0, x8_1⟩ := x8.c2
      obtain ⟨x9_0, x9_1⟩ := x9.c2
      obtain ⟨x10_0, x10_1⟩ := x10.c2
      clear u12))
 try go_wp2_with fail
 try clear hHeld
 refine hK.out _ _ ?_ (fun hHeld => ?_)
 · with_reducible exact ⟨UP, b2_0, b2_1, b2_2, x7_0, x7_1, x8_0, x8_1, x9_0, x9_1, x10_0, x10_1⟩
 clear hK K
 try simp only [List.getElem_toArray, List.getElem_cons_zero, List.getElem_cons_succ, Act.put, List.setIfInBounds_toArray, List.set_cons_zero, List.set_cons_succ]
 refine wpAnyH_ready (rs := [3]) (by kernel_rfl) (by simp) ?_
 refine AllReadyH.cons rfl (fun K hK => ?_) AllReadyH.nil
 go_simp
 (first
   | (go_at_call 88
      ((with_reducible refine (ratf_diff (k := 160) r1.fs r1e.fs ler1.out.1 ler1.out.2 (by omega) lpr1.out 9 (by omega) (by omega) (K := 5796) (by omega) (by omega) (by omega) (by omega) (Lib.hid (Pq.pu_of car1.out.nd)) (Lib.hid (Pq.pd_of car1.out.nd))).mono ?_))
      rintro e W13 ⟨V13, U13, psr2, qsr2, rfl, r2, r2e, car2, lpr2, ler2, u13⟩
      obtain ⟨Ar2, cr2, rfl⟩ := r2.form
      obtain ⟨Ar2e, cr2e, rfl⟩ := r2e.form
      replace FZ := FZ.up u13
      replace fx := fx.up u13
      replace fxe := fxe.up u13
      replace fy := fy.up u13
      replace fye := fye.up u13
      replace fdx := fdx.up u13
      replace fdxe := fdxe.up u13
      replace fdy := fdy.up u13
      replace fdye := fdye.up u13
      try (replace r1 := r1.up u13)
      try (replace r1e := r1e.up u13)
      try (replace r2 := r2.up u13)
      try (replace r2e := r2e.up u13)
      try (replace r3 := r3.up u13)
      try (replace r3e := r3e.up u13)
      try (replace r4 := r4.up u13)
      try (replace r4e := r4e.up u13)
      try (replace r5 := r5.up u13)
      try (replace r5e := r5e.up u13)
      try (replace r6 := r6.up u13)
      try (replace r6e := r6e.up u13)
      try (replace r7 := r7.up u13)
      try (replace r7e := r7e.up u13)
      try (replace r8 := r8.up u13)
      try (replace r8e := r8e.up u13)
      try (replace r9 := r9.up u13)
      try (replace r9e := r9e.up u13)
      try (replace u1 := u1.up u13)
      try (replace u1e := u1e.up u13)
      replace b0 := b0.up u13
      replace b1 := b1.up u13
      replace b2 := b2.up u13
      replace x7 := x7.up u13
      replace x8 := x8.up u13
      replace x9 := x9.up u13
      replace x10 := x10.up u13
      replace UP := UP.trans u13
      clear b0_0 b0_1 b1_0 b1_1 b2_0 b2_1 b2_2 x7_0 x7_1 x8_0 x8_1 x9_0 x9_1 x10_0 x10_1
      obtain ⟨b0_0, b0_1⟩ := b0.c2
      obtain ⟨b1_0, b1_1⟩ := b1.c2
      obtain ⟨b2_0, b2_1, b2_2⟩ := b2.c3
      obtain ⟨x7_0, x7_1⟩ := x7.c2
      obtain ⟨x8_0, x8_1⟩ := x8.c2
      obtain ⟨x9_0, x9_1⟩ := x9.c2
      obtain ⟨x10_0, x10_1⟩ := x10.c2
      clear u13))
 try go_wp2_with fail
 try clear hHeld
 refine hK.out _ _ ?_ (fun hHeld => ?_)
 · with_reducible exact ⟨UP, b2_0, b2_1, b2_2, x7_0, x7_1, x8_0, x8_1, x9_0, x9_1, x10_0, x10_1⟩
 clear hK K
 try simp only [List.getElem_toArray, List.getElem_cons_zero, List.getElem_cons_succ, Act.put, List.setIfInBounds_toArray, List.set_cons_zero, List.set_cons_succ]
 refine wpAnyH_ready (rs := [6]) (by kernel_rfl) (by simp) ?_
 refine AllReadyH.cons rfl (fun K hK => ?_) AllReadyH.nil
 go_simp
 (first
   | (go_at_call 84
      ((with_reducible refine (ratf_add (k := 160) fdx fdxe ledx.out.1 ledx.out.2 (by omega) lpdx.out fdy fdye ledy.out.1 ledy.out.2 (by omega) lpdy.out 9 (by omega) (by omega) (K := 5796) (by omega) (by omega) (by omega) (by omega) PX QX PY QY).mono ?_))
      rintro e W14 ⟨V14, U14, psr3, qsr3, rfl, r3, r3e, car3, lpr3, ler3, u14⟩
      obtain ⟨Ar3, cr3, rfl⟩ := r3.form
      obtain ⟨Ar3e, cr3e, rfl⟩ := r3e.form
      replace FZ := FZ.up u14
      replace fx := fx.up u14
      replace fxe := fxe.up u14
      replace fy := fy.up u14
      replace fye := fye.up u14
      replace fdx := fdx.up u14
      replace fdxe := fdxe.up u14
      replace fdy := fdy.up u14
      replace fdye := fdye.up u14
      try (replace r1 := r1.up u14)
      try (replace r1e := r1e.up u14)
      try (replace r2 := r2.up u14)
      try (replace r2e := r2e.up u14)
      try (replace r3 := r3.up u14)
      try (replace r3e := r3e.up u14)
      try (replace r4 := r4.up u14)
      try (replace r4e := r4e.up u14)
      try (replace r5 := r5.up u14)
      try (replace r5e := r5e.up u14)
      try (replace r6 := r6.up u14)
      try (replace r6e := r6e.up u14)
      try (replace r7 := r7.up u14)
      try (replace r7e := r7e.up u14)
      try (replace r8 := r8.up u14)
      try (replace r8e := r8e.up u14)
      try (replace r9 := r9.up u14)
      try (replace r9e := r9e.up u14)
      try (replace u1 := u1.up u14)
      try (replace u1e := u1e.up u14)
      replace b0 := b0.up u14
      replace b1 := b1.up u14
      replace b2 := b2.up u14
      replace x7 := x7.up u14
      replace x8 := x8.up u14
      replace x9 := x9.up u14
      replace x10 := x10.up u14
      replace UP := UP.trans u14
      clear b0_0 b0_1 b1_0 b1_1 b2_0 b2_1 b2_2 x7_0 x7_1 x8_0 x8_1 x9_0 x9_1 x10_0 x10_1
      obtain ⟨b0_0, b0_1⟩ := b0.c2
      obtain ⟨b1_0, b1_1⟩ := b1.c2
      obtain ⟨b2_0, b2_1, b2_2⟩ := b2.c3
      obtain ⟨x7_0, x7_1⟩ := x7.c2
      obtain ⟨x8_0, x8_1⟩ := x8.c2
      obtain ⟨x9_0, x9_1⟩ := x9.c2
      obtain ⟨x10_0, x10_1⟩ := x10.c2
      clear u14))
 try go_wp2_with fail
 try clear hHeld
 refine hK.out _ _ ?_ (fun hHeld => ?_)
 · with_reducible exact ⟨UP, b2_0, b2_1, b2_2, x7_0, x7_1, x8_0, x8_1, x9_0, x9_1, x10_0, x10_1⟩
 clear hK K
 try simp only [List.getElem_toArray, List.getElem_cons_zero, List.getElem_cons_succ, Act.put, List.setIfInBounds_toArray, List.set_cons_zero, List.set_cons_succ]
 refine wpAnyH_ready (rs := [7]) (by kernel_rfl) (by simp) ?_
 refine AllReadyH.cons rfl (fun K hK => ?_) AllReadyH.nil
 go_simp
 (first
   | (go_at_call 89
      ((with_reducible refine (ratf_same (k := 5796) r2.fs r2e.fs ler2.out.1 ler2.out.2 (by omega) lpr2.out r3.fs r3e.fs ler3.out.1 ler3.out.2 (by omega) lpr3.out (by omega) (by omega) (by omega) (by omega) (Lib.hid (Pq.pu_of car2.out.nd)) (Lib.hid (Pq.pd_of car2.out.nd)) (Lib.hid (Pq.pu_of car3.out.nd)) (Lib.hid (Pq.pd_of car3.out.nd)) (Lib.hid (Pq.same_pair (Pq.leib_sum DN.out DN'.out car1.out car2.out cadx.out cady.out car3.out)))).mono ?_))
      rintro e W15 ⟨rfl, u15⟩
      replace FZ := FZ.up u15
      replace fx := fx.up u15
      replace fxe := fxe.up u15
      replace fy := fy.up u15
      replace fye := fye.up u15
      replace fdx := fdx.up u15
      replace fdxe := fdxe.up u15
      replace fdy := fdy.up u15
      replace fdye := fdye.up u15
      try (replace r1 := r1.up u15)
      try (replace r1e := r1e.up u15)
      try (replace r2 := r2.up u15)
      try (replace r2e := r2e.up u15)
      try (replace r3 := r3.up u15)
      try (replace r3e := r3e.up u15)
      try (replace r4 := r4.up u15)
      try (replace r4e := r4e.up u15)
      try (replace r5 := r5.up u15)
      try (replace r5e := r5e.up u15)
      try (replace r6 := r6.up u15)
      try (replace r6e := r6e.up u15)
      try (replace r7 := r7.up u15)
      try (replace r7e := r7e.up u15)
      try (replace r8 := r8.up u15)
      try (replace r8e := r8e.up u15)
      try (replace r9 := r9.up u15)
      try (replace r9e := r9e.up u15)
      try (replace u1 := u1.up u15)
      try (replace u1e := u1e.up u15)
      replace b0 := b0.up u15
      replace b1 := b1.up u15
      replace b2 := b2.up u15
      replace x7 := x7.up u15
      replace x8 := x8.up u15
      replace x9 := x9.up u15
      replace x10 := x10.up u15
      replace UP := UP.trans u15
      clear b0_0 b0_1 b1_0 b1_1 b2_0 b2_1 b2_2 x7_0 x7_1 x8_0 x8_1 x9_0 x9_1 x10_0 x10_1
      obtain ⟨b0_0, b0_1⟩ := b0.c2
      obtain ⟨b1_0, b1_1⟩ := b1.c2
      obtain ⟨b2_0, b2_1, b2_2⟩ := b2.c3
      obtain ⟨x7_0, x7_1⟩ := x7.c2
      obtain ⟨x8_0, x8_1⟩ := x8.c2
      obtain ⟨x9_0, x9_1⟩ := x9.c2
      obtain ⟨x10_0, x10_1⟩ := x10.c2
      clear u15))
 try go_wp2_with fail
 try clear hHeld
 refine hK.out _ _ ?_ (fun hHeld => ?_)
 · with_reducible exact ⟨UP, b2_0, b2_1, b2_2, x7_0, x7_1, x8_0, x8_1, x9_0, x9_1, x10_0, x10_1⟩
 clear hK K
 try simp only [List.getElem_toArray, List.getElem_cons_zero, List.getElem_cons_succ, Act.put, List.setIfInBounds_toArray, List.set_cons_zero, List.set_cons_succ]
 refine wpAnyH_take (i := 8) (v := ?_) rfl (by kernel_rfl) (by kernel_rfl) (by kernel_rfl) (fun _ _ _ h => h) (Or.inl ⟨by rfl, ?_⟩) (by assumption) ?_
 rotate_left
 · (intro w hSw; (try dsimp only at hSw); go_simp; first | done | with_reducible rfl)
 try simp only [List.getElem_toArray, List.getElem_cons_zero, List.getElem_cons_succ, Act.put, List.setIfInBounds_toArray, List.set_cons_zero, List.set_cons_succ]
 refine wpAnyH_take (i := 9) (v := ?_) rfl (by kernel_rfl) (by kernel_rfl) (by kernel_rfl) (fun _ _ _ h => h) (Or.inl ⟨by rfl, ?_⟩) (by assumption) ?_
 rotate_left
 · (intro w hSw; (try dsimp only at hSw); go_simp; first | done | with_reducible rfl)
 try simp only [List.getElem_toArray, List.getElem_cons_zero, List.getElem_cons_succ, Act.put, List.setIfInBounds_toArray, List.set_cons_zero, List.set_cons_succ]
 refine wpAnyH_take (i := 10) (v := ?_) rfl (by kernel_rfl) (by kernel_rfl) (by kernel_rfl) (fun _ _ _ h => h) (Or.inl ⟨by rfl, ?_⟩) (by assumption) ?_
 rotate_left
 · (intro w hSw; (try dsimp only at hSw); go_simp; first | done | with_reducible rfl)
 try simp only [List.getElem_toArray, List.getElem_cons_zero, List.getElem_cons_succ, Act.put, List.setIfInBounds_toArray, List.set_cons_zero, List.set_cons_succ]
 refine wpAnyH_take (i := 13) (v := ?_) rfl (by kernel_rfl) (by kernel_rfl) (by kernel_rfl) (fun _ _ _ h => h) (Or.inl ⟨by rfl, ?_⟩) (by assumption) ?_
 rotate_left
 · (intro w hSw; (try dsimp only at hSw); go_simp; first | done | with_reducible rfl)
 try simp only [List.getElem_toArray, List.getElem_cons_zero, List.getElem_cons_succ, Act.put, List.setIfInBounds_toArray, List.set_cons_zero, List.set_cons_succ]
 refine wpAnyH_take (i := 14) (v := ?_) rfl (by kernel_rfl) (by kernel_rfl) (by kernel_rfl) (fun _ _ _ h => h) (Or.inl ⟨by rfl, ?_⟩) (by assumption) ?_
 rotate_left
 · (intro w hSw; (try dsimp only at hSw); go_simp; first | done | with_reducible rfl)
 try simp only [List.getElem_toArray, List.getElem_cons_zero, List.getElem_cons_succ, Act.put, List.setIfInBounds_toArray, List.set_cons_zero, List.set_cons_succ]
 refine wpAnyH_take (i := 16) (v := ?_) rfl (by kernel_rfl) (by kernel_rfl) (by kernel_rfl) (fun _ _ _ h => h) (Or.inl ⟨by rfl, ?_⟩) (by assumption) ?_
 rotate_left
 · (intro w hSw; (try dsimp only at hSw); go_simp; first | done | with_reducible rfl)
 try simp only [List.getElem_toArray, List.getElem_cons_zero, List.getElem_cons_succ, Act.put, List.setIfInBounds_toArray, List.set_cons_zero, List.set_cons_succ]
 refine wpAnyH_take (i := 17) (v := ?_) rfl (by kernel_rfl) (by kernel_rfl) (by kernel_rfl) (fun _ _ _ h => h) (Or.inl ⟨by rfl, ?_⟩) (by assumption) ?_
 rotate_left
 · (intro w hSw; (try dsimp only at hSw); go_simp; first | done | with_reducible rfl)
 try simp only [List.getElem_toArray, List.getElem_cons_zero, List.getElem_cons_succ, Act.put, List.setIfInBounds_toArray, List.set_cons_zero, List.set_cons_succ]
 refine wpAnyH_ready (rs := [11]) (by kernel_rfl) (by simp) ?_
 refine AllReadyH.cons rfl (fun K hK => ?_) AllReadyH.nil
 go_simp
 (first
   | (go_at_call 86
      ((with_reducible refine (ratf_mul (k := 160) fx fxe lp3 lq3 (by omega) LPQ.out fy fye lp3' lq3' (by omega) LPQ'.out 5 (by omega) (by omega) (K := 160) (by omega) (by omega) (by omega) (by omega) HP HD HP' HD').mono ?_))
      rintro e W16 ⟨V16, U16, psr4, qsr4, rfl, r4, r4e, car4, lpr4, ler4, u16⟩
      obtain ⟨Ar4, cr4, rfl⟩ := r4.form
      obtain ⟨Ar4e, cr4e, rfl⟩ := r4e.form
      replace FZ := FZ.up u16
      replace fx := fx.up u16
      replace fxe := fxe.up u16
      replace fy := fy.up u16
      replace fye := fye.up u16
      replace fdx := fdx.up u16
      replace fdxe := fdxe.up u16
      replace fdy := fdy.up u16
      replace fdye := fdye.up u16
      try (replace r1 := r1.up u16)
      try (replace r1e := r1e.up u16)
      try (replace r2 := r2.up u16)
      try (replace r2e := r2e.up u16)
      try (replace r3 := r3.up u16)
      try (replace r3e := r3e.up u16)
      try (replace r4 := r4.up u16)
      try (replace r4e := r4e.up u16)
      try (replace r5 := r5.up u16)
      try (replace r5e := r5e.up u16)
      try (replace r6 := r6.up u16)
      try (replace r6e := r6e.up u16)
      try (replace r7 := r7.up u16)
      try (replace r7e := r7e.up u16)
      try (replace r8 := r8.up u16)
      try (replace r8e := r8e.up u16)
      try (replace r9 := r9.up u16)
      try (replace r9e := r9e.up u16)
      try (replace u1 := u1.up u16)
      try (replace u1e := u1e.up u16)
      replace b0 := b0.up u16
      replace b1 := b1.up u16
      replace b2 := b2.up u16
      replace x7 := x7.up u16
      replace x8 := x8.up u16
      replace x9 := x9.up u16
      replace x10 := x10.up u16
      replace UP := UP.trans u16
      clear b0_0 b0_1 b1_0 b1_1 b2_0 b2_1 b2_2 x7_0 x7_1 x8_0 x8_1 x9_0 x9_1 x10_0 x10_1
      obtain ⟨b0_0, b0_1⟩ := b0.c2
      obtain ⟨b1_0, b1_1⟩ := b1.c2
      obtain ⟨b2_0, b2_1, b2_2⟩ := b2.c3
      obtain ⟨x7_0, x7_1⟩ := x7.c2
      obtain ⟨x8_0, x8_1⟩ := x8.c2
      obtain ⟨x9_0, x9_1⟩ := x9.c2
      obtain ⟨x10_0, x10_1⟩ := x10.c2
      clear u16))
 try go_wp2_with fail
 try clear hHeld
 refine hK.out _ _ ?_ (fun hHeld => ?_)
 · with_reducible exact ⟨UP, b2_0, b2_1, b2_2, x7_0, x7_1, x8_0, x8_1, x9_0, x9_1, x10_0, x10_1⟩
 clear hK K
 try simp only [List.getElem_toArray, List.getElem_cons_zero, List.getElem_cons_succ, Act.put, List.setIfInBounds_toArray, List.set_cons_zero, List.set_cons_succ]
 refine wpAnyH_ready (rs := [12]) (by kernel_rfl) (by simp) ?_
 refine AllReadyH.cons rfl (fun K hK => ?_) AllReadyH.nil
 go_simp
 (first
   | (go_at_call 88
      ((with_reducible refine (ratf_diff (k := 160) r4.fs r4e.fs ler4.out.1 ler4.out.2 (by omega) lpr4.out 9 (by omega) (by omega) (K := 5796) (by omega) (by omega) (by omega) (by omega) (Lib.hid (Pq.pu_of car4.out.nd)) (Lib.hid (Pq.pd_of car4.out.nd))).mono ?_))
      rintro e W17 ⟨V17, U17, psr5, qsr5, rfl, r5, r5e, car5, lpr5, ler5, u17⟩
      obtain ⟨Ar5, cr5, rfl⟩ := r5.form
      obtain ⟨Ar5e, cr5e, rfl⟩ := r5e.form
      replace FZ := FZ.up u17
      replace fx := fx.up u17
      replace fxe := fxe.up u17
      replace fy := fy.up u17
      replace fye := fye.up u17
      replace fdx := fdx.up u17
      replace fdxe := fdxe.up u17
      replace fdy := fdy.up u17
      replace fdye := fdye.up u17
      try (replace r1 := r1.up u17)
      try (replace r1e := r1e.up u17)
      try (replace r2 := r2.up u17)
      try (replace r2e := r2e.up u17)
      try (replace r3 := r3.up u17)
      try (replace r3e := r3e.up u17)
      try (replace r4 := r4.up u17)
      try (replace r4e := r4e.up u17)
      try (replace r5 := r5.up u17)
      try (replace r5e := r5e.up u17)
      try (replace r6 := r6.up u17)
      try (replace r6e := r6e.up u17)
      try (replace r7 := r7.up u17)
      try (replace r7e := r7e.up u17)
      try (replace r8 := r8.up u17)
      try (replace r8e := r8e.up u17)
      try (replace r9 := r9.up u17)
      try (replace r9e := r9e.up u17)
      try (replace u1 := u1.up u17)
      try (replace u1e := u1e.up u17)
      replace b0 := b0.up u17
      replace b1 := b1.up u17
      replace b2 := b2.up u17
      replace x7 := x7.up u17
      replace x8 := x8.up u17
      replace x9 := x9.up u17
      replace x10 := x10.up u17
      replace UP := UP.trans u17
      clear b0_0 b0_1 b1_0 b1_1 b2_0 b2_1 b2_2 x7_0 x7_1 x8_0 x8_1 x9_0 x9_1 x10_0 x10_1
      obtain ⟨b0_0, b0_1⟩ := b0.c2
      obtain ⟨b1_0, b1_1⟩ := b1.c2
      obtain ⟨b2_0, b2_1, b2_2⟩ := b2.c3
      obtain ⟨x7_0, x7_1⟩ := x7.c2
      obtain ⟨x8_0, x8_1⟩ := x8.c2
      obtain ⟨x9_0, x9_1⟩ := x9.c2
      obtain ⟨x10_0, x10_1⟩ := x10.c2
      clear u17))
 try go_wp2_with fail
 try clear hHeld
 refine hK.out _ _ ?_ (fun hHeld => ?_)
 · with_reducible exact ⟨UP, b2_0, b2_1, b2_2, x7_0, x7_1, x8_0, x8_1, x9_0, x9_1, x10_0, x10_1⟩
 clear hK K
 try simp only [List.getElem_toArray, List.getElem_cons_zero, List.getElem_cons_succ, Act.put, List.setIfInBounds_toArray, List.set_cons_zero, List.set_cons_succ]
 refine wpAnyH_ready (rs := [15]) (by kernel_rfl) (by simp) ?_
 refine AllReadyH.cons rfl (fun K hK => ?_) AllReadyH.nil
 go_simp
 (first
   | (go_at_call 86
      ((with_reducible refine (ratf_mul (k := 160) fdx fdxe ledx.out.1 ledx.out.2 (by omega) lpdx.out fy fye lp3' lq3' (by omega) LPQ'.out 7 (by omega) (by omega) (K := 2366) (by omega) (by omega) (by omega) (by omega) PX QX HP' HD').mono ?_))
      rintro e W18 ⟨V18, U18, psr6, qsr6, rfl, r6, r6e, car6, lpr6, ler6, u18⟩
      obtain ⟨Ar6, cr6, rfl⟩ := r6.form
      obtain ⟨Ar6e, cr6e, rfl⟩ := r6e.form
      replace FZ := FZ.up u18
      replace fx := fx.up u18
      replace fxe := fxe.up u18
      replace fy := fy.up u18
      replace fye := fye.up u18
      replace fdx := fdx.up u18
      replace fdxe := fdxe.up u18
      replace fdy := fdy.up u18
      replace fdye := fdye.up u18
      try (replace r1 := r1.up u18)
      try (replace r1e := r1e.up u18)
      try (replace r2 := r2.up u18)
      try (replace r2e := r2e.up u18)
      try (replace r3 := r3.up u18)
      try (replace r3e := r3e.up u18)
      try (replace r4 := r4.up u18)
      try (replace r4e := r4e.up u18)
      try (replace r5 := r5.up u18)
      try (replace r5e := r5e.up u18)
      try (replace r6 := r6.up u18)
      try (replace r6e := r6e.up u18)
      try (replace r7 := r7.up u18)
      try (replace r7e := r7e.up u18)
      try (replace r8 := r8.up u18)
      try (replace r8e := r8e.up u18)
      try (replace r9 := r9.up u18)
      try (replace r9e := r9e.up u18)
      try (replace u1 := u1.up u18)
      try (replace u1e := u1e.up u18)
      replace b0 := b0.up u18
      replace b1 := b1.up u18
      replace b2 := b2.up u18
      replace x7 := x7.up u18
      replace x8 := x8.up u18
      replace x9 := x9.up u18
      replace x10 := x10.up u18
      replace UP := UP.trans u18
      clear b0_0 b0_1 b1_0 b1_1 b2_0 b2_1 b2_2 x7_0 x7_1 x8_0 x8_1 x9_0 x9_1 x10_0 x10_1
      obtain ⟨b0_0, b0_1⟩ := b0.c2
      obtain ⟨b1_0, b1_1⟩ := b1.c2
      obtain ⟨b2_0, b2_1, b2_2⟩ := b2.c3
      obtain ⟨x7_0, x7_1⟩ := x7.c2
      obtain ⟨x8_0, x8_1⟩ := x8.c2
      obtain ⟨x9_0, x9_1⟩ := x9.c2
      obtain ⟨x10_0, x10_1⟩ := x10.c2
      clear u18))
 try go_wp2_with fail
 try clear hHeld
 refine hK.out _ _ ?_ (fun hHeld => ?_)
 · with_reducible exact ⟨UP, b2_0, b2_1, b2_2, x7_0, x7_1, x8_0, x8_1, x9_0, x9_1, x10_0, x10_1⟩
 clear hK K
 try simp only [List.getElem_toArray, List.getElem_cons_zero, List.getElem_cons_succ, Act.put, List.setIfInBounds_toArray, List.set_cons_zero, List.set_cons_succ]
 refine wpAnyH_ready (rs := [18]) (by kernel_rfl) (by simp) ?_
 refine AllReadyH.cons rfl (fun K hK => ?_) AllReadyH.nil
 go_simp
 (first
   | (go_at_call 86
      ((with_reducible refine (ratf_mul (k := 160) fx fxe lp3 lq3 (by omega) LPQ.out fdy fdye ledy.out.1 ledy.out.2 (by omega) lpdy.out 7 (by omega) (by omega) (K := 2366) (by omega) (by omega) (by omega) (by omega) HP HD PY QY).mono ?_))
      rintro e W19 ⟨V19, U19, psr7, qsr7, rfl, r7, r7e, car7, lpr7, ler7, u19⟩
      obtain ⟨Ar7, cr7, rfl⟩ := r7.form
      obtain ⟨Ar7e, cr7e, rfl⟩ := r7e.form
      replace FZ := FZ.up u19
      replace fx := fx.up u19
      replace fxe := fxe.up u19
      replace fy := fy.up u19
      replace fye := fye.up u19
      replace fdx := fdx.up u19
      replace fdxe := fdxe.up u19
      replace fdy := fdy.up u19
      replace fdye := fdye.up u19
      try (replace r1 := r1.up u19)
      try (replace r1e := r1e.up u19)
      try (replace r2 := r2.up u19)
      try (replace r2e := r2e.up u19)
      try (replace r3 := r3.up u19)
      try (replace r3e := r3e.up u19)
      try (replace r4 := r4.up u19)
      try (replace r4e := r4e.up u19)
      try (replace r5 := r5.up u19)
      try (replace r5e := r5e.up u19)
      try (replace r6 := r6.up u19)
      try (replace r6e := r6e.up u19)
      try (replace r7 := r7.up u19)
      try (replace r7e := r7e.up u19)
      try (replace r8 := r8.up u19)
      try (replace r8e := r8e.up u19)
      try (replace r9 := r9.up u19)
      try (replace r9e := r9e.up u19)
      try (replace u1 := u1.up u19)
      try (replace u1e := u1e.up u19)
      replace b0 := b0.up u19
      replace b1 := b1.up u19
      replace b2 := b2.up u19
      replace x7 := x7.up u19
      replace x8 := x8.up u19
      replace x9 := x9.up u19
      replace x10 := x10.up u19
      replace UP := UP.trans u19
      clear b0_0 b0_1 b1_0 b1_1 b2_0 b2_1 b2_2 x7_0 x7_1 x8_0 x8_1 x9_0 x9_1 x10_0 x10_1
      obtain ⟨b0_0, b0_1⟩ := b0.c2
      obtain ⟨b1_0, b1_1⟩ := b1.c2
      obtain ⟨b2_0, b2_1, b2_2⟩ := b2.c3
      obtain ⟨x7_0, x7_1⟩ := x7.c2
      obtain ⟨x8_0, x8_1⟩ := x8.c2
      obtain ⟨x9_0, x9_1⟩ := x9.c2
      obtain ⟨x10_0, x10_1⟩ := x10.c2
      clear u19))
 try go_wp2_with fail
 try clear hHeld
 refine hK.out _ _ ?_ (fun hHeld => ?_)
 · with_reducible exact ⟨UP, b2_0, b2_1, b2_2, x7_0, x7_1, x8_0, x8_1, x9_0, x9_1, x10_0, x10_1⟩
 clear hK K
 try simp only [List.getElem_toArray, List.getElem_cons_zero, List.getElem_cons_succ, Act.put, List.setIfInBounds_toArray, List.set_cons_zero, List.set_cons_succ]
 refine wpAnyH_ready (rs := [19]) (by kernel_rfl) (by simp) ?_
 refine AllReadyH.cons rfl (fun K hK => ?_) AllReadyH.nil
 go_simp
 (first
   | (go_at_call 84
      ((with_reducible refine (ratf_add (k := 2366) r6.fs r6e.fs ler6.out.1 ler6.out.2 (by omega) lpr6.out r7.fs r7e.fs ler7.out.1 ler7.out.2 (by omega) lpr7.out 13 (by omega) (by omega) (K := 123084) (by omega) (by omega) (by omega) (by omega) (Lib.hid (Pq.pu_of car6.out.nd)) (Lib.hid (Pq.pd_of car6.out.nd)) (Lib.hid (Pq.pu_of car7.out.nd)) (Lib.hid (Pq.pd_of car7.out.nd))).mono ?_))
      rintro e W20 ⟨V20, U20, psr8, qsr8, rfl, r8, r8e, car8, lpr8, ler8, u20⟩
      obtain ⟨Ar8, cr8, rfl⟩ := r8.form
      obtain ⟨Ar8e, cr8e, rfl⟩ := r8e.form
      replace FZ := FZ.up u20
      replace fx := fx.up u20
      replace fxe := fxe.up u20
      replace fy := fy.up u20
      replace fye := fye.up u20
      replace fdx := fdx.up u20
      replace fdxe := fdxe.up u20
      replace fdy := fdy.up u20
      replace fdye := fdye.up u20
      try (replace r1 := r1.up u20)
      try (replace r1e := r1e.up u20)
      try (replace r2 := r2.up u20)
      try (replace r2e := r2e.up u20)
      try (replace r3 := r3.up u20)
      try (replace r3e := r3e.up u20)
      try (replace r4 := r4.up u20)
      try (replace r4e := r4e.up u20)
      try (replace r5 := r5.up u20)
      try (replace r5e := r5e.up u20)
      try (replace r6 := r6.up u20)
      try (replace r6e := r6e.up u20)
      try (replace r7 := r7.up u20)
      try (replace r7e := r7e.up u20)
      try (replace r8 := r8.up u20)
      try (replace r8e := r8e.up u20)
      try (replace r9 := r9.up u20)
      try (replace r9e := r9e.up u20)
      try (replace u1 := u1.up u20)
      try (replace u1e := u1e.up u20)
      replace b0 := b0.up u20
      replace b1 := b1.up u20
      replace b2 := b2.up u20
      replace x7 := x7.up u20
      replace x8 := x8.up u20
      replace x9 := x9.up u20
      replace x10 := x10.up u20
      replace UP := UP.trans u20
      clear b0_0 b0_1 b1_0 b1_1 b2_0 b2_1 b2_2 x7_0 x7_1 x8_0 x8_1 x9_0 x9_1 x10_0 x10_1
      obtain ⟨b0_0, b0_1⟩ := b0.c2
      obtain ⟨b1_0, b1_1⟩ := b1.c2
      obtain ⟨b2_0, b2_1, b2_2⟩ := b2.c3
      obtain ⟨x7_0, x7_1⟩ := x7.c2
      obtain ⟨x8_0, x8_1⟩ := x8.c2
      obtain ⟨x9_0, x9_1⟩ := x9.c2
      obtain ⟨x10_0, x10_1⟩ := x10.c2
      clear u20))
 try go_wp2_with fail
 try clear hHeld
 refine hK.out _ _ ?_ (fun hHeld => ?_)
 · with_reducible exact ⟨UP, b2_0, b2_1, b2_2, x7_0, x7_1, x8_0, x8_1, x9_0, x9_1, x10_0, x10_1⟩
 clear hK K
 try simp only [List.getElem_toArray, List.getElem_cons_zero, List.getElem_cons_succ, Act.put, List.setIfInBounds_toArray, List.set_cons_zero, List.set_cons_succ]
 refine wpAnyH_ready (rs := [20]) (by kernel_rfl) (by simp) ?_
 refine AllReadyH.cons rfl (fun K hK => ?_) AllReadyH.nil
 go_simp
 (first
   | (go_at_call 89
      ((with_reducible refine (ratf_same (k := 123084) (r5.fs.mono (by omega)) (r5e.fs.mono (by omega)) ler5.out.1 ler5.out.2 (by omega) lpr5.out r8.fs r8e.fs ler8.out.1 ler8.out.2 (by omega) lpr8.out (by omega) (by omega) (by omega) (by omega) (Lib.hid (Pq.pu_of car5.out.nd)) (Lib.hid (Pq.pd_of car5.out.nd)) (Lib.hid (Pq.pu_of car8.out.nd)) (Lib.hid (Pq.pd_of car8.out.nd)) (Lib.hid (Pq.same_pair (Pq.leib_prod DN.out DN'.out car4.out car5.out cadx.out cady.out car6.out car7.out car8.out)))).mono ?_))
      rintro e W21 ⟨rfl, u21⟩
      replace FZ := FZ.up u21
      replace fx := fx.up u21
      replace fxe := fxe.up u21
      replace fy := fy.up u21
      replace fye := fye.up u21
      replace fdx := fdx.up u21
      replace fdxe := fdxe.up u21
      replace fdy := fdy.up u21
      replace fdye := fdye.up u21
      try (replace r1 := r1.up u21)
      try (replace r1e := r1e.up u21)
      try (replace r2 := r2.up u21)
      try (replace r2e := r2e.up u21)
      try (replace r3 := r3.up u21)
      try (replace r3e := r3e.up u21)
      try (replace r4 := r4.up u21)
      try (replace r4e := r4e.up u21)
      try (replace r5 := r5.up u21)
      try (replace r5e := r5e.up u21)
      try (replace r6 := r6.up u21)
      try (replace r6e := r6e.up u21)
      try (replace r7 := r7.up u21)
      try (replace r7e := r7e.up u21)
      try (replace r8 := r8.up u21)
      try (replace r8e := r8e.up u21)
      try (replace r9 := r9.up u21)
      try (replace r9e := r9e.up u21)
      try (replace u1 := u1.up u21)
      try (replace u1e := u1e.up u21)
      replace b0 := b0.up u21
      replace b1 := b1.up u21
      replace b2 := b2.up u21
      replace x7 := x7.up u21
      replace x8 := x8.up u21
      replace x9 := x9.up u21
      replace x10 := x10.up u21
      replace UP := UP.trans u21
      clear b0_0 b0_1 b1_0 b1_1 b2_0 b2_1 b2_2 x7_0 x7_1 x8_0 x8_1 x9_0 x9_1 x10_0 x10_1
      obtain ⟨b0_0, b0_1⟩ := b0.c2
      obtain ⟨b1_0, b1_1⟩ := b1.c2
      obtain ⟨b2_0, b2_1, b2_2⟩ := b2.c3
      obtain ⟨x7_0, x7_1⟩ := x7.c2
      obtain ⟨x8_0, x8_1⟩ := x8.c2
      obtain ⟨x9_0, x9_1⟩ := x9.c2
      obtain ⟨x10_0, x10_1⟩ := x10.c2
      clear u21))
 try go_wp2_with fail
 try clear hHeld
 refine hK.out _ _ ?_ (fun hHeld => ?_)
 · with_reducible exact ⟨UP, b2_0, b2_1, b2_2, x7_0, x7_1, x8_0, x8_1, x9_0, x9_1, x10_0, x10_1⟩
 clear hK K
 try simp only [List.getElem_toArray, List.getElem_cons_zero, List.getElem_cons_succ, Act.put, List.setIfInBounds_toArray, List.set_cons_zero, List.set_cons_succ]
 refine wpAnyH_take (i := 21) (v := ?_) rfl (by kernel_rfl) (by kernel_rfl) (by kernel_rfl) (fun _ _ _ h => h) (Or.inl ⟨by rfl, ?_⟩) (by assumption) ?_
 rotate_left
 · (intro w hSw; (try dsimp only at hSw); go_simp; first | done | with_reducible rfl)
 try simp only [List.getElem_toArray, List.getElem_cons_zero, List.getElem_cons_succ, Act.put, List.setIfInBounds_toArray, List.set_cons_zero, List.set_cons_succ]
 refine wpAnyH_take (i := 22) (v := ?_) rfl (by kernel_rfl) (by kernel_rfl) (by kernel_rfl) (fun _ _ _ h => h) (Or.inl ⟨by rfl, ?_⟩) (by assumption) ?_
 rotate_left
 · (intro w hSw; (try dsimp only at hSw); go_simp; first | done | with_reducible rfl)
 try simp only [List.getElem_toArray, List.getElem_cons_zero, List.getElem_cons_succ, Act.put, List.setIfInBounds_toArray, List.set_cons_zero, List.set_cons_succ]
 refine wpAnyH_take (i := 23) (v := ?_) rfl (by kernel_rfl) (by kernel_rfl) (by kernel_rfl) (fun _ _ _ h => h) (Or.inl ⟨by rfl, ?_⟩) (by assumption) ?_
 rotate_left
 · (intro w hSw; (try dsimp only at hSw); go_simp; first | done | with_reducible rfl)
 try simp only [List.getElem_toArray, List.getElem_cons_zero, List.getElem_cons_succ, Act.put, List.setIfInBounds_toArray, List.set_cons_zero, List.set_cons_succ]
 refine wpAnyH_ready (rs := [24]) (by kernel_rfl) (by simp) ?_
 refine AllReadyH.cons rfl (fun K hK => ?_) AllReadyH.nil
 go_simp
 (first
   | (go_at_call 38
      ((with_reducible refine (law_to9 _ _ _ _ _ _ _ _).mono ?_))
      rintro e W22 ⟨rfl, u22⟩
      replace FZ := FZ.up u22
      replace fx := fx.up u22
      replace fxe := fxe.up u22
      replace fy := fy.up u22
      replace fye := fye.up u22
      replace fdx := fdx.up u22
      replace fdxe := fdxe.up u22
      replace fdy := fdy.up u22
      replace fdye := fdye.up u22
      try (replace r1 := r1.up u22)
      try (replace r1e := r1e.up u22)
      try (replace r2 := r2.up u22)
      try (replace r2e := r2e.up u22)
      try (replace r3 := r3.up u22)
      try (replace r3e := r3e.up u22)
      try (replace r4 := r4.up u22)
      try (replace r4e := r4e.up u22)
      try (replace r5 := r5.up u22)
      try (replace r5e := r5e.up u22)
      try (replace r6 := r6.up u22)
      try (replace r6e := r6e.up u22)
      try (replace r7 := r7.up u22)
      try (replace r7e := r7e.up u22)
      try (replace r8 := r8.up u22)
      try (replace r8e := r8e.up u22)
      try (replace r9 := r9.up u22)
      try (replace r9e := r9e.up u22)
      try (replace u1 := u1.up u22)
      try (replace u1e := u1e.up u22)
      replace b0 := b0.up u22
      replace b1 := b1.up u22
      replace b2 := b2.up u22
      replace x7 := x7.up u22
      replace x8 := x8.up u22
      replace x9 := x9.up u22
      replace x10 := x10.up u22
      replace UP := UP.trans u22
      clear b0_0 b0_1 b1_0 b1_1 b2_0 b2_1 b2_2 x7_0 x7_1 x8_0 x8_1 x9_0 x9_1 x10_0 x10_1
      obtain ⟨b0_0, b0_1⟩ := b0.c2
      obtain ⟨b1_0, b1_1⟩ := b1.c2
      obtain ⟨b2_0, b2_1, b2_2⟩ := b2.c3
      obtain ⟨x7_0, x7_1⟩ := x7.c2
      obtain ⟨x8_0, x8_1⟩ := x8.c2
      obtain ⟨x9_0, x9_1⟩ := x9.c2
      obtain ⟨x10_0, x10_1⟩ := x10.c2
      clear u22))
 try go_wp2_with fail
 try clear hHeld
 refine hK.out _ _ ?_ (fun hHeld => ?_)
 · with_reducible exact ⟨UP, b2_0, b2_1, b2_2, x7_0, x7_1, x8_0, x8_1, x9_0, x9_1, x10_0, x10_1⟩
 clear hK K
 try simp only [List.getElem_toArray, List.getElem_cons_zero, List.getElem_cons_succ, Act.put, List.setIfInBounds_toArray, List.set_cons_zero, List.set_cons_succ]
 refine wpAnyH_ready (rs := [25]) (by kernel_rfl) (by simp) ?_
 refine AllReadyH.cons rfl (fun K hK => ?_) AllReadyH.nil
 go_simp
 (first
   | (go_at_call 91
      ((with_reducible refine (ratf_of (k := 2) (FZ.mono (by omega)) (by omega) (by omega) HRZ).mono ?_))
      rintro e W23 ⟨V23, U23, rfl, r9, r9e, u23⟩
      obtain ⟨Ar9, cr9, rfl⟩ := r9.form
      obtain ⟨Ar9e, cr9e, rfl⟩ := r9e.form
      try simp only [List.length_cons, List.length_nil, Nat.zero_add] at r9e
      replace FZ := FZ.up u23
      replace fx := fx.up u23
      replace fxe := fxe.up u23
      replace fy := fy.up u23
      replace fye := fye.up u23
      replace fdx := fdx.up u23
      replace fdxe := fdxe.up u23
      replace fdy := fdy.up u23
      replace fdye := fdye.up u23
      try (replace r1 := r1.up u23)
      try (replace r1e := r1e.up u23)
      try (replace r2 := r2.up u23)
      try (replace r2e := r2e.up u23)
      try (replace r3 := r3.up u23)
      try (replace r3e := r3e.up u23)
      try (replace r4 := r4.up u23)
      try (replace r4e := r4e.up u23)
      try (replace r5 := r5.up u23)
      try (replace r5e := r5e.up u23)
      try (replace r6 := r6.up u23)
      try (replace r6e := r6e.up u23)
      try (replace r7 := r7.up u23)
      try (replace r7e := r7e.up u23)
      try (replace r8 := r8.up u23)
      try (replace r8e := r8e.up u23)
      try (replace r9 := r9.up u23)
      try (replace r9e := r9e.up u23)
      try (replace u1 := u1.up u23)
      try (replace u1e := u1e.up u23)
      replace b0 := b0.up u23
      replace b1 := b1.up u23
      replace b2 := b2.up u23
      replace x7 := x7.up u23
      replace x8 := x8.up u23
      replace x9 := x9.up u23
      replace x10 := x10.up u23
      replace UP := UP.trans u23
      clear b0_0 b0_1 b1_0 b1_1 b2_0 b2_1 b2_2 x7_0 x7_1 x8_0 x8_1 x9_0 x9_1 x10_0 x10_1
      obtain ⟨b0_0, b0_1⟩ := b0.c2
      obtain ⟨b1_0, b1_1⟩ := b1.c2
      obtain ⟨b2_0, b2_1, b2_2⟩ := b2.c3
      obtain ⟨x7_0, x7_1⟩ := x7.c2
      obtain ⟨x8_0, x8_1⟩ := x8.c2
      obtain ⟨x9_0, x9_1⟩ := x9.c2
      obtain ⟨x10_0, x10_1⟩ := x10.c2
      clear u23))
 try go_wp2_with fail
 try clear hHeld
 refine hK.out _ _ ?_ (fun hHeld => ?_)
 · with_reducible exact ⟨UP, b2_0, b2_1, b2_2, x7_0, x7_1, x8_0, x8_1, x9_0, x9_1, x10_0, x10_1⟩
 clear hK K
 try simp only [List.getElem_toArray, List.getElem_cons_zero, List.getElem_cons_succ, Act.put, List.setIfInBounds_toArray, List.set_cons_zero, List.set_cons_succ]
 refine wpAnyH_ready (rs := [26]) (by kernel_rfl) (by simp) ?_
 refine AllReadyH.cons rfl (fun K hK => ?_) AllReadyH.nil
 go_simp
 (first
   | (go_at_call 88
      ((with_reducible refine (ratf_diff (k := 2) (m := 1) r9.fs r9e.fs lRZ (by simp) (by omega) LRZ.out 1 (by omega) (by omega) (K := 24) (by omega) (by omega) (by omega) (by omega) (Lib.hid (Pq.pu_of Pq.one_ne)) (Lib.hid (Pq.pd_of Pq.one_ne))).mono ?_))
      rintro e W24 ⟨V24, U24, psu1, qsu1, rfl, u1, u1e, cau1, lpu1, leu1, u24⟩
      obtain ⟨Au1, cu1, rfl⟩ := u1.form
      obtain ⟨Au1e, cu1e, rfl⟩ := u1e.form
      replace FZ := FZ.up u24
      replace fx := fx.up u24
      replace fxe := fxe.up u24
      replace fy := fy.up u24
      replace fye := fye.up u24
      replace fdx := fdx.up u24
      replace fdxe := fdxe.up u24
      replace fdy := fdy.up u24
      replace fdye := fdye.up u24
      try (replace r1 := r1.up u24)
      try (replace r1e := r1e.up u24)
      try (replace r2 := r2.up u24)
      try (replace r2e := r2e.up u24)
      try (replace r3 := r3.up u24)
      try (replace r3e := r3e.up u24)
      try (replace r4 := r4.up u24)
      try (replace r4e := r4e.up u24)
      try (replace r5 := r5.up u24)
      try (replace r5e := r5e.up u24)
      try (replace r6 := r6.up u24)
      try (replace r6e := r6e.up u24)
      try (replace r7 := r7.up u24)
      try (replace r7e := r7e.up u24)
      try (replace r8 := r8.up u24)
      try (replace r8e := r8e.up u24)
      try (replace r9 := r9.up u24)
      try (replace r9e := r9e.up u24)
      try (replace u1 := u1.up u24)
      try (replace u1e := u1e.up u24)
      replace b0 := b0.up u24
      replace b1 := b1.up u24
      replace b2 := b2.up u24
      replace x7 := x7.up u24
      replace x8 := x8.up u24
      replace x9 := x9.up u24
      replace x10 := x10.up u24
      replace UP := UP.trans u24
      clear b0_0 b0_1 b1_0 b1_1 b2_0 b2_1 b2_2 x7_0 x7_1 x8_0 x8_1 x9_0 x9_1 x10_0 x10_1
      obtain ⟨b0_0, b0_1⟩ := b0.c2
      obtain ⟨b1_0, b1_1⟩ := b1.c2
      obtain ⟨b2_0, b2_1, b2_2⟩ := b2.c3
      obtain ⟨x7_0, x7_1⟩ := x7.c2
      obtain ⟨x8_0, x8_1⟩ := x8.c2
      obtain ⟨x9_0, x9_1⟩ := x9.c2
      obtain ⟨x10_0, x10_1⟩ := x10.c2
      clear u24))
 try go_wp2_with fail
 try clear hHeld
 refine hK.out _ _ ?_ (fun hHeld => ?_)
 · with_reducible exact ⟨UP, b2_0, b2_1, b2_2, x7_0, x7_1, x8_0, x8_1, x9_0, x9_1, x10_0, x10_1⟩
 clear hK K
 try simp only [List.getElem_toArray, List.getElem_cons_zero, List.getElem_cons_succ, Act.put, List.setIfInBounds_toArray, List.set_cons_zero, List.set_cons_succ]
 refine wpAnyH_ready (rs := [27]) (by kernel_rfl) (by simp) ?_
 refine AllReadyH.cons rfl (fun K hK => ?_) AllReadyH.nil
 go_simp
 (first
   | (go_at_call 90
      ((with_reducible refine (ratf_zero (k := 24) u1.fs u1e.fs (by have := leu1.out; omega) (by have := leu1.out; omega) (by omega) (by omega) (Lib.hid (Pq.pu_of cau1.out.nd)) (Lib.hid (Pq.pd_of cau1.out.nd))).mono ?_))
      rintro e W25 ⟨rfl, u25⟩
      replace FZ := FZ.up u25
      replace fx := fx.up u25
      replace fxe := fxe.up u25
      replace fy := fy.up u25
      replace fye := fye.up u25
      replace fdx := fdx.up u25
      replace fdxe := fdxe.up u25
      replace fdy := fdy.up u25
      replace fdye := fdye.up u25
      try (replace r1 := r1.up u25)
      try (replace r1e := r1e.up u25)
      try (replace r2 := r2.up u25)
      try (replace r2e := r2e.up u25)
      try (replace r3 := r3.up u25)
      try (replace r3e := r3e.up u25)
      try (replace r4 := r4.up u25)
      try (replace r4e := r4e.up u25)
      try (replace r5 := r5.up u25)
      try (replace r5e := r5e.up u25)
      try (replace r6 := r6.up u25)
      try (replace r6e := r6e.up u25)
      try (replace r7 := r7.up u25)
      try (replace r7e := r7e.up u25)
      try (replace r8 := r8.up u25)
      try (replace r8e := r8e.up u25)
      try (replace r9 := r9.up u25)
      try (replace r9e := r9e.up u25)
      try (replace u1 := u1.up u25)
      try (replace u1e := u1e.up u25)
      replace b0 := b0.up u25
      replace b1 := b1.up u25
      replace b2 := b2.up u25
      replace x7 := x7.up u25
      replace x8 := x8.up u25
      replace x9 := x9.up u25
      replace x10 := x10.up u25
      replace UP := UP.trans u25
      clear b0_0 b0_1 b1_0 b1_1 b2_0 b2_1 b2_2 x7_0 x7_1 x8_0 x8_1 x9_0 x9_1 x10_0 x10_1
      obtain ⟨b0_0, b0_1⟩ := b0.c2
      obtain ⟨b1_0, b1_1⟩ := b1.c2
      obtain ⟨b2_0, b2_1, b2_2⟩ := b2.c3
      obtain ⟨x7_0, x7_1⟩ := x7.c2
      obtain ⟨x8_0, x8_1⟩ := x8.c2
      obtain ⟨x9_0, x9_1⟩ := x9.c2
      obtain ⟨x10_0, x10_1⟩ := x10.c2
      clear u25
      rw [decide_eq_true (Pq.der_const HRZ.out cau1.out)]))
 try go_wp2_with fail
 try clear hHeld
 refine hK.out _ _ ?_ (fun hHeld => ?_)
 · with_reducible exact ⟨UP, b2_0, b2_1, b2_2, x7_0, x7_1, x8_0, x8_1, x9_0, x9_1, x10_0, x10_1⟩
 clear hK K
 try simp only [List.getElem_toArray, List.getElem_cons_zero, List.getElem_cons_succ, Act.put, List.setIfInBounds_toArray, List.set_cons_zero, List.set_cons_succ]
 refine wpAnyH_take (i := 28) (v := ?_) rfl (by kernel_rfl) (by kernel_rfl) (by kernel_rfl) (fun _ _ _ h => h) (Or.inl ⟨by rfl, ?_⟩) (by assumption) ?_
 rotate_left
 · (intro w hSw; (try dsimp only at hSw); go_simp; first | done | with_reducible rfl)
 try simp only [List.getElem_toArray, List.getElem_cons_zero, List.getElem_cons_succ, Act.put, List.setIfInBounds_toArray, List.set_cons_zero, List.set_cons_succ]
 refine wpAnyH_take (i := 29) (v := ?_) rfl (by kernel_rfl) (by kernel_rfl) (by kernel_rfl) (fun _ _ _ h => h) (Or.inl ⟨by rfl, ?_⟩) (by assumption) ?_
 rotate_left
 · (intro w hSw; (try dsimp only at hSw); go_simp; first | done | with_reducible rfl)
 try simp only [List.getElem_toArray, List.getElem_cons_zero, List.getElem_cons_succ, Act.put, List.setIfInBounds_toArray, List.set_cons_zero, List.set_cons_succ]
 refine wpAnyH_ready (rs := [30]) (by kernel_rfl) (by simp) ?_
 refine AllReadyH.cons rfl (fun K hK => ?_) AllReadyH.nil
 go_simp
 (first
   | (go_at_call 81
      ((with_reducible refine (works15 _).mono ?_))
      rintro e W26 ⟨rfl, u26⟩
      replace FZ := FZ.up u26
      replace fx := fx.up u26
      replace fxe := fxe.up u26
      replace fy := fy.up u26
      replace fye := fye.up u26
      replace fdx := fdx.up u26
      replace fdxe := fdxe.up u26
      replace fdy := fdy.up u26
      replace fdye := fdye.up u26
      try (replace r1 := r1.up u26)
      try (replace r1e := r1e.up u26)
      try (replace r2 := r2.up u26)
      try (replace r2e := r2e.up u26)
      try (replace r3 := r3.up u26)
      try (replace r3e := r3e.up u26)
      try (replace r4 := r4.up u26)
      try (replace r4e := r4e.up u26)
      try (replace r5 := r5.up u26)
      try (replace r5e := r5e.up u26)
      try (replace r6 := r6.up u26)
      try (replace r6e := r6e.up u26)
      try (replace r7 := r7.up u26)
      try (replace r7e := r7e.up u26)
      try (replace r8 := r8.up u26)
      try (replace r8e := r8e.up u26)
      try (replace r9 := r9.up u26)
      try (replace r9e := r9e.up u26)
      try (replace u1 := u1.up u26)
      try (replace u1e := u1e.up u26)
      replace b0 := b0.up u26
      replace b1 := b1.up u26
      replace b2 := b2.up u26
      replace x7 := x7.up u26
      replace x8 := x8.up u26
      replace x9 := x9.up u26
      replace x10 := x10.up u26
      replace UP := UP.trans u26
      clear b0_0 b0_1 b1_0 b1_1 b2_0 b2_1 b2_2 x7_0 x7_1 x8_0 x8_1 x9_0 x9_1 x10_0 x10_1
      obtain ⟨b0_0, b0_1⟩ := b0.c2
      obtain ⟨b1_0, b1_1⟩ := b1.c2
      obtain ⟨b2_0, b2_1, b2_2⟩ := b2.c3
      obtain ⟨x7_0, x7_1⟩ := x7.c2
      obtain ⟨x8_0, x8_1⟩ := x8.c2
      obtain ⟨x9_0, x9_1⟩ := x9.c2
      obtain ⟨x10_0, x10_1⟩ := x10.c2
      clear u26))
 try go_wp2_with fail
 try clear hHeld
 refine hK.out _ _ ?_ (fun hHeld => ?_)
 · with_reducible exact ⟨UP, b2_0, b2_1, b2_2, x7_0, x7_1, x8_0, x8_1, x9_0, x9_1, x10_0, x10_1⟩
 clear hK K
 try simp only [List.getElem_toArray, List.getElem_cons_zero, List.getElem_cons_succ, Act.put, List.setIfInBounds_toArray, List.set_cons_zero, List.set_cons_succ]
 refine wpAnyH_take (i := 31) (v := ?_) rfl (by kernel_rfl) (by kernel_rfl) (by kernel_rfl) (fun _ _ _ h => h) (Or.inl ⟨by rfl, ?_⟩) (by assumption) ?_
 rotate_left
 · (intro w hSw; (try dsimp only at hSw); go_simp; first | done | with_reducible rfl)
 try simp only [List.getElem_toArray, List.getElem_cons_zero, List.getElem_cons_succ, Act.put, List.setIfInBounds_toArray, List.set_cons_zero, List.set_cons_succ]
 refine wpAnyH_ready (rs := [32]) (by kernel_rfl) (by simp) ?_
 refine AllReadyH.cons rfl (fun K hK => ?_) AllReadyH.nil
 go_simp
 skip
 try go_wp2_with fail
 try clear hHeld
 refine hK.out _ _ ?_ (fun hHeld => ?_)
 · with_reducible exact ⟨UP, b2_0, b2_1, b2_2, x7_0, x7_1, x8_0, x8_1, x9_0, x9_1, x10_0, x10_1⟩
 clear hK K
 try simp only [List.getElem_toArray, List.getElem_cons_zero, List.getElem_cons_succ, Act.put, List.setIfInBounds_toArray, List.set_cons_zero, List.set_cons_succ]
 refine wpAnyH_done (by kernel_rfl) ?_ _
 refine NoPanic.normal ?_
 go_wp2
 go_ret
 exact ⟨rfl, UP⟩
end Go.Proofs.Ytmmcffceeahemaa
