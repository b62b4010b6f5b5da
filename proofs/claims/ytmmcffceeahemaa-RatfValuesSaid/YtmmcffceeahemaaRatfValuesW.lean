/-
  The walk of RatfValues.
-/
import Derived.Test.YtmmcffceeahemaaRatfWorks
import Derived.Test.YtmmcffceeahemaaRatfLet
import Derived.Deep.DeepCutAuto
set_option linter.unusedVariables false
set_option linter.unusedSimpArgs false
namespace Go.Proofs.Ytmmcffceeahemaa
open Go.RowKit

set_option maxRecDepth 100000 in
set_option maxHeartbeats 25600000 in
theorem ratfValues_walk {V U V' U' X Y : Value} {rs ts rs' ts' : List Raw} {s : Bool} {l m : List Nat} {w : World} (h : RSq w V rs) (h2 : RSq w U ts) (h' : RSq w V' rs') (h2' : RSq w U' ts') (hl : Ws w X l) (hm : Ws w Y m) :
 Calls Try.prog 12 #[.agg #[V, U], .agg #[V', U'], .agg #[.bool s, X, Y]] w fun e w' => e = .returned (.bool true) ∧ Up w w' := by
 obtain ⟨A1, c1, rfl⟩ := h.form
 obtain ⟨B1, d1, rfl⟩ := h2.form
 obtain ⟨A2, c2, rfl⟩ := h'.form
 obtain ⟨B2, d2, rfl⟩ := h2'.form
 obtain ⟨A3, c3, rfl⟩ := hl.form
 obtain ⟨B3, d3, rfl⟩ := hm.form
 have UP : Up w (((w.alloc (.cells #[.slice A1 rs.length c1, .slice B1 ts.length d1] 117)).alloc (.cells #[.slice A2 rs'.length c2, .slice B2 ts'.length d2] 117)).alloc (.cells #[.bool s, .slice A3 l.length c3, .slice B3 m.length d3] 61)) := (((Up.refl w).alloc _).alloc _).alloc _
 obtain ⟨b0, b1, b2⟩ := bx_three 117 117 61 w [.slice A1 rs.length c1, .slice B1 ts.length d1] [.slice A2 rs'.length c2, .slice B2 ts'.length d2] [.bool s, .slice A3 l.length c3, .slice B3 m.length d3]
 go_enter Try.func12, Try.ntmps12
 go_wp2_with fail
 generalize (((w.alloc (.cells #[.slice A1 rs.length c1, .slice B1 ts.length d1] 117)).alloc (.cells #[.slice A2 rs'.length c2, .slice B2 ts'.length d2] 117)).alloc (.cells #[.bool s, .slice A3 l.length c3, .slice B3 m.length d3] 61)) = W at *
 replace h := h.up UP
 replace h2 := h2.up UP
 replace h' := h'.up UP
 replace h2' := h2'.up UP
 replace hl := hl.up UP
 replace hm := hm.up UP
 obtain ⟨b0_0, b0_1⟩ := b0.c2
 obtain ⟨b1_0, b1_1⟩ := b1.c2
 obtain ⟨b2_0, b2_1, b2_2⟩ := b2.c3
 go_wp2_with fail
 ((with_reducible refine (ref_long_31 h h2).mono ?_))
 rintro e W1 ⟨t1, rfl, ht1, u1⟩
 replace h := h.up u1
 replace h2 := h2.up u1
 replace h' := h'.up u1
 replace h2' := h2'.up u1
 replace hl := hl.up u1
 replace hm := hm.up u1
 replace b0 := b0.up u1
 replace b1 := b1.up u1
 replace b2 := b2.up u1
 replace UP := UP.trans u1
 clear b0_0 b0_1 b1_0 b1_1 b2_0 b2_1 b2_2
 obtain ⟨b0_0, b0_1⟩ := b0.c2
 obtain ⟨b1_0, b1_1⟩ := b1.c2
 obtain ⟨b2_0, b2_1, b2_2⟩ := b2.c3
 clear u1
 cases t1
 rotate_left
 · skip
   go_wp2_with fail
   ((with_reducible refine (works15 _).mono ?_))
   rintro e W2 ⟨rfl, u2⟩
   replace h := h.up u2
   replace h2 := h2.up u2
   replace h' := h'.up u2
   replace h2' := h2'.up u2
   replace hl := hl.up u2
   replace hm := hm.up u2
   replace b0 := b0.up u2
   replace b1 := b1.up u2
   replace b2 := b2.up u2
   replace UP := UP.trans u2
   clear b0_0 b0_1 b1_0 b1_1 b2_0 b2_1 b2_2
   obtain ⟨b0_0, b0_1⟩ := b0.c2
   obtain ⟨b1_0, b1_1⟩ := b1.c2
   obtain ⟨b2_0, b2_1, b2_2⟩ := b2.c3
   clear u2
   go_wp2
   go_ret
   exact ⟨rfl, UP⟩
 have g1 := Lib.hid (ht1.out rfl)
 clear ht1
 go_wp2_with fail
 ((with_reducible refine (ref_long_31 h' h2').mono ?_))
 rintro e W2 ⟨t2, rfl, ht2, u2⟩
 replace h := h.up u2
 replace h2 := h2.up u2
 replace h' := h'.up u2
 replace h2' := h2'.up u2
 replace hl := hl.up u2
 replace hm := hm.up u2
 replace b0 := b0.up u2
 replace b1 := b1.up u2
 replace b2 := b2.up u2
 replace UP := UP.trans u2
 clear b0_0 b0_1 b1_0 b1_1 b2_0 b2_1 b2_2
 obtain ⟨b0_0, b0_1⟩ := b0.c2
 obtain ⟨b1_0, b1_1⟩ := b1.c2
 obtain ⟨b2_0, b2_1, b2_2⟩ := b2.c3
 clear u2
 cases t2
 rotate_left
 · skip
   go_wp2_with fail
   ((with_reducible refine (works15 _).mono ?_))
   rintro e W3 ⟨rfl, u3⟩
   replace h := h.up u3
   replace h2 := h2.up u3
   replace h' := h'.up u3
   replace h2' := h2'.up u3
   replace hl := hl.up u3
   replace hm := hm.up u3
   replace b0 := b0.up u3
   replace b1 := b1.up u3
   replace b2 := b2.up u3
   replace UP := UP.trans u3
   clear b0_0 b0_1 b1_0 b1_1 b2_0 b2_1 b2_2
   obtain ⟨b0_0, b0_1⟩ := b0.c2
   obtain ⟨b1_0, b1_1⟩ := b1.c2
   obtain ⟨b2_0, b2_1, b2_2⟩ := b2.c3
   clear u3
   go_wp2
   go_ret
   exact ⟨rfl, UP⟩
 have g2 := Lib.hid (ht2.out rfl)
 clear ht2
 go_wp2_with fail
 ((with_reducible refine (ref_long9h (l := l) (m := m) 1 (K := 1) rfl (by omega)).mono ?_))
 rintro e W3 ⟨t3, rfl, ht3, u3⟩
 replace h := h.up u3
 replace h2 := h2.up u3
 replace h' := h'.up u3
 replace h2' := h2'.up u3
 replace hl := hl.up u3
 replace hm := hm.up u3
 replace b0 := b0.up u3
 replace b1 := b1.up u3
 replace b2 := b2.up u3
 replace UP := UP.trans u3
 clear b0_0 b0_1 b1_0 b1_1 b2_0 b2_1 b2_2
 obtain ⟨b0_0, b0_1⟩ := b0.c2
 obtain ⟨b1_0, b1_1⟩ := b1.c2
 obtain ⟨b2_0, b2_1, b2_2⟩ := b2.c3
 clear u3
 cases t3
 rotate_left
 · skip
   go_wp2_with fail
   ((with_reducible refine (works15 _).mono ?_))
   rintro e W4 ⟨rfl, u4⟩
   replace h := h.up u4
   replace h2 := h2.up u4
   replace h' := h'.up u4
   replace h2' := h2'.up u4
   replace hl := hl.up u4
   replace hm := hm.up u4
   replace b0 := b0.up u4
   replace b1 := b1.up u4
   replace b2 := b2.up u4
   replace UP := UP.trans u4
   clear b0_0 b0_1 b1_0 b1_1 b2_0 b2_1 b2_2
   obtain ⟨b0_0, b0_1⟩ := b0.c2
   obtain ⟨b1_0, b1_1⟩ := b1.c2
   obtain ⟨b2_0, b2_1, b2_2⟩ := b2.c3
   clear u4
   go_wp2
   go_ret
   exact ⟨rfl, UP⟩
 have g3 := Lib.hid (ht3.out rfl)
 clear ht3
 obtain ⟨p, q, fp, fq, lp3, lq3, ep, eq, LPQ⟩ := fun_letters h h2 g1.out
 obtain ⟨p', q', fp', fq', lp3', lq3', ep', eq', LPQ'⟩ := fun_letters h' h2' g2.out
 have FZ : Fr W3 (.agg #[.bool s, .slice A3 l.length c3, .slice B3 m.length d3]) (mkRat (Wd.iv s (Wd.val l)) (Wd.val m)) 1 := ⟨s, _, _, l, m, rfl, hl, hm, rfl, g3.out.1, g3.out.2, by omega⟩
 generalize (mkRat (Wd.iv s (Wd.val l)) (Wd.val m)) = z at *
 clear h h2 h' h2' hl hm
 clear g1 g2 g3
 rw [← ep, ← eq] at b0
 rw [← ep', ← eq'] at b1
 rw [← ep] at b0_0 fp
 rw [← eq] at b0_1 fq
 rw [← ep'] at b1_0 fp'
 rw [← eq'] at b1_1 fq'
 clear ep eq ep' eq'
 obtain ⟨P, D, HP, HD, lP, lD, LPD, DN⟩ := parts_letters p q (m := 3) lp3 lq3 (by omega) LPQ.out
 obtain ⟨P', D', HP', HD', lP', lD', LPD', DN'⟩ := parts_letters p' q' (m := 3) lp3' lq3' (by omega) LPQ'.out
 go_wp2_with fail
 ((with_reducible refine (law_to15 fp fq (by omega) (by omega)).mono ?_))
 rintro e W4 ⟨V4, U4, rfl, x, xe, u4⟩
 obtain ⟨Ax, cx, rfl⟩ := x.form
 obtain ⟨Axe, cxe, rfl⟩ := xe.form
 try simp only [List.length_cons, List.length_nil, Nat.zero_add] at xe
 replace fp := fp.up u4
 replace fq := fq.up u4
 replace fp' := fp'.up u4
 replace fq' := fq'.up u4
 replace FZ := FZ.up u4
 replace b0 := b0.up u4
 replace b1 := b1.up u4
 replace b2 := b2.up u4
 replace UP := UP.trans u4
 clear b0_0 b0_1 b1_0 b1_1 b2_0 b2_1 b2_2
 obtain ⟨b0_0, b0_1⟩ := b0.c2
 obtain ⟨b1_0, b1_1⟩ := b1.c2
 obtain ⟨b2_0, b2_1, b2_2⟩ := b2.c3
 clear u4
 clear fp fq
 have b0_0a := fun O0 => (cell_alloc (o := O0) b0_0)
 have b0_1a := fun O0 => (cell_alloc (o := O0) b0_1)
 have b1_0a := fun O0 => (cell_alloc (o := O0) b1_0)
 have b1_1a := fun O0 => (cell_alloc (o := O0) b1_1)
 have b2_0a := fun O0 => (cell_alloc (o := O0) b2_0)
 have b2_1a := fun O0 => (cell_alloc (o := O0) b2_1)
 have b2_2a := fun O0 => (cell_alloc (o := O0) b2_2)
 go_wp2_with fail
 clear b0_0a b0_1a b1_0a b1_1a b2_0a b2_1a b2_2a
 have x7 := Bx.new 120 W4 [.slice Ax p.length cx, .slice Axe q.length cxe]
 have b0_lt_x7 := b0.lt
 have b1_lt_x7 := b1.lt
 have b2_lt_x7 := b2.lt
 replace fp' := fp'.up ((Up.refl W4).alloc (.cells #[.slice Ax p.length cx, .slice Axe q.length cxe] 120))
 replace fq' := fq'.up ((Up.refl W4).alloc (.cells #[.slice Ax p.length cx, .slice Axe q.length cxe] 120))
 replace FZ := FZ.up ((Up.refl W4).alloc (.cells #[.slice Ax p.length cx, .slice Axe q.length cxe] 120))
 replace x := x.up ((Up.refl W4).alloc (.cells #[.slice Ax p.length cx, .slice Axe q.length cxe] 120))
 replace xe := xe.up ((Up.refl W4).alloc (.cells #[.slice Ax p.length cx, .slice Axe q.length cxe] 120))
 replace b0 := b0.up ((Up.refl W4).alloc (.cells #[.slice Ax p.length cx, .slice Axe q.length cxe] 120))
 replace b1 := b1.up ((Up.refl W4).alloc (.cells #[.slice Ax p.length cx, .slice Axe q.length cxe] 120))
 replace b2 := b2.up ((Up.refl W4).alloc (.cells #[.slice Ax p.length cx, .slice Axe q.length cxe] 120))
 replace UP := UP.trans ((Up.refl W4).alloc (.cells #[.slice Ax p.length cx, .slice Axe q.length cxe] 120))
 generalize (W4.alloc (.cells #[.slice Ax p.length cx, .slice Axe q.length cxe] 120)) = W5 at *
 clear b0_0 b0_1 b1_0 b1_1 b2_0 b2_1 b2_2
 obtain ⟨b0_0, b0_1⟩ := b0.c2
 obtain ⟨b1_0, b1_1⟩ := b1.c2
 obtain ⟨b2_0, b2_1, b2_2⟩ := b2.c3
 obtain ⟨x7_0, x7_1⟩ := x7.c2
 ((with_reducible refine (law_to15 fp' fq' (by omega) (by omega)).mono ?_))
 rintro e W6 ⟨V6, U6, rfl, y, ye, u6⟩
 obtain ⟨Ay, cy, rfl⟩ := y.form
 obtain ⟨Aye, cye, rfl⟩ := ye.form
 try simp only [List.length_cons, List.length_nil, Nat.zero_add] at ye
 replace fp' := fp'.up u6
 replace fq' := fq'.up u6
 replace FZ := FZ.up u6
 replace x := x.up u6
 replace xe := xe.up u6
 replace b0 := b0.up u6
 replace b1 := b1.up u6
 replace b2 := b2.up u6
 replace x7 := x7.up u6
 replace UP := UP.trans u6
 clear b0_0 b0_1 b1_0 b1_1 b2_0 b2_1 b2_2 x7_0 x7_1
 obtain ⟨b0_0, b0_1⟩ := b0.c2
 obtain ⟨b1_0, b1_1⟩ := b1.c2
 obtain ⟨b2_0, b2_1, b2_2⟩ := b2.c3
 obtain ⟨x7_0, x7_1⟩ := x7.c2
 clear u6
 clear fp' fq'
 have b0_0a := fun O0 => (cell_alloc (o := O0) b0_0)
 have b0_1a := fun O0 => (cell_alloc (o := O0) b0_1)
 have b1_0a := fun O0 => (cell_alloc (o := O0) b1_0)
 have b1_1a := fun O0 => (cell_alloc (o := O0) b1_1)
 have b2_0a := fun O0 => (cell_alloc (o := O0) b2_0)
 have b2_1a := fun O0 => (cell_alloc (o := O0) b2_1)
 have b2_2a := fun O0 => (cell_alloc (o := O0) b2_2)
 have x7_0a := fun O0 => (cell_alloc (o := O0) x7_0)
 have x7_1a := fun O0 => (cell_alloc (o := O0) x7_1)
 go_wp2_with fail
 clear b0_0a b0_1a b1_0a b1_1a b2_0a b2_1a b2_2a x7_0a x7_1a
 have x8 := Bx.new 120 W6 [.slice Ay p'.length cy, .slice Aye q'.length cye]
 have b0_lt_x8 := b0.lt
 have b1_lt_x8 := b1.lt
 have b2_lt_x8 := b2.lt
 have x7_lt_x8 := x7.lt
 replace FZ := FZ.up ((Up.refl W6).alloc (.cells #[.slice Ay p'.length cy, .slice Aye q'.length cye] 120))
 replace x := x.up ((Up.refl W6).alloc (.cells #[.slice Ay p'.length cy, .slice Aye q'.length cye] 120))
 replace xe := xe.up ((Up.refl W6).alloc (.cells #[.slice Ay p'.length cy, .slice Aye q'.length cye] 120))
 replace y := y.up ((Up.refl W6).alloc (.cells #[.slice Ay p'.length cy, .slice Aye q'.length cye] 120))
 replace ye := ye.up ((Up.refl W6).alloc (.cells #[.slice Ay p'.length cy, .slice Aye q'.length cye] 120))
 replace b0 := b0.up ((Up.refl W6).alloc (.cells #[.slice Ay p'.length cy, .slice Aye q'.length cye] 120))
 replace b1 := b1.up ((Up.refl W6).alloc (.cells #[.slice Ay p'.length cy, .slice Aye q'.length cye] 120))
 replace b2 := b2.up ((Up.refl W6).alloc (.cells #[.slice Ay p'.length cy, .slice Aye q'.length cye] 120))
 replace x7 := x7.up ((Up.refl W6).alloc (.cells #[.slice Ay p'.length cy, .slice Aye q'.length cye] 120))
 replace UP := UP.trans ((Up.refl W6).alloc (.cells #[.slice Ay p'.length cy, .slice Aye q'.length cye] 120))
 generalize (W6.alloc (.cells #[.slice Ay p'.length cy, .slice Aye q'.length cye] 120)) = W7 at *
 clear b0_0 b0_1 b1_0 b1_1 b2_0 b2_1 b2_2 x7_0 x7_1
 obtain ⟨b0_0, b0_1⟩ := b0.c2
 obtain ⟨b1_0, b1_1⟩ := b1.c2
 obtain ⟨b2_0, b2_1, b2_2⟩ := b2.c3
 obtain ⟨x7_0, x7_1⟩ := x7.c2
 obtain ⟨x8_0, x8_1⟩ := x8.c2
 ((with_reducible refine (law_to9 _ _ _ _ _ _ _ _).mono ?_))
 rintro e W8 ⟨rfl, u8⟩
 replace FZ := FZ.up u8
 replace x := x.up u8
 replace xe := xe.up u8
 replace y := y.up u8
 replace ye := ye.up u8
 replace b0 := b0.up u8
 replace b1 := b1.up u8
 replace b2 := b2.up u8
 replace x7 := x7.up u8
 replace x8 := x8.up u8
 replace UP := UP.trans u8
 clear b0_0 b0_1 b1_0 b1_1 b2_0 b2_1 b2_2 x7_0 x7_1 x8_0 x8_1
 obtain ⟨b0_0, b0_1⟩ := b0.c2
 obtain ⟨b1_0, b1_1⟩ := b1.c2
 obtain ⟨b2_0, b2_1, b2_2⟩ := b2.c3
 obtain ⟨x7_0, x7_1⟩ := x7.c2
 obtain ⟨x8_0, x8_1⟩ := x8.c2
 clear u8
 have b0_0a := fun O0 => (cell_alloc (o := O0) b0_0)
 have b0_1a := fun O0 => (cell_alloc (o := O0) b0_1)
 have b1_0a := fun O0 => (cell_alloc (o := O0) b1_0)
 have b1_1a := fun O0 => (cell_alloc (o := O0) b1_1)
 have b2_0a := fun O0 => (cell_alloc (o := O0) b2_0)
 have b2_1a := fun O0 => (cell_alloc (o := O0) b2_1)
 have b2_2a := fun O0 => (cell_alloc (o := O0) b2_2)
 have x7_0a := fun O0 => (cell_alloc (o := O0) x7_0)
 have x7_1a := fun O0 => (cell_alloc (o := O0) x7_1)
 have x8_0a := fun O0 => (cell_alloc (o := O0) x8_0)
 have x8_1a := fun O0 => (cell_alloc (o := O0) x8_1)
 go_wp2_with fail
 clear b0_0a b0_1a b1_0a b1_1a b2_0a b2_1a b2_2a x7_0a x7_1a x8_0a x8_1a
 have x9 := Bx.new 69 W8 [.bool s, .slice A3 l.length c3, .slice B3 m.length d3]
 have b0_lt_x9 := b0.lt
 have b1_lt_x9 := b1.lt
 have b2_lt_x9 := b2.lt
 have x7_lt_x9 := x7.lt
 have x8_lt_x9 := x8.lt
 replace FZ := FZ.up ((Up.refl W8).alloc (.cells #[.bool s, .slice A3 l.length c3, .slice B3 m.length d3] 69))
 replace x := x.up ((Up.refl W8).alloc (.cells #[.bool s, .slice A3 l.length c3, .slice B3 m.length d3] 69))
 replace xe := xe.up ((Up.refl W8).alloc (.cells #[.bool s, .slice A3 l.length c3, .slice B3 m.length d3] 69))
 replace y := y.up ((Up.refl W8).alloc (.cells #[.bool s, .slice A3 l.length c3, .slice B3 m.length d3] 69))
 replace ye := ye.up ((Up.refl W8).alloc (.cells #[.bool s, .slice A3 l.length c3, .slice B3 m.length d3] 69))
 replace b0 := b0.up ((Up.refl W8).alloc (.cells #[.bool s, .slice A3 l.length c3, .slice B3 m.length d3] 69))
 replace b1 := b1.up ((Up.refl W8).alloc (.cells #[.bool s, .slice A3 l.length c3, .slice B3 m.length d3] 69))
 replace b2 := b2.up ((Up.refl W8).alloc (.cells #[.bool s, .slice A3 l.length c3, .slice B3 m.length d3] 69))
 replace x7 := x7.up ((Up.refl W8).alloc (.cells #[.bool s, .slice A3 l.length c3, .slice B3 m.length d3] 69))
 replace x8 := x8.up ((Up.refl W8).alloc (.cells #[.bool s, .slice A3 l.length c3, .slice B3 m.length d3] 69))
 replace UP := UP.trans ((Up.refl W8).alloc (.cells #[.bool s, .slice A3 l.length c3, .slice B3 m.length d3] 69))
 generalize (W8.alloc (.cells #[.bool s, .slice A3 l.length c3, .slice B3 m.length d3] 69)) = W9 at *
 clear b0_0 b0_1 b1_0 b1_1 b2_0 b2_1 b2_2 x7_0 x7_1 x8_0 x8_1
 obtain ⟨b0_0, b0_1⟩ := b0.c2
 obtain ⟨b1_0, b1_1⟩ := b1.c2
 obtain ⟨b2_0, b2_1, b2_2⟩ := b2.c3
 obtain ⟨x7_0, x7_1⟩ := x7.c2
 obtain ⟨x8_0, x8_1⟩ := x8.c2
 obtain ⟨x9_0, x9_1, x9_2⟩ := x9.c3
 ((with_reducible refine (ratf_eval (k := 2) (kz := 1) x.fs xe.fs lp3 lq3 (by omega) (by omega) LPQ.out (K := 48) (by omega) (by omega) (by omega) (by omega) HP HD FZ (KE := 304) (by omega) (by omega) (by omega)).mono ?_))
 rintro e W10 ⟨V10, usmv, dsmv, rfl, mv, camv, lvmv, u10⟩
 replace FZ := FZ.up u10
 replace x := x.up u10
 replace xe := xe.up u10
 replace y := y.up u10
 replace ye := ye.up u10
 replace b0 := b0.up u10
 replace b1 := b1.up u10
 replace b2 := b2.up u10
 replace x7 := x7.up u10
 replace x8 := x8.up u10
 replace x9 := x9.up u10
 replace UP := UP.trans u10
 clear b0_0 b0_1 b1_0 b1_1 b2_0 b2_1 b2_2 x7_0 x7_1 x8_0 x8_1 x9_0 x9_1 x9_2
 obtain ⟨b0_0, b0_1⟩ := b0.c2
 obtain ⟨b1_0, b1_1⟩ := b1.c2
 obtain ⟨b2_0, b2_1, b2_2⟩ := b2.c3
 obtain ⟨x7_0, x7_1⟩ := x7.c2
 obtain ⟨x8_0, x8_1⟩ := x8.c2
 obtain ⟨x9_0, x9_1, x9_2⟩ := x9.c3
 clear u10
 obtain ⟨t1, HT1⟩ : ∃ t, Hid ((!decide (Pq.E dsmv z = 0)) = t) := ⟨_, Lib.hid rfl⟩
 obtain ⟨MV, HMV⟩ : ∃ q, Hid (Pq.E usmv z / Pq.E dsmv z = q) := ⟨_, Lib.hid rfl⟩
 rw [HT1.out]
 rw [HMV.out] at mv lvmv
 obtain ⟨Xmv, Ymv, rfl, mv, mvd⟩ := mv
 obtain ⟨Amv, nmv, cmv, rfl⟩ := mv.shape
 obtain ⟨Amvd, nmvd, cmvd, rfl⟩ := mvd.shape
 have b0_0a := fun O0 => (cell_alloc (o := O0) b0_0)
 have b0_1a := fun O0 => (cell_alloc (o := O0) b0_1)
 have b1_0a := fun O0 => (cell_alloc (o := O0) b1_0)
 have b1_1a := fun O0 => (cell_alloc (o := O0) b1_1)
 have b2_0a := fun O0 => (cell_alloc (o := O0) b2_0)
 have b2_1a := fun O0 => (cell_alloc (o := O0) b2_1)
 have b2_2a := fun O0 => (cell_alloc (o := O0) b2_2)
 have x7_0a := fun O0 => (cell_alloc (o := O0) x7_0)
 have x7_1a := fun O0 => (cell_alloc (o := O0) x7_1)
 have x8_0a := fun O0 => (cell_alloc (o := O0) x8_0)
 have x8_1a := fun O0 => (cell_alloc (o := O0) x8_1)
 have x9_0a := fun O0 => (cell_alloc (o := O0) x9_0)
 have x9_1a := fun O0 => (cell_alloc (o := O0) x9_1)
 have x9_2a := fun O0 => (cell_alloc (o := O0) x9_2)
 go_wp2_with fail
 clear b0_0a b0_1a b1_0a b1_1a b2_0a b2_1a b2_2a x7_0a x7_1a x8_0a x8_1a x9_0a x9_1a x9_2a
 have x10 := Bx.new 69 W10 [.bool (Wd.ngb MV.num), .slice Amv nmv cmv, .slice Amvd nmvd cmvd]
 have b0_lt_x10 := b0.lt
 have b1_lt_x10 := b1.lt
 have b2_lt_x10 := b2.lt
 have x7_lt_x10 := x7.lt
 have x8_lt_x10 := x8.lt
 have x9_lt_x10 := x9.lt
 replace FZ := FZ.up ((Up.refl W10).alloc (.cells #[.bool (Wd.ngb MV.num), .slice Amv nmv cmv, .slice Amvd nmvd cmvd] 69))
 replace x := x.up ((Up.refl W10).alloc (.cells #[.bool (Wd.ngb MV.num), .slice Amv nmv cmv, .slice Amvd nmvd cmvd] 69))
 replace xe := xe.up ((Up.refl W10).alloc (.cells #[.bool (Wd.ngb MV.num), .slice Amv nmv cmv, .slice Amvd nmvd cmvd] 69))
 replace y := y.up ((Up.refl W10).alloc (.cells #[.bool (Wd.ngb MV.num), .slice Amv nmv cmv, .slice Amvd nmvd cmvd] 69))
 replace ye := ye.up ((Up.refl W10).alloc (.cells #[.bool (Wd.ngb MV.num), .slice Amv nmv cmv, .slice Amvd nmvd cmvd] 69))
 replace mv := mv.up ((Up.refl W10).alloc (.cells #[.bool (Wd.ngb MV.num), .slice Amv nmv cmv, .slice Amvd nmvd cmvd] 69))
 replace mvd := mvd.up ((Up.refl W10).alloc (.cells #[.bool (Wd.ngb MV.num), .slice Amv nmv cmv, .slice Amvd nmvd cmvd] 69))
 replace b0 := b0.up ((Up.refl W10).alloc (.cells #[.bool (Wd.ngb MV.num), .slice Amv nmv cmv, .slice Amvd nmvd cmvd] 69))
 replace b1 := b1.up ((Up.refl W10).alloc (.cells #[.bool (Wd.ngb MV.num), .slice Amv nmv cmv, .slice Amvd nmvd cmvd] 69))
 replace b2 := b2.up ((Up.refl W10).alloc (.cells #[.bool (Wd.ngb MV.num), .slice Amv nmv cmv, .slice Amvd nmvd cmvd] 69))
 replace x7 := x7.up ((Up.refl W10).alloc (.cells #[.bool (Wd.ngb MV.num), .slice Amv nmv cmv, .slice Amvd nmvd cmvd] 69))
 replace x8 := x8.up ((Up.refl W10).alloc (.cells #[.bool (Wd.ngb MV.num), .slice Amv nmv cmv, .slice Amvd nmvd cmvd] 69))
 replace x9 := x9.up ((Up.refl W10).alloc (.cells #[.bool (Wd.ngb MV.num), .slice Amv nmv cmv, .slice Amvd nmvd cmvd] 69))
 replace UP := UP.trans ((Up.refl W10).alloc (.cells #[.bool (Wd.ngb MV.num), .slice Amv nmv cmv, .slice Amvd nmvd cmvd] 69))
 generalize (W10.alloc (.cells #[.bool (Wd.ngb MV.num), .slice Amv nmv cmv, .slice Amvd nmvd cmvd] 69)) = W11 at *
 clear b0_0 b0_1 b1_0 b1_1 b2_0 b2_1 b2_2 x7_0 x7_1 x8_0 x8_1 x9_0 x9_1 x9_2
 obtain ⟨b0_0, b0_1⟩ := b0.c2
 obtain ⟨b1_0, b1_1⟩ := b1.c2
 obtain ⟨b2_0, b2_1, b2_2⟩ := b2.c3
 obtain ⟨x7_0, x7_1⟩ := x7.c2
 obtain ⟨x8_0, x8_1⟩ := x8.c2
 obtain ⟨x9_0, x9_1, x9_2⟩ := x9.c3
 obtain ⟨x10_0, x10_1, x10_2⟩ := x10.c3
 ((with_reducible refine (ratf_eval (k := 2) (kz := 1) y.fs ye.fs lp3' lq3' (by omega) (by omega) LPQ'.out (K := 48) (by omega) (by omega) (by omega) (by omega) HP' HD' FZ (KE := 304) (by omega) (by omega) (by omega)).mono ?_))
 rintro e W12 ⟨V12, usnv, dsnv, rfl, nv, canv, lvnv, u12⟩
 replace FZ := FZ.up u12
 replace x := x.up u12
 replace xe := xe.up u12
 replace y := y.up u12
 replace ye := ye.up u12
 replace mv := mv.up u12
 replace mvd := mvd.up u12
 replace b0 := b0.up u12
 replace b1 := b1.up u12
 replace b2 := b2.up u12
 replace x7 := x7.up u12
 replace x8 := x8.up u12
 replace x9 := x9.up u12
 replace x10 := x10.up u12
 replace UP := UP.trans u12
 clear b0_0 b0_1 b1_0 b1_1 b2_0 b2_1 b2_2 x7_0 x7_1 x8_0 x8_1 x9_0 x9_1 x9_2 x10_0 x10_1 x10_2
 obtain ⟨b0_0, b0_1⟩ := b0.c2
 obtain ⟨b1_0, b1_1⟩ := b1.c2
 obtain ⟨b2_0, b2_1, b2_2⟩ := b2.c3
 obtain ⟨x7_0, x7_1⟩ := x7.c2
 obtain ⟨x8_0, x8_1⟩ := x8.c2
 obtain ⟨x9_0, x9_1, x9_2⟩ := x9.c3
 obtain ⟨x10_0, x10_1, x10_2⟩ := x10.c3
 clear u12
 obtain ⟨t2, HT2⟩ : ∃ t, Hid ((!decide (Pq.E dsnv z = 0)) = t) := ⟨_, Lib.hid rfl⟩
 obtain ⟨NV, HNV⟩ : ∃ q, Hid (Pq.E usnv z / Pq.E dsnv z = q) := ⟨_, Lib.hid rfl⟩
 rw [HT2.out]
 rw [HNV.out] at nv lvnv
 obtain ⟨Xnv, Ynv, rfl, nv, nvd⟩ := nv
 obtain ⟨Anv, nnv, cnv, rfl⟩ := nv.shape
 obtain ⟨Anvd, nnvd, cnvd, rfl⟩ := nvd.shape
 cases t1
 · skip
   have b0_0a := fun O0 => (cell_alloc (o := O0) b0_0)
   have b0_1a := fun O0 => (cell_alloc (o := O0) b0_1)
   have b1_0a := fun O0 => (cell_alloc (o := O0) b1_0)
   have b1_1a := fun O0 => (cell_alloc (o := O0) b1_1)
   have b2_0a := fun O0 => (cell_alloc (o := O0) b2_0)
   have b2_1a := fun O0 => (cell_alloc (o := O0) b2_1)
   have b2_2a := fun O0 => (cell_alloc (o := O0) b2_2)
   have x7_0a := fun O0 => (cell_alloc (o := O0) x7_0)
   have x7_1a := fun O0 => (cell_alloc (o := O0) x7_1)
   have x8_0a := fun O0 => (cell_alloc (o := O0) x8_0)
   have x8_1a := fun O0 => (cell_alloc (o := O0) x8_1)
   have x9_0a := fun O0 => (cell_alloc (o := O0) x9_0)
   have x9_1a := fun O0 => (cell_alloc (o := O0) x9_1)
   have x9_2a := fun O0 => (cell_alloc (o := O0) x9_2)
   have x10_0a := fun O0 => (cell_alloc (o := O0) x10_0)
   have x10_1a := fun O0 => (cell_alloc (o := O0) x10_1)
   have x10_2a := fun O0 => (cell_alloc (o := O0) x10_2)
   go_wp2_with fail
   clear b0_0a b0_1a b1_0a b1_1a b2_0a b2_1a b2_2a x7_0a x7_1a x8_0a x8_1a x9_0a x9_1a x9_2a x10_0a x10_1a x10_2a
   have x12 := Bx.new 69 W12 [.bool (Wd.ngb NV.num), .slice Anv nnv cnv, .slice Anvd nnvd cnvd]
   have b0_lt_x12 := b0.lt
   have b1_lt_x12 := b1.lt
   have b2_lt_x12 := b2.lt
   have x7_lt_x12 := x7.lt
   have x8_lt_x12 := x8.lt
   have x9_lt_x12 := x9.lt
   have x10_lt_x12 := x10.lt
   replace FZ := FZ.up ((Up.refl W12).alloc (.cells #[.bool (Wd.ngb NV.num), .slice Anv nnv cnv, .slice Anvd nnvd cnvd] 69))
   replace x := x.up ((Up.refl W12).alloc (.cells #[.bool (Wd.ngb NV.num), .slice Anv nnv cnv, .slice Anvd nnvd cnvd] 69))
   replace xe := xe.up ((Up.refl W12).alloc (.cells #[.bool (Wd.ngb NV.num), .slice Anv nnv cnv, .slice Anvd nnvd cnvd] 69))
   replace y := y.up ((Up.refl W12).alloc (.cells #[.bool (Wd.ngb NV.num), .slice Anv nnv cnv, .slice Anvd nnvd cnvd] 69))
   replace ye := ye.up ((Up.refl W12).alloc (.cells #[.bool (Wd.ngb NV.num), .slice Anv nnv cnv, .slice Anvd nnvd cnvd] 69))
   replace mv := mv.up ((Up.refl W12).alloc (.cells #[.bool (Wd.ngb NV.num), .slice Anv nnv cnv, .slice Anvd nnvd cnvd] 69))
   replace mvd := mvd.up ((Up.refl W12).alloc (.cells #[.bool (Wd.ngb NV.num), .slice Anv nnv cnv, .slice Anvd nnvd cnvd] 69))
   replace nv := nv.up ((Up.refl W12).alloc (.cells #[.bool (Wd.ngb NV.num), .slice Anv nnv cnv, .slice Anvd nnvd cnvd] 69))
   replace nvd := nvd.up ((Up.refl W12).alloc (.cells #[.bool (Wd.ngb NV.num), .slice Anv nnv cnv, .slice Anvd nnvd cnvd] 69))
   replace b0 := b0.up ((Up.refl W12).alloc (.cells #[.bool (Wd.ngb NV.num), .slice Anv nnv cnv, .slice Anvd nnvd cnvd] 69))
   replace b1 := b1.up ((Up.refl W12).alloc (.cells #[.bool (Wd.ngb NV.num), .slice Anv nnv cnv, .slice Anvd nnvd cnvd] 69))
   replace b2 := b2.up ((Up.refl W12).alloc (.cells #[.bool (Wd.ngb NV.num), .slice Anv nnv cnv, .slice Anvd nnvd cnvd] 69))
   replace x7 := x7.up ((Up.refl W12).alloc (.cells #[.bool (Wd.ngb NV.num), .slice Anv nnv cnv, .slice Anvd nnvd cnvd] 69))
   replace x8 := x8.up ((Up.refl W12).alloc (.cells #[.bool (Wd.ngb NV.num), .slice Anv nnv cnv, .slice Anvd nnvd cnvd] 69))
   replace x9 := x9.up ((Up.refl W12).alloc (.cells #[.bool (Wd.ngb NV.num), .slice Anv nnv cnv, .slice Anvd nnvd cnvd] 69))
   replace x10 := x10.up ((Up.refl W12).alloc (.cells #[.bool (Wd.ngb NV.num), .slice Anv nnv cnv, .slice Anvd nnvd cnvd] 69))
   replace UP := UP.trans ((Up.refl W12).alloc (.cells #[.bool (Wd.ngb NV.num), .slice Anv nnv cnv, .slice Anvd nnvd cnvd] 69))
   generalize (W12.alloc (.cells #[.bool (Wd.ngb NV.num), .slice Anv nnv cnv, .slice Anvd nnvd cnvd] 69)) = W13 at *
   clear b0_0 b0_1 b1_0 b1_1 b2_0 b2_1 b2_2 x7_0 x7_1 x8_0 x8_1 x9_0 x9_1 x9_2 x10_0 x10_1 x10_2
   obtain ⟨b0_0, b0_1⟩ := b0.c2
   obtain ⟨b1_0, b1_1⟩ := b1.c2
   obtain ⟨b2_0, b2_1, b2_2⟩ := b2.c3
   obtain ⟨x7_0, x7_1⟩ := x7.c2
   obtain ⟨x8_0, x8_1⟩ := x8.c2
   obtain ⟨x9_0, x9_1, x9_2⟩ := x9.c3
   obtain ⟨x10_0, x10_1, x10_2⟩ := x10.c3
   obtain ⟨x12_0, x12_1, x12_2⟩ := x12.c3
   ((with_reducible refine (works15 _).mono ?_))
   rintro e W14 ⟨rfl, u14⟩
   replace FZ := FZ.up u14
   replace x := x.up u14
   replace xe := xe.up u14
   replace y := y.up u14
   replace ye := ye.up u14
   replace mv := mv.up u14
   replace mvd := mvd.up u14
   replace nv := nv.up u14
   replace nvd := nvd.up u14
   replace b0 := b0.up u14
   replace b1 := b1.up u14
   replace b2 := b2.up u14
   replace x7 := x7.up u14
   replace x8 := x8.up u14
   replace x9 := x9.up u14
   replace x10 := x10.up u14
   replace x12 := x12.up u14
   replace UP := UP.trans u14
   clear b0_0 b0_1 b1_0 b1_1 b2_0 b2_1 b2_2 x7_0 x7_1 x8_0 x8_1 x9_0 x9_1 x9_2 x10_0 x10_1 x10_2 x12_0 x12_1 x12_2
   obtain ⟨b0_0, b0_1⟩ := b0.c2
   obtain ⟨b1_0, b1_1⟩ := b1.c2
   obtain ⟨b2_0, b2_1, b2_2⟩ := b2.c3
   obtain ⟨x7_0, x7_1⟩ := x7.c2
   obtain ⟨x8_0, x8_1⟩ := x8.c2
   obtain ⟨x9_0, x9_1, x9_2⟩ := x9.c3
   obtain ⟨x10_0, x10_1, x10_2⟩ := x10.c3
   obtain ⟨x12_0, x12_1, x12_2⟩ := x12.c3
   clear u14
   go_wp2
   go_ret
   exact ⟨rfl, UP⟩
 cases t2
 · skip
   have b0_0a := fun O0 => (cell_alloc (o := O0) b0_0)
   have b0_1a := fun O0 => (cell_alloc (o := O0) b0_1)
   have b1_0a := fun O0 => (cell_alloc (o := O0) b1_0)
   have b1_1a := fun O0 => (cell_alloc (o := O0) b1_1)
   have b2_0a := fun O0 => (cell_alloc (o := O0) b2_0)
   have b2_1a := fun O0 => (cell_alloc (o := O0) b2_1)
   have b2_2a := fun O0 => (cell_alloc (o := O0) b2_2)
   have x7_0a := fun O0 => (cell_alloc (o := O0) x7_0)
   have x7_1a := fun O0 => (cell_alloc (o := O0) x7_1)
   have x8_0a := fun O0 => (cell_alloc (o := O0) x8_0)
   have x8_1a := fun O0 => (cell_alloc (o := O0) x8_1)
   have x9_0a := fun O0 => (cell_alloc (o := O0) x9_0)
   have x9_1a := fun O0 => (cell_alloc (o := O0) x9_1)
   have x9_2a := fun O0 => (cell_alloc (o := O0) x9_2)
   have x10_0a := fun O0 => (cell_alloc (o := O0) x10_0)
   have x10_1a := fun O0 => (cell_alloc (o := O0) x10_1)
   have x10_2a := fun O0 => (cell_alloc (o := O0) x10_2)
   go_wp2_with fail
   clear b0_0a b0_1a b1_0a b1_1a b2_0a b2_1a b2_2a x7_0a x7_1a x8_0a x8_1a x9_0a x9_1a x9_2a x10_0a x10_1a x10_2a
   have x12 := Bx.new 69 W12 [.bool (Wd.ngb NV.num), .slice Anv nnv cnv, .slice Anvd nnvd cnvd]
   have b0_lt_x12 := b0.lt
   have b1_lt_x12 := b1.lt
   have b2_lt_x12 := b2.lt
   have x7_lt_x12 := x7.lt
   have x8_lt_x12 := x8.lt
   have x9_lt_x12 := x9.lt
   have x10_lt_x12 := x10.lt
   replace FZ := FZ.up ((Up.refl W12).alloc (.cells #[.bool (Wd.ngb NV.num), .slice Anv nnv cnv, .slice Anvd nnvd cnvd] 69))
   replace x := x.up ((Up.refl W12).alloc (.cells #[.bool (Wd.ngb NV.num), .slice Anv nnv cnv, .slice Anvd nnvd cnvd] 69))
   replace xe := xe.up ((Up.refl W12).alloc (.cells #[.bool (Wd.ngb NV.num), .slice Anv nnv cnv, .slice Anvd nnvd cnvd] 69))
   replace y := y.up ((Up.refl W12).alloc (.cells #[.bool (Wd.ngb NV.num), .slice Anv nnv cnv, .slice Anvd nnvd cnvd] 69))
   replace ye := ye.up ((Up.refl W12).alloc (.cells #[.bool (Wd.ngb NV.num), .slice Anv nnv cnv, .slice Anvd nnvd cnvd] 69))
   replace mv := mv.up ((Up.refl W12).alloc (.cells #[.bool (Wd.ngb NV.num), .slice Anv nnv cnv, .slice Anvd nnvd cnvd] 69))
   replace mvd := mvd.up ((Up.refl W12).alloc (.cells #[.bool (Wd.ngb NV.num), .slice Anv nnv cnv, .slice Anvd nnvd cnvd] 69))
   replace nv := nv.up ((Up.refl W12).alloc (.cells #[.bool (Wd.ngb NV.num), .slice Anv nnv cnv, .slice Anvd nnvd cnvd] 69))
   replace nvd := nvd.up ((Up.refl W12).alloc (.cells #[.bool (Wd.ngb NV.num), .slice Anv nnv cnv, .slice Anvd nnvd cnvd] 69))
   replace b0 := b0.up ((Up.refl W12).alloc (.cells #[.bool (Wd.ngb NV.num), .slice Anv nnv cnv, .slice Anvd nnvd cnvd] 69))
   replace b1 := b1.up ((Up.refl W12).alloc (.cells #[.bool (Wd.ngb NV.num), .slice Anv nnv cnv, .slice Anvd nnvd cnvd] 69))
   replace b2 := b2.up ((Up.refl W12).alloc (.cells #[.bool (Wd.ngb NV.num), .slice Anv nnv cnv, .slice Anvd nnvd cnvd] 69))
   replace x7 := x7.up ((Up.refl W12).alloc (.cells #[.bool (Wd.ngb NV.num), .slice Anv nnv cnv, .slice Anvd nnvd cnvd] 69))
   replace x8 := x8.up ((Up.refl W12).alloc (.cells #[.bool (Wd.ngb NV.num), .slice Anv nnv cnv, .slice Anvd nnvd cnvd] 69))
   replace x9 := x9.up ((Up.refl W12).alloc (.cells #[.bool (Wd.ngb NV.num), .slice Anv nnv cnv, .slice Anvd nnvd cnvd] 69))
   replace x10 := x10.up ((Up.refl W12).alloc (.cells #[.bool (Wd.ngb NV.num), .slice Anv nnv cnv, .slice Anvd nnvd cnvd] 69))
   replace UP := UP.trans ((Up.refl W12).alloc (.cells #[.bool (Wd.ngb NV.num), .slice Anv nnv cnv, .slice Anvd nnvd cnvd] 69))
   generalize (W12.alloc (.cells #[.bool (Wd.ngb NV.num), .slice Anv nnv cnv, .slice Anvd nnvd cnvd] 69)) = W13 at *
   clear b0_0 b0_1 b1_0 b1_1 b2_0 b2_1 b2_2 x7_0 x7_1 x8_0 x8_1 x9_0 x9_1 x9_2 x10_0 x10_1 x10_2
   obtain ⟨b0_0, b0_1⟩ := b0.c2
   obtain ⟨b1_0, b1_1⟩ := b1.c2
   obtain ⟨b2_0, b2_1, b2_2⟩ := b2.c3
   obtain ⟨x7_0, x7_1⟩ := x7.c2
   obtain ⟨x8_0, x8_1⟩ := x8.c2
   obtain ⟨x9_0, x9_1, x9_2⟩ := x9.c3
   obtain ⟨x10_0, x10_1, x10_2⟩ := x10.c3
   obtain ⟨x12_0, x12_1, x12_2⟩ := x12.c3
   ((with_reducible refine (works15 _).mono ?_))
   rintro e W14 ⟨rfl, u14⟩
   replace FZ := FZ.up u14
   replace x := x.up u14
   replace xe := xe.up u14
   replace y := y.up u14
   replace ye := ye.up u14
   replace mv := mv.up u14
   replace mvd := mvd.up u14
   replace nv := nv.up u14
   replace nvd := nvd.up u14
   replace b0 := b0.up u14
   replace b1 := b1.up u14
   replace b2 := b2.up u14
   replace x7 := x7.up u14
   replace x8 := x8.up u14
   replace x9 := x9.up u14
   replace x10 := x10.up u14
   replace x12 := x12.up u14
   replace UP := UP.trans u14
   clear b0_0 b0_1 b1_0 b1_1 b2_0 b2_1 b2_2 x7_0 x7_1 x8_0 x8_1 x9_0 x9_1 x9_2 x10_0 x10_1 x10_2 x12_0 x12_1 x12_2
   obtain ⟨b0_0, b0_1⟩ := b0.c2
   obtain ⟨b1_0, b1_1⟩ := b1.c2
   obtain ⟨b2_0, b2_1, b2_2⟩ := b2.c3
   obtain ⟨x7_0, x7_1⟩ := x7.c2
   obtain ⟨x8_0, x8_1⟩ := x8.c2
   obtain ⟨x9_0, x9_1, x9_2⟩ := x9.c3
   obtain ⟨x10_0, x10_1, x10_2⟩ := x10.c3
   obtain ⟨x12_0, x12_1, x12_2⟩ := x12.c3
   clear u14
   go_wp2
   go_ret
   exact ⟨rfl, UP⟩
 have D1 := Lib.hid (bool_ne HT1.out)
 have D2 := Lib.hid (bool_ne HT2.out)
 clear HT1 HT2
 obtain ⟨SU, HSU⟩ : ∃ q, Hid (MV + NV = q) := ⟨_, Lib.hid rfl⟩
 obtain ⟨DI, HDI⟩ : ∃ q, Hid (MV - NV = q) := ⟨_, Lib.hid rfl⟩
 obtain ⟨PR, HPR⟩ : ∃ q, Hid (MV * NV = q) := ⟨_, Lib.hid rfl⟩
 have LM := lvmv.out
 have LN := lvnv.out
 have LSU : Wd.Lq SU 609 := by rw [← HSU.out]; exact LM.add LN
 have LDI : Wd.Lq DI 609 := by rw [← HDI.out]; exact LM.sub LN
 have LPR : Wd.Lq PR 608 := by rw [← HPR.out]; exact LM.mul LN
 have VS : Hid (∀ a b c d, Pq.Can (Pq.au P D P' D') (Pq.nm (Pq.mul D D')) a b → Pq.Can a b c d → (!decide (Pq.E d z = 0)) = true ∧ Pq.E c z / Pq.E d z = SU) := Lib.hid (fun a b c d c3 c4 => by
  have := Pq.val_sum DN.out DN'.out camv.out canv.out c3 c4 D1.out D2.out
  exact ⟨ne_bool this.1, by rw [this.2, HMV.out, HNV.out, HSU.out]⟩)
 have VD : Hid (∀ a b c d, Pq.Can (Pq.au P D (Pq.sc (-1) P') D') (Pq.nm (Pq.mul D D')) a b → Pq.Can a b c d → (!decide (Pq.E d z = 0)) = true ∧ Pq.E c z / Pq.E d z = DI) := Lib.hid (fun a b c d c3 c4 => by
  have := Pq.val_sum DN.out DN'.out camv.out canv.out.neg c3 c4 D1.out D2.out
  exact ⟨ne_bool this.1, by rw [this.2, Pq.E_sc, HMV.out, show (-1 : Rat) * Pq.E usnv z / Pq.E dsnv z = -NV by (rw [← HNV.out, Rat.div_def, Rat.div_def]; grind), ← Rat.sub_eq_add_neg, HDI.out]⟩)
 have VP : Hid (∀ a b c d, Pq.Can (Pq.nm (Pq.mul P P')) (Pq.nm (Pq.mul D D')) a b → Pq.Can a b c d → (!decide (Pq.E d z = 0)) = true ∧ Pq.E c z / Pq.E d z = PR) := Lib.hid (fun a b c d c3 c4 => by
  have := Pq.val_prod DN.out DN'.out camv.out canv.out c3 c4 D1.out D2.out
  exact ⟨ne_bool this.1, by rw [this.2, HMV.out, HNV.out, HPR.out]⟩)
 have b0_0a := fun O0 => (cell_alloc (o := O0) b0_0)
 have b0_1a := fun O0 => (cell_alloc (o := O0) b0_1)
 have b1_0a := fun O0 => (cell_alloc (o := O0) b1_0)
 have b1_1a := fun O0 => (cell_alloc (o := O0) b1_1)
 have b2_0a := fun O0 => (cell_alloc (o := O0) b2_0)
 have b2_1a := fun O0 => (cell_alloc (o := O0) b2_1)
 have b2_2a := fun O0 => (cell_alloc (o := O0) b2_2)
 have x7_0a := fun O0 => (cell_alloc (o := O0) x7_0)
 have x7_1a := fun O0 => (cell_alloc (o := O0) x7_1)
 have x8_0a := fun O0 => (cell_alloc (o := O0) x8_0)
 have x8_1a := fun O0 => (cell_alloc (o := O0) x8_1)
 have x9_0a := fun O0 => (cell_alloc (o := O0) x9_0)
 have x9_1a := fun O0 => (cell_alloc (o := O0) x9_1)
 have x9_2a := fun O0 => (cell_alloc (o := O0) x9_2)
 have x10_0a := fun O0 => (cell_alloc (o := O0) x10_0)
 have x10_1a := fun O0 => (cell_alloc (o := O0) x10_1)
 have x10_2a := fun O0 => (cell_alloc (o := O0) x10_2)
 go_upto_region 10 with fail
 clear b0_0a b0_1a b1_0a b1_1a b2_0a b2_1a b2_2a x7_0a x7_1a x8_0a x8_1a x9_0a x9_1a x9_2a x10_0a x10_1a x10_2a
 have x12 := Bx.new 69 W12 [.bool (Wd.ngb NV.num), .slice Anv nnv cnv, .slice Anvd nnvd cnvd]
 have b0_lt_x12 := b0.lt
 have b1_lt_x12 := b1.lt
 have b2_lt_x12 := b2.lt
 have x7_lt_x12 := x7.lt
 have x8_lt_x12 := x8.lt
 have x9_lt_x12 := x9.lt
 have x10_lt_x12 := x10.lt
 replace FZ := FZ.up ((Up.refl W12).alloc (.cells #[.bool (Wd.ngb NV.num), .slice Anv nnv cnv, .slice Anvd nnvd cnvd] 69))
 replace x := x.up ((Up.refl W12).alloc (.cells #[.bool (Wd.ngb NV.num), .slice Anv nnv cnv, .slice Anvd nnvd cnvd] 69))
 replace xe := xe.up ((Up.refl W12).alloc (.cells #[.bool (Wd.ngb NV.num), .slice Anv nnv cnv, .slice Anvd nnvd cnvd] 69))
 replace y := y.up ((Up.refl W12).alloc (.cells #[.bool (Wd.ngb NV.num), .slice Anv nnv cnv, .slice Anvd nnvd cnvd] 69))
 replace ye := ye.up ((Up.refl W12).alloc (.cells #[.bool (Wd.ngb NV.num), .slice Anv nnv cnv, .slice Anvd nnvd cnvd] 69))
 replace mv := mv.up ((Up.refl W12).alloc (.cells #[.bool (Wd.ngb NV.num), .slice Anv nnv cnv, .slice Anvd nnvd cnvd] 69))
 replace mvd := mvd.up ((Up.refl W12).alloc (.cells #[.bool (Wd.ngb NV.num), .slice Anv nnv cnv, .slice Anvd nnvd cnvd] 69))
 replace nv := nv.up ((Up.refl W12).alloc (.cells #[.bool (Wd.ngb NV.num), .slice Anv nnv cnv, .slice Anvd nnvd cnvd] 69))
 replace nvd := nvd.up ((Up.refl W12).alloc (.cells #[.bool (Wd.ngb NV.num), .slice Anv nnv cnv, .slice Anvd nnvd cnvd] 69))
 replace b0 := b0.up ((Up.refl W12).alloc (.cells #[.bool (Wd.ngb NV.num), .slice Anv nnv cnv, .slice Anvd nnvd cnvd] 69))
 replace b1 := b1.up ((Up.refl W12).alloc (.cells #[.bool (Wd.ngb NV.num), .slice Anv nnv cnv, .slice Anvd nnvd cnvd] 69))
 replace b2 := b2.up ((Up.refl W12).alloc (.cells #[.bool (Wd.ngb NV.num), .slice Anv nnv cnv, .slice Anvd nnvd cnvd] 69))
 replace x7 := x7.up ((Up.refl W12).alloc (.cells #[.bool (Wd.ngb NV.num), .slice Anv nnv cnv, .slice Anvd nnvd cnvd] 69))
 replace x8 := x8.up ((Up.refl W12).alloc (.cells #[.bool (Wd.ngb NV.num), .slice Anv nnv cnv, .slice Anvd nnvd cnvd] 69))
 replace x9 := x9.up ((Up.refl W12).alloc (.cells #[.bool (Wd.ngb NV.num), .slice Anv nnv cnv, .slice Anvd nnvd cnvd] 69))
 replace x10 := x10.up ((Up.refl W12).alloc (.cells #[.bool (Wd.ngb NV.num), .slice Anv nnv cnv, .slice Anvd nnvd cnvd] 69))
 replace UP := UP.trans ((Up.refl W12).alloc (.cells #[.bool (Wd.ngb NV.num), .slice Anv nnv cnv, .slice Anvd nnvd cnvd] 69))
 generalize (W12.alloc (.cells #[.bool (Wd.ngb NV.num), .slice Anv nnv cnv, .slice Anvd nnvd cnvd] 69)) = W13 at *
 clear b0_0 b0_1 b1_0 b1_1 b2_0 b2_1 b2_2 x7_0 x7_1 x8_0 x8_1 x9_0 x9_1 x9_2 x10_0 x10_1 x10_2
 obtain ⟨b0_0, b0_1⟩ := b0.c2
 obtain ⟨b1_0, b1_1⟩ := b1.c2
 obtain ⟨b2_0, b2_1, b2_2⟩ := b2.c3
 obtain ⟨x7_0, x7_1⟩ := x7.c2
 obtain ⟨x8_0, x8_1⟩ := x8.c2
 obtain ⟨x9_0, x9_1, x9_2⟩ := x9.c3
 obtain ⟨x10_0, x10_1, x10_2⟩ := x10.c3
 obtain ⟨x12_0, x12_1, x12_2⟩ := x12.c3
 go_cut [14, 15] (fun t14 t15 wx => ∃ (g : Nat) (A B : Option Addr) (n c n' c' : Nat), t14 = .pointer (some ⟨g, 0, none⟩) ∧ t15 = .bool true ∧ Bx 69 wx g [.bool (Wd.ngb SU.num), .slice A n c, .slice B n' c'] ∧ Ws wx (.slice A n c) (Wd.words SU.num.natAbs) ∧ Ws wx (.slice B n' c') (Wd.words SU.den) ∧ Bx 120 wx (W4.heap.size) [.slice Ax p.length cx, .slice Axe q.length cxe] ∧ Bx 120 wx (W6.heap.size) [.slice Ay p'.length cy, .slice Aye q'.length cye] ∧ Bx 69 wx (W8.heap.size) [.bool s, .slice A3 l.length c3, .slice B3 m.length d3] ∧ Bx 69 wx (W10.heap.size) [.bool (Wd.ngb MV.num), .slice Amv nmv cmv, .slice Amvd nmvd cmvd] ∧ Bx 69 wx (W12.heap.size) [.bool (Wd.ngb NV.num), .slice Anv nnv cnv, .slice Anvd nnvd cnvd] ∧ BRow 2 wx (.slice Ax p.length cx) p ∧ BRow 2 wx (.slice Axe q.length cxe) q ∧ BRow 2 wx (.slice Ay p'.length cy) p' ∧ BRow 2 wx (.slice Aye q'.length cye) q' ∧ Fr wx (.agg #[.bool s, .slice A3 l.length c3, .slice B3 m.length d3]) z 1 ∧ Ws wx (.slice Amv nmv cmv) (Wd.words MV.num.natAbs) ∧ Ws wx (.slice Amvd nmvd cmvd) (Wd.words MV.den) ∧ Ws wx (.slice Anv nnv cnv) (Wd.words NV.num.natAbs) ∧ Ws wx (.slice Anvd nnvd cnvd) (Wd.words NV.den) ∧ Up w wx)
 case first =>
  replace FZ := FZ.up (Up.refl W13).drew
  replace x := x.up (Up.refl W13).drew
  replace xe := xe.up (Up.refl W13).drew
  replace y := y.up (Up.refl W13).drew
  replace ye := ye.up (Up.refl W13).drew
  replace mv := mv.up (Up.refl W13).drew
  replace mvd := mvd.up (Up.refl W13).drew
  replace nv := nv.up (Up.refl W13).drew
  replace nvd := nvd.up (Up.refl W13).drew
  replace b0 := b0.up (Up.refl W13).drew
  replace b1 := b1.up (Up.refl W13).drew
  replace b2 := b2.up (Up.refl W13).drew
  replace x7 := x7.up (Up.refl W13).drew
  replace x8 := x8.up (Up.refl W13).drew
  replace x9 := x9.up (Up.refl W13).drew
  replace x10 := x10.up (Up.refl W13).drew
  replace x12 := x12.up (Up.refl W13).drew
  replace UP := UP.trans (Up.refl W13).drew
  clear b0_0 b0_1 b1_0 b1_1 b2_0 b2_1 b2_2 x7_0 x7_1 x8_0 x8_1 x9_0 x9_1 x9_2 x10_0 x10_1 x10_2 x12_0 x12_1 x12_2
  obtain ⟨b0_0, b0_1⟩ := b0.c2
  obtain ⟨b1_0, b1_1⟩ := b1.c2
  obtain ⟨b2_0, b2_1, b2_2⟩ := b2.c3
  obtain ⟨x7_0, x7_1⟩ := x7.c2
  obtain ⟨x8_0, x8_1⟩ := x8.c2
  obtain ⟨x9_0, x9_1, x9_2⟩ := x9.c3
  obtain ⟨x10_0, x10_1, x10_2⟩ := x10.c3
  obtain ⟨x12_0, x12_1, x12_2⟩ := x12.c3
  refine wp_region_noPanic ?_
  refine wp_region_held_drew (S := fun w' => Up w w' ∧ w'.cell? ⟨W4.heap.size, 0, none⟩ = some (.slice Ax p.length cx) ∧ w'.cell? ⟨W4.heap.size, 1, none⟩ = some (.slice Axe q.length cxe) ∧ w'.cell? ⟨W6.heap.size, 0, none⟩ = some (.slice Ay p'.length cy) ∧ w'.cell? ⟨W6.heap.size, 1, none⟩ = some (.slice Aye q'.length cye) ∧ w'.cell? ⟨W8.heap.size, 0, none⟩ = some (.bool s) ∧ w'.cell? ⟨W8.heap.size, 1, none⟩ = some (.slice A3 l.length c3) ∧ w'.cell? ⟨W8.heap.size, 2, none⟩ = some (.slice B3 m.length d3)) (by kernel_rfl) (by exact ⟨UP, x7_0, x7_1, x8_0, x8_1, x9_0, x9_1, x9_2⟩) (fun hHeld => ?_)
  clear hHeld
  generalize W13.drew = WC at *
  have hHeld : Up w WC ∧ WC.cell? ⟨W4.heap.size, 0, none⟩ = some (.slice Ax p.length cx) ∧ WC.cell? ⟨W4.heap.size, 1, none⟩ = some (.slice Axe q.length cxe) ∧ WC.cell? ⟨W6.heap.size, 0, none⟩ = some (.slice Ay p'.length cy) ∧ WC.cell? ⟨W6.heap.size, 1, none⟩ = some (.slice Aye q'.length cye) ∧ WC.cell? ⟨W8.heap.size, 0, none⟩ = some (.bool s) ∧ WC.cell? ⟨W8.heap.size, 1, none⟩ = some (.slice A3 l.length c3) ∧ WC.cell? ⟨W8.heap.size, 2, none⟩ = some (.slice B3 m.length d3) := by exact ⟨UP, x7_0, x7_1, x8_0, x8_1, x9_0, x9_1, x9_2⟩
  refine wpAnyH_take (i := 0) (v := ?_) rfl (by kernel_rfl) (by decide +kernel) (by decide +kernel) (fun _ _ _ h => h) (Or.inl ⟨by rfl, ?_⟩) (by assumption) ?_
  rotate_left
  · (intro w hSw; (try dsimp only at hSw); go_simp; first | done | with_reducible rfl)
  try simp only [List.getElem_toArray, List.getElem_cons_zero, List.getElem_cons_succ, Act.put, List.setIfInBounds_toArray, List.set_cons_zero, List.set_cons_succ]
  refine wpAnyH_take (i := 1) (v := ?_) rfl (by kernel_rfl) (by decide +kernel) (by decide +kernel) (fun _ _ _ h => h) (Or.inl ⟨by rfl, ?_⟩) (by assumption) ?_
  rotate_left
  · (intro w hSw; (try dsimp only at hSw); go_simp; first | done | with_reducible rfl)
  try simp only [List.getElem_toArray, List.getElem_cons_zero, List.getElem_cons_succ, Act.put, List.setIfInBounds_toArray, List.set_cons_zero, List.set_cons_succ]
  refine wpAnyH_take (i := 3) (v := ?_) rfl (by kernel_rfl) (by decide +kernel) (by decide +kernel) (fun _ _ _ h => h) (Or.inl ⟨by rfl, ?_⟩) (by assumption) ?_
  rotate_left
  · (intro w hSw; (try dsimp only at hSw); go_simp; first | done | with_reducible rfl)
  try simp only [List.getElem_toArray, List.getElem_cons_zero, List.getElem_cons_succ, Act.put, List.setIfInBounds_toArray, List.set_cons_zero, List.set_cons_succ]
  repeat' first
   | (refine wpAnyH_take (i := 5) (v := ?_) rfl (by kernel_rfl) (by decide +kernel) (by decide +kernel) (fun _ _ _ h => h) (Or.inl ⟨by rfl, ?_⟩) (by assumption) ?_
      rotate_left
      · (intro w hSw; (try dsimp only at hSw); go_simp; first | done | with_reducible rfl)
      try simp only [List.getElem_toArray, List.getElem_cons_zero, List.getElem_cons_succ, Act.put, List.setIfInBounds_toArray, List.set_cons_zero, List.set_cons_succ])
   | (refine wpAnyH_take (i := 6) (v := ?_) rfl (by kernel_rfl) (by decide +kernel) (by decide +kernel) (fun _ _ _ h => h) (Or.inl ⟨by rfl, ?_⟩) (by assumption) ?_
      rotate_left
      · (intro w hSw; (try dsimp only at hSw); go_simp; first | done | with_reducible rfl)
      try simp only [List.getElem_toArray, List.getElem_cons_zero, List.getElem_cons_succ, Act.put, List.setIfInBounds_toArray, List.set_cons_zero, List.set_cons_succ])
   | (refine wpAnyH_take (i := 7) (v := ?_) rfl (by kernel_rfl) (by decide +kernel) (by decide +kernel) (fun _ _ _ h => h) (Or.inl ⟨by rfl, ?_⟩) (by assumption) ?_
      rotate_left
      · (intro w hSw; (try dsimp only at hSw); go_simp; first | done | with_reducible rfl)
      try simp only [List.getElem_toArray, List.getElem_cons_zero, List.getElem_cons_succ, Act.put, List.setIfInBounds_toArray, List.set_cons_zero, List.set_cons_succ])
   | refine wpAnyH_ready (rs := [2, 8]) (by decide +kernel) (by simp) ?_
   | refine wpAnyH_ready (rs := [2]) (by decide +kernel) (by simp) ?_
   | refine wpAnyH_ready (rs := [4, 8]) (by decide +kernel) (by simp) ?_
   | refine wpAnyH_ready (rs := [4]) (by decide +kernel) (by simp) ?_
   | refine wpAnyH_ready (rs := [8]) (by decide +kernel) (by simp) ?_
   | refine wpAnyH_ready (rs := [9]) (by decide +kernel) (by simp) ?_
   | refine wpAnyH_ready (rs := [10]) (by decide +kernel) (by simp) ?_
   | refine AllReadyH.cons (i := 2) rfl (fun K hK2 => ?_) ?_
   | refine AllReadyH.cons (i := 4) rfl (fun K hK4 => ?_) ?_
   | refine AllReadyH.cons (i := 8) rfl (fun K hK8 => ?_) ?_
   | refine AllReadyH.cons (i := 9) rfl (fun K hK9 => ?_) ?_
   | refine AllReadyH.cons (i := 10) rfl (fun K hK10 => ?_) ?_
   | exact AllReadyH.nil
   | (have hK := hK2
      clear hK2
      (try clear hHeld)
      go_simp
      go_at_call 84
      ((with_reducible refine (ratf_add (k := 2) x.fs xe.fs lp3 lq3 (by omega) LPQ.out y.fs ye.fs lp3' lq3' (by omega) LPQ'.out 5 (by omega) (by omega) (K := 160) (by omega) (by omega) (by omega) (by omega) HP HD HP' HD').mono ?_))
      rintro e WD ⟨V2, U2, psa1, qsa1, rfl, a1, a2, caa1, lpa1, lea1, uu⟩
      obtain ⟨Aa1, ca1, rfl⟩ := a1.form
      obtain ⟨Aa2, ca2, rfl⟩ := a2.form
      replace FZ := FZ.up uu
      replace x := x.up uu
      replace xe := xe.up uu
      replace y := y.up uu
      replace ye := ye.up uu
      replace mv := mv.up uu
      replace mvd := mvd.up uu
      replace nv := nv.up uu
      replace nvd := nvd.up uu
      try (replace sv := sv.up uu)
      try (replace svd := svd.up uu)
      replace b0 := b0.up uu
      replace b1 := b1.up uu
      replace b2 := b2.up uu
      replace x7 := x7.up uu
      replace x8 := x8.up uu
      replace x9 := x9.up uu
      replace x10 := x10.up uu
      replace x12 := x12.up uu
      try (replace y1 := y1.up uu)
      replace UP := UP.trans uu
      clear uu
      obtain ⟨WC, hWC⟩ : ∃ W, W = WD := ⟨_, rfl⟩
      subst hWC
      clear b0_0 b0_1
      obtain ⟨b0_0, b0_1⟩ := b0.c2
      clear b1_0 b1_1
      obtain ⟨b1_0, b1_1⟩ := b1.c2
      clear b2_0 b2_1 b2_2
      obtain ⟨b2_0, b2_1, b2_2⟩ := b2.c3
      clear x7_0 x7_1
      obtain ⟨x7_0, x7_1⟩ := x7.c2
      clear x8_0 x8_1
      obtain ⟨x8_0, x8_1⟩ := x8.c2
      clear x9_0 x9_1 x9_2
      obtain ⟨x9_0, x9_1, x9_2⟩ := x9.c3
      clear x10_0 x10_1 x10_2
      obtain ⟨x10_0, x10_1, x10_2⟩ := x10.c3
      clear x12_0 x12_1 x12_2
      obtain ⟨x12_0, x12_1, x12_2⟩ := x12.c3
      replace a1 := a1.fs
      replace a2 := a2.fs
      try go_wp2_with fail
      refine hK.out _ _ (by exact ⟨UP, x7_0, x7_1, x8_0, x8_1, x9_0, x9_1, x9_2⟩) (fun hHeld => ?_)
      clear hK K
      try simp only [List.getElem_toArray, List.getElem_cons_zero, List.getElem_cons_succ, Act.put, List.setIfInBounds_toArray, List.set_cons_zero, List.set_cons_succ])
   | (have hK := hK4
      clear hK4
      (try clear hHeld)
      go_simp
      go_at_call 83
      ((with_reducible refine (ratf_eval (k := 160) (m := 5) (kz := 1) a1 a2 lea1.out.1 lea1.out.2 (by omega) (by omega) lpa1.out (K := 1610) (by omega) (by omega) (by omega) (by omega) (Lib.hid (Pq.pu_of caa1.out.nd)) (Lib.hid (Pq.pd_of caa1.out.nd)) FZ (KE := 16124) (by omega) (by omega) (by omega)).mono ?_))
      rintro e WD ⟨V4, ussv, dssv, rfl, sv, casv, lvsv, uu⟩
      replace FZ := FZ.up uu
      replace x := x.up uu
      replace xe := xe.up uu
      replace y := y.up uu
      replace ye := ye.up uu
      replace mv := mv.up uu
      replace mvd := mvd.up uu
      replace nv := nv.up uu
      replace nvd := nvd.up uu
      try (replace a1 := a1.up uu)
      try (replace a2 := a2.up uu)
      try (replace svd := svd.up uu)
      replace b0 := b0.up uu
      replace b1 := b1.up uu
      replace b2 := b2.up uu
      replace x7 := x7.up uu
      replace x8 := x8.up uu
      replace x9 := x9.up uu
      replace x10 := x10.up uu
      replace x12 := x12.up uu
      try (replace y1 := y1.up uu)
      replace UP := UP.trans uu
      clear uu
      obtain ⟨WC, hWC⟩ : ∃ W, W = WD := ⟨_, rfl⟩
      subst hWC
      clear b0_0 b0_1
      obtain ⟨b0_0, b0_1⟩ := b0.c2
      clear b1_0 b1_1
      obtain ⟨b1_0, b1_1⟩ := b1.c2
      clear b2_0 b2_1 b2_2
      obtain ⟨b2_0, b2_1, b2_2⟩ := b2.c3
      clear x7_0 x7_1
      obtain ⟨x7_0, x7_1⟩ := x7.c2
      clear x8_0 x8_1
      obtain ⟨x8_0, x8_1⟩ := x8.c2
      clear x9_0 x9_1 x9_2
      obtain ⟨x9_0, x9_1, x9_2⟩ := x9.c3
      clear x10_0 x10_1 x10_2
      obtain ⟨x10_0, x10_1, x10_2⟩ := x10.c3
      clear x12_0 x12_1 x12_2
      obtain ⟨x12_0, x12_1, x12_2⟩ := x12.c3
      clear a1 a2
      obtain ⟨hb9, hv9⟩ := VS.out _ _ _ _ caa1.out casv.out
      rw [hb9]
      rw [hv9] at sv
      clear hb9 hv9 casv lvsv
      obtain ⟨Xsv, Ysv, rfl, sv, svd⟩ := sv
      obtain ⟨Asv, nsv, csv, rfl⟩ := sv.shape
      obtain ⟨Asvd, nsvd, csvd, rfl⟩ := svd.shape
      try go_wp2_with fail
      refine hK.out _ _ (by exact ⟨UP, x7_0, x7_1, x8_0, x8_1, x9_0, x9_1, x9_2⟩) (fun hHeld => ?_)
      clear hK K
      try simp only [List.getElem_toArray, List.getElem_cons_zero, List.getElem_cons_succ, Act.put, List.setIfInBounds_toArray, List.set_cons_zero, List.set_cons_succ])
   | (have hK := hK8
      clear hK8
      (try clear hHeld)
      go_simp
      have y1 := Bx.new 69 WC [.bool false, .slice none 0 0, .slice none 0 0]
      have b0_lt_y1 := b0.lt
      have b1_lt_y1 := b1.lt
      have b2_lt_y1 := b2.lt
      have x7_lt_y1 := x7.lt
      have x8_lt_y1 := x8.lt
      have x9_lt_y1 := x9.lt
      have x10_lt_y1 := x10.lt
      have x12_lt_y1 := x12.lt
      have y1_base := UP.size
      have x_ne_y1 := x.ne
      have xe_ne_y1 := xe.ne
      have y_ne_y1 := y.ne
      have ye_ne_y1 := ye.ne
      replace FZ := FZ.up ((Up.refl WC).alloc (.cells #[.bool false, .slice none 0 0, .slice none 0 0] 69))
      replace x := x.up ((Up.refl WC).alloc (.cells #[.bool false, .slice none 0 0, .slice none 0 0] 69))
      replace xe := xe.up ((Up.refl WC).alloc (.cells #[.bool false, .slice none 0 0, .slice none 0 0] 69))
      replace y := y.up ((Up.refl WC).alloc (.cells #[.bool false, .slice none 0 0, .slice none 0 0] 69))
      replace ye := ye.up ((Up.refl WC).alloc (.cells #[.bool false, .slice none 0 0, .slice none 0 0] 69))
      replace mv := mv.up ((Up.refl WC).alloc (.cells #[.bool false, .slice none 0 0, .slice none 0 0] 69))
      replace mvd := mvd.up ((Up.refl WC).alloc (.cells #[.bool false, .slice none 0 0, .slice none 0 0] 69))
      replace nv := nv.up ((Up.refl WC).alloc (.cells #[.bool false, .slice none 0 0, .slice none 0 0] 69))
      replace nvd := nvd.up ((Up.refl WC).alloc (.cells #[.bool false, .slice none 0 0, .slice none 0 0] 69))
      try (replace a1 := a1.up ((Up.refl WC).alloc (.cells #[.bool false, .slice none 0 0, .slice none 0 0] 69)))
      try (replace a2 := a2.up ((Up.refl WC).alloc (.cells #[.bool false, .slice none 0 0, .slice none 0 0] 69)))
      try (replace sv := sv.up ((Up.refl WC).alloc (.cells #[.bool false, .slice none 0 0, .slice none 0 0] 69)))
      try (replace svd := svd.up ((Up.refl WC).alloc (.cells #[.bool false, .slice none 0 0, .slice none 0 0] 69)))
      replace b0 := b0.up ((Up.refl WC).alloc (.cells #[.bool false, .slice none 0 0, .slice none 0 0] 69))
      replace b1 := b1.up ((Up.refl WC).alloc (.cells #[.bool false, .slice none 0 0, .slice none 0 0] 69))
      replace b2 := b2.up ((Up.refl WC).alloc (.cells #[.bool false, .slice none 0 0, .slice none 0 0] 69))
      replace x7 := x7.up ((Up.refl WC).alloc (.cells #[.bool false, .slice none 0 0, .slice none 0 0] 69))
      replace x8 := x8.up ((Up.refl WC).alloc (.cells #[.bool false, .slice none 0 0, .slice none 0 0] 69))
      replace x9 := x9.up ((Up.refl WC).alloc (.cells #[.bool false, .slice none 0 0, .slice none 0 0] 69))
      replace x10 := x10.up ((Up.refl WC).alloc (.cells #[.bool false, .slice none 0 0, .slice none 0 0] 69))
      replace x12 := x12.up ((Up.refl WC).alloc (.cells #[.bool false, .slice none 0 0, .slice none 0 0] 69))
      replace UP := UP.trans ((Up.refl WC).alloc (.cells #[.bool false, .slice none 0 0, .slice none 0 0] 69))
      generalize WC.alloc (.cells #[.bool false, .slice none 0 0, .slice none 0 0] 69) = WD at *
      generalize WC.heap.size = gy1 at *
      obtain ⟨WC, hWC⟩ : ∃ W, W = WD := ⟨_, rfl⟩
      subst hWC
      clear b0_0 b0_1
      obtain ⟨b0_0, b0_1⟩ := b0.c2
      clear b1_0 b1_1
      obtain ⟨b1_0, b1_1⟩ := b1.c2
      clear b2_0 b2_1 b2_2
      obtain ⟨b2_0, b2_1, b2_2⟩ := b2.c3
      clear x7_0 x7_1
      obtain ⟨x7_0, x7_1⟩ := x7.c2
      clear x8_0 x8_1
      obtain ⟨x8_0, x8_1⟩ := x8.c2
      clear x9_0 x9_1 x9_2
      obtain ⟨x9_0, x9_1, x9_2⟩ := x9.c3
      clear x10_0 x10_1 x10_2
      obtain ⟨x10_0, x10_1, x10_2⟩ := x10.c3
      clear x12_0 x12_1 x12_2
      obtain ⟨x12_0, x12_1, x12_2⟩ := x12.c3
      refine hK.out _ _ (by exact ⟨UP, x7_0, x7_1, x8_0, x8_1, x9_0, x9_1, x9_2⟩) (fun hHeld => ?_)
      clear hK K
      try simp only [List.getElem_toArray, List.getElem_cons_zero, List.getElem_cons_succ, Act.put, List.setIfInBounds_toArray, List.set_cons_zero, List.set_cons_succ])
   | (have hK := hK9
      clear hK9
      (try clear hHeld)
      obtain ⟨ce0, ce1, ce2⟩ := y1.c3
      have fr0 := y1.free 0
      have fr1 := y1.free 1
      have fr2 := y1.free 2
      go_simp
      clear ce0 ce1 ce2 fr0 fr1 fr2
      have KW : Kw (WC) ((WC).setCell ⟨gy1, 0, none⟩ (.bool (Wd.ngb SU.num))) := Kw.store (c := (.bool false)) y1 rfl trivial _
      replace FZ := FZ.kw KW
      replace x := x.stored2 x_ne_y1 KW
      replace xe := xe.stored2 xe_ne_y1 KW
      replace y := y.stored2 y_ne_y1 KW
      replace ye := ye.stored2 ye_ne_y1 KW
      replace mv := mv.kw KW
      replace mvd := mvd.kw KW
      replace nv := nv.kw KW
      replace nvd := nvd.kw KW
      try (replace a1 := a1.stored y1 (by decide) KW)
      try (replace a2 := a2.stored y1 (by decide) KW)
      try (replace sv := sv.kw KW)
      try (replace svd := svd.kw KW)
      replace b0 := b0.far (p := ⟨gy1, 0, none⟩) (by dsimp only; omega) (.bool (Wd.ngb SU.num))
      replace b1 := b1.far (p := ⟨gy1, 0, none⟩) (by dsimp only; omega) (.bool (Wd.ngb SU.num))
      replace b2 := b2.far (p := ⟨gy1, 0, none⟩) (by dsimp only; omega) (.bool (Wd.ngb SU.num))
      replace x7 := x7.far (p := ⟨gy1, 0, none⟩) (by dsimp only; omega) (.bool (Wd.ngb SU.num))
      replace x8 := x8.far (p := ⟨gy1, 0, none⟩) (by dsimp only; omega) (.bool (Wd.ngb SU.num))
      replace x9 := x9.far (p := ⟨gy1, 0, none⟩) (by dsimp only; omega) (.bool (Wd.ngb SU.num))
      replace x10 := x10.far (p := ⟨gy1, 0, none⟩) (by dsimp only; omega) (.bool (Wd.ngb SU.num))
      replace x12 := x12.far (p := ⟨gy1, 0, none⟩) (by dsimp only; omega) (.bool (Wd.ngb SU.num))
      replace y1 : Bx 69 ((WC).setCell ⟨gy1, 0, none⟩ (.bool (Wd.ngb SU.num))) (gy1) [.bool (Wd.ngb SU.num), .slice none 0 0, .slice none 0 0] := y1.set 0 (.bool (Wd.ngb SU.num))
      replace UP := UP.setCell (p := ⟨gy1, 0, none⟩) (by dsimp only; omega) (.bool (Wd.ngb SU.num))
      have KW : Kw (((WC).setCell ⟨gy1, 0, none⟩ (.bool (Wd.ngb SU.num)))) ((((WC).setCell ⟨gy1, 0, none⟩ (.bool (Wd.ngb SU.num)))).setCell ⟨gy1, 1, none⟩ (.slice Asv nsv csv)) := Kw.store (c := (.slice none 0 0)) y1 rfl trivial _
      replace FZ := FZ.kw KW
      replace x := x.stored2 x_ne_y1 KW
      replace xe := xe.stored2 xe_ne_y1 KW
      replace y := y.stored2 y_ne_y1 KW
      replace ye := ye.stored2 ye_ne_y1 KW
      replace mv := mv.kw KW
      replace mvd := mvd.kw KW
      replace nv := nv.kw KW
      replace nvd := nvd.kw KW
      try (replace a1 := a1.stored y1 (by decide) KW)
      try (replace a2 := a2.stored y1 (by decide) KW)
      try (replace sv := sv.kw KW)
      try (replace svd := svd.kw KW)
      replace b0 := b0.far (p := ⟨gy1, 1, none⟩) (by dsimp only; omega) (.slice Asv nsv csv)
      replace b1 := b1.far (p := ⟨gy1, 1, none⟩) (by dsimp only; omega) (.slice Asv nsv csv)
      replace b2 := b2.far (p := ⟨gy1, 1, none⟩) (by dsimp only; omega) (.slice Asv nsv csv)
      replace x7 := x7.far (p := ⟨gy1, 1, none⟩) (by dsimp only; omega) (.slice Asv nsv csv)
      replace x8 := x8.far (p := ⟨gy1, 1, none⟩) (by dsimp only; omega) (.slice Asv nsv csv)
      replace x9 := x9.far (p := ⟨gy1, 1, none⟩) (by dsimp only; omega) (.slice Asv nsv csv)
      replace x10 := x10.far (p := ⟨gy1, 1, none⟩) (by dsimp only; omega) (.slice Asv nsv csv)
      replace x12 := x12.far (p := ⟨gy1, 1, none⟩) (by dsimp only; omega) (.slice Asv nsv csv)
      replace y1 : Bx 69 ((((WC).setCell ⟨gy1, 0, none⟩ (.bool (Wd.ngb SU.num)))).setCell ⟨gy1, 1, none⟩ (.slice Asv nsv csv)) (gy1) [.bool (Wd.ngb SU.num), .slice Asv nsv csv, .slice none 0 0] := y1.set 1 (.slice Asv nsv csv)
      replace UP := UP.setCell (p := ⟨gy1, 1, none⟩) (by dsimp only; omega) (.slice Asv nsv csv)
      have KW : Kw (((((WC).setCell ⟨gy1, 0, none⟩ (.bool (Wd.ngb SU.num)))).setCell ⟨gy1, 1, none⟩ (.slice Asv nsv csv))) ((((((WC).setCell ⟨gy1, 0, none⟩ (.bool (Wd.ngb SU.num)))).setCell ⟨gy1, 1, none⟩ (.slice Asv nsv csv))).setCell ⟨gy1, 2, none⟩ (.slice Asvd nsvd csvd)) := Kw.store (c := (.slice none 0 0)) y1 rfl trivial _
      replace FZ := FZ.kw KW
      replace x := x.stored2 x_ne_y1 KW
      replace xe := xe.stored2 xe_ne_y1 KW
      replace y := y.stored2 y_ne_y1 KW
      replace ye := ye.stored2 ye_ne_y1 KW
      replace mv := mv.kw KW
      replace mvd := mvd.kw KW
      replace nv := nv.kw KW
      replace nvd := nvd.kw KW
      try (replace a1 := a1.stored y1 (by decide) KW)
      try (replace a2 := a2.stored y1 (by decide) KW)
      try (replace sv := sv.kw KW)
      try (replace svd := svd.kw KW)
      replace b0 := b0.far (p := ⟨gy1, 2, none⟩) (by dsimp only; omega) (.slice Asvd nsvd csvd)
      replace b1 := b1.far (p := ⟨gy1, 2, none⟩) (by dsimp only; omega) (.slice Asvd nsvd csvd)
      replace b2 := b2.far (p := ⟨gy1, 2, none⟩) (by dsimp only; omega) (.slice Asvd nsvd csvd)
      replace x7 := x7.far (p := ⟨gy1, 2, none⟩) (by dsimp only; omega) (.slice Asvd nsvd csvd)
      replace x8 := x8.far (p := ⟨gy1, 2, none⟩) (by dsimp only; omega) (.slice Asvd nsvd csvd)
      replace x9 := x9.far (p := ⟨gy1, 2, none⟩) (by dsimp only; omega) (.slice Asvd nsvd csvd)
      replace x10 := x10.far (p := ⟨gy1, 2, none⟩) (by dsimp only; omega) (.slice Asvd nsvd csvd)
      replace x12 := x12.far (p := ⟨gy1, 2, none⟩) (by dsimp only; omega) (.slice Asvd nsvd csvd)
      replace y1 : Bx 69 ((((((WC).setCell ⟨gy1, 0, none⟩ (.bool (Wd.ngb SU.num)))).setCell ⟨gy1, 1, none⟩ (.slice Asv nsv csv))).setCell ⟨gy1, 2, none⟩ (.slice Asvd nsvd csvd)) (gy1) [.bool (Wd.ngb SU.num), .slice Asv nsv csv, .slice Asvd nsvd csvd] := y1.set 2 (.slice Asvd nsvd csvd)
      replace UP := UP.setCell (p := ⟨gy1, 2, none⟩) (by dsimp only; omega) (.slice Asvd nsvd csvd)
      clear KW
      generalize ((((((WC).setCell ⟨gy1, 0, none⟩ (.bool (Wd.ngb SU.num)))).setCell ⟨gy1, 1, none⟩ (.slice Asv nsv csv))).setCell ⟨gy1, 2, none⟩ (.slice Asvd nsvd csvd)) = WD at *
      obtain ⟨WC, hWC⟩ : ∃ W, W = WD := ⟨_, rfl⟩
      subst hWC
      clear b0_0 b0_1
      obtain ⟨b0_0, b0_1⟩ := b0.c2
      clear b1_0 b1_1
      obtain ⟨b1_0, b1_1⟩ := b1.c2
      clear b2_0 b2_1 b2_2
      obtain ⟨b2_0, b2_1, b2_2⟩ := b2.c3
      clear x7_0 x7_1
      obtain ⟨x7_0, x7_1⟩ := x7.c2
      clear x8_0 x8_1
      obtain ⟨x8_0, x8_1⟩ := x8.c2
      clear x9_0 x9_1 x9_2
      obtain ⟨x9_0, x9_1, x9_2⟩ := x9.c3
      clear x10_0 x10_1 x10_2
      obtain ⟨x10_0, x10_1, x10_2⟩ := x10.c3
      clear x12_0 x12_1 x12_2
      obtain ⟨x12_0, x12_1, x12_2⟩ := x12.c3
      refine hK.out _ _ (by exact ⟨UP, x7_0, x7_1, x8_0, x8_1, x9_0, x9_1, x9_2⟩) (fun hHeld => ?_)
      clear hK K
      try simp only [List.getElem_toArray, List.getElem_cons_zero, List.getElem_cons_succ, Act.put, List.setIfInBounds_toArray, List.set_cons_zero, List.set_cons_succ])
   | (have hK := hK10
      clear hK10
      (try clear hHeld)
      go_simp
      refine hK.out _ _ (by exact ⟨UP, x7_0, x7_1, x8_0, x8_1, x9_0, x9_1, x9_2⟩) (fun hHeld => ?_)
      clear hK K
      try simp only [List.getElem_toArray, List.getElem_cons_zero, List.getElem_cons_succ, Act.put, List.setIfInBounds_toArray, List.set_cons_zero, List.set_cons_succ])
   | refine wpAnyH_done (by decide +kernel) (NoPanic.normal ?_) _
   | fail
  all_goals try clear hHeld
  all_goals obtain ⟨y1_0, y1_1, y1_2⟩ := y1.c3
  all_goals
   go_wp2_with fail
   go_meet
   exact ⟨gy1, _, _, _, _, _, _, rfl, rfl, y1, sv, svd, x7, x8, x9, x10, x12, x, xe, y, ye, FZ, mv, mvd, nv, nvd, UP⟩
 case rest =>
  as_aux_lemma =>
   obtain ⟨g14, Asv, Bsv, nsv, csv, nsv', csv', rfl, rfl, x14, sv, svd, x7, x8, x9, x10, x12, x, xe, y, ye, FZ, mv, mvd, nv, nvd, UP⟩ := hcut
   clear x7_0 x7_1 x8_0 x8_1 x9_0 x9_1 x9_2 x10_0 x10_1 x10_2 x12_0 x12_1 x12_2
   obtain ⟨x7_0, x7_1⟩ := x7.c2
   obtain ⟨x8_0, x8_1⟩ := x8.c2
   obtain ⟨x9_0, x9_1, x9_2⟩ := x9.c3
   obtain ⟨x10_0, x10_1, x10_2⟩ := x10.c3
   obtain ⟨x12_0, x12_1, x12_2⟩ := x12.c3
   obtain ⟨x14_0, x14_1, x14_2⟩ := x14.c3
   go_upto_region 11 with fail
   go_cut [16, 17] (fun t16 t17 wx => ∃ (g : Nat) (A B : Option Addr) (n c n' c' : Nat), t16 = .pointer (some ⟨g, 0, none⟩) ∧ t17 = .bool true ∧ Bx 69 wx g [.bool (Wd.ngb DI.num), .slice A n c, .slice B n' c'] ∧ Ws wx (.slice A n c) (Wd.words DI.num.natAbs) ∧ Ws wx (.slice B n' c') (Wd.words DI.den) ∧ Bx 120 wx (W4.heap.size) [.slice Ax p.length cx, .slice Axe q.length cxe] ∧ Bx 120 wx (W6.heap.size) [.slice Ay p'.length cy, .slice Aye q'.length cye] ∧ Bx 69 wx (W8.heap.size) [.bool s, .slice A3 l.length c3, .slice B3 m.length d3] ∧ Bx 69 wx (W10.heap.size) [.bool (Wd.ngb MV.num), .slice Amv nmv cmv, .slice Amvd nmvd cmvd] ∧ Bx 69 wx (W12.heap.size) [.bool (Wd.ngb NV.num), .slice Anv nnv cnv, .slice Anvd nnvd cnvd] ∧ Bx 69 wx (g14) [.bool (Wd.ngb SU.num), .slice Asv nsv csv, .slice Bsv nsv' csv'] ∧ BRow 2 wx (.slice Ax p.length cx) p ∧ BRow 2 wx (.slice Axe q.length cxe) q ∧ BRow 2 wx (.slice Ay p'.length cy) p' ∧ BRow 2 wx (.slice Aye q'.length cye) q' ∧ Fr wx (.agg #[.bool s, .slice A3 l.length c3, .slice B3 m.length d3]) z 1 ∧ Ws wx (.slice Amv nmv cmv) (Wd.words MV.num.natAbs) ∧ Ws wx (.slice Amvd nmvd cmvd) (Wd.words MV.den) ∧ Ws wx (.slice Anv nnv cnv) (Wd.words NV.num.natAbs) ∧ Ws wx (.slice Anvd nnvd cnvd) (Wd.words NV.den) ∧ Ws wx (.slice Asv nsv csv) (Wd.words SU.num.natAbs) ∧ Ws wx (.slice Bsv nsv' csv') (Wd.words SU.den) ∧ Up w wx)
   case first =>
    replace x := x.up (Up.refl wc).drew
    replace xe := xe.up (Up.refl wc).drew
    replace y := y.up (Up.refl wc).drew
    replace ye := ye.up (Up.refl wc).drew
    replace FZ := FZ.up (Up.refl wc).drew
    replace mv := mv.up (Up.refl wc).drew
    replace mvd := mvd.up (Up.refl wc).drew
    replace nv := nv.up (Up.refl wc).drew
    replace nvd := nvd.up (Up.refl wc).drew
    replace sv := sv.up (Up.refl wc).drew
    replace svd := svd.up (Up.refl wc).drew
    replace x7 := x7.up (Up.refl wc).drew
    replace x8 := x8.up (Up.refl wc).drew
    replace x9 := x9.up (Up.refl wc).drew
    replace x10 := x10.up (Up.refl wc).drew
    replace x12 := x12.up (Up.refl wc).drew
    replace x14 := x14.up (Up.refl wc).drew
    replace UP := UP.trans (Up.refl wc).drew
    clear x7_0 x7_1 x8_0 x8_1 x9_0 x9_1 x9_2 x10_0 x10_1 x10_2 x12_0 x12_1 x12_2 x14_0 x14_1 x14_2
    obtain ⟨x7_0, x7_1⟩ := x7.c2
    obtain ⟨x8_0, x8_1⟩ := x8.c2
    obtain ⟨x9_0, x9_1, x9_2⟩ := x9.c3
    obtain ⟨x10_0, x10_1, x10_2⟩ := x10.c3
    obtain ⟨x12_0, x12_1, x12_2⟩ := x12.c3
    obtain ⟨x14_0, x14_1, x14_2⟩ := x14.c3
    refine wp_region_noPanic ?_
    refine wp_region_held_drew (S := fun w' => Up w w' ∧ w'.cell? ⟨W4.heap.size, 0, none⟩ = some (.slice Ax p.length cx) ∧ w'.cell? ⟨W4.heap.size, 1, none⟩ = some (.slice Axe q.length cxe) ∧ w'.cell? ⟨W6.heap.size, 0, none⟩ = some (.slice Ay p'.length cy) ∧ w'.cell? ⟨W6.heap.size, 1, none⟩ = some (.slice Aye q'.length cye) ∧ w'.cell? ⟨W8.heap.size, 0, none⟩ = some (.bool s) ∧ w'.cell? ⟨W8.heap.size, 1, none⟩ = some (.slice A3 l.length c3) ∧ w'.cell? ⟨W8.heap.size, 2, none⟩ = some (.slice B3 m.length d3)) (by kernel_rfl) (by exact ⟨UP, x7_0, x7_1, x8_0, x8_1, x9_0, x9_1, x9_2⟩) (fun hHeld => ?_)
    clear hHeld
    generalize wc.drew = WC at *
    have hHeld : Up w WC ∧ WC.cell? ⟨W4.heap.size, 0, none⟩ = some (.slice Ax p.length cx) ∧ WC.cell? ⟨W4.heap.size, 1, none⟩ = some (.slice Axe q.length cxe) ∧ WC.cell? ⟨W6.heap.size, 0, none⟩ = some (.slice Ay p'.length cy) ∧ WC.cell? ⟨W6.heap.size, 1, none⟩ = some (.slice Aye q'.length cye) ∧ WC.cell? ⟨W8.heap.size, 0, none⟩ = some (.bool s) ∧ WC.cell? ⟨W8.heap.size, 1, none⟩ = some (.slice A3 l.length c3) ∧ WC.cell? ⟨W8.heap.size, 2, none⟩ = some (.slice B3 m.length d3) := by exact ⟨UP, x7_0, x7_1, x8_0, x8_1, x9_0, x9_1, x9_2⟩
    refine wpAnyH_take (i := 0) (v := ?_) rfl (by kernel_rfl) (by decide +kernel) (by decide +kernel) (fun _ _ _ h => h) (Or.inl ⟨by rfl, ?_⟩) (by assumption) ?_
    rotate_left
    · (intro w hSw; (try dsimp only at hSw); go_simp; first | done | with_reducible rfl)
    try simp only [List.getElem_toArray, List.getElem_cons_zero, List.getElem_cons_succ, Act.put, List.setIfInBounds_toArray, List.set_cons_zero, List.set_cons_succ]
    refine wpAnyH_take (i := 1) (v := ?_) rfl (by kernel_rfl) (by decide +kernel) (by decide +kernel) (fun _ _ _ h => h) (Or.inl ⟨by rfl, ?_⟩) (by assumption) ?_
    rotate_left
    · (intro w hSw; (try dsimp only at hSw); go_simp; first | done | with_reducible rfl)
    try simp only [List.getElem_toArray, List.getElem_cons_zero, List.getElem_cons_succ, Act.put, List.setIfInBounds_toArray, List.set_cons_zero, List.set_cons_succ]
    refine wpAnyH_take (i := 3) (v := ?_) rfl (by kernel_rfl) (by decide +kernel) (by decide +kernel) (fun _ _ _ h => h) (Or.inl ⟨by rfl, ?_⟩) (by assumption) ?_
    rotate_left
    · (intro w hSw; (try dsimp only at hSw); go_simp; first | done | with_reducible rfl)
    try simp only [List.getElem_toArray, List.getElem_cons_zero, List.getElem_cons_succ, Act.put, List.setIfInBounds_toArray, List.set_cons_zero, List.set_cons_succ]
    repeat' first
     | (refine wpAnyH_take (i := 5) (v := ?_) rfl (by kernel_rfl) (by decide +kernel) (by decide +kernel) (fun _ _ _ h => h) (Or.inl ⟨by rfl, ?_⟩) (by assumption) ?_
        rotate_left
        · (intro w hSw; (try dsimp only at hSw); go_simp; first | done | with_reducible rfl)
        try simp only [List.getElem_toArray, List.getElem_cons_zero, List.getElem_cons_succ, Act.put, List.setIfInBounds_toArray, List.set_cons_zero, List.set_cons_succ])
     | (refine wpAnyH_take (i := 6) (v := ?_) rfl (by kernel_rfl) (by decide +kernel) (by decide +kernel) (fun _ _ _ h => h) (Or.inl ⟨by rfl, ?_⟩) (by assumption) ?_
        rotate_left
        · (intro w hSw; (try dsimp only at hSw); go_simp; first | done | with_reducible rfl)
        try simp only [List.getElem_toArray, List.getElem_cons_zero, List.getElem_cons_succ, Act.put, List.setIfInBounds_toArray, List.set_cons_zero, List.set_cons_succ])
     | (refine wpAnyH_take (i := 7) (v := ?_) rfl (by kernel_rfl) (by decide +kernel) (by decide +kernel) (fun _ _ _ h => h) (Or.inl ⟨by rfl, ?_⟩) (by assumption) ?_
        rotate_left
        · (intro w hSw; (try dsimp only at hSw); go_simp; first | done | with_reducible rfl)
        try simp only [List.getElem_toArray, List.getElem_cons_zero, List.getElem_cons_succ, Act.put, List.setIfInBounds_toArray, List.set_cons_zero, List.set_cons_succ])
     | refine wpAnyH_ready (rs := [2, 8]) (by decide +kernel) (by simp) ?_
     | refine wpAnyH_ready (rs := [2]) (by decide +kernel) (by simp) ?_
     | refine wpAnyH_ready (rs := [4, 8]) (by decide +kernel) (by simp) ?_
     | refine wpAnyH_ready (rs := [4]) (by decide +kernel) (by simp) ?_
     | refine wpAnyH_ready (rs := [8]) (by decide +kernel) (by simp) ?_
     | refine wpAnyH_ready (rs := [9]) (by decide +kernel) (by simp) ?_
     | refine wpAnyH_ready (rs := [10]) (by decide +kernel) (by simp) ?_
     | refine AllReadyH.cons (i := 2) rfl (fun K hK2 => ?_) ?_
     | refine AllReadyH.cons (i := 4) rfl (fun K hK4 => ?_) ?_
     | refine AllReadyH.cons (i := 8) rfl (fun K hK8 => ?_) ?_
     | refine AllReadyH.cons (i := 9) rfl (fun K hK9 => ?_) ?_
     | refine AllReadyH.cons (i := 10) rfl (fun K hK10 => ?_) ?_
     | exact AllReadyH.nil
     | (have hK := hK2
        clear hK2
        (try clear hHeld)
        go_simp
        go_at_call 85
        ((with_reducible refine (ratf_sub (k := 2) x.fs xe.fs lp3 lq3 (by omega) LPQ.out y.fs ye.fs lp3' lq3' (by omega) LPQ'.out 5 (by omega) (by omega) (K' := 48) (by omega) (by omega) (KS := 570) (by omega) (by omega) (by omega) (by omega) HP HD HP' HD').mono ?_))
        rintro e WD ⟨V2, U2, psa1, qsa1, rfl, a1, a2, caa1, lpa1, lea1, uu⟩
        obtain ⟨Aa1, ca1, rfl⟩ := a1.form
        obtain ⟨Aa2, ca2, rfl⟩ := a2.form
        replace x := x.up uu
        replace xe := xe.up uu
        replace y := y.up uu
        replace ye := ye.up uu
        replace FZ := FZ.up uu
        replace mv := mv.up uu
        replace mvd := mvd.up uu
        replace nv := nv.up uu
        replace nvd := nvd.up uu
        replace sv := sv.up uu
        replace svd := svd.up uu
        try (replace dv := dv.up uu)
        try (replace dvd := dvd.up uu)
        replace x7 := x7.up uu
        replace x8 := x8.up uu
        replace x9 := x9.up uu
        replace x10 := x10.up uu
        replace x12 := x12.up uu
        replace x14 := x14.up uu
        try (replace y1 := y1.up uu)
        replace UP := UP.trans uu
        clear uu
        obtain ⟨WC, hWC⟩ : ∃ W, W = WD := ⟨_, rfl⟩
        subst hWC
        clear x7_0 x7_1
        obtain ⟨x7_0, x7_1⟩ := x7.c2
        clear x8_0 x8_1
        obtain ⟨x8_0, x8_1⟩ := x8.c2
        clear x9_0 x9_1 x9_2
        obtain ⟨x9_0, x9_1, x9_2⟩ := x9.c3
        clear x10_0 x10_1 x10_2
        obtain ⟨x10_0, x10_1, x10_2⟩ := x10.c3
        clear x12_0 x12_1 x12_2
        obtain ⟨x12_0, x12_1, x12_2⟩ := x12.c3
        clear x14_0 x14_1 x14_2
        obtain ⟨x14_0, x14_1, x14_2⟩ := x14.c3
        replace a1 := a1.fs
        replace a2 := a2.fs
        try go_wp2_with fail
        refine hK.out _ _ (by exact ⟨UP, x7_0, x7_1, x8_0, x8_1, x9_0, x9_1, x9_2⟩) (fun hHeld => ?_)
        clear hK K
        try simp only [List.getElem_toArray, List.getElem_cons_zero, List.getElem_cons_succ, Act.put, List.setIfInBounds_toArray, List.set_cons_zero, List.set_cons_succ])
     | (have hK := hK4
        clear hK4
        (try clear hHeld)
        go_simp
        go_at_call 83
        ((with_reducible refine (ratf_eval (k := 570) (m := 5) (kz := 1) a1 a2 lea1.out.1 lea1.out.2 (by omega) (by omega) lpa1.out (K := 5710) (by omega) (by omega) (by omega) (by omega) (Lib.hid (Pq.pu_of caa1.out.nd)) (Lib.hid (Pq.pd_of caa1.out.nd)) FZ (KE := 57124) (by omega) (by omega) (by omega)).mono ?_))
        rintro e WD ⟨V4, usdv, dsdv, rfl, dv, cadv, lvdv, uu⟩
        replace x := x.up uu
        replace xe := xe.up uu
        replace y := y.up uu
        replace ye := ye.up uu
        replace FZ := FZ.up uu
        replace mv := mv.up uu
        replace mvd := mvd.up uu
        replace nv := nv.up uu
        replace nvd := nvd.up uu
        replace sv := sv.up uu
        replace svd := svd.up uu
        try (replace a1 := a1.up uu)
        try (replace a2 := a2.up uu)
        try (replace dvd := dvd.up uu)
        replace x7 := x7.up uu
        replace x8 := x8.up uu
        replace x9 := x9.up uu
        replace x10 := x10.up uu
        replace x12 := x12.up uu
        replace x14 := x14.up uu
        try (replace y1 := y1.up uu)
        replace UP := UP.trans uu
        clear uu
        obtain ⟨WC, hWC⟩ : ∃ W, W = WD := ⟨_, rfl⟩
        subst hWC
        clear x7_0 x7_1
        obtain ⟨x7_0, x7_1⟩ := x7.c2
        clear x8_0 x8_1
        obtain ⟨x8_0, x8_1⟩ := x8.c2
        clear x9_0 x9_1 x9_2
        obtain ⟨x9_0, x9_1, x9_2⟩ := x9.c3
        clear x10_0 x10_1 x10_2
        obtain ⟨x10_0, x10_1, x10_2⟩ := x10.c3
        clear x12_0 x12_1 x12_2
        obtain ⟨x12_0, x12_1, x12_2⟩ := x12.c3
        clear x14_0 x14_1 x14_2
        obtain ⟨x14_0, x14_1, x14_2⟩ := x14.c3
        clear a1 a2
        obtain ⟨hb9, hv9⟩ := VD.out _ _ _ _ caa1.out cadv.out
        rw [hb9]
        rw [hv9] at dv
        clear hb9 hv9 cadv lvdv
        obtain ⟨Xdv, Ydv, rfl, dv, dvd⟩ := dv
        obtain ⟨Adv, ndv, cdv, rfl⟩ := dv.shape
        obtain ⟨Advd, ndvd, cdvd, rfl⟩ := dvd.shape
        try go_wp2_with fail
        refine hK.out _ _ (by exact ⟨UP, x7_0, x7_1, x8_0, x8_1, x9_0, x9_1, x9_2⟩) (fun hHeld => ?_)
        clear hK K
        try simp only [List.getElem_toArray, List.getElem_cons_zero, List.getElem_cons_succ, Act.put, List.setIfInBounds_toArray, List.set_cons_zero, List.set_cons_succ])
     | (have hK := hK8
        clear hK8
        (try clear hHeld)
        go_simp
        have y1 := Bx.new 69 WC [.bool false, .slice none 0 0, .slice none 0 0]
        have x7_lt_y1 := x7.lt
        have x8_lt_y1 := x8.lt
        have x9_lt_y1 := x9.lt
        have x10_lt_y1 := x10.lt
        have x12_lt_y1 := x12.lt
        have x14_lt_y1 := x14.lt
        have y1_base := UP.size
        have x_ne_y1 := x.ne
        have xe_ne_y1 := xe.ne
        have y_ne_y1 := y.ne
        have ye_ne_y1 := ye.ne
        replace x := x.up ((Up.refl WC).alloc (.cells #[.bool false, .slice none 0 0, .slice none 0 0] 69))
        replace xe := xe.up ((Up.refl WC).alloc (.cells #[.bool false, .slice none 0 0, .slice none 0 0] 69))
        replace y := y.up ((Up.refl WC).alloc (.cells #[.bool false, .slice none 0 0, .slice none 0 0] 69))
        replace ye := ye.up ((Up.refl WC).alloc (.cells #[.bool false, .slice none 0 0, .slice none 0 0] 69))
        replace FZ := FZ.up ((Up.refl WC).alloc (.cells #[.bool false, .slice none 0 0, .slice none 0 0] 69))
        replace mv := mv.up ((Up.refl WC).alloc (.cells #[.bool false, .slice none 0 0, .slice none 0 0] 69))
        replace mvd := mvd.up ((Up.refl WC).alloc (.cells #[.bool false, .slice none 0 0, .slice none 0 0] 69))
        replace nv := nv.up ((Up.refl WC).alloc (.cells #[.bool false, .slice none 0 0, .slice none 0 0] 69))
        replace nvd := nvd.up ((Up.refl WC).alloc (.cells #[.bool false, .slice none 0 0, .slice none 0 0] 69))
        replace sv := sv.up ((Up.refl WC).alloc (.cells #[.bool false, .slice none 0 0, .slice none 0 0] 69))
        replace svd := svd.up ((Up.refl WC).alloc (.cells #[.bool false, .slice none 0 0, .slice none 0 0] 69))
        try (replace a1 := a1.up ((Up.refl WC).alloc (.cells #[.bool false, .slice none 0 0, .slice none 0 0] 69)))
        try (replace a2 := a2.up ((Up.refl WC).alloc (.cells #[.bool false, .slice none 0 0, .slice none 0 0] 69)))
        try (replace dv := dv.up ((Up.refl WC).alloc (.cells #[.bool false, .slice none 0 0, .slice none 0 0] 69)))
        try (replace dvd := dvd.up ((Up.refl WC).alloc (.cells #[.bool false, .slice none 0 0, .slice none 0 0] 69)))
        replace x7 := x7.up ((Up.refl WC).alloc (.cells #[.bool false, .slice none 0 0, .slice none 0 0] 69))
        replace x8 := x8.up ((Up.refl WC).alloc (.cells #[.bool false, .slice none 0 0, .slice none 0 0] 69))
        replace x9 := x9.up ((Up.refl WC).alloc (.cells #[.bool false, .slice none 0 0, .slice none 0 0] 69))
        replace x10 := x10.up ((Up.refl WC).alloc (.cells #[.bool false, .slice none 0 0, .slice none 0 0] 69))
        replace x12 := x12.up ((Up.refl WC).alloc (.cells #[.bool false, .slice none 0 0, .slice none 0 0] 69))
        replace x14 := x14.up ((Up.refl WC).alloc (.cells #[.bool false, .slice none 0 0, .slice none 0 0] 69))
        replace UP := UP.trans ((Up.refl WC).alloc (.cells #[.bool false, .slice none 0 0, .slice none 0 0] 69))
        generalize WC.alloc (.cells #[.bool false, .slice none 0 0, .slice none 0 0] 69) = WD at *
        generalize WC.heap.size = gy1 at *
        obtain ⟨WC, hWC⟩ : ∃ W, W = WD := ⟨_, rfl⟩
        subst hWC
        clear x7_0 x7_1
        obtain ⟨x7_0, x7_1⟩ := x7.c2
        clear x8_0 x8_1
        obtain ⟨x8_0, x8_1⟩ := x8.c2
        clear x9_0 x9_1 x9_2
        obtain ⟨x9_0, x9_1, x9_2⟩ := x9.c3
        clear x10_0 x10_1 x10_2
        obtain ⟨x10_0, x10_1, x10_2⟩ := x10.c3
        clear x12_0 x12_1 x12_2
        obtain ⟨x12_0, x12_1, x12_2⟩ := x12.c3
        clear x14_0 x14_1 x14_2
        obtain ⟨x14_0, x14_1, x14_2⟩ := x14.c3
        refine hK.out _ _ (by exact ⟨UP, x7_0, x7_1, x8_0, x8_1, x9_0, x9_1, x9_2⟩) (fun hHeld => ?_)
        clear hK K
        try simp only [List.getElem_toArray, List.getElem_cons_zero, List.getElem_cons_succ, Act.put, List.setIfInBounds_toArray, List.set_cons_zero, List.set_cons_succ])
     | (have hK := hK9
        clear hK9
        (try clear hHeld)
        obtain ⟨ce0, ce1, ce2⟩ := y1.c3
        have fr0 := y1.free 0
        have fr1 := y1.free 1
        have fr2 := y1.free 2
        go_simp
        clear ce0 ce1 ce2 fr0 fr1 fr2
        have KW : Kw (WC) ((WC).setCell ⟨gy1, 0, none⟩ (.bool (Wd.ngb DI.num))) := Kw.store (c := (.bool false)) y1 rfl trivial _
        replace x := x.stored2 x_ne_y1 KW
        replace xe := xe.stored2 xe_ne_y1 KW
        replace y := y.stored2 y_ne_y1 KW
        replace ye := ye.stored2 ye_ne_y1 KW
        replace FZ := FZ.kw KW
        replace mv := mv.kw KW
        replace mvd := mvd.kw KW
        replace nv := nv.kw KW
        replace nvd := nvd.kw KW
        replace sv := sv.kw KW
        replace svd := svd.kw KW
        try (replace a1 := a1.stored y1 (by decide) KW)
        try (replace a2 := a2.stored y1 (by decide) KW)
        try (replace dv := dv.kw KW)
        try (replace dvd := dvd.kw KW)
        replace x7 := x7.far (p := ⟨gy1, 0, none⟩) (by dsimp only; omega) (.bool (Wd.ngb DI.num))
        replace x8 := x8.far (p := ⟨gy1, 0, none⟩) (by dsimp only; omega) (.bool (Wd.ngb DI.num))
        replace x9 := x9.far (p := ⟨gy1, 0, none⟩) (by dsimp only; omega) (.bool (Wd.ngb DI.num))
        replace x10 := x10.far (p := ⟨gy1, 0, none⟩) (by dsimp only; omega) (.bool (Wd.ngb DI.num))
        replace x12 := x12.far (p := ⟨gy1, 0, none⟩) (by dsimp only; omega) (.bool (Wd.ngb DI.num))
        replace x14 := x14.far (p := ⟨gy1, 0, none⟩) (by dsimp only; omega) (.bool (Wd.ngb DI.num))
        replace y1 : Bx 69 ((WC).setCell ⟨gy1, 0, none⟩ (.bool (Wd.ngb DI.num))) (gy1) [.bool (Wd.ngb DI.num), .slice none 0 0, .slice none 0 0] := y1.set 0 (.bool (Wd.ngb DI.num))
        replace UP := UP.setCell (p := ⟨gy1, 0, none⟩) (by dsimp only; omega) (.bool (Wd.ngb DI.num))
        have KW : Kw (((WC).setCell ⟨gy1, 0, none⟩ (.bool (Wd.ngb DI.num)))) ((((WC).setCell ⟨gy1, 0, none⟩ (.bool (Wd.ngb DI.num)))).setCell ⟨gy1, 1, none⟩ (.slice Adv ndv cdv)) := Kw.store (c := (.slice none 0 0)) y1 rfl trivial _
        replace x := x.stored2 x_ne_y1 KW
        replace xe := xe.stored2 xe_ne_y1 KW
        replace y := y.stored2 y_ne_y1 KW
        replace ye := ye.stored2 ye_ne_y1 KW
        replace FZ := FZ.kw KW
        replace mv := mv.kw KW
        replace mvd := mvd.kw KW
        replace nv := nv.kw KW
        replace nvd := nvd.kw KW
        replace sv := sv.kw KW
        replace svd := svd.kw KW
        try (replace a1 := a1.stored y1 (by decide) KW)
        try (replace a2 := a2.stored y1 (by decide) KW)
        try (replace dv := dv.kw KW)
        try (replace dvd := dvd.kw KW)
        replace x7 := x7.far (p := ⟨gy1, 1, none⟩) (by dsimp only; omega) (.slice Adv ndv cdv)
        replace x8 := x8.far (p := ⟨gy1, 1, none⟩) (by dsimp only; omega) (.slice Adv ndv cdv)
        replace x9 := x9.far (p := ⟨gy1, 1, none⟩) (by dsimp only; omega) (.slice Adv ndv cdv)
        replace x10 := x10.far (p := ⟨gy1, 1, none⟩) (by dsimp only; omega) (.slice Adv ndv cdv)
        replace x12 := x12.far (p := ⟨gy1, 1, none⟩) (by dsimp only; omega) (.slice Adv ndv cdv)
        replace x14 := x14.far (p := ⟨gy1, 1, none⟩) (by dsimp only; omega) (.slice Adv ndv cdv)
        replace y1 : Bx 69 ((((WC).setCell ⟨gy1, 0, none⟩ (.bool (Wd.ngb DI.num)))).setCell ⟨gy1, 1, none⟩ (.slice Adv ndv cdv)) (gy1) [.bool (Wd.ngb DI.num), .slice Adv ndv cdv, .slice none 0 0] := y1.set 1 (.slice Adv ndv cdv)
        replace UP := UP.setCell (p := ⟨gy1, 1, none⟩) (by dsimp only; omega) (.slice Adv ndv cdv)
        have KW : Kw (((((WC).setCell ⟨gy1, 0, none⟩ (.bool (Wd.ngb DI.num)))).setCell ⟨gy1, 1, none⟩ (.slice Adv ndv cdv))) ((((((WC).setCell ⟨gy1, 0, none⟩ (.bool (Wd.ngb DI.num)))).setCell ⟨gy1, 1, none⟩ (.slice Adv ndv cdv))).setCell ⟨gy1, 2, none⟩ (.slice Advd ndvd cdvd)) := Kw.store (c := (.slice none 0 0)) y1 rfl trivial _
        replace x := x.stored2 x_ne_y1 KW
        replace xe := xe.stored2 xe_ne_y1 KW
        replace y := y.stored2 y_ne_y1 KW
        replace ye := ye.stored2 ye_ne_y1 KW
        replace FZ := FZ.kw KW
        replace mv := mv.kw KW
        replace mvd := mvd.kw KW
        replace nv := nv.kw KW
        replace nvd := nvd.kw KW
        replace sv := sv.kw KW
        replace svd := svd.kw KW
        try (replace a1 := a1.stored y1 (by decide) KW)
        try (replace a2 := a2.stored y1 (by decide) KW)
        try (replace dv := dv.kw KW)
        try (replace dvd := dvd.kw KW)
        replace x7 := x7.far (p := ⟨gy1, 2, none⟩) (by dsimp only; omega) (.slice Advd ndvd cdvd)
        replace x8 := x8.far (p := ⟨gy1, 2, none⟩) (by dsimp only; omega) (.slice Advd ndvd cdvd)
        replace x9 := x9.far (p := ⟨gy1, 2, none⟩) (by dsimp only; omega) (.slice Advd ndvd cdvd)
        replace x10 := x10.far (p := ⟨gy1, 2, none⟩) (by dsimp only; omega) (.slice Advd ndvd cdvd)
        replace x12 := x12.far (p := ⟨gy1, 2, none⟩) (by dsimp only; omega) (.slice Advd ndvd cdvd)
        replace x14 := x14.far (p := ⟨gy1, 2, none⟩) (by dsimp only; omega) (.slice Advd ndvd cdvd)
        replace y1 : Bx 69 ((((((WC).setCell ⟨gy1, 0, none⟩ (.bool (Wd.ngb DI.num)))).setCell ⟨gy1, 1, none⟩ (.slice Adv ndv cdv))).setCell ⟨gy1, 2, none⟩ (.slice Advd ndvd cdvd)) (gy1) [.bool (Wd.ngb DI.num), .slice Adv ndv cdv, .slice Advd ndvd cdvd] := y1.set 2 (.slice Advd ndvd cdvd)
        replace UP := UP.setCell (p := ⟨gy1, 2, none⟩) (by dsimp only; omega) (.slice Advd ndvd cdvd)
        clear KW
        generalize ((((((WC).setCell ⟨gy1, 0, none⟩ (.bool (Wd.ngb DI.num)))).setCell ⟨gy1, 1, none⟩ (.slice Adv ndv cdv))).setCell ⟨gy1, 2, none⟩ (.slice Advd ndvd cdvd)) = WD at *
        obtain ⟨WC, hWC⟩ : ∃ W, W = WD := ⟨_, rfl⟩
        subst hWC
        clear x7_0 x7_1
        obtain ⟨x7_0, x7_1⟩ := x7.c2
        clear x8_0 x8_1
        obtain ⟨x8_0, x8_1⟩ := x8.c2
        clear x9_0 x9_1 x9_2
        obtain ⟨x9_0, x9_1, x9_2⟩ := x9.c3
        clear x10_0 x10_1 x10_2
        obtain ⟨x10_0, x10_1, x10_2⟩ := x10.c3
        clear x12_0 x12_1 x12_2
        obtain ⟨x12_0, x12_1, x12_2⟩ := x12.c3
        clear x14_0 x14_1 x14_2
        obtain ⟨x14_0, x14_1, x14_2⟩ := x14.c3
        refine hK.out _ _ (by exact ⟨UP, x7_0, x7_1, x8_0, x8_1, x9_0, x9_1, x9_2⟩) (fun hHeld => ?_)
        clear hK K
        try simp only [List.getElem_toArray, List.getElem_cons_zero, List.getElem_cons_succ, Act.put, List.setIfInBounds_toArray, List.set_cons_zero, List.set_cons_succ])
     | (have hK := hK10
        clear hK10
        (try clear hHeld)
        go_simp
        refine hK.out _ _ (by exact ⟨UP, x7_0, x7_1, x8_0, x8_1, x9_0, x9_1, x9_2⟩) (fun hHeld => ?_)
        clear hK K
        try simp only [List.getElem_toArray, List.getElem_cons_zero, List.getElem_cons_succ, Act.put, List.setIfInBounds_toArray, List.set_cons_zero, List.set_cons_succ])
     | refine wpAnyH_done (by decide +kernel) (NoPanic.normal ?_) _
     | fail
    all_goals try clear hHeld
    all_goals obtain ⟨y1_0, y1_1, y1_2⟩ := y1.c3
    all_goals
     go_wp2_with fail
     go_meet
     exact ⟨gy1, _, _, _, _, _, _, rfl, rfl, y1, dv, dvd, x7, x8, x9, x10, x12, x14, x, xe, y, ye, FZ, mv, mvd, nv, nvd, sv, svd, UP⟩
   case rest =>
    as_aux_lemma =>
     obtain ⟨g16, Adv, Bdv, ndv, cdv, ndv', cdv', rfl, rfl, x16, dv, dvd, x7, x8, x9, x10, x12, x14, x, xe, y, ye, FZ, mv, mvd, nv, nvd, sv, svd, UP⟩ := hcut
     clear x7_0 x7_1 x8_0 x8_1 x9_0 x9_1 x9_2 x10_0 x10_1 x10_2 x12_0 x12_1 x12_2 x14_0 x14_1 x14_2
     obtain ⟨x7_0, x7_1⟩ := x7.c2
     obtain ⟨x8_0, x8_1⟩ := x8.c2
     obtain ⟨x9_0, x9_1, x9_2⟩ := x9.c3
     obtain ⟨x10_0, x10_1, x10_2⟩ := x10.c3
     obtain ⟨x12_0, x12_1, x12_2⟩ := x12.c3
     obtain ⟨x14_0, x14_1, x14_2⟩ := x14.c3
     obtain ⟨x16_0, x16_1, x16_2⟩ := x16.c3
     go_upto_region 12 with fail
     go_cut [18, 19] (fun t18 t19 wx => ∃ (g : Nat) (A B : Option Addr) (n c n' c' : Nat), t18 = .pointer (some ⟨g, 0, none⟩) ∧ t19 = .bool true ∧ Bx 69 wx g [.bool (Wd.ngb PR.num), .slice A n c, .slice B n' c'] ∧ Ws wx (.slice A n c) (Wd.words PR.num.natAbs) ∧ Ws wx (.slice B n' c') (Wd.words PR.den) ∧ Bx 120 wx (W4.heap.size) [.slice Ax p.length cx, .slice Axe q.length cxe] ∧ Bx 120 wx (W6.heap.size) [.slice Ay p'.length cy, .slice Aye q'.length cye] ∧ Bx 69 wx (W8.heap.size) [.bool s, .slice A3 l.length c3, .slice B3 m.length d3] ∧ Bx 69 wx (W10.heap.size) [.bool (Wd.ngb MV.num), .slice Amv nmv cmv, .slice Amvd nmvd cmvd] ∧ Bx 69 wx (W12.heap.size) [.bool (Wd.ngb NV.num), .slice Anv nnv cnv, .slice Anvd nnvd cnvd] ∧ Bx 69 wx (g14) [.bool (Wd.ngb SU.num), .slice Asv nsv csv, .slice Bsv nsv' csv'] ∧ Bx 69 wx (g16) [.bool (Wd.ngb DI.num), .slice Adv ndv cdv, .slice Bdv ndv' cdv'] ∧ BRow 2 wx (.slice Ax p.length cx) p ∧ BRow 2 wx (.slice Axe q.length cxe) q ∧ BRow 2 wx (.slice Ay p'.length cy) p' ∧ BRow 2 wx (.slice Aye q'.length cye) q' ∧ Fr wx (.agg #[.bool s, .slice A3 l.length c3, .slice B3 m.length d3]) z 1 ∧ Ws wx (.slice Amv nmv cmv) (Wd.words MV.num.natAbs) ∧ Ws wx (.slice Amvd nmvd cmvd) (Wd.words MV.den) ∧ Ws wx (.slice Anv nnv cnv) (Wd.words NV.num.natAbs) ∧ Ws wx (.slice Anvd nnvd cnvd) (Wd.words NV.den) ∧ Ws wx (.slice Asv nsv csv) (Wd.words SU.num.natAbs) ∧ Ws wx (.slice Bsv nsv' csv') (Wd.words SU.den) ∧ Ws wx (.slice Adv ndv cdv) (Wd.words DI.num.natAbs) ∧ Ws wx (.slice Bdv ndv' cdv') (Wd.words DI.den) ∧ Up w wx)
     case first =>
      replace x := x.up (Up.refl wc).drew
      replace xe := xe.up (Up.refl wc).drew
      replace y := y.up (Up.refl wc).drew
      replace ye := ye.up (Up.refl wc).drew
      replace FZ := FZ.up (Up.refl wc).drew
      replace mv := mv.up (Up.refl wc).drew
      replace mvd := mvd.up (Up.refl wc).drew
      replace nv := nv.up (Up.refl wc).drew
      replace nvd := nvd.up (Up.refl wc).drew
      replace sv := sv.up (Up.refl wc).drew
      replace svd := svd.up (Up.refl wc).drew
      replace dv := dv.up (Up.refl wc).drew
      replace dvd := dvd.up (Up.refl wc).drew
      replace x7 := x7.up (Up.refl wc).drew
      replace x8 := x8.up (Up.refl wc).drew
      replace x9 := x9.up (Up.refl wc).drew
      replace x10 := x10.up (Up.refl wc).drew
      replace x12 := x12.up (Up.refl wc).drew
      replace x14 := x14.up (Up.refl wc).drew
      replace x16 := x16.up (Up.refl wc).drew
      replace UP := UP.trans (Up.refl wc).drew
      clear x7_0 x7_1 x8_0 x8_1 x9_0 x9_1 x9_2 x10_0 x10_1 x10_2 x12_0 x12_1 x12_2 x14_0 x14_1 x14_2 x16_0 x16_1 x16_2
      obtain ⟨x7_0, x7_1⟩ := x7.c2
      obtain ⟨x8_0, x8_1⟩ := x8.c2
      obtain ⟨x9_0, x9_1, x9_2⟩ := x9.c3
      obtain ⟨x10_0, x10_1, x10_2⟩ := x10.c3
      obtain ⟨x12_0, x12_1, x12_2⟩ := x12.c3
      obtain ⟨x14_0, x14_1, x14_2⟩ := x14.c3
      obtain ⟨x16_0, x16_1, x16_2⟩ := x16.c3
      refine wp_region_noPanic ?_
      refine wp_region_held_drew (S := fun w' => Up w w' ∧ w'.cell? ⟨W4.heap.size, 0, none⟩ = some (.slice Ax p.length cx) ∧ w'.cell? ⟨W4.heap.size, 1, none⟩ = some (.slice Axe q.length cxe) ∧ w'.cell? ⟨W6.heap.size, 0, none⟩ = some (.slice Ay p'.length cy) ∧ w'.cell? ⟨W6.heap.size, 1, none⟩ = some (.slice Aye q'.length cye) ∧ w'.cell? ⟨W8.heap.size, 0, none⟩ = some (.bool s) ∧ w'.cell? ⟨W8.heap.size, 1, none⟩ = some (.slice A3 l.length c3) ∧ w'.cell? ⟨W8.heap.size, 2, none⟩ = some (.slice B3 m.length d3)) (by kernel_rfl) (by exact ⟨UP, x7_0, x7_1, x8_0, x8_1, x9_0, x9_1, x9_2⟩) (fun hHeld => ?_)
      clear hHeld
      generalize wc.drew = WC at *
      have hHeld : Up w WC ∧ WC.cell? ⟨W4.heap.size, 0, none⟩ = some (.slice Ax p.length cx) ∧ WC.cell? ⟨W4.heap.size, 1, none⟩ = some (.slice Axe q.length cxe) ∧ WC.cell? ⟨W6.heap.size, 0, none⟩ = some (.slice Ay p'.length cy) ∧ WC.cell? ⟨W6.heap.size, 1, none⟩ = some (.slice Aye q'.length cye) ∧ WC.cell? ⟨W8.heap.size, 0, none⟩ = some (.bool s) ∧ WC.cell? ⟨W8.heap.size, 1, none⟩ = some (.slice A3 l.length c3) ∧ WC.cell? ⟨W8.heap.size, 2, none⟩ = some (.slice B3 m.length d3) := by exact ⟨UP, x7_0, x7_1, x8_0, x8_1, x9_0, x9_1, x9_2⟩
      refine wpAnyH_take (i := 0) (v := ?_) rfl (by kernel_rfl) (by decide +kernel) (by decide +kernel) (fun _ _ _ h => h) (Or.inl ⟨by rfl, ?_⟩) (by assumption) ?_
      rotate_left
      · (intro w hSw; (try dsimp only at hSw); go_simp; first | done | with_reducible rfl)
      try simp only [List.getElem_toArray, List.getElem_cons_zero, List.getElem_cons_succ, Act.put, List.setIfInBounds_toArray, List.set_cons_zero, List.set_cons_succ]
      refine wpAnyH_take (i := 1) (v := ?_) rfl (by kernel_rfl) (by decide +kernel) (by decide +kernel) (fun _ _ _ h => h) (Or.inl ⟨by rfl, ?_⟩) (by assumption) ?_
      rotate_left
      · (intro w hSw; (try dsimp only at hSw); go_simp; first | done | with_reducible rfl)
      try simp only [List.getElem_toArray, List.getElem_cons_zero, List.getElem_cons_succ, Act.put, List.setIfInBounds_toArray, List.set_cons_zero, List.set_cons_succ]
      refine wpAnyH_take (i := 3) (v := ?_) rfl (by kernel_rfl) (by decide +kernel) (by decide +kernel) (fun _ _ _ h => h) (Or.inl ⟨by rfl, ?_⟩) (by assumption) ?_
      rotate_left
      · (intro w hSw; (try dsimp only at hSw); go_simp; first | done | with_reducible rfl)
      try simp only [List.getElem_toArray, List.getElem_cons_zero, List.getElem_cons_succ, Act.put, List.setIfInBounds_toArray, List.set_cons_zero, List.set_cons_succ]
      repeat' first
       | (refine wpAnyH_take (i := 5) (v := ?_) rfl (by kernel_rfl) (by decide +kernel) (by decide +kernel) (fun _ _ _ h => h) (Or.inl ⟨by rfl, ?_⟩) (by assumption) ?_
          rotate_left
          · (intro w hSw; (try dsimp only at hSw); go_simp; first | done | with_reducible rfl)
          try simp only [List.getElem_toArray, List.getElem_cons_zero, List.getElem_cons_succ, Act.put, List.setIfInBounds_toArray, List.set_cons_zero, List.set_cons_succ])
       | (refine wpAnyH_take (i := 6) (v := ?_) rfl (by kernel_rfl) (by decide +kernel) (by decide +kernel) (fun _ _ _ h => h) (Or.inl ⟨by rfl, ?_⟩) (by assumption) ?_
          rotate_left
          · (intro w hSw; (try dsimp only at hSw); go_simp; first | done | with_reducible rfl)
          try simp only [List.getElem_toArray, List.getElem_cons_zero, List.getElem_cons_succ, Act.put, List.setIfInBounds_toArray, List.set_cons_zero, List.set_cons_succ])
       | (refine wpAnyH_take (i := 7) (v := ?_) rfl (by kernel_rfl) (by decide +kernel) (by decide +kernel) (fun _ _ _ h => h) (Or.inl ⟨by rfl, ?_⟩) (by assumption) ?_
          rotate_left
          · (intro w hSw; (try dsimp only at hSw); go_simp; first | done | with_reducible rfl)
          try simp only [List.getElem_toArray, List.getElem_cons_zero, List.getElem_cons_succ, Act.put, List.setIfInBounds_toArray, List.set_cons_zero, List.set_cons_succ])
       | refine wpAnyH_ready (rs := [2, 8]) (by decide +kernel) (by simp) ?_
       | refine wpAnyH_ready (rs := [2]) (by decide +kernel) (by simp) ?_
       | refine wpAnyH_ready (rs := [4, 8]) (by decide +kernel) (by simp) ?_
       | refine wpAnyH_ready (rs := [4]) (by decide +kernel) (by simp) ?_
       | refine wpAnyH_ready (rs := [8]) (by decide +kernel) (by simp) ?_
       | refine wpAnyH_ready (rs := [9]) (by decide +kernel) (by simp) ?_
       | refine wpAnyH_ready (rs := [10]) (by decide +kernel) (by simp) ?_
       | refine AllReadyH.cons (i := 2) rfl (fun K hK2 => ?_) ?_
       | refine AllReadyH.cons (i := 4) rfl (fun K hK4 => ?_) ?_
       | refine AllReadyH.cons (i := 8) rfl (fun K hK8 => ?_) ?_
       | refine AllReadyH.cons (i := 9) rfl (fun K hK9 => ?_) ?_
       | refine AllReadyH.cons (i := 10) rfl (fun K hK10 => ?_) ?_
       | exact AllReadyH.nil
       | (have hK := hK2
          clear hK2
          (try clear hHeld)
          go_simp
          go_at_call 86
          ((with_reducible refine (ratf_mul (k := 2) x.fs xe.fs lp3 lq3 (by omega) LPQ.out y.fs ye.fs lp3' lq3' (by omega) LPQ'.out 5 (by omega) (by omega) (K := 160) (by omega) (by omega) (by omega) (by omega) HP HD HP' HD').mono ?_))
          rintro e WD ⟨V2, U2, psa1, qsa1, rfl, a1, a2, caa1, lpa1, lea1, uu⟩
          obtain ⟨Aa1, ca1, rfl⟩ := a1.form
          obtain ⟨Aa2, ca2, rfl⟩ := a2.form
          replace x := x.up uu
          replace xe := xe.up uu
          replace y := y.up uu
          replace ye := ye.up uu
          replace FZ := FZ.up uu
          replace mv := mv.up uu
          replace mvd := mvd.up uu
          replace nv := nv.up uu
          replace nvd := nvd.up uu
          replace sv := sv.up uu
          replace svd := svd.up uu
          replace dv := dv.up uu
          replace dvd := dvd.up uu
          try (replace pv := pv.up uu)
          try (replace pvd := pvd.up uu)
          replace x7 := x7.up uu
          replace x8 := x8.up uu
          replace x9 := x9.up uu
          replace x10 := x10.up uu
          replace x12 := x12.up uu
          replace x14 := x14.up uu
          replace x16 := x16.up uu
          try (replace y1 := y1.up uu)
          replace UP := UP.trans uu
          clear uu
          obtain ⟨WC, hWC⟩ : ∃ W, W = WD := ⟨_, rfl⟩
          subst hWC
          clear x7_0 x7_1
          obtain ⟨x7_0, x7_1⟩ := x7.c2
          clear x8_0 x8_1
          obtain ⟨x8_0, x8_1⟩ := x8.c2
          clear x9_0 x9_1 x9_2
          obtain ⟨x9_0, x9_1, x9_2⟩ := x9.c3
          clear x10_0 x10_1 x10_2
          obtain ⟨x10_0, x10_1, x10_2⟩ := x10.c3
          clear x12_0 x12_1 x12_2
          obtain ⟨x12_0, x12_1, x12_2⟩ := x12.c3
          clear x14_0 x14_1 x14_2
          obtain ⟨x14_0, x14_1, x14_2⟩ := x14.c3
          clear x16_0 x16_1 x16_2
          obtain ⟨x16_0, x16_1, x16_2⟩ := x16.c3
          replace a1 := a1.fs
          replace a2 := a2.fs
          try go_wp2_with fail
          refine hK.out _ _ (by exact ⟨UP, x7_0, x7_1, x8_0, x8_1, x9_0, x9_1, x9_2⟩) (fun hHeld => ?_)
          clear hK K
          try simp only [List.getElem_toArray, List.getElem_cons_zero, List.getElem_cons_succ, Act.put, List.setIfInBounds_toArray, List.set_cons_zero, List.set_cons_succ])
       | (have hK := hK4
          clear hK4
          (try clear hHeld)
          go_simp
          go_at_call 83
          ((with_reducible refine (ratf_eval (k := 160) (m := 5) (kz := 1) a1 a2 lea1.out.1 lea1.out.2 (by omega) (by omega) lpa1.out (K := 1610) (by omega) (by omega) (by omega) (by omega) (Lib.hid (Pq.pu_of caa1.out.nd)) (Lib.hid (Pq.pd_of caa1.out.nd)) FZ (KE := 16124) (by omega) (by omega) (by omega)).mono ?_))
          rintro e WD ⟨V4, uspv, dspv, rfl, pv, capv, lvpv, uu⟩
          replace x := x.up uu
          replace xe := xe.up uu
          replace y := y.up uu
          replace ye := ye.up uu
          replace FZ := FZ.up uu
          replace mv := mv.up uu
          replace mvd := mvd.up uu
          replace nv := nv.up uu
          replace nvd := nvd.up uu
          replace sv := sv.up uu
          replace svd := svd.up uu
          replace dv := dv.up uu
          replace dvd := dvd.up uu
          try (replace a1 := a1.up uu)
          try (replace a2 := a2.up uu)
          try (replace pvd := pvd.up uu)
          replace x7 := x7.up uu
          replace x8 := x8.up uu
          replace x9 := x9.up uu
          replace x10 := x10.up uu
          replace x12 := x12.up uu
          replace x14 := x14.up uu
          replace x16 := x16.up uu
          try (replace y1 := y1.up uu)
          replace UP := UP.trans uu
          clear uu
          obtain ⟨WC, hWC⟩ : ∃ W, W = WD := ⟨_, rfl⟩
          subst hWC
          clear x7_0 x7_1
          obtain ⟨x7_0, x7_1⟩ := x7.c2
          clear x8_0 x8_1
          obtain ⟨x8_0, x8_1⟩ := x8.c2
          clear x9_0 x9_1 x9_2
          obtain ⟨x9_0, x9_1, x9_2⟩ := x9.c3
          clear x10_0 x10_1 x10_2
          obtain ⟨x10_0, x10_1, x10_2⟩ := x10.c3
          clear x12_0 x12_1 x12_2
          obtain ⟨x12_0, x12_1, x12_2⟩ := x12.c3
          clear x14_0 x14_1 x14_2
          obtain ⟨x14_0, x14_1, x14_2⟩ := x14.c3
          clear x16_0 x16_1 x16_2
          obtain ⟨x16_0, x16_1, x16_2⟩ := x16.c3
          clear a1 a2
          obtain ⟨hb9, hv9⟩ := VP.out _ _ _ _ caa1.out capv.out
          rw [hb9]
          rw [hv9] at pv
          clear hb9 hv9 capv lvpv
          obtain ⟨Xpv, Ypv, rfl, pv, pvd⟩ := pv
          obtain ⟨Apv, npv, cpv, rfl⟩ := pv.shape
          obtain ⟨Apvd, npvd, cpvd, rfl⟩ := pvd.shape
          try go_wp2_with fail
          refine hK.out _ _ (by exact ⟨UP, x7_0, x7_1, x8_0, x8_1, x9_0, x9_1, x9_2⟩) (fun hHeld => ?_)
          clear hK K
          try simp only [List.getElem_toArray, List.getElem_cons_zero, List.getElem_cons_succ, Act.put, List.setIfInBounds_toArray, List.set_cons_zero, List.set_cons_succ])
       | (have hK := hK8
          clear hK8
          (try clear hHeld)
          go_simp
          have y1 := Bx.new 69 WC [.bool false, .slice none 0 0, .slice none 0 0]
          have x7_lt_y1 := x7.lt
          have x8_lt_y1 := x8.lt
          have x9_lt_y1 := x9.lt
          have x10_lt_y1 := x10.lt
          have x12_lt_y1 := x12.lt
          have x14_lt_y1 := x14.lt
          have x16_lt_y1 := x16.lt
          have y1_base := UP.size
          have x_ne_y1 := x.ne
          have xe_ne_y1 := xe.ne
          have y_ne_y1 := y.ne
          have ye_ne_y1 := ye.ne
          replace x := x.up ((Up.refl WC).alloc (.cells #[.bool false, .slice none 0 0, .slice none 0 0] 69))
          replace xe := xe.up ((Up.refl WC).alloc (.cells #[.bool false, .slice none 0 0, .slice none 0 0] 69))
          replace y := y.up ((Up.refl WC).alloc (.cells #[.bool false, .slice none 0 0, .slice none 0 0] 69))
          replace ye := ye.up ((Up.refl WC).alloc (.cells #[.bool false, .slice none 0 0, .slice none 0 0] 69))
          replace FZ := FZ.up ((Up.refl WC).alloc (.cells #[.bool false, .slice none 0 0, .slice none 0 0] 69))
          replace mv := mv.up ((Up.refl WC).alloc (.cells #[.bool false, .slice none 0 0, .slice none 0 0] 69))
          replace mvd := mvd.up ((Up.refl WC).alloc (.cells #[.bool false, .slice none 0 0, .slice none 0 0] 69))
          replace nv := nv.up ((Up.refl WC).alloc (.cells #[.bool false, .slice none 0 0, .slice none 0 0] 69))
          replace nvd := nvd.up ((Up.refl WC).alloc (.cells #[.bool false, .slice none 0 0, .slice none 0 0] 69))
          replace sv := sv.up ((Up.refl WC).alloc (.cells #[.bool false, .slice none 0 0, .slice none 0 0] 69))
          replace svd := svd.up ((Up.refl WC).alloc (.cells #[.bool false, .slice none 0 0, .slice none 0 0] 69))
          replace dv := dv.up ((Up.refl WC).alloc (.cells #[.bool false, .slice none 0 0, .slice none 0 0] 69))
          replace dvd := dvd.up ((Up.refl WC).alloc (.cells #[.bool false, .slice none 0 0, .slice none 0 0] 69))
          try (replace a1 := a1.up ((Up.refl WC).alloc (.cells #[.bool false, .slice none 0 0, .slice none 0 0] 69)))
          try (replace a2 := a2.up ((Up.refl WC).alloc (.cells #[.bool false, .slice none 0 0, .slice none 0 0] 69)))
          try (replace pv := pv.up ((Up.refl WC).alloc (.cells #[.bool false, .slice none 0 0, .slice none 0 0] 69)))
          try (replace pvd := pvd.up ((Up.refl WC).alloc (.cells #[.bool false, .slice none 0 0, .slice none 0 0] 69)))
          replace x7 := x7.up ((Up.refl WC).alloc (.cells #[.bool false, .slice none 0 0, .slice none 0 0] 69))
          replace x8 := x8.up ((Up.refl WC).alloc (.cells #[.bool false, .slice none 0 0, .slice none 0 0] 69))
          replace x9 := x9.up ((Up.refl WC).alloc (.cells #[.bool false, .slice none 0 0, .slice none 0 0] 69))
          replace x10 := x10.up ((Up.refl WC).alloc (.cells #[.bool false, .slice none 0 0, .slice none 0 0] 69))
          replace x12 := x12.up ((Up.refl WC).alloc (.cells #[.bool false, .slice none 0 0, .slice none 0 0] 69))
          replace x14 := x14.up ((Up.refl WC).alloc (.cells #[.bool false, .slice none 0 0, .slice none 0 0] 69))
          replace x16 := x16.up ((Up.refl WC).alloc (.cells #[.bool false, .slice none 0 0, .slice none 0 0] 69))
          replace UP := UP.trans ((Up.refl WC).alloc (.cells #[.bool false, .slice none 0 0, .slice none 0 0] 69))
          generalize WC.alloc (.cells #[.bool false, .slice none 0 0, .slice none 0 0] 69) = WD at *
          generalize WC.heap.size = gy1 at *
          obtain ⟨WC, hWC⟩ : ∃ W, W = WD := ⟨_, rfl⟩
          subst hWC
          clear x7_0 x7_1
          obtain ⟨x7_0, x7_1⟩ := x7.c2
          clear x8_0 x8_1
          obtain ⟨x8_0, x8_1⟩ := x8.c2
          clear x9_0 x9_1 x9_2
          obtain ⟨x9_0, x9_1, x9_2⟩ := x9.c3
          clear x10_0 x10_1 x10_2
          obtain ⟨x10_0, x10_1, x10_2⟩ := x10.c3
          clear x12_0 x12_1 x12_2
          obtain ⟨x12_0, x12_1, x12_2⟩ := x12.c3
          clear x14_0 x14_1 x14_2
          obtain ⟨x14_0, x14_1, x14_2⟩ := x14.c3
          clear x16_0 x16_1 x16_2
          obtain ⟨x16_0, x16_1, x16_2⟩ := x16.c3
          refine hK.out _ _ (by exact ⟨UP, x7_0, x7_1, x8_0, x8_1, x9_0, x9_1, x9_2⟩) (fun hHeld => ?_)
          clear hK K
          try simp only [List.getElem_toArray, List.getElem_cons_zero, List.getElem_cons_succ, Act.put, List.setIfInBounds_toArray, List.set_cons_zero, List.set_cons_succ])
       | (have hK := hK9
          clear hK9
          (try clear hHeld)
          obtain ⟨ce0, ce1, ce2⟩ := y1.c3
          have fr0 := y1.free 0
          have fr1 := y1.free 1
          have fr2 := y1.free 2
          go_simp
          clear ce0 ce1 ce2 fr0 fr1 fr2
          have KW : Kw (WC) ((WC).setCell ⟨gy1, 0, none⟩ (.bool (Wd.ngb PR.num))) := Kw.store (c := (.bool false)) y1 rfl trivial _
          replace x := x.stored2 x_ne_y1 KW
          replace xe := xe.stored2 xe_ne_y1 KW
          replace y := y.stored2 y_ne_y1 KW
          replace ye := ye.stored2 ye_ne_y1 KW
          replace FZ := FZ.kw KW
          replace mv := mv.kw KW
          replace mvd := mvd.kw KW
          replace nv := nv.kw KW
          replace nvd := nvd.kw KW
          replace sv := sv.kw KW
          replace svd := svd.kw KW
          replace dv := dv.kw KW
          replace dvd := dvd.kw KW
          try (replace a1 := a1.stored y1 (by decide) KW)
          try (replace a2 := a2.stored y1 (by decide) KW)
          try (replace pv := pv.kw KW)
          try (replace pvd := pvd.kw KW)
          replace x7 := x7.far (p := ⟨gy1, 0, none⟩) (by dsimp only; omega) (.bool (Wd.ngb PR.num))
          replace x8 := x8.far (p := ⟨gy1, 0, none⟩) (by dsimp only; omega) (.bool (Wd.ngb PR.num))
          replace x9 := x9.far (p := ⟨gy1, 0, none⟩) (by dsimp only; omega) (.bool (Wd.ngb PR.num))
          replace x10 := x10.far (p := ⟨gy1, 0, none⟩) (by dsimp only; omega) (.bool (Wd.ngb PR.num))
          replace x12 := x12.far (p := ⟨gy1, 0, none⟩) (by dsimp only; omega) (.bool (Wd.ngb PR.num))
          replace x14 := x14.far (p := ⟨gy1, 0, none⟩) (by dsimp only; omega) (.bool (Wd.ngb PR.num))
          replace x16 := x16.far (p := ⟨gy1, 0, none⟩) (by dsimp only; omega) (.bool (Wd.ngb PR.num))
          replace y1 : Bx 69 ((WC).setCell ⟨gy1, 0, none⟩ (.bool (Wd.ngb PR.num))) (gy1) [.bool (Wd.ngb PR.num), .slice none 0 0, .slice none 0 0] := y1.set 0 (.bool (Wd.ngb PR.num))
          replace UP := UP.setCell (p := ⟨gy1, 0, none⟩) (by dsimp only; omega) (.bool (Wd.ngb PR.num))
          have KW : Kw (((WC).setCell ⟨gy1, 0, none⟩ (.bool (Wd.ngb PR.num)))) ((((WC).setCell ⟨gy1, 0, none⟩ (.bool (Wd.ngb PR.num)))).setCell ⟨gy1, 1, none⟩ (.slice Apv npv cpv)) := Kw.store (c := (.slice none 0 0)) y1 rfl trivial _
          replace x := x.stored2 x_ne_y1 KW
          replace xe := xe.stored2 xe_ne_y1 KW
          replace y := y.stored2 y_ne_y1 KW
          replace ye := ye.stored2 ye_ne_y1 KW
          replace FZ := FZ.kw KW
          replace mv := mv.kw KW
          replace mvd := mvd.kw KW
          replace nv := nv.kw KW
          replace nvd := nvd.kw KW
          replace sv := sv.kw KW
          replace svd := svd.kw KW
          replace dv := dv.kw KW
          replace dvd := dvd.kw KW
          try (replace a1 := a1.stored y1 (by decide) KW)
          try (replace a2 := a2.stored y1 (by decide) KW)
          try (replace pv := pv.kw KW)
          try (replace pvd := pvd.kw KW)
          replace x7 := x7.far (p := ⟨gy1, 1, none⟩) (by dsimp only; omega) (.slice Apv npv cpv)
          replace x8 := x8.far (p := ⟨gy1, 1, none⟩) (by dsimp only; omega) (.slice Apv npv cpv)
          replace x9 := x9.far (p := ⟨gy1, 1, none⟩) (by dsimp only; omega) (.slice Apv npv cpv)
          replace x10 := x10.far (p := ⟨gy1, 1, none⟩) (by dsimp only; omega) (.slice Apv npv cpv)
          replace x12 := x12.far (p := ⟨gy1, 1, none⟩) (by dsimp only; omega) (.slice Apv npv cpv)
          replace x14 := x14.far (p := ⟨gy1, 1, none⟩) (by dsimp only; omega) (.slice Apv npv cpv)
          replace x16 := x16.far (p := ⟨gy1, 1, none⟩) (by dsimp only; omega) (.slice Apv npv cpv)
          replace y1 : Bx 69 ((((WC).setCell ⟨gy1, 0, none⟩ (.bool (Wd.ngb PR.num)))).setCell ⟨gy1, 1, none⟩ (.slice Apv npv cpv)) (gy1) [.bool (Wd.ngb PR.num), .slice Apv npv cpv, .slice none 0 0] := y1.set 1 (.slice Apv npv cpv)
          replace UP := UP.setCell (p := ⟨gy1, 1, none⟩) (by dsimp only; omega) (.slice Apv npv cpv)
          have KW : Kw (((((WC).setCell ⟨gy1, 0, none⟩ (.bool (Wd.ngb PR.num)))).setCell ⟨gy1, 1, none⟩ (.slice Apv npv cpv))) ((((((WC).setCell ⟨gy1, 0, none⟩ (.bool (Wd.ngb PR.num)))).setCell ⟨gy1, 1, none⟩ (.slice Apv npv cpv))).setCell ⟨gy1, 2, none⟩ (.slice Apvd npvd cpvd)) := Kw.store (c := (.slice none 0 0)) y1 rfl trivial _
          replace x := x.stored2 x_ne_y1 KW
          replace xe := xe.stored2 xe_ne_y1 KW
          replace y := y.stored2 y_ne_y1 KW
          replace ye := ye.stored2 ye_ne_y1 KW
          replace FZ := FZ.kw KW
          replace mv := mv.kw KW
          replace mvd := mvd.kw KW
          replace nv := nv.kw KW
          replace nvd := nvd.kw KW
          replace sv := sv.kw KW
          replace svd := svd.kw KW
          replace dv := dv.kw KW
          replace dvd := dvd.kw KW
          try (replace a1 := a1.stored y1 (by decide) KW)
          try (replace a2 := a2.stored y1 (by decide) KW)
          try (replace pv := pv.kw KW)
          try (replace pvd := pvd.kw KW)
          replace x7 := x7.far (p := ⟨gy1, 2, none⟩) (by dsimp only; omega) (.slice Apvd npvd cpvd)
          replace x8 := x8.far (p := ⟨gy1, 2, none⟩) (by dsimp only; omega) (.slice Apvd npvd cpvd)
          replace x9 := x9.far (p := ⟨gy1, 2, none⟩) (by dsimp only; omega) (.slice Apvd npvd cpvd)
          replace x10 := x10.far (p := ⟨gy1, 2, none⟩) (by dsimp only; omega) (.slice Apvd npvd cpvd)
          replace x12 := x12.far (p := ⟨gy1, 2, none⟩) (by dsimp only; omega) (.slice Apvd npvd cpvd)
          replace x14 := x14.far (p := ⟨gy1, 2, none⟩) (by dsimp only; omega) (.slice Apvd npvd cpvd)
          replace x16 := x16.far (p := ⟨gy1, 2, none⟩) (by dsimp only; omega) (.slice Apvd npvd cpvd)
          replace y1 : Bx 69 ((((((WC).setCell ⟨gy1, 0, none⟩ (.bool (Wd.ngb PR.num)))).setCell ⟨gy1, 1, none⟩ (.slice Apv npv cpv))).setCell ⟨gy1, 2, none⟩ (.slice Apvd npvd cpvd)) (gy1) [.bool (Wd.ngb PR.num), .slice Apv npv cpv, .slice Apvd npvd cpvd] := y1.set 2 (.slice Apvd npvd cpvd)
          replace UP := UP.setCell (p := ⟨gy1, 2, none⟩) (by dsimp only; omega) (.slice Apvd npvd cpvd)
          clear KW
          generalize ((((((WC).setCell ⟨gy1, 0, none⟩ (.bool (Wd.ngb PR.num)))).setCell ⟨gy1, 1, none⟩ (.slice Apv npv cpv))).setCell ⟨gy1, 2, none⟩ (.slice Apvd npvd cpvd)) = WD at *
          obtain ⟨WC, hWC⟩ : ∃ W, W = WD := ⟨_, rfl⟩
          subst hWC
          clear x7_0 x7_1
          obtain ⟨x7_0, x7_1⟩ := x7.c2
          clear x8_0 x8_1
          obtain ⟨x8_0, x8_1⟩ := x8.c2
          clear x9_0 x9_1 x9_2
          obtain ⟨x9_0, x9_1, x9_2⟩ := x9.c3
          clear x10_0 x10_1 x10_2
          obtain ⟨x10_0, x10_1, x10_2⟩ := x10.c3
          clear x12_0 x12_1 x12_2
          obtain ⟨x12_0, x12_1, x12_2⟩ := x12.c3
          clear x14_0 x14_1 x14_2
          obtain ⟨x14_0, x14_1, x14_2⟩ := x14.c3
          clear x16_0 x16_1 x16_2
          obtain ⟨x16_0, x16_1, x16_2⟩ := x16.c3
          refine hK.out _ _ (by exact ⟨UP, x7_0, x7_1, x8_0, x8_1, x9_0, x9_1, x9_2⟩) (fun hHeld => ?_)
          clear hK K
          try simp only [List.getElem_toArray, List.getElem_cons_zero, List.getElem_cons_succ, Act.put, List.setIfInBounds_toArray, List.set_cons_zero, List.set_cons_succ])
       | (have hK := hK10
          clear hK10
          (try clear hHeld)
          go_simp
          refine hK.out _ _ (by exact ⟨UP, x7_0, x7_1, x8_0, x8_1, x9_0, x9_1, x9_2⟩) (fun hHeld => ?_)
          clear hK K
          try simp only [List.getElem_toArray, List.getElem_cons_zero, List.getElem_cons_succ, Act.put, List.setIfInBounds_toArray, List.set_cons_zero, List.set_cons_succ])
       | refine wpAnyH_done (by decide +kernel) (NoPanic.normal ?_) _
       | fail
      all_goals try clear hHeld
      all_goals obtain ⟨y1_0, y1_1, y1_2⟩ := y1.c3
      all_goals
       go_wp2_with fail
       go_meet
       exact ⟨gy1, _, _, _, _, _, _, rfl, rfl, y1, pv, pvd, x7, x8, x9, x10, x12, x14, x16, x, xe, y, ye, FZ, mv, mvd, nv, nvd, sv, svd, dv, dvd, UP⟩
     case rest =>
      as_aux_lemma =>
       obtain ⟨g18, Apv, Bpv, npv, cpv, npv', cpv', rfl, rfl, x18, pv, pvd, x7, x8, x9, x10, x12, x14, x16, x, xe, y, ye, FZ, mv, mvd, nv, nvd, sv, svd, dv, dvd, UP⟩ := hcut
       clear x7_0 x7_1 x8_0 x8_1 x9_0 x9_1 x9_2 x10_0 x10_1 x10_2 x12_0 x12_1 x12_2 x14_0 x14_1 x14_2 x16_0 x16_1 x16_2
       obtain ⟨x7_0, x7_1⟩ := x7.c2
       obtain ⟨x8_0, x8_1⟩ := x8.c2
       obtain ⟨x9_0, x9_1, x9_2⟩ := x9.c3
       obtain ⟨x10_0, x10_1, x10_2⟩ := x10.c3
       obtain ⟨x12_0, x12_1, x12_2⟩ := x12.c3
       obtain ⟨x14_0, x14_1, x14_2⟩ := x14.c3
       obtain ⟨x16_0, x16_1, x16_2⟩ := x16.c3
       obtain ⟨x18_0, x18_1, x18_2⟩ := x18.c3
       go_wp2_with fail
       replace x := x.up (Up.refl wc).drew
       replace xe := xe.up (Up.refl wc).drew
       replace y := y.up (Up.refl wc).drew
       replace ye := ye.up (Up.refl wc).drew
       replace FZ := FZ.up (Up.refl wc).drew
       replace mv := mv.up (Up.refl wc).drew
       replace mvd := mvd.up (Up.refl wc).drew
       replace nv := nv.up (Up.refl wc).drew
       replace nvd := nvd.up (Up.refl wc).drew
       replace sv := sv.up (Up.refl wc).drew
       replace svd := svd.up (Up.refl wc).drew
       replace dv := dv.up (Up.refl wc).drew
       replace dvd := dvd.up (Up.refl wc).drew
       replace pv := pv.up (Up.refl wc).drew
       replace pvd := pvd.up (Up.refl wc).drew
       replace x7 := x7.up (Up.refl wc).drew
       replace x8 := x8.up (Up.refl wc).drew
       replace x9 := x9.up (Up.refl wc).drew
       replace x10 := x10.up (Up.refl wc).drew
       replace x12 := x12.up (Up.refl wc).drew
       replace x14 := x14.up (Up.refl wc).drew
       replace x16 := x16.up (Up.refl wc).drew
       replace x18 := x18.up (Up.refl wc).drew
       replace UP := UP.trans (Up.refl wc).drew
       clear x7_0 x7_1 x8_0 x8_1 x9_0 x9_1 x9_2 x10_0 x10_1 x10_2 x12_0 x12_1 x12_2 x14_0 x14_1 x14_2 x16_0 x16_1 x16_2 x18_0 x18_1 x18_2
       obtain ⟨x7_0, x7_1⟩ := x7.c2
       obtain ⟨x8_0, x8_1⟩ := x8.c2
       obtain ⟨x9_0, x9_1, x9_2⟩ := x9.c3
       obtain ⟨x10_0, x10_1, x10_2⟩ := x10.c3
       obtain ⟨x12_0, x12_1, x12_2⟩ := x12.c3
       obtain ⟨x14_0, x14_1, x14_2⟩ := x14.c3
       obtain ⟨x16_0, x16_1, x16_2⟩ := x16.c3
       obtain ⟨x18_0, x18_1, x18_2⟩ := x18.c3
       refine wp_region_noPanic ?_
       refine wp_region_held_drew (S := fun w' => Up w w' ∧ w'.cell? ⟨W10.heap.size, 0, none⟩ = some (.bool (Wd.ngb MV.num)) ∧ w'.cell? ⟨W10.heap.size, 1, none⟩ = some (.slice Amv nmv cmv) ∧ w'.cell? ⟨W10.heap.size, 2, none⟩ = some (.slice Amvd nmvd cmvd) ∧ w'.cell? ⟨W12.heap.size, 0, none⟩ = some (.bool (Wd.ngb NV.num)) ∧ w'.cell? ⟨W12.heap.size, 1, none⟩ = some (.slice Anv nnv cnv) ∧ w'.cell? ⟨W12.heap.size, 2, none⟩ = some (.slice Anvd nnvd cnvd) ∧ w'.cell? ⟨g14, 0, none⟩ = some (.bool (Wd.ngb SU.num)) ∧ w'.cell? ⟨g14, 1, none⟩ = some (.slice Asv nsv csv) ∧ w'.cell? ⟨g14, 2, none⟩ = some (.slice Bsv nsv' csv') ∧ w'.cell? ⟨g16, 0, none⟩ = some (.bool (Wd.ngb DI.num)) ∧ w'.cell? ⟨g16, 1, none⟩ = some (.slice Adv ndv cdv) ∧ w'.cell? ⟨g16, 2, none⟩ = some (.slice Bdv ndv' cdv') ∧ w'.cell? ⟨g18, 0, none⟩ = some (.bool (Wd.ngb PR.num)) ∧ w'.cell? ⟨g18, 1, none⟩ = some (.slice Apv npv cpv) ∧ w'.cell? ⟨g18, 2, none⟩ = some (.slice Bpv npv' cpv')) (by kernel_rfl) ?_ (fun hHeld => ?_)
       · with_reducible exact ⟨UP, x10_0, x10_1, x10_2, x12_0, x12_1, x12_2, x14_0, x14_1, x14_2, x16_0, x16_1, x16_2, x18_0, x18_1, x18_2⟩
       refine wpAnyH_take (i := 0) (v := ?_) rfl (by kernel_rfl) (by kernel_rfl) (by kernel_rfl) (fun _ _ _ h => h) (Or.inl ⟨by rfl, ?_⟩) (by assumption) ?_
       rotate_left
       · (intro w hSw; (try dsimp only at hSw); go_simp; first | done | with_reducible rfl)
       try simp only [List.getElem_toArray, List.getElem_cons_zero, List.getElem_cons_succ, Act.put, List.setIfInBounds_toArray, List.set_cons_zero, List.set_cons_succ]
       refine wpAnyH_take (i := 1) (v := ?_) rfl (by kernel_rfl) (by kernel_rfl) (by kernel_rfl) (fun _ _ _ h => h) (Or.inl ⟨by rfl, ?_⟩) (by assumption) ?_
       rotate_left
       · (intro w hSw; (try dsimp only at hSw); go_simp; first | done | with_reducible rfl)
       try simp only [List.getElem_toArray, List.getElem_cons_zero, List.getElem_cons_succ, Act.put, List.setIfInBounds_toArray, List.set_cons_zero, List.set_cons_succ]
       refine wpAnyH_take (i := 2) (v := ?_) rfl (by kernel_rfl) (by kernel_rfl) (by kernel_rfl) (fun _ _ _ h => h) (Or.inl ⟨by rfl, ?_⟩) (by assumption) ?_
       rotate_left
       · (intro w hSw; (try dsimp only at hSw); go_simp; first | done | with_reducible rfl)
       try simp only [List.getElem_toArray, List.getElem_cons_zero, List.getElem_cons_succ, Act.put, List.setIfInBounds_toArray, List.set_cons_zero, List.set_cons_succ]
       refine wpAnyH_take (i := 3) (v := ?_) rfl (by kernel_rfl) (by kernel_rfl) (by kernel_rfl) (fun _ _ _ h => h) (Or.inl ⟨by rfl, ?_⟩) (by assumption) ?_
       rotate_left
       · (intro w hSw; (try dsimp only at hSw); go_simp; first | done | with_reducible rfl)
       try simp only [List.getElem_toArray, List.getElem_cons_zero, List.getElem_cons_succ, Act.put, List.setIfInBounds_toArray, List.set_cons_zero, List.set_cons_succ]
       refine wpAnyH_take (i := 4) (v := ?_) rfl (by kernel_rfl) (by kernel_rfl) (by kernel_rfl) (fun _ _ _ h => h) (Or.inl ⟨by rfl, ?_⟩) (by assumption) ?_
       rotate_left
       · (intro w hSw; (try dsimp only at hSw); go_simp; first | done | with_reducible rfl)
       try simp only [List.getElem_toArray, List.getElem_cons_zero, List.getElem_cons_succ, Act.put, List.setIfInBounds_toArray, List.set_cons_zero, List.set_cons_succ]
       refine wpAnyH_take (i := 5) (v := ?_) rfl (by kernel_rfl) (by kernel_rfl) (by kernel_rfl) (fun _ _ _ h => h) (Or.inl ⟨by rfl, ?_⟩) (by assumption) ?_
       rotate_left
       · (intro w hSw; (try dsimp only at hSw); go_simp; first | done | with_reducible rfl)
       try simp only [List.getElem_toArray, List.getElem_cons_zero, List.getElem_cons_succ, Act.put, List.setIfInBounds_toArray, List.set_cons_zero, List.set_cons_succ]
       refine wpAnyH_take (i := 6) (v := ?_) rfl (by kernel_rfl) (by kernel_rfl) (by kernel_rfl) (fun _ _ _ h => h) (Or.inl ⟨by rfl, ?_⟩) (by assumption) ?_
       rotate_left
       · (intro w hSw; (try dsimp only at hSw); go_simp; first | done | with_reducible rfl)
       try simp only [List.getElem_toArray, List.getElem_cons_zero, List.getElem_cons_succ, Act.put, List.setIfInBounds_toArray, List.set_cons_zero, List.set_cons_succ]
       refine wpAnyH_take (i := 7) (v := ?_) rfl (by kernel_rfl) (by kernel_rfl) (by kernel_rfl) (fun _ _ _ h => h) (Or.inl ⟨by rfl, ?_⟩) (by assumption) ?_
       rotate_left
       · (intro w hSw; (try dsimp only at hSw); go_simp; first | done | with_reducible rfl)
       try simp only [List.getElem_toArray, List.getElem_cons_zero, List.getElem_cons_succ, Act.put, List.setIfInBounds_toArray, List.set_cons_zero, List.set_cons_succ]
       refine wpAnyH_take (i := 8) (v := ?_) rfl (by kernel_rfl) (by kernel_rfl) (by kernel_rfl) (fun _ _ _ h => h) (Or.inl ⟨by rfl, ?_⟩) (by assumption) ?_
       rotate_left
       · (intro w hSw; (try dsimp only at hSw); go_simp; first | done | with_reducible rfl)
       try simp only [List.getElem_toArray, List.getElem_cons_zero, List.getElem_cons_succ, Act.put, List.setIfInBounds_toArray, List.set_cons_zero, List.set_cons_succ]
       refine wpAnyH_take (i := 9) (v := ?_) rfl (by kernel_rfl) (by kernel_rfl) (by kernel_rfl) (fun _ _ _ h => h) (Or.inl ⟨by rfl, ?_⟩) (by assumption) ?_
       rotate_left
       · (intro w hSw; (try dsimp only at hSw); go_simp; first | done | with_reducible rfl)
       try simp only [List.getElem_toArray, List.getElem_cons_zero, List.getElem_cons_succ, Act.put, List.setIfInBounds_toArray, List.set_cons_zero, List.set_cons_succ]
       refine wpAnyH_take (i := 10) (v := ?_) rfl (by kernel_rfl) (by kernel_rfl) (by kernel_rfl) (fun _ _ _ h => h) (Or.inl ⟨by rfl, ?_⟩) (by assumption) ?_
       rotate_left
       · (intro w hSw; (try dsimp only at hSw); go_simp; first | done | with_reducible rfl)
       try simp only [List.getElem_toArray, List.getElem_cons_zero, List.getElem_cons_succ, Act.put, List.setIfInBounds_toArray, List.set_cons_zero, List.set_cons_succ]
       refine wpAnyH_take (i := 11) (v := ?_) rfl (by kernel_rfl) (by kernel_rfl) (by kernel_rfl) (fun _ _ _ h => h) (Or.inl ⟨by rfl, ?_⟩) (by assumption) ?_
       rotate_left
       · (intro w hSw; (try dsimp only at hSw); go_simp; first | done | with_reducible rfl)
       try simp only [List.getElem_toArray, List.getElem_cons_zero, List.getElem_cons_succ, Act.put, List.setIfInBounds_toArray, List.set_cons_zero, List.set_cons_succ]
       refine wpAnyH_take (i := 12) (v := ?_) rfl (by kernel_rfl) (by kernel_rfl) (by kernel_rfl) (fun _ _ _ h => h) (Or.inl ⟨by rfl, ?_⟩) (by assumption) ?_
       rotate_left
       · (intro w hSw; (try dsimp only at hSw); go_simp; first | done | with_reducible rfl)
       try simp only [List.getElem_toArray, List.getElem_cons_zero, List.getElem_cons_succ, Act.put, List.setIfInBounds_toArray, List.set_cons_zero, List.set_cons_succ]
       refine wpAnyH_take (i := 13) (v := ?_) rfl (by kernel_rfl) (by kernel_rfl) (by kernel_rfl) (fun _ _ _ h => h) (Or.inl ⟨by rfl, ?_⟩) (by assumption) ?_
       rotate_left
       · (intro w hSw; (try dsimp only at hSw); go_simp; first | done | with_reducible rfl)
       try simp only [List.getElem_toArray, List.getElem_cons_zero, List.getElem_cons_succ, Act.put, List.setIfInBounds_toArray, List.set_cons_zero, List.set_cons_succ]
       refine wpAnyH_ready (rs := [14]) (by kernel_rfl) (by simp) ?_
       refine AllReadyH.cons rfl (fun K hK => ?_) AllReadyH.nil
       go_simp
       (first
         | (go_at_call 47
            ((with_reducible refine (frac_add ((qw_of mv mvd).fr LM) ((qw_of nv nvd).fr LN) (by omega) (by omega)).mono ?_))
            rintro e W51 ⟨V51, rfl, e1, u51⟩
            replace x := x.up u51
            replace xe := xe.up u51
            replace y := y.up u51
            replace ye := ye.up u51
            replace FZ := FZ.up u51
            replace mv := mv.up u51
            replace mvd := mvd.up u51
            replace nv := nv.up u51
            replace nvd := nvd.up u51
            replace sv := sv.up u51
            replace svd := svd.up u51
            replace dv := dv.up u51
            replace dvd := dvd.up u51
            replace pv := pv.up u51
            replace pvd := pvd.up u51
            try (replace e1 := e1.up u51)
            try (replace e2 := e2.up u51)
            try (replace e3 := e3.up u51)
            replace x7 := x7.up u51
            replace x8 := x8.up u51
            replace x9 := x9.up u51
            replace x10 := x10.up u51
            replace x12 := x12.up u51
            replace x14 := x14.up u51
            replace x16 := x16.up u51
            replace x18 := x18.up u51
            replace UP := UP.trans u51
            clear x7_0 x7_1 x8_0 x8_1 x9_0 x9_1 x9_2 x10_0 x10_1 x10_2 x12_0 x12_1 x12_2 x14_0 x14_1 x14_2 x16_0 x16_1 x16_2 x18_0 x18_1 x18_2
            obtain ⟨x7_0, x7_1⟩ := x7.c2
            obtain ⟨x8_0, x8_1⟩ := x8.c2
            obtain ⟨x9_0, x9_1, x9_2⟩ := x9.c3
            obtain ⟨x10_0, x10_1, x10_2⟩ := x10.c3
            obtain ⟨x12_0, x12_1, x12_2⟩ := x12.c3
            obtain ⟨x14_0, x14_1, x14_2⟩ := x14.c3
            obtain ⟨x16_0, x16_1, x16_2⟩ := x16.c3
            obtain ⟨x18_0, x18_1, x18_2⟩ := x18.c3
            clear u51
            rw [HSU.out] at e1))
       try go_wp2_with fail
       try clear hHeld
       refine hK.out _ _ ?_ (fun hHeld => ?_)
       · with_reducible exact ⟨UP, x10_0, x10_1, x10_2, x12_0, x12_1, x12_2, x14_0, x14_1, x14_2, x16_0, x16_1, x16_2, x18_0, x18_1, x18_2⟩
       clear hK K
       try simp only [List.getElem_toArray, List.getElem_cons_zero, List.getElem_cons_succ, Act.put, List.setIfInBounds_toArray, List.set_cons_zero, List.set_cons_succ]
       refine wpAnyH_ready (rs := [15]) (by kernel_rfl) (by simp) ?_
       refine AllReadyH.cons rfl (fun K hK => ?_) AllReadyH.nil
       go_simp
       (first
         | (go_at_call 54
            ((with_reducible refine (frac_same ((qw_of sv svd).fr LSU) (e1.fr LSU) (by omega) (by omega)).mono ?_))
            rintro e W52 ⟨rfl, u52⟩
            replace x := x.up u52
            replace xe := xe.up u52
            replace y := y.up u52
            replace ye := ye.up u52
            replace FZ := FZ.up u52
            replace mv := mv.up u52
            replace mvd := mvd.up u52
            replace nv := nv.up u52
            replace nvd := nvd.up u52
            replace sv := sv.up u52
            replace svd := svd.up u52
            replace dv := dv.up u52
            replace dvd := dvd.up u52
            replace pv := pv.up u52
            replace pvd := pvd.up u52
            try (replace e1 := e1.up u52)
            try (replace e2 := e2.up u52)
            try (replace e3 := e3.up u52)
            replace x7 := x7.up u52
            replace x8 := x8.up u52
            replace x9 := x9.up u52
            replace x10 := x10.up u52
            replace x12 := x12.up u52
            replace x14 := x14.up u52
            replace x16 := x16.up u52
            replace x18 := x18.up u52
            replace UP := UP.trans u52
            clear x7_0 x7_1 x8_0 x8_1 x9_0 x9_1 x9_2 x10_0 x10_1 x10_2 x12_0 x12_1 x12_2 x14_0 x14_1 x14_2 x16_0 x16_1 x16_2 x18_0 x18_1 x18_2
            obtain ⟨x7_0, x7_1⟩ := x7.c2
            obtain ⟨x8_0, x8_1⟩ := x8.c2
            obtain ⟨x9_0, x9_1, x9_2⟩ := x9.c3
            obtain ⟨x10_0, x10_1, x10_2⟩ := x10.c3
            obtain ⟨x12_0, x12_1, x12_2⟩ := x12.c3
            obtain ⟨x14_0, x14_1, x14_2⟩ := x14.c3
            obtain ⟨x16_0, x16_1, x16_2⟩ := x16.c3
            obtain ⟨x18_0, x18_1, x18_2⟩ := x18.c3
            clear u52
            rw [show decide (SU = SU) = true from decide_eq_true rfl]))
       try go_wp2_with fail
       try clear hHeld
       refine hK.out _ _ ?_ (fun hHeld => ?_)
       · with_reducible exact ⟨UP, x10_0, x10_1, x10_2, x12_0, x12_1, x12_2, x14_0, x14_1, x14_2, x16_0, x16_1, x16_2, x18_0, x18_1, x18_2⟩
       clear hK K
       try simp only [List.getElem_toArray, List.getElem_cons_zero, List.getElem_cons_succ, Act.put, List.setIfInBounds_toArray, List.set_cons_zero, List.set_cons_succ]
       refine wpAnyH_take (i := 16) (v := ?_) rfl (by kernel_rfl) (by kernel_rfl) (by kernel_rfl) (fun _ _ _ h => h) (Or.inl ⟨by rfl, ?_⟩) (by assumption) ?_
       rotate_left
       · (intro w hSw; (try dsimp only at hSw); go_simp; first | done | with_reducible rfl)
       try simp only [List.getElem_toArray, List.getElem_cons_zero, List.getElem_cons_succ, Act.put, List.setIfInBounds_toArray, List.set_cons_zero, List.set_cons_succ]
       refine wpAnyH_take (i := 17) (v := ?_) rfl (by kernel_rfl) (by kernel_rfl) (by kernel_rfl) (fun _ _ _ h => h) (Or.inl ⟨by rfl, ?_⟩) (by assumption) ?_
       rotate_left
       · (intro w hSw; (try dsimp only at hSw); go_simp; first | done | with_reducible rfl)
       try simp only [List.getElem_toArray, List.getElem_cons_zero, List.getElem_cons_succ, Act.put, List.setIfInBounds_toArray, List.set_cons_zero, List.set_cons_succ]
       refine wpAnyH_take (i := 18) (v := ?_) rfl (by kernel_rfl) (by kernel_rfl) (by kernel_rfl) (fun _ _ _ h => h) (Or.inl ⟨by rfl, ?_⟩) (by assumption) ?_
       rotate_left
       · (intro w hSw; (try dsimp only at hSw); go_simp; first | done | with_reducible rfl)
       try simp only [List.getElem_toArray, List.getElem_cons_zero, List.getElem_cons_succ, Act.put, List.setIfInBounds_toArray, List.set_cons_zero, List.set_cons_succ]
       refine wpAnyH_take (i := 19) (v := ?_) rfl (by kernel_rfl) (by kernel_rfl) (by kernel_rfl) (fun _ _ _ h => h) (Or.inl ⟨by rfl, ?_⟩) (by assumption) ?_
       rotate_left
       · (intro w hSw; (try dsimp only at hSw); go_simp; first | done | with_reducible rfl)
       try simp only [List.getElem_toArray, List.getElem_cons_zero, List.getElem_cons_succ, Act.put, List.setIfInBounds_toArray, List.set_cons_zero, List.set_cons_succ]
       refine wpAnyH_take (i := 20) (v := ?_) rfl (by kernel_rfl) (by kernel_rfl) (by kernel_rfl) (fun _ _ _ h => h) (Or.inl ⟨by rfl, ?_⟩) (by assumption) ?_
       rotate_left
       · (intro w hSw; (try dsimp only at hSw); go_simp; first | done | with_reducible rfl)
       try simp only [List.getElem_toArray, List.getElem_cons_zero, List.getElem_cons_succ, Act.put, List.setIfInBounds_toArray, List.set_cons_zero, List.set_cons_succ]
       refine wpAnyH_take (i := 21) (v := ?_) rfl (by kernel_rfl) (by kernel_rfl) (by kernel_rfl) (fun _ _ _ h => h) (Or.inl ⟨by rfl, ?_⟩) (by assumption) ?_
       rotate_left
       · (intro w hSw; (try dsimp only at hSw); go_simp; first | done | with_reducible rfl)
       try simp only [List.getElem_toArray, List.getElem_cons_zero, List.getElem_cons_succ, Act.put, List.setIfInBounds_toArray, List.set_cons_zero, List.set_cons_succ]
       refine wpAnyH_ready (rs := [22]) (by kernel_rfl) (by simp) ?_
       refine AllReadyH.cons rfl (fun K hK => ?_) AllReadyH.nil
       go_simp
       (first
         | (go_at_call 51
            ((with_reducible refine (frac_sub ((qw_of mv mvd).fr LM) ((qw_of nv nvd).fr LN) (by omega) (by omega)).mono ?_))
            rintro e W53 ⟨V53, rfl, e2, u53⟩
            replace x := x.up u53
            replace xe := xe.up u53
            replace y := y.up u53
            replace ye := ye.up u53
            replace FZ := FZ.up u53
            replace mv := mv.up u53
            replace mvd := mvd.up u53
            replace nv := nv.up u53
            replace nvd := nvd.up u53
            replace sv := sv.up u53
            replace svd := svd.up u53
            replace dv := dv.up u53
            replace dvd := dvd.up u53
            replace pv := pv.up u53
            replace pvd := pvd.up u53
            try (replace e1 := e1.up u53)
            try (replace e2 := e2.up u53)
            try (replace e3 := e3.up u53)
            replace x7 := x7.up u53
            replace x8 := x8.up u53
            replace x9 := x9.up u53
            replace x10 := x10.up u53
            replace x12 := x12.up u53
            replace x14 := x14.up u53
            replace x16 := x16.up u53
            replace x18 := x18.up u53
            replace UP := UP.trans u53
            clear x7_0 x7_1 x8_0 x8_1 x9_0 x9_1 x9_2 x10_0 x10_1 x10_2 x12_0 x12_1 x12_2 x14_0 x14_1 x14_2 x16_0 x16_1 x16_2 x18_0 x18_1 x18_2
            obtain ⟨x7_0, x7_1⟩ := x7.c2
            obtain ⟨x8_0, x8_1⟩ := x8.c2
            obtain ⟨x9_0, x9_1, x9_2⟩ := x9.c3
            obtain ⟨x10_0, x10_1, x10_2⟩ := x10.c3
            obtain ⟨x12_0, x12_1, x12_2⟩ := x12.c3
            obtain ⟨x14_0, x14_1, x14_2⟩ := x14.c3
            obtain ⟨x16_0, x16_1, x16_2⟩ := x16.c3
            obtain ⟨x18_0, x18_1, x18_2⟩ := x18.c3
            clear u53
            rw [HDI.out] at e2))
       try go_wp2_with fail
       try clear hHeld
       refine hK.out _ _ ?_ (fun hHeld => ?_)
       · with_reducible exact ⟨UP, x10_0, x10_1, x10_2, x12_0, x12_1, x12_2, x14_0, x14_1, x14_2, x16_0, x16_1, x16_2, x18_0, x18_1, x18_2⟩
       clear hK K
       try simp only [List.getElem_toArray, List.getElem_cons_zero, List.getElem_cons_succ, Act.put, List.setIfInBounds_toArray, List.set_cons_zero, List.set_cons_succ]
       refine wpAnyH_ready (rs := [23]) (by kernel_rfl) (by simp) ?_
       refine AllReadyH.cons rfl (fun K hK => ?_) AllReadyH.nil
       go_simp
       (first
         | (go_at_call 54
            ((with_reducible refine (frac_same ((qw_of dv dvd).fr LDI) (e2.fr LDI) (by omega) (by omega)).mono ?_))
            rintro e W54 ⟨rfl, u54⟩
            replace x := x.up u54
            replace xe := xe.up u54
            replace y := y.up u54
            replace ye := ye.up u54
            replace FZ := FZ.up u54
            replace mv := mv.up u54
            replace mvd := mvd.up u54
            replace nv := nv.up u54
            replace nvd := nvd.up u54
            replace sv := sv.up u54
            replace svd := svd.up u54
            replace dv := dv.up u54
            replace dvd := dvd.up u54
            replace pv := pv.up u54
            replace pvd := pvd.up u54
            try (replace e1 := e1.up u54)
            try (replace e2 := e2.up u54)
            try (replace e3 := e3.up u54)
            replace x7 := x7.up u54
            replace x8 := x8.up u54
            replace x9 := x9.up u54
            replace x10 := x10.up u54
            replace x12 := x12.up u54
            replace x14 := x14.up u54
            replace x16 := x16.up u54
            replace x18 := x18.up u54
            replace UP := UP.trans u54
            clear x7_0 x7_1 x8_0 x8_1 x9_0 x9_1 x9_2 x10_0 x10_1 x10_2 x12_0 x12_1 x12_2 x14_0 x14_1 x14_2 x16_0 x16_1 x16_2 x18_0 x18_1 x18_2
            obtain ⟨x7_0, x7_1⟩ := x7.c2
            obtain ⟨x8_0, x8_1⟩ := x8.c2
            obtain ⟨x9_0, x9_1, x9_2⟩ := x9.c3
            obtain ⟨x10_0, x10_1, x10_2⟩ := x10.c3
            obtain ⟨x12_0, x12_1, x12_2⟩ := x12.c3
            obtain ⟨x14_0, x14_1, x14_2⟩ := x14.c3
            obtain ⟨x16_0, x16_1, x16_2⟩ := x16.c3
            obtain ⟨x18_0, x18_1, x18_2⟩ := x18.c3
            clear u54
            rw [show decide (DI = DI) = true from decide_eq_true rfl]))
       try go_wp2_with fail
       try clear hHeld
       refine hK.out _ _ ?_ (fun hHeld => ?_)
       · with_reducible exact ⟨UP, x10_0, x10_1, x10_2, x12_0, x12_1, x12_2, x14_0, x14_1, x14_2, x16_0, x16_1, x16_2, x18_0, x18_1, x18_2⟩
       clear hK K
       try simp only [List.getElem_toArray, List.getElem_cons_zero, List.getElem_cons_succ, Act.put, List.setIfInBounds_toArray, List.set_cons_zero, List.set_cons_succ]
       refine wpAnyH_take (i := 24) (v := ?_) rfl (by kernel_rfl) (by kernel_rfl) (by kernel_rfl) (fun _ _ _ h => h) (Or.inl ⟨by rfl, ?_⟩) (by assumption) ?_
       rotate_left
       · (intro w hSw; (try dsimp only at hSw); go_simp; first | done | with_reducible rfl)
       try simp only [List.getElem_toArray, List.getElem_cons_zero, List.getElem_cons_succ, Act.put, List.setIfInBounds_toArray, List.set_cons_zero, List.set_cons_succ]
       refine wpAnyH_take (i := 25) (v := ?_) rfl (by kernel_rfl) (by kernel_rfl) (by kernel_rfl) (fun _ _ _ h => h) (Or.inl ⟨by rfl, ?_⟩) (by assumption) ?_
       rotate_left
       · (intro w hSw; (try dsimp only at hSw); go_simp; first | done | with_reducible rfl)
       try simp only [List.getElem_toArray, List.getElem_cons_zero, List.getElem_cons_succ, Act.put, List.setIfInBounds_toArray, List.set_cons_zero, List.set_cons_succ]
       refine wpAnyH_take (i := 26) (v := ?_) rfl (by kernel_rfl) (by kernel_rfl) (by kernel_rfl) (fun _ _ _ h => h) (Or.inl ⟨by rfl, ?_⟩) (by assumption) ?_
       rotate_left
       · (intro w hSw; (try dsimp only at hSw); go_simp; first | done | with_reducible rfl)
       try simp only [List.getElem_toArray, List.getElem_cons_zero, List.getElem_cons_succ, Act.put, List.setIfInBounds_toArray, List.set_cons_zero, List.set_cons_succ]
       refine wpAnyH_take (i := 27) (v := ?_) rfl (by kernel_rfl) (by kernel_rfl) (by kernel_rfl) (fun _ _ _ h => h) (Or.inl ⟨by rfl, ?_⟩) (by assumption) ?_
       rotate_left
       · (intro w hSw; (try dsimp only at hSw); go_simp; first | done | with_reducible rfl)
       try simp only [List.getElem_toArray, List.getElem_cons_zero, List.getElem_cons_succ, Act.put, List.setIfInBounds_toArray, List.set_cons_zero, List.set_cons_succ]
       refine wpAnyH_take (i := 28) (v := ?_) rfl (by kernel_rfl) (by kernel_rfl) (by kernel_rfl) (fun _ _ _ h => h) (Or.inl ⟨by rfl, ?_⟩) (by assumption) ?_
       rotate_left
       · (intro w hSw; (try dsimp only at hSw); go_simp; first | done | with_reducible rfl)
       try simp only [List.getElem_toArray, List.getElem_cons_zero, List.getElem_cons_succ, Act.put, List.setIfInBounds_toArray, List.set_cons_zero, List.set_cons_succ]
       refine wpAnyH_take (i := 29) (v := ?_) rfl (by kernel_rfl) (by kernel_rfl) (by kernel_rfl) (fun _ _ _ h => h) (Or.inl ⟨by rfl, ?_⟩) (by assumption) ?_
       rotate_left
       · (intro w hSw; (try dsimp only at hSw); go_simp; first | done | with_reducible rfl)
       try simp only [List.getElem_toArray, List.getElem_cons_zero, List.getElem_cons_succ, Act.put, List.setIfInBounds_toArray, List.set_cons_zero, List.set_cons_succ]
       refine wpAnyH_ready (rs := [30]) (by kernel_rfl) (by simp) ?_
       refine AllReadyH.cons rfl (fun K hK => ?_) AllReadyH.nil
       go_simp
       (first
         | (go_at_call 48
            ((with_reducible refine (frac_mul ((qw_of mv mvd).fr LM) ((qw_of nv nvd).fr LN) (by omega) (by omega)).mono ?_))
            rintro e W55 ⟨V55, rfl, e3, u55⟩
            replace x := x.up u55
            replace xe := xe.up u55
            replace y := y.up u55
            replace ye := ye.up u55
            replace FZ := FZ.up u55
            replace mv := mv.up u55
            replace mvd := mvd.up u55
            replace nv := nv.up u55
            replace nvd := nvd.up u55
            replace sv := sv.up u55
            replace svd := svd.up u55
            replace dv := dv.up u55
            replace dvd := dvd.up u55
            replace pv := pv.up u55
            replace pvd := pvd.up u55
            try (replace e1 := e1.up u55)
            try (replace e2 := e2.up u55)
            try (replace e3 := e3.up u55)
            replace x7 := x7.up u55
            replace x8 := x8.up u55
            replace x9 := x9.up u55
            replace x10 := x10.up u55
            replace x12 := x12.up u55
            replace x14 := x14.up u55
            replace x16 := x16.up u55
            replace x18 := x18.up u55
            replace UP := UP.trans u55
            clear x7_0 x7_1 x8_0 x8_1 x9_0 x9_1 x9_2 x10_0 x10_1 x10_2 x12_0 x12_1 x12_2 x14_0 x14_1 x14_2 x16_0 x16_1 x16_2 x18_0 x18_1 x18_2
            obtain ⟨x7_0, x7_1⟩ := x7.c2
            obtain ⟨x8_0, x8_1⟩ := x8.c2
            obtain ⟨x9_0, x9_1, x9_2⟩ := x9.c3
            obtain ⟨x10_0, x10_1, x10_2⟩ := x10.c3
            obtain ⟨x12_0, x12_1, x12_2⟩ := x12.c3
            obtain ⟨x14_0, x14_1, x14_2⟩ := x14.c3
            obtain ⟨x16_0, x16_1, x16_2⟩ := x16.c3
            obtain ⟨x18_0, x18_1, x18_2⟩ := x18.c3
            clear u55
            rw [HPR.out] at e3))
       try go_wp2_with fail
       try clear hHeld
       refine hK.out _ _ ?_ (fun hHeld => ?_)
       · with_reducible exact ⟨UP, x10_0, x10_1, x10_2, x12_0, x12_1, x12_2, x14_0, x14_1, x14_2, x16_0, x16_1, x16_2, x18_0, x18_1, x18_2⟩
       clear hK K
       try simp only [List.getElem_toArray, List.getElem_cons_zero, List.getElem_cons_succ, Act.put, List.setIfInBounds_toArray, List.set_cons_zero, List.set_cons_succ]
       refine wpAnyH_ready (rs := [31]) (by kernel_rfl) (by simp) ?_
       refine AllReadyH.cons rfl (fun K hK => ?_) AllReadyH.nil
       go_simp
       (first
         | (go_at_call 54
            ((with_reducible refine (frac_same ((qw_of pv pvd).fr LPR) (e3.fr LPR) (by omega) (by omega)).mono ?_))
            rintro e W56 ⟨rfl, u56⟩
            replace x := x.up u56
            replace xe := xe.up u56
            replace y := y.up u56
            replace ye := ye.up u56
            replace FZ := FZ.up u56
            replace mv := mv.up u56
            replace mvd := mvd.up u56
            replace nv := nv.up u56
            replace nvd := nvd.up u56
            replace sv := sv.up u56
            replace svd := svd.up u56
            replace dv := dv.up u56
            replace dvd := dvd.up u56
            replace pv := pv.up u56
            replace pvd := pvd.up u56
            try (replace e1 := e1.up u56)
            try (replace e2 := e2.up u56)
            try (replace e3 := e3.up u56)
            replace x7 := x7.up u56
            replace x8 := x8.up u56
            replace x9 := x9.up u56
            replace x10 := x10.up u56
            replace x12 := x12.up u56
            replace x14 := x14.up u56
            replace x16 := x16.up u56
            replace x18 := x18.up u56
            replace UP := UP.trans u56
            clear x7_0 x7_1 x8_0 x8_1 x9_0 x9_1 x9_2 x10_0 x10_1 x10_2 x12_0 x12_1 x12_2 x14_0 x14_1 x14_2 x16_0 x16_1 x16_2 x18_0 x18_1 x18_2
            obtain ⟨x7_0, x7_1⟩ := x7.c2
            obtain ⟨x8_0, x8_1⟩ := x8.c2
            obtain ⟨x9_0, x9_1, x9_2⟩ := x9.c3
            obtain ⟨x10_0, x10_1, x10_2⟩ := x10.c3
            obtain ⟨x12_0, x12_1, x12_2⟩ := x12.c3
            obtain ⟨x14_0, x14_1, x14_2⟩ := x14.c3
            obtain ⟨x16_0, x16_1, x16_2⟩ := x16.c3
            obtain ⟨x18_0, x18_1, x18_2⟩ := x18.c3
            clear u56
            rw [show decide (PR = PR) = true from decide_eq_true rfl]))
       try go_wp2_with fail
       try clear hHeld
       refine hK.out _ _ ?_ (fun hHeld => ?_)
       · with_reducible exact ⟨UP, x10_0, x10_1, x10_2, x12_0, x12_1, x12_2, x14_0, x14_1, x14_2, x16_0, x16_1, x16_2, x18_0, x18_1, x18_2⟩
       clear hK K
       try simp only [List.getElem_toArray, List.getElem_cons_zero, List.getElem_cons_succ, Act.put, List.setIfInBounds_toArray, List.set_cons_zero, List.set_cons_succ]
       refine wpAnyH_take (i := 32) (v := ?_) rfl (by kernel_rfl) (by kernel_rfl) (by kernel_rfl) (fun _ _ _ h => h) (Or.inl ⟨by rfl, ?_⟩) (by assumption) ?_
       rotate_left
       · (intro w hSw; (try dsimp only at hSw); go_simp; first | done | with_reducible rfl)
       try simp only [List.getElem_toArray, List.getElem_cons_zero, List.getElem_cons_succ, Act.put, List.setIfInBounds_toArray, List.set_cons_zero, List.set_cons_succ]
       refine wpAnyH_take (i := 33) (v := ?_) rfl (by kernel_rfl) (by kernel_rfl) (by kernel_rfl) (fun _ _ _ h => h) (Or.inl ⟨by rfl, ?_⟩) (by assumption) ?_
       rotate_left
       · (intro w hSw; (try dsimp only at hSw); go_simp; first | done | with_reducible rfl)
       try simp only [List.getElem_toArray, List.getElem_cons_zero, List.getElem_cons_succ, Act.put, List.setIfInBounds_toArray, List.set_cons_zero, List.set_cons_succ]
       refine wpAnyH_done (by kernel_rfl) ?_ _
       refine NoPanic.normal ?_
       clear hHeld
       clear sv svd dv dvd pv pvd e1 e2 e3
       go_wp2_with fail
       ((with_reducible refine (frac_sign ((qw_of nv nvd).fr LN) (by omega)).mono ?_))
       rintro e W57 ⟨rfl, u57⟩
       replace x := x.up u57
       replace xe := xe.up u57
       replace y := y.up u57
       replace ye := ye.up u57
       replace FZ := FZ.up u57
       replace mv := mv.up u57
       replace mvd := mvd.up u57
       replace nv := nv.up u57
       replace nvd := nvd.up u57
       replace x7 := x7.up u57
       replace x8 := x8.up u57
       replace x9 := x9.up u57
       replace x10 := x10.up u57
       replace x12 := x12.up u57
       replace x14 := x14.up u57
       replace x16 := x16.up u57
       replace x18 := x18.up u57
       replace UP := UP.trans u57
       clear x7_0 x7_1 x8_0 x8_1 x9_0 x9_1 x9_2 x10_0 x10_1 x10_2 x12_0 x12_1 x12_2 x14_0 x14_1 x14_2 x16_0 x16_1 x16_2 x18_0 x18_1 x18_2
       obtain ⟨x7_0, x7_1⟩ := x7.c2
       obtain ⟨x8_0, x8_1⟩ := x8.c2
       obtain ⟨x9_0, x9_1, x9_2⟩ := x9.c3
       obtain ⟨x10_0, x10_1, x10_2⟩ := x10.c3
       obtain ⟨x12_0, x12_1, x12_2⟩ := x12.c3
       obtain ⟨x14_0, x14_1, x14_2⟩ := x14.c3
       obtain ⟨x16_0, x16_1, x16_2⟩ := x16.c3
       obtain ⟨x18_0, x18_1, x18_2⟩ := x18.c3
       clear u57
       by_cases hn : NV = 0
       · have hs : ((Wd.sgn NV.num : Int) == 0) = true := by rw [sgn_eq_zero, decide_eq_true hn]
         clear hn
         go_wp2_with fail
         ((with_reducible refine (works15 _).mono ?_))
         rintro e W58 ⟨rfl, u58⟩
         replace x := x.up u58
         replace xe := xe.up u58
         replace y := y.up u58
         replace ye := ye.up u58
         replace FZ := FZ.up u58
         replace mv := mv.up u58
         replace mvd := mvd.up u58
         replace nv := nv.up u58
         replace nvd := nvd.up u58
         replace x7 := x7.up u58
         replace x8 := x8.up u58
         replace x9 := x9.up u58
         replace x10 := x10.up u58
         replace x12 := x12.up u58
         replace x14 := x14.up u58
         replace x16 := x16.up u58
         replace x18 := x18.up u58
         replace UP := UP.trans u58
         clear x7_0 x7_1 x8_0 x8_1 x9_0 x9_1 x9_2 x10_0 x10_1 x10_2 x12_0 x12_1 x12_2 x14_0 x14_1 x14_2 x16_0 x16_1 x16_2 x18_0 x18_1 x18_2
         obtain ⟨x7_0, x7_1⟩ := x7.c2
         obtain ⟨x8_0, x8_1⟩ := x8.c2
         obtain ⟨x9_0, x9_1, x9_2⟩ := x9.c3
         obtain ⟨x10_0, x10_1, x10_2⟩ := x10.c3
         obtain ⟨x12_0, x12_1, x12_2⟩ := x12.c3
         obtain ⟨x14_0, x14_1, x14_2⟩ := x14.c3
         obtain ⟨x16_0, x16_1, x16_2⟩ := x16.c3
         obtain ⟨x18_0, x18_1, x18_2⟩ := x18.c3
         clear u58
         go_wp2
         go_ret
         exact ⟨rfl, UP⟩
       have hs : ((Wd.sgn NV.num : Int) == 0) = false := by rw [sgn_eq_zero, decide_eq_false hn]
       have U3 : Hid (Pq.E usnv z ≠ 0) := Lib.hid (fun e => hn (by rw [← HNV.out, e, Rat.div_def, Rat.zero_mul]))
       have PN : Hid (Pq.nm P' ≠ []) := Lib.hid (fun e => U3.out (by rw [(canv.out.zero DN'.out).2 e]; rfl))
       clear hn
       go_wp2_with fail
       ((with_reducible refine (ratf_quo (k := 2) x.fs xe.fs lp3 lq3 (by omega) LPQ.out y.fs ye.fs lp3' lq3' (by omega) LPQ'.out 5 (by omega) (by omega) (K := 160) (by omega) (by omega) (by omega) (by omega) HP HD HP' HD' PN).mono ?_))
       rintro e W58 ⟨V58, U58, pso1, qso1, rfl, o1, o2, cao1, lpo1, leo1, u58⟩
       obtain ⟨Ao1, co1, rfl⟩ := o1.form
       obtain ⟨Ao2, co2, rfl⟩ := o2.form
       replace x := x.up u58
       replace xe := xe.up u58
       replace y := y.up u58
       replace ye := ye.up u58
       replace FZ := FZ.up u58
       replace mv := mv.up u58
       replace mvd := mvd.up u58
       replace nv := nv.up u58
       replace nvd := nvd.up u58
       replace x7 := x7.up u58
       replace x8 := x8.up u58
       replace x9 := x9.up u58
       replace x10 := x10.up u58
       replace x12 := x12.up u58
       replace x14 := x14.up u58
       replace x16 := x16.up u58
       replace x18 := x18.up u58
       replace UP := UP.trans u58
       clear x7_0 x7_1 x8_0 x8_1 x9_0 x9_1 x9_2 x10_0 x10_1 x10_2 x12_0 x12_1 x12_2 x14_0 x14_1 x14_2 x16_0 x16_1 x16_2 x18_0 x18_1 x18_2
       obtain ⟨x7_0, x7_1⟩ := x7.c2
       obtain ⟨x8_0, x8_1⟩ := x8.c2
       obtain ⟨x9_0, x9_1, x9_2⟩ := x9.c3
       obtain ⟨x10_0, x10_1, x10_2⟩ := x10.c3
       obtain ⟨x12_0, x12_1, x12_2⟩ := x12.c3
       obtain ⟨x14_0, x14_1, x14_2⟩ := x14.c3
       obtain ⟨x16_0, x16_1, x16_2⟩ := x16.c3
       obtain ⟨x18_0, x18_1, x18_2⟩ := x18.c3
       clear u58
       have x7_0a := fun O0 => (cell_alloc (o := O0) x7_0)
       have x7_1a := fun O0 => (cell_alloc (o := O0) x7_1)
       have x8_0a := fun O0 => (cell_alloc (o := O0) x8_0)
       have x8_1a := fun O0 => (cell_alloc (o := O0) x8_1)
       have x9_0a := fun O0 => (cell_alloc (o := O0) x9_0)
       have x9_1a := fun O0 => (cell_alloc (o := O0) x9_1)
       have x9_2a := fun O0 => (cell_alloc (o := O0) x9_2)
       have x10_0a := fun O0 => (cell_alloc (o := O0) x10_0)
       have x10_1a := fun O0 => (cell_alloc (o := O0) x10_1)
       have x10_2a := fun O0 => (cell_alloc (o := O0) x10_2)
       have x12_0a := fun O0 => (cell_alloc (o := O0) x12_0)
       have x12_1a := fun O0 => (cell_alloc (o := O0) x12_1)
       have x12_2a := fun O0 => (cell_alloc (o := O0) x12_2)
       have x14_0a := fun O0 => (cell_alloc (o := O0) x14_0)
       have x14_1a := fun O0 => (cell_alloc (o := O0) x14_1)
       have x14_2a := fun O0 => (cell_alloc (o := O0) x14_2)
       have x16_0a := fun O0 => (cell_alloc (o := O0) x16_0)
       have x16_1a := fun O0 => (cell_alloc (o := O0) x16_1)
       have x16_2a := fun O0 => (cell_alloc (o := O0) x16_2)
       have x18_0a := fun O0 => (cell_alloc (o := O0) x18_0)
       have x18_1a := fun O0 => (cell_alloc (o := O0) x18_1)
       have x18_2a := fun O0 => (cell_alloc (o := O0) x18_2)
       go_wp2_with fail
       clear x7_0a x7_1a x8_0a x8_1a x9_0a x9_1a x9_2a x10_0a x10_1a x10_2a x12_0a x12_1a x12_2a x14_0a x14_1a x14_2a x16_0a x16_1a x16_2a x18_0a x18_1a x18_2a
       have x20 := Bx.new 120 W58 [.slice Ao1 pso1.length co1, .slice Ao2 qso1.length co2]
       have x7_lt_x20 := x7.lt
       have x8_lt_x20 := x8.lt
       have x9_lt_x20 := x9.lt
       have x10_lt_x20 := x10.lt
       have x12_lt_x20 := x12.lt
       have x14_lt_x20 := x14.lt
       have x16_lt_x20 := x16.lt
       have x18_lt_x20 := x18.lt
       replace x := x.up ((Up.refl W58).alloc (.cells #[.slice Ao1 pso1.length co1, .slice Ao2 qso1.length co2] 120))
       replace xe := xe.up ((Up.refl W58).alloc (.cells #[.slice Ao1 pso1.length co1, .slice Ao2 qso1.length co2] 120))
       replace y := y.up ((Up.refl W58).alloc (.cells #[.slice Ao1 pso1.length co1, .slice Ao2 qso1.length co2] 120))
       replace ye := ye.up ((Up.refl W58).alloc (.cells #[.slice Ao1 pso1.length co1, .slice Ao2 qso1.length co2] 120))
       replace FZ := FZ.up ((Up.refl W58).alloc (.cells #[.slice Ao1 pso1.length co1, .slice Ao2 qso1.length co2] 120))
       replace mv := mv.up ((Up.refl W58).alloc (.cells #[.slice Ao1 pso1.length co1, .slice Ao2 qso1.length co2] 120))
       replace mvd := mvd.up ((Up.refl W58).alloc (.cells #[.slice Ao1 pso1.length co1, .slice Ao2 qso1.length co2] 120))
       replace nv := nv.up ((Up.refl W58).alloc (.cells #[.slice Ao1 pso1.length co1, .slice Ao2 qso1.length co2] 120))
       replace nvd := nvd.up ((Up.refl W58).alloc (.cells #[.slice Ao1 pso1.length co1, .slice Ao2 qso1.length co2] 120))
       replace o1 := o1.up ((Up.refl W58).alloc (.cells #[.slice Ao1 pso1.length co1, .slice Ao2 qso1.length co2] 120))
       replace o2 := o2.up ((Up.refl W58).alloc (.cells #[.slice Ao1 pso1.length co1, .slice Ao2 qso1.length co2] 120))
       replace x7 := x7.up ((Up.refl W58).alloc (.cells #[.slice Ao1 pso1.length co1, .slice Ao2 qso1.length co2] 120))
       replace x8 := x8.up ((Up.refl W58).alloc (.cells #[.slice Ao1 pso1.length co1, .slice Ao2 qso1.length co2] 120))
       replace x9 := x9.up ((Up.refl W58).alloc (.cells #[.slice Ao1 pso1.length co1, .slice Ao2 qso1.length co2] 120))
       replace x10 := x10.up ((Up.refl W58).alloc (.cells #[.slice Ao1 pso1.length co1, .slice Ao2 qso1.length co2] 120))
       replace x12 := x12.up ((Up.refl W58).alloc (.cells #[.slice Ao1 pso1.length co1, .slice Ao2 qso1.length co2] 120))
       replace x14 := x14.up ((Up.refl W58).alloc (.cells #[.slice Ao1 pso1.length co1, .slice Ao2 qso1.length co2] 120))
       replace x16 := x16.up ((Up.refl W58).alloc (.cells #[.slice Ao1 pso1.length co1, .slice Ao2 qso1.length co2] 120))
       replace x18 := x18.up ((Up.refl W58).alloc (.cells #[.slice Ao1 pso1.length co1, .slice Ao2 qso1.length co2] 120))
       replace UP := UP.trans ((Up.refl W58).alloc (.cells #[.slice Ao1 pso1.length co1, .slice Ao2 qso1.length co2] 120))
       generalize (W58.alloc (.cells #[.slice Ao1 pso1.length co1, .slice Ao2 qso1.length co2] 120)) = W59 at *
       clear x7_0 x7_1 x8_0 x8_1 x9_0 x9_1 x9_2 x10_0 x10_1 x10_2 x12_0 x12_1 x12_2 x14_0 x14_1 x14_2 x16_0 x16_1 x16_2 x18_0 x18_1 x18_2
       obtain ⟨x7_0, x7_1⟩ := x7.c2
       obtain ⟨x8_0, x8_1⟩ := x8.c2
       obtain ⟨x9_0, x9_1, x9_2⟩ := x9.c3
       obtain ⟨x10_0, x10_1, x10_2⟩ := x10.c3
       obtain ⟨x12_0, x12_1, x12_2⟩ := x12.c3
       obtain ⟨x14_0, x14_1, x14_2⟩ := x14.c3
       obtain ⟨x16_0, x16_1, x16_2⟩ := x16.c3
       obtain ⟨x18_0, x18_1, x18_2⟩ := x18.c3
       obtain ⟨x20_0, x20_1⟩ := x20.c2
       ((with_reducible refine (ratf_eval (k := 160) (m := 5) (kz := 1) o1.fs o2.fs leo1.out.1 leo1.out.2 (by omega) (by omega) lpo1.out (K := 1610) (by omega) (by omega) (by omega) (by omega) (Lib.hid (Pq.pu_of cao1.out.nd)) (Lib.hid (Pq.pd_of cao1.out.nd)) FZ (KE := 16124) (by omega) (by omega) (by omega)).mono ?_))
       rintro e W60 ⟨V60, usov, dsov, rfl, ov, caov, lvov, u60⟩
       replace x := x.up u60
       replace xe := xe.up u60
       replace y := y.up u60
       replace ye := ye.up u60
       replace FZ := FZ.up u60
       replace mv := mv.up u60
       replace mvd := mvd.up u60
       replace nv := nv.up u60
       replace nvd := nvd.up u60
       replace o1 := o1.up u60
       replace o2 := o2.up u60
       replace x7 := x7.up u60
       replace x8 := x8.up u60
       replace x9 := x9.up u60
       replace x10 := x10.up u60
       replace x12 := x12.up u60
       replace x14 := x14.up u60
       replace x16 := x16.up u60
       replace x18 := x18.up u60
       replace x20 := x20.up u60
       replace UP := UP.trans u60
       clear x7_0 x7_1 x8_0 x8_1 x9_0 x9_1 x9_2 x10_0 x10_1 x10_2 x12_0 x12_1 x12_2 x14_0 x14_1 x14_2 x16_0 x16_1 x16_2 x18_0 x18_1 x18_2 x20_0 x20_1
       obtain ⟨x7_0, x7_1⟩ := x7.c2
       obtain ⟨x8_0, x8_1⟩ := x8.c2
       obtain ⟨x9_0, x9_1, x9_2⟩ := x9.c3
       obtain ⟨x10_0, x10_1, x10_2⟩ := x10.c3
       obtain ⟨x12_0, x12_1, x12_2⟩ := x12.c3
       obtain ⟨x14_0, x14_1, x14_2⟩ := x14.c3
       obtain ⟨x16_0, x16_1, x16_2⟩ := x16.c3
       obtain ⟨x18_0, x18_1, x18_2⟩ := x18.c3
       obtain ⟨x20_0, x20_1⟩ := x20.c2
       clear u60
       have VO := Lib.hid (Pq.val_over DN.out PN.out camv.out canv.out cao1.out caov.out D1.out D2.out U3.out)
       rw [ne_bool VO.out.1]
       obtain ⟨OQ, HOQ⟩ : ∃ q, Hid (Pq.E usov z / Pq.E dsov z = q) := ⟨_, Lib.hid rfl⟩
       rw [HOQ.out] at ov lvov
       have HOM : Hid (OQ * NV = MV) := Lib.hid (by have := VO.out.2; rwa [HOQ.out, HNV.out, HMV.out] at this)
       have LOQ := lvov.out
       obtain ⟨Xov, Yov, rfl, ov, ovd⟩ := ov
       obtain ⟨Aov, nov, cov, rfl⟩ := ov.shape
       obtain ⟨Aovd, novd, covd, rfl⟩ := ovd.shape
       have x7_0a := fun O0 => (cell_alloc (o := O0) x7_0)
       have x7_1a := fun O0 => (cell_alloc (o := O0) x7_1)
       have x8_0a := fun O0 => (cell_alloc (o := O0) x8_0)
       have x8_1a := fun O0 => (cell_alloc (o := O0) x8_1)
       have x9_0a := fun O0 => (cell_alloc (o := O0) x9_0)
       have x9_1a := fun O0 => (cell_alloc (o := O0) x9_1)
       have x9_2a := fun O0 => (cell_alloc (o := O0) x9_2)
       have x10_0a := fun O0 => (cell_alloc (o := O0) x10_0)
       have x10_1a := fun O0 => (cell_alloc (o := O0) x10_1)
       have x10_2a := fun O0 => (cell_alloc (o := O0) x10_2)
       have x12_0a := fun O0 => (cell_alloc (o := O0) x12_0)
       have x12_1a := fun O0 => (cell_alloc (o := O0) x12_1)
       have x12_2a := fun O0 => (cell_alloc (o := O0) x12_2)
       have x14_0a := fun O0 => (cell_alloc (o := O0) x14_0)
       have x14_1a := fun O0 => (cell_alloc (o := O0) x14_1)
       have x14_2a := fun O0 => (cell_alloc (o := O0) x14_2)
       have x16_0a := fun O0 => (cell_alloc (o := O0) x16_0)
       have x16_1a := fun O0 => (cell_alloc (o := O0) x16_1)
       have x16_2a := fun O0 => (cell_alloc (o := O0) x16_2)
       have x18_0a := fun O0 => (cell_alloc (o := O0) x18_0)
       have x18_1a := fun O0 => (cell_alloc (o := O0) x18_1)
       have x18_2a := fun O0 => (cell_alloc (o := O0) x18_2)
       have x20_0a := fun O0 => (cell_alloc (o := O0) x20_0)
       have x20_1a := fun O0 => (cell_alloc (o := O0) x20_1)
       go_wp2_with fail
       clear x7_0a x7_1a x8_0a x8_1a x9_0a x9_1a x9_2a x10_0a x10_1a x10_2a x12_0a x12_1a x12_2a x14_0a x14_1a x14_2a x16_0a x16_1a x16_2a x18_0a x18_1a x18_2a x20_0a x20_1a
       have x22 := Bx.new 69 W60 [.bool (Wd.ngb OQ.num), .slice Aov nov cov, .slice Aovd novd covd]
       have x7_lt_x22 := x7.lt
       have x8_lt_x22 := x8.lt
       have x9_lt_x22 := x9.lt
       have x10_lt_x22 := x10.lt
       have x12_lt_x22 := x12.lt
       have x14_lt_x22 := x14.lt
       have x16_lt_x22 := x16.lt
       have x18_lt_x22 := x18.lt
       have x20_lt_x22 := x20.lt
       replace x := x.up ((Up.refl W60).alloc (.cells #[.bool (Wd.ngb OQ.num), .slice Aov nov cov, .slice Aovd novd covd] 69))
       replace xe := xe.up ((Up.refl W60).alloc (.cells #[.bool (Wd.ngb OQ.num), .slice Aov nov cov, .slice Aovd novd covd] 69))
       replace y := y.up ((Up.refl W60).alloc (.cells #[.bool (Wd.ngb OQ.num), .slice Aov nov cov, .slice Aovd novd covd] 69))
       replace ye := ye.up ((Up.refl W60).alloc (.cells #[.bool (Wd.ngb OQ.num), .slice Aov nov cov, .slice Aovd novd covd] 69))
       replace FZ := FZ.up ((Up.refl W60).alloc (.cells #[.bool (Wd.ngb OQ.num), .slice Aov nov cov, .slice Aovd novd covd] 69))
       replace mv := mv.up ((Up.refl W60).alloc (.cells #[.bool (Wd.ngb OQ.num), .slice Aov nov cov, .slice Aovd novd covd] 69))
       replace mvd := mvd.up ((Up.refl W60).alloc (.cells #[.bool (Wd.ngb OQ.num), .slice Aov nov cov, .slice Aovd novd covd] 69))
       replace nv := nv.up ((Up.refl W60).alloc (.cells #[.bool (Wd.ngb OQ.num), .slice Aov nov cov, .slice Aovd novd covd] 69))
       replace nvd := nvd.up ((Up.refl W60).alloc (.cells #[.bool (Wd.ngb OQ.num), .slice Aov nov cov, .slice Aovd novd covd] 69))
       replace o1 := o1.up ((Up.refl W60).alloc (.cells #[.bool (Wd.ngb OQ.num), .slice Aov nov cov, .slice Aovd novd covd] 69))
       replace o2 := o2.up ((Up.refl W60).alloc (.cells #[.bool (Wd.ngb OQ.num), .slice Aov nov cov, .slice Aovd novd covd] 69))
       replace ov := ov.up ((Up.refl W60).alloc (.cells #[.bool (Wd.ngb OQ.num), .slice Aov nov cov, .slice Aovd novd covd] 69))
       replace ovd := ovd.up ((Up.refl W60).alloc (.cells #[.bool (Wd.ngb OQ.num), .slice Aov nov cov, .slice Aovd novd covd] 69))
       replace x7 := x7.up ((Up.refl W60).alloc (.cells #[.bool (Wd.ngb OQ.num), .slice Aov nov cov, .slice Aovd novd covd] 69))
       replace x8 := x8.up ((Up.refl W60).alloc (.cells #[.bool (Wd.ngb OQ.num), .slice Aov nov cov, .slice Aovd novd covd] 69))
       replace x9 := x9.up ((Up.refl W60).alloc (.cells #[.bool (Wd.ngb OQ.num), .slice Aov nov cov, .slice Aovd novd covd] 69))
       replace x10 := x10.up ((Up.refl W60).alloc (.cells #[.bool (Wd.ngb OQ.num), .slice Aov nov cov, .slice Aovd novd covd] 69))
       replace x12 := x12.up ((Up.refl W60).alloc (.cells #[.bool (Wd.ngb OQ.num), .slice Aov nov cov, .slice Aovd novd covd] 69))
       replace x14 := x14.up ((Up.refl W60).alloc (.cells #[.bool (Wd.ngb OQ.num), .slice Aov nov cov, .slice Aovd novd covd] 69))
       replace x16 := x16.up ((Up.refl W60).alloc (.cells #[.bool (Wd.ngb OQ.num), .slice Aov nov cov, .slice Aovd novd covd] 69))
       replace x18 := x18.up ((Up.refl W60).alloc (.cells #[.bool (Wd.ngb OQ.num), .slice Aov nov cov, .slice Aovd novd covd] 69))
       replace x20 := x20.up ((Up.refl W60).alloc (.cells #[.bool (Wd.ngb OQ.num), .slice Aov nov cov, .slice Aovd novd covd] 69))
       replace UP := UP.trans ((Up.refl W60).alloc (.cells #[.bool (Wd.ngb OQ.num), .slice Aov nov cov, .slice Aovd novd covd] 69))
       generalize (W60.alloc (.cells #[.bool (Wd.ngb OQ.num), .slice Aov nov cov, .slice Aovd novd covd] 69)) = W61 at *
       clear x7_0 x7_1 x8_0 x8_1 x9_0 x9_1 x9_2 x10_0 x10_1 x10_2 x12_0 x12_1 x12_2 x14_0 x14_1 x14_2 x16_0 x16_1 x16_2 x18_0 x18_1 x18_2 x20_0 x20_1
       obtain ⟨x7_0, x7_1⟩ := x7.c2
       obtain ⟨x8_0, x8_1⟩ := x8.c2
       obtain ⟨x9_0, x9_1, x9_2⟩ := x9.c3
       obtain ⟨x10_0, x10_1, x10_2⟩ := x10.c3
       obtain ⟨x12_0, x12_1, x12_2⟩ := x12.c3
       obtain ⟨x14_0, x14_1, x14_2⟩ := x14.c3
       obtain ⟨x16_0, x16_1, x16_2⟩ := x16.c3
       obtain ⟨x18_0, x18_1, x18_2⟩ := x18.c3
       obtain ⟨x20_0, x20_1⟩ := x20.c2
       obtain ⟨x22_0, x22_1, x22_2⟩ := x22.c3
       replace x := x.up (Up.refl W61).drew
       replace xe := xe.up (Up.refl W61).drew
       replace y := y.up (Up.refl W61).drew
       replace ye := ye.up (Up.refl W61).drew
       replace FZ := FZ.up (Up.refl W61).drew
       replace mv := mv.up (Up.refl W61).drew
       replace mvd := mvd.up (Up.refl W61).drew
       replace nv := nv.up (Up.refl W61).drew
       replace nvd := nvd.up (Up.refl W61).drew
       replace o1 := o1.up (Up.refl W61).drew
       replace o2 := o2.up (Up.refl W61).drew
       replace ov := ov.up (Up.refl W61).drew
       replace ovd := ovd.up (Up.refl W61).drew
       replace x7 := x7.up (Up.refl W61).drew
       replace x8 := x8.up (Up.refl W61).drew
       replace x9 := x9.up (Up.refl W61).drew
       replace x10 := x10.up (Up.refl W61).drew
       replace x12 := x12.up (Up.refl W61).drew
       replace x14 := x14.up (Up.refl W61).drew
       replace x16 := x16.up (Up.refl W61).drew
       replace x18 := x18.up (Up.refl W61).drew
       replace x20 := x20.up (Up.refl W61).drew
       replace x22 := x22.up (Up.refl W61).drew
       replace UP := UP.trans (Up.refl W61).drew
       clear x7_0 x7_1 x8_0 x8_1 x9_0 x9_1 x9_2 x10_0 x10_1 x10_2 x12_0 x12_1 x12_2 x14_0 x14_1 x14_2 x16_0 x16_1 x16_2 x18_0 x18_1 x18_2 x20_0 x20_1 x22_0 x22_1 x22_2
       obtain ⟨x7_0, x7_1⟩ := x7.c2
       obtain ⟨x8_0, x8_1⟩ := x8.c2
       obtain ⟨x9_0, x9_1, x9_2⟩ := x9.c3
       obtain ⟨x10_0, x10_1, x10_2⟩ := x10.c3
       obtain ⟨x12_0, x12_1, x12_2⟩ := x12.c3
       obtain ⟨x14_0, x14_1, x14_2⟩ := x14.c3
       obtain ⟨x16_0, x16_1, x16_2⟩ := x16.c3
       obtain ⟨x18_0, x18_1, x18_2⟩ := x18.c3
       obtain ⟨x20_0, x20_1⟩ := x20.c2
       obtain ⟨x22_0, x22_1, x22_2⟩ := x22.c3
       refine wp_region_noPanic ?_
       refine wp_region_held_drew (S := fun w' => Up w w' ∧ w'.cell? ⟨W10.heap.size, 0, none⟩ = some (.bool (Wd.ngb MV.num)) ∧ w'.cell? ⟨W10.heap.size, 1, none⟩ = some (.slice Amv nmv cmv) ∧ w'.cell? ⟨W10.heap.size, 2, none⟩ = some (.slice Amvd nmvd cmvd) ∧ w'.cell? ⟨W12.heap.size, 0, none⟩ = some (.bool (Wd.ngb NV.num)) ∧ w'.cell? ⟨W12.heap.size, 1, none⟩ = some (.slice Anv nnv cnv) ∧ w'.cell? ⟨W12.heap.size, 2, none⟩ = some (.slice Anvd nnvd cnvd) ∧ w'.cell? ⟨W60.heap.size, 0, none⟩ = some (.bool (Wd.ngb OQ.num)) ∧ w'.cell? ⟨W60.heap.size, 1, none⟩ = some (.slice Aov nov cov) ∧ w'.cell? ⟨W60.heap.size, 2, none⟩ = some (.slice Aovd novd covd)) (by kernel_rfl) ?_ (fun hHeld => ?_)
       · with_reducible exact ⟨UP, x10_0, x10_1, x10_2, x12_0, x12_1, x12_2, x22_0, x22_1, x22_2⟩
       refine wpAnyH_take (i := 0) (v := ?_) rfl (by kernel_rfl) (by kernel_rfl) (by kernel_rfl) (fun _ _ _ h => h) (Or.inl ⟨by rfl, ?_⟩) (by assumption) ?_
       rotate_left
       · (intro w hSw; (try dsimp only at hSw); go_simp; first | done | with_reducible rfl)
       try simp only [List.getElem_toArray, List.getElem_cons_zero, List.getElem_cons_succ, Act.put, List.setIfInBounds_toArray, List.set_cons_zero, List.set_cons_succ]
       refine wpAnyH_take (i := 1) (v := ?_) rfl (by kernel_rfl) (by kernel_rfl) (by kernel_rfl) (fun _ _ _ h => h) (Or.inl ⟨by rfl, ?_⟩) (by assumption) ?_
       rotate_left
       · (intro w hSw; (try dsimp only at hSw); go_simp; first | done | with_reducible rfl)
       try simp only [List.getElem_toArray, List.getElem_cons_zero, List.getElem_cons_succ, Act.put, List.setIfInBounds_toArray, List.set_cons_zero, List.set_cons_succ]
       refine wpAnyH_take (i := 2) (v := ?_) rfl (by kernel_rfl) (by kernel_rfl) (by kernel_rfl) (fun _ _ _ h => h) (Or.inl ⟨by rfl, ?_⟩) (by assumption) ?_
       rotate_left
       · (intro w hSw; (try dsimp only at hSw); go_simp; first | done | with_reducible rfl)
       try simp only [List.getElem_toArray, List.getElem_cons_zero, List.getElem_cons_succ, Act.put, List.setIfInBounds_toArray, List.set_cons_zero, List.set_cons_succ]
       refine wpAnyH_take (i := 3) (v := ?_) rfl (by kernel_rfl) (by kernel_rfl) (by kernel_rfl) (fun _ _ _ h => h) (Or.inl ⟨by rfl, ?_⟩) (by assumption) ?_
       rotate_left
       · (intro w hSw; (try dsimp only at hSw); go_simp; first | done | with_reducible rfl)
       try simp only [List.getElem_toArray, List.getElem_cons_zero, List.getElem_cons_succ, Act.put, List.setIfInBounds_toArray, List.set_cons_zero, List.set_cons_succ]
       refine wpAnyH_take (i := 4) (v := ?_) rfl (by kernel_rfl) (by kernel_rfl) (by kernel_rfl) (fun _ _ _ h => h) (Or.inl ⟨by rfl, ?_⟩) (by assumption) ?_
       rotate_left
       · (intro w hSw; (try dsimp only at hSw); go_simp; first | done | with_reducible rfl)
       try simp only [List.getElem_toArray, List.getElem_cons_zero, List.getElem_cons_succ, Act.put, List.setIfInBounds_toArray, List.set_cons_zero, List.set_cons_succ]
       refine wpAnyH_take (i := 5) (v := ?_) rfl (by kernel_rfl) (by kernel_rfl) (by kernel_rfl) (fun _ _ _ h => h) (Or.inl ⟨by rfl, ?_⟩) (by assumption) ?_
       rotate_left
       · (intro w hSw; (try dsimp only at hSw); go_simp; first | done | with_reducible rfl)
       try simp only [List.getElem_toArray, List.getElem_cons_zero, List.getElem_cons_succ, Act.put, List.setIfInBounds_toArray, List.set_cons_zero, List.set_cons_succ]
       refine wpAnyH_take (i := 6) (v := ?_) rfl (by kernel_rfl) (by kernel_rfl) (by kernel_rfl) (fun _ _ _ h => h) (Or.inl ⟨by rfl, ?_⟩) (by assumption) ?_
       rotate_left
       · (intro w hSw; (try dsimp only at hSw); go_simp; first | done | with_reducible rfl)
       try simp only [List.getElem_toArray, List.getElem_cons_zero, List.getElem_cons_succ, Act.put, List.setIfInBounds_toArray, List.set_cons_zero, List.set_cons_succ]
       refine wpAnyH_take (i := 8) (v := ?_) rfl (by kernel_rfl) (by kernel_rfl) (by kernel_rfl) (fun _ _ _ h => h) (Or.inl ⟨by rfl, ?_⟩) (by assumption) ?_
       rotate_left
       · (intro w hSw; (try dsimp only at hSw); go_simp; first | done | with_reducible rfl)
       try simp only [List.getElem_toArray, List.getElem_cons_zero, List.getElem_cons_succ, Act.put, List.setIfInBounds_toArray, List.set_cons_zero, List.set_cons_succ]
       refine wpAnyH_ready (rs := [7]) (by kernel_rfl) (by simp) ?_
       refine AllReadyH.cons rfl (fun K hK => ?_) AllReadyH.nil
       go_simp
       (first
         | (go_at_call 48
            ((with_reducible refine (frac_mul ((qw_of ov ovd).fr LOQ) ((qw_of nv nvd).fr LN) (by omega) (by omega)).mono ?_))
            rintro e W62 ⟨V62, rfl, e4, u62⟩
            replace x := x.up u62
            replace xe := xe.up u62
            replace y := y.up u62
            replace ye := ye.up u62
            replace FZ := FZ.up u62
            replace mv := mv.up u62
            replace mvd := mvd.up u62
            replace nv := nv.up u62
            replace nvd := nvd.up u62
            replace o1 := o1.up u62
            replace o2 := o2.up u62
            replace ov := ov.up u62
            replace ovd := ovd.up u62
            try (replace e4 := e4.up u62)
            replace x7 := x7.up u62
            replace x8 := x8.up u62
            replace x9 := x9.up u62
            replace x10 := x10.up u62
            replace x12 := x12.up u62
            replace x14 := x14.up u62
            replace x16 := x16.up u62
            replace x18 := x18.up u62
            replace x20 := x20.up u62
            replace x22 := x22.up u62
            replace UP := UP.trans u62
            clear x7_0 x7_1 x8_0 x8_1 x9_0 x9_1 x9_2 x10_0 x10_1 x10_2 x12_0 x12_1 x12_2 x14_0 x14_1 x14_2 x16_0 x16_1 x16_2 x18_0 x18_1 x18_2 x20_0 x20_1 x22_0 x22_1 x22_2
            obtain ⟨x7_0, x7_1⟩ := x7.c2
            obtain ⟨x8_0, x8_1⟩ := x8.c2
            obtain ⟨x9_0, x9_1, x9_2⟩ := x9.c3
            obtain ⟨x10_0, x10_1, x10_2⟩ := x10.c3
            obtain ⟨x12_0, x12_1, x12_2⟩ := x12.c3
            obtain ⟨x14_0, x14_1, x14_2⟩ := x14.c3
            obtain ⟨x16_0, x16_1, x16_2⟩ := x16.c3
            obtain ⟨x18_0, x18_1, x18_2⟩ := x18.c3
            obtain ⟨x20_0, x20_1⟩ := x20.c2
            obtain ⟨x22_0, x22_1, x22_2⟩ := x22.c3
            clear u62
            rw [HOM.out] at e4))
       try go_wp2_with fail
       try clear hHeld
       refine hK.out _ _ ?_ (fun hHeld => ?_)
       · with_reducible exact ⟨UP, x10_0, x10_1, x10_2, x12_0, x12_1, x12_2, x22_0, x22_1, x22_2⟩
       clear hK K
       try simp only [List.getElem_toArray, List.getElem_cons_zero, List.getElem_cons_succ, Act.put, List.setIfInBounds_toArray, List.set_cons_zero, List.set_cons_succ]
       refine wpAnyH_ready (rs := [9]) (by kernel_rfl) (by simp) ?_
       refine AllReadyH.cons rfl (fun K hK => ?_) AllReadyH.nil
       go_simp
       (first
         | (go_at_call 54
            ((with_reducible refine (frac_same (e4.fr LM) ((qw_of mv mvd).fr LM) (by omega) (by omega)).mono ?_))
            rintro e W63 ⟨rfl, u63⟩
            replace x := x.up u63
            replace xe := xe.up u63
            replace y := y.up u63
            replace ye := ye.up u63
            replace FZ := FZ.up u63
            replace mv := mv.up u63
            replace mvd := mvd.up u63
            replace nv := nv.up u63
            replace nvd := nvd.up u63
            replace o1 := o1.up u63
            replace o2 := o2.up u63
            replace ov := ov.up u63
            replace ovd := ovd.up u63
            try (replace e4 := e4.up u63)
            replace x7 := x7.up u63
            replace x8 := x8.up u63
            replace x9 := x9.up u63
            replace x10 := x10.up u63
            replace x12 := x12.up u63
            replace x14 := x14.up u63
            replace x16 := x16.up u63
            replace x18 := x18.up u63
            replace x20 := x20.up u63
            replace x22 := x22.up u63
            replace UP := UP.trans u63
            clear x7_0 x7_1 x8_0 x8_1 x9_0 x9_1 x9_2 x10_0 x10_1 x10_2 x12_0 x12_1 x12_2 x14_0 x14_1 x14_2 x16_0 x16_1 x16_2 x18_0 x18_1 x18_2 x20_0 x20_1 x22_0 x22_1 x22_2
            obtain ⟨x7_0, x7_1⟩ := x7.c2
            obtain ⟨x8_0, x8_1⟩ := x8.c2
            obtain ⟨x9_0, x9_1, x9_2⟩ := x9.c3
            obtain ⟨x10_0, x10_1, x10_2⟩ := x10.c3
            obtain ⟨x12_0, x12_1, x12_2⟩ := x12.c3
            obtain ⟨x14_0, x14_1, x14_2⟩ := x14.c3
            obtain ⟨x16_0, x16_1, x16_2⟩ := x16.c3
            obtain ⟨x18_0, x18_1, x18_2⟩ := x18.c3
            obtain ⟨x20_0, x20_1⟩ := x20.c2
            obtain ⟨x22_0, x22_1, x22_2⟩ := x22.c3
            clear u63
            rw [show decide (MV = MV) = true from decide_eq_true rfl]))
       try go_wp2_with fail
       try clear hHeld
       refine hK.out _ _ ?_ (fun hHeld => ?_)
       · with_reducible exact ⟨UP, x10_0, x10_1, x10_2, x12_0, x12_1, x12_2, x22_0, x22_1, x22_2⟩
       clear hK K
       try simp only [List.getElem_toArray, List.getElem_cons_zero, List.getElem_cons_succ, Act.put, List.setIfInBounds_toArray, List.set_cons_zero, List.set_cons_succ]
       refine wpAnyH_take (i := 10) (v := ?_) rfl (by kernel_rfl) (by kernel_rfl) (by kernel_rfl) (fun _ _ _ h => h) (Or.inl ⟨by rfl, ?_⟩) (by assumption) ?_
       rotate_left
       · (intro w hSw; (try dsimp only at hSw); go_simp; first | done | with_reducible rfl)
       try simp only [List.getElem_toArray, List.getElem_cons_zero, List.getElem_cons_succ, Act.put, List.setIfInBounds_toArray, List.set_cons_zero, List.set_cons_succ]
       refine wpAnyH_take (i := 11) (v := ?_) rfl (by kernel_rfl) (by kernel_rfl) (by kernel_rfl) (fun _ _ _ h => h) (Or.inl ⟨by rfl, ?_⟩) (by assumption) ?_
       rotate_left
       · (intro w hSw; (try dsimp only at hSw); go_simp; first | done | with_reducible rfl)
       try simp only [List.getElem_toArray, List.getElem_cons_zero, List.getElem_cons_succ, Act.put, List.setIfInBounds_toArray, List.set_cons_zero, List.set_cons_succ]
       refine wpAnyH_ready (rs := [12]) (by kernel_rfl) (by simp) ?_
       refine AllReadyH.cons rfl (fun K hK => ?_) AllReadyH.nil
       go_simp
       (first
         | (go_at_call 81
            ((with_reducible refine (works15 _).mono ?_))
            rintro e W64 ⟨rfl, u64⟩
            replace x := x.up u64
            replace xe := xe.up u64
            replace y := y.up u64
            replace ye := ye.up u64
            replace FZ := FZ.up u64
            replace mv := mv.up u64
            replace mvd := mvd.up u64
            replace nv := nv.up u64
            replace nvd := nvd.up u64
            replace o1 := o1.up u64
            replace o2 := o2.up u64
            replace ov := ov.up u64
            replace ovd := ovd.up u64
            try (replace e4 := e4.up u64)
            replace x7 := x7.up u64
            replace x8 := x8.up u64
            replace x9 := x9.up u64
            replace x10 := x10.up u64
            replace x12 := x12.up u64
            replace x14 := x14.up u64
            replace x16 := x16.up u64
            replace x18 := x18.up u64
            replace x20 := x20.up u64
            replace x22 := x22.up u64
            replace UP := UP.trans u64
            clear x7_0 x7_1 x8_0 x8_1 x9_0 x9_1 x9_2 x10_0 x10_1 x10_2 x12_0 x12_1 x12_2 x14_0 x14_1 x14_2 x16_0 x16_1 x16_2 x18_0 x18_1 x18_2 x20_0 x20_1 x22_0 x22_1 x22_2
            obtain ⟨x7_0, x7_1⟩ := x7.c2
            obtain ⟨x8_0, x8_1⟩ := x8.c2
            obtain ⟨x9_0, x9_1, x9_2⟩ := x9.c3
            obtain ⟨x10_0, x10_1, x10_2⟩ := x10.c3
            obtain ⟨x12_0, x12_1, x12_2⟩ := x12.c3
            obtain ⟨x14_0, x14_1, x14_2⟩ := x14.c3
            obtain ⟨x16_0, x16_1, x16_2⟩ := x16.c3
            obtain ⟨x18_0, x18_1, x18_2⟩ := x18.c3
            obtain ⟨x20_0, x20_1⟩ := x20.c2
            obtain ⟨x22_0, x22_1, x22_2⟩ := x22.c3
            clear u64))
       try go_wp2_with fail
       try clear hHeld
       refine hK.out _ _ ?_ (fun hHeld => ?_)
       · with_reducible exact ⟨UP, x10_0, x10_1, x10_2, x12_0, x12_1, x12_2, x22_0, x22_1, x22_2⟩
       clear hK K
       try simp only [List.getElem_toArray, List.getElem_cons_zero, List.getElem_cons_succ, Act.put, List.setIfInBounds_toArray, List.set_cons_zero, List.set_cons_succ]
       refine wpAnyH_take (i := 13) (v := ?_) rfl (by kernel_rfl) (by kernel_rfl) (by kernel_rfl) (fun _ _ _ h => h) (Or.inl ⟨by rfl, ?_⟩) (by assumption) ?_
       rotate_left
       · (intro w hSw; (try dsimp only at hSw); go_simp; first | done | with_reducible rfl)
       try simp only [List.getElem_toArray, List.getElem_cons_zero, List.getElem_cons_succ, Act.put, List.setIfInBounds_toArray, List.set_cons_zero, List.set_cons_succ]
       refine wpAnyH_ready (rs := [14]) (by kernel_rfl) (by simp) ?_
       refine AllReadyH.cons rfl (fun K hK => ?_) AllReadyH.nil
       go_simp
       skip
       try go_wp2_with fail
       try clear hHeld
       refine hK.out _ _ ?_ (fun hHeld => ?_)
       · with_reducible exact ⟨UP, x10_0, x10_1, x10_2, x12_0, x12_1, x12_2, x22_0, x22_1, x22_2⟩
       clear hK K
       try simp only [List.getElem_toArray, List.getElem_cons_zero, List.getElem_cons_succ, Act.put, List.setIfInBounds_toArray, List.set_cons_zero, List.set_cons_succ]
       refine wpAnyH_done (by kernel_rfl) ?_ _
       refine NoPanic.normal ?_
       go_wp2
       go_ret
       exact ⟨rfl, UP⟩
end Go.Proofs.Ytmmcffceeahemaa
