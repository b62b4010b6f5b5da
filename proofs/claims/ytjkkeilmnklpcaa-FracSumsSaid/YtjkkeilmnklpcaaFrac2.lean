/-
  Layer 9: fractions: sums, products, quotients.
-/
import Derived.Test.YtjkkeilmnklpcaaFrac
import Derived.Deep.RegionWith
set_option linter.unusedVariables false
set_option linter.unusedSimpArgs false
namespace Go.Proofs.Ytjkkeilmnklpcaa
open Go.RowKit

theorem cell_alloc {w : World} {o : Obj} {v : Value} {q : Addr} (h : w.cell? q = some v) : (w.alloc o).cell? q = some v := (World.cell?_alloc_lt w o q (World.block_lt_of_cell? w _ h)).trans h
set_option maxHeartbeats 1600000 in
theorem frac_norm {v : Value} {q : Rat} {k : Nat} {w : World} (h : Fr w v q k) (hk : k ≤ 1000000) : Calls Try.prog 64 #[v] w (RetQ q w) := by
  have H := h
  obtain ⟨s, v1, v2, l, m, rfl, hl, hm, _⟩ := h
  obtain ⟨A, c, rfl⟩ := hl.form
  obtain ⟨D, d, rfl⟩ := hm.form
  clear hl hm
  have UP : Up w ((w.alloc (.cells #[.bool s, .slice A l.length c, .slice D m.length d] 67)).alloc (.cells #[.bool false, .slice none 0 0, .slice none 0 0] 67)) := ((Up.refl w).alloc _).alloc _
  obtain ⟨b0, r0⟩ := bx_two 67 67 w [.bool s, .slice A l.length c, .slice D m.length d] [.bool false, .slice none 0 0, .slice none 0 0]
  go_enter Try.func64, Try.ntmps64
  go_wp2_with fail
  generalize ((w.alloc (.cells #[.bool s, .slice A l.length c, .slice D m.length d] 67)).alloc (.cells #[.bool false, .slice none 0 0, .slice none 0 0] 67)) = W at *
  replace H := H.up UP
  have b0_0 := b0.cell (i := 0) rfl
  have b0_1 := b0.cell (i := 1) rfl
  have b0_2 := b0.cell (i := 2) rfl
  have r0_0 := r0.cell (i := 0) rfl
  have r0_1 := r0.cell (i := 1) rfl
  have r0_2 := r0.cell (i := 2) rfl
  have r0_f0 := r0.free 0
  have r0_f1 := r0.free 1
  have r0_f2 := r0.free 2
  go_wp2_with fail
  ((with_reducible refine (frac_parts H (by omega)).mono ?_))
  rintro e W1 ⟨sp, Lp, Dp, lp_, mp_, rfl, p, pd, hp, hlp, hmp, u1⟩
  obtain ⟨Ap, np, cp, rfl⟩ := p.shape
  obtain ⟨Apd, npd, cpd, rfl⟩ := pd.shape
  replace H := H.up u1
  replace b0 := b0.up u1
  replace r0 := r0.up u1
  replace UP := UP.trans u1
  replace b0_0 := b0.cell (i := 0) rfl
  replace b0_1 := b0.cell (i := 1) rfl
  replace b0_2 := b0.cell (i := 2) rfl
  replace r0_0 := r0.cell (i := 0) rfl
  replace r0_1 := r0.cell (i := 1) rfl
  replace r0_2 := r0.cell (i := 2) rfl
  replace r0_f0 := r0.free 0
  replace r0_f1 := r0.free 1
  replace r0_f2 := r0.free 2
  clear u1
  go_wp2_with fail
  ((with_reducible refine (frac_cancel (Wh.mk sp p (k := 1000000) (by omega)) pd (by omega) (by omega) hp.out.2).mono ?_))
  rintro e W2 ⟨V2, rfl, q1, u2⟩
  replace H := H.up u2
  replace p := p.up u2
  replace pd := pd.up u2
  replace b0 := b0.up u2
  replace r0 := r0.up u2
  replace UP := UP.trans u2
  replace b0_0 := b0.cell (i := 0) rfl
  replace b0_1 := b0.cell (i := 1) rfl
  replace b0_2 := b0.cell (i := 2) rfl
  replace r0_0 := r0.cell (i := 0) rfl
  replace r0_1 := r0.cell (i := 1) rfl
  replace r0_2 := r0.cell (i := 2) rfl
  replace r0_f0 := r0.free 0
  replace r0_f1 := r0.free 1
  replace r0_f2 := r0.free 2
  clear u2
  rw [hp.out.1] at q1
  obtain ⟨Xq1, Yq1, rfl, q1, q1d⟩ := q1
  obtain ⟨Aq1, nq1, cq1, rfl⟩ := q1.shape
  obtain ⟨Aq1d, nq1d, cq1d, rfl⟩ := q1d.shape
  go_wp2_with fail
  exact end_q rfl rfl rfl ⟨_, _, rfl, q1, q1d⟩ r0 trivial trivial trivial UP (by omega)

set_option maxHeartbeats 1600000 in
theorem frac_sign {v : Value} {q : Rat} {k : Nat} {w : World} (h : Fr w v q k) (hk : k ≤ 1000000) : Calls Try.prog 41 #[v] w (RetN (Wd.sgn q.num) w) := by
  have H := h
  obtain ⟨s, v1, v2, l, m, rfl, hl, hm, _⟩ := h
  obtain ⟨A, c, rfl⟩ := hl.form
  obtain ⟨D, d, rfl⟩ := hm.form
  clear hl hm
  have UP : Up w (w.alloc (.cells #[.bool s, .slice A l.length c, .slice D m.length d] 67)) := (Up.refl w).alloc _
  have b0 := Bx.new 67 w [.bool s, .slice A l.length c, .slice D m.length d]
  go_enter Try.func41, Try.ntmps41
  go_wp2_with fail
  generalize (w.alloc (.cells #[.bool s, .slice A l.length c, .slice D m.length d] 67)) = W at *
  replace H := H.up UP
  have b0_0 := b0.cell (i := 0) rfl
  have b0_1 := b0.cell (i := 1) rfl
  have b0_2 := b0.cell (i := 2) rfl
  go_wp2_with fail
  ((with_reducible refine (frac_parts H (by omega)).mono ?_))
  rintro e W1 ⟨sp, Lp, Dp, lp_, mp_, rfl, p, pd, hp, hlp, hmp, u1⟩
  obtain ⟨Ap, np, cp, rfl⟩ := p.shape
  obtain ⟨Apd, npd, cpd, rfl⟩ := pd.shape
  replace H := H.up u1
  replace b0 := b0.up u1
  replace UP := UP.trans u1
  replace b0_0 := b0.cell (i := 0) rfl
  replace b0_1 := b0.cell (i := 1) rfl
  replace b0_2 := b0.cell (i := 2) rfl
  clear u1
  have b0_0a := fun O0 => (cell_alloc (o := O0) b0_0)
  have b0_1a := fun O0 => (cell_alloc (o := O0) b0_1)
  have b0_2a := fun O0 => (cell_alloc (o := O0) b0_2)
  go_wp2_with fail
  clear b0_0a b0_1a b0_2a
  have x1 := Bx.new 65 W1 [.bool sp, .slice Ap np cp]
  have b0_lt_x1 := b0.lt
  replace H := H.up ((Up.refl W1).alloc (.cells #[.bool sp, .slice Ap np cp] 65))
  replace p := p.up ((Up.refl W1).alloc (.cells #[.bool sp, .slice Ap np cp] 65))
  replace pd := pd.up ((Up.refl W1).alloc (.cells #[.bool sp, .slice Ap np cp] 65))
  replace b0 := b0.up ((Up.refl W1).alloc (.cells #[.bool sp, .slice Ap np cp] 65))
  replace UP := UP.trans ((Up.refl W1).alloc (.cells #[.bool sp, .slice Ap np cp] 65))
  replace b0_0 := b0.cell (i := 0) rfl
  replace b0_1 := b0.cell (i := 1) rfl
  replace b0_2 := b0.cell (i := 2) rfl
  generalize (W1.alloc (.cells #[.bool sp, .slice Ap np cp] 65)) = W2 at *
  replace b0_0 := b0.cell (i := 0) rfl
  replace b0_1 := b0.cell (i := 1) rfl
  replace b0_2 := b0.cell (i := 2) rfl
  have x1_0 := x1.cell (i := 0) rfl
  have x1_1 := x1.cell (i := 1) rfl
  ((with_reducible refine (whole_sign (Wh.mk sp p (k := 1000000) (by omega)) (by omega)).mono ?_))
  rintro e W3 ⟨rfl, u3⟩
  replace H := H.up u3
  replace p := p.up u3
  replace pd := pd.up u3
  replace b0 := b0.up u3
  replace x1 := x1.up u3
  replace UP := UP.trans u3
  replace b0_0 := b0.cell (i := 0) rfl
  replace b0_1 := b0.cell (i := 1) rfl
  replace b0_2 := b0.cell (i := 2) rfl
  replace x1_0 := x1.cell (i := 0) rfl
  replace x1_1 := x1.cell (i := 1) rfl
  clear u3
  go_wp2
  go_ret
  refine ⟨?_, UP⟩
  rw [← hp.out.1, Wd.sgn_mkRat _ _ hp.out.2]
  rfl

set_option maxHeartbeats 1600000 in
theorem frac_cross {v u : Value} {z : Int} {m : List Nat} {j : Nat} {w : World} (h : Wh w v z j) (h' : Ws w u m) (hj : j ≤ 1000000) (hk : m.length ≤ 1000000) : Calls Try.prog 97 #[v, u] w (RetZ (z * (Wd.val m : Int)) w) := by
  have H := h
  obtain ⟨s, v1, l, rfl, hl, _⟩ := h
  obtain ⟨A, c, rfl⟩ := hl.form
  obtain ⟨D, d, rfl⟩ := h'.form
  clear hl
  have UP : Up w ((w.alloc (.cells #[.bool s, .slice A l.length c] 65)).alloc (.cells #[.bool false, .slice none 0 0] 65)) := ((Up.refl w).alloc _).alloc _
  obtain ⟨b0, r0⟩ := bx_two 65 65 w [.bool s, .slice A l.length c] [.bool false, .slice none 0 0]
  go_enter Try.func97, Try.ntmps97
  go_wp2_with fail
  generalize ((w.alloc (.cells #[.bool s, .slice A l.length c] 65)).alloc (.cells #[.bool false, .slice none 0 0] 65)) = W at *
  replace H := H.up UP
  replace h' := h'.up UP
  have b0_0 := b0.cell (i := 0) rfl
  have b0_1 := b0.cell (i := 1) rfl
  have r0_0 := r0.cell (i := 0) rfl
  have r0_1 := r0.cell (i := 1) rfl
  have r0_f0 := r0.free 0
  have r0_f1 := r0.free 1
  go_wp2_with fail
  ((with_reducible refine (whole_mul H (Wh.mk false h' (k := 1000000) (by omega)) (by omega) (by omega)).mono ?_))
  rintro e W1 ⟨V1, rfl, z1, u1⟩
  replace H := H.up u1
  replace h' := h'.up u1
  replace b0 := b0.up u1
  replace r0 := r0.up u1
  replace UP := UP.trans u1
  replace b0_0 := b0.cell (i := 0) rfl
  replace b0_1 := b0.cell (i := 1) rfl
  replace r0_0 := r0.cell (i := 0) rfl
  replace r0_1 := r0.cell (i := 1) rfl
  replace r0_f0 := r0.free 0
  replace r0_f1 := r0.free 1
  clear u1
  obtain ⟨Xz1, rfl, z1⟩ := z1
  obtain ⟨Az1, nz1, cz1, rfl⟩ := z1.shape
  go_wp2_with fail
  exact end_z rfl rfl rfl ⟨_, rfl, z1⟩ r0 trivial trivial UP (by omega)


set_option maxRecDepth 100000 in
set_option maxHeartbeats 3200000 in
theorem frac_cmp {v u : Value} {q r : Rat} {j k : Nat} {w : World} (h : Fr w v q j) (h' : Fr w u r k) (hj : j ≤ 200000) (hk : k ≤ 200000) : Calls Try.prog 44 #[v, u] w (RetN (Wd.cmpQ q r) w) := by
  have H := h
  have K := h'
  obtain ⟨s, v1, v2, l, m, rfl, hl, hm, _⟩ := h
  obtain ⟨t, v3, v4, l', m', rfl, hl', hm', _⟩ := h'
  obtain ⟨A, c, rfl⟩ := hl.form
  obtain ⟨D, d, rfl⟩ := hm.form
  obtain ⟨A', c', rfl⟩ := hl'.form
  obtain ⟨D', d', rfl⟩ := hm'.form
  clear hl hm hl' hm'
  have UP : Up w ((w.alloc (.cells #[.bool s, .slice A l.length c, .slice D m.length d] 67)).alloc (.cells #[.bool t, .slice A' l'.length c', .slice D' m'.length d'] 67)) := ((Up.refl w).alloc _).alloc _
  obtain ⟨b0, b1⟩ := bx_two 67 67 w [.bool s, .slice A l.length c, .slice D m.length d] [.bool t, .slice A' l'.length c', .slice D' m'.length d']
  go_enter Try.func44, Try.ntmps44
  go_wp2_with fail
  generalize ((w.alloc (.cells #[.bool s, .slice A l.length c, .slice D m.length d] 67)).alloc (.cells #[.bool t, .slice A' l'.length c', .slice D' m'.length d'] 67)) = W at *
  replace H := H.up UP
  replace K := K.up UP
  have b0_0 := b0.cell (i := 0) rfl
  have b0_1 := b0.cell (i := 1) rfl
  have b0_2 := b0.cell (i := 2) rfl
  have b1_0 := b1.cell (i := 0) rfl
  have b1_1 := b1.cell (i := 1) rfl
  have b1_2 := b1.cell (i := 2) rfl
  go_wp2_with fail
  ((with_reducible refine (frac_parts H (by omega)).mono ?_))
  rintro e W1 ⟨sp, Lp, Dp, lp_, mp_, rfl, p, pd, hp, hlp, hmp, u1⟩
  obtain ⟨Ap, np, cp, rfl⟩ := p.shape
  obtain ⟨Apd, npd, cpd, rfl⟩ := pd.shape
  replace H := H.up u1
  replace K := K.up u1
  replace b0 := b0.up u1
  replace b1 := b1.up u1
  replace UP := UP.trans u1
  replace b0_0 := b0.cell (i := 0) rfl
  replace b0_1 := b0.cell (i := 1) rfl
  replace b0_2 := b0.cell (i := 2) rfl
  replace b1_0 := b1.cell (i := 0) rfl
  replace b1_1 := b1.cell (i := 1) rfl
  replace b1_2 := b1.cell (i := 2) rfl
  clear u1
  have b0_0a := fun O0 => (cell_alloc (o := O0) b0_0)
  have b0_1a := fun O0 => (cell_alloc (o := O0) b0_1)
  have b0_2a := fun O0 => (cell_alloc (o := O0) b0_2)
  have b1_0a := fun O0 => (cell_alloc (o := O0) b1_0)
  have b1_1a := fun O0 => (cell_alloc (o := O0) b1_1)
  have b1_2a := fun O0 => (cell_alloc (o := O0) b1_2)
  go_wp2_with fail
  clear b0_0a b0_1a b0_2a b1_0a b1_1a b1_2a
  have x1 := Bx.new 65 W1 [.bool sp, .slice Ap np cp]
  have b0_lt_x1 := b0.lt
  have b1_lt_x1 := b1.lt
  replace H := H.up ((Up.refl W1).alloc (.cells #[.bool sp, .slice Ap np cp] 65))
  replace K := K.up ((Up.refl W1).alloc (.cells #[.bool sp, .slice Ap np cp] 65))
  replace p := p.up ((Up.refl W1).alloc (.cells #[.bool sp, .slice Ap np cp] 65))
  replace pd := pd.up ((Up.refl W1).alloc (.cells #[.bool sp, .slice Ap np cp] 65))
  replace b0 := b0.up ((Up.refl W1).alloc (.cells #[.bool sp, .slice Ap np cp] 65))
  replace b1 := b1.up ((Up.refl W1).alloc (.cells #[.bool sp, .slice Ap np cp] 65))
  replace UP := UP.trans ((Up.refl W1).alloc (.cells #[.bool sp, .slice Ap np cp] 65))
  replace b0_0 := b0.cell (i := 0) rfl
  replace b0_1 := b0.cell (i := 1) rfl
  replace b0_2 := b0.cell (i := 2) rfl
  replace b1_0 := b1.cell (i := 0) rfl
  replace b1_1 := b1.cell (i := 1) rfl
  replace b1_2 := b1.cell (i := 2) rfl
  generalize (W1.alloc (.cells #[.bool sp, .slice Ap np cp] 65)) = W2 at *
  replace b0_0 := b0.cell (i := 0) rfl
  replace b0_1 := b0.cell (i := 1) rfl
  replace b0_2 := b0.cell (i := 2) rfl
  replace b1_0 := b1.cell (i := 0) rfl
  replace b1_1 := b1.cell (i := 1) rfl
  replace b1_2 := b1.cell (i := 2) rfl
  have x1_0 := x1.cell (i := 0) rfl
  have x1_1 := x1.cell (i := 1) rfl
  ((with_reducible refine (frac_parts K (by omega)).mono ?_))
  rintro e W3 ⟨so, Lo, Do, lo_, mo_, rfl, o, od, ho, hlo, hmo, u3⟩
  obtain ⟨Ao, no, co, rfl⟩ := o.shape
  obtain ⟨Aod, nod, cod, rfl⟩ := od.shape
  replace H := H.up u3
  replace K := K.up u3
  replace p := p.up u3
  replace pd := pd.up u3
  replace b0 := b0.up u3
  replace b1 := b1.up u3
  replace x1 := x1.up u3
  replace UP := UP.trans u3
  replace b0_0 := b0.cell (i := 0) rfl
  replace b0_1 := b0.cell (i := 1) rfl
  replace b0_2 := b0.cell (i := 2) rfl
  replace b1_0 := b1.cell (i := 0) rfl
  replace b1_1 := b1.cell (i := 1) rfl
  replace b1_2 := b1.cell (i := 2) rfl
  replace x1_0 := x1.cell (i := 0) rfl
  replace x1_1 := x1.cell (i := 1) rfl
  clear u3
  have b0_0a := fun O0 => (cell_alloc (o := O0) b0_0)
  have b0_1a := fun O0 => (cell_alloc (o := O0) b0_1)
  have b0_2a := fun O0 => (cell_alloc (o := O0) b0_2)
  have b1_0a := fun O0 => (cell_alloc (o := O0) b1_0)
  have b1_1a := fun O0 => (cell_alloc (o := O0) b1_1)
  have b1_2a := fun O0 => (cell_alloc (o := O0) b1_2)
  have x1_0a := fun O0 => (cell_alloc (o := O0) x1_0)
  have x1_1a := fun O0 => (cell_alloc (o := O0) x1_1)
  go_wp2_with fail
  clear b0_0a b0_1a b0_2a b1_0a b1_1a b1_2a x1_0a x1_1a
  have x2 := Bx.new 65 W3 [.bool so, .slice Ao no co]
  have b0_lt_x2 := b0.lt
  have b1_lt_x2 := b1.lt
  have x1_lt_x2 := x1.lt
  replace H := H.up ((Up.refl W3).alloc (.cells #[.bool so, .slice Ao no co] 65))
  replace K := K.up ((Up.refl W3).alloc (.cells #[.bool so, .slice Ao no co] 65))
  replace p := p.up ((Up.refl W3).alloc (.cells #[.bool so, .slice Ao no co] 65))
  replace pd := pd.up ((Up.refl W3).alloc (.cells #[.bool so, .slice Ao no co] 65))
  replace o := o.up ((Up.refl W3).alloc (.cells #[.bool so, .slice Ao no co] 65))
  replace od := od.up ((Up.refl W3).alloc (.cells #[.bool so, .slice Ao no co] 65))
  replace b0 := b0.up ((Up.refl W3).alloc (.cells #[.bool so, .slice Ao no co] 65))
  replace b1 := b1.up ((Up.refl W3).alloc (.cells #[.bool so, .slice Ao no co] 65))
  replace x1 := x1.up ((Up.refl W3).alloc (.cells #[.bool so, .slice Ao no co] 65))
  replace UP := UP.trans ((Up.refl W3).alloc (.cells #[.bool so, .slice Ao no co] 65))
  replace b0_0 := b0.cell (i := 0) rfl
  replace b0_1 := b0.cell (i := 1) rfl
  replace b0_2 := b0.cell (i := 2) rfl
  replace b1_0 := b1.cell (i := 0) rfl
  replace b1_1 := b1.cell (i := 1) rfl
  replace b1_2 := b1.cell (i := 2) rfl
  replace x1_0 := x1.cell (i := 0) rfl
  replace x1_1 := x1.cell (i := 1) rfl
  generalize (W3.alloc (.cells #[.bool so, .slice Ao no co] 65)) = W4 at *
  replace b0_0 := b0.cell (i := 0) rfl
  replace b0_1 := b0.cell (i := 1) rfl
  replace b0_2 := b0.cell (i := 2) rfl
  replace b1_0 := b1.cell (i := 0) rfl
  replace b1_1 := b1.cell (i := 1) rfl
  replace b1_2 := b1.cell (i := 2) rfl
  replace x1_0 := x1.cell (i := 0) rfl
  replace x1_1 := x1.cell (i := 1) rfl
  have x2_0 := x2.cell (i := 0) rfl
  have x2_1 := x2.cell (i := 1) rfl
  have lp := Wd.words_val_length p.ok
  have lpd := Wd.words_val_length pd.ok
  have lo := Wd.words_val_length o.ok
  have lod := Wd.words_val_length od.ok
  have LP := (Wd.Lz.iv (s := sp) lp).mul (y := (Wd.val mo_ : Int)) lod
  have LO := (Wd.Lz.iv (s := so) lo).mul (y := (Wd.val mp_ : Int)) lpd
  have LM := Wd.words_mul_le lpd lod
  have WP : Wh W4 (.agg #[.bool sp, .slice Ap np cp]) (Wd.iv sp (Wd.val lp_)) 1000000 := Wh.mk sp p (by omega)
  have WO : Wh W4 (.agg #[.bool so, .slice Ao no co]) (Wd.iv so (Wd.val lo_)) 1000000 := Wh.mk so o (by omega)
  replace H := H.up (Up.refl W4).drew
  replace K := K.up (Up.refl W4).drew
  replace p := p.up (Up.refl W4).drew
  replace pd := pd.up (Up.refl W4).drew
  replace o := o.up (Up.refl W4).drew
  replace od := od.up (Up.refl W4).drew
  replace WP := WP.up (Up.refl W4).drew
  replace WO := WO.up (Up.refl W4).drew
  replace b0 := b0.up (Up.refl W4).drew
  replace b1 := b1.up (Up.refl W4).drew
  replace x1 := x1.up (Up.refl W4).drew
  replace x2 := x2.up (Up.refl W4).drew
  replace UP := UP.trans (Up.refl W4).drew
  replace b0_0 := b0.cell (i := 0) rfl
  replace b0_1 := b0.cell (i := 1) rfl
  replace b0_2 := b0.cell (i := 2) rfl
  replace b1_0 := b1.cell (i := 0) rfl
  replace b1_1 := b1.cell (i := 1) rfl
  replace b1_2 := b1.cell (i := 2) rfl
  replace x1_0 := x1.cell (i := 0) rfl
  replace x1_1 := x1.cell (i := 1) rfl
  replace x2_0 := x2.cell (i := 0) rfl
  replace x2_1 := x2.cell (i := 1) rfl
  go_region_held3 (fun w' => Up w w' ∧ w'.cell? ⟨w.heap.size, 0, none⟩ = some (.bool s) ∧ w'.cell? ⟨w.heap.size, 1, none⟩ = some (.slice A l.length c) ∧ w'.cell? ⟨w.heap.size, 2, none⟩ = some (.slice D m.length d) ∧ w'.cell? ⟨w.heap.size + 1, 0, none⟩ = some (.bool t) ∧ w'.cell? ⟨w.heap.size + 1, 1, none⟩ = some (.slice A' l'.length c') ∧ w'.cell? ⟨w.heap.size + 1, 2, none⟩ = some (.slice D' m'.length d') ∧ w'.cell? ⟨W1.heap.size, 0, none⟩ = some (.bool sp) ∧ w'.cell? ⟨W1.heap.size, 1, none⟩ = some (.slice Ap np cp) ∧ w'.cell? ⟨W3.heap.size, 0, none⟩ = some (.bool so) ∧ w'.cell? ⟨W3.heap.size, 1, none⟩ = some (.slice Ao no co))
      (first | with_reducible exact ⟨UP, b0_0, b0_1, b0_2, b1_0, b1_1, b1_2, x1_0, x1_1, x2_0, x2_1⟩ | with_reducible exact ⟨UP, b0_0, b0_1, b0_2, b1_0, b1_1, b1_2, x1_0, x1_1, x2_0, x2_1⟩ | with_reducible exact ⟨(UP.alloc_drew _), (cell_alloc_drew b0_0), (cell_alloc_drew b0_1), (cell_alloc_drew b0_2), (cell_alloc_drew b1_0), (cell_alloc_drew b1_1), (cell_alloc_drew b1_2), (cell_alloc_drew x1_0), (cell_alloc_drew x1_1), (cell_alloc_drew x2_0), (cell_alloc_drew x2_1)⟩ | with_reducible exact ⟨(UP.alloc2_drew _ _), (cell_alloc2_drew b0_0), (cell_alloc2_drew b0_1), (cell_alloc2_drew b0_2), (cell_alloc2_drew b1_0), (cell_alloc2_drew b1_1), (cell_alloc2_drew b1_2), (cell_alloc2_drew x1_0), (cell_alloc2_drew x1_1), (cell_alloc2_drew x2_0), (cell_alloc2_drew x2_1)⟩ | (simp only [← World.setCell_drew]; with_reducible exact ⟨UP, b0_0, b0_1, b0_2, b1_0, b1_1, b1_2, x1_0, x1_1, x2_0, x2_1⟩) | go_keep)
      ((first
        | (go_at_call 97
           ((with_reducible refine (frac_cross WP od (by omega) (by omega)).mono ?_))
           rintro e W5 ⟨V5, rfl, x, u5⟩
           replace H := H.up u5
           replace K := K.up u5
           replace p := p.up u5
           replace pd := pd.up u5
           replace o := o.up u5
           replace od := od.up u5
           replace WP := WP.up u5
           replace WO := WO.up u5
           try (replace x := x.up u5)
           try (replace y := y.up u5)
           replace b0 := b0.up u5
           replace b1 := b1.up u5
           replace x1 := x1.up u5
           replace x2 := x2.up u5
           replace UP := UP.trans u5
           replace b0_0 := b0.cell (i := 0) rfl
           replace b0_1 := b0.cell (i := 1) rfl
           replace b0_2 := b0.cell (i := 2) rfl
           replace b1_0 := b1.cell (i := 0) rfl
           replace b1_1 := b1.cell (i := 1) rfl
           replace b1_2 := b1.cell (i := 2) rfl
           replace x1_0 := x1.cell (i := 0) rfl
           replace x1_1 := x1.cell (i := 1) rfl
           replace x2_0 := x2.cell (i := 0) rfl
           replace x2_1 := x2.cell (i := 1) rfl
           clear u5)
        | (go_at_call 97
           ((with_reducible refine (frac_cross WO pd (by omega) (by omega)).mono ?_))
           rintro e W6 ⟨V6, rfl, y, u6⟩
           replace H := H.up u6
           replace K := K.up u6
           replace p := p.up u6
           replace pd := pd.up u6
           replace o := o.up u6
           replace od := od.up u6
           replace WP := WP.up u6
           replace WO := WO.up u6
           try (replace x := x.up u6)
           try (replace y := y.up u6)
           replace b0 := b0.up u6
           replace b1 := b1.up u6
           replace x1 := x1.up u6
           replace x2 := x2.up u6
           replace UP := UP.trans u6
           replace b0_0 := b0.cell (i := 0) rfl
           replace b0_1 := b0.cell (i := 1) rfl
           replace b0_2 := b0.cell (i := 2) rfl
           replace b1_0 := b1.cell (i := 0) rfl
           replace b1_1 := b1.cell (i := 1) rfl
           replace b1_2 := b1.cell (i := 2) rfl
           replace x1_0 := x1.cell (i := 0) rfl
           replace x1_1 := x1.cell (i := 1) rfl
           replace x2_0 := x2.cell (i := 0) rfl
           replace x2_1 := x2.cell (i := 1) rfl
           clear u6)
        | (go_at_call 96
           ((with_reducible refine (whole_cmp (x.wh LP) (y.wh LO) (by omega) (by omega)).mono ?_))
           rintro e W7 ⟨rfl, u7⟩
           replace H := H.up u7
           replace K := K.up u7
           replace p := p.up u7
           replace pd := pd.up u7
           replace o := o.up u7
           replace od := od.up u7
           replace WP := WP.up u7
           replace WO := WO.up u7
           try (replace x := x.up u7)
           try (replace y := y.up u7)
           replace b0 := b0.up u7
           replace b1 := b1.up u7
           replace x1 := x1.up u7
           replace x2 := x2.up u7
           replace UP := UP.trans u7
           replace b0_0 := b0.cell (i := 0) rfl
           replace b0_1 := b0.cell (i := 1) rfl
           replace b0_2 := b0.cell (i := 2) rfl
           replace b1_0 := b1.cell (i := 0) rfl
           replace b1_1 := b1.cell (i := 1) rfl
           replace b1_2 := b1.cell (i := 2) rfl
           replace x1_0 := x1.cell (i := 0) rfl
           replace x1_1 := x1.cell (i := 1) rfl
           replace x2_0 := x2.cell (i := 0) rfl
           replace x2_1 := x2.cell (i := 1) rfl
           clear u7)))
  all_goals
    go_wp2
    go_ret
    refine ⟨?_, UP⟩
    rw [← hp.out.1, ← ho.out.1, Wd.cmpQ_mk _ _ hp.out.2 ho.out.2]
    rfl

set_option maxRecDepth 100000 in
set_option maxHeartbeats 6400000 in
theorem frac_add {v u : Value} {q r : Rat} {j k : Nat} {w : World} (h : Fr w v q j) (h' : Fr w u r k) (hj : j ≤ 200000) (hk : k ≤ 200000) : Calls Try.prog 45 #[v, u] w (RetQ (q + r) w) := by
  have H := h
  have K := h'
  obtain ⟨s, v1, v2, l, m, rfl, hl, hm, _⟩ := h
  obtain ⟨t, v3, v4, l', m', rfl, hl', hm', _⟩ := h'
  obtain ⟨A, c, rfl⟩ := hl.form
  obtain ⟨D, d, rfl⟩ := hm.form
  obtain ⟨A', c', rfl⟩ := hl'.form
  obtain ⟨D', d', rfl⟩ := hm'.form
  clear hl hm hl' hm'
  have UP : Up w (((w.alloc (.cells #[.bool s, .slice A l.length c, .slice D m.length d] 67)).alloc (.cells #[.bool t, .slice A' l'.length c', .slice D' m'.length d'] 67)).alloc (.cells #[.bool false, .slice none 0 0, .slice none 0 0] 67)) := (((Up.refl w).alloc _).alloc _).alloc _
  obtain ⟨b0, b1, r0⟩ := bx_three 67 67 67 w [.bool s, .slice A l.length c, .slice D m.length d] [.bool t, .slice A' l'.length c', .slice D' m'.length d'] [.bool false, .slice none 0 0, .slice none 0 0]
  go_enter Try.func45, Try.ntmps45
  go_wp2_with fail
  generalize (((w.alloc (.cells #[.bool s, .slice A l.length c, .slice D m.length d] 67)).alloc (.cells #[.bool t, .slice A' l'.length c', .slice D' m'.length d'] 67)).alloc (.cells #[.bool false, .slice none 0 0, .slice none 0 0] 67)) = W at *
  replace H := H.up UP
  replace K := K.up UP
  have b0_0 := b0.cell (i := 0) rfl
  have b0_1 := b0.cell (i := 1) rfl
  have b0_2 := b0.cell (i := 2) rfl
  have b1_0 := b1.cell (i := 0) rfl
  have b1_1 := b1.cell (i := 1) rfl
  have b1_2 := b1.cell (i := 2) rfl
  have r0_0 := r0.cell (i := 0) rfl
  have r0_1 := r0.cell (i := 1) rfl
  have r0_2 := r0.cell (i := 2) rfl
  have r0_f0 := r0.free 0
  have r0_f1 := r0.free 1
  have r0_f2 := r0.free 2
  go_wp2_with fail
  ((with_reducible refine (frac_parts H (by omega)).mono ?_))
  rintro e W1 ⟨sp, Lp, Dp, lp_, mp_, rfl, p, pd, hp, hlp, hmp, u1⟩
  obtain ⟨Ap, np, cp, rfl⟩ := p.shape
  obtain ⟨Apd, npd, cpd, rfl⟩ := pd.shape
  replace H := H.up u1
  replace K := K.up u1
  replace b0 := b0.up u1
  replace b1 := b1.up u1
  replace r0 := r0.up u1
  replace UP := UP.trans u1
  replace b0_0 := b0.cell (i := 0) rfl
  replace b0_1 := b0.cell (i := 1) rfl
  replace b0_2 := b0.cell (i := 2) rfl
  replace b1_0 := b1.cell (i := 0) rfl
  replace b1_1 := b1.cell (i := 1) rfl
  replace b1_2 := b1.cell (i := 2) rfl
  replace r0_0 := r0.cell (i := 0) rfl
  replace r0_1 := r0.cell (i := 1) rfl
  replace r0_2 := r0.cell (i := 2) rfl
  replace r0_f0 := r0.free 0
  replace r0_f1 := r0.free 1
  replace r0_f2 := r0.free 2
  clear u1
  have b0_0a := fun O0 => (cell_alloc (o := O0) b0_0)
  have b0_1a := fun O0 => (cell_alloc (o := O0) b0_1)
  have b0_2a := fun O0 => (cell_alloc (o := O0) b0_2)
  have b1_0a := fun O0 => (cell_alloc (o := O0) b1_0)
  have b1_1a := fun O0 => (cell_alloc (o := O0) b1_1)
  have b1_2a := fun O0 => (cell_alloc (o := O0) b1_2)
  have r0_0a := fun O0 => (cell_alloc (o := O0) r0_0)
  have r0_f0a := fun O0 => (r0.up ((Up.refl W1).alloc O0)).free 0
  have r0_1a := fun O0 => (cell_alloc (o := O0) r0_1)
  have r0_f1a := fun O0 => (r0.up ((Up.refl W1).alloc O0)).free 1
  have r0_2a := fun O0 => (cell_alloc (o := O0) r0_2)
  have r0_f2a := fun O0 => (r0.up ((Up.refl W1).alloc O0)).free 2
  go_wp2_with fail
  clear b0_0a b0_1a b0_2a b1_0a b1_1a b1_2a r0_0a r0_f0a r0_1a r0_f1a r0_2a r0_f2a
  have x1 := Bx.new 65 W1 [.bool sp, .slice Ap np cp]
  have b0_lt_x1 := b0.lt
  have b1_lt_x1 := b1.lt
  have r0_lt_x1 := r0.lt
  replace H := H.up ((Up.refl W1).alloc (.cells #[.bool sp, .slice Ap np cp] 65))
  replace K := K.up ((Up.refl W1).alloc (.cells #[.bool sp, .slice Ap np cp] 65))
  replace p := p.up ((Up.refl W1).alloc (.cells #[.bool sp, .slice Ap np cp] 65))
  replace pd := pd.up ((Up.refl W1).alloc (.cells #[.bool sp, .slice Ap np cp] 65))
  replace b0 := b0.up ((Up.refl W1).alloc (.cells #[.bool sp, .slice Ap np cp] 65))
  replace b1 := b1.up ((Up.refl W1).alloc (.cells #[.bool sp, .slice Ap np cp] 65))
  replace r0 := r0.up ((Up.refl W1).alloc (.cells #[.bool sp, .slice Ap np cp] 65))
  replace UP := UP.trans ((Up.refl W1).alloc (.cells #[.bool sp, .slice Ap np cp] 65))
  replace b0_0 := b0.cell (i := 0) rfl
  replace b0_1 := b0.cell (i := 1) rfl
  replace b0_2 := b0.cell (i := 2) rfl
  replace b1_0 := b1.cell (i := 0) rfl
  replace b1_1 := b1.cell (i := 1) rfl
  replace b1_2 := b1.cell (i := 2) rfl
  replace r0_0 := r0.cell (i := 0) rfl
  replace r0_1 := r0.cell (i := 1) rfl
  replace r0_2 := r0.cell (i := 2) rfl
  replace r0_f0 := r0.free 0
  replace r0_f1 := r0.free 1
  replace r0_f2 := r0.free 2
  generalize (W1.alloc (.cells #[.bool sp, .slice Ap np cp] 65)) = W2 at *
  replace b0_0 := b0.cell (i := 0) rfl
  replace b0_1 := b0.cell (i := 1) rfl
  replace b0_2 := b0.cell (i := 2) rfl
  replace b1_0 := b1.cell (i := 0) rfl
  replace b1_1 := b1.cell (i := 1) rfl
  replace b1_2 := b1.cell (i := 2) rfl
  replace r0_0 := r0.cell (i := 0) rfl
  replace r0_1 := r0.cell (i := 1) rfl
  replace r0_2 := r0.cell (i := 2) rfl
  replace r0_f0 := r0.free 0
  replace r0_f1 := r0.free 1
  replace r0_f2 := r0.free 2
  have x1_0 := x1.cell (i := 0) rfl
  have x1_1 := x1.cell (i := 1) rfl
  ((with_reducible refine (frac_parts K (by omega)).mono ?_))
  rintro e W3 ⟨so, Lo, Do, lo_, mo_, rfl, o, od, ho, hlo, hmo, u3⟩
  obtain ⟨Ao, no, co, rfl⟩ := o.shape
  obtain ⟨Aod, nod, cod, rfl⟩ := od.shape
  replace H := H.up u3
  replace K := K.up u3
  replace p := p.up u3
  replace pd := pd.up u3
  replace b0 := b0.up u3
  replace b1 := b1.up u3
  replace r0 := r0.up u3
  replace x1 := x1.up u3
  replace UP := UP.trans u3
  replace b0_0 := b0.cell (i := 0) rfl
  replace b0_1 := b0.cell (i := 1) rfl
  replace b0_2 := b0.cell (i := 2) rfl
  replace b1_0 := b1.cell (i := 0) rfl
  replace b1_1 := b1.cell (i := 1) rfl
  replace b1_2 := b1.cell (i := 2) rfl
  replace r0_0 := r0.cell (i := 0) rfl
  replace r0_1 := r0.cell (i := 1) rfl
  replace r0_2 := r0.cell (i := 2) rfl
  replace r0_f0 := r0.free 0
  replace r0_f1 := r0.free 1
  replace r0_f2 := r0.free 2
  replace x1_0 := x1.cell (i := 0) rfl
  replace x1_1 := x1.cell (i := 1) rfl
  clear u3
  have b0_0a := fun O0 => (cell_alloc (o := O0) b0_0)
  have b0_1a := fun O0 => (cell_alloc (o := O0) b0_1)
  have b0_2a := fun O0 => (cell_alloc (o := O0) b0_2)
  have b1_0a := fun O0 => (cell_alloc (o := O0) b1_0)
  have b1_1a := fun O0 => (cell_alloc (o := O0) b1_1)
  have b1_2a := fun O0 => (cell_alloc (o := O0) b1_2)
  have r0_0a := fun O0 => (cell_alloc (o := O0) r0_0)
  have r0_f0a := fun O0 => (r0.up ((Up.refl W3).alloc O0)).free 0
  have r0_1a := fun O0 => (cell_alloc (o := O0) r0_1)
  have r0_f1a := fun O0 => (r0.up ((Up.refl W3).alloc O0)).free 1
  have r0_2a := fun O0 => (cell_alloc (o := O0) r0_2)
  have r0_f2a := fun O0 => (r0.up ((Up.refl W3).alloc O0)).free 2
  have x1_0a := fun O0 => (cell_alloc (o := O0) x1_0)
  have x1_1a := fun O0 => (cell_alloc (o := O0) x1_1)
  go_wp2_with fail
  clear b0_0a b0_1a b0_2a b1_0a b1_1a b1_2a r0_0a r0_f0a r0_1a r0_f1a r0_2a r0_f2a x1_0a x1_1a
  have x2 := Bx.new 65 W3 [.bool so, .slice Ao no co]
  have b0_lt_x2 := b0.lt
  have b1_lt_x2 := b1.lt
  have r0_lt_x2 := r0.lt
  have x1_lt_x2 := x1.lt
  replace H := H.up ((Up.refl W3).alloc (.cells #[.bool so, .slice Ao no co] 65))
  replace K := K.up ((Up.refl W3).alloc (.cells #[.bool so, .slice Ao no co] 65))
  replace p := p.up ((Up.refl W3).alloc (.cells #[.bool so, .slice Ao no co] 65))
  replace pd := pd.up ((Up.refl W3).alloc (.cells #[.bool so, .slice Ao no co] 65))
  replace o := o.up ((Up.refl W3).alloc (.cells #[.bool so, .slice Ao no co] 65))
  replace od := od.up ((Up.refl W3).alloc (.cells #[.bool so, .slice Ao no co] 65))
  replace b0 := b0.up ((Up.refl W3).alloc (.cells #[.bool so, .slice Ao no co] 65))
  replace b1 := b1.up ((Up.refl W3).alloc (.cells #[.bool so, .slice Ao no co] 65))
  replace r0 := r0.up ((Up.refl W3).alloc (.cells #[.bool so, .slice Ao no co] 65))
  replace x1 := x1.up ((Up.refl W3).alloc (.cells #[.bool so, .slice Ao no co] 65))
  replace UP := UP.trans ((Up.refl W3).alloc (.cells #[.bool so, .slice Ao no co] 65))
  replace b0_0 := b0.cell (i := 0) rfl
  replace b0_1 := b0.cell (i := 1) rfl
  replace b0_2 := b0.cell (i := 2) rfl
  replace b1_0 := b1.cell (i := 0) rfl
  replace b1_1 := b1.cell (i := 1) rfl
  replace b1_2 := b1.cell (i := 2) rfl
  replace r0_0 := r0.cell (i := 0) rfl
  replace r0_1 := r0.cell (i := 1) rfl
  replace r0_2 := r0.cell (i := 2) rfl
  replace r0_f0 := r0.free 0
  replace r0_f1 := r0.free 1
  replace r0_f2 := r0.free 2
  replace x1_0 := x1.cell (i := 0) rfl
  replace x1_1 := x1.cell (i := 1) rfl
  generalize (W3.alloc (.cells #[.bool so, .slice Ao no co] 65)) = W4 at *
  replace b0_0 := b0.cell (i := 0) rfl
  replace b0_1 := b0.cell (i := 1) rfl
  replace b0_2 := b0.cell (i := 2) rfl
  replace b1_0 := b1.cell (i := 0) rfl
  replace b1_1 := b1.cell (i := 1) rfl
  replace b1_2 := b1.cell (i := 2) rfl
  replace r0_0 := r0.cell (i := 0) rfl
  replace r0_1 := r0.cell (i := 1) rfl
  replace r0_2 := r0.cell (i := 2) rfl
  replace r0_f0 := r0.free 0
  replace r0_f1 := r0.free 1
  replace r0_f2 := r0.free 2
  replace x1_0 := x1.cell (i := 0) rfl
  replace x1_1 := x1.cell (i := 1) rfl
  have x2_0 := x2.cell (i := 0) rfl
  have x2_1 := x2.cell (i := 1) rfl
  have lp := Wd.words_val_length p.ok
  have lpd := Wd.words_val_length pd.ok
  have lo := Wd.words_val_length o.ok
  have lod := Wd.words_val_length od.ok
  have LP := (Wd.Lz.iv (s := sp) lp).mul (y := (Wd.val mo_ : Int)) lod
  have LO := (Wd.Lz.iv (s := so) lo).mul (y := (Wd.val mp_ : Int)) lpd
  have LM := Wd.words_mul_le lpd lod
  have WP : Wh W4 (.agg #[.bool sp, .slice Ap np cp]) (Wd.iv sp (Wd.val lp_)) 1000000 := Wh.mk sp p (by omega)
  have WO : Wh W4 (.agg #[.bool so, .slice Ao no co]) (Wd.iv so (Wd.val lo_)) 1000000 := Wh.mk so o (by omega)
  have HM : Hid (Wd.val (Wd.words (Wd.val mp_ * Wd.val mo_)) ≠ 0) := Lib.hid (by rw [Wd.val_words]; exact Nat.mul_ne_zero hp.out.2 ho.out.2)
  have HQ : Hid (mkRat (Wd.iv sp (Wd.val lp_) * (Wd.val mo_ : Int) + Wd.iv so (Wd.val lo_) * (Wd.val mp_ : Int)) (Wd.val (Wd.words (Wd.val mp_ * Wd.val mo_))) = q + r) := Lib.hid (by
    rw [Wd.val_words, ← hp.out.1, ← ho.out.1, Rat.mkRat_add_mkRat _ _ hp.out.2 ho.out.2])
  have LS := LP.add LO
  replace H := H.up (Up.refl W4).drew
  replace K := K.up (Up.refl W4).drew
  replace p := p.up (Up.refl W4).drew
  replace pd := pd.up (Up.refl W4).drew
  replace o := o.up (Up.refl W4).drew
  replace od := od.up (Up.refl W4).drew
  replace WP := WP.up (Up.refl W4).drew
  replace WO := WO.up (Up.refl W4).drew
  replace b0 := b0.up (Up.refl W4).drew
  replace b1 := b1.up (Up.refl W4).drew
  replace r0 := r0.up (Up.refl W4).drew
  replace x1 := x1.up (Up.refl W4).drew
  replace x2 := x2.up (Up.refl W4).drew
  replace UP := UP.trans (Up.refl W4).drew
  replace b0_0 := b0.cell (i := 0) rfl
  replace b0_1 := b0.cell (i := 1) rfl
  replace b0_2 := b0.cell (i := 2) rfl
  replace b1_0 := b1.cell (i := 0) rfl
  replace b1_1 := b1.cell (i := 1) rfl
  replace b1_2 := b1.cell (i := 2) rfl
  have r0_0 := r0.cell (i := 0) rfl
  have r0_1 := r0.cell (i := 1) rfl
  have r0_2 := r0.cell (i := 2) rfl
  have r0_f0 := r0.free 0
  have r0_f1 := r0.free 1
  have r0_f2 := r0.free 2
  replace x1_0 := x1.cell (i := 0) rfl
  replace x1_1 := x1.cell (i := 1) rfl
  replace x2_0 := x2.cell (i := 0) rfl
  replace x2_1 := x2.cell (i := 1) rfl
  go_region_held3 (fun w' => Up w w' ∧ w'.cell? ⟨w.heap.size, 0, none⟩ = some (.bool s) ∧ w'.cell? ⟨w.heap.size, 1, none⟩ = some (.slice A l.length c) ∧ w'.cell? ⟨w.heap.size, 2, none⟩ = some (.slice D m.length d) ∧ w'.cell? ⟨w.heap.size + 1, 0, none⟩ = some (.bool t) ∧ w'.cell? ⟨w.heap.size + 1, 1, none⟩ = some (.slice A' l'.length c') ∧ w'.cell? ⟨w.heap.size + 1, 2, none⟩ = some (.slice D' m'.length d') ∧ w'.cell? ⟨W1.heap.size, 0, none⟩ = some (.bool sp) ∧ w'.cell? ⟨W1.heap.size, 1, none⟩ = some (.slice Ap np cp) ∧ w'.cell? ⟨W3.heap.size, 0, none⟩ = some (.bool so) ∧ w'.cell? ⟨W3.heap.size, 1, none⟩ = some (.slice Ao no co))
      (first | with_reducible exact ⟨UP, b0_0, b0_1, b0_2, b1_0, b1_1, b1_2, x1_0, x1_1, x2_0, x2_1⟩ | with_reducible exact ⟨(((UP.setCell (p := ⟨w.heap.size + 1 + 1, 0, none⟩) (by dsimp only; omega) _).setCell (p := ⟨w.heap.size + 1 + 1, 1, none⟩) (by dsimp only; omega) _).setCell (p := ⟨w.heap.size + 1 + 1, 2, none⟩) (by dsimp only; omega) _), (cell_far_block (cell_far_block (cell_far_block b0_0 (by dsimp only; omega)) (by dsimp only; omega)) (by dsimp only; omega)), (cell_far_block (cell_far_block (cell_far_block b0_1 (by dsimp only; omega)) (by dsimp only; omega)) (by dsimp only; omega)), (cell_far_block (cell_far_block (cell_far_block b0_2 (by dsimp only; omega)) (by dsimp only; omega)) (by dsimp only; omega)), (cell_far_block (cell_far_block (cell_far_block b1_0 (by dsimp only; omega)) (by dsimp only; omega)) (by dsimp only; omega)), (cell_far_block (cell_far_block (cell_far_block b1_1 (by dsimp only; omega)) (by dsimp only; omega)) (by dsimp only; omega)), (cell_far_block (cell_far_block (cell_far_block b1_2 (by dsimp only; omega)) (by dsimp only; omega)) (by dsimp only; omega)), (cell_far_block (cell_far_block (cell_far_block x1_0 (by dsimp only; omega)) (by dsimp only; omega)) (by dsimp only; omega)), (cell_far_block (cell_far_block (cell_far_block x1_1 (by dsimp only; omega)) (by dsimp only; omega)) (by dsimp only; omega)), (cell_far_block (cell_far_block (cell_far_block x2_0 (by dsimp only; omega)) (by dsimp only; omega)) (by dsimp only; omega)), (cell_far_block (cell_far_block (cell_far_block x2_1 (by dsimp only; omega)) (by dsimp only; omega)) (by dsimp only; omega))⟩ | with_reducible exact ⟨(UP.alloc_drew _), (cell_alloc_drew b0_0), (cell_alloc_drew b0_1), (cell_alloc_drew b0_2), (cell_alloc_drew b1_0), (cell_alloc_drew b1_1), (cell_alloc_drew b1_2), (cell_alloc_drew x1_0), (cell_alloc_drew x1_1), (cell_alloc_drew x2_0), (cell_alloc_drew x2_1)⟩ | with_reducible exact ⟨(UP.alloc2_drew _ _), (cell_alloc2_drew b0_0), (cell_alloc2_drew b0_1), (cell_alloc2_drew b0_2), (cell_alloc2_drew b1_0), (cell_alloc2_drew b1_1), (cell_alloc2_drew b1_2), (cell_alloc2_drew x1_0), (cell_alloc2_drew x1_1), (cell_alloc2_drew x2_0), (cell_alloc2_drew x2_1)⟩ | (simp only [← World.setCell_drew]; with_reducible exact ⟨(((UP.setCell (p := ⟨w.heap.size + 1 + 1, 0, none⟩) (by dsimp only; omega) _).setCell (p := ⟨w.heap.size + 1 + 1, 1, none⟩) (by dsimp only; omega) _).setCell (p := ⟨w.heap.size + 1 + 1, 2, none⟩) (by dsimp only; omega) _), (cell_far_block (cell_far_block (cell_far_block b0_0 (by dsimp only; omega)) (by dsimp only; omega)) (by dsimp only; omega)), (cell_far_block (cell_far_block (cell_far_block b0_1 (by dsimp only; omega)) (by dsimp only; omega)) (by dsimp only; omega)), (cell_far_block (cell_far_block (cell_far_block b0_2 (by dsimp only; omega)) (by dsimp only; omega)) (by dsimp only; omega)), (cell_far_block (cell_far_block (cell_far_block b1_0 (by dsimp only; omega)) (by dsimp only; omega)) (by dsimp only; omega)), (cell_far_block (cell_far_block (cell_far_block b1_1 (by dsimp only; omega)) (by dsimp only; omega)) (by dsimp only; omega)), (cell_far_block (cell_far_block (cell_far_block b1_2 (by dsimp only; omega)) (by dsimp only; omega)) (by dsimp only; omega)), (cell_far_block (cell_far_block (cell_far_block x1_0 (by dsimp only; omega)) (by dsimp only; omega)) (by dsimp only; omega)), (cell_far_block (cell_far_block (cell_far_block x1_1 (by dsimp only; omega)) (by dsimp only; omega)) (by dsimp only; omega)), (cell_far_block (cell_far_block (cell_far_block x2_0 (by dsimp only; omega)) (by dsimp only; omega)) (by dsimp only; omega)), (cell_far_block (cell_far_block (cell_far_block x2_1 (by dsimp only; omega)) (by dsimp only; omega)) (by dsimp only; omega))⟩) | go_keep)
      ((first
        | (go_at_call 97
           ((with_reducible refine (frac_cross WP od (by omega) (by omega)).mono ?_))
           rintro e W5 ⟨V5, rfl, x, u5⟩
           replace H := H.up u5
           replace K := K.up u5
           replace p := p.up u5
           replace pd := pd.up u5
           replace o := o.up u5
           replace od := od.up u5
           replace WP := WP.up u5
           replace WO := WO.up u5
           try (replace x := x.up u5)
           try (replace y := y.up u5)
           try (replace n := n.up u5)
           try (replace z := z.up u5)
           try (replace q1 := q1.up u5)
           replace b0 := b0.up u5
           replace b1 := b1.up u5
           replace r0 := r0.up u5
           replace x1 := x1.up u5
           replace x2 := x2.up u5
           replace UP := UP.trans u5
           replace b0_0 := b0.cell (i := 0) rfl
           replace b0_1 := b0.cell (i := 1) rfl
           replace b0_2 := b0.cell (i := 2) rfl
           replace b1_0 := b1.cell (i := 0) rfl
           replace b1_1 := b1.cell (i := 1) rfl
           replace b1_2 := b1.cell (i := 2) rfl
           replace r0_0 := r0.cell (i := 0) rfl
           replace r0_1 := r0.cell (i := 1) rfl
           replace r0_2 := r0.cell (i := 2) rfl
           replace r0_f0 := r0.free 0
           replace r0_f1 := r0.free 1
           replace r0_f2 := r0.free 2
           replace x1_0 := x1.cell (i := 0) rfl
           replace x1_1 := x1.cell (i := 1) rfl
           replace x2_0 := x2.cell (i := 0) rfl
           replace x2_1 := x2.cell (i := 1) rfl
           clear u5)
        | (go_at_call 97
           ((with_reducible refine (frac_cross WO pd (by omega) (by omega)).mono ?_))
           rintro e W6 ⟨V6, rfl, y, u6⟩
           replace H := H.up u6
           replace K := K.up u6
           replace p := p.up u6
           replace pd := pd.up u6
           replace o := o.up u6
           replace od := od.up u6
           replace WP := WP.up u6
           replace WO := WO.up u6
           try (replace x := x.up u6)
           try (replace y := y.up u6)
           try (replace n := n.up u6)
           try (replace z := z.up u6)
           try (replace q1 := q1.up u6)
           replace b0 := b0.up u6
           replace b1 := b1.up u6
           replace r0 := r0.up u6
           replace x1 := x1.up u6
           replace x2 := x2.up u6
           replace UP := UP.trans u6
           replace b0_0 := b0.cell (i := 0) rfl
           replace b0_1 := b0.cell (i := 1) rfl
           replace b0_2 := b0.cell (i := 2) rfl
           replace b1_0 := b1.cell (i := 0) rfl
           replace b1_1 := b1.cell (i := 1) rfl
           replace b1_2 := b1.cell (i := 2) rfl
           replace r0_0 := r0.cell (i := 0) rfl
           replace r0_1 := r0.cell (i := 1) rfl
           replace r0_2 := r0.cell (i := 2) rfl
           replace r0_f0 := r0.free 0
           replace r0_f1 := r0.free 1
           replace r0_f2 := r0.free 2
           replace x1_0 := x1.cell (i := 0) rfl
           replace x1_1 := x1.cell (i := 1) rfl
           replace x2_0 := x2.cell (i := 0) rfl
           replace x2_1 := x2.cell (i := 1) rfl
           clear u6)
        | (go_at_call 95
           ((with_reducible refine (prod_mul pd od (by omega) (by omega)).mono ?_))
           rintro e W7 ⟨V7, rfl, n, u7⟩
           replace H := H.up u7
           replace K := K.up u7
           replace p := p.up u7
           replace pd := pd.up u7
           replace o := o.up u7
           replace od := od.up u7
           replace WP := WP.up u7
           replace WO := WO.up u7
           try (replace x := x.up u7)
           try (replace y := y.up u7)
           try (replace n := n.up u7)
           try (replace z := z.up u7)
           try (replace q1 := q1.up u7)
           replace b0 := b0.up u7
           replace b1 := b1.up u7
           replace r0 := r0.up u7
           replace x1 := x1.up u7
           replace x2 := x2.up u7
           replace UP := UP.trans u7
           replace b0_0 := b0.cell (i := 0) rfl
           replace b0_1 := b0.cell (i := 1) rfl
           replace b0_2 := b0.cell (i := 2) rfl
           replace b1_0 := b1.cell (i := 0) rfl
           replace b1_1 := b1.cell (i := 1) rfl
           replace b1_2 := b1.cell (i := 2) rfl
           replace r0_0 := r0.cell (i := 0) rfl
           replace r0_1 := r0.cell (i := 1) rfl
           replace r0_2 := r0.cell (i := 2) rfl
           replace r0_f0 := r0.free 0
           replace r0_f1 := r0.free 1
           replace r0_f2 := r0.free 2
           replace x1_0 := x1.cell (i := 0) rfl
           replace x1_1 := x1.cell (i := 1) rfl
           replace x2_0 := x2.cell (i := 0) rfl
           replace x2_1 := x2.cell (i := 1) rfl
           clear u7)
        | (go_at_call 98
           ((with_reducible refine (whole_add (x.wh LP) (y.wh LO) (by omega) (by omega)).mono ?_))
           rintro e W8 ⟨V8, rfl, z, u8⟩
           replace H := H.up u8
           replace K := K.up u8
           replace p := p.up u8
           replace pd := pd.up u8
           replace o := o.up u8
           replace od := od.up u8
           replace WP := WP.up u8
           replace WO := WO.up u8
           try (replace x := x.up u8)
           try (replace y := y.up u8)
           try (replace n := n.up u8)
           try (replace z := z.up u8)
           try (replace q1 := q1.up u8)
           replace b0 := b0.up u8
           replace b1 := b1.up u8
           replace r0 := r0.up u8
           replace x1 := x1.up u8
           replace x2 := x2.up u8
           replace UP := UP.trans u8
           replace b0_0 := b0.cell (i := 0) rfl
           replace b0_1 := b0.cell (i := 1) rfl
           replace b0_2 := b0.cell (i := 2) rfl
           replace b1_0 := b1.cell (i := 0) rfl
           replace b1_1 := b1.cell (i := 1) rfl
           replace b1_2 := b1.cell (i := 2) rfl
           replace r0_0 := r0.cell (i := 0) rfl
           replace r0_1 := r0.cell (i := 1) rfl
           replace r0_2 := r0.cell (i := 2) rfl
           replace r0_f0 := r0.free 0
           replace r0_f1 := r0.free 1
           replace r0_f2 := r0.free 2
           replace x1_0 := x1.cell (i := 0) rfl
           replace x1_1 := x1.cell (i := 1) rfl
           replace x2_0 := x2.cell (i := 0) rfl
           replace x2_1 := x2.cell (i := 1) rfl
           clear u8)
        | (go_at_call 93
           ((with_reducible refine (frac_cancel (z.wh LS) n (by omega) (by omega) HM.out).mono ?_))
           rintro e W9 ⟨V9, rfl, q1, u9⟩
           replace H := H.up u9
           replace K := K.up u9
           replace p := p.up u9
           replace pd := pd.up u9
           replace o := o.up u9
           replace od := od.up u9
           replace WP := WP.up u9
           replace WO := WO.up u9
           try (replace x := x.up u9)
           try (replace y := y.up u9)
           try (replace n := n.up u9)
           try (replace z := z.up u9)
           try (replace q1 := q1.up u9)
           replace b0 := b0.up u9
           replace b1 := b1.up u9
           replace r0 := r0.up u9
           replace x1 := x1.up u9
           replace x2 := x2.up u9
           replace UP := UP.trans u9
           replace b0_0 := b0.cell (i := 0) rfl
           replace b0_1 := b0.cell (i := 1) rfl
           replace b0_2 := b0.cell (i := 2) rfl
           replace b1_0 := b1.cell (i := 0) rfl
           replace b1_1 := b1.cell (i := 1) rfl
           replace b1_2 := b1.cell (i := 2) rfl
           replace r0_0 := r0.cell (i := 0) rfl
           replace r0_1 := r0.cell (i := 1) rfl
           replace r0_2 := r0.cell (i := 2) rfl
           replace r0_f0 := r0.free 0
           replace r0_f1 := r0.free 1
           replace r0_f2 := r0.free 2
           replace x1_0 := x1.cell (i := 0) rfl
           replace x1_1 := x1.cell (i := 1) rfl
           replace x2_0 := x2.cell (i := 0) rfl
           replace x2_1 := x2.cell (i := 1) rfl
           clear u9
           rw [HQ.out] at q1
           obtain ⟨Xq1, Yq1, rfl, q1, q1d⟩ := q1
           obtain ⟨Aq1, nq1, cq1, rfl⟩ := q1.shape
           obtain ⟨Aq1d, nq1d, cq1d, rfl⟩ := q1d.shape)))
  all_goals
    go_wp2
    exact end_q rfl rfl rfl ⟨_, _, rfl, q1, q1d⟩ r0 trivial trivial trivial UP (by omega)
set_option maxRecDepth 100000 in
set_option maxHeartbeats 6400000 in
theorem frac_sub {v u : Value} {q r : Rat} {j k : Nat} {w : World} (h : Fr w v q j) (h' : Fr w u r k) (hj : j ≤ 200000) (hk : k ≤ 200000) : Calls Try.prog 61 #[v, u] w (RetQ (q - r) w) := by
  have H := h
  have K := h'
  obtain ⟨s, v1, v2, l, m, rfl, hl, hm, _⟩ := h
  obtain ⟨t, v3, v4, l', m', rfl, hl', hm', _⟩ := h'
  obtain ⟨A, c, rfl⟩ := hl.form
  obtain ⟨D, d, rfl⟩ := hm.form
  obtain ⟨A', c', rfl⟩ := hl'.form
  obtain ⟨D', d', rfl⟩ := hm'.form
  clear hl hm hl' hm'
  have UP : Up w (((w.alloc (.cells #[.bool s, .slice A l.length c, .slice D m.length d] 67)).alloc (.cells #[.bool t, .slice A' l'.length c', .slice D' m'.length d'] 67)).alloc (.cells #[.bool false, .slice none 0 0, .slice none 0 0] 67)) := (((Up.refl w).alloc _).alloc _).alloc _
  obtain ⟨b0, b1, r0⟩ := bx_three 67 67 67 w [.bool s, .slice A l.length c, .slice D m.length d] [.bool t, .slice A' l'.length c', .slice D' m'.length d'] [.bool false, .slice none 0 0, .slice none 0 0]
  go_enter Try.func61, Try.ntmps61
  go_wp2_with fail
  generalize (((w.alloc (.cells #[.bool s, .slice A l.length c, .slice D m.length d] 67)).alloc (.cells #[.bool t, .slice A' l'.length c', .slice D' m'.length d'] 67)).alloc (.cells #[.bool false, .slice none 0 0, .slice none 0 0] 67)) = W at *
  replace H := H.up UP
  replace K := K.up UP
  have b0_0 := b0.cell (i := 0) rfl
  have b0_1 := b0.cell (i := 1) rfl
  have b0_2 := b0.cell (i := 2) rfl
  have b1_0 := b1.cell (i := 0) rfl
  have b1_1 := b1.cell (i := 1) rfl
  have b1_2 := b1.cell (i := 2) rfl
  have r0_0 := r0.cell (i := 0) rfl
  have r0_1 := r0.cell (i := 1) rfl
  have r0_2 := r0.cell (i := 2) rfl
  have r0_f0 := r0.free 0
  have r0_f1 := r0.free 1
  have r0_f2 := r0.free 2
  go_wp2_with fail
  ((with_reducible refine (frac_parts H (by omega)).mono ?_))
  rintro e W1 ⟨sp, Lp, Dp, lp_, mp_, rfl, p, pd, hp, hlp, hmp, u1⟩
  obtain ⟨Ap, np, cp, rfl⟩ := p.shape
  obtain ⟨Apd, npd, cpd, rfl⟩ := pd.shape
  replace H := H.up u1
  replace K := K.up u1
  replace b0 := b0.up u1
  replace b1 := b1.up u1
  replace r0 := r0.up u1
  replace UP := UP.trans u1
  replace b0_0 := b0.cell (i := 0) rfl
  replace b0_1 := b0.cell (i := 1) rfl
  replace b0_2 := b0.cell (i := 2) rfl
  replace b1_0 := b1.cell (i := 0) rfl
  replace b1_1 := b1.cell (i := 1) rfl
  replace b1_2 := b1.cell (i := 2) rfl
  replace r0_0 := r0.cell (i := 0) rfl
  replace r0_1 := r0.cell (i := 1) rfl
  replace r0_2 := r0.cell (i := 2) rfl
  replace r0_f0 := r0.free 0
  replace r0_f1 := r0.free 1
  replace r0_f2 := r0.free 2
  clear u1
  have b0_0a := fun O0 => (cell_alloc (o := O0) b0_0)
  have b0_1a := fun O0 => (cell_alloc (o := O0) b0_1)
  have b0_2a := fun O0 => (cell_alloc (o := O0) b0_2)
  have b1_0a := fun O0 => (cell_alloc (o := O0) b1_0)
  have b1_1a := fun O0 => (cell_alloc (o := O0) b1_1)
  have b1_2a := fun O0 => (cell_alloc (o := O0) b1_2)
  have r0_0a := fun O0 => (cell_alloc (o := O0) r0_0)
  have r0_f0a := fun O0 => (r0.up ((Up.refl W1).alloc O0)).free 0
  have r0_1a := fun O0 => (cell_alloc (o := O0) r0_1)
  have r0_f1a := fun O0 => (r0.up ((Up.refl W1).alloc O0)).free 1
  have r0_2a := fun O0 => (cell_alloc (o := O0) r0_2)
  have r0_f2a := fun O0 => (r0.up ((Up.refl W1).alloc O0)).free 2
  go_wp2_with fail
  clear b0_0a b0_1a b0_2a b1_0a b1_1a b1_2a r0_0a r0_f0a r0_1a r0_f1a r0_2a r0_f2a
  have x1 := Bx.new 65 W1 [.bool sp, .slice Ap np cp]
  have b0_lt_x1 := b0.lt
  have b1_lt_x1 := b1.lt
  have r0_lt_x1 := r0.lt
  replace H := H.up ((Up.refl W1).alloc (.cells #[.bool sp, .slice Ap np cp] 65))
  replace K := K.up ((Up.refl W1).alloc (.cells #[.bool sp, .slice Ap np cp] 65))
  replace p := p.up ((Up.refl W1).alloc (.cells #[.bool sp, .slice Ap np cp] 65))
  replace pd := pd.up ((Up.refl W1).alloc (.cells #[.bool sp, .slice Ap np cp] 65))
  replace b0 := b0.up ((Up.refl W1).alloc (.cells #[.bool sp, .slice Ap np cp] 65))
  replace b1 := b1.up ((Up.refl W1).alloc (.cells #[.bool sp, .slice Ap np cp] 65))
  replace r0 := r0.up ((Up.refl W1).alloc (.cells #[.bool sp, .slice Ap np cp] 65))
  replace UP := UP.trans ((Up.refl W1).alloc (.cells #[.bool sp, .slice Ap np cp] 65))
  replace b0_0 := b0.cell (i := 0) rfl
  replace b0_1 := b0.cell (i := 1) rfl
  replace b0_2 := b0.cell (i := 2) rfl
  replace b1_0 := b1.cell (i := 0) rfl
  replace b1_1 := b1.cell (i := 1) rfl
  replace b1_2 := b1.cell (i := 2) rfl
  replace r0_0 := r0.cell (i := 0) rfl
  replace r0_1 := r0.cell (i := 1) rfl
  replace r0_2 := r0.cell (i := 2) rfl
  replace r0_f0 := r0.free 0
  replace r0_f1 := r0.free 1
  replace r0_f2 := r0.free 2
  generalize (W1.alloc (.cells #[.bool sp, .slice Ap np cp] 65)) = W2 at *
  replace b0_0 := b0.cell (i := 0) rfl
  replace b0_1 := b0.cell (i := 1) rfl
  replace b0_2 := b0.cell (i := 2) rfl
  replace b1_0 := b1.cell (i := 0) rfl
  replace b1_1 := b1.cell (i := 1) rfl
  replace b1_2 := b1.cell (i := 2) rfl
  replace r0_0 := r0.cell (i := 0) rfl
  replace r0_1 := r0.cell (i := 1) rfl
  replace r0_2 := r0.cell (i := 2) rfl
  replace r0_f0 := r0.free 0
  replace r0_f1 := r0.free 1
  replace r0_f2 := r0.free 2
  have x1_0 := x1.cell (i := 0) rfl
  have x1_1 := x1.cell (i := 1) rfl
  ((with_reducible refine (frac_parts K (by omega)).mono ?_))
  rintro e W3 ⟨so, Lo, Do, lo_, mo_, rfl, o, od, ho, hlo, hmo, u3⟩
  obtain ⟨Ao, no, co, rfl⟩ := o.shape
  obtain ⟨Aod, nod, cod, rfl⟩ := od.shape
  replace H := H.up u3
  replace K := K.up u3
  replace p := p.up u3
  replace pd := pd.up u3
  replace b0 := b0.up u3
  replace b1 := b1.up u3
  replace r0 := r0.up u3
  replace x1 := x1.up u3
  replace UP := UP.trans u3
  replace b0_0 := b0.cell (i := 0) rfl
  replace b0_1 := b0.cell (i := 1) rfl
  replace b0_2 := b0.cell (i := 2) rfl
  replace b1_0 := b1.cell (i := 0) rfl
  replace b1_1 := b1.cell (i := 1) rfl
  replace b1_2 := b1.cell (i := 2) rfl
  replace r0_0 := r0.cell (i := 0) rfl
  replace r0_1 := r0.cell (i := 1) rfl
  replace r0_2 := r0.cell (i := 2) rfl
  replace r0_f0 := r0.free 0
  replace r0_f1 := r0.free 1
  replace r0_f2 := r0.free 2
  replace x1_0 := x1.cell (i := 0) rfl
  replace x1_1 := x1.cell (i := 1) rfl
  clear u3
  have b0_0a := fun O0 => (cell_alloc (o := O0) b0_0)
  have b0_1a := fun O0 => (cell_alloc (o := O0) b0_1)
  have b0_2a := fun O0 => (cell_alloc (o := O0) b0_2)
  have b1_0a := fun O0 => (cell_alloc (o := O0) b1_0)
  have b1_1a := fun O0 => (cell_alloc (o := O0) b1_1)
  have b1_2a := fun O0 => (cell_alloc (o := O0) b1_2)
  have r0_0a := fun O0 => (cell_alloc (o := O0) r0_0)
  have r0_f0a := fun O0 => (r0.up ((Up.refl W3).alloc O0)).free 0
  have r0_1a := fun O0 => (cell_alloc (o := O0) r0_1)
  have r0_f1a := fun O0 => (r0.up ((Up.refl W3).alloc O0)).free 1
  have r0_2a := fun O0 => (cell_alloc (o := O0) r0_2)
  have r0_f2a := fun O0 => (r0.up ((Up.refl W3).alloc O0)).free 2
  have x1_0a := fun O0 => (cell_alloc (o := O0) x1_0)
  have x1_1a := fun O0 => (cell_alloc (o := O0) x1_1)
  go_wp2_with fail
  clear b0_0a b0_1a b0_2a b1_0a b1_1a b1_2a r0_0a r0_f0a r0_1a r0_f1a r0_2a r0_f2a x1_0a x1_1a
  have x2 := Bx.new 65 W3 [.bool so, .slice Ao no co]
  have b0_lt_x2 := b0.lt
  have b1_lt_x2 := b1.lt
  have r0_lt_x2 := r0.lt
  have x1_lt_x2 := x1.lt
  replace H := H.up ((Up.refl W3).alloc (.cells #[.bool so, .slice Ao no co] 65))
  replace K := K.up ((Up.refl W3).alloc (.cells #[.bool so, .slice Ao no co] 65))
  replace p := p.up ((Up.refl W3).alloc (.cells #[.bool so, .slice Ao no co] 65))
  replace pd := pd.up ((Up.refl W3).alloc (.cells #[.bool so, .slice Ao no co] 65))
  replace o := o.up ((Up.refl W3).alloc (.cells #[.bool so, .slice Ao no co] 65))
  replace od := od.up ((Up.refl W3).alloc (.cells #[.bool so, .slice Ao no co] 65))
  replace b0 := b0.up ((Up.refl W3).alloc (.cells #[.bool so, .slice Ao no co] 65))
  replace b1 := b1.up ((Up.refl W3).alloc (.cells #[.bool so, .slice Ao no co] 65))
  replace r0 := r0.up ((Up.refl W3).alloc (.cells #[.bool so, .slice Ao no co] 65))
  replace x1 := x1.up ((Up.refl W3).alloc (.cells #[.bool so, .slice Ao no co] 65))
  replace UP := UP.trans ((Up.refl W3).alloc (.cells #[.bool so, .slice Ao no co] 65))
  replace b0_0 := b0.cell (i := 0) rfl
  replace b0_1 := b0.cell (i := 1) rfl
  replace b0_2 := b0.cell (i := 2) rfl
  replace b1_0 := b1.cell (i := 0) rfl
  replace b1_1 := b1.cell (i := 1) rfl
  replace b1_2 := b1.cell (i := 2) rfl
  replace r0_0 := r0.cell (i := 0) rfl
  replace r0_1 := r0.cell (i := 1) rfl
  replace r0_2 := r0.cell (i := 2) rfl
  replace r0_f0 := r0.free 0
  replace r0_f1 := r0.free 1
  replace r0_f2 := r0.free 2
  replace x1_0 := x1.cell (i := 0) rfl
  replace x1_1 := x1.cell (i := 1) rfl
  generalize (W3.alloc (.cells #[.bool so, .slice Ao no co] 65)) = W4 at *
  replace b0_0 := b0.cell (i := 0) rfl
  replace b0_1 := b0.cell (i := 1) rfl
  replace b0_2 := b0.cell (i := 2) rfl
  replace b1_0 := b1.cell (i := 0) rfl
  replace b1_1 := b1.cell (i := 1) rfl
  replace b1_2 := b1.cell (i := 2) rfl
  replace r0_0 := r0.cell (i := 0) rfl
  replace r0_1 := r0.cell (i := 1) rfl
  replace r0_2 := r0.cell (i := 2) rfl
  replace r0_f0 := r0.free 0
  replace r0_f1 := r0.free 1
  replace r0_f2 := r0.free 2
  replace x1_0 := x1.cell (i := 0) rfl
  replace x1_1 := x1.cell (i := 1) rfl
  have x2_0 := x2.cell (i := 0) rfl
  have x2_1 := x2.cell (i := 1) rfl
  have lp := Wd.words_val_length p.ok
  have lpd := Wd.words_val_length pd.ok
  have lo := Wd.words_val_length o.ok
  have lod := Wd.words_val_length od.ok
  have LP := (Wd.Lz.iv (s := sp) lp).mul (y := (Wd.val mo_ : Int)) lod
  have LO := (Wd.Lz.iv (s := so) lo).mul (y := (Wd.val mp_ : Int)) lpd
  have LM := Wd.words_mul_le lpd lod
  have WP : Wh W4 (.agg #[.bool sp, .slice Ap np cp]) (Wd.iv sp (Wd.val lp_)) 1000000 := Wh.mk sp p (by omega)
  have WO : Wh W4 (.agg #[.bool so, .slice Ao no co]) (Wd.iv so (Wd.val lo_)) 1000000 := Wh.mk so o (by omega)
  have HM : Hid (Wd.val (Wd.words (Wd.val mp_ * Wd.val mo_)) ≠ 0) := Lib.hid (by rw [Wd.val_words]; exact Nat.mul_ne_zero hp.out.2 ho.out.2)
  have HQ : Hid (mkRat (Wd.iv sp (Wd.val lp_) * (Wd.val mo_ : Int) - Wd.iv so (Wd.val lo_) * (Wd.val mp_ : Int)) (Wd.val (Wd.words (Wd.val mp_ * Wd.val mo_))) = q - r) := Lib.hid (by
    rw [Wd.val_words, ← hp.out.1, ← ho.out.1, Wd.mkRat_sub _ _ hp.out.2 ho.out.2])
  have LS := (by have := LP.add LO.neg; rwa [← Int.sub_eq_add_neg] at this : Wd.Lz (Wd.iv sp (Wd.val lp_) * (Wd.val mo_ : Int) - Wd.iv so (Wd.val lo_) * (Wd.val mp_ : Int)) _)
  replace H := H.up (Up.refl W4).drew
  replace K := K.up (Up.refl W4).drew
  replace p := p.up (Up.refl W4).drew
  replace pd := pd.up (Up.refl W4).drew
  replace o := o.up (Up.refl W4).drew
  replace od := od.up (Up.refl W4).drew
  replace WP := WP.up (Up.refl W4).drew
  replace WO := WO.up (Up.refl W4).drew
  replace b0 := b0.up (Up.refl W4).drew
  replace b1 := b1.up (Up.refl W4).drew
  replace r0 := r0.up (Up.refl W4).drew
  replace x1 := x1.up (Up.refl W4).drew
  replace x2 := x2.up (Up.refl W4).drew
  replace UP := UP.trans (Up.refl W4).drew
  replace b0_0 := b0.cell (i := 0) rfl
  replace b0_1 := b0.cell (i := 1) rfl
  replace b0_2 := b0.cell (i := 2) rfl
  replace b1_0 := b1.cell (i := 0) rfl
  replace b1_1 := b1.cell (i := 1) rfl
  replace b1_2 := b1.cell (i := 2) rfl
  have r0_0 := r0.cell (i := 0) rfl
  have r0_1 := r0.cell (i := 1) rfl
  have r0_2 := r0.cell (i := 2) rfl
  have r0_f0 := r0.free 0
  have r0_f1 := r0.free 1
  have r0_f2 := r0.free 2
  replace x1_0 := x1.cell (i := 0) rfl
  replace x1_1 := x1.cell (i := 1) rfl
  replace x2_0 := x2.cell (i := 0) rfl
  replace x2_1 := x2.cell (i := 1) rfl
  go_region_held3 (fun w' => Up w w' ∧ w'.cell? ⟨w.heap.size, 0, none⟩ = some (.bool s) ∧ w'.cell? ⟨w.heap.size, 1, none⟩ = some (.slice A l.length c) ∧ w'.cell? ⟨w.heap.size, 2, none⟩ = some (.slice D m.length d) ∧ w'.cell? ⟨w.heap.size + 1, 0, none⟩ = some (.bool t) ∧ w'.cell? ⟨w.heap.size + 1, 1, none⟩ = some (.slice A' l'.length c') ∧ w'.cell? ⟨w.heap.size + 1, 2, none⟩ = some (.slice D' m'.length d') ∧ w'.cell? ⟨W1.heap.size, 0, none⟩ = some (.bool sp) ∧ w'.cell? ⟨W1.heap.size, 1, none⟩ = some (.slice Ap np cp) ∧ w'.cell? ⟨W3.heap.size, 0, none⟩ = some (.bool so) ∧ w'.cell? ⟨W3.heap.size, 1, none⟩ = some (.slice Ao no co))
      (first | with_reducible exact ⟨UP, b0_0, b0_1, b0_2, b1_0, b1_1, b1_2, x1_0, x1_1, x2_0, x2_1⟩ | with_reducible exact ⟨(((UP.setCell (p := ⟨w.heap.size + 1 + 1, 0, none⟩) (by dsimp only; omega) _).setCell (p := ⟨w.heap.size + 1 + 1, 1, none⟩) (by dsimp only; omega) _).setCell (p := ⟨w.heap.size + 1 + 1, 2, none⟩) (by dsimp only; omega) _), (cell_far_block (cell_far_block (cell_far_block b0_0 (by dsimp only; omega)) (by dsimp only; omega)) (by dsimp only; omega)), (cell_far_block (cell_far_block (cell_far_block b0_1 (by dsimp only; omega)) (by dsimp only; omega)) (by dsimp only; omega)), (cell_far_block (cell_far_block (cell_far_block b0_2 (by dsimp only; omega)) (by dsimp only; omega)) (by dsimp only; omega)), (cell_far_block (cell_far_block (cell_far_block b1_0 (by dsimp only; omega)) (by dsimp only; omega)) (by dsimp only; omega)), (cell_far_block (cell_far_block (cell_far_block b1_1 (by dsimp only; omega)) (by dsimp only; omega)) (by dsimp only; omega)), (cell_far_block (cell_far_block (cell_far_block b1_2 (by dsimp only; omega)) (by dsimp only; omega)) (by dsimp only; omega)), (cell_far_block (cell_far_block (cell_far_block x1_0 (by dsimp only; omega)) (by dsimp only; omega)) (by dsimp only; omega)), (cell_far_block (cell_far_block (cell_far_block x1_1 (by dsimp only; omega)) (by dsimp only; omega)) (by dsimp only; omega)), (cell_far_block (cell_far_block (cell_far_block x2_0 (by dsimp only; omega)) (by dsimp only; omega)) (by dsimp only; omega)), (cell_far_block (cell_far_block (cell_far_block x2_1 (by dsimp only; omega)) (by dsimp only; omega)) (by dsimp only; omega))⟩ | with_reducible exact ⟨(UP.alloc_drew _), (cell_alloc_drew b0_0), (cell_alloc_drew b0_1), (cell_alloc_drew b0_2), (cell_alloc_drew b1_0), (cell_alloc_drew b1_1), (cell_alloc_drew b1_2), (cell_alloc_drew x1_0), (cell_alloc_drew x1_1), (cell_alloc_drew x2_0), (cell_alloc_drew x2_1)⟩ | with_reducible exact ⟨(UP.alloc2_drew _ _), (cell_alloc2_drew b0_0), (cell_alloc2_drew b0_1), (cell_alloc2_drew b0_2), (cell_alloc2_drew b1_0), (cell_alloc2_drew b1_1), (cell_alloc2_drew b1_2), (cell_alloc2_drew x1_0), (cell_alloc2_drew x1_1), (cell_alloc2_drew x2_0), (cell_alloc2_drew x2_1)⟩ | (simp only [← World.setCell_drew]; with_reducible exact ⟨(((UP.setCell (p := ⟨w.heap.size + 1 + 1, 0, none⟩) (by dsimp only; omega) _).setCell (p := ⟨w.heap.size + 1 + 1, 1, none⟩) (by dsimp only; omega) _).setCell (p := ⟨w.heap.size + 1 + 1, 2, none⟩) (by dsimp only; omega) _), (cell_far_block (cell_far_block (cell_far_block b0_0 (by dsimp only; omega)) (by dsimp only; omega)) (by dsimp only; omega)), (cell_far_block (cell_far_block (cell_far_block b0_1 (by dsimp only; omega)) (by dsimp only; omega)) (by dsimp only; omega)), (cell_far_block (cell_far_block (cell_far_block b0_2 (by dsimp only; omega)) (by dsimp only; omega)) (by dsimp only; omega)), (cell_far_block (cell_far_block (cell_far_block b1_0 (by dsimp only; omega)) (by dsimp only; omega)) (by dsimp only; omega)), (cell_far_block (cell_far_block (cell_far_block b1_1 (by dsimp only; omega)) (by dsimp only; omega)) (by dsimp only; omega)), (cell_far_block (cell_far_block (cell_far_block b1_2 (by dsimp only; omega)) (by dsimp only; omega)) (by dsimp only; omega)), (cell_far_block (cell_far_block (cell_far_block x1_0 (by dsimp only; omega)) (by dsimp only; omega)) (by dsimp only; omega)), (cell_far_block (cell_far_block (cell_far_block x1_1 (by dsimp only; omega)) (by dsimp only; omega)) (by dsimp only; omega)), (cell_far_block (cell_far_block (cell_far_block x2_0 (by dsimp only; omega)) (by dsimp only; omega)) (by dsimp only; omega)), (cell_far_block (cell_far_block (cell_far_block x2_1 (by dsimp only; omega)) (by dsimp only; omega)) (by dsimp only; omega))⟩) | go_keep)
      ((first
        | (go_at_call 97
           ((with_reducible refine (frac_cross WP od (by omega) (by omega)).mono ?_))
           rintro e W5 ⟨V5, rfl, x, u5⟩
           replace H := H.up u5
           replace K := K.up u5
           replace p := p.up u5
           replace pd := pd.up u5
           replace o := o.up u5
           replace od := od.up u5
           replace WP := WP.up u5
           replace WO := WO.up u5
           try (replace x := x.up u5)
           try (replace y := y.up u5)
           try (replace n := n.up u5)
           try (replace z := z.up u5)
           try (replace q1 := q1.up u5)
           replace b0 := b0.up u5
           replace b1 := b1.up u5
           replace r0 := r0.up u5
           replace x1 := x1.up u5
           replace x2 := x2.up u5
           replace UP := UP.trans u5
           replace b0_0 := b0.cell (i := 0) rfl
           replace b0_1 := b0.cell (i := 1) rfl
           replace b0_2 := b0.cell (i := 2) rfl
           replace b1_0 := b1.cell (i := 0) rfl
           replace b1_1 := b1.cell (i := 1) rfl
           replace b1_2 := b1.cell (i := 2) rfl
           replace r0_0 := r0.cell (i := 0) rfl
           replace r0_1 := r0.cell (i := 1) rfl
           replace r0_2 := r0.cell (i := 2) rfl
           replace r0_f0 := r0.free 0
           replace r0_f1 := r0.free 1
           replace r0_f2 := r0.free 2
           replace x1_0 := x1.cell (i := 0) rfl
           replace x1_1 := x1.cell (i := 1) rfl
           replace x2_0 := x2.cell (i := 0) rfl
           replace x2_1 := x2.cell (i := 1) rfl
           clear u5)
        | (go_at_call 97
           ((with_reducible refine (frac_cross WO pd (by omega) (by omega)).mono ?_))
           rintro e W6 ⟨V6, rfl, y, u6⟩
           replace H := H.up u6
           replace K := K.up u6
           replace p := p.up u6
           replace pd := pd.up u6
           replace o := o.up u6
           replace od := od.up u6
           replace WP := WP.up u6
           replace WO := WO.up u6
           try (replace x := x.up u6)
           try (replace y := y.up u6)
           try (replace n := n.up u6)
           try (replace z := z.up u6)
           try (replace q1 := q1.up u6)
           replace b0 := b0.up u6
           replace b1 := b1.up u6
           replace r0 := r0.up u6
           replace x1 := x1.up u6
           replace x2 := x2.up u6
           replace UP := UP.trans u6
           replace b0_0 := b0.cell (i := 0) rfl
           replace b0_1 := b0.cell (i := 1) rfl
           replace b0_2 := b0.cell (i := 2) rfl
           replace b1_0 := b1.cell (i := 0) rfl
           replace b1_1 := b1.cell (i := 1) rfl
           replace b1_2 := b1.cell (i := 2) rfl
           replace r0_0 := r0.cell (i := 0) rfl
           replace r0_1 := r0.cell (i := 1) rfl
           replace r0_2 := r0.cell (i := 2) rfl
           replace r0_f0 := r0.free 0
           replace r0_f1 := r0.free 1
           replace r0_f2 := r0.free 2
           replace x1_0 := x1.cell (i := 0) rfl
           replace x1_1 := x1.cell (i := 1) rfl
           replace x2_0 := x2.cell (i := 0) rfl
           replace x2_1 := x2.cell (i := 1) rfl
           clear u6)
        | (go_at_call 95
           ((with_reducible refine (prod_mul pd od (by omega) (by omega)).mono ?_))
           rintro e W7 ⟨V7, rfl, n, u7⟩
           replace H := H.up u7
           replace K := K.up u7
           replace p := p.up u7
           replace pd := pd.up u7
           replace o := o.up u7
           replace od := od.up u7
           replace WP := WP.up u7
           replace WO := WO.up u7
           try (replace x := x.up u7)
           try (replace y := y.up u7)
           try (replace n := n.up u7)
           try (replace z := z.up u7)
           try (replace q1 := q1.up u7)
           replace b0 := b0.up u7
           replace b1 := b1.up u7
           replace r0 := r0.up u7
           replace x1 := x1.up u7
           replace x2 := x2.up u7
           replace UP := UP.trans u7
           replace b0_0 := b0.cell (i := 0) rfl
           replace b0_1 := b0.cell (i := 1) rfl
           replace b0_2 := b0.cell (i := 2) rfl
           replace b1_0 := b1.cell (i := 0) rfl
           replace b1_1 := b1.cell (i := 1) rfl
           replace b1_2 := b1.cell (i := 2) rfl
           replace r0_0 := r0.cell (i := 0) rfl
           replace r0_1 := r0.cell (i := 1) rfl
           replace r0_2 := r0.cell (i := 2) rfl
           replace r0_f0 := r0.free 0
           replace r0_f1 := r0.free 1
           replace r0_f2 := r0.free 2
           replace x1_0 := x1.cell (i := 0) rfl
           replace x1_1 := x1.cell (i := 1) rfl
           replace x2_0 := x2.cell (i := 0) rfl
           replace x2_1 := x2.cell (i := 1) rfl
           clear u7)
        | (go_at_call 107
           ((with_reducible refine (whole_sub (x.wh LP) (y.wh LO) (by omega) (by omega)).mono ?_))
           rintro e W8 ⟨V8, rfl, z, u8⟩
           replace H := H.up u8
           replace K := K.up u8
           replace p := p.up u8
           replace pd := pd.up u8
           replace o := o.up u8
           replace od := od.up u8
           replace WP := WP.up u8
           replace WO := WO.up u8
           try (replace x := x.up u8)
           try (replace y := y.up u8)
           try (replace n := n.up u8)
           try (replace z := z.up u8)
           try (replace q1 := q1.up u8)
           replace b0 := b0.up u8
           replace b1 := b1.up u8
           replace r0 := r0.up u8
           replace x1 := x1.up u8
           replace x2 := x2.up u8
           replace UP := UP.trans u8
           replace b0_0 := b0.cell (i := 0) rfl
           replace b0_1 := b0.cell (i := 1) rfl
           replace b0_2 := b0.cell (i := 2) rfl
           replace b1_0 := b1.cell (i := 0) rfl
           replace b1_1 := b1.cell (i := 1) rfl
           replace b1_2 := b1.cell (i := 2) rfl
           replace r0_0 := r0.cell (i := 0) rfl
           replace r0_1 := r0.cell (i := 1) rfl
           replace r0_2 := r0.cell (i := 2) rfl
           replace r0_f0 := r0.free 0
           replace r0_f1 := r0.free 1
           replace r0_f2 := r0.free 2
           replace x1_0 := x1.cell (i := 0) rfl
           replace x1_1 := x1.cell (i := 1) rfl
           replace x2_0 := x2.cell (i := 0) rfl
           replace x2_1 := x2.cell (i := 1) rfl
           clear u8)
        | (go_at_call 93
           ((with_reducible refine (frac_cancel (z.wh LS) n (by omega) (by omega) HM.out).mono ?_))
           rintro e W9 ⟨V9, rfl, q1, u9⟩
           replace H := H.up u9
           replace K := K.up u9
           replace p := p.up u9
           replace pd := pd.up u9
           replace o := o.up u9
           replace od := od.up u9
           replace WP := WP.up u9
           replace WO := WO.up u9
           try (replace x := x.up u9)
           try (replace y := y.up u9)
           try (replace n := n.up u9)
           try (replace z := z.up u9)
           try (replace q1 := q1.up u9)
           replace b0 := b0.up u9
           replace b1 := b1.up u9
           replace r0 := r0.up u9
           replace x1 := x1.up u9
           replace x2 := x2.up u9
           replace UP := UP.trans u9
           replace b0_0 := b0.cell (i := 0) rfl
           replace b0_1 := b0.cell (i := 1) rfl
           replace b0_2 := b0.cell (i := 2) rfl
           replace b1_0 := b1.cell (i := 0) rfl
           replace b1_1 := b1.cell (i := 1) rfl
           replace b1_2 := b1.cell (i := 2) rfl
           replace r0_0 := r0.cell (i := 0) rfl
           replace r0_1 := r0.cell (i := 1) rfl
           replace r0_2 := r0.cell (i := 2) rfl
           replace r0_f0 := r0.free 0
           replace r0_f1 := r0.free 1
           replace r0_f2 := r0.free 2
           replace x1_0 := x1.cell (i := 0) rfl
           replace x1_1 := x1.cell (i := 1) rfl
           replace x2_0 := x2.cell (i := 0) rfl
           replace x2_1 := x2.cell (i := 1) rfl
           clear u9
           rw [HQ.out] at q1
           obtain ⟨Xq1, Yq1, rfl, q1, q1d⟩ := q1
           obtain ⟨Aq1, nq1, cq1, rfl⟩ := q1.shape
           obtain ⟨Aq1d, nq1d, cq1d, rfl⟩ := q1d.shape)))
  all_goals
    go_wp2
    exact end_q rfl rfl rfl ⟨_, _, rfl, q1, q1d⟩ r0 trivial trivial trivial UP (by omega)
end Go.Proofs.Ytjkkeilmnklpcaa
