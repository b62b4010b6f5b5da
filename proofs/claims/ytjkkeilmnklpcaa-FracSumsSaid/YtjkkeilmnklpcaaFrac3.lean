/-
  Layer 9: fractions: products, quotients, those of numbers, signs.
-/
import Derived.Test.YtjkkeilmnklpcaaFrac2
set_option linter.unusedVariables false
set_option linter.unusedSimpArgs false
namespace Go.Proofs.Ytjkkeilmnklpcaa
open Go.RowKit

theorem end_qb_as {fn : Func} {a : Act} {w0 w : World} {t t' : Tmp} {g : Nat} {q q' : Rat} {b b' s : Bool} {u d p1 p2 p3 : Value} (eq : q' = q) (eb : b' = b) (hres : fn.results = #[.cell t 67, .tmp t']) (ht : a.tmps.getD t undef = .pointer (some ⟨g, 0, none⟩)) (hb : a.tmps.getD t' undef = .bool b) (hd : a.defers = [])
    (h : Qw w (.agg #[.bool s, u, d]) q) (r : Bx 67 w g [p1, p2, p3]) (n1 : NoWord p1) (n2 : NoWord p2) (n3 : NoWord p3) (hu : Up w0 w) (hg : w0.heap.size ≤ g) :
    bodyPost Try.prog fn (RetQB q' b' w0) .ret a (((w.setCell ⟨g, 0, none⟩ (.bool s)).setCell ⟨g, 1, none⟩ u).setCell ⟨g, 2, none⟩ d) := by
  subst eq eb
  exact end_qb hres ht hb hd h r n1 n2 n3 hu hg
set_option maxRecDepth 100000 in
set_option maxHeartbeats 3200000 in
theorem frac_mul {v u : Value} {q r : Rat} {j k : Nat} {w : World} (h : Fr w v q j) (h' : Fr w u r k) (hj : j ≤ 200000) (hk : k ≤ 200000) : Calls Try.prog 43 #[v, u] w (RetQ (q * r) w) := by
  have H := h
  have K := h'
  obtain ⟨s, v1, v2, l, m, rfl, hl, hm, _⟩ := h
  obtain ⟨t, v3, v4, l', m', rfl, hl', hm', _⟩ := h'
  obtain ⟨A, c, rfl⟩ := hl.form
  obtain ⟨D, d, rfl⟩ := hm.form
  obtain ⟨A', c', rfl⟩ := hl'.form
  obtain ⟨D', d', rfl⟩ := hm'.form
  clear hl hm hl' hm'
  have UP : Up w (((w.alloc (.cells #[.bool s, .slice A l.length c, .slice D m.length d] 67)).alloc (.cells #[.bool t, .slice A' l'.length c', .slice D' m'.length d'] 67)).alloc (.cells #[.bool false, .slice none 0 0, .slice none 0 0] 67)) := (((Up.refl w).alloc _).alloc _).alloc _
  obtain ⟨b0, b1, r0⟩ := bx_three 67 67 67 w [.bool s, .slice A l.length c, .slice D m.length d] [.bool t, .slice A' l'.length c', .slice D' m'.length d'] [.bool false, .slice none 0 0, .slice none 0 0]
  go_enter Try.func43, Try.ntmps43
  go_wp2_with fail
  generalize (((w.alloc (.cells #[.bool s, .slice A l.length c, .slice D m.length d] 67)).alloc (.cells #[.bool t, .slice A' l'.length c', .slice D' m'.length d'] 67)).alloc (.cells #[.bool false, .slice none 0 0, .slice none 0 0] 67)) = W at *
  replace H := H.up UP
  replace K := K.up UP
  have b0_0 := b0.cell (i := 0) rfl
  have b0_1 := b0.cell (i := 1) rfl
  have b0_2 := b0.cell (i := 2) rfl
  have b1_0 := b1.cell (i := 0) rfl
  have b1_1 := b1.cell (i := 1) rfl
  have b1_2 := b1.cell (i := 2) rfl
  have r0_0 := r0.cell (i := 0) rfl
  have r0_1 := r0.cell (i := 1) rfl
  have r0_2 := r0.cell (i := 2) rfl
  have r0_f0 := r0.free 0
  have r0_f1 := r0.free 1
  have r0_f2 := r0.free 2
  go_wp2_with fail
  ((with_reducible refine (frac_parts H (by omega)).mono ?_))
  rintro e W1 ⟨sp, Lp, Dp, lp_, mp_, rfl, p, pd, hp, hlp, hmp, u1⟩
  obtain ⟨Ap, np, cp, rfl⟩ := p.shape
  obtain ⟨Apd, npd, cpd, rfl⟩ := pd.shape
  replace H := H.up u1
  replace K := K.up u1
  replace b0 := b0.up u1
  replace b1 := b1.up u1
  replace r0 := r0.up u1
  replace UP := UP.trans u1
  replace b0_0 := b0.cell (i := 0) rfl
  replace b0_1 := b0.cell (i := 1) rfl
  replace b0_2 := b0.cell (i := 2) rfl
  replace b1_0 := b1.cell (i := 0) rfl
  replace b1_1 := b1.cell (i := 1) rfl
  replace b1_2 := b1.cell (i := 2) rfl
  replace r0_0 := r0.cell (i := 0) rfl
  replace r0_1 := r0.cell (i := 1) rfl
  replace r0_2 := r0.cell (i := 2) rfl
  replace r0_f0 := r0.free 0
  replace r0_f1 := r0.free 1
  replace r0_f2 := r0.free 2
  clear u1
  have b0_0a := fun O0 => (cell_alloc (o := O0) b0_0)
  have b0_1a := fun O0 => (cell_alloc (o := O0) b0_1)
  have b0_2a := fun O0 => (cell_alloc (o := O0) b0_2)
  have b1_0a := fun O0 => (cell_alloc (o := O0) b1_0)
  have b1_1a := fun O0 => (cell_alloc (o := O0) b1_1)
  have b1_2a := fun O0 => (cell_alloc (o := O0) b1_2)
  have r0_0a := fun O0 => (cell_alloc (o := O0) r0_0)
  have r0_f0a := fun O0 => (r0.up ((Up.refl W1).alloc O0)).free 0
  have r0_1a := fun O0 => (cell_alloc (o := O0) r0_1)
  have r0_f1a := fun O0 => (r0.up ((Up.refl W1).alloc O0)).free 1
  have r0_2a := fun O0 => (cell_alloc (o := O0) r0_2)
  have r0_f2a := fun O0 => (r0.up ((Up.refl W1).alloc O0)).free 2
  go_wp2_with fail
  clear b0_0a b0_1a b0_2a b1_0a b1_1a b1_2a r0_0a r0_f0a r0_1a r0_f1a r0_2a r0_f2a
  have x1 := Bx.new 65 W1 [.bool sp, .slice Ap np cp]
  have b0_lt_x1 := b0.lt
  have b1_lt_x1 := b1.lt
  have r0_lt_x1 := r0.lt
  replace H := H.up ((Up.refl W1).alloc (.cells #[.bool sp, .slice Ap np cp] 65))
  replace K := K.up ((Up.refl W1).alloc (.cells #[.bool sp, .slice Ap np cp] 65))
  replace p := p.up ((Up.refl W1).alloc (.cells #[.bool sp, .slice Ap np cp] 65))
  replace pd := pd.up ((Up.refl W1).alloc (.cells #[.bool sp, .slice Ap np cp] 65))
  replace b0 := b0.up ((Up.refl W1).alloc (.cells #[.bool sp, .slice Ap np cp] 65))
  replace b1 := b1.up ((Up.refl W1).alloc (.cells #[.bool sp, .slice Ap np cp] 65))
  replace r0 := r0.up ((Up.refl W1).alloc (.cells #[.bool sp, .slice Ap np cp] 65))
  replace UP := UP.trans ((Up.refl W1).alloc (.cells #[.bool sp, .slice Ap np cp] 65))
  replace b0_0 := b0.cell (i := 0) rfl
  replace b0_1 := b0.cell (i := 1) rfl
  replace b0_2 := b0.cell (i := 2) rfl
  replace b1_0 := b1.cell (i := 0) rfl
  replace b1_1 := b1.cell (i := 1) rfl
  replace b1_2 := b1.cell (i := 2) rfl
  replace r0_0 := r0.cell (i := 0) rfl
  replace r0_1 := r0.cell (i := 1) rfl
  replace r0_2 := r0.cell (i := 2) rfl
  replace r0_f0 := r0.free 0
  replace r0_f1 := r0.free 1
  replace r0_f2 := r0.free 2
  generalize (W1.alloc (.cells #[.bool sp, .slice Ap np cp] 65)) = W2 at *
  replace b0_0 := b0.cell (i := 0) rfl
  replace b0_1 := b0.cell (i := 1) rfl
  replace b0_2 := b0.cell (i := 2) rfl
  replace b1_0 := b1.cell (i := 0) rfl
  replace b1_1 := b1.cell (i := 1) rfl
  replace b1_2 := b1.cell (i := 2) rfl
  replace r0_0 := r0.cell (i := 0) rfl
  replace r0_1 := r0.cell (i := 1) rfl
  replace r0_2 := r0.cell (i := 2) rfl
  replace r0_f0 := r0.free 0
  replace r0_f1 := r0.free 1
  replace r0_f2 := r0.free 2
  have x1_0 := x1.cell (i := 0) rfl
  have x1_1 := x1.cell (i := 1) rfl
  ((with_reducible refine (frac_parts K (by omega)).mono ?_))
  rintro e W3 ⟨so, Lo, Do, lo_, mo_, rfl, o, od, ho, hlo, hmo, u3⟩
  obtain ⟨Ao, no, co, rfl⟩ := o.shape
  obtain ⟨Aod, nod, cod, rfl⟩ := od.shape
  replace H := H.up u3
  replace K := K.up u3
  replace p := p.up u3
  replace pd := pd.up u3
  replace b0 := b0.up u3
  replace b1 := b1.up u3
  replace r0 := r0.up u3
  replace x1 := x1.up u3
  replace UP := UP.trans u3
  replace b0_0 := b0.cell (i := 0) rfl
  replace b0_1 := b0.cell (i := 1) rfl
  replace b0_2 := b0.cell (i := 2) rfl
  replace b1_0 := b1.cell (i := 0) rfl
  replace b1_1 := b1.cell (i := 1) rfl
  replace b1_2 := b1.cell (i := 2) rfl
  replace r0_0 := r0.cell (i := 0) rfl
  replace r0_1 := r0.cell (i := 1) rfl
  replace r0_2 := r0.cell (i := 2) rfl
  replace r0_f0 := r0.free 0
  replace r0_f1 := r0.free 1
  replace r0_f2 := r0.free 2
  replace x1_0 := x1.cell (i := 0) rfl
  replace x1_1 := x1.cell (i := 1) rfl
  clear u3
  have HM : Hid (Wd.val (Wd.words (Wd.val mp_ * Wd.val mo_)) ≠ 0) := Lib.hid (by rw [Wd.val_words]; exact Nat.mul_ne_zero hp.out.2 ho.out.2)
  have HQ : Hid (mkRat (Wd.iv sp (Wd.val lp_) * Wd.iv so (Wd.val lo_)) (Wd.val (Wd.words (Wd.val mp_ * Wd.val mo_))) = q * r) := Lib.hid (by
    rw [Wd.val_words, ← hp.out.1, ← ho.out.1, Rat.mkRat_mul_mkRat])
  have LS := (Wd.Lz.iv (s := sp) (Wd.words_val_length p.ok)).mul (Wd.Lz.iv (s := so) (Wd.words_val_length o.ok))
  have LM := Wd.words_mul_le (Wd.words_val_length pd.ok) (Wd.words_val_length od.ok)
  have b0_0a := fun O0 => (cell_alloc (o := O0) b0_0)
  have b0_1a := fun O0 => (cell_alloc (o := O0) b0_1)
  have b0_2a := fun O0 => (cell_alloc (o := O0) b0_2)
  have b1_0a := fun O0 => (cell_alloc (o := O0) b1_0)
  have b1_1a := fun O0 => (cell_alloc (o := O0) b1_1)
  have b1_2a := fun O0 => (cell_alloc (o := O0) b1_2)
  have r0_0a := fun O0 => (cell_alloc (o := O0) r0_0)
  have r0_f0a := fun O0 => (r0.up ((Up.refl W3).alloc O0)).free 0
  have r0_1a := fun O0 => (cell_alloc (o := O0) r0_1)
  have r0_f1a := fun O0 => (r0.up ((Up.refl W3).alloc O0)).free 1
  have r0_2a := fun O0 => (cell_alloc (o := O0) r0_2)
  have r0_f2a := fun O0 => (r0.up ((Up.refl W3).alloc O0)).free 2
  have x1_0a := fun O0 => (cell_alloc (o := O0) x1_0)
  have x1_1a := fun O0 => (cell_alloc (o := O0) x1_1)
  go_wp2_with fail
  clear b0_0a b0_1a b0_2a b1_0a b1_1a b1_2a r0_0a r0_f0a r0_1a r0_f1a r0_2a r0_f2a x1_0a x1_1a
  have x2 := Bx.new 65 W3 [.bool so, .slice Ao no co]
  have b0_lt_x2 := b0.lt
  have b1_lt_x2 := b1.lt
  have r0_lt_x2 := r0.lt
  have x1_lt_x2 := x1.lt
  replace H := H.up ((Up.refl W3).alloc (.cells #[.bool so, .slice Ao no co] 65))
  replace K := K.up ((Up.refl W3).alloc (.cells #[.bool so, .slice Ao no co] 65))
  replace p := p.up ((Up.refl W3).alloc (.cells #[.bool so, .slice Ao no co] 65))
  replace pd := pd.up ((Up.refl W3).alloc (.cells #[.bool so, .slice Ao no co] 65))
  replace o := o.up ((Up.refl W3).alloc (.cells #[.bool so, .slice Ao no co] 65))
  replace od := od.up ((Up.refl W3).alloc (.cells #[.bool so, .slice Ao no co] 65))
  replace b0 := b0.up ((Up.refl W3).alloc (.cells #[.bool so, .slice Ao no co] 65))
  replace b1 := b1.up ((Up.refl W3).alloc (.cells #[.bool so, .slice Ao no co] 65))
  replace r0 := r0.up ((Up.refl W3).alloc (.cells #[.bool so, .slice Ao no co] 65))
  replace x1 := x1.up ((Up.refl W3).alloc (.cells #[.bool so, .slice Ao no co] 65))
  replace UP := UP.trans ((Up.refl W3).alloc (.cells #[.bool so, .slice Ao no co] 65))
  replace b0_0 := b0.cell (i := 0) rfl
  replace b0_1 := b0.cell (i := 1) rfl
  replace b0_2 := b0.cell (i := 2) rfl
  replace b1_0 := b1.cell (i := 0) rfl
  replace b1_1 := b1.cell (i := 1) rfl
  replace b1_2 := b1.cell (i := 2) rfl
  replace r0_0 := r0.cell (i := 0) rfl
  replace r0_1 := r0.cell (i := 1) rfl
  replace r0_2 := r0.cell (i := 2) rfl
  replace r0_f0 := r0.free 0
  replace r0_f1 := r0.free 1
  replace r0_f2 := r0.free 2
  replace x1_0 := x1.cell (i := 0) rfl
  replace x1_1 := x1.cell (i := 1) rfl
  generalize (W3.alloc (.cells #[.bool so, .slice Ao no co] 65)) = W4 at *
  replace b0_0 := b0.cell (i := 0) rfl
  replace b0_1 := b0.cell (i := 1) rfl
  replace b0_2 := b0.cell (i := 2) rfl
  replace b1_0 := b1.cell (i := 0) rfl
  replace b1_1 := b1.cell (i := 1) rfl
  replace b1_2 := b1.cell (i := 2) rfl
  replace r0_0 := r0.cell (i := 0) rfl
  replace r0_1 := r0.cell (i := 1) rfl
  replace r0_2 := r0.cell (i := 2) rfl
  replace r0_f0 := r0.free 0
  replace r0_f1 := r0.free 1
  replace r0_f2 := r0.free 2
  replace x1_0 := x1.cell (i := 0) rfl
  replace x1_1 := x1.cell (i := 1) rfl
  have x2_0 := x2.cell (i := 0) rfl
  have x2_1 := x2.cell (i := 1) rfl
  ((with_reducible refine (whole_mul (Wh.mk sp p (k := 1000000) (by omega)) (Wh.mk so o (k := 1000000) (by omega)) (by omega) (by omega)).mono ?_))
  rintro e W5 ⟨V5, rfl, z, u5⟩
  replace H := H.up u5
  replace K := K.up u5
  replace p := p.up u5
  replace pd := pd.up u5
  replace o := o.up u5
  replace od := od.up u5
  replace b0 := b0.up u5
  replace b1 := b1.up u5
  replace r0 := r0.up u5
  replace x1 := x1.up u5
  replace x2 := x2.up u5
  replace UP := UP.trans u5
  replace b0_0 := b0.cell (i := 0) rfl
  replace b0_1 := b0.cell (i := 1) rfl
  replace b0_2 := b0.cell (i := 2) rfl
  replace b1_0 := b1.cell (i := 0) rfl
  replace b1_1 := b1.cell (i := 1) rfl
  replace b1_2 := b1.cell (i := 2) rfl
  replace r0_0 := r0.cell (i := 0) rfl
  replace r0_1 := r0.cell (i := 1) rfl
  replace r0_2 := r0.cell (i := 2) rfl
  replace r0_f0 := r0.free 0
  replace r0_f1 := r0.free 1
  replace r0_f2 := r0.free 2
  replace x1_0 := x1.cell (i := 0) rfl
  replace x1_1 := x1.cell (i := 1) rfl
  replace x2_0 := x2.cell (i := 0) rfl
  replace x2_1 := x2.cell (i := 1) rfl
  clear u5
  go_wp2_with fail
  ((with_reducible refine (prod_mul pd od (by omega) (by omega)).mono ?_))
  rintro e W6 ⟨V6, rfl, n, u6⟩
  replace H := H.up u6
  replace K := K.up u6
  replace p := p.up u6
  replace pd := pd.up u6
  replace o := o.up u6
  replace od := od.up u6
  replace z := z.up u6
  replace b0 := b0.up u6
  replace b1 := b1.up u6
  replace r0 := r0.up u6
  replace x1 := x1.up u6
  replace x2 := x2.up u6
  replace UP := UP.trans u6
  replace b0_0 := b0.cell (i := 0) rfl
  replace b0_1 := b0.cell (i := 1) rfl
  replace b0_2 := b0.cell (i := 2) rfl
  replace b1_0 := b1.cell (i := 0) rfl
  replace b1_1 := b1.cell (i := 1) rfl
  replace b1_2 := b1.cell (i := 2) rfl
  replace r0_0 := r0.cell (i := 0) rfl
  replace r0_1 := r0.cell (i := 1) rfl
  replace r0_2 := r0.cell (i := 2) rfl
  replace r0_f0 := r0.free 0
  replace r0_f1 := r0.free 1
  replace r0_f2 := r0.free 2
  replace x1_0 := x1.cell (i := 0) rfl
  replace x1_1 := x1.cell (i := 1) rfl
  replace x2_0 := x2.cell (i := 0) rfl
  replace x2_1 := x2.cell (i := 1) rfl
  clear u6
  go_wp2_with fail
  ((with_reducible refine (frac_cancel (z.wh LS) n (by omega) (by omega) HM.out).mono ?_))
  rintro e W7 ⟨V7, rfl, q1, u7⟩
  replace H := H.up u7
  replace K := K.up u7
  replace p := p.up u7
  replace pd := pd.up u7
  replace o := o.up u7
  replace od := od.up u7
  replace z := z.up u7
  replace n := n.up u7
  replace b0 := b0.up u7
  replace b1 := b1.up u7
  replace r0 := r0.up u7
  replace x1 := x1.up u7
  replace x2 := x2.up u7
  replace UP := UP.trans u7
  replace b0_0 := b0.cell (i := 0) rfl
  replace b0_1 := b0.cell (i := 1) rfl
  replace b0_2 := b0.cell (i := 2) rfl
  replace b1_0 := b1.cell (i := 0) rfl
  replace b1_1 := b1.cell (i := 1) rfl
  replace b1_2 := b1.cell (i := 2) rfl
  replace r0_0 := r0.cell (i := 0) rfl
  replace r0_1 := r0.cell (i := 1) rfl
  replace r0_2 := r0.cell (i := 2) rfl
  replace r0_f0 := r0.free 0
  replace r0_f1 := r0.free 1
  replace r0_f2 := r0.free 2
  replace x1_0 := x1.cell (i := 0) rfl
  replace x1_1 := x1.cell (i := 1) rfl
  replace x2_0 := x2.cell (i := 0) rfl
  replace x2_1 := x2.cell (i := 1) rfl
  clear u7
  rw [HQ.out] at q1
  obtain ⟨Xq1, Yq1, rfl, q1, q1d⟩ := q1
  obtain ⟨Aq1, nq1, cq1, rfl⟩ := q1.shape
  obtain ⟨Aq1d, nq1d, cq1d, rfl⟩ := q1d.shape
  go_wp2_with fail
  exact end_q rfl rfl rfl ⟨_, _, rfl, q1, q1d⟩ r0 trivial trivial trivial UP (by omega)

set_option maxHeartbeats 1600000 in
theorem frac_of {n : Int} (hn : -9223372036854775808 ≤ n ∧ n ≤ 9223372036854775807) (w : World) : Calls Try.prog 52 #[.int .i64 n] w (RetQ (n : Rat) w) := by
  have UP : Up w (w.alloc (.cells #[.bool false, .slice none 0 0, .slice none 0 0] 67)) := (Up.refl w).alloc _
  have r0 := Bx.new 67 w [.bool false, .slice none 0 0, .slice none 0 0]
  go_enter Try.func52, Try.ntmps52
  go_wp2_with fail
  generalize (w.alloc (.cells #[.bool false, .slice none 0 0, .slice none 0 0] 67)) = W at *
  have r0_0 := r0.cell (i := 0) rfl
  have r0_1 := r0.cell (i := 1) rfl
  have r0_2 := r0.cell (i := 2) rfl
  have r0_f0 := r0.free 0
  have r0_f1 := r0.free 1
  have r0_f2 := r0.free 2
  go_wp2_with fail
  ((with_reducible refine (whole_of hn _).mono ?_))
  rintro e W1 ⟨V1, rfl, z1, u1⟩
  replace r0 := r0.up u1
  replace UP := UP.trans u1
  replace r0_0 := r0.cell (i := 0) rfl
  replace r0_1 := r0.cell (i := 1) rfl
  replace r0_2 := r0.cell (i := 2) rfl
  replace r0_f0 := r0.free 0
  replace r0_f1 := r0.free 1
  replace r0_f2 := r0.free 2
  clear u1
  obtain ⟨Xz1, rfl, z1⟩ := z1
  obtain ⟨Az1, nz1, cz1, rfl⟩ := z1.shape
  go_wp2_with fail
  ((with_reducible refine (nat_of (n := 1) 1 rfl (by omega) _).mono ?_))
  rintro e W2 ⟨V2, rfl, n1, u2⟩
  replace z1 := z1.up u2
  replace r0 := r0.up u2
  replace UP := UP.trans u2
  replace r0_0 := r0.cell (i := 0) rfl
  replace r0_1 := r0.cell (i := 1) rfl
  replace r0_2 := r0.cell (i := 2) rfl
  replace r0_f0 := r0.free 0
  replace r0_f1 := r0.free 1
  replace r0_f2 := r0.free 2
  clear u2
  obtain ⟨A1, k1, c1, rfl⟩ := n1.shape
  go_wp2_with fail
  exact end_q rfl rfl rfl (Qw.mk (q := (n : Rat)) z1 n1 rfl rfl rfl) r0 trivial trivial trivial UP (by omega)
theorem frac_of0 (w : World) : Calls Try.prog 52 #[.int .i64 0] w (RetQ 0 w) := frac_of (n := 0) (by omega) w

set_option maxRecDepth 100000 in
set_option maxHeartbeats 6400000 in
theorem frac_quo {v u : Value} {q r : Rat} {j k : Nat} {w : World} (h : Fr w v q j) (h' : Fr w u r k) (hj : j ≤ 200000) (hk : k ≤ 200000) : Calls Try.prog 54 #[v, u] w (RetQB (q / r) (!decide (r = 0)) w) := by
  have H := h
  have K := h'
  obtain ⟨s, v1, v2, l, m, rfl, hl, hm, _⟩ := h
  obtain ⟨t, v3, v4, l', m', rfl, hl', hm', _⟩ := h'
  obtain ⟨A, c, rfl⟩ := hl.form
  obtain ⟨D, d, rfl⟩ := hm.form
  obtain ⟨A', c', rfl⟩ := hl'.form
  obtain ⟨D', d', rfl⟩ := hm'.form
  clear hl hm hl' hm'
  have UP : Up w (((w.alloc (.cells #[.bool s, .slice A l.length c, .slice D m.length d] 67)).alloc (.cells #[.bool t, .slice A' l'.length c', .slice D' m'.length d'] 67)).alloc (.cells #[.bool false, .slice none 0 0, .slice none 0 0] 67)) := (((Up.refl w).alloc _).alloc _).alloc _
  obtain ⟨b0, b1, r0⟩ := bx_three 67 67 67 w [.bool s, .slice A l.length c, .slice D m.length d] [.bool t, .slice A' l'.length c', .slice D' m'.length d'] [.bool false, .slice none 0 0, .slice none 0 0]
  go_enter Try.func54, Try.ntmps54
  go_wp2_with fail
  generalize (((w.alloc (.cells #[.bool s, .slice A l.length c, .slice D m.length d] 67)).alloc (.cells #[.bool t, .slice A' l'.length c', .slice D' m'.length d'] 67)).alloc (.cells #[.bool false, .slice none 0 0, .slice none 0 0] 67)) = W at *
  replace H := H.up UP
  replace K := K.up UP
  have b0_0 := b0.cell (i := 0) rfl
  have b0_1 := b0.cell (i := 1) rfl
  have b0_2 := b0.cell (i := 2) rfl
  have b1_0 := b1.cell (i := 0) rfl
  have b1_1 := b1.cell (i := 1) rfl
  have b1_2 := b1.cell (i := 2) rfl
  have r0_0 := r0.cell (i := 0) rfl
  have r0_1 := r0.cell (i := 1) rfl
  have r0_2 := r0.cell (i := 2) rfl
  have r0_f0 := r0.free 0
  have r0_f1 := r0.free 1
  have r0_f2 := r0.free 2
  go_wp2_with fail
  ((with_reducible refine (frac_parts H (by omega)).mono ?_))
  rintro e W1 ⟨sp, Lp, Dp, lp_, mp_, rfl, p, pd, hp, hlp, hmp, u1⟩
  obtain ⟨Ap, np, cp, rfl⟩ := p.shape
  obtain ⟨Apd, npd, cpd, rfl⟩ := pd.shape
  replace H := H.up u1
  replace K := K.up u1
  replace b0 := b0.up u1
  replace b1 := b1.up u1
  replace r0 := r0.up u1
  replace UP := UP.trans u1
  replace b0_0 := b0.cell (i := 0) rfl
  replace b0_1 := b0.cell (i := 1) rfl
  replace b0_2 := b0.cell (i := 2) rfl
  replace b1_0 := b1.cell (i := 0) rfl
  replace b1_1 := b1.cell (i := 1) rfl
  replace b1_2 := b1.cell (i := 2) rfl
  replace r0_0 := r0.cell (i := 0) rfl
  replace r0_1 := r0.cell (i := 1) rfl
  replace r0_2 := r0.cell (i := 2) rfl
  replace r0_f0 := r0.free 0
  replace r0_f1 := r0.free 1
  replace r0_f2 := r0.free 2
  clear u1
  have b0_0a := fun O0 => (cell_alloc (o := O0) b0_0)
  have b0_1a := fun O0 => (cell_alloc (o := O0) b0_1)
  have b0_2a := fun O0 => (cell_alloc (o := O0) b0_2)
  have b1_0a := fun O0 => (cell_alloc (o := O0) b1_0)
  have b1_1a := fun O0 => (cell_alloc (o := O0) b1_1)
  have b1_2a := fun O0 => (cell_alloc (o := O0) b1_2)
  have r0_0a := fun O0 => (cell_alloc (o := O0) r0_0)
  have r0_f0a := fun O0 => (r0.up ((Up.refl W1).alloc O0)).free 0
  have r0_1a := fun O0 => (cell_alloc (o := O0) r0_1)
  have r0_f1a := fun O0 => (r0.up ((Up.refl W1).alloc O0)).free 1
  have r0_2a := fun O0 => (cell_alloc (o := O0) r0_2)
  have r0_f2a := fun O0 => (r0.up ((Up.refl W1).alloc O0)).free 2
  go_wp2_with fail
  clear b0_0a b0_1a b0_2a b1_0a b1_1a b1_2a r0_0a r0_f0a r0_1a r0_f1a r0_2a r0_f2a
  have x1 := Bx.new 65 W1 [.bool sp, .slice Ap np cp]
  have b0_lt_x1 := b0.lt
  have b1_lt_x1 := b1.lt
  have r0_lt_x1 := r0.lt
  replace H := H.up ((Up.refl W1).alloc (.cells #[.bool sp, .slice Ap np cp] 65))
  replace K := K.up ((Up.refl W1).alloc (.cells #[.bool sp, .slice Ap np cp] 65))
  replace p := p.up ((Up.refl W1).alloc (.cells #[.bool sp, .slice Ap np cp] 65))
  replace pd := pd.up ((Up.refl W1).alloc (.cells #[.bool sp, .slice Ap np cp] 65))
  replace b0 := b0.up ((Up.refl W1).alloc (.cells #[.bool sp, .slice Ap np cp] 65))
  replace b1 := b1.up ((Up.refl W1).alloc (.cells #[.bool sp, .slice Ap np cp] 65))
  replace r0 := r0.up ((Up.refl W1).alloc (.cells #[.bool sp, .slice Ap np cp] 65))
  replace UP := UP.trans ((Up.refl W1).alloc (.cells #[.bool sp, .slice Ap np cp] 65))
  replace b0_0 := b0.cell (i := 0) rfl
  replace b0_1 := b0.cell (i := 1) rfl
  replace b0_2 := b0.cell (i := 2) rfl
  replace b1_0 := b1.cell (i := 0) rfl
  replace b1_1 := b1.cell (i := 1) rfl
  replace b1_2 := b1.cell (i := 2) rfl
  replace r0_0 := r0.cell (i := 0) rfl
  replace r0_1 := r0.cell (i := 1) rfl
  replace r0_2 := r0.cell (i := 2) rfl
  replace r0_f0 := r0.free 0
  replace r0_f1 := r0.free 1
  replace r0_f2 := r0.free 2
  generalize (W1.alloc (.cells #[.bool sp, .slice Ap np cp] 65)) = W2 at *
  replace b0_0 := b0.cell (i := 0) rfl
  replace b0_1 := b0.cell (i := 1) rfl
  replace b0_2 := b0.cell (i := 2) rfl
  replace b1_0 := b1.cell (i := 0) rfl
  replace b1_1 := b1.cell (i := 1) rfl
  replace b1_2 := b1.cell (i := 2) rfl
  replace r0_0 := r0.cell (i := 0) rfl
  replace r0_1 := r0.cell (i := 1) rfl
  replace r0_2 := r0.cell (i := 2) rfl
  replace r0_f0 := r0.free 0
  replace r0_f1 := r0.free 1
  replace r0_f2 := r0.free 2
  have x1_0 := x1.cell (i := 0) rfl
  have x1_1 := x1.cell (i := 1) rfl
  ((with_reducible refine (frac_parts K (by omega)).mono ?_))
  rintro e W3 ⟨so, Lo, Do, lo_, mo_, rfl, o, od, ho, hlo, hmo, u3⟩
  obtain ⟨Ao, no, co, rfl⟩ := o.shape
  obtain ⟨Aod, nod, cod, rfl⟩ := od.shape
  replace H := H.up u3
  replace K := K.up u3
  replace p := p.up u3
  replace pd := pd.up u3
  replace b0 := b0.up u3
  replace b1 := b1.up u3
  replace r0 := r0.up u3
  replace x1 := x1.up u3
  replace UP := UP.trans u3
  replace b0_0 := b0.cell (i := 0) rfl
  replace b0_1 := b0.cell (i := 1) rfl
  replace b0_2 := b0.cell (i := 2) rfl
  replace b1_0 := b1.cell (i := 0) rfl
  replace b1_1 := b1.cell (i := 1) rfl
  replace b1_2 := b1.cell (i := 2) rfl
  replace r0_0 := r0.cell (i := 0) rfl
  replace r0_1 := r0.cell (i := 1) rfl
  replace r0_2 := r0.cell (i := 2) rfl
  replace r0_f0 := r0.free 0
  replace r0_f1 := r0.free 1
  replace r0_f2 := r0.free 2
  replace x1_0 := x1.cell (i := 0) rfl
  replace x1_1 := x1.cell (i := 1) rfl
  clear u3
  by_cases hz : Wd.val lo_ = 0
  · have HR : Hid (q / r = 0 ∧ (!decide (r = 0)) = false) := Lib.hid (by
      have e : r = 0 := by rw [← ho.out.1, hz, Wd.iv_zero, Rat.zero_mkRat]
      subst e
      exact ⟨by rw [Rat.div_def, Rat.inv_zero, Rat.mul_zero], by simp⟩)
    have HS : Hid (Wd.sgn (Wd.iv so (Wd.val lo_)) = 0) := Lib.hid (by rw [hz, Wd.iv_zero]; rfl)
    clear hz
    have b0_0a := fun O0 => (cell_alloc (o := O0) b0_0)
    have b0_1a := fun O0 => (cell_alloc (o := O0) b0_1)
    have b0_2a := fun O0 => (cell_alloc (o := O0) b0_2)
    have b1_0a := fun O0 => (cell_alloc (o := O0) b1_0)
    have b1_1a := fun O0 => (cell_alloc (o := O0) b1_1)
    have b1_2a := fun O0 => (cell_alloc (o := O0) b1_2)
    have r0_0a := fun O0 => (cell_alloc (o := O0) r0_0)
    have r0_f0a := fun O0 => (r0.up ((Up.refl W3).alloc O0)).free 0
    have r0_1a := fun O0 => (cell_alloc (o := O0) r0_1)
    have r0_f1a := fun O0 => (r0.up ((Up.refl W3).alloc O0)).free 1
    have r0_2a := fun O0 => (cell_alloc (o := O0) r0_2)
    have r0_f2a := fun O0 => (r0.up ((Up.refl W3).alloc O0)).free 2
    have x1_0a := fun O0 => (cell_alloc (o := O0) x1_0)
    have x1_1a := fun O0 => (cell_alloc (o := O0) x1_1)
    go_wp2_with fail
    clear b0_0a b0_1a b0_2a b1_0a b1_1a b1_2a r0_0a r0_f0a r0_1a r0_f1a r0_2a r0_f2a x1_0a x1_1a
    have x2 := Bx.new 65 W3 [.bool so, .slice Ao no co]
    have b0_lt_x2 := b0.lt
    have b1_lt_x2 := b1.lt
    have r0_lt_x2 := r0.lt
    have x1_lt_x2 := x1.lt
    replace H := H.up ((Up.refl W3).alloc (.cells #[.bool so, .slice Ao no co] 65))
    replace K := K.up ((Up.refl W3).alloc (.cells #[.bool so, .slice Ao no co] 65))
    replace p := p.up ((Up.refl W3).alloc (.cells #[.bool so, .slice Ao no co] 65))
    replace pd := pd.up ((Up.refl W3).alloc (.cells #[.bool so, .slice Ao no co] 65))
    replace o := o.up ((Up.refl W3).alloc (.cells #[.bool so, .slice Ao no co] 65))
    replace od := od.up ((Up.refl W3).alloc (.cells #[.bool so, .slice Ao no co] 65))
    replace b0 := b0.up ((Up.refl W3).alloc (.cells #[.bool so, .slice Ao no co] 65))
    replace b1 := b1.up ((Up.refl W3).alloc (.cells #[.bool so, .slice Ao no co] 65))
    replace r0 := r0.up ((Up.refl W3).alloc (.cells #[.bool so, .slice Ao no co] 65))
    replace x1 := x1.up ((Up.refl W3).alloc (.cells #[.bool so, .slice Ao no co] 65))
    replace UP := UP.trans ((Up.refl W3).alloc (.cells #[.bool so, .slice Ao no co] 65))
    replace b0_0 := b0.cell (i := 0) rfl
    replace b0_1 := b0.cell (i := 1) rfl
    replace b0_2 := b0.cell (i := 2) rfl
    replace b1_0 := b1.cell (i := 0) rfl
    replace b1_1 := b1.cell (i := 1) rfl
    replace b1_2 := b1.cell (i := 2) rfl
    replace r0_0 := r0.cell (i := 0) rfl
    replace r0_1 := r0.cell (i := 1) rfl
    replace r0_2 := r0.cell (i := 2) rfl
    replace r0_f0 := r0.free 0
    replace r0_f1 := r0.free 1
    replace r0_f2 := r0.free 2
    replace x1_0 := x1.cell (i := 0) rfl
    replace x1_1 := x1.cell (i := 1) rfl
    generalize (W3.alloc (.cells #[.bool so, .slice Ao no co] 65)) = W4 at *
    replace b0_0 := b0.cell (i := 0) rfl
    replace b0_1 := b0.cell (i := 1) rfl
    replace b0_2 := b0.cell (i := 2) rfl
    replace b1_0 := b1.cell (i := 0) rfl
    replace b1_1 := b1.cell (i := 1) rfl
    replace b1_2 := b1.cell (i := 2) rfl
    replace r0_0 := r0.cell (i := 0) rfl
    replace r0_1 := r0.cell (i := 1) rfl
    replace r0_2 := r0.cell (i := 2) rfl
    replace r0_f0 := r0.free 0
    replace r0_f1 := r0.free 1
    replace r0_f2 := r0.free 2
    replace x1_0 := x1.cell (i := 0) rfl
    replace x1_1 := x1.cell (i := 1) rfl
    have x2_0 := x2.cell (i := 0) rfl
    have x2_1 := x2.cell (i := 1) rfl
    ((with_reducible refine (whole_sign (Wh.mk so o (k := 1000000) (by omega)) (by omega)).mono ?_))
    rintro e W5 ⟨rfl, u5⟩
    replace H := H.up u5
    replace K := K.up u5
    replace p := p.up u5
    replace pd := pd.up u5
    replace o := o.up u5
    replace od := od.up u5
    replace b0 := b0.up u5
    replace b1 := b1.up u5
    replace r0 := r0.up u5
    replace x1 := x1.up u5
    replace x2 := x2.up u5
    replace UP := UP.trans u5
    replace b0_0 := b0.cell (i := 0) rfl
    replace b0_1 := b0.cell (i := 1) rfl
    replace b0_2 := b0.cell (i := 2) rfl
    replace b1_0 := b1.cell (i := 0) rfl
    replace b1_1 := b1.cell (i := 1) rfl
    replace b1_2 := b1.cell (i := 2) rfl
    replace r0_0 := r0.cell (i := 0) rfl
    replace r0_1 := r0.cell (i := 1) rfl
    replace r0_2 := r0.cell (i := 2) rfl
    replace r0_f0 := r0.free 0
    replace r0_f1 := r0.free 1
    replace r0_f2 := r0.free 2
    replace x1_0 := x1.cell (i := 0) rfl
    replace x1_1 := x1.cell (i := 1) rfl
    replace x2_0 := x2.cell (i := 0) rfl
    replace x2_1 := x2.cell (i := 1) rfl
    clear u5
    rw [HS.out]
    go_wp2_with fail
    ((with_reducible refine (frac_of0 _).mono ?_))
    rintro e W6 ⟨V6, rfl, q1, u6⟩
    replace H := H.up u6
    replace K := K.up u6
    replace p := p.up u6
    replace pd := pd.up u6
    replace o := o.up u6
    replace od := od.up u6
    replace b0 := b0.up u6
    replace b1 := b1.up u6
    replace r0 := r0.up u6
    replace x1 := x1.up u6
    replace x2 := x2.up u6
    replace UP := UP.trans u6
    replace b0_0 := b0.cell (i := 0) rfl
    replace b0_1 := b0.cell (i := 1) rfl
    replace b0_2 := b0.cell (i := 2) rfl
    replace b1_0 := b1.cell (i := 0) rfl
    replace b1_1 := b1.cell (i := 1) rfl
    replace b1_2 := b1.cell (i := 2) rfl
    replace r0_0 := r0.cell (i := 0) rfl
    replace r0_1 := r0.cell (i := 1) rfl
    replace r0_2 := r0.cell (i := 2) rfl
    replace r0_f0 := r0.free 0
    replace r0_f1 := r0.free 1
    replace r0_f2 := r0.free 2
    replace x1_0 := x1.cell (i := 0) rfl
    replace x1_1 := x1.cell (i := 1) rfl
    replace x2_0 := x2.cell (i := 0) rfl
    replace x2_1 := x2.cell (i := 1) rfl
    clear u6
    obtain ⟨Xq1, Yq1, rfl, q1, q1d⟩ := q1
    obtain ⟨Aq1, nq1, cq1, rfl⟩ := q1.shape
    obtain ⟨Aq1d, nq1d, cq1d, rfl⟩ := q1d.shape
    go_wp2_with fail
    exact end_qb_as HR.out.1 HR.out.2 rfl rfl rfl rfl ⟨_, _, rfl, q1, q1d⟩ r0 trivial trivial trivial UP (by omega)
  · have HR : Hid ((!decide (r = 0)) = true) := Lib.hid (by
      have e : r ≠ 0 := by rw [← ho.out.1]; exact (Rat.mkRat_ne_zero ho.out.2).2 (fun e => hz (Wd.iv_eq_zero.1 e))
      simp [e])
    have hs : ((Wd.sgn (Wd.iv so (Wd.val lo_)) : Int) == 0) = false := by
      rcases Wd.sgn_cases (Wd.iv so (Wd.val lo_)) with ⟨_, e⟩ | ⟨e, _⟩ | ⟨_, e⟩
      · rw [e]; rfl
      · exact absurd (Wd.iv_eq_zero.1 e) hz
      · rw [e]; rfl
    have HM : Hid (Wd.val (Wd.words (Wd.val mp_ * Wd.val lo_)) ≠ 0) := Lib.hid (by rw [Wd.val_words]; exact Nat.mul_ne_zero hp.out.2 hz)
    have hQ := Wd.quo_mk (Wd.iv sp (Wd.val lp_)) (t := so) hz hp.out.2 ho.out.2
    rw [hp.out.1, ho.out.1] at hQ
    have LX := (Wd.Lz.iv (s := sp) (Wd.words_val_length p.ok)).mul (y := (Wd.val mo_ : Int)) (Wd.words_val_length od.ok)
    have LM := Wd.words_mul_le (Wd.words_val_length pd.ok) (Wd.words_val_length o.ok)
    have HQ := Lib.hid hQ
    clear hz hQ
    have b0_0a := fun O0 => (cell_alloc (o := O0) b0_0)
    have b0_1a := fun O0 => (cell_alloc (o := O0) b0_1)
    have b0_2a := fun O0 => (cell_alloc (o := O0) b0_2)
    have b1_0a := fun O0 => (cell_alloc (o := O0) b1_0)
    have b1_1a := fun O0 => (cell_alloc (o := O0) b1_1)
    have b1_2a := fun O0 => (cell_alloc (o := O0) b1_2)
    have r0_0a := fun O0 => (cell_alloc (o := O0) r0_0)
    have r0_f0a := fun O0 => (r0.up ((Up.refl W3).alloc O0)).free 0
    have r0_1a := fun O0 => (cell_alloc (o := O0) r0_1)
    have r0_f1a := fun O0 => (r0.up ((Up.refl W3).alloc O0)).free 1
    have r0_2a := fun O0 => (cell_alloc (o := O0) r0_2)
    have r0_f2a := fun O0 => (r0.up ((Up.refl W3).alloc O0)).free 2
    have x1_0a := fun O0 => (cell_alloc (o := O0) x1_0)
    have x1_1a := fun O0 => (cell_alloc (o := O0) x1_1)
    go_wp2_with fail
    clear b0_0a b0_1a b0_2a b1_0a b1_1a b1_2a r0_0a r0_f0a r0_1a r0_f1a r0_2a r0_f2a x1_0a x1_1a
    have x2 := Bx.new 65 W3 [.bool so, .slice Ao no co]
    have b0_lt_x2 := b0.lt
    have b1_lt_x2 := b1.lt
    have r0_lt_x2 := r0.lt
    have x1_lt_x2 := x1.lt
    replace H := H.up ((Up.refl W3).alloc (.cells #[.bool so, .slice Ao no co] 65))
    replace K := K.up ((Up.refl W3).alloc (.cells #[.bool so, .slice Ao no co] 65))
    replace p := p.up ((Up.refl W3).alloc (.cells #[.bool so, .slice Ao no co] 65))
    replace pd := pd.up ((Up.refl W3).alloc (.cells #[.bool so, .slice Ao no co] 65))
    replace o := o.up ((Up.refl W3).alloc (.cells #[.bool so, .slice Ao no co] 65))
    replace od := od.up ((Up.refl W3).alloc (.cells #[.bool so, .slice Ao no co] 65))
    replace b0 := b0.up ((Up.refl W3).alloc (.cells #[.bool so, .slice Ao no co] 65))
    replace b1 := b1.up ((Up.refl W3).alloc (.cells #[.bool so, .slice Ao no co] 65))
    replace r0 := r0.up ((Up.refl W3).alloc (.cells #[.bool so, .slice Ao no co] 65))
    replace x1 := x1.up ((Up.refl W3).alloc (.cells #[.bool so, .slice Ao no co] 65))
    replace UP := UP.trans ((Up.refl W3).alloc (.cells #[.bool so, .slice Ao no co] 65))
    replace b0_0 := b0.cell (i := 0) rfl
    replace b0_1 := b0.cell (i := 1) rfl
    replace b0_2 := b0.cell (i := 2) rfl
    replace b1_0 := b1.cell (i := 0) rfl
    replace b1_1 := b1.cell (i := 1) rfl
    replace b1_2 := b1.cell (i := 2) rfl
    replace r0_0 := r0.cell (i := 0) rfl
    replace r0_1 := r0.cell (i := 1) rfl
    replace r0_2 := r0.cell (i := 2) rfl
    replace r0_f0 := r0.free 0
    replace r0_f1 := r0.free 1
    replace r0_f2 := r0.free 2
    replace x1_0 := x1.cell (i := 0) rfl
    replace x1_1 := x1.cell (i := 1) rfl
    generalize (W3.alloc (.cells #[.bool so, .slice Ao no co] 65)) = W4 at *
    replace b0_0 := b0.cell (i := 0) rfl
    replace b0_1 := b0.cell (i := 1) rfl
    replace b0_2 := b0.cell (i := 2) rfl
    replace b1_0 := b1.cell (i := 0) rfl
    replace b1_1 := b1.cell (i := 1) rfl
    replace b1_2 := b1.cell (i := 2) rfl
    replace r0_0 := r0.cell (i := 0) rfl
    replace r0_1 := r0.cell (i := 1) rfl
    replace r0_2 := r0.cell (i := 2) rfl
    replace r0_f0 := r0.free 0
    replace r0_f1 := r0.free 1
    replace r0_f2 := r0.free 2
    replace x1_0 := x1.cell (i := 0) rfl
    replace x1_1 := x1.cell (i := 1) rfl
    have x2_0 := x2.cell (i := 0) rfl
    have x2_1 := x2.cell (i := 1) rfl
    ((with_reducible refine (whole_sign (Wh.mk so o (k := 1000000) (by omega)) (by omega)).mono ?_))
    rintro e W5 ⟨rfl, u5⟩
    replace H := H.up u5
    replace K := K.up u5
    replace p := p.up u5
    replace pd := pd.up u5
    replace o := o.up u5
    replace od := od.up u5
    replace b0 := b0.up u5
    replace b1 := b1.up u5
    replace r0 := r0.up u5
    replace x1 := x1.up u5
    replace x2 := x2.up u5
    replace UP := UP.trans u5
    replace b0_0 := b0.cell (i := 0) rfl
    replace b0_1 := b0.cell (i := 1) rfl
    replace b0_2 := b0.cell (i := 2) rfl
    replace b1_0 := b1.cell (i := 0) rfl
    replace b1_1 := b1.cell (i := 1) rfl
    replace b1_2 := b1.cell (i := 2) rfl
    replace r0_0 := r0.cell (i := 0) rfl
    replace r0_1 := r0.cell (i := 1) rfl
    replace r0_2 := r0.cell (i := 2) rfl
    replace r0_f0 := r0.free 0
    replace r0_f1 := r0.free 1
    replace r0_f2 := r0.free 2
    replace x1_0 := x1.cell (i := 0) rfl
    replace x1_1 := x1.cell (i := 1) rfl
    replace x2_0 := x2.cell (i := 0) rfl
    replace x2_1 := x2.cell (i := 1) rfl
    clear u5
    go_wp2_with fail
    ((with_reducible refine (frac_cross (Wh.mk sp p (k := 1000000) (by omega)) od (by omega) (by omega)).mono ?_))
    rintro e W6 ⟨V6, rfl, up, u6⟩
    replace H := H.up u6
    replace K := K.up u6
    replace p := p.up u6
    replace pd := pd.up u6
    replace o := o.up u6
    replace od := od.up u6
    replace b0 := b0.up u6
    replace b1 := b1.up u6
    replace r0 := r0.up u6
    replace x1 := x1.up u6
    replace x2 := x2.up u6
    replace UP := UP.trans u6
    replace b0_0 := b0.cell (i := 0) rfl
    replace b0_1 := b0.cell (i := 1) rfl
    replace b0_2 := b0.cell (i := 2) rfl
    replace b1_0 := b1.cell (i := 0) rfl
    replace b1_1 := b1.cell (i := 1) rfl
    replace b1_2 := b1.cell (i := 2) rfl
    replace r0_0 := r0.cell (i := 0) rfl
    replace r0_1 := r0.cell (i := 1) rfl
    replace r0_2 := r0.cell (i := 2) rfl
    replace r0_f0 := r0.free 0
    replace r0_f1 := r0.free 1
    replace r0_f2 := r0.free 2
    replace x1_0 := x1.cell (i := 0) rfl
    replace x1_1 := x1.cell (i := 1) rfl
    replace x2_0 := x2.cell (i := 0) rfl
    replace x2_1 := x2.cell (i := 1) rfl
    clear u6
    generalize hX : Wd.iv sp (Wd.val lp_) * (Wd.val mo_ : Int) = X at *
    clear hX
    obtain ⟨Xup, rfl, up⟩ := up
    obtain ⟨Aup, nup, cup, rfl⟩ := up.shape
    have b0_0a := fun O0 => (cell_alloc (o := O0) b0_0)
    have b0_1a := fun O0 => (cell_alloc (o := O0) b0_1)
    have b0_2a := fun O0 => (cell_alloc (o := O0) b0_2)
    have b1_0a := fun O0 => (cell_alloc (o := O0) b1_0)
    have b1_1a := fun O0 => (cell_alloc (o := O0) b1_1)
    have b1_2a := fun O0 => (cell_alloc (o := O0) b1_2)
    have r0_0a := fun O0 => (cell_alloc (o := O0) r0_0)
    have r0_f0a := fun O0 => (r0.up ((Up.refl W6).alloc O0)).free 0
    have r0_1a := fun O0 => (cell_alloc (o := O0) r0_1)
    have r0_f1a := fun O0 => (r0.up ((Up.refl W6).alloc O0)).free 1
    have r0_2a := fun O0 => (cell_alloc (o := O0) r0_2)
    have r0_f2a := fun O0 => (r0.up ((Up.refl W6).alloc O0)).free 2
    have x1_0a := fun O0 => (cell_alloc (o := O0) x1_0)
    have x1_1a := fun O0 => (cell_alloc (o := O0) x1_1)
    have x2_0a := fun O0 => (cell_alloc (o := O0) x2_0)
    have x2_1a := fun O0 => (cell_alloc (o := O0) x2_1)
    go_wp2_with fail
    clear b0_0a b0_1a b0_2a b1_0a b1_1a b1_2a r0_0a r0_f0a r0_1a r0_f1a r0_2a r0_f2a x1_0a x1_1a x2_0a x2_1a
    have x3 := Bx.new 65 W6 [.bool (!(Wd.ngb X == so)), .slice Aup nup cup]
    have b0_lt_x3 := b0.lt
    have b0_ne_x3 : ¬ (w.heap.size = W6.heap.size) := by omega
    have b0_en_x3 : ¬ (W6.heap.size = w.heap.size) := by omega
    have b1_lt_x3 := b1.lt
    have b1_ne_x3 : ¬ (w.heap.size + 1 = W6.heap.size) := by omega
    have b1_en_x3 : ¬ (W6.heap.size = w.heap.size + 1) := by omega
    have r0_lt_x3 := r0.lt
    have r0_ne_x3 : ¬ (w.heap.size + 1 + 1 = W6.heap.size) := by omega
    have r0_en_x3 : ¬ (W6.heap.size = w.heap.size + 1 + 1) := by omega
    have x1_lt_x3 := x1.lt
    have x1_ne_x3 : ¬ (W1.heap.size = W6.heap.size) := by omega
    have x1_en_x3 : ¬ (W6.heap.size = W1.heap.size) := by omega
    have x2_lt_x3 := x2.lt
    have x2_ne_x3 : ¬ (W3.heap.size = W6.heap.size) := by omega
    have x2_en_x3 : ¬ (W6.heap.size = W3.heap.size) := by omega
    replace H := H.up ((Up.refl W6).alloc (.cells #[.bool (!(Wd.ngb X == so)), .slice Aup nup cup] 65))
    replace K := K.up ((Up.refl W6).alloc (.cells #[.bool (!(Wd.ngb X == so)), .slice Aup nup cup] 65))
    replace p := p.up ((Up.refl W6).alloc (.cells #[.bool (!(Wd.ngb X == so)), .slice Aup nup cup] 65))
    replace pd := pd.up ((Up.refl W6).alloc (.cells #[.bool (!(Wd.ngb X == so)), .slice Aup nup cup] 65))
    replace o := o.up ((Up.refl W6).alloc (.cells #[.bool (!(Wd.ngb X == so)), .slice Aup nup cup] 65))
    replace od := od.up ((Up.refl W6).alloc (.cells #[.bool (!(Wd.ngb X == so)), .slice Aup nup cup] 65))
    replace up := up.up ((Up.refl W6).alloc (.cells #[.bool (!(Wd.ngb X == so)), .slice Aup nup cup] 65))
    replace b0 := b0.up ((Up.refl W6).alloc (.cells #[.bool (!(Wd.ngb X == so)), .slice Aup nup cup] 65))
    replace b1 := b1.up ((Up.refl W6).alloc (.cells #[.bool (!(Wd.ngb X == so)), .slice Aup nup cup] 65))
    replace r0 := r0.up ((Up.refl W6).alloc (.cells #[.bool (!(Wd.ngb X == so)), .slice Aup nup cup] 65))
    replace x1 := x1.up ((Up.refl W6).alloc (.cells #[.bool (!(Wd.ngb X == so)), .slice Aup nup cup] 65))
    replace x2 := x2.up ((Up.refl W6).alloc (.cells #[.bool (!(Wd.ngb X == so)), .slice Aup nup cup] 65))
    replace UP := UP.trans ((Up.refl W6).alloc (.cells #[.bool (!(Wd.ngb X == so)), .slice Aup nup cup] 65))
    replace b0_0 := b0.cell (i := 0) rfl
    replace b0_1 := b0.cell (i := 1) rfl
    replace b0_2 := b0.cell (i := 2) rfl
    replace b1_0 := b1.cell (i := 0) rfl
    replace b1_1 := b1.cell (i := 1) rfl
    replace b1_2 := b1.cell (i := 2) rfl
    replace r0_0 := r0.cell (i := 0) rfl
    replace r0_1 := r0.cell (i := 1) rfl
    replace r0_2 := r0.cell (i := 2) rfl
    replace r0_f0 := r0.free 0
    replace r0_f1 := r0.free 1
    replace r0_f2 := r0.free 2
    replace x1_0 := x1.cell (i := 0) rfl
    replace x1_1 := x1.cell (i := 1) rfl
    replace x2_0 := x2.cell (i := 0) rfl
    replace x2_1 := x2.cell (i := 1) rfl
    generalize (W6.alloc (.cells #[.bool (!(Wd.ngb X == so)), .slice Aup nup cup] 65)) = W7 at *
    replace b0_0 := b0.cell (i := 0) rfl
    replace b0_1 := b0.cell (i := 1) rfl
    replace b0_2 := b0.cell (i := 2) rfl
    replace b1_0 := b1.cell (i := 0) rfl
    replace b1_1 := b1.cell (i := 1) rfl
    replace b1_2 := b1.cell (i := 2) rfl
    replace r0_0 := r0.cell (i := 0) rfl
    replace r0_1 := r0.cell (i := 1) rfl
    replace r0_2 := r0.cell (i := 2) rfl
    replace r0_f0 := r0.free 0
    replace r0_f1 := r0.free 1
    replace r0_f2 := r0.free 2
    replace x1_0 := x1.cell (i := 0) rfl
    replace x1_1 := x1.cell (i := 1) rfl
    replace x2_0 := x2.cell (i := 0) rfl
    replace x2_1 := x2.cell (i := 1) rfl
    have x3_0 := x3.cell (i := 0) rfl
    have x3_1 := x3.cell (i := 1) rfl
    have x3_f0 := x3.free 0
    have x3_f1 := x3.free 1
    have HQ2 : Hid (mkRat (Wd.iv (!(Wd.ngb X == so)) (Wd.val (Wd.words X.natAbs))) (Wd.val (Wd.words (Wd.val mp_ * Wd.val lo_))) = q / r) := Lib.hid (by rw [Wd.val_words, Wd.val_words]; exact HQ.out)
    have WU : Wh W7 (.agg #[.bool (!(Wd.ngb X == so)), .slice Aup nup cup]) (Wd.iv (!(Wd.ngb X == so)) (Wd.val (Wd.words X.natAbs))) 1000000 := Wh.mk _ up (Nat.le_trans LX (by omega))
    replace H := H.up (Up.refl W7).drew
    replace K := K.up (Up.refl W7).drew
    replace p := p.up (Up.refl W7).drew
    replace pd := pd.up (Up.refl W7).drew
    replace o := o.up (Up.refl W7).drew
    replace od := od.up (Up.refl W7).drew
    replace up := up.up (Up.refl W7).drew
    replace WU := WU.up (Up.refl W7).drew
    replace b0 := b0.up (Up.refl W7).drew
    replace b1 := b1.up (Up.refl W7).drew
    replace r0 := r0.up (Up.refl W7).drew
    replace x1 := x1.up (Up.refl W7).drew
    replace x2 := x2.up (Up.refl W7).drew
    replace x3 := x3.up (Up.refl W7).drew
    replace UP := UP.trans (Up.refl W7).drew
    replace b0_0 := b0.cell (i := 0) rfl
    replace b0_1 := b0.cell (i := 1) rfl
    replace b0_2 := b0.cell (i := 2) rfl
    replace b1_0 := b1.cell (i := 0) rfl
    replace b1_1 := b1.cell (i := 1) rfl
    replace b1_2 := b1.cell (i := 2) rfl
    have r0_0 := r0.cell (i := 0) rfl
    have r0_1 := r0.cell (i := 1) rfl
    have r0_2 := r0.cell (i := 2) rfl
    have r0_f0 := r0.free 0
    have r0_f1 := r0.free 1
    have r0_f2 := r0.free 2
    replace x1_0 := x1.cell (i := 0) rfl
    replace x1_1 := x1.cell (i := 1) rfl
    replace x2_0 := x2.cell (i := 0) rfl
    replace x2_1 := x2.cell (i := 1) rfl
    replace x3_0 := x3.cell (i := 0) rfl
    replace x3_1 := x3.cell (i := 1) rfl
    replace x3_f0 := x3.free 0
    replace x3_f1 := x3.free 1
    go_region_held3 (fun w' => Up w w' ∧ w'.cell? ⟨w.heap.size, 0, none⟩ = some (.bool s) ∧ w'.cell? ⟨w.heap.size, 1, none⟩ = some (.slice A l.length c) ∧ w'.cell? ⟨w.heap.size, 2, none⟩ = some (.slice D m.length d) ∧ w'.cell? ⟨w.heap.size + 1, 0, none⟩ = some (.bool t) ∧ w'.cell? ⟨w.heap.size + 1, 1, none⟩ = some (.slice A' l'.length c') ∧ w'.cell? ⟨w.heap.size + 1, 2, none⟩ = some (.slice D' m'.length d') ∧ w'.cell? ⟨W1.heap.size, 0, none⟩ = some (.bool sp) ∧ w'.cell? ⟨W1.heap.size, 1, none⟩ = some (.slice Ap np cp) ∧ w'.cell? ⟨W3.heap.size, 0, none⟩ = some (.bool so) ∧ w'.cell? ⟨W3.heap.size, 1, none⟩ = some (.slice Ao no co) ∧ w'.cell? ⟨W6.heap.size, 0, none⟩ = some (.bool (!(Wd.ngb X == so))) ∧ w'.cell? ⟨W6.heap.size, 1, none⟩ = some (.slice Aup nup cup))
        (first | with_reducible exact ⟨UP, b0_0, b0_1, b0_2, b1_0, b1_1, b1_2, x1_0, x1_1, x2_0, x2_1, x3_0, x3_1⟩ | with_reducible exact ⟨(((UP.setCell (p := ⟨w.heap.size + 1 + 1, 0, none⟩) (by dsimp only; omega) _).setCell (p := ⟨w.heap.size + 1 + 1, 1, none⟩) (by dsimp only; omega) _).setCell (p := ⟨w.heap.size + 1 + 1, 2, none⟩) (by dsimp only; omega) _), (cell_far_block (cell_far_block (cell_far_block b0_0 (by dsimp only; omega)) (by dsimp only; omega)) (by dsimp only; omega)), (cell_far_block (cell_far_block (cell_far_block b0_1 (by dsimp only; omega)) (by dsimp only; omega)) (by dsimp only; omega)), (cell_far_block (cell_far_block (cell_far_block b0_2 (by dsimp only; omega)) (by dsimp only; omega)) (by dsimp only; omega)), (cell_far_block (cell_far_block (cell_far_block b1_0 (by dsimp only; omega)) (by dsimp only; omega)) (by dsimp only; omega)), (cell_far_block (cell_far_block (cell_far_block b1_1 (by dsimp only; omega)) (by dsimp only; omega)) (by dsimp only; omega)), (cell_far_block (cell_far_block (cell_far_block b1_2 (by dsimp only; omega)) (by dsimp only; omega)) (by dsimp only; omega)), (cell_far_block (cell_far_block (cell_far_block x1_0 (by dsimp only; omega)) (by dsimp only; omega)) (by dsimp only; omega)), (cell_far_block (cell_far_block (cell_far_block x1_1 (by dsimp only; omega)) (by dsimp only; omega)) (by dsimp only; omega)), (cell_far_block (cell_far_block (cell_far_block x2_0 (by dsimp only; omega)) (by dsimp only; omega)) (by dsimp only; omega)), (cell_far_block (cell_far_block (cell_far_block x2_1 (by dsimp only; omega)) (by dsimp only; omega)) (by dsimp only; omega)), (cell_far_block (cell_far_block (cell_far_block x3_0 (by dsimp only; omega)) (by dsimp only; omega)) (by dsimp only; omega)), (cell_far_block (cell_far_block (cell_far_block x3_1 (by dsimp only; omega)) (by dsimp only; omega)) (by dsimp only; omega))⟩ | with_reducible exact ⟨(UP.alloc_drew _), (cell_alloc_drew b0_0), (cell_alloc_drew b0_1), (cell_alloc_drew b0_2), (cell_alloc_drew b1_0), (cell_alloc_drew b1_1), (cell_alloc_drew b1_2), (cell_alloc_drew x1_0), (cell_alloc_drew x1_1), (cell_alloc_drew x2_0), (cell_alloc_drew x2_1), (cell_alloc_drew x3_0), (cell_alloc_drew x3_1)⟩ | with_reducible exact ⟨(UP.alloc2_drew _ _), (cell_alloc2_drew b0_0), (cell_alloc2_drew b0_1), (cell_alloc2_drew b0_2), (cell_alloc2_drew b1_0), (cell_alloc2_drew b1_1), (cell_alloc2_drew b1_2), (cell_alloc2_drew x1_0), (cell_alloc2_drew x1_1), (cell_alloc2_drew x2_0), (cell_alloc2_drew x2_1), (cell_alloc2_drew x3_0), (cell_alloc2_drew x3_1)⟩ | (simp only [← World.setCell_drew]; with_reducible exact ⟨(((UP.setCell (p := ⟨w.heap.size + 1 + 1, 0, none⟩) (by dsimp only; omega) _).setCell (p := ⟨w.heap.size + 1 + 1, 1, none⟩) (by dsimp only; omega) _).setCell (p := ⟨w.heap.size + 1 + 1, 2, none⟩) (by dsimp only; omega) _), (cell_far_block (cell_far_block (cell_far_block b0_0 (by dsimp only; omega)) (by dsimp only; omega)) (by dsimp only; omega)), (cell_far_block (cell_far_block (cell_far_block b0_1 (by dsimp only; omega)) (by dsimp only; omega)) (by dsimp only; omega)), (cell_far_block (cell_far_block (cell_far_block b0_2 (by dsimp only; omega)) (by dsimp only; omega)) (by dsimp only; omega)), (cell_far_block (cell_far_block (cell_far_block b1_0 (by dsimp only; omega)) (by dsimp only; omega)) (by dsimp only; omega)), (cell_far_block (cell_far_block (cell_far_block b1_1 (by dsimp only; omega)) (by dsimp only; omega)) (by dsimp only; omega)), (cell_far_block (cell_far_block (cell_far_block b1_2 (by dsimp only; omega)) (by dsimp only; omega)) (by dsimp only; omega)), (cell_far_block (cell_far_block (cell_far_block x1_0 (by dsimp only; omega)) (by dsimp only; omega)) (by dsimp only; omega)), (cell_far_block (cell_far_block (cell_far_block x1_1 (by dsimp only; omega)) (by dsimp only; omega)) (by dsimp only; omega)), (cell_far_block (cell_far_block (cell_far_block x2_0 (by dsimp only; omega)) (by dsimp only; omega)) (by dsimp only; omega)), (cell_far_block (cell_far_block (cell_far_block x2_1 (by dsimp only; omega)) (by dsimp only; omega)) (by dsimp only; omega)), (cell_far_block (cell_far_block (cell_far_block x3_0 (by dsimp only; omega)) (by dsimp only; omega)) (by dsimp only; omega)), (cell_far_block (cell_far_block (cell_far_block x3_1 (by dsimp only; omega)) (by dsimp only; omega)) (by dsimp only; omega))⟩) | go_keep)
        ((first
          | (go_at_call 95
             ((with_reducible refine (prod_mul pd o (by omega) (by omega)).mono ?_))
             rintro e W8 ⟨V8, rfl, n, u8⟩
             replace H := H.up u8
             replace K := K.up u8
             replace p := p.up u8
             replace pd := pd.up u8
             replace o := o.up u8
             replace od := od.up u8
             replace up := up.up u8
             replace WU := WU.up u8
             try (replace n := n.up u8)
             try (replace q1 := q1.up u8)
             replace b0 := b0.up u8
             replace b1 := b1.up u8
             replace r0 := r0.up u8
             replace x1 := x1.up u8
             replace x2 := x2.up u8
             replace x3 := x3.up u8
             replace UP := UP.trans u8
             replace b0_0 := b0.cell (i := 0) rfl
             replace b0_1 := b0.cell (i := 1) rfl
             replace b0_2 := b0.cell (i := 2) rfl
             replace b1_0 := b1.cell (i := 0) rfl
             replace b1_1 := b1.cell (i := 1) rfl
             replace b1_2 := b1.cell (i := 2) rfl
             replace r0_0 := r0.cell (i := 0) rfl
             replace r0_1 := r0.cell (i := 1) rfl
             replace r0_2 := r0.cell (i := 2) rfl
             replace r0_f0 := r0.free 0
             replace r0_f1 := r0.free 1
             replace r0_f2 := r0.free 2
             replace x1_0 := x1.cell (i := 0) rfl
             replace x1_1 := x1.cell (i := 1) rfl
             replace x2_0 := x2.cell (i := 0) rfl
             replace x2_1 := x2.cell (i := 1) rfl
             replace x3_0 := x3.cell (i := 0) rfl
             replace x3_1 := x3.cell (i := 1) rfl
             replace x3_f0 := x3.free 0
             replace x3_f1 := x3.free 1
             clear u8)
          | (go_at_call 93
             ((with_reducible refine (frac_cancel WU n (by omega) (by omega) HM.out).mono ?_))
             rintro e W9 ⟨V9, rfl, q1, u9⟩
             replace H := H.up u9
             replace K := K.up u9
             replace p := p.up u9
             replace pd := pd.up u9
             replace o := o.up u9
             replace od := od.up u9
             replace up := up.up u9
             replace WU := WU.up u9
             try (replace n := n.up u9)
             try (replace q1 := q1.up u9)
             replace b0 := b0.up u9
             replace b1 := b1.up u9
             replace r0 := r0.up u9
             replace x1 := x1.up u9
             replace x2 := x2.up u9
             replace x3 := x3.up u9
             replace UP := UP.trans u9
             replace b0_0 := b0.cell (i := 0) rfl
             replace b0_1 := b0.cell (i := 1) rfl
             replace b0_2 := b0.cell (i := 2) rfl
             replace b1_0 := b1.cell (i := 0) rfl
             replace b1_1 := b1.cell (i := 1) rfl
             replace b1_2 := b1.cell (i := 2) rfl
             replace r0_0 := r0.cell (i := 0) rfl
             replace r0_1 := r0.cell (i := 1) rfl
             replace r0_2 := r0.cell (i := 2) rfl
             replace r0_f0 := r0.free 0
             replace r0_f1 := r0.free 1
             replace r0_f2 := r0.free 2
             replace x1_0 := x1.cell (i := 0) rfl
             replace x1_1 := x1.cell (i := 1) rfl
             replace x2_0 := x2.cell (i := 0) rfl
             replace x2_1 := x2.cell (i := 1) rfl
             replace x3_0 := x3.cell (i := 0) rfl
             replace x3_1 := x3.cell (i := 1) rfl
             replace x3_f0 := x3.free 0
             replace x3_f1 := x3.free 1
             clear u9
             rw [HQ2.out] at q1
             obtain ⟨Xq1, Yq1, rfl, q1, q1d⟩ := q1
             obtain ⟨Aq1, nq1, cq1, rfl⟩ := q1.shape
             obtain ⟨Aq1d, nq1d, cq1d, rfl⟩ := q1d.shape)))
    all_goals
      go_wp2
      exact end_qb_as rfl HR.out rfl rfl rfl rfl ⟨_, _, rfl, q1, q1d⟩ r0 trivial trivial trivial UP (by omega)
end Go.Proofs.Ytjkkeilmnklpcaa
