/-
  Layer 9: fractions: made, turned round, rounded down, told.
  Layer 9: fractions: on the other side of 0, without a sign, powers.
  Layer 9: fractions: powers.
-/
import Derived.Test.YtmmcffceeahemaaGreatZsFracLow
import Derived.Test.YtmmcffceeahemaaGreatZsPlain
import Derived.Test.YtmmcffceeahemaaGreatZsLowTwos
set_option linter.unusedVariables false
set_option linter.unusedSimpArgs false
namespace Go.Proofs.YtmmcffceeahemaaGreat
open Go.RowKit
set_option maxHeartbeats 1600000 in
theorem frac_new {v u : Value} {z : Int} {m : List Nat} {j : Nat} {w : World} (h : Wh w v z j) (h' : Ws w u m) (hj : j ≤ 100000000) (hk : m.length ≤ 100000000) : Calls Tryz.prog 160 #[v, u] w (RetQB (mkRat z (Wd.val m)) (!decide (Wd.val m = 0)) w) := by
 have H := h
 obtain ⟨s, v1, l, rfl, hl, _⟩ := h
 obtain ⟨A, c, rfl⟩ := hl.form
 obtain ⟨D, d, rfl⟩ := h'.form
 clear hl
 by_cases h0 : Wd.val m = 0
 · have H0 : Hid (decide (Wd.val m = 0) = true) := Lib.hid (decide_eq_true h0)
   have HR : Hid (mkRat z (Wd.val m) = 0 ∧ (!decide (Wd.val m = 0)) = false) := Lib.hid (by rw [h0]; simp)
   clear h0
   have UP : Up w ((w.alloc (.cells #[.bool s, .slice A l.length c] 32)).alloc (.cells #[.bool false, .slice none 0 0, .slice none 0 0] 34)) := ((Up.refl w).alloc _).alloc _
   obtain ⟨b0, r0⟩ := bx_two 32 34 w [.bool s, .slice A l.length c] [.bool false, .slice none 0 0, .slice none 0 0]
   go_enter Tryz.func160, Tryz.ntmps160
   go_wp2_with fail
   generalize ((w.alloc (.cells #[.bool s, .slice A l.length c] 32)).alloc (.cells #[.bool false, .slice none 0 0, .slice none 0 0] 34)) = W at *
   replace H := H.up UP
   replace h' := h'.up UP
   obtain ⟨b0_0, b0_1⟩ := b0.c2
   obtain ⟨r0_0, r0_1, r0_2⟩ := r0.c3
   have r0_f0 := r0.free 0
   have r0_f1 := r0.free 1
   have r0_f2 := r0.free 2
   go_wp2_with fail
   ((with_reducible refine (nat_zero h' (by omega)).mono ?_))
   rintro e W1 ⟨rfl, rfl⟩
   rw [H0.out]
   go_wp2_with fail
   ((with_reducible refine (frac_of0 _).mono ?_))
   rintro e W2 ⟨V2, rfl, q1, u2⟩
   replace H := H.up u2
   replace h' := h'.up u2
   replace b0 := b0.up u2
   replace r0 := r0.up u2
   replace UP := UP.trans u2
   clear b0_0 b0_1 r0_0 r0_1 r0_2
   obtain ⟨b0_0, b0_1⟩ := b0.c2
   obtain ⟨r0_0, r0_1, r0_2⟩ := r0.c3
   replace r0_f0 := r0.free 0
   replace r0_f1 := r0.free 1
   replace r0_f2 := r0.free 2
   clear u2
   obtain ⟨Xq1, Yq1, rfl, q1, q1d⟩ := q1
   obtain ⟨Aq1, nq1, cq1, rfl⟩ := q1.shape
   obtain ⟨Aq1d, nq1d, cq1d, rfl⟩ := q1d.shape
   go_wp2_with fail
   exact end_qb_as HR.out.1 HR.out.2 rfl rfl rfl rfl ⟨_, _, rfl, q1, q1d⟩ r0 trivial trivial trivial UP (by omega)
 · have H0 : Hid (decide (Wd.val m = 0) = false) := Lib.hid (decide_eq_false h0)
   have HR : Hid ((!decide (Wd.val m = 0)) = true) := Lib.hid (by simp [h0])
   have HN := Lib.hid h0
   clear h0
   have UP : Up w ((w.alloc (.cells #[.bool s, .slice A l.length c] 32)).alloc (.cells #[.bool false, .slice none 0 0, .slice none 0 0] 34)) := ((Up.refl w).alloc _).alloc _
   obtain ⟨b0, r0⟩ := bx_two 32 34 w [.bool s, .slice A l.length c] [.bool false, .slice none 0 0, .slice none 0 0]
   go_enter Tryz.func160, Tryz.ntmps160
   go_wp2_with fail
   generalize ((w.alloc (.cells #[.bool s, .slice A l.length c] 32)).alloc (.cells #[.bool false, .slice none 0 0, .slice none 0 0] 34)) = W at *
   replace H := H.up UP
   replace h' := h'.up UP
   obtain ⟨b0_0, b0_1⟩ := b0.c2
   obtain ⟨r0_0, r0_1, r0_2⟩ := r0.c3
   have r0_f0 := r0.free 0
   have r0_f1 := r0.free 1
   have r0_f2 := r0.free 2
   go_wp2_with fail
   ((with_reducible refine (nat_zero h' (by omega)).mono ?_))
   rintro e W1 ⟨rfl, rfl⟩
   rw [H0.out]
   go_wp2_with fail
   ((with_reducible refine (frac_cancel H h' (by omega) (by omega) HN.out).mono ?_))
   rintro e W2 ⟨V2, rfl, q1, u2⟩
   replace H := H.up u2
   replace h' := h'.up u2
   replace b0 := b0.up u2
   replace r0 := r0.up u2
   replace UP := UP.trans u2
   clear b0_0 b0_1 r0_0 r0_1 r0_2
   obtain ⟨b0_0, b0_1⟩ := b0.c2
   obtain ⟨r0_0, r0_1, r0_2⟩ := r0.c3
   replace r0_f0 := r0.free 0
   replace r0_f1 := r0.free 1
   replace r0_f2 := r0.free 2
   clear u2
   obtain ⟨Xq1, Yq1, rfl, q1, q1d⟩ := q1
   obtain ⟨Aq1, nq1, cq1, rfl⟩ := q1.shape
   obtain ⟨Aq1d, nq1d, cq1d, rfl⟩ := q1d.shape
   go_wp2_with fail
   exact end_qb_as rfl HR.out rfl rfl rfl rfl ⟨_, _, rfl, q1, q1d⟩ r0 trivial trivial trivial UP (by omega)
theorem lq_int {n : Int} (hn : -9223372036854775808 ≤ n ∧ n ≤ 9223372036854775807) : Wd.Lq (n : Rat) 2 := Wd.Lq.int (Wd.words_64 (by omega)) (by omega)
set_option maxHeartbeats 1600000 in
theorem frac_ratio {n d : Int} (hn : -9223372036854775808 ≤ n ∧ n ≤ 9223372036854775807) (hd : -9223372036854775808 ≤ d ∧ d ≤ 9223372036854775807) (w : World) : Calls Tryz.prog 88 #[.int .i64 n, .int .i64 d] w (RetQB ((n : Rat) / (d : Rat)) (!decide (d = 0)) w) := by
 have UP : Up w (w.alloc (.cells #[.bool false, .slice none 0 0, .slice none 0 0] 34)) := (Up.refl w).alloc _
 have r0 := Bx.new 34 w [.bool false, .slice none 0 0, .slice none 0 0]
 go_enter Tryz.func88, Tryz.ntmps88
 go_wp2_with fail
 generalize (w.alloc (.cells #[.bool false, .slice none 0 0, .slice none 0 0] 34)) = W at *
 obtain ⟨r0_0, r0_1, r0_2⟩ := r0.c3
 have r0_f0 := r0.free 0
 have r0_f1 := r0.free 1
 have r0_f2 := r0.free 2
 go_wp2_with fail
 ((with_reducible refine (frac_of hn _).mono ?_))
 rintro e W1 ⟨V1, rfl, q1, u1⟩
 replace r0 := r0.up u1
 replace UP := UP.trans u1
 clear r0_0 r0_1 r0_2
 obtain ⟨r0_0, r0_1, r0_2⟩ := r0.c3
 replace r0_f0 := r0.free 0
 replace r0_f1 := r0.free 1
 replace r0_f2 := r0.free 2
 clear u1
 go_wp2_with fail
 ((with_reducible refine (frac_of hd _).mono ?_))
 rintro e W2 ⟨V2, rfl, q2, u2⟩
 replace q1 := q1.up u2
 replace r0 := r0.up u2
 replace UP := UP.trans u2
 clear r0_0 r0_1 r0_2
 obtain ⟨r0_0, r0_1, r0_2⟩ := r0.c3
 replace r0_f0 := r0.free 0
 replace r0_f1 := r0.free 1
 replace r0_f2 := r0.free 2
 clear u2
 go_wp2_with fail
 ((with_reducible refine (frac_quo (q1.fr (lq_int hn)) (q2.fr (lq_int hd)) (by omega) (by omega)).mono ?_))
 rintro e W3 ⟨V3, rfl, q3, u3⟩
 replace q1 := q1.up u3
 replace q2 := q2.up u3
 replace r0 := r0.up u3
 replace UP := UP.trans u3
 clear r0_0 r0_1 r0_2
 obtain ⟨r0_0, r0_1, r0_2⟩ := r0.c3
 replace r0_f0 := r0.free 0
 replace r0_f1 := r0.free 1
 replace r0_f2 := r0.free 2
 clear u3
 obtain ⟨Xq3, Yq3, rfl, q3, q3d⟩ := q3
 obtain ⟨Aq3, nq3, cq3, rfl⟩ := q3.shape
 obtain ⟨Aq3d, nq3d, cq3d, rfl⟩ := q3d.shape
 go_wp2_with fail
 exact end_qb_as rfl rfl rfl rfl rfl rfl ⟨_, _, rfl, q3, q3d⟩ r0 trivial trivial trivial UP (by omega)
set_option maxHeartbeats 1600000 in
theorem frac_same {v u : Value} {q r : Rat} {j k : Nat} {w : World} (h : Fr w v q j) (h' : Fr w u r k) (hj : j ≤ 20000000) (hk : k ≤ 20000000) : Calls Tryz.prog 89 #[v, u] w fun e w' => e = .returned (.bool (decide (q = r))) ∧ Up w w' := by
 have HE : Hid ((Wd.cmpQ q r == 0) = decide (q = r)) := Lib.hid (by
  have := Wd.cmpQ_zero q r
  rw [Bool.eq_iff_iff]
  simpa using this)
 have H := h
 have K := h'
 obtain ⟨s, v1, v2, l, m, rfl, hl, hm, _⟩ := h
 obtain ⟨t, v3, v4, l', m', rfl, hl', hm', _⟩ := h'
 obtain ⟨A, c, rfl⟩ := hl.form
 obtain ⟨D, d, rfl⟩ := hm.form
 obtain ⟨A', c', rfl⟩ := hl'.form
 obtain ⟨D', d', rfl⟩ := hm'.form
 clear hl hm hl' hm'
 have UP : Up w ((w.alloc (.cells #[.bool s, .slice A l.length c, .slice D m.length d] 34)).alloc (.cells #[.bool t, .slice A' l'.length c', .slice D' m'.length d'] 34)) := ((Up.refl w).alloc _).alloc _
 obtain ⟨b0, b1⟩ := bx_two 34 34 w [.bool s, .slice A l.length c, .slice D m.length d] [.bool t, .slice A' l'.length c', .slice D' m'.length d']
 go_enter Tryz.func89, Tryz.ntmps89
 go_wp2_with fail
 generalize ((w.alloc (.cells #[.bool s, .slice A l.length c, .slice D m.length d] 34)).alloc (.cells #[.bool t, .slice A' l'.length c', .slice D' m'.length d'] 34)) = W at *
 replace H := H.up UP
 replace K := K.up UP
 obtain ⟨b0_0, b0_1, b0_2⟩ := b0.c3
 obtain ⟨b1_0, b1_1, b1_2⟩ := b1.c3
 go_wp2_with fail
 ((with_reducible refine (frac_cmp H K (by omega) (by omega)).mono ?_))
 rintro e W1 ⟨rfl, u1⟩
 replace H := H.up u1
 replace K := K.up u1
 replace b0 := b0.up u1
 replace b1 := b1.up u1
 replace UP := UP.trans u1
 clear b0_0 b0_1 b0_2 b1_0 b1_1 b1_2
 obtain ⟨b0_0, b0_1, b0_2⟩ := b0.c3
 obtain ⟨b1_0, b1_1, b1_2⟩ := b1.c3
 clear u1
 go_wp2
 go_ret
 exact ⟨by rw [← HE.out]; rfl, UP⟩
set_option maxHeartbeats 1600000 in
theorem frac_size {w : World} {s : Bool} {u d : Value} {l m : List Nat} (hl : Ws w u l) (hm : Ws w d m) (hle : l.length ≤ 100000000) (hme : m.length ≤ 100000000) :
 Calls Tryz.prog 138 #[.agg #[.bool s, u, d]] w (RetN ((Wd.bl (Wd.val l) + Wd.bl (Wd.val m) : Nat) : Int) w) := by
 have b1 := Wd.bl_len (Wd.words_val_length hl.ok)
 have b2 := Wd.bl_len (Wd.words_val_length hm.ok)
 obtain ⟨A, c, rfl⟩ := hl.form
 obtain ⟨D, d, rfl⟩ := hm.form
 have UP : Up w (w.alloc (.cells #[.bool s, .slice A l.length c, .slice D m.length d] 34)) := (Up.refl w).alloc _
 have b0 := Bx.new 34 w [.bool s, .slice A l.length c, .slice D m.length d]
 go_enter Tryz.func138, Tryz.ntmps138
 go_wp2_with fail
 generalize (w.alloc (.cells #[.bool s, .slice A l.length c, .slice D m.length d] 34)) = W at *
 replace hl := hl.up UP
 replace hm := hm.up UP
 obtain ⟨b0_0, b0_1, b0_2⟩ := b0.c3
 have hw : IntKind.i64.wrap (((Wd.bl (Wd.val l) : Nat) : Int) + ((Wd.bl (Wd.val m) : Nat) : Int)) = ((Wd.bl (Wd.val l) : Nat) : Int) + ((Wd.bl (Wd.val m) : Nat) : Int) := IntWalk.i64_in _ (by omega)
 replace hl := hl.up (Up.refl W).drew
 replace hm := hm.up (Up.refl W).drew
 replace b0 := b0.up (Up.refl W).drew
 replace UP := UP.trans (Up.refl W).drew
 clear b0_0 b0_1 b0_2
 obtain ⟨b0_0, b0_1, b0_2⟩ := b0.c3
 go_region_held3 (fun w' => Up w w' ∧ w'.cell? ⟨w.heap.size, 0, none⟩ = some (.bool s) ∧ w'.cell? ⟨w.heap.size, 1, none⟩ = some (.slice A l.length c) ∧ w'.cell? ⟨w.heap.size, 2, none⟩ = some (.slice D m.length d))
  (first | with_reducible exact ⟨UP, b0_0, b0_1, b0_2⟩ | with_reducible exact ⟨(UP.alloc_drew _), (cell_alloc_drew b0_0), (cell_alloc_drew b0_1), (cell_alloc_drew b0_2)⟩ | with_reducible exact ⟨(UP.alloc2_drew _ _), (cell_alloc2_drew b0_0), (cell_alloc2_drew b0_1), (cell_alloc2_drew b0_2)⟩ | go_keep)
  ((first
    | (go_at_call 166
       ((with_reducible refine (twos_len hl (by omega)).mono ?_))
       rintro e W1 ⟨rfl, u1⟩
       replace hl := hl.up u1
       replace hm := hm.up u1
       replace b0 := b0.up u1
       replace UP := UP.trans u1
       clear b0_0 b0_1 b0_2
       obtain ⟨b0_0, b0_1, b0_2⟩ := b0.c3
       clear u1)
    | (go_at_call 166
       ((with_reducible refine (twos_len hm (by omega)).mono ?_))
       rintro e W2 ⟨rfl, u2⟩
       replace hl := hl.up u2
       replace hm := hm.up u2
       replace b0 := b0.up u2
       replace UP := UP.trans u2
       clear b0_0 b0_1 b0_2
       obtain ⟨b0_0, b0_1, b0_2⟩ := b0.c3
       clear u2)))
 all_goals
  go_wp2
  go_ret
  exact ⟨by rw [Int.natCast_add]; rfl, UP⟩
set_option maxHeartbeats 3200000 in
theorem frac_floor {v : Value} {q : Rat} {k : Nat} {w : World} (h : Fr w v q k) (hk : k ≤ 40000000) : Calls Tryz.prog 159 #[v] w (RetZ q.floor w) := by
 have H := h
 obtain ⟨s, v1, v2, l, m, rfl, hl, hm, _, hle, hme, h1⟩ := h
 obtain ⟨A, c, rfl⟩ := hl.form
 obtain ⟨D, d, rfl⟩ := hm.form
 clear hl hm
 have UP : Up w ((w.alloc (.cells #[.bool s, .slice A l.length c, .slice D m.length d] 34)).alloc (.cells #[.bool false, .slice none 0 0] 32)) := ((Up.refl w).alloc _).alloc _
 obtain ⟨b0, r0⟩ := bx_two 34 32 w [.bool s, .slice A l.length c, .slice D m.length d] [.bool false, .slice none 0 0]
 go_enter Tryz.func159, Tryz.ntmps159
 go_wp2_with fail
 generalize ((w.alloc (.cells #[.bool s, .slice A l.length c, .slice D m.length d] 34)).alloc (.cells #[.bool false, .slice none 0 0] 32)) = W at *
 replace H := H.up UP
 obtain ⟨b0_0, b0_1, b0_2⟩ := b0.c3
 obtain ⟨r0_0, r0_1⟩ := r0.c2
 have r0_f0 := r0.free 0
 have r0_f1 := r0.free 1
 go_wp2_with fail
 ((with_reducible refine (frac_parts H (by omega)).mono ?_))
 rintro e W1 ⟨sp, Lp, Dp, lp_, mp_, rfl, p, pd, hp, hlp, hmp, u1⟩
 obtain ⟨Ap, np, cp, rfl⟩ := p.shape
 obtain ⟨Apd, npd, cpd, rfl⟩ := pd.shape
 replace H := H.up u1
 replace b0 := b0.up u1
 replace r0 := r0.up u1
 replace UP := UP.trans u1
 clear b0_0 b0_1 b0_2 r0_0 r0_1
 obtain ⟨b0_0, b0_1, b0_2⟩ := b0.c3
 obtain ⟨r0_0, r0_1⟩ := r0.c2
 replace r0_f0 := r0.free 0
 replace r0_f1 := r0.free 1
 clear u1
 have HF : Hid (Wd.iv sp (Wd.val lp_) / Wd.iv false (Wd.val mp_) = q.floor) := Lib.hid (by rw [← hp.out.1, Wd.floor_mk _ hp.out.2]; rfl)
 have b0_0a := fun O0 => (cell_alloc (o := O0) b0_0)
 have b0_1a := fun O0 => (cell_alloc (o := O0) b0_1)
 have b0_2a := fun O0 => (cell_alloc (o := O0) b0_2)
 have r0_0a := fun O0 => (cell_alloc (o := O0) r0_0)
 have r0_f0a := fun O0 => (r0.up ((Up.refl W1).alloc O0)).free 0
 have r0_1a := fun O0 => (cell_alloc (o := O0) r0_1)
 have r0_f1a := fun O0 => (r0.up ((Up.refl W1).alloc O0)).free 1
 go_wp2_with fail
 clear b0_0a b0_1a b0_2a r0_0a r0_f0a r0_1a r0_f1a
 have x1 := Bx.new 32 W1 [.bool sp, .slice Ap np cp]
 have b0_lt_x1 := b0.lt
 have r0_lt_x1 := r0.lt
 have nu := ((Up.refl W1).alloc (.cells #[.bool sp, .slice Ap np cp] 32))
 replace H := H.up nu
 replace p := p.up nu
 replace pd := pd.up nu
 replace b0 := b0.up nu
 replace r0 := r0.up nu
 replace UP := UP.trans nu
 clear nu
 generalize (W1.alloc (.cells #[.bool sp, .slice Ap np cp] 32)) = W2 at *
 clear b0_0 b0_1 b0_2 r0_0 r0_1
 obtain ⟨b0_0, b0_1, b0_2⟩ := b0.c3
 obtain ⟨r0_0, r0_1⟩ := r0.c2
 replace r0_f0 := r0.free 0
 replace r0_f1 := r0.free 1
 obtain ⟨x1_0, x1_1⟩ := x1.c2
 ((with_reducible refine (whole_floor (Wh.mk sp p (k := 40000000) (by omega)) (Wh.mk false pd (k := 40000000) (by omega)) (by omega) (by omega) (by have := hp.out.2; rw [Wd.iv_false]; omega)).mono ?_))
 rintro e W3 ⟨V3, V3', yb, rfl, a, b, u3⟩
 replace H := H.up u3
 replace p := p.up u3
 replace pd := pd.up u3
 replace b0 := b0.up u3
 replace r0 := r0.up u3
 replace x1 := x1.up u3
 replace UP := UP.trans u3
 clear b0_0 b0_1 b0_2 r0_0 r0_1 x1_0 x1_1
 obtain ⟨b0_0, b0_1, b0_2⟩ := b0.c3
 obtain ⟨r0_0, r0_1⟩ := r0.c2
 replace r0_f0 := r0.free 0
 replace r0_f1 := r0.free 1
 obtain ⟨x1_0, x1_1⟩ := x1.c2
 clear u3
 rw [HF.out] at a
 obtain ⟨Xa, rfl, a⟩ := a
 obtain ⟨Aa, na, ca, rfl⟩ := a.shape
 obtain ⟨Xb, rfl, b⟩ := b
 obtain ⟨Ab, nb, cb, rfl⟩ := b.shape
 have b0_0a := fun O0 => (cell_alloc (o := O0) b0_0)
 have b0_1a := fun O0 => (cell_alloc (o := O0) b0_1)
 have b0_2a := fun O0 => (cell_alloc (o := O0) b0_2)
 have r0_0a := fun O0 => (cell_alloc (o := O0) r0_0)
 have r0_f0a := fun O0 => (r0.up ((Up.refl W3).alloc O0)).free 0
 have r0_1a := fun O0 => (cell_alloc (o := O0) r0_1)
 have r0_f1a := fun O0 => (r0.up ((Up.refl W3).alloc O0)).free 1
 have x1_0a := fun O0 => (cell_alloc (o := O0) x1_0)
 have x1_1a := fun O0 => (cell_alloc (o := O0) x1_1)
 have b0_0b := fun O0 O1 => (cell_alloc (o := O1) (cell_alloc (o := O0) b0_0))
 have b0_1b := fun O0 O1 => (cell_alloc (o := O1) (cell_alloc (o := O0) b0_1))
 have b0_2b := fun O0 O1 => (cell_alloc (o := O1) (cell_alloc (o := O0) b0_2))
 have r0_0b := fun O0 O1 => (cell_alloc (o := O1) (cell_alloc (o := O0) r0_0))
 have r0_f0b := fun O0 O1 => (r0.up (((Up.refl W3).alloc O0).alloc O1)).free 0
 have r0_1b := fun O0 O1 => (cell_alloc (o := O1) (cell_alloc (o := O0) r0_1))
 have r0_f1b := fun O0 O1 => (r0.up (((Up.refl W3).alloc O0).alloc O1)).free 1
 have x1_0b := fun O0 O1 => (cell_alloc (o := O1) (cell_alloc (o := O0) x1_0))
 have x1_1b := fun O0 O1 => (cell_alloc (o := O1) (cell_alloc (o := O0) x1_1))
 go_wp2_with fail
 clear b0_0a b0_1a b0_2a r0_0a r0_f0a r0_1a r0_f1a x1_0a x1_1a b0_0b b0_1b b0_2b r0_0b r0_f0b r0_1b r0_f1b x1_0b x1_1b
 obtain ⟨x2, x3⟩ := bx_two 32 32 W3 [.bool (Wd.ngb q.floor), .slice Aa na ca] [.bool (Wd.ngb yb), .slice Ab nb cb]
 have b0_lt_x2 := b0.lt
 have r0_lt_x2 := r0.lt
 have x1_lt_x2 := x1.lt
 have b0_lt_x3 := b0.lt
 have r0_lt_x3 := r0.lt
 have x1_lt_x3 := x1.lt
 have nu := ((((Up.refl W3).alloc (.cells #[.bool (Wd.ngb q.floor), .slice Aa na ca] 32))).alloc (.cells #[.bool (Wd.ngb yb), .slice Ab nb cb] 32))
 replace H := H.up nu
 replace p := p.up nu
 replace pd := pd.up nu
 replace a := a.up nu
 replace b := b.up nu
 replace b0 := b0.up nu
 replace r0 := r0.up nu
 replace x1 := x1.up nu
 replace UP := UP.trans nu
 clear nu
 generalize ((W3.alloc (.cells #[.bool (Wd.ngb q.floor), .slice Aa na ca] 32)).alloc (.cells #[.bool (Wd.ngb yb), .slice Ab nb cb] 32)) = W4 at *
 clear b0_0 b0_1 b0_2 r0_0 r0_1 x1_0 x1_1
 obtain ⟨b0_0, b0_1, b0_2⟩ := b0.c3
 obtain ⟨r0_0, r0_1⟩ := r0.c2
 replace r0_f0 := r0.free 0
 replace r0_f1 := r0.free 1
 obtain ⟨x1_0, x1_1⟩ := x1.c2
 obtain ⟨x2_0, x2_1⟩ := x2.c2
 obtain ⟨x3_0, x3_1⟩ := x3.c2
 exact end_z rfl rfl rfl ⟨_, rfl, a⟩ r0 trivial trivial UP (by omega)
end Go.Proofs.YtmmcffceeahemaaGreat
set_option linter.unusedVariables false
set_option linter.unusedSimpArgs false
set_option linter.unusedVariables false
set_option linter.unusedSimpArgs false
