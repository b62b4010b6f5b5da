/-
  The walk of PolySums.
-/
import Derived.Test.YtmmcffceeahemaaGreatPolyAs
import Derived.Test.YtmmcffceeahemaaGreatPolyWorks
set_option linter.unusedVariables false
set_option linter.unusedSimpArgs false
namespace Go.Proofs.YtmmcffceeahemaaGreat
open Go.RowKit

theorem ref_long_10_4 {v : Value} {rs : List Raw} {w : World} (h : RSq w v rs) : Calls Tryz.prog 19 #[v, .int .i64 10, .int .i64 4] w (RetLong11 rs 10 4 w) := ref_long11r 10 4 h (by omega) (by omega)
theorem ref_long9s {s : Bool} {A D : Option Addr} {l m : List Nat} {c d : Nat} {w : World} (k : Nat) {K : Int} (hK : K = (k : Int)) (hk : k ≤ 1000) : Calls Tryz.prog 20 #[.agg #[.bool s, .slice A l.length c, .slice D m.length d], .int .i64 K] w fun e w' => ∃ t, e = .returned (.bool t) ∧ Hid (t = false → l.length ≤ k ∧ m.length ≤ k) ∧ Up w w' := by
 subst hK
 by_cases h : (k : Int) < (l.length : Int) ∨ (k : Int) < (m.length : Int)
 · refine (ref_long9_yes h (by omega)).mono ?_
   rintro e w' ⟨rfl, u⟩
   exact ⟨true, rfl, Lib.hid (fun hh => by cases hh), u⟩
 · refine (ref_long9_no (by omega) (by omega) (by omega)).mono ?_
   rintro e w' ⟨rfl, u⟩
   exact ⟨false, rfl, Lib.hid (fun _ => ⟨by omega, by omega⟩), u⟩
set_option maxRecDepth 100000 in
set_option maxHeartbeats 12800000 in
theorem polySums_walk {v u U D : Value} {s : Bool} {l m : List Nat} {rs ts : List Raw} {w : World} (h : RSq w v rs) (h' : RSq w u ts) (hl : Ws w U l) (hm : Ws w D m) :
 Calls Tryz.prog 4 #[v, u, .agg #[.bool s, U, D]] w fun e w' => e = .returned (.bool true) ∧ Up w w' := by
 obtain ⟨A1, c1, rfl⟩ := h.form
 obtain ⟨A2, c2, rfl⟩ := h'.form
 obtain ⟨A3, c3, rfl⟩ := hl.form
 obtain ⟨A4, c4, rfl⟩ := hm.form
 have UP : Up w (w.alloc (.cells #[.bool s, .slice A3 l.length c3, .slice A4 m.length c4] 24)) := (Up.refl w).alloc _
 have b0 := Bx.new 24 w [.bool s, .slice A3 l.length c3, .slice A4 m.length c4]
 go_enter Tryz.func4, Tryz.ntmps4
 go_wp2_with fail
 generalize (w.alloc (.cells #[.bool s, .slice A3 l.length c3, .slice A4 m.length c4] 24)) = W at *
 replace h := h.up UP
 replace h' := h'.up UP
 replace hl := hl.up UP
 replace hm := hm.up UP
 obtain ⟨b0_0, b0_1, b0_2⟩ := b0.c3
 go_wp2_with fail
 ((with_reducible refine (ref_long_10_4 h).mono ?_))
 rintro e W1 ⟨t1, rfl, ht1, u1⟩
 replace h := h.up u1
 replace h' := h'.up u1
 replace hl := hl.up u1
 replace hm := hm.up u1
 replace b0 := b0.up u1
 replace UP := UP.trans u1
 clear b0_0 b0_1 b0_2
 obtain ⟨b0_0, b0_1, b0_2⟩ := b0.c3
 clear u1
 cases t1
 rotate_left
 · skip
   go_wp2_with fail
   ((with_reducible refine (works14 _).mono ?_))
   rintro e W2 ⟨rfl, u2⟩
   replace h := h.up u2
   replace h' := h'.up u2
   replace hl := hl.up u2
   replace hm := hm.up u2
   replace b0 := b0.up u2
   replace UP := UP.trans u2
   clear b0_0 b0_1 b0_2
   obtain ⟨b0_0, b0_1, b0_2⟩ := b0.c3
   clear u2
   go_wp2
   go_ret
   exact ⟨rfl, UP⟩
 have g1 := Lib.hid (ht1.out rfl)
 clear ht1
 go_wp2_with fail
 ((with_reducible refine (ref_long_10_4 h').mono ?_))
 rintro e W2 ⟨t2, rfl, ht2, u2⟩
 replace h := h.up u2
 replace h' := h'.up u2
 replace hl := hl.up u2
 replace hm := hm.up u2
 replace b0 := b0.up u2
 replace UP := UP.trans u2
 clear b0_0 b0_1 b0_2
 obtain ⟨b0_0, b0_1, b0_2⟩ := b0.c3
 clear u2
 cases t2
 rotate_left
 · skip
   go_wp2_with fail
   ((with_reducible refine (works14 _).mono ?_))
   rintro e W3 ⟨rfl, u3⟩
   replace h := h.up u3
   replace h' := h'.up u3
   replace hl := hl.up u3
   replace hm := hm.up u3
   replace b0 := b0.up u3
   replace UP := UP.trans u3
   clear b0_0 b0_1 b0_2
   obtain ⟨b0_0, b0_1, b0_2⟩ := b0.c3
   clear u3
   go_wp2
   go_ret
   exact ⟨rfl, UP⟩
 have g2 := Lib.hid (ht2.out rfl)
 clear ht2
 go_wp2_with fail
 ((with_reducible refine (ref_long9s (l := l) (m := m) 4 (K := 4) rfl (by omega)).mono ?_))
 rintro e W3 ⟨t3, rfl, ht3, u3⟩
 replace h := h.up u3
 replace h' := h'.up u3
 replace hl := hl.up u3
 replace hm := hm.up u3
 replace b0 := b0.up u3
 replace UP := UP.trans u3
 clear b0_0 b0_1 b0_2
 obtain ⟨b0_0, b0_1, b0_2⟩ := b0.c3
 clear u3
 cases t3
 rotate_left
 · skip
   go_wp2_with fail
   ((with_reducible refine (works14 _).mono ?_))
   rintro e W4 ⟨rfl, u4⟩
   replace h := h.up u4
   replace h' := h'.up u4
   replace hl := hl.up u4
   replace hm := hm.up u4
   replace b0 := b0.up u4
   replace UP := UP.trans u4
   clear b0_0 b0_1 b0_2
   obtain ⟨b0_0, b0_1, b0_2⟩ := b0.c3
   clear u4
   go_wp2
   go_ret
   exact ⟨rfl, UP⟩
 have g3 := Lib.hid (ht3.out rfl)
 clear ht3
 have fx := h.fs g1.out.2 (by omega)
 have fy := h'.fs g2.out.2 (by omega)
 have e1 : (rs.map Raw.val).length = rs.length := List.length_map _
 have e2 : (ts.map Raw.val).length = ts.length := List.length_map _
 have FZ : Fr W3 (.agg #[.bool s, .slice A3 l.length c3, .slice A4 m.length c4]) (mkRat (Wd.iv s (Wd.val l)) (Wd.val m)) 4 := ⟨s, _, _, l, m, rfl, hl, hm, rfl, g3.out.1, g3.out.2, by omega⟩
 have lp : (rs.map Raw.val).length ≤ 10 := by rw [e1]; exact g1.out.1
 have lq : (ts.map Raw.val).length ≤ 10 := by rw [e2]; exact g2.out.1
 generalize (mkRat (Wd.iv s (Wd.val l)) (Wd.val m)) = z at *
 generalize rs.map Raw.val = p at *
 generalize ts.map Raw.val = q at *
 rw [← e1] at fx ⊢
 rw [← e2] at fy ⊢
 clear h h' hl hm
 clear g1 g2 g3 e1 e2
 have LPP := Lib.hid ((Pq.Lp.few fx.lq).mono (k := 41) (by omega))
 have LPQ := Lib.hid ((Pq.Lp.few fy.lq).mono (k := 41) (by omega))
 obtain ⟨M, HM⟩ : ∃ r, Hid (Pq.nm p = r) := ⟨_, Lib.hid rfl⟩
 obtain ⟨N, HN⟩ : ∃ r, Hid (Pq.nm q = r) := ⟨_, Lib.hid rfl⟩
 have EM : Hid (∀ x, Pq.E M x = Pq.E p x) := Lib.hid (fun x => by rw [← HM.out, Pq.E_nm])
 have EN : Hid (∀ x, Pq.E N x = Pq.E q x) := Lib.hid (fun x => by rw [← HN.out, Pq.E_nm])
 have lM : M.length ≤ 10 := by rw [← HM.out]; exact Nat.le_trans (Pq.nm_len _) lp
 have lN : N.length ≤ 10 := by rw [← HN.out]; exact Nat.le_trans (Pq.nm_len _) lq
 have LM4 : Hid (∀ x ∈ M, Wd.Lq x 4) := Lib.hid (by rw [← HM.out]; exact fun x hx => fx.lq x (Pq.nm_mem hx))
 have LPM : Hid (Pq.Lp M 41) := Lib.hid (by rw [← HM.out]; exact LPP.out.nm)
 have LPN : Hid (Pq.Lp N 41) := Lib.hid (by rw [← HN.out]; exact LPQ.out.nm)
 obtain ⟨R1, HR1⟩ : ∃ r, Hid (Pq.nm (Pq.add p q) = r) := ⟨_, Lib.hid rfl⟩
 have HR1' : Hid (Pq.nm (Pq.add M N) = R1) := Lib.hid (by rw [← HR1.out]; exact Pq.nm_ext fun x => by rw [Pq.E_add, Pq.E_add, EM.out, EN.out])
 have LR1 : Hid (∀ x ∈ R1, Wd.Lq x 83) := Lib.hid (by rw [← HR1.out]; exact (LPP.out.add LPQ.out).nm.lq)
 have lR1 : R1.length ≤ 1000000 := by rw [← HR1.out]; exact Nat.le_trans (Pq.nm_len _) (by rw [Pq.add_len]; omega)
 obtain ⟨R2, HR2⟩ : ∃ r, Hid (Pq.nm (Pq.sub p q) = r) := ⟨_, Lib.hid rfl⟩
 have HR2' : Hid (Pq.nm (Pq.sub M N) = R2) := Lib.hid (by rw [← HR2.out]; exact Pq.nm_ext fun x => by rw [Pq.E_sub, Pq.E_sub, EM.out, EN.out])
 have LR2 : Hid (∀ x ∈ R2, Wd.Lq x 83) := Lib.hid (by rw [← HR2.out]; exact (Lp.sub2 LPP.out LPQ.out).nm.lq)
 have lR2 : R2.length ≤ 1000000 := by rw [← HR2.out]; exact Nat.le_trans (Pq.nm_len _) (by unfold Pq.sub; rw [Pq.add_len, Pq.sc_len]; omega)
 obtain ⟨R3, HR3⟩ : ∃ r, Hid (Pq.nm (Pq.mul p q) = r) := ⟨_, Lib.hid rfl⟩
 have HR3' : Hid (Pq.nm (Pq.mul M N) = R3) := Lib.hid (by rw [← HR3.out]; exact Pq.nm_ext fun x => by rw [Pq.E_mul, Pq.E_mul, EM.out, EN.out])
 have LR3 : Hid (∀ x ∈ R3, Wd.Lq x 83) := Lib.hid (by rw [← HR3.out]; exact (LPP.out.mul LPQ.out (by omega)).lq)
 have lR3 : R3.length ≤ 1000000 := by rw [← HR3.out]; exact Nat.le_trans (Pq.nm_len _) (Nat.le_trans (Pq.mul_le _ _) (by omega))
 obtain ⟨R4, HR4⟩ : ∃ r, Hid (Pq.nm (Pq.sc z p) = r) := ⟨_, Lib.hid rfl⟩
 have HR4' : Hid (Pq.nm (Pq.sc z M) = R4) := Lib.hid (by rw [← HR4.out]; exact Pq.nm_ext fun x => by rw [Pq.E_sc, Pq.E_sc, EM.out])
 have LR4 : Hid (∀ x ∈ R4, Wd.Lq x 83) := Lib.hid (by rw [← HR4.out]; exact fun x hx => ((Pq.Lp.sc FZ.lq LPP.out).nm.lq x hx).mono (by omega))
 have lR4 : R4.length ≤ 1000000 := by rw [← HR4.out]; exact Nat.le_trans (Pq.nm_len _) (by rw [Pq.sc_len]; omega)
 obtain ⟨EV, HEV⟩ : ∃ y, Hid (Pq.E p z = y) := ⟨_, Lib.hid rfl⟩
 have HEV' : Hid (Pq.E M z = EV) := Lib.hid (by rw [EM.out, HEV.out])
 have LEV : Wd.Lq EV 92 := by rw [← HEV.out]; exact (lq_eval FZ.lq p fx.lq).mono (by omega)
 obtain ⟨eb, HEB⟩ : ∃ t, Hid (decide (M = N) = t) := ⟨_, Lib.hid rfl⟩
 have LZ := FZ.lq
 have kw1 : IntKind.i64.wrap ((M.length : Int) - 1) = (M.length : Int) - 1 := by rw [IntKind.wrap_i64]; omega
 go_wp2_with fail
 ((with_reducible refine (ref_norms11 fx (by omega) (by omega)).mono ?_))
 rintro e W4 ⟨V4, rfl, n1, u4⟩
 obtain ⟨An1, cn1, rfl⟩ := n1.form
 replace fx := fx.up u4
 replace fy := fy.up u4
 replace FZ := FZ.up u4
 replace b0 := b0.up u4
 replace UP := UP.trans u4
 clear b0_0 b0_1 b0_2
 obtain ⟨b0_0, b0_1, b0_2⟩ := b0.c3
 clear u4
 go_wp2_with fail
 ((with_reducible refine (rnorm_as n1.q (by omega) (by omega) HM).mono ?_))
 rintro e W5 ⟨V5, rfl, m1, u5⟩
 obtain ⟨Am1, cm1, rfl⟩ := m1.form
 replace fx := fx.up u5
 replace fy := fy.up u5
 replace FZ := FZ.up u5
 replace n1 := n1.up u5
 replace b0 := b0.up u5
 replace UP := UP.trans u5
 clear b0_0 b0_1 b0_2
 obtain ⟨b0_0, b0_1, b0_2⟩ := b0.c3
 clear u5
 clear n1
 go_wp2_with fail
 ((with_reducible refine (ref_norms11 fy (by omega) (by omega)).mono ?_))
 rintro e W6 ⟨V6, rfl, n2, u6⟩
 obtain ⟨An2, cn2, rfl⟩ := n2.form
 replace fx := fx.up u6
 replace fy := fy.up u6
 replace FZ := FZ.up u6
 replace m1 := m1.up u6
 replace b0 := b0.up u6
 replace UP := UP.trans u6
 clear b0_0 b0_1 b0_2
 obtain ⟨b0_0, b0_1, b0_2⟩ := b0.c3
 clear u6
 go_wp2_with fail
 ((with_reducible refine (rnorm_as n2.q (by omega) (by omega) HN).mono ?_))
 rintro e W7 ⟨V7, rfl, m2, u7⟩
 obtain ⟨Am2, cm2, rfl⟩ := m2.form
 replace fx := fx.up u7
 replace fy := fy.up u7
 replace FZ := FZ.up u7
 replace m1 := m1.up u7
 replace n2 := n2.up u7
 replace b0 := b0.up u7
 replace UP := UP.trans u7
 clear b0_0 b0_1 b0_2
 obtain ⟨b0_0, b0_1, b0_2⟩ := b0.c3
 clear u7
 clear n2
 go_wp2_with fail
 ((with_reducible refine (ref9_norm FZ (by omega)).mono ?_))
 rintro e W8 ⟨V8, rfl, k9, u8⟩
 replace fx := fx.up u8
 replace fy := fy.up u8
 replace FZ := FZ.up u8
 replace m1 := m1.up u8
 replace m2 := m2.up u8
 replace b0 := b0.up u8
 replace UP := UP.trans u8
 clear b0_0 b0_1 b0_2
 obtain ⟨b0_0, b0_1, b0_2⟩ := b0.c3
 clear u8
 obtain ⟨Xk9, Yk9, rfl, k9, k9d⟩ := k9
 obtain ⟨Ak9, nk9, ck9, rfl⟩ := k9.shape
 obtain ⟨Ak9d, nk9d, ck9d, rfl⟩ := k9d.shape
 have b0_0a := fun O0 => (cell_alloc (o := O0) b0_0)
 have b0_1a := fun O0 => (cell_alloc (o := O0) b0_1)
 have b0_2a := fun O0 => (cell_alloc (o := O0) b0_2)
 go_wp2_with fail
 clear b0_0a b0_1a b0_2a
 have x9 := Bx.new 24 W8 [.bool (Wd.ngb z.num), .slice Ak9 nk9 ck9, .slice Ak9d nk9d ck9d]
 have b0_lt_x9 := b0.lt
 replace fx := fx.up ((Up.refl W8).alloc (.cells #[.bool (Wd.ngb z.num), .slice Ak9 nk9 ck9, .slice Ak9d nk9d ck9d] 24))
 replace fy := fy.up ((Up.refl W8).alloc (.cells #[.bool (Wd.ngb z.num), .slice Ak9 nk9 ck9, .slice Ak9d nk9d ck9d] 24))
 replace FZ := FZ.up ((Up.refl W8).alloc (.cells #[.bool (Wd.ngb z.num), .slice Ak9 nk9 ck9, .slice Ak9d nk9d ck9d] 24))
 replace m1 := m1.up ((Up.refl W8).alloc (.cells #[.bool (Wd.ngb z.num), .slice Ak9 nk9 ck9, .slice Ak9d nk9d ck9d] 24))
 replace m2 := m2.up ((Up.refl W8).alloc (.cells #[.bool (Wd.ngb z.num), .slice Ak9 nk9 ck9, .slice Ak9d nk9d ck9d] 24))
 replace k9 := k9.up ((Up.refl W8).alloc (.cells #[.bool (Wd.ngb z.num), .slice Ak9 nk9 ck9, .slice Ak9d nk9d ck9d] 24))
 replace k9d := k9d.up ((Up.refl W8).alloc (.cells #[.bool (Wd.ngb z.num), .slice Ak9 nk9 ck9, .slice Ak9d nk9d ck9d] 24))
 replace b0 := b0.up ((Up.refl W8).alloc (.cells #[.bool (Wd.ngb z.num), .slice Ak9 nk9 ck9, .slice Ak9d nk9d ck9d] 24))
 replace UP := UP.trans ((Up.refl W8).alloc (.cells #[.bool (Wd.ngb z.num), .slice Ak9 nk9 ck9, .slice Ak9d nk9d ck9d] 24))
 generalize (W8.alloc (.cells #[.bool (Wd.ngb z.num), .slice Ak9 nk9 ck9, .slice Ak9d nk9d ck9d] 24)) = W9 at *
 clear b0_0 b0_1 b0_2
 obtain ⟨b0_0, b0_1, b0_2⟩ := b0.c3
 obtain ⟨x9_0, x9_1, x9_2⟩ := x9.c3
 ((with_reducible refine (law_to11f fx (by omega)).mono ?_))
 rintro e W10 ⟨V10, rfl, x, u10⟩
 obtain ⟨Ax, cx, rfl⟩ := x.form
 replace fx := fx.up u10
 replace fy := fy.up u10
 replace FZ := FZ.up u10
 replace m1 := m1.up u10
 replace m2 := m2.up u10
 replace k9 := k9.up u10
 replace k9d := k9d.up u10
 replace b0 := b0.up u10
 replace x9 := x9.up u10
 replace UP := UP.trans u10
 clear b0_0 b0_1 b0_2 x9_0 x9_1 x9_2
 obtain ⟨b0_0, b0_1, b0_2⟩ := b0.c3
 obtain ⟨x9_0, x9_1, x9_2⟩ := x9.c3
 clear u10
 go_wp2_with fail
 ((with_reducible refine (law_to11f fy (by omega)).mono ?_))
 rintro e W11 ⟨V11, rfl, y, u11⟩
 obtain ⟨Ay, cy, rfl⟩ := y.form
 replace fx := fx.up u11
 replace fy := fy.up u11
 replace FZ := FZ.up u11
 replace m1 := m1.up u11
 replace m2 := m2.up u11
 replace k9 := k9.up u11
 replace k9d := k9d.up u11
 replace x := x.up u11
 replace b0 := b0.up u11
 replace x9 := x9.up u11
 replace UP := UP.trans u11
 clear b0_0 b0_1 b0_2 x9_0 x9_1 x9_2
 obtain ⟨b0_0, b0_1, b0_2⟩ := b0.c3
 obtain ⟨x9_0, x9_1, x9_2⟩ := x9.c3
 clear u11
 clear fx fy
 go_wp2_with fail
 ((with_reducible refine (law_to9 _ _ _ _ _ _ _ _).mono ?_))
 rintro e W12 ⟨rfl, u12⟩
 replace FZ := FZ.up u12
 replace m1 := m1.up u12
 replace m2 := m2.up u12
 replace k9 := k9.up u12
 replace k9d := k9d.up u12
 replace x := x.up u12
 replace y := y.up u12
 replace b0 := b0.up u12
 replace x9 := x9.up u12
 replace UP := UP.trans u12
 clear b0_0 b0_1 b0_2 x9_0 x9_1 x9_2
 obtain ⟨b0_0, b0_1, b0_2⟩ := b0.c3
 obtain ⟨x9_0, x9_1, x9_2⟩ := x9.c3
 clear u12
 have b0_0a := fun O0 => (cell_alloc (o := O0) b0_0)
 have b0_1a := fun O0 => (cell_alloc (o := O0) b0_1)
 have b0_2a := fun O0 => (cell_alloc (o := O0) b0_2)
 have x9_0a := fun O0 => (cell_alloc (o := O0) x9_0)
 have x9_1a := fun O0 => (cell_alloc (o := O0) x9_1)
 have x9_2a := fun O0 => (cell_alloc (o := O0) x9_2)
 go_wp2_with fail
 clear b0_0a b0_1a b0_2a x9_0a x9_1a x9_2a
 have x12 := Bx.new 34 W12 [.bool s, .slice A3 l.length c3, .slice A4 m.length c4]
 have b0_lt_x12 := b0.lt
 have x9_lt_x12 := x9.lt
 replace FZ := FZ.up ((Up.refl W12).alloc (.cells #[.bool s, .slice A3 l.length c3, .slice A4 m.length c4] 34))
 replace m1 := m1.up ((Up.refl W12).alloc (.cells #[.bool s, .slice A3 l.length c3, .slice A4 m.length c4] 34))
 replace m2 := m2.up ((Up.refl W12).alloc (.cells #[.bool s, .slice A3 l.length c3, .slice A4 m.length c4] 34))
 replace k9 := k9.up ((Up.refl W12).alloc (.cells #[.bool s, .slice A3 l.length c3, .slice A4 m.length c4] 34))
 replace k9d := k9d.up ((Up.refl W12).alloc (.cells #[.bool s, .slice A3 l.length c3, .slice A4 m.length c4] 34))
 replace x := x.up ((Up.refl W12).alloc (.cells #[.bool s, .slice A3 l.length c3, .slice A4 m.length c4] 34))
 replace y := y.up ((Up.refl W12).alloc (.cells #[.bool s, .slice A3 l.length c3, .slice A4 m.length c4] 34))
 replace b0 := b0.up ((Up.refl W12).alloc (.cells #[.bool s, .slice A3 l.length c3, .slice A4 m.length c4] 34))
 replace x9 := x9.up ((Up.refl W12).alloc (.cells #[.bool s, .slice A3 l.length c3, .slice A4 m.length c4] 34))
 replace UP := UP.trans ((Up.refl W12).alloc (.cells #[.bool s, .slice A3 l.length c3, .slice A4 m.length c4] 34))
 generalize (W12.alloc (.cells #[.bool s, .slice A3 l.length c3, .slice A4 m.length c4] 34)) = W13 at *
 clear b0_0 b0_1 b0_2 x9_0 x9_1 x9_2
 obtain ⟨b0_0, b0_1, b0_2⟩ := b0.c3
 obtain ⟨x9_0, x9_1, x9_2⟩ := x9.c3
 obtain ⟨x12_0, x12_1, x12_2⟩ := x12.c3
 replace FZ := FZ.up (Up.refl W13).drew
 replace m1 := m1.up (Up.refl W13).drew
 replace m2 := m2.up (Up.refl W13).drew
 replace k9 := k9.up (Up.refl W13).drew
 replace k9d := k9d.up (Up.refl W13).drew
 replace x := x.up (Up.refl W13).drew
 replace y := y.up (Up.refl W13).drew
 replace b0 := b0.up (Up.refl W13).drew
 replace x9 := x9.up (Up.refl W13).drew
 replace x12 := x12.up (Up.refl W13).drew
 replace UP := UP.trans (Up.refl W13).drew
 clear b0_0 b0_1 b0_2 x9_0 x9_1 x9_2 x12_0 x12_1 x12_2
 obtain ⟨b0_0, b0_1, b0_2⟩ := b0.c3
 obtain ⟨x9_0, x9_1, x9_2⟩ := x9.c3
 obtain ⟨x12_0, x12_1, x12_2⟩ := x12.c3
 refine wp_region_noPanic ?_
 refine wp_region_held_drew (S := fun w' => Up w w' ∧ w'.cell? ⟨W8.heap.size, 0, none⟩ = some (.bool (Wd.ngb z.num)) ∧ w'.cell? ⟨W8.heap.size, 1, none⟩ = some (.slice Ak9 nk9 ck9) ∧ w'.cell? ⟨W8.heap.size, 2, none⟩ = some (.slice Ak9d nk9d ck9d) ∧ w'.cell? ⟨W12.heap.size, 0, none⟩ = some (.bool s) ∧ w'.cell? ⟨W12.heap.size, 1, none⟩ = some (.slice A3 l.length c3) ∧ w'.cell? ⟨W12.heap.size, 2, none⟩ = some (.slice A4 m.length c4)) (by kernel_rfl) ?_ (fun hHeld => ?_)
 · with_reducible exact ⟨UP, x9_0, x9_1, x9_2, x12_0, x12_1, x12_2⟩
 refine wpAnyH_take (i := 0) (v := ?_) rfl (by kernel_rfl) (by kernel_rfl) (by kernel_rfl) (fun _ _ _ h => h) (Or.inl ⟨by rfl, ?_⟩) (by assumption) ?_
 rotate_left
 · (intro w hSw; (try dsimp only at hSw); go_simp; first | done | with_reducible rfl)
 try simp only [List.getElem_toArray, List.getElem_cons_zero, List.getElem_cons_succ, Act.put, List.setIfInBounds_toArray, List.set_cons_zero, List.set_cons_succ]
 refine wpAnyH_take (i := 2) (v := ?_) rfl (by kernel_rfl) (by kernel_rfl) (by kernel_rfl) (fun _ _ _ h => h) (Or.inl ⟨by rfl, ?_⟩) (by assumption) ?_
 rotate_left
 · (intro w hSw; (try dsimp only at hSw); go_simp; first | done | with_reducible rfl)
 try simp only [List.getElem_toArray, List.getElem_cons_zero, List.getElem_cons_succ, Act.put, List.setIfInBounds_toArray, List.set_cons_zero, List.set_cons_succ]
 refine wpAnyH_ready (rs := [1]) (by kernel_rfl) (by simp) ?_
 refine AllReadyH.cons rfl (fun K hK => ?_) AllReadyH.nil
 go_simp
 (first
   | (go_at_call 28
      ((with_reducible refine (pnorm_as x (by omega) (by omega) HM LM4).mono ?_))
      rintro e W14 ⟨V14, rfl, a1, u14⟩
      obtain ⟨Aa1, ca1, rfl⟩ := a1.form
      replace FZ := FZ.up u14
      replace m1 := m1.up u14
      replace m2 := m2.up u14
      replace k9 := k9.up u14
      replace k9d := k9d.up u14
      replace x := x.up u14
      replace y := y.up u14
      try (replace a1 := a1.up u14)
      try (replace e1 := e1.up u14)
      try (replace e2 := e2.up u14)
      replace b0 := b0.up u14
      replace x9 := x9.up u14
      replace x12 := x12.up u14
      replace UP := UP.trans u14
      clear b0_0 b0_1 b0_2 x9_0 x9_1 x9_2 x12_0 x12_1 x12_2
      obtain ⟨b0_0, b0_1, b0_2⟩ := b0.c3
      obtain ⟨x9_0, x9_1, x9_2⟩ := x9.c3
      obtain ⟨x12_0, x12_1, x12_2⟩ := x12.c3
      clear u14))
 try go_wp2_with fail
 try clear hHeld
 refine hK.out _ _ ?_ (fun hHeld => ?_)
 · with_reducible exact ⟨UP, x9_0, x9_1, x9_2, x12_0, x12_1, x12_2⟩
 clear hK K
 try simp only [List.getElem_toArray, List.getElem_cons_zero, List.getElem_cons_succ, Act.put, List.setIfInBounds_toArray, List.set_cons_zero, List.set_cons_succ]
 refine wpAnyH_ready (rs := [3]) (by kernel_rfl) (by simp) ?_
 refine AllReadyH.cons rfl (fun K hK => ?_) AllReadyH.nil
 go_simp
 (first
   | (go_at_call 27
      ((with_reducible refine (is_yes a1.qs m1.q (by omega) (by omega)).mono ?_))
      rintro e W15 ⟨rfl, u15⟩
      replace FZ := FZ.up u15
      replace m1 := m1.up u15
      replace m2 := m2.up u15
      replace k9 := k9.up u15
      replace k9d := k9d.up u15
      replace x := x.up u15
      replace y := y.up u15
      try (replace a1 := a1.up u15)
      try (replace e1 := e1.up u15)
      try (replace e2 := e2.up u15)
      replace b0 := b0.up u15
      replace x9 := x9.up u15
      replace x12 := x12.up u15
      replace UP := UP.trans u15
      clear b0_0 b0_1 b0_2 x9_0 x9_1 x9_2 x12_0 x12_1 x12_2
      obtain ⟨b0_0, b0_1, b0_2⟩ := b0.c3
      obtain ⟨x9_0, x9_1, x9_2⟩ := x9.c3
      obtain ⟨x12_0, x12_1, x12_2⟩ := x12.c3
      clear u15))
 try go_wp2_with fail
 try clear hHeld
 refine hK.out _ _ ?_ (fun hHeld => ?_)
 · with_reducible exact ⟨UP, x9_0, x9_1, x9_2, x12_0, x12_1, x12_2⟩
 clear hK K
 try simp only [List.getElem_toArray, List.getElem_cons_zero, List.getElem_cons_succ, Act.put, List.setIfInBounds_toArray, List.set_cons_zero, List.set_cons_succ]
 refine wpAnyH_take (i := 4) (v := ?_) rfl (by kernel_rfl) (by kernel_rfl) (by kernel_rfl) (fun _ _ _ h => h) (Or.inl ⟨by rfl, ?_⟩) (by assumption) ?_
 rotate_left
 · (intro w hSw; (try dsimp only at hSw); go_simp; first | done | with_reducible rfl)
 try simp only [List.getElem_toArray, List.getElem_cons_zero, List.getElem_cons_succ, Act.put, List.setIfInBounds_toArray, List.set_cons_zero, List.set_cons_succ]
 refine wpAnyH_take (i := 5) (v := ?_) rfl (by kernel_rfl) (by kernel_rfl) (by kernel_rfl) (fun _ _ _ h => h) (Or.inl ⟨by rfl, ?_⟩) (by assumption) ?_
 rotate_left
 · (intro w hSw; (try dsimp only at hSw); go_simp; first | done | with_reducible rfl)
 try simp only [List.getElem_toArray, List.getElem_cons_zero, List.getElem_cons_succ, Act.put, List.setIfInBounds_toArray, List.set_cons_zero, List.set_cons_succ]
 refine wpAnyH_take (i := 6) (v := ?_) rfl (by kernel_rfl) (by kernel_rfl) (by kernel_rfl) (fun _ _ _ h => h) (Or.inl ⟨by rfl, ?_⟩) (by assumption) ?_
 rotate_left
 · (intro w hSw; (try dsimp only at hSw); go_simp; first | done | with_reducible rfl)
 try simp only [List.getElem_toArray, List.getElem_cons_zero, List.getElem_cons_succ, Act.put, List.setIfInBounds_toArray, List.set_cons_zero, List.set_cons_succ]
 refine wpAnyH_take (i := 8) (v := ?_) rfl (by kernel_rfl) (by kernel_rfl) (by kernel_rfl) (fun _ _ _ h => h) (Or.inl ⟨by rfl, ?_⟩) (by assumption) ?_
 rotate_left
 · (intro w hSw; (try dsimp only at hSw); go_simp; first | done | with_reducible rfl)
 try simp only [List.getElem_toArray, List.getElem_cons_zero, List.getElem_cons_succ, Act.put, List.setIfInBounds_toArray, List.set_cons_zero, List.set_cons_succ]
 refine wpAnyH_take (i := 9) (v := ?_) rfl (by kernel_rfl) (by kernel_rfl) (by kernel_rfl) (fun _ _ _ h => h) (Or.inl ⟨by rfl, ?_⟩) (by assumption) ?_
 rotate_left
 · (intro w hSw; (try dsimp only at hSw); go_simp; first | done | with_reducible rfl)
 try simp only [List.getElem_toArray, List.getElem_cons_zero, List.getElem_cons_succ, Act.put, List.setIfInBounds_toArray, List.set_cons_zero, List.set_cons_succ]
 refine wpAnyH_take (i := 10) (v := ?_) rfl (by kernel_rfl) (by kernel_rfl) (by kernel_rfl) (fun _ _ _ h => h) (Or.inl ⟨by rfl, ?_⟩) (by assumption) ?_
 rotate_left
 · (intro w hSw; (try dsimp only at hSw); go_simp; first | done | with_reducible rfl)
 try simp only [List.getElem_toArray, List.getElem_cons_zero, List.getElem_cons_succ, Act.put, List.setIfInBounds_toArray, List.set_cons_zero, List.set_cons_succ]
 refine wpAnyH_ready (rs := [7]) (by kernel_rfl) (by simp) ?_
 refine AllReadyH.cons rfl (fun K hK => ?_) AllReadyH.nil
 go_simp
 (first
   | (go_at_call 29
      ((with_reducible refine (poly_degree x.sq (by omega) (by omega)).mono ?_))
      rintro e W16 ⟨rfl, u16⟩
      replace FZ := FZ.up u16
      replace m1 := m1.up u16
      replace m2 := m2.up u16
      replace k9 := k9.up u16
      replace k9d := k9d.up u16
      replace x := x.up u16
      replace y := y.up u16
      try (replace a1 := a1.up u16)
      try (replace e1 := e1.up u16)
      try (replace e2 := e2.up u16)
      replace b0 := b0.up u16
      replace x9 := x9.up u16
      replace x12 := x12.up u16
      replace UP := UP.trans u16
      clear b0_0 b0_1 b0_2 x9_0 x9_1 x9_2 x12_0 x12_1 x12_2
      obtain ⟨b0_0, b0_1, b0_2⟩ := b0.c3
      obtain ⟨x9_0, x9_1, x9_2⟩ := x9.c3
      obtain ⟨x12_0, x12_1, x12_2⟩ := x12.c3
      clear u16
      rw [HM.out]))
 try go_wp2_with fail
 try clear hHeld
 refine hK.out _ _ ?_ (fun hHeld => ?_)
 · with_reducible exact ⟨UP, x9_0, x9_1, x9_2, x12_0, x12_1, x12_2⟩
 clear hK K
 try simp only [List.getElem_toArray, List.getElem_cons_zero, List.getElem_cons_succ, Act.put, List.setIfInBounds_toArray, List.set_cons_zero, List.set_cons_succ]
 refine wpAnyH_take (i := 11) (v := ?_) rfl (by kernel_rfl) (by kernel_rfl) (by kernel_rfl) (fun _ _ _ h => h) (Or.inl ⟨by rfl, ?_⟩) (by assumption) ?_
 rotate_left
 · (intro w hSw; (try dsimp only at hSw); go_simp; first | done | with_reducible rfl)
 try simp only [List.getElem_toArray, List.getElem_cons_zero, List.getElem_cons_succ, Act.put, List.setIfInBounds_toArray, List.set_cons_zero, List.set_cons_succ]
 refine wpAnyH_take (i := 12) (v := ?_) rfl (by kernel_rfl) (by kernel_rfl) (by kernel_rfl) (fun _ _ _ h => h) (Or.inl ⟨by rfl, ?_⟩) (by assumption) ?_
 rotate_left
 · (intro w hSw; (try dsimp only at hSw); go_simp; first | done | with_reducible rfl)
 try simp only [List.getElem_toArray, List.getElem_cons_zero, List.getElem_cons_succ, Act.put, List.setIfInBounds_toArray, List.set_cons_zero, List.set_cons_succ]
 refine wpAnyH_take (i := 13) (v := ?_) rfl (by kernel_rfl) (by kernel_rfl) (by kernel_rfl) (fun _ _ _ h => h) (Or.inl ⟨by rfl, ?_⟩) (by assumption) ?_
 rotate_left
 · (intro w hSw; (try dsimp only at hSw); go_simp; first | done | with_reducible rfl)
 try simp only [List.getElem_toArray, List.getElem_cons_zero, List.getElem_cons_succ, Act.put, List.setIfInBounds_toArray, List.set_cons_zero, List.set_cons_succ]
 refine wpAnyH_take (i := 14) (v := ?_) rfl (by kernel_rfl) (by kernel_rfl) (by kernel_rfl) (fun _ _ _ h => h) (Or.inl ⟨by rfl, ?_⟩) (by assumption) ?_
 rotate_left
 · (intro w hSw; (try dsimp only at hSw); go_simp; first | done | with_reducible rfl)
 try simp only [List.getElem_toArray, List.getElem_cons_zero, List.getElem_cons_succ, Act.put, List.setIfInBounds_toArray, List.set_cons_zero, List.set_cons_succ]
 refine wpAnyH_take (i := 15) (v := ?_) rfl (by kernel_rfl) (by kernel_rfl) (by kernel_rfl) (fun _ _ _ h => h) (Or.inl ⟨by rfl, ?_⟩) (by assumption) ?_
 rotate_left
 · (intro w hSw; (try dsimp only at hSw); go_simp; first | done | with_reducible rfl)
 try simp only [List.getElem_toArray, List.getElem_cons_zero, List.getElem_cons_succ, Act.put, List.setIfInBounds_toArray, List.set_cons_zero, List.set_cons_succ]
 refine wpAnyH_take (i := 17) (v := ?_) rfl (by kernel_rfl) (by kernel_rfl) (by kernel_rfl) (fun _ _ _ h => h) (Or.inl ⟨by rfl, ?_⟩) (by assumption) ?_
 rotate_left
 · (intro w hSw; (try dsimp only at hSw); go_simp; first | done | with_reducible rfl)
 try simp only [List.getElem_toArray, List.getElem_cons_zero, List.getElem_cons_succ, Act.put, List.setIfInBounds_toArray, List.set_cons_zero, List.set_cons_succ]
 refine wpAnyH_take (i := 18) (v := ?_) rfl (by kernel_rfl) (by kernel_rfl) (by kernel_rfl) (fun _ _ _ h => h) (Or.inl ⟨by rfl, ?_⟩) (by assumption) ?_
 rotate_left
 · (intro w hSw; (try dsimp only at hSw); go_simp; first | done | with_reducible rfl)
 try simp only [List.getElem_toArray, List.getElem_cons_zero, List.getElem_cons_succ, Act.put, List.setIfInBounds_toArray, List.set_cons_zero, List.set_cons_succ]
 refine wpAnyH_ready (rs := [16]) (by kernel_rfl) (by simp) ?_
 refine AllReadyH.cons rfl (fun K hK => ?_) AllReadyH.nil
 go_simp
 (first
   | (go_at_call 30
      ((with_reducible refine (poly_same x.sq y.sq (by omega) (by omega) (by omega)).mono ?_))
      rintro e W17 ⟨rfl, u17⟩
      replace FZ := FZ.up u17
      replace m1 := m1.up u17
      replace m2 := m2.up u17
      replace k9 := k9.up u17
      replace k9d := k9d.up u17
      replace x := x.up u17
      replace y := y.up u17
      try (replace a1 := a1.up u17)
      try (replace e1 := e1.up u17)
      try (replace e2 := e2.up u17)
      replace b0 := b0.up u17
      replace x9 := x9.up u17
      replace x12 := x12.up u17
      replace UP := UP.trans u17
      clear b0_0 b0_1 b0_2 x9_0 x9_1 x9_2 x12_0 x12_1 x12_2
      obtain ⟨b0_0, b0_1, b0_2⟩ := b0.c3
      obtain ⟨x9_0, x9_1, x9_2⟩ := x9.c3
      obtain ⟨x12_0, x12_1, x12_2⟩ := x12.c3
      clear u17
      rw [HM.out, HN.out, HEB.out]))
 try go_wp2_with fail
 try clear hHeld
 refine hK.out _ _ ?_ (fun hHeld => ?_)
 · with_reducible exact ⟨UP, x9_0, x9_1, x9_2, x12_0, x12_1, x12_2⟩
 clear hK K
 try simp only [List.getElem_toArray, List.getElem_cons_zero, List.getElem_cons_succ, Act.put, List.setIfInBounds_toArray, List.set_cons_zero, List.set_cons_succ]
 refine wpAnyH_ready (rs := [19]) (by kernel_rfl) (by simp) ?_
 refine AllReadyH.cons rfl (fun K hK => ?_) AllReadyH.nil
 go_simp
 (first
   | (go_at_call 31
      ((with_reducible refine (same_as m1.q m2.q (by omega) (by omega) (by omega) HEB).mono ?_))
      rintro e W18 ⟨rfl, u18⟩
      replace FZ := FZ.up u18
      replace m1 := m1.up u18
      replace m2 := m2.up u18
      replace k9 := k9.up u18
      replace k9d := k9d.up u18
      replace x := x.up u18
      replace y := y.up u18
      try (replace a1 := a1.up u18)
      try (replace e1 := e1.up u18)
      try (replace e2 := e2.up u18)
      replace b0 := b0.up u18
      replace x9 := x9.up u18
      replace x12 := x12.up u18
      replace UP := UP.trans u18
      clear b0_0 b0_1 b0_2 x9_0 x9_1 x9_2 x12_0 x12_1 x12_2
      obtain ⟨b0_0, b0_1, b0_2⟩ := b0.c3
      obtain ⟨x9_0, x9_1, x9_2⟩ := x9.c3
      obtain ⟨x12_0, x12_1, x12_2⟩ := x12.c3
      clear u18))
 try go_wp2_with fail
 try clear hHeld
 refine hK.out _ _ ?_ (fun hHeld => ?_)
 · with_reducible exact ⟨UP, x9_0, x9_1, x9_2, x12_0, x12_1, x12_2⟩
 clear hK K
 try simp only [List.getElem_toArray, List.getElem_cons_zero, List.getElem_cons_succ, Act.put, List.setIfInBounds_toArray, List.set_cons_zero, List.set_cons_succ]
 refine wpAnyH_take (i := 20) (v := ?_) rfl (by kernel_rfl) (by kernel_rfl) (by kernel_rfl) (fun _ _ _ h => h) (Or.inl ⟨by rfl, ?_⟩) (by assumption) ?_
 rotate_left
 · (intro w hSw; (try dsimp only at hSw); go_simp; first | done | with_reducible rfl)
 try simp only [List.getElem_toArray, List.getElem_cons_zero, List.getElem_cons_succ, Act.put, List.setIfInBounds_toArray, List.set_cons_zero, List.set_cons_succ]
 refine wpAnyH_take (i := 21) (v := ?_) rfl (by kernel_rfl) (by kernel_rfl) (by kernel_rfl) (fun _ _ _ h => h) (Or.inl ⟨by rfl, ?_⟩) (by assumption) ?_
 rotate_left
 · (intro w hSw; (try dsimp only at hSw); go_simp; first | done | with_reducible rfl)
 try simp only [List.getElem_toArray, List.getElem_cons_zero, List.getElem_cons_succ, Act.put, List.setIfInBounds_toArray, List.set_cons_zero, List.set_cons_succ]
 refine wpAnyH_take (i := 22) (v := ?_) rfl (by kernel_rfl) (by kernel_rfl) (by kernel_rfl) (fun _ _ _ h => h) (Or.inl ⟨by rfl, ?_⟩) (by assumption) ?_
 rotate_left
 · (intro w hSw; (try dsimp only at hSw); go_simp; first | done | with_reducible rfl)
 try simp only [List.getElem_toArray, List.getElem_cons_zero, List.getElem_cons_succ, Act.put, List.setIfInBounds_toArray, List.set_cons_zero, List.set_cons_succ]
 refine wpAnyH_take (i := 23) (v := ?_) rfl (by kernel_rfl) (by kernel_rfl) (by kernel_rfl) (fun _ _ _ h => h) (Or.inl ⟨by rfl, ?_⟩) (by assumption) ?_
 rotate_left
 · (intro w hSw; (try dsimp only at hSw); go_simp; first | done | with_reducible rfl)
 try simp only [List.getElem_toArray, List.getElem_cons_zero, List.getElem_cons_succ, Act.put, List.setIfInBounds_toArray, List.set_cons_zero, List.set_cons_succ]
 refine wpAnyH_take (i := 24) (v := ?_) rfl (by kernel_rfl) (by kernel_rfl) (by kernel_rfl) (fun _ _ _ h => h) (Or.inl ⟨by rfl, ?_⟩) (by assumption) ?_
 rotate_left
 · (intro w hSw; (try dsimp only at hSw); go_simp; first | done | with_reducible rfl)
 try simp only [List.getElem_toArray, List.getElem_cons_zero, List.getElem_cons_succ, Act.put, List.setIfInBounds_toArray, List.set_cons_zero, List.set_cons_succ]
 refine wpAnyH_take (i := 26) (v := ?_) rfl (by kernel_rfl) (by kernel_rfl) (by kernel_rfl) (fun _ _ _ h => h) (Or.inl ⟨by rfl, ?_⟩) (by assumption) ?_
 rotate_left
 · (intro w hSw; (try dsimp only at hSw); go_simp; first | done | with_reducible rfl)
 try simp only [List.getElem_toArray, List.getElem_cons_zero, List.getElem_cons_succ, Act.put, List.setIfInBounds_toArray, List.set_cons_zero, List.set_cons_succ]
 refine wpAnyH_take (i := 27) (v := ?_) rfl (by kernel_rfl) (by kernel_rfl) (by kernel_rfl) (fun _ _ _ h => h) (Or.inl ⟨by rfl, ?_⟩) (by assumption) ?_
 rotate_left
 · (intro w hSw; (try dsimp only at hSw); go_simp; first | done | with_reducible rfl)
 try simp only [List.getElem_toArray, List.getElem_cons_zero, List.getElem_cons_succ, Act.put, List.setIfInBounds_toArray, List.set_cons_zero, List.set_cons_succ]
 refine wpAnyH_ready (rs := [25]) (by kernel_rfl) (by simp) ?_
 refine AllReadyH.cons rfl (fun K hK => ?_) AllReadyH.nil
 go_simp
 (first
   | (go_at_call 33
      ((with_reducible refine (poly_eval FZ x.sq (by omega) (by omega) (by omega) (by omega)).mono ?_))
      rintro e W19 ⟨V19, rfl, e1, u19⟩
      replace FZ := FZ.up u19
      replace m1 := m1.up u19
      replace m2 := m2.up u19
      replace k9 := k9.up u19
      replace k9d := k9d.up u19
      replace x := x.up u19
      replace y := y.up u19
      try (replace a1 := a1.up u19)
      try (replace e1 := e1.up u19)
      try (replace e2 := e2.up u19)
      replace b0 := b0.up u19
      replace x9 := x9.up u19
      replace x12 := x12.up u19
      replace UP := UP.trans u19
      clear b0_0 b0_1 b0_2 x9_0 x9_1 x9_2 x12_0 x12_1 x12_2
      obtain ⟨b0_0, b0_1, b0_2⟩ := b0.c3
      obtain ⟨x9_0, x9_1, x9_2⟩ := x9.c3
      obtain ⟨x12_0, x12_1, x12_2⟩ := x12.c3
      clear u19
      rw [HEV.out] at e1))
 try go_wp2_with fail
 try clear hHeld
 refine hK.out _ _ ?_ (fun hHeld => ?_)
 · with_reducible exact ⟨UP, x9_0, x9_1, x9_2, x12_0, x12_1, x12_2⟩
 clear hK K
 try simp only [List.getElem_toArray, List.getElem_cons_zero, List.getElem_cons_succ, Act.put, List.setIfInBounds_toArray, List.set_cons_zero, List.set_cons_succ]
 refine wpAnyH_ready (rs := [28]) (by kernel_rfl) (by simp) ?_
 refine AllReadyH.cons rfl (fun K hK => ?_) AllReadyH.nil
 go_simp
 (first
   | (go_at_call 34
      ((with_reducible refine (reval_as (Qk.mk' k9 k9d LZ) m1.q (by omega) (by omega) (by omega) HEV').mono ?_))
      rintro e W20 ⟨V20, rfl, e2, u20⟩
      replace FZ := FZ.up u20
      replace m1 := m1.up u20
      replace m2 := m2.up u20
      replace k9 := k9.up u20
      replace k9d := k9d.up u20
      replace x := x.up u20
      replace y := y.up u20
      try (replace a1 := a1.up u20)
      try (replace e1 := e1.up u20)
      try (replace e2 := e2.up u20)
      replace b0 := b0.up u20
      replace x9 := x9.up u20
      replace x12 := x12.up u20
      replace UP := UP.trans u20
      clear b0_0 b0_1 b0_2 x9_0 x9_1 x9_2 x12_0 x12_1 x12_2
      obtain ⟨b0_0, b0_1, b0_2⟩ := b0.c3
      obtain ⟨x9_0, x9_1, x9_2⟩ := x9.c3
      obtain ⟨x12_0, x12_1, x12_2⟩ := x12.c3
      clear u20))
 try go_wp2_with fail
 try clear hHeld
 refine hK.out _ _ ?_ (fun hHeld => ?_)
 · with_reducible exact ⟨UP, x9_0, x9_1, x9_2, x12_0, x12_1, x12_2⟩
 clear hK K
 try simp only [List.getElem_toArray, List.getElem_cons_zero, List.getElem_cons_succ, Act.put, List.setIfInBounds_toArray, List.set_cons_zero, List.set_cons_succ]
 refine wpAnyH_ready (rs := [29]) (by kernel_rfl) (by simp) ?_
 refine AllReadyH.cons rfl (fun K hK => ?_) AllReadyH.nil
 go_simp
 (first
   | (go_at_call 32
      ((with_reducible refine (law_is9 e1 e2 LEV (by omega)).mono ?_))
      rintro e W21 ⟨rfl, u21⟩
      replace FZ := FZ.up u21
      replace m1 := m1.up u21
      replace m2 := m2.up u21
      replace k9 := k9.up u21
      replace k9d := k9d.up u21
      replace x := x.up u21
      replace y := y.up u21
      try (replace a1 := a1.up u21)
      try (replace e1 := e1.up u21)
      try (replace e2 := e2.up u21)
      replace b0 := b0.up u21
      replace x9 := x9.up u21
      replace x12 := x12.up u21
      replace UP := UP.trans u21
      clear b0_0 b0_1 b0_2 x9_0 x9_1 x9_2 x12_0 x12_1 x12_2
      obtain ⟨b0_0, b0_1, b0_2⟩ := b0.c3
      obtain ⟨x9_0, x9_1, x9_2⟩ := x9.c3
      obtain ⟨x12_0, x12_1, x12_2⟩ := x12.c3
      clear u21))
 try go_wp2_with fail
 try clear hHeld
 refine hK.out _ _ ?_ (fun hHeld => ?_)
 · with_reducible exact ⟨UP, x9_0, x9_1, x9_2, x12_0, x12_1, x12_2⟩
 clear hK K
 try simp only [List.getElem_toArray, List.getElem_cons_zero, List.getElem_cons_succ, Act.put, List.setIfInBounds_toArray, List.set_cons_zero, List.set_cons_succ]
 refine wpAnyH_take (i := 30) (v := ?_) rfl (by kernel_rfl) (by kernel_rfl) (by kernel_rfl) (fun _ _ _ h => h) (Or.inl ⟨by rfl, ?_⟩) (by assumption) ?_
 rotate_left
 · (intro w hSw; (try dsimp only at hSw); go_simp; first | done | with_reducible rfl)
 try simp only [List.getElem_toArray, List.getElem_cons_zero, List.getElem_cons_succ, Act.put, List.setIfInBounds_toArray, List.set_cons_zero, List.set_cons_succ]
 refine wpAnyH_take (i := 31) (v := ?_) rfl (by kernel_rfl) (by kernel_rfl) (by kernel_rfl) (fun _ _ _ h => h) (Or.inl ⟨by rfl, ?_⟩) (by assumption) ?_
 rotate_left
 · (intro w hSw; (try dsimp only at hSw); go_simp; first | done | with_reducible rfl)
 try simp only [List.getElem_toArray, List.getElem_cons_zero, List.getElem_cons_succ, Act.put, List.setIfInBounds_toArray, List.set_cons_zero, List.set_cons_succ]
 refine wpAnyH_done (by kernel_rfl) ?_ _
 refine NoPanic.normal ?_
 clear hHeld
 clear e1 e2 a1
 go_wp2_with fail
 as_aux_lemma =>
  replace FZ := FZ.up (Up.refl W21).drew
  replace m1 := m1.up (Up.refl W21).drew
  replace m2 := m2.up (Up.refl W21).drew
  replace k9 := k9.up (Up.refl W21).drew
  replace k9d := k9d.up (Up.refl W21).drew
  replace x := x.up (Up.refl W21).drew
  replace y := y.up (Up.refl W21).drew
  replace b0 := b0.up (Up.refl W21).drew
  replace x9 := x9.up (Up.refl W21).drew
  replace x12 := x12.up (Up.refl W21).drew
  replace UP := UP.trans (Up.refl W21).drew
  clear b0_0 b0_1 b0_2 x9_0 x9_1 x9_2 x12_0 x12_1 x12_2
  obtain ⟨b0_0, b0_1, b0_2⟩ := b0.c3
  obtain ⟨x9_0, x9_1, x9_2⟩ := x9.c3
  obtain ⟨x12_0, x12_1, x12_2⟩ := x12.c3
  refine wp_region_noPanic ?_
  refine wp_region_held_drew (S := fun w' => Up w w' ∧ w'.cell? ⟨W8.heap.size, 0, none⟩ = some (.bool (Wd.ngb z.num)) ∧ w'.cell? ⟨W8.heap.size, 1, none⟩ = some (.slice Ak9 nk9 ck9) ∧ w'.cell? ⟨W8.heap.size, 2, none⟩ = some (.slice Ak9d nk9d ck9d) ∧ w'.cell? ⟨W12.heap.size, 0, none⟩ = some (.bool s) ∧ w'.cell? ⟨W12.heap.size, 1, none⟩ = some (.slice A3 l.length c3) ∧ w'.cell? ⟨W12.heap.size, 2, none⟩ = some (.slice A4 m.length c4)) (by kernel_rfl) ?_ (fun hHeld => ?_)
  · with_reducible exact ⟨UP, x9_0, x9_1, x9_2, x12_0, x12_1, x12_2⟩
  refine wpAnyH_take (i := 0) (v := ?_) rfl (by kernel_rfl) (by kernel_rfl) (by kernel_rfl) (fun _ _ _ h => h) (Or.inl ⟨by rfl, ?_⟩) (by assumption) ?_
  rotate_left
  · (intro w hSw; (try dsimp only at hSw); go_simp; first | done | with_reducible rfl)
  try simp only [List.getElem_toArray, List.getElem_cons_zero, List.getElem_cons_succ, Act.put, List.setIfInBounds_toArray, List.set_cons_zero, List.set_cons_succ]
  refine wpAnyH_take (i := 1) (v := ?_) rfl (by kernel_rfl) (by kernel_rfl) (by kernel_rfl) (fun _ _ _ h => h) (Or.inl ⟨by rfl, ?_⟩) (by assumption) ?_
  rotate_left
  · (intro w hSw; (try dsimp only at hSw); go_simp; first | done | with_reducible rfl)
  try simp only [List.getElem_toArray, List.getElem_cons_zero, List.getElem_cons_succ, Act.put, List.setIfInBounds_toArray, List.set_cons_zero, List.set_cons_succ]
  refine wpAnyH_take (i := 3) (v := ?_) rfl (by kernel_rfl) (by kernel_rfl) (by kernel_rfl) (fun _ _ _ h => h) (Or.inl ⟨by rfl, ?_⟩) (by assumption) ?_
  rotate_left
  · (intro w hSw; (try dsimp only at hSw); go_simp; first | done | with_reducible rfl)
  try simp only [List.getElem_toArray, List.getElem_cons_zero, List.getElem_cons_succ, Act.put, List.setIfInBounds_toArray, List.set_cons_zero, List.set_cons_succ]
  refine wpAnyH_take (i := 4) (v := ?_) rfl (by kernel_rfl) (by kernel_rfl) (by kernel_rfl) (fun _ _ _ h => h) (Or.inl ⟨by rfl, ?_⟩) (by assumption) ?_
  rotate_left
  · (intro w hSw; (try dsimp only at hSw); go_simp; first | done | with_reducible rfl)
  try simp only [List.getElem_toArray, List.getElem_cons_zero, List.getElem_cons_succ, Act.put, List.setIfInBounds_toArray, List.set_cons_zero, List.set_cons_succ]
  refine wpAnyH_ready (rs := [2]) (by kernel_rfl) (by simp) ?_
  refine AllReadyH.cons rfl (fun K hK => ?_) AllReadyH.nil
  go_simp
  (first
    | (go_at_call 35
       ((with_reducible refine (padd_as 41 41 x y LPP.out LPQ.out (by omega) (by omega) (by omega) (by omega) HR1 LR1).mono ?_))
       rintro e W22 ⟨V22, rfl, b1, u22⟩
       obtain ⟨Ab1, cb1, rfl⟩ := b1.form
       replace FZ := FZ.up u22
       replace m1 := m1.up u22
       replace m2 := m2.up u22
       replace k9 := k9.up u22
       replace k9d := k9d.up u22
       replace x := x.up u22
       replace y := y.up u22
       try (replace b1 := b1.up u22)
       try (replace b2 := b2.up u22)
       try (replace b3 := b3.up u22)
       try (replace b4 := b4.up u22)
       try (replace b5 := b5.up u22)
       try (replace b6 := b6.up u22)
       try (replace b7 := b7.up u22)
       try (replace b8 := b8.up u22)
       replace b0 := b0.up u22
       replace x9 := x9.up u22
       replace x12 := x12.up u22
       replace UP := UP.trans u22
       clear b0_0 b0_1 b0_2 x9_0 x9_1 x9_2 x12_0 x12_1 x12_2
       obtain ⟨b0_0, b0_1, b0_2⟩ := b0.c3
       obtain ⟨x9_0, x9_1, x9_2⟩ := x9.c3
       obtain ⟨x12_0, x12_1, x12_2⟩ := x12.c3
       clear u22))
  try go_wp2_with fail
  try clear hHeld
  refine hK.out _ _ ?_ (fun hHeld => ?_)
  · with_reducible exact ⟨UP, x9_0, x9_1, x9_2, x12_0, x12_1, x12_2⟩
  clear hK K
  try simp only [List.getElem_toArray, List.getElem_cons_zero, List.getElem_cons_succ, Act.put, List.setIfInBounds_toArray, List.set_cons_zero, List.set_cons_succ]
  refine wpAnyH_ready (rs := [5]) (by kernel_rfl) (by simp) ?_
  refine AllReadyH.cons rfl (fun K hK => ?_) AllReadyH.nil
  go_simp
  (first
    | (go_at_call 36
       ((with_reducible refine (ref_add14_as m1.q m2.q (by omega) (by omega) (by omega) (by omega) (by omega) (by omega) HR1' LR1).mono ?_))
       rintro e W23 ⟨V23, rfl, b2, u23⟩
       obtain ⟨Ab2, cb2, rfl⟩ := b2.form
       replace FZ := FZ.up u23
       replace m1 := m1.up u23
       replace m2 := m2.up u23
       replace k9 := k9.up u23
       replace k9d := k9d.up u23
       replace x := x.up u23
       replace y := y.up u23
       try (replace b1 := b1.up u23)
       try (replace b2 := b2.up u23)
       try (replace b3 := b3.up u23)
       try (replace b4 := b4.up u23)
       try (replace b5 := b5.up u23)
       try (replace b6 := b6.up u23)
       try (replace b7 := b7.up u23)
       try (replace b8 := b8.up u23)
       replace b0 := b0.up u23
       replace x9 := x9.up u23
       replace x12 := x12.up u23
       replace UP := UP.trans u23
       clear b0_0 b0_1 b0_2 x9_0 x9_1 x9_2 x12_0 x12_1 x12_2
       obtain ⟨b0_0, b0_1, b0_2⟩ := b0.c3
       obtain ⟨x9_0, x9_1, x9_2⟩ := x9.c3
       obtain ⟨x12_0, x12_1, x12_2⟩ := x12.c3
       clear u23))
  try go_wp2_with fail
  try clear hHeld
  refine hK.out _ _ ?_ (fun hHeld => ?_)
  · with_reducible exact ⟨UP, x9_0, x9_1, x9_2, x12_0, x12_1, x12_2⟩
  clear hK K
  try simp only [List.getElem_toArray, List.getElem_cons_zero, List.getElem_cons_succ, Act.put, List.setIfInBounds_toArray, List.set_cons_zero, List.set_cons_succ]
  refine wpAnyH_ready (rs := [6]) (by kernel_rfl) (by simp) ?_
  refine AllReadyH.cons rfl (fun K hK => ?_) AllReadyH.nil
  go_simp
  (first
    | (go_at_call 27
       ((with_reducible refine (is_yes b1.qs b2.q lR1 (by omega)).mono ?_))
       rintro e W24 ⟨rfl, u24⟩
       replace FZ := FZ.up u24
       replace m1 := m1.up u24
       replace m2 := m2.up u24
       replace k9 := k9.up u24
       replace k9d := k9d.up u24
       replace x := x.up u24
       replace y := y.up u24
       try (replace b1 := b1.up u24)
       try (replace b2 := b2.up u24)
       try (replace b3 := b3.up u24)
       try (replace b4 := b4.up u24)
       try (replace b5 := b5.up u24)
       try (replace b6 := b6.up u24)
       try (replace b7 := b7.up u24)
       try (replace b8 := b8.up u24)
       replace b0 := b0.up u24
       replace x9 := x9.up u24
       replace x12 := x12.up u24
       replace UP := UP.trans u24
       clear b0_0 b0_1 b0_2 x9_0 x9_1 x9_2 x12_0 x12_1 x12_2
       obtain ⟨b0_0, b0_1, b0_2⟩ := b0.c3
       obtain ⟨x9_0, x9_1, x9_2⟩ := x9.c3
       obtain ⟨x12_0, x12_1, x12_2⟩ := x12.c3
       clear u24))
  try go_wp2_with fail
  try clear hHeld
  refine hK.out _ _ ?_ (fun hHeld => ?_)
  · with_reducible exact ⟨UP, x9_0, x9_1, x9_2, x12_0, x12_1, x12_2⟩
  clear hK K
  try simp only [List.getElem_toArray, List.getElem_cons_zero, List.getElem_cons_succ, Act.put, List.setIfInBounds_toArray, List.set_cons_zero, List.set_cons_succ]
  refine wpAnyH_take (i := 7) (v := ?_) rfl (by kernel_rfl) (by kernel_rfl) (by kernel_rfl) (fun _ _ _ h => h) (Or.inl ⟨by rfl, ?_⟩) (by assumption) ?_
  rotate_left
  · (intro w hSw; (try dsimp only at hSw); go_simp; first | done | with_reducible rfl)
  try simp only [List.getElem_toArray, List.getElem_cons_zero, List.getElem_cons_succ, Act.put, List.setIfInBounds_toArray, List.set_cons_zero, List.set_cons_succ]
  refine wpAnyH_take (i := 8) (v := ?_) rfl (by kernel_rfl) (by kernel_rfl) (by kernel_rfl) (fun _ _ _ h => h) (Or.inl ⟨by rfl, ?_⟩) (by assumption) ?_
  rotate_left
  · (intro w hSw; (try dsimp only at hSw); go_simp; first | done | with_reducible rfl)
  try simp only [List.getElem_toArray, List.getElem_cons_zero, List.getElem_cons_succ, Act.put, List.setIfInBounds_toArray, List.set_cons_zero, List.set_cons_succ]
  refine wpAnyH_take (i := 9) (v := ?_) rfl (by kernel_rfl) (by kernel_rfl) (by kernel_rfl) (fun _ _ _ h => h) (Or.inl ⟨by rfl, ?_⟩) (by assumption) ?_
  rotate_left
  · (intro w hSw; (try dsimp only at hSw); go_simp; first | done | with_reducible rfl)
  try simp only [List.getElem_toArray, List.getElem_cons_zero, List.getElem_cons_succ, Act.put, List.setIfInBounds_toArray, List.set_cons_zero, List.set_cons_succ]
  refine wpAnyH_take (i := 11) (v := ?_) rfl (by kernel_rfl) (by kernel_rfl) (by kernel_rfl) (fun _ _ _ h => h) (Or.inl ⟨by rfl, ?_⟩) (by assumption) ?_
  rotate_left
  · (intro w hSw; (try dsimp only at hSw); go_simp; first | done | with_reducible rfl)
  try simp only [List.getElem_toArray, List.getElem_cons_zero, List.getElem_cons_succ, Act.put, List.setIfInBounds_toArray, List.set_cons_zero, List.set_cons_succ]
  refine wpAnyH_take (i := 12) (v := ?_) rfl (by kernel_rfl) (by kernel_rfl) (by kernel_rfl) (fun _ _ _ h => h) (Or.inl ⟨by rfl, ?_⟩) (by assumption) ?_
  rotate_left
  · (intro w hSw; (try dsimp only at hSw); go_simp; first | done | with_reducible rfl)
  try simp only [List.getElem_toArray, List.getElem_cons_zero, List.getElem_cons_succ, Act.put, List.setIfInBounds_toArray, List.set_cons_zero, List.set_cons_succ]
  refine wpAnyH_ready (rs := [10]) (by kernel_rfl) (by simp) ?_
  refine AllReadyH.cons rfl (fun K hK => ?_) AllReadyH.nil
  go_simp
  (first
    | (go_at_call 37
       ((with_reducible refine (psub_as 41 41 x y LPP.out LPQ.out (by omega) (by omega) (by omega) (by omega) HR2 LR2).mono ?_))
       rintro e W25 ⟨V25, rfl, b3, u25⟩
       obtain ⟨Ab3, cb3, rfl⟩ := b3.form
       replace FZ := FZ.up u25
       replace m1 := m1.up u25
       replace m2 := m2.up u25
       replace k9 := k9.up u25
       replace k9d := k9d.up u25
       replace x := x.up u25
       replace y := y.up u25
       try (replace b1 := b1.up u25)
       try (replace b2 := b2.up u25)
       try (replace b3 := b3.up u25)
       try (replace b4 := b4.up u25)
       try (replace b5 := b5.up u25)
       try (replace b6 := b6.up u25)
       try (replace b7 := b7.up u25)
       try (replace b8 := b8.up u25)
       replace b0 := b0.up u25
       replace x9 := x9.up u25
       replace x12 := x12.up u25
       replace UP := UP.trans u25
       clear b0_0 b0_1 b0_2 x9_0 x9_1 x9_2 x12_0 x12_1 x12_2
       obtain ⟨b0_0, b0_1, b0_2⟩ := b0.c3
       obtain ⟨x9_0, x9_1, x9_2⟩ := x9.c3
       obtain ⟨x12_0, x12_1, x12_2⟩ := x12.c3
       clear u25))
  try go_wp2_with fail
  try clear hHeld
  refine hK.out _ _ ?_ (fun hHeld => ?_)
  · with_reducible exact ⟨UP, x9_0, x9_1, x9_2, x12_0, x12_1, x12_2⟩
  clear hK K
  try simp only [List.getElem_toArray, List.getElem_cons_zero, List.getElem_cons_succ, Act.put, List.setIfInBounds_toArray, List.set_cons_zero, List.set_cons_succ]
  refine wpAnyH_ready (rs := [13]) (by kernel_rfl) (by simp) ?_
  refine AllReadyH.cons rfl (fun K hK => ?_) AllReadyH.nil
  go_simp
  (first
    | (go_at_call 38
       ((with_reducible refine (ref_sub14 m1.q m2.q (by omega) (by omega) (by omega) (by omega) (by omega) (by omega) HR2' LR2).mono ?_))
       rintro e W26 ⟨V26, rfl, b4, u26⟩
       obtain ⟨Ab4, cb4, rfl⟩ := b4.form
       replace FZ := FZ.up u26
       replace m1 := m1.up u26
       replace m2 := m2.up u26
       replace k9 := k9.up u26
       replace k9d := k9d.up u26
       replace x := x.up u26
       replace y := y.up u26
       try (replace b1 := b1.up u26)
       try (replace b2 := b2.up u26)
       try (replace b3 := b3.up u26)
       try (replace b4 := b4.up u26)
       try (replace b5 := b5.up u26)
       try (replace b6 := b6.up u26)
       try (replace b7 := b7.up u26)
       try (replace b8 := b8.up u26)
       replace b0 := b0.up u26
       replace x9 := x9.up u26
       replace x12 := x12.up u26
       replace UP := UP.trans u26
       clear b0_0 b0_1 b0_2 x9_0 x9_1 x9_2 x12_0 x12_1 x12_2
       obtain ⟨b0_0, b0_1, b0_2⟩ := b0.c3
       obtain ⟨x9_0, x9_1, x9_2⟩ := x9.c3
       obtain ⟨x12_0, x12_1, x12_2⟩ := x12.c3
       clear u26))
  try go_wp2_with fail
  try clear hHeld
  refine hK.out _ _ ?_ (fun hHeld => ?_)
  · with_reducible exact ⟨UP, x9_0, x9_1, x9_2, x12_0, x12_1, x12_2⟩
  clear hK K
  try simp only [List.getElem_toArray, List.getElem_cons_zero, List.getElem_cons_succ, Act.put, List.setIfInBounds_toArray, List.set_cons_zero, List.set_cons_succ]
  refine wpAnyH_ready (rs := [14]) (by kernel_rfl) (by simp) ?_
  refine AllReadyH.cons rfl (fun K hK => ?_) AllReadyH.nil
  go_simp
  (first
    | (go_at_call 27
       ((with_reducible refine (is_yes b3.qs b4.q lR2 (by omega)).mono ?_))
       rintro e W27 ⟨rfl, u27⟩
       replace FZ := FZ.up u27
       replace m1 := m1.up u27
       replace m2 := m2.up u27
       replace k9 := k9.up u27
       replace k9d := k9d.up u27
       replace x := x.up u27
       replace y := y.up u27
       try (replace b1 := b1.up u27)
       try (replace b2 := b2.up u27)
       try (replace b3 := b3.up u27)
       try (replace b4 := b4.up u27)
       try (replace b5 := b5.up u27)
       try (replace b6 := b6.up u27)
       try (replace b7 := b7.up u27)
       try (replace b8 := b8.up u27)
       replace b0 := b0.up u27
       replace x9 := x9.up u27
       replace x12 := x12.up u27
       replace UP := UP.trans u27
       clear b0_0 b0_1 b0_2 x9_0 x9_1 x9_2 x12_0 x12_1 x12_2
       obtain ⟨b0_0, b0_1, b0_2⟩ := b0.c3
       obtain ⟨x9_0, x9_1, x9_2⟩ := x9.c3
       obtain ⟨x12_0, x12_1, x12_2⟩ := x12.c3
       clear u27))
  try go_wp2_with fail
  try clear hHeld
  refine hK.out _ _ ?_ (fun hHeld => ?_)
  · with_reducible exact ⟨UP, x9_0, x9_1, x9_2, x12_0, x12_1, x12_2⟩
  clear hK K
  try simp only [List.getElem_toArray, List.getElem_cons_zero, List.getElem_cons_succ, Act.put, List.setIfInBounds_toArray, List.set_cons_zero, List.set_cons_succ]
  refine wpAnyH_take (i := 15) (v := ?_) rfl (by kernel_rfl) (by kernel_rfl) (by kernel_rfl) (fun _ _ _ h => h) (Or.inl ⟨by rfl, ?_⟩) (by assumption) ?_
  rotate_left
  · (intro w hSw; (try dsimp only at hSw); go_simp; first | done | with_reducible rfl)
  try simp only [List.getElem_toArray, List.getElem_cons_zero, List.getElem_cons_succ, Act.put, List.setIfInBounds_toArray, List.set_cons_zero, List.set_cons_succ]
  refine wpAnyH_take (i := 16) (v := ?_) rfl (by kernel_rfl) (by kernel_rfl) (by kernel_rfl) (fun _ _ _ h => h) (Or.inl ⟨by rfl, ?_⟩) (by assumption) ?_
  rotate_left
  · (intro w hSw; (try dsimp only at hSw); go_simp; first | done | with_reducible rfl)
  try simp only [List.getElem_toArray, List.getElem_cons_zero, List.getElem_cons_succ, Act.put, List.setIfInBounds_toArray, List.set_cons_zero, List.set_cons_succ]
  refine wpAnyH_take (i := 17) (v := ?_) rfl (by kernel_rfl) (by kernel_rfl) (by kernel_rfl) (fun _ _ _ h => h) (Or.inl ⟨by rfl, ?_⟩) (by assumption) ?_
  rotate_left
  · (intro w hSw; (try dsimp only at hSw); go_simp; first | done | with_reducible rfl)
  try simp only [List.getElem_toArray, List.getElem_cons_zero, List.getElem_cons_succ, Act.put, List.setIfInBounds_toArray, List.set_cons_zero, List.set_cons_succ]
  refine wpAnyH_take (i := 18) (v := ?_) rfl (by kernel_rfl) (by kernel_rfl) (by kernel_rfl) (fun _ _ _ h => h) (Or.inl ⟨by rfl, ?_⟩) (by assumption) ?_
  rotate_left
  · (intro w hSw; (try dsimp only at hSw); go_simp; first | done | with_reducible rfl)
  try simp only [List.getElem_toArray, List.getElem_cons_zero, List.getElem_cons_succ, Act.put, List.setIfInBounds_toArray, List.set_cons_zero, List.set_cons_succ]
  refine wpAnyH_take (i := 20) (v := ?_) rfl (by kernel_rfl) (by kernel_rfl) (by kernel_rfl) (fun _ _ _ h => h) (Or.inl ⟨by rfl, ?_⟩) (by assumption) ?_
  rotate_left
  · (intro w hSw; (try dsimp only at hSw); go_simp; first | done | with_reducible rfl)
  try simp only [List.getElem_toArray, List.getElem_cons_zero, List.getElem_cons_succ, Act.put, List.setIfInBounds_toArray, List.set_cons_zero, List.set_cons_succ]
  refine wpAnyH_take (i := 21) (v := ?_) rfl (by kernel_rfl) (by kernel_rfl) (by kernel_rfl) (fun _ _ _ h => h) (Or.inl ⟨by rfl, ?_⟩) (by assumption) ?_
  rotate_left
  · (intro w hSw; (try dsimp only at hSw); go_simp; first | done | with_reducible rfl)
  try simp only [List.getElem_toArray, List.getElem_cons_zero, List.getElem_cons_succ, Act.put, List.setIfInBounds_toArray, List.set_cons_zero, List.set_cons_succ]
  refine wpAnyH_ready (rs := [19]) (by kernel_rfl) (by simp) ?_
  refine AllReadyH.cons rfl (fun K hK => ?_) AllReadyH.nil
  go_simp
  (first
    | (go_at_call 39
       ((with_reducible refine (pmul_as 41 41 x y LPP.out LPQ.out (by omega) (by omega) (by omega) (by omega) (by omega) HR3 LR3).mono ?_))
       rintro e W28 ⟨V28, rfl, b5, u28⟩
       obtain ⟨Ab5, cb5, rfl⟩ := b5.form
       replace FZ := FZ.up u28
       replace m1 := m1.up u28
       replace m2 := m2.up u28
       replace k9 := k9.up u28
       replace k9d := k9d.up u28
       replace x := x.up u28
       replace y := y.up u28
       try (replace b1 := b1.up u28)
       try (replace b2 := b2.up u28)
       try (replace b3 := b3.up u28)
       try (replace b4 := b4.up u28)
       try (replace b5 := b5.up u28)
       try (replace b6 := b6.up u28)
       try (replace b7 := b7.up u28)
       try (replace b8 := b8.up u28)
       replace b0 := b0.up u28
       replace x9 := x9.up u28
       replace x12 := x12.up u28
       replace UP := UP.trans u28
       clear b0_0 b0_1 b0_2 x9_0 x9_1 x9_2 x12_0 x12_1 x12_2
       obtain ⟨b0_0, b0_1, b0_2⟩ := b0.c3
       obtain ⟨x9_0, x9_1, x9_2⟩ := x9.c3
       obtain ⟨x12_0, x12_1, x12_2⟩ := x12.c3
       clear u28))
  try go_wp2_with fail
  try clear hHeld
  refine hK.out _ _ ?_ (fun hHeld => ?_)
  · with_reducible exact ⟨UP, x9_0, x9_1, x9_2, x12_0, x12_1, x12_2⟩
  clear hK K
  try simp only [List.getElem_toArray, List.getElem_cons_zero, List.getElem_cons_succ, Act.put, List.setIfInBounds_toArray, List.set_cons_zero, List.set_cons_succ]
  refine wpAnyH_ready (rs := [22]) (by kernel_rfl) (by simp) ?_
  refine AllReadyH.cons rfl (fun K hK => ?_) AllReadyH.nil
  go_simp
  (first
    | (go_at_call 40
       ((with_reducible refine (rmul_as 41 41 m1.q m2.q LPM.out LPN.out (by omega) (by omega) (by omega) (by omega) (by omega) HR3' LR3).mono ?_))
       rintro e W29 ⟨V29, rfl, b6, u29⟩
       obtain ⟨Ab6, cb6, rfl⟩ := b6.form
       replace FZ := FZ.up u29
       replace m1 := m1.up u29
       replace m2 := m2.up u29
       replace k9 := k9.up u29
       replace k9d := k9d.up u29
       replace x := x.up u29
       replace y := y.up u29
       try (replace b1 := b1.up u29)
       try (replace b2 := b2.up u29)
       try (replace b3 := b3.up u29)
       try (replace b4 := b4.up u29)
       try (replace b5 := b5.up u29)
       try (replace b6 := b6.up u29)
       try (replace b7 := b7.up u29)
       try (replace b8 := b8.up u29)
       replace b0 := b0.up u29
       replace x9 := x9.up u29
       replace x12 := x12.up u29
       replace UP := UP.trans u29
       clear b0_0 b0_1 b0_2 x9_0 x9_1 x9_2 x12_0 x12_1 x12_2
       obtain ⟨b0_0, b0_1, b0_2⟩ := b0.c3
       obtain ⟨x9_0, x9_1, x9_2⟩ := x9.c3
       obtain ⟨x12_0, x12_1, x12_2⟩ := x12.c3
       clear u29))
  try go_wp2_with fail
  try clear hHeld
  refine hK.out _ _ ?_ (fun hHeld => ?_)
  · with_reducible exact ⟨UP, x9_0, x9_1, x9_2, x12_0, x12_1, x12_2⟩
  clear hK K
  try simp only [List.getElem_toArray, List.getElem_cons_zero, List.getElem_cons_succ, Act.put, List.setIfInBounds_toArray, List.set_cons_zero, List.set_cons_succ]
  refine wpAnyH_ready (rs := [23]) (by kernel_rfl) (by simp) ?_
  refine AllReadyH.cons rfl (fun K hK => ?_) AllReadyH.nil
  go_simp
  (first
    | (go_at_call 27
       ((with_reducible refine (is_yes b5.qs b6.q lR3 (by omega)).mono ?_))
       rintro e W30 ⟨rfl, u30⟩
       replace FZ := FZ.up u30
       replace m1 := m1.up u30
       replace m2 := m2.up u30
       replace k9 := k9.up u30
       replace k9d := k9d.up u30
       replace x := x.up u30
       replace y := y.up u30
       try (replace b1 := b1.up u30)
       try (replace b2 := b2.up u30)
       try (replace b3 := b3.up u30)
       try (replace b4 := b4.up u30)
       try (replace b5 := b5.up u30)
       try (replace b6 := b6.up u30)
       try (replace b7 := b7.up u30)
       try (replace b8 := b8.up u30)
       replace b0 := b0.up u30
       replace x9 := x9.up u30
       replace x12 := x12.up u30
       replace UP := UP.trans u30
       clear b0_0 b0_1 b0_2 x9_0 x9_1 x9_2 x12_0 x12_1 x12_2
       obtain ⟨b0_0, b0_1, b0_2⟩ := b0.c3
       obtain ⟨x9_0, x9_1, x9_2⟩ := x9.c3
       obtain ⟨x12_0, x12_1, x12_2⟩ := x12.c3
       clear u30))
  try go_wp2_with fail
  try clear hHeld
  refine hK.out _ _ ?_ (fun hHeld => ?_)
  · with_reducible exact ⟨UP, x9_0, x9_1, x9_2, x12_0, x12_1, x12_2⟩
  clear hK K
  try simp only [List.getElem_toArray, List.getElem_cons_zero, List.getElem_cons_succ, Act.put, List.setIfInBounds_toArray, List.set_cons_zero, List.set_cons_succ]
  refine wpAnyH_take (i := 24) (v := ?_) rfl (by kernel_rfl) (by kernel_rfl) (by kernel_rfl) (fun _ _ _ h => h) (Or.inl ⟨by rfl, ?_⟩) (by assumption) ?_
  rotate_left
  · (intro w hSw; (try dsimp only at hSw); go_simp; first | done | with_reducible rfl)
  try simp only [List.getElem_toArray, List.getElem_cons_zero, List.getElem_cons_succ, Act.put, List.setIfInBounds_toArray, List.set_cons_zero, List.set_cons_succ]
  refine wpAnyH_take (i := 25) (v := ?_) rfl (by kernel_rfl) (by kernel_rfl) (by kernel_rfl) (fun _ _ _ h => h) (Or.inl ⟨by rfl, ?_⟩) (by assumption) ?_
  rotate_left
  · (intro w hSw; (try dsimp only at hSw); go_simp; first | done | with_reducible rfl)
  try simp only [List.getElem_toArray, List.getElem_cons_zero, List.getElem_cons_succ, Act.put, List.setIfInBounds_toArray, List.set_cons_zero, List.set_cons_succ]
  refine wpAnyH_take (i := 26) (v := ?_) rfl (by kernel_rfl) (by kernel_rfl) (by kernel_rfl) (fun _ _ _ h => h) (Or.inl ⟨by rfl, ?_⟩) (by assumption) ?_
  rotate_left
  · (intro w hSw; (try dsimp only at hSw); go_simp; first | done | with_reducible rfl)
  try simp only [List.getElem_toArray, List.getElem_cons_zero, List.getElem_cons_succ, Act.put, List.setIfInBounds_toArray, List.set_cons_zero, List.set_cons_succ]
  refine wpAnyH_take (i := 27) (v := ?_) rfl (by kernel_rfl) (by kernel_rfl) (by kernel_rfl) (fun _ _ _ h => h) (Or.inl ⟨by rfl, ?_⟩) (by assumption) ?_
  rotate_left
  · (intro w hSw; (try dsimp only at hSw); go_simp; first | done | with_reducible rfl)
  try simp only [List.getElem_toArray, List.getElem_cons_zero, List.getElem_cons_succ, Act.put, List.setIfInBounds_toArray, List.set_cons_zero, List.set_cons_succ]
  refine wpAnyH_take (i := 29) (v := ?_) rfl (by kernel_rfl) (by kernel_rfl) (by kernel_rfl) (fun _ _ _ h => h) (Or.inl ⟨by rfl, ?_⟩) (by assumption) ?_
  rotate_left
  · (intro w hSw; (try dsimp only at hSw); go_simp; first | done | with_reducible rfl)
  try simp only [List.getElem_toArray, List.getElem_cons_zero, List.getElem_cons_succ, Act.put, List.setIfInBounds_toArray, List.set_cons_zero, List.set_cons_succ]
  refine wpAnyH_take (i := 30) (v := ?_) rfl (by kernel_rfl) (by kernel_rfl) (by kernel_rfl) (fun _ _ _ h => h) (Or.inl ⟨by rfl, ?_⟩) (by assumption) ?_
  rotate_left
  · (intro w hSw; (try dsimp only at hSw); go_simp; first | done | with_reducible rfl)
  try simp only [List.getElem_toArray, List.getElem_cons_zero, List.getElem_cons_succ, Act.put, List.setIfInBounds_toArray, List.set_cons_zero, List.set_cons_succ]
  refine wpAnyH_ready (rs := [28]) (by kernel_rfl) (by simp) ?_
  refine AllReadyH.cons rfl (fun K hK => ?_) AllReadyH.nil
  go_simp
  (first
    | (go_at_call 41
       ((with_reducible refine (pscale_as FZ x (by omega) (by omega) (by omega) HR4 LR4).mono ?_))
       rintro e W31 ⟨V31, rfl, b7, u31⟩
       obtain ⟨Ab7, cb7, rfl⟩ := b7.form
       replace FZ := FZ.up u31
       replace m1 := m1.up u31
       replace m2 := m2.up u31
       replace k9 := k9.up u31
       replace k9d := k9d.up u31
       replace x := x.up u31
       replace y := y.up u31
       try (replace b1 := b1.up u31)
       try (replace b2 := b2.up u31)
       try (replace b3 := b3.up u31)
       try (replace b4 := b4.up u31)
       try (replace b5 := b5.up u31)
       try (replace b6 := b6.up u31)
       try (replace b7 := b7.up u31)
       try (replace b8 := b8.up u31)
       replace b0 := b0.up u31
       replace x9 := x9.up u31
       replace x12 := x12.up u31
       replace UP := UP.trans u31
       clear b0_0 b0_1 b0_2 x9_0 x9_1 x9_2 x12_0 x12_1 x12_2
       obtain ⟨b0_0, b0_1, b0_2⟩ := b0.c3
       obtain ⟨x9_0, x9_1, x9_2⟩ := x9.c3
       obtain ⟨x12_0, x12_1, x12_2⟩ := x12.c3
       clear u31))
  try go_wp2_with fail
  try clear hHeld
  refine hK.out _ _ ?_ (fun hHeld => ?_)
  · with_reducible exact ⟨UP, x9_0, x9_1, x9_2, x12_0, x12_1, x12_2⟩
  clear hK K
  try simp only [List.getElem_toArray, List.getElem_cons_zero, List.getElem_cons_succ, Act.put, List.setIfInBounds_toArray, List.set_cons_zero, List.set_cons_succ]
  refine wpAnyH_ready (rs := [31]) (by kernel_rfl) (by simp) ?_
  refine AllReadyH.cons rfl (fun K hK => ?_) AllReadyH.nil
  go_simp
  (first
    | (go_at_call 42
       ((with_reducible refine (ref_scale14 (Qk.mk' k9 k9d LZ) m1.q (by omega) (by omega) (by omega) HR4' LR4).mono ?_))
       rintro e W32 ⟨V32, rfl, b8, u32⟩
       obtain ⟨Ab8, cb8, rfl⟩ := b8.form
       replace FZ := FZ.up u32
       replace m1 := m1.up u32
       replace m2 := m2.up u32
       replace k9 := k9.up u32
       replace k9d := k9d.up u32
       replace x := x.up u32
       replace y := y.up u32
       try (replace b1 := b1.up u32)
       try (replace b2 := b2.up u32)
       try (replace b3 := b3.up u32)
       try (replace b4 := b4.up u32)
       try (replace b5 := b5.up u32)
       try (replace b6 := b6.up u32)
       try (replace b7 := b7.up u32)
       try (replace b8 := b8.up u32)
       replace b0 := b0.up u32
       replace x9 := x9.up u32
       replace x12 := x12.up u32
       replace UP := UP.trans u32
       clear b0_0 b0_1 b0_2 x9_0 x9_1 x9_2 x12_0 x12_1 x12_2
       obtain ⟨b0_0, b0_1, b0_2⟩ := b0.c3
       obtain ⟨x9_0, x9_1, x9_2⟩ := x9.c3
       obtain ⟨x12_0, x12_1, x12_2⟩ := x12.c3
       clear u32))
  try go_wp2_with fail
  try clear hHeld
  refine hK.out _ _ ?_ (fun hHeld => ?_)
  · with_reducible exact ⟨UP, x9_0, x9_1, x9_2, x12_0, x12_1, x12_2⟩
  clear hK K
  try simp only [List.getElem_toArray, List.getElem_cons_zero, List.getElem_cons_succ, Act.put, List.setIfInBounds_toArray, List.set_cons_zero, List.set_cons_succ]
  refine wpAnyH_ready (rs := [32]) (by kernel_rfl) (by simp) ?_
  refine AllReadyH.cons rfl (fun K hK => ?_) AllReadyH.nil
  go_simp
  (first
    | (go_at_call 27
       ((with_reducible refine (is_yes b7.qs b8.q lR4 (by omega)).mono ?_))
       rintro e W33 ⟨rfl, u33⟩
       replace FZ := FZ.up u33
       replace m1 := m1.up u33
       replace m2 := m2.up u33
       replace k9 := k9.up u33
       replace k9d := k9d.up u33
       replace x := x.up u33
       replace y := y.up u33
       try (replace b1 := b1.up u33)
       try (replace b2 := b2.up u33)
       try (replace b3 := b3.up u33)
       try (replace b4 := b4.up u33)
       try (replace b5 := b5.up u33)
       try (replace b6 := b6.up u33)
       try (replace b7 := b7.up u33)
       try (replace b8 := b8.up u33)
       replace b0 := b0.up u33
       replace x9 := x9.up u33
       replace x12 := x12.up u33
       replace UP := UP.trans u33
       clear b0_0 b0_1 b0_2 x9_0 x9_1 x9_2 x12_0 x12_1 x12_2
       obtain ⟨b0_0, b0_1, b0_2⟩ := b0.c3
       obtain ⟨x9_0, x9_1, x9_2⟩ := x9.c3
       obtain ⟨x12_0, x12_1, x12_2⟩ := x12.c3
       clear u33))
  try go_wp2_with fail
  try clear hHeld
  refine hK.out _ _ ?_ (fun hHeld => ?_)
  · with_reducible exact ⟨UP, x9_0, x9_1, x9_2, x12_0, x12_1, x12_2⟩
  clear hK K
  try simp only [List.getElem_toArray, List.getElem_cons_zero, List.getElem_cons_succ, Act.put, List.setIfInBounds_toArray, List.set_cons_zero, List.set_cons_succ]
  refine wpAnyH_take (i := 33) (v := ?_) rfl (by kernel_rfl) (by kernel_rfl) (by kernel_rfl) (fun _ _ _ h => h) (Or.inl ⟨by rfl, ?_⟩) (by assumption) ?_
  rotate_left
  · (intro w hSw; (try dsimp only at hSw); go_simp; first | done | with_reducible rfl)
  try simp only [List.getElem_toArray, List.getElem_cons_zero, List.getElem_cons_succ, Act.put, List.setIfInBounds_toArray, List.set_cons_zero, List.set_cons_succ]
  refine wpAnyH_take (i := 34) (v := ?_) rfl (by kernel_rfl) (by kernel_rfl) (by kernel_rfl) (fun _ _ _ h => h) (Or.inl ⟨by rfl, ?_⟩) (by assumption) ?_
  rotate_left
  · (intro w hSw; (try dsimp only at hSw); go_simp; first | done | with_reducible rfl)
  try simp only [List.getElem_toArray, List.getElem_cons_zero, List.getElem_cons_succ, Act.put, List.setIfInBounds_toArray, List.set_cons_zero, List.set_cons_succ]
  refine wpAnyH_ready (rs := [35]) (by kernel_rfl) (by simp) ?_
  refine AllReadyH.cons rfl (fun K hK => ?_) AllReadyH.nil
  go_simp
  (first
    | (go_at_call 21
       ((with_reducible refine (works14 _).mono ?_))
       rintro e W34 ⟨rfl, u34⟩
       replace FZ := FZ.up u34
       replace m1 := m1.up u34
       replace m2 := m2.up u34
       replace k9 := k9.up u34
       replace k9d := k9d.up u34
       replace x := x.up u34
       replace y := y.up u34
       try (replace b1 := b1.up u34)
       try (replace b2 := b2.up u34)
       try (replace b3 := b3.up u34)
       try (replace b4 := b4.up u34)
       try (replace b5 := b5.up u34)
       try (replace b6 := b6.up u34)
       try (replace b7 := b7.up u34)
       try (replace b8 := b8.up u34)
       replace b0 := b0.up u34
       replace x9 := x9.up u34
       replace x12 := x12.up u34
       replace UP := UP.trans u34
       clear b0_0 b0_1 b0_2 x9_0 x9_1 x9_2 x12_0 x12_1 x12_2
       obtain ⟨b0_0, b0_1, b0_2⟩ := b0.c3
       obtain ⟨x9_0, x9_1, x9_2⟩ := x9.c3
       obtain ⟨x12_0, x12_1, x12_2⟩ := x12.c3
       clear u34))
  try go_wp2_with fail
  try clear hHeld
  refine hK.out _ _ ?_ (fun hHeld => ?_)
  · with_reducible exact ⟨UP, x9_0, x9_1, x9_2, x12_0, x12_1, x12_2⟩
  clear hK K
  try simp only [List.getElem_toArray, List.getElem_cons_zero, List.getElem_cons_succ, Act.put, List.setIfInBounds_toArray, List.set_cons_zero, List.set_cons_succ]
  refine wpAnyH_take (i := 36) (v := ?_) rfl (by kernel_rfl) (by kernel_rfl) (by kernel_rfl) (fun _ _ _ h => h) (Or.inl ⟨by rfl, ?_⟩) (by assumption) ?_
  rotate_left
  · (intro w hSw; (try dsimp only at hSw); go_simp; first | done | with_reducible rfl)
  try simp only [List.getElem_toArray, List.getElem_cons_zero, List.getElem_cons_succ, Act.put, List.setIfInBounds_toArray, List.set_cons_zero, List.set_cons_succ]
  refine wpAnyH_ready (rs := [37]) (by kernel_rfl) (by simp) ?_
  refine AllReadyH.cons rfl (fun K hK => ?_) AllReadyH.nil
  go_simp
  skip
  try go_wp2_with fail
  try clear hHeld
  refine hK.out _ _ ?_ (fun hHeld => ?_)
  · with_reducible exact ⟨UP, x9_0, x9_1, x9_2, x12_0, x12_1, x12_2⟩
  clear hK K
  try simp only [List.getElem_toArray, List.getElem_cons_zero, List.getElem_cons_succ, Act.put, List.setIfInBounds_toArray, List.set_cons_zero, List.set_cons_succ]
  refine wpAnyH_done (by kernel_rfl) ?_ _
  refine NoPanic.normal ?_
  go_wp2
  go_ret
  exact ⟨rfl, UP⟩
end Go.Proofs.YtmmcffceeahemaaGreat
