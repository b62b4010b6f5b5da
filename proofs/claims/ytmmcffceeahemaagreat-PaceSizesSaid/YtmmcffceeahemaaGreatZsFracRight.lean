/-
  Layer 9: whether a fraction is right.
-/
import Derived.Test.YtmmcffceeahemaaGreatZsFracTo
set_option linter.unusedVariables false
set_option linter.unusedSimpArgs false
namespace Go.Proofs.YtmmcffceeahemaaGreat
open Go.RowKit
theorem nat_cmp_u {v u : Value} {a b : List Nat} {w : World} (ha : Ws w v a) (hb : Ws w u b) (hla : a.length ≤ 100000000000) (hlb : b.length ≤ 100000000000) :
 Calls Tryz.prog 165 #[v, u] w fun e w' => e = .returned (.int .i64 (Wd.cmpI (Wd.val a) (Wd.val b))) ∧ Up w w' :=
 (nat_cmp ha hb hla hlb).mono fun e w' ⟨n, he, hw⟩ => ⟨he, by rw [hw]; exact (Up.refl w).drewN n⟩
theorem cmpI_no {a b : Nat} (h : a ≠ b) : ((Wd.cmpI a b : Int) == 0) = false := by
 rcases Wd.cmpI_cases a b with ⟨_, e⟩ | ⟨h', _⟩ | ⟨_, e⟩
 · rw [e]; rfl
 · exact absurd h' h
 · rw [e]; rfl
set_option maxRecDepth 100000 in
set_option maxHeartbeats 6400000 in
theorem frac_right {s : Bool} {u v : Value} {l m : List Nat} {q : Rat} {w : World} (hl : Ws w u l) (hm : Ws w v m) (hq : mkRat (Wd.iv s (Wd.val l)) (Wd.val m) = q) (b1 : l.length ≤ 100000000) (b2 : m.length ≤ 100000000) :
 Calls Tryz.prog 137 #[.agg #[.bool s, u, v]] w fun e w' => e = .returned (.bool (rawB s (Wd.ngb q.num) l (Wd.words q.num.natAbs) m (Wd.words q.den))) ∧ Up w w' := by
 have FR : Fr w (.agg #[.bool s, u, v]) q 100000000 := ⟨s, _, _, l, m, rfl, hl, hm, hq, b1, b2, by omega⟩
 have okl := hl.ok
 have okm := hm.ok
 have c1 : (Wd.words q.num.natAbs).length ≤ 100000000 := FR.lq.1
 have c2 : (Wd.words q.den).length ≤ 100000000 := FR.lq.2
 obtain ⟨A, c, rfl⟩ := hl.form
 obtain ⟨D, d, rfl⟩ := hm.form
 obtain ⟨t, ht⟩ : ∃ t, Wd.ngb q.num = t := ⟨_, rfl⟩
 obtain ⟨n1, hn1⟩ : ∃ n, Wd.words q.num.natAbs = n := ⟨_, rfl⟩
 obtain ⟨n2, hn2⟩ : ∃ n, Wd.words q.den = n := ⟨_, rfl⟩
 have okn1 : Wd.Ok n1 := by rw [← hn1]; exact Wd.ok_words _
 have okn2 : Wd.Ok n2 := by rw [← hn2]; exact Wd.ok_words _
 rw [ht, hn1, hn2]
 rw [hn1] at c1
 rw [hn2] at c2
 have HT := Lib.hid ht
 have HN1 := Lib.hid hn1
 have HN2 := Lib.hid hn2
 clear ht hn1 hn2 hq
 by_cases k1 : (s == t) = true
 rotate_left
 · have k1 : (s == t) = false := by simpa using k1
   have HR : Hid (rawB s t l n1 m n2 = false) := Lib.hid (by unfold rawB; rw [k1]; rfl)
   have UP : Up w (w.alloc (.cells #[.bool s, .slice A l.length c, .slice D m.length d] 34)) := (Up.refl w).alloc _
   have b0 := Bx.new 34 w [.bool s, .slice A l.length c, .slice D m.length d]
   go_enter Tryz.func137, Tryz.ntmps137
   go_wp2_with fail
   generalize (w.alloc (.cells #[.bool s, .slice A l.length c, .slice D m.length d] 34)) = W at *
   replace hl := hl.up UP
   replace hm := hm.up UP
   replace FR := FR.up UP
   obtain ⟨b0_0, b0_1, b0_2⟩ := b0.c3
   go_wp2_with fail
   ((with_reducible refine (frac_norm FR (by omega)).mono ?_))
   rintro e W1 ⟨V1, rfl, q1, u1⟩
   replace hl := hl.up u1
   replace hm := hm.up u1
   replace FR := FR.up u1
   replace b0 := b0.up u1
   replace UP := UP.trans u1
   clear b0_0 b0_1 b0_2
   obtain ⟨b0_0, b0_1, b0_2⟩ := b0.c3
   clear u1
   obtain ⟨X, Y, rfl, q1, q1d⟩ := q1
   rw [HT.out]
   rw [HN1.out] at q1
   rw [HN2.out] at q1d
   obtain ⟨A1, e1, rfl⟩ := q1.form
   obtain ⟨A2, e2, rfl⟩ := q1d.form
   have b0_0a := fun O0 => (cell_alloc (o := O0) b0_0)
   have b0_1a := fun O0 => (cell_alloc (o := O0) b0_1)
   have b0_2a := fun O0 => (cell_alloc (o := O0) b0_2)
   go_wp2_with fail
   clear b0_0a b0_1a b0_2a
   have x1 := Bx.new 34 W1 [.bool t, .slice A1 n1.length e1, .slice A2 n2.length e2]
   have b0_lt_x1 := b0.lt
   have nu := ((Up.refl W1).alloc (.cells #[.bool t, .slice A1 n1.length e1, .slice A2 n2.length e2] 34))
   replace hl := hl.up nu
   replace hm := hm.up nu
   replace FR := FR.up nu
   replace q1 := q1.up nu
   replace q1d := q1d.up nu
   replace b0 := b0.up nu
   replace UP := UP.trans nu
   clear nu
   generalize (W1.alloc (.cells #[.bool t, .slice A1 n1.length e1, .slice A2 n2.length e2] 34)) = W2 at *
   clear b0_0 b0_1 b0_2
   obtain ⟨b0_0, b0_1, b0_2⟩ := b0.c3
   obtain ⟨x1_0, x1_1, x1_2⟩ := x1.c3
   go_wp2
   go_ret
   exact ⟨by rw [HR.out]; rfl, UP⟩
 by_cases h2 : l.length = n1.length
 rotate_left
 · have HR : Hid (rawB s t l n1 m n2 = false) := Lib.hid (by unfold rawB; rw [k1, decide_eq_false (fun e => h2 (by rw [e]))]; rfl)
   have k2 : ((l.length : Int) == (n1.length : Int)) = false := by rw [beq_eq_false_iff_ne]; omega
   clear h2
   have UP : Up w (w.alloc (.cells #[.bool s, .slice A l.length c, .slice D m.length d] 34)) := (Up.refl w).alloc _
   have b0 := Bx.new 34 w [.bool s, .slice A l.length c, .slice D m.length d]
   go_enter Tryz.func137, Tryz.ntmps137
   go_wp2_with fail
   generalize (w.alloc (.cells #[.bool s, .slice A l.length c, .slice D m.length d] 34)) = W at *
   replace hl := hl.up UP
   replace hm := hm.up UP
   replace FR := FR.up UP
   obtain ⟨b0_0, b0_1, b0_2⟩ := b0.c3
   go_wp2_with fail
   ((with_reducible refine (frac_norm FR (by omega)).mono ?_))
   rintro e W1 ⟨V1, rfl, q1, u1⟩
   replace hl := hl.up u1
   replace hm := hm.up u1
   replace FR := FR.up u1
   replace b0 := b0.up u1
   replace UP := UP.trans u1
   clear b0_0 b0_1 b0_2
   obtain ⟨b0_0, b0_1, b0_2⟩ := b0.c3
   clear u1
   obtain ⟨X, Y, rfl, q1, q1d⟩ := q1
   rw [HT.out]
   rw [HN1.out] at q1
   rw [HN2.out] at q1d
   obtain ⟨A1, e1, rfl⟩ := q1.form
   obtain ⟨A2, e2, rfl⟩ := q1d.form
   have b0_0a := fun O0 => (cell_alloc (o := O0) b0_0)
   have b0_1a := fun O0 => (cell_alloc (o := O0) b0_1)
   have b0_2a := fun O0 => (cell_alloc (o := O0) b0_2)
   go_wp2_with fail
   clear b0_0a b0_1a b0_2a
   have x1 := Bx.new 34 W1 [.bool t, .slice A1 n1.length e1, .slice A2 n2.length e2]
   have b0_lt_x1 := b0.lt
   have nu := ((Up.refl W1).alloc (.cells #[.bool t, .slice A1 n1.length e1, .slice A2 n2.length e2] 34))
   replace hl := hl.up nu
   replace hm := hm.up nu
   replace FR := FR.up nu
   replace q1 := q1.up nu
   replace q1d := q1d.up nu
   replace b0 := b0.up nu
   replace UP := UP.trans nu
   clear nu
   generalize (W1.alloc (.cells #[.bool t, .slice A1 n1.length e1, .slice A2 n2.length e2] 34)) = W2 at *
   clear b0_0 b0_1 b0_2
   obtain ⟨b0_0, b0_1, b0_2⟩ := b0.c3
   obtain ⟨x1_0, x1_1, x1_2⟩ := x1.c3
   go_wp2
   go_ret
   exact ⟨by rw [HR.out]; rfl, UP⟩
 have k2 : ((l.length : Int) == (n1.length : Int)) = true := by rw [beq_iff_eq]; omega
 have H2 := Lib.hid h2
 clear h2
 by_cases h3 : m.length = n2.length
 rotate_left
 · have HR : Hid (rawB s t l n1 m n2 = false) := Lib.hid (by unfold rawB; rw [k1, decide_eq_false (p := m = n2) (fun e => h3 (by rw [e]))]; simp)
   have k3 : ((m.length : Int) == (n2.length : Int)) = false := by rw [beq_eq_false_iff_ne]; omega
   clear h3
   have UP : Up w (w.alloc (.cells #[.bool s, .slice A l.length c, .slice D m.length d] 34)) := (Up.refl w).alloc _
   have b0 := Bx.new 34 w [.bool s, .slice A l.length c, .slice D m.length d]
   go_enter Tryz.func137, Tryz.ntmps137
   go_wp2_with fail
   generalize (w.alloc (.cells #[.bool s, .slice A l.length c, .slice D m.length d] 34)) = W at *
   replace hl := hl.up UP
   replace hm := hm.up UP
   replace FR := FR.up UP
   obtain ⟨b0_0, b0_1, b0_2⟩ := b0.c3
   go_wp2_with fail
   ((with_reducible refine (frac_norm FR (by omega)).mono ?_))
   rintro e W1 ⟨V1, rfl, q1, u1⟩
   replace hl := hl.up u1
   replace hm := hm.up u1
   replace FR := FR.up u1
   replace b0 := b0.up u1
   replace UP := UP.trans u1
   clear b0_0 b0_1 b0_2
   obtain ⟨b0_0, b0_1, b0_2⟩ := b0.c3
   clear u1
   obtain ⟨X, Y, rfl, q1, q1d⟩ := q1
   rw [HT.out]
   rw [HN1.out] at q1
   rw [HN2.out] at q1d
   obtain ⟨A1, e1, rfl⟩ := q1.form
   obtain ⟨A2, e2, rfl⟩ := q1d.form
   have b0_0a := fun O0 => (cell_alloc (o := O0) b0_0)
   have b0_1a := fun O0 => (cell_alloc (o := O0) b0_1)
   have b0_2a := fun O0 => (cell_alloc (o := O0) b0_2)
   go_wp2_with fail
   clear b0_0a b0_1a b0_2a
   have x1 := Bx.new 34 W1 [.bool t, .slice A1 n1.length e1, .slice A2 n2.length e2]
   have b0_lt_x1 := b0.lt
   have nu := ((Up.refl W1).alloc (.cells #[.bool t, .slice A1 n1.length e1, .slice A2 n2.length e2] 34))
   replace hl := hl.up nu
   replace hm := hm.up nu
   replace FR := FR.up nu
   replace q1 := q1.up nu
   replace q1d := q1d.up nu
   replace b0 := b0.up nu
   replace UP := UP.trans nu
   clear nu
   generalize (W1.alloc (.cells #[.bool t, .slice A1 n1.length e1, .slice A2 n2.length e2] 34)) = W2 at *
   clear b0_0 b0_1 b0_2
   obtain ⟨b0_0, b0_1, b0_2⟩ := b0.c3
   obtain ⟨x1_0, x1_1, x1_2⟩ := x1.c3
   go_wp2
   go_ret
   exact ⟨by rw [HR.out]; rfl, UP⟩
 have k3 : ((m.length : Int) == (n2.length : Int)) = true := by rw [beq_iff_eq]; omega
 have H3 := Lib.hid h3
 clear h3
 by_cases h4 : Wd.val l = Wd.val n1
 rotate_left
 · have HR : Hid (rawB s t l n1 m n2 = false) := Lib.hid (by unfold rawB; rw [k1, decide_eq_false (fun e => h4 (by rw [e]))]; rfl)
   have k4 := cmpI_no h4
   clear h4
   have UP : Up w (w.alloc (.cells #[.bool s, .slice A l.length c, .slice D m.length d] 34)) := (Up.refl w).alloc _
   have b0 := Bx.new 34 w [.bool s, .slice A l.length c, .slice D m.length d]
   go_enter Tryz.func137, Tryz.ntmps137
   go_wp2_with fail
   generalize (w.alloc (.cells #[.bool s, .slice A l.length c, .slice D m.length d] 34)) = W at *
   replace hl := hl.up UP
   replace hm := hm.up UP
   replace FR := FR.up UP
   obtain ⟨b0_0, b0_1, b0_2⟩ := b0.c3
   go_wp2_with fail
   ((with_reducible refine (frac_norm FR (by omega)).mono ?_))
   rintro e W1 ⟨V1, rfl, q1, u1⟩
   replace hl := hl.up u1
   replace hm := hm.up u1
   replace FR := FR.up u1
   replace b0 := b0.up u1
   replace UP := UP.trans u1
   clear b0_0 b0_1 b0_2
   obtain ⟨b0_0, b0_1, b0_2⟩ := b0.c3
   clear u1
   obtain ⟨X, Y, rfl, q1, q1d⟩ := q1
   rw [HT.out]
   rw [HN1.out] at q1
   rw [HN2.out] at q1d
   obtain ⟨A1, e1, rfl⟩ := q1.form
   obtain ⟨A2, e2, rfl⟩ := q1d.form
   have b0_0a := fun O0 => (cell_alloc (o := O0) b0_0)
   have b0_1a := fun O0 => (cell_alloc (o := O0) b0_1)
   have b0_2a := fun O0 => (cell_alloc (o := O0) b0_2)
   go_wp2_with fail
   clear b0_0a b0_1a b0_2a
   have x1 := Bx.new 34 W1 [.bool t, .slice A1 n1.length e1, .slice A2 n2.length e2]
   have b0_lt_x1 := b0.lt
   have nu := ((Up.refl W1).alloc (.cells #[.bool t, .slice A1 n1.length e1, .slice A2 n2.length e2] 34))
   replace hl := hl.up nu
   replace hm := hm.up nu
   replace FR := FR.up nu
   replace q1 := q1.up nu
   replace q1d := q1d.up nu
   replace b0 := b0.up nu
   replace UP := UP.trans nu
   clear nu
   generalize (W1.alloc (.cells #[.bool t, .slice A1 n1.length e1, .slice A2 n2.length e2] 34)) = W2 at *
   clear b0_0 b0_1 b0_2
   obtain ⟨b0_0, b0_1, b0_2⟩ := b0.c3
   obtain ⟨x1_0, x1_1, x1_2⟩ := x1.c3
   ((with_reducible refine (nat_cmp_u hl q1 (by omega) (by omega)).mono ?_))
   rintro e W3 ⟨rfl, u3⟩
   replace hl := hl.up u3
   replace hm := hm.up u3
   replace FR := FR.up u3
   replace q1 := q1.up u3
   replace q1d := q1d.up u3
   replace b0 := b0.up u3
   replace x1 := x1.up u3
   replace UP := UP.trans u3
   clear b0_0 b0_1 b0_2 x1_0 x1_1 x1_2
   obtain ⟨b0_0, b0_1, b0_2⟩ := b0.c3
   obtain ⟨x1_0, x1_1, x1_2⟩ := x1.c3
   clear u3
   go_wp2
   go_ret
   exact ⟨by rw [HR.out]; rfl, UP⟩
 have K4 := Lib.hid (Wd.cmpI_eq h4)
 have E4 : l = n1 := Wd.val_inj okl okn1 H2.out h4
 have H4 := Lib.hid E4
 clear h4 E4
 by_cases h5 : Wd.val m = Wd.val n2
 rotate_left
 · have HR : Hid (rawB s t l n1 m n2 = false) := Lib.hid (by unfold rawB; rw [k1, decide_eq_false (p := m = n2) (fun e => h5 (by rw [e]))]; simp)
   have k5 := cmpI_no h5
   clear h5
   have UP : Up w (w.alloc (.cells #[.bool s, .slice A l.length c, .slice D m.length d] 34)) := (Up.refl w).alloc _
   have b0 := Bx.new 34 w [.bool s, .slice A l.length c, .slice D m.length d]
   go_enter Tryz.func137, Tryz.ntmps137
   go_wp2_with fail
   generalize (w.alloc (.cells #[.bool s, .slice A l.length c, .slice D m.length d] 34)) = W at *
   replace hl := hl.up UP
   replace hm := hm.up UP
   replace FR := FR.up UP
   obtain ⟨b0_0, b0_1, b0_2⟩ := b0.c3
   go_wp2_with fail
   ((with_reducible refine (frac_norm FR (by omega)).mono ?_))
   rintro e W1 ⟨V1, rfl, q1, u1⟩
   replace hl := hl.up u1
   replace hm := hm.up u1
   replace FR := FR.up u1
   replace b0 := b0.up u1
   replace UP := UP.trans u1
   clear b0_0 b0_1 b0_2
   obtain ⟨b0_0, b0_1, b0_2⟩ := b0.c3
   clear u1
   obtain ⟨X, Y, rfl, q1, q1d⟩ := q1
   rw [HT.out]
   rw [HN1.out] at q1
   rw [HN2.out] at q1d
   obtain ⟨A1, e1, rfl⟩ := q1.form
   obtain ⟨A2, e2, rfl⟩ := q1d.form
   have b0_0a := fun O0 => (cell_alloc (o := O0) b0_0)
   have b0_1a := fun O0 => (cell_alloc (o := O0) b0_1)
   have b0_2a := fun O0 => (cell_alloc (o := O0) b0_2)
   go_wp2_with fail
   clear b0_0a b0_1a b0_2a
   have x1 := Bx.new 34 W1 [.bool t, .slice A1 n1.length e1, .slice A2 n2.length e2]
   have b0_lt_x1 := b0.lt
   have nu := ((Up.refl W1).alloc (.cells #[.bool t, .slice A1 n1.length e1, .slice A2 n2.length e2] 34))
   replace hl := hl.up nu
   replace hm := hm.up nu
   replace FR := FR.up nu
   replace q1 := q1.up nu
   replace q1d := q1d.up nu
   replace b0 := b0.up nu
   replace UP := UP.trans nu
   clear nu
   generalize (W1.alloc (.cells #[.bool t, .slice A1 n1.length e1, .slice A2 n2.length e2] 34)) = W2 at *
   clear b0_0 b0_1 b0_2
   obtain ⟨b0_0, b0_1, b0_2⟩ := b0.c3
   obtain ⟨x1_0, x1_1, x1_2⟩ := x1.c3
   ((with_reducible refine (nat_cmp_u hl q1 (by omega) (by omega)).mono ?_))
   rintro e W3 ⟨rfl, u3⟩
   replace hl := hl.up u3
   replace hm := hm.up u3
   replace FR := FR.up u3
   replace q1 := q1.up u3
   replace q1d := q1d.up u3
   replace b0 := b0.up u3
   replace x1 := x1.up u3
   replace UP := UP.trans u3
   clear b0_0 b0_1 b0_2 x1_0 x1_1 x1_2
   obtain ⟨b0_0, b0_1, b0_2⟩ := b0.c3
   obtain ⟨x1_0, x1_1, x1_2⟩ := x1.c3
   clear u3
   rw [K4.out]
   go_wp2_with fail
   ((with_reducible refine (nat_cmp_u hm q1d (by omega) (by omega)).mono ?_))
   rintro e W4 ⟨rfl, u4⟩
   replace hl := hl.up u4
   replace hm := hm.up u4
   replace FR := FR.up u4
   replace q1 := q1.up u4
   replace q1d := q1d.up u4
   replace b0 := b0.up u4
   replace x1 := x1.up u4
   replace UP := UP.trans u4
   clear b0_0 b0_1 b0_2 x1_0 x1_1 x1_2
   obtain ⟨b0_0, b0_1, b0_2⟩ := b0.c3
   obtain ⟨x1_0, x1_1, x1_2⟩ := x1.c3
   clear u4
   go_wp2
   go_ret
   exact ⟨by rw [HR.out]; rfl, UP⟩
 have K5 := Lib.hid (Wd.cmpI_eq h5)
 have E5 : m = n2 := Wd.val_inj okm okn2 H3.out h5
 have HR : Hid (rawB s t l n1 m n2 = true) := Lib.hid (by unfold rawB; rw [k1, decide_eq_true H4.out, decide_eq_true E5]; rfl)
 clear h5 E5
 have UP : Up w (w.alloc (.cells #[.bool s, .slice A l.length c, .slice D m.length d] 34)) := (Up.refl w).alloc _
 have b0 := Bx.new 34 w [.bool s, .slice A l.length c, .slice D m.length d]
 go_enter Tryz.func137, Tryz.ntmps137
 go_wp2_with fail
 generalize (w.alloc (.cells #[.bool s, .slice A l.length c, .slice D m.length d] 34)) = W at *
 replace hl := hl.up UP
 replace hm := hm.up UP
 replace FR := FR.up UP
 obtain ⟨b0_0, b0_1, b0_2⟩ := b0.c3
 go_wp2_with fail
 ((with_reducible refine (frac_norm FR (by omega)).mono ?_))
 rintro e W1 ⟨V1, rfl, q1, u1⟩
 replace hl := hl.up u1
 replace hm := hm.up u1
 replace FR := FR.up u1
 replace b0 := b0.up u1
 replace UP := UP.trans u1
 clear b0_0 b0_1 b0_2
 obtain ⟨b0_0, b0_1, b0_2⟩ := b0.c3
 clear u1
 obtain ⟨X, Y, rfl, q1, q1d⟩ := q1
 rw [HT.out]
 rw [HN1.out] at q1
 rw [HN2.out] at q1d
 obtain ⟨A1, e1, rfl⟩ := q1.form
 obtain ⟨A2, e2, rfl⟩ := q1d.form
 have b0_0a := fun O0 => (cell_alloc (o := O0) b0_0)
 have b0_1a := fun O0 => (cell_alloc (o := O0) b0_1)
 have b0_2a := fun O0 => (cell_alloc (o := O0) b0_2)
 go_wp2_with fail
 clear b0_0a b0_1a b0_2a
 have x1 := Bx.new 34 W1 [.bool t, .slice A1 n1.length e1, .slice A2 n2.length e2]
 have b0_lt_x1 := b0.lt
 have nu := ((Up.refl W1).alloc (.cells #[.bool t, .slice A1 n1.length e1, .slice A2 n2.length e2] 34))
 replace hl := hl.up nu
 replace hm := hm.up nu
 replace FR := FR.up nu
 replace q1 := q1.up nu
 replace q1d := q1d.up nu
 replace b0 := b0.up nu
 replace UP := UP.trans nu
 clear nu
 generalize (W1.alloc (.cells #[.bool t, .slice A1 n1.length e1, .slice A2 n2.length e2] 34)) = W2 at *
 clear b0_0 b0_1 b0_2
 obtain ⟨b0_0, b0_1, b0_2⟩ := b0.c3
 obtain ⟨x1_0, x1_1, x1_2⟩ := x1.c3
 ((with_reducible refine (nat_cmp_u hl q1 (by omega) (by omega)).mono ?_))
 rintro e W3 ⟨rfl, u3⟩
 replace hl := hl.up u3
 replace hm := hm.up u3
 replace FR := FR.up u3
 replace q1 := q1.up u3
 replace q1d := q1d.up u3
 replace b0 := b0.up u3
 replace x1 := x1.up u3
 replace UP := UP.trans u3
 clear b0_0 b0_1 b0_2 x1_0 x1_1 x1_2
 obtain ⟨b0_0, b0_1, b0_2⟩ := b0.c3
 obtain ⟨x1_0, x1_1, x1_2⟩ := x1.c3
 clear u3
 rw [K4.out]
 go_wp2_with fail
 ((with_reducible refine (nat_cmp_u hm q1d (by omega) (by omega)).mono ?_))
 rintro e W4 ⟨rfl, u4⟩
 replace hl := hl.up u4
 replace hm := hm.up u4
 replace FR := FR.up u4
 replace q1 := q1.up u4
 replace q1d := q1d.up u4
 replace b0 := b0.up u4
 replace x1 := x1.up u4
 replace UP := UP.trans u4
 clear b0_0 b0_1 b0_2 x1_0 x1_1 x1_2
 obtain ⟨b0_0, b0_1, b0_2⟩ := b0.c3
 obtain ⟨x1_0, x1_1, x1_2⟩ := x1.c3
 clear u4
 rw [K5.out]
 go_wp2
 go_ret
 exact ⟨by rw [HR.out]; rfl, UP⟩
end Go.Proofs.YtmmcffceeahemaaGreat
