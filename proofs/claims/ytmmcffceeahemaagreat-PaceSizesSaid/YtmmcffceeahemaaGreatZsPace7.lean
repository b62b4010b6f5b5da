/-
  Layer 36: the chapter's examples.
-/
import Derived.Test.YtmmcffceeahemaaGreatZsPace6
import Derived.Test.YtmmcffceeahemaaGreatZsFracTo
set_option linter.unusedVariables false
set_option linter.unusedSimpArgs false
namespace Go.Proofs.YtmmcffceeahemaaGreat
open Go.RowKit
theorem raw_q (q : Rat) : mkRat (Wd.iv (Wd.ngb q.num) (Wd.val (Wd.words q.num.natAbs))) (Wd.val (Wd.words q.den)) = q := by
 rw [Wd.val_words, Wd.val_words, Wd.iv_ngb, Rat.mkRat_self]
theorem good_q {q : Rat} (h : q.num.natAbs < 4294967296 ∧ q.den < 4294967296) : good (Wd.ngb q.num, Wd.words q.num.natAbs, Wd.words q.den) = true := by
 have h1 := Wd.bl_len (Wd.words_32 h.1)
 have h2 := Wd.bl_len (Wd.words_32 h.2)
 unfold good
 rw [show Raw.val (Wd.ngb q.num, Wd.words q.num.natAbs, Wd.words q.den) = q from raw_q q]
 dsimp only
 rw [rawB_self, Bool.true_and, Wd.val_words, Wd.val_words]
 exact decide_eq_true (by omega)
theorem us_right {U1 U2 U3 U4 U5 : Rat} (e1 : U1 = Pc.u1) (e2 : U2 = Pc.u2) (e3 : U3 = Pc.u3) (e4 : U4 = Pc.u4) (e5 : U5 = Pc.u5) : (Pc.wrong (List.all [(Wd.ngb U1.num, Wd.words U1.num.natAbs, Wd.words U1.den), (Wd.ngb U2.num, Wd.words U2.num.natAbs, Wd.words U2.den), (Wd.ngb U3.num, Wd.words U3.num.natAbs, Wd.words U3.den), (Wd.ngb U4.num, Wd.words U4.num.natAbs, Wd.words U4.den), (Wd.ngb U5.num, Wd.words U5.num.natAbs, Wd.words U5.den)] good) (mkRat (Wd.iv (Wd.ngb U1.num) (Wd.val (Wd.words U1.num.natAbs))) (Wd.val (Wd.words U1.den))) (mkRat (Wd.iv (Wd.ngb U2.num) (Wd.val (Wd.words U2.num.natAbs))) (Wd.val (Wd.words U2.den))) (mkRat (Wd.iv (Wd.ngb U3.num) (Wd.val (Wd.words U3.num.natAbs))) (Wd.val (Wd.words U3.den))) (mkRat (Wd.iv (Wd.ngb U4.num) (Wd.val (Wd.words U4.num.natAbs))) (Wd.val (Wd.words U4.den))) (mkRat (Wd.iv (Wd.ngb U5.num) (Wd.val (Wd.words U5.num.natAbs))) (Wd.val (Wd.words U5.den))) 16 100 == 0) = true := by
 have h1 : U1.num.natAbs < 4294967296 ∧ U1.den < 4294967296 := by rw [e1]; exact Pc.us_num.1
 have h2 : U2.num.natAbs < 4294967296 ∧ U2.den < 4294967296 := by rw [e2]; exact Pc.us_num.2.1
 have h3 : U3.num.natAbs < 4294967296 ∧ U3.den < 4294967296 := by rw [e3]; exact Pc.us_num.2.2.1
 have h4 : U4.num.natAbs < 4294967296 ∧ U4.den < 4294967296 := by rw [e4]; exact Pc.us_num.2.2.2.1
 have h5 : U5.num.natAbs < 4294967296 ∧ U5.den < 4294967296 := by rw [e5]; exact Pc.us_num.2.2.2.2
 have hg : (List.all [(Wd.ngb U1.num, Wd.words U1.num.natAbs, Wd.words U1.den), (Wd.ngb U2.num, Wd.words U2.num.natAbs, Wd.words U2.den), (Wd.ngb U3.num, Wd.words U3.num.natAbs, Wd.words U3.den), (Wd.ngb U4.num, Wd.words U4.num.natAbs, Wd.words U4.den), (Wd.ngb U5.num, Wd.words U5.num.natAbs, Wd.words U5.den)] good) = true := by
  simp only [List.all_cons, List.all_nil, good_q h1, good_q h2, good_q h3, good_q h4, good_q h5, Bool.and_self]
 have hw : Pc.wrong true U1 U2 U3 U4 U5 16 100 = 0 := by rw [e1, e2, e3, e4, e5]; exact Pc.us_wrong
 rw [hg, raw_q, raw_q, raw_q, raw_q, raw_q, hw]
 rfl
theorem few_q {q : Rat} (h : q.num.natAbs < 4294967296 ∧ q.den < 4294967296) : (Wd.words q.num.natAbs).length ≤ 1000 ∧ (Wd.words q.den).length ≤ 1000 := ⟨Nat.le_trans (Wd.words_32 h.1) (by omega), Nat.le_trans (Wd.words_32 h.2) (by omega)⟩
theorem fr_q {w : World} {A D : Option Addr} {n c m d : Nat} {q : Rat} (h : Ws w (.slice A n c) (Wd.words q.num.natAbs)) (k : Ws w (.slice D m d) (Wd.words q.den)) (hq : q.num.natAbs < 4294967296 ∧ q.den < 4294967296) : Fr w (.agg #[.bool (Wd.ngb q.num), .slice A n c, .slice D m d]) q 1000 := (qw_of2 h k).fr ((Pc.lq_one hq).mono (by omega))
set_option maxRecDepth 100000 in
set_option maxHeartbeats 12800000 in
theorem works36 (w : World) : Calls Tryz.prog 10 #[] w fun e w' => e = .returned (.bool true) ∧ Up w w' := by
 obtain ⟨U1, e1⟩ : ∃ q, q = Pc.u1 := ⟨_, rfl⟩
 obtain ⟨U2, e2⟩ : ∃ q, q = Pc.u2 := ⟨_, rfl⟩
 obtain ⟨U3, e3⟩ : ∃ q, q = Pc.u3 := ⟨_, rfl⟩
 obtain ⟨U4, e4⟩ : ∃ q, q = Pc.u4 := ⟨_, rfl⟩
 obtain ⟨U5, e5⟩ : ∃ q, q = Pc.u5 := ⟨_, rfl⟩
 have H1 : Hid (((1 : Int) : Rat) / ((1000 : Int) : Rat) = U1) := Lib.hid (by rw [e1]; rfl)
 have N1 : Hid (U1.num.natAbs < 4294967296 ∧ U1.den < 4294967296) := Lib.hid (by rw [e1]; exact Pc.us_num.1)
 have H2 : Hid (((9 : Int) : Rat) / ((10 : Int) : Rat) = U2) := Lib.hid (by rw [e2]; rfl)
 have N2 : Hid (U2.num.natAbs < 4294967296 ∧ U2.den < 4294967296) := Lib.hid (by rw [e2]; exact Pc.us_num.2.1)
 have H3 : Hid (((1 : Int) : Rat) / ((5 : Int) : Rat) = U3) := Lib.hid (by rw [e3]; rfl)
 have N3 : Hid (U3.num.natAbs < 4294967296 ∧ U3.den < 4294967296) := Lib.hid (by rw [e3]; exact Pc.us_num.2.2.1)
 have H4 : Hid (((5 : Int) : Rat) = U4) := Lib.hid (by rw [e4]; rfl)
 have N4 : Hid (U4.num.natAbs < 4294967296 ∧ U4.den < 4294967296) := Lib.hid (by rw [e4]; exact Pc.us_num.2.2.2.1)
 have H5 : Hid (((1 : Int) : Rat) / ((1000000 : Int) : Rat) = U5) := Lib.hid (by rw [e5]; rfl)
 have N5 : Hid (U5.num.natAbs < 4294967296 ∧ U5.den < 4294967296) := Lib.hid (by rw [e5]; exact Pc.us_num.2.2.2.2)
 have HR := Lib.hid (us_right e1 e2 e3 e4 e5)
 obtain ⟨S, HS⟩ : ∃ q, Hid (((7 : Int) : Rat) / ((8 : Int) : Rat) = q) := ⟨_, Lib.hid rfl⟩
 obtain ⟨V, HV⟩ : ∃ q, Hid (((5 : Int) : Rat) = q) := ⟨_, Lib.hid rfl⟩
 have LS : Wd.Lq S 4 := by rw [← HS.out]; exact (lq_int (n := 7) (by omega)).div (lq_int (n := 8) (by omega))
 have LV : Wd.Lq V 2 := by rw [← HV.out]; exact lq_int (by omega)
 have HF1 : Hid (Pc.fac U1 U2 U3 U4 16 U1 = S) := Lib.hid (by rw [e1, e2, e3, e4]; exact Pc.us_fac.trans HS.out)
 have HF2 : Hid (Pc.fac U1 U2 U3 U4 16 0 = V) := Lib.hid (by rw [e1, e2, e3, e4]; exact Pc.us_zero.trans HV.out)
 clear e1 e2 e3 e4 e5
 have UP : Up w w := Up.refl w
 go_enter Tryz.func10, Tryz.ntmps10
 go_wp2_with fail
 ((with_reducible refine (pace_usual H1 H2 H3 H4 H5 _).mono ?_))
 rintro e W1 ⟨A1, A2, A3, A4, A5, D1, D2, D3, D4, D5, c1, c2, c3, c4, c5, e1, e2, e3, e4, e5, rfl, ⟨a1, a2, b1, b2, p1, p2, q1, q2, t1, t2⟩, u1⟩
 replace UP := UP.trans u1
 clear u1
 go_wp2_with fail
 have x1 := Bx.new 36 W1 [.bool (Wd.ngb U1.num), .slice A1 (Wd.words U1.num.natAbs).length c1, .slice D1 (Wd.words U1.den).length e1, .bool (Wd.ngb U2.num), .slice A2 (Wd.words U2.num.natAbs).length c2, .slice D2 (Wd.words U2.den).length e2, .bool (Wd.ngb U3.num), .slice A3 (Wd.words U3.num.natAbs).length c3, .slice D3 (Wd.words U3.den).length e3, .bool (Wd.ngb U4.num), .slice A4 (Wd.words U4.num.natAbs).length c4, .slice D4 (Wd.words U4.den).length e4, .bool (Wd.ngb U5.num), .slice A5 (Wd.words U5.num.natAbs).length c5, .slice D5 (Wd.words U5.den).length e5, .int .i64 16, .int .i64 100]
 have nu := ((Up.refl W1).alloc (.cells #[.bool (Wd.ngb U1.num), .slice A1 (Wd.words U1.num.natAbs).length c1, .slice D1 (Wd.words U1.den).length e1, .bool (Wd.ngb U2.num), .slice A2 (Wd.words U2.num.natAbs).length c2, .slice D2 (Wd.words U2.den).length e2, .bool (Wd.ngb U3.num), .slice A3 (Wd.words U3.num.natAbs).length c3, .slice D3 (Wd.words U3.den).length e3, .bool (Wd.ngb U4.num), .slice A4 (Wd.words U4.num.natAbs).length c4, .slice D4 (Wd.words U4.den).length e4, .bool (Wd.ngb U5.num), .slice A5 (Wd.words U5.num.natAbs).length c5, .slice D5 (Wd.words U5.den).length e5, .int .i64 16, .int .i64 100] 36))
 replace a1 := a1.up nu
 replace a2 := a2.up nu
 replace b1 := b1.up nu
 replace b2 := b2.up nu
 replace p1 := p1.up nu
 replace p2 := p2.up nu
 replace q1 := q1.up nu
 replace q2 := q2.up nu
 replace t1 := t1.up nu
 replace t2 := t2.up nu
 replace UP := UP.trans nu
 clear nu
 generalize (W1.alloc (.cells #[.bool (Wd.ngb U1.num), .slice A1 (Wd.words U1.num.natAbs).length c1, .slice D1 (Wd.words U1.den).length e1, .bool (Wd.ngb U2.num), .slice A2 (Wd.words U2.num.natAbs).length c2, .slice D2 (Wd.words U2.den).length e2, .bool (Wd.ngb U3.num), .slice A3 (Wd.words U3.num.natAbs).length c3, .slice D3 (Wd.words U3.den).length e3, .bool (Wd.ngb U4.num), .slice A4 (Wd.words U4.num.natAbs).length c4, .slice D4 (Wd.words U4.den).length e4, .bool (Wd.ngb U5.num), .slice A5 (Wd.words U5.num.natAbs).length c5, .slice D5 (Wd.words U5.den).length e5, .int .i64 16, .int .i64 100] 36)) = W2 at *
 have x1_0 := x1.cell (i := 0) rfl
 have x1_1 := x1.cell (i := 1) rfl
 have x1_2 := x1.cell (i := 2) rfl
 have x1_3 := x1.cell (i := 3) rfl
 have x1_4 := x1.cell (i := 4) rfl
 have x1_5 := x1.cell (i := 5) rfl
 have x1_6 := x1.cell (i := 6) rfl
 have x1_7 := x1.cell (i := 7) rfl
 have x1_8 := x1.cell (i := 8) rfl
 have x1_9 := x1.cell (i := 9) rfl
 have x1_10 := x1.cell (i := 10) rfl
 have x1_11 := x1.cell (i := 11) rfl
 have x1_12 := x1.cell (i := 12) rfl
 have x1_13 := x1.cell (i := 13) rfl
 have x1_14 := x1.cell (i := 14) rfl
 have x1_15 := x1.cell (i := 15) rfl
 have x1_16 := x1.cell (i := 16) rfl
 ((with_reducible refine (pace_factor (fr_q a1 a2 N1.out) (fr_q b1 b2 N2.out) (fr_q p1 p2 N3.out) (fr_q q1 q2 N4.out) (fr_q a1 a2 N1.out) (by omega) (by omega) (by omega)).mono ?_))
 rintro e W3 ⟨V3, rfl, f, u3⟩
 replace a1 := a1.up u3
 replace a2 := a2.up u3
 replace b1 := b1.up u3
 replace b2 := b2.up u3
 replace p1 := p1.up u3
 replace p2 := p2.up u3
 replace q1 := q1.up u3
 replace q2 := q2.up u3
 replace t1 := t1.up u3
 replace t2 := t2.up u3
 replace x1 := x1.up u3
 replace UP := UP.trans u3
 clear x1_0 x1_1 x1_2 x1_3 x1_4 x1_5 x1_6 x1_7 x1_8 x1_9 x1_10 x1_11 x1_12 x1_13 x1_14 x1_15 x1_16
 have x1_0 := x1.cell (i := 0) rfl
 have x1_1 := x1.cell (i := 1) rfl
 have x1_2 := x1.cell (i := 2) rfl
 have x1_3 := x1.cell (i := 3) rfl
 have x1_4 := x1.cell (i := 4) rfl
 have x1_5 := x1.cell (i := 5) rfl
 have x1_6 := x1.cell (i := 6) rfl
 have x1_7 := x1.cell (i := 7) rfl
 have x1_8 := x1.cell (i := 8) rfl
 have x1_9 := x1.cell (i := 9) rfl
 have x1_10 := x1.cell (i := 10) rfl
 have x1_11 := x1.cell (i := 11) rfl
 have x1_12 := x1.cell (i := 12) rfl
 have x1_13 := x1.cell (i := 13) rfl
 have x1_14 := x1.cell (i := 14) rfl
 have x1_15 := x1.cell (i := 15) rfl
 have x1_16 := x1.cell (i := 16) rfl
 clear u3
 rw [HF1.out] at f
 obtain ⟨Xf, Yf, rfl, f, fd⟩ := f
 obtain ⟨Af, nf, cf, rfl⟩ := f.shape
 obtain ⟨Afd, nfd, cfd, rfl⟩ := fd.shape
 have x1_0a := fun O0 => (cell_alloc (o := O0) x1_0)
 have x1_1a := fun O0 => (cell_alloc (o := O0) x1_1)
 have x1_2a := fun O0 => (cell_alloc (o := O0) x1_2)
 have x1_3a := fun O0 => (cell_alloc (o := O0) x1_3)
 have x1_4a := fun O0 => (cell_alloc (o := O0) x1_4)
 have x1_5a := fun O0 => (cell_alloc (o := O0) x1_5)
 have x1_6a := fun O0 => (cell_alloc (o := O0) x1_6)
 have x1_7a := fun O0 => (cell_alloc (o := O0) x1_7)
 have x1_8a := fun O0 => (cell_alloc (o := O0) x1_8)
 have x1_9a := fun O0 => (cell_alloc (o := O0) x1_9)
 have x1_10a := fun O0 => (cell_alloc (o := O0) x1_10)
 have x1_11a := fun O0 => (cell_alloc (o := O0) x1_11)
 have x1_12a := fun O0 => (cell_alloc (o := O0) x1_12)
 have x1_13a := fun O0 => (cell_alloc (o := O0) x1_13)
 have x1_14a := fun O0 => (cell_alloc (o := O0) x1_14)
 have x1_15a := fun O0 => (cell_alloc (o := O0) x1_15)
 have x1_16a := fun O0 => (cell_alloc (o := O0) x1_16)
 go_wp2_with fail
 clear x1_0a x1_1a x1_2a x1_3a x1_4a x1_5a x1_6a x1_7a x1_8a x1_9a x1_10a x1_11a x1_12a x1_13a x1_14a x1_15a x1_16a
 have x2 := Bx.new 34 W3 [.bool (Wd.ngb S.num), .slice Af nf cf, .slice Afd nfd cfd]
 have x1_lt_x2 := x1.lt
 have nu := ((Up.refl W3).alloc (.cells #[.bool (Wd.ngb S.num), .slice Af nf cf, .slice Afd nfd cfd] 34))
 replace a1 := a1.up nu
 replace a2 := a2.up nu
 replace b1 := b1.up nu
 replace b2 := b2.up nu
 replace p1 := p1.up nu
 replace p2 := p2.up nu
 replace q1 := q1.up nu
 replace q2 := q2.up nu
 replace t1 := t1.up nu
 replace t2 := t2.up nu
 replace f := f.up nu
 replace fd := fd.up nu
 replace x1 := x1.up nu
 replace UP := UP.trans nu
 clear nu
 generalize (W3.alloc (.cells #[.bool (Wd.ngb S.num), .slice Af nf cf, .slice Afd nfd cfd] 34)) = W4 at *
 clear x1_0 x1_1 x1_2 x1_3 x1_4 x1_5 x1_6 x1_7 x1_8 x1_9 x1_10 x1_11 x1_12 x1_13 x1_14 x1_15 x1_16
 have x1_0 := x1.cell (i := 0) rfl
 have x1_1 := x1.cell (i := 1) rfl
 have x1_2 := x1.cell (i := 2) rfl
 have x1_3 := x1.cell (i := 3) rfl
 have x1_4 := x1.cell (i := 4) rfl
 have x1_5 := x1.cell (i := 5) rfl
 have x1_6 := x1.cell (i := 6) rfl
 have x1_7 := x1.cell (i := 7) rfl
 have x1_8 := x1.cell (i := 8) rfl
 have x1_9 := x1.cell (i := 9) rfl
 have x1_10 := x1.cell (i := 10) rfl
 have x1_11 := x1.cell (i := 11) rfl
 have x1_12 := x1.cell (i := 12) rfl
 have x1_13 := x1.cell (i := 13) rfl
 have x1_14 := x1.cell (i := 14) rfl
 have x1_15 := x1.cell (i := 15) rfl
 have x1_16 := x1.cell (i := 16) rfl
 obtain ⟨x2_0, x2_1, x2_2⟩ := x2.c3
 ((with_reducible refine (frac_ratio (n := 7) (d := 8) (by omega) (by omega) _).mono ?_))
 rintro e W5 ⟨V5, rfl, g, u5⟩
 replace a1 := a1.up u5
 replace a2 := a2.up u5
 replace b1 := b1.up u5
 replace b2 := b2.up u5
 replace p1 := p1.up u5
 replace p2 := p2.up u5
 replace q1 := q1.up u5
 replace q2 := q2.up u5
 replace t1 := t1.up u5
 replace t2 := t2.up u5
 replace f := f.up u5
 replace fd := fd.up u5
 replace x1 := x1.up u5
 replace x2 := x2.up u5
 replace UP := UP.trans u5
 clear x1_0 x1_1 x1_2 x1_3 x1_4 x1_5 x1_6 x1_7 x1_8 x1_9 x1_10 x1_11 x1_12 x1_13 x1_14 x1_15 x1_16 x2_0 x2_1 x2_2
 have x1_0 := x1.cell (i := 0) rfl
 have x1_1 := x1.cell (i := 1) rfl
 have x1_2 := x1.cell (i := 2) rfl
 have x1_3 := x1.cell (i := 3) rfl
 have x1_4 := x1.cell (i := 4) rfl
 have x1_5 := x1.cell (i := 5) rfl
 have x1_6 := x1.cell (i := 6) rfl
 have x1_7 := x1.cell (i := 7) rfl
 have x1_8 := x1.cell (i := 8) rfl
 have x1_9 := x1.cell (i := 9) rfl
 have x1_10 := x1.cell (i := 10) rfl
 have x1_11 := x1.cell (i := 11) rfl
 have x1_12 := x1.cell (i := 12) rfl
 have x1_13 := x1.cell (i := 13) rfl
 have x1_14 := x1.cell (i := 14) rfl
 have x1_15 := x1.cell (i := 15) rfl
 have x1_16 := x1.cell (i := 16) rfl
 obtain ⟨x2_0, x2_1, x2_2⟩ := x2.c3
 clear u5
 rw [HS.out] at g
 obtain ⟨Xg, Yg, rfl, g, gd⟩ := g
 obtain ⟨Ag, ng, cg, rfl⟩ := g.shape
 obtain ⟨Agd, ngd, cgd, rfl⟩ := gd.shape
 have x1_0a := fun O0 => (cell_alloc (o := O0) x1_0)
 have x1_1a := fun O0 => (cell_alloc (o := O0) x1_1)
 have x1_2a := fun O0 => (cell_alloc (o := O0) x1_2)
 have x1_3a := fun O0 => (cell_alloc (o := O0) x1_3)
 have x1_4a := fun O0 => (cell_alloc (o := O0) x1_4)
 have x1_5a := fun O0 => (cell_alloc (o := O0) x1_5)
 have x1_6a := fun O0 => (cell_alloc (o := O0) x1_6)
 have x1_7a := fun O0 => (cell_alloc (o := O0) x1_7)
 have x1_8a := fun O0 => (cell_alloc (o := O0) x1_8)
 have x1_9a := fun O0 => (cell_alloc (o := O0) x1_9)
 have x1_10a := fun O0 => (cell_alloc (o := O0) x1_10)
 have x1_11a := fun O0 => (cell_alloc (o := O0) x1_11)
 have x1_12a := fun O0 => (cell_alloc (o := O0) x1_12)
 have x1_13a := fun O0 => (cell_alloc (o := O0) x1_13)
 have x1_14a := fun O0 => (cell_alloc (o := O0) x1_14)
 have x1_15a := fun O0 => (cell_alloc (o := O0) x1_15)
 have x1_16a := fun O0 => (cell_alloc (o := O0) x1_16)
 have x2_0a := fun O0 => (cell_alloc (o := O0) x2_0)
 have x2_1a := fun O0 => (cell_alloc (o := O0) x2_1)
 have x2_2a := fun O0 => (cell_alloc (o := O0) x2_2)
 go_wp2_with fail
 clear x1_0a x1_1a x1_2a x1_3a x1_4a x1_5a x1_6a x1_7a x1_8a x1_9a x1_10a x1_11a x1_12a x1_13a x1_14a x1_15a x1_16a x2_0a x2_1a x2_2a
 have x3 := Bx.new 34 W5 [.bool (Wd.ngb S.num), .slice Ag ng cg, .slice Agd ngd cgd]
 have x1_lt_x3 := x1.lt
 have x2_lt_x3 := x2.lt
 have nu := ((Up.refl W5).alloc (.cells #[.bool (Wd.ngb S.num), .slice Ag ng cg, .slice Agd ngd cgd] 34))
 replace a1 := a1.up nu
 replace a2 := a2.up nu
 replace b1 := b1.up nu
 replace b2 := b2.up nu
 replace p1 := p1.up nu
 replace p2 := p2.up nu
 replace q1 := q1.up nu
 replace q2 := q2.up nu
 replace t1 := t1.up nu
 replace t2 := t2.up nu
 replace f := f.up nu
 replace fd := fd.up nu
 replace g := g.up nu
 replace gd := gd.up nu
 replace x1 := x1.up nu
 replace x2 := x2.up nu
 replace UP := UP.trans nu
 clear nu
 generalize (W5.alloc (.cells #[.bool (Wd.ngb S.num), .slice Ag ng cg, .slice Agd ngd cgd] 34)) = W6 at *
 clear x1_0 x1_1 x1_2 x1_3 x1_4 x1_5 x1_6 x1_7 x1_8 x1_9 x1_10 x1_11 x1_12 x1_13 x1_14 x1_15 x1_16 x2_0 x2_1 x2_2
 have x1_0 := x1.cell (i := 0) rfl
 have x1_1 := x1.cell (i := 1) rfl
 have x1_2 := x1.cell (i := 2) rfl
 have x1_3 := x1.cell (i := 3) rfl
 have x1_4 := x1.cell (i := 4) rfl
 have x1_5 := x1.cell (i := 5) rfl
 have x1_6 := x1.cell (i := 6) rfl
 have x1_7 := x1.cell (i := 7) rfl
 have x1_8 := x1.cell (i := 8) rfl
 have x1_9 := x1.cell (i := 9) rfl
 have x1_10 := x1.cell (i := 10) rfl
 have x1_11 := x1.cell (i := 11) rfl
 have x1_12 := x1.cell (i := 12) rfl
 have x1_13 := x1.cell (i := 13) rfl
 have x1_14 := x1.cell (i := 14) rfl
 have x1_15 := x1.cell (i := 15) rfl
 have x1_16 := x1.cell (i := 16) rfl
 obtain ⟨x2_0, x2_1, x2_2⟩ := x2.c3
 obtain ⟨x3_0, x3_1, x3_2⟩ := x3.c3
 as_aux_lemma =>
  replace a1 := a1.up (Up.refl W6).drew
  replace a2 := a2.up (Up.refl W6).drew
  replace b1 := b1.up (Up.refl W6).drew
  replace b2 := b2.up (Up.refl W6).drew
  replace p1 := p1.up (Up.refl W6).drew
  replace p2 := p2.up (Up.refl W6).drew
  replace q1 := q1.up (Up.refl W6).drew
  replace q2 := q2.up (Up.refl W6).drew
  replace t1 := t1.up (Up.refl W6).drew
  replace t2 := t2.up (Up.refl W6).drew
  replace f := f.up (Up.refl W6).drew
  replace fd := fd.up (Up.refl W6).drew
  replace g := g.up (Up.refl W6).drew
  replace gd := gd.up (Up.refl W6).drew
  replace x1 := x1.up (Up.refl W6).drew
  replace x2 := x2.up (Up.refl W6).drew
  replace x3 := x3.up (Up.refl W6).drew
  replace UP := UP.trans (Up.refl W6).drew
  clear x1_0 x1_1 x1_2 x1_3 x1_4 x1_5 x1_6 x1_7 x1_8 x1_9 x1_10 x1_11 x1_12 x1_13 x1_14 x1_15 x1_16 x2_0 x2_1 x2_2 x3_0 x3_1 x3_2
  have x1_0 := x1.cell (i := 0) rfl
  have x1_1 := x1.cell (i := 1) rfl
  have x1_2 := x1.cell (i := 2) rfl
  have x1_3 := x1.cell (i := 3) rfl
  have x1_4 := x1.cell (i := 4) rfl
  have x1_5 := x1.cell (i := 5) rfl
  have x1_6 := x1.cell (i := 6) rfl
  have x1_7 := x1.cell (i := 7) rfl
  have x1_8 := x1.cell (i := 8) rfl
  have x1_9 := x1.cell (i := 9) rfl
  have x1_10 := x1.cell (i := 10) rfl
  have x1_11 := x1.cell (i := 11) rfl
  have x1_12 := x1.cell (i := 12) rfl
  have x1_13 := x1.cell (i := 13) rfl
  have x1_14 := x1.cell (i := 14) rfl
  have x1_15 := x1.cell (i := 15) rfl
  have x1_16 := x1.cell (i := 16) rfl
  obtain ⟨x2_0, x2_1, x2_2⟩ := x2.c3
  obtain ⟨x3_0, x3_1, x3_2⟩ := x3.c3
  refine wp_region_noPanic ?_
  refine wp_region_held_drew (S := fun w' => Up w w' ∧ w'.cell? ⟨W1.heap.size, 0, none⟩ = some (.bool (Wd.ngb U1.num)) ∧ w'.cell? ⟨W1.heap.size, 1, none⟩ = some (.slice A1 (Wd.words U1.num.natAbs).length c1) ∧ w'.cell? ⟨W1.heap.size, 2, none⟩ = some (.slice D1 (Wd.words U1.den).length e1) ∧ w'.cell? ⟨W1.heap.size, 3, none⟩ = some (.bool (Wd.ngb U2.num)) ∧ w'.cell? ⟨W1.heap.size, 4, none⟩ = some (.slice A2 (Wd.words U2.num.natAbs).length c2) ∧ w'.cell? ⟨W1.heap.size, 5, none⟩ = some (.slice D2 (Wd.words U2.den).length e2) ∧ w'.cell? ⟨W1.heap.size, 6, none⟩ = some (.bool (Wd.ngb U3.num)) ∧ w'.cell? ⟨W1.heap.size, 7, none⟩ = some (.slice A3 (Wd.words U3.num.natAbs).length c3) ∧ w'.cell? ⟨W1.heap.size, 8, none⟩ = some (.slice D3 (Wd.words U3.den).length e3) ∧ w'.cell? ⟨W1.heap.size, 9, none⟩ = some (.bool (Wd.ngb U4.num)) ∧ w'.cell? ⟨W1.heap.size, 10, none⟩ = some (.slice A4 (Wd.words U4.num.natAbs).length c4) ∧ w'.cell? ⟨W1.heap.size, 11, none⟩ = some (.slice D4 (Wd.words U4.den).length e4) ∧ w'.cell? ⟨W1.heap.size, 12, none⟩ = some (.bool (Wd.ngb U5.num)) ∧ w'.cell? ⟨W1.heap.size, 13, none⟩ = some (.slice A5 (Wd.words U5.num.natAbs).length c5) ∧ w'.cell? ⟨W1.heap.size, 14, none⟩ = some (.slice D5 (Wd.words U5.den).length e5) ∧ w'.cell? ⟨W1.heap.size, 15, none⟩ = some (.int .i64 16) ∧ w'.cell? ⟨W1.heap.size, 16, none⟩ = some (.int .i64 100) ∧ w'.cell? ⟨W3.heap.size, 0, none⟩ = some (.bool (Wd.ngb S.num)) ∧ w'.cell? ⟨W3.heap.size, 1, none⟩ = some (.slice Af nf cf) ∧ w'.cell? ⟨W3.heap.size, 2, none⟩ = some (.slice Afd nfd cfd) ∧ w'.cell? ⟨W5.heap.size, 0, none⟩ = some (.bool (Wd.ngb S.num)) ∧ w'.cell? ⟨W5.heap.size, 1, none⟩ = some (.slice Ag ng cg) ∧ w'.cell? ⟨W5.heap.size, 2, none⟩ = some (.slice Agd ngd cgd)) (by kernel_rfl) ?_ (fun hHeld => ?_)
  · with_reducible exact ⟨UP, x1_0, x1_1, x1_2, x1_3, x1_4, x1_5, x1_6, x1_7, x1_8, x1_9, x1_10, x1_11, x1_12, x1_13, x1_14, x1_15, x1_16, x2_0, x2_1, x2_2, x3_0, x3_1, x3_2⟩
  refine wpAnyH_take (i := 0) (v := ?_) rfl (by kernel_rfl) (by kernel_rfl) (by kernel_rfl) (fun _ _ _ h => h) (Or.inl ⟨by rfl, ?_⟩) (by assumption) ?_
  rotate_left
  · (intro w hSw; (try dsimp only at hSw); go_simp; first | done | with_reducible rfl)
  try simp only [List.getElem_toArray, List.getElem_cons_zero, List.getElem_cons_succ, Act.put, List.setIfInBounds_toArray, List.set_cons_zero, List.set_cons_succ]
  refine wpAnyH_ready (rs := [1]) (by kernel_rfl) (by simp) ?_
  refine AllReadyH.cons rfl (fun K hK => ?_) AllReadyH.nil
  go_simp
  (first
    | (go_at_call 14
       ((with_reducible refine (pace_right a1 a2 b1 b2 p1 p2 q1 q2 t1 t2 (few_q N1.out) (few_q N2.out) (few_q N3.out) (few_q N4.out) (few_q N5.out) (by omega) (by omega)).mono ?_))
       rintro e W7 ⟨rfl, u7⟩
       replace a1 := a1.up u7
       replace a2 := a2.up u7
       replace b1 := b1.up u7
       replace b2 := b2.up u7
       replace p1 := p1.up u7
       replace p2 := p2.up u7
       replace q1 := q1.up u7
       replace q2 := q2.up u7
       replace t1 := t1.up u7
       replace t2 := t2.up u7
       replace f := f.up u7
       replace fd := fd.up u7
       replace g := g.up u7
       replace gd := gd.up u7
       try (replace z := z.up u7)
       try (replace y := y.up u7)
       try (replace k := k.up u7)
       replace x1 := x1.up u7
       replace x2 := x2.up u7
       replace x3 := x3.up u7
       replace UP := UP.trans u7
       clear x1_0 x1_1 x1_2 x1_3 x1_4 x1_5 x1_6 x1_7 x1_8 x1_9 x1_10 x1_11 x1_12 x1_13 x1_14 x1_15 x1_16 x2_0 x2_1 x2_2 x3_0 x3_1 x3_2
       have x1_0 := x1.cell (i := 0) rfl
       have x1_1 := x1.cell (i := 1) rfl
       have x1_2 := x1.cell (i := 2) rfl
       have x1_3 := x1.cell (i := 3) rfl
       have x1_4 := x1.cell (i := 4) rfl
       have x1_5 := x1.cell (i := 5) rfl
       have x1_6 := x1.cell (i := 6) rfl
       have x1_7 := x1.cell (i := 7) rfl
       have x1_8 := x1.cell (i := 8) rfl
       have x1_9 := x1.cell (i := 9) rfl
       have x1_10 := x1.cell (i := 10) rfl
       have x1_11 := x1.cell (i := 11) rfl
       have x1_12 := x1.cell (i := 12) rfl
       have x1_13 := x1.cell (i := 13) rfl
       have x1_14 := x1.cell (i := 14) rfl
       have x1_15 := x1.cell (i := 15) rfl
       have x1_16 := x1.cell (i := 16) rfl
       obtain ⟨x2_0, x2_1, x2_2⟩ := x2.c3
       obtain ⟨x3_0, x3_1, x3_2⟩ := x3.c3
       clear u7
       rw [HR.out]))
  try go_wp2_with fail
  try clear hHeld
  refine hK.out _ _ ?_ (fun hHeld => ?_)
  · with_reducible exact ⟨UP, x1_0, x1_1, x1_2, x1_3, x1_4, x1_5, x1_6, x1_7, x1_8, x1_9, x1_10, x1_11, x1_12, x1_13, x1_14, x1_15, x1_16, x2_0, x2_1, x2_2, x3_0, x3_1, x3_2⟩
  clear hK K
  try simp only [List.getElem_toArray, List.getElem_cons_zero, List.getElem_cons_succ, Act.put, List.setIfInBounds_toArray, List.set_cons_zero, List.set_cons_succ]
  refine wpAnyH_take (i := 2) (v := ?_) rfl (by kernel_rfl) (by kernel_rfl) (by kernel_rfl) (fun _ _ _ h => h) (Or.inl ⟨by rfl, ?_⟩) (by assumption) ?_
  rotate_left
  · (intro w hSw; (try dsimp only at hSw); go_simp; first | done | with_reducible rfl)
  try simp only [List.getElem_toArray, List.getElem_cons_zero, List.getElem_cons_succ, Act.put, List.setIfInBounds_toArray, List.set_cons_zero, List.set_cons_succ]
  refine wpAnyH_take (i := 3) (v := ?_) rfl (by kernel_rfl) (by kernel_rfl) (by kernel_rfl) (fun _ _ _ h => h) (Or.inl ⟨by rfl, ?_⟩) (by assumption) ?_
  rotate_left
  · (intro w hSw; (try dsimp only at hSw); go_simp; first | done | with_reducible rfl)
  try simp only [List.getElem_toArray, List.getElem_cons_zero, List.getElem_cons_succ, Act.put, List.setIfInBounds_toArray, List.set_cons_zero, List.set_cons_succ]
  refine wpAnyH_take (i := 4) (v := ?_) rfl (by kernel_rfl) (by kernel_rfl) (by kernel_rfl) (fun _ _ _ h => h) (Or.inl ⟨by rfl, ?_⟩) (by assumption) ?_
  rotate_left
  · (intro w hSw; (try dsimp only at hSw); go_simp; first | done | with_reducible rfl)
  try simp only [List.getElem_toArray, List.getElem_cons_zero, List.getElem_cons_succ, Act.put, List.setIfInBounds_toArray, List.set_cons_zero, List.set_cons_succ]
  refine wpAnyH_ready (rs := [5]) (by kernel_rfl) (by simp) ?_
  refine AllReadyH.cons rfl (fun K hK => ?_) AllReadyH.nil
  go_simp
  (first
    | (go_at_call 89
       ((with_reducible refine (frac_same ((qw_of2 f fd).fr LS) ((qw_of2 g gd).fr LS) (by omega) (by omega)).mono ?_))
       rintro e W8 ⟨rfl, u8⟩
       replace a1 := a1.up u8
       replace a2 := a2.up u8
       replace b1 := b1.up u8
       replace b2 := b2.up u8
       replace p1 := p1.up u8
       replace p2 := p2.up u8
       replace q1 := q1.up u8
       replace q2 := q2.up u8
       replace t1 := t1.up u8
       replace t2 := t2.up u8
       replace f := f.up u8
       replace fd := fd.up u8
       replace g := g.up u8
       replace gd := gd.up u8
       try (replace z := z.up u8)
       try (replace y := y.up u8)
       try (replace k := k.up u8)
       replace x1 := x1.up u8
       replace x2 := x2.up u8
       replace x3 := x3.up u8
       replace UP := UP.trans u8
       clear x1_0 x1_1 x1_2 x1_3 x1_4 x1_5 x1_6 x1_7 x1_8 x1_9 x1_10 x1_11 x1_12 x1_13 x1_14 x1_15 x1_16 x2_0 x2_1 x2_2 x3_0 x3_1 x3_2
       have x1_0 := x1.cell (i := 0) rfl
       have x1_1 := x1.cell (i := 1) rfl
       have x1_2 := x1.cell (i := 2) rfl
       have x1_3 := x1.cell (i := 3) rfl
       have x1_4 := x1.cell (i := 4) rfl
       have x1_5 := x1.cell (i := 5) rfl
       have x1_6 := x1.cell (i := 6) rfl
       have x1_7 := x1.cell (i := 7) rfl
       have x1_8 := x1.cell (i := 8) rfl
       have x1_9 := x1.cell (i := 9) rfl
       have x1_10 := x1.cell (i := 10) rfl
       have x1_11 := x1.cell (i := 11) rfl
       have x1_12 := x1.cell (i := 12) rfl
       have x1_13 := x1.cell (i := 13) rfl
       have x1_14 := x1.cell (i := 14) rfl
       have x1_15 := x1.cell (i := 15) rfl
       have x1_16 := x1.cell (i := 16) rfl
       obtain ⟨x2_0, x2_1, x2_2⟩ := x2.c3
       obtain ⟨x3_0, x3_1, x3_2⟩ := x3.c3
       clear u8
       rw [show decide (S = S) = true from decide_eq_true rfl]))
  try go_wp2_with fail
  try clear hHeld
  refine hK.out _ _ ?_ (fun hHeld => ?_)
  · with_reducible exact ⟨UP, x1_0, x1_1, x1_2, x1_3, x1_4, x1_5, x1_6, x1_7, x1_8, x1_9, x1_10, x1_11, x1_12, x1_13, x1_14, x1_15, x1_16, x2_0, x2_1, x2_2, x3_0, x3_1, x3_2⟩
  clear hK K
  try simp only [List.getElem_toArray, List.getElem_cons_zero, List.getElem_cons_succ, Act.put, List.setIfInBounds_toArray, List.set_cons_zero, List.set_cons_succ]
  refine wpAnyH_take (i := 6) (v := ?_) rfl (by kernel_rfl) (by kernel_rfl) (by kernel_rfl) (fun _ _ _ h => h) (Or.inl ⟨by rfl, ?_⟩) (by assumption) ?_
  rotate_left
  · (intro w hSw; (try dsimp only at hSw); go_simp; first | done | with_reducible rfl)
  try simp only [List.getElem_toArray, List.getElem_cons_zero, List.getElem_cons_succ, Act.put, List.setIfInBounds_toArray, List.set_cons_zero, List.set_cons_succ]
  refine wpAnyH_take (i := 7) (v := ?_) rfl (by kernel_rfl) (by kernel_rfl) (by kernel_rfl) (fun _ _ _ h => h) (Or.inl ⟨by rfl, ?_⟩) (by assumption) ?_
  rotate_left
  · (intro w hSw; (try dsimp only at hSw); go_simp; first | done | with_reducible rfl)
  try simp only [List.getElem_toArray, List.getElem_cons_zero, List.getElem_cons_succ, Act.put, List.setIfInBounds_toArray, List.set_cons_zero, List.set_cons_succ]
  refine wpAnyH_take (i := 8) (v := ?_) rfl (by kernel_rfl) (by kernel_rfl) (by kernel_rfl) (fun _ _ _ h => h) (Or.inl ⟨by rfl, ?_⟩) (by assumption) ?_
  rotate_left
  · (intro w hSw; (try dsimp only at hSw); go_simp; first | done | with_reducible rfl)
  try simp only [List.getElem_toArray, List.getElem_cons_zero, List.getElem_cons_succ, Act.put, List.setIfInBounds_toArray, List.set_cons_zero, List.set_cons_succ]
  refine wpAnyH_ready (rs := [9]) (by kernel_rfl) (by simp) ?_
  refine AllReadyH.cons rfl (fun K hK => ?_) AllReadyH.nil
  go_simp
  (first
    | (go_at_call 90
       ((with_reducible refine (frac_of0 _).mono ?_))
       rintro e W9 ⟨V9, rfl, z, u9⟩
       replace a1 := a1.up u9
       replace a2 := a2.up u9
       replace b1 := b1.up u9
       replace b2 := b2.up u9
       replace p1 := p1.up u9
       replace p2 := p2.up u9
       replace q1 := q1.up u9
       replace q2 := q2.up u9
       replace t1 := t1.up u9
       replace t2 := t2.up u9
       replace f := f.up u9
       replace fd := fd.up u9
       replace g := g.up u9
       replace gd := gd.up u9
       try (replace z := z.up u9)
       try (replace y := y.up u9)
       try (replace k := k.up u9)
       replace x1 := x1.up u9
       replace x2 := x2.up u9
       replace x3 := x3.up u9
       replace UP := UP.trans u9
       clear x1_0 x1_1 x1_2 x1_3 x1_4 x1_5 x1_6 x1_7 x1_8 x1_9 x1_10 x1_11 x1_12 x1_13 x1_14 x1_15 x1_16 x2_0 x2_1 x2_2 x3_0 x3_1 x3_2
       have x1_0 := x1.cell (i := 0) rfl
       have x1_1 := x1.cell (i := 1) rfl
       have x1_2 := x1.cell (i := 2) rfl
       have x1_3 := x1.cell (i := 3) rfl
       have x1_4 := x1.cell (i := 4) rfl
       have x1_5 := x1.cell (i := 5) rfl
       have x1_6 := x1.cell (i := 6) rfl
       have x1_7 := x1.cell (i := 7) rfl
       have x1_8 := x1.cell (i := 8) rfl
       have x1_9 := x1.cell (i := 9) rfl
       have x1_10 := x1.cell (i := 10) rfl
       have x1_11 := x1.cell (i := 11) rfl
       have x1_12 := x1.cell (i := 12) rfl
       have x1_13 := x1.cell (i := 13) rfl
       have x1_14 := x1.cell (i := 14) rfl
       have x1_15 := x1.cell (i := 15) rfl
       have x1_16 := x1.cell (i := 16) rfl
       obtain ⟨x2_0, x2_1, x2_2⟩ := x2.c3
       obtain ⟨x3_0, x3_1, x3_2⟩ := x3.c3
       clear u9))
  try go_wp2_with fail
  try clear hHeld
  refine hK.out _ _ ?_ (fun hHeld => ?_)
  · with_reducible exact ⟨UP, x1_0, x1_1, x1_2, x1_3, x1_4, x1_5, x1_6, x1_7, x1_8, x1_9, x1_10, x1_11, x1_12, x1_13, x1_14, x1_15, x1_16, x2_0, x2_1, x2_2, x3_0, x3_1, x3_2⟩
  clear hK K
  try simp only [List.getElem_toArray, List.getElem_cons_zero, List.getElem_cons_succ, Act.put, List.setIfInBounds_toArray, List.set_cons_zero, List.set_cons_succ]
  refine wpAnyH_ready (rs := [10]) (by kernel_rfl) (by simp) ?_
  refine AllReadyH.cons rfl (fun K hK => ?_) AllReadyH.nil
  go_simp
  (first
    | (go_at_call 55
       ((with_reducible refine (pace_factor (fr_q a1 a2 N1.out) (fr_q b1 b2 N2.out) (fr_q p1 p2 N3.out) (fr_q q1 q2 N4.out) (z.fr lq_zero) (by omega) (by omega) (by omega)).mono ?_))
       rintro e W10 ⟨V10, rfl, y, u10⟩
       replace a1 := a1.up u10
       replace a2 := a2.up u10
       replace b1 := b1.up u10
       replace b2 := b2.up u10
       replace p1 := p1.up u10
       replace p2 := p2.up u10
       replace q1 := q1.up u10
       replace q2 := q2.up u10
       replace t1 := t1.up u10
       replace t2 := t2.up u10
       replace f := f.up u10
       replace fd := fd.up u10
       replace g := g.up u10
       replace gd := gd.up u10
       try (replace z := z.up u10)
       try (replace y := y.up u10)
       try (replace k := k.up u10)
       replace x1 := x1.up u10
       replace x2 := x2.up u10
       replace x3 := x3.up u10
       replace UP := UP.trans u10
       clear x1_0 x1_1 x1_2 x1_3 x1_4 x1_5 x1_6 x1_7 x1_8 x1_9 x1_10 x1_11 x1_12 x1_13 x1_14 x1_15 x1_16 x2_0 x2_1 x2_2 x3_0 x3_1 x3_2
       have x1_0 := x1.cell (i := 0) rfl
       have x1_1 := x1.cell (i := 1) rfl
       have x1_2 := x1.cell (i := 2) rfl
       have x1_3 := x1.cell (i := 3) rfl
       have x1_4 := x1.cell (i := 4) rfl
       have x1_5 := x1.cell (i := 5) rfl
       have x1_6 := x1.cell (i := 6) rfl
       have x1_7 := x1.cell (i := 7) rfl
       have x1_8 := x1.cell (i := 8) rfl
       have x1_9 := x1.cell (i := 9) rfl
       have x1_10 := x1.cell (i := 10) rfl
       have x1_11 := x1.cell (i := 11) rfl
       have x1_12 := x1.cell (i := 12) rfl
       have x1_13 := x1.cell (i := 13) rfl
       have x1_14 := x1.cell (i := 14) rfl
       have x1_15 := x1.cell (i := 15) rfl
       have x1_16 := x1.cell (i := 16) rfl
       obtain ⟨x2_0, x2_1, x2_2⟩ := x2.c3
       obtain ⟨x3_0, x3_1, x3_2⟩ := x3.c3
       clear u10
       rw [HF2.out] at y))
  try go_wp2_with fail
  try clear hHeld
  refine hK.out _ _ ?_ (fun hHeld => ?_)
  · with_reducible exact ⟨UP, x1_0, x1_1, x1_2, x1_3, x1_4, x1_5, x1_6, x1_7, x1_8, x1_9, x1_10, x1_11, x1_12, x1_13, x1_14, x1_15, x1_16, x2_0, x2_1, x2_2, x3_0, x3_1, x3_2⟩
  clear hK K
  try simp only [List.getElem_toArray, List.getElem_cons_zero, List.getElem_cons_succ, Act.put, List.setIfInBounds_toArray, List.set_cons_zero, List.set_cons_succ]
  refine wpAnyH_ready (rs := [11]) (by kernel_rfl) (by simp) ?_
  refine AllReadyH.cons rfl (fun K hK => ?_) AllReadyH.nil
  go_simp
  (first
    | (go_at_call 90
       ((with_reducible refine (frac_of (n := 5) (by omega) _).mono ?_))
       rintro e W11 ⟨V11, rfl, k, u11⟩
       replace a1 := a1.up u11
       replace a2 := a2.up u11
       replace b1 := b1.up u11
       replace b2 := b2.up u11
       replace p1 := p1.up u11
       replace p2 := p2.up u11
       replace q1 := q1.up u11
       replace q2 := q2.up u11
       replace t1 := t1.up u11
       replace t2 := t2.up u11
       replace f := f.up u11
       replace fd := fd.up u11
       replace g := g.up u11
       replace gd := gd.up u11
       try (replace z := z.up u11)
       try (replace y := y.up u11)
       try (replace k := k.up u11)
       replace x1 := x1.up u11
       replace x2 := x2.up u11
       replace x3 := x3.up u11
       replace UP := UP.trans u11
       clear x1_0 x1_1 x1_2 x1_3 x1_4 x1_5 x1_6 x1_7 x1_8 x1_9 x1_10 x1_11 x1_12 x1_13 x1_14 x1_15 x1_16 x2_0 x2_1 x2_2 x3_0 x3_1 x3_2
       have x1_0 := x1.cell (i := 0) rfl
       have x1_1 := x1.cell (i := 1) rfl
       have x1_2 := x1.cell (i := 2) rfl
       have x1_3 := x1.cell (i := 3) rfl
       have x1_4 := x1.cell (i := 4) rfl
       have x1_5 := x1.cell (i := 5) rfl
       have x1_6 := x1.cell (i := 6) rfl
       have x1_7 := x1.cell (i := 7) rfl
       have x1_8 := x1.cell (i := 8) rfl
       have x1_9 := x1.cell (i := 9) rfl
       have x1_10 := x1.cell (i := 10) rfl
       have x1_11 := x1.cell (i := 11) rfl
       have x1_12 := x1.cell (i := 12) rfl
       have x1_13 := x1.cell (i := 13) rfl
       have x1_14 := x1.cell (i := 14) rfl
       have x1_15 := x1.cell (i := 15) rfl
       have x1_16 := x1.cell (i := 16) rfl
       obtain ⟨x2_0, x2_1, x2_2⟩ := x2.c3
       obtain ⟨x3_0, x3_1, x3_2⟩ := x3.c3
       clear u11
       rw [HV.out] at k))
  try go_wp2_with fail
  try clear hHeld
  refine hK.out _ _ ?_ (fun hHeld => ?_)
  · with_reducible exact ⟨UP, x1_0, x1_1, x1_2, x1_3, x1_4, x1_5, x1_6, x1_7, x1_8, x1_9, x1_10, x1_11, x1_12, x1_13, x1_14, x1_15, x1_16, x2_0, x2_1, x2_2, x3_0, x3_1, x3_2⟩
  clear hK K
  try simp only [List.getElem_toArray, List.getElem_cons_zero, List.getElem_cons_succ, Act.put, List.setIfInBounds_toArray, List.set_cons_zero, List.set_cons_succ]
  refine wpAnyH_ready (rs := [12]) (by kernel_rfl) (by simp) ?_
  refine AllReadyH.cons rfl (fun K hK => ?_) AllReadyH.nil
  go_simp
  (first
    | (go_at_call 89
       ((with_reducible refine (frac_same (y.fr LV) (k.fr LV) (by omega) (by omega)).mono ?_))
       rintro e W12 ⟨rfl, u12⟩
       replace a1 := a1.up u12
       replace a2 := a2.up u12
       replace b1 := b1.up u12
       replace b2 := b2.up u12
       replace p1 := p1.up u12
       replace p2 := p2.up u12
       replace q1 := q1.up u12
       replace q2 := q2.up u12
       replace t1 := t1.up u12
       replace t2 := t2.up u12
       replace f := f.up u12
       replace fd := fd.up u12
       replace g := g.up u12
       replace gd := gd.up u12
       try (replace z := z.up u12)
       try (replace y := y.up u12)
       try (replace k := k.up u12)
       replace x1 := x1.up u12
       replace x2 := x2.up u12
       replace x3 := x3.up u12
       replace UP := UP.trans u12
       clear x1_0 x1_1 x1_2 x1_3 x1_4 x1_5 x1_6 x1_7 x1_8 x1_9 x1_10 x1_11 x1_12 x1_13 x1_14 x1_15 x1_16 x2_0 x2_1 x2_2 x3_0 x3_1 x3_2
       have x1_0 := x1.cell (i := 0) rfl
       have x1_1 := x1.cell (i := 1) rfl
       have x1_2 := x1.cell (i := 2) rfl
       have x1_3 := x1.cell (i := 3) rfl
       have x1_4 := x1.cell (i := 4) rfl
       have x1_5 := x1.cell (i := 5) rfl
       have x1_6 := x1.cell (i := 6) rfl
       have x1_7 := x1.cell (i := 7) rfl
       have x1_8 := x1.cell (i := 8) rfl
       have x1_9 := x1.cell (i := 9) rfl
       have x1_10 := x1.cell (i := 10) rfl
       have x1_11 := x1.cell (i := 11) rfl
       have x1_12 := x1.cell (i := 12) rfl
       have x1_13 := x1.cell (i := 13) rfl
       have x1_14 := x1.cell (i := 14) rfl
       have x1_15 := x1.cell (i := 15) rfl
       have x1_16 := x1.cell (i := 16) rfl
       obtain ⟨x2_0, x2_1, x2_2⟩ := x2.c3
       obtain ⟨x3_0, x3_1, x3_2⟩ := x3.c3
       clear u12
       rw [show decide (V = V) = true from decide_eq_true rfl]))
  try go_wp2_with fail
  try clear hHeld
  refine hK.out _ _ ?_ (fun hHeld => ?_)
  · with_reducible exact ⟨UP, x1_0, x1_1, x1_2, x1_3, x1_4, x1_5, x1_6, x1_7, x1_8, x1_9, x1_10, x1_11, x1_12, x1_13, x1_14, x1_15, x1_16, x2_0, x2_1, x2_2, x3_0, x3_1, x3_2⟩
  clear hK K
  try simp only [List.getElem_toArray, List.getElem_cons_zero, List.getElem_cons_succ, Act.put, List.setIfInBounds_toArray, List.set_cons_zero, List.set_cons_succ]
  refine wpAnyH_take (i := 13) (v := ?_) rfl (by kernel_rfl) (by kernel_rfl) (by kernel_rfl) (fun _ _ _ h => h) (Or.inl ⟨by rfl, ?_⟩) (by assumption) ?_
  rotate_left
  · (intro w hSw; (try dsimp only at hSw); go_simp; first | done | with_reducible rfl)
  try simp only [List.getElem_toArray, List.getElem_cons_zero, List.getElem_cons_succ, Act.put, List.setIfInBounds_toArray, List.set_cons_zero, List.set_cons_succ]
  refine wpAnyH_ready (rs := [14]) (by kernel_rfl) (by simp) ?_
  refine AllReadyH.cons rfl (fun K hK => ?_) AllReadyH.nil
  go_simp
  skip
  try go_wp2_with fail
  try clear hHeld
  refine hK.out _ _ ?_ (fun hHeld => ?_)
  · with_reducible exact ⟨UP, x1_0, x1_1, x1_2, x1_3, x1_4, x1_5, x1_6, x1_7, x1_8, x1_9, x1_10, x1_11, x1_12, x1_13, x1_14, x1_15, x1_16, x2_0, x2_1, x2_2, x3_0, x3_1, x3_2⟩
  clear hK K
  try simp only [List.getElem_toArray, List.getElem_cons_zero, List.getElem_cons_succ, Act.put, List.setIfInBounds_toArray, List.set_cons_zero, List.set_cons_succ]
  refine wpAnyH_done (by kernel_rfl) ?_ _
  refine NoPanic.normal ?_
  go_wp2
  go_ret
  exact ⟨rfl, UP⟩
end Go.Proofs.YtmmcffceeahemaaGreat
