/-
  The walk of FracPowers.
-/
import Derived.Test.YtjkkeilmnklpcaaFracWorks
import Derived.Test.YtjkkeilmnklpcaaRefFrac4
set_option linter.unusedVariables false
set_option linter.unusedSimpArgs false
namespace Go.Proofs.Ytjkkeilmnklpcaa
open Go.RowKit

theorem lq_zpow_ {q : Rat} {k n : Nat} (h : Wd.Lq q k) {e : Int} (h1 : -(n : Int) ≤ e) (h2 : e ≤ n) : Wd.Lq (q ^ e) (k * n + 1) := by
  have hm : ∀ m, m ≤ n → Wd.Lq (q ^ m) (k * n + 1) := fun m hm => (h.pow m).mono (by have := Nat.mul_le_mul_left k hm; omega)
  rcases Int.lt_or_le e 0 with h0 | h0
  · obtain ⟨m, hm2⟩ := Int.eq_ofNat_of_zero_le (a := -e) (by omega)
    obtain rfl : e = -(m : Int) := by omega
    rw [Rat.zpow_neg, Rat.zpow_natCast]
    exact (hm m (by omega)).inv
  · obtain ⟨m, rfl⟩ := Int.eq_ofNat_of_zero_le h0
    rw [Rat.zpow_natCast]
    exact hm m (by omega)
theorem lq_powQ {q : Rat} {k : Nat} (h : Wd.Lq q k) (e : Int) : Wd.Lq (Wd.powQ q e) (k * 8 + 1) := by
  unfold Wd.powQ
  split
  · rename_i hb
    unfold Wd.powB at hb
    have hb := of_decide_eq_true hb
    exact lq_zpow_ h (n := 8) (by omega) (by omega)
  · exact Wd.Lq.mono (lq_works (q := 0) (by decide) (by decide)) (by omega)

set_option maxRecDepth 100000 in
set_option maxHeartbeats 6400000 in
theorem fracPowers_walk {s : Bool} {u v : Value} {l m : List Nat} {a : Int} {w : World} (hl : Ws w u l) (hm : Ws w v m) (ha : -9223372036854775808 ≤ a ∧ a ≤ 9223372036854775807) :
    Calls Try.prog 6 #[.agg #[.bool s, u, v], .int .i64 a] w fun e w' => e = .returned (.bool true) ∧ Up w w' := by
  obtain ⟨A, c, rfl⟩ := hl.form
  obtain ⟨D, d, rfl⟩ := hm.form
  by_cases hlong : 4 < l.length ∨ 4 < m.length
  · have h1 : (4 : Int) < (l.length : Int) ∨ (4 : Int) < (m.length : Int) := by omega
    have H1 := Lib.hid h1
    clear hlong h1
    have UP : Up w (w.alloc (.cells #[.bool s, .slice A l.length c, .slice D m.length d] 61)) := (Up.refl w).alloc _
    have b0 := Bx.new 61 w [.bool s, .slice A l.length c, .slice D m.length d]
    go_enter Try.func6, Try.ntmps6
    go_wp2_with fail
    generalize (w.alloc (.cells #[.bool s, .slice A l.length c, .slice D m.length d] 61)) = W at *
    have b0_0 := b0.cell (i := 0) rfl
    have b0_1 := b0.cell (i := 1) rfl
    have b0_2 := b0.cell (i := 2) rfl
    go_wp2_with fail
    ((with_reducible refine (ref_long9_yes H1.out (by omega)).mono ?_))
    rintro e W1 ⟨rfl, u1⟩
    replace b0 := b0.up u1
    replace UP := UP.trans u1
    replace b0_0 := b0.cell (i := 0) rfl
    replace b0_1 := b0.cell (i := 1) rfl
    replace b0_2 := b0.cell (i := 2) rfl
    clear u1
    go_wp2_with fail
    ((with_reducible refine (works9 _).mono ?_))
    rintro e W2 ⟨rfl, u2⟩
    replace b0 := b0.up u2
    replace UP := UP.trans u2
    replace b0_0 := b0.cell (i := 0) rfl
    replace b0_1 := b0.cell (i := 1) rfl
    replace b0_2 := b0.cell (i := 2) rfl
    clear u2
    go_wp2
    go_ret
    exact ⟨rfl, UP⟩
  have l1 : (l.length : Int) ≤ 4 := by omega
  have l2 : (m.length : Int) ≤ 4 := by omega
  clear hlong
  obtain ⟨q, hq⟩ : ∃ q, mkRat (Wd.iv s (Wd.val l)) (Wd.val m) = q := ⟨_, rfl⟩
  have FR : Fr w (.agg #[.bool s, .slice A l.length c, .slice D m.length d]) q 4 := ⟨s, _, _, l, m, rfl, hl, hm, hq, by omega, by omega, by omega⟩
  have LQ := FR.lq
  have LP := lq_powQ LQ a
  clear hq hl hm
  obtain ⟨P, HP⟩ : ∃ P, Hid (Wd.powQ q a = P) := ⟨_, Lib.hid rfl⟩
  obtain ⟨t, HT⟩ : ∃ t, Hid (Wd.powB q a = t) := ⟨_, Lib.hid rfl⟩
  rw [HP.out] at LP
  have kt : (t == t) = true := by simp
  have UP : Up w (w.alloc (.cells #[.bool s, .slice A l.length c, .slice D m.length d] 61)) := (Up.refl w).alloc _
  have b0 := Bx.new 61 w [.bool s, .slice A l.length c, .slice D m.length d]
  go_enter Try.func6, Try.ntmps6
  go_wp2_with fail
  generalize (w.alloc (.cells #[.bool s, .slice A l.length c, .slice D m.length d] 61)) = W at *
  replace FR := FR.up UP
  have b0_0 := b0.cell (i := 0) rfl
  have b0_1 := b0.cell (i := 1) rfl
  have b0_2 := b0.cell (i := 2) rfl
  go_wp2_with fail
  ((with_reducible refine (ref_long9_no l1 l2 (by omega)).mono ?_))
  rintro e W1 ⟨rfl, u1⟩
  replace FR := FR.up u1
  replace b0 := b0.up u1
  replace UP := UP.trans u1
  replace b0_0 := b0.cell (i := 0) rfl
  replace b0_1 := b0.cell (i := 1) rfl
  replace b0_2 := b0.cell (i := 2) rfl
  clear u1
  go_wp2_with fail
  ((with_reducible refine (law_to9 _ _ _ _ _ _ _ _).mono ?_))
  rintro e W2 ⟨rfl, u2⟩
  replace FR := FR.up u2
  replace b0 := b0.up u2
  replace UP := UP.trans u2
  replace b0_0 := b0.cell (i := 0) rfl
  replace b0_1 := b0.cell (i := 1) rfl
  replace b0_2 := b0.cell (i := 2) rfl
  clear u2
  go_wp2_with fail
  ((with_reducible refine (frac_pow FR (by omega) ha).mono ?_))
  rintro e W3 ⟨V3, rfl, p, u3⟩
  replace FR := FR.up u3
  replace b0 := b0.up u3
  replace UP := UP.trans u3
  replace b0_0 := b0.cell (i := 0) rfl
  replace b0_1 := b0.cell (i := 1) rfl
  replace b0_2 := b0.cell (i := 2) rfl
  clear u3
  rw [HT.out]
  rw [HP.out] at p
  obtain ⟨Xp, Yp, rfl, p, pd⟩ := p
  obtain ⟨Ap, np, cp, rfl⟩ := p.shape
  obtain ⟨Apd, npd, cpd, rfl⟩ := pd.shape
  have b0_0a := fun O0 => (cell_alloc (o := O0) b0_0)
  have b0_1a := fun O0 => (cell_alloc (o := O0) b0_1)
  have b0_2a := fun O0 => (cell_alloc (o := O0) b0_2)
  go_wp2_with fail
  clear b0_0a b0_1a b0_2a
  have x1 := Bx.new 67 W3 [.bool (Wd.ngb P.num), .slice Ap np cp, .slice Apd npd cpd]
  have b0_lt_x1 := b0.lt
  replace FR := FR.up ((Up.refl W3).alloc (.cells #[.bool (Wd.ngb P.num), .slice Ap np cp, .slice Apd npd cpd] 67))
  replace p := p.up ((Up.refl W3).alloc (.cells #[.bool (Wd.ngb P.num), .slice Ap np cp, .slice Apd npd cpd] 67))
  replace pd := pd.up ((Up.refl W3).alloc (.cells #[.bool (Wd.ngb P.num), .slice Ap np cp, .slice Apd npd cpd] 67))
  replace b0 := b0.up ((Up.refl W3).alloc (.cells #[.bool (Wd.ngb P.num), .slice Ap np cp, .slice Apd npd cpd] 67))
  replace UP := UP.trans ((Up.refl W3).alloc (.cells #[.bool (Wd.ngb P.num), .slice Ap np cp, .slice Apd npd cpd] 67))
  replace b0_0 := b0.cell (i := 0) rfl
  replace b0_1 := b0.cell (i := 1) rfl
  replace b0_2 := b0.cell (i := 2) rfl
  generalize (W3.alloc (.cells #[.bool (Wd.ngb P.num), .slice Ap np cp, .slice Apd npd cpd] 67)) = W4 at *
  replace b0_0 := b0.cell (i := 0) rfl
  replace b0_1 := b0.cell (i := 1) rfl
  replace b0_2 := b0.cell (i := 2) rfl
  have x1_0 := x1.cell (i := 0) rfl
  have x1_1 := x1.cell (i := 1) rfl
  have x1_2 := x1.cell (i := 2) rfl
  ((with_reducible refine (ref9_norm FR (by omega)).mono ?_))
  rintro e W5 ⟨V5, rfl, n, u5⟩
  replace FR := FR.up u5
  replace p := p.up u5
  replace pd := pd.up u5
  replace b0 := b0.up u5
  replace x1 := x1.up u5
  replace UP := UP.trans u5
  replace b0_0 := b0.cell (i := 0) rfl
  replace b0_1 := b0.cell (i := 1) rfl
  replace b0_2 := b0.cell (i := 2) rfl
  replace x1_0 := x1.cell (i := 0) rfl
  replace x1_1 := x1.cell (i := 1) rfl
  replace x1_2 := x1.cell (i := 2) rfl
  clear u5
  go_wp2_with fail
  ((with_reducible refine (ref9_pow n LQ (by omega) ha).mono ?_))
  rintro e W6 ⟨V6, rfl, r, u6⟩
  replace FR := FR.up u6
  replace p := p.up u6
  replace pd := pd.up u6
  replace n := n.up u6
  replace b0 := b0.up u6
  replace x1 := x1.up u6
  replace UP := UP.trans u6
  replace b0_0 := b0.cell (i := 0) rfl
  replace b0_1 := b0.cell (i := 1) rfl
  replace b0_2 := b0.cell (i := 2) rfl
  replace x1_0 := x1.cell (i := 0) rfl
  replace x1_1 := x1.cell (i := 1) rfl
  replace x1_2 := x1.cell (i := 2) rfl
  clear u6
  rw [HT.out]
  rw [HP.out] at r
  obtain ⟨Xr, Yr, rfl, r, rd⟩ := r
  obtain ⟨Ar, nr, cr, rfl⟩ := r.shape
  obtain ⟨Ard, nrd, crd, rfl⟩ := rd.shape
  have b0_0a := fun O0 => (cell_alloc (o := O0) b0_0)
  have b0_1a := fun O0 => (cell_alloc (o := O0) b0_1)
  have b0_2a := fun O0 => (cell_alloc (o := O0) b0_2)
  have x1_0a := fun O0 => (cell_alloc (o := O0) x1_0)
  have x1_1a := fun O0 => (cell_alloc (o := O0) x1_1)
  have x1_2a := fun O0 => (cell_alloc (o := O0) x1_2)
  go_wp2_with fail
  clear b0_0a b0_1a b0_2a x1_0a x1_1a x1_2a
  have x2 := Bx.new 61 W6 [.bool (Wd.ngb P.num), .slice Ar nr cr, .slice Ard nrd crd]
  have b0_lt_x2 := b0.lt
  have x1_lt_x2 := x1.lt
  replace FR := FR.up ((Up.refl W6).alloc (.cells #[.bool (Wd.ngb P.num), .slice Ar nr cr, .slice Ard nrd crd] 61))
  replace p := p.up ((Up.refl W6).alloc (.cells #[.bool (Wd.ngb P.num), .slice Ar nr cr, .slice Ard nrd crd] 61))
  replace pd := pd.up ((Up.refl W6).alloc (.cells #[.bool (Wd.ngb P.num), .slice Ar nr cr, .slice Ard nrd crd] 61))
  replace n := n.up ((Up.refl W6).alloc (.cells #[.bool (Wd.ngb P.num), .slice Ar nr cr, .slice Ard nrd crd] 61))
  replace r := r.up ((Up.refl W6).alloc (.cells #[.bool (Wd.ngb P.num), .slice Ar nr cr, .slice Ard nrd crd] 61))
  replace rd := rd.up ((Up.refl W6).alloc (.cells #[.bool (Wd.ngb P.num), .slice Ar nr cr, .slice Ard nrd crd] 61))
  replace b0 := b0.up ((Up.refl W6).alloc (.cells #[.bool (Wd.ngb P.num), .slice Ar nr cr, .slice Ard nrd crd] 61))
  replace x1 := x1.up ((Up.refl W6).alloc (.cells #[.bool (Wd.ngb P.num), .slice Ar nr cr, .slice Ard nrd crd] 61))
  replace UP := UP.trans ((Up.refl W6).alloc (.cells #[.bool (Wd.ngb P.num), .slice Ar nr cr, .slice Ard nrd crd] 61))
  replace b0_0 := b0.cell (i := 0) rfl
  replace b0_1 := b0.cell (i := 1) rfl
  replace b0_2 := b0.cell (i := 2) rfl
  replace x1_0 := x1.cell (i := 0) rfl
  replace x1_1 := x1.cell (i := 1) rfl
  replace x1_2 := x1.cell (i := 2) rfl
  generalize (W6.alloc (.cells #[.bool (Wd.ngb P.num), .slice Ar nr cr, .slice Ard nrd crd] 61)) = W7 at *
  replace b0_0 := b0.cell (i := 0) rfl
  replace b0_1 := b0.cell (i := 1) rfl
  replace b0_2 := b0.cell (i := 2) rfl
  replace x1_0 := x1.cell (i := 0) rfl
  replace x1_1 := x1.cell (i := 1) rfl
  replace x1_2 := x1.cell (i := 2) rfl
  have x2_0 := x2.cell (i := 0) rfl
  have x2_1 := x2.cell (i := 1) rfl
  have x2_2 := x2.cell (i := 2) rfl
  ((with_reducible refine (law_is9 (Qw.of p pd) (Qw.of r rd) LP (by omega)).mono ?_))
  rintro e W8 ⟨rfl, u8⟩
  replace FR := FR.up u8
  replace p := p.up u8
  replace pd := pd.up u8
  replace n := n.up u8
  replace r := r.up u8
  replace rd := rd.up u8
  replace b0 := b0.up u8
  replace x1 := x1.up u8
  replace x2 := x2.up u8
  replace UP := UP.trans u8
  replace b0_0 := b0.cell (i := 0) rfl
  replace b0_1 := b0.cell (i := 1) rfl
  replace b0_2 := b0.cell (i := 2) rfl
  replace x1_0 := x1.cell (i := 0) rfl
  replace x1_1 := x1.cell (i := 1) rfl
  replace x1_2 := x1.cell (i := 2) rfl
  replace x2_0 := x2.cell (i := 0) rfl
  replace x2_1 := x2.cell (i := 1) rfl
  replace x2_2 := x2.cell (i := 2) rfl
  clear u8
  go_wp2_with fail
  ((with_reducible refine (works9 _).mono ?_))
  rintro e W9 ⟨rfl, u9⟩
  replace FR := FR.up u9
  replace p := p.up u9
  replace pd := pd.up u9
  replace n := n.up u9
  replace r := r.up u9
  replace rd := rd.up u9
  replace b0 := b0.up u9
  replace x1 := x1.up u9
  replace x2 := x2.up u9
  replace UP := UP.trans u9
  replace b0_0 := b0.cell (i := 0) rfl
  replace b0_1 := b0.cell (i := 1) rfl
  replace b0_2 := b0.cell (i := 2) rfl
  replace x1_0 := x1.cell (i := 0) rfl
  replace x1_1 := x1.cell (i := 1) rfl
  replace x1_2 := x1.cell (i := 2) rfl
  replace x2_0 := x2.cell (i := 0) rfl
  replace x2_1 := x2.cell (i := 1) rfl
  replace x2_2 := x2.cell (i := 2) rfl
  clear u9
  go_wp2
  go_ret
  exact ⟨rfl, UP⟩
end Go.Proofs.Ytjkkeilmnklpcaa
