/-
  Layer 36: the usual rules, and the chapter's examples.
-/
import Derived.Test.YtmmcffceeahemaaGreatZsPace5
set_option linter.unusedVariables false
set_option linter.unusedSimpArgs false
namespace Go.Proofs.YtmmcffceeahemaaGreat
open Go.RowKit
theorem agg_rules (w : World) : (isAgg 36).run Tryz.prog w = .ok true w := by kernel_rfl
theorem size_rules (w : World) : (sizeOf 36).run Tryz.prog w = .ok 17 w := by kernel_rfl
/-- What comes back: the usual rules. -/
def RetUs (U1 U2 U3 U4 U5 : Rat) (w : World) (e : Ending) (w' : World) : Prop := ∃ (A1 A2 A3 A4 A5 D1 D2 D3 D4 D5 : Option Addr) (c1 c2 c3 c4 c5 e1 e2 e3 e4 e5 : Nat), e = .returned (.agg #[.bool (Wd.ngb U1.num), .slice A1 (Wd.words U1.num.natAbs).length c1, .slice D1 (Wd.words U1.den).length e1, .bool (Wd.ngb U2.num), .slice A2 (Wd.words U2.num.natAbs).length c2, .slice D2 (Wd.words U2.den).length e2, .bool (Wd.ngb U3.num), .slice A3 (Wd.words U3.num.natAbs).length c3, .slice D3 (Wd.words U3.den).length e3, .bool (Wd.ngb U4.num), .slice A4 (Wd.words U4.num.natAbs).length c4, .slice D4 (Wd.words U4.den).length e4, .bool (Wd.ngb U5.num), .slice A5 (Wd.words U5.num.natAbs).length c5, .slice D5 (Wd.words U5.den).length e5, .int .i64 16, .int .i64 100]) ∧ (Ws w' (.slice A1 (Wd.words U1.num.natAbs).length c1) (Wd.words U1.num.natAbs) ∧ Ws w' (.slice D1 (Wd.words U1.den).length e1) (Wd.words U1.den) ∧ Ws w' (.slice A2 (Wd.words U2.num.natAbs).length c2) (Wd.words U2.num.natAbs) ∧ Ws w' (.slice D2 (Wd.words U2.den).length e2) (Wd.words U2.den) ∧ Ws w' (.slice A3 (Wd.words U3.num.natAbs).length c3) (Wd.words U3.num.natAbs) ∧ Ws w' (.slice D3 (Wd.words U3.den).length e3) (Wd.words U3.den) ∧ Ws w' (.slice A4 (Wd.words U4.num.natAbs).length c4) (Wd.words U4.num.natAbs) ∧ Ws w' (.slice D4 (Wd.words U4.den).length e4) (Wd.words U4.den) ∧ Ws w' (.slice A5 (Wd.words U5.num.natAbs).length c5) (Wd.words U5.num.natAbs) ∧ Ws w' (.slice D5 (Wd.words U5.den).length e5) (Wd.words U5.den)) ∧ Up w w'
theorem ws_len {w : World} {A : Option Addr} {n c : Nat} {l : List Nat} (h : Ws w (.slice A n c) l) : n = l.length := by
 obtain ⟨B, d, e⟩ := h.form
 cases e
 rfl
set_option maxRecDepth 100000 in
set_option maxHeartbeats 6400000 in
theorem pace_usual {U1 U2 U3 U4 U5 : Rat} (H1 : Hid (((1 : Int) : Rat) / ((1000 : Int) : Rat) = U1)) (H2 : Hid (((9 : Int) : Rat) / ((10 : Int) : Rat) = U2)) (H3 : Hid (((1 : Int) : Rat) / ((5 : Int) : Rat) = U3)) (H4 : Hid (((5 : Int) : Rat) = U4)) (H5 : Hid (((1 : Int) : Rat) / ((1000000 : Int) : Rat) = U5)) (w : World) : Calls Tryz.prog 17 #[] w (RetUs U1 U2 U3 U4 U5 w) := by
 have UP : Up w (w.alloc (.cells #[.bool false, .slice none 0 0, .slice none 0 0, .bool false, .slice none 0 0, .slice none 0 0, .bool false, .slice none 0 0, .slice none 0 0, .bool false, .slice none 0 0, .slice none 0 0, .bool false, .slice none 0 0, .slice none 0 0, .int .i64 0, .int .i64 0] 36)) := (Up.refl w).alloc _
 have r0 := Bx.new 36 w [.bool false, .slice none 0 0, .slice none 0 0, .bool false, .slice none 0 0, .slice none 0 0, .bool false, .slice none 0 0, .slice none 0 0, .bool false, .slice none 0 0, .slice none 0 0, .bool false, .slice none 0 0, .slice none 0 0, .int .i64 0, .int .i64 0]
 go_enter Tryz.func17, Tryz.ntmps17
 go_wp2_with fail
 generalize (w.alloc (.cells #[.bool false, .slice none 0 0, .slice none 0 0, .bool false, .slice none 0 0, .slice none 0 0, .bool false, .slice none 0 0, .slice none 0 0, .bool false, .slice none 0 0, .slice none 0 0, .bool false, .slice none 0 0, .slice none 0 0, .int .i64 0, .int .i64 0] 36)) = W at *
 have r0_0 := r0.cell (i := 0) rfl
 have r0_1 := r0.cell (i := 1) rfl
 have r0_2 := r0.cell (i := 2) rfl
 have r0_3 := r0.cell (i := 3) rfl
 have r0_4 := r0.cell (i := 4) rfl
 have r0_5 := r0.cell (i := 5) rfl
 have r0_6 := r0.cell (i := 6) rfl
 have r0_7 := r0.cell (i := 7) rfl
 have r0_8 := r0.cell (i := 8) rfl
 have r0_9 := r0.cell (i := 9) rfl
 have r0_10 := r0.cell (i := 10) rfl
 have r0_11 := r0.cell (i := 11) rfl
 have r0_12 := r0.cell (i := 12) rfl
 have r0_13 := r0.cell (i := 13) rfl
 have r0_14 := r0.cell (i := 14) rfl
 have r0_15 := r0.cell (i := 15) rfl
 have r0_16 := r0.cell (i := 16) rfl
 have r0_f0 := r0.free 0
 have r0_f1 := r0.free 1
 have r0_f2 := r0.free 2
 have r0_f3 := r0.free 3
 have r0_f4 := r0.free 4
 have r0_f5 := r0.free 5
 have r0_f6 := r0.free 6
 have r0_f7 := r0.free 7
 have r0_f8 := r0.free 8
 have r0_f9 := r0.free 9
 have r0_f10 := r0.free 10
 have r0_f11 := r0.free 11
 have r0_f12 := r0.free 12
 have r0_f13 := r0.free 13
 have r0_f14 := r0.free 14
 have r0_f15 := r0.free 15
 have r0_f16 := r0.free 16
 go_wp2_with fail
 ((with_reducible refine (pace_over (n := 1) (d := 1000) (by omega) (by omega) _).mono ?_))
 rintro e W1 ⟨V1, rfl, a, u1⟩
 replace r0 := r0.up u1
 replace UP := UP.trans u1
 clear r0_0 r0_1 r0_2 r0_3 r0_4 r0_5 r0_6 r0_7 r0_8 r0_9 r0_10 r0_11 r0_12 r0_13 r0_14 r0_15 r0_16
 have r0_0 := r0.cell (i := 0) rfl
 have r0_1 := r0.cell (i := 1) rfl
 have r0_2 := r0.cell (i := 2) rfl
 have r0_3 := r0.cell (i := 3) rfl
 have r0_4 := r0.cell (i := 4) rfl
 have r0_5 := r0.cell (i := 5) rfl
 have r0_6 := r0.cell (i := 6) rfl
 have r0_7 := r0.cell (i := 7) rfl
 have r0_8 := r0.cell (i := 8) rfl
 have r0_9 := r0.cell (i := 9) rfl
 have r0_10 := r0.cell (i := 10) rfl
 have r0_11 := r0.cell (i := 11) rfl
 have r0_12 := r0.cell (i := 12) rfl
 have r0_13 := r0.cell (i := 13) rfl
 have r0_14 := r0.cell (i := 14) rfl
 have r0_15 := r0.cell (i := 15) rfl
 have r0_16 := r0.cell (i := 16) rfl
 replace r0_f0 := r0.free 0
 replace r0_f1 := r0.free 1
 replace r0_f2 := r0.free 2
 replace r0_f3 := r0.free 3
 replace r0_f4 := r0.free 4
 replace r0_f5 := r0.free 5
 replace r0_f6 := r0.free 6
 replace r0_f7 := r0.free 7
 replace r0_f8 := r0.free 8
 replace r0_f9 := r0.free 9
 replace r0_f10 := r0.free 10
 replace r0_f11 := r0.free 11
 replace r0_f12 := r0.free 12
 replace r0_f13 := r0.free 13
 replace r0_f14 := r0.free 14
 replace r0_f15 := r0.free 15
 replace r0_f16 := r0.free 16
 clear u1
 rw [H1.out] at a
 obtain ⟨Xa, Ya, rfl, a, ad⟩ := a
 obtain ⟨Aa, na, ca, rfl⟩ := a.shape
 obtain ⟨Aad, nad, cad, rfl⟩ := ad.shape
 go_wp2_with fail
 ((with_reducible refine (pace_over (n := 9) (d := 10) (by omega) (by omega) _).mono ?_))
 rintro e W2 ⟨V2, rfl, b, u2⟩
 replace a := a.up u2
 replace ad := ad.up u2
 replace r0 := r0.up u2
 replace UP := UP.trans u2
 clear r0_0 r0_1 r0_2 r0_3 r0_4 r0_5 r0_6 r0_7 r0_8 r0_9 r0_10 r0_11 r0_12 r0_13 r0_14 r0_15 r0_16
 have r0_0 := r0.cell (i := 0) rfl
 have r0_1 := r0.cell (i := 1) rfl
 have r0_2 := r0.cell (i := 2) rfl
 have r0_3 := r0.cell (i := 3) rfl
 have r0_4 := r0.cell (i := 4) rfl
 have r0_5 := r0.cell (i := 5) rfl
 have r0_6 := r0.cell (i := 6) rfl
 have r0_7 := r0.cell (i := 7) rfl
 have r0_8 := r0.cell (i := 8) rfl
 have r0_9 := r0.cell (i := 9) rfl
 have r0_10 := r0.cell (i := 10) rfl
 have r0_11 := r0.cell (i := 11) rfl
 have r0_12 := r0.cell (i := 12) rfl
 have r0_13 := r0.cell (i := 13) rfl
 have r0_14 := r0.cell (i := 14) rfl
 have r0_15 := r0.cell (i := 15) rfl
 have r0_16 := r0.cell (i := 16) rfl
 replace r0_f0 := r0.free 0
 replace r0_f1 := r0.free 1
 replace r0_f2 := r0.free 2
 replace r0_f3 := r0.free 3
 replace r0_f4 := r0.free 4
 replace r0_f5 := r0.free 5
 replace r0_f6 := r0.free 6
 replace r0_f7 := r0.free 7
 replace r0_f8 := r0.free 8
 replace r0_f9 := r0.free 9
 replace r0_f10 := r0.free 10
 replace r0_f11 := r0.free 11
 replace r0_f12 := r0.free 12
 replace r0_f13 := r0.free 13
 replace r0_f14 := r0.free 14
 replace r0_f15 := r0.free 15
 replace r0_f16 := r0.free 16
 clear u2
 rw [H2.out] at b
 obtain ⟨Xb, Yb, rfl, b, bd⟩ := b
 obtain ⟨Ab, nb, cb, rfl⟩ := b.shape
 obtain ⟨Abd, nbd, cbd, rfl⟩ := bd.shape
 go_wp2_with fail
 ((with_reducible refine (pace_over (n := 1) (d := 5) (by omega) (by omega) _).mono ?_))
 rintro e W3 ⟨V3, rfl, p, u3⟩
 replace a := a.up u3
 replace ad := ad.up u3
 replace b := b.up u3
 replace bd := bd.up u3
 replace r0 := r0.up u3
 replace UP := UP.trans u3
 clear r0_0 r0_1 r0_2 r0_3 r0_4 r0_5 r0_6 r0_7 r0_8 r0_9 r0_10 r0_11 r0_12 r0_13 r0_14 r0_15 r0_16
 have r0_0 := r0.cell (i := 0) rfl
 have r0_1 := r0.cell (i := 1) rfl
 have r0_2 := r0.cell (i := 2) rfl
 have r0_3 := r0.cell (i := 3) rfl
 have r0_4 := r0.cell (i := 4) rfl
 have r0_5 := r0.cell (i := 5) rfl
 have r0_6 := r0.cell (i := 6) rfl
 have r0_7 := r0.cell (i := 7) rfl
 have r0_8 := r0.cell (i := 8) rfl
 have r0_9 := r0.cell (i := 9) rfl
 have r0_10 := r0.cell (i := 10) rfl
 have r0_11 := r0.cell (i := 11) rfl
 have r0_12 := r0.cell (i := 12) rfl
 have r0_13 := r0.cell (i := 13) rfl
 have r0_14 := r0.cell (i := 14) rfl
 have r0_15 := r0.cell (i := 15) rfl
 have r0_16 := r0.cell (i := 16) rfl
 replace r0_f0 := r0.free 0
 replace r0_f1 := r0.free 1
 replace r0_f2 := r0.free 2
 replace r0_f3 := r0.free 3
 replace r0_f4 := r0.free 4
 replace r0_f5 := r0.free 5
 replace r0_f6 := r0.free 6
 replace r0_f7 := r0.free 7
 replace r0_f8 := r0.free 8
 replace r0_f9 := r0.free 9
 replace r0_f10 := r0.free 10
 replace r0_f11 := r0.free 11
 replace r0_f12 := r0.free 12
 replace r0_f13 := r0.free 13
 replace r0_f14 := r0.free 14
 replace r0_f15 := r0.free 15
 replace r0_f16 := r0.free 16
 clear u3
 rw [H3.out] at p
 obtain ⟨Xp, Yp, rfl, p, pd⟩ := p
 obtain ⟨Ap, np, cp, rfl⟩ := p.shape
 obtain ⟨Apd, npd, cpd, rfl⟩ := pd.shape
 go_wp2_with fail
 ((with_reducible refine (frac_of (n := 5) (by omega) _).mono ?_))
 rintro e W4 ⟨V4, rfl, q, u4⟩
 replace a := a.up u4
 replace ad := ad.up u4
 replace b := b.up u4
 replace bd := bd.up u4
 replace p := p.up u4
 replace pd := pd.up u4
 replace r0 := r0.up u4
 replace UP := UP.trans u4
 clear r0_0 r0_1 r0_2 r0_3 r0_4 r0_5 r0_6 r0_7 r0_8 r0_9 r0_10 r0_11 r0_12 r0_13 r0_14 r0_15 r0_16
 have r0_0 := r0.cell (i := 0) rfl
 have r0_1 := r0.cell (i := 1) rfl
 have r0_2 := r0.cell (i := 2) rfl
 have r0_3 := r0.cell (i := 3) rfl
 have r0_4 := r0.cell (i := 4) rfl
 have r0_5 := r0.cell (i := 5) rfl
 have r0_6 := r0.cell (i := 6) rfl
 have r0_7 := r0.cell (i := 7) rfl
 have r0_8 := r0.cell (i := 8) rfl
 have r0_9 := r0.cell (i := 9) rfl
 have r0_10 := r0.cell (i := 10) rfl
 have r0_11 := r0.cell (i := 11) rfl
 have r0_12 := r0.cell (i := 12) rfl
 have r0_13 := r0.cell (i := 13) rfl
 have r0_14 := r0.cell (i := 14) rfl
 have r0_15 := r0.cell (i := 15) rfl
 have r0_16 := r0.cell (i := 16) rfl
 replace r0_f0 := r0.free 0
 replace r0_f1 := r0.free 1
 replace r0_f2 := r0.free 2
 replace r0_f3 := r0.free 3
 replace r0_f4 := r0.free 4
 replace r0_f5 := r0.free 5
 replace r0_f6 := r0.free 6
 replace r0_f7 := r0.free 7
 replace r0_f8 := r0.free 8
 replace r0_f9 := r0.free 9
 replace r0_f10 := r0.free 10
 replace r0_f11 := r0.free 11
 replace r0_f12 := r0.free 12
 replace r0_f13 := r0.free 13
 replace r0_f14 := r0.free 14
 replace r0_f15 := r0.free 15
 replace r0_f16 := r0.free 16
 clear u4
 rw [H4.out] at q
 obtain ⟨Xq, Yq, rfl, q, qd⟩ := q
 obtain ⟨Aq, nq, cq, rfl⟩ := q.shape
 obtain ⟨Aqd, nqd, cqd, rfl⟩ := qd.shape
 go_wp2_with fail
 ((with_reducible refine (pace_over (n := 1) (d := 1000000) (by omega) (by omega) _).mono ?_))
 rintro e W5 ⟨V5, rfl, t, u5⟩
 replace a := a.up u5
 replace ad := ad.up u5
 replace b := b.up u5
 replace bd := bd.up u5
 replace p := p.up u5
 replace pd := pd.up u5
 replace q := q.up u5
 replace qd := qd.up u5
 replace r0 := r0.up u5
 replace UP := UP.trans u5
 clear r0_0 r0_1 r0_2 r0_3 r0_4 r0_5 r0_6 r0_7 r0_8 r0_9 r0_10 r0_11 r0_12 r0_13 r0_14 r0_15 r0_16
 have r0_0 := r0.cell (i := 0) rfl
 have r0_1 := r0.cell (i := 1) rfl
 have r0_2 := r0.cell (i := 2) rfl
 have r0_3 := r0.cell (i := 3) rfl
 have r0_4 := r0.cell (i := 4) rfl
 have r0_5 := r0.cell (i := 5) rfl
 have r0_6 := r0.cell (i := 6) rfl
 have r0_7 := r0.cell (i := 7) rfl
 have r0_8 := r0.cell (i := 8) rfl
 have r0_9 := r0.cell (i := 9) rfl
 have r0_10 := r0.cell (i := 10) rfl
 have r0_11 := r0.cell (i := 11) rfl
 have r0_12 := r0.cell (i := 12) rfl
 have r0_13 := r0.cell (i := 13) rfl
 have r0_14 := r0.cell (i := 14) rfl
 have r0_15 := r0.cell (i := 15) rfl
 have r0_16 := r0.cell (i := 16) rfl
 replace r0_f0 := r0.free 0
 replace r0_f1 := r0.free 1
 replace r0_f2 := r0.free 2
 replace r0_f3 := r0.free 3
 replace r0_f4 := r0.free 4
 replace r0_f5 := r0.free 5
 replace r0_f6 := r0.free 6
 replace r0_f7 := r0.free 7
 replace r0_f8 := r0.free 8
 replace r0_f9 := r0.free 9
 replace r0_f10 := r0.free 10
 replace r0_f11 := r0.free 11
 replace r0_f12 := r0.free 12
 replace r0_f13 := r0.free 13
 replace r0_f14 := r0.free 14
 replace r0_f15 := r0.free 15
 replace r0_f16 := r0.free 16
 clear u5
 rw [H5.out] at t
 obtain ⟨Xt, Yt, rfl, t, td⟩ := t
 obtain ⟨At, nt, ct, rfl⟩ := t.shape
 obtain ⟨Atd, ntd, ctd, rfl⟩ := td.shape
 obtain rfl := ws_len a
 obtain rfl := ws_len ad
 obtain rfl := ws_len b
 obtain rfl := ws_len bd
 obtain rfl := ws_len p
 obtain rfl := ws_len pd
 obtain rfl := ws_len q
 obtain rfl := ws_len qd
 obtain rfl := ws_len t
 obtain rfl := ws_len td
 go_wp2_with fail
 have KW : Kw (W5) ((W5).setCell ⟨w.heap.size, 0, none⟩ (.bool (Wd.ngb U1.num))) := Kw.store (c := (.bool false)) r0 rfl trivial _
 replace a := a.kw KW
 replace ad := ad.kw KW
 replace b := b.kw KW
 replace bd := bd.kw KW
 replace p := p.kw KW
 replace pd := pd.kw KW
 replace q := q.kw KW
 replace qd := qd.kw KW
 replace t := t.kw KW
 replace td := td.kw KW
 replace r0 : Bx 36 ((W5).setCell ⟨w.heap.size, 0, none⟩ (.bool (Wd.ngb U1.num))) (w.heap.size) [.bool (Wd.ngb U1.num), .slice none 0 0, .slice none 0 0, .bool false, .slice none 0 0, .slice none 0 0, .bool false, .slice none 0 0, .slice none 0 0, .bool false, .slice none 0 0, .slice none 0 0, .bool false, .slice none 0 0, .slice none 0 0, .int .i64 0, .int .i64 0] := r0.set 0 (.bool (Wd.ngb U1.num))
 replace UP := UP.setCell (p := ⟨w.heap.size, 0, none⟩) (by dsimp only; omega) (.bool (Wd.ngb U1.num))
 clear KW
 generalize ((W5).setCell ⟨w.heap.size, 0, none⟩ (.bool (Wd.ngb U1.num))) = W6_0 at *
 have KW : Kw (W6_0) ((W6_0).setCell ⟨w.heap.size, 1, none⟩ (.slice Aa (Wd.words U1.num.natAbs).length ca)) := Kw.store (c := (.slice none 0 0)) r0 rfl trivial _
 replace a := a.kw KW
 replace ad := ad.kw KW
 replace b := b.kw KW
 replace bd := bd.kw KW
 replace p := p.kw KW
 replace pd := pd.kw KW
 replace q := q.kw KW
 replace qd := qd.kw KW
 replace t := t.kw KW
 replace td := td.kw KW
 replace r0 : Bx 36 ((W6_0).setCell ⟨w.heap.size, 1, none⟩ (.slice Aa (Wd.words U1.num.natAbs).length ca)) (w.heap.size) [.bool (Wd.ngb U1.num), .slice Aa (Wd.words U1.num.natAbs).length ca, .slice none 0 0, .bool false, .slice none 0 0, .slice none 0 0, .bool false, .slice none 0 0, .slice none 0 0, .bool false, .slice none 0 0, .slice none 0 0, .bool false, .slice none 0 0, .slice none 0 0, .int .i64 0, .int .i64 0] := r0.set 1 (.slice Aa (Wd.words U1.num.natAbs).length ca)
 replace UP := UP.setCell (p := ⟨w.heap.size, 1, none⟩) (by dsimp only; omega) (.slice Aa (Wd.words U1.num.natAbs).length ca)
 clear KW
 generalize ((W6_0).setCell ⟨w.heap.size, 1, none⟩ (.slice Aa (Wd.words U1.num.natAbs).length ca)) = W6_1 at *
 have KW : Kw (W6_1) ((W6_1).setCell ⟨w.heap.size, 2, none⟩ (.slice Aad (Wd.words U1.den).length cad)) := Kw.store (c := (.slice none 0 0)) r0 rfl trivial _
 replace a := a.kw KW
 replace ad := ad.kw KW
 replace b := b.kw KW
 replace bd := bd.kw KW
 replace p := p.kw KW
 replace pd := pd.kw KW
 replace q := q.kw KW
 replace qd := qd.kw KW
 replace t := t.kw KW
 replace td := td.kw KW
 replace r0 : Bx 36 ((W6_1).setCell ⟨w.heap.size, 2, none⟩ (.slice Aad (Wd.words U1.den).length cad)) (w.heap.size) [.bool (Wd.ngb U1.num), .slice Aa (Wd.words U1.num.natAbs).length ca, .slice Aad (Wd.words U1.den).length cad, .bool false, .slice none 0 0, .slice none 0 0, .bool false, .slice none 0 0, .slice none 0 0, .bool false, .slice none 0 0, .slice none 0 0, .bool false, .slice none 0 0, .slice none 0 0, .int .i64 0, .int .i64 0] := r0.set 2 (.slice Aad (Wd.words U1.den).length cad)
 replace UP := UP.setCell (p := ⟨w.heap.size, 2, none⟩) (by dsimp only; omega) (.slice Aad (Wd.words U1.den).length cad)
 clear KW
 generalize ((W6_1).setCell ⟨w.heap.size, 2, none⟩ (.slice Aad (Wd.words U1.den).length cad)) = W6_2 at *
 have KW : Kw (W6_2) ((W6_2).setCell ⟨w.heap.size, 3, none⟩ (.bool (Wd.ngb U2.num))) := Kw.store (c := (.bool false)) r0 rfl trivial _
 replace a := a.kw KW
 replace ad := ad.kw KW
 replace b := b.kw KW
 replace bd := bd.kw KW
 replace p := p.kw KW
 replace pd := pd.kw KW
 replace q := q.kw KW
 replace qd := qd.kw KW
 replace t := t.kw KW
 replace td := td.kw KW
 replace r0 : Bx 36 ((W6_2).setCell ⟨w.heap.size, 3, none⟩ (.bool (Wd.ngb U2.num))) (w.heap.size) [.bool (Wd.ngb U1.num), .slice Aa (Wd.words U1.num.natAbs).length ca, .slice Aad (Wd.words U1.den).length cad, .bool (Wd.ngb U2.num), .slice none 0 0, .slice none 0 0, .bool false, .slice none 0 0, .slice none 0 0, .bool false, .slice none 0 0, .slice none 0 0, .bool false, .slice none 0 0, .slice none 0 0, .int .i64 0, .int .i64 0] := r0.set 3 (.bool (Wd.ngb U2.num))
 replace UP := UP.setCell (p := ⟨w.heap.size, 3, none⟩) (by dsimp only; omega) (.bool (Wd.ngb U2.num))
 clear KW
 generalize ((W6_2).setCell ⟨w.heap.size, 3, none⟩ (.bool (Wd.ngb U2.num))) = W6_3 at *
 have KW : Kw (W6_3) ((W6_3).setCell ⟨w.heap.size, 4, none⟩ (.slice Ab (Wd.words U2.num.natAbs).length cb)) := Kw.store (c := (.slice none 0 0)) r0 rfl trivial _
 replace a := a.kw KW
 replace ad := ad.kw KW
 replace b := b.kw KW
 replace bd := bd.kw KW
 replace p := p.kw KW
 replace pd := pd.kw KW
 replace q := q.kw KW
 replace qd := qd.kw KW
 replace t := t.kw KW
 replace td := td.kw KW
 replace r0 : Bx 36 ((W6_3).setCell ⟨w.heap.size, 4, none⟩ (.slice Ab (Wd.words U2.num.natAbs).length cb)) (w.heap.size) [.bool (Wd.ngb U1.num), .slice Aa (Wd.words U1.num.natAbs).length ca, .slice Aad (Wd.words U1.den).length cad, .bool (Wd.ngb U2.num), .slice Ab (Wd.words U2.num.natAbs).length cb, .slice none 0 0, .bool false, .slice none 0 0, .slice none 0 0, .bool false, .slice none 0 0, .slice none 0 0, .bool false, .slice none 0 0, .slice none 0 0, .int .i64 0, .int .i64 0] := r0.set 4 (.slice Ab (Wd.words U2.num.natAbs).length cb)
 replace UP := UP.setCell (p := ⟨w.heap.size, 4, none⟩) (by dsimp only; omega) (.slice Ab (Wd.words U2.num.natAbs).length cb)
 clear KW
 generalize ((W6_3).setCell ⟨w.heap.size, 4, none⟩ (.slice Ab (Wd.words U2.num.natAbs).length cb)) = W6_4 at *
 have KW : Kw (W6_4) ((W6_4).setCell ⟨w.heap.size, 5, none⟩ (.slice Abd (Wd.words U2.den).length cbd)) := Kw.store (c := (.slice none 0 0)) r0 rfl trivial _
 replace a := a.kw KW
 replace ad := ad.kw KW
 replace b := b.kw KW
 replace bd := bd.kw KW
 replace p := p.kw KW
 replace pd := pd.kw KW
 replace q := q.kw KW
 replace qd := qd.kw KW
 replace t := t.kw KW
 replace td := td.kw KW
 replace r0 : Bx 36 ((W6_4).setCell ⟨w.heap.size, 5, none⟩ (.slice Abd (Wd.words U2.den).length cbd)) (w.heap.size) [.bool (Wd.ngb U1.num), .slice Aa (Wd.words U1.num.natAbs).length ca, .slice Aad (Wd.words U1.den).length cad, .bool (Wd.ngb U2.num), .slice Ab (Wd.words U2.num.natAbs).length cb, .slice Abd (Wd.words U2.den).length cbd, .bool false, .slice none 0 0, .slice none 0 0, .bool false, .slice none 0 0, .slice none 0 0, .bool false, .slice none 0 0, .slice none 0 0, .int .i64 0, .int .i64 0] := r0.set 5 (.slice Abd (Wd.words U2.den).length cbd)
 replace UP := UP.setCell (p := ⟨w.heap.size, 5, none⟩) (by dsimp only; omega) (.slice Abd (Wd.words U2.den).length cbd)
 clear KW
 generalize ((W6_4).setCell ⟨w.heap.size, 5, none⟩ (.slice Abd (Wd.words U2.den).length cbd)) = W6_5 at *
 have KW : Kw (W6_5) ((W6_5).setCell ⟨w.heap.size, 6, none⟩ (.bool (Wd.ngb U3.num))) := Kw.store (c := (.bool false)) r0 rfl trivial _
 replace a := a.kw KW
 replace ad := ad.kw KW
 replace b := b.kw KW
 replace bd := bd.kw KW
 replace p := p.kw KW
 replace pd := pd.kw KW
 replace q := q.kw KW
 replace qd := qd.kw KW
 replace t := t.kw KW
 replace td := td.kw KW
 replace r0 : Bx 36 ((W6_5).setCell ⟨w.heap.size, 6, none⟩ (.bool (Wd.ngb U3.num))) (w.heap.size) [.bool (Wd.ngb U1.num), .slice Aa (Wd.words U1.num.natAbs).length ca, .slice Aad (Wd.words U1.den).length cad, .bool (Wd.ngb U2.num), .slice Ab (Wd.words U2.num.natAbs).length cb, .slice Abd (Wd.words U2.den).length cbd, .bool (Wd.ngb U3.num), .slice none 0 0, .slice none 0 0, .bool false, .slice none 0 0, .slice none 0 0, .bool false, .slice none 0 0, .slice none 0 0, .int .i64 0, .int .i64 0] := r0.set 6 (.bool (Wd.ngb U3.num))
 replace UP := UP.setCell (p := ⟨w.heap.size, 6, none⟩) (by dsimp only; omega) (.bool (Wd.ngb U3.num))
 clear KW
 generalize ((W6_5).setCell ⟨w.heap.size, 6, none⟩ (.bool (Wd.ngb U3.num))) = W6_6 at *
 have KW : Kw (W6_6) ((W6_6).setCell ⟨w.heap.size, 7, none⟩ (.slice Ap (Wd.words U3.num.natAbs).length cp)) := Kw.store (c := (.slice none 0 0)) r0 rfl trivial _
 replace a := a.kw KW
 replace ad := ad.kw KW
 replace b := b.kw KW
 replace bd := bd.kw KW
 replace p := p.kw KW
 replace pd := pd.kw KW
 replace q := q.kw KW
 replace qd := qd.kw KW
 replace t := t.kw KW
 replace td := td.kw KW
 replace r0 : Bx 36 ((W6_6).setCell ⟨w.heap.size, 7, none⟩ (.slice Ap (Wd.words U3.num.natAbs).length cp)) (w.heap.size) [.bool (Wd.ngb U1.num), .slice Aa (Wd.words U1.num.natAbs).length ca, .slice Aad (Wd.words U1.den).length cad, .bool (Wd.ngb U2.num), .slice Ab (Wd.words U2.num.natAbs).length cb, .slice Abd (Wd.words U2.den).length cbd, .bool (Wd.ngb U3.num), .slice Ap (Wd.words U3.num.natAbs).length cp, .slice none 0 0, .bool false, .slice none 0 0, .slice none 0 0, .bool false, .slice none 0 0, .slice none 0 0, .int .i64 0, .int .i64 0] := r0.set 7 (.slice Ap (Wd.words U3.num.natAbs).length cp)
 replace UP := UP.setCell (p := ⟨w.heap.size, 7, none⟩) (by dsimp only; omega) (.slice Ap (Wd.words U3.num.natAbs).length cp)
 clear KW
 generalize ((W6_6).setCell ⟨w.heap.size, 7, none⟩ (.slice Ap (Wd.words U3.num.natAbs).length cp)) = W6_7 at *
 have KW : Kw (W6_7) ((W6_7).setCell ⟨w.heap.size, 8, none⟩ (.slice Apd (Wd.words U3.den).length cpd)) := Kw.store (c := (.slice none 0 0)) r0 rfl trivial _
 replace a := a.kw KW
 replace ad := ad.kw KW
 replace b := b.kw KW
 replace bd := bd.kw KW
 replace p := p.kw KW
 replace pd := pd.kw KW
 replace q := q.kw KW
 replace qd := qd.kw KW
 replace t := t.kw KW
 replace td := td.kw KW
 replace r0 : Bx 36 ((W6_7).setCell ⟨w.heap.size, 8, none⟩ (.slice Apd (Wd.words U3.den).length cpd)) (w.heap.size) [.bool (Wd.ngb U1.num), .slice Aa (Wd.words U1.num.natAbs).length ca, .slice Aad (Wd.words U1.den).length cad, .bool (Wd.ngb U2.num), .slice Ab (Wd.words U2.num.natAbs).length cb, .slice Abd (Wd.words U2.den).length cbd, .bool (Wd.ngb U3.num), .slice Ap (Wd.words U3.num.natAbs).length cp, .slice Apd (Wd.words U3.den).length cpd, .bool false, .slice none 0 0, .slice none 0 0, .bool false, .slice none 0 0, .slice none 0 0, .int .i64 0, .int .i64 0] := r0.set 8 (.slice Apd (Wd.words U3.den).length cpd)
 replace UP := UP.setCell (p := ⟨w.heap.size, 8, none⟩) (by dsimp only; omega) (.slice Apd (Wd.words U3.den).length cpd)
 clear KW
 generalize ((W6_7).setCell ⟨w.heap.size, 8, none⟩ (.slice Apd (Wd.words U3.den).length cpd)) = W6_8 at *
 have KW : Kw (W6_8) ((W6_8).setCell ⟨w.heap.size, 9, none⟩ (.bool (Wd.ngb U4.num))) := Kw.store (c := (.bool false)) r0 rfl trivial _
 replace a := a.kw KW
 replace ad := ad.kw KW
 replace b := b.kw KW
 replace bd := bd.kw KW
 replace p := p.kw KW
 replace pd := pd.kw KW
 replace q := q.kw KW
 replace qd := qd.kw KW
 replace t := t.kw KW
 replace td := td.kw KW
 replace r0 : Bx 36 ((W6_8).setCell ⟨w.heap.size, 9, none⟩ (.bool (Wd.ngb U4.num))) (w.heap.size) [.bool (Wd.ngb U1.num), .slice Aa (Wd.words U1.num.natAbs).length ca, .slice Aad (Wd.words U1.den).length cad, .bool (Wd.ngb U2.num), .slice Ab (Wd.words U2.num.natAbs).length cb, .slice Abd (Wd.words U2.den).length cbd, .bool (Wd.ngb U3.num), .slice Ap (Wd.words U3.num.natAbs).length cp, .slice Apd (Wd.words U3.den).length cpd, .bool (Wd.ngb U4.num), .slice none 0 0, .slice none 0 0, .bool false, .slice none 0 0, .slice none 0 0, .int .i64 0, .int .i64 0] := r0.set 9 (.bool (Wd.ngb U4.num))
 replace UP := UP.setCell (p := ⟨w.heap.size, 9, none⟩) (by dsimp only; omega) (.bool (Wd.ngb U4.num))
 clear KW
 generalize ((W6_8).setCell ⟨w.heap.size, 9, none⟩ (.bool (Wd.ngb U4.num))) = W6_9 at *
 have KW : Kw (W6_9) ((W6_9).setCell ⟨w.heap.size, 10, none⟩ (.slice Aq (Wd.words U4.num.natAbs).length cq)) := Kw.store (c := (.slice none 0 0)) r0 rfl trivial _
 replace a := a.kw KW
 replace ad := ad.kw KW
 replace b := b.kw KW
 replace bd := bd.kw KW
 replace p := p.kw KW
 replace pd := pd.kw KW
 replace q := q.kw KW
 replace qd := qd.kw KW
 replace t := t.kw KW
 replace td := td.kw KW
 replace r0 : Bx 36 ((W6_9).setCell ⟨w.heap.size, 10, none⟩ (.slice Aq (Wd.words U4.num.natAbs).length cq)) (w.heap.size) [.bool (Wd.ngb U1.num), .slice Aa (Wd.words U1.num.natAbs).length ca, .slice Aad (Wd.words U1.den).length cad, .bool (Wd.ngb U2.num), .slice Ab (Wd.words U2.num.natAbs).length cb, .slice Abd (Wd.words U2.den).length cbd, .bool (Wd.ngb U3.num), .slice Ap (Wd.words U3.num.natAbs).length cp, .slice Apd (Wd.words U3.den).length cpd, .bool (Wd.ngb U4.num), .slice Aq (Wd.words U4.num.natAbs).length cq, .slice none 0 0, .bool false, .slice none 0 0, .slice none 0 0, .int .i64 0, .int .i64 0] := r0.set 10 (.slice Aq (Wd.words U4.num.natAbs).length cq)
 replace UP := UP.setCell (p := ⟨w.heap.size, 10, none⟩) (by dsimp only; omega) (.slice Aq (Wd.words U4.num.natAbs).length cq)
 clear KW
 generalize ((W6_9).setCell ⟨w.heap.size, 10, none⟩ (.slice Aq (Wd.words U4.num.natAbs).length cq)) = W6_10 at *
 have KW : Kw (W6_10) ((W6_10).setCell ⟨w.heap.size, 11, none⟩ (.slice Aqd (Wd.words U4.den).length cqd)) := Kw.store (c := (.slice none 0 0)) r0 rfl trivial _
 replace a := a.kw KW
 replace ad := ad.kw KW
 replace b := b.kw KW
 replace bd := bd.kw KW
 replace p := p.kw KW
 replace pd := pd.kw KW
 replace q := q.kw KW
 replace qd := qd.kw KW
 replace t := t.kw KW
 replace td := td.kw KW
 replace r0 : Bx 36 ((W6_10).setCell ⟨w.heap.size, 11, none⟩ (.slice Aqd (Wd.words U4.den).length cqd)) (w.heap.size) [.bool (Wd.ngb U1.num), .slice Aa (Wd.words U1.num.natAbs).length ca, .slice Aad (Wd.words U1.den).length cad, .bool (Wd.ngb U2.num), .slice Ab (Wd.words U2.num.natAbs).length cb, .slice Abd (Wd.words U2.den).length cbd, .bool (Wd.ngb U3.num), .slice Ap (Wd.words U3.num.natAbs).length cp, .slice Apd (Wd.words U3.den).length cpd, .bool (Wd.ngb U4.num), .slice Aq (Wd.words U4.num.natAbs).length cq, .slice Aqd (Wd.words U4.den).length cqd, .bool false, .slice none 0 0, .slice none 0 0, .int .i64 0, .int .i64 0] := r0.set 11 (.slice Aqd (Wd.words U4.den).length cqd)
 replace UP := UP.setCell (p := ⟨w.heap.size, 11, none⟩) (by dsimp only; omega) (.slice Aqd (Wd.words U4.den).length cqd)
 clear KW
 generalize ((W6_10).setCell ⟨w.heap.size, 11, none⟩ (.slice Aqd (Wd.words U4.den).length cqd)) = W6_11 at *
 have KW : Kw (W6_11) ((W6_11).setCell ⟨w.heap.size, 12, none⟩ (.bool (Wd.ngb U5.num))) := Kw.store (c := (.bool false)) r0 rfl trivial _
 replace a := a.kw KW
 replace ad := ad.kw KW
 replace b := b.kw KW
 replace bd := bd.kw KW
 replace p := p.kw KW
 replace pd := pd.kw KW
 replace q := q.kw KW
 replace qd := qd.kw KW
 replace t := t.kw KW
 replace td := td.kw KW
 replace r0 : Bx 36 ((W6_11).setCell ⟨w.heap.size, 12, none⟩ (.bool (Wd.ngb U5.num))) (w.heap.size) [.bool (Wd.ngb U1.num), .slice Aa (Wd.words U1.num.natAbs).length ca, .slice Aad (Wd.words U1.den).length cad, .bool (Wd.ngb U2.num), .slice Ab (Wd.words U2.num.natAbs).length cb, .slice Abd (Wd.words U2.den).length cbd, .bool (Wd.ngb U3.num), .slice Ap (Wd.words U3.num.natAbs).length cp, .slice Apd (Wd.words U3.den).length cpd, .bool (Wd.ngb U4.num), .slice Aq (Wd.words U4.num.natAbs).length cq, .slice Aqd (Wd.words U4.den).length cqd, .bool (Wd.ngb U5.num), .slice none 0 0, .slice none 0 0, .int .i64 0, .int .i64 0] := r0.set 12 (.bool (Wd.ngb U5.num))
 replace UP := UP.setCell (p := ⟨w.heap.size, 12, none⟩) (by dsimp only; omega) (.bool (Wd.ngb U5.num))
 clear KW
 generalize ((W6_11).setCell ⟨w.heap.size, 12, none⟩ (.bool (Wd.ngb U5.num))) = W6_12 at *
 have KW : Kw (W6_12) ((W6_12).setCell ⟨w.heap.size, 13, none⟩ (.slice At (Wd.words U5.num.natAbs).length ct)) := Kw.store (c := (.slice none 0 0)) r0 rfl trivial _
 replace a := a.kw KW
 replace ad := ad.kw KW
 replace b := b.kw KW
 replace bd := bd.kw KW
 replace p := p.kw KW
 replace pd := pd.kw KW
 replace q := q.kw KW
 replace qd := qd.kw KW
 replace t := t.kw KW
 replace td := td.kw KW
 replace r0 : Bx 36 ((W6_12).setCell ⟨w.heap.size, 13, none⟩ (.slice At (Wd.words U5.num.natAbs).length ct)) (w.heap.size) [.bool (Wd.ngb U1.num), .slice Aa (Wd.words U1.num.natAbs).length ca, .slice Aad (Wd.words U1.den).length cad, .bool (Wd.ngb U2.num), .slice Ab (Wd.words U2.num.natAbs).length cb, .slice Abd (Wd.words U2.den).length cbd, .bool (Wd.ngb U3.num), .slice Ap (Wd.words U3.num.natAbs).length cp, .slice Apd (Wd.words U3.den).length cpd, .bool (Wd.ngb U4.num), .slice Aq (Wd.words U4.num.natAbs).length cq, .slice Aqd (Wd.words U4.den).length cqd, .bool (Wd.ngb U5.num), .slice At (Wd.words U5.num.natAbs).length ct, .slice none 0 0, .int .i64 0, .int .i64 0] := r0.set 13 (.slice At (Wd.words U5.num.natAbs).length ct)
 replace UP := UP.setCell (p := ⟨w.heap.size, 13, none⟩) (by dsimp only; omega) (.slice At (Wd.words U5.num.natAbs).length ct)
 clear KW
 generalize ((W6_12).setCell ⟨w.heap.size, 13, none⟩ (.slice At (Wd.words U5.num.natAbs).length ct)) = W6_13 at *
 have KW : Kw (W6_13) ((W6_13).setCell ⟨w.heap.size, 14, none⟩ (.slice Atd (Wd.words U5.den).length ctd)) := Kw.store (c := (.slice none 0 0)) r0 rfl trivial _
 replace a := a.kw KW
 replace ad := ad.kw KW
 replace b := b.kw KW
 replace bd := bd.kw KW
 replace p := p.kw KW
 replace pd := pd.kw KW
 replace q := q.kw KW
 replace qd := qd.kw KW
 replace t := t.kw KW
 replace td := td.kw KW
 replace r0 : Bx 36 ((W6_13).setCell ⟨w.heap.size, 14, none⟩ (.slice Atd (Wd.words U5.den).length ctd)) (w.heap.size) [.bool (Wd.ngb U1.num), .slice Aa (Wd.words U1.num.natAbs).length ca, .slice Aad (Wd.words U1.den).length cad, .bool (Wd.ngb U2.num), .slice Ab (Wd.words U2.num.natAbs).length cb, .slice Abd (Wd.words U2.den).length cbd, .bool (Wd.ngb U3.num), .slice Ap (Wd.words U3.num.natAbs).length cp, .slice Apd (Wd.words U3.den).length cpd, .bool (Wd.ngb U4.num), .slice Aq (Wd.words U4.num.natAbs).length cq, .slice Aqd (Wd.words U4.den).length cqd, .bool (Wd.ngb U5.num), .slice At (Wd.words U5.num.natAbs).length ct, .slice Atd (Wd.words U5.den).length ctd, .int .i64 0, .int .i64 0] := r0.set 14 (.slice Atd (Wd.words U5.den).length ctd)
 replace UP := UP.setCell (p := ⟨w.heap.size, 14, none⟩) (by dsimp only; omega) (.slice Atd (Wd.words U5.den).length ctd)
 clear KW
 generalize ((W6_13).setCell ⟨w.heap.size, 14, none⟩ (.slice Atd (Wd.words U5.den).length ctd)) = W6_14 at *
 have KW : Kw (W6_14) ((W6_14).setCell ⟨w.heap.size, 15, none⟩ (.int .i64 16)) := Kw.store (c := (.int .i64 0)) r0 rfl trivial _
 replace a := a.kw KW
 replace ad := ad.kw KW
 replace b := b.kw KW
 replace bd := bd.kw KW
 replace p := p.kw KW
 replace pd := pd.kw KW
 replace q := q.kw KW
 replace qd := qd.kw KW
 replace t := t.kw KW
 replace td := td.kw KW
 replace r0 : Bx 36 ((W6_14).setCell ⟨w.heap.size, 15, none⟩ (.int .i64 16)) (w.heap.size) [.bool (Wd.ngb U1.num), .slice Aa (Wd.words U1.num.natAbs).length ca, .slice Aad (Wd.words U1.den).length cad, .bool (Wd.ngb U2.num), .slice Ab (Wd.words U2.num.natAbs).length cb, .slice Abd (Wd.words U2.den).length cbd, .bool (Wd.ngb U3.num), .slice Ap (Wd.words U3.num.natAbs).length cp, .slice Apd (Wd.words U3.den).length cpd, .bool (Wd.ngb U4.num), .slice Aq (Wd.words U4.num.natAbs).length cq, .slice Aqd (Wd.words U4.den).length cqd, .bool (Wd.ngb U5.num), .slice At (Wd.words U5.num.natAbs).length ct, .slice Atd (Wd.words U5.den).length ctd, .int .i64 16, .int .i64 0] := r0.set 15 (.int .i64 16)
 replace UP := UP.setCell (p := ⟨w.heap.size, 15, none⟩) (by dsimp only; omega) (.int .i64 16)
 clear KW
 generalize ((W6_14).setCell ⟨w.heap.size, 15, none⟩ (.int .i64 16)) = W6_15 at *
 have KW : Kw (W6_15) ((W6_15).setCell ⟨w.heap.size, 16, none⟩ (.int .i64 100)) := Kw.store (c := (.int .i64 0)) r0 rfl trivial _
 replace a := a.kw KW
 replace ad := ad.kw KW
 replace b := b.kw KW
 replace bd := bd.kw KW
 replace p := p.kw KW
 replace pd := pd.kw KW
 replace q := q.kw KW
 replace qd := qd.kw KW
 replace t := t.kw KW
 replace td := td.kw KW
 replace r0 : Bx 36 ((W6_15).setCell ⟨w.heap.size, 16, none⟩ (.int .i64 100)) (w.heap.size) [.bool (Wd.ngb U1.num), .slice Aa (Wd.words U1.num.natAbs).length ca, .slice Aad (Wd.words U1.den).length cad, .bool (Wd.ngb U2.num), .slice Ab (Wd.words U2.num.natAbs).length cb, .slice Abd (Wd.words U2.den).length cbd, .bool (Wd.ngb U3.num), .slice Ap (Wd.words U3.num.natAbs).length cp, .slice Apd (Wd.words U3.den).length cpd, .bool (Wd.ngb U4.num), .slice Aq (Wd.words U4.num.natAbs).length cq, .slice Aqd (Wd.words U4.den).length cqd, .bool (Wd.ngb U5.num), .slice At (Wd.words U5.num.natAbs).length ct, .slice Atd (Wd.words U5.den).length ctd, .int .i64 16, .int .i64 100] := r0.set 16 (.int .i64 100)
 replace UP := UP.setCell (p := ⟨w.heap.size, 16, none⟩) (by dsimp only; omega) (.int .i64 100)
 clear KW
 generalize ((W6_15).setCell ⟨w.heap.size, 16, none⟩ (.int .i64 100)) = W6 at *
 clear r0_0 r0_1 r0_2 r0_3 r0_4 r0_5 r0_6 r0_7 r0_8 r0_9 r0_10 r0_11 r0_12 r0_13 r0_14 r0_15 r0_16
 have r0_0 := r0.cell (i := 0) rfl
 have r0_1 := r0.cell (i := 1) rfl
 have r0_2 := r0.cell (i := 2) rfl
 have r0_3 := r0.cell (i := 3) rfl
 have r0_4 := r0.cell (i := 4) rfl
 have r0_5 := r0.cell (i := 5) rfl
 have r0_6 := r0.cell (i := 6) rfl
 have r0_7 := r0.cell (i := 7) rfl
 have r0_8 := r0.cell (i := 8) rfl
 have r0_9 := r0.cell (i := 9) rfl
 have r0_10 := r0.cell (i := 10) rfl
 have r0_11 := r0.cell (i := 11) rfl
 have r0_12 := r0.cell (i := 12) rfl
 have r0_13 := r0.cell (i := 13) rfl
 have r0_14 := r0.cell (i := 14) rfl
 have r0_15 := r0.cell (i := 15) rfl
 have r0_16 := r0.cell (i := 16) rfl
 exact bodyPost_ret (run_res_cell rfl rfl agg_rules size_rules r0 rfl) rfl ⟨_, _, _, _, _, _, _, _, _, _, _, _, _, _, _, _, _, _, _, _, rfl, ⟨a, ad, b, bd, p, pd, q, qd, t, td⟩, UP⟩
end Go.Proofs.YtmmcffceeahemaaGreat
