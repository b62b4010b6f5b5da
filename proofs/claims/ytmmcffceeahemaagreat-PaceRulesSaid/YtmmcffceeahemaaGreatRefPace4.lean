/-
  Layer 36, the document's answers: two rules that are the same.
-/
import Derived.Test.YtmmcffceeahemaaGreatRefPace3
set_option linter.unusedVariables false
set_option linter.unusedSimpArgs false
namespace Go.Proofs.YtmmcffceeahemaaGreat
open Go.RowKit

set_option maxRecDepth 100000 in
set_option maxHeartbeats 6400000 in
theorem law_same36 {U1 U2 U3 U4 U5 : Rat} (N1 : Wd.Lq U1 1) (N2 : Wd.Lq U2 1) (N3 : Wd.Lq U3 1) (N4 : Wd.Lq U4 1) (N5 : Wd.Lq U5 1) {A1 A2 A3 A4 A5 D1 D2 D3 D4 D5 : Option Addr} {c1 c2 c3 c4 c5 e1 e2 e3 e4 e5 : Nat} {B1 B2 B3 B4 B5 F1 F2 F3 F4 F5 : Option Addr} {k1 k2 k3 k4 k5 m1 m2 m3 m4 m5 : Nat} {w : World} (x1 : Ws w (.slice A1 (Wd.words U1.num.natAbs).length c1) (Wd.words U1.num.natAbs)) (xd1 : Ws w (.slice D1 (Wd.words U1.den).length e1) (Wd.words U1.den)) (x2 : Ws w (.slice A2 (Wd.words U2.num.natAbs).length c2) (Wd.words U2.num.natAbs)) (xd2 : Ws w (.slice D2 (Wd.words U2.den).length e2) (Wd.words U2.den)) (x3 : Ws w (.slice A3 (Wd.words U3.num.natAbs).length c3) (Wd.words U3.num.natAbs)) (xd3 : Ws w (.slice D3 (Wd.words U3.den).length e3) (Wd.words U3.den)) (x4 : Ws w (.slice A4 (Wd.words U4.num.natAbs).length c4) (Wd.words U4.num.natAbs)) (xd4 : Ws w (.slice D4 (Wd.words U4.den).length e4) (Wd.words U4.den)) (x5 : Ws w (.slice A5 (Wd.words U5.num.natAbs).length c5) (Wd.words U5.num.natAbs)) (xd5 : Ws w (.slice D5 (Wd.words U5.den).length e5) (Wd.words U5.den)) (y1 : Ws w (.slice B1 (Wd.words U1.num.natAbs).length k1) (Wd.words U1.num.natAbs)) (yd1 : Ws w (.slice F1 (Wd.words U1.den).length m1) (Wd.words U1.den)) (y2 : Ws w (.slice B2 (Wd.words U2.num.natAbs).length k2) (Wd.words U2.num.natAbs)) (yd2 : Ws w (.slice F2 (Wd.words U2.den).length m2) (Wd.words U2.den)) (y3 : Ws w (.slice B3 (Wd.words U3.num.natAbs).length k3) (Wd.words U3.num.natAbs)) (yd3 : Ws w (.slice F3 (Wd.words U3.den).length m3) (Wd.words U3.den)) (y4 : Ws w (.slice B4 (Wd.words U4.num.natAbs).length k4) (Wd.words U4.num.natAbs)) (yd4 : Ws w (.slice F4 (Wd.words U4.den).length m4) (Wd.words U4.den)) (y5 : Ws w (.slice B5 (Wd.words U5.num.natAbs).length k5) (Wd.words U5.num.natAbs)) (yd5 : Ws w (.slice F5 (Wd.words U5.den).length m5) (Wd.words U5.den)) :
 Calls Tryz.prog 15 #[.agg #[.bool (Wd.ngb U1.num), .slice A1 (Wd.words U1.num.natAbs).length c1, .slice D1 (Wd.words U1.den).length e1, .bool (Wd.ngb U2.num), .slice A2 (Wd.words U2.num.natAbs).length c2, .slice D2 (Wd.words U2.den).length e2, .bool (Wd.ngb U3.num), .slice A3 (Wd.words U3.num.natAbs).length c3, .slice D3 (Wd.words U3.den).length e3, .bool (Wd.ngb U4.num), .slice A4 (Wd.words U4.num.natAbs).length c4, .slice D4 (Wd.words U4.den).length e4, .bool (Wd.ngb U5.num), .slice A5 (Wd.words U5.num.natAbs).length c5, .slice D5 (Wd.words U5.den).length e5, .int .i64 16, .int .i64 100], .agg #[.bool (Wd.ngb U1.num), .slice B1 (Wd.words U1.num.natAbs).length k1, .slice F1 (Wd.words U1.den).length m1, .bool (Wd.ngb U2.num), .slice B2 (Wd.words U2.num.natAbs).length k2, .slice F2 (Wd.words U2.den).length m2, .bool (Wd.ngb U3.num), .slice B3 (Wd.words U3.num.natAbs).length k3, .slice F3 (Wd.words U3.den).length m3, .bool (Wd.ngb U4.num), .slice B4 (Wd.words U4.num.natAbs).length k4, .slice F4 (Wd.words U4.den).length m4, .bool (Wd.ngb U5.num), .slice B5 (Wd.words U5.num.natAbs).length k5, .slice F5 (Wd.words U5.den).length m5, .int .i64 16, .int .i64 100]] w fun e w' => e = .returned (.bool true) ∧ Up w w' := by
 have UP : Up w ((w.alloc (.cells #[.bool (Wd.ngb U1.num), .slice A1 (Wd.words U1.num.natAbs).length c1, .slice D1 (Wd.words U1.den).length e1, .bool (Wd.ngb U2.num), .slice A2 (Wd.words U2.num.natAbs).length c2, .slice D2 (Wd.words U2.den).length e2, .bool (Wd.ngb U3.num), .slice A3 (Wd.words U3.num.natAbs).length c3, .slice D3 (Wd.words U3.den).length e3, .bool (Wd.ngb U4.num), .slice A4 (Wd.words U4.num.natAbs).length c4, .slice D4 (Wd.words U4.den).length e4, .bool (Wd.ngb U5.num), .slice A5 (Wd.words U5.num.natAbs).length c5, .slice D5 (Wd.words U5.den).length e5, .int .i64 16, .int .i64 100] 26)).alloc (.cells #[.bool (Wd.ngb U1.num), .slice B1 (Wd.words U1.num.natAbs).length k1, .slice F1 (Wd.words U1.den).length m1, .bool (Wd.ngb U2.num), .slice B2 (Wd.words U2.num.natAbs).length k2, .slice F2 (Wd.words U2.den).length m2, .bool (Wd.ngb U3.num), .slice B3 (Wd.words U3.num.natAbs).length k3, .slice F3 (Wd.words U3.den).length m3, .bool (Wd.ngb U4.num), .slice B4 (Wd.words U4.num.natAbs).length k4, .slice F4 (Wd.words U4.den).length m4, .bool (Wd.ngb U5.num), .slice B5 (Wd.words U5.num.natAbs).length k5, .slice F5 (Wd.words U5.den).length m5, .int .i64 16, .int .i64 100] 26)) := ((Up.refl w).alloc _).alloc _
 obtain ⟨b0, b1⟩ := bx_two 26 26 w [.bool (Wd.ngb U1.num), .slice A1 (Wd.words U1.num.natAbs).length c1, .slice D1 (Wd.words U1.den).length e1, .bool (Wd.ngb U2.num), .slice A2 (Wd.words U2.num.natAbs).length c2, .slice D2 (Wd.words U2.den).length e2, .bool (Wd.ngb U3.num), .slice A3 (Wd.words U3.num.natAbs).length c3, .slice D3 (Wd.words U3.den).length e3, .bool (Wd.ngb U4.num), .slice A4 (Wd.words U4.num.natAbs).length c4, .slice D4 (Wd.words U4.den).length e4, .bool (Wd.ngb U5.num), .slice A5 (Wd.words U5.num.natAbs).length c5, .slice D5 (Wd.words U5.den).length e5, .int .i64 16, .int .i64 100] [.bool (Wd.ngb U1.num), .slice B1 (Wd.words U1.num.natAbs).length k1, .slice F1 (Wd.words U1.den).length m1, .bool (Wd.ngb U2.num), .slice B2 (Wd.words U2.num.natAbs).length k2, .slice F2 (Wd.words U2.den).length m2, .bool (Wd.ngb U3.num), .slice B3 (Wd.words U3.num.natAbs).length k3, .slice F3 (Wd.words U3.den).length m3, .bool (Wd.ngb U4.num), .slice B4 (Wd.words U4.num.natAbs).length k4, .slice F4 (Wd.words U4.den).length m4, .bool (Wd.ngb U5.num), .slice B5 (Wd.words U5.num.natAbs).length k5, .slice F5 (Wd.words U5.den).length m5, .int .i64 16, .int .i64 100]
 go_enter Tryz.func15, Tryz.ntmps15
 go_wp2_with fail
 generalize ((w.alloc (.cells #[.bool (Wd.ngb U1.num), .slice A1 (Wd.words U1.num.natAbs).length c1, .slice D1 (Wd.words U1.den).length e1, .bool (Wd.ngb U2.num), .slice A2 (Wd.words U2.num.natAbs).length c2, .slice D2 (Wd.words U2.den).length e2, .bool (Wd.ngb U3.num), .slice A3 (Wd.words U3.num.natAbs).length c3, .slice D3 (Wd.words U3.den).length e3, .bool (Wd.ngb U4.num), .slice A4 (Wd.words U4.num.natAbs).length c4, .slice D4 (Wd.words U4.den).length e4, .bool (Wd.ngb U5.num), .slice A5 (Wd.words U5.num.natAbs).length c5, .slice D5 (Wd.words U5.den).length e5, .int .i64 16, .int .i64 100] 26)).alloc (.cells #[.bool (Wd.ngb U1.num), .slice B1 (Wd.words U1.num.natAbs).length k1, .slice F1 (Wd.words U1.den).length m1, .bool (Wd.ngb U2.num), .slice B2 (Wd.words U2.num.natAbs).length k2, .slice F2 (Wd.words U2.den).length m2, .bool (Wd.ngb U3.num), .slice B3 (Wd.words U3.num.natAbs).length k3, .slice F3 (Wd.words U3.den).length m3, .bool (Wd.ngb U4.num), .slice B4 (Wd.words U4.num.natAbs).length k4, .slice F4 (Wd.words U4.den).length m4, .bool (Wd.ngb U5.num), .slice B5 (Wd.words U5.num.natAbs).length k5, .slice F5 (Wd.words U5.den).length m5, .int .i64 16, .int .i64 100] 26)) = W at *
 replace x1 := x1.up UP
 replace xd1 := xd1.up UP
 replace x2 := x2.up UP
 replace xd2 := xd2.up UP
 replace x3 := x3.up UP
 replace xd3 := xd3.up UP
 replace x4 := x4.up UP
 replace xd4 := xd4.up UP
 replace x5 := x5.up UP
 replace xd5 := xd5.up UP
 replace y1 := y1.up UP
 replace yd1 := yd1.up UP
 replace y2 := y2.up UP
 replace yd2 := yd2.up UP
 replace y3 := y3.up UP
 replace yd3 := yd3.up UP
 replace y4 := y4.up UP
 replace yd4 := yd4.up UP
 replace y5 := y5.up UP
 replace yd5 := yd5.up UP
 ((with_reducible refine (ref_same9_yes (qw_of2 x1 xd1) (qw_of2 y1 yd1) N1 (by omega)).mono ?_))
 rintro e W1 ⟨rfl, u1⟩
 replace x1 := x1.up u1
 replace xd1 := xd1.up u1
 replace x2 := x2.up u1
 replace xd2 := xd2.up u1
 replace x3 := x3.up u1
 replace xd3 := xd3.up u1
 replace x4 := x4.up u1
 replace xd4 := xd4.up u1
 replace x5 := x5.up u1
 replace xd5 := xd5.up u1
 replace y1 := y1.up u1
 replace yd1 := yd1.up u1
 replace y2 := y2.up u1
 replace yd2 := yd2.up u1
 replace y3 := y3.up u1
 replace yd3 := yd3.up u1
 replace y4 := y4.up u1
 replace yd4 := yd4.up u1
 replace y5 := y5.up u1
 replace yd5 := yd5.up u1
 replace b0 := b0.up u1
 replace b1 := b1.up u1
 replace UP := UP.trans u1
 clear u1
 have b0_3 := b0.cell (i := 3) rfl
 have b0_4 := b0.cell (i := 4) rfl
 have b0_5 := b0.cell (i := 5) rfl
 have b1_3 := b1.cell (i := 3) rfl
 have b1_4 := b1.cell (i := 4) rfl
 have b1_5 := b1.cell (i := 5) rfl
 go_wp2_with fail
 ((with_reducible refine (ref_same9_yes (qw_of2 x2 xd2) (qw_of2 y2 yd2) N2 (by omega)).mono ?_))
 rintro e W2 ⟨rfl, u2⟩
 replace x1 := x1.up u2
 replace xd1 := xd1.up u2
 replace x2 := x2.up u2
 replace xd2 := xd2.up u2
 replace x3 := x3.up u2
 replace xd3 := xd3.up u2
 replace x4 := x4.up u2
 replace xd4 := xd4.up u2
 replace x5 := x5.up u2
 replace xd5 := xd5.up u2
 replace y1 := y1.up u2
 replace yd1 := yd1.up u2
 replace y2 := y2.up u2
 replace yd2 := yd2.up u2
 replace y3 := y3.up u2
 replace yd3 := yd3.up u2
 replace y4 := y4.up u2
 replace yd4 := yd4.up u2
 replace y5 := y5.up u2
 replace yd5 := yd5.up u2
 replace b0 := b0.up u2
 replace b1 := b1.up u2
 replace UP := UP.trans u2
 clear b0_3 b0_4 b0_5 b1_3 b1_4 b1_5
 clear u2
 have b0_6 := b0.cell (i := 6) rfl
 have b0_7 := b0.cell (i := 7) rfl
 have b0_8 := b0.cell (i := 8) rfl
 have b1_6 := b1.cell (i := 6) rfl
 have b1_7 := b1.cell (i := 7) rfl
 have b1_8 := b1.cell (i := 8) rfl
 go_wp2_with fail
 ((with_reducible refine (ref_same9_yes (qw_of2 x3 xd3) (qw_of2 y3 yd3) N3 (by omega)).mono ?_))
 rintro e W3 ⟨rfl, u3⟩
 replace x1 := x1.up u3
 replace xd1 := xd1.up u3
 replace x2 := x2.up u3
 replace xd2 := xd2.up u3
 replace x3 := x3.up u3
 replace xd3 := xd3.up u3
 replace x4 := x4.up u3
 replace xd4 := xd4.up u3
 replace x5 := x5.up u3
 replace xd5 := xd5.up u3
 replace y1 := y1.up u3
 replace yd1 := yd1.up u3
 replace y2 := y2.up u3
 replace yd2 := yd2.up u3
 replace y3 := y3.up u3
 replace yd3 := yd3.up u3
 replace y4 := y4.up u3
 replace yd4 := yd4.up u3
 replace y5 := y5.up u3
 replace yd5 := yd5.up u3
 replace b0 := b0.up u3
 replace b1 := b1.up u3
 replace UP := UP.trans u3
 clear b0_6 b0_7 b0_8 b1_6 b1_7 b1_8
 clear u3
 have b0_9 := b0.cell (i := 9) rfl
 have b0_10 := b0.cell (i := 10) rfl
 have b0_11 := b0.cell (i := 11) rfl
 have b1_9 := b1.cell (i := 9) rfl
 have b1_10 := b1.cell (i := 10) rfl
 have b1_11 := b1.cell (i := 11) rfl
 go_wp2_with fail
 ((with_reducible refine (ref_same9_yes (qw_of2 x4 xd4) (qw_of2 y4 yd4) N4 (by omega)).mono ?_))
 rintro e W4 ⟨rfl, u4⟩
 replace x1 := x1.up u4
 replace xd1 := xd1.up u4
 replace x2 := x2.up u4
 replace xd2 := xd2.up u4
 replace x3 := x3.up u4
 replace xd3 := xd3.up u4
 replace x4 := x4.up u4
 replace xd4 := xd4.up u4
 replace x5 := x5.up u4
 replace xd5 := xd5.up u4
 replace y1 := y1.up u4
 replace yd1 := yd1.up u4
 replace y2 := y2.up u4
 replace yd2 := yd2.up u4
 replace y3 := y3.up u4
 replace yd3 := yd3.up u4
 replace y4 := y4.up u4
 replace yd4 := yd4.up u4
 replace y5 := y5.up u4
 replace yd5 := yd5.up u4
 replace b0 := b0.up u4
 replace b1 := b1.up u4
 replace UP := UP.trans u4
 clear b0_9 b0_10 b0_11 b1_9 b1_10 b1_11
 clear u4
 have b0_12 := b0.cell (i := 12) rfl
 have b0_13 := b0.cell (i := 13) rfl
 have b0_14 := b0.cell (i := 14) rfl
 have b1_12 := b1.cell (i := 12) rfl
 have b1_13 := b1.cell (i := 13) rfl
 have b1_14 := b1.cell (i := 14) rfl
 go_wp2_with fail
 ((with_reducible refine (ref_same9_yes (qw_of2 x5 xd5) (qw_of2 y5 yd5) N5 (by omega)).mono ?_))
 rintro e W5 ⟨rfl, u5⟩
 replace x1 := x1.up u5
 replace xd1 := xd1.up u5
 replace x2 := x2.up u5
 replace xd2 := xd2.up u5
 replace x3 := x3.up u5
 replace xd3 := xd3.up u5
 replace x4 := x4.up u5
 replace xd4 := xd4.up u5
 replace x5 := x5.up u5
 replace xd5 := xd5.up u5
 replace y1 := y1.up u5
 replace yd1 := yd1.up u5
 replace y2 := y2.up u5
 replace yd2 := yd2.up u5
 replace y3 := y3.up u5
 replace yd3 := yd3.up u5
 replace y4 := y4.up u5
 replace yd4 := yd4.up u5
 replace y5 := y5.up u5
 replace yd5 := yd5.up u5
 replace b0 := b0.up u5
 replace b1 := b1.up u5
 replace UP := UP.trans u5
 clear b0_12 b0_13 b0_14 b1_12 b1_13 b1_14
 clear u5
 have b0_15 := b0.cell (i := 15) rfl
 have b0_16 := b0.cell (i := 16) rfl
 have b1_15 := b1.cell (i := 15) rfl
 have b1_16 := b1.cell (i := 16) rfl
 go_wp2
 go_ret
 exact ⟨rfl, UP⟩
end Go.Proofs.YtmmcffceeahemaaGreat
