/-
  Layer 36: what is accepted, rounded down, cut.
-/
import Derived.Test.YtmmcffceeahemaaGreatZsPace2
import Derived.Test.YtmmcffceeahemaaGreatZsFracTo
set_option linter.unusedVariables false
set_option linter.unusedSimpArgs false
namespace Go.Proofs.YtmmcffceeahemaaGreat
open Go.RowKit
set_option maxRecDepth 100000 in
set_option maxHeartbeats 3200000 in
theorem pace_accepts {s1 s2 s3 s4 s5 : Bool} {A1 A2 A3 A4 A5 D1 D2 D3 D4 D5 : Option Addr} {l1 l2 l3 l4 l5 m1 m2 m3 m4 m5 : List Nat} {c1 c2 c3 c4 c5 e1 e2 e3 e4 e5 : Nat} {fi mo : Int} {v : Value} {e t : Rat} {k : Nat} {w : World} (h : Fr w v e k) (ht : Fr w (.agg #[.bool s1, .slice A1 l1.length c1, .slice D1 m1.length e1]) t 1000) (hk : k ≤ 100000) :
 Calls Tryz.prog 53 #[.agg #[.bool s1, .slice A1 l1.length c1, .slice D1 m1.length e1, .bool s2, .slice A2 l2.length c2, .slice D2 m2.length e2, .bool s3, .slice A3 l3.length c3, .slice D3 m3.length e3, .bool s4, .slice A4 l4.length c4, .slice D4 m4.length e4, .bool s5, .slice A5 l5.length c5, .slice D5 m5.length e5, .int .i64 fi, .int .i64 mo], v] w fun x w' => x = .returned (.bool (decide (e ≤ t))) ∧ Up w w' := by
 have HP := Lib.hid (Pc.cmp_le e t)
 obtain ⟨x0, rfl, ⟨A6, n6, c6, e1⟩, ⟨D6, p6, d6, e2⟩⟩ := (kp_fr k).form h
 obtain ⟨s6, u0, d0⟩ := x0
 simp only at e1 e2
 subst e1 e2
 have FE : Fr w (.agg #[.bool s6, .slice A6 n6 c6, .slice D6 p6 d6]) e k := h
 clear h
 obtain ⟨z, HZ⟩ : ∃ z, Hid (Wd.cmpQ e t = z) := ⟨_, Lib.hid rfl⟩
 rw [HZ.out] at HP
 have UP : Up w ((w.alloc (.cells #[.bool s1, .slice A1 l1.length c1, .slice D1 m1.length e1, .bool s2, .slice A2 l2.length c2, .slice D2 m2.length e2, .bool s3, .slice A3 l3.length c3, .slice D3 m3.length e3, .bool s4, .slice A4 l4.length c4, .slice D4 m4.length e4, .bool s5, .slice A5 l5.length c5, .slice D5 m5.length e5, .int .i64 fi, .int .i64 mo] 36)).alloc (.cells #[.bool s6, .slice A6 n6 c6, .slice D6 p6 d6] 34)) := ((Up.refl w).alloc _).alloc _
 obtain ⟨b0, b1⟩ := bx_two 36 34 w [.bool s1, .slice A1 l1.length c1, .slice D1 m1.length e1, .bool s2, .slice A2 l2.length c2, .slice D2 m2.length e2, .bool s3, .slice A3 l3.length c3, .slice D3 m3.length e3, .bool s4, .slice A4 l4.length c4, .slice D4 m4.length e4, .bool s5, .slice A5 l5.length c5, .slice D5 m5.length e5, .int .i64 fi, .int .i64 mo] [.bool s6, .slice A6 n6 c6, .slice D6 p6 d6]
 show Calls Tryz.prog 53 #[.agg #[.bool s1, .slice A1 l1.length c1, .slice D1 m1.length e1, .bool s2, .slice A2 l2.length c2, .slice D2 m2.length e2, .bool s3, .slice A3 l3.length c3, .slice D3 m3.length e3, .bool s4, .slice A4 l4.length c4, .slice D4 m4.length e4, .bool s5, .slice A5 l5.length c5, .slice D5 m5.length e5, .int .i64 fi, .int .i64 mo], .agg #[.bool s6, .slice A6 n6 c6, .slice D6 p6 d6]] w _
 go_enter Tryz.func53, Tryz.ntmps53
 go_wp2_with fail
 generalize ((w.alloc (.cells #[.bool s1, .slice A1 l1.length c1, .slice D1 m1.length e1, .bool s2, .slice A2 l2.length c2, .slice D2 m2.length e2, .bool s3, .slice A3 l3.length c3, .slice D3 m3.length e3, .bool s4, .slice A4 l4.length c4, .slice D4 m4.length e4, .bool s5, .slice A5 l5.length c5, .slice D5 m5.length e5, .int .i64 fi, .int .i64 mo] 36)).alloc (.cells #[.bool s6, .slice A6 n6 c6, .slice D6 p6 d6] 34)) = W at *
 replace FE := FE.up UP
 replace ht := ht.up UP
 have b0_0 := b0.cell (i := 0) rfl
 have b0_1 := b0.cell (i := 1) rfl
 have b0_2 := b0.cell (i := 2) rfl
 have b0_3 := b0.cell (i := 3) rfl
 have b0_4 := b0.cell (i := 4) rfl
 have b0_5 := b0.cell (i := 5) rfl
 have b0_6 := b0.cell (i := 6) rfl
 have b0_7 := b0.cell (i := 7) rfl
 have b0_8 := b0.cell (i := 8) rfl
 have b0_9 := b0.cell (i := 9) rfl
 have b0_10 := b0.cell (i := 10) rfl
 have b0_11 := b0.cell (i := 11) rfl
 have b0_12 := b0.cell (i := 12) rfl
 have b0_13 := b0.cell (i := 13) rfl
 have b0_14 := b0.cell (i := 14) rfl
 have b0_15 := b0.cell (i := 15) rfl
 have b0_16 := b0.cell (i := 16) rfl
 obtain ⟨b1_0, b1_1, b1_2⟩ := b1.c3
 go_wp2_with fail
 ((with_reducible refine (frac_cmp FE ht (by omega) (by omega)).mono ?_))
 rintro e W1 ⟨rfl, u1⟩
 replace FE := FE.up u1
 replace ht := ht.up u1
 replace b0 := b0.up u1
 replace b1 := b1.up u1
 replace UP := UP.trans u1
 clear b0_0 b0_1 b0_2 b0_3 b0_4 b0_5 b0_6 b0_7 b0_8 b0_9 b0_10 b0_11 b0_12 b0_13 b0_14 b0_15 b0_16 b1_0 b1_1 b1_2
 have b0_0 := b0.cell (i := 0) rfl
 have b0_1 := b0.cell (i := 1) rfl
 have b0_2 := b0.cell (i := 2) rfl
 have b0_3 := b0.cell (i := 3) rfl
 have b0_4 := b0.cell (i := 4) rfl
 have b0_5 := b0.cell (i := 5) rfl
 have b0_6 := b0.cell (i := 6) rfl
 have b0_7 := b0.cell (i := 7) rfl
 have b0_8 := b0.cell (i := 8) rfl
 have b0_9 := b0.cell (i := 9) rfl
 have b0_10 := b0.cell (i := 10) rfl
 have b0_11 := b0.cell (i := 11) rfl
 have b0_12 := b0.cell (i := 12) rfl
 have b0_13 := b0.cell (i := 13) rfl
 have b0_14 := b0.cell (i := 14) rfl
 have b0_15 := b0.cell (i := 15) rfl
 have b0_16 := b0.cell (i := 16) rfl
 obtain ⟨b1_0, b1_1, b1_2⟩ := b1.c3
 clear u1
 rw [HZ.out]
 go_wp2
 go_ret
 exact ⟨by rw [← HP.out]; rfl, UP⟩
set_option maxRecDepth 100000 in
set_option maxHeartbeats 3200000 in
theorem pace_cut {v1 v2 v3 : Value} {t en want : Rat} {k : Nat} {w : World} (h1 : Fr w v1 t k) (h2 : Fr w v2 en k) (h3 : Fr w v3 want k) (hk : k ≤ 100000) :
 Calls Tryz.prog 50 #[v1, v2, v3] w (RetQ (Pc.cut t en want) w) := by
 obtain ⟨x0, rfl, ⟨A1, n1, c1, e1⟩, ⟨D1, p1, d1, e2⟩⟩ := (kp_fr k).form h1
 obtain ⟨s1, u0, d0⟩ := x0
 simp only at e1 e2
 subst e1 e2
 obtain ⟨x0, rfl, ⟨A2, n2, c2, e1⟩, ⟨D2, p2, d2, e2⟩⟩ := (kp_fr k).form h2
 obtain ⟨s2, u0, d0⟩ := x0
 simp only at e1 e2
 subst e1 e2
 obtain ⟨x0, rfl, ⟨A3, n3, c3, e1⟩, ⟨D3, p3, d3, e2⟩⟩ := (kp_fr k).form h3
 obtain ⟨s3, u0, d0⟩ := x0
 simp only at e1 e2
 subst e1 e2
 have FT : Fr w (.agg #[.bool s1, .slice A1 n1 c1, .slice D1 p1 d1]) t k := h1
 have FN : Fr w (.agg #[.bool s2, .slice A2 n2 c2, .slice D2 p2 d2]) en k := h2
 have FW : Fr w (.agg #[.bool s3, .slice A3 n3 c3, .slice D3 p3 d3]) want k := h3
 clear h1 h2 h3
 have LS := FN.lq.sub FT.lq
 have HC : Hid (Pc.cut t en want = if en - t < want then en - t else want) := Lib.hid rfl
 obtain ⟨L, HL⟩ : ∃ x, Hid (en - t = x) := ⟨_, Lib.hid rfl⟩
 rw [HL.out] at HC LS
 have HN := Lib.hid (Wd.cmpQ_pos want L)
 obtain ⟨z, HZ⟩ : ∃ z, Hid (Wd.cmpQ want L = z) := ⟨_, Lib.hid rfl⟩
 rw [HZ.out] at HN
 have UP : Up w ((((w.alloc (.cells #[.bool s1, .slice A1 n1 c1, .slice D1 p1 d1] 34)).alloc (.cells #[.bool s2, .slice A2 n2 c2, .slice D2 p2 d2] 34)).alloc (.cells #[.bool s3, .slice A3 n3 c3, .slice D3 p3 d3] 34)).alloc (.cells #[.bool false, .slice none 0 0, .slice none 0 0] 34)) := ((((Up.refl w).alloc _).alloc _).alloc _).alloc _
 obtain ⟨b1, b2, b3, r0⟩ := bx_four 34 34 34 34 w [.bool s1, .slice A1 n1 c1, .slice D1 p1 d1] [.bool s2, .slice A2 n2 c2, .slice D2 p2 d2] [.bool s3, .slice A3 n3 c3, .slice D3 p3 d3] [.bool false, .slice none 0 0, .slice none 0 0]
 show Calls Tryz.prog 50 #[.agg #[.bool s1, .slice A1 n1 c1, .slice D1 p1 d1], .agg #[.bool s2, .slice A2 n2 c2, .slice D2 p2 d2], .agg #[.bool s3, .slice A3 n3 c3, .slice D3 p3 d3]] w _
 go_enter Tryz.func50, Tryz.ntmps50
 go_wp2_with fail
 generalize ((((w.alloc (.cells #[.bool s1, .slice A1 n1 c1, .slice D1 p1 d1] 34)).alloc (.cells #[.bool s2, .slice A2 n2 c2, .slice D2 p2 d2] 34)).alloc (.cells #[.bool s3, .slice A3 n3 c3, .slice D3 p3 d3] 34)).alloc (.cells #[.bool false, .slice none 0 0, .slice none 0 0] 34)) = W at *
 replace FT := FT.up UP
 replace FN := FN.up UP
 replace FW := FW.up UP
 obtain ⟨b1_0, b1_1, b1_2⟩ := b1.c3
 obtain ⟨b2_0, b2_1, b2_2⟩ := b2.c3
 obtain ⟨b3_0, b3_1, b3_2⟩ := b3.c3
 obtain ⟨r0_0, r0_1, r0_2⟩ := r0.c3
 have r0_f0 := r0.free 0
 have r0_f1 := r0.free 1
 have r0_f2 := r0.free 2
 go_wp2_with fail
 ((with_reducible refine (frac_sub FN FT (by omega) (by omega)).mono ?_))
 rintro e W1 ⟨V1, rfl, l, u1⟩
 replace FT := FT.up u1
 replace FN := FN.up u1
 replace FW := FW.up u1
 replace b1 := b1.up u1
 replace b2 := b2.up u1
 replace b3 := b3.up u1
 replace r0 := r0.up u1
 replace UP := UP.trans u1
 clear b1_0 b1_1 b1_2 b2_0 b2_1 b2_2 b3_0 b3_1 b3_2 r0_0 r0_1 r0_2
 obtain ⟨b1_0, b1_1, b1_2⟩ := b1.c3
 obtain ⟨b2_0, b2_1, b2_2⟩ := b2.c3
 obtain ⟨b3_0, b3_1, b3_2⟩ := b3.c3
 obtain ⟨r0_0, r0_1, r0_2⟩ := r0.c3
 replace r0_f0 := r0.free 0
 replace r0_f1 := r0.free 1
 replace r0_f2 := r0.free 2
 clear u1
 rw [HL.out] at l
 obtain ⟨Xl, Yl, rfl, l, ld⟩ := l
 obtain ⟨Al, nl, cl, rfl⟩ := l.shape
 obtain ⟨Ald, nld, cld, rfl⟩ := ld.shape
 have b1_0a := fun O0 => (cell_alloc (o := O0) b1_0)
 have b1_1a := fun O0 => (cell_alloc (o := O0) b1_1)
 have b1_2a := fun O0 => (cell_alloc (o := O0) b1_2)
 have b2_0a := fun O0 => (cell_alloc (o := O0) b2_0)
 have b2_1a := fun O0 => (cell_alloc (o := O0) b2_1)
 have b2_2a := fun O0 => (cell_alloc (o := O0) b2_2)
 have b3_0a := fun O0 => (cell_alloc (o := O0) b3_0)
 have b3_1a := fun O0 => (cell_alloc (o := O0) b3_1)
 have b3_2a := fun O0 => (cell_alloc (o := O0) b3_2)
 have r0_0a := fun O0 => (cell_alloc (o := O0) r0_0)
 have r0_f0a := fun O0 => (r0.up ((Up.refl W1).alloc O0)).free 0
 have r0_1a := fun O0 => (cell_alloc (o := O0) r0_1)
 have r0_f1a := fun O0 => (r0.up ((Up.refl W1).alloc O0)).free 1
 have r0_2a := fun O0 => (cell_alloc (o := O0) r0_2)
 have r0_f2a := fun O0 => (r0.up ((Up.refl W1).alloc O0)).free 2
 go_wp2_with fail
 clear b1_0a b1_1a b1_2a b2_0a b2_1a b2_2a b3_0a b3_1a b3_2a r0_0a r0_f0a r0_1a r0_f1a r0_2a r0_f2a
 have x1 := Bx.new 34 W1 [.bool (Wd.ngb L.num), .slice Al nl cl, .slice Ald nld cld]
 have b1_lt_x1 := b1.lt
 have b2_lt_x1 := b2.lt
 have b3_lt_x1 := b3.lt
 have r0_lt_x1 := r0.lt
 have nu := ((Up.refl W1).alloc (.cells #[.bool (Wd.ngb L.num), .slice Al nl cl, .slice Ald nld cld] 34))
 replace FT := FT.up nu
 replace FN := FN.up nu
 replace FW := FW.up nu
 replace l := l.up nu
 replace ld := ld.up nu
 replace b1 := b1.up nu
 replace b2 := b2.up nu
 replace b3 := b3.up nu
 replace r0 := r0.up nu
 replace UP := UP.trans nu
 clear nu
 generalize (W1.alloc (.cells #[.bool (Wd.ngb L.num), .slice Al nl cl, .slice Ald nld cld] 34)) = W2 at *
 clear b1_0 b1_1 b1_2 b2_0 b2_1 b2_2 b3_0 b3_1 b3_2 r0_0 r0_1 r0_2
 obtain ⟨b1_0, b1_1, b1_2⟩ := b1.c3
 obtain ⟨b2_0, b2_1, b2_2⟩ := b2.c3
 obtain ⟨b3_0, b3_1, b3_2⟩ := b3.c3
 obtain ⟨r0_0, r0_1, r0_2⟩ := r0.c3
 replace r0_f0 := r0.free 0
 replace r0_f1 := r0.free 1
 replace r0_f2 := r0.free 2
 obtain ⟨x1_0, x1_1, x1_2⟩ := x1.c3
 ((with_reducible refine (frac_cmp FW ((qw_of2 l ld).fr LS) (by omega) (by omega)).mono ?_))
 rintro e W3 ⟨rfl, u3⟩
 replace FT := FT.up u3
 replace FN := FN.up u3
 replace FW := FW.up u3
 replace l := l.up u3
 replace ld := ld.up u3
 replace b1 := b1.up u3
 replace b2 := b2.up u3
 replace b3 := b3.up u3
 replace r0 := r0.up u3
 replace x1 := x1.up u3
 replace UP := UP.trans u3
 clear b1_0 b1_1 b1_2 b2_0 b2_1 b2_2 b3_0 b3_1 b3_2 r0_0 r0_1 r0_2 x1_0 x1_1 x1_2
 obtain ⟨b1_0, b1_1, b1_2⟩ := b1.c3
 obtain ⟨b2_0, b2_1, b2_2⟩ := b2.c3
 obtain ⟨b3_0, b3_1, b3_2⟩ := b3.c3
 obtain ⟨r0_0, r0_1, r0_2⟩ := r0.c3
 replace r0_f0 := r0.free 0
 replace r0_f1 := r0.free 1
 replace r0_f2 := r0.free 2
 obtain ⟨x1_0, x1_1, x1_2⟩ := x1.c3
 clear u3
 rw [HZ.out]
 by_cases hlt : L < want
 · have k2 : z > 0 := HN.out.2 hlt
   have HC2 : Hid (Pc.cut t en want = L) := Lib.hid (by rw [HC.out, if_pos hlt])
   clear hlt
   go_wp2_with fail
   exact end_q rfl rfl rfl (by rw [HC2.out]; exact qw_of2 l ld) r0 trivial trivial trivial UP (by omega)
 · have k2 : ¬ (z > 0) := fun hh => hlt (HN.out.1 hh)
   have HC2 : Hid (Pc.cut t en want = want) := Lib.hid (by rw [HC.out, if_neg hlt])
   clear hlt
   go_wp2_with fail
   ((with_reducible refine (frac_norm FW (by omega)).mono ?_))
   rintro e W4 ⟨V4, rfl, n, u4⟩
   replace FT := FT.up u4
   replace FN := FN.up u4
   replace FW := FW.up u4
   replace l := l.up u4
   replace ld := ld.up u4
   replace b1 := b1.up u4
   replace b2 := b2.up u4
   replace b3 := b3.up u4
   replace r0 := r0.up u4
   replace x1 := x1.up u4
   replace UP := UP.trans u4
   clear b1_0 b1_1 b1_2 b2_0 b2_1 b2_2 b3_0 b3_1 b3_2 r0_0 r0_1 r0_2 x1_0 x1_1 x1_2
   obtain ⟨b1_0, b1_1, b1_2⟩ := b1.c3
   obtain ⟨b2_0, b2_1, b2_2⟩ := b2.c3
   obtain ⟨b3_0, b3_1, b3_2⟩ := b3.c3
   obtain ⟨r0_0, r0_1, r0_2⟩ := r0.c3
   replace r0_f0 := r0.free 0
   replace r0_f1 := r0.free 1
   replace r0_f2 := r0.free 2
   obtain ⟨x1_0, x1_1, x1_2⟩ := x1.c3
   clear u4
   obtain ⟨Xn, Yn, rfl, n, nd⟩ := n
   obtain ⟨An, nn, cn, rfl⟩ := n.shape
   obtain ⟨And, nnd, cnd, rfl⟩ := nd.shape
   go_wp2_with fail
   exact end_q rfl rfl rfl (by rw [HC2.out]; exact qw_of2 n nd) r0 trivial trivial trivial UP (by omega)
/-- A small quotient. -/
theorem pace_over {n d : Int} (hn : -9223372036854775808 ≤ n ∧ n ≤ 9223372036854775807) (hd : -9223372036854775808 ≤ d ∧ d ≤ 9223372036854775807) (w : World) : Calls Tryz.prog 99 #[.int .i64 n, .int .i64 d] w (RetQ ((n : Rat) / (d : Rat)) w) := by
 obtain ⟨q, HQ⟩ : ∃ q, Hid ((n : Rat) / (d : Rat) = q) := ⟨_, Lib.hid rfl⟩
 rw [HQ.out]
 have UP : Up w (w.alloc (.cells #[.bool false, .slice none 0 0, .slice none 0 0] 34)) := (Up.refl w).alloc _
 have r0 := Bx.new 34 w [.bool false, .slice none 0 0, .slice none 0 0]
 go_enter Tryz.func99, Tryz.ntmps99
 go_wp2_with fail
 generalize (w.alloc (.cells #[.bool false, .slice none 0 0, .slice none 0 0] 34)) = W at *
 obtain ⟨r0_0, r0_1, r0_2⟩ := r0.c3
 have r0_f0 := r0.free 0
 have r0_f1 := r0.free 1
 have r0_f2 := r0.free 2
 go_wp2_with fail
 ((with_reducible refine (frac_ratio hn hd _).mono ?_))
 rintro e W1 ⟨V1, rfl, a, u1⟩
 replace r0 := r0.up u1
 replace UP := UP.trans u1
 clear r0_0 r0_1 r0_2
 obtain ⟨r0_0, r0_1, r0_2⟩ := r0.c3
 replace r0_f0 := r0.free 0
 replace r0_f1 := r0.free 1
 replace r0_f2 := r0.free 2
 clear u1
 rw [HQ.out] at a
 obtain ⟨Xa, Ya, rfl, a, ad⟩ := a
 obtain ⟨Aa, na, ca, rfl⟩ := a.shape
 obtain ⟨Aad, nad, cad, rfl⟩ := ad.shape
 have r0_0a := fun O0 => (cell_alloc (o := O0) r0_0)
 have r0_f0a := fun O0 => (r0.up ((Up.refl W1).alloc O0)).free 0
 have r0_1a := fun O0 => (cell_alloc (o := O0) r0_1)
 have r0_f1a := fun O0 => (r0.up ((Up.refl W1).alloc O0)).free 1
 have r0_2a := fun O0 => (cell_alloc (o := O0) r0_2)
 have r0_f2a := fun O0 => (r0.up ((Up.refl W1).alloc O0)).free 2
 go_wp2_with fail
 clear r0_0a r0_f0a r0_1a r0_f1a r0_2a r0_f2a
 have x1 := Bx.new 34 W1 [.bool (Wd.ngb q.num), .slice Aa na ca, .slice Aad nad cad]
 have r0_lt_x1 := r0.lt
 have nu := ((Up.refl W1).alloc (.cells #[.bool (Wd.ngb q.num), .slice Aa na ca, .slice Aad nad cad] 34))
 replace a := a.up nu
 replace ad := ad.up nu
 replace r0 := r0.up nu
 replace UP := UP.trans nu
 clear nu
 generalize (W1.alloc (.cells #[.bool (Wd.ngb q.num), .slice Aa na ca, .slice Aad nad cad] 34)) = W2 at *
 clear r0_0 r0_1 r0_2
 obtain ⟨r0_0, r0_1, r0_2⟩ := r0.c3
 replace r0_f0 := r0.free 0
 replace r0_f1 := r0.free 1
 replace r0_f2 := r0.free 2
 obtain ⟨x1_0, x1_1, x1_2⟩ := x1.c3
 exact end_q rfl rfl rfl (qw_of2 a ad) r0 trivial trivial trivial UP (by omega)
end Go.Proofs.YtmmcffceeahemaaGreat
