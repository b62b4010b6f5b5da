/-
  The walk of PaceRules.
-/
import Derived.Test.YtmmcffceeahemaaGreatRefPace4
import Derived.Test.YtmmcffceeahemaaGreatPace8
import Derived.Test.YtmmcffceeahemaaGreatPaceLoad
set_option linter.unusedVariables false
set_option linter.unusedSimpArgs false
namespace Go.Proofs.YtmmcffceeahemaaGreat
open Go.RowKit

set_option maxRecDepth 100000 in
/-- The load of a whole block, guarded. -/
theorem wl_load_box_g {w : World} {ops : Array Oper} {rest : List Oper} {o : Oper} {a : Act} {Q : Exit → Act → World → Prop} {T S : TypeId} {g n : Nat} {cs : List Value} (x : Operand) (ho : o.op = Op.load T x) (hw : Region.wanted o (yielded ops a.tmps) = true) (hx : a.eval x = .pointer (some ⟨g, 0, none⟩))
 (hT : ∀ w : World, (isAgg T).run Tryz.prog w = .ok true w) (hS : ∀ w : World, (sizeOf T).run Tryz.prog w = .ok n w) (hb : Bx S w g cs) (hn : cs.length = n)
 (h : wpList Tryz.prog ops Q rest (a.put o.dst (.agg cs.toArray)) w) : wpList Tryz.prog ops Q (o :: rest) a w := by
 have hl := run_load_agg hT hS hb hn
 refine wpList_step fun K hK => ?_
 rw [if_pos hw]
 unfold Oper.wp execOp
 simp only [ho, hx, asAddr, Instr.loadAt, Instr.sureAddr, Oper.upon, Sem.run_bind, Sem.run_pure, Result.andThen_ok, hl]
 exact hK _ _ h
theorem agg_r36r (w : World) : (isAgg 26).run Tryz.prog w = .ok true w := by kernel_rfl
theorem size_r36r (w : World) : (sizeOf 26).run Tryz.prog w = .ok 17 w := by kernel_rfl
set_option maxRecDepth 100000 in
set_option maxHeartbeats 12800000 in
theorem paceRules_walk {s1 s2 s3 s4 s5 : Bool} {A1 A2 A3 A4 A5 D1 D2 D3 D4 D5 : Option Addr} {l1 l2 l3 l4 l5 m1 m2 m3 m4 m5 : List Nat} {c1 c2 c3 c4 c5 e1 e2 e3 e4 e5 : Nat} {fi mo : Int} {w : World} (hl1 : Ws w (.slice A1 l1.length c1) l1) (hm1 : Ws w (.slice D1 m1.length e1) m1) (hl2 : Ws w (.slice A2 l2.length c2) l2) (hm2 : Ws w (.slice D2 m2.length e2) m2) (hl3 : Ws w (.slice A3 l3.length c3) l3) (hm3 : Ws w (.slice D3 m3.length e3) m3) (hl4 : Ws w (.slice A4 l4.length c4) l4) (hm4 : Ws w (.slice D4 m4.length e4) m4) (hl5 : Ws w (.slice A5 l5.length c5) l5) (hm5 : Ws w (.slice D5 m5.length e5) m5) (hfi : -9223372036854775808 ≤ fi ∧ fi ≤ 9223372036854775807) (hmo : -9223372036854775808 ≤ mo ∧ mo ≤ 9223372036854775807) :
 Calls Tryz.prog 3 #[.agg #[.bool s1, .slice A1 l1.length c1, .slice D1 m1.length e1, .bool s2, .slice A2 l2.length c2, .slice D2 m2.length e2, .bool s3, .slice A3 l3.length c3, .slice D3 m3.length e3, .bool s4, .slice A4 l4.length c4, .slice D4 m4.length e4, .bool s5, .slice A5 l5.length c5, .slice D5 m5.length e5, .int .i64 fi, .int .i64 mo]] w fun e w' => e = .returned (.bool true) ∧ Up w w' := by
 obtain ⟨U1, e1⟩ : ∃ q, q = Pc.u1 := ⟨_, rfl⟩
 obtain ⟨U2, e2⟩ : ∃ q, q = Pc.u2 := ⟨_, rfl⟩
 obtain ⟨U3, e3⟩ : ∃ q, q = Pc.u3 := ⟨_, rfl⟩
 obtain ⟨U4, e4⟩ : ∃ q, q = Pc.u4 := ⟨_, rfl⟩
 obtain ⟨U5, e5⟩ : ∃ q, q = Pc.u5 := ⟨_, rfl⟩
 have H1 : Hid (((1 : Int) : Rat) / ((1000 : Int) : Rat) = U1) := Lib.hid (by rw [e1]; rfl)
 have N1 : Wd.Lq U1 1 := by rw [e1]; exact Pc.lq_one Pc.us_num.1
 have H2 : Hid (((9 : Int) : Rat) / ((10 : Int) : Rat) = U2) := Lib.hid (by rw [e2]; rfl)
 have N2 : Wd.Lq U2 1 := by rw [e2]; exact Pc.lq_one Pc.us_num.2.1
 have H3 : Hid (((1 : Int) : Rat) / ((5 : Int) : Rat) = U3) := Lib.hid (by rw [e3]; rfl)
 have N3 : Wd.Lq U3 1 := by rw [e3]; exact Pc.lq_one Pc.us_num.2.2.1
 have H4 : Hid (((5 : Int) : Rat) = U4) := Lib.hid (by rw [e4]; rfl)
 have N4 : Wd.Lq U4 1 := by rw [e4]; exact Pc.lq_one Pc.us_num.2.2.2.1
 have H5 : Hid (((1 : Int) : Rat) / ((1000000 : Int) : Rat) = U5) := Lib.hid (by rw [e5]; rfl)
 have N5 : Wd.Lq U5 1 := by rw [e5]; exact Pc.lq_one Pc.us_num.2.2.2.2
 clear e1 e2 e3 e4 e5
 obtain ⟨z, HZ⟩ : ∃ z, Hid (Pc.wrong (List.all [(s1, l1, m1), (s2, l2, m2), (s3, l3, m3), (s4, l4, m4), (s5, l5, m5)] good) (mkRat (Wd.iv s1 (Wd.val l1)) (Wd.val m1)) (mkRat (Wd.iv s2 (Wd.val l2)) (Wd.val m2)) (mkRat (Wd.iv s3 (Wd.val l3)) (Wd.val m3)) (mkRat (Wd.iv s4 (Wd.val l4)) (Wd.val m4)) (mkRat (Wd.iv s5 (Wd.val l5)) (Wd.val m5)) fi mo = z) := ⟨_, Lib.hid rfl⟩
 have UP : Up w (w.alloc (.cells #[.bool s1, .slice A1 l1.length c1, .slice D1 m1.length e1, .bool s2, .slice A2 l2.length c2, .slice D2 m2.length e2, .bool s3, .slice A3 l3.length c3, .slice D3 m3.length e3, .bool s4, .slice A4 l4.length c4, .slice D4 m4.length e4, .bool s5, .slice A5 l5.length c5, .slice D5 m5.length e5, .int .i64 fi, .int .i64 mo] 26)) := (Up.refl w).alloc _
 have b0 := Bx.new 26 w [.bool s1, .slice A1 l1.length c1, .slice D1 m1.length e1, .bool s2, .slice A2 l2.length c2, .slice D2 m2.length e2, .bool s3, .slice A3 l3.length c3, .slice D3 m3.length e3, .bool s4, .slice A4 l4.length c4, .slice D4 m4.length e4, .bool s5, .slice A5 l5.length c5, .slice D5 m5.length e5, .int .i64 fi, .int .i64 mo]
 go_enter Tryz.func3, Tryz.ntmps3
 go_upto_region 1 with fail
 generalize (w.alloc (.cells #[.bool s1, .slice A1 l1.length c1, .slice D1 m1.length e1, .bool s2, .slice A2 l2.length c2, .slice D2 m2.length e2, .bool s3, .slice A3 l3.length c3, .slice D3 m3.length e3, .bool s4, .slice A4 l4.length c4, .slice D4 m4.length e4, .bool s5, .slice A5 l5.length c5, .slice D5 m5.length e5, .int .i64 fi, .int .i64 mo] 26)) = W at *
 replace hl1 := hl1.up UP
 replace hm1 := hm1.up UP
 replace hl2 := hl2.up UP
 replace hm2 := hm2.up UP
 replace hl3 := hl3.up UP
 replace hm3 := hm3.up UP
 replace hl4 := hl4.up UP
 replace hm4 := hm4.up UP
 replace hl5 := hl5.up UP
 replace hm5 := hm5.up UP
 go_wp2_with (with_reducible show wpList _ _ _ _ _ _; refine wl_load_box (o := ⟨_, Op.load 26 _, _, _, _, _⟩) rfl _ rfl rfl agg_r36r size_r36r b0 rfl ?_)
 ((with_reducible refine (ref_long36 8 (K := 8) rfl (by omega)).mono ?_))
 rintro e W1 ⟨t1, rfl, ht1, u1⟩
 replace hl1 := hl1.up u1
 replace hm1 := hm1.up u1
 replace hl2 := hl2.up u1
 replace hm2 := hm2.up u1
 replace hl3 := hl3.up u1
 replace hm3 := hm3.up u1
 replace hl4 := hl4.up u1
 replace hm4 := hm4.up u1
 replace hl5 := hl5.up u1
 replace hm5 := hm5.up u1
 replace b0 := b0.up u1
 replace UP := UP.trans u1
 clear u1
 cases t1
 rotate_left
 · skip
   go_wp2_with (with_reducible show wpList _ _ _ _ _ _; refine wl_load_box (o := ⟨_, Op.load 26 _, _, _, _, _⟩) rfl _ rfl rfl agg_r36r size_r36r b0 rfl ?_)
   ((with_reducible refine (works36 _).mono ?_))
   rintro e W2 ⟨rfl, u2⟩
   replace hl1 := hl1.up u2
   replace hm1 := hm1.up u2
   replace hl2 := hl2.up u2
   replace hm2 := hm2.up u2
   replace hl3 := hl3.up u2
   replace hm3 := hm3.up u2
   replace hl4 := hl4.up u2
   replace hm4 := hm4.up u2
   replace hl5 := hl5.up u2
   replace hm5 := hm5.up u2
   replace b0 := b0.up u2
   replace UP := UP.trans u2
   clear u2
   go_wp2
   go_ret
   exact ⟨rfl, UP⟩
 have hf := Lib.hid (ht1.out rfl)
 clear ht1
 have hf1 : l1.length ≤ 1000 ∧ m1.length ≤ 1000 := by obtain ⟨g1, g2, g3, g4, g5⟩ := hf.out; omega
 have hf2 : l2.length ≤ 1000 ∧ m2.length ≤ 1000 := by obtain ⟨g1, g2, g3, g4, g5⟩ := hf.out; omega
 have hf3 : l3.length ≤ 1000 ∧ m3.length ≤ 1000 := by obtain ⟨g1, g2, g3, g4, g5⟩ := hf.out; omega
 have hf4 : l4.length ≤ 1000 ∧ m4.length ≤ 1000 := by obtain ⟨g1, g2, g3, g4, g5⟩ := hf.out; omega
 have hf5 : l5.length ≤ 1000 ∧ m5.length ≤ 1000 := by obtain ⟨g1, g2, g3, g4, g5⟩ := hf.out; omega
 clear hf
 go_wp2_with (with_reducible show wpList _ _ _ _ _ _; refine wl_load_box (o := ⟨_, Op.load 26 _, _, _, _, _⟩) rfl _ rfl rfl agg_r36r size_r36r b0 rfl ?_)
 ((with_reducible refine (ref_wrong36 hl1 hm1 hl2 hm2 hl3 hm3 hl4 hm4 hl5 hm5 hf1 hf2 hf3 hf4 hf5 hfi hmo).mono ?_))
 rintro e W2 ⟨rfl, u2⟩
 replace hl1 := hl1.up u2
 replace hm1 := hm1.up u2
 replace hl2 := hl2.up u2
 replace hm2 := hm2.up u2
 replace hl3 := hl3.up u2
 replace hm3 := hm3.up u2
 replace hl4 := hl4.up u2
 replace hm4 := hm4.up u2
 replace hl5 := hl5.up u2
 replace hm5 := hm5.up u2
 replace b0 := b0.up u2
 replace UP := UP.trans u2
 clear u2
 rw [HZ.out]
 go_wp2_with (with_reducible show wpList _ _ _ _ _ _; refine wl_load_box (o := ⟨_, Op.load 26 _, _, _, _, _⟩) rfl _ rfl rfl agg_r36r size_r36r b0 rfl ?_)
 ((with_reducible refine (law_to36).mono ?_))
 rintro e W3 ⟨rfl, u3⟩
 replace hl1 := hl1.up u3
 replace hm1 := hm1.up u3
 replace hl2 := hl2.up u3
 replace hm2 := hm2.up u3
 replace hl3 := hl3.up u3
 replace hm3 := hm3.up u3
 replace hl4 := hl4.up u3
 replace hm4 := hm4.up u3
 replace hl5 := hl5.up u3
 replace hm5 := hm5.up u3
 replace b0 := b0.up u3
 replace UP := UP.trans u3
 clear u3
 go_wp2_with (with_reducible show wpList _ _ _ _ _ _; refine wl_load_box (o := ⟨_, Op.load 26 _, _, _, _, _⟩) rfl _ rfl rfl agg_r36r size_r36r b0 rfl ?_)
 ((with_reducible refine (pace_wrong hl1 hm1 hl2 hm2 hl3 hm3 hl4 hm4 hl5 hm5 hf1 hf2 hf3 hf4 hf5 hfi hmo).mono ?_))
 rintro e W4 ⟨rfl, u4⟩
 replace hl1 := hl1.up u4
 replace hm1 := hm1.up u4
 replace hl2 := hl2.up u4
 replace hm2 := hm2.up u4
 replace hl3 := hl3.up u4
 replace hm3 := hm3.up u4
 replace hl4 := hl4.up u4
 replace hm4 := hm4.up u4
 replace hl5 := hl5.up u4
 replace hm5 := hm5.up u4
 replace b0 := b0.up u4
 replace UP := UP.trans u4
 clear u4
 rw [HZ.out]
 have kzz : (z == z) = true := beq_self_eq_true z
 go_wp2_with (with_reducible show wpList _ _ _ _ _ _; refine wl_load_box_g (o := ⟨_, Op.load 26 _, _, _, _, _⟩) _ rfl (by kernel_rfl) rfl agg_r36r size_r36r b0 rfl ?_)
 ((with_reducible refine (law_to36).mono ?_))
 rintro e W5 ⟨rfl, u5⟩
 replace hl1 := hl1.up u5
 replace hm1 := hm1.up u5
 replace hl2 := hl2.up u5
 replace hm2 := hm2.up u5
 replace hl3 := hl3.up u5
 replace hm3 := hm3.up u5
 replace hl4 := hl4.up u5
 replace hm4 := hm4.up u5
 replace hl5 := hl5.up u5
 replace hm5 := hm5.up u5
 replace b0 := b0.up u5
 replace UP := UP.trans u5
 clear u5
 go_wp2_with (with_reducible show wpList _ _ _ _ _ _; refine wl_load_box_g (o := ⟨_, Op.load 26 _, _, _, _, _⟩) _ rfl (by kernel_rfl) rfl agg_r36r size_r36r b0 rfl ?_)
 ((with_reducible refine (pace_right hl1 hm1 hl2 hm2 hl3 hm3 hl4 hm4 hl5 hm5 hf1 hf2 hf3 hf4 hf5 hfi hmo).mono ?_))
 rintro e W6 ⟨rfl, u6⟩
 replace hl1 := hl1.up u6
 replace hm1 := hm1.up u6
 replace hl2 := hl2.up u6
 replace hm2 := hm2.up u6
 replace hl3 := hl3.up u6
 replace hm3 := hm3.up u6
 replace hl4 := hl4.up u6
 replace hm4 := hm4.up u6
 replace hl5 := hl5.up u6
 replace hm5 := hm5.up u6
 replace b0 := b0.up u6
 replace UP := UP.trans u6
 clear u6
 rw [HZ.out]
 clear HZ hf1 hf2 hf3 hf4 hf5
 clear hl1 hm1 hl2 hm2 hl3 hm3 hl4 hm4 hl5 hm5
 obtain ⟨tb, HTB⟩ : ∃ t, Hid ((z == 0) = t) := ⟨_, Lib.hid rfl⟩
 rw [HTB.out]
 have kz0 : (z == 0) = tb := HTB.out
 have ktt : (tb == tb) = true := beq_self_eq_true tb
 go_wp2_with (with_reducible show wpList _ _ _ _ _ _; refine wl_load_box_g (o := ⟨_, Op.load 26 _, _, _, _, _⟩) _ rfl (by kernel_rfl) rfl agg_r36r size_r36r b0 rfl ?_)
 ((with_reducible refine (pace_usual H1 H2 H3 H4 H5 _).mono ?_))
 rintro e W7 ⟨A1, A2, A3, A4, A5, D1, D2, D3, D4, D5, c1, c2, c3, c4, c5, e1, e2, e3, e4, e5, rfl, ⟨x1, xd1, x2, xd2, x3, xd3, x4, xd4, x5, xd5⟩, u7⟩
 replace b0 := b0.up u7
 replace UP := UP.trans u7
 clear u7
 go_wp2_with (with_reducible show wpList _ _ _ _ _ _; refine wl_load_box_g (o := ⟨_, Op.load 26 _, _, _, _, _⟩) _ rfl (by kernel_rfl) rfl agg_r36r size_r36r b0 rfl ?_)
 ((with_reducible refine (law_of36).mono ?_))
 rintro e W8 ⟨rfl, u8⟩
 replace x1 := x1.up u8
 replace xd1 := xd1.up u8
 replace x2 := x2.up u8
 replace xd2 := xd2.up u8
 replace x3 := x3.up u8
 replace xd3 := xd3.up u8
 replace x4 := x4.up u8
 replace xd4 := xd4.up u8
 replace x5 := x5.up u8
 replace xd5 := xd5.up u8
 replace b0 := b0.up u8
 replace UP := UP.trans u8
 clear u8
 go_wp2_with (with_reducible show wpList _ _ _ _ _ _; refine wl_load_box_g (o := ⟨_, Op.load 26 _, _, _, _, _⟩) _ rfl (by kernel_rfl) rfl agg_r36r size_r36r b0 rfl ?_)
 ((with_reducible refine (ref_usual36 H1 H2 H3 H4 H5 _).mono ?_))
 rintro e W9 ⟨A1, A2, A3, A4, A5, D1, D2, D3, D4, D5, c1, c2, c3, c4, c5, e1, e2, e3, e4, e5, rfl, ⟨y1, yd1, y2, yd2, y3, yd3, y4, yd4, y5, yd5⟩, u9⟩
 replace x1 := x1.up u9
 replace xd1 := xd1.up u9
 replace x2 := x2.up u9
 replace xd2 := xd2.up u9
 replace x3 := x3.up u9
 replace xd3 := xd3.up u9
 replace x4 := x4.up u9
 replace xd4 := xd4.up u9
 replace x5 := x5.up u9
 replace xd5 := xd5.up u9
 replace b0 := b0.up u9
 replace UP := UP.trans u9
 clear u9
 go_wp2_with (with_reducible show wpList _ _ _ _ _ _; refine wl_load_box_g (o := ⟨_, Op.load 26 _, _, _, _, _⟩) _ rfl (by kernel_rfl) rfl agg_r36r size_r36r b0 rfl ?_)
 ((with_reducible refine (law_same36 N1 N2 N3 N4 N5 x1 xd1 x2 xd2 x3 xd3 x4 xd4 x5 xd5 y1 yd1 y2 yd2 y3 yd3 y4 yd4 y5 yd5).mono ?_))
 rintro e W10 ⟨rfl, u10⟩
 replace x1 := x1.up u10
 replace xd1 := xd1.up u10
 replace x2 := x2.up u10
 replace xd2 := xd2.up u10
 replace x3 := x3.up u10
 replace xd3 := xd3.up u10
 replace x4 := x4.up u10
 replace xd4 := xd4.up u10
 replace x5 := x5.up u10
 replace xd5 := xd5.up u10
 replace y1 := y1.up u10
 replace yd1 := yd1.up u10
 replace y2 := y2.up u10
 replace yd2 := yd2.up u10
 replace y3 := y3.up u10
 replace yd3 := yd3.up u10
 replace y4 := y4.up u10
 replace yd4 := yd4.up u10
 replace y5 := y5.up u10
 replace yd5 := yd5.up u10
 replace b0 := b0.up u10
 replace UP := UP.trans u10
 clear u10
 go_wp2_with (with_reducible show wpList _ _ _ _ _ _; refine wl_load_box_g (o := ⟨_, Op.load 26 _, _, _, _, _⟩) _ rfl (by kernel_rfl) rfl agg_r36r size_r36r b0 rfl ?_)
 ((with_reducible refine (works36 _).mono ?_))
 rintro e W11 ⟨rfl, u11⟩
 replace x1 := x1.up u11
 replace xd1 := xd1.up u11
 replace x2 := x2.up u11
 replace xd2 := xd2.up u11
 replace x3 := x3.up u11
 replace xd3 := xd3.up u11
 replace x4 := x4.up u11
 replace xd4 := xd4.up u11
 replace x5 := x5.up u11
 replace xd5 := xd5.up u11
 replace y1 := y1.up u11
 replace yd1 := yd1.up u11
 replace y2 := y2.up u11
 replace yd2 := yd2.up u11
 replace y3 := y3.up u11
 replace yd3 := yd3.up u11
 replace y4 := y4.up u11
 replace yd4 := yd4.up u11
 replace y5 := y5.up u11
 replace yd5 := yd5.up u11
 replace b0 := b0.up u11
 replace UP := UP.trans u11
 clear u11
 go_wp2
 go_ret
 exact ⟨rfl, UP⟩
end Go.Proofs.YtmmcffceeahemaaGreat
