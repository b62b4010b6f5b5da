/-
  The walk of PaceSizes.
-/
import Derived.Test.YtmmcffceeahemaaGreatZsPace8
import Derived.Test.YtmmcffceeahemaaGreatZsPace9
import Derived.Test.YtmmcffceeahemaaGreatZsRefPace6
import Derived.Test.YtmmcffceeahemaaGreatZsPaceLoad
import Derived.Test.YtmmcffceeahemaaGreatZsFracLaw
set_option linter.unusedVariables false
set_option linter.unusedSimpArgs false
namespace Go.Proofs.YtmmcffceeahemaaGreat
open Go.RowKit
theorem lq_cut4 {t en wa : Rat} (h1 : Wd.Lq t 4) (h2 : Wd.Lq en 4) (h3 : Wd.Lq wa 4) : Wd.Lq (Pc.cut t en wa) 9 := by
 unfold Pc.cut
 split
 · exact (h2.sub h1).mono (by omega)
 · exact h3.mono (by omega)
theorem agg_r36z (w : World) : (isAgg 26).run Tryz.prog w = .ok true w := by kernel_rfl
theorem size_r36z (w : World) : (sizeOf 26).run Tryz.prog w = .ok 17 w := by kernel_rfl
set_option maxRecDepth 100000 in
set_option maxHeartbeats 12800000 in
theorem paceSizes_walk {s1 s2 s3 s4 s5 : Bool} {A1 A2 A3 A4 A5 D1 D2 D3 D4 D5 : Option Addr} {l1 l2 l3 l4 l5 m1 m2 m3 m4 m5 : List Nat} {c1 c2 c3 c4 c5 e1 e2 e3 e4 e5 : Nat} {fi mo : Int} {as1 : Bool} {aA1 aD1 : Option Addr} {al1 am1 : List Nat} {ac1 ae1 : Nat} {bs1 bs2 bs3 : Bool} {bA1 bD1 bA2 bD2 bA3 bD3 : Option Addr} {bl1 bm1 bl2 bm2 bl3 bm3 : List Nat} {bc1 be1 bc2 be2 bc3 be3 : Nat} {w : World} (hl1 : Ws w (.slice A1 l1.length c1) l1) (hm1 : Ws w (.slice D1 m1.length e1) m1) (hl2 : Ws w (.slice A2 l2.length c2) l2) (hm2 : Ws w (.slice D2 m2.length e2) m2) (hl3 : Ws w (.slice A3 l3.length c3) l3) (hm3 : Ws w (.slice D3 m3.length e3) m3) (hl4 : Ws w (.slice A4 l4.length c4) l4) (hm4 : Ws w (.slice D4 m4.length e4) m4) (hl5 : Ws w (.slice A5 l5.length c5) l5) (hm5 : Ws w (.slice D5 m5.length e5) m5) (ahl1 : Ws w (.slice aA1 al1.length ac1) al1) (ahm1 : Ws w (.slice aD1 am1.length ae1) am1) (bhl1 : Ws w (.slice bA1 bl1.length bc1) bl1) (bhm1 : Ws w (.slice bD1 bm1.length be1) bm1) (bhl2 : Ws w (.slice bA2 bl2.length bc2) bl2) (bhm2 : Ws w (.slice bD2 bm2.length be2) bm2) (bhl3 : Ws w (.slice bA3 bl3.length bc3) bl3) (bhm3 : Ws w (.slice bD3 bm3.length be3) bm3) (hfi : -9223372036854775808 ≤ fi ∧ fi ≤ 9223372036854775807) (hmo : -9223372036854775808 ≤ mo ∧ mo ≤ 9223372036854775807) :
 Calls Tryz.prog 6 #[.agg #[.bool s1, .slice A1 l1.length c1, .slice D1 m1.length e1, .bool s2, .slice A2 l2.length c2, .slice D2 m2.length e2, .bool s3, .slice A3 l3.length c3, .slice D3 m3.length e3, .bool s4, .slice A4 l4.length c4, .slice D4 m4.length e4, .bool s5, .slice A5 l5.length c5, .slice D5 m5.length e5, .int .i64 fi, .int .i64 mo], .agg #[.bool as1, .slice aA1 al1.length ac1, .slice aD1 am1.length ae1], .agg #[.bool bs1, .slice bA1 bl1.length bc1, .slice bD1 bm1.length be1, .bool bs2, .slice bA2 bl2.length bc2, .slice bD2 bm2.length be2, .bool bs3, .slice bA3 bl3.length bc3, .slice bD3 bm3.length be3]] w fun e w' => e = .returned (.bool true) ∧ Up w w' := by
 have UP : Up w (((w.alloc (.cells #[.bool s1, .slice A1 l1.length c1, .slice D1 m1.length e1, .bool s2, .slice A2 l2.length c2, .slice D2 m2.length e2, .bool s3, .slice A3 l3.length c3, .slice D3 m3.length e3, .bool s4, .slice A4 l4.length c4, .slice D4 m4.length e4, .bool s5, .slice A5 l5.length c5, .slice D5 m5.length e5, .int .i64 fi, .int .i64 mo] 26)).alloc (.cells #[.bool as1, .slice aA1 al1.length ac1, .slice aD1 am1.length ae1] 24)).alloc (.cells #[.bool bs1, .slice bA1 bl1.length bc1, .slice bD1 bm1.length be1, .bool bs2, .slice bA2 bl2.length bc2, .slice bD2 bm2.length be2, .bool bs3, .slice bA3 bl3.length bc3, .slice bD3 bm3.length be3] 69)) := (((Up.refl w).alloc _).alloc _).alloc _
 obtain ⟨b0, b1, b2⟩ := bx_three 26 24 69 w [.bool s1, .slice A1 l1.length c1, .slice D1 m1.length e1, .bool s2, .slice A2 l2.length c2, .slice D2 m2.length e2, .bool s3, .slice A3 l3.length c3, .slice D3 m3.length e3, .bool s4, .slice A4 l4.length c4, .slice D4 m4.length e4, .bool s5, .slice A5 l5.length c5, .slice D5 m5.length e5, .int .i64 fi, .int .i64 mo] [.bool as1, .slice aA1 al1.length ac1, .slice aD1 am1.length ae1] [.bool bs1, .slice bA1 bl1.length bc1, .slice bD1 bm1.length be1, .bool bs2, .slice bA2 bl2.length bc2, .slice bD2 bm2.length be2, .bool bs3, .slice bA3 bl3.length bc3, .slice bD3 bm3.length be3]
 go_enter Tryz.func6, Tryz.ntmps6
 go_upto_region 1 with fail
 generalize (((w.alloc (.cells #[.bool s1, .slice A1 l1.length c1, .slice D1 m1.length e1, .bool s2, .slice A2 l2.length c2, .slice D2 m2.length e2, .bool s3, .slice A3 l3.length c3, .slice D3 m3.length e3, .bool s4, .slice A4 l4.length c4, .slice D4 m4.length e4, .bool s5, .slice A5 l5.length c5, .slice D5 m5.length e5, .int .i64 fi, .int .i64 mo] 26)).alloc (.cells #[.bool as1, .slice aA1 al1.length ac1, .slice aD1 am1.length ae1] 24)).alloc (.cells #[.bool bs1, .slice bA1 bl1.length bc1, .slice bD1 bm1.length be1, .bool bs2, .slice bA2 bl2.length bc2, .slice bD2 bm2.length be2, .bool bs3, .slice bA3 bl3.length bc3, .slice bD3 bm3.length be3] 69)) = W at *
 replace hl1 := hl1.up UP
 replace hm1 := hm1.up UP
 replace hl2 := hl2.up UP
 replace hm2 := hm2.up UP
 replace hl3 := hl3.up UP
 replace hm3 := hm3.up UP
 replace hl4 := hl4.up UP
 replace hm4 := hm4.up UP
 replace hl5 := hl5.up UP
 replace hm5 := hm5.up UP
 replace ahl1 := ahl1.up UP
 replace ahm1 := ahm1.up UP
 replace bhl1 := bhl1.up UP
 replace bhm1 := bhm1.up UP
 replace bhl2 := bhl2.up UP
 replace bhm2 := bhm2.up UP
 replace bhl3 := bhl3.up UP
 replace bhm3 := bhm3.up UP
 go_wp2_with (with_reducible show wpList _ _ _ _ _ _; refine wl_load_box (o := ⟨_, Op.load 26 _, _, _, _, _⟩) rfl _ rfl rfl agg_r36z size_r36z b0 rfl ?_)
 ((with_reducible refine (ref_long36 4 (K := 4) rfl (by omega)).mono ?_))
 rintro e W1 ⟨t1, rfl, ht1, u1⟩
 replace hl1 := hl1.up u1
 replace hm1 := hm1.up u1
 replace hl2 := hl2.up u1
 replace hm2 := hm2.up u1
 replace hl3 := hl3.up u1
 replace hm3 := hm3.up u1
 replace hl4 := hl4.up u1
 replace hm4 := hm4.up u1
 replace hl5 := hl5.up u1
 replace hm5 := hm5.up u1
 replace ahl1 := ahl1.up u1
 replace ahm1 := ahm1.up u1
 replace bhl1 := bhl1.up u1
 replace bhm1 := bhm1.up u1
 replace bhl2 := bhl2.up u1
 replace bhm2 := bhm2.up u1
 replace bhl3 := bhl3.up u1
 replace bhm3 := bhm3.up u1
 replace b0 := b0.up u1
 replace b1 := b1.up u1
 replace b2 := b2.up u1
 replace UP := UP.trans u1
 clear u1
 cases t1
 rotate_left
 · skip
   go_wp2_with (with_reducible show wpList _ _ _ _ _ _; refine wl_load_box (o := ⟨_, Op.load 26 _, _, _, _, _⟩) rfl _ rfl rfl agg_r36z size_r36z b0 rfl ?_)
   refine (works36 _).mono ?_
   rintro e W99 ⟨rfl, u99⟩
   go_wp2
   go_ret
   exact ⟨rfl, UP.trans u99⟩
 have hf := Lib.hid (ht1.out rfl)
 clear ht1
 have b1_0 := b1.cell (i := 0) rfl
 have b1_1 := b1.cell (i := 1) rfl
 have b1_2 := b1.cell (i := 2) rfl
 go_wp2_with (with_reducible show wpList _ _ _ _ _ _; refine wl_load_box (o := ⟨_, Op.load 26 _, _, _, _, _⟩) rfl _ rfl rfl agg_r36z size_r36z b0 rfl ?_)
 ((with_reducible refine (ref_long9g (l := al1) (m := am1) 4 (K := 4) rfl (by omega)).mono ?_))
 rintro e W2 ⟨t2, rfl, ht2, u2⟩
 replace hl1 := hl1.up u2
 replace hm1 := hm1.up u2
 replace hl2 := hl2.up u2
 replace hm2 := hm2.up u2
 replace hl3 := hl3.up u2
 replace hm3 := hm3.up u2
 replace hl4 := hl4.up u2
 replace hm4 := hm4.up u2
 replace hl5 := hl5.up u2
 replace hm5 := hm5.up u2
 replace ahl1 := ahl1.up u2
 replace ahm1 := ahm1.up u2
 replace bhl1 := bhl1.up u2
 replace bhm1 := bhm1.up u2
 replace bhl2 := bhl2.up u2
 replace bhm2 := bhm2.up u2
 replace bhl3 := bhl3.up u2
 replace bhm3 := bhm3.up u2
 replace b0 := b0.up u2
 replace b1 := b1.up u2
 replace b2 := b2.up u2
 replace UP := UP.trans u2
 clear b1_0 b1_1 b1_2
 clear u2
 cases t2
 rotate_left
 · skip
   go_wp2_with (with_reducible show wpList _ _ _ _ _ _; refine wl_load_box (o := ⟨_, Op.load 26 _, _, _, _, _⟩) rfl _ rfl rfl agg_r36z size_r36z b0 rfl ?_)
   refine (works36 _).mono ?_
   rintro e W99 ⟨rfl, u99⟩
   go_wp2
   go_ret
   exact ⟨rfl, UP.trans u99⟩
 have ag1 := Lib.hid (ht2.out rfl)
 clear ht2
 have b2_0 := b2.cell (i := 0) rfl
 have b2_1 := b2.cell (i := 1) rfl
 have b2_2 := b2.cell (i := 2) rfl
 go_wp2_with (with_reducible show wpList _ _ _ _ _ _; refine wl_load_box (o := ⟨_, Op.load 26 _, _, _, _, _⟩) rfl _ rfl rfl agg_r36z size_r36z b0 rfl ?_)
 ((with_reducible refine (ref_long9g (l := bl1) (m := bm1) 4 (K := 4) rfl (by omega)).mono ?_))
 rintro e W3 ⟨t3, rfl, ht3, u3⟩
 replace hl1 := hl1.up u3
 replace hm1 := hm1.up u3
 replace hl2 := hl2.up u3
 replace hm2 := hm2.up u3
 replace hl3 := hl3.up u3
 replace hm3 := hm3.up u3
 replace hl4 := hl4.up u3
 replace hm4 := hm4.up u3
 replace hl5 := hl5.up u3
 replace hm5 := hm5.up u3
 replace ahl1 := ahl1.up u3
 replace ahm1 := ahm1.up u3
 replace bhl1 := bhl1.up u3
 replace bhm1 := bhm1.up u3
 replace bhl2 := bhl2.up u3
 replace bhm2 := bhm2.up u3
 replace bhl3 := bhl3.up u3
 replace bhm3 := bhm3.up u3
 replace b0 := b0.up u3
 replace b1 := b1.up u3
 replace b2 := b2.up u3
 replace UP := UP.trans u3
 clear b2_0 b2_1 b2_2
 clear u3
 cases t3
 rotate_left
 · skip
   go_wp2_with (with_reducible show wpList _ _ _ _ _ _; refine wl_load_box (o := ⟨_, Op.load 26 _, _, _, _, _⟩) rfl _ rfl rfl agg_r36z size_r36z b0 rfl ?_)
   refine (works36 _).mono ?_
   rintro e W99 ⟨rfl, u99⟩
   go_wp2
   go_ret
   exact ⟨rfl, UP.trans u99⟩
 have bg1 := Lib.hid (ht3.out rfl)
 clear ht3
 have b2_3 := b2.cell (i := 3) rfl
 have b2_4 := b2.cell (i := 4) rfl
 have b2_5 := b2.cell (i := 5) rfl
 go_wp2_with (with_reducible show wpList _ _ _ _ _ _; refine wl_load_box (o := ⟨_, Op.load 26 _, _, _, _, _⟩) rfl _ rfl rfl agg_r36z size_r36z b0 rfl ?_)
 ((with_reducible refine (ref_long9g (l := bl2) (m := bm2) 4 (K := 4) rfl (by omega)).mono ?_))
 rintro e W4 ⟨t4, rfl, ht4, u4⟩
 replace hl1 := hl1.up u4
 replace hm1 := hm1.up u4
 replace hl2 := hl2.up u4
 replace hm2 := hm2.up u4
 replace hl3 := hl3.up u4
 replace hm3 := hm3.up u4
 replace hl4 := hl4.up u4
 replace hm4 := hm4.up u4
 replace hl5 := hl5.up u4
 replace hm5 := hm5.up u4
 replace ahl1 := ahl1.up u4
 replace ahm1 := ahm1.up u4
 replace bhl1 := bhl1.up u4
 replace bhm1 := bhm1.up u4
 replace bhl2 := bhl2.up u4
 replace bhm2 := bhm2.up u4
 replace bhl3 := bhl3.up u4
 replace bhm3 := bhm3.up u4
 replace b0 := b0.up u4
 replace b1 := b1.up u4
 replace b2 := b2.up u4
 replace UP := UP.trans u4
 clear b2_3 b2_4 b2_5
 clear u4
 cases t4
 rotate_left
 · skip
   go_wp2_with (with_reducible show wpList _ _ _ _ _ _; refine wl_load_box (o := ⟨_, Op.load 26 _, _, _, _, _⟩) rfl _ rfl rfl agg_r36z size_r36z b0 rfl ?_)
   refine (works36 _).mono ?_
   rintro e W99 ⟨rfl, u99⟩
   go_wp2
   go_ret
   exact ⟨rfl, UP.trans u99⟩
 have bg2 := Lib.hid (ht4.out rfl)
 clear ht4
 have b2_6 := b2.cell (i := 6) rfl
 have b2_7 := b2.cell (i := 7) rfl
 have b2_8 := b2.cell (i := 8) rfl
 go_wp2_with (with_reducible show wpList _ _ _ _ _ _; refine wl_load_box (o := ⟨_, Op.load 26 _, _, _, _, _⟩) rfl _ rfl rfl agg_r36z size_r36z b0 rfl ?_)
 ((with_reducible refine (ref_long9g (l := bl3) (m := bm3) 4 (K := 4) rfl (by omega)).mono ?_))
 rintro e W5 ⟨t5, rfl, ht5, u5⟩
 replace hl1 := hl1.up u5
 replace hm1 := hm1.up u5
 replace hl2 := hl2.up u5
 replace hm2 := hm2.up u5
 replace hl3 := hl3.up u5
 replace hm3 := hm3.up u5
 replace hl4 := hl4.up u5
 replace hm4 := hm4.up u5
 replace hl5 := hl5.up u5
 replace hm5 := hm5.up u5
 replace ahl1 := ahl1.up u5
 replace ahm1 := ahm1.up u5
 replace bhl1 := bhl1.up u5
 replace bhm1 := bhm1.up u5
 replace bhl2 := bhl2.up u5
 replace bhm2 := bhm2.up u5
 replace bhl3 := bhl3.up u5
 replace bhm3 := bhm3.up u5
 replace b0 := b0.up u5
 replace b1 := b1.up u5
 replace b2 := b2.up u5
 replace UP := UP.trans u5
 clear b2_6 b2_7 b2_8
 clear u5
 cases t5
 rotate_left
 · skip
   go_wp2_with (with_reducible show wpList _ _ _ _ _ _; refine wl_load_box (o := ⟨_, Op.load 26 _, _, _, _, _⟩) rfl _ rfl rfl agg_r36z size_r36z b0 rfl ?_)
   refine (works36 _).mono ?_
   rintro e W99 ⟨rfl, u99⟩
   go_wp2
   go_ret
   exact ⟨rfl, UP.trans u99⟩
 have bg3 := Lib.hid (ht5.out rfl)
 clear ht5
 have aF1 : Fr W5 (.agg #[.bool as1, .slice aA1 al1.length ac1, .slice aD1 am1.length ae1]) (mkRat (Wd.iv as1 (Wd.val al1)) (Wd.val am1)) 4 := ⟨as1, _, _, al1, am1, rfl, ahl1, ahm1, rfl, ag1.out.1, ag1.out.2, by omega⟩
 have bF1 : Fr W5 (.agg #[.bool bs1, .slice bA1 bl1.length bc1, .slice bD1 bm1.length be1]) (mkRat (Wd.iv bs1 (Wd.val bl1)) (Wd.val bm1)) 4 := ⟨bs1, _, _, bl1, bm1, rfl, bhl1, bhm1, rfl, bg1.out.1, bg1.out.2, by omega⟩
 have bF2 : Fr W5 (.agg #[.bool bs2, .slice bA2 bl2.length bc2, .slice bD2 bm2.length be2]) (mkRat (Wd.iv bs2 (Wd.val bl2)) (Wd.val bm2)) 4 := ⟨bs2, _, _, bl2, bm2, rfl, bhl2, bhm2, rfl, bg2.out.1, bg2.out.2, by omega⟩
 have bF3 : Fr W5 (.agg #[.bool bs3, .slice bA3 bl3.length bc3, .slice bD3 bm3.length be3]) (mkRat (Wd.iv bs3 (Wd.val bl3)) (Wd.val bm3)) 4 := ⟨bs3, _, _, bl3, bm3, rfl, bhl3, bhm3, rfl, bg3.out.1, bg3.out.2, by omega⟩
 clear ahl1 ahm1 bhl1 bhm1 bhl2 bhm2 bhl3 bhm3
 clear ag1 bg1 bg2 bg3
 generalize (mkRat (Wd.iv as1 (Wd.val al1)) (Wd.val am1)) = y1 at *
 generalize (mkRat (Wd.iv bs1 (Wd.val bl1)) (Wd.val bm1)) = tt at *
 generalize (mkRat (Wd.iv bs2 (Wd.val bl2)) (Wd.val bm2)) = en at *
 generalize (mkRat (Wd.iv bs3 (Wd.val bl3)) (Wd.val bm3)) = wa at *
 have LTT := bF1.lq
 have LEN := bF2.lq
 have LWA := bF3.lq
 obtain ⟨A, HA⟩ : ∃ x, Hid (Wd.absQ y1 = x) := ⟨_, Lib.hid rfl⟩
 have LA : Wd.Lq A 4 := by rw [← HA.out]; exact Wd.Lq.absq aF1.lq
 have HA0 : Hid (0 ≤ A) := Lib.hid (by rw [← HA.out]; exact Pc.abs_nonneg _)
 obtain ⟨CU, HCU⟩ : ∃ x, Hid (Pc.cut tt en wa = x) := ⟨_, Lib.hid rfl⟩
 have LCU : Wd.Lq CU 9 := by rw [← HCU.out]; exact lq_cut4 LTT LEN LWA
 have hf1 : l1.length ≤ 1000 ∧ m1.length ≤ 1000 := by obtain ⟨g1, g2, g3, g4, g5⟩ := hf.out; omega
 have hf2 : l2.length ≤ 1000 ∧ m2.length ≤ 1000 := by obtain ⟨g1, g2, g3, g4, g5⟩ := hf.out; omega
 have hf3 : l3.length ≤ 1000 ∧ m3.length ≤ 1000 := by obtain ⟨g1, g2, g3, g4, g5⟩ := hf.out; omega
 have hf4 : l4.length ≤ 1000 ∧ m4.length ≤ 1000 := by obtain ⟨g1, g2, g3, g4, g5⟩ := hf.out; omega
 have hf5 : l5.length ≤ 1000 ∧ m5.length ≤ 1000 := by obtain ⟨g1, g2, g3, g4, g5⟩ := hf.out; omega
 clear hf
 go_wp2_with (with_reducible show wpList _ _ _ _ _ _; refine wl_load_box (o := ⟨_, Op.load 26 _, _, _, _, _⟩) rfl _ rfl rfl agg_r36z size_r36z b0 rfl ?_)
 ((with_reducible refine (law_to36).mono ?_))
 rintro e W6 ⟨rfl, u6⟩
 replace hl1 := hl1.up u6
 replace hm1 := hm1.up u6
 replace hl2 := hl2.up u6
 replace hm2 := hm2.up u6
 replace hl3 := hl3.up u6
 replace hm3 := hm3.up u6
 replace hl4 := hl4.up u6
 replace hm4 := hm4.up u6
 replace hl5 := hl5.up u6
 replace hm5 := hm5.up u6
 replace aF1 := aF1.up u6
 replace bF1 := bF1.up u6
 replace bF2 := bF2.up u6
 replace bF3 := bF3.up u6
 replace b0 := b0.up u6
 replace b1 := b1.up u6
 replace b2 := b2.up u6
 replace UP := UP.trans u6
 clear u6
 have b2_0 := b2.cell (i := 0) rfl
 have b2_1 := b2.cell (i := 1) rfl
 have b2_2 := b2.cell (i := 2) rfl
 have b2_0a := fun O0 => (cell_alloc (o := O0) b2_0)
 have b2_1a := fun O0 => (cell_alloc (o := O0) b2_1)
 have b2_2a := fun O0 => (cell_alloc (o := O0) b2_2)
 go_wp2_with (with_reducible show wpList _ _ _ _ _ _; refine wl_load_box (o := ⟨_, Op.load 26 _, _, _, _, _⟩) rfl _ rfl rfl agg_r36z size_r36z b0 rfl ?_)
 clear b2_0a b2_1a b2_2a
 have x7 := Bx.new 36 W6 [.bool s1, .slice A1 l1.length c1, .slice D1 m1.length e1, .bool s2, .slice A2 l2.length c2, .slice D2 m2.length e2, .bool s3, .slice A3 l3.length c3, .slice D3 m3.length e3, .bool s4, .slice A4 l4.length c4, .slice D4 m4.length e4, .bool s5, .slice A5 l5.length c5, .slice D5 m5.length e5, .int .i64 fi, .int .i64 mo]
 have b0_lt_x7 := b0.lt
 have b1_lt_x7 := b1.lt
 have b2_lt_x7 := b2.lt
 have nu := ((Up.refl W6).alloc (.cells #[.bool s1, .slice A1 l1.length c1, .slice D1 m1.length e1, .bool s2, .slice A2 l2.length c2, .slice D2 m2.length e2, .bool s3, .slice A3 l3.length c3, .slice D3 m3.length e3, .bool s4, .slice A4 l4.length c4, .slice D4 m4.length e4, .bool s5, .slice A5 l5.length c5, .slice D5 m5.length e5, .int .i64 fi, .int .i64 mo] 36))
 replace hl1 := hl1.up nu
 replace hm1 := hm1.up nu
 replace hl2 := hl2.up nu
 replace hm2 := hm2.up nu
 replace hl3 := hl3.up nu
 replace hm3 := hm3.up nu
 replace hl4 := hl4.up nu
 replace hm4 := hm4.up nu
 replace hl5 := hl5.up nu
 replace hm5 := hm5.up nu
 replace aF1 := aF1.up nu
 replace bF1 := bF1.up nu
 replace bF2 := bF2.up nu
 replace bF3 := bF3.up nu
 replace b0 := b0.up nu
 replace b1 := b1.up nu
 replace b2 := b2.up nu
 replace UP := UP.trans nu
 clear nu
 generalize (W6.alloc (.cells #[.bool s1, .slice A1 l1.length c1, .slice D1 m1.length e1, .bool s2, .slice A2 l2.length c2, .slice D2 m2.length e2, .bool s3, .slice A3 l3.length c3, .slice D3 m3.length e3, .bool s4, .slice A4 l4.length c4, .slice D4 m4.length e4, .bool s5, .slice A5 l5.length c5, .slice D5 m5.length e5, .int .i64 fi, .int .i64 mo] 36)) = W7 at *
 clear b2_0 b2_1 b2_2
 ((with_reducible refine (ref9_norm bF1 (by omega)).mono ?_))
 rintro e W8 ⟨V8, rfl, qt, u8⟩
 replace hl1 := hl1.up u8
 replace hm1 := hm1.up u8
 replace hl2 := hl2.up u8
 replace hm2 := hm2.up u8
 replace hl3 := hl3.up u8
 replace hm3 := hm3.up u8
 replace hl4 := hl4.up u8
 replace hm4 := hm4.up u8
 replace hl5 := hl5.up u8
 replace hm5 := hm5.up u8
 replace aF1 := aF1.up u8
 replace bF1 := bF1.up u8
 replace bF2 := bF2.up u8
 replace bF3 := bF3.up u8
 replace b0 := b0.up u8
 replace b1 := b1.up u8
 replace b2 := b2.up u8
 replace x7 := x7.up u8
 replace UP := UP.trans u8
 clear u8
 obtain ⟨Xqt, Yqt, rfl, qt, qtd⟩ := qt
 obtain ⟨Aqt, nqt, cqt, rfl⟩ := qt.shape
 obtain ⟨Aqtd, nqtd, cqtd, rfl⟩ := qtd.shape
 have b2_3 := b2.cell (i := 3) rfl
 have b2_4 := b2.cell (i := 4) rfl
 have b2_5 := b2.cell (i := 5) rfl
 have b2_3a := fun O0 => (cell_alloc (o := O0) b2_3)
 have b2_4a := fun O0 => (cell_alloc (o := O0) b2_4)
 have b2_5a := fun O0 => (cell_alloc (o := O0) b2_5)
 go_wp2_with (with_reducible show wpList _ _ _ _ _ _; refine wl_load_box (o := ⟨_, Op.load 26 _, _, _, _, _⟩) rfl _ rfl rfl agg_r36z size_r36z b0 rfl ?_)
 clear b2_3a b2_4a b2_5a
 have x8 := Bx.new 24 W8 [.bool (Wd.ngb tt.num), .slice Aqt nqt cqt, .slice Aqtd nqtd cqtd]
 have b0_lt_x8 := b0.lt
 have b1_lt_x8 := b1.lt
 have b2_lt_x8 := b2.lt
 have x7_lt_x8 := x7.lt
 have nu := ((Up.refl W8).alloc (.cells #[.bool (Wd.ngb tt.num), .slice Aqt nqt cqt, .slice Aqtd nqtd cqtd] 24))
 replace hl1 := hl1.up nu
 replace hm1 := hm1.up nu
 replace hl2 := hl2.up nu
 replace hm2 := hm2.up nu
 replace hl3 := hl3.up nu
 replace hm3 := hm3.up nu
 replace hl4 := hl4.up nu
 replace hm4 := hm4.up nu
 replace hl5 := hl5.up nu
 replace hm5 := hm5.up nu
 replace aF1 := aF1.up nu
 replace bF1 := bF1.up nu
 replace bF2 := bF2.up nu
 replace bF3 := bF3.up nu
 replace qt := qt.up nu
 replace qtd := qtd.up nu
 replace b0 := b0.up nu
 replace b1 := b1.up nu
 replace b2 := b2.up nu
 replace x7 := x7.up nu
 replace UP := UP.trans nu
 clear nu
 generalize (W8.alloc (.cells #[.bool (Wd.ngb tt.num), .slice Aqt nqt cqt, .slice Aqtd nqtd cqtd] 24)) = W9 at *
 clear b2_3 b2_4 b2_5
 ((with_reducible refine (ref9_norm bF2 (by omega)).mono ?_))
 rintro e W10 ⟨V10, rfl, qn, u10⟩
 replace hl1 := hl1.up u10
 replace hm1 := hm1.up u10
 replace hl2 := hl2.up u10
 replace hm2 := hm2.up u10
 replace hl3 := hl3.up u10
 replace hm3 := hm3.up u10
 replace hl4 := hl4.up u10
 replace hm4 := hm4.up u10
 replace hl5 := hl5.up u10
 replace hm5 := hm5.up u10
 replace aF1 := aF1.up u10
 replace bF1 := bF1.up u10
 replace bF2 := bF2.up u10
 replace bF3 := bF3.up u10
 replace qt := qt.up u10
 replace qtd := qtd.up u10
 replace b0 := b0.up u10
 replace b1 := b1.up u10
 replace b2 := b2.up u10
 replace x7 := x7.up u10
 replace x8 := x8.up u10
 replace UP := UP.trans u10
 clear u10
 obtain ⟨Xqn, Yqn, rfl, qn, qnd⟩ := qn
 obtain ⟨Aqn, nqn, cqn, rfl⟩ := qn.shape
 obtain ⟨Aqnd, nqnd, cqnd, rfl⟩ := qnd.shape
 have b2_6 := b2.cell (i := 6) rfl
 have b2_7 := b2.cell (i := 7) rfl
 have b2_8 := b2.cell (i := 8) rfl
 have b2_6a := fun O0 => (cell_alloc (o := O0) b2_6)
 have b2_7a := fun O0 => (cell_alloc (o := O0) b2_7)
 have b2_8a := fun O0 => (cell_alloc (o := O0) b2_8)
 go_wp2_with (with_reducible show wpList _ _ _ _ _ _; refine wl_load_box (o := ⟨_, Op.load 26 _, _, _, _, _⟩) rfl _ rfl rfl agg_r36z size_r36z b0 rfl ?_)
 clear b2_6a b2_7a b2_8a
 have x9 := Bx.new 24 W10 [.bool (Wd.ngb en.num), .slice Aqn nqn cqn, .slice Aqnd nqnd cqnd]
 have b0_lt_x9 := b0.lt
 have b1_lt_x9 := b1.lt
 have b2_lt_x9 := b2.lt
 have x7_lt_x9 := x7.lt
 have x8_lt_x9 := x8.lt
 have nu := ((Up.refl W10).alloc (.cells #[.bool (Wd.ngb en.num), .slice Aqn nqn cqn, .slice Aqnd nqnd cqnd] 24))
 replace hl1 := hl1.up nu
 replace hm1 := hm1.up nu
 replace hl2 := hl2.up nu
 replace hm2 := hm2.up nu
 replace hl3 := hl3.up nu
 replace hm3 := hm3.up nu
 replace hl4 := hl4.up nu
 replace hm4 := hm4.up nu
 replace hl5 := hl5.up nu
 replace hm5 := hm5.up nu
 replace aF1 := aF1.up nu
 replace bF1 := bF1.up nu
 replace bF2 := bF2.up nu
 replace bF3 := bF3.up nu
 replace qt := qt.up nu
 replace qtd := qtd.up nu
 replace qn := qn.up nu
 replace qnd := qnd.up nu
 replace b0 := b0.up nu
 replace b1 := b1.up nu
 replace b2 := b2.up nu
 replace x7 := x7.up nu
 replace x8 := x8.up nu
 replace UP := UP.trans nu
 clear nu
 generalize (W10.alloc (.cells #[.bool (Wd.ngb en.num), .slice Aqn nqn cqn, .slice Aqnd nqnd cqnd] 24)) = W11 at *
 clear b2_6 b2_7 b2_8
 ((with_reducible refine (ref9_norm bF3 (by omega)).mono ?_))
 rintro e W12 ⟨V12, rfl, qw, u12⟩
 replace hl1 := hl1.up u12
 replace hm1 := hm1.up u12
 replace hl2 := hl2.up u12
 replace hm2 := hm2.up u12
 replace hl3 := hl3.up u12
 replace hm3 := hm3.up u12
 replace hl4 := hl4.up u12
 replace hm4 := hm4.up u12
 replace hl5 := hl5.up u12
 replace hm5 := hm5.up u12
 replace aF1 := aF1.up u12
 replace bF1 := bF1.up u12
 replace bF2 := bF2.up u12
 replace bF3 := bF3.up u12
 replace qt := qt.up u12
 replace qtd := qtd.up u12
 replace qn := qn.up u12
 replace qnd := qnd.up u12
 replace b0 := b0.up u12
 replace b1 := b1.up u12
 replace b2 := b2.up u12
 replace x7 := x7.up u12
 replace x8 := x8.up u12
 replace x9 := x9.up u12
 replace UP := UP.trans u12
 clear u12
 obtain ⟨Xqw, Yqw, rfl, qw, qwd⟩ := qw
 obtain ⟨Aqw, nqw, cqw, rfl⟩ := qw.shape
 obtain ⟨Aqwd, nqwd, cqwd, rfl⟩ := qwd.shape
 have b1_0 := b1.cell (i := 0) rfl
 have b1_1 := b1.cell (i := 1) rfl
 have b1_2 := b1.cell (i := 2) rfl
 have b1_0a := fun O0 => (cell_alloc (o := O0) b1_0)
 have b1_1a := fun O0 => (cell_alloc (o := O0) b1_1)
 have b1_2a := fun O0 => (cell_alloc (o := O0) b1_2)
 go_wp2_with (with_reducible show wpList _ _ _ _ _ _; refine wl_load_box (o := ⟨_, Op.load 26 _, _, _, _, _⟩) rfl _ rfl rfl agg_r36z size_r36z b0 rfl ?_)
 clear b1_0a b1_1a b1_2a
 have x10 := Bx.new 24 W12 [.bool (Wd.ngb wa.num), .slice Aqw nqw cqw, .slice Aqwd nqwd cqwd]
 have b0_lt_x10 := b0.lt
 have b1_lt_x10 := b1.lt
 have b2_lt_x10 := b2.lt
 have x7_lt_x10 := x7.lt
 have x8_lt_x10 := x8.lt
 have x9_lt_x10 := x9.lt
 have nu := ((Up.refl W12).alloc (.cells #[.bool (Wd.ngb wa.num), .slice Aqw nqw cqw, .slice Aqwd nqwd cqwd] 24))
 replace hl1 := hl1.up nu
 replace hm1 := hm1.up nu
 replace hl2 := hl2.up nu
 replace hm2 := hm2.up nu
 replace hl3 := hl3.up nu
 replace hm3 := hm3.up nu
 replace hl4 := hl4.up nu
 replace hm4 := hm4.up nu
 replace hl5 := hl5.up nu
 replace hm5 := hm5.up nu
 replace aF1 := aF1.up nu
 replace bF1 := bF1.up nu
 replace bF2 := bF2.up nu
 replace bF3 := bF3.up nu
 replace qt := qt.up nu
 replace qtd := qtd.up nu
 replace qn := qn.up nu
 replace qnd := qnd.up nu
 replace qw := qw.up nu
 replace qwd := qwd.up nu
 replace b0 := b0.up nu
 replace b1 := b1.up nu
 replace b2 := b2.up nu
 replace x7 := x7.up nu
 replace x8 := x8.up nu
 replace x9 := x9.up nu
 replace UP := UP.trans nu
 clear nu
 generalize (W12.alloc (.cells #[.bool (Wd.ngb wa.num), .slice Aqw nqw cqw, .slice Aqwd nqwd cqwd] 24)) = W13 at *
 clear b1_0 b1_1 b1_2
 ((with_reducible refine (ref9_norm aF1 (by omega)).mono ?_))
 rintro e W14 ⟨V14, rfl, ra, u14⟩
 replace hl1 := hl1.up u14
 replace hm1 := hm1.up u14
 replace hl2 := hl2.up u14
 replace hm2 := hm2.up u14
 replace hl3 := hl3.up u14
 replace hm3 := hm3.up u14
 replace hl4 := hl4.up u14
 replace hm4 := hm4.up u14
 replace hl5 := hl5.up u14
 replace hm5 := hm5.up u14
 replace aF1 := aF1.up u14
 replace bF1 := bF1.up u14
 replace bF2 := bF2.up u14
 replace bF3 := bF3.up u14
 replace qt := qt.up u14
 replace qtd := qtd.up u14
 replace qn := qn.up u14
 replace qnd := qnd.up u14
 replace qw := qw.up u14
 replace qwd := qwd.up u14
 replace b0 := b0.up u14
 replace b1 := b1.up u14
 replace b2 := b2.up u14
 replace x7 := x7.up u14
 replace x8 := x8.up u14
 replace x9 := x9.up u14
 replace x10 := x10.up u14
 replace UP := UP.trans u14
 clear u14
 go_wp2_with (with_reducible show wpList _ _ _ _ _ _; refine wl_load_box (o := ⟨_, Op.load 26 _, _, _, _, _⟩) rfl _ rfl rfl agg_r36z size_r36z b0 rfl ?_)
 ((with_reducible refine (ref9_abs ra).mono ?_))
 rintro e W15 ⟨V15, rfl, qa, u15⟩
 replace hl1 := hl1.up u15
 replace hm1 := hm1.up u15
 replace hl2 := hl2.up u15
 replace hm2 := hm2.up u15
 replace hl3 := hl3.up u15
 replace hm3 := hm3.up u15
 replace hl4 := hl4.up u15
 replace hm4 := hm4.up u15
 replace hl5 := hl5.up u15
 replace hm5 := hm5.up u15
 replace aF1 := aF1.up u15
 replace bF1 := bF1.up u15
 replace bF2 := bF2.up u15
 replace bF3 := bF3.up u15
 replace qt := qt.up u15
 replace qtd := qtd.up u15
 replace qn := qn.up u15
 replace qnd := qnd.up u15
 replace qw := qw.up u15
 replace qwd := qwd.up u15
 replace ra := ra.up u15
 replace b0 := b0.up u15
 replace b1 := b1.up u15
 replace b2 := b2.up u15
 replace x7 := x7.up u15
 replace x8 := x8.up u15
 replace x9 := x9.up u15
 replace x10 := x10.up u15
 replace UP := UP.trans u15
 clear u15
 rw [HA.out] at qa
 clear ra
 obtain ⟨Xqa, Yqa, rfl, qa, qad⟩ := qa
 obtain ⟨Aqa, nqa, cqa, rfl⟩ := qa.shape
 obtain ⟨Aqad, nqad, cqad, rfl⟩ := qad.shape
 go_upto_region 8 with with_reducible show wpList _ _ _ _ _ _; refine wl_load_box (o := ⟨_, Op.load 26 _, _, _, _, _⟩) rfl _ rfl rfl agg_r36z size_r36z b0 rfl ?_
 have x11 := Bx.new 24 W15 [.bool (Wd.ngb A.num), .slice Aqa nqa cqa, .slice Aqad nqad cqad]
 have b0_lt_x11 := b0.lt
 have b1_lt_x11 := b1.lt
 have b2_lt_x11 := b2.lt
 have x7_lt_x11 := x7.lt
 have x8_lt_x11 := x8.lt
 have x9_lt_x11 := x9.lt
 have x10_lt_x11 := x10.lt
 have nu := ((Up.refl W15).alloc (.cells #[.bool (Wd.ngb A.num), .slice Aqa nqa cqa, .slice Aqad nqad cqad] 24))
 replace hl1 := hl1.up nu
 replace hm1 := hm1.up nu
 replace hl2 := hl2.up nu
 replace hm2 := hm2.up nu
 replace hl3 := hl3.up nu
 replace hm3 := hm3.up nu
 replace hl4 := hl4.up nu
 replace hm4 := hm4.up nu
 replace hl5 := hl5.up nu
 replace hm5 := hm5.up nu
 replace aF1 := aF1.up nu
 replace bF1 := bF1.up nu
 replace bF2 := bF2.up nu
 replace bF3 := bF3.up nu
 replace qt := qt.up nu
 replace qtd := qtd.up nu
 replace qn := qn.up nu
 replace qnd := qnd.up nu
 replace qw := qw.up nu
 replace qwd := qwd.up nu
 replace qa := qa.up nu
 replace qad := qad.up nu
 replace b0 := b0.up nu
 replace b1 := b1.up nu
 replace b2 := b2.up nu
 replace x7 := x7.up nu
 replace x8 := x8.up nu
 replace x9 := x9.up nu
 replace x10 := x10.up nu
 replace UP := UP.trans nu
 clear nu
 generalize (W15.alloc (.cells #[.bool (Wd.ngb A.num), .slice Aqa nqa cqa, .slice Aqad nqad cqad] 24)) = W16 at *
 have b2_0 := b2.cell (i := 0) rfl
 have b2_1 := b2.cell (i := 1) rfl
 have b2_2 := b2.cell (i := 2) rfl
 have b2_3 := b2.cell (i := 3) rfl
 have b2_4 := b2.cell (i := 4) rfl
 have b2_5 := b2.cell (i := 5) rfl
 have b2_6 := b2.cell (i := 6) rfl
 have b2_7 := b2.cell (i := 7) rfl
 have b2_8 := b2.cell (i := 8) rfl
 have x8_0 := x8.cell (i := 0) rfl
 have x8_1 := x8.cell (i := 1) rfl
 have x8_2 := x8.cell (i := 2) rfl
 have x9_0 := x9.cell (i := 0) rfl
 have x9_1 := x9.cell (i := 1) rfl
 have x9_2 := x9.cell (i := 2) rfl
 have x10_0 := x10.cell (i := 0) rfl
 have x10_1 := x10.cell (i := 1) rfl
 have x10_2 := x10.cell (i := 2) rfl
 replace hl1 := hl1.up (Up.refl W16).drew
 replace hm1 := hm1.up (Up.refl W16).drew
 replace hl2 := hl2.up (Up.refl W16).drew
 replace hm2 := hm2.up (Up.refl W16).drew
 replace hl3 := hl3.up (Up.refl W16).drew
 replace hm3 := hm3.up (Up.refl W16).drew
 replace hl4 := hl4.up (Up.refl W16).drew
 replace hm4 := hm4.up (Up.refl W16).drew
 replace hl5 := hl5.up (Up.refl W16).drew
 replace hm5 := hm5.up (Up.refl W16).drew
 replace aF1 := aF1.up (Up.refl W16).drew
 replace bF1 := bF1.up (Up.refl W16).drew
 replace bF2 := bF2.up (Up.refl W16).drew
 replace bF3 := bF3.up (Up.refl W16).drew
 replace qt := qt.up (Up.refl W16).drew
 replace qtd := qtd.up (Up.refl W16).drew
 replace qn := qn.up (Up.refl W16).drew
 replace qnd := qnd.up (Up.refl W16).drew
 replace qw := qw.up (Up.refl W16).drew
 replace qwd := qwd.up (Up.refl W16).drew
 replace qa := qa.up (Up.refl W16).drew
 replace qad := qad.up (Up.refl W16).drew
 replace b0 := b0.up (Up.refl W16).drew
 replace b1 := b1.up (Up.refl W16).drew
 replace b2 := b2.up (Up.refl W16).drew
 replace x7 := x7.up (Up.refl W16).drew
 replace x8 := x8.up (Up.refl W16).drew
 replace x9 := x9.up (Up.refl W16).drew
 replace x10 := x10.up (Up.refl W16).drew
 replace x11 := x11.up (Up.refl W16).drew
 replace UP := UP.trans (Up.refl W16).drew
 clear b2_0 b2_1 b2_2 b2_3 b2_4 b2_5 b2_6 b2_7 b2_8 x8_0 x8_1 x8_2 x9_0 x9_1 x9_2 x10_0 x10_1 x10_2
 have b2_0 := b2.cell (i := 0) rfl
 have b2_1 := b2.cell (i := 1) rfl
 have b2_2 := b2.cell (i := 2) rfl
 have b2_3 := b2.cell (i := 3) rfl
 have b2_4 := b2.cell (i := 4) rfl
 have b2_5 := b2.cell (i := 5) rfl
 have b2_6 := b2.cell (i := 6) rfl
 have b2_7 := b2.cell (i := 7) rfl
 have b2_8 := b2.cell (i := 8) rfl
 have x8_0 := x8.cell (i := 0) rfl
 have x8_1 := x8.cell (i := 1) rfl
 have x8_2 := x8.cell (i := 2) rfl
 have x9_0 := x9.cell (i := 0) rfl
 have x9_1 := x9.cell (i := 1) rfl
 have x9_2 := x9.cell (i := 2) rfl
 have x10_0 := x10.cell (i := 0) rfl
 have x10_1 := x10.cell (i := 1) rfl
 have x10_2 := x10.cell (i := 2) rfl
 refine wp_region_noPanic ?_
 refine wp_region_held_drew (S := fun w' => Up w w' ∧ w'.cell? ⟨w.heap.size + 1 + 1, 0, none⟩ = some (.bool bs1) ∧ w'.cell? ⟨w.heap.size + 1 + 1, 1, none⟩ = some (.slice bA1 bl1.length bc1) ∧ w'.cell? ⟨w.heap.size + 1 + 1, 2, none⟩ = some (.slice bD1 bm1.length be1) ∧ w'.cell? ⟨w.heap.size + 1 + 1, 3, none⟩ = some (.bool bs2) ∧ w'.cell? ⟨w.heap.size + 1 + 1, 4, none⟩ = some (.slice bA2 bl2.length bc2) ∧ w'.cell? ⟨w.heap.size + 1 + 1, 5, none⟩ = some (.slice bD2 bm2.length be2) ∧ w'.cell? ⟨w.heap.size + 1 + 1, 6, none⟩ = some (.bool bs3) ∧ w'.cell? ⟨w.heap.size + 1 + 1, 7, none⟩ = some (.slice bA3 bl3.length bc3) ∧ w'.cell? ⟨w.heap.size + 1 + 1, 8, none⟩ = some (.slice bD3 bm3.length be3) ∧ w'.cell? ⟨W8.heap.size, 0, none⟩ = some (.bool (Wd.ngb tt.num)) ∧ w'.cell? ⟨W8.heap.size, 1, none⟩ = some (.slice Aqt nqt cqt) ∧ w'.cell? ⟨W8.heap.size, 2, none⟩ = some (.slice Aqtd nqtd cqtd) ∧ w'.cell? ⟨W10.heap.size, 0, none⟩ = some (.bool (Wd.ngb en.num)) ∧ w'.cell? ⟨W10.heap.size, 1, none⟩ = some (.slice Aqn nqn cqn) ∧ w'.cell? ⟨W10.heap.size, 2, none⟩ = some (.slice Aqnd nqnd cqnd) ∧ w'.cell? ⟨W12.heap.size, 0, none⟩ = some (.bool (Wd.ngb wa.num)) ∧ w'.cell? ⟨W12.heap.size, 1, none⟩ = some (.slice Aqw nqw cqw) ∧ w'.cell? ⟨W12.heap.size, 2, none⟩ = some (.slice Aqwd nqwd cqwd)) (by kernel_rfl) ?_ (fun hHeld => ?_)
 · with_reducible exact ⟨UP, b2_0, b2_1, b2_2, b2_3, b2_4, b2_5, b2_6, b2_7, b2_8, x8_0, x8_1, x8_2, x9_0, x9_1, x9_2, x10_0, x10_1, x10_2⟩
 refine wpAnyH_take (i := 0) (v := ?_) rfl (by kernel_rfl) (by kernel_rfl) (by kernel_rfl) (fun _ _ _ h => h) (Or.inl ⟨by rfl, ?_⟩) (by assumption) ?_
 rotate_left
 · (intro w hSw; (try dsimp only at hSw); go_simp; first | done | with_reducible rfl)
 try simp only [List.getElem_toArray, List.getElem_cons_zero, List.getElem_cons_succ, Act.put, List.setIfInBounds_toArray, List.set_cons_zero, List.set_cons_succ]
 refine wpAnyH_take (i := 1) (v := ?_) rfl (by kernel_rfl) (by kernel_rfl) (by kernel_rfl) (fun _ _ _ h => h) (Or.inl ⟨by rfl, ?_⟩) (by assumption) ?_
 rotate_left
 · (intro w hSw; (try dsimp only at hSw); go_simp; first | done | with_reducible rfl)
 try simp only [List.getElem_toArray, List.getElem_cons_zero, List.getElem_cons_succ, Act.put, List.setIfInBounds_toArray, List.set_cons_zero, List.set_cons_succ]
 refine wpAnyH_take (i := 3) (v := ?_) rfl (by kernel_rfl) (by kernel_rfl) (by kernel_rfl) (fun _ _ _ h => h) (Or.inl ⟨by rfl, ?_⟩) (by assumption) ?_
 rotate_left
 · (intro w hSw; (try dsimp only at hSw); go_simp; first | done | with_reducible rfl)
 try simp only [List.getElem_toArray, List.getElem_cons_zero, List.getElem_cons_succ, Act.put, List.setIfInBounds_toArray, List.set_cons_zero, List.set_cons_succ]
 refine wpAnyH_take (i := 4) (v := ?_) rfl (by kernel_rfl) (by kernel_rfl) (by kernel_rfl) (fun _ _ _ h => h) (Or.inl ⟨by rfl, ?_⟩) (by assumption) ?_
 rotate_left
 · (intro w hSw; (try dsimp only at hSw); go_simp; first | done | with_reducible rfl)
 try simp only [List.getElem_toArray, List.getElem_cons_zero, List.getElem_cons_succ, Act.put, List.setIfInBounds_toArray, List.set_cons_zero, List.set_cons_succ]
 refine wpAnyH_take (i := 6) (v := ?_) rfl (by kernel_rfl) (by kernel_rfl) (by kernel_rfl) (fun _ _ _ h => h) (Or.inl ⟨by rfl, ?_⟩) (by assumption) ?_
 rotate_left
 · (intro w hSw; (try dsimp only at hSw); go_simp; first | done | with_reducible rfl)
 try simp only [List.getElem_toArray, List.getElem_cons_zero, List.getElem_cons_succ, Act.put, List.setIfInBounds_toArray, List.set_cons_zero, List.set_cons_succ]
 refine wpAnyH_take (i := 7) (v := ?_) rfl (by kernel_rfl) (by kernel_rfl) (by kernel_rfl) (fun _ _ _ h => h) (Or.inl ⟨by rfl, ?_⟩) (by assumption) ?_
 rotate_left
 · (intro w hSw; (try dsimp only at hSw); go_simp; first | done | with_reducible rfl)
 try simp only [List.getElem_toArray, List.getElem_cons_zero, List.getElem_cons_succ, Act.put, List.setIfInBounds_toArray, List.set_cons_zero, List.set_cons_succ]
 refine wpAnyH_take (i := 10) (v := ?_) rfl (by kernel_rfl) (by kernel_rfl) (by kernel_rfl) (fun _ _ _ h => h) (Or.inl ⟨by rfl, ?_⟩) (by assumption) ?_
 rotate_left
 · (intro w hSw; (try dsimp only at hSw); go_simp; first | done | with_reducible rfl)
 try simp only [List.getElem_toArray, List.getElem_cons_zero, List.getElem_cons_succ, Act.put, List.setIfInBounds_toArray, List.set_cons_zero, List.set_cons_succ]
 refine wpAnyH_take (i := 11) (v := ?_) rfl (by kernel_rfl) (by kernel_rfl) (by kernel_rfl) (fun _ _ _ h => h) (Or.inl ⟨by rfl, ?_⟩) (by assumption) ?_
 rotate_left
 · (intro w hSw; (try dsimp only at hSw); go_simp; first | done | with_reducible rfl)
 try simp only [List.getElem_toArray, List.getElem_cons_zero, List.getElem_cons_succ, Act.put, List.setIfInBounds_toArray, List.set_cons_zero, List.set_cons_succ]
 refine wpAnyH_take (i := 12) (v := ?_) rfl (by kernel_rfl) (by kernel_rfl) (by kernel_rfl) (fun _ _ _ h => h) (Or.inl ⟨by rfl, ?_⟩) (by assumption) ?_
 rotate_left
 · (intro w hSw; (try dsimp only at hSw); go_simp; first | done | with_reducible rfl)
 try simp only [List.getElem_toArray, List.getElem_cons_zero, List.getElem_cons_succ, Act.put, List.setIfInBounds_toArray, List.set_cons_zero, List.set_cons_succ]
 refine wpAnyH_ready (rs := [2]) (by kernel_rfl) (by simp) ?_
 refine AllReadyH.cons rfl (fun K hK => ?_) AllReadyH.nil
 go_simp
 (first
   | (go_at_call 26
      ((with_reducible refine (law_to9 _ _ _ _ _ _ _ _).mono ?_))
      rintro e W17 ⟨rfl, u17⟩
      replace hl1 := hl1.up u17
      replace hm1 := hm1.up u17
      replace hl2 := hl2.up u17
      replace hm2 := hm2.up u17
      replace hl3 := hl3.up u17
      replace hm3 := hm3.up u17
      replace hl4 := hl4.up u17
      replace hm4 := hm4.up u17
      replace hl5 := hl5.up u17
      replace hm5 := hm5.up u17
      replace aF1 := aF1.up u17
      replace bF1 := bF1.up u17
      replace bF2 := bF2.up u17
      replace bF3 := bF3.up u17
      replace qt := qt.up u17
      replace qtd := qtd.up u17
      replace qn := qn.up u17
      replace qnd := qnd.up u17
      replace qw := qw.up u17
      replace qwd := qwd.up u17
      replace qa := qa.up u17
      replace qad := qad.up u17
      try (replace cu := cu.up u17)
      try (replace cr := cr.up u17)
      replace b0 := b0.up u17
      replace b1 := b1.up u17
      replace b2 := b2.up u17
      replace x7 := x7.up u17
      replace x8 := x8.up u17
      replace x9 := x9.up u17
      replace x10 := x10.up u17
      replace x11 := x11.up u17
      replace UP := UP.trans u17
      clear b2_0 b2_1 b2_2 b2_3 b2_4 b2_5 b2_6 b2_7 b2_8 x8_0 x8_1 x8_2 x9_0 x9_1 x9_2 x10_0 x10_1 x10_2
      have b2_0 := b2.cell (i := 0) rfl
      have b2_1 := b2.cell (i := 1) rfl
      have b2_2 := b2.cell (i := 2) rfl
      have b2_3 := b2.cell (i := 3) rfl
      have b2_4 := b2.cell (i := 4) rfl
      have b2_5 := b2.cell (i := 5) rfl
      have b2_6 := b2.cell (i := 6) rfl
      have b2_7 := b2.cell (i := 7) rfl
      have b2_8 := b2.cell (i := 8) rfl
      have x8_0 := x8.cell (i := 0) rfl
      have x8_1 := x8.cell (i := 1) rfl
      have x8_2 := x8.cell (i := 2) rfl
      have x9_0 := x9.cell (i := 0) rfl
      have x9_1 := x9.cell (i := 1) rfl
      have x9_2 := x9.cell (i := 2) rfl
      have x10_0 := x10.cell (i := 0) rfl
      have x10_1 := x10.cell (i := 1) rfl
      have x10_2 := x10.cell (i := 2) rfl
      clear u17))
 try go_wp2_with fail
 try clear hHeld
 refine hK.out _ _ ?_ (fun hHeld => ?_)
 · with_reducible exact ⟨UP, b2_0, b2_1, b2_2, b2_3, b2_4, b2_5, b2_6, b2_7, b2_8, x8_0, x8_1, x8_2, x9_0, x9_1, x9_2, x10_0, x10_1, x10_2⟩
 clear hK K
 try simp only [List.getElem_toArray, List.getElem_cons_zero, List.getElem_cons_succ, Act.put, List.setIfInBounds_toArray, List.set_cons_zero, List.set_cons_succ]
 refine wpAnyH_ready (rs := [5]) (by kernel_rfl) (by simp) ?_
 refine AllReadyH.cons rfl (fun K hK => ?_) AllReadyH.nil
 go_simp
 (first
   | (go_at_call 26
      ((with_reducible refine (law_to9 _ _ _ _ _ _ _ _).mono ?_))
      rintro e W17 ⟨rfl, u17⟩
      replace hl1 := hl1.up u17
      replace hm1 := hm1.up u17
      replace hl2 := hl2.up u17
      replace hm2 := hm2.up u17
      replace hl3 := hl3.up u17
      replace hm3 := hm3.up u17
      replace hl4 := hl4.up u17
      replace hm4 := hm4.up u17
      replace hl5 := hl5.up u17
      replace hm5 := hm5.up u17
      replace aF1 := aF1.up u17
      replace bF1 := bF1.up u17
      replace bF2 := bF2.up u17
      replace bF3 := bF3.up u17
      replace qt := qt.up u17
      replace qtd := qtd.up u17
      replace qn := qn.up u17
      replace qnd := qnd.up u17
      replace qw := qw.up u17
      replace qwd := qwd.up u17
      replace qa := qa.up u17
      replace qad := qad.up u17
      try (replace cu := cu.up u17)
      try (replace cr := cr.up u17)
      replace b0 := b0.up u17
      replace b1 := b1.up u17
      replace b2 := b2.up u17
      replace x7 := x7.up u17
      replace x8 := x8.up u17
      replace x9 := x9.up u17
      replace x10 := x10.up u17
      replace x11 := x11.up u17
      replace UP := UP.trans u17
      clear b2_0 b2_1 b2_2 b2_3 b2_4 b2_5 b2_6 b2_7 b2_8 x8_0 x8_1 x8_2 x9_0 x9_1 x9_2 x10_0 x10_1 x10_2
      have b2_0 := b2.cell (i := 0) rfl
      have b2_1 := b2.cell (i := 1) rfl
      have b2_2 := b2.cell (i := 2) rfl
      have b2_3 := b2.cell (i := 3) rfl
      have b2_4 := b2.cell (i := 4) rfl
      have b2_5 := b2.cell (i := 5) rfl
      have b2_6 := b2.cell (i := 6) rfl
      have b2_7 := b2.cell (i := 7) rfl
      have b2_8 := b2.cell (i := 8) rfl
      have x8_0 := x8.cell (i := 0) rfl
      have x8_1 := x8.cell (i := 1) rfl
      have x8_2 := x8.cell (i := 2) rfl
      have x9_0 := x9.cell (i := 0) rfl
      have x9_1 := x9.cell (i := 1) rfl
      have x9_2 := x9.cell (i := 2) rfl
      have x10_0 := x10.cell (i := 0) rfl
      have x10_1 := x10.cell (i := 1) rfl
      have x10_2 := x10.cell (i := 2) rfl
      clear u17))
 try go_wp2_with fail
 try clear hHeld
 refine hK.out _ _ ?_ (fun hHeld => ?_)
 · with_reducible exact ⟨UP, b2_0, b2_1, b2_2, b2_3, b2_4, b2_5, b2_6, b2_7, b2_8, x8_0, x8_1, x8_2, x9_0, x9_1, x9_2, x10_0, x10_1, x10_2⟩
 clear hK K
 try simp only [List.getElem_toArray, List.getElem_cons_zero, List.getElem_cons_succ, Act.put, List.setIfInBounds_toArray, List.set_cons_zero, List.set_cons_succ]
 refine wpAnyH_ready (rs := [8]) (by kernel_rfl) (by simp) ?_
 refine AllReadyH.cons rfl (fun K hK => ?_) AllReadyH.nil
 go_simp
 (first
   | (go_at_call 26
      ((with_reducible refine (law_to9 _ _ _ _ _ _ _ _).mono ?_))
      rintro e W17 ⟨rfl, u17⟩
      replace hl1 := hl1.up u17
      replace hm1 := hm1.up u17
      replace hl2 := hl2.up u17
      replace hm2 := hm2.up u17
      replace hl3 := hl3.up u17
      replace hm3 := hm3.up u17
      replace hl4 := hl4.up u17
      replace hm4 := hm4.up u17
      replace hl5 := hl5.up u17
      replace hm5 := hm5.up u17
      replace aF1 := aF1.up u17
      replace bF1 := bF1.up u17
      replace bF2 := bF2.up u17
      replace bF3 := bF3.up u17
      replace qt := qt.up u17
      replace qtd := qtd.up u17
      replace qn := qn.up u17
      replace qnd := qnd.up u17
      replace qw := qw.up u17
      replace qwd := qwd.up u17
      replace qa := qa.up u17
      replace qad := qad.up u17
      try (replace cu := cu.up u17)
      try (replace cr := cr.up u17)
      replace b0 := b0.up u17
      replace b1 := b1.up u17
      replace b2 := b2.up u17
      replace x7 := x7.up u17
      replace x8 := x8.up u17
      replace x9 := x9.up u17
      replace x10 := x10.up u17
      replace x11 := x11.up u17
      replace UP := UP.trans u17
      clear b2_0 b2_1 b2_2 b2_3 b2_4 b2_5 b2_6 b2_7 b2_8 x8_0 x8_1 x8_2 x9_0 x9_1 x9_2 x10_0 x10_1 x10_2
      have b2_0 := b2.cell (i := 0) rfl
      have b2_1 := b2.cell (i := 1) rfl
      have b2_2 := b2.cell (i := 2) rfl
      have b2_3 := b2.cell (i := 3) rfl
      have b2_4 := b2.cell (i := 4) rfl
      have b2_5 := b2.cell (i := 5) rfl
      have b2_6 := b2.cell (i := 6) rfl
      have b2_7 := b2.cell (i := 7) rfl
      have b2_8 := b2.cell (i := 8) rfl
      have x8_0 := x8.cell (i := 0) rfl
      have x8_1 := x8.cell (i := 1) rfl
      have x8_2 := x8.cell (i := 2) rfl
      have x9_0 := x9.cell (i := 0) rfl
      have x9_1 := x9.cell (i := 1) rfl
      have x9_2 := x9.cell (i := 2) rfl
      have x10_0 := x10.cell (i := 0) rfl
      have x10_1 := x10.cell (i := 1) rfl
      have x10_2 := x10.cell (i := 2) rfl
      clear u17))
 try go_wp2_with fail
 try clear hHeld
 refine hK.out _ _ ?_ (fun hHeld => ?_)
 · with_reducible exact ⟨UP, b2_0, b2_1, b2_2, b2_3, b2_4, b2_5, b2_6, b2_7, b2_8, x8_0, x8_1, x8_2, x9_0, x9_1, x9_2, x10_0, x10_1, x10_2⟩
 clear hK K
 try simp only [List.getElem_toArray, List.getElem_cons_zero, List.getElem_cons_succ, Act.put, List.setIfInBounds_toArray, List.set_cons_zero, List.set_cons_succ]
 refine wpAnyH_ready (rs := [9]) (by kernel_rfl) (by simp) ?_
 refine AllReadyH.cons rfl (fun K hK => ?_) AllReadyH.nil
 go_simp
 (first
   | (go_at_call 50
      ((with_reducible refine (pace_cut bF1 bF2 bF3 (by omega)).mono ?_))
      rintro e W18 ⟨V18, rfl, cu, u18⟩
      replace hl1 := hl1.up u18
      replace hm1 := hm1.up u18
      replace hl2 := hl2.up u18
      replace hm2 := hm2.up u18
      replace hl3 := hl3.up u18
      replace hm3 := hm3.up u18
      replace hl4 := hl4.up u18
      replace hm4 := hm4.up u18
      replace hl5 := hl5.up u18
      replace hm5 := hm5.up u18
      replace aF1 := aF1.up u18
      replace bF1 := bF1.up u18
      replace bF2 := bF2.up u18
      replace bF3 := bF3.up u18
      replace qt := qt.up u18
      replace qtd := qtd.up u18
      replace qn := qn.up u18
      replace qnd := qnd.up u18
      replace qw := qw.up u18
      replace qwd := qwd.up u18
      replace qa := qa.up u18
      replace qad := qad.up u18
      try (replace cu := cu.up u18)
      try (replace cr := cr.up u18)
      replace b0 := b0.up u18
      replace b1 := b1.up u18
      replace b2 := b2.up u18
      replace x7 := x7.up u18
      replace x8 := x8.up u18
      replace x9 := x9.up u18
      replace x10 := x10.up u18
      replace x11 := x11.up u18
      replace UP := UP.trans u18
      clear b2_0 b2_1 b2_2 b2_3 b2_4 b2_5 b2_6 b2_7 b2_8 x8_0 x8_1 x8_2 x9_0 x9_1 x9_2 x10_0 x10_1 x10_2
      have b2_0 := b2.cell (i := 0) rfl
      have b2_1 := b2.cell (i := 1) rfl
      have b2_2 := b2.cell (i := 2) rfl
      have b2_3 := b2.cell (i := 3) rfl
      have b2_4 := b2.cell (i := 4) rfl
      have b2_5 := b2.cell (i := 5) rfl
      have b2_6 := b2.cell (i := 6) rfl
      have b2_7 := b2.cell (i := 7) rfl
      have b2_8 := b2.cell (i := 8) rfl
      have x8_0 := x8.cell (i := 0) rfl
      have x8_1 := x8.cell (i := 1) rfl
      have x8_2 := x8.cell (i := 2) rfl
      have x9_0 := x9.cell (i := 0) rfl
      have x9_1 := x9.cell (i := 1) rfl
      have x9_2 := x9.cell (i := 2) rfl
      have x10_0 := x10.cell (i := 0) rfl
      have x10_1 := x10.cell (i := 1) rfl
      have x10_2 := x10.cell (i := 2) rfl
      clear u18
      rw [HCU.out] at cu))
 try go_wp2_with fail
 try clear hHeld
 refine hK.out _ _ ?_ (fun hHeld => ?_)
 · with_reducible exact ⟨UP, b2_0, b2_1, b2_2, b2_3, b2_4, b2_5, b2_6, b2_7, b2_8, x8_0, x8_1, x8_2, x9_0, x9_1, x9_2, x10_0, x10_1, x10_2⟩
 clear hK K
 try simp only [List.getElem_toArray, List.getElem_cons_zero, List.getElem_cons_succ, Act.put, List.setIfInBounds_toArray, List.set_cons_zero, List.set_cons_succ]
 refine wpAnyH_ready (rs := [13]) (by kernel_rfl) (by simp) ?_
 refine AllReadyH.cons rfl (fun K hK => ?_) AllReadyH.nil
 go_simp
 (first
   | (go_at_call 51
      ((with_reducible refine (ref_cut36 (qw_of2 qt qtd) (qw_of2 qn qnd) (qw_of2 qw qwd) LTT LEN LWA (by omega)).mono ?_))
      rintro e W19 ⟨V19, rfl, cr, u19⟩
      replace hl1 := hl1.up u19
      replace hm1 := hm1.up u19
      replace hl2 := hl2.up u19
      replace hm2 := hm2.up u19
      replace hl3 := hl3.up u19
      replace hm3 := hm3.up u19
      replace hl4 := hl4.up u19
      replace hm4 := hm4.up u19
      replace hl5 := hl5.up u19
      replace hm5 := hm5.up u19
      replace aF1 := aF1.up u19
      replace bF1 := bF1.up u19
      replace bF2 := bF2.up u19
      replace bF3 := bF3.up u19
      replace qt := qt.up u19
      replace qtd := qtd.up u19
      replace qn := qn.up u19
      replace qnd := qnd.up u19
      replace qw := qw.up u19
      replace qwd := qwd.up u19
      replace qa := qa.up u19
      replace qad := qad.up u19
      try (replace cu := cu.up u19)
      try (replace cr := cr.up u19)
      replace b0 := b0.up u19
      replace b1 := b1.up u19
      replace b2 := b2.up u19
      replace x7 := x7.up u19
      replace x8 := x8.up u19
      replace x9 := x9.up u19
      replace x10 := x10.up u19
      replace x11 := x11.up u19
      replace UP := UP.trans u19
      clear b2_0 b2_1 b2_2 b2_3 b2_4 b2_5 b2_6 b2_7 b2_8 x8_0 x8_1 x8_2 x9_0 x9_1 x9_2 x10_0 x10_1 x10_2
      have b2_0 := b2.cell (i := 0) rfl
      have b2_1 := b2.cell (i := 1) rfl
      have b2_2 := b2.cell (i := 2) rfl
      have b2_3 := b2.cell (i := 3) rfl
      have b2_4 := b2.cell (i := 4) rfl
      have b2_5 := b2.cell (i := 5) rfl
      have b2_6 := b2.cell (i := 6) rfl
      have b2_7 := b2.cell (i := 7) rfl
      have b2_8 := b2.cell (i := 8) rfl
      have x8_0 := x8.cell (i := 0) rfl
      have x8_1 := x8.cell (i := 1) rfl
      have x8_2 := x8.cell (i := 2) rfl
      have x9_0 := x9.cell (i := 0) rfl
      have x9_1 := x9.cell (i := 1) rfl
      have x9_2 := x9.cell (i := 2) rfl
      have x10_0 := x10.cell (i := 0) rfl
      have x10_1 := x10.cell (i := 1) rfl
      have x10_2 := x10.cell (i := 2) rfl
      clear u19
      rw [HCU.out] at cr))
 try go_wp2_with fail
 try clear hHeld
 refine hK.out _ _ ?_ (fun hHeld => ?_)
 · with_reducible exact ⟨UP, b2_0, b2_1, b2_2, b2_3, b2_4, b2_5, b2_6, b2_7, b2_8, x8_0, x8_1, x8_2, x9_0, x9_1, x9_2, x10_0, x10_1, x10_2⟩
 clear hK K
 try simp only [List.getElem_toArray, List.getElem_cons_zero, List.getElem_cons_succ, Act.put, List.setIfInBounds_toArray, List.set_cons_zero, List.set_cons_succ]
 refine wpAnyH_ready (rs := [14]) (by kernel_rfl) (by simp) ?_
 refine AllReadyH.cons rfl (fun K hK => ?_) AllReadyH.nil
 go_simp
 (first
   | (go_at_call 32
      ((with_reducible refine (law_is9 cu cr LCU (by omega)).mono ?_))
      rintro e W20 ⟨rfl, u20⟩
      replace hl1 := hl1.up u20
      replace hm1 := hm1.up u20
      replace hl2 := hl2.up u20
      replace hm2 := hm2.up u20
      replace hl3 := hl3.up u20
      replace hm3 := hm3.up u20
      replace hl4 := hl4.up u20
      replace hm4 := hm4.up u20
      replace hl5 := hl5.up u20
      replace hm5 := hm5.up u20
      replace aF1 := aF1.up u20
      replace bF1 := bF1.up u20
      replace bF2 := bF2.up u20
      replace bF3 := bF3.up u20
      replace qt := qt.up u20
      replace qtd := qtd.up u20
      replace qn := qn.up u20
      replace qnd := qnd.up u20
      replace qw := qw.up u20
      replace qwd := qwd.up u20
      replace qa := qa.up u20
      replace qad := qad.up u20
      try (replace cu := cu.up u20)
      try (replace cr := cr.up u20)
      replace b0 := b0.up u20
      replace b1 := b1.up u20
      replace b2 := b2.up u20
      replace x7 := x7.up u20
      replace x8 := x8.up u20
      replace x9 := x9.up u20
      replace x10 := x10.up u20
      replace x11 := x11.up u20
      replace UP := UP.trans u20
      clear b2_0 b2_1 b2_2 b2_3 b2_4 b2_5 b2_6 b2_7 b2_8 x8_0 x8_1 x8_2 x9_0 x9_1 x9_2 x10_0 x10_1 x10_2
      have b2_0 := b2.cell (i := 0) rfl
      have b2_1 := b2.cell (i := 1) rfl
      have b2_2 := b2.cell (i := 2) rfl
      have b2_3 := b2.cell (i := 3) rfl
      have b2_4 := b2.cell (i := 4) rfl
      have b2_5 := b2.cell (i := 5) rfl
      have b2_6 := b2.cell (i := 6) rfl
      have b2_7 := b2.cell (i := 7) rfl
      have b2_8 := b2.cell (i := 8) rfl
      have x8_0 := x8.cell (i := 0) rfl
      have x8_1 := x8.cell (i := 1) rfl
      have x8_2 := x8.cell (i := 2) rfl
      have x9_0 := x9.cell (i := 0) rfl
      have x9_1 := x9.cell (i := 1) rfl
      have x9_2 := x9.cell (i := 2) rfl
      have x10_0 := x10.cell (i := 0) rfl
      have x10_1 := x10.cell (i := 1) rfl
      have x10_2 := x10.cell (i := 2) rfl
      clear u20))
 try go_wp2_with fail
 try clear hHeld
 refine hK.out _ _ ?_ (fun hHeld => ?_)
 · with_reducible exact ⟨UP, b2_0, b2_1, b2_2, b2_3, b2_4, b2_5, b2_6, b2_7, b2_8, x8_0, x8_1, x8_2, x9_0, x9_1, x9_2, x10_0, x10_1, x10_2⟩
 clear hK K
 try simp only [List.getElem_toArray, List.getElem_cons_zero, List.getElem_cons_succ, Act.put, List.setIfInBounds_toArray, List.set_cons_zero, List.set_cons_succ]
 refine wpAnyH_take (i := 15) (v := ?_) rfl (by kernel_rfl) (by kernel_rfl) (by kernel_rfl) (fun _ _ _ h => h) (Or.inl ⟨by rfl, ?_⟩) (by assumption) ?_
 rotate_left
 · (intro w hSw; (try dsimp only at hSw); go_simp; first | done | with_reducible rfl)
 try simp only [List.getElem_toArray, List.getElem_cons_zero, List.getElem_cons_succ, Act.put, List.setIfInBounds_toArray, List.set_cons_zero, List.set_cons_succ]
 refine wpAnyH_done (by kernel_rfl) ?_ _
 refine NoPanic.normal ?_
 clear hHeld
 clear cu cr
 obtain ⟨z, HZ⟩ : ∃ z, Hid (Pc.wrong (List.all [(s1, l1, m1), (s2, l2, m2), (s3, l3, m3), (s4, l4, m4), (s5, l5, m5)] good) (mkRat (Wd.iv s1 (Wd.val l1)) (Wd.val m1)) (mkRat (Wd.iv s2 (Wd.val l2)) (Wd.val m2)) (mkRat (Wd.iv s3 (Wd.val l3)) (Wd.val m3)) (mkRat (Wd.iv s4 (Wd.val l4)) (Wd.val m4)) (mkRat (Wd.iv s5 (Wd.val l5)) (Wd.val m5)) fi mo = z) := ⟨_, Lib.hid rfl⟩
 go_wp2_with (with_reducible show wpList _ _ _ _ _ _; refine wl_load_box (o := ⟨_, Op.load 26 _, _, _, _, _⟩) rfl _ rfl rfl agg_r36z size_r36z b0 rfl ?_)
 ((with_reducible refine (ref_wrong36 hl1 hm1 hl2 hm2 hl3 hm3 hl4 hm4 hl5 hm5 hf1 hf2 hf3 hf4 hf5 hfi hmo).mono ?_))
 rintro e W21 ⟨rfl, u21⟩
 replace hl1 := hl1.up u21
 replace hm1 := hm1.up u21
 replace hl2 := hl2.up u21
 replace hm2 := hm2.up u21
 replace hl3 := hl3.up u21
 replace hm3 := hm3.up u21
 replace hl4 := hl4.up u21
 replace hm4 := hm4.up u21
 replace hl5 := hl5.up u21
 replace hm5 := hm5.up u21
 replace aF1 := aF1.up u21
 replace bF1 := bF1.up u21
 replace bF2 := bF2.up u21
 replace bF3 := bF3.up u21
 replace qt := qt.up u21
 replace qtd := qtd.up u21
 replace qn := qn.up u21
 replace qnd := qnd.up u21
 replace qw := qw.up u21
 replace qwd := qwd.up u21
 replace qa := qa.up u21
 replace qad := qad.up u21
 replace b0 := b0.up u21
 replace b1 := b1.up u21
 replace b2 := b2.up u21
 replace x7 := x7.up u21
 replace x8 := x8.up u21
 replace x9 := x9.up u21
 replace x10 := x10.up u21
 replace x11 := x11.up u21
 replace UP := UP.trans u21
 clear b2_0 b2_1 b2_2 b2_3 b2_4 b2_5 b2_6 b2_7 b2_8 x8_0 x8_1 x8_2 x9_0 x9_1 x9_2 x10_0 x10_1 x10_2
 clear u21
 rw [HZ.out]
 by_cases hz : z = 0
 rotate_left
 · have kz : (z == 0) = false := beq_false_of_ne hz
   go_wp2_with (with_reducible show wpList _ _ _ _ _ _; refine wl_load_box (o := ⟨_, Op.load 26 _, _, _, _, _⟩) rfl _ rfl rfl agg_r36z size_r36z b0 rfl ?_)
   refine (works36 _).mono ?_
   rintro e W99 ⟨rfl, u99⟩
   go_wp2
   go_ret
   exact ⟨rfl, UP.trans u99⟩
 subst hz
 have HW := Lib.hid (Pc.wrong_zero HZ.out)
 have HGD : Hid (good (s1, l1, m1) = true ∧ good (s2, l2, m2) = true ∧ good (s3, l3, m3) = true ∧ good (s4, l4, m4) = true ∧ good (s5, l5, m5) = true) := Lib.hid (by
  have := HW.out.1
  simpa only [List.all_cons, List.all_nil, Bool.and_true, Bool.and_eq_true] using this)
 have F1 := fr_raw (s := s1) hl1 hm1 hf1
 have HI1 := Lib.hid (good_is HGD.out.1)
 have M1 := qw_raw HI1.out.1 HI1.out.2.1 HI1.out.2.2 hl1 hm1
 have F2 := fr_raw (s := s2) hl2 hm2 hf2
 have HI2 := Lib.hid (good_is HGD.out.2.1)
 have M2 := qw_raw HI2.out.1 HI2.out.2.1 HI2.out.2.2 hl2 hm2
 have F3 := fr_raw (s := s3) hl3 hm3 hf3
 have HI3 := Lib.hid (good_is HGD.out.2.2.1)
 have M3 := qw_raw HI3.out.1 HI3.out.2.1 HI3.out.2.2 hl3 hm3
 have F4 := fr_raw (s := s4) hl4 hm4 hf4
 have HI4 := Lib.hid (good_is HGD.out.2.2.2.1)
 have M4 := qw_raw HI4.out.1 HI4.out.2.1 HI4.out.2.2 hl4 hm4
 have F5 := fr_raw (s := s5) hl5 hm5 hf5
 have HI5 := Lib.hid (good_is HGD.out.2.2.2.2)
 have M5 := qw_raw HI5.out.1 HI5.out.2.1 HI5.out.2.2 hl5 hm5
 clear HZ hf1 hf2 hf3 hf4 hf5 HGD HI1 HI2 HI3 HI4 HI5
 clear hl1 hm1 hl2 hm2 hl3 hm3 hl4 hm4 hl5 hm5
 generalize (mkRat (Wd.iv s1 (Wd.val l1)) (Wd.val m1)) = tol at *
 generalize (mkRat (Wd.iv s2 (Wd.val l2)) (Wd.val m2)) = safe at *
 generalize (mkRat (Wd.iv s3 (Wd.val l3)) (Wd.val m3)) = low at *
 generalize (mkRat (Wd.iv s4 (Wd.val l4)) (Wd.val m4)) = high at *
 generalize (mkRat (Wd.iv s5 (Wd.val l5)) (Wd.val m5)) = least at *
 have hfi2 : 1 ≤ fi ∧ fi ≤ 1024 := by obtain ⟨_, _, _, _, _, _, h1, h2, _, _⟩ := HW.out; exact ⟨h1, h2⟩
 have HT0 : Hid (0 ≤ tol) := Lib.hid HW.out.2.1
 have HS0 : Hid (0 < safe) := Lib.hid HW.out.2.2.1.1
 have HLH : Hid (low < high) := Lib.hid (by obtain ⟨_, _, _, ⟨_, h1⟩, h2, _⟩ := HW.out; grind)
 clear HW
 have L1 := F1.lq
 have L2 := F2.lq
 have L3 := F3.lq
 have L4 := F4.lq
 have L5 := F5.lq
 have LF := lq_fac5 L1 L2 L3 L4 LA hfi2.1 hfi2.2
 obtain ⟨F, HF⟩ : ∃ x, Hid (Pc.fac tol safe low high fi A = x) := ⟨_, Lib.hid rfl⟩
 rw [HF.out] at LF
 have LN := LWA.mul LF
 obtain ⟨N, HN⟩ : ∃ x, Hid (wa * F = x) := ⟨_, Lib.hid rfl⟩
 rw [HN.out] at LN
 have HP1 := Lib.hid (Pc.cmp_le A tol)
 obtain ⟨z1, HZ1⟩ : ∃ z, Hid (Wd.cmpQ A tol = z) := ⟨_, Lib.hid rfl⟩
 obtain ⟨ta, HTA⟩ : ∃ t, Hid (decide (A ≤ tol) = t) := ⟨_, Lib.hid rfl⟩
 rw [HZ1.out, HTA.out] at HP1
 have HP2 := Lib.hid (Pc.cmp_lt wa least)
 obtain ⟨z2, HZ2⟩ : ∃ z, Hid (Wd.cmpQ wa least = z) := ⟨_, Lib.hid rfl⟩
 obtain ⟨tu, HTU⟩ : ∃ t, Hid (decide (wa < least) = t) := ⟨_, Lib.hid rfl⟩
 rw [HZ2.out, HTU.out] at HP2
 have x11_0 := x11.cell (i := 0) rfl
 have x11_1 := x11.cell (i := 1) rfl
 have x11_2 := x11.cell (i := 2) rfl
 go_wp2_with (with_reducible show wpList _ _ _ _ _ _; refine wl_load_box (o := ⟨_, Op.load 26 _, _, _, _, _⟩) rfl _ rfl rfl agg_r36z size_r36z b0 rfl ?_)
 ((with_reducible refine (ref_factor36 M1 M2 M3 M4 L1 L2 L3 L4 (qw_of2 qa qad) LA (by omega) hfi2.1 hfi2.2 HT0 HS0 HA0 HLH).mono ?_))
 rintro e W22 ⟨V22, rfl, f, u22⟩
 replace aF1 := aF1.up u22
 replace bF1 := bF1.up u22
 replace bF2 := bF2.up u22
 replace bF3 := bF3.up u22
 replace qt := qt.up u22
 replace qtd := qtd.up u22
 replace qn := qn.up u22
 replace qnd := qnd.up u22
 replace qw := qw.up u22
 replace qwd := qwd.up u22
 replace qa := qa.up u22
 replace qad := qad.up u22
 replace F1 := F1.up u22
 replace F2 := F2.up u22
 replace F3 := F3.up u22
 replace F4 := F4.up u22
 replace F5 := F5.up u22
 replace M1 := M1.up u22
 replace M2 := M2.up u22
 replace M3 := M3.up u22
 replace M4 := M4.up u22
 replace M5 := M5.up u22
 replace b0 := b0.up u22
 replace b1 := b1.up u22
 replace b2 := b2.up u22
 replace x7 := x7.up u22
 replace x8 := x8.up u22
 replace x9 := x9.up u22
 replace x10 := x10.up u22
 replace x11 := x11.up u22
 replace UP := UP.trans u22
 clear x11_0 x11_1 x11_2
 clear u22
 rw [HF.out] at f
 obtain ⟨Xf, Yf, rfl, f, fd⟩ := f
 obtain ⟨Af, nf, cf, rfl⟩ := f.shape
 obtain ⟨Afd, nfd, cfd, rfl⟩ := fd.shape
 have x11_0 := x11.cell (i := 0) rfl
 have x11_1 := x11.cell (i := 1) rfl
 have x11_2 := x11.cell (i := 2) rfl
 have x11_0a := fun O0 => (cell_alloc (o := O0) x11_0)
 have x11_1a := fun O0 => (cell_alloc (o := O0) x11_1)
 have x11_2a := fun O0 => (cell_alloc (o := O0) x11_2)
 go_wp2_with (with_reducible show wpList _ _ _ _ _ _; refine wl_load_box (o := ⟨_, Op.load 26 _, _, _, _, _⟩) rfl _ rfl rfl agg_r36z size_r36z b0 rfl ?_)
 clear x11_0a x11_1a x11_2a
 have x12 := Bx.new 24 W22 [.bool (Wd.ngb F.num), .slice Af nf cf, .slice Afd nfd cfd]
 have b0_lt_x12 := b0.lt
 have b1_lt_x12 := b1.lt
 have b2_lt_x12 := b2.lt
 have x7_lt_x12 := x7.lt
 have x8_lt_x12 := x8.lt
 have x9_lt_x12 := x9.lt
 have x10_lt_x12 := x10.lt
 have x11_lt_x12 := x11.lt
 have nu := ((Up.refl W22).alloc (.cells #[.bool (Wd.ngb F.num), .slice Af nf cf, .slice Afd nfd cfd] 24))
 replace aF1 := aF1.up nu
 replace bF1 := bF1.up nu
 replace bF2 := bF2.up nu
 replace bF3 := bF3.up nu
 replace qt := qt.up nu
 replace qtd := qtd.up nu
 replace qn := qn.up nu
 replace qnd := qnd.up nu
 replace qw := qw.up nu
 replace qwd := qwd.up nu
 replace qa := qa.up nu
 replace qad := qad.up nu
 replace F1 := F1.up nu
 replace F2 := F2.up nu
 replace F3 := F3.up nu
 replace F4 := F4.up nu
 replace F5 := F5.up nu
 replace M1 := M1.up nu
 replace M2 := M2.up nu
 replace M3 := M3.up nu
 replace M4 := M4.up nu
 replace M5 := M5.up nu
 replace f := f.up nu
 replace fd := fd.up nu
 replace b0 := b0.up nu
 replace b1 := b1.up nu
 replace b2 := b2.up nu
 replace x7 := x7.up nu
 replace x8 := x8.up nu
 replace x9 := x9.up nu
 replace x10 := x10.up nu
 replace x11 := x11.up nu
 replace UP := UP.trans nu
 clear nu
 generalize (W22.alloc (.cells #[.bool (Wd.ngb F.num), .slice Af nf cf, .slice Afd nfd cfd] 24)) = W23 at *
 clear x11_0 x11_1 x11_2
 ((with_reducible refine (law_to9 _ _ _ _ _ _ _ _).mono ?_))
 rintro e W24 ⟨rfl, u24⟩
 replace aF1 := aF1.up u24
 replace bF1 := bF1.up u24
 replace bF2 := bF2.up u24
 replace bF3 := bF3.up u24
 replace qt := qt.up u24
 replace qtd := qtd.up u24
 replace qn := qn.up u24
 replace qnd := qnd.up u24
 replace qw := qw.up u24
 replace qwd := qwd.up u24
 replace qa := qa.up u24
 replace qad := qad.up u24
 replace F1 := F1.up u24
 replace F2 := F2.up u24
 replace F3 := F3.up u24
 replace F4 := F4.up u24
 replace F5 := F5.up u24
 replace M1 := M1.up u24
 replace M2 := M2.up u24
 replace M3 := M3.up u24
 replace M4 := M4.up u24
 replace M5 := M5.up u24
 replace f := f.up u24
 replace fd := fd.up u24
 replace b0 := b0.up u24
 replace b1 := b1.up u24
 replace b2 := b2.up u24
 replace x7 := x7.up u24
 replace x8 := x8.up u24
 replace x9 := x9.up u24
 replace x10 := x10.up u24
 replace x11 := x11.up u24
 replace x12 := x12.up u24
 replace UP := UP.trans u24
 clear u24
 go_upto_region 14 with with_reducible show wpList _ _ _ _ _ _; refine wl_load_box (o := ⟨_, Op.load 26 _, _, _, _, _⟩) rfl _ rfl rfl agg_r36z size_r36z b0 rfl ?_
 have x13 := Bx.new 34 W24 [.bool (Wd.ngb A.num), .slice Aqa nqa cqa, .slice Aqad nqad cqad]
 have b0_lt_x13 := b0.lt
 have b1_lt_x13 := b1.lt
 have b2_lt_x13 := b2.lt
 have x7_lt_x13 := x7.lt
 have x8_lt_x13 := x8.lt
 have x9_lt_x13 := x9.lt
 have x10_lt_x13 := x10.lt
 have x11_lt_x13 := x11.lt
 have x12_lt_x13 := x12.lt
 have nu := ((Up.refl W24).alloc (.cells #[.bool (Wd.ngb A.num), .slice Aqa nqa cqa, .slice Aqad nqad cqad] 34))
 replace aF1 := aF1.up nu
 replace bF1 := bF1.up nu
 replace bF2 := bF2.up nu
 replace bF3 := bF3.up nu
 replace qt := qt.up nu
 replace qtd := qtd.up nu
 replace qn := qn.up nu
 replace qnd := qnd.up nu
 replace qw := qw.up nu
 replace qwd := qwd.up nu
 replace qa := qa.up nu
 replace qad := qad.up nu
 replace F1 := F1.up nu
 replace F2 := F2.up nu
 replace F3 := F3.up nu
 replace F4 := F4.up nu
 replace F5 := F5.up nu
 replace M1 := M1.up nu
 replace M2 := M2.up nu
 replace M3 := M3.up nu
 replace M4 := M4.up nu
 replace M5 := M5.up nu
 replace f := f.up nu
 replace fd := fd.up nu
 replace b0 := b0.up nu
 replace b1 := b1.up nu
 replace b2 := b2.up nu
 replace x7 := x7.up nu
 replace x8 := x8.up nu
 replace x9 := x9.up nu
 replace x10 := x10.up nu
 replace x11 := x11.up nu
 replace x12 := x12.up nu
 replace UP := UP.trans nu
 clear nu
 generalize (W24.alloc (.cells #[.bool (Wd.ngb A.num), .slice Aqa nqa cqa, .slice Aqad nqad cqad] 34)) = W25 at *
 clear qt qtd qn qnd
 have k1 : decide (z1 ≤ 0) = ta := HP1.out
 have k2 : decide (z2 < 0) = tu := HP2.out
 have k3 : (ta == ta) = true := beq_self_eq_true ta
 have k4 : (tu == tu) = true := beq_self_eq_true tu
 have x11_0 := x11.cell (i := 0) rfl
 have x11_1 := x11.cell (i := 1) rfl
 have x11_2 := x11.cell (i := 2) rfl
 have x13_0 := x13.cell (i := 0) rfl
 have x13_1 := x13.cell (i := 1) rfl
 have x13_2 := x13.cell (i := 2) rfl
 have x12_0 := x12.cell (i := 0) rfl
 have x12_1 := x12.cell (i := 1) rfl
 have x12_2 := x12.cell (i := 2) rfl
 have x10_0 := x10.cell (i := 0) rfl
 have x10_1 := x10.cell (i := 1) rfl
 have x10_2 := x10.cell (i := 2) rfl
 have b2_6 := b2.cell (i := 6) rfl
 have b2_7 := b2.cell (i := 7) rfl
 have b2_8 := b2.cell (i := 8) rfl
 have b0_0 := b0.cell (i := 0) rfl
 have b0_1 := b0.cell (i := 1) rfl
 have b0_2 := b0.cell (i := 2) rfl
 have b0_12 := b0.cell (i := 12) rfl
 have b0_13 := b0.cell (i := 13) rfl
 have b0_14 := b0.cell (i := 14) rfl
 replace aF1 := aF1.up (Up.refl W25).drew
 replace bF1 := bF1.up (Up.refl W25).drew
 replace bF2 := bF2.up (Up.refl W25).drew
 replace bF3 := bF3.up (Up.refl W25).drew
 replace qw := qw.up (Up.refl W25).drew
 replace qwd := qwd.up (Up.refl W25).drew
 replace qa := qa.up (Up.refl W25).drew
 replace qad := qad.up (Up.refl W25).drew
 replace F1 := F1.up (Up.refl W25).drew
 replace F2 := F2.up (Up.refl W25).drew
 replace F3 := F3.up (Up.refl W25).drew
 replace F4 := F4.up (Up.refl W25).drew
 replace F5 := F5.up (Up.refl W25).drew
 replace M1 := M1.up (Up.refl W25).drew
 replace M2 := M2.up (Up.refl W25).drew
 replace M3 := M3.up (Up.refl W25).drew
 replace M4 := M4.up (Up.refl W25).drew
 replace M5 := M5.up (Up.refl W25).drew
 replace f := f.up (Up.refl W25).drew
 replace fd := fd.up (Up.refl W25).drew
 replace b0 := b0.up (Up.refl W25).drew
 replace b1 := b1.up (Up.refl W25).drew
 replace b2 := b2.up (Up.refl W25).drew
 replace x7 := x7.up (Up.refl W25).drew
 replace x8 := x8.up (Up.refl W25).drew
 replace x9 := x9.up (Up.refl W25).drew
 replace x10 := x10.up (Up.refl W25).drew
 replace x11 := x11.up (Up.refl W25).drew
 replace x12 := x12.up (Up.refl W25).drew
 replace x13 := x13.up (Up.refl W25).drew
 replace UP := UP.trans (Up.refl W25).drew
 clear b0_0 b0_1 b0_2 b0_12 b0_13 b0_14 b2_6 b2_7 b2_8 x10_0 x10_1 x10_2 x11_0 x11_1 x11_2 x12_0 x12_1 x12_2 x13_0 x13_1 x13_2
 have b0_0 := b0.cell (i := 0) rfl
 have b0_1 := b0.cell (i := 1) rfl
 have b0_2 := b0.cell (i := 2) rfl
 have b0_12 := b0.cell (i := 12) rfl
 have b0_13 := b0.cell (i := 13) rfl
 have b0_14 := b0.cell (i := 14) rfl
 have b2_6 := b2.cell (i := 6) rfl
 have b2_7 := b2.cell (i := 7) rfl
 have b2_8 := b2.cell (i := 8) rfl
 have x10_0 := x10.cell (i := 0) rfl
 have x10_1 := x10.cell (i := 1) rfl
 have x10_2 := x10.cell (i := 2) rfl
 have x11_0 := x11.cell (i := 0) rfl
 have x11_1 := x11.cell (i := 1) rfl
 have x11_2 := x11.cell (i := 2) rfl
 have x12_0 := x12.cell (i := 0) rfl
 have x12_1 := x12.cell (i := 1) rfl
 have x12_2 := x12.cell (i := 2) rfl
 have x13_0 := x13.cell (i := 0) rfl
 have x13_1 := x13.cell (i := 1) rfl
 have x13_2 := x13.cell (i := 2) rfl
 refine wp_region_noPanic ?_
 refine wp_region_held_drew (S := fun w' => Up w w' ∧ w'.cell? ⟨w.heap.size, 0, none⟩ = some (.bool s1) ∧ w'.cell? ⟨w.heap.size, 1, none⟩ = some (.slice A1 l1.length c1) ∧ w'.cell? ⟨w.heap.size, 2, none⟩ = some (.slice D1 m1.length e1) ∧ w'.cell? ⟨w.heap.size, 12, none⟩ = some (.bool s5) ∧ w'.cell? ⟨w.heap.size, 13, none⟩ = some (.slice A5 l5.length c5) ∧ w'.cell? ⟨w.heap.size, 14, none⟩ = some (.slice D5 m5.length e5) ∧ w'.cell? ⟨w.heap.size + 1 + 1, 6, none⟩ = some (.bool bs3) ∧ w'.cell? ⟨w.heap.size + 1 + 1, 7, none⟩ = some (.slice bA3 bl3.length bc3) ∧ w'.cell? ⟨w.heap.size + 1 + 1, 8, none⟩ = some (.slice bD3 bm3.length be3) ∧ w'.cell? ⟨W12.heap.size, 0, none⟩ = some (.bool (Wd.ngb wa.num)) ∧ w'.cell? ⟨W12.heap.size, 1, none⟩ = some (.slice Aqw nqw cqw) ∧ w'.cell? ⟨W12.heap.size, 2, none⟩ = some (.slice Aqwd nqwd cqwd) ∧ w'.cell? ⟨W15.heap.size, 0, none⟩ = some (.bool (Wd.ngb A.num)) ∧ w'.cell? ⟨W15.heap.size, 1, none⟩ = some (.slice Aqa nqa cqa) ∧ w'.cell? ⟨W15.heap.size, 2, none⟩ = some (.slice Aqad nqad cqad) ∧ w'.cell? ⟨W22.heap.size, 0, none⟩ = some (.bool (Wd.ngb F.num)) ∧ w'.cell? ⟨W22.heap.size, 1, none⟩ = some (.slice Af nf cf) ∧ w'.cell? ⟨W22.heap.size, 2, none⟩ = some (.slice Afd nfd cfd) ∧ w'.cell? ⟨W24.heap.size, 0, none⟩ = some (.bool (Wd.ngb A.num)) ∧ w'.cell? ⟨W24.heap.size, 1, none⟩ = some (.slice Aqa nqa cqa) ∧ w'.cell? ⟨W24.heap.size, 2, none⟩ = some (.slice Aqad nqad cqad) ∧ Bx 36 w' (W6.heap.size) [.bool s1, .slice A1 l1.length c1, .slice D1 m1.length e1, .bool s2, .slice A2 l2.length c2, .slice D2 m2.length e2, .bool s3, .slice A3 l3.length c3, .slice D3 m3.length e3, .bool s4, .slice A4 l4.length c4, .slice D4 m4.length e4, .bool s5, .slice A5 l5.length c5, .slice D5 m5.length e5, .int .i64 fi, .int .i64 mo]) (by kernel_rfl) ?_ (fun hHeld => ?_)
 · with_reducible exact ⟨UP, b0_0, b0_1, b0_2, b0_12, b0_13, b0_14, b2_6, b2_7, b2_8, x10_0, x10_1, x10_2, x11_0, x11_1, x11_2, x12_0, x12_1, x12_2, x13_0, x13_1, x13_2, x7⟩
 refine wpAnyH_take (i := 0) (v := .agg #[.bool s1, .slice A1 l1.length c1, .slice D1 m1.length e1, .bool s2, .slice A2 l2.length c2, .slice D2 m2.length e2, .bool s3, .slice A3 l3.length c3, .slice D3 m3.length e3, .bool s4, .slice A4 l4.length c4, .slice D4 m4.length e4, .bool s5, .slice A5 l5.length c5, .slice D5 m5.length e5, .int .i64 fi, .int .i64 mo]) rfl (by kernel_rfl) (by kernel_rfl) (by kernel_rfl) (fun _ _ _ h => h) (Or.inl ⟨by rfl, fun w hSw => exec_load_box rfl rfl agg_rules size_rules hSw.2.2.2.2.2.2.2.2.2.2.2.2.2.2.2.2.2.2.2.2.2.2 rfl⟩) (by assumption) ?_
 try simp only [List.getElem_toArray, List.getElem_cons_zero, List.getElem_cons_succ, Act.put, List.setIfInBounds_toArray, List.set_cons_zero, List.set_cons_succ]
 refine wpAnyH_take (i := 1) (v := ?_) rfl (by kernel_rfl) (by kernel_rfl) (by kernel_rfl) (fun _ _ _ h => h) (Or.inl ⟨by rfl, ?_⟩) (by assumption) ?_
 rotate_left
 · (intro w hSw; (try dsimp only at hSw); go_simp; first | done | with_reducible rfl)
 try simp only [List.getElem_toArray, List.getElem_cons_zero, List.getElem_cons_succ, Act.put, List.setIfInBounds_toArray, List.set_cons_zero, List.set_cons_succ]
 refine wpAnyH_take (i := 3) (v := ?_) rfl (by kernel_rfl) (by kernel_rfl) (by kernel_rfl) (fun _ _ _ h => h) (Or.inl ⟨by rfl, ?_⟩) (by assumption) ?_
 rotate_left
 · (intro w hSw; (try dsimp only at hSw); go_simp; first | done | with_reducible rfl)
 try simp only [List.getElem_toArray, List.getElem_cons_zero, List.getElem_cons_succ, Act.put, List.setIfInBounds_toArray, List.set_cons_zero, List.set_cons_succ]
 refine wpAnyH_take (i := 4) (v := ?_) rfl (by kernel_rfl) (by kernel_rfl) (by kernel_rfl) (fun _ _ _ h => h) (Or.inl ⟨by rfl, ?_⟩) (by assumption) ?_
 rotate_left
 · (intro w hSw; (try dsimp only at hSw); go_simp; first | done | with_reducible rfl)
 try simp only [List.getElem_toArray, List.getElem_cons_zero, List.getElem_cons_succ, Act.put, List.setIfInBounds_toArray, List.set_cons_zero, List.set_cons_succ]
 refine wpAnyH_take (i := 5) (v := ?_) rfl (by kernel_rfl) (by kernel_rfl) (by kernel_rfl) (fun _ _ _ h => h) (Or.inl ⟨by rfl, ?_⟩) (by assumption) ?_
 rotate_left
 · (intro w hSw; (try dsimp only at hSw); go_simp; first | done | with_reducible rfl)
 try simp only [List.getElem_toArray, List.getElem_cons_zero, List.getElem_cons_succ, Act.put, List.setIfInBounds_toArray, List.set_cons_zero, List.set_cons_succ]
 refine wpAnyH_ready (rs := [2]) (by kernel_rfl) (by simp) ?_
 refine AllReadyH.cons rfl (fun K hK => ?_) AllReadyH.nil
 go_simp
 (first
   | (go_at_call 53
      ((with_reducible refine (pace_accepts ((qw_of2 qa qad).fr LA) F1 (by omega)).mono ?_))
      rintro e W26 ⟨rfl, u26⟩
      replace aF1 := aF1.up u26
      replace bF1 := bF1.up u26
      replace bF2 := bF2.up u26
      replace bF3 := bF3.up u26
      replace qw := qw.up u26
      replace qwd := qwd.up u26
      replace qa := qa.up u26
      replace qad := qad.up u26
      replace F1 := F1.up u26
      replace F2 := F2.up u26
      replace F3 := F3.up u26
      replace F4 := F4.up u26
      replace F5 := F5.up u26
      replace M1 := M1.up u26
      replace M2 := M2.up u26
      replace M3 := M3.up u26
      replace M4 := M4.up u26
      replace M5 := M5.up u26
      replace f := f.up u26
      replace fd := fd.up u26
      try (replace fp := fp.up u26)
      try (replace nx := nx.up u26)
      try (replace nr := nr.up u26)
      replace b0 := b0.up u26
      replace b1 := b1.up u26
      replace b2 := b2.up u26
      replace x7 := x7.up u26
      replace x8 := x8.up u26
      replace x9 := x9.up u26
      replace x10 := x10.up u26
      replace x11 := x11.up u26
      replace x12 := x12.up u26
      replace x13 := x13.up u26
      replace UP := UP.trans u26
      clear b0_0 b0_1 b0_2 b0_12 b0_13 b0_14 b2_6 b2_7 b2_8 x10_0 x10_1 x10_2 x11_0 x11_1 x11_2 x12_0 x12_1 x12_2 x13_0 x13_1 x13_2
      have b0_0 := b0.cell (i := 0) rfl
      have b0_1 := b0.cell (i := 1) rfl
      have b0_2 := b0.cell (i := 2) rfl
      have b0_12 := b0.cell (i := 12) rfl
      have b0_13 := b0.cell (i := 13) rfl
      have b0_14 := b0.cell (i := 14) rfl
      have b2_6 := b2.cell (i := 6) rfl
      have b2_7 := b2.cell (i := 7) rfl
      have b2_8 := b2.cell (i := 8) rfl
      have x10_0 := x10.cell (i := 0) rfl
      have x10_1 := x10.cell (i := 1) rfl
      have x10_2 := x10.cell (i := 2) rfl
      have x11_0 := x11.cell (i := 0) rfl
      have x11_1 := x11.cell (i := 1) rfl
      have x11_2 := x11.cell (i := 2) rfl
      have x12_0 := x12.cell (i := 0) rfl
      have x12_1 := x12.cell (i := 1) rfl
      have x12_2 := x12.cell (i := 2) rfl
      have x13_0 := x13.cell (i := 0) rfl
      have x13_1 := x13.cell (i := 1) rfl
      have x13_2 := x13.cell (i := 2) rfl
      clear u26
      rw [HTA.out]))
 try go_wp2_with fail
 try clear hHeld
 refine hK.out _ _ ?_ (fun hHeld => ?_)
 · with_reducible exact ⟨UP, b0_0, b0_1, b0_2, b0_12, b0_13, b0_14, b2_6, b2_7, b2_8, x10_0, x10_1, x10_2, x11_0, x11_1, x11_2, x12_0, x12_1, x12_2, x13_0, x13_1, x13_2, x7⟩
 clear hK K
 try simp only [List.getElem_toArray, List.getElem_cons_zero, List.getElem_cons_succ, Act.put, List.setIfInBounds_toArray, List.set_cons_zero, List.set_cons_succ]
 refine wpAnyH_ready (rs := [6]) (by kernel_rfl) (by simp) ?_
 refine AllReadyH.cons rfl (fun K hK => ?_) AllReadyH.nil
 go_simp
 (first
   | (go_at_call 54
      ((with_reducible refine (ref9_cmp (qw_of2 qa qad) M1 LA L1 (by omega) (by omega)).mono ?_))
      rintro e W27 ⟨rfl, u27⟩
      replace aF1 := aF1.up u27
      replace bF1 := bF1.up u27
      replace bF2 := bF2.up u27
      replace bF3 := bF3.up u27
      replace qw := qw.up u27
      replace qwd := qwd.up u27
      replace qa := qa.up u27
      replace qad := qad.up u27
      replace F1 := F1.up u27
      replace F2 := F2.up u27
      replace F3 := F3.up u27
      replace F4 := F4.up u27
      replace F5 := F5.up u27
      replace M1 := M1.up u27
      replace M2 := M2.up u27
      replace M3 := M3.up u27
      replace M4 := M4.up u27
      replace M5 := M5.up u27
      replace f := f.up u27
      replace fd := fd.up u27
      try (replace fp := fp.up u27)
      try (replace nx := nx.up u27)
      try (replace nr := nr.up u27)
      replace b0 := b0.up u27
      replace b1 := b1.up u27
      replace b2 := b2.up u27
      replace x7 := x7.up u27
      replace x8 := x8.up u27
      replace x9 := x9.up u27
      replace x10 := x10.up u27
      replace x11 := x11.up u27
      replace x12 := x12.up u27
      replace x13 := x13.up u27
      replace UP := UP.trans u27
      clear b0_0 b0_1 b0_2 b0_12 b0_13 b0_14 b2_6 b2_7 b2_8 x10_0 x10_1 x10_2 x11_0 x11_1 x11_2 x12_0 x12_1 x12_2 x13_0 x13_1 x13_2
      have b0_0 := b0.cell (i := 0) rfl
      have b0_1 := b0.cell (i := 1) rfl
      have b0_2 := b0.cell (i := 2) rfl
      have b0_12 := b0.cell (i := 12) rfl
      have b0_13 := b0.cell (i := 13) rfl
      have b0_14 := b0.cell (i := 14) rfl
      have b2_6 := b2.cell (i := 6) rfl
      have b2_7 := b2.cell (i := 7) rfl
      have b2_8 := b2.cell (i := 8) rfl
      have x10_0 := x10.cell (i := 0) rfl
      have x10_1 := x10.cell (i := 1) rfl
      have x10_2 := x10.cell (i := 2) rfl
      have x11_0 := x11.cell (i := 0) rfl
      have x11_1 := x11.cell (i := 1) rfl
      have x11_2 := x11.cell (i := 2) rfl
      have x12_0 := x12.cell (i := 0) rfl
      have x12_1 := x12.cell (i := 1) rfl
      have x12_2 := x12.cell (i := 2) rfl
      have x13_0 := x13.cell (i := 0) rfl
      have x13_1 := x13.cell (i := 1) rfl
      have x13_2 := x13.cell (i := 2) rfl
      clear u27
      rw [HZ1.out]))
 try go_wp2_with fail
 try clear hHeld
 refine hK.out _ _ ?_ (fun hHeld => ?_)
 · with_reducible exact ⟨UP, b0_0, b0_1, b0_2, b0_12, b0_13, b0_14, b2_6, b2_7, b2_8, x10_0, x10_1, x10_2, x11_0, x11_1, x11_2, x12_0, x12_1, x12_2, x13_0, x13_1, x13_2, x7⟩
 clear hK K
 try simp only [List.getElem_toArray, List.getElem_cons_zero, List.getElem_cons_succ, Act.put, List.setIfInBounds_toArray, List.set_cons_zero, List.set_cons_succ]
 refine wpAnyH_take (i := 7) (v := ?_) rfl (by kernel_rfl) (by kernel_rfl) (by kernel_rfl) (fun _ _ _ h => h) (Or.inl ⟨by rfl, ?_⟩) (by assumption) ?_
 rotate_left
 · (intro w hSw; (try dsimp only at hSw); go_simp; first | done | with_reducible rfl)
 try simp only [List.getElem_toArray, List.getElem_cons_zero, List.getElem_cons_succ, Act.put, List.setIfInBounds_toArray, List.set_cons_zero, List.set_cons_succ]
 refine wpAnyH_take (i := 8) (v := ?_) rfl (by kernel_rfl) (by kernel_rfl) (by kernel_rfl) (fun _ _ _ h => h) (Or.inl ⟨by rfl, ?_⟩) (by assumption) ?_
 rotate_left
 · (intro w hSw; (try dsimp only at hSw); go_simp; first | done | with_reducible rfl)
 try simp only [List.getElem_toArray, List.getElem_cons_zero, List.getElem_cons_succ, Act.put, List.setIfInBounds_toArray, List.set_cons_zero, List.set_cons_succ]
 refine wpAnyH_take (i := 9) (v := ?_) rfl (by kernel_rfl) (by kernel_rfl) (by kernel_rfl) (fun _ _ _ h => h) (Or.inl ⟨by rfl, ?_⟩) (by assumption) ?_
 rotate_left
 · (intro w hSw; (try dsimp only at hSw); go_simp; first | done | with_reducible rfl)
 try simp only [List.getElem_toArray, List.getElem_cons_zero, List.getElem_cons_succ, Act.put, List.setIfInBounds_toArray, List.set_cons_zero, List.set_cons_succ]
 refine wpAnyH_take (i := 10) (v := .agg #[.bool s1, .slice A1 l1.length c1, .slice D1 m1.length e1, .bool s2, .slice A2 l2.length c2, .slice D2 m2.length e2, .bool s3, .slice A3 l3.length c3, .slice D3 m3.length e3, .bool s4, .slice A4 l4.length c4, .slice D4 m4.length e4, .bool s5, .slice A5 l5.length c5, .slice D5 m5.length e5, .int .i64 fi, .int .i64 mo]) rfl (by kernel_rfl) (by kernel_rfl) (by kernel_rfl) (fun _ _ _ h => h) (Or.inl ⟨by rfl, fun w hSw => exec_load_box rfl rfl agg_rules size_rules hSw.2.2.2.2.2.2.2.2.2.2.2.2.2.2.2.2.2.2.2.2.2.2 rfl⟩) (by assumption) ?_
 try simp only [List.getElem_toArray, List.getElem_cons_zero, List.getElem_cons_succ, Act.put, List.setIfInBounds_toArray, List.set_cons_zero, List.set_cons_succ]
 refine wpAnyH_take (i := 11) (v := ?_) rfl (by kernel_rfl) (by kernel_rfl) (by kernel_rfl) (fun _ _ _ h => h) (Or.inl ⟨by rfl, ?_⟩) (by assumption) ?_
 rotate_left
 · (intro w hSw; (try dsimp only at hSw); go_simp; first | done | with_reducible rfl)
 try simp only [List.getElem_toArray, List.getElem_cons_zero, List.getElem_cons_succ, Act.put, List.setIfInBounds_toArray, List.set_cons_zero, List.set_cons_succ]
 refine wpAnyH_take (i := 13) (v := ?_) rfl (by kernel_rfl) (by kernel_rfl) (by kernel_rfl) (fun _ _ _ h => h) (Or.inl ⟨by rfl, ?_⟩) (by assumption) ?_
 rotate_left
 · (intro w hSw; (try dsimp only at hSw); go_simp; first | done | with_reducible rfl)
 try simp only [List.getElem_toArray, List.getElem_cons_zero, List.getElem_cons_succ, Act.put, List.setIfInBounds_toArray, List.set_cons_zero, List.set_cons_succ]
 refine wpAnyH_ready (rs := [12]) (by kernel_rfl) (by simp) ?_
 refine AllReadyH.cons rfl (fun K hK => ?_) AllReadyH.nil
 go_simp
 (first
   | (go_at_call 55
      ((with_reducible refine (pace_factor F1 F2 F3 F4 ((qw_of2 qa qad).fr LA) (by omega) hfi2.1 hfi2.2).mono ?_))
      rintro e W28 ⟨V28, rfl, fp, u28⟩
      replace aF1 := aF1.up u28
      replace bF1 := bF1.up u28
      replace bF2 := bF2.up u28
      replace bF3 := bF3.up u28
      replace qw := qw.up u28
      replace qwd := qwd.up u28
      replace qa := qa.up u28
      replace qad := qad.up u28
      replace F1 := F1.up u28
      replace F2 := F2.up u28
      replace F3 := F3.up u28
      replace F4 := F4.up u28
      replace F5 := F5.up u28
      replace M1 := M1.up u28
      replace M2 := M2.up u28
      replace M3 := M3.up u28
      replace M4 := M4.up u28
      replace M5 := M5.up u28
      replace f := f.up u28
      replace fd := fd.up u28
      try (replace fp := fp.up u28)
      try (replace nx := nx.up u28)
      try (replace nr := nr.up u28)
      replace b0 := b0.up u28
      replace b1 := b1.up u28
      replace b2 := b2.up u28
      replace x7 := x7.up u28
      replace x8 := x8.up u28
      replace x9 := x9.up u28
      replace x10 := x10.up u28
      replace x11 := x11.up u28
      replace x12 := x12.up u28
      replace x13 := x13.up u28
      replace UP := UP.trans u28
      clear b0_0 b0_1 b0_2 b0_12 b0_13 b0_14 b2_6 b2_7 b2_8 x10_0 x10_1 x10_2 x11_0 x11_1 x11_2 x12_0 x12_1 x12_2 x13_0 x13_1 x13_2
      have b0_0 := b0.cell (i := 0) rfl
      have b0_1 := b0.cell (i := 1) rfl
      have b0_2 := b0.cell (i := 2) rfl
      have b0_12 := b0.cell (i := 12) rfl
      have b0_13 := b0.cell (i := 13) rfl
      have b0_14 := b0.cell (i := 14) rfl
      have b2_6 := b2.cell (i := 6) rfl
      have b2_7 := b2.cell (i := 7) rfl
      have b2_8 := b2.cell (i := 8) rfl
      have x10_0 := x10.cell (i := 0) rfl
      have x10_1 := x10.cell (i := 1) rfl
      have x10_2 := x10.cell (i := 2) rfl
      have x11_0 := x11.cell (i := 0) rfl
      have x11_1 := x11.cell (i := 1) rfl
      have x11_2 := x11.cell (i := 2) rfl
      have x12_0 := x12.cell (i := 0) rfl
      have x12_1 := x12.cell (i := 1) rfl
      have x12_2 := x12.cell (i := 2) rfl
      have x13_0 := x13.cell (i := 0) rfl
      have x13_1 := x13.cell (i := 1) rfl
      have x13_2 := x13.cell (i := 2) rfl
      clear u28
      rw [HF.out] at fp))
 try go_wp2_with fail
 try clear hHeld
 refine hK.out _ _ ?_ (fun hHeld => ?_)
 · with_reducible exact ⟨UP, b0_0, b0_1, b0_2, b0_12, b0_13, b0_14, b2_6, b2_7, b2_8, x10_0, x10_1, x10_2, x11_0, x11_1, x11_2, x12_0, x12_1, x12_2, x13_0, x13_1, x13_2, x7⟩
 clear hK K
 try simp only [List.getElem_toArray, List.getElem_cons_zero, List.getElem_cons_succ, Act.put, List.setIfInBounds_toArray, List.set_cons_zero, List.set_cons_succ]
 refine wpAnyH_ready (rs := [14]) (by kernel_rfl) (by simp) ?_
 refine AllReadyH.cons rfl (fun K hK => ?_) AllReadyH.nil
 go_simp
 (first
   | (go_at_call 32
      ((with_reducible refine (law_is9 fp (qw_of2 f fd) LF (by omega)).mono ?_))
      rintro e W29 ⟨rfl, u29⟩
      replace aF1 := aF1.up u29
      replace bF1 := bF1.up u29
      replace bF2 := bF2.up u29
      replace bF3 := bF3.up u29
      replace qw := qw.up u29
      replace qwd := qwd.up u29
      replace qa := qa.up u29
      replace qad := qad.up u29
      replace F1 := F1.up u29
      replace F2 := F2.up u29
      replace F3 := F3.up u29
      replace F4 := F4.up u29
      replace F5 := F5.up u29
      replace M1 := M1.up u29
      replace M2 := M2.up u29
      replace M3 := M3.up u29
      replace M4 := M4.up u29
      replace M5 := M5.up u29
      replace f := f.up u29
      replace fd := fd.up u29
      try (replace fp := fp.up u29)
      try (replace nx := nx.up u29)
      try (replace nr := nr.up u29)
      replace b0 := b0.up u29
      replace b1 := b1.up u29
      replace b2 := b2.up u29
      replace x7 := x7.up u29
      replace x8 := x8.up u29
      replace x9 := x9.up u29
      replace x10 := x10.up u29
      replace x11 := x11.up u29
      replace x12 := x12.up u29
      replace x13 := x13.up u29
      replace UP := UP.trans u29
      clear b0_0 b0_1 b0_2 b0_12 b0_13 b0_14 b2_6 b2_7 b2_8 x10_0 x10_1 x10_2 x11_0 x11_1 x11_2 x12_0 x12_1 x12_2 x13_0 x13_1 x13_2
      have b0_0 := b0.cell (i := 0) rfl
      have b0_1 := b0.cell (i := 1) rfl
      have b0_2 := b0.cell (i := 2) rfl
      have b0_12 := b0.cell (i := 12) rfl
      have b0_13 := b0.cell (i := 13) rfl
      have b0_14 := b0.cell (i := 14) rfl
      have b2_6 := b2.cell (i := 6) rfl
      have b2_7 := b2.cell (i := 7) rfl
      have b2_8 := b2.cell (i := 8) rfl
      have x10_0 := x10.cell (i := 0) rfl
      have x10_1 := x10.cell (i := 1) rfl
      have x10_2 := x10.cell (i := 2) rfl
      have x11_0 := x11.cell (i := 0) rfl
      have x11_1 := x11.cell (i := 1) rfl
      have x11_2 := x11.cell (i := 2) rfl
      have x12_0 := x12.cell (i := 0) rfl
      have x12_1 := x12.cell (i := 1) rfl
      have x12_2 := x12.cell (i := 2) rfl
      have x13_0 := x13.cell (i := 0) rfl
      have x13_1 := x13.cell (i := 1) rfl
      have x13_2 := x13.cell (i := 2) rfl
      clear u29))
 try go_wp2_with fail
 try clear hHeld
 refine hK.out _ _ ?_ (fun hHeld => ?_)
 · with_reducible exact ⟨UP, b0_0, b0_1, b0_2, b0_12, b0_13, b0_14, b2_6, b2_7, b2_8, x10_0, x10_1, x10_2, x11_0, x11_1, x11_2, x12_0, x12_1, x12_2, x13_0, x13_1, x13_2, x7⟩
 clear hK K
 try simp only [List.getElem_toArray, List.getElem_cons_zero, List.getElem_cons_succ, Act.put, List.setIfInBounds_toArray, List.set_cons_zero, List.set_cons_succ]
 refine wpAnyH_take (i := 15) (v := ?_) rfl (by kernel_rfl) (by kernel_rfl) (by kernel_rfl) (fun _ _ _ h => h) (Or.inl ⟨by rfl, ?_⟩) (by assumption) ?_
 rotate_left
 · (intro w hSw; (try dsimp only at hSw); go_simp; first | done | with_reducible rfl)
 try simp only [List.getElem_toArray, List.getElem_cons_zero, List.getElem_cons_succ, Act.put, List.setIfInBounds_toArray, List.set_cons_zero, List.set_cons_succ]
 refine wpAnyH_take (i := 16) (v := ?_) rfl (by kernel_rfl) (by kernel_rfl) (by kernel_rfl) (fun _ _ _ h => h) (Or.inl ⟨by rfl, ?_⟩) (by assumption) ?_
 rotate_left
 · (intro w hSw; (try dsimp only at hSw); go_simp; first | done | with_reducible rfl)
 try simp only [List.getElem_toArray, List.getElem_cons_zero, List.getElem_cons_succ, Act.put, List.setIfInBounds_toArray, List.set_cons_zero, List.set_cons_succ]
 refine wpAnyH_take (i := 17) (v := .agg #[.bool s1, .slice A1 l1.length c1, .slice D1 m1.length e1, .bool s2, .slice A2 l2.length c2, .slice D2 m2.length e2, .bool s3, .slice A3 l3.length c3, .slice D3 m3.length e3, .bool s4, .slice A4 l4.length c4, .slice D4 m4.length e4, .bool s5, .slice A5 l5.length c5, .slice D5 m5.length e5, .int .i64 fi, .int .i64 mo]) rfl (by kernel_rfl) (by kernel_rfl) (by kernel_rfl) (fun _ _ _ h => h) (Or.inl ⟨by rfl, fun w hSw => exec_load_box rfl rfl agg_rules size_rules hSw.2.2.2.2.2.2.2.2.2.2.2.2.2.2.2.2.2.2.2.2.2.2 rfl⟩) (by assumption) ?_
 try simp only [List.getElem_toArray, List.getElem_cons_zero, List.getElem_cons_succ, Act.put, List.setIfInBounds_toArray, List.set_cons_zero, List.set_cons_succ]
 refine wpAnyH_take (i := 18) (v := ?_) rfl (by kernel_rfl) (by kernel_rfl) (by kernel_rfl) (fun _ _ _ h => h) (Or.inl ⟨by rfl, ?_⟩) (by assumption) ?_
 rotate_left
 · (intro w hSw; (try dsimp only at hSw); go_simp; first | done | with_reducible rfl)
 try simp only [List.getElem_toArray, List.getElem_cons_zero, List.getElem_cons_succ, Act.put, List.setIfInBounds_toArray, List.set_cons_zero, List.set_cons_succ]
 refine wpAnyH_take (i := 19) (v := ?_) rfl (by kernel_rfl) (by kernel_rfl) (by kernel_rfl) (fun _ _ _ h => h) (Or.inl ⟨by rfl, ?_⟩) (by assumption) ?_
 rotate_left
 · (intro w hSw; (try dsimp only at hSw); go_simp; first | done | with_reducible rfl)
 try simp only [List.getElem_toArray, List.getElem_cons_zero, List.getElem_cons_succ, Act.put, List.setIfInBounds_toArray, List.set_cons_zero, List.set_cons_succ]
 refine wpAnyH_take (i := 21) (v := ?_) rfl (by kernel_rfl) (by kernel_rfl) (by kernel_rfl) (fun _ _ _ h => h) (Or.inl ⟨by rfl, ?_⟩) (by assumption) ?_
 rotate_left
 · (intro w hSw; (try dsimp only at hSw); go_simp; first | done | with_reducible rfl)
 try simp only [List.getElem_toArray, List.getElem_cons_zero, List.getElem_cons_succ, Act.put, List.setIfInBounds_toArray, List.set_cons_zero, List.set_cons_succ]
 refine wpAnyH_take (i := 23) (v := ?_) rfl (by kernel_rfl) (by kernel_rfl) (by kernel_rfl) (fun _ _ _ h => h) (Or.inl ⟨by rfl, ?_⟩) (by assumption) ?_
 rotate_left
 · (intro w hSw; (try dsimp only at hSw); go_simp; first | done | with_reducible rfl)
 try simp only [List.getElem_toArray, List.getElem_cons_zero, List.getElem_cons_succ, Act.put, List.setIfInBounds_toArray, List.set_cons_zero, List.set_cons_succ]
 refine wpAnyH_take (i := 24) (v := ?_) rfl (by kernel_rfl) (by kernel_rfl) (by kernel_rfl) (fun _ _ _ h => h) (Or.inl ⟨by rfl, ?_⟩) (by assumption) ?_
 rotate_left
 · (intro w hSw; (try dsimp only at hSw); go_simp; first | done | with_reducible rfl)
 try simp only [List.getElem_toArray, List.getElem_cons_zero, List.getElem_cons_succ, Act.put, List.setIfInBounds_toArray, List.set_cons_zero, List.set_cons_succ]
 refine wpAnyH_ready (rs := [20]) (by kernel_rfl) (by simp) ?_
 refine AllReadyH.cons rfl (fun K hK => ?_) AllReadyH.nil
 go_simp
 (first
   | (go_at_call 26
      ((with_reducible refine (law_to9 _ _ _ _ _ _ _ _).mono ?_))
      rintro e W30 ⟨rfl, u30⟩
      replace aF1 := aF1.up u30
      replace bF1 := bF1.up u30
      replace bF2 := bF2.up u30
      replace bF3 := bF3.up u30
      replace qw := qw.up u30
      replace qwd := qwd.up u30
      replace qa := qa.up u30
      replace qad := qad.up u30
      replace F1 := F1.up u30
      replace F2 := F2.up u30
      replace F3 := F3.up u30
      replace F4 := F4.up u30
      replace F5 := F5.up u30
      replace M1 := M1.up u30
      replace M2 := M2.up u30
      replace M3 := M3.up u30
      replace M4 := M4.up u30
      replace M5 := M5.up u30
      replace f := f.up u30
      replace fd := fd.up u30
      try (replace fp := fp.up u30)
      try (replace nx := nx.up u30)
      try (replace nr := nr.up u30)
      replace b0 := b0.up u30
      replace b1 := b1.up u30
      replace b2 := b2.up u30
      replace x7 := x7.up u30
      replace x8 := x8.up u30
      replace x9 := x9.up u30
      replace x10 := x10.up u30
      replace x11 := x11.up u30
      replace x12 := x12.up u30
      replace x13 := x13.up u30
      replace UP := UP.trans u30
      clear b0_0 b0_1 b0_2 b0_12 b0_13 b0_14 b2_6 b2_7 b2_8 x10_0 x10_1 x10_2 x11_0 x11_1 x11_2 x12_0 x12_1 x12_2 x13_0 x13_1 x13_2
      have b0_0 := b0.cell (i := 0) rfl
      have b0_1 := b0.cell (i := 1) rfl
      have b0_2 := b0.cell (i := 2) rfl
      have b0_12 := b0.cell (i := 12) rfl
      have b0_13 := b0.cell (i := 13) rfl
      have b0_14 := b0.cell (i := 14) rfl
      have b2_6 := b2.cell (i := 6) rfl
      have b2_7 := b2.cell (i := 7) rfl
      have b2_8 := b2.cell (i := 8) rfl
      have x10_0 := x10.cell (i := 0) rfl
      have x10_1 := x10.cell (i := 1) rfl
      have x10_2 := x10.cell (i := 2) rfl
      have x11_0 := x11.cell (i := 0) rfl
      have x11_1 := x11.cell (i := 1) rfl
      have x11_2 := x11.cell (i := 2) rfl
      have x12_0 := x12.cell (i := 0) rfl
      have x12_1 := x12.cell (i := 1) rfl
      have x12_2 := x12.cell (i := 2) rfl
      have x13_0 := x13.cell (i := 0) rfl
      have x13_1 := x13.cell (i := 1) rfl
      have x13_2 := x13.cell (i := 2) rfl
      clear u30))
 try go_wp2_with fail
 try clear hHeld
 refine hK.out _ _ ?_ (fun hHeld => ?_)
 · with_reducible exact ⟨UP, b0_0, b0_1, b0_2, b0_12, b0_13, b0_14, b2_6, b2_7, b2_8, x10_0, x10_1, x10_2, x11_0, x11_1, x11_2, x12_0, x12_1, x12_2, x13_0, x13_1, x13_2, x7⟩
 clear hK K
 try simp only [List.getElem_toArray, List.getElem_cons_zero, List.getElem_cons_succ, Act.put, List.setIfInBounds_toArray, List.set_cons_zero, List.set_cons_succ]
 refine wpAnyH_ready (rs := [22]) (by kernel_rfl) (by simp) ?_
 refine AllReadyH.cons rfl (fun K hK => ?_) AllReadyH.nil
 go_simp
 (first
   | (go_at_call 56
      ((with_reducible refine (pace_next F1 F2 F3 F4 bF3 (by omega) ((qw_of2 qa qad).fr LA) (by omega) hfi2.1 hfi2.2).mono ?_))
      rintro e W31 ⟨V31, rfl, nx, u31⟩
      replace aF1 := aF1.up u31
      replace bF1 := bF1.up u31
      replace bF2 := bF2.up u31
      replace bF3 := bF3.up u31
      replace qw := qw.up u31
      replace qwd := qwd.up u31
      replace qa := qa.up u31
      replace qad := qad.up u31
      replace F1 := F1.up u31
      replace F2 := F2.up u31
      replace F3 := F3.up u31
      replace F4 := F4.up u31
      replace F5 := F5.up u31
      replace M1 := M1.up u31
      replace M2 := M2.up u31
      replace M3 := M3.up u31
      replace M4 := M4.up u31
      replace M5 := M5.up u31
      replace f := f.up u31
      replace fd := fd.up u31
      try (replace fp := fp.up u31)
      try (replace nx := nx.up u31)
      try (replace nr := nr.up u31)
      replace b0 := b0.up u31
      replace b1 := b1.up u31
      replace b2 := b2.up u31
      replace x7 := x7.up u31
      replace x8 := x8.up u31
      replace x9 := x9.up u31
      replace x10 := x10.up u31
      replace x11 := x11.up u31
      replace x12 := x12.up u31
      replace x13 := x13.up u31
      replace UP := UP.trans u31
      clear b0_0 b0_1 b0_2 b0_12 b0_13 b0_14 b2_6 b2_7 b2_8 x10_0 x10_1 x10_2 x11_0 x11_1 x11_2 x12_0 x12_1 x12_2 x13_0 x13_1 x13_2
      have b0_0 := b0.cell (i := 0) rfl
      have b0_1 := b0.cell (i := 1) rfl
      have b0_2 := b0.cell (i := 2) rfl
      have b0_12 := b0.cell (i := 12) rfl
      have b0_13 := b0.cell (i := 13) rfl
      have b0_14 := b0.cell (i := 14) rfl
      have b2_6 := b2.cell (i := 6) rfl
      have b2_7 := b2.cell (i := 7) rfl
      have b2_8 := b2.cell (i := 8) rfl
      have x10_0 := x10.cell (i := 0) rfl
      have x10_1 := x10.cell (i := 1) rfl
      have x10_2 := x10.cell (i := 2) rfl
      have x11_0 := x11.cell (i := 0) rfl
      have x11_1 := x11.cell (i := 1) rfl
      have x11_2 := x11.cell (i := 2) rfl
      have x12_0 := x12.cell (i := 0) rfl
      have x12_1 := x12.cell (i := 1) rfl
      have x12_2 := x12.cell (i := 2) rfl
      have x13_0 := x13.cell (i := 0) rfl
      have x13_1 := x13.cell (i := 1) rfl
      have x13_2 := x13.cell (i := 2) rfl
      clear u31
      rw [HF.out, HN.out] at nx))
 try go_wp2_with fail
 try clear hHeld
 refine hK.out _ _ ?_ (fun hHeld => ?_)
 · with_reducible exact ⟨UP, b0_0, b0_1, b0_2, b0_12, b0_13, b0_14, b2_6, b2_7, b2_8, x10_0, x10_1, x10_2, x11_0, x11_1, x11_2, x12_0, x12_1, x12_2, x13_0, x13_1, x13_2, x7⟩
 clear hK K
 try simp only [List.getElem_toArray, List.getElem_cons_zero, List.getElem_cons_succ, Act.put, List.setIfInBounds_toArray, List.set_cons_zero, List.set_cons_succ]
 refine wpAnyH_ready (rs := [25]) (by kernel_rfl) (by simp) ?_
 refine AllReadyH.cons rfl (fun K hK => ?_) AllReadyH.nil
 go_simp
 (first
   | (go_at_call 57
      ((with_reducible refine (ref9_mul (qw_of2 qw qwd) (qw_of2 f fd) LWA LF (by omega) (by omega)).mono ?_))
      rintro e W32 ⟨V32, rfl, nr, u32⟩
      replace aF1 := aF1.up u32
      replace bF1 := bF1.up u32
      replace bF2 := bF2.up u32
      replace bF3 := bF3.up u32
      replace qw := qw.up u32
      replace qwd := qwd.up u32
      replace qa := qa.up u32
      replace qad := qad.up u32
      replace F1 := F1.up u32
      replace F2 := F2.up u32
      replace F3 := F3.up u32
      replace F4 := F4.up u32
      replace F5 := F5.up u32
      replace M1 := M1.up u32
      replace M2 := M2.up u32
      replace M3 := M3.up u32
      replace M4 := M4.up u32
      replace M5 := M5.up u32
      replace f := f.up u32
      replace fd := fd.up u32
      try (replace fp := fp.up u32)
      try (replace nx := nx.up u32)
      try (replace nr := nr.up u32)
      replace b0 := b0.up u32
      replace b1 := b1.up u32
      replace b2 := b2.up u32
      replace x7 := x7.up u32
      replace x8 := x8.up u32
      replace x9 := x9.up u32
      replace x10 := x10.up u32
      replace x11 := x11.up u32
      replace x12 := x12.up u32
      replace x13 := x13.up u32
      replace UP := UP.trans u32
      clear b0_0 b0_1 b0_2 b0_12 b0_13 b0_14 b2_6 b2_7 b2_8 x10_0 x10_1 x10_2 x11_0 x11_1 x11_2 x12_0 x12_1 x12_2 x13_0 x13_1 x13_2
      have b0_0 := b0.cell (i := 0) rfl
      have b0_1 := b0.cell (i := 1) rfl
      have b0_2 := b0.cell (i := 2) rfl
      have b0_12 := b0.cell (i := 12) rfl
      have b0_13 := b0.cell (i := 13) rfl
      have b0_14 := b0.cell (i := 14) rfl
      have b2_6 := b2.cell (i := 6) rfl
      have b2_7 := b2.cell (i := 7) rfl
      have b2_8 := b2.cell (i := 8) rfl
      have x10_0 := x10.cell (i := 0) rfl
      have x10_1 := x10.cell (i := 1) rfl
      have x10_2 := x10.cell (i := 2) rfl
      have x11_0 := x11.cell (i := 0) rfl
      have x11_1 := x11.cell (i := 1) rfl
      have x11_2 := x11.cell (i := 2) rfl
      have x12_0 := x12.cell (i := 0) rfl
      have x12_1 := x12.cell (i := 1) rfl
      have x12_2 := x12.cell (i := 2) rfl
      have x13_0 := x13.cell (i := 0) rfl
      have x13_1 := x13.cell (i := 1) rfl
      have x13_2 := x13.cell (i := 2) rfl
      clear u32
      rw [HN.out] at nr))
 try go_wp2_with fail
 try clear hHeld
 refine hK.out _ _ ?_ (fun hHeld => ?_)
 · with_reducible exact ⟨UP, b0_0, b0_1, b0_2, b0_12, b0_13, b0_14, b2_6, b2_7, b2_8, x10_0, x10_1, x10_2, x11_0, x11_1, x11_2, x12_0, x12_1, x12_2, x13_0, x13_1, x13_2, x7⟩
 clear hK K
 try simp only [List.getElem_toArray, List.getElem_cons_zero, List.getElem_cons_succ, Act.put, List.setIfInBounds_toArray, List.set_cons_zero, List.set_cons_succ]
 refine wpAnyH_ready (rs := [26]) (by kernel_rfl) (by simp) ?_
 refine AllReadyH.cons rfl (fun K hK => ?_) AllReadyH.nil
 go_simp
 (first
   | (go_at_call 32
      ((with_reducible refine (law_is9 nx nr LN (by omega)).mono ?_))
      rintro e W33 ⟨rfl, u33⟩
      replace aF1 := aF1.up u33
      replace bF1 := bF1.up u33
      replace bF2 := bF2.up u33
      replace bF3 := bF3.up u33
      replace qw := qw.up u33
      replace qwd := qwd.up u33
      replace qa := qa.up u33
      replace qad := qad.up u33
      replace F1 := F1.up u33
      replace F2 := F2.up u33
      replace F3 := F3.up u33
      replace F4 := F4.up u33
      replace F5 := F5.up u33
      replace M1 := M1.up u33
      replace M2 := M2.up u33
      replace M3 := M3.up u33
      replace M4 := M4.up u33
      replace M5 := M5.up u33
      replace f := f.up u33
      replace fd := fd.up u33
      try (replace fp := fp.up u33)
      try (replace nx := nx.up u33)
      try (replace nr := nr.up u33)
      replace b0 := b0.up u33
      replace b1 := b1.up u33
      replace b2 := b2.up u33
      replace x7 := x7.up u33
      replace x8 := x8.up u33
      replace x9 := x9.up u33
      replace x10 := x10.up u33
      replace x11 := x11.up u33
      replace x12 := x12.up u33
      replace x13 := x13.up u33
      replace UP := UP.trans u33
      clear b0_0 b0_1 b0_2 b0_12 b0_13 b0_14 b2_6 b2_7 b2_8 x10_0 x10_1 x10_2 x11_0 x11_1 x11_2 x12_0 x12_1 x12_2 x13_0 x13_1 x13_2
      have b0_0 := b0.cell (i := 0) rfl
      have b0_1 := b0.cell (i := 1) rfl
      have b0_2 := b0.cell (i := 2) rfl
      have b0_12 := b0.cell (i := 12) rfl
      have b0_13 := b0.cell (i := 13) rfl
      have b0_14 := b0.cell (i := 14) rfl
      have b2_6 := b2.cell (i := 6) rfl
      have b2_7 := b2.cell (i := 7) rfl
      have b2_8 := b2.cell (i := 8) rfl
      have x10_0 := x10.cell (i := 0) rfl
      have x10_1 := x10.cell (i := 1) rfl
      have x10_2 := x10.cell (i := 2) rfl
      have x11_0 := x11.cell (i := 0) rfl
      have x11_1 := x11.cell (i := 1) rfl
      have x11_2 := x11.cell (i := 2) rfl
      have x12_0 := x12.cell (i := 0) rfl
      have x12_1 := x12.cell (i := 1) rfl
      have x12_2 := x12.cell (i := 2) rfl
      have x13_0 := x13.cell (i := 0) rfl
      have x13_1 := x13.cell (i := 1) rfl
      have x13_2 := x13.cell (i := 2) rfl
      clear u33))
 try go_wp2_with fail
 try clear hHeld
 refine hK.out _ _ ?_ (fun hHeld => ?_)
 · with_reducible exact ⟨UP, b0_0, b0_1, b0_2, b0_12, b0_13, b0_14, b2_6, b2_7, b2_8, x10_0, x10_1, x10_2, x11_0, x11_1, x11_2, x12_0, x12_1, x12_2, x13_0, x13_1, x13_2, x7⟩
 clear hK K
 try simp only [List.getElem_toArray, List.getElem_cons_zero, List.getElem_cons_succ, Act.put, List.setIfInBounds_toArray, List.set_cons_zero, List.set_cons_succ]
 refine wpAnyH_take (i := 27) (v := ?_) rfl (by kernel_rfl) (by kernel_rfl) (by kernel_rfl) (fun _ _ _ h => h) (Or.inl ⟨by rfl, ?_⟩) (by assumption) ?_
 rotate_left
 · (intro w hSw; (try dsimp only at hSw); go_simp; first | done | with_reducible rfl)
 try simp only [List.getElem_toArray, List.getElem_cons_zero, List.getElem_cons_succ, Act.put, List.setIfInBounds_toArray, List.set_cons_zero, List.set_cons_succ]
 refine wpAnyH_take (i := 28) (v := ?_) rfl (by kernel_rfl) (by kernel_rfl) (by kernel_rfl) (fun _ _ _ h => h) (Or.inl ⟨by rfl, ?_⟩) (by assumption) ?_
 rotate_left
 · (intro w hSw; (try dsimp only at hSw); go_simp; first | done | with_reducible rfl)
 try simp only [List.getElem_toArray, List.getElem_cons_zero, List.getElem_cons_succ, Act.put, List.setIfInBounds_toArray, List.set_cons_zero, List.set_cons_succ]
 refine wpAnyH_take (i := 29) (v := .agg #[.bool s1, .slice A1 l1.length c1, .slice D1 m1.length e1, .bool s2, .slice A2 l2.length c2, .slice D2 m2.length e2, .bool s3, .slice A3 l3.length c3, .slice D3 m3.length e3, .bool s4, .slice A4 l4.length c4, .slice D4 m4.length e4, .bool s5, .slice A5 l5.length c5, .slice D5 m5.length e5, .int .i64 fi, .int .i64 mo]) rfl (by kernel_rfl) (by kernel_rfl) (by kernel_rfl) (fun _ _ _ h => h) (Or.inl ⟨by rfl, fun w hSw => exec_load_box rfl rfl agg_rules size_rules hSw.2.2.2.2.2.2.2.2.2.2.2.2.2.2.2.2.2.2.2.2.2.2 rfl⟩) (by assumption) ?_
 try simp only [List.getElem_toArray, List.getElem_cons_zero, List.getElem_cons_succ, Act.put, List.setIfInBounds_toArray, List.set_cons_zero, List.set_cons_succ]
 refine wpAnyH_take (i := 30) (v := ?_) rfl (by kernel_rfl) (by kernel_rfl) (by kernel_rfl) (fun _ _ _ h => h) (Or.inl ⟨by rfl, ?_⟩) (by assumption) ?_
 rotate_left
 · (intro w hSw; (try dsimp only at hSw); go_simp; first | done | with_reducible rfl)
 try simp only [List.getElem_toArray, List.getElem_cons_zero, List.getElem_cons_succ, Act.put, List.setIfInBounds_toArray, List.set_cons_zero, List.set_cons_succ]
 refine wpAnyH_take (i := 31) (v := ?_) rfl (by kernel_rfl) (by kernel_rfl) (by kernel_rfl) (fun _ _ _ h => h) (Or.inl ⟨by rfl, ?_⟩) (by assumption) ?_
 rotate_left
 · (intro w hSw; (try dsimp only at hSw); go_simp; first | done | with_reducible rfl)
 try simp only [List.getElem_toArray, List.getElem_cons_zero, List.getElem_cons_succ, Act.put, List.setIfInBounds_toArray, List.set_cons_zero, List.set_cons_succ]
 refine wpAnyH_take (i := 34) (v := ?_) rfl (by kernel_rfl) (by kernel_rfl) (by kernel_rfl) (fun _ _ _ h => h) (Or.inl ⟨by rfl, ?_⟩) (by assumption) ?_
 rotate_left
 · (intro w hSw; (try dsimp only at hSw); go_simp; first | done | with_reducible rfl)
 try simp only [List.getElem_toArray, List.getElem_cons_zero, List.getElem_cons_succ, Act.put, List.setIfInBounds_toArray, List.set_cons_zero, List.set_cons_succ]
 refine wpAnyH_take (i := 35) (v := ?_) rfl (by kernel_rfl) (by kernel_rfl) (by kernel_rfl) (fun _ _ _ h => h) (Or.inl ⟨by rfl, ?_⟩) (by assumption) ?_
 rotate_left
 · (intro w hSw; (try dsimp only at hSw); go_simp; first | done | with_reducible rfl)
 try simp only [List.getElem_toArray, List.getElem_cons_zero, List.getElem_cons_succ, Act.put, List.setIfInBounds_toArray, List.set_cons_zero, List.set_cons_succ]
 refine wpAnyH_take (i := 36) (v := ?_) rfl (by kernel_rfl) (by kernel_rfl) (by kernel_rfl) (fun _ _ _ h => h) (Or.inl ⟨by rfl, ?_⟩) (by assumption) ?_
 rotate_left
 · (intro w hSw; (try dsimp only at hSw); go_simp; first | done | with_reducible rfl)
 try simp only [List.getElem_toArray, List.getElem_cons_zero, List.getElem_cons_succ, Act.put, List.setIfInBounds_toArray, List.set_cons_zero, List.set_cons_succ]
 refine wpAnyH_ready (rs := [32]) (by kernel_rfl) (by simp) ?_
 refine AllReadyH.cons rfl (fun K hK => ?_) AllReadyH.nil
 go_simp
 (first
   | (go_at_call 26
      ((with_reducible refine (law_to9 _ _ _ _ _ _ _ _).mono ?_))
      rintro e W30 ⟨rfl, u30⟩
      replace aF1 := aF1.up u30
      replace bF1 := bF1.up u30
      replace bF2 := bF2.up u30
      replace bF3 := bF3.up u30
      replace qw := qw.up u30
      replace qwd := qwd.up u30
      replace qa := qa.up u30
      replace qad := qad.up u30
      replace F1 := F1.up u30
      replace F2 := F2.up u30
      replace F3 := F3.up u30
      replace F4 := F4.up u30
      replace F5 := F5.up u30
      replace M1 := M1.up u30
      replace M2 := M2.up u30
      replace M3 := M3.up u30
      replace M4 := M4.up u30
      replace M5 := M5.up u30
      replace f := f.up u30
      replace fd := fd.up u30
      try (replace fp := fp.up u30)
      try (replace nx := nx.up u30)
      try (replace nr := nr.up u30)
      replace b0 := b0.up u30
      replace b1 := b1.up u30
      replace b2 := b2.up u30
      replace x7 := x7.up u30
      replace x8 := x8.up u30
      replace x9 := x9.up u30
      replace x10 := x10.up u30
      replace x11 := x11.up u30
      replace x12 := x12.up u30
      replace x13 := x13.up u30
      replace UP := UP.trans u30
      clear b0_0 b0_1 b0_2 b0_12 b0_13 b0_14 b2_6 b2_7 b2_8 x10_0 x10_1 x10_2 x11_0 x11_1 x11_2 x12_0 x12_1 x12_2 x13_0 x13_1 x13_2
      have b0_0 := b0.cell (i := 0) rfl
      have b0_1 := b0.cell (i := 1) rfl
      have b0_2 := b0.cell (i := 2) rfl
      have b0_12 := b0.cell (i := 12) rfl
      have b0_13 := b0.cell (i := 13) rfl
      have b0_14 := b0.cell (i := 14) rfl
      have b2_6 := b2.cell (i := 6) rfl
      have b2_7 := b2.cell (i := 7) rfl
      have b2_8 := b2.cell (i := 8) rfl
      have x10_0 := x10.cell (i := 0) rfl
      have x10_1 := x10.cell (i := 1) rfl
      have x10_2 := x10.cell (i := 2) rfl
      have x11_0 := x11.cell (i := 0) rfl
      have x11_1 := x11.cell (i := 1) rfl
      have x11_2 := x11.cell (i := 2) rfl
      have x12_0 := x12.cell (i := 0) rfl
      have x12_1 := x12.cell (i := 1) rfl
      have x12_2 := x12.cell (i := 2) rfl
      have x13_0 := x13.cell (i := 0) rfl
      have x13_1 := x13.cell (i := 1) rfl
      have x13_2 := x13.cell (i := 2) rfl
      clear u30))
 try go_wp2_with fail
 try clear hHeld
 refine hK.out _ _ ?_ (fun hHeld => ?_)
 · with_reducible exact ⟨UP, b0_0, b0_1, b0_2, b0_12, b0_13, b0_14, b2_6, b2_7, b2_8, x10_0, x10_1, x10_2, x11_0, x11_1, x11_2, x12_0, x12_1, x12_2, x13_0, x13_1, x13_2, x7⟩
 clear hK K
 try simp only [List.getElem_toArray, List.getElem_cons_zero, List.getElem_cons_succ, Act.put, List.setIfInBounds_toArray, List.set_cons_zero, List.set_cons_succ]
 refine wpAnyH_ready (rs := [33]) (by kernel_rfl) (by simp) ?_
 refine AllReadyH.cons rfl (fun K hK => ?_) AllReadyH.nil
 go_simp
 (first
   | (go_at_call 58
      ((with_reducible refine (pace_under bF3 F5 (by omega)).mono ?_))
      rintro e W34 ⟨rfl, u34⟩
      replace aF1 := aF1.up u34
      replace bF1 := bF1.up u34
      replace bF2 := bF2.up u34
      replace bF3 := bF3.up u34
      replace qw := qw.up u34
      replace qwd := qwd.up u34
      replace qa := qa.up u34
      replace qad := qad.up u34
      replace F1 := F1.up u34
      replace F2 := F2.up u34
      replace F3 := F3.up u34
      replace F4 := F4.up u34
      replace F5 := F5.up u34
      replace M1 := M1.up u34
      replace M2 := M2.up u34
      replace M3 := M3.up u34
      replace M4 := M4.up u34
      replace M5 := M5.up u34
      replace f := f.up u34
      replace fd := fd.up u34
      try (replace fp := fp.up u34)
      try (replace nx := nx.up u34)
      try (replace nr := nr.up u34)
      replace b0 := b0.up u34
      replace b1 := b1.up u34
      replace b2 := b2.up u34
      replace x7 := x7.up u34
      replace x8 := x8.up u34
      replace x9 := x9.up u34
      replace x10 := x10.up u34
      replace x11 := x11.up u34
      replace x12 := x12.up u34
      replace x13 := x13.up u34
      replace UP := UP.trans u34
      clear b0_0 b0_1 b0_2 b0_12 b0_13 b0_14 b2_6 b2_7 b2_8 x10_0 x10_1 x10_2 x11_0 x11_1 x11_2 x12_0 x12_1 x12_2 x13_0 x13_1 x13_2
      have b0_0 := b0.cell (i := 0) rfl
      have b0_1 := b0.cell (i := 1) rfl
      have b0_2 := b0.cell (i := 2) rfl
      have b0_12 := b0.cell (i := 12) rfl
      have b0_13 := b0.cell (i := 13) rfl
      have b0_14 := b0.cell (i := 14) rfl
      have b2_6 := b2.cell (i := 6) rfl
      have b2_7 := b2.cell (i := 7) rfl
      have b2_8 := b2.cell (i := 8) rfl
      have x10_0 := x10.cell (i := 0) rfl
      have x10_1 := x10.cell (i := 1) rfl
      have x10_2 := x10.cell (i := 2) rfl
      have x11_0 := x11.cell (i := 0) rfl
      have x11_1 := x11.cell (i := 1) rfl
      have x11_2 := x11.cell (i := 2) rfl
      have x12_0 := x12.cell (i := 0) rfl
      have x12_1 := x12.cell (i := 1) rfl
      have x12_2 := x12.cell (i := 2) rfl
      have x13_0 := x13.cell (i := 0) rfl
      have x13_1 := x13.cell (i := 1) rfl
      have x13_2 := x13.cell (i := 2) rfl
      clear u34
      rw [HTU.out]))
 try go_wp2_with fail
 try clear hHeld
 refine hK.out _ _ ?_ (fun hHeld => ?_)
 · with_reducible exact ⟨UP, b0_0, b0_1, b0_2, b0_12, b0_13, b0_14, b2_6, b2_7, b2_8, x10_0, x10_1, x10_2, x11_0, x11_1, x11_2, x12_0, x12_1, x12_2, x13_0, x13_1, x13_2, x7⟩
 clear hK K
 try simp only [List.getElem_toArray, List.getElem_cons_zero, List.getElem_cons_succ, Act.put, List.setIfInBounds_toArray, List.set_cons_zero, List.set_cons_succ]
 refine wpAnyH_ready (rs := [37]) (by kernel_rfl) (by simp) ?_
 refine AllReadyH.cons rfl (fun K hK => ?_) AllReadyH.nil
 go_simp
 (first
   | (go_at_call 54
      ((with_reducible refine (ref9_cmp (qw_of2 qw qwd) M5 LWA L5 (by omega) (by omega)).mono ?_))
      rintro e W35 ⟨rfl, u35⟩
      replace aF1 := aF1.up u35
      replace bF1 := bF1.up u35
      replace bF2 := bF2.up u35
      replace bF3 := bF3.up u35
      replace qw := qw.up u35
      replace qwd := qwd.up u35
      replace qa := qa.up u35
      replace qad := qad.up u35
      replace F1 := F1.up u35
      replace F2 := F2.up u35
      replace F3 := F3.up u35
      replace F4 := F4.up u35
      replace F5 := F5.up u35
      replace M1 := M1.up u35
      replace M2 := M2.up u35
      replace M3 := M3.up u35
      replace M4 := M4.up u35
      replace M5 := M5.up u35
      replace f := f.up u35
      replace fd := fd.up u35
      try (replace fp := fp.up u35)
      try (replace nx := nx.up u35)
      try (replace nr := nr.up u35)
      replace b0 := b0.up u35
      replace b1 := b1.up u35
      replace b2 := b2.up u35
      replace x7 := x7.up u35
      replace x8 := x8.up u35
      replace x9 := x9.up u35
      replace x10 := x10.up u35
      replace x11 := x11.up u35
      replace x12 := x12.up u35
      replace x13 := x13.up u35
      replace UP := UP.trans u35
      clear b0_0 b0_1 b0_2 b0_12 b0_13 b0_14 b2_6 b2_7 b2_8 x10_0 x10_1 x10_2 x11_0 x11_1 x11_2 x12_0 x12_1 x12_2 x13_0 x13_1 x13_2
      have b0_0 := b0.cell (i := 0) rfl
      have b0_1 := b0.cell (i := 1) rfl
      have b0_2 := b0.cell (i := 2) rfl
      have b0_12 := b0.cell (i := 12) rfl
      have b0_13 := b0.cell (i := 13) rfl
      have b0_14 := b0.cell (i := 14) rfl
      have b2_6 := b2.cell (i := 6) rfl
      have b2_7 := b2.cell (i := 7) rfl
      have b2_8 := b2.cell (i := 8) rfl
      have x10_0 := x10.cell (i := 0) rfl
      have x10_1 := x10.cell (i := 1) rfl
      have x10_2 := x10.cell (i := 2) rfl
      have x11_0 := x11.cell (i := 0) rfl
      have x11_1 := x11.cell (i := 1) rfl
      have x11_2 := x11.cell (i := 2) rfl
      have x12_0 := x12.cell (i := 0) rfl
      have x12_1 := x12.cell (i := 1) rfl
      have x12_2 := x12.cell (i := 2) rfl
      have x13_0 := x13.cell (i := 0) rfl
      have x13_1 := x13.cell (i := 1) rfl
      have x13_2 := x13.cell (i := 2) rfl
      clear u35
      rw [HZ2.out]))
 try go_wp2_with fail
 try clear hHeld
 refine hK.out _ _ ?_ (fun hHeld => ?_)
 · with_reducible exact ⟨UP, b0_0, b0_1, b0_2, b0_12, b0_13, b0_14, b2_6, b2_7, b2_8, x10_0, x10_1, x10_2, x11_0, x11_1, x11_2, x12_0, x12_1, x12_2, x13_0, x13_1, x13_2, x7⟩
 clear hK K
 try simp only [List.getElem_toArray, List.getElem_cons_zero, List.getElem_cons_succ, Act.put, List.setIfInBounds_toArray, List.set_cons_zero, List.set_cons_succ]
 refine wpAnyH_take (i := 38) (v := ?_) rfl (by kernel_rfl) (by kernel_rfl) (by kernel_rfl) (fun _ _ _ h => h) (Or.inl ⟨by rfl, ?_⟩) (by assumption) ?_
 rotate_left
 · (intro w hSw; (try dsimp only at hSw); go_simp; first | done | with_reducible rfl)
 try simp only [List.getElem_toArray, List.getElem_cons_zero, List.getElem_cons_succ, Act.put, List.setIfInBounds_toArray, List.set_cons_zero, List.set_cons_succ]
 refine wpAnyH_take (i := 39) (v := ?_) rfl (by kernel_rfl) (by kernel_rfl) (by kernel_rfl) (fun _ _ _ h => h) (Or.inl ⟨by rfl, ?_⟩) (by assumption) ?_
 rotate_left
 · (intro w hSw; (try dsimp only at hSw); go_simp; first | done | with_reducible rfl)
 try simp only [List.getElem_toArray, List.getElem_cons_zero, List.getElem_cons_succ, Act.put, List.setIfInBounds_toArray, List.set_cons_zero, List.set_cons_succ]
 refine wpAnyH_take (i := 40) (v := ?_) rfl (by kernel_rfl) (by kernel_rfl) (by kernel_rfl) (fun _ _ _ h => h) (Or.inl ⟨by rfl, ?_⟩) (by assumption) ?_
 rotate_left
 · (intro w hSw; (try dsimp only at hSw); go_simp; first | done | with_reducible rfl)
 try simp only [List.getElem_toArray, List.getElem_cons_zero, List.getElem_cons_succ, Act.put, List.setIfInBounds_toArray, List.set_cons_zero, List.set_cons_succ]
 refine wpAnyH_take (i := 41) (v := ?_) rfl (by kernel_rfl) (by kernel_rfl) (by kernel_rfl) (fun _ _ _ h => h) (Or.inl ⟨by rfl, ?_⟩) (by assumption) ?_
 rotate_left
 · (intro w hSw; (try dsimp only at hSw); go_simp; first | done | with_reducible rfl)
 try simp only [List.getElem_toArray, List.getElem_cons_zero, List.getElem_cons_succ, Act.put, List.setIfInBounds_toArray, List.set_cons_zero, List.set_cons_succ]
 refine wpAnyH_ready (rs := [42]) (by kernel_rfl) (by simp) ?_
 refine AllReadyH.cons rfl (fun K hK => ?_) AllReadyH.nil
 go_simp
 (first
   | (go_at_call 10
      ((with_reducible refine (works36 _).mono ?_))
      rintro e W36 ⟨rfl, u36⟩
      replace aF1 := aF1.up u36
      replace bF1 := bF1.up u36
      replace bF2 := bF2.up u36
      replace bF3 := bF3.up u36
      replace qw := qw.up u36
      replace qwd := qwd.up u36
      replace qa := qa.up u36
      replace qad := qad.up u36
      replace F1 := F1.up u36
      replace F2 := F2.up u36
      replace F3 := F3.up u36
      replace F4 := F4.up u36
      replace F5 := F5.up u36
      replace M1 := M1.up u36
      replace M2 := M2.up u36
      replace M3 := M3.up u36
      replace M4 := M4.up u36
      replace M5 := M5.up u36
      replace f := f.up u36
      replace fd := fd.up u36
      try (replace fp := fp.up u36)
      try (replace nx := nx.up u36)
      try (replace nr := nr.up u36)
      replace b0 := b0.up u36
      replace b1 := b1.up u36
      replace b2 := b2.up u36
      replace x7 := x7.up u36
      replace x8 := x8.up u36
      replace x9 := x9.up u36
      replace x10 := x10.up u36
      replace x11 := x11.up u36
      replace x12 := x12.up u36
      replace x13 := x13.up u36
      replace UP := UP.trans u36
      clear b0_0 b0_1 b0_2 b0_12 b0_13 b0_14 b2_6 b2_7 b2_8 x10_0 x10_1 x10_2 x11_0 x11_1 x11_2 x12_0 x12_1 x12_2 x13_0 x13_1 x13_2
      have b0_0 := b0.cell (i := 0) rfl
      have b0_1 := b0.cell (i := 1) rfl
      have b0_2 := b0.cell (i := 2) rfl
      have b0_12 := b0.cell (i := 12) rfl
      have b0_13 := b0.cell (i := 13) rfl
      have b0_14 := b0.cell (i := 14) rfl
      have b2_6 := b2.cell (i := 6) rfl
      have b2_7 := b2.cell (i := 7) rfl
      have b2_8 := b2.cell (i := 8) rfl
      have x10_0 := x10.cell (i := 0) rfl
      have x10_1 := x10.cell (i := 1) rfl
      have x10_2 := x10.cell (i := 2) rfl
      have x11_0 := x11.cell (i := 0) rfl
      have x11_1 := x11.cell (i := 1) rfl
      have x11_2 := x11.cell (i := 2) rfl
      have x12_0 := x12.cell (i := 0) rfl
      have x12_1 := x12.cell (i := 1) rfl
      have x12_2 := x12.cell (i := 2) rfl
      have x13_0 := x13.cell (i := 0) rfl
      have x13_1 := x13.cell (i := 1) rfl
      have x13_2 := x13.cell (i := 2) rfl
      clear u36))
 try go_wp2_with fail
 try clear hHeld
 refine hK.out _ _ ?_ (fun hHeld => ?_)
 · with_reducible exact ⟨UP, b0_0, b0_1, b0_2, b0_12, b0_13, b0_14, b2_6, b2_7, b2_8, x10_0, x10_1, x10_2, x11_0, x11_1, x11_2, x12_0, x12_1, x12_2, x13_0, x13_1, x13_2, x7⟩
 clear hK K
 try simp only [List.getElem_toArray, List.getElem_cons_zero, List.getElem_cons_succ, Act.put, List.setIfInBounds_toArray, List.set_cons_zero, List.set_cons_succ]
 refine wpAnyH_take (i := 43) (v := ?_) rfl (by kernel_rfl) (by kernel_rfl) (by kernel_rfl) (fun _ _ _ h => h) (Or.inl ⟨by rfl, ?_⟩) (by assumption) ?_
 rotate_left
 · (intro w hSw; (try dsimp only at hSw); go_simp; first | done | with_reducible rfl)
 try simp only [List.getElem_toArray, List.getElem_cons_zero, List.getElem_cons_succ, Act.put, List.setIfInBounds_toArray, List.set_cons_zero, List.set_cons_succ]
 refine wpAnyH_ready (rs := [44]) (by kernel_rfl) (by simp) ?_
 refine AllReadyH.cons rfl (fun K hK => ?_) AllReadyH.nil
 go_simp
 skip
 try go_wp2_with fail
 try clear hHeld
 refine hK.out _ _ ?_ (fun hHeld => ?_)
 · with_reducible exact ⟨UP, b0_0, b0_1, b0_2, b0_12, b0_13, b0_14, b2_6, b2_7, b2_8, x10_0, x10_1, x10_2, x11_0, x11_1, x11_2, x12_0, x12_1, x12_2, x13_0, x13_1, x13_2, x7⟩
 clear hK K
 try simp only [List.getElem_toArray, List.getElem_cons_zero, List.getElem_cons_succ, Act.put, List.setIfInBounds_toArray, List.set_cons_zero, List.set_cons_succ]
 refine wpAnyH_done (by kernel_rfl) ?_ _
 refine NoPanic.normal ?_
 clear hHeld
 go_wp2_with (with_reducible show wpList _ _ _ _ _ _; refine wl_load_box (o := ⟨_, Op.load 26 _, _, _, _, _⟩) rfl _ rfl rfl agg_r36z size_r36z b0 rfl ?_)
 go_ret
 exact ⟨rfl, UP⟩
end Go.Proofs.YtmmcffceeahemaaGreat
