/-
  The walk of PaceBounds.
-/
import Derived.Test.YtmmcffceeahemaaPace8
import Derived.Test.YtmmcffceeahemaaPaceLaw
import Derived.Test.YtmmcffceeahemaaPaceLoad
import Derived.Deep.DeepCutAuto
set_option linter.unusedVariables false
set_option linter.unusedSimpArgs false
namespace Go.Proofs.Ytmmcffceeahemaa
open Go.RowKit

theorem lq_fac {tol safe low high e : Rat} {fi : Int} (h1 : Wd.Lq tol 1000) (h2 : Wd.Lq safe 1000) (h3 : Wd.Lq low 1000) (h4 : Wd.Lq high 1000) (he : Wd.Lq e 9) (f1 : 1 ≤ fi) (f2 : fi ≤ 1024) : Wd.Lq (Pc.fac tol safe low high fi e) 3000 := by
  unfold Pc.fac
  have hd := down_lq ((h2.mul h1).div he) f1 f2
  split
  · exact h4.mono (by omega)
  · split
    · exact h3.mono (by omega)
    · split
      · exact h4.mono (by omega)
      · exact hd.mono (by omega)
theorem lq_cut {t en wa : Rat} (h1 : Wd.Lq t 4) (h2 : Wd.Lq en 4) (h3 : Wd.Lq wa 4) : Wd.Lq (Pc.cut t en wa) 9 := by
  unfold Pc.cut
  split
  · exact (h2.sub h1).mono (by omega)
  · exact h3.mono (by omega)
theorem agg_r36 (w : World) : (isAgg 100).run Try.prog w = .ok true w := by kernel_rfl
theorem size_r36 (w : World) : (sizeOf 100).run Try.prog w = .ok 17 w := by kernel_rfl
set_option maxRecDepth 100000 in
set_option maxHeartbeats 12800000 in
theorem paceBounds_walk {s1 s2 s3 s4 s5 : Bool} {A1 A2 A3 A4 A5 D1 D2 D3 D4 D5 : Option Addr} {l1 l2 l3 l4 l5 m1 m2 m3 m4 m5 : List Nat} {c1 c2 c3 c4 c5 e1 e2 e3 e4 e5 : Nat} {fi mo : Int} {as1 as2 : Bool} {aA1 aD1 aA2 aD2 : Option Addr} {al1 am1 al2 am2 : List Nat} {ac1 ae1 ac2 ae2 : Nat} {bs1 bs2 bs3 : Bool} {bA1 bD1 bA2 bD2 bA3 bD3 : Option Addr} {bl1 bm1 bl2 bm2 bl3 bm3 : List Nat} {bc1 be1 bc2 be2 bc3 be3 : Nat} {w : World} (hl1 : Ws w (.slice A1 l1.length c1) l1) (hm1 : Ws w (.slice D1 m1.length e1) m1) (hl2 : Ws w (.slice A2 l2.length c2) l2) (hm2 : Ws w (.slice D2 m2.length e2) m2) (hl3 : Ws w (.slice A3 l3.length c3) l3) (hm3 : Ws w (.slice D3 m3.length e3) m3) (hl4 : Ws w (.slice A4 l4.length c4) l4) (hm4 : Ws w (.slice D4 m4.length e4) m4) (hl5 : Ws w (.slice A5 l5.length c5) l5) (hm5 : Ws w (.slice D5 m5.length e5) m5) (ahl1 : Ws w (.slice aA1 al1.length ac1) al1) (ahm1 : Ws w (.slice aD1 am1.length ae1) am1) (ahl2 : Ws w (.slice aA2 al2.length ac2) al2) (ahm2 : Ws w (.slice aD2 am2.length ae2) am2) (bhl1 : Ws w (.slice bA1 bl1.length bc1) bl1) (bhm1 : Ws w (.slice bD1 bm1.length be1) bm1) (bhl2 : Ws w (.slice bA2 bl2.length bc2) bl2) (bhm2 : Ws w (.slice bD2 bm2.length be2) bm2) (bhl3 : Ws w (.slice bA3 bl3.length bc3) bl3) (bhm3 : Ws w (.slice bD3 bm3.length be3) bm3) (hfi : -9223372036854775808 ≤ fi ∧ fi ≤ 9223372036854775807) (hmo : -9223372036854775808 ≤ mo ∧ mo ≤ 9223372036854775807) :
    Calls Try.prog 10 #[.agg #[.bool s1, .slice A1 l1.length c1, .slice D1 m1.length e1, .bool s2, .slice A2 l2.length c2, .slice D2 m2.length e2, .bool s3, .slice A3 l3.length c3, .slice D3 m3.length e3, .bool s4, .slice A4 l4.length c4, .slice D4 m4.length e4, .bool s5, .slice A5 l5.length c5, .slice D5 m5.length e5, .int .i64 fi, .int .i64 mo], .agg #[.bool as1, .slice aA1 al1.length ac1, .slice aD1 am1.length ae1, .bool as2, .slice aA2 al2.length ac2, .slice aD2 am2.length ae2], .agg #[.bool bs1, .slice bA1 bl1.length bc1, .slice bD1 bm1.length be1, .bool bs2, .slice bA2 bl2.length bc2, .slice bD2 bm2.length be2, .bool bs3, .slice bA3 bl3.length bc3, .slice bD3 bm3.length be3]] w fun e w' => e = .returned (.bool true) ∧ Up w w' := by
  have UP : Up w (((w.alloc (.cells #[.bool s1, .slice A1 l1.length c1, .slice D1 m1.length e1, .bool s2, .slice A2 l2.length c2, .slice D2 m2.length e2, .bool s3, .slice A3 l3.length c3, .slice D3 m3.length e3, .bool s4, .slice A4 l4.length c4, .slice D4 m4.length e4, .bool s5, .slice A5 l5.length c5, .slice D5 m5.length e5, .int .i64 fi, .int .i64 mo] 100)).alloc (.cells #[.bool as1, .slice aA1 al1.length ac1, .slice aD1 am1.length ae1, .bool as2, .slice aA2 al2.length ac2, .slice aD2 am2.length ae2] 101)).alloc (.cells #[.bool bs1, .slice bA1 bl1.length bc1, .slice bD1 bm1.length be1, .bool bs2, .slice bA2 bl2.length bc2, .slice bD2 bm2.length be2, .bool bs3, .slice bA3 bl3.length bc3, .slice bD3 bm3.length be3] 102)) := (((Up.refl w).alloc _).alloc _).alloc _
  obtain ⟨b0, b1, b2⟩ := bx_three 100 101 102 w [.bool s1, .slice A1 l1.length c1, .slice D1 m1.length e1, .bool s2, .slice A2 l2.length c2, .slice D2 m2.length e2, .bool s3, .slice A3 l3.length c3, .slice D3 m3.length e3, .bool s4, .slice A4 l4.length c4, .slice D4 m4.length e4, .bool s5, .slice A5 l5.length c5, .slice D5 m5.length e5, .int .i64 fi, .int .i64 mo] [.bool as1, .slice aA1 al1.length ac1, .slice aD1 am1.length ae1, .bool as2, .slice aA2 al2.length ac2, .slice aD2 am2.length ae2] [.bool bs1, .slice bA1 bl1.length bc1, .slice bD1 bm1.length be1, .bool bs2, .slice bA2 bl2.length bc2, .slice bD2 bm2.length be2, .bool bs3, .slice bA3 bl3.length bc3, .slice bD3 bm3.length be3]
  go_enter Try.func10, Try.ntmps10
  go_upto_region 1 with fail
  generalize (((w.alloc (.cells #[.bool s1, .slice A1 l1.length c1, .slice D1 m1.length e1, .bool s2, .slice A2 l2.length c2, .slice D2 m2.length e2, .bool s3, .slice A3 l3.length c3, .slice D3 m3.length e3, .bool s4, .slice A4 l4.length c4, .slice D4 m4.length e4, .bool s5, .slice A5 l5.length c5, .slice D5 m5.length e5, .int .i64 fi, .int .i64 mo] 100)).alloc (.cells #[.bool as1, .slice aA1 al1.length ac1, .slice aD1 am1.length ae1, .bool as2, .slice aA2 al2.length ac2, .slice aD2 am2.length ae2] 101)).alloc (.cells #[.bool bs1, .slice bA1 bl1.length bc1, .slice bD1 bm1.length be1, .bool bs2, .slice bA2 bl2.length bc2, .slice bD2 bm2.length be2, .bool bs3, .slice bA3 bl3.length bc3, .slice bD3 bm3.length be3] 102)) = W at *
  replace hl1 := hl1.up UP
  replace hm1 := hm1.up UP
  replace hl2 := hl2.up UP
  replace hm2 := hm2.up UP
  replace hl3 := hl3.up UP
  replace hm3 := hm3.up UP
  replace hl4 := hl4.up UP
  replace hm4 := hm4.up UP
  replace hl5 := hl5.up UP
  replace hm5 := hm5.up UP
  replace ahl1 := ahl1.up UP
  replace ahm1 := ahm1.up UP
  replace ahl2 := ahl2.up UP
  replace ahm2 := ahm2.up UP
  replace bhl1 := bhl1.up UP
  replace bhm1 := bhm1.up UP
  replace bhl2 := bhl2.up UP
  replace bhm2 := bhm2.up UP
  replace bhl3 := bhl3.up UP
  replace bhm3 := bhm3.up UP
  go_wp2_with (with_reducible show wpList _ _ _ _ _ _; refine wl_load_box (o := ⟨_, Op.load 100 _, _, _, _, _⟩) rfl _ rfl rfl agg_r36 size_r36 b0 rfl ?_)
  ((with_reducible refine (ref_long36 4 (K := 4) rfl (by omega)).mono ?_))
  rintro e W1 ⟨t1, rfl, ht1, u1⟩
  replace hl1 := hl1.up u1
  replace hm1 := hm1.up u1
  replace hl2 := hl2.up u1
  replace hm2 := hm2.up u1
  replace hl3 := hl3.up u1
  replace hm3 := hm3.up u1
  replace hl4 := hl4.up u1
  replace hm4 := hm4.up u1
  replace hl5 := hl5.up u1
  replace hm5 := hm5.up u1
  replace ahl1 := ahl1.up u1
  replace ahm1 := ahm1.up u1
  replace ahl2 := ahl2.up u1
  replace ahm2 := ahm2.up u1
  replace bhl1 := bhl1.up u1
  replace bhm1 := bhm1.up u1
  replace bhl2 := bhl2.up u1
  replace bhm2 := bhm2.up u1
  replace bhl3 := bhl3.up u1
  replace bhm3 := bhm3.up u1
  replace b0 := b0.up u1
  replace b1 := b1.up u1
  replace b2 := b2.up u1
  replace UP := UP.trans u1
  clear u1
  cases t1
  rotate_left
  · skip
    go_wp2_with (with_reducible show wpList _ _ _ _ _ _; refine wl_load_box (o := ⟨_, Op.load 100 _, _, _, _, _⟩) rfl _ rfl rfl agg_r36 size_r36 b0 rfl ?_)
    ((with_reducible refine (works36 _).mono ?_))
    rintro e W2 ⟨rfl, u2⟩
    replace hl1 := hl1.up u2
    replace hm1 := hm1.up u2
    replace hl2 := hl2.up u2
    replace hm2 := hm2.up u2
    replace hl3 := hl3.up u2
    replace hm3 := hm3.up u2
    replace hl4 := hl4.up u2
    replace hm4 := hm4.up u2
    replace hl5 := hl5.up u2
    replace hm5 := hm5.up u2
    replace ahl1 := ahl1.up u2
    replace ahm1 := ahm1.up u2
    replace ahl2 := ahl2.up u2
    replace ahm2 := ahm2.up u2
    replace bhl1 := bhl1.up u2
    replace bhm1 := bhm1.up u2
    replace bhl2 := bhl2.up u2
    replace bhm2 := bhm2.up u2
    replace bhl3 := bhl3.up u2
    replace bhm3 := bhm3.up u2
    replace b0 := b0.up u2
    replace b1 := b1.up u2
    replace b2 := b2.up u2
    replace UP := UP.trans u2
    clear u2
    go_wp2
    go_ret
    exact ⟨rfl, UP⟩
  have hf := Lib.hid (ht1.out rfl)
  clear ht1
  have b1_0 := b1.cell (i := 0) rfl
  have b1_1 := b1.cell (i := 1) rfl
  have b1_2 := b1.cell (i := 2) rfl
  go_wp2_with (with_reducible show wpList _ _ _ _ _ _; refine wl_load_box (o := ⟨_, Op.load 100 _, _, _, _, _⟩) rfl _ rfl rfl agg_r36 size_r36 b0 rfl ?_)
  ((with_reducible refine (ref_long9g (l := al1) (m := am1) 4 (K := 4) rfl (by omega)).mono ?_))
  rintro e W2 ⟨t2, rfl, ht2, u2⟩
  replace hl1 := hl1.up u2
  replace hm1 := hm1.up u2
  replace hl2 := hl2.up u2
  replace hm2 := hm2.up u2
  replace hl3 := hl3.up u2
  replace hm3 := hm3.up u2
  replace hl4 := hl4.up u2
  replace hm4 := hm4.up u2
  replace hl5 := hl5.up u2
  replace hm5 := hm5.up u2
  replace ahl1 := ahl1.up u2
  replace ahm1 := ahm1.up u2
  replace ahl2 := ahl2.up u2
  replace ahm2 := ahm2.up u2
  replace bhl1 := bhl1.up u2
  replace bhm1 := bhm1.up u2
  replace bhl2 := bhl2.up u2
  replace bhm2 := bhm2.up u2
  replace bhl3 := bhl3.up u2
  replace bhm3 := bhm3.up u2
  replace b0 := b0.up u2
  replace b1 := b1.up u2
  replace b2 := b2.up u2
  replace UP := UP.trans u2
  clear b1_0 b1_1 b1_2
  clear u2
  cases t2
  rotate_left
  · skip
    go_wp2_with (with_reducible show wpList _ _ _ _ _ _; refine wl_load_box (o := ⟨_, Op.load 100 _, _, _, _, _⟩) rfl _ rfl rfl agg_r36 size_r36 b0 rfl ?_)
    ((with_reducible refine (works36 _).mono ?_))
    rintro e W3 ⟨rfl, u3⟩
    replace hl1 := hl1.up u3
    replace hm1 := hm1.up u3
    replace hl2 := hl2.up u3
    replace hm2 := hm2.up u3
    replace hl3 := hl3.up u3
    replace hm3 := hm3.up u3
    replace hl4 := hl4.up u3
    replace hm4 := hm4.up u3
    replace hl5 := hl5.up u3
    replace hm5 := hm5.up u3
    replace ahl1 := ahl1.up u3
    replace ahm1 := ahm1.up u3
    replace ahl2 := ahl2.up u3
    replace ahm2 := ahm2.up u3
    replace bhl1 := bhl1.up u3
    replace bhm1 := bhm1.up u3
    replace bhl2 := bhl2.up u3
    replace bhm2 := bhm2.up u3
    replace bhl3 := bhl3.up u3
    replace bhm3 := bhm3.up u3
    replace b0 := b0.up u3
    replace b1 := b1.up u3
    replace b2 := b2.up u3
    replace UP := UP.trans u3
    clear u3
    go_wp2
    go_ret
    exact ⟨rfl, UP⟩
  have ag1 := Lib.hid (ht2.out rfl)
  clear ht2
  have b1_3 := b1.cell (i := 3) rfl
  have b1_4 := b1.cell (i := 4) rfl
  have b1_5 := b1.cell (i := 5) rfl
  go_wp2_with (with_reducible show wpList _ _ _ _ _ _; refine wl_load_box (o := ⟨_, Op.load 100 _, _, _, _, _⟩) rfl _ rfl rfl agg_r36 size_r36 b0 rfl ?_)
  ((with_reducible refine (ref_long9g (l := al2) (m := am2) 4 (K := 4) rfl (by omega)).mono ?_))
  rintro e W3 ⟨t3, rfl, ht3, u3⟩
  replace hl1 := hl1.up u3
  replace hm1 := hm1.up u3
  replace hl2 := hl2.up u3
  replace hm2 := hm2.up u3
  replace hl3 := hl3.up u3
  replace hm3 := hm3.up u3
  replace hl4 := hl4.up u3
  replace hm4 := hm4.up u3
  replace hl5 := hl5.up u3
  replace hm5 := hm5.up u3
  replace ahl1 := ahl1.up u3
  replace ahm1 := ahm1.up u3
  replace ahl2 := ahl2.up u3
  replace ahm2 := ahm2.up u3
  replace bhl1 := bhl1.up u3
  replace bhm1 := bhm1.up u3
  replace bhl2 := bhl2.up u3
  replace bhm2 := bhm2.up u3
  replace bhl3 := bhl3.up u3
  replace bhm3 := bhm3.up u3
  replace b0 := b0.up u3
  replace b1 := b1.up u3
  replace b2 := b2.up u3
  replace UP := UP.trans u3
  clear b1_3 b1_4 b1_5
  clear u3
  cases t3
  rotate_left
  · skip
    go_wp2_with (with_reducible show wpList _ _ _ _ _ _; refine wl_load_box (o := ⟨_, Op.load 100 _, _, _, _, _⟩) rfl _ rfl rfl agg_r36 size_r36 b0 rfl ?_)
    ((with_reducible refine (works36 _).mono ?_))
    rintro e W4 ⟨rfl, u4⟩
    replace hl1 := hl1.up u4
    replace hm1 := hm1.up u4
    replace hl2 := hl2.up u4
    replace hm2 := hm2.up u4
    replace hl3 := hl3.up u4
    replace hm3 := hm3.up u4
    replace hl4 := hl4.up u4
    replace hm4 := hm4.up u4
    replace hl5 := hl5.up u4
    replace hm5 := hm5.up u4
    replace ahl1 := ahl1.up u4
    replace ahm1 := ahm1.up u4
    replace ahl2 := ahl2.up u4
    replace ahm2 := ahm2.up u4
    replace bhl1 := bhl1.up u4
    replace bhm1 := bhm1.up u4
    replace bhl2 := bhl2.up u4
    replace bhm2 := bhm2.up u4
    replace bhl3 := bhl3.up u4
    replace bhm3 := bhm3.up u4
    replace b0 := b0.up u4
    replace b1 := b1.up u4
    replace b2 := b2.up u4
    replace UP := UP.trans u4
    clear u4
    go_wp2
    go_ret
    exact ⟨rfl, UP⟩
  have ag2 := Lib.hid (ht3.out rfl)
  clear ht3
  have b2_0 := b2.cell (i := 0) rfl
  have b2_1 := b2.cell (i := 1) rfl
  have b2_2 := b2.cell (i := 2) rfl
  go_wp2_with (with_reducible show wpList _ _ _ _ _ _; refine wl_load_box (o := ⟨_, Op.load 100 _, _, _, _, _⟩) rfl _ rfl rfl agg_r36 size_r36 b0 rfl ?_)
  ((with_reducible refine (ref_long9g (l := bl1) (m := bm1) 4 (K := 4) rfl (by omega)).mono ?_))
  rintro e W4 ⟨t4, rfl, ht4, u4⟩
  replace hl1 := hl1.up u4
  replace hm1 := hm1.up u4
  replace hl2 := hl2.up u4
  replace hm2 := hm2.up u4
  replace hl3 := hl3.up u4
  replace hm3 := hm3.up u4
  replace hl4 := hl4.up u4
  replace hm4 := hm4.up u4
  replace hl5 := hl5.up u4
  replace hm5 := hm5.up u4
  replace ahl1 := ahl1.up u4
  replace ahm1 := ahm1.up u4
  replace ahl2 := ahl2.up u4
  replace ahm2 := ahm2.up u4
  replace bhl1 := bhl1.up u4
  replace bhm1 := bhm1.up u4
  replace bhl2 := bhl2.up u4
  replace bhm2 := bhm2.up u4
  replace bhl3 := bhl3.up u4
  replace bhm3 := bhm3.up u4
  replace b0 := b0.up u4
  replace b1 := b1.up u4
  replace b2 := b2.up u4
  replace UP := UP.trans u4
  clear b2_0 b2_1 b2_2
  clear u4
  cases t4
  rotate_left
  · skip
    go_wp2_with (with_reducible show wpList _ _ _ _ _ _; refine wl_load_box (o := ⟨_, Op.load 100 _, _, _, _, _⟩) rfl _ rfl rfl agg_r36 size_r36 b0 rfl ?_)
    ((with_reducible refine (works36 _).mono ?_))
    rintro e W5 ⟨rfl, u5⟩
    replace hl1 := hl1.up u5
    replace hm1 := hm1.up u5
    replace hl2 := hl2.up u5
    replace hm2 := hm2.up u5
    replace hl3 := hl3.up u5
    replace hm3 := hm3.up u5
    replace hl4 := hl4.up u5
    replace hm4 := hm4.up u5
    replace hl5 := hl5.up u5
    replace hm5 := hm5.up u5
    replace ahl1 := ahl1.up u5
    replace ahm1 := ahm1.up u5
    replace ahl2 := ahl2.up u5
    replace ahm2 := ahm2.up u5
    replace bhl1 := bhl1.up u5
    replace bhm1 := bhm1.up u5
    replace bhl2 := bhl2.up u5
    replace bhm2 := bhm2.up u5
    replace bhl3 := bhl3.up u5
    replace bhm3 := bhm3.up u5
    replace b0 := b0.up u5
    replace b1 := b1.up u5
    replace b2 := b2.up u5
    replace UP := UP.trans u5
    clear u5
    go_wp2
    go_ret
    exact ⟨rfl, UP⟩
  have bg1 := Lib.hid (ht4.out rfl)
  clear ht4
  have b2_3 := b2.cell (i := 3) rfl
  have b2_4 := b2.cell (i := 4) rfl
  have b2_5 := b2.cell (i := 5) rfl
  go_wp2_with (with_reducible show wpList _ _ _ _ _ _; refine wl_load_box (o := ⟨_, Op.load 100 _, _, _, _, _⟩) rfl _ rfl rfl agg_r36 size_r36 b0 rfl ?_)
  ((with_reducible refine (ref_long9g (l := bl2) (m := bm2) 4 (K := 4) rfl (by omega)).mono ?_))
  rintro e W5 ⟨t5, rfl, ht5, u5⟩
  replace hl1 := hl1.up u5
  replace hm1 := hm1.up u5
  replace hl2 := hl2.up u5
  replace hm2 := hm2.up u5
  replace hl3 := hl3.up u5
  replace hm3 := hm3.up u5
  replace hl4 := hl4.up u5
  replace hm4 := hm4.up u5
  replace hl5 := hl5.up u5
  replace hm5 := hm5.up u5
  replace ahl1 := ahl1.up u5
  replace ahm1 := ahm1.up u5
  replace ahl2 := ahl2.up u5
  replace ahm2 := ahm2.up u5
  replace bhl1 := bhl1.up u5
  replace bhm1 := bhm1.up u5
  replace bhl2 := bhl2.up u5
  replace bhm2 := bhm2.up u5
  replace bhl3 := bhl3.up u5
  replace bhm3 := bhm3.up u5
  replace b0 := b0.up u5
  replace b1 := b1.up u5
  replace b2 := b2.up u5
  replace UP := UP.trans u5
  clear b2_3 b2_4 b2_5
  clear u5
  cases t5
  rotate_left
  · skip
    go_wp2_with (with_reducible show wpList _ _ _ _ _ _; refine wl_load_box (o := ⟨_, Op.load 100 _, _, _, _, _⟩) rfl _ rfl rfl agg_r36 size_r36 b0 rfl ?_)
    ((with_reducible refine (works36 _).mono ?_))
    rintro e W6 ⟨rfl, u6⟩
    replace hl1 := hl1.up u6
    replace hm1 := hm1.up u6
    replace hl2 := hl2.up u6
    replace hm2 := hm2.up u6
    replace hl3 := hl3.up u6
    replace hm3 := hm3.up u6
    replace hl4 := hl4.up u6
    replace hm4 := hm4.up u6
    replace hl5 := hl5.up u6
    replace hm5 := hm5.up u6
    replace ahl1 := ahl1.up u6
    replace ahm1 := ahm1.up u6
    replace ahl2 := ahl2.up u6
    replace ahm2 := ahm2.up u6
    replace bhl1 := bhl1.up u6
    replace bhm1 := bhm1.up u6
    replace bhl2 := bhl2.up u6
    replace bhm2 := bhm2.up u6
    replace bhl3 := bhl3.up u6
    replace bhm3 := bhm3.up u6
    replace b0 := b0.up u6
    replace b1 := b1.up u6
    replace b2 := b2.up u6
    replace UP := UP.trans u6
    clear u6
    go_wp2
    go_ret
    exact ⟨rfl, UP⟩
  have bg2 := Lib.hid (ht5.out rfl)
  clear ht5
  have b2_6 := b2.cell (i := 6) rfl
  have b2_7 := b2.cell (i := 7) rfl
  have b2_8 := b2.cell (i := 8) rfl
  go_wp2_with (with_reducible show wpList _ _ _ _ _ _; refine wl_load_box (o := ⟨_, Op.load 100 _, _, _, _, _⟩) rfl _ rfl rfl agg_r36 size_r36 b0 rfl ?_)
  ((with_reducible refine (ref_long9g (l := bl3) (m := bm3) 4 (K := 4) rfl (by omega)).mono ?_))
  rintro e W6 ⟨t6, rfl, ht6, u6⟩
  replace hl1 := hl1.up u6
  replace hm1 := hm1.up u6
  replace hl2 := hl2.up u6
  replace hm2 := hm2.up u6
  replace hl3 := hl3.up u6
  replace hm3 := hm3.up u6
  replace hl4 := hl4.up u6
  replace hm4 := hm4.up u6
  replace hl5 := hl5.up u6
  replace hm5 := hm5.up u6
  replace ahl1 := ahl1.up u6
  replace ahm1 := ahm1.up u6
  replace ahl2 := ahl2.up u6
  replace ahm2 := ahm2.up u6
  replace bhl1 := bhl1.up u6
  replace bhm1 := bhm1.up u6
  replace bhl2 := bhl2.up u6
  replace bhm2 := bhm2.up u6
  replace bhl3 := bhl3.up u6
  replace bhm3 := bhm3.up u6
  replace b0 := b0.up u6
  replace b1 := b1.up u6
  replace b2 := b2.up u6
  replace UP := UP.trans u6
  clear b2_6 b2_7 b2_8
  clear u6
  cases t6
  rotate_left
  · skip
    go_wp2_with (with_reducible show wpList _ _ _ _ _ _; refine wl_load_box (o := ⟨_, Op.load 100 _, _, _, _, _⟩) rfl _ rfl rfl agg_r36 size_r36 b0 rfl ?_)
    ((with_reducible refine (works36 _).mono ?_))
    rintro e W7 ⟨rfl, u7⟩
    replace hl1 := hl1.up u7
    replace hm1 := hm1.up u7
    replace hl2 := hl2.up u7
    replace hm2 := hm2.up u7
    replace hl3 := hl3.up u7
    replace hm3 := hm3.up u7
    replace hl4 := hl4.up u7
    replace hm4 := hm4.up u7
    replace hl5 := hl5.up u7
    replace hm5 := hm5.up u7
    replace ahl1 := ahl1.up u7
    replace ahm1 := ahm1.up u7
    replace ahl2 := ahl2.up u7
    replace ahm2 := ahm2.up u7
    replace bhl1 := bhl1.up u7
    replace bhm1 := bhm1.up u7
    replace bhl2 := bhl2.up u7
    replace bhm2 := bhm2.up u7
    replace bhl3 := bhl3.up u7
    replace bhm3 := bhm3.up u7
    replace b0 := b0.up u7
    replace b1 := b1.up u7
    replace b2 := b2.up u7
    replace UP := UP.trans u7
    clear u7
    go_wp2
    go_ret
    exact ⟨rfl, UP⟩
  have bg3 := Lib.hid (ht6.out rfl)
  clear ht6
  go_wp2_with (with_reducible show wpList _ _ _ _ _ _; refine wl_load_box (o := ⟨_, Op.load 100 _, _, _, _, _⟩) rfl _ rfl rfl agg_r36 size_r36 b0 rfl ?_)
  ((with_reducible refine (law_to36).mono ?_))
  rintro e W7 ⟨rfl, u7⟩
  replace hl1 := hl1.up u7
  replace hm1 := hm1.up u7
  replace hl2 := hl2.up u7
  replace hm2 := hm2.up u7
  replace hl3 := hl3.up u7
  replace hm3 := hm3.up u7
  replace hl4 := hl4.up u7
  replace hm4 := hm4.up u7
  replace hl5 := hl5.up u7
  replace hm5 := hm5.up u7
  replace ahl1 := ahl1.up u7
  replace ahm1 := ahm1.up u7
  replace ahl2 := ahl2.up u7
  replace ahm2 := ahm2.up u7
  replace bhl1 := bhl1.up u7
  replace bhm1 := bhm1.up u7
  replace bhl2 := bhl2.up u7
  replace bhm2 := bhm2.up u7
  replace bhl3 := bhl3.up u7
  replace bhm3 := bhm3.up u7
  replace b0 := b0.up u7
  replace b1 := b1.up u7
  replace b2 := b2.up u7
  replace UP := UP.trans u7
  clear u7
  go_wp2_with (with_reducible show wpList _ _ _ _ _ _; refine wl_load_box (o := ⟨_, Op.load 105 _, _, _, _, _⟩) rfl _ rfl rfl agg_rules size_rules (Bx.new _ _ _) rfl ?_)
  have x7 := Bx.new 105 W7 [.bool s1, .slice A1 l1.length c1, .slice D1 m1.length e1, .bool s2, .slice A2 l2.length c2, .slice D2 m2.length e2, .bool s3, .slice A3 l3.length c3, .slice D3 m3.length e3, .bool s4, .slice A4 l4.length c4, .slice D4 m4.length e4, .bool s5, .slice A5 l5.length c5, .slice D5 m5.length e5, .int .i64 fi, .int .i64 mo]
  have b0_lt_x7 := b0.lt
  have b1_lt_x7 := b1.lt
  have b2_lt_x7 := b2.lt
  replace hl1 := hl1.up ((Up.refl W7).alloc (.cells #[.bool s1, .slice A1 l1.length c1, .slice D1 m1.length e1, .bool s2, .slice A2 l2.length c2, .slice D2 m2.length e2, .bool s3, .slice A3 l3.length c3, .slice D3 m3.length e3, .bool s4, .slice A4 l4.length c4, .slice D4 m4.length e4, .bool s5, .slice A5 l5.length c5, .slice D5 m5.length e5, .int .i64 fi, .int .i64 mo] 105))
  replace hm1 := hm1.up ((Up.refl W7).alloc (.cells #[.bool s1, .slice A1 l1.length c1, .slice D1 m1.length e1, .bool s2, .slice A2 l2.length c2, .slice D2 m2.length e2, .bool s3, .slice A3 l3.length c3, .slice D3 m3.length e3, .bool s4, .slice A4 l4.length c4, .slice D4 m4.length e4, .bool s5, .slice A5 l5.length c5, .slice D5 m5.length e5, .int .i64 fi, .int .i64 mo] 105))
  replace hl2 := hl2.up ((Up.refl W7).alloc (.cells #[.bool s1, .slice A1 l1.length c1, .slice D1 m1.length e1, .bool s2, .slice A2 l2.length c2, .slice D2 m2.length e2, .bool s3, .slice A3 l3.length c3, .slice D3 m3.length e3, .bool s4, .slice A4 l4.length c4, .slice D4 m4.length e4, .bool s5, .slice A5 l5.length c5, .slice D5 m5.length e5, .int .i64 fi, .int .i64 mo] 105))
  replace hm2 := hm2.up ((Up.refl W7).alloc (.cells #[.bool s1, .slice A1 l1.length c1, .slice D1 m1.length e1, .bool s2, .slice A2 l2.length c2, .slice D2 m2.length e2, .bool s3, .slice A3 l3.length c3, .slice D3 m3.length e3, .bool s4, .slice A4 l4.length c4, .slice D4 m4.length e4, .bool s5, .slice A5 l5.length c5, .slice D5 m5.length e5, .int .i64 fi, .int .i64 mo] 105))
  replace hl3 := hl3.up ((Up.refl W7).alloc (.cells #[.bool s1, .slice A1 l1.length c1, .slice D1 m1.length e1, .bool s2, .slice A2 l2.length c2, .slice D2 m2.length e2, .bool s3, .slice A3 l3.length c3, .slice D3 m3.length e3, .bool s4, .slice A4 l4.length c4, .slice D4 m4.length e4, .bool s5, .slice A5 l5.length c5, .slice D5 m5.length e5, .int .i64 fi, .int .i64 mo] 105))
  replace hm3 := hm3.up ((Up.refl W7).alloc (.cells #[.bool s1, .slice A1 l1.length c1, .slice D1 m1.length e1, .bool s2, .slice A2 l2.length c2, .slice D2 m2.length e2, .bool s3, .slice A3 l3.length c3, .slice D3 m3.length e3, .bool s4, .slice A4 l4.length c4, .slice D4 m4.length e4, .bool s5, .slice A5 l5.length c5, .slice D5 m5.length e5, .int .i64 fi, .int .i64 mo] 105))
  replace hl4 := hl4.up ((Up.refl W7).alloc (.cells #[.bool s1, .slice A1 l1.length c1, .slice D1 m1.length e1, .bool s2, .slice A2 l2.length c2, .slice D2 m2.length e2, .bool s3, .slice A3 l3.length c3, .slice D3 m3.length e3, .bool s4, .slice A4 l4.length c4, .slice D4 m4.length e4, .bool s5, .slice A5 l5.length c5, .slice D5 m5.length e5, .int .i64 fi, .int .i64 mo] 105))
  replace hm4 := hm4.up ((Up.refl W7).alloc (.cells #[.bool s1, .slice A1 l1.length c1, .slice D1 m1.length e1, .bool s2, .slice A2 l2.length c2, .slice D2 m2.length e2, .bool s3, .slice A3 l3.length c3, .slice D3 m3.length e3, .bool s4, .slice A4 l4.length c4, .slice D4 m4.length e4, .bool s5, .slice A5 l5.length c5, .slice D5 m5.length e5, .int .i64 fi, .int .i64 mo] 105))
  replace hl5 := hl5.up ((Up.refl W7).alloc (.cells #[.bool s1, .slice A1 l1.length c1, .slice D1 m1.length e1, .bool s2, .slice A2 l2.length c2, .slice D2 m2.length e2, .bool s3, .slice A3 l3.length c3, .slice D3 m3.length e3, .bool s4, .slice A4 l4.length c4, .slice D4 m4.length e4, .bool s5, .slice A5 l5.length c5, .slice D5 m5.length e5, .int .i64 fi, .int .i64 mo] 105))
  replace hm5 := hm5.up ((Up.refl W7).alloc (.cells #[.bool s1, .slice A1 l1.length c1, .slice D1 m1.length e1, .bool s2, .slice A2 l2.length c2, .slice D2 m2.length e2, .bool s3, .slice A3 l3.length c3, .slice D3 m3.length e3, .bool s4, .slice A4 l4.length c4, .slice D4 m4.length e4, .bool s5, .slice A5 l5.length c5, .slice D5 m5.length e5, .int .i64 fi, .int .i64 mo] 105))
  replace ahl1 := ahl1.up ((Up.refl W7).alloc (.cells #[.bool s1, .slice A1 l1.length c1, .slice D1 m1.length e1, .bool s2, .slice A2 l2.length c2, .slice D2 m2.length e2, .bool s3, .slice A3 l3.length c3, .slice D3 m3.length e3, .bool s4, .slice A4 l4.length c4, .slice D4 m4.length e4, .bool s5, .slice A5 l5.length c5, .slice D5 m5.length e5, .int .i64 fi, .int .i64 mo] 105))
  replace ahm1 := ahm1.up ((Up.refl W7).alloc (.cells #[.bool s1, .slice A1 l1.length c1, .slice D1 m1.length e1, .bool s2, .slice A2 l2.length c2, .slice D2 m2.length e2, .bool s3, .slice A3 l3.length c3, .slice D3 m3.length e3, .bool s4, .slice A4 l4.length c4, .slice D4 m4.length e4, .bool s5, .slice A5 l5.length c5, .slice D5 m5.length e5, .int .i64 fi, .int .i64 mo] 105))
  replace ahl2 := ahl2.up ((Up.refl W7).alloc (.cells #[.bool s1, .slice A1 l1.length c1, .slice D1 m1.length e1, .bool s2, .slice A2 l2.length c2, .slice D2 m2.length e2, .bool s3, .slice A3 l3.length c3, .slice D3 m3.length e3, .bool s4, .slice A4 l4.length c4, .slice D4 m4.length e4, .bool s5, .slice A5 l5.length c5, .slice D5 m5.length e5, .int .i64 fi, .int .i64 mo] 105))
  replace ahm2 := ahm2.up ((Up.refl W7).alloc (.cells #[.bool s1, .slice A1 l1.length c1, .slice D1 m1.length e1, .bool s2, .slice A2 l2.length c2, .slice D2 m2.length e2, .bool s3, .slice A3 l3.length c3, .slice D3 m3.length e3, .bool s4, .slice A4 l4.length c4, .slice D4 m4.length e4, .bool s5, .slice A5 l5.length c5, .slice D5 m5.length e5, .int .i64 fi, .int .i64 mo] 105))
  replace bhl1 := bhl1.up ((Up.refl W7).alloc (.cells #[.bool s1, .slice A1 l1.length c1, .slice D1 m1.length e1, .bool s2, .slice A2 l2.length c2, .slice D2 m2.length e2, .bool s3, .slice A3 l3.length c3, .slice D3 m3.length e3, .bool s4, .slice A4 l4.length c4, .slice D4 m4.length e4, .bool s5, .slice A5 l5.length c5, .slice D5 m5.length e5, .int .i64 fi, .int .i64 mo] 105))
  replace bhm1 := bhm1.up ((Up.refl W7).alloc (.cells #[.bool s1, .slice A1 l1.length c1, .slice D1 m1.length e1, .bool s2, .slice A2 l2.length c2, .slice D2 m2.length e2, .bool s3, .slice A3 l3.length c3, .slice D3 m3.length e3, .bool s4, .slice A4 l4.length c4, .slice D4 m4.length e4, .bool s5, .slice A5 l5.length c5, .slice D5 m5.length e5, .int .i64 fi, .int .i64 mo] 105))
  replace bhl2 := bhl2.up ((Up.refl W7).alloc (.cells #[.bool s1, .slice A1 l1.length c1, .slice D1 m1.length e1, .bool s2, .slice A2 l2.length c2, .slice D2 m2.length e2, .bool s3, .slice A3 l3.length c3, .slice D3 m3.length e3, .bool s4, .slice A4 l4.length c4, .slice D4 m4.length e4, .bool s5, .slice A5 l5.length c5, .slice D5 m5.length e5, .int .i64 fi, .int .i64 mo] 105))
  replace bhm2 := bhm2.up ((Up.refl W7).alloc (.cells #[.bool s1, .slice A1 l1.length c1, .slice D1 m1.length e1, .bool s2, .slice A2 l2.length c2, .slice D2 m2.length e2, .bool s3, .slice A3 l3.length c3, .slice D3 m3.length e3, .bool s4, .slice A4 l4.length c4, .slice D4 m4.length e4, .bool s5, .slice A5 l5.length c5, .slice D5 m5.length e5, .int .i64 fi, .int .i64 mo] 105))
  replace bhl3 := bhl3.up ((Up.refl W7).alloc (.cells #[.bool s1, .slice A1 l1.length c1, .slice D1 m1.length e1, .bool s2, .slice A2 l2.length c2, .slice D2 m2.length e2, .bool s3, .slice A3 l3.length c3, .slice D3 m3.length e3, .bool s4, .slice A4 l4.length c4, .slice D4 m4.length e4, .bool s5, .slice A5 l5.length c5, .slice D5 m5.length e5, .int .i64 fi, .int .i64 mo] 105))
  replace bhm3 := bhm3.up ((Up.refl W7).alloc (.cells #[.bool s1, .slice A1 l1.length c1, .slice D1 m1.length e1, .bool s2, .slice A2 l2.length c2, .slice D2 m2.length e2, .bool s3, .slice A3 l3.length c3, .slice D3 m3.length e3, .bool s4, .slice A4 l4.length c4, .slice D4 m4.length e4, .bool s5, .slice A5 l5.length c5, .slice D5 m5.length e5, .int .i64 fi, .int .i64 mo] 105))
  replace b0 := b0.up ((Up.refl W7).alloc (.cells #[.bool s1, .slice A1 l1.length c1, .slice D1 m1.length e1, .bool s2, .slice A2 l2.length c2, .slice D2 m2.length e2, .bool s3, .slice A3 l3.length c3, .slice D3 m3.length e3, .bool s4, .slice A4 l4.length c4, .slice D4 m4.length e4, .bool s5, .slice A5 l5.length c5, .slice D5 m5.length e5, .int .i64 fi, .int .i64 mo] 105))
  replace b1 := b1.up ((Up.refl W7).alloc (.cells #[.bool s1, .slice A1 l1.length c1, .slice D1 m1.length e1, .bool s2, .slice A2 l2.length c2, .slice D2 m2.length e2, .bool s3, .slice A3 l3.length c3, .slice D3 m3.length e3, .bool s4, .slice A4 l4.length c4, .slice D4 m4.length e4, .bool s5, .slice A5 l5.length c5, .slice D5 m5.length e5, .int .i64 fi, .int .i64 mo] 105))
  replace b2 := b2.up ((Up.refl W7).alloc (.cells #[.bool s1, .slice A1 l1.length c1, .slice D1 m1.length e1, .bool s2, .slice A2 l2.length c2, .slice D2 m2.length e2, .bool s3, .slice A3 l3.length c3, .slice D3 m3.length e3, .bool s4, .slice A4 l4.length c4, .slice D4 m4.length e4, .bool s5, .slice A5 l5.length c5, .slice D5 m5.length e5, .int .i64 fi, .int .i64 mo] 105))
  replace UP := UP.trans ((Up.refl W7).alloc (.cells #[.bool s1, .slice A1 l1.length c1, .slice D1 m1.length e1, .bool s2, .slice A2 l2.length c2, .slice D2 m2.length e2, .bool s3, .slice A3 l3.length c3, .slice D3 m3.length e3, .bool s4, .slice A4 l4.length c4, .slice D4 m4.length e4, .bool s5, .slice A5 l5.length c5, .slice D5 m5.length e5, .int .i64 fi, .int .i64 mo] 105))
  generalize (W7.alloc (.cells #[.bool s1, .slice A1 l1.length c1, .slice D1 m1.length e1, .bool s2, .slice A2 l2.length c2, .slice D2 m2.length e2, .bool s3, .slice A3 l3.length c3, .slice D3 m3.length e3, .bool s4, .slice A4 l4.length c4, .slice D4 m4.length e4, .bool s5, .slice A5 l5.length c5, .slice D5 m5.length e5, .int .i64 fi, .int .i64 mo] 105)) = W8 at *
  have hf1 : l1.length ≤ 1000 ∧ m1.length ≤ 1000 := by obtain ⟨g1, g2, g3, g4, g5⟩ := hf.out; omega
  have hf2 : l2.length ≤ 1000 ∧ m2.length ≤ 1000 := by obtain ⟨g1, g2, g3, g4, g5⟩ := hf.out; omega
  have hf3 : l3.length ≤ 1000 ∧ m3.length ≤ 1000 := by obtain ⟨g1, g2, g3, g4, g5⟩ := hf.out; omega
  have hf4 : l4.length ≤ 1000 ∧ m4.length ≤ 1000 := by obtain ⟨g1, g2, g3, g4, g5⟩ := hf.out; omega
  have hf5 : l5.length ≤ 1000 ∧ m5.length ≤ 1000 := by obtain ⟨g1, g2, g3, g4, g5⟩ := hf.out; omega
  ((with_reducible refine (pace_right hl1 hm1 hl2 hm2 hl3 hm3 hl4 hm4 hl5 hm5 hf1 hf2 hf3 hf4 hf5 hfi hmo).mono ?_))
  rintro e W9 ⟨rfl, u9⟩
  replace hl1 := hl1.up u9
  replace hm1 := hm1.up u9
  replace hl2 := hl2.up u9
  replace hm2 := hm2.up u9
  replace hl3 := hl3.up u9
  replace hm3 := hm3.up u9
  replace hl4 := hl4.up u9
  replace hm4 := hm4.up u9
  replace hl5 := hl5.up u9
  replace hm5 := hm5.up u9
  replace ahl1 := ahl1.up u9
  replace ahm1 := ahm1.up u9
  replace ahl2 := ahl2.up u9
  replace ahm2 := ahm2.up u9
  replace bhl1 := bhl1.up u9
  replace bhm1 := bhm1.up u9
  replace bhl2 := bhl2.up u9
  replace bhm2 := bhm2.up u9
  replace bhl3 := bhl3.up u9
  replace bhm3 := bhm3.up u9
  replace b0 := b0.up u9
  replace b1 := b1.up u9
  replace b2 := b2.up u9
  replace x7 := x7.up u9
  replace UP := UP.trans u9
  clear u9
  obtain ⟨z, HZ⟩ : ∃ z, Hid (Pc.wrong (List.all [(s1, l1, m1), (s2, l2, m2), (s3, l3, m3), (s4, l4, m4), (s5, l5, m5)] good) (mkRat (Wd.iv s1 (Wd.val l1)) (Wd.val m1)) (mkRat (Wd.iv s2 (Wd.val l2)) (Wd.val m2)) (mkRat (Wd.iv s3 (Wd.val l3)) (Wd.val m3)) (mkRat (Wd.iv s4 (Wd.val l4)) (Wd.val m4)) (mkRat (Wd.iv s5 (Wd.val l5)) (Wd.val m5)) fi mo = z) := ⟨_, Lib.hid rfl⟩
  rw [HZ.out]
  by_cases hz : z = 0
  rotate_left
  · have kz : (z == 0) = false := beq_false_of_ne hz
    go_wp2_with fail
    ((with_reducible refine (works36 _).mono ?_))
    rintro e W10 ⟨rfl, u10⟩
    replace hl1 := hl1.up u10
    replace hm1 := hm1.up u10
    replace hl2 := hl2.up u10
    replace hm2 := hm2.up u10
    replace hl3 := hl3.up u10
    replace hm3 := hm3.up u10
    replace hl4 := hl4.up u10
    replace hm4 := hm4.up u10
    replace hl5 := hl5.up u10
    replace hm5 := hm5.up u10
    replace ahl1 := ahl1.up u10
    replace ahm1 := ahm1.up u10
    replace ahl2 := ahl2.up u10
    replace ahm2 := ahm2.up u10
    replace bhl1 := bhl1.up u10
    replace bhm1 := bhm1.up u10
    replace bhl2 := bhl2.up u10
    replace bhm2 := bhm2.up u10
    replace bhl3 := bhl3.up u10
    replace bhm3 := bhm3.up u10
    replace b0 := b0.up u10
    replace b1 := b1.up u10
    replace b2 := b2.up u10
    replace x7 := x7.up u10
    replace UP := UP.trans u10
    clear u10
    go_wp2
    go_ret
    exact ⟨rfl, UP⟩
  subst hz
  have HW := Lib.hid (Pc.wrong_zero HZ.out)
  have F1 := fr_raw (s := s1) hl1 hm1 hf1
  have F2 := fr_raw (s := s2) hl2 hm2 hf2
  have F3 := fr_raw (s := s3) hl3 hm3 hf3
  have F4 := fr_raw (s := s4) hl4 hm4 hf4
  clear HZ hf1 hf2 hf3 hf4 hf5 hf
  clear hl1 hm1 hl2 hm2 hl3 hm3 hl4 hm4 hl5 hm5
  generalize (mkRat (Wd.iv s1 (Wd.val l1)) (Wd.val m1)) = tol at *
  generalize (mkRat (Wd.iv s2 (Wd.val l2)) (Wd.val m2)) = safe at *
  generalize (mkRat (Wd.iv s3 (Wd.val l3)) (Wd.val m3)) = low at *
  generalize (mkRat (Wd.iv s4 (Wd.val l4)) (Wd.val m4)) = high at *
  generalize (mkRat (Wd.iv s5 (Wd.val l5)) (Wd.val m5)) = least at *
  have aF1 : Fr W9 (.agg #[.bool as1, .slice aA1 al1.length ac1, .slice aD1 am1.length ae1]) (mkRat (Wd.iv as1 (Wd.val al1)) (Wd.val am1)) 4 := ⟨as1, _, _, al1, am1, rfl, ahl1, ahm1, rfl, ag1.out.1, ag1.out.2, by omega⟩
  have aF2 : Fr W9 (.agg #[.bool as2, .slice aA2 al2.length ac2, .slice aD2 am2.length ae2]) (mkRat (Wd.iv as2 (Wd.val al2)) (Wd.val am2)) 4 := ⟨as2, _, _, al2, am2, rfl, ahl2, ahm2, rfl, ag2.out.1, ag2.out.2, by omega⟩
  have bF1 : Fr W9 (.agg #[.bool bs1, .slice bA1 bl1.length bc1, .slice bD1 bm1.length be1]) (mkRat (Wd.iv bs1 (Wd.val bl1)) (Wd.val bm1)) 4 := ⟨bs1, _, _, bl1, bm1, rfl, bhl1, bhm1, rfl, bg1.out.1, bg1.out.2, by omega⟩
  have bF2 : Fr W9 (.agg #[.bool bs2, .slice bA2 bl2.length bc2, .slice bD2 bm2.length be2]) (mkRat (Wd.iv bs2 (Wd.val bl2)) (Wd.val bm2)) 4 := ⟨bs2, _, _, bl2, bm2, rfl, bhl2, bhm2, rfl, bg2.out.1, bg2.out.2, by omega⟩
  have bF3 : Fr W9 (.agg #[.bool bs3, .slice bA3 bl3.length bc3, .slice bD3 bm3.length be3]) (mkRat (Wd.iv bs3 (Wd.val bl3)) (Wd.val bm3)) 4 := ⟨bs3, _, _, bl3, bm3, rfl, bhl3, bhm3, rfl, bg3.out.1, bg3.out.2, by omega⟩
  clear ahl1 ahm1 ahl2 ahm2 bhl1 bhm1 bhl2 bhm2 bhl3 bhm3
  generalize (mkRat (Wd.iv as1 (Wd.val al1)) (Wd.val am1)) = y1 at *
  generalize (mkRat (Wd.iv as2 (Wd.val al2)) (Wd.val am2)) = y2 at *
  generalize (mkRat (Wd.iv bs1 (Wd.val bl1)) (Wd.val bm1)) = tt at *
  generalize (mkRat (Wd.iv bs2 (Wd.val bl2)) (Wd.val bm2)) = en at *
  generalize (mkRat (Wd.iv bs3 (Wd.val bl3)) (Wd.val bm3)) = wa at *
  have b1_0 := b1.cell (i := 0) rfl
  have b1_1 := b1.cell (i := 1) rfl
  have b1_2 := b1.cell (i := 2) rfl
  go_wp2_with fail
  ((with_reducible refine (law_to9 _ _ _ _ _ _ _ _).mono ?_))
  rintro e W10 ⟨rfl, u10⟩
  replace F1 := F1.up u10
  replace F2 := F2.up u10
  replace F3 := F3.up u10
  replace F4 := F4.up u10
  replace aF1 := aF1.up u10
  replace aF2 := aF2.up u10
  replace bF1 := bF1.up u10
  replace bF2 := bF2.up u10
  replace bF3 := bF3.up u10
  replace b0 := b0.up u10
  replace b1 := b1.up u10
  replace b2 := b2.up u10
  replace x7 := x7.up u10
  replace UP := UP.trans u10
  clear b1_0 b1_1 b1_2
  clear u10
  go_wp2_with fail
  ((with_reducible refine (frac_abs aF1 (by omega)).mono ?_))
  rintro e W11 ⟨V11, rfl, p, u11⟩
  replace F1 := F1.up u11
  replace F2 := F2.up u11
  replace F3 := F3.up u11
  replace F4 := F4.up u11
  replace aF1 := aF1.up u11
  replace aF2 := aF2.up u11
  replace bF1 := bF1.up u11
  replace bF2 := bF2.up u11
  replace bF3 := bF3.up u11
  replace b0 := b0.up u11
  replace b1 := b1.up u11
  replace b2 := b2.up u11
  replace x7 := x7.up u11
  replace UP := UP.trans u11
  clear u11
  obtain ⟨A, HA⟩ : ∃ x, Hid (Wd.absQ y1 = x) := ⟨_, Lib.hid rfl⟩
  rw [HA.out] at p
  obtain ⟨Xp, Yp, rfl, p, pd⟩ := p
  obtain ⟨Ap, np, cp, rfl⟩ := p.shape
  obtain ⟨Apd, npd, cpd, rfl⟩ := pd.shape
  go_upto_region 7 with fail
  have x8 := Bx.new 69 W11 [.bool (Wd.ngb A.num), .slice Ap np cp, .slice Apd npd cpd]
  have b0_lt_x8 := b0.lt
  have b1_lt_x8 := b1.lt
  have b2_lt_x8 := b2.lt
  have x7_lt_x8 := x7.lt
  replace F1 := F1.up ((Up.refl W11).alloc (.cells #[.bool (Wd.ngb A.num), .slice Ap np cp, .slice Apd npd cpd] 69))
  replace F2 := F2.up ((Up.refl W11).alloc (.cells #[.bool (Wd.ngb A.num), .slice Ap np cp, .slice Apd npd cpd] 69))
  replace F3 := F3.up ((Up.refl W11).alloc (.cells #[.bool (Wd.ngb A.num), .slice Ap np cp, .slice Apd npd cpd] 69))
  replace F4 := F4.up ((Up.refl W11).alloc (.cells #[.bool (Wd.ngb A.num), .slice Ap np cp, .slice Apd npd cpd] 69))
  replace aF1 := aF1.up ((Up.refl W11).alloc (.cells #[.bool (Wd.ngb A.num), .slice Ap np cp, .slice Apd npd cpd] 69))
  replace aF2 := aF2.up ((Up.refl W11).alloc (.cells #[.bool (Wd.ngb A.num), .slice Ap np cp, .slice Apd npd cpd] 69))
  replace bF1 := bF1.up ((Up.refl W11).alloc (.cells #[.bool (Wd.ngb A.num), .slice Ap np cp, .slice Apd npd cpd] 69))
  replace bF2 := bF2.up ((Up.refl W11).alloc (.cells #[.bool (Wd.ngb A.num), .slice Ap np cp, .slice Apd npd cpd] 69))
  replace bF3 := bF3.up ((Up.refl W11).alloc (.cells #[.bool (Wd.ngb A.num), .slice Ap np cp, .slice Apd npd cpd] 69))
  replace p := p.up ((Up.refl W11).alloc (.cells #[.bool (Wd.ngb A.num), .slice Ap np cp, .slice Apd npd cpd] 69))
  replace pd := pd.up ((Up.refl W11).alloc (.cells #[.bool (Wd.ngb A.num), .slice Ap np cp, .slice Apd npd cpd] 69))
  replace b0 := b0.up ((Up.refl W11).alloc (.cells #[.bool (Wd.ngb A.num), .slice Ap np cp, .slice Apd npd cpd] 69))
  replace b1 := b1.up ((Up.refl W11).alloc (.cells #[.bool (Wd.ngb A.num), .slice Ap np cp, .slice Apd npd cpd] 69))
  replace b2 := b2.up ((Up.refl W11).alloc (.cells #[.bool (Wd.ngb A.num), .slice Ap np cp, .slice Apd npd cpd] 69))
  replace x7 := x7.up ((Up.refl W11).alloc (.cells #[.bool (Wd.ngb A.num), .slice Ap np cp, .slice Apd npd cpd] 69))
  replace UP := UP.trans ((Up.refl W11).alloc (.cells #[.bool (Wd.ngb A.num), .slice Ap np cp, .slice Apd npd cpd] 69))
  generalize (W11.alloc (.cells #[.bool (Wd.ngb A.num), .slice Ap np cp, .slice Apd npd cpd] 69)) = W12 at *
  obtain ⟨x8_0, x8_1, x8_2⟩ := x8.c3
  have LA : Wd.Lq A 4 := by rw [← HA.out]; exact Wd.Lq.absq aF1.lq
  obtain ⟨C, HC⟩ : ∃ x, Hid (Wd.absQ y2 = x) := ⟨_, Lib.hid rfl⟩
  have LC : Wd.Lq C 4 := by rw [← HC.out]; exact Wd.Lq.absq aF2.lq
  obtain ⟨B, HB⟩ : ∃ x, Hid (A + C = x) := ⟨_, Lib.hid rfl⟩
  have LB : Wd.Lq B 9 := by rw [← HB.out]; exact LA.add LC
  go_cut [9] (fun t9 wx => ∃ (g : Nat) (A9 D9 : Option Addr) (n9 k9 r9 d9 : Nat), t9 = .pointer (some ⟨g, 0, none⟩) ∧ Bx 69 wx g [.bool (Wd.ngb B.num), .slice A9 n9 k9, .slice D9 r9 d9] ∧ Qw wx (.agg #[.bool (Wd.ngb B.num), .slice A9 n9 k9, .slice D9 r9 d9]) B ∧ Bx 102 wx (w.heap.size + 1 + 1) [.bool bs1, .slice bA1 bl1.length bc1, .slice bD1 bm1.length be1, .bool bs2, .slice bA2 bl2.length bc2, .slice bD2 bm2.length be2, .bool bs3, .slice bA3 bl3.length bc3, .slice bD3 bm3.length be3] ∧ Bx 105 wx W7.heap.size [.bool s1, .slice A1 l1.length c1, .slice D1 m1.length e1, .bool s2, .slice A2 l2.length c2, .slice D2 m2.length e2, .bool s3, .slice A3 l3.length c3, .slice D3 m3.length e3, .bool s4, .slice A4 l4.length c4, .slice D4 m4.length e4, .bool s5, .slice A5 l5.length c5, .slice D5 m5.length e5, .int .i64 fi, .int .i64 mo] ∧ Bx 69 wx W11.heap.size [.bool (Wd.ngb A.num), .slice Ap np cp, .slice Apd npd cpd] ∧ Qw wx (.agg #[.bool (Wd.ngb A.num), .slice Ap np cp, .slice Apd npd cpd]) A ∧ Fr wx (.agg #[.bool s1, .slice A1 l1.length c1, .slice D1 m1.length e1]) tol 1000 ∧ Fr wx (.agg #[.bool s2, .slice A2 l2.length c2, .slice D2 m2.length e2]) safe 1000 ∧ Fr wx (.agg #[.bool s3, .slice A3 l3.length c3, .slice D3 m3.length e3]) low 1000 ∧ Fr wx (.agg #[.bool s4, .slice A4 l4.length c4, .slice D4 m4.length e4]) high 1000 ∧ Fr wx (.agg #[.bool bs1, .slice bA1 bl1.length bc1, .slice bD1 bm1.length be1]) tt 4 ∧ Fr wx (.agg #[.bool bs2, .slice bA2 bl2.length bc2, .slice bD2 bm2.length be2]) en 4 ∧ Fr wx (.agg #[.bool bs3, .slice bA3 bl3.length bc3, .slice bD3 bm3.length be3]) wa 4 ∧ Up w wx)
  case first =>
    have b1_3 := b1.cell (i := 3) rfl
    have b1_4 := b1.cell (i := 4) rfl
    have b1_5 := b1.cell (i := 5) rfl
    replace F1 := F1.up (Up.refl W12).drew
    replace F2 := F2.up (Up.refl W12).drew
    replace F3 := F3.up (Up.refl W12).drew
    replace F4 := F4.up (Up.refl W12).drew
    replace aF1 := aF1.up (Up.refl W12).drew
    replace aF2 := aF2.up (Up.refl W12).drew
    replace bF1 := bF1.up (Up.refl W12).drew
    replace bF2 := bF2.up (Up.refl W12).drew
    replace bF3 := bF3.up (Up.refl W12).drew
    replace p := p.up (Up.refl W12).drew
    replace pd := pd.up (Up.refl W12).drew
    replace b0 := b0.up (Up.refl W12).drew
    replace b1 := b1.up (Up.refl W12).drew
    replace b2 := b2.up (Up.refl W12).drew
    replace x7 := x7.up (Up.refl W12).drew
    replace x8 := x8.up (Up.refl W12).drew
    replace UP := UP.trans (Up.refl W12).drew
    clear x8_0 x8_1 x8_2 b1_3 b1_4 b1_5
    have b1_3 := b1.cell (i := 3) rfl
    have b1_4 := b1.cell (i := 4) rfl
    have b1_5 := b1.cell (i := 5) rfl
    obtain ⟨x8_0, x8_1, x8_2⟩ := x8.c3
    refine wp_region_noPanic ?_
    refine wp_region_held_drew (S := fun w' => Up w w' ∧ w'.cell? ⟨w.heap.size + 1, 3, none⟩ = some (.bool as2) ∧ w'.cell? ⟨w.heap.size + 1, 4, none⟩ = some (.slice aA2 al2.length ac2) ∧ w'.cell? ⟨w.heap.size + 1, 5, none⟩ = some (.slice aD2 am2.length ae2) ∧ w'.cell? ⟨W11.heap.size, 0, none⟩ = some (.bool (Wd.ngb A.num)) ∧ w'.cell? ⟨W11.heap.size, 1, none⟩ = some (.slice Ap np cp) ∧ w'.cell? ⟨W11.heap.size, 2, none⟩ = some (.slice Apd npd cpd)) (by kernel_rfl) (by exact ⟨UP, b1_3, b1_4, b1_5, x8_0, x8_1, x8_2⟩) (fun hHeld => ?_)
    clear hHeld
    generalize W12.drew = WC at *
    have hHeld : Up w WC ∧ WC.cell? ⟨w.heap.size + 1, 3, none⟩ = some (.bool as2) ∧ WC.cell? ⟨w.heap.size + 1, 4, none⟩ = some (.slice aA2 al2.length ac2) ∧ WC.cell? ⟨w.heap.size + 1, 5, none⟩ = some (.slice aD2 am2.length ae2) ∧ WC.cell? ⟨W11.heap.size, 0, none⟩ = some (.bool (Wd.ngb A.num)) ∧ WC.cell? ⟨W11.heap.size, 1, none⟩ = some (.slice Ap np cp) ∧ WC.cell? ⟨W11.heap.size, 2, none⟩ = some (.slice Apd npd cpd) := by exact ⟨UP, b1_3, b1_4, b1_5, x8_0, x8_1, x8_2⟩
    refine wpAnyH_take (i := 0) (v := ?_) rfl (by kernel_rfl) (by decide +kernel) (by decide +kernel) (fun _ _ _ h => h) (Or.inl ⟨by rfl, ?_⟩) (by assumption) ?_
    rotate_left
    · (intro w hSw; (try dsimp only at hSw); go_simp; first | done | with_reducible rfl)
    try simp only [List.getElem_toArray, List.getElem_cons_zero, List.getElem_cons_succ, Act.put, List.setIfInBounds_toArray, List.set_cons_zero, List.set_cons_succ]
    refine wpAnyH_take (i := 1) (v := ?_) rfl (by kernel_rfl) (by decide +kernel) (by decide +kernel) (fun _ _ _ h => h) (Or.inl ⟨by rfl, ?_⟩) (by assumption) ?_
    rotate_left
    · (intro w hSw; (try dsimp only at hSw); go_simp; first | done | with_reducible rfl)
    try simp only [List.getElem_toArray, List.getElem_cons_zero, List.getElem_cons_succ, Act.put, List.setIfInBounds_toArray, List.set_cons_zero, List.set_cons_succ]
    refine wpAnyH_take (i := 2) (v := ?_) rfl (by kernel_rfl) (by decide +kernel) (by decide +kernel) (fun _ _ _ h => h) (Or.inl ⟨by rfl, ?_⟩) (by assumption) ?_
    rotate_left
    · (intro w hSw; (try dsimp only at hSw); go_simp; first | done | with_reducible rfl)
    try simp only [List.getElem_toArray, List.getElem_cons_zero, List.getElem_cons_succ, Act.put, List.setIfInBounds_toArray, List.set_cons_zero, List.set_cons_succ]
    repeat' first
      | (refine wpAnyH_ready (rs := [3, 6]) (by decide +kernel) (by simp) ?_
         refine AllReadyH.cons rfl (fun K hK => ?_) ?_
         (try clear hHeld)
         go_simp
         go_at_call 38
         ((with_reducible refine (law_to9 _ _ _ _ _ _ _ _).mono ?_))
         rintro e WD ⟨rfl, uu⟩
         replace F1 := F1.up uu
         replace F2 := F2.up uu
         replace F3 := F3.up uu
         replace F4 := F4.up uu
         replace aF1 := aF1.up uu
         replace aF2 := aF2.up uu
         replace bF1 := bF1.up uu
         replace bF2 := bF2.up uu
         replace bF3 := bF3.up uu
         replace p := p.up uu
         replace pd := pd.up uu
         try (replace q := q.up uu)
         try (replace m := m.up uu)
         try (replace md := md.up uu)
         replace b0 := b0.up uu
         replace b1 := b1.up uu
         replace b2 := b2.up uu
         replace x7 := x7.up uu
         replace x8 := x8.up uu
         try (replace x9 := x9.up uu)
         replace UP := UP.trans uu
         clear uu
         obtain ⟨WC, hWC⟩ : ∃ W, W = WD := ⟨_, rfl⟩
         subst hWC
         clear b1_3 b1_4 b1_5
         have b1_3 := b1.cell (i := 3) rfl
         have b1_4 := b1.cell (i := 4) rfl
         have b1_5 := b1.cell (i := 5) rfl
         clear x8_0 x8_1 x8_2
         obtain ⟨x8_0, x8_1, x8_2⟩ := x8.c3
         try go_wp2_with fail
         refine hK.out _ _ (by exact ⟨UP, b1_3, b1_4, b1_5, x8_0, x8_1, x8_2⟩) (fun hHeld => ?_)
         clear hK K
         try simp only [List.getElem_toArray, List.getElem_cons_zero, List.getElem_cons_succ, Act.put, List.setIfInBounds_toArray, List.set_cons_zero, List.set_cons_succ]
         rotate_left
         refine AllReadyH.cons rfl (fun K hK => ?_) ?_
         (try clear hHeld)
         go_simp
         have x9 := Bx.new 69 WC [.bool false, .slice none 0 0, .slice none 0 0]
         have b0_lt_x9 := b0.lt
         have b1_lt_x9 := b1.lt
         have b2_lt_x9 := b2.lt
         have x7_lt_x9 := x7.lt
         have x8_lt_x9 := x8.lt
         have x9_base := UP.size
         replace F1 := F1.up ((Up.refl WC).alloc (.cells #[.bool false, .slice none 0 0, .slice none 0 0] 69))
         replace F2 := F2.up ((Up.refl WC).alloc (.cells #[.bool false, .slice none 0 0, .slice none 0 0] 69))
         replace F3 := F3.up ((Up.refl WC).alloc (.cells #[.bool false, .slice none 0 0, .slice none 0 0] 69))
         replace F4 := F4.up ((Up.refl WC).alloc (.cells #[.bool false, .slice none 0 0, .slice none 0 0] 69))
         replace aF1 := aF1.up ((Up.refl WC).alloc (.cells #[.bool false, .slice none 0 0, .slice none 0 0] 69))
         replace aF2 := aF2.up ((Up.refl WC).alloc (.cells #[.bool false, .slice none 0 0, .slice none 0 0] 69))
         replace bF1 := bF1.up ((Up.refl WC).alloc (.cells #[.bool false, .slice none 0 0, .slice none 0 0] 69))
         replace bF2 := bF2.up ((Up.refl WC).alloc (.cells #[.bool false, .slice none 0 0, .slice none 0 0] 69))
         replace bF3 := bF3.up ((Up.refl WC).alloc (.cells #[.bool false, .slice none 0 0, .slice none 0 0] 69))
         replace p := p.up ((Up.refl WC).alloc (.cells #[.bool false, .slice none 0 0, .slice none 0 0] 69))
         replace pd := pd.up ((Up.refl WC).alloc (.cells #[.bool false, .slice none 0 0, .slice none 0 0] 69))
         try (replace q := q.up ((Up.refl WC).alloc (.cells #[.bool false, .slice none 0 0, .slice none 0 0] 69)))
         try (replace m := m.up ((Up.refl WC).alloc (.cells #[.bool false, .slice none 0 0, .slice none 0 0] 69)))
         try (replace md := md.up ((Up.refl WC).alloc (.cells #[.bool false, .slice none 0 0, .slice none 0 0] 69)))
         replace b0 := b0.up ((Up.refl WC).alloc (.cells #[.bool false, .slice none 0 0, .slice none 0 0] 69))
         replace b1 := b1.up ((Up.refl WC).alloc (.cells #[.bool false, .slice none 0 0, .slice none 0 0] 69))
         replace b2 := b2.up ((Up.refl WC).alloc (.cells #[.bool false, .slice none 0 0, .slice none 0 0] 69))
         replace x7 := x7.up ((Up.refl WC).alloc (.cells #[.bool false, .slice none 0 0, .slice none 0 0] 69))
         replace x8 := x8.up ((Up.refl WC).alloc (.cells #[.bool false, .slice none 0 0, .slice none 0 0] 69))
         replace UP := UP.trans ((Up.refl WC).alloc (.cells #[.bool false, .slice none 0 0, .slice none 0 0] 69))
         generalize WC.alloc (.cells #[.bool false, .slice none 0 0, .slice none 0 0] 69) = WD at *
         generalize WC.heap.size = gx9 at *
         obtain ⟨WC, hWC⟩ : ∃ W, W = WD := ⟨_, rfl⟩
         subst hWC
         clear b1_3 b1_4 b1_5
         have b1_3 := b1.cell (i := 3) rfl
         have b1_4 := b1.cell (i := 4) rfl
         have b1_5 := b1.cell (i := 5) rfl
         clear x8_0 x8_1 x8_2
         obtain ⟨x8_0, x8_1, x8_2⟩ := x8.c3
         refine hK.out _ _ (by exact ⟨UP, b1_3, b1_4, b1_5, x8_0, x8_1, x8_2⟩) (fun hHeld => ?_)
         clear hK K
         try simp only [List.getElem_toArray, List.getElem_cons_zero, List.getElem_cons_succ, Act.put, List.setIfInBounds_toArray, List.set_cons_zero, List.set_cons_succ]
         rotate_left
         exact AllReadyH.nil)
      | (refine wpAnyH_ready (rs := [3]) (by decide +kernel) (by simp) ?_
         refine AllReadyH.cons rfl (fun K hK => ?_) ?_
         (try clear hHeld)
         go_simp
         go_at_call 38
         ((with_reducible refine (law_to9 _ _ _ _ _ _ _ _).mono ?_))
         rintro e WD ⟨rfl, uu⟩
         replace F1 := F1.up uu
         replace F2 := F2.up uu
         replace F3 := F3.up uu
         replace F4 := F4.up uu
         replace aF1 := aF1.up uu
         replace aF2 := aF2.up uu
         replace bF1 := bF1.up uu
         replace bF2 := bF2.up uu
         replace bF3 := bF3.up uu
         replace p := p.up uu
         replace pd := pd.up uu
         try (replace q := q.up uu)
         try (replace m := m.up uu)
         try (replace md := md.up uu)
         replace b0 := b0.up uu
         replace b1 := b1.up uu
         replace b2 := b2.up uu
         replace x7 := x7.up uu
         replace x8 := x8.up uu
         try (replace x9 := x9.up uu)
         replace UP := UP.trans uu
         clear uu
         obtain ⟨WC, hWC⟩ : ∃ W, W = WD := ⟨_, rfl⟩
         subst hWC
         clear b1_3 b1_4 b1_5
         have b1_3 := b1.cell (i := 3) rfl
         have b1_4 := b1.cell (i := 4) rfl
         have b1_5 := b1.cell (i := 5) rfl
         clear x8_0 x8_1 x8_2
         obtain ⟨x8_0, x8_1, x8_2⟩ := x8.c3
         try go_wp2_with fail
         refine hK.out _ _ (by exact ⟨UP, b1_3, b1_4, b1_5, x8_0, x8_1, x8_2⟩) (fun hHeld => ?_)
         clear hK K
         try simp only [List.getElem_toArray, List.getElem_cons_zero, List.getElem_cons_succ, Act.put, List.setIfInBounds_toArray, List.set_cons_zero, List.set_cons_succ]
         rotate_left
         exact AllReadyH.nil)
      | (refine wpAnyH_ready (rs := [4, 6]) (by decide +kernel) (by simp) ?_
         refine AllReadyH.cons rfl (fun K hK => ?_) ?_
         (try clear hHeld)
         go_simp
         go_at_call 73
         ((with_reducible refine (frac_abs aF2 (by omega)).mono ?_))
         rintro e WD ⟨V4, rfl, q, uu⟩
         replace F1 := F1.up uu
         replace F2 := F2.up uu
         replace F3 := F3.up uu
         replace F4 := F4.up uu
         replace aF1 := aF1.up uu
         replace aF2 := aF2.up uu
         replace bF1 := bF1.up uu
         replace bF2 := bF2.up uu
         replace bF3 := bF3.up uu
         replace p := p.up uu
         replace pd := pd.up uu
         try (replace m := m.up uu)
         try (replace md := md.up uu)
         replace b0 := b0.up uu
         replace b1 := b1.up uu
         replace b2 := b2.up uu
         replace x7 := x7.up uu
         replace x8 := x8.up uu
         try (replace x9 := x9.up uu)
         replace UP := UP.trans uu
         clear uu
         obtain ⟨WC, hWC⟩ : ∃ W, W = WD := ⟨_, rfl⟩
         subst hWC
         clear b1_3 b1_4 b1_5
         have b1_3 := b1.cell (i := 3) rfl
         have b1_4 := b1.cell (i := 4) rfl
         have b1_5 := b1.cell (i := 5) rfl
         clear x8_0 x8_1 x8_2
         obtain ⟨x8_0, x8_1, x8_2⟩ := x8.c3
         rw [HC.out] at q
         try go_wp2_with fail
         refine hK.out _ _ (by exact ⟨UP, b1_3, b1_4, b1_5, x8_0, x8_1, x8_2⟩) (fun hHeld => ?_)
         clear hK K
         try simp only [List.getElem_toArray, List.getElem_cons_zero, List.getElem_cons_succ, Act.put, List.setIfInBounds_toArray, List.set_cons_zero, List.set_cons_succ]
         rotate_left
         refine AllReadyH.cons rfl (fun K hK => ?_) ?_
         (try clear hHeld)
         go_simp
         have x9 := Bx.new 69 WC [.bool false, .slice none 0 0, .slice none 0 0]
         have b0_lt_x9 := b0.lt
         have b1_lt_x9 := b1.lt
         have b2_lt_x9 := b2.lt
         have x7_lt_x9 := x7.lt
         have x8_lt_x9 := x8.lt
         have x9_base := UP.size
         replace F1 := F1.up ((Up.refl WC).alloc (.cells #[.bool false, .slice none 0 0, .slice none 0 0] 69))
         replace F2 := F2.up ((Up.refl WC).alloc (.cells #[.bool false, .slice none 0 0, .slice none 0 0] 69))
         replace F3 := F3.up ((Up.refl WC).alloc (.cells #[.bool false, .slice none 0 0, .slice none 0 0] 69))
         replace F4 := F4.up ((Up.refl WC).alloc (.cells #[.bool false, .slice none 0 0, .slice none 0 0] 69))
         replace aF1 := aF1.up ((Up.refl WC).alloc (.cells #[.bool false, .slice none 0 0, .slice none 0 0] 69))
         replace aF2 := aF2.up ((Up.refl WC).alloc (.cells #[.bool false, .slice none 0 0, .slice none 0 0] 69))
         replace bF1 := bF1.up ((Up.refl WC).alloc (.cells #[.bool false, .slice none 0 0, .slice none 0 0] 69))
         replace bF2 := bF2.up ((Up.refl WC).alloc (.cells #[.bool false, .slice none 0 0, .slice none 0 0] 69))
         replace bF3 := bF3.up ((Up.refl WC).alloc (.cells #[.bool false, .slice none 0 0, .slice none 0 0] 69))
         replace p := p.up ((Up.refl WC).alloc (.cells #[.bool false, .slice none 0 0, .slice none 0 0] 69))
         replace pd := pd.up ((Up.refl WC).alloc (.cells #[.bool false, .slice none 0 0, .slice none 0 0] 69))
         try (replace q := q.up ((Up.refl WC).alloc (.cells #[.bool false, .slice none 0 0, .slice none 0 0] 69)))
         try (replace m := m.up ((Up.refl WC).alloc (.cells #[.bool false, .slice none 0 0, .slice none 0 0] 69)))
         try (replace md := md.up ((Up.refl WC).alloc (.cells #[.bool false, .slice none 0 0, .slice none 0 0] 69)))
         replace b0 := b0.up ((Up.refl WC).alloc (.cells #[.bool false, .slice none 0 0, .slice none 0 0] 69))
         replace b1 := b1.up ((Up.refl WC).alloc (.cells #[.bool false, .slice none 0 0, .slice none 0 0] 69))
         replace b2 := b2.up ((Up.refl WC).alloc (.cells #[.bool false, .slice none 0 0, .slice none 0 0] 69))
         replace x7 := x7.up ((Up.refl WC).alloc (.cells #[.bool false, .slice none 0 0, .slice none 0 0] 69))
         replace x8 := x8.up ((Up.refl WC).alloc (.cells #[.bool false, .slice none 0 0, .slice none 0 0] 69))
         replace UP := UP.trans ((Up.refl WC).alloc (.cells #[.bool false, .slice none 0 0, .slice none 0 0] 69))
         generalize WC.alloc (.cells #[.bool false, .slice none 0 0, .slice none 0 0] 69) = WD at *
         generalize WC.heap.size = gx9 at *
         obtain ⟨WC, hWC⟩ : ∃ W, W = WD := ⟨_, rfl⟩
         subst hWC
         clear b1_3 b1_4 b1_5
         have b1_3 := b1.cell (i := 3) rfl
         have b1_4 := b1.cell (i := 4) rfl
         have b1_5 := b1.cell (i := 5) rfl
         clear x8_0 x8_1 x8_2
         obtain ⟨x8_0, x8_1, x8_2⟩ := x8.c3
         refine hK.out _ _ (by exact ⟨UP, b1_3, b1_4, b1_5, x8_0, x8_1, x8_2⟩) (fun hHeld => ?_)
         clear hK K
         try simp only [List.getElem_toArray, List.getElem_cons_zero, List.getElem_cons_succ, Act.put, List.setIfInBounds_toArray, List.set_cons_zero, List.set_cons_succ]
         rotate_left
         exact AllReadyH.nil)
      | (refine wpAnyH_ready (rs := [4]) (by decide +kernel) (by simp) ?_
         refine AllReadyH.cons rfl (fun K hK => ?_) ?_
         (try clear hHeld)
         go_simp
         go_at_call 73
         ((with_reducible refine (frac_abs aF2 (by omega)).mono ?_))
         rintro e WD ⟨V4, rfl, q, uu⟩
         replace F1 := F1.up uu
         replace F2 := F2.up uu
         replace F3 := F3.up uu
         replace F4 := F4.up uu
         replace aF1 := aF1.up uu
         replace aF2 := aF2.up uu
         replace bF1 := bF1.up uu
         replace bF2 := bF2.up uu
         replace bF3 := bF3.up uu
         replace p := p.up uu
         replace pd := pd.up uu
         try (replace m := m.up uu)
         try (replace md := md.up uu)
         replace b0 := b0.up uu
         replace b1 := b1.up uu
         replace b2 := b2.up uu
         replace x7 := x7.up uu
         replace x8 := x8.up uu
         try (replace x9 := x9.up uu)
         replace UP := UP.trans uu
         clear uu
         obtain ⟨WC, hWC⟩ : ∃ W, W = WD := ⟨_, rfl⟩
         subst hWC
         clear b1_3 b1_4 b1_5
         have b1_3 := b1.cell (i := 3) rfl
         have b1_4 := b1.cell (i := 4) rfl
         have b1_5 := b1.cell (i := 5) rfl
         clear x8_0 x8_1 x8_2
         obtain ⟨x8_0, x8_1, x8_2⟩ := x8.c3
         rw [HC.out] at q
         try go_wp2_with fail
         refine hK.out _ _ (by exact ⟨UP, b1_3, b1_4, b1_5, x8_0, x8_1, x8_2⟩) (fun hHeld => ?_)
         clear hK K
         try simp only [List.getElem_toArray, List.getElem_cons_zero, List.getElem_cons_succ, Act.put, List.setIfInBounds_toArray, List.set_cons_zero, List.set_cons_succ]
         rotate_left
         exact AllReadyH.nil)
      | (refine wpAnyH_ready (rs := [5, 6]) (by decide +kernel) (by simp) ?_
         refine AllReadyH.cons rfl (fun K hK => ?_) ?_
         (try clear hHeld)
         go_simp
         go_at_call 47
         ((with_reducible refine (frac_add ((qw_of2 p pd).fr LA) (q.fr LC) (by omega) (by omega)).mono ?_))
         rintro e WD ⟨V5, rfl, m, uu⟩
         replace F1 := F1.up uu
         replace F2 := F2.up uu
         replace F3 := F3.up uu
         replace F4 := F4.up uu
         replace aF1 := aF1.up uu
         replace aF2 := aF2.up uu
         replace bF1 := bF1.up uu
         replace bF2 := bF2.up uu
         replace bF3 := bF3.up uu
         replace p := p.up uu
         replace pd := pd.up uu
         try (replace q := q.up uu)
         try (replace md := md.up uu)
         replace b0 := b0.up uu
         replace b1 := b1.up uu
         replace b2 := b2.up uu
         replace x7 := x7.up uu
         replace x8 := x8.up uu
         try (replace x9 := x9.up uu)
         replace UP := UP.trans uu
         clear uu
         obtain ⟨WC, hWC⟩ : ∃ W, W = WD := ⟨_, rfl⟩
         subst hWC
         clear b1_3 b1_4 b1_5
         have b1_3 := b1.cell (i := 3) rfl
         have b1_4 := b1.cell (i := 4) rfl
         have b1_5 := b1.cell (i := 5) rfl
         clear x8_0 x8_1 x8_2
         obtain ⟨x8_0, x8_1, x8_2⟩ := x8.c3
         rw [HB.out] at m
         obtain ⟨Xm, Ym, rfl, m, md⟩ := m
         obtain ⟨Am, nm, cm, rfl⟩ := m.shape
         obtain ⟨Amd, nmd, cmd, rfl⟩ := md.shape
         try go_wp2_with fail
         refine hK.out _ _ (by exact ⟨UP, b1_3, b1_4, b1_5, x8_0, x8_1, x8_2⟩) (fun hHeld => ?_)
         clear hK K
         try simp only [List.getElem_toArray, List.getElem_cons_zero, List.getElem_cons_succ, Act.put, List.setIfInBounds_toArray, List.set_cons_zero, List.set_cons_succ]
         rotate_left
         refine AllReadyH.cons rfl (fun K hK => ?_) ?_
         (try clear hHeld)
         go_simp
         have x9 := Bx.new 69 WC [.bool false, .slice none 0 0, .slice none 0 0]
         have b0_lt_x9 := b0.lt
         have b1_lt_x9 := b1.lt
         have b2_lt_x9 := b2.lt
         have x7_lt_x9 := x7.lt
         have x8_lt_x9 := x8.lt
         have x9_base := UP.size
         replace F1 := F1.up ((Up.refl WC).alloc (.cells #[.bool false, .slice none 0 0, .slice none 0 0] 69))
         replace F2 := F2.up ((Up.refl WC).alloc (.cells #[.bool false, .slice none 0 0, .slice none 0 0] 69))
         replace F3 := F3.up ((Up.refl WC).alloc (.cells #[.bool false, .slice none 0 0, .slice none 0 0] 69))
         replace F4 := F4.up ((Up.refl WC).alloc (.cells #[.bool false, .slice none 0 0, .slice none 0 0] 69))
         replace aF1 := aF1.up ((Up.refl WC).alloc (.cells #[.bool false, .slice none 0 0, .slice none 0 0] 69))
         replace aF2 := aF2.up ((Up.refl WC).alloc (.cells #[.bool false, .slice none 0 0, .slice none 0 0] 69))
         replace bF1 := bF1.up ((Up.refl WC).alloc (.cells #[.bool false, .slice none 0 0, .slice none 0 0] 69))
         replace bF2 := bF2.up ((Up.refl WC).alloc (.cells #[.bool false, .slice none 0 0, .slice none 0 0] 69))
         replace bF3 := bF3.up ((Up.refl WC).alloc (.cells #[.bool false, .slice none 0 0, .slice none 0 0] 69))
         replace p := p.up ((Up.refl WC).alloc (.cells #[.bool false, .slice none 0 0, .slice none 0 0] 69))
         replace pd := pd.up ((Up.refl WC).alloc (.cells #[.bool false, .slice none 0 0, .slice none 0 0] 69))
         try (replace q := q.up ((Up.refl WC).alloc (.cells #[.bool false, .slice none 0 0, .slice none 0 0] 69)))
         try (replace m := m.up ((Up.refl WC).alloc (.cells #[.bool false, .slice none 0 0, .slice none 0 0] 69)))
         try (replace md := md.up ((Up.refl WC).alloc (.cells #[.bool false, .slice none 0 0, .slice none 0 0] 69)))
         replace b0 := b0.up ((Up.refl WC).alloc (.cells #[.bool false, .slice none 0 0, .slice none 0 0] 69))
         replace b1 := b1.up ((Up.refl WC).alloc (.cells #[.bool false, .slice none 0 0, .slice none 0 0] 69))
         replace b2 := b2.up ((Up.refl WC).alloc (.cells #[.bool false, .slice none 0 0, .slice none 0 0] 69))
         replace x7 := x7.up ((Up.refl WC).alloc (.cells #[.bool false, .slice none 0 0, .slice none 0 0] 69))
         replace x8 := x8.up ((Up.refl WC).alloc (.cells #[.bool false, .slice none 0 0, .slice none 0 0] 69))
         replace UP := UP.trans ((Up.refl WC).alloc (.cells #[.bool false, .slice none 0 0, .slice none 0 0] 69))
         generalize WC.alloc (.cells #[.bool false, .slice none 0 0, .slice none 0 0] 69) = WD at *
         generalize WC.heap.size = gx9 at *
         obtain ⟨WC, hWC⟩ : ∃ W, W = WD := ⟨_, rfl⟩
         subst hWC
         clear b1_3 b1_4 b1_5
         have b1_3 := b1.cell (i := 3) rfl
         have b1_4 := b1.cell (i := 4) rfl
         have b1_5 := b1.cell (i := 5) rfl
         clear x8_0 x8_1 x8_2
         obtain ⟨x8_0, x8_1, x8_2⟩ := x8.c3
         refine hK.out _ _ (by exact ⟨UP, b1_3, b1_4, b1_5, x8_0, x8_1, x8_2⟩) (fun hHeld => ?_)
         clear hK K
         try simp only [List.getElem_toArray, List.getElem_cons_zero, List.getElem_cons_succ, Act.put, List.setIfInBounds_toArray, List.set_cons_zero, List.set_cons_succ]
         rotate_left
         exact AllReadyH.nil)
      | (refine wpAnyH_ready (rs := [5]) (by decide +kernel) (by simp) ?_
         refine AllReadyH.cons rfl (fun K hK => ?_) ?_
         (try clear hHeld)
         go_simp
         go_at_call 47
         ((with_reducible refine (frac_add ((qw_of2 p pd).fr LA) (q.fr LC) (by omega) (by omega)).mono ?_))
         rintro e WD ⟨V5, rfl, m, uu⟩
         replace F1 := F1.up uu
         replace F2 := F2.up uu
         replace F3 := F3.up uu
         replace F4 := F4.up uu
         replace aF1 := aF1.up uu
         replace aF2 := aF2.up uu
         replace bF1 := bF1.up uu
         replace bF2 := bF2.up uu
         replace bF3 := bF3.up uu
         replace p := p.up uu
         replace pd := pd.up uu
         try (replace q := q.up uu)
         try (replace md := md.up uu)
         replace b0 := b0.up uu
         replace b1 := b1.up uu
         replace b2 := b2.up uu
         replace x7 := x7.up uu
         replace x8 := x8.up uu
         try (replace x9 := x9.up uu)
         replace UP := UP.trans uu
         clear uu
         obtain ⟨WC, hWC⟩ : ∃ W, W = WD := ⟨_, rfl⟩
         subst hWC
         clear b1_3 b1_4 b1_5
         have b1_3 := b1.cell (i := 3) rfl
         have b1_4 := b1.cell (i := 4) rfl
         have b1_5 := b1.cell (i := 5) rfl
         clear x8_0 x8_1 x8_2
         obtain ⟨x8_0, x8_1, x8_2⟩ := x8.c3
         rw [HB.out] at m
         obtain ⟨Xm, Ym, rfl, m, md⟩ := m
         obtain ⟨Am, nm, cm, rfl⟩ := m.shape
         obtain ⟨Amd, nmd, cmd, rfl⟩ := md.shape
         try go_wp2_with fail
         refine hK.out _ _ (by exact ⟨UP, b1_3, b1_4, b1_5, x8_0, x8_1, x8_2⟩) (fun hHeld => ?_)
         clear hK K
         try simp only [List.getElem_toArray, List.getElem_cons_zero, List.getElem_cons_succ, Act.put, List.setIfInBounds_toArray, List.set_cons_zero, List.set_cons_succ]
         rotate_left
         exact AllReadyH.nil)
      | (refine wpAnyH_ready (rs := [6]) (by decide +kernel) (by simp) ?_
         refine AllReadyH.cons rfl (fun K hK => ?_) ?_
         (try clear hHeld)
         go_simp
         have x9 := Bx.new 69 WC [.bool false, .slice none 0 0, .slice none 0 0]
         have b0_lt_x9 := b0.lt
         have b1_lt_x9 := b1.lt
         have b2_lt_x9 := b2.lt
         have x7_lt_x9 := x7.lt
         have x8_lt_x9 := x8.lt
         have x9_base := UP.size
         replace F1 := F1.up ((Up.refl WC).alloc (.cells #[.bool false, .slice none 0 0, .slice none 0 0] 69))
         replace F2 := F2.up ((Up.refl WC).alloc (.cells #[.bool false, .slice none 0 0, .slice none 0 0] 69))
         replace F3 := F3.up ((Up.refl WC).alloc (.cells #[.bool false, .slice none 0 0, .slice none 0 0] 69))
         replace F4 := F4.up ((Up.refl WC).alloc (.cells #[.bool false, .slice none 0 0, .slice none 0 0] 69))
         replace aF1 := aF1.up ((Up.refl WC).alloc (.cells #[.bool false, .slice none 0 0, .slice none 0 0] 69))
         replace aF2 := aF2.up ((Up.refl WC).alloc (.cells #[.bool false, .slice none 0 0, .slice none 0 0] 69))
         replace bF1 := bF1.up ((Up.refl WC).alloc (.cells #[.bool false, .slice none 0 0, .slice none 0 0] 69))
         replace bF2 := bF2.up ((Up.refl WC).alloc (.cells #[.bool false, .slice none 0 0, .slice none 0 0] 69))
         replace bF3 := bF3.up ((Up.refl WC).alloc (.cells #[.bool false, .slice none 0 0, .slice none 0 0] 69))
         replace p := p.up ((Up.refl WC).alloc (.cells #[.bool false, .slice none 0 0, .slice none 0 0] 69))
         replace pd := pd.up ((Up.refl WC).alloc (.cells #[.bool false, .slice none 0 0, .slice none 0 0] 69))
         try (replace q := q.up ((Up.refl WC).alloc (.cells #[.bool false, .slice none 0 0, .slice none 0 0] 69)))
         try (replace m := m.up ((Up.refl WC).alloc (.cells #[.bool false, .slice none 0 0, .slice none 0 0] 69)))
         try (replace md := md.up ((Up.refl WC).alloc (.cells #[.bool false, .slice none 0 0, .slice none 0 0] 69)))
         replace b0 := b0.up ((Up.refl WC).alloc (.cells #[.bool false, .slice none 0 0, .slice none 0 0] 69))
         replace b1 := b1.up ((Up.refl WC).alloc (.cells #[.bool false, .slice none 0 0, .slice none 0 0] 69))
         replace b2 := b2.up ((Up.refl WC).alloc (.cells #[.bool false, .slice none 0 0, .slice none 0 0] 69))
         replace x7 := x7.up ((Up.refl WC).alloc (.cells #[.bool false, .slice none 0 0, .slice none 0 0] 69))
         replace x8 := x8.up ((Up.refl WC).alloc (.cells #[.bool false, .slice none 0 0, .slice none 0 0] 69))
         replace UP := UP.trans ((Up.refl WC).alloc (.cells #[.bool false, .slice none 0 0, .slice none 0 0] 69))
         generalize WC.alloc (.cells #[.bool false, .slice none 0 0, .slice none 0 0] 69) = WD at *
         generalize WC.heap.size = gx9 at *
         obtain ⟨WC, hWC⟩ : ∃ W, W = WD := ⟨_, rfl⟩
         subst hWC
         clear b1_3 b1_4 b1_5
         have b1_3 := b1.cell (i := 3) rfl
         have b1_4 := b1.cell (i := 4) rfl
         have b1_5 := b1.cell (i := 5) rfl
         clear x8_0 x8_1 x8_2
         obtain ⟨x8_0, x8_1, x8_2⟩ := x8.c3
         refine hK.out _ _ (by exact ⟨UP, b1_3, b1_4, b1_5, x8_0, x8_1, x8_2⟩) (fun hHeld => ?_)
         clear hK K
         try simp only [List.getElem_toArray, List.getElem_cons_zero, List.getElem_cons_succ, Act.put, List.setIfInBounds_toArray, List.set_cons_zero, List.set_cons_succ]
         rotate_left
         exact AllReadyH.nil)
      | (refine wpAnyH_ready (rs := [7]) (by decide +kernel) (by simp) ?_
         refine AllReadyH.cons rfl (fun K hK => ?_) ?_
         (try clear hHeld)
         obtain ⟨ce0, ce1, ce2⟩ := x9.c3
         have fr0 := x9.free 0
         have fr1 := x9.free 1
         have fr2 := x9.free 2
         go_simp
         clear ce0 ce1 ce2 fr0 fr1 fr2
         have KW : Kw (WC) ((WC).setCell ⟨gx9, 0, none⟩ (.bool (Wd.ngb B.num))) := Kw.store (c := (.bool false)) x9 rfl trivial _
         replace F1 := F1.kw KW
         replace F2 := F2.kw KW
         replace F3 := F3.kw KW
         replace F4 := F4.kw KW
         replace aF1 := aF1.kw KW
         replace aF2 := aF2.kw KW
         replace bF1 := bF1.kw KW
         replace bF2 := bF2.kw KW
         replace bF3 := bF3.kw KW
         replace p := p.kw KW
         replace pd := pd.kw KW
         replace q := q.kw KW
         replace m := m.kw KW
         replace md := md.kw KW
         replace b0 := b0.far (p := ⟨gx9, 0, none⟩) (by dsimp only; omega) (.bool (Wd.ngb B.num))
         replace b1 := b1.far (p := ⟨gx9, 0, none⟩) (by dsimp only; omega) (.bool (Wd.ngb B.num))
         replace b2 := b2.far (p := ⟨gx9, 0, none⟩) (by dsimp only; omega) (.bool (Wd.ngb B.num))
         replace x7 := x7.far (p := ⟨gx9, 0, none⟩) (by dsimp only; omega) (.bool (Wd.ngb B.num))
         replace x8 := x8.far (p := ⟨gx9, 0, none⟩) (by dsimp only; omega) (.bool (Wd.ngb B.num))
         replace x9 : Bx 69 ((WC).setCell ⟨gx9, 0, none⟩ (.bool (Wd.ngb B.num))) (gx9) [.bool (Wd.ngb B.num), .slice none 0 0, .slice none 0 0] := x9.set 0 (.bool (Wd.ngb B.num))
         replace UP := UP.setCell (p := ⟨gx9, 0, none⟩) (by dsimp only; omega) (.bool (Wd.ngb B.num))
         have KW : Kw (((WC).setCell ⟨gx9, 0, none⟩ (.bool (Wd.ngb B.num)))) ((((WC).setCell ⟨gx9, 0, none⟩ (.bool (Wd.ngb B.num)))).setCell ⟨gx9, 1, none⟩ (.slice Am nm cm)) := Kw.store (c := (.slice none 0 0)) x9 rfl trivial _
         replace F1 := F1.kw KW
         replace F2 := F2.kw KW
         replace F3 := F3.kw KW
         replace F4 := F4.kw KW
         replace aF1 := aF1.kw KW
         replace aF2 := aF2.kw KW
         replace bF1 := bF1.kw KW
         replace bF2 := bF2.kw KW
         replace bF3 := bF3.kw KW
         replace p := p.kw KW
         replace pd := pd.kw KW
         replace q := q.kw KW
         replace m := m.kw KW
         replace md := md.kw KW
         replace b0 := b0.far (p := ⟨gx9, 1, none⟩) (by dsimp only; omega) (.slice Am nm cm)
         replace b1 := b1.far (p := ⟨gx9, 1, none⟩) (by dsimp only; omega) (.slice Am nm cm)
         replace b2 := b2.far (p := ⟨gx9, 1, none⟩) (by dsimp only; omega) (.slice Am nm cm)
         replace x7 := x7.far (p := ⟨gx9, 1, none⟩) (by dsimp only; omega) (.slice Am nm cm)
         replace x8 := x8.far (p := ⟨gx9, 1, none⟩) (by dsimp only; omega) (.slice Am nm cm)
         replace x9 : Bx 69 ((((WC).setCell ⟨gx9, 0, none⟩ (.bool (Wd.ngb B.num)))).setCell ⟨gx9, 1, none⟩ (.slice Am nm cm)) (gx9) [.bool (Wd.ngb B.num), .slice Am nm cm, .slice none 0 0] := x9.set 1 (.slice Am nm cm)
         replace UP := UP.setCell (p := ⟨gx9, 1, none⟩) (by dsimp only; omega) (.slice Am nm cm)
         have KW : Kw (((((WC).setCell ⟨gx9, 0, none⟩ (.bool (Wd.ngb B.num)))).setCell ⟨gx9, 1, none⟩ (.slice Am nm cm))) ((((((WC).setCell ⟨gx9, 0, none⟩ (.bool (Wd.ngb B.num)))).setCell ⟨gx9, 1, none⟩ (.slice Am nm cm))).setCell ⟨gx9, 2, none⟩ (.slice Amd nmd cmd)) := Kw.store (c := (.slice none 0 0)) x9 rfl trivial _
         replace F1 := F1.kw KW
         replace F2 := F2.kw KW
         replace F3 := F3.kw KW
         replace F4 := F4.kw KW
         replace aF1 := aF1.kw KW
         replace aF2 := aF2.kw KW
         replace bF1 := bF1.kw KW
         replace bF2 := bF2.kw KW
         replace bF3 := bF3.kw KW
         replace p := p.kw KW
         replace pd := pd.kw KW
         replace q := q.kw KW
         replace m := m.kw KW
         replace md := md.kw KW
         replace b0 := b0.far (p := ⟨gx9, 2, none⟩) (by dsimp only; omega) (.slice Amd nmd cmd)
         replace b1 := b1.far (p := ⟨gx9, 2, none⟩) (by dsimp only; omega) (.slice Amd nmd cmd)
         replace b2 := b2.far (p := ⟨gx9, 2, none⟩) (by dsimp only; omega) (.slice Amd nmd cmd)
         replace x7 := x7.far (p := ⟨gx9, 2, none⟩) (by dsimp only; omega) (.slice Amd nmd cmd)
         replace x8 := x8.far (p := ⟨gx9, 2, none⟩) (by dsimp only; omega) (.slice Amd nmd cmd)
         replace x9 : Bx 69 ((((((WC).setCell ⟨gx9, 0, none⟩ (.bool (Wd.ngb B.num)))).setCell ⟨gx9, 1, none⟩ (.slice Am nm cm))).setCell ⟨gx9, 2, none⟩ (.slice Amd nmd cmd)) (gx9) [.bool (Wd.ngb B.num), .slice Am nm cm, .slice Amd nmd cmd] := x9.set 2 (.slice Amd nmd cmd)
         replace UP := UP.setCell (p := ⟨gx9, 2, none⟩) (by dsimp only; omega) (.slice Amd nmd cmd)
         clear KW
         generalize ((((((WC).setCell ⟨gx9, 0, none⟩ (.bool (Wd.ngb B.num)))).setCell ⟨gx9, 1, none⟩ (.slice Am nm cm))).setCell ⟨gx9, 2, none⟩ (.slice Amd nmd cmd)) = WD at *
         obtain ⟨WC, hWC⟩ : ∃ W, W = WD := ⟨_, rfl⟩
         subst hWC
         clear b1_3 b1_4 b1_5
         have b1_3 := b1.cell (i := 3) rfl
         have b1_4 := b1.cell (i := 4) rfl
         have b1_5 := b1.cell (i := 5) rfl
         clear x8_0 x8_1 x8_2
         obtain ⟨x8_0, x8_1, x8_2⟩ := x8.c3
         refine hK.out _ _ (by exact ⟨UP, b1_3, b1_4, b1_5, x8_0, x8_1, x8_2⟩) (fun hHeld => ?_)
         clear hK K
         try simp only [List.getElem_toArray, List.getElem_cons_zero, List.getElem_cons_succ, Act.put, List.setIfInBounds_toArray, List.set_cons_zero, List.set_cons_succ]
         rotate_left
         exact AllReadyH.nil)
      | refine wpAnyH_done (by decide +kernel) (NoPanic.normal ?_) _
      | fail
    all_goals try clear hHeld
    all_goals obtain ⟨x9_0, x9_1, x9_2⟩ := x9.c3
    all_goals
      go_wp2_with fail
      go_meet
      exact ⟨gx9, _, _, _, _, _, _, rfl, x9, qw_of2 m md, b2, x7, x8, qw_of2 p pd, F1, F2, F3, F4, bF1, bF2, bF3, UP⟩
  case rest =>
    as_aux_lemma =>
      obtain ⟨g9, A9, D9, n9, k9, r9, d9, rfl, x9, QB, b2, x7, x8, QA, F1, F2, F3, F4, bF1, bF2, bF3, UP⟩ := hcut
      clear x8_0 x8_1 x8_2 p pd aF1 aF2
      have hfi2 : 1 ≤ fi ∧ fi ≤ 1024 := by obtain ⟨_, _, _, _, _, _, h1, h2, _, _⟩ := HW.out; exact ⟨h1, h2⟩
      have x8_0 := x8.cell (i := 0) rfl
      have x8_1 := x8.cell (i := 1) rfl
      have x8_2 := x8.cell (i := 2) rfl
      obtain ⟨hg0, htol, ⟨hsf, hsf1⟩, ⟨hlo, hlo1⟩, hhi, _⟩ := HW.out
      have hA0 : 0 ≤ A := by rw [← HA.out]; exact Pc.abs_nonneg _
      have hC0 : 0 ≤ C := by rw [← HC.out]; exact Pc.abs_nonneg _
      have hAB : A ≤ B := by rw [← HB.out]; grind
      obtain ⟨F, HF⟩ : ∃ x, Hid (Pc.fac tol safe low high fi A = x) := ⟨_, Lib.hid rfl⟩
      obtain ⟨G, HG⟩ : ∃ x, Hid (Pc.fac tol safe low high fi B = x) := ⟨_, Lib.hid rfl⟩
      obtain ⟨CU, HCU⟩ : ∃ x, Hid (Pc.cut tt en wa = x) := ⟨_, Lib.hid rfl⟩
      have LF : Wd.Lq F 3000 := by rw [← HF.out]; exact lq_fac F1.lq F2.lq F3.lq F4.lq (LA.mono (by omega)) hfi2.1 hfi2.2
      have LG : Wd.Lq G 3000 := by rw [← HG.out]; exact lq_fac F1.lq F2.lq F3.lq F4.lq LB hfi2.1 hfi2.2
      have LCU : Wd.Lq CU 9 := by rw [← HCU.out]; exact lq_cut bF1.lq bF2.lq bF3.lq
      have fl1 : low ≤ F := by rw [← HF.out]; exact Pc.fac_low hlo1 hhi
      have fl2 : F ≤ high := by rw [← HF.out]; exact Pc.fac_high hlo1 hhi
      have fl3 : G ≤ F := by rw [← HF.out, ← HG.out]; exact Pc.fac_mono htol hsf hlo1 hhi hfi2.1 hA0 hAB
      have fl4 : ¬ A ≤ tol → F < 1 := fun h => by rw [← HF.out]; exact Pc.fac_less htol hsf hsf1 hlo1 hhi hfi2.1 (Rat.not_le.1 h)
      have fl5 : CU ≤ wa := by rw [← HCU.out]; exact Pc.cut_le tt en wa
      have fl6 : tt + CU ≤ en := by rw [← HCU.out]; exact Pc.cut_end tt en wa
      have ONE : ((1 : Int) : Rat) = 1 := rfl
      obtain ⟨O, HO⟩ : ∃ x, Hid (((1 : Int) : Rat) = x) := ⟨_, Lib.hid rfl⟩
      have LO : Wd.Lq O 2 := by rw [← HO.out]; exact lq_int (by omega)
      obtain ⟨z1, HZ1⟩ : ∃ z, Hid (Wd.cmpQ F low = z) := ⟨_, Lib.hid rfl⟩
      obtain ⟨z2, HZ2⟩ : ∃ z, Hid (Wd.cmpQ F high = z) := ⟨_, Lib.hid rfl⟩
      obtain ⟨z3, HZ3⟩ : ∃ z, Hid (Wd.cmpQ G F = z) := ⟨_, Lib.hid rfl⟩
      obtain ⟨z4, HZ4⟩ : ∃ z, Hid (Wd.cmpQ F O = z) := ⟨_, Lib.hid rfl⟩
      obtain ⟨z5, HZ5⟩ : ∃ z, Hid (Wd.cmpQ CU wa = z) := ⟨_, Lib.hid rfl⟩
      obtain ⟨SU, HSU⟩ : ∃ x, Hid (tt + CU = x) := ⟨_, Lib.hid rfl⟩
      have LSU : Wd.Lq SU 14 := by rw [← HSU.out]; exact bF1.lq.add LCU
      obtain ⟨z6, HZ6⟩ : ∃ z, Hid (Wd.cmpQ SU en = z) := ⟨_, Lib.hid rfl⟩
      have K1 := Lib.hid (show ¬ z1 < 0 from fun h => absurd ((Pc.lt_iff F low).1 (by rw [HZ1.out]; exact h)) (Rat.not_lt.2 fl1))
      have K2 := Lib.hid (show ¬ z2 > 0 from fun h => absurd ((Wd.cmpQ_pos F high).1 (by rw [HZ2.out]; exact h)) (Rat.not_lt.2 fl2))
      have K3 := Lib.hid (show ¬ z3 > 0 from fun h => absurd ((Wd.cmpQ_pos G F).1 (by rw [HZ3.out]; exact h)) (Rat.not_lt.2 fl3))
      have K4 := Lib.hid (show ¬ A ≤ tol → ¬ z4 ≥ 0 from fun hn h => absurd ((Wd.cmpQ_nonneg F O).1 (by rw [HZ4.out]; exact h)) (Rat.not_le.2 (by rw [← HO.out, ONE]; exact fl4 hn)))
      have K5 := Lib.hid (show z5 ≤ 0 from by rw [← HZ5.out]; exact (Pc.le_iff CU wa).2 fl5)
      have K6 := Lib.hid (show z6 ≤ 0 from by rw [← HZ6.out]; exact (Pc.le_iff SU en).2 (by rw [← HSU.out]; exact fl6))
      have HAB := Lib.hid hAB
      clear hg0 htol hsf hsf1 hlo hlo1 hhi hA0 hC0 hAB fl1 fl2 fl3 fl4 fl5 fl6 ONE
      go_wp2_with (with_reducible show wpList _ _ _ _ _ _; refine wl_load_box (o := ⟨_, Op.load 105 _, _, _, _, _⟩) rfl _ rfl rfl agg_rules size_rules (by first | exact x7 | exact x7.up ((Up.refl _).alloc _)) rfl ?_)
      ((with_reducible refine (pace_factor F1 F2 F3 F4 (QA.fr LA) (by omega) hfi2.1 hfi2.2).mono ?_))
      rintro e W51 ⟨V51, rfl, f, u51⟩
      replace QA := QA.up u51
      replace QB := QB.up u51
      replace F1 := F1.up u51
      replace F2 := F2.up u51
      replace F3 := F3.up u51
      replace F4 := F4.up u51
      replace bF1 := bF1.up u51
      replace bF2 := bF2.up u51
      replace bF3 := bF3.up u51
      replace b2 := b2.up u51
      replace x7 := x7.up u51
      replace x8 := x8.up u51
      replace x9 := x9.up u51
      replace UP := UP.trans u51
      clear x8_0 x8_1 x8_2
      clear u51
      rw [HF.out] at f
      obtain ⟨Xf, Yf, rfl, f, fd⟩ := f
      obtain ⟨Af, nf, cf, rfl⟩ := f.shape
      obtain ⟨Afd, nfd, cfd, rfl⟩ := fd.shape
      have x9_0 := x9.cell (i := 0) rfl
      have x9_1 := x9.cell (i := 1) rfl
      have x9_2 := x9.cell (i := 2) rfl
      have x9_0a := fun O0 => (cell_alloc (o := O0) x9_0)
      have x9_1a := fun O0 => (cell_alloc (o := O0) x9_1)
      have x9_2a := fun O0 => (cell_alloc (o := O0) x9_2)
      go_wp2_with (with_reducible show wpList _ _ _ _ _ _; refine wl_load_box (o := ⟨_, Op.load 105 _, _, _, _, _⟩) rfl _ rfl rfl agg_rules size_rules (by first | exact x7 | exact x7.up ((Up.refl _).alloc _)) rfl ?_)
      clear x9_0a x9_1a x9_2a
      have x10 := Bx.new 69 W51 [.bool (Wd.ngb F.num), .slice Af nf cf, .slice Afd nfd cfd]
      have b2_lt_x10 := b2.lt
      have x7_lt_x10 := x7.lt
      have x8_lt_x10 := x8.lt
      have x9_lt_x10 := x9.lt
      replace QA := QA.up ((Up.refl W51).alloc (.cells #[.bool (Wd.ngb F.num), .slice Af nf cf, .slice Afd nfd cfd] 69))
      replace QB := QB.up ((Up.refl W51).alloc (.cells #[.bool (Wd.ngb F.num), .slice Af nf cf, .slice Afd nfd cfd] 69))
      replace F1 := F1.up ((Up.refl W51).alloc (.cells #[.bool (Wd.ngb F.num), .slice Af nf cf, .slice Afd nfd cfd] 69))
      replace F2 := F2.up ((Up.refl W51).alloc (.cells #[.bool (Wd.ngb F.num), .slice Af nf cf, .slice Afd nfd cfd] 69))
      replace F3 := F3.up ((Up.refl W51).alloc (.cells #[.bool (Wd.ngb F.num), .slice Af nf cf, .slice Afd nfd cfd] 69))
      replace F4 := F4.up ((Up.refl W51).alloc (.cells #[.bool (Wd.ngb F.num), .slice Af nf cf, .slice Afd nfd cfd] 69))
      replace bF1 := bF1.up ((Up.refl W51).alloc (.cells #[.bool (Wd.ngb F.num), .slice Af nf cf, .slice Afd nfd cfd] 69))
      replace bF2 := bF2.up ((Up.refl W51).alloc (.cells #[.bool (Wd.ngb F.num), .slice Af nf cf, .slice Afd nfd cfd] 69))
      replace bF3 := bF3.up ((Up.refl W51).alloc (.cells #[.bool (Wd.ngb F.num), .slice Af nf cf, .slice Afd nfd cfd] 69))
      replace f := f.up ((Up.refl W51).alloc (.cells #[.bool (Wd.ngb F.num), .slice Af nf cf, .slice Afd nfd cfd] 69))
      replace fd := fd.up ((Up.refl W51).alloc (.cells #[.bool (Wd.ngb F.num), .slice Af nf cf, .slice Afd nfd cfd] 69))
      replace b2 := b2.up ((Up.refl W51).alloc (.cells #[.bool (Wd.ngb F.num), .slice Af nf cf, .slice Afd nfd cfd] 69))
      replace x7 := x7.up ((Up.refl W51).alloc (.cells #[.bool (Wd.ngb F.num), .slice Af nf cf, .slice Afd nfd cfd] 69))
      replace x8 := x8.up ((Up.refl W51).alloc (.cells #[.bool (Wd.ngb F.num), .slice Af nf cf, .slice Afd nfd cfd] 69))
      replace x9 := x9.up ((Up.refl W51).alloc (.cells #[.bool (Wd.ngb F.num), .slice Af nf cf, .slice Afd nfd cfd] 69))
      replace UP := UP.trans ((Up.refl W51).alloc (.cells #[.bool (Wd.ngb F.num), .slice Af nf cf, .slice Afd nfd cfd] 69))
      generalize (W51.alloc (.cells #[.bool (Wd.ngb F.num), .slice Af nf cf, .slice Afd nfd cfd] 69)) = W52 at *
      clear x9_0 x9_1 x9_2
      ((with_reducible refine (pace_factor F1 F2 F3 F4 (QB.fr LB) (by omega) hfi2.1 hfi2.2).mono ?_))
      rintro e W53 ⟨V53, rfl, g, u53⟩
      replace QA := QA.up u53
      replace QB := QB.up u53
      replace F1 := F1.up u53
      replace F2 := F2.up u53
      replace F3 := F3.up u53
      replace F4 := F4.up u53
      replace bF1 := bF1.up u53
      replace bF2 := bF2.up u53
      replace bF3 := bF3.up u53
      replace f := f.up u53
      replace fd := fd.up u53
      replace b2 := b2.up u53
      replace x7 := x7.up u53
      replace x8 := x8.up u53
      replace x9 := x9.up u53
      replace x10 := x10.up u53
      replace UP := UP.trans u53
      clear u53
      rw [HG.out] at g
      obtain ⟨Xg, Yg, rfl, g, gd⟩ := g
      obtain ⟨Ag, ng, cg, rfl⟩ := g.shape
      obtain ⟨Agd, ngd, cgd, rfl⟩ := gd.shape
      have b2_0 := b2.cell (i := 0) rfl
      have b2_1 := b2.cell (i := 1) rfl
      have b2_2 := b2.cell (i := 2) rfl
      have b2_0a := fun O0 => (cell_alloc (o := O0) b2_0)
      have b2_1a := fun O0 => (cell_alloc (o := O0) b2_1)
      have b2_2a := fun O0 => (cell_alloc (o := O0) b2_2)
      go_wp2_with (with_reducible show wpList _ _ _ _ _ _; refine wl_load_box (o := ⟨_, Op.load 105 _, _, _, _, _⟩) rfl _ rfl rfl agg_rules size_rules (by first | exact x7 | exact x7.up ((Up.refl _).alloc _)) rfl ?_)
      clear b2_0a b2_1a b2_2a
      have x11 := Bx.new 69 W53 [.bool (Wd.ngb G.num), .slice Ag ng cg, .slice Agd ngd cgd]
      have b2_lt_x11 := b2.lt
      have x7_lt_x11 := x7.lt
      have x8_lt_x11 := x8.lt
      have x9_lt_x11 := x9.lt
      have x10_lt_x11 := x10.lt
      replace QA := QA.up ((Up.refl W53).alloc (.cells #[.bool (Wd.ngb G.num), .slice Ag ng cg, .slice Agd ngd cgd] 69))
      replace QB := QB.up ((Up.refl W53).alloc (.cells #[.bool (Wd.ngb G.num), .slice Ag ng cg, .slice Agd ngd cgd] 69))
      replace F1 := F1.up ((Up.refl W53).alloc (.cells #[.bool (Wd.ngb G.num), .slice Ag ng cg, .slice Agd ngd cgd] 69))
      replace F2 := F2.up ((Up.refl W53).alloc (.cells #[.bool (Wd.ngb G.num), .slice Ag ng cg, .slice Agd ngd cgd] 69))
      replace F3 := F3.up ((Up.refl W53).alloc (.cells #[.bool (Wd.ngb G.num), .slice Ag ng cg, .slice Agd ngd cgd] 69))
      replace F4 := F4.up ((Up.refl W53).alloc (.cells #[.bool (Wd.ngb G.num), .slice Ag ng cg, .slice Agd ngd cgd] 69))
      replace bF1 := bF1.up ((Up.refl W53).alloc (.cells #[.bool (Wd.ngb G.num), .slice Ag ng cg, .slice Agd ngd cgd] 69))
      replace bF2 := bF2.up ((Up.refl W53).alloc (.cells #[.bool (Wd.ngb G.num), .slice Ag ng cg, .slice Agd ngd cgd] 69))
      replace bF3 := bF3.up ((Up.refl W53).alloc (.cells #[.bool (Wd.ngb G.num), .slice Ag ng cg, .slice Agd ngd cgd] 69))
      replace f := f.up ((Up.refl W53).alloc (.cells #[.bool (Wd.ngb G.num), .slice Ag ng cg, .slice Agd ngd cgd] 69))
      replace fd := fd.up ((Up.refl W53).alloc (.cells #[.bool (Wd.ngb G.num), .slice Ag ng cg, .slice Agd ngd cgd] 69))
      replace g := g.up ((Up.refl W53).alloc (.cells #[.bool (Wd.ngb G.num), .slice Ag ng cg, .slice Agd ngd cgd] 69))
      replace gd := gd.up ((Up.refl W53).alloc (.cells #[.bool (Wd.ngb G.num), .slice Ag ng cg, .slice Agd ngd cgd] 69))
      replace b2 := b2.up ((Up.refl W53).alloc (.cells #[.bool (Wd.ngb G.num), .slice Ag ng cg, .slice Agd ngd cgd] 69))
      replace x7 := x7.up ((Up.refl W53).alloc (.cells #[.bool (Wd.ngb G.num), .slice Ag ng cg, .slice Agd ngd cgd] 69))
      replace x8 := x8.up ((Up.refl W53).alloc (.cells #[.bool (Wd.ngb G.num), .slice Ag ng cg, .slice Agd ngd cgd] 69))
      replace x9 := x9.up ((Up.refl W53).alloc (.cells #[.bool (Wd.ngb G.num), .slice Ag ng cg, .slice Agd ngd cgd] 69))
      replace x10 := x10.up ((Up.refl W53).alloc (.cells #[.bool (Wd.ngb G.num), .slice Ag ng cg, .slice Agd ngd cgd] 69))
      replace UP := UP.trans ((Up.refl W53).alloc (.cells #[.bool (Wd.ngb G.num), .slice Ag ng cg, .slice Agd ngd cgd] 69))
      generalize (W53.alloc (.cells #[.bool (Wd.ngb G.num), .slice Ag ng cg, .slice Agd ngd cgd] 69)) = W54 at *
      clear b2_0 b2_1 b2_2
      ((with_reducible refine (law_to9 _ _ _ _ _ _ _ _).mono ?_))
      rintro e W55 ⟨rfl, u55⟩
      replace QA := QA.up u55
      replace QB := QB.up u55
      replace F1 := F1.up u55
      replace F2 := F2.up u55
      replace F3 := F3.up u55
      replace F4 := F4.up u55
      replace bF1 := bF1.up u55
      replace bF2 := bF2.up u55
      replace bF3 := bF3.up u55
      replace f := f.up u55
      replace fd := fd.up u55
      replace g := g.up u55
      replace gd := gd.up u55
      replace b2 := b2.up u55
      replace x7 := x7.up u55
      replace x8 := x8.up u55
      replace x9 := x9.up u55
      replace x10 := x10.up u55
      replace x11 := x11.up u55
      replace UP := UP.trans u55
      clear u55
      have b2_3 := b2.cell (i := 3) rfl
      have b2_4 := b2.cell (i := 4) rfl
      have b2_5 := b2.cell (i := 5) rfl
      have b2_3a := fun O0 => (cell_alloc (o := O0) b2_3)
      have b2_4a := fun O0 => (cell_alloc (o := O0) b2_4)
      have b2_5a := fun O0 => (cell_alloc (o := O0) b2_5)
      go_wp2_with (with_reducible show wpList _ _ _ _ _ _; refine wl_load_box (o := ⟨_, Op.load 105 _, _, _, _, _⟩) rfl _ rfl rfl agg_rules size_rules (by first | exact x7 | exact x7.up ((Up.refl _).alloc _)) rfl ?_)
      clear b2_3a b2_4a b2_5a
      have x12 := Bx.new 69 W55 [.bool bs1, .slice bA1 bl1.length bc1, .slice bD1 bm1.length be1]
      have b2_lt_x12 := b2.lt
      have x7_lt_x12 := x7.lt
      have x8_lt_x12 := x8.lt
      have x9_lt_x12 := x9.lt
      have x10_lt_x12 := x10.lt
      have x11_lt_x12 := x11.lt
      replace QA := QA.up ((Up.refl W55).alloc (.cells #[.bool bs1, .slice bA1 bl1.length bc1, .slice bD1 bm1.length be1] 69))
      replace QB := QB.up ((Up.refl W55).alloc (.cells #[.bool bs1, .slice bA1 bl1.length bc1, .slice bD1 bm1.length be1] 69))
      replace F1 := F1.up ((Up.refl W55).alloc (.cells #[.bool bs1, .slice bA1 bl1.length bc1, .slice bD1 bm1.length be1] 69))
      replace F2 := F2.up ((Up.refl W55).alloc (.cells #[.bool bs1, .slice bA1 bl1.length bc1, .slice bD1 bm1.length be1] 69))
      replace F3 := F3.up ((Up.refl W55).alloc (.cells #[.bool bs1, .slice bA1 bl1.length bc1, .slice bD1 bm1.length be1] 69))
      replace F4 := F4.up ((Up.refl W55).alloc (.cells #[.bool bs1, .slice bA1 bl1.length bc1, .slice bD1 bm1.length be1] 69))
      replace bF1 := bF1.up ((Up.refl W55).alloc (.cells #[.bool bs1, .slice bA1 bl1.length bc1, .slice bD1 bm1.length be1] 69))
      replace bF2 := bF2.up ((Up.refl W55).alloc (.cells #[.bool bs1, .slice bA1 bl1.length bc1, .slice bD1 bm1.length be1] 69))
      replace bF3 := bF3.up ((Up.refl W55).alloc (.cells #[.bool bs1, .slice bA1 bl1.length bc1, .slice bD1 bm1.length be1] 69))
      replace f := f.up ((Up.refl W55).alloc (.cells #[.bool bs1, .slice bA1 bl1.length bc1, .slice bD1 bm1.length be1] 69))
      replace fd := fd.up ((Up.refl W55).alloc (.cells #[.bool bs1, .slice bA1 bl1.length bc1, .slice bD1 bm1.length be1] 69))
      replace g := g.up ((Up.refl W55).alloc (.cells #[.bool bs1, .slice bA1 bl1.length bc1, .slice bD1 bm1.length be1] 69))
      replace gd := gd.up ((Up.refl W55).alloc (.cells #[.bool bs1, .slice bA1 bl1.length bc1, .slice bD1 bm1.length be1] 69))
      replace b2 := b2.up ((Up.refl W55).alloc (.cells #[.bool bs1, .slice bA1 bl1.length bc1, .slice bD1 bm1.length be1] 69))
      replace x7 := x7.up ((Up.refl W55).alloc (.cells #[.bool bs1, .slice bA1 bl1.length bc1, .slice bD1 bm1.length be1] 69))
      replace x8 := x8.up ((Up.refl W55).alloc (.cells #[.bool bs1, .slice bA1 bl1.length bc1, .slice bD1 bm1.length be1] 69))
      replace x9 := x9.up ((Up.refl W55).alloc (.cells #[.bool bs1, .slice bA1 bl1.length bc1, .slice bD1 bm1.length be1] 69))
      replace x10 := x10.up ((Up.refl W55).alloc (.cells #[.bool bs1, .slice bA1 bl1.length bc1, .slice bD1 bm1.length be1] 69))
      replace x11 := x11.up ((Up.refl W55).alloc (.cells #[.bool bs1, .slice bA1 bl1.length bc1, .slice bD1 bm1.length be1] 69))
      replace UP := UP.trans ((Up.refl W55).alloc (.cells #[.bool bs1, .slice bA1 bl1.length bc1, .slice bD1 bm1.length be1] 69))
      generalize (W55.alloc (.cells #[.bool bs1, .slice bA1 bl1.length bc1, .slice bD1 bm1.length be1] 69)) = W56 at *
      clear b2_3 b2_4 b2_5
      ((with_reducible refine (law_to9 _ _ _ _ _ _ _ _).mono ?_))
      rintro e W57 ⟨rfl, u57⟩
      replace QA := QA.up u57
      replace QB := QB.up u57
      replace F1 := F1.up u57
      replace F2 := F2.up u57
      replace F3 := F3.up u57
      replace F4 := F4.up u57
      replace bF1 := bF1.up u57
      replace bF2 := bF2.up u57
      replace bF3 := bF3.up u57
      replace f := f.up u57
      replace fd := fd.up u57
      replace g := g.up u57
      replace gd := gd.up u57
      replace b2 := b2.up u57
      replace x7 := x7.up u57
      replace x8 := x8.up u57
      replace x9 := x9.up u57
      replace x10 := x10.up u57
      replace x11 := x11.up u57
      replace x12 := x12.up u57
      replace UP := UP.trans u57
      clear u57
      have b2_6 := b2.cell (i := 6) rfl
      have b2_7 := b2.cell (i := 7) rfl
      have b2_8 := b2.cell (i := 8) rfl
      have b2_6a := fun O0 => (cell_alloc (o := O0) b2_6)
      have b2_7a := fun O0 => (cell_alloc (o := O0) b2_7)
      have b2_8a := fun O0 => (cell_alloc (o := O0) b2_8)
      go_wp2_with (with_reducible show wpList _ _ _ _ _ _; refine wl_load_box (o := ⟨_, Op.load 105 _, _, _, _, _⟩) rfl _ rfl rfl agg_rules size_rules (by first | exact x7 | exact x7.up ((Up.refl _).alloc _)) rfl ?_)
      clear b2_6a b2_7a b2_8a
      have x13 := Bx.new 69 W57 [.bool bs2, .slice bA2 bl2.length bc2, .slice bD2 bm2.length be2]
      have b2_lt_x13 := b2.lt
      have x7_lt_x13 := x7.lt
      have x8_lt_x13 := x8.lt
      have x9_lt_x13 := x9.lt
      have x10_lt_x13 := x10.lt
      have x11_lt_x13 := x11.lt
      have x12_lt_x13 := x12.lt
      replace QA := QA.up ((Up.refl W57).alloc (.cells #[.bool bs2, .slice bA2 bl2.length bc2, .slice bD2 bm2.length be2] 69))
      replace QB := QB.up ((Up.refl W57).alloc (.cells #[.bool bs2, .slice bA2 bl2.length bc2, .slice bD2 bm2.length be2] 69))
      replace F1 := F1.up ((Up.refl W57).alloc (.cells #[.bool bs2, .slice bA2 bl2.length bc2, .slice bD2 bm2.length be2] 69))
      replace F2 := F2.up ((Up.refl W57).alloc (.cells #[.bool bs2, .slice bA2 bl2.length bc2, .slice bD2 bm2.length be2] 69))
      replace F3 := F3.up ((Up.refl W57).alloc (.cells #[.bool bs2, .slice bA2 bl2.length bc2, .slice bD2 bm2.length be2] 69))
      replace F4 := F4.up ((Up.refl W57).alloc (.cells #[.bool bs2, .slice bA2 bl2.length bc2, .slice bD2 bm2.length be2] 69))
      replace bF1 := bF1.up ((Up.refl W57).alloc (.cells #[.bool bs2, .slice bA2 bl2.length bc2, .slice bD2 bm2.length be2] 69))
      replace bF2 := bF2.up ((Up.refl W57).alloc (.cells #[.bool bs2, .slice bA2 bl2.length bc2, .slice bD2 bm2.length be2] 69))
      replace bF3 := bF3.up ((Up.refl W57).alloc (.cells #[.bool bs2, .slice bA2 bl2.length bc2, .slice bD2 bm2.length be2] 69))
      replace f := f.up ((Up.refl W57).alloc (.cells #[.bool bs2, .slice bA2 bl2.length bc2, .slice bD2 bm2.length be2] 69))
      replace fd := fd.up ((Up.refl W57).alloc (.cells #[.bool bs2, .slice bA2 bl2.length bc2, .slice bD2 bm2.length be2] 69))
      replace g := g.up ((Up.refl W57).alloc (.cells #[.bool bs2, .slice bA2 bl2.length bc2, .slice bD2 bm2.length be2] 69))
      replace gd := gd.up ((Up.refl W57).alloc (.cells #[.bool bs2, .slice bA2 bl2.length bc2, .slice bD2 bm2.length be2] 69))
      replace b2 := b2.up ((Up.refl W57).alloc (.cells #[.bool bs2, .slice bA2 bl2.length bc2, .slice bD2 bm2.length be2] 69))
      replace x7 := x7.up ((Up.refl W57).alloc (.cells #[.bool bs2, .slice bA2 bl2.length bc2, .slice bD2 bm2.length be2] 69))
      replace x8 := x8.up ((Up.refl W57).alloc (.cells #[.bool bs2, .slice bA2 bl2.length bc2, .slice bD2 bm2.length be2] 69))
      replace x9 := x9.up ((Up.refl W57).alloc (.cells #[.bool bs2, .slice bA2 bl2.length bc2, .slice bD2 bm2.length be2] 69))
      replace x10 := x10.up ((Up.refl W57).alloc (.cells #[.bool bs2, .slice bA2 bl2.length bc2, .slice bD2 bm2.length be2] 69))
      replace x11 := x11.up ((Up.refl W57).alloc (.cells #[.bool bs2, .slice bA2 bl2.length bc2, .slice bD2 bm2.length be2] 69))
      replace x12 := x12.up ((Up.refl W57).alloc (.cells #[.bool bs2, .slice bA2 bl2.length bc2, .slice bD2 bm2.length be2] 69))
      replace UP := UP.trans ((Up.refl W57).alloc (.cells #[.bool bs2, .slice bA2 bl2.length bc2, .slice bD2 bm2.length be2] 69))
      generalize (W57.alloc (.cells #[.bool bs2, .slice bA2 bl2.length bc2, .slice bD2 bm2.length be2] 69)) = W58 at *
      clear b2_6 b2_7 b2_8
      ((with_reducible refine (law_to9 _ _ _ _ _ _ _ _).mono ?_))
      rintro e W59 ⟨rfl, u59⟩
      replace QA := QA.up u59
      replace QB := QB.up u59
      replace F1 := F1.up u59
      replace F2 := F2.up u59
      replace F3 := F3.up u59
      replace F4 := F4.up u59
      replace bF1 := bF1.up u59
      replace bF2 := bF2.up u59
      replace bF3 := bF3.up u59
      replace f := f.up u59
      replace fd := fd.up u59
      replace g := g.up u59
      replace gd := gd.up u59
      replace b2 := b2.up u59
      replace x7 := x7.up u59
      replace x8 := x8.up u59
      replace x9 := x9.up u59
      replace x10 := x10.up u59
      replace x11 := x11.up u59
      replace x12 := x12.up u59
      replace x13 := x13.up u59
      replace UP := UP.trans u59
      clear u59
      have x12_0 := x12.cell (i := 0) rfl
      have x12_1 := x12.cell (i := 1) rfl
      have x12_2 := x12.cell (i := 2) rfl
      have x13_0 := x13.cell (i := 0) rfl
      have x13_1 := x13.cell (i := 1) rfl
      have x13_2 := x13.cell (i := 2) rfl
      have x12_0a := fun O0 => (cell_alloc (o := O0) x12_0)
      have x12_1a := fun O0 => (cell_alloc (o := O0) x12_1)
      have x12_2a := fun O0 => (cell_alloc (o := O0) x12_2)
      have x13_0a := fun O0 => (cell_alloc (o := O0) x13_0)
      have x13_1a := fun O0 => (cell_alloc (o := O0) x13_1)
      have x13_2a := fun O0 => (cell_alloc (o := O0) x13_2)
      go_wp2_with (with_reducible show wpList _ _ _ _ _ _; refine wl_load_box (o := ⟨_, Op.load 105 _, _, _, _, _⟩) rfl _ rfl rfl agg_rules size_rules (by first | exact x7 | exact x7.up ((Up.refl _).alloc _)) rfl ?_)
      clear x12_0a x12_1a x12_2a x13_0a x13_1a x13_2a
      have x14 := Bx.new 69 W59 [.bool bs3, .slice bA3 bl3.length bc3, .slice bD3 bm3.length be3]
      have b2_lt_x14 := b2.lt
      have x7_lt_x14 := x7.lt
      have x8_lt_x14 := x8.lt
      have x9_lt_x14 := x9.lt
      have x10_lt_x14 := x10.lt
      have x11_lt_x14 := x11.lt
      have x12_lt_x14 := x12.lt
      have x13_lt_x14 := x13.lt
      replace QA := QA.up ((Up.refl W59).alloc (.cells #[.bool bs3, .slice bA3 bl3.length bc3, .slice bD3 bm3.length be3] 69))
      replace QB := QB.up ((Up.refl W59).alloc (.cells #[.bool bs3, .slice bA3 bl3.length bc3, .slice bD3 bm3.length be3] 69))
      replace F1 := F1.up ((Up.refl W59).alloc (.cells #[.bool bs3, .slice bA3 bl3.length bc3, .slice bD3 bm3.length be3] 69))
      replace F2 := F2.up ((Up.refl W59).alloc (.cells #[.bool bs3, .slice bA3 bl3.length bc3, .slice bD3 bm3.length be3] 69))
      replace F3 := F3.up ((Up.refl W59).alloc (.cells #[.bool bs3, .slice bA3 bl3.length bc3, .slice bD3 bm3.length be3] 69))
      replace F4 := F4.up ((Up.refl W59).alloc (.cells #[.bool bs3, .slice bA3 bl3.length bc3, .slice bD3 bm3.length be3] 69))
      replace bF1 := bF1.up ((Up.refl W59).alloc (.cells #[.bool bs3, .slice bA3 bl3.length bc3, .slice bD3 bm3.length be3] 69))
      replace bF2 := bF2.up ((Up.refl W59).alloc (.cells #[.bool bs3, .slice bA3 bl3.length bc3, .slice bD3 bm3.length be3] 69))
      replace bF3 := bF3.up ((Up.refl W59).alloc (.cells #[.bool bs3, .slice bA3 bl3.length bc3, .slice bD3 bm3.length be3] 69))
      replace f := f.up ((Up.refl W59).alloc (.cells #[.bool bs3, .slice bA3 bl3.length bc3, .slice bD3 bm3.length be3] 69))
      replace fd := fd.up ((Up.refl W59).alloc (.cells #[.bool bs3, .slice bA3 bl3.length bc3, .slice bD3 bm3.length be3] 69))
      replace g := g.up ((Up.refl W59).alloc (.cells #[.bool bs3, .slice bA3 bl3.length bc3, .slice bD3 bm3.length be3] 69))
      replace gd := gd.up ((Up.refl W59).alloc (.cells #[.bool bs3, .slice bA3 bl3.length bc3, .slice bD3 bm3.length be3] 69))
      replace b2 := b2.up ((Up.refl W59).alloc (.cells #[.bool bs3, .slice bA3 bl3.length bc3, .slice bD3 bm3.length be3] 69))
      replace x7 := x7.up ((Up.refl W59).alloc (.cells #[.bool bs3, .slice bA3 bl3.length bc3, .slice bD3 bm3.length be3] 69))
      replace x8 := x8.up ((Up.refl W59).alloc (.cells #[.bool bs3, .slice bA3 bl3.length bc3, .slice bD3 bm3.length be3] 69))
      replace x9 := x9.up ((Up.refl W59).alloc (.cells #[.bool bs3, .slice bA3 bl3.length bc3, .slice bD3 bm3.length be3] 69))
      replace x10 := x10.up ((Up.refl W59).alloc (.cells #[.bool bs3, .slice bA3 bl3.length bc3, .slice bD3 bm3.length be3] 69))
      replace x11 := x11.up ((Up.refl W59).alloc (.cells #[.bool bs3, .slice bA3 bl3.length bc3, .slice bD3 bm3.length be3] 69))
      replace x12 := x12.up ((Up.refl W59).alloc (.cells #[.bool bs3, .slice bA3 bl3.length bc3, .slice bD3 bm3.length be3] 69))
      replace x13 := x13.up ((Up.refl W59).alloc (.cells #[.bool bs3, .slice bA3 bl3.length bc3, .slice bD3 bm3.length be3] 69))
      replace UP := UP.trans ((Up.refl W59).alloc (.cells #[.bool bs3, .slice bA3 bl3.length bc3, .slice bD3 bm3.length be3] 69))
      generalize (W59.alloc (.cells #[.bool bs3, .slice bA3 bl3.length bc3, .slice bD3 bm3.length be3] 69)) = W60 at *
      clear x12_0 x12_1 x12_2 x13_0 x13_1 x13_2
      ((with_reducible refine (pace_cut bF1 bF2 bF3 (by omega)).mono ?_))
      rintro e W61 ⟨V61, rfl, cu, u61⟩
      replace QA := QA.up u61
      replace QB := QB.up u61
      replace F1 := F1.up u61
      replace F2 := F2.up u61
      replace F3 := F3.up u61
      replace F4 := F4.up u61
      replace bF1 := bF1.up u61
      replace bF2 := bF2.up u61
      replace bF3 := bF3.up u61
      replace f := f.up u61
      replace fd := fd.up u61
      replace g := g.up u61
      replace gd := gd.up u61
      replace b2 := b2.up u61
      replace x7 := x7.up u61
      replace x8 := x8.up u61
      replace x9 := x9.up u61
      replace x10 := x10.up u61
      replace x11 := x11.up u61
      replace x12 := x12.up u61
      replace x13 := x13.up u61
      replace x14 := x14.up u61
      replace UP := UP.trans u61
      clear u61
      rw [HCU.out] at cu
      obtain ⟨Xcu, Ycu, rfl, cu, cud⟩ := cu
      obtain ⟨Acu, ncu, ccu, rfl⟩ := cu.shape
      obtain ⟨Acud, ncud, ccud, rfl⟩ := cud.shape
      go_wp2_with (with_reducible show wpList _ _ _ _ _ _; refine wl_load_box (o := ⟨_, Op.load 105 _, _, _, _, _⟩) rfl _ rfl rfl agg_rules size_rules (by first | exact x7 | exact x7.up ((Up.refl _).alloc _)) rfl ?_)
      have x15 := Bx.new 69 W61 [.bool (Wd.ngb CU.num), .slice Acu ncu ccu, .slice Acud ncud ccud]
      have b2_lt_x15 := b2.lt
      have x7_lt_x15 := x7.lt
      have x8_lt_x15 := x8.lt
      have x9_lt_x15 := x9.lt
      have x10_lt_x15 := x10.lt
      have x11_lt_x15 := x11.lt
      have x12_lt_x15 := x12.lt
      have x13_lt_x15 := x13.lt
      have x14_lt_x15 := x14.lt
      replace QA := QA.up ((Up.refl W61).alloc (.cells #[.bool (Wd.ngb CU.num), .slice Acu ncu ccu, .slice Acud ncud ccud] 69))
      replace QB := QB.up ((Up.refl W61).alloc (.cells #[.bool (Wd.ngb CU.num), .slice Acu ncu ccu, .slice Acud ncud ccud] 69))
      replace F1 := F1.up ((Up.refl W61).alloc (.cells #[.bool (Wd.ngb CU.num), .slice Acu ncu ccu, .slice Acud ncud ccud] 69))
      replace F2 := F2.up ((Up.refl W61).alloc (.cells #[.bool (Wd.ngb CU.num), .slice Acu ncu ccu, .slice Acud ncud ccud] 69))
      replace F3 := F3.up ((Up.refl W61).alloc (.cells #[.bool (Wd.ngb CU.num), .slice Acu ncu ccu, .slice Acud ncud ccud] 69))
      replace F4 := F4.up ((Up.refl W61).alloc (.cells #[.bool (Wd.ngb CU.num), .slice Acu ncu ccu, .slice Acud ncud ccud] 69))
      replace bF1 := bF1.up ((Up.refl W61).alloc (.cells #[.bool (Wd.ngb CU.num), .slice Acu ncu ccu, .slice Acud ncud ccud] 69))
      replace bF2 := bF2.up ((Up.refl W61).alloc (.cells #[.bool (Wd.ngb CU.num), .slice Acu ncu ccu, .slice Acud ncud ccud] 69))
      replace bF3 := bF3.up ((Up.refl W61).alloc (.cells #[.bool (Wd.ngb CU.num), .slice Acu ncu ccu, .slice Acud ncud ccud] 69))
      replace f := f.up ((Up.refl W61).alloc (.cells #[.bool (Wd.ngb CU.num), .slice Acu ncu ccu, .slice Acud ncud ccud] 69))
      replace fd := fd.up ((Up.refl W61).alloc (.cells #[.bool (Wd.ngb CU.num), .slice Acu ncu ccu, .slice Acud ncud ccud] 69))
      replace g := g.up ((Up.refl W61).alloc (.cells #[.bool (Wd.ngb CU.num), .slice Acu ncu ccu, .slice Acud ncud ccud] 69))
      replace gd := gd.up ((Up.refl W61).alloc (.cells #[.bool (Wd.ngb CU.num), .slice Acu ncu ccu, .slice Acud ncud ccud] 69))
      replace cu := cu.up ((Up.refl W61).alloc (.cells #[.bool (Wd.ngb CU.num), .slice Acu ncu ccu, .slice Acud ncud ccud] 69))
      replace cud := cud.up ((Up.refl W61).alloc (.cells #[.bool (Wd.ngb CU.num), .slice Acu ncu ccu, .slice Acud ncud ccud] 69))
      replace b2 := b2.up ((Up.refl W61).alloc (.cells #[.bool (Wd.ngb CU.num), .slice Acu ncu ccu, .slice Acud ncud ccud] 69))
      replace x7 := x7.up ((Up.refl W61).alloc (.cells #[.bool (Wd.ngb CU.num), .slice Acu ncu ccu, .slice Acud ncud ccud] 69))
      replace x8 := x8.up ((Up.refl W61).alloc (.cells #[.bool (Wd.ngb CU.num), .slice Acu ncu ccu, .slice Acud ncud ccud] 69))
      replace x9 := x9.up ((Up.refl W61).alloc (.cells #[.bool (Wd.ngb CU.num), .slice Acu ncu ccu, .slice Acud ncud ccud] 69))
      replace x10 := x10.up ((Up.refl W61).alloc (.cells #[.bool (Wd.ngb CU.num), .slice Acu ncu ccu, .slice Acud ncud ccud] 69))
      replace x11 := x11.up ((Up.refl W61).alloc (.cells #[.bool (Wd.ngb CU.num), .slice Acu ncu ccu, .slice Acud ncud ccud] 69))
      replace x12 := x12.up ((Up.refl W61).alloc (.cells #[.bool (Wd.ngb CU.num), .slice Acu ncu ccu, .slice Acud ncud ccud] 69))
      replace x13 := x13.up ((Up.refl W61).alloc (.cells #[.bool (Wd.ngb CU.num), .slice Acu ncu ccu, .slice Acud ncud ccud] 69))
      replace x14 := x14.up ((Up.refl W61).alloc (.cells #[.bool (Wd.ngb CU.num), .slice Acu ncu ccu, .slice Acud ncud ccud] 69))
      replace UP := UP.trans ((Up.refl W61).alloc (.cells #[.bool (Wd.ngb CU.num), .slice Acu ncu ccu, .slice Acud ncud ccud] 69))
      generalize (W61.alloc (.cells #[.bool (Wd.ngb CU.num), .slice Acu ncu ccu, .slice Acud ncud ccud] 69)) = W62 at *
      have k1 : decide (z1 < 0) = false := decide_eq_false (by have := K1.out; omega)
      have k2 : decide (z2 > 0) = false := decide_eq_false (by have := K2.out; omega)
      have k3 : decide (z3 > 0) = false := decide_eq_false (by have := K3.out; omega)
      have x10_0 := x10.cell (i := 0) rfl
      have x10_1 := x10.cell (i := 1) rfl
      have x10_2 := x10.cell (i := 2) rfl
      have x11_0 := x11.cell (i := 0) rfl
      have x11_1 := x11.cell (i := 1) rfl
      have x11_2 := x11.cell (i := 2) rfl
      have x8_0 := x8.cell (i := 0) rfl
      have x8_1 := x8.cell (i := 1) rfl
      have x8_2 := x8.cell (i := 2) rfl
      have x7_6 := x7.cell (i := 6) rfl
      have x7_7 := x7.cell (i := 7) rfl
      have x7_8 := x7.cell (i := 8) rfl
      have x7_9 := x7.cell (i := 9) rfl
      have x7_10 := x7.cell (i := 10) rfl
      have x7_11 := x7.cell (i := 11) rfl
      by_cases ha : A ≤ tol
      · have DA : Hid (decide (A ≤ tol) = true) := Lib.hid (decide_eq_true ha)
        clear ha
        replace QA := QA.up (Up.refl W62).drew
        replace QB := QB.up (Up.refl W62).drew
        replace F1 := F1.up (Up.refl W62).drew
        replace F2 := F2.up (Up.refl W62).drew
        replace F3 := F3.up (Up.refl W62).drew
        replace F4 := F4.up (Up.refl W62).drew
        replace bF1 := bF1.up (Up.refl W62).drew
        replace bF2 := bF2.up (Up.refl W62).drew
        replace bF3 := bF3.up (Up.refl W62).drew
        replace f := f.up (Up.refl W62).drew
        replace fd := fd.up (Up.refl W62).drew
        replace g := g.up (Up.refl W62).drew
        replace gd := gd.up (Up.refl W62).drew
        replace cu := cu.up (Up.refl W62).drew
        replace cud := cud.up (Up.refl W62).drew
        replace b2 := b2.up (Up.refl W62).drew
        replace x7 := x7.up (Up.refl W62).drew
        replace x8 := x8.up (Up.refl W62).drew
        replace x9 := x9.up (Up.refl W62).drew
        replace x10 := x10.up (Up.refl W62).drew
        replace x11 := x11.up (Up.refl W62).drew
        replace x12 := x12.up (Up.refl W62).drew
        replace x13 := x13.up (Up.refl W62).drew
        replace x14 := x14.up (Up.refl W62).drew
        replace x15 := x15.up (Up.refl W62).drew
        replace UP := UP.trans (Up.refl W62).drew
        clear x7_6 x7_7 x7_8 x7_9 x7_10 x7_11 x8_0 x8_1 x8_2 x10_0 x10_1 x10_2 x11_0 x11_1 x11_2
        have x7_6 := x7.cell (i := 6) rfl
        have x7_7 := x7.cell (i := 7) rfl
        have x7_8 := x7.cell (i := 8) rfl
        have x7_9 := x7.cell (i := 9) rfl
        have x7_10 := x7.cell (i := 10) rfl
        have x7_11 := x7.cell (i := 11) rfl
        have x8_0 := x8.cell (i := 0) rfl
        have x8_1 := x8.cell (i := 1) rfl
        have x8_2 := x8.cell (i := 2) rfl
        have x10_0 := x10.cell (i := 0) rfl
        have x10_1 := x10.cell (i := 1) rfl
        have x10_2 := x10.cell (i := 2) rfl
        have x11_0 := x11.cell (i := 0) rfl
        have x11_1 := x11.cell (i := 1) rfl
        have x11_2 := x11.cell (i := 2) rfl
        refine wp_region_noPanic ?_
        refine wp_region_held_drew (S := fun w' => Up w w' ∧ w'.cell? ⟨W7.heap.size, 6, none⟩ = some (.bool s3) ∧ w'.cell? ⟨W7.heap.size, 7, none⟩ = some (.slice A3 l3.length c3) ∧ w'.cell? ⟨W7.heap.size, 8, none⟩ = some (.slice D3 m3.length e3) ∧ w'.cell? ⟨W7.heap.size, 9, none⟩ = some (.bool s4) ∧ w'.cell? ⟨W7.heap.size, 10, none⟩ = some (.slice A4 l4.length c4) ∧ w'.cell? ⟨W7.heap.size, 11, none⟩ = some (.slice D4 m4.length e4) ∧ w'.cell? ⟨W11.heap.size, 0, none⟩ = some (.bool (Wd.ngb A.num)) ∧ w'.cell? ⟨W11.heap.size, 1, none⟩ = some (.slice Ap np cp) ∧ w'.cell? ⟨W11.heap.size, 2, none⟩ = some (.slice Apd npd cpd) ∧ w'.cell? ⟨W51.heap.size, 0, none⟩ = some (.bool (Wd.ngb F.num)) ∧ w'.cell? ⟨W51.heap.size, 1, none⟩ = some (.slice Af nf cf) ∧ w'.cell? ⟨W51.heap.size, 2, none⟩ = some (.slice Afd nfd cfd) ∧ w'.cell? ⟨W53.heap.size, 0, none⟩ = some (.bool (Wd.ngb G.num)) ∧ w'.cell? ⟨W53.heap.size, 1, none⟩ = some (.slice Ag ng cg) ∧ w'.cell? ⟨W53.heap.size, 2, none⟩ = some (.slice Agd ngd cgd) ∧ Bx 105 w' (W7.heap.size) [.bool s1, .slice A1 l1.length c1, .slice D1 m1.length e1, .bool s2, .slice A2 l2.length c2, .slice D2 m2.length e2, .bool s3, .slice A3 l3.length c3, .slice D3 m3.length e3, .bool s4, .slice A4 l4.length c4, .slice D4 m4.length e4, .bool s5, .slice A5 l5.length c5, .slice D5 m5.length e5, .int .i64 fi, .int .i64 mo]) (by kernel_rfl) ?_ (fun hHeld => ?_)
        · with_reducible exact ⟨UP, x7_6, x7_7, x7_8, x7_9, x7_10, x7_11, x8_0, x8_1, x8_2, x10_0, x10_1, x10_2, x11_0, x11_1, x11_2, x7⟩
        refine wpAnyH_take (i := 0) (v := ?_) rfl (by kernel_rfl) (by kernel_rfl) (by kernel_rfl) (fun _ _ _ h => h) (Or.inl ⟨by rfl, ?_⟩) (by assumption) ?_
        rotate_left
        · (intro w hSw; (try dsimp only at hSw); go_simp; first | done | with_reducible rfl)
        try simp only [List.getElem_toArray, List.getElem_cons_zero, List.getElem_cons_succ, Act.put, List.setIfInBounds_toArray, List.set_cons_zero, List.set_cons_succ]
        refine wpAnyH_take (i := 1) (v := ?_) rfl (by kernel_rfl) (by kernel_rfl) (by kernel_rfl) (fun _ _ _ h => h) (Or.inl ⟨by rfl, ?_⟩) (by assumption) ?_
        rotate_left
        · (intro w hSw; (try dsimp only at hSw); go_simp; first | done | with_reducible rfl)
        try simp only [List.getElem_toArray, List.getElem_cons_zero, List.getElem_cons_succ, Act.put, List.setIfInBounds_toArray, List.set_cons_zero, List.set_cons_succ]
        refine wpAnyH_take (i := 2) (v := ?_) rfl (by kernel_rfl) (by kernel_rfl) (by kernel_rfl) (fun _ _ _ h => h) (Or.inl ⟨by rfl, ?_⟩) (by assumption) ?_
        rotate_left
        · (intro w hSw; (try dsimp only at hSw); go_simp; first | done | with_reducible rfl)
        try simp only [List.getElem_toArray, List.getElem_cons_zero, List.getElem_cons_succ, Act.put, List.setIfInBounds_toArray, List.set_cons_zero, List.set_cons_succ]
        refine wpAnyH_ready (rs := [3]) (by kernel_rfl) (by simp) ?_
        refine AllReadyH.cons rfl (fun K hK => ?_) AllReadyH.nil
        go_simp
        (first
              | (go_at_call 62
                 ((with_reducible refine (frac_cmp ((qw_of2 f fd).fr LF) F3 (by omega) (by omega)).mono ?_))
                 rintro e W63 ⟨rfl, u63⟩
                 replace QA := QA.up u63
                 replace QB := QB.up u63
                 replace F1 := F1.up u63
                 replace F2 := F2.up u63
                 replace F3 := F3.up u63
                 replace F4 := F4.up u63
                 replace bF1 := bF1.up u63
                 replace bF2 := bF2.up u63
                 replace bF3 := bF3.up u63
                 replace f := f.up u63
                 replace fd := fd.up u63
                 replace g := g.up u63
                 replace gd := gd.up u63
                 replace cu := cu.up u63
                 replace cud := cud.up u63
                 replace b2 := b2.up u63
                 replace x7 := x7.up u63
                 replace x8 := x8.up u63
                 replace x9 := x9.up u63
                 replace x10 := x10.up u63
                 replace x11 := x11.up u63
                 replace x12 := x12.up u63
                 replace x13 := x13.up u63
                 replace x14 := x14.up u63
                 replace x15 := x15.up u63
                 replace UP := UP.trans u63
                 clear x7_6 x7_7 x7_8 x7_9 x7_10 x7_11 x8_0 x8_1 x8_2 x10_0 x10_1 x10_2 x11_0 x11_1 x11_2
                 have x7_6 := x7.cell (i := 6) rfl
                 have x7_7 := x7.cell (i := 7) rfl
                 have x7_8 := x7.cell (i := 8) rfl
                 have x7_9 := x7.cell (i := 9) rfl
                 have x7_10 := x7.cell (i := 10) rfl
                 have x7_11 := x7.cell (i := 11) rfl
                 have x8_0 := x8.cell (i := 0) rfl
                 have x8_1 := x8.cell (i := 1) rfl
                 have x8_2 := x8.cell (i := 2) rfl
                 have x10_0 := x10.cell (i := 0) rfl
                 have x10_1 := x10.cell (i := 1) rfl
                 have x10_2 := x10.cell (i := 2) rfl
                 have x11_0 := x11.cell (i := 0) rfl
                 have x11_1 := x11.cell (i := 1) rfl
                 have x11_2 := x11.cell (i := 2) rfl
                 clear u63
                 rw [HZ1.out]))
        try go_wp2_with fail
        try clear hHeld
        refine hK.out _ _ ?_ (fun hHeld => ?_)
        · with_reducible exact ⟨UP, x7_6, x7_7, x7_8, x7_9, x7_10, x7_11, x8_0, x8_1, x8_2, x10_0, x10_1, x10_2, x11_0, x11_1, x11_2, x7⟩
        clear hK K
        try simp only [List.getElem_toArray, List.getElem_cons_zero, List.getElem_cons_succ, Act.put, List.setIfInBounds_toArray, List.set_cons_zero, List.set_cons_succ]
        refine wpAnyH_take (i := 4) (v := ?_) rfl (by kernel_rfl) (by kernel_rfl) (by kernel_rfl) (fun _ _ _ h => h) (Or.inl ⟨by rfl, ?_⟩) (by assumption) ?_
        rotate_left
        · (intro w hSw; (try dsimp only at hSw); go_simp; first | done | with_reducible rfl)
        try simp only [List.getElem_toArray, List.getElem_cons_zero, List.getElem_cons_succ, Act.put, List.setIfInBounds_toArray, List.set_cons_zero, List.set_cons_succ]
        refine wpAnyH_take (i := 5) (v := ?_) rfl (by kernel_rfl) (by kernel_rfl) (by kernel_rfl) (fun _ _ _ h => h) (Or.inl ⟨by rfl, ?_⟩) (by assumption) ?_
        rotate_left
        · (intro w hSw; (try dsimp only at hSw); go_simp; first | done | with_reducible rfl)
        try simp only [List.getElem_toArray, List.getElem_cons_zero, List.getElem_cons_succ, Act.put, List.setIfInBounds_toArray, List.set_cons_zero, List.set_cons_succ]
        refine wpAnyH_take (i := 6) (v := ?_) rfl (by kernel_rfl) (by kernel_rfl) (by kernel_rfl) (fun _ _ _ h => h) (Or.inl ⟨by rfl, ?_⟩) (by assumption) ?_
        rotate_left
        · (intro w hSw; (try dsimp only at hSw); go_simp; first | done | with_reducible rfl)
        try simp only [List.getElem_toArray, List.getElem_cons_zero, List.getElem_cons_succ, Act.put, List.setIfInBounds_toArray, List.set_cons_zero, List.set_cons_succ]
        refine wpAnyH_take (i := 7) (v := ?_) rfl (by kernel_rfl) (by kernel_rfl) (by kernel_rfl) (fun _ _ _ h => h) (Or.inl ⟨by rfl, ?_⟩) (by assumption) ?_
        rotate_left
        · (intro w hSw; (try dsimp only at hSw); go_simp; first | done | with_reducible rfl)
        try simp only [List.getElem_toArray, List.getElem_cons_zero, List.getElem_cons_succ, Act.put, List.setIfInBounds_toArray, List.set_cons_zero, List.set_cons_succ]
        refine wpAnyH_take (i := 8) (v := ?_) rfl (by kernel_rfl) (by kernel_rfl) (by kernel_rfl) (fun _ _ _ h => h) (Or.inl ⟨by rfl, ?_⟩) (by assumption) ?_
        rotate_left
        · (intro w hSw; (try dsimp only at hSw); go_simp; first | done | with_reducible rfl)
        try simp only [List.getElem_toArray, List.getElem_cons_zero, List.getElem_cons_succ, Act.put, List.setIfInBounds_toArray, List.set_cons_zero, List.set_cons_succ]
        refine wpAnyH_ready (rs := [9]) (by kernel_rfl) (by simp) ?_
        refine AllReadyH.cons rfl (fun K hK => ?_) AllReadyH.nil
        go_simp
        (first
              | (go_at_call 62
                 ((with_reducible refine (frac_cmp ((qw_of2 f fd).fr LF) F4 (by omega) (by omega)).mono ?_))
                 rintro e W64 ⟨rfl, u64⟩
                 replace QA := QA.up u64
                 replace QB := QB.up u64
                 replace F1 := F1.up u64
                 replace F2 := F2.up u64
                 replace F3 := F3.up u64
                 replace F4 := F4.up u64
                 replace bF1 := bF1.up u64
                 replace bF2 := bF2.up u64
                 replace bF3 := bF3.up u64
                 replace f := f.up u64
                 replace fd := fd.up u64
                 replace g := g.up u64
                 replace gd := gd.up u64
                 replace cu := cu.up u64
                 replace cud := cud.up u64
                 replace b2 := b2.up u64
                 replace x7 := x7.up u64
                 replace x8 := x8.up u64
                 replace x9 := x9.up u64
                 replace x10 := x10.up u64
                 replace x11 := x11.up u64
                 replace x12 := x12.up u64
                 replace x13 := x13.up u64
                 replace x14 := x14.up u64
                 replace x15 := x15.up u64
                 replace UP := UP.trans u64
                 clear x7_6 x7_7 x7_8 x7_9 x7_10 x7_11 x8_0 x8_1 x8_2 x10_0 x10_1 x10_2 x11_0 x11_1 x11_2
                 have x7_6 := x7.cell (i := 6) rfl
                 have x7_7 := x7.cell (i := 7) rfl
                 have x7_8 := x7.cell (i := 8) rfl
                 have x7_9 := x7.cell (i := 9) rfl
                 have x7_10 := x7.cell (i := 10) rfl
                 have x7_11 := x7.cell (i := 11) rfl
                 have x8_0 := x8.cell (i := 0) rfl
                 have x8_1 := x8.cell (i := 1) rfl
                 have x8_2 := x8.cell (i := 2) rfl
                 have x10_0 := x10.cell (i := 0) rfl
                 have x10_1 := x10.cell (i := 1) rfl
                 have x10_2 := x10.cell (i := 2) rfl
                 have x11_0 := x11.cell (i := 0) rfl
                 have x11_1 := x11.cell (i := 1) rfl
                 have x11_2 := x11.cell (i := 2) rfl
                 clear u64
                 rw [HZ2.out]))
        try go_wp2_with fail
        try clear hHeld
        refine hK.out _ _ ?_ (fun hHeld => ?_)
        · with_reducible exact ⟨UP, x7_6, x7_7, x7_8, x7_9, x7_10, x7_11, x8_0, x8_1, x8_2, x10_0, x10_1, x10_2, x11_0, x11_1, x11_2, x7⟩
        clear hK K
        try simp only [List.getElem_toArray, List.getElem_cons_zero, List.getElem_cons_succ, Act.put, List.setIfInBounds_toArray, List.set_cons_zero, List.set_cons_succ]
        refine wpAnyH_take (i := 10) (v := ?_) rfl (by kernel_rfl) (by kernel_rfl) (by kernel_rfl) (fun _ _ _ h => h) (Or.inl ⟨by rfl, ?_⟩) (by assumption) ?_
        rotate_left
        · (intro w hSw; (try dsimp only at hSw); go_simp; first | done | with_reducible rfl)
        try simp only [List.getElem_toArray, List.getElem_cons_zero, List.getElem_cons_succ, Act.put, List.setIfInBounds_toArray, List.set_cons_zero, List.set_cons_succ]
        refine wpAnyH_take (i := 11) (v := ?_) rfl (by kernel_rfl) (by kernel_rfl) (by kernel_rfl) (fun _ _ _ h => h) (Or.inl ⟨by rfl, ?_⟩) (by assumption) ?_
        rotate_left
        · (intro w hSw; (try dsimp only at hSw); go_simp; first | done | with_reducible rfl)
        try simp only [List.getElem_toArray, List.getElem_cons_zero, List.getElem_cons_succ, Act.put, List.setIfInBounds_toArray, List.set_cons_zero, List.set_cons_succ]
        refine wpAnyH_take (i := 12) (v := ?_) rfl (by kernel_rfl) (by kernel_rfl) (by kernel_rfl) (fun _ _ _ h => h) (Or.inl ⟨by rfl, ?_⟩) (by assumption) ?_
        rotate_left
        · (intro w hSw; (try dsimp only at hSw); go_simp; first | done | with_reducible rfl)
        try simp only [List.getElem_toArray, List.getElem_cons_zero, List.getElem_cons_succ, Act.put, List.setIfInBounds_toArray, List.set_cons_zero, List.set_cons_succ]
        refine wpAnyH_take (i := 13) (v := ?_) rfl (by kernel_rfl) (by kernel_rfl) (by kernel_rfl) (fun _ _ _ h => h) (Or.inl ⟨by rfl, ?_⟩) (by assumption) ?_
        rotate_left
        · (intro w hSw; (try dsimp only at hSw); go_simp; first | done | with_reducible rfl)
        try simp only [List.getElem_toArray, List.getElem_cons_zero, List.getElem_cons_succ, Act.put, List.setIfInBounds_toArray, List.set_cons_zero, List.set_cons_succ]
        refine wpAnyH_take (i := 14) (v := ?_) rfl (by kernel_rfl) (by kernel_rfl) (by kernel_rfl) (fun _ _ _ h => h) (Or.inl ⟨by rfl, ?_⟩) (by assumption) ?_
        rotate_left
        · (intro w hSw; (try dsimp only at hSw); go_simp; first | done | with_reducible rfl)
        try simp only [List.getElem_toArray, List.getElem_cons_zero, List.getElem_cons_succ, Act.put, List.setIfInBounds_toArray, List.set_cons_zero, List.set_cons_succ]
        refine wpAnyH_ready (rs := [15]) (by kernel_rfl) (by simp) ?_
        refine AllReadyH.cons rfl (fun K hK => ?_) AllReadyH.nil
        go_simp
        (first
              | (go_at_call 62
                 ((with_reducible refine (frac_cmp ((qw_of2 g gd).fr LG) ((qw_of2 f fd).fr LF) (by omega) (by omega)).mono ?_))
                 rintro e W65 ⟨rfl, u65⟩
                 replace QA := QA.up u65
                 replace QB := QB.up u65
                 replace F1 := F1.up u65
                 replace F2 := F2.up u65
                 replace F3 := F3.up u65
                 replace F4 := F4.up u65
                 replace bF1 := bF1.up u65
                 replace bF2 := bF2.up u65
                 replace bF3 := bF3.up u65
                 replace f := f.up u65
                 replace fd := fd.up u65
                 replace g := g.up u65
                 replace gd := gd.up u65
                 replace cu := cu.up u65
                 replace cud := cud.up u65
                 replace b2 := b2.up u65
                 replace x7 := x7.up u65
                 replace x8 := x8.up u65
                 replace x9 := x9.up u65
                 replace x10 := x10.up u65
                 replace x11 := x11.up u65
                 replace x12 := x12.up u65
                 replace x13 := x13.up u65
                 replace x14 := x14.up u65
                 replace x15 := x15.up u65
                 replace UP := UP.trans u65
                 clear x7_6 x7_7 x7_8 x7_9 x7_10 x7_11 x8_0 x8_1 x8_2 x10_0 x10_1 x10_2 x11_0 x11_1 x11_2
                 have x7_6 := x7.cell (i := 6) rfl
                 have x7_7 := x7.cell (i := 7) rfl
                 have x7_8 := x7.cell (i := 8) rfl
                 have x7_9 := x7.cell (i := 9) rfl
                 have x7_10 := x7.cell (i := 10) rfl
                 have x7_11 := x7.cell (i := 11) rfl
                 have x8_0 := x8.cell (i := 0) rfl
                 have x8_1 := x8.cell (i := 1) rfl
                 have x8_2 := x8.cell (i := 2) rfl
                 have x10_0 := x10.cell (i := 0) rfl
                 have x10_1 := x10.cell (i := 1) rfl
                 have x10_2 := x10.cell (i := 2) rfl
                 have x11_0 := x11.cell (i := 0) rfl
                 have x11_1 := x11.cell (i := 1) rfl
                 have x11_2 := x11.cell (i := 2) rfl
                 clear u65
                 rw [HZ3.out]))
        try go_wp2_with fail
        try clear hHeld
        refine hK.out _ _ ?_ (fun hHeld => ?_)
        · with_reducible exact ⟨UP, x7_6, x7_7, x7_8, x7_9, x7_10, x7_11, x8_0, x8_1, x8_2, x10_0, x10_1, x10_2, x11_0, x11_1, x11_2, x7⟩
        clear hK K
        try simp only [List.getElem_toArray, List.getElem_cons_zero, List.getElem_cons_succ, Act.put, List.setIfInBounds_toArray, List.set_cons_zero, List.set_cons_succ]
        refine wpAnyH_take (i := 16) (v := ?_) rfl (by kernel_rfl) (by kernel_rfl) (by kernel_rfl) (fun _ _ _ h => h) (Or.inl ⟨by rfl, ?_⟩) (by assumption) ?_
        rotate_left
        · (intro w hSw; (try dsimp only at hSw); go_simp; first | done | with_reducible rfl)
        try simp only [List.getElem_toArray, List.getElem_cons_zero, List.getElem_cons_succ, Act.put, List.setIfInBounds_toArray, List.set_cons_zero, List.set_cons_succ]
        refine wpAnyH_take (i := 17) (v := ?_) rfl (by kernel_rfl) (by kernel_rfl) (by kernel_rfl) (fun _ _ _ h => h) (Or.inl ⟨by rfl, ?_⟩) (by assumption) ?_
        rotate_left
        · (intro w hSw; (try dsimp only at hSw); go_simp; first | done | with_reducible rfl)
        try simp only [List.getElem_toArray, List.getElem_cons_zero, List.getElem_cons_succ, Act.put, List.setIfInBounds_toArray, List.set_cons_zero, List.set_cons_succ]
        refine wpAnyH_take (i := 18) (v := ?_) rfl (by kernel_rfl) (by kernel_rfl) (by kernel_rfl) (fun _ _ _ h => h) (Or.inl ⟨by rfl, ?_⟩) (by assumption) ?_
        rotate_left
        · (intro w hSw; (try dsimp only at hSw); go_simp; first | done | with_reducible rfl)
        try simp only [List.getElem_toArray, List.getElem_cons_zero, List.getElem_cons_succ, Act.put, List.setIfInBounds_toArray, List.set_cons_zero, List.set_cons_succ]
        refine wpAnyH_take (i := 19) (v := .agg #[.bool s1, .slice A1 l1.length c1, .slice D1 m1.length e1, .bool s2, .slice A2 l2.length c2, .slice D2 m2.length e2, .bool s3, .slice A3 l3.length c3, .slice D3 m3.length e3, .bool s4, .slice A4 l4.length c4, .slice D4 m4.length e4, .bool s5, .slice A5 l5.length c5, .slice D5 m5.length e5, .int .i64 fi, .int .i64 mo]) rfl (by kernel_rfl) (by kernel_rfl) (by kernel_rfl) (fun _ _ _ h => h) (Or.inl ⟨by rfl, fun w hSw => exec_load_box rfl rfl agg_rules size_rules hSw.2.2.2.2.2.2.2.2.2.2.2.2.2.2.2.2 rfl⟩) (by assumption) ?_
        try simp only [List.getElem_toArray, List.getElem_cons_zero, List.getElem_cons_succ, Act.put, List.setIfInBounds_toArray, List.set_cons_zero, List.set_cons_succ]
        refine wpAnyH_take (i := 20) (v := ?_) rfl (by kernel_rfl) (by kernel_rfl) (by kernel_rfl) (fun _ _ _ h => h) (Or.inl ⟨by rfl, ?_⟩) (by assumption) ?_
        rotate_left
        · (intro w hSw; (try dsimp only at hSw); go_simp; first | done | with_reducible rfl)
        try simp only [List.getElem_toArray, List.getElem_cons_zero, List.getElem_cons_succ, Act.put, List.setIfInBounds_toArray, List.set_cons_zero, List.set_cons_succ]
        refine wpAnyH_ready (rs := [21]) (by kernel_rfl) (by simp) ?_
        refine AllReadyH.cons rfl (fun K hK => ?_) AllReadyH.nil
        go_simp
        (first
              | (go_at_call 76
                 ((with_reducible refine (pace_accepts (QA.fr LA) F1 (by omega)).mono ?_))
                 rintro e W66 ⟨rfl, u66⟩
                 replace QA := QA.up u66
                 replace QB := QB.up u66
                 replace F1 := F1.up u66
                 replace F2 := F2.up u66
                 replace F3 := F3.up u66
                 replace F4 := F4.up u66
                 replace bF1 := bF1.up u66
                 replace bF2 := bF2.up u66
                 replace bF3 := bF3.up u66
                 replace f := f.up u66
                 replace fd := fd.up u66
                 replace g := g.up u66
                 replace gd := gd.up u66
                 replace cu := cu.up u66
                 replace cud := cud.up u66
                 replace b2 := b2.up u66
                 replace x7 := x7.up u66
                 replace x8 := x8.up u66
                 replace x9 := x9.up u66
                 replace x10 := x10.up u66
                 replace x11 := x11.up u66
                 replace x12 := x12.up u66
                 replace x13 := x13.up u66
                 replace x14 := x14.up u66
                 replace x15 := x15.up u66
                 replace UP := UP.trans u66
                 clear x7_6 x7_7 x7_8 x7_9 x7_10 x7_11 x8_0 x8_1 x8_2 x10_0 x10_1 x10_2 x11_0 x11_1 x11_2
                 have x7_6 := x7.cell (i := 6) rfl
                 have x7_7 := x7.cell (i := 7) rfl
                 have x7_8 := x7.cell (i := 8) rfl
                 have x7_9 := x7.cell (i := 9) rfl
                 have x7_10 := x7.cell (i := 10) rfl
                 have x7_11 := x7.cell (i := 11) rfl
                 have x8_0 := x8.cell (i := 0) rfl
                 have x8_1 := x8.cell (i := 1) rfl
                 have x8_2 := x8.cell (i := 2) rfl
                 have x10_0 := x10.cell (i := 0) rfl
                 have x10_1 := x10.cell (i := 1) rfl
                 have x10_2 := x10.cell (i := 2) rfl
                 have x11_0 := x11.cell (i := 0) rfl
                 have x11_1 := x11.cell (i := 1) rfl
                 have x11_2 := x11.cell (i := 2) rfl
                 clear u66
                 rw [DA.out]))
        try go_wp2_with fail
        try clear hHeld
        refine hK.out _ _ ?_ (fun hHeld => ?_)
        · with_reducible exact ⟨UP, x7_6, x7_7, x7_8, x7_9, x7_10, x7_11, x8_0, x8_1, x8_2, x10_0, x10_1, x10_2, x11_0, x11_1, x11_2, x7⟩
        clear hK K
        try simp only [List.getElem_toArray, List.getElem_cons_zero, List.getElem_cons_succ, Act.put, List.setIfInBounds_toArray, List.set_cons_zero, List.set_cons_succ]
        refine wpAnyH_take (i := 22) (v := ?_) rfl (by kernel_rfl) (by kernel_rfl) (by kernel_rfl) (fun _ _ _ h => h) (Or.inl ⟨by rfl, ?_⟩) (by assumption) ?_
        rotate_left
        · (intro w hSw; (try dsimp only at hSw); go_simp; first | done | with_reducible rfl)
        try simp only [List.getElem_toArray, List.getElem_cons_zero, List.getElem_cons_succ, Act.put, List.setIfInBounds_toArray, List.set_cons_zero, List.set_cons_succ]
        refine wpAnyH_take (i := 23) (v := ?_) rfl (by kernel_rfl) (by kernel_rfl) (by kernel_rfl) (fun _ _ _ h => h) (Or.inl ⟨by rfl, ?_⟩) (by assumption) ?_
        rotate_left
        · (intro w hSw; (try dsimp only at hSw); go_simp; first | done | with_reducible rfl)
        try simp only [List.getElem_toArray, List.getElem_cons_zero, List.getElem_cons_succ, Act.put, List.setIfInBounds_toArray, List.set_cons_zero, List.set_cons_succ]
        refine wpAnyH_take (i := 24) (v := undef) rfl (by kernel_rfl) (by kernel_rfl) (by kernel_rfl) (fun _ _ _ h => h) (Or.inr ⟨by rfl, rfl⟩) (by assumption) ?_
        try simp only [List.getElem_toArray, List.getElem_cons_zero, List.getElem_cons_succ, Act.put, List.setIfInBounds_toArray, List.set_cons_zero, List.set_cons_succ]
        refine wpAnyH_take (i := 25) (v := undef) rfl (by kernel_rfl) (by kernel_rfl) (by kernel_rfl) (fun _ _ _ h => h) (Or.inr ⟨by rfl, rfl⟩) (by assumption) ?_
        try simp only [List.getElem_toArray, List.getElem_cons_zero, List.getElem_cons_succ, Act.put, List.setIfInBounds_toArray, List.set_cons_zero, List.set_cons_succ]
        refine wpAnyH_take (i := 26) (v := undef) rfl (by kernel_rfl) (by kernel_rfl) (by kernel_rfl) (fun _ _ _ h => h) (Or.inr ⟨by rfl, rfl⟩) (by assumption) ?_
        try simp only [List.getElem_toArray, List.getElem_cons_zero, List.getElem_cons_succ, Act.put, List.setIfInBounds_toArray, List.set_cons_zero, List.set_cons_succ]
        refine wpAnyH_take (i := 27) (v := undef) rfl (by kernel_rfl) (by kernel_rfl) (by kernel_rfl) (fun _ _ _ h => h) (Or.inr ⟨by rfl, rfl⟩) (by assumption) ?_
        try simp only [List.getElem_toArray, List.getElem_cons_zero, List.getElem_cons_succ, Act.put, List.setIfInBounds_toArray, List.set_cons_zero, List.set_cons_succ]
        refine wpAnyH_take (i := 28) (v := ?_) rfl (by kernel_rfl) (by kernel_rfl) (by kernel_rfl) (fun _ _ _ h => h) (Or.inl ⟨by rfl, ?_⟩) (by assumption) ?_
        rotate_left
        · (intro w hSw; (try dsimp only at hSw); go_simp; first | done | with_reducible rfl)
        try simp only [List.getElem_toArray, List.getElem_cons_zero, List.getElem_cons_succ, Act.put, List.setIfInBounds_toArray, List.set_cons_zero, List.set_cons_succ]
        refine wpAnyH_take (i := 29) (v := ?_) rfl (by kernel_rfl) (by kernel_rfl) (by kernel_rfl) (fun _ _ _ h => h) (Or.inl ⟨by rfl, ?_⟩) (by assumption) ?_
        rotate_left
        · (intro w hSw; (try dsimp only at hSw); go_simp; first | done | with_reducible rfl)
        try simp only [List.getElem_toArray, List.getElem_cons_zero, List.getElem_cons_succ, Act.put, List.setIfInBounds_toArray, List.set_cons_zero, List.set_cons_succ]
        refine wpAnyH_done (by kernel_rfl) ?_ _
        refine NoPanic.normal ?_
        clear hHeld
        by_cases hb : B ≤ tol
        · have DB : Hid (decide (B ≤ tol) = true) := Lib.hid (decide_eq_true hb)
          clear hb
          go_wp2_with (with_reducible show wpList _ _ _ _ _ _; refine wl_load_box (o := ⟨_, Op.load 105 _, _, _, _, _⟩) rfl _ rfl rfl agg_rules size_rules (by first | exact x7 | exact x7.up ((Up.refl _).alloc _)) rfl ?_)
          have k5 : decide (z5 ≤ 0) = true := decide_eq_true (by have := K5.out; omega)
          have k6 : decide (z6 ≤ 0) = true := decide_eq_true (by have := K6.out; omega)
          have x15_0 := x15.cell (i := 0) rfl
          have x15_1 := x15.cell (i := 1) rfl
          have x15_2 := x15.cell (i := 2) rfl
          have x14_0 := x14.cell (i := 0) rfl
          have x14_1 := x14.cell (i := 1) rfl
          have x14_2 := x14.cell (i := 2) rfl
          have x12_0 := x12.cell (i := 0) rfl
          have x12_1 := x12.cell (i := 1) rfl
          have x12_2 := x12.cell (i := 2) rfl
          have x13_0 := x13.cell (i := 0) rfl
          have x13_1 := x13.cell (i := 1) rfl
          have x13_2 := x13.cell (i := 2) rfl
          have x9_0 := x9.cell (i := 0) rfl
          have x9_1 := x9.cell (i := 1) rfl
          have x9_2 := x9.cell (i := 2) rfl
          replace QA := QA.up (Up.refl W66).drew
          replace QB := QB.up (Up.refl W66).drew
          replace F1 := F1.up (Up.refl W66).drew
          replace F2 := F2.up (Up.refl W66).drew
          replace F3 := F3.up (Up.refl W66).drew
          replace F4 := F4.up (Up.refl W66).drew
          replace bF1 := bF1.up (Up.refl W66).drew
          replace bF2 := bF2.up (Up.refl W66).drew
          replace bF3 := bF3.up (Up.refl W66).drew
          replace f := f.up (Up.refl W66).drew
          replace fd := fd.up (Up.refl W66).drew
          replace g := g.up (Up.refl W66).drew
          replace gd := gd.up (Up.refl W66).drew
          replace cu := cu.up (Up.refl W66).drew
          replace cud := cud.up (Up.refl W66).drew
          replace b2 := b2.up (Up.refl W66).drew
          replace x7 := x7.up (Up.refl W66).drew
          replace x8 := x8.up (Up.refl W66).drew
          replace x9 := x9.up (Up.refl W66).drew
          replace x10 := x10.up (Up.refl W66).drew
          replace x11 := x11.up (Up.refl W66).drew
          replace x12 := x12.up (Up.refl W66).drew
          replace x13 := x13.up (Up.refl W66).drew
          replace x14 := x14.up (Up.refl W66).drew
          replace x15 := x15.up (Up.refl W66).drew
          replace UP := UP.trans (Up.refl W66).drew
          clear x7_6 x7_7 x7_8 x7_9 x7_10 x7_11 x8_0 x8_1 x8_2 x9_0 x9_1 x9_2 x10_0 x10_1 x10_2 x11_0 x11_1 x11_2 x12_0 x12_1 x12_2 x13_0 x13_1 x13_2 x14_0 x14_1 x14_2 x15_0 x15_1 x15_2
          have x7_6 := x7.cell (i := 6) rfl
          have x7_7 := x7.cell (i := 7) rfl
          have x7_8 := x7.cell (i := 8) rfl
          have x7_9 := x7.cell (i := 9) rfl
          have x7_10 := x7.cell (i := 10) rfl
          have x7_11 := x7.cell (i := 11) rfl
          have x8_0 := x8.cell (i := 0) rfl
          have x8_1 := x8.cell (i := 1) rfl
          have x8_2 := x8.cell (i := 2) rfl
          have x9_0 := x9.cell (i := 0) rfl
          have x9_1 := x9.cell (i := 1) rfl
          have x9_2 := x9.cell (i := 2) rfl
          have x10_0 := x10.cell (i := 0) rfl
          have x10_1 := x10.cell (i := 1) rfl
          have x10_2 := x10.cell (i := 2) rfl
          have x11_0 := x11.cell (i := 0) rfl
          have x11_1 := x11.cell (i := 1) rfl
          have x11_2 := x11.cell (i := 2) rfl
          have x12_0 := x12.cell (i := 0) rfl
          have x12_1 := x12.cell (i := 1) rfl
          have x12_2 := x12.cell (i := 2) rfl
          have x13_0 := x13.cell (i := 0) rfl
          have x13_1 := x13.cell (i := 1) rfl
          have x13_2 := x13.cell (i := 2) rfl
          have x14_0 := x14.cell (i := 0) rfl
          have x14_1 := x14.cell (i := 1) rfl
          have x14_2 := x14.cell (i := 2) rfl
          have x15_0 := x15.cell (i := 0) rfl
          have x15_1 := x15.cell (i := 1) rfl
          have x15_2 := x15.cell (i := 2) rfl
          refine wp_region_noPanic ?_
          refine wp_region_held_drew (S := fun w' => Up w w' ∧ w'.cell? ⟨W7.heap.size, 6, none⟩ = some (.bool s3) ∧ w'.cell? ⟨W7.heap.size, 7, none⟩ = some (.slice A3 l3.length c3) ∧ w'.cell? ⟨W7.heap.size, 8, none⟩ = some (.slice D3 m3.length e3) ∧ w'.cell? ⟨W7.heap.size, 9, none⟩ = some (.bool s4) ∧ w'.cell? ⟨W7.heap.size, 10, none⟩ = some (.slice A4 l4.length c4) ∧ w'.cell? ⟨W7.heap.size, 11, none⟩ = some (.slice D4 m4.length e4) ∧ w'.cell? ⟨W11.heap.size, 0, none⟩ = some (.bool (Wd.ngb A.num)) ∧ w'.cell? ⟨W11.heap.size, 1, none⟩ = some (.slice Ap np cp) ∧ w'.cell? ⟨W11.heap.size, 2, none⟩ = some (.slice Apd npd cpd) ∧ w'.cell? ⟨g9, 0, none⟩ = some (.bool (Wd.ngb B.num)) ∧ w'.cell? ⟨g9, 1, none⟩ = some (.slice A9 n9 k9) ∧ w'.cell? ⟨g9, 2, none⟩ = some (.slice D9 r9 d9) ∧ w'.cell? ⟨W55.heap.size, 0, none⟩ = some (.bool bs1) ∧ w'.cell? ⟨W55.heap.size, 1, none⟩ = some (.slice bA1 bl1.length bc1) ∧ w'.cell? ⟨W55.heap.size, 2, none⟩ = some (.slice bD1 bm1.length be1) ∧ w'.cell? ⟨W57.heap.size, 0, none⟩ = some (.bool bs2) ∧ w'.cell? ⟨W57.heap.size, 1, none⟩ = some (.slice bA2 bl2.length bc2) ∧ w'.cell? ⟨W57.heap.size, 2, none⟩ = some (.slice bD2 bm2.length be2) ∧ w'.cell? ⟨W59.heap.size, 0, none⟩ = some (.bool bs3) ∧ w'.cell? ⟨W59.heap.size, 1, none⟩ = some (.slice bA3 bl3.length bc3) ∧ w'.cell? ⟨W59.heap.size, 2, none⟩ = some (.slice bD3 bm3.length be3) ∧ w'.cell? ⟨W61.heap.size, 0, none⟩ = some (.bool (Wd.ngb CU.num)) ∧ w'.cell? ⟨W61.heap.size, 1, none⟩ = some (.slice Acu ncu ccu) ∧ w'.cell? ⟨W61.heap.size, 2, none⟩ = some (.slice Acud ncud ccud) ∧ Bx 105 w' (W7.heap.size) [.bool s1, .slice A1 l1.length c1, .slice D1 m1.length e1, .bool s2, .slice A2 l2.length c2, .slice D2 m2.length e2, .bool s3, .slice A3 l3.length c3, .slice D3 m3.length e3, .bool s4, .slice A4 l4.length c4, .slice D4 m4.length e4, .bool s5, .slice A5 l5.length c5, .slice D5 m5.length e5, .int .i64 fi, .int .i64 mo]) (by kernel_rfl) ?_ (fun hHeld => ?_)
          · with_reducible exact ⟨UP, x7_6, x7_7, x7_8, x7_9, x7_10, x7_11, x8_0, x8_1, x8_2, x9_0, x9_1, x9_2, x12_0, x12_1, x12_2, x13_0, x13_1, x13_2, x14_0, x14_1, x14_2, x15_0, x15_1, x15_2, x7⟩
          refine wpAnyH_take (i := 0) (v := ?_) rfl (by kernel_rfl) (by kernel_rfl) (by kernel_rfl) (fun _ _ _ h => h) (Or.inl ⟨by rfl, ?_⟩) (by assumption) ?_
          rotate_left
          · (intro w hSw; (try dsimp only at hSw); go_simp; first | done | with_reducible rfl)
          try simp only [List.getElem_toArray, List.getElem_cons_zero, List.getElem_cons_succ, Act.put, List.setIfInBounds_toArray, List.set_cons_zero, List.set_cons_succ]
          refine wpAnyH_take (i := 1) (v := ?_) rfl (by kernel_rfl) (by kernel_rfl) (by kernel_rfl) (fun _ _ _ h => h) (Or.inl ⟨by rfl, ?_⟩) (by assumption) ?_
          rotate_left
          · (intro w hSw; (try dsimp only at hSw); go_simp; first | done | with_reducible rfl)
          try simp only [List.getElem_toArray, List.getElem_cons_zero, List.getElem_cons_succ, Act.put, List.setIfInBounds_toArray, List.set_cons_zero, List.set_cons_succ]
          refine wpAnyH_ready (rs := [2]) (by kernel_rfl) (by simp) ?_
          refine AllReadyH.cons rfl (fun K hK => ?_) AllReadyH.nil
          go_simp
          (first
                | (go_at_call 62
                   ((with_reducible refine (frac_cmp ((qw_of2 cu cud).fr LCU) bF3 (by omega) (by omega)).mono ?_))
                   rintro e W67 ⟨rfl, u67⟩
                   replace QA := QA.up u67
                   replace QB := QB.up u67
                   replace F1 := F1.up u67
                   replace F2 := F2.up u67
                   replace F3 := F3.up u67
                   replace F4 := F4.up u67
                   replace bF1 := bF1.up u67
                   replace bF2 := bF2.up u67
                   replace bF3 := bF3.up u67
                   replace f := f.up u67
                   replace fd := fd.up u67
                   replace g := g.up u67
                   replace gd := gd.up u67
                   replace cu := cu.up u67
                   replace cud := cud.up u67
                   try (replace sm := sm.up u67)
                   replace b2 := b2.up u67
                   replace x7 := x7.up u67
                   replace x8 := x8.up u67
                   replace x9 := x9.up u67
                   replace x10 := x10.up u67
                   replace x11 := x11.up u67
                   replace x12 := x12.up u67
                   replace x13 := x13.up u67
                   replace x14 := x14.up u67
                   replace x15 := x15.up u67
                   replace UP := UP.trans u67
                   clear x7_6 x7_7 x7_8 x7_9 x7_10 x7_11 x8_0 x8_1 x8_2 x9_0 x9_1 x9_2 x10_0 x10_1 x10_2 x11_0 x11_1 x11_2 x12_0 x12_1 x12_2 x13_0 x13_1 x13_2 x14_0 x14_1 x14_2 x15_0 x15_1 x15_2
                   have x7_6 := x7.cell (i := 6) rfl
                   have x7_7 := x7.cell (i := 7) rfl
                   have x7_8 := x7.cell (i := 8) rfl
                   have x7_9 := x7.cell (i := 9) rfl
                   have x7_10 := x7.cell (i := 10) rfl
                   have x7_11 := x7.cell (i := 11) rfl
                   have x8_0 := x8.cell (i := 0) rfl
                   have x8_1 := x8.cell (i := 1) rfl
                   have x8_2 := x8.cell (i := 2) rfl
                   have x9_0 := x9.cell (i := 0) rfl
                   have x9_1 := x9.cell (i := 1) rfl
                   have x9_2 := x9.cell (i := 2) rfl
                   have x10_0 := x10.cell (i := 0) rfl
                   have x10_1 := x10.cell (i := 1) rfl
                   have x10_2 := x10.cell (i := 2) rfl
                   have x11_0 := x11.cell (i := 0) rfl
                   have x11_1 := x11.cell (i := 1) rfl
                   have x11_2 := x11.cell (i := 2) rfl
                   have x12_0 := x12.cell (i := 0) rfl
                   have x12_1 := x12.cell (i := 1) rfl
                   have x12_2 := x12.cell (i := 2) rfl
                   have x13_0 := x13.cell (i := 0) rfl
                   have x13_1 := x13.cell (i := 1) rfl
                   have x13_2 := x13.cell (i := 2) rfl
                   have x14_0 := x14.cell (i := 0) rfl
                   have x14_1 := x14.cell (i := 1) rfl
                   have x14_2 := x14.cell (i := 2) rfl
                   have x15_0 := x15.cell (i := 0) rfl
                   have x15_1 := x15.cell (i := 1) rfl
                   have x15_2 := x15.cell (i := 2) rfl
                   clear u67
                   rw [HZ5.out]))
          try go_wp2_with fail
          try clear hHeld
          refine hK.out _ _ ?_ (fun hHeld => ?_)
          · with_reducible exact ⟨UP, x7_6, x7_7, x7_8, x7_9, x7_10, x7_11, x8_0, x8_1, x8_2, x9_0, x9_1, x9_2, x12_0, x12_1, x12_2, x13_0, x13_1, x13_2, x14_0, x14_1, x14_2, x15_0, x15_1, x15_2, x7⟩
          clear hK K
          try simp only [List.getElem_toArray, List.getElem_cons_zero, List.getElem_cons_succ, Act.put, List.setIfInBounds_toArray, List.set_cons_zero, List.set_cons_succ]
          refine wpAnyH_take (i := 3) (v := ?_) rfl (by kernel_rfl) (by kernel_rfl) (by kernel_rfl) (fun _ _ _ h => h) (Or.inl ⟨by rfl, ?_⟩) (by assumption) ?_
          rotate_left
          · (intro w hSw; (try dsimp only at hSw); go_simp; first | done | with_reducible rfl)
          try simp only [List.getElem_toArray, List.getElem_cons_zero, List.getElem_cons_succ, Act.put, List.setIfInBounds_toArray, List.set_cons_zero, List.set_cons_succ]
          refine wpAnyH_take (i := 4) (v := ?_) rfl (by kernel_rfl) (by kernel_rfl) (by kernel_rfl) (fun _ _ _ h => h) (Or.inl ⟨by rfl, ?_⟩) (by assumption) ?_
          rotate_left
          · (intro w hSw; (try dsimp only at hSw); go_simp; first | done | with_reducible rfl)
          try simp only [List.getElem_toArray, List.getElem_cons_zero, List.getElem_cons_succ, Act.put, List.setIfInBounds_toArray, List.set_cons_zero, List.set_cons_succ]
          refine wpAnyH_take (i := 5) (v := ?_) rfl (by kernel_rfl) (by kernel_rfl) (by kernel_rfl) (fun _ _ _ h => h) (Or.inl ⟨by rfl, ?_⟩) (by assumption) ?_
          rotate_left
          · (intro w hSw; (try dsimp only at hSw); go_simp; first | done | with_reducible rfl)
          try simp only [List.getElem_toArray, List.getElem_cons_zero, List.getElem_cons_succ, Act.put, List.setIfInBounds_toArray, List.set_cons_zero, List.set_cons_succ]
          refine wpAnyH_take (i := 6) (v := ?_) rfl (by kernel_rfl) (by kernel_rfl) (by kernel_rfl) (fun _ _ _ h => h) (Or.inl ⟨by rfl, ?_⟩) (by assumption) ?_
          rotate_left
          · (intro w hSw; (try dsimp only at hSw); go_simp; first | done | with_reducible rfl)
          try simp only [List.getElem_toArray, List.getElem_cons_zero, List.getElem_cons_succ, Act.put, List.setIfInBounds_toArray, List.set_cons_zero, List.set_cons_succ]
          refine wpAnyH_take (i := 8) (v := ?_) rfl (by kernel_rfl) (by kernel_rfl) (by kernel_rfl) (fun _ _ _ h => h) (Or.inl ⟨by rfl, ?_⟩) (by assumption) ?_
          rotate_left
          · (intro w hSw; (try dsimp only at hSw); go_simp; first | done | with_reducible rfl)
          try simp only [List.getElem_toArray, List.getElem_cons_zero, List.getElem_cons_succ, Act.put, List.setIfInBounds_toArray, List.set_cons_zero, List.set_cons_succ]
          refine wpAnyH_ready (rs := [7]) (by kernel_rfl) (by simp) ?_
          refine AllReadyH.cons rfl (fun K hK => ?_) AllReadyH.nil
          go_simp
          (first
                | (go_at_call 47
                   ((with_reducible refine (frac_add bF1 ((qw_of2 cu cud).fr LCU) (by omega) (by omega)).mono ?_))
                   rintro e W68 ⟨V68, rfl, sm, u68⟩
                   replace QA := QA.up u68
                   replace QB := QB.up u68
                   replace F1 := F1.up u68
                   replace F2 := F2.up u68
                   replace F3 := F3.up u68
                   replace F4 := F4.up u68
                   replace bF1 := bF1.up u68
                   replace bF2 := bF2.up u68
                   replace bF3 := bF3.up u68
                   replace f := f.up u68
                   replace fd := fd.up u68
                   replace g := g.up u68
                   replace gd := gd.up u68
                   replace cu := cu.up u68
                   replace cud := cud.up u68
                   try (replace sm := sm.up u68)
                   replace b2 := b2.up u68
                   replace x7 := x7.up u68
                   replace x8 := x8.up u68
                   replace x9 := x9.up u68
                   replace x10 := x10.up u68
                   replace x11 := x11.up u68
                   replace x12 := x12.up u68
                   replace x13 := x13.up u68
                   replace x14 := x14.up u68
                   replace x15 := x15.up u68
                   replace UP := UP.trans u68
                   clear x7_6 x7_7 x7_8 x7_9 x7_10 x7_11 x8_0 x8_1 x8_2 x9_0 x9_1 x9_2 x10_0 x10_1 x10_2 x11_0 x11_1 x11_2 x12_0 x12_1 x12_2 x13_0 x13_1 x13_2 x14_0 x14_1 x14_2 x15_0 x15_1 x15_2
                   have x7_6 := x7.cell (i := 6) rfl
                   have x7_7 := x7.cell (i := 7) rfl
                   have x7_8 := x7.cell (i := 8) rfl
                   have x7_9 := x7.cell (i := 9) rfl
                   have x7_10 := x7.cell (i := 10) rfl
                   have x7_11 := x7.cell (i := 11) rfl
                   have x8_0 := x8.cell (i := 0) rfl
                   have x8_1 := x8.cell (i := 1) rfl
                   have x8_2 := x8.cell (i := 2) rfl
                   have x9_0 := x9.cell (i := 0) rfl
                   have x9_1 := x9.cell (i := 1) rfl
                   have x9_2 := x9.cell (i := 2) rfl
                   have x10_0 := x10.cell (i := 0) rfl
                   have x10_1 := x10.cell (i := 1) rfl
                   have x10_2 := x10.cell (i := 2) rfl
                   have x11_0 := x11.cell (i := 0) rfl
                   have x11_1 := x11.cell (i := 1) rfl
                   have x11_2 := x11.cell (i := 2) rfl
                   have x12_0 := x12.cell (i := 0) rfl
                   have x12_1 := x12.cell (i := 1) rfl
                   have x12_2 := x12.cell (i := 2) rfl
                   have x13_0 := x13.cell (i := 0) rfl
                   have x13_1 := x13.cell (i := 1) rfl
                   have x13_2 := x13.cell (i := 2) rfl
                   have x14_0 := x14.cell (i := 0) rfl
                   have x14_1 := x14.cell (i := 1) rfl
                   have x14_2 := x14.cell (i := 2) rfl
                   have x15_0 := x15.cell (i := 0) rfl
                   have x15_1 := x15.cell (i := 1) rfl
                   have x15_2 := x15.cell (i := 2) rfl
                   clear u68
                   rw [HSU.out] at sm))
          try go_wp2_with fail
          try clear hHeld
          refine hK.out _ _ ?_ (fun hHeld => ?_)
          · with_reducible exact ⟨UP, x7_6, x7_7, x7_8, x7_9, x7_10, x7_11, x8_0, x8_1, x8_2, x9_0, x9_1, x9_2, x12_0, x12_1, x12_2, x13_0, x13_1, x13_2, x14_0, x14_1, x14_2, x15_0, x15_1, x15_2, x7⟩
          clear hK K
          try simp only [List.getElem_toArray, List.getElem_cons_zero, List.getElem_cons_succ, Act.put, List.setIfInBounds_toArray, List.set_cons_zero, List.set_cons_succ]
          refine wpAnyH_ready (rs := [9]) (by kernel_rfl) (by simp) ?_
          refine AllReadyH.cons rfl (fun K hK => ?_) AllReadyH.nil
          go_simp
          (first
                | (go_at_call 62
                   ((with_reducible refine (frac_cmp (sm.fr LSU) bF2 (by omega) (by omega)).mono ?_))
                   rintro e W69 ⟨rfl, u69⟩
                   replace QA := QA.up u69
                   replace QB := QB.up u69
                   replace F1 := F1.up u69
                   replace F2 := F2.up u69
                   replace F3 := F3.up u69
                   replace F4 := F4.up u69
                   replace bF1 := bF1.up u69
                   replace bF2 := bF2.up u69
                   replace bF3 := bF3.up u69
                   replace f := f.up u69
                   replace fd := fd.up u69
                   replace g := g.up u69
                   replace gd := gd.up u69
                   replace cu := cu.up u69
                   replace cud := cud.up u69
                   try (replace sm := sm.up u69)
                   replace b2 := b2.up u69
                   replace x7 := x7.up u69
                   replace x8 := x8.up u69
                   replace x9 := x9.up u69
                   replace x10 := x10.up u69
                   replace x11 := x11.up u69
                   replace x12 := x12.up u69
                   replace x13 := x13.up u69
                   replace x14 := x14.up u69
                   replace x15 := x15.up u69
                   replace UP := UP.trans u69
                   clear x7_6 x7_7 x7_8 x7_9 x7_10 x7_11 x8_0 x8_1 x8_2 x9_0 x9_1 x9_2 x10_0 x10_1 x10_2 x11_0 x11_1 x11_2 x12_0 x12_1 x12_2 x13_0 x13_1 x13_2 x14_0 x14_1 x14_2 x15_0 x15_1 x15_2
                   have x7_6 := x7.cell (i := 6) rfl
                   have x7_7 := x7.cell (i := 7) rfl
                   have x7_8 := x7.cell (i := 8) rfl
                   have x7_9 := x7.cell (i := 9) rfl
                   have x7_10 := x7.cell (i := 10) rfl
                   have x7_11 := x7.cell (i := 11) rfl
                   have x8_0 := x8.cell (i := 0) rfl
                   have x8_1 := x8.cell (i := 1) rfl
                   have x8_2 := x8.cell (i := 2) rfl
                   have x9_0 := x9.cell (i := 0) rfl
                   have x9_1 := x9.cell (i := 1) rfl
                   have x9_2 := x9.cell (i := 2) rfl
                   have x10_0 := x10.cell (i := 0) rfl
                   have x10_1 := x10.cell (i := 1) rfl
                   have x10_2 := x10.cell (i := 2) rfl
                   have x11_0 := x11.cell (i := 0) rfl
                   have x11_1 := x11.cell (i := 1) rfl
                   have x11_2 := x11.cell (i := 2) rfl
                   have x12_0 := x12.cell (i := 0) rfl
                   have x12_1 := x12.cell (i := 1) rfl
                   have x12_2 := x12.cell (i := 2) rfl
                   have x13_0 := x13.cell (i := 0) rfl
                   have x13_1 := x13.cell (i := 1) rfl
                   have x13_2 := x13.cell (i := 2) rfl
                   have x14_0 := x14.cell (i := 0) rfl
                   have x14_1 := x14.cell (i := 1) rfl
                   have x14_2 := x14.cell (i := 2) rfl
                   have x15_0 := x15.cell (i := 0) rfl
                   have x15_1 := x15.cell (i := 1) rfl
                   have x15_2 := x15.cell (i := 2) rfl
                   clear u69
                   rw [HZ6.out]))
          try go_wp2_with fail
          try clear hHeld
          refine hK.out _ _ ?_ (fun hHeld => ?_)
          · with_reducible exact ⟨UP, x7_6, x7_7, x7_8, x7_9, x7_10, x7_11, x8_0, x8_1, x8_2, x9_0, x9_1, x9_2, x12_0, x12_1, x12_2, x13_0, x13_1, x13_2, x14_0, x14_1, x14_2, x15_0, x15_1, x15_2, x7⟩
          clear hK K
          try simp only [List.getElem_toArray, List.getElem_cons_zero, List.getElem_cons_succ, Act.put, List.setIfInBounds_toArray, List.set_cons_zero, List.set_cons_succ]
          refine wpAnyH_take (i := 10) (v := ?_) rfl (by kernel_rfl) (by kernel_rfl) (by kernel_rfl) (fun _ _ _ h => h) (Or.inl ⟨by rfl, ?_⟩) (by assumption) ?_
          rotate_left
          · (intro w hSw; (try dsimp only at hSw); go_simp; first | done | with_reducible rfl)
          try simp only [List.getElem_toArray, List.getElem_cons_zero, List.getElem_cons_succ, Act.put, List.setIfInBounds_toArray, List.set_cons_zero, List.set_cons_succ]
          refine wpAnyH_take (i := 11) (v := ?_) rfl (by kernel_rfl) (by kernel_rfl) (by kernel_rfl) (fun _ _ _ h => h) (Or.inl ⟨by rfl, ?_⟩) (by assumption) ?_
          rotate_left
          · (intro w hSw; (try dsimp only at hSw); go_simp; first | done | with_reducible rfl)
          try simp only [List.getElem_toArray, List.getElem_cons_zero, List.getElem_cons_succ, Act.put, List.setIfInBounds_toArray, List.set_cons_zero, List.set_cons_succ]
          refine wpAnyH_take (i := 12) (v := ?_) rfl (by kernel_rfl) (by kernel_rfl) (by kernel_rfl) (fun _ _ _ h => h) (Or.inl ⟨by rfl, ?_⟩) (by assumption) ?_
          rotate_left
          · (intro w hSw; (try dsimp only at hSw); go_simp; first | done | with_reducible rfl)
          try simp only [List.getElem_toArray, List.getElem_cons_zero, List.getElem_cons_succ, Act.put, List.setIfInBounds_toArray, List.set_cons_zero, List.set_cons_succ]
          refine wpAnyH_take (i := 13) (v := .agg #[.bool s1, .slice A1 l1.length c1, .slice D1 m1.length e1, .bool s2, .slice A2 l2.length c2, .slice D2 m2.length e2, .bool s3, .slice A3 l3.length c3, .slice D3 m3.length e3, .bool s4, .slice A4 l4.length c4, .slice D4 m4.length e4, .bool s5, .slice A5 l5.length c5, .slice D5 m5.length e5, .int .i64 fi, .int .i64 mo]) rfl (by kernel_rfl) (by kernel_rfl) (by kernel_rfl) (fun _ _ _ h => h) (Or.inl ⟨by rfl, fun w hSw => exec_load_box rfl rfl agg_rules size_rules hSw.2.2.2.2.2.2.2.2.2.2.2.2.2.2.2.2.2.2.2.2.2.2.2.2.2 rfl⟩) (by assumption) ?_
          try simp only [List.getElem_toArray, List.getElem_cons_zero, List.getElem_cons_succ, Act.put, List.setIfInBounds_toArray, List.set_cons_zero, List.set_cons_succ]
          refine wpAnyH_take (i := 14) (v := ?_) rfl (by kernel_rfl) (by kernel_rfl) (by kernel_rfl) (fun _ _ _ h => h) (Or.inl ⟨by rfl, ?_⟩) (by assumption) ?_
          rotate_left
          · (intro w hSw; (try dsimp only at hSw); go_simp; first | done | with_reducible rfl)
          try simp only [List.getElem_toArray, List.getElem_cons_zero, List.getElem_cons_succ, Act.put, List.setIfInBounds_toArray, List.set_cons_zero, List.set_cons_succ]
          refine wpAnyH_ready (rs := [15]) (by kernel_rfl) (by simp) ?_
          refine AllReadyH.cons rfl (fun K hK => ?_) AllReadyH.nil
          go_simp
          (first
                | (go_at_call 76
                   ((with_reducible refine (pace_accepts (QB.fr LB) F1 (by omega)).mono ?_))
                   rintro e W70 ⟨rfl, u70⟩
                   replace QA := QA.up u70
                   replace QB := QB.up u70
                   replace F1 := F1.up u70
                   replace F2 := F2.up u70
                   replace F3 := F3.up u70
                   replace F4 := F4.up u70
                   replace bF1 := bF1.up u70
                   replace bF2 := bF2.up u70
                   replace bF3 := bF3.up u70
                   replace f := f.up u70
                   replace fd := fd.up u70
                   replace g := g.up u70
                   replace gd := gd.up u70
                   replace cu := cu.up u70
                   replace cud := cud.up u70
                   try (replace sm := sm.up u70)
                   replace b2 := b2.up u70
                   replace x7 := x7.up u70
                   replace x8 := x8.up u70
                   replace x9 := x9.up u70
                   replace x10 := x10.up u70
                   replace x11 := x11.up u70
                   replace x12 := x12.up u70
                   replace x13 := x13.up u70
                   replace x14 := x14.up u70
                   replace x15 := x15.up u70
                   replace UP := UP.trans u70
                   clear x7_6 x7_7 x7_8 x7_9 x7_10 x7_11 x8_0 x8_1 x8_2 x9_0 x9_1 x9_2 x10_0 x10_1 x10_2 x11_0 x11_1 x11_2 x12_0 x12_1 x12_2 x13_0 x13_1 x13_2 x14_0 x14_1 x14_2 x15_0 x15_1 x15_2
                   have x7_6 := x7.cell (i := 6) rfl
                   have x7_7 := x7.cell (i := 7) rfl
                   have x7_8 := x7.cell (i := 8) rfl
                   have x7_9 := x7.cell (i := 9) rfl
                   have x7_10 := x7.cell (i := 10) rfl
                   have x7_11 := x7.cell (i := 11) rfl
                   have x8_0 := x8.cell (i := 0) rfl
                   have x8_1 := x8.cell (i := 1) rfl
                   have x8_2 := x8.cell (i := 2) rfl
                   have x9_0 := x9.cell (i := 0) rfl
                   have x9_1 := x9.cell (i := 1) rfl
                   have x9_2 := x9.cell (i := 2) rfl
                   have x10_0 := x10.cell (i := 0) rfl
                   have x10_1 := x10.cell (i := 1) rfl
                   have x10_2 := x10.cell (i := 2) rfl
                   have x11_0 := x11.cell (i := 0) rfl
                   have x11_1 := x11.cell (i := 1) rfl
                   have x11_2 := x11.cell (i := 2) rfl
                   have x12_0 := x12.cell (i := 0) rfl
                   have x12_1 := x12.cell (i := 1) rfl
                   have x12_2 := x12.cell (i := 2) rfl
                   have x13_0 := x13.cell (i := 0) rfl
                   have x13_1 := x13.cell (i := 1) rfl
                   have x13_2 := x13.cell (i := 2) rfl
                   have x14_0 := x14.cell (i := 0) rfl
                   have x14_1 := x14.cell (i := 1) rfl
                   have x14_2 := x14.cell (i := 2) rfl
                   have x15_0 := x15.cell (i := 0) rfl
                   have x15_1 := x15.cell (i := 1) rfl
                   have x15_2 := x15.cell (i := 2) rfl
                   clear u70
                   rw [DB.out]))
          try go_wp2_with fail
          try clear hHeld
          refine hK.out _ _ ?_ (fun hHeld => ?_)
          · with_reducible exact ⟨UP, x7_6, x7_7, x7_8, x7_9, x7_10, x7_11, x8_0, x8_1, x8_2, x9_0, x9_1, x9_2, x12_0, x12_1, x12_2, x13_0, x13_1, x13_2, x14_0, x14_1, x14_2, x15_0, x15_1, x15_2, x7⟩
          clear hK K
          try simp only [List.getElem_toArray, List.getElem_cons_zero, List.getElem_cons_succ, Act.put, List.setIfInBounds_toArray, List.set_cons_zero, List.set_cons_succ]
          refine wpAnyH_take (i := 16) (v := ?_) rfl (by kernel_rfl) (by kernel_rfl) (by kernel_rfl) (fun _ _ _ h => h) (Or.inl ⟨by rfl, ?_⟩) (by assumption) ?_
          rotate_left
          · (intro w hSw; (try dsimp only at hSw); go_simp; first | done | with_reducible rfl)
          try simp only [List.getElem_toArray, List.getElem_cons_zero, List.getElem_cons_succ, Act.put, List.setIfInBounds_toArray, List.set_cons_zero, List.set_cons_succ]
          refine wpAnyH_take (i := 17) (v := ?_) rfl (by kernel_rfl) (by kernel_rfl) (by kernel_rfl) (fun _ _ _ h => h) (Or.inl ⟨by rfl, ?_⟩) (by assumption) ?_
          rotate_left
          · (intro w hSw; (try dsimp only at hSw); go_simp; first | done | with_reducible rfl)
          try simp only [List.getElem_toArray, List.getElem_cons_zero, List.getElem_cons_succ, Act.put, List.setIfInBounds_toArray, List.set_cons_zero, List.set_cons_succ]
          refine wpAnyH_take (i := 18) (v := .agg #[.bool s1, .slice A1 l1.length c1, .slice D1 m1.length e1, .bool s2, .slice A2 l2.length c2, .slice D2 m2.length e2, .bool s3, .slice A3 l3.length c3, .slice D3 m3.length e3, .bool s4, .slice A4 l4.length c4, .slice D4 m4.length e4, .bool s5, .slice A5 l5.length c5, .slice D5 m5.length e5, .int .i64 fi, .int .i64 mo]) rfl (by kernel_rfl) (by kernel_rfl) (by kernel_rfl) (fun _ _ _ h => h) (Or.inl ⟨by rfl, fun w hSw => exec_load_box rfl rfl agg_rules size_rules hSw.2.2.2.2.2.2.2.2.2.2.2.2.2.2.2.2.2.2.2.2.2.2.2.2.2 rfl⟩) (by assumption) ?_
          try simp only [List.getElem_toArray, List.getElem_cons_zero, List.getElem_cons_succ, Act.put, List.setIfInBounds_toArray, List.set_cons_zero, List.set_cons_succ]
          refine wpAnyH_take (i := 19) (v := ?_) rfl (by kernel_rfl) (by kernel_rfl) (by kernel_rfl) (fun _ _ _ h => h) (Or.inl ⟨by rfl, ?_⟩) (by assumption) ?_
          rotate_left
          · (intro w hSw; (try dsimp only at hSw); go_simp; first | done | with_reducible rfl)
          try simp only [List.getElem_toArray, List.getElem_cons_zero, List.getElem_cons_succ, Act.put, List.setIfInBounds_toArray, List.set_cons_zero, List.set_cons_succ]
          refine wpAnyH_ready (rs := [20]) (by kernel_rfl) (by simp) ?_
          refine AllReadyH.cons rfl (fun K hK => ?_) AllReadyH.nil
          go_simp
          (first
                | (go_at_call 76
                   ((with_reducible refine (pace_accepts (QA.fr LA) F1 (by omega)).mono ?_))
                   rintro e W72 ⟨rfl, u72⟩
                   replace QA := QA.up u72
                   replace QB := QB.up u72
                   replace F1 := F1.up u72
                   replace F2 := F2.up u72
                   replace F3 := F3.up u72
                   replace F4 := F4.up u72
                   replace bF1 := bF1.up u72
                   replace bF2 := bF2.up u72
                   replace bF3 := bF3.up u72
                   replace f := f.up u72
                   replace fd := fd.up u72
                   replace g := g.up u72
                   replace gd := gd.up u72
                   replace cu := cu.up u72
                   replace cud := cud.up u72
                   try (replace sm := sm.up u72)
                   replace b2 := b2.up u72
                   replace x7 := x7.up u72
                   replace x8 := x8.up u72
                   replace x9 := x9.up u72
                   replace x10 := x10.up u72
                   replace x11 := x11.up u72
                   replace x12 := x12.up u72
                   replace x13 := x13.up u72
                   replace x14 := x14.up u72
                   replace x15 := x15.up u72
                   replace UP := UP.trans u72
                   clear x7_6 x7_7 x7_8 x7_9 x7_10 x7_11 x8_0 x8_1 x8_2 x9_0 x9_1 x9_2 x10_0 x10_1 x10_2 x11_0 x11_1 x11_2 x12_0 x12_1 x12_2 x13_0 x13_1 x13_2 x14_0 x14_1 x14_2 x15_0 x15_1 x15_2
                   have x7_6 := x7.cell (i := 6) rfl
                   have x7_7 := x7.cell (i := 7) rfl
                   have x7_8 := x7.cell (i := 8) rfl
                   have x7_9 := x7.cell (i := 9) rfl
                   have x7_10 := x7.cell (i := 10) rfl
                   have x7_11 := x7.cell (i := 11) rfl
                   have x8_0 := x8.cell (i := 0) rfl
                   have x8_1 := x8.cell (i := 1) rfl
                   have x8_2 := x8.cell (i := 2) rfl
                   have x9_0 := x9.cell (i := 0) rfl
                   have x9_1 := x9.cell (i := 1) rfl
                   have x9_2 := x9.cell (i := 2) rfl
                   have x10_0 := x10.cell (i := 0) rfl
                   have x10_1 := x10.cell (i := 1) rfl
                   have x10_2 := x10.cell (i := 2) rfl
                   have x11_0 := x11.cell (i := 0) rfl
                   have x11_1 := x11.cell (i := 1) rfl
                   have x11_2 := x11.cell (i := 2) rfl
                   have x12_0 := x12.cell (i := 0) rfl
                   have x12_1 := x12.cell (i := 1) rfl
                   have x12_2 := x12.cell (i := 2) rfl
                   have x13_0 := x13.cell (i := 0) rfl
                   have x13_1 := x13.cell (i := 1) rfl
                   have x13_2 := x13.cell (i := 2) rfl
                   have x14_0 := x14.cell (i := 0) rfl
                   have x14_1 := x14.cell (i := 1) rfl
                   have x14_2 := x14.cell (i := 2) rfl
                   have x15_0 := x15.cell (i := 0) rfl
                   have x15_1 := x15.cell (i := 1) rfl
                   have x15_2 := x15.cell (i := 2) rfl
                   clear u72
                   rw [DA.out]))
          try go_wp2_with fail
          try clear hHeld
          refine hK.out _ _ ?_ (fun hHeld => ?_)
          · with_reducible exact ⟨UP, x7_6, x7_7, x7_8, x7_9, x7_10, x7_11, x8_0, x8_1, x8_2, x9_0, x9_1, x9_2, x12_0, x12_1, x12_2, x13_0, x13_1, x13_2, x14_0, x14_1, x14_2, x15_0, x15_1, x15_2, x7⟩
          clear hK K
          try simp only [List.getElem_toArray, List.getElem_cons_zero, List.getElem_cons_succ, Act.put, List.setIfInBounds_toArray, List.set_cons_zero, List.set_cons_succ]
          refine wpAnyH_take (i := 21) (v := ?_) rfl (by kernel_rfl) (by kernel_rfl) (by kernel_rfl) (fun _ _ _ h => h) (Or.inl ⟨by rfl, ?_⟩) (by assumption) ?_
          rotate_left
          · (intro w hSw; (try dsimp only at hSw); go_simp; first | done | with_reducible rfl)
          try simp only [List.getElem_toArray, List.getElem_cons_zero, List.getElem_cons_succ, Act.put, List.setIfInBounds_toArray, List.set_cons_zero, List.set_cons_succ]
          refine wpAnyH_take (i := 22) (v := ?_) rfl (by kernel_rfl) (by kernel_rfl) (by kernel_rfl) (fun _ _ _ h => h) (Or.inl ⟨by rfl, ?_⟩) (by assumption) ?_
          rotate_left
          · (intro w hSw; (try dsimp only at hSw); go_simp; first | done | with_reducible rfl)
          try simp only [List.getElem_toArray, List.getElem_cons_zero, List.getElem_cons_succ, Act.put, List.setIfInBounds_toArray, List.set_cons_zero, List.set_cons_succ]
          refine wpAnyH_take (i := 23) (v := ?_) rfl (by kernel_rfl) (by kernel_rfl) (by kernel_rfl) (fun _ _ _ h => h) (Or.inl ⟨by rfl, ?_⟩) (by assumption) ?_
          rotate_left
          · (intro w hSw; (try dsimp only at hSw); go_simp; first | done | with_reducible rfl)
          try simp only [List.getElem_toArray, List.getElem_cons_zero, List.getElem_cons_succ, Act.put, List.setIfInBounds_toArray, List.set_cons_zero, List.set_cons_succ]
          refine wpAnyH_ready (rs := [24]) (by kernel_rfl) (by simp) ?_
          refine AllReadyH.cons rfl (fun K hK => ?_) AllReadyH.nil
          go_simp
          (first
                | (go_at_call 70
                   ((with_reducible refine (works36 _).mono ?_))
                   rintro e W71 ⟨rfl, u71⟩
                   replace QA := QA.up u71
                   replace QB := QB.up u71
                   replace F1 := F1.up u71
                   replace F2 := F2.up u71
                   replace F3 := F3.up u71
                   replace F4 := F4.up u71
                   replace bF1 := bF1.up u71
                   replace bF2 := bF2.up u71
                   replace bF3 := bF3.up u71
                   replace f := f.up u71
                   replace fd := fd.up u71
                   replace g := g.up u71
                   replace gd := gd.up u71
                   replace cu := cu.up u71
                   replace cud := cud.up u71
                   try (replace sm := sm.up u71)
                   replace b2 := b2.up u71
                   replace x7 := x7.up u71
                   replace x8 := x8.up u71
                   replace x9 := x9.up u71
                   replace x10 := x10.up u71
                   replace x11 := x11.up u71
                   replace x12 := x12.up u71
                   replace x13 := x13.up u71
                   replace x14 := x14.up u71
                   replace x15 := x15.up u71
                   replace UP := UP.trans u71
                   clear x7_6 x7_7 x7_8 x7_9 x7_10 x7_11 x8_0 x8_1 x8_2 x9_0 x9_1 x9_2 x10_0 x10_1 x10_2 x11_0 x11_1 x11_2 x12_0 x12_1 x12_2 x13_0 x13_1 x13_2 x14_0 x14_1 x14_2 x15_0 x15_1 x15_2
                   have x7_6 := x7.cell (i := 6) rfl
                   have x7_7 := x7.cell (i := 7) rfl
                   have x7_8 := x7.cell (i := 8) rfl
                   have x7_9 := x7.cell (i := 9) rfl
                   have x7_10 := x7.cell (i := 10) rfl
                   have x7_11 := x7.cell (i := 11) rfl
                   have x8_0 := x8.cell (i := 0) rfl
                   have x8_1 := x8.cell (i := 1) rfl
                   have x8_2 := x8.cell (i := 2) rfl
                   have x9_0 := x9.cell (i := 0) rfl
                   have x9_1 := x9.cell (i := 1) rfl
                   have x9_2 := x9.cell (i := 2) rfl
                   have x10_0 := x10.cell (i := 0) rfl
                   have x10_1 := x10.cell (i := 1) rfl
                   have x10_2 := x10.cell (i := 2) rfl
                   have x11_0 := x11.cell (i := 0) rfl
                   have x11_1 := x11.cell (i := 1) rfl
                   have x11_2 := x11.cell (i := 2) rfl
                   have x12_0 := x12.cell (i := 0) rfl
                   have x12_1 := x12.cell (i := 1) rfl
                   have x12_2 := x12.cell (i := 2) rfl
                   have x13_0 := x13.cell (i := 0) rfl
                   have x13_1 := x13.cell (i := 1) rfl
                   have x13_2 := x13.cell (i := 2) rfl
                   have x14_0 := x14.cell (i := 0) rfl
                   have x14_1 := x14.cell (i := 1) rfl
                   have x14_2 := x14.cell (i := 2) rfl
                   have x15_0 := x15.cell (i := 0) rfl
                   have x15_1 := x15.cell (i := 1) rfl
                   have x15_2 := x15.cell (i := 2) rfl
                   clear u71))
          try go_wp2_with fail
          try clear hHeld
          refine hK.out _ _ ?_ (fun hHeld => ?_)
          · with_reducible exact ⟨UP, x7_6, x7_7, x7_8, x7_9, x7_10, x7_11, x8_0, x8_1, x8_2, x9_0, x9_1, x9_2, x12_0, x12_1, x12_2, x13_0, x13_1, x13_2, x14_0, x14_1, x14_2, x15_0, x15_1, x15_2, x7⟩
          clear hK K
          try simp only [List.getElem_toArray, List.getElem_cons_zero, List.getElem_cons_succ, Act.put, List.setIfInBounds_toArray, List.set_cons_zero, List.set_cons_succ]
          refine wpAnyH_take (i := 25) (v := ?_) rfl (by kernel_rfl) (by kernel_rfl) (by kernel_rfl) (fun _ _ _ h => h) (Or.inl ⟨by rfl, ?_⟩) (by assumption) ?_
          rotate_left
          · (intro w hSw; (try dsimp only at hSw); go_simp; first | done | with_reducible rfl)
          try simp only [List.getElem_toArray, List.getElem_cons_zero, List.getElem_cons_succ, Act.put, List.setIfInBounds_toArray, List.set_cons_zero, List.set_cons_succ]
          refine wpAnyH_ready (rs := [26]) (by kernel_rfl) (by simp) ?_
          refine AllReadyH.cons rfl (fun K hK => ?_) AllReadyH.nil
          go_simp
          skip
          try go_wp2_with fail
          try clear hHeld
          refine hK.out _ _ ?_ (fun hHeld => ?_)
          · with_reducible exact ⟨UP, x7_6, x7_7, x7_8, x7_9, x7_10, x7_11, x8_0, x8_1, x8_2, x9_0, x9_1, x9_2, x12_0, x12_1, x12_2, x13_0, x13_1, x13_2, x14_0, x14_1, x14_2, x15_0, x15_1, x15_2, x7⟩
          clear hK K
          try simp only [List.getElem_toArray, List.getElem_cons_zero, List.getElem_cons_succ, Act.put, List.setIfInBounds_toArray, List.set_cons_zero, List.set_cons_succ]
          refine wpAnyH_done (by kernel_rfl) ?_ _
          refine NoPanic.normal ?_
          clear hHeld
          go_wp2_with (with_reducible show wpList _ _ _ _ _ _; refine wl_load_box (o := ⟨_, Op.load 105 _, _, _, _, _⟩) rfl _ rfl rfl agg_rules size_rules (by first | exact x7 | exact x7.up ((Up.refl _).alloc _)) rfl ?_)
          go_ret
          exact ⟨rfl, UP⟩
        · skip
          have DB : Hid (decide (B ≤ tol) = false) := Lib.hid (decide_eq_false hb)
          clear hb
          go_wp2_with (with_reducible show wpList _ _ _ _ _ _; refine wl_load_box (o := ⟨_, Op.load 105 _, _, _, _, _⟩) rfl _ rfl rfl agg_rules size_rules (by first | exact x7 | exact x7.up ((Up.refl _).alloc _)) rfl ?_)
          have k5 : decide (z5 ≤ 0) = true := decide_eq_true (by have := K5.out; omega)
          have k6 : decide (z6 ≤ 0) = true := decide_eq_true (by have := K6.out; omega)
          have x15_0 := x15.cell (i := 0) rfl
          have x15_1 := x15.cell (i := 1) rfl
          have x15_2 := x15.cell (i := 2) rfl
          have x14_0 := x14.cell (i := 0) rfl
          have x14_1 := x14.cell (i := 1) rfl
          have x14_2 := x14.cell (i := 2) rfl
          have x12_0 := x12.cell (i := 0) rfl
          have x12_1 := x12.cell (i := 1) rfl
          have x12_2 := x12.cell (i := 2) rfl
          have x13_0 := x13.cell (i := 0) rfl
          have x13_1 := x13.cell (i := 1) rfl
          have x13_2 := x13.cell (i := 2) rfl
          have x9_0 := x9.cell (i := 0) rfl
          have x9_1 := x9.cell (i := 1) rfl
          have x9_2 := x9.cell (i := 2) rfl
          skip
          replace QA := QA.up (Up.refl W66).drew
          replace QB := QB.up (Up.refl W66).drew
          replace F1 := F1.up (Up.refl W66).drew
          replace F2 := F2.up (Up.refl W66).drew
          replace F3 := F3.up (Up.refl W66).drew
          replace F4 := F4.up (Up.refl W66).drew
          replace bF1 := bF1.up (Up.refl W66).drew
          replace bF2 := bF2.up (Up.refl W66).drew
          replace bF3 := bF3.up (Up.refl W66).drew
          replace f := f.up (Up.refl W66).drew
          replace fd := fd.up (Up.refl W66).drew
          replace g := g.up (Up.refl W66).drew
          replace gd := gd.up (Up.refl W66).drew
          replace cu := cu.up (Up.refl W66).drew
          replace cud := cud.up (Up.refl W66).drew
          replace b2 := b2.up (Up.refl W66).drew
          replace x7 := x7.up (Up.refl W66).drew
          replace x8 := x8.up (Up.refl W66).drew
          replace x9 := x9.up (Up.refl W66).drew
          replace x10 := x10.up (Up.refl W66).drew
          replace x11 := x11.up (Up.refl W66).drew
          replace x12 := x12.up (Up.refl W66).drew
          replace x13 := x13.up (Up.refl W66).drew
          replace x14 := x14.up (Up.refl W66).drew
          replace x15 := x15.up (Up.refl W66).drew
          replace UP := UP.trans (Up.refl W66).drew
          clear x7_6 x7_7 x7_8 x7_9 x7_10 x7_11 x8_0 x8_1 x8_2 x9_0 x9_1 x9_2 x10_0 x10_1 x10_2 x11_0 x11_1 x11_2 x12_0 x12_1 x12_2 x13_0 x13_1 x13_2 x14_0 x14_1 x14_2 x15_0 x15_1 x15_2
          have x7_6 := x7.cell (i := 6) rfl
          have x7_7 := x7.cell (i := 7) rfl
          have x7_8 := x7.cell (i := 8) rfl
          have x7_9 := x7.cell (i := 9) rfl
          have x7_10 := x7.cell (i := 10) rfl
          have x7_11 := x7.cell (i := 11) rfl
          have x8_0 := x8.cell (i := 0) rfl
          have x8_1 := x8.cell (i := 1) rfl
          have x8_2 := x8.cell (i := 2) rfl
          have x9_0 := x9.cell (i := 0) rfl
          have x9_1 := x9.cell (i := 1) rfl
          have x9_2 := x9.cell (i := 2) rfl
          have x10_0 := x10.cell (i := 0) rfl
          have x10_1 := x10.cell (i := 1) rfl
          have x10_2 := x10.cell (i := 2) rfl
          have x11_0 := x11.cell (i := 0) rfl
          have x11_1 := x11.cell (i := 1) rfl
          have x11_2 := x11.cell (i := 2) rfl
          have x12_0 := x12.cell (i := 0) rfl
          have x12_1 := x12.cell (i := 1) rfl
          have x12_2 := x12.cell (i := 2) rfl
          have x13_0 := x13.cell (i := 0) rfl
          have x13_1 := x13.cell (i := 1) rfl
          have x13_2 := x13.cell (i := 2) rfl
          have x14_0 := x14.cell (i := 0) rfl
          have x14_1 := x14.cell (i := 1) rfl
          have x14_2 := x14.cell (i := 2) rfl
          have x15_0 := x15.cell (i := 0) rfl
          have x15_1 := x15.cell (i := 1) rfl
          have x15_2 := x15.cell (i := 2) rfl
          skip
          refine wp_region_noPanic ?_
          refine wp_region_held_drew (S := fun w' => Up w w' ∧ w'.cell? ⟨W7.heap.size, 6, none⟩ = some (.bool s3) ∧ w'.cell? ⟨W7.heap.size, 7, none⟩ = some (.slice A3 l3.length c3) ∧ w'.cell? ⟨W7.heap.size, 8, none⟩ = some (.slice D3 m3.length e3) ∧ w'.cell? ⟨W7.heap.size, 9, none⟩ = some (.bool s4) ∧ w'.cell? ⟨W7.heap.size, 10, none⟩ = some (.slice A4 l4.length c4) ∧ w'.cell? ⟨W7.heap.size, 11, none⟩ = some (.slice D4 m4.length e4) ∧ w'.cell? ⟨W11.heap.size, 0, none⟩ = some (.bool (Wd.ngb A.num)) ∧ w'.cell? ⟨W11.heap.size, 1, none⟩ = some (.slice Ap np cp) ∧ w'.cell? ⟨W11.heap.size, 2, none⟩ = some (.slice Apd npd cpd) ∧ w'.cell? ⟨g9, 0, none⟩ = some (.bool (Wd.ngb B.num)) ∧ w'.cell? ⟨g9, 1, none⟩ = some (.slice A9 n9 k9) ∧ w'.cell? ⟨g9, 2, none⟩ = some (.slice D9 r9 d9) ∧ w'.cell? ⟨W55.heap.size, 0, none⟩ = some (.bool bs1) ∧ w'.cell? ⟨W55.heap.size, 1, none⟩ = some (.slice bA1 bl1.length bc1) ∧ w'.cell? ⟨W55.heap.size, 2, none⟩ = some (.slice bD1 bm1.length be1) ∧ w'.cell? ⟨W57.heap.size, 0, none⟩ = some (.bool bs2) ∧ w'.cell? ⟨W57.heap.size, 1, none⟩ = some (.slice bA2 bl2.length bc2) ∧ w'.cell? ⟨W57.heap.size, 2, none⟩ = some (.slice bD2 bm2.length be2) ∧ w'.cell? ⟨W59.heap.size, 0, none⟩ = some (.bool bs3) ∧ w'.cell? ⟨W59.heap.size, 1, none⟩ = some (.slice bA3 bl3.length bc3) ∧ w'.cell? ⟨W59.heap.size, 2, none⟩ = some (.slice bD3 bm3.length be3) ∧ w'.cell? ⟨W61.heap.size, 0, none⟩ = some (.bool (Wd.ngb CU.num)) ∧ w'.cell? ⟨W61.heap.size, 1, none⟩ = some (.slice Acu ncu ccu) ∧ w'.cell? ⟨W61.heap.size, 2, none⟩ = some (.slice Acud ncud ccud) ∧ Bx 105 w' (W7.heap.size) [.bool s1, .slice A1 l1.length c1, .slice D1 m1.length e1, .bool s2, .slice A2 l2.length c2, .slice D2 m2.length e2, .bool s3, .slice A3 l3.length c3, .slice D3 m3.length e3, .bool s4, .slice A4 l4.length c4, .slice D4 m4.length e4, .bool s5, .slice A5 l5.length c5, .slice D5 m5.length e5, .int .i64 fi, .int .i64 mo]) (by kernel_rfl) ?_ (fun hHeld => ?_)
          · with_reducible exact ⟨UP, x7_6, x7_7, x7_8, x7_9, x7_10, x7_11, x8_0, x8_1, x8_2, x9_0, x9_1, x9_2, x12_0, x12_1, x12_2, x13_0, x13_1, x13_2, x14_0, x14_1, x14_2, x15_0, x15_1, x15_2, x7⟩
          refine wpAnyH_take (i := 0) (v := ?_) rfl (by kernel_rfl) (by kernel_rfl) (by kernel_rfl) (fun _ _ _ h => h) (Or.inl ⟨by rfl, ?_⟩) (by assumption) ?_
          rotate_left
          · (intro w hSw; (try dsimp only at hSw); go_simp; first | done | with_reducible rfl)
          try simp only [List.getElem_toArray, List.getElem_cons_zero, List.getElem_cons_succ, Act.put, List.setIfInBounds_toArray, List.set_cons_zero, List.set_cons_succ]
          refine wpAnyH_take (i := 1) (v := ?_) rfl (by kernel_rfl) (by kernel_rfl) (by kernel_rfl) (fun _ _ _ h => h) (Or.inl ⟨by rfl, ?_⟩) (by assumption) ?_
          rotate_left
          · (intro w hSw; (try dsimp only at hSw); go_simp; first | done | with_reducible rfl)
          try simp only [List.getElem_toArray, List.getElem_cons_zero, List.getElem_cons_succ, Act.put, List.setIfInBounds_toArray, List.set_cons_zero, List.set_cons_succ]
          refine wpAnyH_ready (rs := [2]) (by kernel_rfl) (by simp) ?_
          refine AllReadyH.cons rfl (fun K hK => ?_) AllReadyH.nil
          go_simp
          (first
                | (go_at_call 62
                   ((with_reducible refine (frac_cmp ((qw_of2 cu cud).fr LCU) bF3 (by omega) (by omega)).mono ?_))
                   rintro e W67 ⟨rfl, u67⟩
                   replace QA := QA.up u67
                   replace QB := QB.up u67
                   replace F1 := F1.up u67
                   replace F2 := F2.up u67
                   replace F3 := F3.up u67
                   replace F4 := F4.up u67
                   replace bF1 := bF1.up u67
                   replace bF2 := bF2.up u67
                   replace bF3 := bF3.up u67
                   replace f := f.up u67
                   replace fd := fd.up u67
                   replace g := g.up u67
                   replace gd := gd.up u67
                   replace cu := cu.up u67
                   replace cud := cud.up u67
                   try (replace sm := sm.up u67)
                   replace b2 := b2.up u67
                   replace x7 := x7.up u67
                   replace x8 := x8.up u67
                   replace x9 := x9.up u67
                   replace x10 := x10.up u67
                   replace x11 := x11.up u67
                   replace x12 := x12.up u67
                   replace x13 := x13.up u67
                   replace x14 := x14.up u67
                   replace x15 := x15.up u67
                   replace UP := UP.trans u67
                   clear x7_6 x7_7 x7_8 x7_9 x7_10 x7_11 x8_0 x8_1 x8_2 x9_0 x9_1 x9_2 x10_0 x10_1 x10_2 x11_0 x11_1 x11_2 x12_0 x12_1 x12_2 x13_0 x13_1 x13_2 x14_0 x14_1 x14_2 x15_0 x15_1 x15_2
                   have x7_6 := x7.cell (i := 6) rfl
                   have x7_7 := x7.cell (i := 7) rfl
                   have x7_8 := x7.cell (i := 8) rfl
                   have x7_9 := x7.cell (i := 9) rfl
                   have x7_10 := x7.cell (i := 10) rfl
                   have x7_11 := x7.cell (i := 11) rfl
                   have x8_0 := x8.cell (i := 0) rfl
                   have x8_1 := x8.cell (i := 1) rfl
                   have x8_2 := x8.cell (i := 2) rfl
                   have x9_0 := x9.cell (i := 0) rfl
                   have x9_1 := x9.cell (i := 1) rfl
                   have x9_2 := x9.cell (i := 2) rfl
                   have x10_0 := x10.cell (i := 0) rfl
                   have x10_1 := x10.cell (i := 1) rfl
                   have x10_2 := x10.cell (i := 2) rfl
                   have x11_0 := x11.cell (i := 0) rfl
                   have x11_1 := x11.cell (i := 1) rfl
                   have x11_2 := x11.cell (i := 2) rfl
                   have x12_0 := x12.cell (i := 0) rfl
                   have x12_1 := x12.cell (i := 1) rfl
                   have x12_2 := x12.cell (i := 2) rfl
                   have x13_0 := x13.cell (i := 0) rfl
                   have x13_1 := x13.cell (i := 1) rfl
                   have x13_2 := x13.cell (i := 2) rfl
                   have x14_0 := x14.cell (i := 0) rfl
                   have x14_1 := x14.cell (i := 1) rfl
                   have x14_2 := x14.cell (i := 2) rfl
                   have x15_0 := x15.cell (i := 0) rfl
                   have x15_1 := x15.cell (i := 1) rfl
                   have x15_2 := x15.cell (i := 2) rfl
                   clear u67
                   rw [HZ5.out]))
          try go_wp2_with fail
          try clear hHeld
          refine hK.out _ _ ?_ (fun hHeld => ?_)
          · with_reducible exact ⟨UP, x7_6, x7_7, x7_8, x7_9, x7_10, x7_11, x8_0, x8_1, x8_2, x9_0, x9_1, x9_2, x12_0, x12_1, x12_2, x13_0, x13_1, x13_2, x14_0, x14_1, x14_2, x15_0, x15_1, x15_2, x7⟩
          clear hK K
          try simp only [List.getElem_toArray, List.getElem_cons_zero, List.getElem_cons_succ, Act.put, List.setIfInBounds_toArray, List.set_cons_zero, List.set_cons_succ]
          refine wpAnyH_take (i := 3) (v := ?_) rfl (by kernel_rfl) (by kernel_rfl) (by kernel_rfl) (fun _ _ _ h => h) (Or.inl ⟨by rfl, ?_⟩) (by assumption) ?_
          rotate_left
          · (intro w hSw; (try dsimp only at hSw); go_simp; first | done | with_reducible rfl)
          try simp only [List.getElem_toArray, List.getElem_cons_zero, List.getElem_cons_succ, Act.put, List.setIfInBounds_toArray, List.set_cons_zero, List.set_cons_succ]
          refine wpAnyH_take (i := 4) (v := ?_) rfl (by kernel_rfl) (by kernel_rfl) (by kernel_rfl) (fun _ _ _ h => h) (Or.inl ⟨by rfl, ?_⟩) (by assumption) ?_
          rotate_left
          · (intro w hSw; (try dsimp only at hSw); go_simp; first | done | with_reducible rfl)
          try simp only [List.getElem_toArray, List.getElem_cons_zero, List.getElem_cons_succ, Act.put, List.setIfInBounds_toArray, List.set_cons_zero, List.set_cons_succ]
          refine wpAnyH_take (i := 5) (v := ?_) rfl (by kernel_rfl) (by kernel_rfl) (by kernel_rfl) (fun _ _ _ h => h) (Or.inl ⟨by rfl, ?_⟩) (by assumption) ?_
          rotate_left
          · (intro w hSw; (try dsimp only at hSw); go_simp; first | done | with_reducible rfl)
          try simp only [List.getElem_toArray, List.getElem_cons_zero, List.getElem_cons_succ, Act.put, List.setIfInBounds_toArray, List.set_cons_zero, List.set_cons_succ]
          refine wpAnyH_take (i := 6) (v := ?_) rfl (by kernel_rfl) (by kernel_rfl) (by kernel_rfl) (fun _ _ _ h => h) (Or.inl ⟨by rfl, ?_⟩) (by assumption) ?_
          rotate_left
          · (intro w hSw; (try dsimp only at hSw); go_simp; first | done | with_reducible rfl)
          try simp only [List.getElem_toArray, List.getElem_cons_zero, List.getElem_cons_succ, Act.put, List.setIfInBounds_toArray, List.set_cons_zero, List.set_cons_succ]
          refine wpAnyH_take (i := 8) (v := ?_) rfl (by kernel_rfl) (by kernel_rfl) (by kernel_rfl) (fun _ _ _ h => h) (Or.inl ⟨by rfl, ?_⟩) (by assumption) ?_
          rotate_left
          · (intro w hSw; (try dsimp only at hSw); go_simp; first | done | with_reducible rfl)
          try simp only [List.getElem_toArray, List.getElem_cons_zero, List.getElem_cons_succ, Act.put, List.setIfInBounds_toArray, List.set_cons_zero, List.set_cons_succ]
          refine wpAnyH_ready (rs := [7]) (by kernel_rfl) (by simp) ?_
          refine AllReadyH.cons rfl (fun K hK => ?_) AllReadyH.nil
          go_simp
          (first
                | (go_at_call 47
                   ((with_reducible refine (frac_add bF1 ((qw_of2 cu cud).fr LCU) (by omega) (by omega)).mono ?_))
                   rintro e W68 ⟨V68, rfl, sm, u68⟩
                   replace QA := QA.up u68
                   replace QB := QB.up u68
                   replace F1 := F1.up u68
                   replace F2 := F2.up u68
                   replace F3 := F3.up u68
                   replace F4 := F4.up u68
                   replace bF1 := bF1.up u68
                   replace bF2 := bF2.up u68
                   replace bF3 := bF3.up u68
                   replace f := f.up u68
                   replace fd := fd.up u68
                   replace g := g.up u68
                   replace gd := gd.up u68
                   replace cu := cu.up u68
                   replace cud := cud.up u68
                   try (replace sm := sm.up u68)
                   replace b2 := b2.up u68
                   replace x7 := x7.up u68
                   replace x8 := x8.up u68
                   replace x9 := x9.up u68
                   replace x10 := x10.up u68
                   replace x11 := x11.up u68
                   replace x12 := x12.up u68
                   replace x13 := x13.up u68
                   replace x14 := x14.up u68
                   replace x15 := x15.up u68
                   replace UP := UP.trans u68
                   clear x7_6 x7_7 x7_8 x7_9 x7_10 x7_11 x8_0 x8_1 x8_2 x9_0 x9_1 x9_2 x10_0 x10_1 x10_2 x11_0 x11_1 x11_2 x12_0 x12_1 x12_2 x13_0 x13_1 x13_2 x14_0 x14_1 x14_2 x15_0 x15_1 x15_2
                   have x7_6 := x7.cell (i := 6) rfl
                   have x7_7 := x7.cell (i := 7) rfl
                   have x7_8 := x7.cell (i := 8) rfl
                   have x7_9 := x7.cell (i := 9) rfl
                   have x7_10 := x7.cell (i := 10) rfl
                   have x7_11 := x7.cell (i := 11) rfl
                   have x8_0 := x8.cell (i := 0) rfl
                   have x8_1 := x8.cell (i := 1) rfl
                   have x8_2 := x8.cell (i := 2) rfl
                   have x9_0 := x9.cell (i := 0) rfl
                   have x9_1 := x9.cell (i := 1) rfl
                   have x9_2 := x9.cell (i := 2) rfl
                   have x10_0 := x10.cell (i := 0) rfl
                   have x10_1 := x10.cell (i := 1) rfl
                   have x10_2 := x10.cell (i := 2) rfl
                   have x11_0 := x11.cell (i := 0) rfl
                   have x11_1 := x11.cell (i := 1) rfl
                   have x11_2 := x11.cell (i := 2) rfl
                   have x12_0 := x12.cell (i := 0) rfl
                   have x12_1 := x12.cell (i := 1) rfl
                   have x12_2 := x12.cell (i := 2) rfl
                   have x13_0 := x13.cell (i := 0) rfl
                   have x13_1 := x13.cell (i := 1) rfl
                   have x13_2 := x13.cell (i := 2) rfl
                   have x14_0 := x14.cell (i := 0) rfl
                   have x14_1 := x14.cell (i := 1) rfl
                   have x14_2 := x14.cell (i := 2) rfl
                   have x15_0 := x15.cell (i := 0) rfl
                   have x15_1 := x15.cell (i := 1) rfl
                   have x15_2 := x15.cell (i := 2) rfl
                   clear u68
                   rw [HSU.out] at sm))
          try go_wp2_with fail
          try clear hHeld
          refine hK.out _ _ ?_ (fun hHeld => ?_)
          · with_reducible exact ⟨UP, x7_6, x7_7, x7_8, x7_9, x7_10, x7_11, x8_0, x8_1, x8_2, x9_0, x9_1, x9_2, x12_0, x12_1, x12_2, x13_0, x13_1, x13_2, x14_0, x14_1, x14_2, x15_0, x15_1, x15_2, x7⟩
          clear hK K
          try simp only [List.getElem_toArray, List.getElem_cons_zero, List.getElem_cons_succ, Act.put, List.setIfInBounds_toArray, List.set_cons_zero, List.set_cons_succ]
          refine wpAnyH_ready (rs := [9]) (by kernel_rfl) (by simp) ?_
          refine AllReadyH.cons rfl (fun K hK => ?_) AllReadyH.nil
          go_simp
          (first
                | (go_at_call 62
                   ((with_reducible refine (frac_cmp (sm.fr LSU) bF2 (by omega) (by omega)).mono ?_))
                   rintro e W69 ⟨rfl, u69⟩
                   replace QA := QA.up u69
                   replace QB := QB.up u69
                   replace F1 := F1.up u69
                   replace F2 := F2.up u69
                   replace F3 := F3.up u69
                   replace F4 := F4.up u69
                   replace bF1 := bF1.up u69
                   replace bF2 := bF2.up u69
                   replace bF3 := bF3.up u69
                   replace f := f.up u69
                   replace fd := fd.up u69
                   replace g := g.up u69
                   replace gd := gd.up u69
                   replace cu := cu.up u69
                   replace cud := cud.up u69
                   try (replace sm := sm.up u69)
                   replace b2 := b2.up u69
                   replace x7 := x7.up u69
                   replace x8 := x8.up u69
                   replace x9 := x9.up u69
                   replace x10 := x10.up u69
                   replace x11 := x11.up u69
                   replace x12 := x12.up u69
                   replace x13 := x13.up u69
                   replace x14 := x14.up u69
                   replace x15 := x15.up u69
                   replace UP := UP.trans u69
                   clear x7_6 x7_7 x7_8 x7_9 x7_10 x7_11 x8_0 x8_1 x8_2 x9_0 x9_1 x9_2 x10_0 x10_1 x10_2 x11_0 x11_1 x11_2 x12_0 x12_1 x12_2 x13_0 x13_1 x13_2 x14_0 x14_1 x14_2 x15_0 x15_1 x15_2
                   have x7_6 := x7.cell (i := 6) rfl
                   have x7_7 := x7.cell (i := 7) rfl
                   have x7_8 := x7.cell (i := 8) rfl
                   have x7_9 := x7.cell (i := 9) rfl
                   have x7_10 := x7.cell (i := 10) rfl
                   have x7_11 := x7.cell (i := 11) rfl
                   have x8_0 := x8.cell (i := 0) rfl
                   have x8_1 := x8.cell (i := 1) rfl
                   have x8_2 := x8.cell (i := 2) rfl
                   have x9_0 := x9.cell (i := 0) rfl
                   have x9_1 := x9.cell (i := 1) rfl
                   have x9_2 := x9.cell (i := 2) rfl
                   have x10_0 := x10.cell (i := 0) rfl
                   have x10_1 := x10.cell (i := 1) rfl
                   have x10_2 := x10.cell (i := 2) rfl
                   have x11_0 := x11.cell (i := 0) rfl
                   have x11_1 := x11.cell (i := 1) rfl
                   have x11_2 := x11.cell (i := 2) rfl
                   have x12_0 := x12.cell (i := 0) rfl
                   have x12_1 := x12.cell (i := 1) rfl
                   have x12_2 := x12.cell (i := 2) rfl
                   have x13_0 := x13.cell (i := 0) rfl
                   have x13_1 := x13.cell (i := 1) rfl
                   have x13_2 := x13.cell (i := 2) rfl
                   have x14_0 := x14.cell (i := 0) rfl
                   have x14_1 := x14.cell (i := 1) rfl
                   have x14_2 := x14.cell (i := 2) rfl
                   have x15_0 := x15.cell (i := 0) rfl
                   have x15_1 := x15.cell (i := 1) rfl
                   have x15_2 := x15.cell (i := 2) rfl
                   clear u69
                   rw [HZ6.out]))
          try go_wp2_with fail
          try clear hHeld
          refine hK.out _ _ ?_ (fun hHeld => ?_)
          · with_reducible exact ⟨UP, x7_6, x7_7, x7_8, x7_9, x7_10, x7_11, x8_0, x8_1, x8_2, x9_0, x9_1, x9_2, x12_0, x12_1, x12_2, x13_0, x13_1, x13_2, x14_0, x14_1, x14_2, x15_0, x15_1, x15_2, x7⟩
          clear hK K
          try simp only [List.getElem_toArray, List.getElem_cons_zero, List.getElem_cons_succ, Act.put, List.setIfInBounds_toArray, List.set_cons_zero, List.set_cons_succ]
          refine wpAnyH_take (i := 10) (v := ?_) rfl (by kernel_rfl) (by kernel_rfl) (by kernel_rfl) (fun _ _ _ h => h) (Or.inl ⟨by rfl, ?_⟩) (by assumption) ?_
          rotate_left
          · (intro w hSw; (try dsimp only at hSw); go_simp; first | done | with_reducible rfl)
          try simp only [List.getElem_toArray, List.getElem_cons_zero, List.getElem_cons_succ, Act.put, List.setIfInBounds_toArray, List.set_cons_zero, List.set_cons_succ]
          refine wpAnyH_take (i := 11) (v := ?_) rfl (by kernel_rfl) (by kernel_rfl) (by kernel_rfl) (fun _ _ _ h => h) (Or.inl ⟨by rfl, ?_⟩) (by assumption) ?_
          rotate_left
          · (intro w hSw; (try dsimp only at hSw); go_simp; first | done | with_reducible rfl)
          try simp only [List.getElem_toArray, List.getElem_cons_zero, List.getElem_cons_succ, Act.put, List.setIfInBounds_toArray, List.set_cons_zero, List.set_cons_succ]
          refine wpAnyH_take (i := 12) (v := ?_) rfl (by kernel_rfl) (by kernel_rfl) (by kernel_rfl) (fun _ _ _ h => h) (Or.inl ⟨by rfl, ?_⟩) (by assumption) ?_
          rotate_left
          · (intro w hSw; (try dsimp only at hSw); go_simp; first | done | with_reducible rfl)
          try simp only [List.getElem_toArray, List.getElem_cons_zero, List.getElem_cons_succ, Act.put, List.setIfInBounds_toArray, List.set_cons_zero, List.set_cons_succ]
          refine wpAnyH_take (i := 13) (v := .agg #[.bool s1, .slice A1 l1.length c1, .slice D1 m1.length e1, .bool s2, .slice A2 l2.length c2, .slice D2 m2.length e2, .bool s3, .slice A3 l3.length c3, .slice D3 m3.length e3, .bool s4, .slice A4 l4.length c4, .slice D4 m4.length e4, .bool s5, .slice A5 l5.length c5, .slice D5 m5.length e5, .int .i64 fi, .int .i64 mo]) rfl (by kernel_rfl) (by kernel_rfl) (by kernel_rfl) (fun _ _ _ h => h) (Or.inl ⟨by rfl, fun w hSw => exec_load_box rfl rfl agg_rules size_rules hSw.2.2.2.2.2.2.2.2.2.2.2.2.2.2.2.2.2.2.2.2.2.2.2.2.2 rfl⟩) (by assumption) ?_
          try simp only [List.getElem_toArray, List.getElem_cons_zero, List.getElem_cons_succ, Act.put, List.setIfInBounds_toArray, List.set_cons_zero, List.set_cons_succ]
          refine wpAnyH_take (i := 14) (v := ?_) rfl (by kernel_rfl) (by kernel_rfl) (by kernel_rfl) (fun _ _ _ h => h) (Or.inl ⟨by rfl, ?_⟩) (by assumption) ?_
          rotate_left
          · (intro w hSw; (try dsimp only at hSw); go_simp; first | done | with_reducible rfl)
          try simp only [List.getElem_toArray, List.getElem_cons_zero, List.getElem_cons_succ, Act.put, List.setIfInBounds_toArray, List.set_cons_zero, List.set_cons_succ]
          refine wpAnyH_ready (rs := [15]) (by kernel_rfl) (by simp) ?_
          refine AllReadyH.cons rfl (fun K hK => ?_) AllReadyH.nil
          go_simp
          (first
                | (go_at_call 76
                   ((with_reducible refine (pace_accepts (QB.fr LB) F1 (by omega)).mono ?_))
                   rintro e W70 ⟨rfl, u70⟩
                   replace QA := QA.up u70
                   replace QB := QB.up u70
                   replace F1 := F1.up u70
                   replace F2 := F2.up u70
                   replace F3 := F3.up u70
                   replace F4 := F4.up u70
                   replace bF1 := bF1.up u70
                   replace bF2 := bF2.up u70
                   replace bF3 := bF3.up u70
                   replace f := f.up u70
                   replace fd := fd.up u70
                   replace g := g.up u70
                   replace gd := gd.up u70
                   replace cu := cu.up u70
                   replace cud := cud.up u70
                   try (replace sm := sm.up u70)
                   replace b2 := b2.up u70
                   replace x7 := x7.up u70
                   replace x8 := x8.up u70
                   replace x9 := x9.up u70
                   replace x10 := x10.up u70
                   replace x11 := x11.up u70
                   replace x12 := x12.up u70
                   replace x13 := x13.up u70
                   replace x14 := x14.up u70
                   replace x15 := x15.up u70
                   replace UP := UP.trans u70
                   clear x7_6 x7_7 x7_8 x7_9 x7_10 x7_11 x8_0 x8_1 x8_2 x9_0 x9_1 x9_2 x10_0 x10_1 x10_2 x11_0 x11_1 x11_2 x12_0 x12_1 x12_2 x13_0 x13_1 x13_2 x14_0 x14_1 x14_2 x15_0 x15_1 x15_2
                   have x7_6 := x7.cell (i := 6) rfl
                   have x7_7 := x7.cell (i := 7) rfl
                   have x7_8 := x7.cell (i := 8) rfl
                   have x7_9 := x7.cell (i := 9) rfl
                   have x7_10 := x7.cell (i := 10) rfl
                   have x7_11 := x7.cell (i := 11) rfl
                   have x8_0 := x8.cell (i := 0) rfl
                   have x8_1 := x8.cell (i := 1) rfl
                   have x8_2 := x8.cell (i := 2) rfl
                   have x9_0 := x9.cell (i := 0) rfl
                   have x9_1 := x9.cell (i := 1) rfl
                   have x9_2 := x9.cell (i := 2) rfl
                   have x10_0 := x10.cell (i := 0) rfl
                   have x10_1 := x10.cell (i := 1) rfl
                   have x10_2 := x10.cell (i := 2) rfl
                   have x11_0 := x11.cell (i := 0) rfl
                   have x11_1 := x11.cell (i := 1) rfl
                   have x11_2 := x11.cell (i := 2) rfl
                   have x12_0 := x12.cell (i := 0) rfl
                   have x12_1 := x12.cell (i := 1) rfl
                   have x12_2 := x12.cell (i := 2) rfl
                   have x13_0 := x13.cell (i := 0) rfl
                   have x13_1 := x13.cell (i := 1) rfl
                   have x13_2 := x13.cell (i := 2) rfl
                   have x14_0 := x14.cell (i := 0) rfl
                   have x14_1 := x14.cell (i := 1) rfl
                   have x14_2 := x14.cell (i := 2) rfl
                   have x15_0 := x15.cell (i := 0) rfl
                   have x15_1 := x15.cell (i := 1) rfl
                   have x15_2 := x15.cell (i := 2) rfl
                   clear u70
                   rw [DB.out]))
          try go_wp2_with fail
          try clear hHeld
          refine hK.out _ _ ?_ (fun hHeld => ?_)
          · with_reducible exact ⟨UP, x7_6, x7_7, x7_8, x7_9, x7_10, x7_11, x8_0, x8_1, x8_2, x9_0, x9_1, x9_2, x12_0, x12_1, x12_2, x13_0, x13_1, x13_2, x14_0, x14_1, x14_2, x15_0, x15_1, x15_2, x7⟩
          clear hK K
          try simp only [List.getElem_toArray, List.getElem_cons_zero, List.getElem_cons_succ, Act.put, List.setIfInBounds_toArray, List.set_cons_zero, List.set_cons_succ]
          refine wpAnyH_take (i := 16) (v := ?_) rfl (by kernel_rfl) (by kernel_rfl) (by kernel_rfl) (fun _ _ _ h => h) (Or.inl ⟨by rfl, ?_⟩) (by assumption) ?_
          rotate_left
          · (intro w hSw; (try dsimp only at hSw); go_simp; first | done | with_reducible rfl)
          try simp only [List.getElem_toArray, List.getElem_cons_zero, List.getElem_cons_succ, Act.put, List.setIfInBounds_toArray, List.set_cons_zero, List.set_cons_succ]
          refine wpAnyH_take (i := 17) (v := ?_) rfl (by kernel_rfl) (by kernel_rfl) (by kernel_rfl) (fun _ _ _ h => h) (Or.inl ⟨by rfl, ?_⟩) (by assumption) ?_
          rotate_left
          · (intro w hSw; (try dsimp only at hSw); go_simp; first | done | with_reducible rfl)
          try simp only [List.getElem_toArray, List.getElem_cons_zero, List.getElem_cons_succ, Act.put, List.setIfInBounds_toArray, List.set_cons_zero, List.set_cons_succ]
          refine wpAnyH_take (i := 18) (v := undef) rfl (by kernel_rfl) (by kernel_rfl) (by kernel_rfl) (fun _ _ _ h => h) (Or.inr ⟨by rfl, rfl⟩) (by assumption) ?_
          try simp only [List.getElem_toArray, List.getElem_cons_zero, List.getElem_cons_succ, Act.put, List.setIfInBounds_toArray, List.set_cons_zero, List.set_cons_succ]
          refine wpAnyH_take (i := 19) (v := undef) rfl (by kernel_rfl) (by kernel_rfl) (by kernel_rfl) (fun _ _ _ h => h) (Or.inr ⟨by rfl, rfl⟩) (by assumption) ?_
          try simp only [List.getElem_toArray, List.getElem_cons_zero, List.getElem_cons_succ, Act.put, List.setIfInBounds_toArray, List.set_cons_zero, List.set_cons_succ]
          refine wpAnyH_take (i := 20) (v := undef) rfl (by kernel_rfl) (by kernel_rfl) (by kernel_rfl) (fun _ _ _ h => h) (Or.inr ⟨by rfl, rfl⟩) (by assumption) ?_
          try simp only [List.getElem_toArray, List.getElem_cons_zero, List.getElem_cons_succ, Act.put, List.setIfInBounds_toArray, List.set_cons_zero, List.set_cons_succ]
          refine wpAnyH_take (i := 21) (v := ?_) rfl (by kernel_rfl) (by kernel_rfl) (by kernel_rfl) (fun _ _ _ h => h) (Or.inl ⟨by rfl, ?_⟩) (by assumption) ?_
          rotate_left
          · (intro w hSw; (try dsimp only at hSw); go_simp; first | done | with_reducible rfl)
          try simp only [List.getElem_toArray, List.getElem_cons_zero, List.getElem_cons_succ, Act.put, List.setIfInBounds_toArray, List.set_cons_zero, List.set_cons_succ]
          refine wpAnyH_take (i := 22) (v := ?_) rfl (by kernel_rfl) (by kernel_rfl) (by kernel_rfl) (fun _ _ _ h => h) (Or.inl ⟨by rfl, ?_⟩) (by assumption) ?_
          rotate_left
          · (intro w hSw; (try dsimp only at hSw); go_simp; first | done | with_reducible rfl)
          try simp only [List.getElem_toArray, List.getElem_cons_zero, List.getElem_cons_succ, Act.put, List.setIfInBounds_toArray, List.set_cons_zero, List.set_cons_succ]
          refine wpAnyH_take (i := 23) (v := ?_) rfl (by kernel_rfl) (by kernel_rfl) (by kernel_rfl) (fun _ _ _ h => h) (Or.inl ⟨by rfl, ?_⟩) (by assumption) ?_
          rotate_left
          · (intro w hSw; (try dsimp only at hSw); go_simp; first | done | with_reducible rfl)
          try simp only [List.getElem_toArray, List.getElem_cons_zero, List.getElem_cons_succ, Act.put, List.setIfInBounds_toArray, List.set_cons_zero, List.set_cons_succ]
          refine wpAnyH_ready (rs := [24]) (by kernel_rfl) (by simp) ?_
          refine AllReadyH.cons rfl (fun K hK => ?_) AllReadyH.nil
          go_simp
          (first
                | (go_at_call 70
                   ((with_reducible refine (works36 _).mono ?_))
                   rintro e W71 ⟨rfl, u71⟩
                   replace QA := QA.up u71
                   replace QB := QB.up u71
                   replace F1 := F1.up u71
                   replace F2 := F2.up u71
                   replace F3 := F3.up u71
                   replace F4 := F4.up u71
                   replace bF1 := bF1.up u71
                   replace bF2 := bF2.up u71
                   replace bF3 := bF3.up u71
                   replace f := f.up u71
                   replace fd := fd.up u71
                   replace g := g.up u71
                   replace gd := gd.up u71
                   replace cu := cu.up u71
                   replace cud := cud.up u71
                   try (replace sm := sm.up u71)
                   replace b2 := b2.up u71
                   replace x7 := x7.up u71
                   replace x8 := x8.up u71
                   replace x9 := x9.up u71
                   replace x10 := x10.up u71
                   replace x11 := x11.up u71
                   replace x12 := x12.up u71
                   replace x13 := x13.up u71
                   replace x14 := x14.up u71
                   replace x15 := x15.up u71
                   replace UP := UP.trans u71
                   clear x7_6 x7_7 x7_8 x7_9 x7_10 x7_11 x8_0 x8_1 x8_2 x9_0 x9_1 x9_2 x10_0 x10_1 x10_2 x11_0 x11_1 x11_2 x12_0 x12_1 x12_2 x13_0 x13_1 x13_2 x14_0 x14_1 x14_2 x15_0 x15_1 x15_2
                   have x7_6 := x7.cell (i := 6) rfl
                   have x7_7 := x7.cell (i := 7) rfl
                   have x7_8 := x7.cell (i := 8) rfl
                   have x7_9 := x7.cell (i := 9) rfl
                   have x7_10 := x7.cell (i := 10) rfl
                   have x7_11 := x7.cell (i := 11) rfl
                   have x8_0 := x8.cell (i := 0) rfl
                   have x8_1 := x8.cell (i := 1) rfl
                   have x8_2 := x8.cell (i := 2) rfl
                   have x9_0 := x9.cell (i := 0) rfl
                   have x9_1 := x9.cell (i := 1) rfl
                   have x9_2 := x9.cell (i := 2) rfl
                   have x10_0 := x10.cell (i := 0) rfl
                   have x10_1 := x10.cell (i := 1) rfl
                   have x10_2 := x10.cell (i := 2) rfl
                   have x11_0 := x11.cell (i := 0) rfl
                   have x11_1 := x11.cell (i := 1) rfl
                   have x11_2 := x11.cell (i := 2) rfl
                   have x12_0 := x12.cell (i := 0) rfl
                   have x12_1 := x12.cell (i := 1) rfl
                   have x12_2 := x12.cell (i := 2) rfl
                   have x13_0 := x13.cell (i := 0) rfl
                   have x13_1 := x13.cell (i := 1) rfl
                   have x13_2 := x13.cell (i := 2) rfl
                   have x14_0 := x14.cell (i := 0) rfl
                   have x14_1 := x14.cell (i := 1) rfl
                   have x14_2 := x14.cell (i := 2) rfl
                   have x15_0 := x15.cell (i := 0) rfl
                   have x15_1 := x15.cell (i := 1) rfl
                   have x15_2 := x15.cell (i := 2) rfl
                   clear u71))
          try go_wp2_with fail
          try clear hHeld
          refine hK.out _ _ ?_ (fun hHeld => ?_)
          · with_reducible exact ⟨UP, x7_6, x7_7, x7_8, x7_9, x7_10, x7_11, x8_0, x8_1, x8_2, x9_0, x9_1, x9_2, x12_0, x12_1, x12_2, x13_0, x13_1, x13_2, x14_0, x14_1, x14_2, x15_0, x15_1, x15_2, x7⟩
          clear hK K
          try simp only [List.getElem_toArray, List.getElem_cons_zero, List.getElem_cons_succ, Act.put, List.setIfInBounds_toArray, List.set_cons_zero, List.set_cons_succ]
          refine wpAnyH_take (i := 25) (v := ?_) rfl (by kernel_rfl) (by kernel_rfl) (by kernel_rfl) (fun _ _ _ h => h) (Or.inl ⟨by rfl, ?_⟩) (by assumption) ?_
          rotate_left
          · (intro w hSw; (try dsimp only at hSw); go_simp; first | done | with_reducible rfl)
          try simp only [List.getElem_toArray, List.getElem_cons_zero, List.getElem_cons_succ, Act.put, List.setIfInBounds_toArray, List.set_cons_zero, List.set_cons_succ]
          refine wpAnyH_ready (rs := [26]) (by kernel_rfl) (by simp) ?_
          refine AllReadyH.cons rfl (fun K hK => ?_) AllReadyH.nil
          go_simp
          skip
          try go_wp2_with fail
          try clear hHeld
          refine hK.out _ _ ?_ (fun hHeld => ?_)
          · with_reducible exact ⟨UP, x7_6, x7_7, x7_8, x7_9, x7_10, x7_11, x8_0, x8_1, x8_2, x9_0, x9_1, x9_2, x12_0, x12_1, x12_2, x13_0, x13_1, x13_2, x14_0, x14_1, x14_2, x15_0, x15_1, x15_2, x7⟩
          clear hK K
          try simp only [List.getElem_toArray, List.getElem_cons_zero, List.getElem_cons_succ, Act.put, List.setIfInBounds_toArray, List.set_cons_zero, List.set_cons_succ]
          refine wpAnyH_done (by kernel_rfl) ?_ _
          refine NoPanic.normal ?_
          clear hHeld
          go_wp2_with (with_reducible show wpList _ _ _ _ _ _; refine wl_load_box (o := ⟨_, Op.load 105 _, _, _, _, _⟩) rfl _ rfl rfl agg_rules size_rules (by first | exact x7 | exact x7.up ((Up.refl _).alloc _)) rfl ?_)
          go_ret
          exact ⟨rfl, UP⟩
      · skip
        have k4 : decide (z4 ≥ 0) = false := decide_eq_false (by have := K4.out ha; omega)
        have DA : Hid (decide (A ≤ tol) = false) := Lib.hid (decide_eq_false ha)
        have NA := Lib.hid ha
        clear ha
        replace QA := QA.up (Up.refl W62).drew
        replace QB := QB.up (Up.refl W62).drew
        replace F1 := F1.up (Up.refl W62).drew
        replace F2 := F2.up (Up.refl W62).drew
        replace F3 := F3.up (Up.refl W62).drew
        replace F4 := F4.up (Up.refl W62).drew
        replace bF1 := bF1.up (Up.refl W62).drew
        replace bF2 := bF2.up (Up.refl W62).drew
        replace bF3 := bF3.up (Up.refl W62).drew
        replace f := f.up (Up.refl W62).drew
        replace fd := fd.up (Up.refl W62).drew
        replace g := g.up (Up.refl W62).drew
        replace gd := gd.up (Up.refl W62).drew
        replace cu := cu.up (Up.refl W62).drew
        replace cud := cud.up (Up.refl W62).drew
        replace b2 := b2.up (Up.refl W62).drew
        replace x7 := x7.up (Up.refl W62).drew
        replace x8 := x8.up (Up.refl W62).drew
        replace x9 := x9.up (Up.refl W62).drew
        replace x10 := x10.up (Up.refl W62).drew
        replace x11 := x11.up (Up.refl W62).drew
        replace x12 := x12.up (Up.refl W62).drew
        replace x13 := x13.up (Up.refl W62).drew
        replace x14 := x14.up (Up.refl W62).drew
        replace x15 := x15.up (Up.refl W62).drew
        replace UP := UP.trans (Up.refl W62).drew
        clear x7_6 x7_7 x7_8 x7_9 x7_10 x7_11 x8_0 x8_1 x8_2 x10_0 x10_1 x10_2 x11_0 x11_1 x11_2
        have x7_6 := x7.cell (i := 6) rfl
        have x7_7 := x7.cell (i := 7) rfl
        have x7_8 := x7.cell (i := 8) rfl
        have x7_9 := x7.cell (i := 9) rfl
        have x7_10 := x7.cell (i := 10) rfl
        have x7_11 := x7.cell (i := 11) rfl
        have x8_0 := x8.cell (i := 0) rfl
        have x8_1 := x8.cell (i := 1) rfl
        have x8_2 := x8.cell (i := 2) rfl
        have x10_0 := x10.cell (i := 0) rfl
        have x10_1 := x10.cell (i := 1) rfl
        have x10_2 := x10.cell (i := 2) rfl
        have x11_0 := x11.cell (i := 0) rfl
        have x11_1 := x11.cell (i := 1) rfl
        have x11_2 := x11.cell (i := 2) rfl
        refine wp_region_noPanic ?_
        refine wp_region_held_drew (S := fun w' => Up w w' ∧ w'.cell? ⟨W7.heap.size, 6, none⟩ = some (.bool s3) ∧ w'.cell? ⟨W7.heap.size, 7, none⟩ = some (.slice A3 l3.length c3) ∧ w'.cell? ⟨W7.heap.size, 8, none⟩ = some (.slice D3 m3.length e3) ∧ w'.cell? ⟨W7.heap.size, 9, none⟩ = some (.bool s4) ∧ w'.cell? ⟨W7.heap.size, 10, none⟩ = some (.slice A4 l4.length c4) ∧ w'.cell? ⟨W7.heap.size, 11, none⟩ = some (.slice D4 m4.length e4) ∧ w'.cell? ⟨W11.heap.size, 0, none⟩ = some (.bool (Wd.ngb A.num)) ∧ w'.cell? ⟨W11.heap.size, 1, none⟩ = some (.slice Ap np cp) ∧ w'.cell? ⟨W11.heap.size, 2, none⟩ = some (.slice Apd npd cpd) ∧ w'.cell? ⟨W51.heap.size, 0, none⟩ = some (.bool (Wd.ngb F.num)) ∧ w'.cell? ⟨W51.heap.size, 1, none⟩ = some (.slice Af nf cf) ∧ w'.cell? ⟨W51.heap.size, 2, none⟩ = some (.slice Afd nfd cfd) ∧ w'.cell? ⟨W53.heap.size, 0, none⟩ = some (.bool (Wd.ngb G.num)) ∧ w'.cell? ⟨W53.heap.size, 1, none⟩ = some (.slice Ag ng cg) ∧ w'.cell? ⟨W53.heap.size, 2, none⟩ = some (.slice Agd ngd cgd) ∧ Bx 105 w' (W7.heap.size) [.bool s1, .slice A1 l1.length c1, .slice D1 m1.length e1, .bool s2, .slice A2 l2.length c2, .slice D2 m2.length e2, .bool s3, .slice A3 l3.length c3, .slice D3 m3.length e3, .bool s4, .slice A4 l4.length c4, .slice D4 m4.length e4, .bool s5, .slice A5 l5.length c5, .slice D5 m5.length e5, .int .i64 fi, .int .i64 mo]) (by kernel_rfl) ?_ (fun hHeld => ?_)
        · with_reducible exact ⟨UP, x7_6, x7_7, x7_8, x7_9, x7_10, x7_11, x8_0, x8_1, x8_2, x10_0, x10_1, x10_2, x11_0, x11_1, x11_2, x7⟩
        refine wpAnyH_take (i := 0) (v := ?_) rfl (by kernel_rfl) (by kernel_rfl) (by kernel_rfl) (fun _ _ _ h => h) (Or.inl ⟨by rfl, ?_⟩) (by assumption) ?_
        rotate_left
        · (intro w hSw; (try dsimp only at hSw); go_simp; first | done | with_reducible rfl)
        try simp only [List.getElem_toArray, List.getElem_cons_zero, List.getElem_cons_succ, Act.put, List.setIfInBounds_toArray, List.set_cons_zero, List.set_cons_succ]
        refine wpAnyH_take (i := 1) (v := ?_) rfl (by kernel_rfl) (by kernel_rfl) (by kernel_rfl) (fun _ _ _ h => h) (Or.inl ⟨by rfl, ?_⟩) (by assumption) ?_
        rotate_left
        · (intro w hSw; (try dsimp only at hSw); go_simp; first | done | with_reducible rfl)
        try simp only [List.getElem_toArray, List.getElem_cons_zero, List.getElem_cons_succ, Act.put, List.setIfInBounds_toArray, List.set_cons_zero, List.set_cons_succ]
        refine wpAnyH_take (i := 2) (v := ?_) rfl (by kernel_rfl) (by kernel_rfl) (by kernel_rfl) (fun _ _ _ h => h) (Or.inl ⟨by rfl, ?_⟩) (by assumption) ?_
        rotate_left
        · (intro w hSw; (try dsimp only at hSw); go_simp; first | done | with_reducible rfl)
        try simp only [List.getElem_toArray, List.getElem_cons_zero, List.getElem_cons_succ, Act.put, List.setIfInBounds_toArray, List.set_cons_zero, List.set_cons_succ]
        refine wpAnyH_ready (rs := [3]) (by kernel_rfl) (by simp) ?_
        refine AllReadyH.cons rfl (fun K hK => ?_) AllReadyH.nil
        go_simp
        (first
              | (go_at_call 62
                 ((with_reducible refine (frac_cmp ((qw_of2 f fd).fr LF) F3 (by omega) (by omega)).mono ?_))
                 rintro e W63 ⟨rfl, u63⟩
                 replace QA := QA.up u63
                 replace QB := QB.up u63
                 replace F1 := F1.up u63
                 replace F2 := F2.up u63
                 replace F3 := F3.up u63
                 replace F4 := F4.up u63
                 replace bF1 := bF1.up u63
                 replace bF2 := bF2.up u63
                 replace bF3 := bF3.up u63
                 replace f := f.up u63
                 replace fd := fd.up u63
                 replace g := g.up u63
                 replace gd := gd.up u63
                 replace cu := cu.up u63
                 replace cud := cud.up u63
                 try (replace o := o.up u63)
                 replace b2 := b2.up u63
                 replace x7 := x7.up u63
                 replace x8 := x8.up u63
                 replace x9 := x9.up u63
                 replace x10 := x10.up u63
                 replace x11 := x11.up u63
                 replace x12 := x12.up u63
                 replace x13 := x13.up u63
                 replace x14 := x14.up u63
                 replace x15 := x15.up u63
                 replace UP := UP.trans u63
                 clear x7_6 x7_7 x7_8 x7_9 x7_10 x7_11 x8_0 x8_1 x8_2 x10_0 x10_1 x10_2 x11_0 x11_1 x11_2
                 have x7_6 := x7.cell (i := 6) rfl
                 have x7_7 := x7.cell (i := 7) rfl
                 have x7_8 := x7.cell (i := 8) rfl
                 have x7_9 := x7.cell (i := 9) rfl
                 have x7_10 := x7.cell (i := 10) rfl
                 have x7_11 := x7.cell (i := 11) rfl
                 have x8_0 := x8.cell (i := 0) rfl
                 have x8_1 := x8.cell (i := 1) rfl
                 have x8_2 := x8.cell (i := 2) rfl
                 have x10_0 := x10.cell (i := 0) rfl
                 have x10_1 := x10.cell (i := 1) rfl
                 have x10_2 := x10.cell (i := 2) rfl
                 have x11_0 := x11.cell (i := 0) rfl
                 have x11_1 := x11.cell (i := 1) rfl
                 have x11_2 := x11.cell (i := 2) rfl
                 clear u63
                 rw [HZ1.out]))
        try go_wp2_with fail
        try clear hHeld
        refine hK.out _ _ ?_ (fun hHeld => ?_)
        · with_reducible exact ⟨UP, x7_6, x7_7, x7_8, x7_9, x7_10, x7_11, x8_0, x8_1, x8_2, x10_0, x10_1, x10_2, x11_0, x11_1, x11_2, x7⟩
        clear hK K
        try simp only [List.getElem_toArray, List.getElem_cons_zero, List.getElem_cons_succ, Act.put, List.setIfInBounds_toArray, List.set_cons_zero, List.set_cons_succ]
        refine wpAnyH_take (i := 4) (v := ?_) rfl (by kernel_rfl) (by kernel_rfl) (by kernel_rfl) (fun _ _ _ h => h) (Or.inl ⟨by rfl, ?_⟩) (by assumption) ?_
        rotate_left
        · (intro w hSw; (try dsimp only at hSw); go_simp; first | done | with_reducible rfl)
        try simp only [List.getElem_toArray, List.getElem_cons_zero, List.getElem_cons_succ, Act.put, List.setIfInBounds_toArray, List.set_cons_zero, List.set_cons_succ]
        refine wpAnyH_take (i := 5) (v := ?_) rfl (by kernel_rfl) (by kernel_rfl) (by kernel_rfl) (fun _ _ _ h => h) (Or.inl ⟨by rfl, ?_⟩) (by assumption) ?_
        rotate_left
        · (intro w hSw; (try dsimp only at hSw); go_simp; first | done | with_reducible rfl)
        try simp only [List.getElem_toArray, List.getElem_cons_zero, List.getElem_cons_succ, Act.put, List.setIfInBounds_toArray, List.set_cons_zero, List.set_cons_succ]
        refine wpAnyH_take (i := 6) (v := ?_) rfl (by kernel_rfl) (by kernel_rfl) (by kernel_rfl) (fun _ _ _ h => h) (Or.inl ⟨by rfl, ?_⟩) (by assumption) ?_
        rotate_left
        · (intro w hSw; (try dsimp only at hSw); go_simp; first | done | with_reducible rfl)
        try simp only [List.getElem_toArray, List.getElem_cons_zero, List.getElem_cons_succ, Act.put, List.setIfInBounds_toArray, List.set_cons_zero, List.set_cons_succ]
        refine wpAnyH_take (i := 7) (v := ?_) rfl (by kernel_rfl) (by kernel_rfl) (by kernel_rfl) (fun _ _ _ h => h) (Or.inl ⟨by rfl, ?_⟩) (by assumption) ?_
        rotate_left
        · (intro w hSw; (try dsimp only at hSw); go_simp; first | done | with_reducible rfl)
        try simp only [List.getElem_toArray, List.getElem_cons_zero, List.getElem_cons_succ, Act.put, List.setIfInBounds_toArray, List.set_cons_zero, List.set_cons_succ]
        refine wpAnyH_take (i := 8) (v := ?_) rfl (by kernel_rfl) (by kernel_rfl) (by kernel_rfl) (fun _ _ _ h => h) (Or.inl ⟨by rfl, ?_⟩) (by assumption) ?_
        rotate_left
        · (intro w hSw; (try dsimp only at hSw); go_simp; first | done | with_reducible rfl)
        try simp only [List.getElem_toArray, List.getElem_cons_zero, List.getElem_cons_succ, Act.put, List.setIfInBounds_toArray, List.set_cons_zero, List.set_cons_succ]
        refine wpAnyH_ready (rs := [9]) (by kernel_rfl) (by simp) ?_
        refine AllReadyH.cons rfl (fun K hK => ?_) AllReadyH.nil
        go_simp
        (first
              | (go_at_call 62
                 ((with_reducible refine (frac_cmp ((qw_of2 f fd).fr LF) F4 (by omega) (by omega)).mono ?_))
                 rintro e W64 ⟨rfl, u64⟩
                 replace QA := QA.up u64
                 replace QB := QB.up u64
                 replace F1 := F1.up u64
                 replace F2 := F2.up u64
                 replace F3 := F3.up u64
                 replace F4 := F4.up u64
                 replace bF1 := bF1.up u64
                 replace bF2 := bF2.up u64
                 replace bF3 := bF3.up u64
                 replace f := f.up u64
                 replace fd := fd.up u64
                 replace g := g.up u64
                 replace gd := gd.up u64
                 replace cu := cu.up u64
                 replace cud := cud.up u64
                 try (replace o := o.up u64)
                 replace b2 := b2.up u64
                 replace x7 := x7.up u64
                 replace x8 := x8.up u64
                 replace x9 := x9.up u64
                 replace x10 := x10.up u64
                 replace x11 := x11.up u64
                 replace x12 := x12.up u64
                 replace x13 := x13.up u64
                 replace x14 := x14.up u64
                 replace x15 := x15.up u64
                 replace UP := UP.trans u64
                 clear x7_6 x7_7 x7_8 x7_9 x7_10 x7_11 x8_0 x8_1 x8_2 x10_0 x10_1 x10_2 x11_0 x11_1 x11_2
                 have x7_6 := x7.cell (i := 6) rfl
                 have x7_7 := x7.cell (i := 7) rfl
                 have x7_8 := x7.cell (i := 8) rfl
                 have x7_9 := x7.cell (i := 9) rfl
                 have x7_10 := x7.cell (i := 10) rfl
                 have x7_11 := x7.cell (i := 11) rfl
                 have x8_0 := x8.cell (i := 0) rfl
                 have x8_1 := x8.cell (i := 1) rfl
                 have x8_2 := x8.cell (i := 2) rfl
                 have x10_0 := x10.cell (i := 0) rfl
                 have x10_1 := x10.cell (i := 1) rfl
                 have x10_2 := x10.cell (i := 2) rfl
                 have x11_0 := x11.cell (i := 0) rfl
                 have x11_1 := x11.cell (i := 1) rfl
                 have x11_2 := x11.cell (i := 2) rfl
                 clear u64
                 rw [HZ2.out]))
        try go_wp2_with fail
        try clear hHeld
        refine hK.out _ _ ?_ (fun hHeld => ?_)
        · with_reducible exact ⟨UP, x7_6, x7_7, x7_8, x7_9, x7_10, x7_11, x8_0, x8_1, x8_2, x10_0, x10_1, x10_2, x11_0, x11_1, x11_2, x7⟩
        clear hK K
        try simp only [List.getElem_toArray, List.getElem_cons_zero, List.getElem_cons_succ, Act.put, List.setIfInBounds_toArray, List.set_cons_zero, List.set_cons_succ]
        refine wpAnyH_take (i := 10) (v := ?_) rfl (by kernel_rfl) (by kernel_rfl) (by kernel_rfl) (fun _ _ _ h => h) (Or.inl ⟨by rfl, ?_⟩) (by assumption) ?_
        rotate_left
        · (intro w hSw; (try dsimp only at hSw); go_simp; first | done | with_reducible rfl)
        try simp only [List.getElem_toArray, List.getElem_cons_zero, List.getElem_cons_succ, Act.put, List.setIfInBounds_toArray, List.set_cons_zero, List.set_cons_succ]
        refine wpAnyH_take (i := 11) (v := ?_) rfl (by kernel_rfl) (by kernel_rfl) (by kernel_rfl) (fun _ _ _ h => h) (Or.inl ⟨by rfl, ?_⟩) (by assumption) ?_
        rotate_left
        · (intro w hSw; (try dsimp only at hSw); go_simp; first | done | with_reducible rfl)
        try simp only [List.getElem_toArray, List.getElem_cons_zero, List.getElem_cons_succ, Act.put, List.setIfInBounds_toArray, List.set_cons_zero, List.set_cons_succ]
        refine wpAnyH_take (i := 12) (v := ?_) rfl (by kernel_rfl) (by kernel_rfl) (by kernel_rfl) (fun _ _ _ h => h) (Or.inl ⟨by rfl, ?_⟩) (by assumption) ?_
        rotate_left
        · (intro w hSw; (try dsimp only at hSw); go_simp; first | done | with_reducible rfl)
        try simp only [List.getElem_toArray, List.getElem_cons_zero, List.getElem_cons_succ, Act.put, List.setIfInBounds_toArray, List.set_cons_zero, List.set_cons_succ]
        refine wpAnyH_take (i := 13) (v := ?_) rfl (by kernel_rfl) (by kernel_rfl) (by kernel_rfl) (fun _ _ _ h => h) (Or.inl ⟨by rfl, ?_⟩) (by assumption) ?_
        rotate_left
        · (intro w hSw; (try dsimp only at hSw); go_simp; first | done | with_reducible rfl)
        try simp only [List.getElem_toArray, List.getElem_cons_zero, List.getElem_cons_succ, Act.put, List.setIfInBounds_toArray, List.set_cons_zero, List.set_cons_succ]
        refine wpAnyH_take (i := 14) (v := ?_) rfl (by kernel_rfl) (by kernel_rfl) (by kernel_rfl) (fun _ _ _ h => h) (Or.inl ⟨by rfl, ?_⟩) (by assumption) ?_
        rotate_left
        · (intro w hSw; (try dsimp only at hSw); go_simp; first | done | with_reducible rfl)
        try simp only [List.getElem_toArray, List.getElem_cons_zero, List.getElem_cons_succ, Act.put, List.setIfInBounds_toArray, List.set_cons_zero, List.set_cons_succ]
        refine wpAnyH_ready (rs := [15]) (by kernel_rfl) (by simp) ?_
        refine AllReadyH.cons rfl (fun K hK => ?_) AllReadyH.nil
        go_simp
        (first
              | (go_at_call 62
                 ((with_reducible refine (frac_cmp ((qw_of2 g gd).fr LG) ((qw_of2 f fd).fr LF) (by omega) (by omega)).mono ?_))
                 rintro e W65 ⟨rfl, u65⟩
                 replace QA := QA.up u65
                 replace QB := QB.up u65
                 replace F1 := F1.up u65
                 replace F2 := F2.up u65
                 replace F3 := F3.up u65
                 replace F4 := F4.up u65
                 replace bF1 := bF1.up u65
                 replace bF2 := bF2.up u65
                 replace bF3 := bF3.up u65
                 replace f := f.up u65
                 replace fd := fd.up u65
                 replace g := g.up u65
                 replace gd := gd.up u65
                 replace cu := cu.up u65
                 replace cud := cud.up u65
                 try (replace o := o.up u65)
                 replace b2 := b2.up u65
                 replace x7 := x7.up u65
                 replace x8 := x8.up u65
                 replace x9 := x9.up u65
                 replace x10 := x10.up u65
                 replace x11 := x11.up u65
                 replace x12 := x12.up u65
                 replace x13 := x13.up u65
                 replace x14 := x14.up u65
                 replace x15 := x15.up u65
                 replace UP := UP.trans u65
                 clear x7_6 x7_7 x7_8 x7_9 x7_10 x7_11 x8_0 x8_1 x8_2 x10_0 x10_1 x10_2 x11_0 x11_1 x11_2
                 have x7_6 := x7.cell (i := 6) rfl
                 have x7_7 := x7.cell (i := 7) rfl
                 have x7_8 := x7.cell (i := 8) rfl
                 have x7_9 := x7.cell (i := 9) rfl
                 have x7_10 := x7.cell (i := 10) rfl
                 have x7_11 := x7.cell (i := 11) rfl
                 have x8_0 := x8.cell (i := 0) rfl
                 have x8_1 := x8.cell (i := 1) rfl
                 have x8_2 := x8.cell (i := 2) rfl
                 have x10_0 := x10.cell (i := 0) rfl
                 have x10_1 := x10.cell (i := 1) rfl
                 have x10_2 := x10.cell (i := 2) rfl
                 have x11_0 := x11.cell (i := 0) rfl
                 have x11_1 := x11.cell (i := 1) rfl
                 have x11_2 := x11.cell (i := 2) rfl
                 clear u65
                 rw [HZ3.out]))
        try go_wp2_with fail
        try clear hHeld
        refine hK.out _ _ ?_ (fun hHeld => ?_)
        · with_reducible exact ⟨UP, x7_6, x7_7, x7_8, x7_9, x7_10, x7_11, x8_0, x8_1, x8_2, x10_0, x10_1, x10_2, x11_0, x11_1, x11_2, x7⟩
        clear hK K
        try simp only [List.getElem_toArray, List.getElem_cons_zero, List.getElem_cons_succ, Act.put, List.setIfInBounds_toArray, List.set_cons_zero, List.set_cons_succ]
        refine wpAnyH_take (i := 16) (v := ?_) rfl (by kernel_rfl) (by kernel_rfl) (by kernel_rfl) (fun _ _ _ h => h) (Or.inl ⟨by rfl, ?_⟩) (by assumption) ?_
        rotate_left
        · (intro w hSw; (try dsimp only at hSw); go_simp; first | done | with_reducible rfl)
        try simp only [List.getElem_toArray, List.getElem_cons_zero, List.getElem_cons_succ, Act.put, List.setIfInBounds_toArray, List.set_cons_zero, List.set_cons_succ]
        refine wpAnyH_take (i := 17) (v := ?_) rfl (by kernel_rfl) (by kernel_rfl) (by kernel_rfl) (fun _ _ _ h => h) (Or.inl ⟨by rfl, ?_⟩) (by assumption) ?_
        rotate_left
        · (intro w hSw; (try dsimp only at hSw); go_simp; first | done | with_reducible rfl)
        try simp only [List.getElem_toArray, List.getElem_cons_zero, List.getElem_cons_succ, Act.put, List.setIfInBounds_toArray, List.set_cons_zero, List.set_cons_succ]
        refine wpAnyH_take (i := 18) (v := ?_) rfl (by kernel_rfl) (by kernel_rfl) (by kernel_rfl) (fun _ _ _ h => h) (Or.inl ⟨by rfl, ?_⟩) (by assumption) ?_
        rotate_left
        · (intro w hSw; (try dsimp only at hSw); go_simp; first | done | with_reducible rfl)
        try simp only [List.getElem_toArray, List.getElem_cons_zero, List.getElem_cons_succ, Act.put, List.setIfInBounds_toArray, List.set_cons_zero, List.set_cons_succ]
        refine wpAnyH_take (i := 19) (v := .agg #[.bool s1, .slice A1 l1.length c1, .slice D1 m1.length e1, .bool s2, .slice A2 l2.length c2, .slice D2 m2.length e2, .bool s3, .slice A3 l3.length c3, .slice D3 m3.length e3, .bool s4, .slice A4 l4.length c4, .slice D4 m4.length e4, .bool s5, .slice A5 l5.length c5, .slice D5 m5.length e5, .int .i64 fi, .int .i64 mo]) rfl (by kernel_rfl) (by kernel_rfl) (by kernel_rfl) (fun _ _ _ h => h) (Or.inl ⟨by rfl, fun w hSw => exec_load_box rfl rfl agg_rules size_rules hSw.2.2.2.2.2.2.2.2.2.2.2.2.2.2.2.2 rfl⟩) (by assumption) ?_
        try simp only [List.getElem_toArray, List.getElem_cons_zero, List.getElem_cons_succ, Act.put, List.setIfInBounds_toArray, List.set_cons_zero, List.set_cons_succ]
        refine wpAnyH_take (i := 20) (v := ?_) rfl (by kernel_rfl) (by kernel_rfl) (by kernel_rfl) (fun _ _ _ h => h) (Or.inl ⟨by rfl, ?_⟩) (by assumption) ?_
        rotate_left
        · (intro w hSw; (try dsimp only at hSw); go_simp; first | done | with_reducible rfl)
        try simp only [List.getElem_toArray, List.getElem_cons_zero, List.getElem_cons_succ, Act.put, List.setIfInBounds_toArray, List.set_cons_zero, List.set_cons_succ]
        refine wpAnyH_ready (rs := [21]) (by kernel_rfl) (by simp) ?_
        refine AllReadyH.cons rfl (fun K hK => ?_) AllReadyH.nil
        go_simp
        (first
              | (go_at_call 76
                 ((with_reducible refine (pace_accepts (QA.fr LA) F1 (by omega)).mono ?_))
                 rintro e W66 ⟨rfl, u66⟩
                 replace QA := QA.up u66
                 replace QB := QB.up u66
                 replace F1 := F1.up u66
                 replace F2 := F2.up u66
                 replace F3 := F3.up u66
                 replace F4 := F4.up u66
                 replace bF1 := bF1.up u66
                 replace bF2 := bF2.up u66
                 replace bF3 := bF3.up u66
                 replace f := f.up u66
                 replace fd := fd.up u66
                 replace g := g.up u66
                 replace gd := gd.up u66
                 replace cu := cu.up u66
                 replace cud := cud.up u66
                 try (replace o := o.up u66)
                 replace b2 := b2.up u66
                 replace x7 := x7.up u66
                 replace x8 := x8.up u66
                 replace x9 := x9.up u66
                 replace x10 := x10.up u66
                 replace x11 := x11.up u66
                 replace x12 := x12.up u66
                 replace x13 := x13.up u66
                 replace x14 := x14.up u66
                 replace x15 := x15.up u66
                 replace UP := UP.trans u66
                 clear x7_6 x7_7 x7_8 x7_9 x7_10 x7_11 x8_0 x8_1 x8_2 x10_0 x10_1 x10_2 x11_0 x11_1 x11_2
                 have x7_6 := x7.cell (i := 6) rfl
                 have x7_7 := x7.cell (i := 7) rfl
                 have x7_8 := x7.cell (i := 8) rfl
                 have x7_9 := x7.cell (i := 9) rfl
                 have x7_10 := x7.cell (i := 10) rfl
                 have x7_11 := x7.cell (i := 11) rfl
                 have x8_0 := x8.cell (i := 0) rfl
                 have x8_1 := x8.cell (i := 1) rfl
                 have x8_2 := x8.cell (i := 2) rfl
                 have x10_0 := x10.cell (i := 0) rfl
                 have x10_1 := x10.cell (i := 1) rfl
                 have x10_2 := x10.cell (i := 2) rfl
                 have x11_0 := x11.cell (i := 0) rfl
                 have x11_1 := x11.cell (i := 1) rfl
                 have x11_2 := x11.cell (i := 2) rfl
                 clear u66
                 rw [DA.out]))
        try go_wp2_with fail
        try clear hHeld
        refine hK.out _ _ ?_ (fun hHeld => ?_)
        · with_reducible exact ⟨UP, x7_6, x7_7, x7_8, x7_9, x7_10, x7_11, x8_0, x8_1, x8_2, x10_0, x10_1, x10_2, x11_0, x11_1, x11_2, x7⟩
        clear hK K
        try simp only [List.getElem_toArray, List.getElem_cons_zero, List.getElem_cons_succ, Act.put, List.setIfInBounds_toArray, List.set_cons_zero, List.set_cons_succ]
        refine wpAnyH_take (i := 22) (v := ?_) rfl (by kernel_rfl) (by kernel_rfl) (by kernel_rfl) (fun _ _ _ h => h) (Or.inl ⟨by rfl, ?_⟩) (by assumption) ?_
        rotate_left
        · (intro w hSw; (try dsimp only at hSw); go_simp; first | done | with_reducible rfl)
        try simp only [List.getElem_toArray, List.getElem_cons_zero, List.getElem_cons_succ, Act.put, List.setIfInBounds_toArray, List.set_cons_zero, List.set_cons_succ]
        refine wpAnyH_take (i := 23) (v := ?_) rfl (by kernel_rfl) (by kernel_rfl) (by kernel_rfl) (fun _ _ _ h => h) (Or.inl ⟨by rfl, ?_⟩) (by assumption) ?_
        rotate_left
        · (intro w hSw; (try dsimp only at hSw); go_simp; first | done | with_reducible rfl)
        try simp only [List.getElem_toArray, List.getElem_cons_zero, List.getElem_cons_succ, Act.put, List.setIfInBounds_toArray, List.set_cons_zero, List.set_cons_succ]
        refine wpAnyH_take (i := 24) (v := ?_) rfl (by kernel_rfl) (by kernel_rfl) (by kernel_rfl) (fun _ _ _ h => h) (Or.inl ⟨by rfl, ?_⟩) (by assumption) ?_
        rotate_left
        · (intro w hSw; (try dsimp only at hSw); go_simp; first | done | with_reducible rfl)
        try simp only [List.getElem_toArray, List.getElem_cons_zero, List.getElem_cons_succ, Act.put, List.setIfInBounds_toArray, List.set_cons_zero, List.set_cons_succ]
        refine wpAnyH_ready (rs := [25]) (by kernel_rfl) (by simp) ?_
        refine AllReadyH.cons rfl (fun K hK => ?_) AllReadyH.nil
        go_simp
        (first
              | (go_at_call 45
                 ((with_reducible refine (frac_of (n := 1) (by omega) _).mono ?_))
                 rintro e W67 ⟨V67, rfl, o, u67⟩
                 replace QA := QA.up u67
                 replace QB := QB.up u67
                 replace F1 := F1.up u67
                 replace F2 := F2.up u67
                 replace F3 := F3.up u67
                 replace F4 := F4.up u67
                 replace bF1 := bF1.up u67
                 replace bF2 := bF2.up u67
                 replace bF3 := bF3.up u67
                 replace f := f.up u67
                 replace fd := fd.up u67
                 replace g := g.up u67
                 replace gd := gd.up u67
                 replace cu := cu.up u67
                 replace cud := cud.up u67
                 try (replace o := o.up u67)
                 replace b2 := b2.up u67
                 replace x7 := x7.up u67
                 replace x8 := x8.up u67
                 replace x9 := x9.up u67
                 replace x10 := x10.up u67
                 replace x11 := x11.up u67
                 replace x12 := x12.up u67
                 replace x13 := x13.up u67
                 replace x14 := x14.up u67
                 replace x15 := x15.up u67
                 replace UP := UP.trans u67
                 clear x7_6 x7_7 x7_8 x7_9 x7_10 x7_11 x8_0 x8_1 x8_2 x10_0 x10_1 x10_2 x11_0 x11_1 x11_2
                 have x7_6 := x7.cell (i := 6) rfl
                 have x7_7 := x7.cell (i := 7) rfl
                 have x7_8 := x7.cell (i := 8) rfl
                 have x7_9 := x7.cell (i := 9) rfl
                 have x7_10 := x7.cell (i := 10) rfl
                 have x7_11 := x7.cell (i := 11) rfl
                 have x8_0 := x8.cell (i := 0) rfl
                 have x8_1 := x8.cell (i := 1) rfl
                 have x8_2 := x8.cell (i := 2) rfl
                 have x10_0 := x10.cell (i := 0) rfl
                 have x10_1 := x10.cell (i := 1) rfl
                 have x10_2 := x10.cell (i := 2) rfl
                 have x11_0 := x11.cell (i := 0) rfl
                 have x11_1 := x11.cell (i := 1) rfl
                 have x11_2 := x11.cell (i := 2) rfl
                 clear u67
                 rw [HO.out] at o))
        try go_wp2_with fail
        try clear hHeld
        refine hK.out _ _ ?_ (fun hHeld => ?_)
        · with_reducible exact ⟨UP, x7_6, x7_7, x7_8, x7_9, x7_10, x7_11, x8_0, x8_1, x8_2, x10_0, x10_1, x10_2, x11_0, x11_1, x11_2, x7⟩
        clear hK K
        try simp only [List.getElem_toArray, List.getElem_cons_zero, List.getElem_cons_succ, Act.put, List.setIfInBounds_toArray, List.set_cons_zero, List.set_cons_succ]
        refine wpAnyH_ready (rs := [26]) (by kernel_rfl) (by simp) ?_
        refine AllReadyH.cons rfl (fun K hK => ?_) AllReadyH.nil
        go_simp
        (first
              | (go_at_call 62
                 ((with_reducible refine (frac_cmp ((qw_of2 f fd).fr LF) (o.fr LO) (by omega) (by omega)).mono ?_))
                 rintro e W68 ⟨rfl, u68⟩
                 replace QA := QA.up u68
                 replace QB := QB.up u68
                 replace F1 := F1.up u68
                 replace F2 := F2.up u68
                 replace F3 := F3.up u68
                 replace F4 := F4.up u68
                 replace bF1 := bF1.up u68
                 replace bF2 := bF2.up u68
                 replace bF3 := bF3.up u68
                 replace f := f.up u68
                 replace fd := fd.up u68
                 replace g := g.up u68
                 replace gd := gd.up u68
                 replace cu := cu.up u68
                 replace cud := cud.up u68
                 try (replace o := o.up u68)
                 replace b2 := b2.up u68
                 replace x7 := x7.up u68
                 replace x8 := x8.up u68
                 replace x9 := x9.up u68
                 replace x10 := x10.up u68
                 replace x11 := x11.up u68
                 replace x12 := x12.up u68
                 replace x13 := x13.up u68
                 replace x14 := x14.up u68
                 replace x15 := x15.up u68
                 replace UP := UP.trans u68
                 clear x7_6 x7_7 x7_8 x7_9 x7_10 x7_11 x8_0 x8_1 x8_2 x10_0 x10_1 x10_2 x11_0 x11_1 x11_2
                 have x7_6 := x7.cell (i := 6) rfl
                 have x7_7 := x7.cell (i := 7) rfl
                 have x7_8 := x7.cell (i := 8) rfl
                 have x7_9 := x7.cell (i := 9) rfl
                 have x7_10 := x7.cell (i := 10) rfl
                 have x7_11 := x7.cell (i := 11) rfl
                 have x8_0 := x8.cell (i := 0) rfl
                 have x8_1 := x8.cell (i := 1) rfl
                 have x8_2 := x8.cell (i := 2) rfl
                 have x10_0 := x10.cell (i := 0) rfl
                 have x10_1 := x10.cell (i := 1) rfl
                 have x10_2 := x10.cell (i := 2) rfl
                 have x11_0 := x11.cell (i := 0) rfl
                 have x11_1 := x11.cell (i := 1) rfl
                 have x11_2 := x11.cell (i := 2) rfl
                 clear u68
                 rw [HZ4.out]))
        try go_wp2_with fail
        try clear hHeld
        refine hK.out _ _ ?_ (fun hHeld => ?_)
        · with_reducible exact ⟨UP, x7_6, x7_7, x7_8, x7_9, x7_10, x7_11, x8_0, x8_1, x8_2, x10_0, x10_1, x10_2, x11_0, x11_1, x11_2, x7⟩
        clear hK K
        try simp only [List.getElem_toArray, List.getElem_cons_zero, List.getElem_cons_succ, Act.put, List.setIfInBounds_toArray, List.set_cons_zero, List.set_cons_succ]
        refine wpAnyH_take (i := 27) (v := ?_) rfl (by kernel_rfl) (by kernel_rfl) (by kernel_rfl) (fun _ _ _ h => h) (Or.inl ⟨by rfl, ?_⟩) (by assumption) ?_
        rotate_left
        · (intro w hSw; (try dsimp only at hSw); go_simp; first | done | with_reducible rfl)
        try simp only [List.getElem_toArray, List.getElem_cons_zero, List.getElem_cons_succ, Act.put, List.setIfInBounds_toArray, List.set_cons_zero, List.set_cons_succ]
        refine wpAnyH_take (i := 28) (v := ?_) rfl (by kernel_rfl) (by kernel_rfl) (by kernel_rfl) (fun _ _ _ h => h) (Or.inl ⟨by rfl, ?_⟩) (by assumption) ?_
        rotate_left
        · (intro w hSw; (try dsimp only at hSw); go_simp; first | done | with_reducible rfl)
        try simp only [List.getElem_toArray, List.getElem_cons_zero, List.getElem_cons_succ, Act.put, List.setIfInBounds_toArray, List.set_cons_zero, List.set_cons_succ]
        refine wpAnyH_take (i := 29) (v := ?_) rfl (by kernel_rfl) (by kernel_rfl) (by kernel_rfl) (fun _ _ _ h => h) (Or.inl ⟨by rfl, ?_⟩) (by assumption) ?_
        rotate_left
        · (intro w hSw; (try dsimp only at hSw); go_simp; first | done | with_reducible rfl)
        try simp only [List.getElem_toArray, List.getElem_cons_zero, List.getElem_cons_succ, Act.put, List.setIfInBounds_toArray, List.set_cons_zero, List.set_cons_succ]
        refine wpAnyH_done (by kernel_rfl) ?_ _
        refine NoPanic.normal ?_
        clear hHeld
        have DB : Hid (decide (B ≤ tol) = false) := Lib.hid (decide_eq_false (fun hb => NA.out (Rat.le_trans HAB.out hb)))
        go_wp2_with (with_reducible show wpList _ _ _ _ _ _; refine wl_load_box (o := ⟨_, Op.load 105 _, _, _, _, _⟩) rfl _ rfl rfl agg_rules size_rules (by first | exact x7 | exact x7.up ((Up.refl _).alloc _)) rfl ?_)
        have k5 : decide (z5 ≤ 0) = true := decide_eq_true (by have := K5.out; omega)
        have k6 : decide (z6 ≤ 0) = true := decide_eq_true (by have := K6.out; omega)
        have x15_0 := x15.cell (i := 0) rfl
        have x15_1 := x15.cell (i := 1) rfl
        have x15_2 := x15.cell (i := 2) rfl
        have x14_0 := x14.cell (i := 0) rfl
        have x14_1 := x14.cell (i := 1) rfl
        have x14_2 := x14.cell (i := 2) rfl
        have x12_0 := x12.cell (i := 0) rfl
        have x12_1 := x12.cell (i := 1) rfl
        have x12_2 := x12.cell (i := 2) rfl
        have x13_0 := x13.cell (i := 0) rfl
        have x13_1 := x13.cell (i := 1) rfl
        have x13_2 := x13.cell (i := 2) rfl
        have x9_0 := x9.cell (i := 0) rfl
        have x9_1 := x9.cell (i := 1) rfl
        have x9_2 := x9.cell (i := 2) rfl
        skip
        replace QA := QA.up (Up.refl W68).drew
        replace QB := QB.up (Up.refl W68).drew
        replace F1 := F1.up (Up.refl W68).drew
        replace F2 := F2.up (Up.refl W68).drew
        replace F3 := F3.up (Up.refl W68).drew
        replace F4 := F4.up (Up.refl W68).drew
        replace bF1 := bF1.up (Up.refl W68).drew
        replace bF2 := bF2.up (Up.refl W68).drew
        replace bF3 := bF3.up (Up.refl W68).drew
        replace f := f.up (Up.refl W68).drew
        replace fd := fd.up (Up.refl W68).drew
        replace g := g.up (Up.refl W68).drew
        replace gd := gd.up (Up.refl W68).drew
        replace cu := cu.up (Up.refl W68).drew
        replace cud := cud.up (Up.refl W68).drew
        replace o := o.up (Up.refl W68).drew
        replace b2 := b2.up (Up.refl W68).drew
        replace x7 := x7.up (Up.refl W68).drew
        replace x8 := x8.up (Up.refl W68).drew
        replace x9 := x9.up (Up.refl W68).drew
        replace x10 := x10.up (Up.refl W68).drew
        replace x11 := x11.up (Up.refl W68).drew
        replace x12 := x12.up (Up.refl W68).drew
        replace x13 := x13.up (Up.refl W68).drew
        replace x14 := x14.up (Up.refl W68).drew
        replace x15 := x15.up (Up.refl W68).drew
        replace UP := UP.trans (Up.refl W68).drew
        clear x7_6 x7_7 x7_8 x7_9 x7_10 x7_11 x8_0 x8_1 x8_2 x9_0 x9_1 x9_2 x10_0 x10_1 x10_2 x11_0 x11_1 x11_2 x12_0 x12_1 x12_2 x13_0 x13_1 x13_2 x14_0 x14_1 x14_2 x15_0 x15_1 x15_2
        have x7_6 := x7.cell (i := 6) rfl
        have x7_7 := x7.cell (i := 7) rfl
        have x7_8 := x7.cell (i := 8) rfl
        have x7_9 := x7.cell (i := 9) rfl
        have x7_10 := x7.cell (i := 10) rfl
        have x7_11 := x7.cell (i := 11) rfl
        have x8_0 := x8.cell (i := 0) rfl
        have x8_1 := x8.cell (i := 1) rfl
        have x8_2 := x8.cell (i := 2) rfl
        have x9_0 := x9.cell (i := 0) rfl
        have x9_1 := x9.cell (i := 1) rfl
        have x9_2 := x9.cell (i := 2) rfl
        have x10_0 := x10.cell (i := 0) rfl
        have x10_1 := x10.cell (i := 1) rfl
        have x10_2 := x10.cell (i := 2) rfl
        have x11_0 := x11.cell (i := 0) rfl
        have x11_1 := x11.cell (i := 1) rfl
        have x11_2 := x11.cell (i := 2) rfl
        have x12_0 := x12.cell (i := 0) rfl
        have x12_1 := x12.cell (i := 1) rfl
        have x12_2 := x12.cell (i := 2) rfl
        have x13_0 := x13.cell (i := 0) rfl
        have x13_1 := x13.cell (i := 1) rfl
        have x13_2 := x13.cell (i := 2) rfl
        have x14_0 := x14.cell (i := 0) rfl
        have x14_1 := x14.cell (i := 1) rfl
        have x14_2 := x14.cell (i := 2) rfl
        have x15_0 := x15.cell (i := 0) rfl
        have x15_1 := x15.cell (i := 1) rfl
        have x15_2 := x15.cell (i := 2) rfl
        skip
        refine wp_region_noPanic ?_
        refine wp_region_held_drew (S := fun w' => Up w w' ∧ w'.cell? ⟨W7.heap.size, 6, none⟩ = some (.bool s3) ∧ w'.cell? ⟨W7.heap.size, 7, none⟩ = some (.slice A3 l3.length c3) ∧ w'.cell? ⟨W7.heap.size, 8, none⟩ = some (.slice D3 m3.length e3) ∧ w'.cell? ⟨W7.heap.size, 9, none⟩ = some (.bool s4) ∧ w'.cell? ⟨W7.heap.size, 10, none⟩ = some (.slice A4 l4.length c4) ∧ w'.cell? ⟨W7.heap.size, 11, none⟩ = some (.slice D4 m4.length e4) ∧ w'.cell? ⟨W11.heap.size, 0, none⟩ = some (.bool (Wd.ngb A.num)) ∧ w'.cell? ⟨W11.heap.size, 1, none⟩ = some (.slice Ap np cp) ∧ w'.cell? ⟨W11.heap.size, 2, none⟩ = some (.slice Apd npd cpd) ∧ w'.cell? ⟨g9, 0, none⟩ = some (.bool (Wd.ngb B.num)) ∧ w'.cell? ⟨g9, 1, none⟩ = some (.slice A9 n9 k9) ∧ w'.cell? ⟨g9, 2, none⟩ = some (.slice D9 r9 d9) ∧ w'.cell? ⟨W55.heap.size, 0, none⟩ = some (.bool bs1) ∧ w'.cell? ⟨W55.heap.size, 1, none⟩ = some (.slice bA1 bl1.length bc1) ∧ w'.cell? ⟨W55.heap.size, 2, none⟩ = some (.slice bD1 bm1.length be1) ∧ w'.cell? ⟨W57.heap.size, 0, none⟩ = some (.bool bs2) ∧ w'.cell? ⟨W57.heap.size, 1, none⟩ = some (.slice bA2 bl2.length bc2) ∧ w'.cell? ⟨W57.heap.size, 2, none⟩ = some (.slice bD2 bm2.length be2) ∧ w'.cell? ⟨W59.heap.size, 0, none⟩ = some (.bool bs3) ∧ w'.cell? ⟨W59.heap.size, 1, none⟩ = some (.slice bA3 bl3.length bc3) ∧ w'.cell? ⟨W59.heap.size, 2, none⟩ = some (.slice bD3 bm3.length be3) ∧ w'.cell? ⟨W61.heap.size, 0, none⟩ = some (.bool (Wd.ngb CU.num)) ∧ w'.cell? ⟨W61.heap.size, 1, none⟩ = some (.slice Acu ncu ccu) ∧ w'.cell? ⟨W61.heap.size, 2, none⟩ = some (.slice Acud ncud ccud) ∧ Bx 105 w' (W7.heap.size) [.bool s1, .slice A1 l1.length c1, .slice D1 m1.length e1, .bool s2, .slice A2 l2.length c2, .slice D2 m2.length e2, .bool s3, .slice A3 l3.length c3, .slice D3 m3.length e3, .bool s4, .slice A4 l4.length c4, .slice D4 m4.length e4, .bool s5, .slice A5 l5.length c5, .slice D5 m5.length e5, .int .i64 fi, .int .i64 mo]) (by kernel_rfl) ?_ (fun hHeld => ?_)
        · with_reducible exact ⟨UP, x7_6, x7_7, x7_8, x7_9, x7_10, x7_11, x8_0, x8_1, x8_2, x9_0, x9_1, x9_2, x12_0, x12_1, x12_2, x13_0, x13_1, x13_2, x14_0, x14_1, x14_2, x15_0, x15_1, x15_2, x7⟩
        refine wpAnyH_take (i := 0) (v := ?_) rfl (by kernel_rfl) (by kernel_rfl) (by kernel_rfl) (fun _ _ _ h => h) (Or.inl ⟨by rfl, ?_⟩) (by assumption) ?_
        rotate_left
        · (intro w hSw; (try dsimp only at hSw); go_simp; first | done | with_reducible rfl)
        try simp only [List.getElem_toArray, List.getElem_cons_zero, List.getElem_cons_succ, Act.put, List.setIfInBounds_toArray, List.set_cons_zero, List.set_cons_succ]
        refine wpAnyH_take (i := 1) (v := ?_) rfl (by kernel_rfl) (by kernel_rfl) (by kernel_rfl) (fun _ _ _ h => h) (Or.inl ⟨by rfl, ?_⟩) (by assumption) ?_
        rotate_left
        · (intro w hSw; (try dsimp only at hSw); go_simp; first | done | with_reducible rfl)
        try simp only [List.getElem_toArray, List.getElem_cons_zero, List.getElem_cons_succ, Act.put, List.setIfInBounds_toArray, List.set_cons_zero, List.set_cons_succ]
        refine wpAnyH_ready (rs := [2]) (by kernel_rfl) (by simp) ?_
        refine AllReadyH.cons rfl (fun K hK => ?_) AllReadyH.nil
        go_simp
        (first
              | (go_at_call 62
                 ((with_reducible refine (frac_cmp ((qw_of2 cu cud).fr LCU) bF3 (by omega) (by omega)).mono ?_))
                 rintro e W69 ⟨rfl, u69⟩
                 replace QA := QA.up u69
                 replace QB := QB.up u69
                 replace F1 := F1.up u69
                 replace F2 := F2.up u69
                 replace F3 := F3.up u69
                 replace F4 := F4.up u69
                 replace bF1 := bF1.up u69
                 replace bF2 := bF2.up u69
                 replace bF3 := bF3.up u69
                 replace f := f.up u69
                 replace fd := fd.up u69
                 replace g := g.up u69
                 replace gd := gd.up u69
                 replace cu := cu.up u69
                 replace cud := cud.up u69
                 replace o := o.up u69
                 try (replace sm := sm.up u69)
                 replace b2 := b2.up u69
                 replace x7 := x7.up u69
                 replace x8 := x8.up u69
                 replace x9 := x9.up u69
                 replace x10 := x10.up u69
                 replace x11 := x11.up u69
                 replace x12 := x12.up u69
                 replace x13 := x13.up u69
                 replace x14 := x14.up u69
                 replace x15 := x15.up u69
                 replace UP := UP.trans u69
                 clear x7_6 x7_7 x7_8 x7_9 x7_10 x7_11 x8_0 x8_1 x8_2 x9_0 x9_1 x9_2 x10_0 x10_1 x10_2 x11_0 x11_1 x11_2 x12_0 x12_1 x12_2 x13_0 x13_1 x13_2 x14_0 x14_1 x14_2 x15_0 x15_1 x15_2
                 have x7_6 := x7.cell (i := 6) rfl
                 have x7_7 := x7.cell (i := 7) rfl
                 have x7_8 := x7.cell (i := 8) rfl
                 have x7_9 := x7.cell (i := 9) rfl
                 have x7_10 := x7.cell (i := 10) rfl
                 have x7_11 := x7.cell (i := 11) rfl
                 have x8_0 := x8.cell (i := 0) rfl
                 have x8_1 := x8.cell (i := 1) rfl
                 have x8_2 := x8.cell (i := 2) rfl
                 have x9_0 := x9.cell (i := 0) rfl
                 have x9_1 := x9.cell (i := 1) rfl
                 have x9_2 := x9.cell (i := 2) rfl
                 have x10_0 := x10.cell (i := 0) rfl
                 have x10_1 := x10.cell (i := 1) rfl
                 have x10_2 := x10.cell (i := 2) rfl
                 have x11_0 := x11.cell (i := 0) rfl
                 have x11_1 := x11.cell (i := 1) rfl
                 have x11_2 := x11.cell (i := 2) rfl
                 have x12_0 := x12.cell (i := 0) rfl
                 have x12_1 := x12.cell (i := 1) rfl
                 have x12_2 := x12.cell (i := 2) rfl
                 have x13_0 := x13.cell (i := 0) rfl
                 have x13_1 := x13.cell (i := 1) rfl
                 have x13_2 := x13.cell (i := 2) rfl
                 have x14_0 := x14.cell (i := 0) rfl
                 have x14_1 := x14.cell (i := 1) rfl
                 have x14_2 := x14.cell (i := 2) rfl
                 have x15_0 := x15.cell (i := 0) rfl
                 have x15_1 := x15.cell (i := 1) rfl
                 have x15_2 := x15.cell (i := 2) rfl
                 clear u69
                 rw [HZ5.out]))
        try go_wp2_with fail
        try clear hHeld
        refine hK.out _ _ ?_ (fun hHeld => ?_)
        · with_reducible exact ⟨UP, x7_6, x7_7, x7_8, x7_9, x7_10, x7_11, x8_0, x8_1, x8_2, x9_0, x9_1, x9_2, x12_0, x12_1, x12_2, x13_0, x13_1, x13_2, x14_0, x14_1, x14_2, x15_0, x15_1, x15_2, x7⟩
        clear hK K
        try simp only [List.getElem_toArray, List.getElem_cons_zero, List.getElem_cons_succ, Act.put, List.setIfInBounds_toArray, List.set_cons_zero, List.set_cons_succ]
        refine wpAnyH_take (i := 3) (v := ?_) rfl (by kernel_rfl) (by kernel_rfl) (by kernel_rfl) (fun _ _ _ h => h) (Or.inl ⟨by rfl, ?_⟩) (by assumption) ?_
        rotate_left
        · (intro w hSw; (try dsimp only at hSw); go_simp; first | done | with_reducible rfl)
        try simp only [List.getElem_toArray, List.getElem_cons_zero, List.getElem_cons_succ, Act.put, List.setIfInBounds_toArray, List.set_cons_zero, List.set_cons_succ]
        refine wpAnyH_take (i := 4) (v := ?_) rfl (by kernel_rfl) (by kernel_rfl) (by kernel_rfl) (fun _ _ _ h => h) (Or.inl ⟨by rfl, ?_⟩) (by assumption) ?_
        rotate_left
        · (intro w hSw; (try dsimp only at hSw); go_simp; first | done | with_reducible rfl)
        try simp only [List.getElem_toArray, List.getElem_cons_zero, List.getElem_cons_succ, Act.put, List.setIfInBounds_toArray, List.set_cons_zero, List.set_cons_succ]
        refine wpAnyH_take (i := 5) (v := ?_) rfl (by kernel_rfl) (by kernel_rfl) (by kernel_rfl) (fun _ _ _ h => h) (Or.inl ⟨by rfl, ?_⟩) (by assumption) ?_
        rotate_left
        · (intro w hSw; (try dsimp only at hSw); go_simp; first | done | with_reducible rfl)
        try simp only [List.getElem_toArray, List.getElem_cons_zero, List.getElem_cons_succ, Act.put, List.setIfInBounds_toArray, List.set_cons_zero, List.set_cons_succ]
        refine wpAnyH_take (i := 6) (v := ?_) rfl (by kernel_rfl) (by kernel_rfl) (by kernel_rfl) (fun _ _ _ h => h) (Or.inl ⟨by rfl, ?_⟩) (by assumption) ?_
        rotate_left
        · (intro w hSw; (try dsimp only at hSw); go_simp; first | done | with_reducible rfl)
        try simp only [List.getElem_toArray, List.getElem_cons_zero, List.getElem_cons_succ, Act.put, List.setIfInBounds_toArray, List.set_cons_zero, List.set_cons_succ]
        refine wpAnyH_take (i := 8) (v := ?_) rfl (by kernel_rfl) (by kernel_rfl) (by kernel_rfl) (fun _ _ _ h => h) (Or.inl ⟨by rfl, ?_⟩) (by assumption) ?_
        rotate_left
        · (intro w hSw; (try dsimp only at hSw); go_simp; first | done | with_reducible rfl)
        try simp only [List.getElem_toArray, List.getElem_cons_zero, List.getElem_cons_succ, Act.put, List.setIfInBounds_toArray, List.set_cons_zero, List.set_cons_succ]
        refine wpAnyH_ready (rs := [7]) (by kernel_rfl) (by simp) ?_
        refine AllReadyH.cons rfl (fun K hK => ?_) AllReadyH.nil
        go_simp
        (first
              | (go_at_call 47
                 ((with_reducible refine (frac_add bF1 ((qw_of2 cu cud).fr LCU) (by omega) (by omega)).mono ?_))
                 rintro e W70 ⟨V70, rfl, sm, u70⟩
                 replace QA := QA.up u70
                 replace QB := QB.up u70
                 replace F1 := F1.up u70
                 replace F2 := F2.up u70
                 replace F3 := F3.up u70
                 replace F4 := F4.up u70
                 replace bF1 := bF1.up u70
                 replace bF2 := bF2.up u70
                 replace bF3 := bF3.up u70
                 replace f := f.up u70
                 replace fd := fd.up u70
                 replace g := g.up u70
                 replace gd := gd.up u70
                 replace cu := cu.up u70
                 replace cud := cud.up u70
                 replace o := o.up u70
                 try (replace sm := sm.up u70)
                 replace b2 := b2.up u70
                 replace x7 := x7.up u70
                 replace x8 := x8.up u70
                 replace x9 := x9.up u70
                 replace x10 := x10.up u70
                 replace x11 := x11.up u70
                 replace x12 := x12.up u70
                 replace x13 := x13.up u70
                 replace x14 := x14.up u70
                 replace x15 := x15.up u70
                 replace UP := UP.trans u70
                 clear x7_6 x7_7 x7_8 x7_9 x7_10 x7_11 x8_0 x8_1 x8_2 x9_0 x9_1 x9_2 x10_0 x10_1 x10_2 x11_0 x11_1 x11_2 x12_0 x12_1 x12_2 x13_0 x13_1 x13_2 x14_0 x14_1 x14_2 x15_0 x15_1 x15_2
                 have x7_6 := x7.cell (i := 6) rfl
                 have x7_7 := x7.cell (i := 7) rfl
                 have x7_8 := x7.cell (i := 8) rfl
                 have x7_9 := x7.cell (i := 9) rfl
                 have x7_10 := x7.cell (i := 10) rfl
                 have x7_11 := x7.cell (i := 11) rfl
                 have x8_0 := x8.cell (i := 0) rfl
                 have x8_1 := x8.cell (i := 1) rfl
                 have x8_2 := x8.cell (i := 2) rfl
                 have x9_0 := x9.cell (i := 0) rfl
                 have x9_1 := x9.cell (i := 1) rfl
                 have x9_2 := x9.cell (i := 2) rfl
                 have x10_0 := x10.cell (i := 0) rfl
                 have x10_1 := x10.cell (i := 1) rfl
                 have x10_2 := x10.cell (i := 2) rfl
                 have x11_0 := x11.cell (i := 0) rfl
                 have x11_1 := x11.cell (i := 1) rfl
                 have x11_2 := x11.cell (i := 2) rfl
                 have x12_0 := x12.cell (i := 0) rfl
                 have x12_1 := x12.cell (i := 1) rfl
                 have x12_2 := x12.cell (i := 2) rfl
                 have x13_0 := x13.cell (i := 0) rfl
                 have x13_1 := x13.cell (i := 1) rfl
                 have x13_2 := x13.cell (i := 2) rfl
                 have x14_0 := x14.cell (i := 0) rfl
                 have x14_1 := x14.cell (i := 1) rfl
                 have x14_2 := x14.cell (i := 2) rfl
                 have x15_0 := x15.cell (i := 0) rfl
                 have x15_1 := x15.cell (i := 1) rfl
                 have x15_2 := x15.cell (i := 2) rfl
                 clear u70
                 rw [HSU.out] at sm))
        try go_wp2_with fail
        try clear hHeld
        refine hK.out _ _ ?_ (fun hHeld => ?_)
        · with_reducible exact ⟨UP, x7_6, x7_7, x7_8, x7_9, x7_10, x7_11, x8_0, x8_1, x8_2, x9_0, x9_1, x9_2, x12_0, x12_1, x12_2, x13_0, x13_1, x13_2, x14_0, x14_1, x14_2, x15_0, x15_1, x15_2, x7⟩
        clear hK K
        try simp only [List.getElem_toArray, List.getElem_cons_zero, List.getElem_cons_succ, Act.put, List.setIfInBounds_toArray, List.set_cons_zero, List.set_cons_succ]
        refine wpAnyH_ready (rs := [9]) (by kernel_rfl) (by simp) ?_
        refine AllReadyH.cons rfl (fun K hK => ?_) AllReadyH.nil
        go_simp
        (first
              | (go_at_call 62
                 ((with_reducible refine (frac_cmp (sm.fr LSU) bF2 (by omega) (by omega)).mono ?_))
                 rintro e W71 ⟨rfl, u71⟩
                 replace QA := QA.up u71
                 replace QB := QB.up u71
                 replace F1 := F1.up u71
                 replace F2 := F2.up u71
                 replace F3 := F3.up u71
                 replace F4 := F4.up u71
                 replace bF1 := bF1.up u71
                 replace bF2 := bF2.up u71
                 replace bF3 := bF3.up u71
                 replace f := f.up u71
                 replace fd := fd.up u71
                 replace g := g.up u71
                 replace gd := gd.up u71
                 replace cu := cu.up u71
                 replace cud := cud.up u71
                 replace o := o.up u71
                 try (replace sm := sm.up u71)
                 replace b2 := b2.up u71
                 replace x7 := x7.up u71
                 replace x8 := x8.up u71
                 replace x9 := x9.up u71
                 replace x10 := x10.up u71
                 replace x11 := x11.up u71
                 replace x12 := x12.up u71
                 replace x13 := x13.up u71
                 replace x14 := x14.up u71
                 replace x15 := x15.up u71
                 replace UP := UP.trans u71
                 clear x7_6 x7_7 x7_8 x7_9 x7_10 x7_11 x8_0 x8_1 x8_2 x9_0 x9_1 x9_2 x10_0 x10_1 x10_2 x11_0 x11_1 x11_2 x12_0 x12_1 x12_2 x13_0 x13_1 x13_2 x14_0 x14_1 x14_2 x15_0 x15_1 x15_2
                 have x7_6 := x7.cell (i := 6) rfl
                 have x7_7 := x7.cell (i := 7) rfl
                 have x7_8 := x7.cell (i := 8) rfl
                 have x7_9 := x7.cell (i := 9) rfl
                 have x7_10 := x7.cell (i := 10) rfl
                 have x7_11 := x7.cell (i := 11) rfl
                 have x8_0 := x8.cell (i := 0) rfl
                 have x8_1 := x8.cell (i := 1) rfl
                 have x8_2 := x8.cell (i := 2) rfl
                 have x9_0 := x9.cell (i := 0) rfl
                 have x9_1 := x9.cell (i := 1) rfl
                 have x9_2 := x9.cell (i := 2) rfl
                 have x10_0 := x10.cell (i := 0) rfl
                 have x10_1 := x10.cell (i := 1) rfl
                 have x10_2 := x10.cell (i := 2) rfl
                 have x11_0 := x11.cell (i := 0) rfl
                 have x11_1 := x11.cell (i := 1) rfl
                 have x11_2 := x11.cell (i := 2) rfl
                 have x12_0 := x12.cell (i := 0) rfl
                 have x12_1 := x12.cell (i := 1) rfl
                 have x12_2 := x12.cell (i := 2) rfl
                 have x13_0 := x13.cell (i := 0) rfl
                 have x13_1 := x13.cell (i := 1) rfl
                 have x13_2 := x13.cell (i := 2) rfl
                 have x14_0 := x14.cell (i := 0) rfl
                 have x14_1 := x14.cell (i := 1) rfl
                 have x14_2 := x14.cell (i := 2) rfl
                 have x15_0 := x15.cell (i := 0) rfl
                 have x15_1 := x15.cell (i := 1) rfl
                 have x15_2 := x15.cell (i := 2) rfl
                 clear u71
                 rw [HZ6.out]))
        try go_wp2_with fail
        try clear hHeld
        refine hK.out _ _ ?_ (fun hHeld => ?_)
        · with_reducible exact ⟨UP, x7_6, x7_7, x7_8, x7_9, x7_10, x7_11, x8_0, x8_1, x8_2, x9_0, x9_1, x9_2, x12_0, x12_1, x12_2, x13_0, x13_1, x13_2, x14_0, x14_1, x14_2, x15_0, x15_1, x15_2, x7⟩
        clear hK K
        try simp only [List.getElem_toArray, List.getElem_cons_zero, List.getElem_cons_succ, Act.put, List.setIfInBounds_toArray, List.set_cons_zero, List.set_cons_succ]
        refine wpAnyH_take (i := 10) (v := ?_) rfl (by kernel_rfl) (by kernel_rfl) (by kernel_rfl) (fun _ _ _ h => h) (Or.inl ⟨by rfl, ?_⟩) (by assumption) ?_
        rotate_left
        · (intro w hSw; (try dsimp only at hSw); go_simp; first | done | with_reducible rfl)
        try simp only [List.getElem_toArray, List.getElem_cons_zero, List.getElem_cons_succ, Act.put, List.setIfInBounds_toArray, List.set_cons_zero, List.set_cons_succ]
        refine wpAnyH_take (i := 11) (v := ?_) rfl (by kernel_rfl) (by kernel_rfl) (by kernel_rfl) (fun _ _ _ h => h) (Or.inl ⟨by rfl, ?_⟩) (by assumption) ?_
        rotate_left
        · (intro w hSw; (try dsimp only at hSw); go_simp; first | done | with_reducible rfl)
        try simp only [List.getElem_toArray, List.getElem_cons_zero, List.getElem_cons_succ, Act.put, List.setIfInBounds_toArray, List.set_cons_zero, List.set_cons_succ]
        refine wpAnyH_take (i := 12) (v := ?_) rfl (by kernel_rfl) (by kernel_rfl) (by kernel_rfl) (fun _ _ _ h => h) (Or.inl ⟨by rfl, ?_⟩) (by assumption) ?_
        rotate_left
        · (intro w hSw; (try dsimp only at hSw); go_simp; first | done | with_reducible rfl)
        try simp only [List.getElem_toArray, List.getElem_cons_zero, List.getElem_cons_succ, Act.put, List.setIfInBounds_toArray, List.set_cons_zero, List.set_cons_succ]
        refine wpAnyH_take (i := 13) (v := .agg #[.bool s1, .slice A1 l1.length c1, .slice D1 m1.length e1, .bool s2, .slice A2 l2.length c2, .slice D2 m2.length e2, .bool s3, .slice A3 l3.length c3, .slice D3 m3.length e3, .bool s4, .slice A4 l4.length c4, .slice D4 m4.length e4, .bool s5, .slice A5 l5.length c5, .slice D5 m5.length e5, .int .i64 fi, .int .i64 mo]) rfl (by kernel_rfl) (by kernel_rfl) (by kernel_rfl) (fun _ _ _ h => h) (Or.inl ⟨by rfl, fun w hSw => exec_load_box rfl rfl agg_rules size_rules hSw.2.2.2.2.2.2.2.2.2.2.2.2.2.2.2.2.2.2.2.2.2.2.2.2.2 rfl⟩) (by assumption) ?_
        try simp only [List.getElem_toArray, List.getElem_cons_zero, List.getElem_cons_succ, Act.put, List.setIfInBounds_toArray, List.set_cons_zero, List.set_cons_succ]
        refine wpAnyH_take (i := 14) (v := ?_) rfl (by kernel_rfl) (by kernel_rfl) (by kernel_rfl) (fun _ _ _ h => h) (Or.inl ⟨by rfl, ?_⟩) (by assumption) ?_
        rotate_left
        · (intro w hSw; (try dsimp only at hSw); go_simp; first | done | with_reducible rfl)
        try simp only [List.getElem_toArray, List.getElem_cons_zero, List.getElem_cons_succ, Act.put, List.setIfInBounds_toArray, List.set_cons_zero, List.set_cons_succ]
        refine wpAnyH_ready (rs := [15]) (by kernel_rfl) (by simp) ?_
        refine AllReadyH.cons rfl (fun K hK => ?_) AllReadyH.nil
        go_simp
        (first
              | (go_at_call 76
                 ((with_reducible refine (pace_accepts (QB.fr LB) F1 (by omega)).mono ?_))
                 rintro e W72 ⟨rfl, u72⟩
                 replace QA := QA.up u72
                 replace QB := QB.up u72
                 replace F1 := F1.up u72
                 replace F2 := F2.up u72
                 replace F3 := F3.up u72
                 replace F4 := F4.up u72
                 replace bF1 := bF1.up u72
                 replace bF2 := bF2.up u72
                 replace bF3 := bF3.up u72
                 replace f := f.up u72
                 replace fd := fd.up u72
                 replace g := g.up u72
                 replace gd := gd.up u72
                 replace cu := cu.up u72
                 replace cud := cud.up u72
                 replace o := o.up u72
                 try (replace sm := sm.up u72)
                 replace b2 := b2.up u72
                 replace x7 := x7.up u72
                 replace x8 := x8.up u72
                 replace x9 := x9.up u72
                 replace x10 := x10.up u72
                 replace x11 := x11.up u72
                 replace x12 := x12.up u72
                 replace x13 := x13.up u72
                 replace x14 := x14.up u72
                 replace x15 := x15.up u72
                 replace UP := UP.trans u72
                 clear x7_6 x7_7 x7_8 x7_9 x7_10 x7_11 x8_0 x8_1 x8_2 x9_0 x9_1 x9_2 x10_0 x10_1 x10_2 x11_0 x11_1 x11_2 x12_0 x12_1 x12_2 x13_0 x13_1 x13_2 x14_0 x14_1 x14_2 x15_0 x15_1 x15_2
                 have x7_6 := x7.cell (i := 6) rfl
                 have x7_7 := x7.cell (i := 7) rfl
                 have x7_8 := x7.cell (i := 8) rfl
                 have x7_9 := x7.cell (i := 9) rfl
                 have x7_10 := x7.cell (i := 10) rfl
                 have x7_11 := x7.cell (i := 11) rfl
                 have x8_0 := x8.cell (i := 0) rfl
                 have x8_1 := x8.cell (i := 1) rfl
                 have x8_2 := x8.cell (i := 2) rfl
                 have x9_0 := x9.cell (i := 0) rfl
                 have x9_1 := x9.cell (i := 1) rfl
                 have x9_2 := x9.cell (i := 2) rfl
                 have x10_0 := x10.cell (i := 0) rfl
                 have x10_1 := x10.cell (i := 1) rfl
                 have x10_2 := x10.cell (i := 2) rfl
                 have x11_0 := x11.cell (i := 0) rfl
                 have x11_1 := x11.cell (i := 1) rfl
                 have x11_2 := x11.cell (i := 2) rfl
                 have x12_0 := x12.cell (i := 0) rfl
                 have x12_1 := x12.cell (i := 1) rfl
                 have x12_2 := x12.cell (i := 2) rfl
                 have x13_0 := x13.cell (i := 0) rfl
                 have x13_1 := x13.cell (i := 1) rfl
                 have x13_2 := x13.cell (i := 2) rfl
                 have x14_0 := x14.cell (i := 0) rfl
                 have x14_1 := x14.cell (i := 1) rfl
                 have x14_2 := x14.cell (i := 2) rfl
                 have x15_0 := x15.cell (i := 0) rfl
                 have x15_1 := x15.cell (i := 1) rfl
                 have x15_2 := x15.cell (i := 2) rfl
                 clear u72
                 rw [DB.out]))
        try go_wp2_with fail
        try clear hHeld
        refine hK.out _ _ ?_ (fun hHeld => ?_)
        · with_reducible exact ⟨UP, x7_6, x7_7, x7_8, x7_9, x7_10, x7_11, x8_0, x8_1, x8_2, x9_0, x9_1, x9_2, x12_0, x12_1, x12_2, x13_0, x13_1, x13_2, x14_0, x14_1, x14_2, x15_0, x15_1, x15_2, x7⟩
        clear hK K
        try simp only [List.getElem_toArray, List.getElem_cons_zero, List.getElem_cons_succ, Act.put, List.setIfInBounds_toArray, List.set_cons_zero, List.set_cons_succ]
        refine wpAnyH_take (i := 16) (v := ?_) rfl (by kernel_rfl) (by kernel_rfl) (by kernel_rfl) (fun _ _ _ h => h) (Or.inl ⟨by rfl, ?_⟩) (by assumption) ?_
        rotate_left
        · (intro w hSw; (try dsimp only at hSw); go_simp; first | done | with_reducible rfl)
        try simp only [List.getElem_toArray, List.getElem_cons_zero, List.getElem_cons_succ, Act.put, List.setIfInBounds_toArray, List.set_cons_zero, List.set_cons_succ]
        refine wpAnyH_take (i := 17) (v := ?_) rfl (by kernel_rfl) (by kernel_rfl) (by kernel_rfl) (fun _ _ _ h => h) (Or.inl ⟨by rfl, ?_⟩) (by assumption) ?_
        rotate_left
        · (intro w hSw; (try dsimp only at hSw); go_simp; first | done | with_reducible rfl)
        try simp only [List.getElem_toArray, List.getElem_cons_zero, List.getElem_cons_succ, Act.put, List.setIfInBounds_toArray, List.set_cons_zero, List.set_cons_succ]
        refine wpAnyH_take (i := 18) (v := undef) rfl (by kernel_rfl) (by kernel_rfl) (by kernel_rfl) (fun _ _ _ h => h) (Or.inr ⟨by rfl, rfl⟩) (by assumption) ?_
        try simp only [List.getElem_toArray, List.getElem_cons_zero, List.getElem_cons_succ, Act.put, List.setIfInBounds_toArray, List.set_cons_zero, List.set_cons_succ]
        refine wpAnyH_take (i := 19) (v := undef) rfl (by kernel_rfl) (by kernel_rfl) (by kernel_rfl) (fun _ _ _ h => h) (Or.inr ⟨by rfl, rfl⟩) (by assumption) ?_
        try simp only [List.getElem_toArray, List.getElem_cons_zero, List.getElem_cons_succ, Act.put, List.setIfInBounds_toArray, List.set_cons_zero, List.set_cons_succ]
        refine wpAnyH_take (i := 20) (v := undef) rfl (by kernel_rfl) (by kernel_rfl) (by kernel_rfl) (fun _ _ _ h => h) (Or.inr ⟨by rfl, rfl⟩) (by assumption) ?_
        try simp only [List.getElem_toArray, List.getElem_cons_zero, List.getElem_cons_succ, Act.put, List.setIfInBounds_toArray, List.set_cons_zero, List.set_cons_succ]
        refine wpAnyH_take (i := 21) (v := ?_) rfl (by kernel_rfl) (by kernel_rfl) (by kernel_rfl) (fun _ _ _ h => h) (Or.inl ⟨by rfl, ?_⟩) (by assumption) ?_
        rotate_left
        · (intro w hSw; (try dsimp only at hSw); go_simp; first | done | with_reducible rfl)
        try simp only [List.getElem_toArray, List.getElem_cons_zero, List.getElem_cons_succ, Act.put, List.setIfInBounds_toArray, List.set_cons_zero, List.set_cons_succ]
        refine wpAnyH_take (i := 22) (v := ?_) rfl (by kernel_rfl) (by kernel_rfl) (by kernel_rfl) (fun _ _ _ h => h) (Or.inl ⟨by rfl, ?_⟩) (by assumption) ?_
        rotate_left
        · (intro w hSw; (try dsimp only at hSw); go_simp; first | done | with_reducible rfl)
        try simp only [List.getElem_toArray, List.getElem_cons_zero, List.getElem_cons_succ, Act.put, List.setIfInBounds_toArray, List.set_cons_zero, List.set_cons_succ]
        refine wpAnyH_take (i := 23) (v := ?_) rfl (by kernel_rfl) (by kernel_rfl) (by kernel_rfl) (fun _ _ _ h => h) (Or.inl ⟨by rfl, ?_⟩) (by assumption) ?_
        rotate_left
        · (intro w hSw; (try dsimp only at hSw); go_simp; first | done | with_reducible rfl)
        try simp only [List.getElem_toArray, List.getElem_cons_zero, List.getElem_cons_succ, Act.put, List.setIfInBounds_toArray, List.set_cons_zero, List.set_cons_succ]
        refine wpAnyH_ready (rs := [24]) (by kernel_rfl) (by simp) ?_
        refine AllReadyH.cons rfl (fun K hK => ?_) AllReadyH.nil
        go_simp
        (first
              | (go_at_call 70
                 ((with_reducible refine (works36 _).mono ?_))
                 rintro e W73 ⟨rfl, u73⟩
                 replace QA := QA.up u73
                 replace QB := QB.up u73
                 replace F1 := F1.up u73
                 replace F2 := F2.up u73
                 replace F3 := F3.up u73
                 replace F4 := F4.up u73
                 replace bF1 := bF1.up u73
                 replace bF2 := bF2.up u73
                 replace bF3 := bF3.up u73
                 replace f := f.up u73
                 replace fd := fd.up u73
                 replace g := g.up u73
                 replace gd := gd.up u73
                 replace cu := cu.up u73
                 replace cud := cud.up u73
                 replace o := o.up u73
                 try (replace sm := sm.up u73)
                 replace b2 := b2.up u73
                 replace x7 := x7.up u73
                 replace x8 := x8.up u73
                 replace x9 := x9.up u73
                 replace x10 := x10.up u73
                 replace x11 := x11.up u73
                 replace x12 := x12.up u73
                 replace x13 := x13.up u73
                 replace x14 := x14.up u73
                 replace x15 := x15.up u73
                 replace UP := UP.trans u73
                 clear x7_6 x7_7 x7_8 x7_9 x7_10 x7_11 x8_0 x8_1 x8_2 x9_0 x9_1 x9_2 x10_0 x10_1 x10_2 x11_0 x11_1 x11_2 x12_0 x12_1 x12_2 x13_0 x13_1 x13_2 x14_0 x14_1 x14_2 x15_0 x15_1 x15_2
                 have x7_6 := x7.cell (i := 6) rfl
                 have x7_7 := x7.cell (i := 7) rfl
                 have x7_8 := x7.cell (i := 8) rfl
                 have x7_9 := x7.cell (i := 9) rfl
                 have x7_10 := x7.cell (i := 10) rfl
                 have x7_11 := x7.cell (i := 11) rfl
                 have x8_0 := x8.cell (i := 0) rfl
                 have x8_1 := x8.cell (i := 1) rfl
                 have x8_2 := x8.cell (i := 2) rfl
                 have x9_0 := x9.cell (i := 0) rfl
                 have x9_1 := x9.cell (i := 1) rfl
                 have x9_2 := x9.cell (i := 2) rfl
                 have x10_0 := x10.cell (i := 0) rfl
                 have x10_1 := x10.cell (i := 1) rfl
                 have x10_2 := x10.cell (i := 2) rfl
                 have x11_0 := x11.cell (i := 0) rfl
                 have x11_1 := x11.cell (i := 1) rfl
                 have x11_2 := x11.cell (i := 2) rfl
                 have x12_0 := x12.cell (i := 0) rfl
                 have x12_1 := x12.cell (i := 1) rfl
                 have x12_2 := x12.cell (i := 2) rfl
                 have x13_0 := x13.cell (i := 0) rfl
                 have x13_1 := x13.cell (i := 1) rfl
                 have x13_2 := x13.cell (i := 2) rfl
                 have x14_0 := x14.cell (i := 0) rfl
                 have x14_1 := x14.cell (i := 1) rfl
                 have x14_2 := x14.cell (i := 2) rfl
                 have x15_0 := x15.cell (i := 0) rfl
                 have x15_1 := x15.cell (i := 1) rfl
                 have x15_2 := x15.cell (i := 2) rfl
                 clear u73))
        try go_wp2_with fail
        try clear hHeld
        refine hK.out _ _ ?_ (fun hHeld => ?_)
        · with_reducible exact ⟨UP, x7_6, x7_7, x7_8, x7_9, x7_10, x7_11, x8_0, x8_1, x8_2, x9_0, x9_1, x9_2, x12_0, x12_1, x12_2, x13_0, x13_1, x13_2, x14_0, x14_1, x14_2, x15_0, x15_1, x15_2, x7⟩
        clear hK K
        try simp only [List.getElem_toArray, List.getElem_cons_zero, List.getElem_cons_succ, Act.put, List.setIfInBounds_toArray, List.set_cons_zero, List.set_cons_succ]
        refine wpAnyH_take (i := 25) (v := ?_) rfl (by kernel_rfl) (by kernel_rfl) (by kernel_rfl) (fun _ _ _ h => h) (Or.inl ⟨by rfl, ?_⟩) (by assumption) ?_
        rotate_left
        · (intro w hSw; (try dsimp only at hSw); go_simp; first | done | with_reducible rfl)
        try simp only [List.getElem_toArray, List.getElem_cons_zero, List.getElem_cons_succ, Act.put, List.setIfInBounds_toArray, List.set_cons_zero, List.set_cons_succ]
        refine wpAnyH_ready (rs := [26]) (by kernel_rfl) (by simp) ?_
        refine AllReadyH.cons rfl (fun K hK => ?_) AllReadyH.nil
        go_simp
        skip
        try go_wp2_with fail
        try clear hHeld
        refine hK.out _ _ ?_ (fun hHeld => ?_)
        · with_reducible exact ⟨UP, x7_6, x7_7, x7_8, x7_9, x7_10, x7_11, x8_0, x8_1, x8_2, x9_0, x9_1, x9_2, x12_0, x12_1, x12_2, x13_0, x13_1, x13_2, x14_0, x14_1, x14_2, x15_0, x15_1, x15_2, x7⟩
        clear hK K
        try simp only [List.getElem_toArray, List.getElem_cons_zero, List.getElem_cons_succ, Act.put, List.setIfInBounds_toArray, List.set_cons_zero, List.set_cons_succ]
        refine wpAnyH_done (by kernel_rfl) ?_ _
        refine NoPanic.normal ?_
        clear hHeld
        go_wp2_with (with_reducible show wpList _ _ _ _ _ _; refine wl_load_box (o := ⟨_, Op.load 105 _, _, _, _, _⟩) rfl _ rfl rfl agg_rules size_rules (by first | exact x7 | exact x7.up ((Up.refl _).alloc _)) rfl ?_)
        go_ret
        exact ⟨rfl, UP⟩
end Go.Proofs.Ytmmcffceeahemaa
