/-
  The walks of the statements of layer 1.
-/
import Derived.Test.YtelgenhmmfkmhaaMem
set_option linter.unusedVariables false
set_option linter.unusedSimpArgs false
namespace Go.Proofs.Ytelgenhmmfkmhaa
open Go.RowKit

set_option maxHeartbeats 400000 in
theorem limb_works (w : World) : Calls Try.prog 35 #[] w fun e w' => e = .returned (.bool true) ∧ w = w' := by
  go_enter Try.func35, Try.ntmps35
  go_wp2_with fail
  refine (limb_add 4294967295 1 0 rfl rfl rfl (by rw [Wd.B_eq]; omega) (by rw [Wd.B_eq]; omega) (by rw [Wd.B_eq]; omega) _).mono ?_
  rintro e w' ⟨rfl, rfl⟩
  have h1 : Wd.addS 4294967295 1 0 = 0 := rfl
  have h2 : Wd.addC 4294967295 1 0 = 1 := rfl
  rw [h1, h2]
  clear h1 h2
  go_wp2_with fail
  refine (limb_len 8 rfl (by rw [Wd.B_eq]; omega) _).mono ?_
  rintro e w' ⟨rfl, rfl⟩
  have h1 : Wd.bl 8 = 4 := by rw [Wd.bl_shift 3 8 (by omega), Wd.bl_small (by omega)]
  rw [h1]
  clear h1
  go_wp2_with fail
  refine (limb_zeros 8 rfl (by rw [Wd.B_eq]; omega) (by omega) _).mono ?_
  rintro e w' ⟨rfl, rfl⟩
  have h1 : Wd.tz 8 = 3 := by rw [Wd.tz_shift 3 8 (by omega) (by omega), Wd.tz_odd (by omega)]
  rw [h1]
  clear h1
  go_wp2
  go_ret
  exact ⟨rfl, rfl⟩

set_option maxHeartbeats 400000 in
theorem limbBits_walk (x : Nat) (hx : x < Wd.B) (w : World) : Calls Try.prog 3 #[.int .u32 x] w fun e w' => e = .returned (.bool true) ∧ w = w' := by
  go_enter Try.func3, Try.ntmps3
  go_wp2_with fail
  refine (limb_len x rfl hx _).mono ?_
  rintro e w' ⟨rfl, rfl⟩
  go_wp2_with fail
  refine (ref_len1 x rfl hx _).mono ?_
  rintro e w' ⟨rfl, rfl⟩
  rcases Nat.eq_zero_or_pos x with rfl | h0
  · go_wp2_with fail
    refine (limb_zeros_0 rfl _).mono ?_
    rintro e w' ⟨rfl, rfl⟩
    go_wp2_with fail
    refine (ref_zeros1_0 rfl _).mono ?_
    rintro e w' ⟨rfl, rfl⟩
    go_wp2_with fail
    refine (limb_works _).mono ?_
    rintro e w' ⟨rfl, rfl⟩
    go_wp2
    go_ret
    exact ⟨rfl, rfl⟩
  · go_wp2_with fail
    refine (limb_zeros x rfl hx h0 _).mono ?_
    rintro e w' ⟨rfl, rfl⟩
    go_wp2_with fail
    refine (ref_zeros1 x rfl hx h0 _).mono ?_
    rintro e w' ⟨rfl, rfl⟩
    go_wp2_with fail
    refine (limb_works _).mono ?_
    rintro e w' ⟨rfl, rfl⟩
    go_wp2
    go_ret
    exact ⟨rfl, rfl⟩

set_option maxHeartbeats 400000 in
theorem limbAdds_walk (x y c : Nat) (hx : x < Wd.B) (hy : y < Wd.B) (hc : c < Wd.B) (w : World) : Calls Try.prog 4 #[.int .u32 x, .int .u32 y, .int .u32 c] w fun e w' => e = .returned (.bool true) ∧ w = w' := by
  go_enter Try.func4, Try.ntmps4
  go_wp2_with fail
  refine (limb_add x y c rfl rfl rfl hx hy hc _).mono ?_
  rintro e w' ⟨rfl, rfl⟩
  go_wp2_with fail
  refine (ref_add1 x y c rfl rfl rfl hx hy hc _).mono ?_
  rintro e w' ⟨rfl, rfl⟩
  go_wp2_with fail
  refine (limb_sub x y c rfl rfl rfl hx hy hc _).mono ?_
  rintro e w' ⟨rfl, rfl⟩
  go_wp2_with fail
  refine (ref_sub1 x y c rfl rfl rfl hx hy hc _).mono ?_
  rintro e w' ⟨rfl, rfl⟩
  go_wp2_with fail
  refine (limb_works _).mono ?_
  rintro e w' ⟨rfl, rfl⟩
  go_wp2
  go_ret
  exact ⟨rfl, rfl⟩

set_option maxHeartbeats 400000 in
theorem limbTimes_walk (x y c d : Nat) (hx : x < Wd.B) (hy : y < Wd.B) (hc : c < Wd.B) (hd : d < Wd.B) (w : World) : Calls Try.prog 5 #[.agg #[.int .u32 x, .int .u32 y, .int .u32 c, .int .u32 d]] w fun e w' => e = .returned (.bool true) ∧ Below w.heap.size w w' := by
  by_cases h : c ≤ x
  all_goals
    go_enter Try.func5, Try.ntmps5
    go_wp2_with fail
    refine (limb_mul x y c d rfl rfl rfl rfl hx hy hc hd _).mono ?_
    rintro e w' ⟨rfl, rfl⟩
    go_wp2_with fail
    refine (ref_mul1 x y c d rfl rfl rfl rfl hx hy hc hd _).mono ?_
    rintro e w' ⟨rfl, rfl⟩
    go_wp2_with fail
  · refine (limb_div_no x y c rfl rfl rfl hx hy hc h _).mono ?_
    rintro e w' ⟨rfl, rfl⟩
    go_wp2_with fail
    refine (ref_div1_no x y c rfl rfl rfl hx hy hc h _).mono ?_
    rintro e w' ⟨rfl, rfl⟩
    go_wp2_with fail
    refine (limb_works _).mono ?_
    rintro e w' ⟨rfl, rfl⟩
    go_wp2
    go_ret
    exact ⟨rfl, (Below.refl _ _).alloc (Nat.le_refl _) _⟩
  · refine (limb_div x y c rfl rfl rfl hx hy hc (by omega) _).mono ?_
    rintro e w' ⟨n, rfl, rfl⟩
    go_wp2_with fail
    refine (ref_div1 x y c rfl rfl rfl hx hy hc (by omega) _).mono ?_
    rintro e w' ⟨rfl, rfl⟩
    go_wp2_with fail
    refine (limb_works _).mono ?_
    rintro e w' ⟨rfl, rfl⟩
    go_wp2
    go_ret
    exact ⟨rfl, ((Up.refl w).alloc _).drewN n⟩

theorem back_sub {x y c : Nat} (hx : x < Wd.B) (hy : y < Wd.B) (hc : c < Wd.B) : Wd.subD (Wd.addS x y c) y c = x ∧ Wd.subB (Wd.addS x y c) y c = Wd.addC x y c := by
  rw [Wd.B_eq] at hx hy hc
  unfold Wd.subD Wd.subB Wd.addS Wd.addC
  omega
theorem back_mul {x y d : Nat} (hx : x < Wd.B) (hy : y < Wd.B) : Wd.mulH (Wd.divQ x y d) d (Wd.divR x y d) 0 = x ∧ Wd.mulL (Wd.divQ x y d) d (Wd.divR x y d) 0 = y := by
  have h := Wd.div_eq x y d
  rw [Wd.B_eq] at hx hy h
  unfold Wd.mulH Wd.mulL
  rw [Nat.add_zero, h]
  omega

set_option maxHeartbeats 800000 in
theorem limbBack_walk (x y c d : Nat) (hx : x < Wd.B) (hy : y < Wd.B) (hc : c < Wd.B) (hd : d < Wd.B) (w : World) : Calls Try.prog 6 #[.agg #[.int .u32 x, .int .u32 y, .int .u32 c, .int .u32 d]] w fun e w' => e = .returned (.bool true) ∧ Below w.heap.size w w' := by
  have hs := Wd.addS_lt x y c
  have hb := back_sub hx hy hc
  have HB1 := Lib.hid hb.1
  have HB2 := Lib.hid hb.2
  clear hb
  by_cases h : d ≤ x
  all_goals
    go_enter Try.func6, Try.ntmps6
    go_wp2_with fail
    refine (limb_add x y c rfl rfl rfl hx hy hc _).mono ?_
    rintro e w' ⟨rfl, rfl⟩
    go_wp2_with fail
    refine (limb_sub (Wd.addS x y c) y c rfl rfl rfl hs hy hc _).mono ?_
    rintro e w' ⟨rfl, rfl⟩
    rw [HB1.out, HB2.out]
    go_wp2_with fail
  · refine (limb_div_no x y d rfl rfl rfl hx hy hd h _).mono ?_
    rintro e w' ⟨rfl, rfl⟩
    go_wp2_with fail
    refine (limb_works _).mono ?_
    rintro e w' ⟨rfl, rfl⟩
    go_wp2
    go_ret
    exact ⟨rfl, ((Up.refl w).alloc _)⟩
  · have hlt : x < d := by omega
    have hq := Wd.divQ_lt hy hlt
    have hr := Wd.divR_lt (h := x) (l := y) (y := d) (by omega)
    have hr2 : Wd.divR x y d < Wd.B := Nat.lt_trans hr hd
    have hb := back_mul (x := x) (y := y) (d := d) hx hy
    have HB3 := Lib.hid hb.1
    have HB4 := Lib.hid hb.2
    clear hb
    refine (limb_div x y d rfl rfl rfl hx hy hd hlt _).mono ?_
    rintro e w' ⟨n, rfl, rfl⟩
    go_wp2_with fail
    refine (limb_mul (Wd.divQ x y d) d (Wd.divR x y d) 0 rfl rfl rfl rfl hq hd hr2 Wd.B_pos _).mono ?_
    rintro e w' ⟨rfl, rfl⟩
    rw [HB3.out, HB4.out]
    go_wp2_with fail
    refine (limb_works _).mono ?_
    rintro e w' ⟨rfl, rfl⟩
    go_wp2
    go_ret
    exact ⟨rfl, ((Up.refl w).alloc _).drewN n⟩
end Go.Proofs.Ytelgenhmmfkmhaa
