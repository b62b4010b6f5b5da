/-
  The walk of FracField.
-/
import Derived.Test.YtmmcffceeahemaaFracRight
import Derived.Test.YtmmcffceeahemaaFracWorks
set_option linter.unusedVariables false
set_option linter.unusedSimpArgs false
namespace Go.Proofs.Ytmmcffceeahemaa
open Go.RowKit

set_option maxRecDepth 100000 in
set_option maxHeartbeats 12800000 in
theorem fracField_walk {s s' s'' : Bool} {u v u' v' u'' v'' : Value} {l m l' m' l'' m'' : List Nat} {w : World} (hl : Ws w u l) (hm : Ws w v m) (hl' : Ws w u' l') (hm' : Ws w v' m') (hl'' : Ws w u'' l'') (hm'' : Ws w v'' m'') :
    Calls Try.prog 7 #[.agg #[.bool s, u, v], .agg #[.bool s', u', v'], .agg #[.bool s'', u'', v'']] w fun e w' => e = .returned (.bool true) ∧ Up w w' := by
  obtain ⟨A, c, rfl⟩ := hl.form
  obtain ⟨D, d, rfl⟩ := hm.form
  obtain ⟨A', c', rfl⟩ := hl'.form
  obtain ⟨D', d', rfl⟩ := hm'.form
  obtain ⟨A'', c'', rfl⟩ := hl''.form
  obtain ⟨D'', d'', rfl⟩ := hm''.form
  by_cases h1 : (6 : Int) < (l.length : Int) ∨ (6 : Int) < (m.length : Int)
  · have H1 := Lib.hid h1
    clear h1
    have UP : Up w (((w.alloc (.cells #[.bool s, .slice A l.length c, .slice D m.length d] 61)).alloc (.cells #[.bool s', .slice A' l'.length c', .slice D' m'.length d'] 61)).alloc (.cells #[.bool s'', .slice A'' l''.length c'', .slice D'' m''.length d''] 61)) := (((Up.refl w).alloc _).alloc _).alloc _
    obtain ⟨b0, b1, b2⟩ := bx_three 61 61 61 w [.bool s, .slice A l.length c, .slice D m.length d] [.bool s', .slice A' l'.length c', .slice D' m'.length d'] [.bool s'', .slice A'' l''.length c'', .slice D'' m''.length d'']
    go_enter Try.func7, Try.ntmps7
    go_wp2_with fail
    generalize (((w.alloc (.cells #[.bool s, .slice A l.length c, .slice D m.length d] 61)).alloc (.cells #[.bool s', .slice A' l'.length c', .slice D' m'.length d'] 61)).alloc (.cells #[.bool s'', .slice A'' l''.length c'', .slice D'' m''.length d''] 61)) = W at *
    obtain ⟨b0_0, b0_1, b0_2⟩ := b0.c3
    obtain ⟨b1_0, b1_1, b1_2⟩ := b1.c3
    obtain ⟨b2_0, b2_1, b2_2⟩ := b2.c3
    go_wp2_with fail
    ((with_reducible refine (ref_long9_yes H1.out (by omega)).mono ?_))
    rintro e W1 ⟨rfl, u1⟩
    replace b0 := b0.up u1
    replace b1 := b1.up u1
    replace b2 := b2.up u1
    replace UP := UP.trans u1
    clear b0_0 b0_1 b0_2 b1_0 b1_1 b1_2 b2_0 b2_1 b2_2
    obtain ⟨b0_0, b0_1, b0_2⟩ := b0.c3
    obtain ⟨b1_0, b1_1, b1_2⟩ := b1.c3
    obtain ⟨b2_0, b2_1, b2_2⟩ := b2.c3
    clear u1
    go_wp2_with fail
    ((with_reducible refine (works9 _).mono ?_))
    rintro e W2 ⟨rfl, u2⟩
    replace b0 := b0.up u2
    replace b1 := b1.up u2
    replace b2 := b2.up u2
    replace UP := UP.trans u2
    clear b0_0 b0_1 b0_2 b1_0 b1_1 b1_2 b2_0 b2_1 b2_2
    obtain ⟨b0_0, b0_1, b0_2⟩ := b0.c3
    obtain ⟨b1_0, b1_1, b1_2⟩ := b1.c3
    obtain ⟨b2_0, b2_1, b2_2⟩ := b2.c3
    clear u2
    go_wp2
    go_ret
    exact ⟨rfl, UP⟩
  have l1 : (l.length : Int) ≤ 6 := by omega
  have l2 : (m.length : Int) ≤ 6 := by omega
  clear h1
  by_cases h1 : (6 : Int) < (l'.length : Int) ∨ (6 : Int) < (m'.length : Int)
  · have H1 := Lib.hid h1
    clear h1
    have UP : Up w (((w.alloc (.cells #[.bool s, .slice A l.length c, .slice D m.length d] 61)).alloc (.cells #[.bool s', .slice A' l'.length c', .slice D' m'.length d'] 61)).alloc (.cells #[.bool s'', .slice A'' l''.length c'', .slice D'' m''.length d''] 61)) := (((Up.refl w).alloc _).alloc _).alloc _
    obtain ⟨b0, b1, b2⟩ := bx_three 61 61 61 w [.bool s, .slice A l.length c, .slice D m.length d] [.bool s', .slice A' l'.length c', .slice D' m'.length d'] [.bool s'', .slice A'' l''.length c'', .slice D'' m''.length d'']
    go_enter Try.func7, Try.ntmps7
    go_wp2_with fail
    generalize (((w.alloc (.cells #[.bool s, .slice A l.length c, .slice D m.length d] 61)).alloc (.cells #[.bool s', .slice A' l'.length c', .slice D' m'.length d'] 61)).alloc (.cells #[.bool s'', .slice A'' l''.length c'', .slice D'' m''.length d''] 61)) = W at *
    obtain ⟨b0_0, b0_1, b0_2⟩ := b0.c3
    obtain ⟨b1_0, b1_1, b1_2⟩ := b1.c3
    obtain ⟨b2_0, b2_1, b2_2⟩ := b2.c3
    go_wp2_with fail
    ((with_reducible refine (ref_long9_no l1 l2 (by omega)).mono ?_))
    rintro e W1 ⟨rfl, u1⟩
    replace b0 := b0.up u1
    replace b1 := b1.up u1
    replace b2 := b2.up u1
    replace UP := UP.trans u1
    clear b0_0 b0_1 b0_2 b1_0 b1_1 b1_2 b2_0 b2_1 b2_2
    obtain ⟨b0_0, b0_1, b0_2⟩ := b0.c3
    obtain ⟨b1_0, b1_1, b1_2⟩ := b1.c3
    obtain ⟨b2_0, b2_1, b2_2⟩ := b2.c3
    clear u1
    go_wp2_with fail
    ((with_reducible refine (ref_long9_yes H1.out (by omega)).mono ?_))
    rintro e W2 ⟨rfl, u2⟩
    replace b0 := b0.up u2
    replace b1 := b1.up u2
    replace b2 := b2.up u2
    replace UP := UP.trans u2
    clear b0_0 b0_1 b0_2 b1_0 b1_1 b1_2 b2_0 b2_1 b2_2
    obtain ⟨b0_0, b0_1, b0_2⟩ := b0.c3
    obtain ⟨b1_0, b1_1, b1_2⟩ := b1.c3
    obtain ⟨b2_0, b2_1, b2_2⟩ := b2.c3
    clear u2
    go_wp2_with fail
    ((with_reducible refine (works9 _).mono ?_))
    rintro e W3 ⟨rfl, u3⟩
    replace b0 := b0.up u3
    replace b1 := b1.up u3
    replace b2 := b2.up u3
    replace UP := UP.trans u3
    clear b0_0 b0_1 b0_2 b1_0 b1_1 b1_2 b2_0 b2_1 b2_2
    obtain ⟨b0_0, b0_1, b0_2⟩ := b0.c3
    obtain ⟨b1_0, b1_1, b1_2⟩ := b1.c3
    obtain ⟨b2_0, b2_1, b2_2⟩ := b2.c3
    clear u3
    go_wp2
    go_ret
    exact ⟨rfl, UP⟩
  have l3 : (l'.length : Int) ≤ 6 := by omega
  have l4 : (m'.length : Int) ≤ 6 := by omega
  clear h1
  by_cases h1 : (6 : Int) < (l''.length : Int) ∨ (6 : Int) < (m''.length : Int)
  · have H1 := Lib.hid h1
    clear h1
    have UP : Up w (((w.alloc (.cells #[.bool s, .slice A l.length c, .slice D m.length d] 61)).alloc (.cells #[.bool s', .slice A' l'.length c', .slice D' m'.length d'] 61)).alloc (.cells #[.bool s'', .slice A'' l''.length c'', .slice D'' m''.length d''] 61)) := (((Up.refl w).alloc _).alloc _).alloc _
    obtain ⟨b0, b1, b2⟩ := bx_three 61 61 61 w [.bool s, .slice A l.length c, .slice D m.length d] [.bool s', .slice A' l'.length c', .slice D' m'.length d'] [.bool s'', .slice A'' l''.length c'', .slice D'' m''.length d'']
    go_enter Try.func7, Try.ntmps7
    go_wp2_with fail
    generalize (((w.alloc (.cells #[.bool s, .slice A l.length c, .slice D m.length d] 61)).alloc (.cells #[.bool s', .slice A' l'.length c', .slice D' m'.length d'] 61)).alloc (.cells #[.bool s'', .slice A'' l''.length c'', .slice D'' m''.length d''] 61)) = W at *
    obtain ⟨b0_0, b0_1, b0_2⟩ := b0.c3
    obtain ⟨b1_0, b1_1, b1_2⟩ := b1.c3
    obtain ⟨b2_0, b2_1, b2_2⟩ := b2.c3
    go_wp2_with fail
    ((with_reducible refine (ref_long9_no l1 l2 (by omega)).mono ?_))
    rintro e W1 ⟨rfl, u1⟩
    replace b0 := b0.up u1
    replace b1 := b1.up u1
    replace b2 := b2.up u1
    replace UP := UP.trans u1
    clear b0_0 b0_1 b0_2 b1_0 b1_1 b1_2 b2_0 b2_1 b2_2
    obtain ⟨b0_0, b0_1, b0_2⟩ := b0.c3
    obtain ⟨b1_0, b1_1, b1_2⟩ := b1.c3
    obtain ⟨b2_0, b2_1, b2_2⟩ := b2.c3
    clear u1
    go_wp2_with fail
    ((with_reducible refine (ref_long9_no l3 l4 (by omega)).mono ?_))
    rintro e W2 ⟨rfl, u2⟩
    replace b0 := b0.up u2
    replace b1 := b1.up u2
    replace b2 := b2.up u2
    replace UP := UP.trans u2
    clear b0_0 b0_1 b0_2 b1_0 b1_1 b1_2 b2_0 b2_1 b2_2
    obtain ⟨b0_0, b0_1, b0_2⟩ := b0.c3
    obtain ⟨b1_0, b1_1, b1_2⟩ := b1.c3
    obtain ⟨b2_0, b2_1, b2_2⟩ := b2.c3
    clear u2
    go_wp2_with fail
    ((with_reducible refine (ref_long9_yes H1.out (by omega)).mono ?_))
    rintro e W3 ⟨rfl, u3⟩
    replace b0 := b0.up u3
    replace b1 := b1.up u3
    replace b2 := b2.up u3
    replace UP := UP.trans u3
    clear b0_0 b0_1 b0_2 b1_0 b1_1 b1_2 b2_0 b2_1 b2_2
    obtain ⟨b0_0, b0_1, b0_2⟩ := b0.c3
    obtain ⟨b1_0, b1_1, b1_2⟩ := b1.c3
    obtain ⟨b2_0, b2_1, b2_2⟩ := b2.c3
    clear u3
    go_wp2_with fail
    ((with_reducible refine (works9 _).mono ?_))
    rintro e W4 ⟨rfl, u4⟩
    replace b0 := b0.up u4
    replace b1 := b1.up u4
    replace b2 := b2.up u4
    replace UP := UP.trans u4
    clear b0_0 b0_1 b0_2 b1_0 b1_1 b1_2 b2_0 b2_1 b2_2
    obtain ⟨b0_0, b0_1, b0_2⟩ := b0.c3
    obtain ⟨b1_0, b1_1, b1_2⟩ := b1.c3
    obtain ⟨b2_0, b2_1, b2_2⟩ := b2.c3
    clear u4
    go_wp2
    go_ret
    exact ⟨rfl, UP⟩
  have l5 : (l''.length : Int) ≤ 6 := by omega
  have l6 : (m''.length : Int) ≤ 6 := by omega
  clear h1
  obtain ⟨x, hx⟩ : ∃ q, mkRat (Wd.iv s (Wd.val l)) (Wd.val m) = q := ⟨_, rfl⟩
  obtain ⟨y, hy⟩ : ∃ q, mkRat (Wd.iv s' (Wd.val l')) (Wd.val m') = q := ⟨_, rfl⟩
  obtain ⟨z, hz⟩ : ∃ q, mkRat (Wd.iv s'' (Wd.val l'')) (Wd.val m'') = q := ⟨_, rfl⟩
  have FX : Fr w (.agg #[.bool s, .slice A l.length c, .slice D m.length d]) x 6 := ⟨s, _, _, l, m, rfl, hl, hm, hx, by omega, by omega, by omega⟩
  have FY : Fr w (.agg #[.bool s', .slice A' l'.length c', .slice D' m'.length d']) y 6 := ⟨s', _, _, l', m', rfl, hl', hm', hy, by omega, by omega, by omega⟩
  have FZ : Fr w (.agg #[.bool s'', .slice A'' l''.length c'', .slice D'' m''.length d'']) z 6 := ⟨s'', _, _, l'', m'', rfl, hl'', hm'', hz, by omega, by omega, by omega⟩
  clear hx hy hz hl hm hl' hm' hl'' hm''
  have LX := FX.lq
  have LS := FX.lq.add FY.lq
  have LT := FX.lq.mul FY.lq
  have L1 := LS.add FZ.lq
  have L2 := FZ.lq.add FY.lq
  have L3 := LT.mul FZ.lq
  have L4 := FZ.lq.mul FY.lq
  have L5 := FY.lq.add FZ.lq
  have L6 := FX.lq.mul L5
  have L7 := FX.lq.mul FZ.lq
  have E1 : Hid (x + (z + y) = x + y + z) := Lib.hid (by grind)
  have E2 : Hid (x * (z * y) = x * y * z) := Lib.hid (by grind)
  have E3 : Hid (x * y + x * z = x * (y + z)) := Lib.hid (by grind)
  have E4 : Hid (x + y - y = x) := Lib.hid (by grind)
  have HXX : Hid (decide (x = x) = true) := Lib.hid (decide_eq_true rfl)
  obtain ⟨S, hS⟩ : ∃ S, x + y = S := ⟨_, rfl⟩
  obtain ⟨T, hT⟩ : ∃ T, x * y = T := ⟨_, rfl⟩
  have HS := Lib.hid hS
  have HT := Lib.hid hT
  rw [hS] at LS L1 E1 E4
  rw [hT] at LT L3 E2 E3
  have E5 : Hid (y ≠ 0 → T / y = x) := Lib.hid (fun h => by rw [← hT]; exact Rat.mul_div_cancel h)
  clear hS hT
  by_cases hy : y = 0
  · have HOK : Hid ((!decide (y = 0)) = false) := Lib.hid (by simp [hy])
    have HSG : Hid (Wd.sgn y.num = 0) := Lib.hid (by rw [hy]; rfl)
    clear hy
    have UP : Up w (((w.alloc (.cells #[.bool s, .slice A l.length c, .slice D m.length d] 61)).alloc (.cells #[.bool s', .slice A' l'.length c', .slice D' m'.length d'] 61)).alloc (.cells #[.bool s'', .slice A'' l''.length c'', .slice D'' m''.length d''] 61)) := (((Up.refl w).alloc _).alloc _).alloc _
    obtain ⟨b0, b1, b2⟩ := bx_three 61 61 61 w [.bool s, .slice A l.length c, .slice D m.length d] [.bool s', .slice A' l'.length c', .slice D' m'.length d'] [.bool s'', .slice A'' l''.length c'', .slice D'' m''.length d'']
    go_enter Try.func7, Try.ntmps7
    go_wp2_with fail
    generalize (((w.alloc (.cells #[.bool s, .slice A l.length c, .slice D m.length d] 61)).alloc (.cells #[.bool s', .slice A' l'.length c', .slice D' m'.length d'] 61)).alloc (.cells #[.bool s'', .slice A'' l''.length c'', .slice D'' m''.length d''] 61)) = W at *
    replace FX := FX.up UP
    replace FY := FY.up UP
    replace FZ := FZ.up UP
    obtain ⟨b0_0, b0_1, b0_2⟩ := b0.c3
    obtain ⟨b1_0, b1_1, b1_2⟩ := b1.c3
    obtain ⟨b2_0, b2_1, b2_2⟩ := b2.c3
    go_wp2_with fail
    ((with_reducible refine (ref_long9_no l1 l2 (by omega)).mono ?_))
    rintro e W1 ⟨rfl, u1⟩
    replace FX := FX.up u1
    replace FY := FY.up u1
    replace FZ := FZ.up u1
    replace b0 := b0.up u1
    replace b1 := b1.up u1
    replace b2 := b2.up u1
    replace UP := UP.trans u1
    clear b0_0 b0_1 b0_2 b1_0 b1_1 b1_2 b2_0 b2_1 b2_2
    obtain ⟨b0_0, b0_1, b0_2⟩ := b0.c3
    obtain ⟨b1_0, b1_1, b1_2⟩ := b1.c3
    obtain ⟨b2_0, b2_1, b2_2⟩ := b2.c3
    clear u1
    go_wp2_with fail
    ((with_reducible refine (ref_long9_no l3 l4 (by omega)).mono ?_))
    rintro e W2 ⟨rfl, u2⟩
    replace FX := FX.up u2
    replace FY := FY.up u2
    replace FZ := FZ.up u2
    replace b0 := b0.up u2
    replace b1 := b1.up u2
    replace b2 := b2.up u2
    replace UP := UP.trans u2
    clear b0_0 b0_1 b0_2 b1_0 b1_1 b1_2 b2_0 b2_1 b2_2
    obtain ⟨b0_0, b0_1, b0_2⟩ := b0.c3
    obtain ⟨b1_0, b1_1, b1_2⟩ := b1.c3
    obtain ⟨b2_0, b2_1, b2_2⟩ := b2.c3
    clear u2
    go_wp2_with fail
    ((with_reducible refine (ref_long9_no l5 l6 (by omega)).mono ?_))
    rintro e W3 ⟨rfl, u3⟩
    replace FX := FX.up u3
    replace FY := FY.up u3
    replace FZ := FZ.up u3
    replace b0 := b0.up u3
    replace b1 := b1.up u3
    replace b2 := b2.up u3
    replace UP := UP.trans u3
    clear b0_0 b0_1 b0_2 b1_0 b1_1 b1_2 b2_0 b2_1 b2_2
    obtain ⟨b0_0, b0_1, b0_2⟩ := b0.c3
    obtain ⟨b1_0, b1_1, b1_2⟩ := b1.c3
    obtain ⟨b2_0, b2_1, b2_2⟩ := b2.c3
    clear u3
    go_wp2_with fail
    ((with_reducible refine (law_to9 _ _ _ _ _ _ _ _).mono ?_))
    rintro e W4 ⟨rfl, u4⟩
    replace FX := FX.up u4
    replace FY := FY.up u4
    replace FZ := FZ.up u4
    replace b0 := b0.up u4
    replace b1 := b1.up u4
    replace b2 := b2.up u4
    replace UP := UP.trans u4
    clear b0_0 b0_1 b0_2 b1_0 b1_1 b1_2 b2_0 b2_1 b2_2
    obtain ⟨b0_0, b0_1, b0_2⟩ := b0.c3
    obtain ⟨b1_0, b1_1, b1_2⟩ := b1.c3
    obtain ⟨b2_0, b2_1, b2_2⟩ := b2.c3
    clear u4
    have b0_0a := fun O0 => (cell_alloc (o := O0) b0_0)
    have b0_1a := fun O0 => (cell_alloc (o := O0) b0_1)
    have b0_2a := fun O0 => (cell_alloc (o := O0) b0_2)
    have b1_0a := fun O0 => (cell_alloc (o := O0) b1_0)
    have b1_1a := fun O0 => (cell_alloc (o := O0) b1_1)
    have b1_2a := fun O0 => (cell_alloc (o := O0) b1_2)
    have b2_0a := fun O0 => (cell_alloc (o := O0) b2_0)
    have b2_1a := fun O0 => (cell_alloc (o := O0) b2_1)
    have b2_2a := fun O0 => (cell_alloc (o := O0) b2_2)
    go_wp2_with fail
    clear b0_0a b0_1a b0_2a b1_0a b1_1a b1_2a b2_0a b2_1a b2_2a
    have x1 := Bx.new 69 W4 [.bool s, .slice A l.length c, .slice D m.length d]
    have b0_lt_x1 := b0.lt
    have b1_lt_x1 := b1.lt
    have b2_lt_x1 := b2.lt
    replace FX := FX.up ((Up.refl W4).alloc (.cells #[.bool s, .slice A l.length c, .slice D m.length d] 69))
    replace FY := FY.up ((Up.refl W4).alloc (.cells #[.bool s, .slice A l.length c, .slice D m.length d] 69))
    replace FZ := FZ.up ((Up.refl W4).alloc (.cells #[.bool s, .slice A l.length c, .slice D m.length d] 69))
    replace b0 := b0.up ((Up.refl W4).alloc (.cells #[.bool s, .slice A l.length c, .slice D m.length d] 69))
    replace b1 := b1.up ((Up.refl W4).alloc (.cells #[.bool s, .slice A l.length c, .slice D m.length d] 69))
    replace b2 := b2.up ((Up.refl W4).alloc (.cells #[.bool s, .slice A l.length c, .slice D m.length d] 69))
    replace UP := UP.trans ((Up.refl W4).alloc (.cells #[.bool s, .slice A l.length c, .slice D m.length d] 69))
    generalize (W4.alloc (.cells #[.bool s, .slice A l.length c, .slice D m.length d] 69)) = W5 at *
    clear b0_0 b0_1 b0_2 b1_0 b1_1 b1_2 b2_0 b2_1 b2_2
    obtain ⟨b0_0, b0_1, b0_2⟩ := b0.c3
    obtain ⟨b1_0, b1_1, b1_2⟩ := b1.c3
    obtain ⟨b2_0, b2_1, b2_2⟩ := b2.c3
    obtain ⟨x1_0, x1_1, x1_2⟩ := x1.c3
    ((with_reducible refine (law_to9 _ _ _ _ _ _ _ _).mono ?_))
    rintro e W6 ⟨rfl, u6⟩
    replace FX := FX.up u6
    replace FY := FY.up u6
    replace FZ := FZ.up u6
    replace b0 := b0.up u6
    replace b1 := b1.up u6
    replace b2 := b2.up u6
    replace x1 := x1.up u6
    replace UP := UP.trans u6
    clear b0_0 b0_1 b0_2 b1_0 b1_1 b1_2 b2_0 b2_1 b2_2 x1_0 x1_1 x1_2
    obtain ⟨b0_0, b0_1, b0_2⟩ := b0.c3
    obtain ⟨b1_0, b1_1, b1_2⟩ := b1.c3
    obtain ⟨b2_0, b2_1, b2_2⟩ := b2.c3
    obtain ⟨x1_0, x1_1, x1_2⟩ := x1.c3
    clear u6
    have b0_0a := fun O0 => (cell_alloc (o := O0) b0_0)
    have b0_1a := fun O0 => (cell_alloc (o := O0) b0_1)
    have b0_2a := fun O0 => (cell_alloc (o := O0) b0_2)
    have b1_0a := fun O0 => (cell_alloc (o := O0) b1_0)
    have b1_1a := fun O0 => (cell_alloc (o := O0) b1_1)
    have b1_2a := fun O0 => (cell_alloc (o := O0) b1_2)
    have b2_0a := fun O0 => (cell_alloc (o := O0) b2_0)
    have b2_1a := fun O0 => (cell_alloc (o := O0) b2_1)
    have b2_2a := fun O0 => (cell_alloc (o := O0) b2_2)
    have x1_0a := fun O0 => (cell_alloc (o := O0) x1_0)
    have x1_1a := fun O0 => (cell_alloc (o := O0) x1_1)
    have x1_2a := fun O0 => (cell_alloc (o := O0) x1_2)
    go_wp2_with fail
    clear b0_0a b0_1a b0_2a b1_0a b1_1a b1_2a b2_0a b2_1a b2_2a x1_0a x1_1a x1_2a
    have x2 := Bx.new 69 W6 [.bool s', .slice A' l'.length c', .slice D' m'.length d']
    have b0_lt_x2 := b0.lt
    have b1_lt_x2 := b1.lt
    have b2_lt_x2 := b2.lt
    have x1_lt_x2 := x1.lt
    replace FX := FX.up ((Up.refl W6).alloc (.cells #[.bool s', .slice A' l'.length c', .slice D' m'.length d'] 69))
    replace FY := FY.up ((Up.refl W6).alloc (.cells #[.bool s', .slice A' l'.length c', .slice D' m'.length d'] 69))
    replace FZ := FZ.up ((Up.refl W6).alloc (.cells #[.bool s', .slice A' l'.length c', .slice D' m'.length d'] 69))
    replace b0 := b0.up ((Up.refl W6).alloc (.cells #[.bool s', .slice A' l'.length c', .slice D' m'.length d'] 69))
    replace b1 := b1.up ((Up.refl W6).alloc (.cells #[.bool s', .slice A' l'.length c', .slice D' m'.length d'] 69))
    replace b2 := b2.up ((Up.refl W6).alloc (.cells #[.bool s', .slice A' l'.length c', .slice D' m'.length d'] 69))
    replace x1 := x1.up ((Up.refl W6).alloc (.cells #[.bool s', .slice A' l'.length c', .slice D' m'.length d'] 69))
    replace UP := UP.trans ((Up.refl W6).alloc (.cells #[.bool s', .slice A' l'.length c', .slice D' m'.length d'] 69))
    generalize (W6.alloc (.cells #[.bool s', .slice A' l'.length c', .slice D' m'.length d'] 69)) = W7 at *
    clear b0_0 b0_1 b0_2 b1_0 b1_1 b1_2 b2_0 b2_1 b2_2 x1_0 x1_1 x1_2
    obtain ⟨b0_0, b0_1, b0_2⟩ := b0.c3
    obtain ⟨b1_0, b1_1, b1_2⟩ := b1.c3
    obtain ⟨b2_0, b2_1, b2_2⟩ := b2.c3
    obtain ⟨x1_0, x1_1, x1_2⟩ := x1.c3
    obtain ⟨x2_0, x2_1, x2_2⟩ := x2.c3
    ((with_reducible refine (law_to9 _ _ _ _ _ _ _ _).mono ?_))
    rintro e W8 ⟨rfl, u8⟩
    replace FX := FX.up u8
    replace FY := FY.up u8
    replace FZ := FZ.up u8
    replace b0 := b0.up u8
    replace b1 := b1.up u8
    replace b2 := b2.up u8
    replace x1 := x1.up u8
    replace x2 := x2.up u8
    replace UP := UP.trans u8
    clear b0_0 b0_1 b0_2 b1_0 b1_1 b1_2 b2_0 b2_1 b2_2 x1_0 x1_1 x1_2 x2_0 x2_1 x2_2
    obtain ⟨b0_0, b0_1, b0_2⟩ := b0.c3
    obtain ⟨b1_0, b1_1, b1_2⟩ := b1.c3
    obtain ⟨b2_0, b2_1, b2_2⟩ := b2.c3
    obtain ⟨x1_0, x1_1, x1_2⟩ := x1.c3
    obtain ⟨x2_0, x2_1, x2_2⟩ := x2.c3
    clear u8
    have b0_0a := fun O0 => (cell_alloc (o := O0) b0_0)
    have b0_1a := fun O0 => (cell_alloc (o := O0) b0_1)
    have b0_2a := fun O0 => (cell_alloc (o := O0) b0_2)
    have b1_0a := fun O0 => (cell_alloc (o := O0) b1_0)
    have b1_1a := fun O0 => (cell_alloc (o := O0) b1_1)
    have b1_2a := fun O0 => (cell_alloc (o := O0) b1_2)
    have b2_0a := fun O0 => (cell_alloc (o := O0) b2_0)
    have b2_1a := fun O0 => (cell_alloc (o := O0) b2_1)
    have b2_2a := fun O0 => (cell_alloc (o := O0) b2_2)
    have x1_0a := fun O0 => (cell_alloc (o := O0) x1_0)
    have x1_1a := fun O0 => (cell_alloc (o := O0) x1_1)
    have x1_2a := fun O0 => (cell_alloc (o := O0) x1_2)
    have x2_0a := fun O0 => (cell_alloc (o := O0) x2_0)
    have x2_1a := fun O0 => (cell_alloc (o := O0) x2_1)
    have x2_2a := fun O0 => (cell_alloc (o := O0) x2_2)
    go_wp2_with fail
    clear b0_0a b0_1a b0_2a b1_0a b1_1a b1_2a b2_0a b2_1a b2_2a x1_0a x1_1a x1_2a x2_0a x2_1a x2_2a
    have x3 := Bx.new 69 W8 [.bool s'', .slice A'' l''.length c'', .slice D'' m''.length d'']
    have b0_lt_x3 := b0.lt
    have b1_lt_x3 := b1.lt
    have b2_lt_x3 := b2.lt
    have x1_lt_x3 := x1.lt
    have x2_lt_x3 := x2.lt
    replace FX := FX.up ((Up.refl W8).alloc (.cells #[.bool s'', .slice A'' l''.length c'', .slice D'' m''.length d''] 69))
    replace FY := FY.up ((Up.refl W8).alloc (.cells #[.bool s'', .slice A'' l''.length c'', .slice D'' m''.length d''] 69))
    replace FZ := FZ.up ((Up.refl W8).alloc (.cells #[.bool s'', .slice A'' l''.length c'', .slice D'' m''.length d''] 69))
    replace b0 := b0.up ((Up.refl W8).alloc (.cells #[.bool s'', .slice A'' l''.length c'', .slice D'' m''.length d''] 69))
    replace b1 := b1.up ((Up.refl W8).alloc (.cells #[.bool s'', .slice A'' l''.length c'', .slice D'' m''.length d''] 69))
    replace b2 := b2.up ((Up.refl W8).alloc (.cells #[.bool s'', .slice A'' l''.length c'', .slice D'' m''.length d''] 69))
    replace x1 := x1.up ((Up.refl W8).alloc (.cells #[.bool s'', .slice A'' l''.length c'', .slice D'' m''.length d''] 69))
    replace x2 := x2.up ((Up.refl W8).alloc (.cells #[.bool s'', .slice A'' l''.length c'', .slice D'' m''.length d''] 69))
    replace UP := UP.trans ((Up.refl W8).alloc (.cells #[.bool s'', .slice A'' l''.length c'', .slice D'' m''.length d''] 69))
    generalize (W8.alloc (.cells #[.bool s'', .slice A'' l''.length c'', .slice D'' m''.length d''] 69)) = W9 at *
    clear b0_0 b0_1 b0_2 b1_0 b1_1 b1_2 b2_0 b2_1 b2_2 x1_0 x1_1 x1_2 x2_0 x2_1 x2_2
    obtain ⟨b0_0, b0_1, b0_2⟩ := b0.c3
    obtain ⟨b1_0, b1_1, b1_2⟩ := b1.c3
    obtain ⟨b2_0, b2_1, b2_2⟩ := b2.c3
    obtain ⟨x1_0, x1_1, x1_2⟩ := x1.c3
    obtain ⟨x2_0, x2_1, x2_2⟩ := x2.c3
    obtain ⟨x3_0, x3_1, x3_2⟩ := x3.c3
    ((with_reducible refine (frac_add FX FY (by omega) (by omega)).mono ?_))
    rintro e W10 ⟨V10, rfl, a, u10⟩
    replace FX := FX.up u10
    replace FY := FY.up u10
    replace FZ := FZ.up u10
    replace b0 := b0.up u10
    replace b1 := b1.up u10
    replace b2 := b2.up u10
    replace x1 := x1.up u10
    replace x2 := x2.up u10
    replace x3 := x3.up u10
    replace UP := UP.trans u10
    clear b0_0 b0_1 b0_2 b1_0 b1_1 b1_2 b2_0 b2_1 b2_2 x1_0 x1_1 x1_2 x2_0 x2_1 x2_2 x3_0 x3_1 x3_2
    obtain ⟨b0_0, b0_1, b0_2⟩ := b0.c3
    obtain ⟨b1_0, b1_1, b1_2⟩ := b1.c3
    obtain ⟨b2_0, b2_1, b2_2⟩ := b2.c3
    obtain ⟨x1_0, x1_1, x1_2⟩ := x1.c3
    obtain ⟨x2_0, x2_1, x2_2⟩ := x2.c3
    obtain ⟨x3_0, x3_1, x3_2⟩ := x3.c3
    clear u10
    rw [HS.out] at a
    obtain ⟨Xa, Ya, rfl, a, ad⟩ := a
    obtain ⟨Aa, na, ca, rfl⟩ := a.shape
    obtain ⟨Aad, nad, cad, rfl⟩ := ad.shape
    have b0_0a := fun O0 => (cell_alloc (o := O0) b0_0)
    have b0_1a := fun O0 => (cell_alloc (o := O0) b0_1)
    have b0_2a := fun O0 => (cell_alloc (o := O0) b0_2)
    have b1_0a := fun O0 => (cell_alloc (o := O0) b1_0)
    have b1_1a := fun O0 => (cell_alloc (o := O0) b1_1)
    have b1_2a := fun O0 => (cell_alloc (o := O0) b1_2)
    have b2_0a := fun O0 => (cell_alloc (o := O0) b2_0)
    have b2_1a := fun O0 => (cell_alloc (o := O0) b2_1)
    have b2_2a := fun O0 => (cell_alloc (o := O0) b2_2)
    have x1_0a := fun O0 => (cell_alloc (o := O0) x1_0)
    have x1_1a := fun O0 => (cell_alloc (o := O0) x1_1)
    have x1_2a := fun O0 => (cell_alloc (o := O0) x1_2)
    have x2_0a := fun O0 => (cell_alloc (o := O0) x2_0)
    have x2_1a := fun O0 => (cell_alloc (o := O0) x2_1)
    have x2_2a := fun O0 => (cell_alloc (o := O0) x2_2)
    have x3_0a := fun O0 => (cell_alloc (o := O0) x3_0)
    have x3_1a := fun O0 => (cell_alloc (o := O0) x3_1)
    have x3_2a := fun O0 => (cell_alloc (o := O0) x3_2)
    go_wp2_with fail
    clear b0_0a b0_1a b0_2a b1_0a b1_1a b1_2a b2_0a b2_1a b2_2a x1_0a x1_1a x1_2a x2_0a x2_1a x2_2a x3_0a x3_1a x3_2a
    have x4 := Bx.new 69 W10 [.bool (Wd.ngb S.num), .slice Aa na ca, .slice Aad nad cad]
    have b0_lt_x4 := b0.lt
    have b1_lt_x4 := b1.lt
    have b2_lt_x4 := b2.lt
    have x1_lt_x4 := x1.lt
    have x2_lt_x4 := x2.lt
    have x3_lt_x4 := x3.lt
    replace FX := FX.up ((Up.refl W10).alloc (.cells #[.bool (Wd.ngb S.num), .slice Aa na ca, .slice Aad nad cad] 69))
    replace FY := FY.up ((Up.refl W10).alloc (.cells #[.bool (Wd.ngb S.num), .slice Aa na ca, .slice Aad nad cad] 69))
    replace FZ := FZ.up ((Up.refl W10).alloc (.cells #[.bool (Wd.ngb S.num), .slice Aa na ca, .slice Aad nad cad] 69))
    replace a := a.up ((Up.refl W10).alloc (.cells #[.bool (Wd.ngb S.num), .slice Aa na ca, .slice Aad nad cad] 69))
    replace ad := ad.up ((Up.refl W10).alloc (.cells #[.bool (Wd.ngb S.num), .slice Aa na ca, .slice Aad nad cad] 69))
    replace b0 := b0.up ((Up.refl W10).alloc (.cells #[.bool (Wd.ngb S.num), .slice Aa na ca, .slice Aad nad cad] 69))
    replace b1 := b1.up ((Up.refl W10).alloc (.cells #[.bool (Wd.ngb S.num), .slice Aa na ca, .slice Aad nad cad] 69))
    replace b2 := b2.up ((Up.refl W10).alloc (.cells #[.bool (Wd.ngb S.num), .slice Aa na ca, .slice Aad nad cad] 69))
    replace x1 := x1.up ((Up.refl W10).alloc (.cells #[.bool (Wd.ngb S.num), .slice Aa na ca, .slice Aad nad cad] 69))
    replace x2 := x2.up ((Up.refl W10).alloc (.cells #[.bool (Wd.ngb S.num), .slice Aa na ca, .slice Aad nad cad] 69))
    replace x3 := x3.up ((Up.refl W10).alloc (.cells #[.bool (Wd.ngb S.num), .slice Aa na ca, .slice Aad nad cad] 69))
    replace UP := UP.trans ((Up.refl W10).alloc (.cells #[.bool (Wd.ngb S.num), .slice Aa na ca, .slice Aad nad cad] 69))
    generalize (W10.alloc (.cells #[.bool (Wd.ngb S.num), .slice Aa na ca, .slice Aad nad cad] 69)) = W11 at *
    clear b0_0 b0_1 b0_2 b1_0 b1_1 b1_2 b2_0 b2_1 b2_2 x1_0 x1_1 x1_2 x2_0 x2_1 x2_2 x3_0 x3_1 x3_2
    obtain ⟨b0_0, b0_1, b0_2⟩ := b0.c3
    obtain ⟨b1_0, b1_1, b1_2⟩ := b1.c3
    obtain ⟨b2_0, b2_1, b2_2⟩ := b2.c3
    obtain ⟨x1_0, x1_1, x1_2⟩ := x1.c3
    obtain ⟨x2_0, x2_1, x2_2⟩ := x2.c3
    obtain ⟨x3_0, x3_1, x3_2⟩ := x3.c3
    obtain ⟨x4_0, x4_1, x4_2⟩ := x4.c3
    have FS : Qw W11 (.agg #[.bool (Wd.ngb S.num), .slice Aa na ca, .slice Aad nad cad]) S := Qw.of a ad
    ((with_reducible refine (frac_mul FX FY (by omega) (by omega)).mono ?_))
    rintro e W12 ⟨V12, rfl, b, u12⟩
    replace FX := FX.up u12
    replace FY := FY.up u12
    replace FZ := FZ.up u12
    replace a := a.up u12
    replace ad := ad.up u12
    replace FS := FS.up u12
    replace b0 := b0.up u12
    replace b1 := b1.up u12
    replace b2 := b2.up u12
    replace x1 := x1.up u12
    replace x2 := x2.up u12
    replace x3 := x3.up u12
    replace x4 := x4.up u12
    replace UP := UP.trans u12
    clear b0_0 b0_1 b0_2 b1_0 b1_1 b1_2 b2_0 b2_1 b2_2 x1_0 x1_1 x1_2 x2_0 x2_1 x2_2 x3_0 x3_1 x3_2 x4_0 x4_1 x4_2
    obtain ⟨b0_0, b0_1, b0_2⟩ := b0.c3
    obtain ⟨b1_0, b1_1, b1_2⟩ := b1.c3
    obtain ⟨b2_0, b2_1, b2_2⟩ := b2.c3
    obtain ⟨x1_0, x1_1, x1_2⟩ := x1.c3
    obtain ⟨x2_0, x2_1, x2_2⟩ := x2.c3
    obtain ⟨x3_0, x3_1, x3_2⟩ := x3.c3
    obtain ⟨x4_0, x4_1, x4_2⟩ := x4.c3
    clear u12
    rw [HT.out] at b
    obtain ⟨Xb, Yb, rfl, b, bd⟩ := b
    obtain ⟨Ab, nb, cb, rfl⟩ := b.shape
    obtain ⟨Abd, nbd, cbd, rfl⟩ := bd.shape
    have b0_0a := fun O0 => (cell_alloc (o := O0) b0_0)
    have b0_1a := fun O0 => (cell_alloc (o := O0) b0_1)
    have b0_2a := fun O0 => (cell_alloc (o := O0) b0_2)
    have b1_0a := fun O0 => (cell_alloc (o := O0) b1_0)
    have b1_1a := fun O0 => (cell_alloc (o := O0) b1_1)
    have b1_2a := fun O0 => (cell_alloc (o := O0) b1_2)
    have b2_0a := fun O0 => (cell_alloc (o := O0) b2_0)
    have b2_1a := fun O0 => (cell_alloc (o := O0) b2_1)
    have b2_2a := fun O0 => (cell_alloc (o := O0) b2_2)
    have x1_0a := fun O0 => (cell_alloc (o := O0) x1_0)
    have x1_1a := fun O0 => (cell_alloc (o := O0) x1_1)
    have x1_2a := fun O0 => (cell_alloc (o := O0) x1_2)
    have x2_0a := fun O0 => (cell_alloc (o := O0) x2_0)
    have x2_1a := fun O0 => (cell_alloc (o := O0) x2_1)
    have x2_2a := fun O0 => (cell_alloc (o := O0) x2_2)
    have x3_0a := fun O0 => (cell_alloc (o := O0) x3_0)
    have x3_1a := fun O0 => (cell_alloc (o := O0) x3_1)
    have x3_2a := fun O0 => (cell_alloc (o := O0) x3_2)
    have x4_0a := fun O0 => (cell_alloc (o := O0) x4_0)
    have x4_1a := fun O0 => (cell_alloc (o := O0) x4_1)
    have x4_2a := fun O0 => (cell_alloc (o := O0) x4_2)
    go_wp2_with fail
    clear b0_0a b0_1a b0_2a b1_0a b1_1a b1_2a b2_0a b2_1a b2_2a x1_0a x1_1a x1_2a x2_0a x2_1a x2_2a x3_0a x3_1a x3_2a x4_0a x4_1a x4_2a
    have x5 := Bx.new 69 W12 [.bool (Wd.ngb T.num), .slice Ab nb cb, .slice Abd nbd cbd]
    have b0_lt_x5 := b0.lt
    have b1_lt_x5 := b1.lt
    have b2_lt_x5 := b2.lt
    have x1_lt_x5 := x1.lt
    have x2_lt_x5 := x2.lt
    have x3_lt_x5 := x3.lt
    have x4_lt_x5 := x4.lt
    replace FX := FX.up ((Up.refl W12).alloc (.cells #[.bool (Wd.ngb T.num), .slice Ab nb cb, .slice Abd nbd cbd] 69))
    replace FY := FY.up ((Up.refl W12).alloc (.cells #[.bool (Wd.ngb T.num), .slice Ab nb cb, .slice Abd nbd cbd] 69))
    replace FZ := FZ.up ((Up.refl W12).alloc (.cells #[.bool (Wd.ngb T.num), .slice Ab nb cb, .slice Abd nbd cbd] 69))
    replace a := a.up ((Up.refl W12).alloc (.cells #[.bool (Wd.ngb T.num), .slice Ab nb cb, .slice Abd nbd cbd] 69))
    replace ad := ad.up ((Up.refl W12).alloc (.cells #[.bool (Wd.ngb T.num), .slice Ab nb cb, .slice Abd nbd cbd] 69))
    replace FS := FS.up ((Up.refl W12).alloc (.cells #[.bool (Wd.ngb T.num), .slice Ab nb cb, .slice Abd nbd cbd] 69))
    replace b := b.up ((Up.refl W12).alloc (.cells #[.bool (Wd.ngb T.num), .slice Ab nb cb, .slice Abd nbd cbd] 69))
    replace bd := bd.up ((Up.refl W12).alloc (.cells #[.bool (Wd.ngb T.num), .slice Ab nb cb, .slice Abd nbd cbd] 69))
    replace b0 := b0.up ((Up.refl W12).alloc (.cells #[.bool (Wd.ngb T.num), .slice Ab nb cb, .slice Abd nbd cbd] 69))
    replace b1 := b1.up ((Up.refl W12).alloc (.cells #[.bool (Wd.ngb T.num), .slice Ab nb cb, .slice Abd nbd cbd] 69))
    replace b2 := b2.up ((Up.refl W12).alloc (.cells #[.bool (Wd.ngb T.num), .slice Ab nb cb, .slice Abd nbd cbd] 69))
    replace x1 := x1.up ((Up.refl W12).alloc (.cells #[.bool (Wd.ngb T.num), .slice Ab nb cb, .slice Abd nbd cbd] 69))
    replace x2 := x2.up ((Up.refl W12).alloc (.cells #[.bool (Wd.ngb T.num), .slice Ab nb cb, .slice Abd nbd cbd] 69))
    replace x3 := x3.up ((Up.refl W12).alloc (.cells #[.bool (Wd.ngb T.num), .slice Ab nb cb, .slice Abd nbd cbd] 69))
    replace x4 := x4.up ((Up.refl W12).alloc (.cells #[.bool (Wd.ngb T.num), .slice Ab nb cb, .slice Abd nbd cbd] 69))
    replace UP := UP.trans ((Up.refl W12).alloc (.cells #[.bool (Wd.ngb T.num), .slice Ab nb cb, .slice Abd nbd cbd] 69))
    generalize (W12.alloc (.cells #[.bool (Wd.ngb T.num), .slice Ab nb cb, .slice Abd nbd cbd] 69)) = W13 at *
    clear b0_0 b0_1 b0_2 b1_0 b1_1 b1_2 b2_0 b2_1 b2_2 x1_0 x1_1 x1_2 x2_0 x2_1 x2_2 x3_0 x3_1 x3_2 x4_0 x4_1 x4_2
    obtain ⟨b0_0, b0_1, b0_2⟩ := b0.c3
    obtain ⟨b1_0, b1_1, b1_2⟩ := b1.c3
    obtain ⟨b2_0, b2_1, b2_2⟩ := b2.c3
    obtain ⟨x1_0, x1_1, x1_2⟩ := x1.c3
    obtain ⟨x2_0, x2_1, x2_2⟩ := x2.c3
    obtain ⟨x3_0, x3_1, x3_2⟩ := x3.c3
    obtain ⟨x4_0, x4_1, x4_2⟩ := x4.c3
    obtain ⟨x5_0, x5_1, x5_2⟩ := x5.c3
    have FT : Qw W13 (.agg #[.bool (Wd.ngb T.num), .slice Ab nb cb, .slice Abd nbd cbd]) T := Qw.of b bd
    replace FX := FX.up (Up.refl W13).drew
    replace FY := FY.up (Up.refl W13).drew
    replace FZ := FZ.up (Up.refl W13).drew
    replace a := a.up (Up.refl W13).drew
    replace ad := ad.up (Up.refl W13).drew
    replace FS := FS.up (Up.refl W13).drew
    replace b := b.up (Up.refl W13).drew
    replace bd := bd.up (Up.refl W13).drew
    replace FT := FT.up (Up.refl W13).drew
    replace b0 := b0.up (Up.refl W13).drew
    replace b1 := b1.up (Up.refl W13).drew
    replace b2 := b2.up (Up.refl W13).drew
    replace x1 := x1.up (Up.refl W13).drew
    replace x2 := x2.up (Up.refl W13).drew
    replace x3 := x3.up (Up.refl W13).drew
    replace x4 := x4.up (Up.refl W13).drew
    replace x5 := x5.up (Up.refl W13).drew
    replace UP := UP.trans (Up.refl W13).drew
    clear b0_0 b0_1 b0_2 b1_0 b1_1 b1_2 b2_0 b2_1 b2_2 x1_0 x1_1 x1_2 x2_0 x2_1 x2_2 x3_0 x3_1 x3_2 x4_0 x4_1 x4_2 x5_0 x5_1 x5_2
    obtain ⟨b0_0, b0_1, b0_2⟩ := b0.c3
    obtain ⟨b1_0, b1_1, b1_2⟩ := b1.c3
    obtain ⟨b2_0, b2_1, b2_2⟩ := b2.c3
    obtain ⟨x1_0, x1_1, x1_2⟩ := x1.c3
    obtain ⟨x2_0, x2_1, x2_2⟩ := x2.c3
    obtain ⟨x3_0, x3_1, x3_2⟩ := x3.c3
    obtain ⟨x4_0, x4_1, x4_2⟩ := x4.c3
    obtain ⟨x5_0, x5_1, x5_2⟩ := x5.c3
    go_region_held3 (fun w' => Up w w' ∧ w'.cell? ⟨W4.heap.size, 0, none⟩ = some (.bool s) ∧ w'.cell? ⟨W4.heap.size, 1, none⟩ = some (.slice A l.length c) ∧ w'.cell? ⟨W4.heap.size, 2, none⟩ = some (.slice D m.length d) ∧ w'.cell? ⟨W6.heap.size, 0, none⟩ = some (.bool s') ∧ w'.cell? ⟨W6.heap.size, 1, none⟩ = some (.slice A' l'.length c') ∧ w'.cell? ⟨W6.heap.size, 2, none⟩ = some (.slice D' m'.length d') ∧ w'.cell? ⟨W8.heap.size, 0, none⟩ = some (.bool s'') ∧ w'.cell? ⟨W8.heap.size, 1, none⟩ = some (.slice A'' l''.length c'') ∧ w'.cell? ⟨W8.heap.size, 2, none⟩ = some (.slice D'' m''.length d'') ∧ w'.cell? ⟨W10.heap.size, 0, none⟩ = some (.bool (Wd.ngb S.num)) ∧ w'.cell? ⟨W10.heap.size, 1, none⟩ = some (.slice Aa na ca) ∧ w'.cell? ⟨W10.heap.size, 2, none⟩ = some (.slice Aad nad cad) ∧ w'.cell? ⟨W12.heap.size, 0, none⟩ = some (.bool (Wd.ngb T.num)) ∧ w'.cell? ⟨W12.heap.size, 1, none⟩ = some (.slice Ab nb cb) ∧ w'.cell? ⟨W12.heap.size, 2, none⟩ = some (.slice Abd nbd cbd))
        (first | with_reducible exact ⟨UP, x1_0, x1_1, x1_2, x2_0, x2_1, x2_2, x3_0, x3_1, x3_2, x4_0, x4_1, x4_2, x5_0, x5_1, x5_2⟩ | with_reducible exact ⟨UP, x1_0, x1_1, x1_2, x2_0, x2_1, x2_2, x3_0, x3_1, x3_2, x4_0, x4_1, x4_2, x5_0, x5_1, x5_2⟩ | with_reducible exact ⟨(UP.alloc_drew _), (cell_alloc_drew x1_0), (cell_alloc_drew x1_1), (cell_alloc_drew x1_2), (cell_alloc_drew x2_0), (cell_alloc_drew x2_1), (cell_alloc_drew x2_2), (cell_alloc_drew x3_0), (cell_alloc_drew x3_1), (cell_alloc_drew x3_2), (cell_alloc_drew x4_0), (cell_alloc_drew x4_1), (cell_alloc_drew x4_2), (cell_alloc_drew x5_0), (cell_alloc_drew x5_1), (cell_alloc_drew x5_2)⟩ | with_reducible exact ⟨(UP.alloc2_drew _ _), (cell_alloc2_drew x1_0), (cell_alloc2_drew x1_1), (cell_alloc2_drew x1_2), (cell_alloc2_drew x2_0), (cell_alloc2_drew x2_1), (cell_alloc2_drew x2_2), (cell_alloc2_drew x3_0), (cell_alloc2_drew x3_1), (cell_alloc2_drew x3_2), (cell_alloc2_drew x4_0), (cell_alloc2_drew x4_1), (cell_alloc2_drew x4_2), (cell_alloc2_drew x5_0), (cell_alloc2_drew x5_1), (cell_alloc2_drew x5_2)⟩ | (simp only [← World.setCell_drew]; first | with_reducible exact ⟨UP, x1_0, x1_1, x1_2, x2_0, x2_1, x2_2, x3_0, x3_1, x3_2, x4_0, x4_1, x4_2, x5_0, x5_1, x5_2⟩) | go_keep)
        ((first
          | (go_at_call 47
             ((with_reducible refine (frac_add (FS.fr LS) FZ (by omega) (by omega)).mono ?_))
             rintro e W14 ⟨V14, rfl, a1, u14⟩
             replace FX := FX.up u14
             replace FY := FY.up u14
             replace FZ := FZ.up u14
             replace a := a.up u14
             replace ad := ad.up u14
             replace FS := FS.up u14
             replace b := b.up u14
             replace bd := bd.up u14
             replace FT := FT.up u14
             try (replace a1 := a1.up u14)
             try (replace a2 := a2.up u14)
             try (replace a3 := a3.up u14)
             try (replace m1 := m1.up u14)
             try (replace m2 := m2.up u14)
             try (replace m3 := m3.up u14)
             try (replace g1 := g1.up u14)
             try (replace g2 := g2.up u14)
             try (replace g3 := g3.up u14)
             try (replace g4 := g4.up u14)
             replace b0 := b0.up u14
             replace b1 := b1.up u14
             replace b2 := b2.up u14
             replace x1 := x1.up u14
             replace x2 := x2.up u14
             replace x3 := x3.up u14
             replace x4 := x4.up u14
             replace x5 := x5.up u14
             replace UP := UP.trans u14
             clear b0_0 b0_1 b0_2 b1_0 b1_1 b1_2 b2_0 b2_1 b2_2 x1_0 x1_1 x1_2 x2_0 x2_1 x2_2 x3_0 x3_1 x3_2 x4_0 x4_1 x4_2 x5_0 x5_1 x5_2
             obtain ⟨b0_0, b0_1, b0_2⟩ := b0.c3
             obtain ⟨b1_0, b1_1, b1_2⟩ := b1.c3
             obtain ⟨b2_0, b2_1, b2_2⟩ := b2.c3
             obtain ⟨x1_0, x1_1, x1_2⟩ := x1.c3
             obtain ⟨x2_0, x2_1, x2_2⟩ := x2.c3
             obtain ⟨x3_0, x3_1, x3_2⟩ := x3.c3
             obtain ⟨x4_0, x4_1, x4_2⟩ := x4.c3
             obtain ⟨x5_0, x5_1, x5_2⟩ := x5.c3
             clear u14)
          | (go_at_call 47
             ((with_reducible refine (frac_add FZ FY (by omega) (by omega)).mono ?_))
             rintro e W15 ⟨V15, rfl, a2, u15⟩
             replace FX := FX.up u15
             replace FY := FY.up u15
             replace FZ := FZ.up u15
             replace a := a.up u15
             replace ad := ad.up u15
             replace FS := FS.up u15
             replace b := b.up u15
             replace bd := bd.up u15
             replace FT := FT.up u15
             try (replace a1 := a1.up u15)
             try (replace a2 := a2.up u15)
             try (replace a3 := a3.up u15)
             try (replace m1 := m1.up u15)
             try (replace m2 := m2.up u15)
             try (replace m3 := m3.up u15)
             try (replace g1 := g1.up u15)
             try (replace g2 := g2.up u15)
             try (replace g3 := g3.up u15)
             try (replace g4 := g4.up u15)
             replace b0 := b0.up u15
             replace b1 := b1.up u15
             replace b2 := b2.up u15
             replace x1 := x1.up u15
             replace x2 := x2.up u15
             replace x3 := x3.up u15
             replace x4 := x4.up u15
             replace x5 := x5.up u15
             replace UP := UP.trans u15
             clear b0_0 b0_1 b0_2 b1_0 b1_1 b1_2 b2_0 b2_1 b2_2 x1_0 x1_1 x1_2 x2_0 x2_1 x2_2 x3_0 x3_1 x3_2 x4_0 x4_1 x4_2 x5_0 x5_1 x5_2
             obtain ⟨b0_0, b0_1, b0_2⟩ := b0.c3
             obtain ⟨b1_0, b1_1, b1_2⟩ := b1.c3
             obtain ⟨b2_0, b2_1, b2_2⟩ := b2.c3
             obtain ⟨x1_0, x1_1, x1_2⟩ := x1.c3
             obtain ⟨x2_0, x2_1, x2_2⟩ := x2.c3
             obtain ⟨x3_0, x3_1, x3_2⟩ := x3.c3
             obtain ⟨x4_0, x4_1, x4_2⟩ := x4.c3
             obtain ⟨x5_0, x5_1, x5_2⟩ := x5.c3
             clear u15)
          | (go_at_call 47
             ((with_reducible refine (frac_add FX (a2.fr L2) (by omega) (by omega)).mono ?_))
             rintro e W16 ⟨V16, rfl, a3, u16⟩
             replace FX := FX.up u16
             replace FY := FY.up u16
             replace FZ := FZ.up u16
             replace a := a.up u16
             replace ad := ad.up u16
             replace FS := FS.up u16
             replace b := b.up u16
             replace bd := bd.up u16
             replace FT := FT.up u16
             try (replace a1 := a1.up u16)
             try (replace a2 := a2.up u16)
             try (replace a3 := a3.up u16)
             try (replace m1 := m1.up u16)
             try (replace m2 := m2.up u16)
             try (replace m3 := m3.up u16)
             try (replace g1 := g1.up u16)
             try (replace g2 := g2.up u16)
             try (replace g3 := g3.up u16)
             try (replace g4 := g4.up u16)
             replace b0 := b0.up u16
             replace b1 := b1.up u16
             replace b2 := b2.up u16
             replace x1 := x1.up u16
             replace x2 := x2.up u16
             replace x3 := x3.up u16
             replace x4 := x4.up u16
             replace x5 := x5.up u16
             replace UP := UP.trans u16
             clear b0_0 b0_1 b0_2 b1_0 b1_1 b1_2 b2_0 b2_1 b2_2 x1_0 x1_1 x1_2 x2_0 x2_1 x2_2 x3_0 x3_1 x3_2 x4_0 x4_1 x4_2 x5_0 x5_1 x5_2
             obtain ⟨b0_0, b0_1, b0_2⟩ := b0.c3
             obtain ⟨b1_0, b1_1, b1_2⟩ := b1.c3
             obtain ⟨b2_0, b2_1, b2_2⟩ := b2.c3
             obtain ⟨x1_0, x1_1, x1_2⟩ := x1.c3
             obtain ⟨x2_0, x2_1, x2_2⟩ := x2.c3
             obtain ⟨x3_0, x3_1, x3_2⟩ := x3.c3
             obtain ⟨x4_0, x4_1, x4_2⟩ := x4.c3
             obtain ⟨x5_0, x5_1, x5_2⟩ := x5.c3
             clear u16
             rw [E1.out] at a3)
          | (go_at_call 49
             ((with_reducible refine (law_alike9 a1 a3 L1 (by omega)).mono ?_))
             rintro e W17 ⟨rfl, u17⟩
             replace FX := FX.up u17
             replace FY := FY.up u17
             replace FZ := FZ.up u17
             replace a := a.up u17
             replace ad := ad.up u17
             replace FS := FS.up u17
             replace b := b.up u17
             replace bd := bd.up u17
             replace FT := FT.up u17
             try (replace a1 := a1.up u17)
             try (replace a2 := a2.up u17)
             try (replace a3 := a3.up u17)
             try (replace m1 := m1.up u17)
             try (replace m2 := m2.up u17)
             try (replace m3 := m3.up u17)
             try (replace g1 := g1.up u17)
             try (replace g2 := g2.up u17)
             try (replace g3 := g3.up u17)
             try (replace g4 := g4.up u17)
             replace b0 := b0.up u17
             replace b1 := b1.up u17
             replace b2 := b2.up u17
             replace x1 := x1.up u17
             replace x2 := x2.up u17
             replace x3 := x3.up u17
             replace x4 := x4.up u17
             replace x5 := x5.up u17
             replace UP := UP.trans u17
             clear b0_0 b0_1 b0_2 b1_0 b1_1 b1_2 b2_0 b2_1 b2_2 x1_0 x1_1 x1_2 x2_0 x2_1 x2_2 x3_0 x3_1 x3_2 x4_0 x4_1 x4_2 x5_0 x5_1 x5_2
             obtain ⟨b0_0, b0_1, b0_2⟩ := b0.c3
             obtain ⟨b1_0, b1_1, b1_2⟩ := b1.c3
             obtain ⟨b2_0, b2_1, b2_2⟩ := b2.c3
             obtain ⟨x1_0, x1_1, x1_2⟩ := x1.c3
             obtain ⟨x2_0, x2_1, x2_2⟩ := x2.c3
             obtain ⟨x3_0, x3_1, x3_2⟩ := x3.c3
             obtain ⟨x4_0, x4_1, x4_2⟩ := x4.c3
             obtain ⟨x5_0, x5_1, x5_2⟩ := x5.c3
             clear u17)
          | (go_at_call 48
             ((with_reducible refine (frac_mul (FT.fr LT) FZ (by omega) (by omega)).mono ?_))
             rintro e W18 ⟨V18, rfl, m1, u18⟩
             replace FX := FX.up u18
             replace FY := FY.up u18
             replace FZ := FZ.up u18
             replace a := a.up u18
             replace ad := ad.up u18
             replace FS := FS.up u18
             replace b := b.up u18
             replace bd := bd.up u18
             replace FT := FT.up u18
             try (replace a1 := a1.up u18)
             try (replace a2 := a2.up u18)
             try (replace a3 := a3.up u18)
             try (replace m1 := m1.up u18)
             try (replace m2 := m2.up u18)
             try (replace m3 := m3.up u18)
             try (replace g1 := g1.up u18)
             try (replace g2 := g2.up u18)
             try (replace g3 := g3.up u18)
             try (replace g4 := g4.up u18)
             replace b0 := b0.up u18
             replace b1 := b1.up u18
             replace b2 := b2.up u18
             replace x1 := x1.up u18
             replace x2 := x2.up u18
             replace x3 := x3.up u18
             replace x4 := x4.up u18
             replace x5 := x5.up u18
             replace UP := UP.trans u18
             clear b0_0 b0_1 b0_2 b1_0 b1_1 b1_2 b2_0 b2_1 b2_2 x1_0 x1_1 x1_2 x2_0 x2_1 x2_2 x3_0 x3_1 x3_2 x4_0 x4_1 x4_2 x5_0 x5_1 x5_2
             obtain ⟨b0_0, b0_1, b0_2⟩ := b0.c3
             obtain ⟨b1_0, b1_1, b1_2⟩ := b1.c3
             obtain ⟨b2_0, b2_1, b2_2⟩ := b2.c3
             obtain ⟨x1_0, x1_1, x1_2⟩ := x1.c3
             obtain ⟨x2_0, x2_1, x2_2⟩ := x2.c3
             obtain ⟨x3_0, x3_1, x3_2⟩ := x3.c3
             obtain ⟨x4_0, x4_1, x4_2⟩ := x4.c3
             obtain ⟨x5_0, x5_1, x5_2⟩ := x5.c3
             clear u18)
          | (go_at_call 48
             ((with_reducible refine (frac_mul FZ FY (by omega) (by omega)).mono ?_))
             rintro e W19 ⟨V19, rfl, m2, u19⟩
             replace FX := FX.up u19
             replace FY := FY.up u19
             replace FZ := FZ.up u19
             replace a := a.up u19
             replace ad := ad.up u19
             replace FS := FS.up u19
             replace b := b.up u19
             replace bd := bd.up u19
             replace FT := FT.up u19
             try (replace a1 := a1.up u19)
             try (replace a2 := a2.up u19)
             try (replace a3 := a3.up u19)
             try (replace m1 := m1.up u19)
             try (replace m2 := m2.up u19)
             try (replace m3 := m3.up u19)
             try (replace g1 := g1.up u19)
             try (replace g2 := g2.up u19)
             try (replace g3 := g3.up u19)
             try (replace g4 := g4.up u19)
             replace b0 := b0.up u19
             replace b1 := b1.up u19
             replace b2 := b2.up u19
             replace x1 := x1.up u19
             replace x2 := x2.up u19
             replace x3 := x3.up u19
             replace x4 := x4.up u19
             replace x5 := x5.up u19
             replace UP := UP.trans u19
             clear b0_0 b0_1 b0_2 b1_0 b1_1 b1_2 b2_0 b2_1 b2_2 x1_0 x1_1 x1_2 x2_0 x2_1 x2_2 x3_0 x3_1 x3_2 x4_0 x4_1 x4_2 x5_0 x5_1 x5_2
             obtain ⟨b0_0, b0_1, b0_2⟩ := b0.c3
             obtain ⟨b1_0, b1_1, b1_2⟩ := b1.c3
             obtain ⟨b2_0, b2_1, b2_2⟩ := b2.c3
             obtain ⟨x1_0, x1_1, x1_2⟩ := x1.c3
             obtain ⟨x2_0, x2_1, x2_2⟩ := x2.c3
             obtain ⟨x3_0, x3_1, x3_2⟩ := x3.c3
             obtain ⟨x4_0, x4_1, x4_2⟩ := x4.c3
             obtain ⟨x5_0, x5_1, x5_2⟩ := x5.c3
             clear u19)
          | (go_at_call 48
             ((with_reducible refine (frac_mul FX (m2.fr L4) (by omega) (by omega)).mono ?_))
             rintro e W20 ⟨V20, rfl, m3, u20⟩
             replace FX := FX.up u20
             replace FY := FY.up u20
             replace FZ := FZ.up u20
             replace a := a.up u20
             replace ad := ad.up u20
             replace FS := FS.up u20
             replace b := b.up u20
             replace bd := bd.up u20
             replace FT := FT.up u20
             try (replace a1 := a1.up u20)
             try (replace a2 := a2.up u20)
             try (replace a3 := a3.up u20)
             try (replace m1 := m1.up u20)
             try (replace m2 := m2.up u20)
             try (replace m3 := m3.up u20)
             try (replace g1 := g1.up u20)
             try (replace g2 := g2.up u20)
             try (replace g3 := g3.up u20)
             try (replace g4 := g4.up u20)
             replace b0 := b0.up u20
             replace b1 := b1.up u20
             replace b2 := b2.up u20
             replace x1 := x1.up u20
             replace x2 := x2.up u20
             replace x3 := x3.up u20
             replace x4 := x4.up u20
             replace x5 := x5.up u20
             replace UP := UP.trans u20
             clear b0_0 b0_1 b0_2 b1_0 b1_1 b1_2 b2_0 b2_1 b2_2 x1_0 x1_1 x1_2 x2_0 x2_1 x2_2 x3_0 x3_1 x3_2 x4_0 x4_1 x4_2 x5_0 x5_1 x5_2
             obtain ⟨b0_0, b0_1, b0_2⟩ := b0.c3
             obtain ⟨b1_0, b1_1, b1_2⟩ := b1.c3
             obtain ⟨b2_0, b2_1, b2_2⟩ := b2.c3
             obtain ⟨x1_0, x1_1, x1_2⟩ := x1.c3
             obtain ⟨x2_0, x2_1, x2_2⟩ := x2.c3
             obtain ⟨x3_0, x3_1, x3_2⟩ := x3.c3
             obtain ⟨x4_0, x4_1, x4_2⟩ := x4.c3
             obtain ⟨x5_0, x5_1, x5_2⟩ := x5.c3
             clear u20
             rw [E2.out] at m3)
          | (go_at_call 49
             ((with_reducible refine (law_alike9 m1 m3 L3 (by omega)).mono ?_))
             rintro e W21 ⟨rfl, u21⟩
             replace FX := FX.up u21
             replace FY := FY.up u21
             replace FZ := FZ.up u21
             replace a := a.up u21
             replace ad := ad.up u21
             replace FS := FS.up u21
             replace b := b.up u21
             replace bd := bd.up u21
             replace FT := FT.up u21
             try (replace a1 := a1.up u21)
             try (replace a2 := a2.up u21)
             try (replace a3 := a3.up u21)
             try (replace m1 := m1.up u21)
             try (replace m2 := m2.up u21)
             try (replace m3 := m3.up u21)
             try (replace g1 := g1.up u21)
             try (replace g2 := g2.up u21)
             try (replace g3 := g3.up u21)
             try (replace g4 := g4.up u21)
             replace b0 := b0.up u21
             replace b1 := b1.up u21
             replace b2 := b2.up u21
             replace x1 := x1.up u21
             replace x2 := x2.up u21
             replace x3 := x3.up u21
             replace x4 := x4.up u21
             replace x5 := x5.up u21
             replace UP := UP.trans u21
             clear b0_0 b0_1 b0_2 b1_0 b1_1 b1_2 b2_0 b2_1 b2_2 x1_0 x1_1 x1_2 x2_0 x2_1 x2_2 x3_0 x3_1 x3_2 x4_0 x4_1 x4_2 x5_0 x5_1 x5_2
             obtain ⟨b0_0, b0_1, b0_2⟩ := b0.c3
             obtain ⟨b1_0, b1_1, b1_2⟩ := b1.c3
             obtain ⟨b2_0, b2_1, b2_2⟩ := b2.c3
             obtain ⟨x1_0, x1_1, x1_2⟩ := x1.c3
             obtain ⟨x2_0, x2_1, x2_2⟩ := x2.c3
             obtain ⟨x3_0, x3_1, x3_2⟩ := x3.c3
             obtain ⟨x4_0, x4_1, x4_2⟩ := x4.c3
             obtain ⟨x5_0, x5_1, x5_2⟩ := x5.c3
             clear u21)
          | (go_at_call 47
             ((with_reducible refine (frac_add FY FZ (by omega) (by omega)).mono ?_))
             rintro e W22 ⟨V22, rfl, g1, u22⟩
             replace FX := FX.up u22
             replace FY := FY.up u22
             replace FZ := FZ.up u22
             replace a := a.up u22
             replace ad := ad.up u22
             replace FS := FS.up u22
             replace b := b.up u22
             replace bd := bd.up u22
             replace FT := FT.up u22
             try (replace a1 := a1.up u22)
             try (replace a2 := a2.up u22)
             try (replace a3 := a3.up u22)
             try (replace m1 := m1.up u22)
             try (replace m2 := m2.up u22)
             try (replace m3 := m3.up u22)
             try (replace g1 := g1.up u22)
             try (replace g2 := g2.up u22)
             try (replace g3 := g3.up u22)
             try (replace g4 := g4.up u22)
             replace b0 := b0.up u22
             replace b1 := b1.up u22
             replace b2 := b2.up u22
             replace x1 := x1.up u22
             replace x2 := x2.up u22
             replace x3 := x3.up u22
             replace x4 := x4.up u22
             replace x5 := x5.up u22
             replace UP := UP.trans u22
             clear b0_0 b0_1 b0_2 b1_0 b1_1 b1_2 b2_0 b2_1 b2_2 x1_0 x1_1 x1_2 x2_0 x2_1 x2_2 x3_0 x3_1 x3_2 x4_0 x4_1 x4_2 x5_0 x5_1 x5_2
             obtain ⟨b0_0, b0_1, b0_2⟩ := b0.c3
             obtain ⟨b1_0, b1_1, b1_2⟩ := b1.c3
             obtain ⟨b2_0, b2_1, b2_2⟩ := b2.c3
             obtain ⟨x1_0, x1_1, x1_2⟩ := x1.c3
             obtain ⟨x2_0, x2_1, x2_2⟩ := x2.c3
             obtain ⟨x3_0, x3_1, x3_2⟩ := x3.c3
             obtain ⟨x4_0, x4_1, x4_2⟩ := x4.c3
             obtain ⟨x5_0, x5_1, x5_2⟩ := x5.c3
             clear u22)
          | (go_at_call 48
             ((with_reducible refine (frac_mul FX (g1.fr L5) (by omega) (by omega)).mono ?_))
             rintro e W23 ⟨V23, rfl, g2, u23⟩
             replace FX := FX.up u23
             replace FY := FY.up u23
             replace FZ := FZ.up u23
             replace a := a.up u23
             replace ad := ad.up u23
             replace FS := FS.up u23
             replace b := b.up u23
             replace bd := bd.up u23
             replace FT := FT.up u23
             try (replace a1 := a1.up u23)
             try (replace a2 := a2.up u23)
             try (replace a3 := a3.up u23)
             try (replace m1 := m1.up u23)
             try (replace m2 := m2.up u23)
             try (replace m3 := m3.up u23)
             try (replace g1 := g1.up u23)
             try (replace g2 := g2.up u23)
             try (replace g3 := g3.up u23)
             try (replace g4 := g4.up u23)
             replace b0 := b0.up u23
             replace b1 := b1.up u23
             replace b2 := b2.up u23
             replace x1 := x1.up u23
             replace x2 := x2.up u23
             replace x3 := x3.up u23
             replace x4 := x4.up u23
             replace x5 := x5.up u23
             replace UP := UP.trans u23
             clear b0_0 b0_1 b0_2 b1_0 b1_1 b1_2 b2_0 b2_1 b2_2 x1_0 x1_1 x1_2 x2_0 x2_1 x2_2 x3_0 x3_1 x3_2 x4_0 x4_1 x4_2 x5_0 x5_1 x5_2
             obtain ⟨b0_0, b0_1, b0_2⟩ := b0.c3
             obtain ⟨b1_0, b1_1, b1_2⟩ := b1.c3
             obtain ⟨b2_0, b2_1, b2_2⟩ := b2.c3
             obtain ⟨x1_0, x1_1, x1_2⟩ := x1.c3
             obtain ⟨x2_0, x2_1, x2_2⟩ := x2.c3
             obtain ⟨x3_0, x3_1, x3_2⟩ := x3.c3
             obtain ⟨x4_0, x4_1, x4_2⟩ := x4.c3
             obtain ⟨x5_0, x5_1, x5_2⟩ := x5.c3
             clear u23)
          | (go_at_call 48
             ((with_reducible refine (frac_mul FX FZ (by omega) (by omega)).mono ?_))
             rintro e W24 ⟨V24, rfl, g3, u24⟩
             replace FX := FX.up u24
             replace FY := FY.up u24
             replace FZ := FZ.up u24
             replace a := a.up u24
             replace ad := ad.up u24
             replace FS := FS.up u24
             replace b := b.up u24
             replace bd := bd.up u24
             replace FT := FT.up u24
             try (replace a1 := a1.up u24)
             try (replace a2 := a2.up u24)
             try (replace a3 := a3.up u24)
             try (replace m1 := m1.up u24)
             try (replace m2 := m2.up u24)
             try (replace m3 := m3.up u24)
             try (replace g1 := g1.up u24)
             try (replace g2 := g2.up u24)
             try (replace g3 := g3.up u24)
             try (replace g4 := g4.up u24)
             replace b0 := b0.up u24
             replace b1 := b1.up u24
             replace b2 := b2.up u24
             replace x1 := x1.up u24
             replace x2 := x2.up u24
             replace x3 := x3.up u24
             replace x4 := x4.up u24
             replace x5 := x5.up u24
             replace UP := UP.trans u24
             clear b0_0 b0_1 b0_2 b1_0 b1_1 b1_2 b2_0 b2_1 b2_2 x1_0 x1_1 x1_2 x2_0 x2_1 x2_2 x3_0 x3_1 x3_2 x4_0 x4_1 x4_2 x5_0 x5_1 x5_2
             obtain ⟨b0_0, b0_1, b0_2⟩ := b0.c3
             obtain ⟨b1_0, b1_1, b1_2⟩ := b1.c3
             obtain ⟨b2_0, b2_1, b2_2⟩ := b2.c3
             obtain ⟨x1_0, x1_1, x1_2⟩ := x1.c3
             obtain ⟨x2_0, x2_1, x2_2⟩ := x2.c3
             obtain ⟨x3_0, x3_1, x3_2⟩ := x3.c3
             obtain ⟨x4_0, x4_1, x4_2⟩ := x4.c3
             obtain ⟨x5_0, x5_1, x5_2⟩ := x5.c3
             clear u24)
          | (go_at_call 47
             ((with_reducible refine (frac_add (FT.fr LT) (g3.fr L7) (by omega) (by omega)).mono ?_))
             rintro e W25 ⟨V25, rfl, g4, u25⟩
             replace FX := FX.up u25
             replace FY := FY.up u25
             replace FZ := FZ.up u25
             replace a := a.up u25
             replace ad := ad.up u25
             replace FS := FS.up u25
             replace b := b.up u25
             replace bd := bd.up u25
             replace FT := FT.up u25
             try (replace a1 := a1.up u25)
             try (replace a2 := a2.up u25)
             try (replace a3 := a3.up u25)
             try (replace m1 := m1.up u25)
             try (replace m2 := m2.up u25)
             try (replace m3 := m3.up u25)
             try (replace g1 := g1.up u25)
             try (replace g2 := g2.up u25)
             try (replace g3 := g3.up u25)
             try (replace g4 := g4.up u25)
             replace b0 := b0.up u25
             replace b1 := b1.up u25
             replace b2 := b2.up u25
             replace x1 := x1.up u25
             replace x2 := x2.up u25
             replace x3 := x3.up u25
             replace x4 := x4.up u25
             replace x5 := x5.up u25
             replace UP := UP.trans u25
             clear b0_0 b0_1 b0_2 b1_0 b1_1 b1_2 b2_0 b2_1 b2_2 x1_0 x1_1 x1_2 x2_0 x2_1 x2_2 x3_0 x3_1 x3_2 x4_0 x4_1 x4_2 x5_0 x5_1 x5_2
             obtain ⟨b0_0, b0_1, b0_2⟩ := b0.c3
             obtain ⟨b1_0, b1_1, b1_2⟩ := b1.c3
             obtain ⟨b2_0, b2_1, b2_2⟩ := b2.c3
             obtain ⟨x1_0, x1_1, x1_2⟩ := x1.c3
             obtain ⟨x2_0, x2_1, x2_2⟩ := x2.c3
             obtain ⟨x3_0, x3_1, x3_2⟩ := x3.c3
             obtain ⟨x4_0, x4_1, x4_2⟩ := x4.c3
             obtain ⟨x5_0, x5_1, x5_2⟩ := x5.c3
             clear u25
             rw [E3.out] at g4)
          | (go_at_call 49
             ((with_reducible refine (law_alike9 g2 g4 L6 (by omega)).mono ?_))
             rintro e W26 ⟨rfl, u26⟩
             replace FX := FX.up u26
             replace FY := FY.up u26
             replace FZ := FZ.up u26
             replace a := a.up u26
             replace ad := ad.up u26
             replace FS := FS.up u26
             replace b := b.up u26
             replace bd := bd.up u26
             replace FT := FT.up u26
             try (replace a1 := a1.up u26)
             try (replace a2 := a2.up u26)
             try (replace a3 := a3.up u26)
             try (replace m1 := m1.up u26)
             try (replace m2 := m2.up u26)
             try (replace m3 := m3.up u26)
             try (replace g1 := g1.up u26)
             try (replace g2 := g2.up u26)
             try (replace g3 := g3.up u26)
             try (replace g4 := g4.up u26)
             replace b0 := b0.up u26
             replace b1 := b1.up u26
             replace b2 := b2.up u26
             replace x1 := x1.up u26
             replace x2 := x2.up u26
             replace x3 := x3.up u26
             replace x4 := x4.up u26
             replace x5 := x5.up u26
             replace UP := UP.trans u26
             clear b0_0 b0_1 b0_2 b1_0 b1_1 b1_2 b2_0 b2_1 b2_2 x1_0 x1_1 x1_2 x2_0 x2_1 x2_2 x3_0 x3_1 x3_2 x4_0 x4_1 x4_2 x5_0 x5_1 x5_2
             obtain ⟨b0_0, b0_1, b0_2⟩ := b0.c3
             obtain ⟨b1_0, b1_1, b1_2⟩ := b1.c3
             obtain ⟨b2_0, b2_1, b2_2⟩ := b2.c3
             obtain ⟨x1_0, x1_1, x1_2⟩ := x1.c3
             obtain ⟨x2_0, x2_1, x2_2⟩ := x2.c3
             obtain ⟨x3_0, x3_1, x3_2⟩ := x3.c3
             obtain ⟨x4_0, x4_1, x4_2⟩ := x4.c3
             obtain ⟨x5_0, x5_1, x5_2⟩ := x5.c3
             clear u26)))
    go_wp2_with fail
    go_wp2_with fail
    ((with_reducible refine (frac_quo (FT.fr LT) FY (by omega) (by omega)).mono ?_))
    rintro e W27 ⟨V27, rfl, p, u27⟩
    replace FX := FX.up u27
    replace FY := FY.up u27
    replace FZ := FZ.up u27
    replace a := a.up u27
    replace ad := ad.up u27
    replace FS := FS.up u27
    replace b := b.up u27
    replace bd := bd.up u27
    replace FT := FT.up u27
    replace a1 := a1.up u27
    replace a2 := a2.up u27
    replace a3 := a3.up u27
    replace m1 := m1.up u27
    replace m2 := m2.up u27
    replace m3 := m3.up u27
    replace g1 := g1.up u27
    replace g2 := g2.up u27
    replace g3 := g3.up u27
    replace g4 := g4.up u27
    replace b0 := b0.up u27
    replace b1 := b1.up u27
    replace b2 := b2.up u27
    replace x1 := x1.up u27
    replace x2 := x2.up u27
    replace x3 := x3.up u27
    replace x4 := x4.up u27
    replace x5 := x5.up u27
    replace UP := UP.trans u27
    clear b0_0 b0_1 b0_2 b1_0 b1_1 b1_2 b2_0 b2_1 b2_2 x1_0 x1_1 x1_2 x2_0 x2_1 x2_2 x3_0 x3_1 x3_2 x4_0 x4_1 x4_2 x5_0 x5_1 x5_2
    obtain ⟨b0_0, b0_1, b0_2⟩ := b0.c3
    obtain ⟨b1_0, b1_1, b1_2⟩ := b1.c3
    obtain ⟨b2_0, b2_1, b2_2⟩ := b2.c3
    obtain ⟨x1_0, x1_1, x1_2⟩ := x1.c3
    obtain ⟨x2_0, x2_1, x2_2⟩ := x2.c3
    obtain ⟨x3_0, x3_1, x3_2⟩ := x3.c3
    obtain ⟨x4_0, x4_1, x4_2⟩ := x4.c3
    obtain ⟨x5_0, x5_1, x5_2⟩ := x5.c3
    clear u27
    rw [HOK.out]
    obtain ⟨PZ, HPZ⟩ : ∃ P, T / y = P := ⟨_, rfl⟩
    rw [HPZ] at p
    have HPZ2 := Lib.hid HPZ
    clear HPZ
    obtain ⟨Xp, Yp, rfl, p, pd⟩ := p
    obtain ⟨Ap, np, cp, rfl⟩ := p.shape
    obtain ⟨Apd, npd, cpd, rfl⟩ := pd.shape
    have b0_0a := fun O0 => (cell_alloc (o := O0) b0_0)
    have b0_1a := fun O0 => (cell_alloc (o := O0) b0_1)
    have b0_2a := fun O0 => (cell_alloc (o := O0) b0_2)
    have b1_0a := fun O0 => (cell_alloc (o := O0) b1_0)
    have b1_1a := fun O0 => (cell_alloc (o := O0) b1_1)
    have b1_2a := fun O0 => (cell_alloc (o := O0) b1_2)
    have b2_0a := fun O0 => (cell_alloc (o := O0) b2_0)
    have b2_1a := fun O0 => (cell_alloc (o := O0) b2_1)
    have b2_2a := fun O0 => (cell_alloc (o := O0) b2_2)
    have x1_0a := fun O0 => (cell_alloc (o := O0) x1_0)
    have x1_1a := fun O0 => (cell_alloc (o := O0) x1_1)
    have x1_2a := fun O0 => (cell_alloc (o := O0) x1_2)
    have x2_0a := fun O0 => (cell_alloc (o := O0) x2_0)
    have x2_1a := fun O0 => (cell_alloc (o := O0) x2_1)
    have x2_2a := fun O0 => (cell_alloc (o := O0) x2_2)
    have x3_0a := fun O0 => (cell_alloc (o := O0) x3_0)
    have x3_1a := fun O0 => (cell_alloc (o := O0) x3_1)
    have x3_2a := fun O0 => (cell_alloc (o := O0) x3_2)
    have x4_0a := fun O0 => (cell_alloc (o := O0) x4_0)
    have x4_1a := fun O0 => (cell_alloc (o := O0) x4_1)
    have x4_2a := fun O0 => (cell_alloc (o := O0) x4_2)
    have x5_0a := fun O0 => (cell_alloc (o := O0) x5_0)
    have x5_1a := fun O0 => (cell_alloc (o := O0) x5_1)
    have x5_2a := fun O0 => (cell_alloc (o := O0) x5_2)
    go_wp2_with fail
    clear b0_0a b0_1a b0_2a b1_0a b1_1a b1_2a b2_0a b2_1a b2_2a x1_0a x1_1a x1_2a x2_0a x2_1a x2_2a x3_0a x3_1a x3_2a x4_0a x4_1a x4_2a x5_0a x5_1a x5_2a
    have x6 := Bx.new 69 W27 [.bool (Wd.ngb PZ.num), .slice Ap np cp, .slice Apd npd cpd]
    have b0_lt_x6 := b0.lt
    have b1_lt_x6 := b1.lt
    have b2_lt_x6 := b2.lt
    have x1_lt_x6 := x1.lt
    have x2_lt_x6 := x2.lt
    have x3_lt_x6 := x3.lt
    have x4_lt_x6 := x4.lt
    have x5_lt_x6 := x5.lt
    replace FX := FX.up ((Up.refl W27).alloc (.cells #[.bool (Wd.ngb PZ.num), .slice Ap np cp, .slice Apd npd cpd] 69))
    replace FY := FY.up ((Up.refl W27).alloc (.cells #[.bool (Wd.ngb PZ.num), .slice Ap np cp, .slice Apd npd cpd] 69))
    replace FZ := FZ.up ((Up.refl W27).alloc (.cells #[.bool (Wd.ngb PZ.num), .slice Ap np cp, .slice Apd npd cpd] 69))
    replace a := a.up ((Up.refl W27).alloc (.cells #[.bool (Wd.ngb PZ.num), .slice Ap np cp, .slice Apd npd cpd] 69))
    replace ad := ad.up ((Up.refl W27).alloc (.cells #[.bool (Wd.ngb PZ.num), .slice Ap np cp, .slice Apd npd cpd] 69))
    replace FS := FS.up ((Up.refl W27).alloc (.cells #[.bool (Wd.ngb PZ.num), .slice Ap np cp, .slice Apd npd cpd] 69))
    replace b := b.up ((Up.refl W27).alloc (.cells #[.bool (Wd.ngb PZ.num), .slice Ap np cp, .slice Apd npd cpd] 69))
    replace bd := bd.up ((Up.refl W27).alloc (.cells #[.bool (Wd.ngb PZ.num), .slice Ap np cp, .slice Apd npd cpd] 69))
    replace FT := FT.up ((Up.refl W27).alloc (.cells #[.bool (Wd.ngb PZ.num), .slice Ap np cp, .slice Apd npd cpd] 69))
    replace a1 := a1.up ((Up.refl W27).alloc (.cells #[.bool (Wd.ngb PZ.num), .slice Ap np cp, .slice Apd npd cpd] 69))
    replace a2 := a2.up ((Up.refl W27).alloc (.cells #[.bool (Wd.ngb PZ.num), .slice Ap np cp, .slice Apd npd cpd] 69))
    replace a3 := a3.up ((Up.refl W27).alloc (.cells #[.bool (Wd.ngb PZ.num), .slice Ap np cp, .slice Apd npd cpd] 69))
    replace m1 := m1.up ((Up.refl W27).alloc (.cells #[.bool (Wd.ngb PZ.num), .slice Ap np cp, .slice Apd npd cpd] 69))
    replace m2 := m2.up ((Up.refl W27).alloc (.cells #[.bool (Wd.ngb PZ.num), .slice Ap np cp, .slice Apd npd cpd] 69))
    replace m3 := m3.up ((Up.refl W27).alloc (.cells #[.bool (Wd.ngb PZ.num), .slice Ap np cp, .slice Apd npd cpd] 69))
    replace g1 := g1.up ((Up.refl W27).alloc (.cells #[.bool (Wd.ngb PZ.num), .slice Ap np cp, .slice Apd npd cpd] 69))
    replace g2 := g2.up ((Up.refl W27).alloc (.cells #[.bool (Wd.ngb PZ.num), .slice Ap np cp, .slice Apd npd cpd] 69))
    replace g3 := g3.up ((Up.refl W27).alloc (.cells #[.bool (Wd.ngb PZ.num), .slice Ap np cp, .slice Apd npd cpd] 69))
    replace g4 := g4.up ((Up.refl W27).alloc (.cells #[.bool (Wd.ngb PZ.num), .slice Ap np cp, .slice Apd npd cpd] 69))
    replace p := p.up ((Up.refl W27).alloc (.cells #[.bool (Wd.ngb PZ.num), .slice Ap np cp, .slice Apd npd cpd] 69))
    replace pd := pd.up ((Up.refl W27).alloc (.cells #[.bool (Wd.ngb PZ.num), .slice Ap np cp, .slice Apd npd cpd] 69))
    replace b0 := b0.up ((Up.refl W27).alloc (.cells #[.bool (Wd.ngb PZ.num), .slice Ap np cp, .slice Apd npd cpd] 69))
    replace b1 := b1.up ((Up.refl W27).alloc (.cells #[.bool (Wd.ngb PZ.num), .slice Ap np cp, .slice Apd npd cpd] 69))
    replace b2 := b2.up ((Up.refl W27).alloc (.cells #[.bool (Wd.ngb PZ.num), .slice Ap np cp, .slice Apd npd cpd] 69))
    replace x1 := x1.up ((Up.refl W27).alloc (.cells #[.bool (Wd.ngb PZ.num), .slice Ap np cp, .slice Apd npd cpd] 69))
    replace x2 := x2.up ((Up.refl W27).alloc (.cells #[.bool (Wd.ngb PZ.num), .slice Ap np cp, .slice Apd npd cpd] 69))
    replace x3 := x3.up ((Up.refl W27).alloc (.cells #[.bool (Wd.ngb PZ.num), .slice Ap np cp, .slice Apd npd cpd] 69))
    replace x4 := x4.up ((Up.refl W27).alloc (.cells #[.bool (Wd.ngb PZ.num), .slice Ap np cp, .slice Apd npd cpd] 69))
    replace x5 := x5.up ((Up.refl W27).alloc (.cells #[.bool (Wd.ngb PZ.num), .slice Ap np cp, .slice Apd npd cpd] 69))
    replace UP := UP.trans ((Up.refl W27).alloc (.cells #[.bool (Wd.ngb PZ.num), .slice Ap np cp, .slice Apd npd cpd] 69))
    generalize (W27.alloc (.cells #[.bool (Wd.ngb PZ.num), .slice Ap np cp, .slice Apd npd cpd] 69)) = W28 at *
    clear b0_0 b0_1 b0_2 b1_0 b1_1 b1_2 b2_0 b2_1 b2_2 x1_0 x1_1 x1_2 x2_0 x2_1 x2_2 x3_0 x3_1 x3_2 x4_0 x4_1 x4_2 x5_0 x5_1 x5_2
    obtain ⟨b0_0, b0_1, b0_2⟩ := b0.c3
    obtain ⟨b1_0, b1_1, b1_2⟩ := b1.c3
    obtain ⟨b2_0, b2_1, b2_2⟩ := b2.c3
    obtain ⟨x1_0, x1_1, x1_2⟩ := x1.c3
    obtain ⟨x2_0, x2_1, x2_2⟩ := x2.c3
    obtain ⟨x3_0, x3_1, x3_2⟩ := x3.c3
    obtain ⟨x4_0, x4_1, x4_2⟩ := x4.c3
    obtain ⟨x5_0, x5_1, x5_2⟩ := x5.c3
    obtain ⟨x6_0, x6_1, x6_2⟩ := x6.c3
    skip
    replace FX := FX.up (Up.refl W28).drew
    replace FY := FY.up (Up.refl W28).drew
    replace FZ := FZ.up (Up.refl W28).drew
    replace a := a.up (Up.refl W28).drew
    replace ad := ad.up (Up.refl W28).drew
    replace FS := FS.up (Up.refl W28).drew
    replace b := b.up (Up.refl W28).drew
    replace bd := bd.up (Up.refl W28).drew
    replace FT := FT.up (Up.refl W28).drew
    replace a1 := a1.up (Up.refl W28).drew
    replace a2 := a2.up (Up.refl W28).drew
    replace a3 := a3.up (Up.refl W28).drew
    replace m1 := m1.up (Up.refl W28).drew
    replace m2 := m2.up (Up.refl W28).drew
    replace m3 := m3.up (Up.refl W28).drew
    replace g1 := g1.up (Up.refl W28).drew
    replace g2 := g2.up (Up.refl W28).drew
    replace g3 := g3.up (Up.refl W28).drew
    replace g4 := g4.up (Up.refl W28).drew
    replace p := p.up (Up.refl W28).drew
    replace pd := pd.up (Up.refl W28).drew
    replace b0 := b0.up (Up.refl W28).drew
    replace b1 := b1.up (Up.refl W28).drew
    replace b2 := b2.up (Up.refl W28).drew
    replace x1 := x1.up (Up.refl W28).drew
    replace x2 := x2.up (Up.refl W28).drew
    replace x3 := x3.up (Up.refl W28).drew
    replace x4 := x4.up (Up.refl W28).drew
    replace x5 := x5.up (Up.refl W28).drew
    replace x6 := x6.up (Up.refl W28).drew
    replace UP := UP.trans (Up.refl W28).drew
    clear b0_0 b0_1 b0_2 b1_0 b1_1 b1_2 b2_0 b2_1 b2_2 x1_0 x1_1 x1_2 x2_0 x2_1 x2_2 x3_0 x3_1 x3_2 x4_0 x4_1 x4_2 x5_0 x5_1 x5_2 x6_0 x6_1 x6_2
    obtain ⟨b0_0, b0_1, b0_2⟩ := b0.c3
    obtain ⟨b1_0, b1_1, b1_2⟩ := b1.c3
    obtain ⟨b2_0, b2_1, b2_2⟩ := b2.c3
    obtain ⟨x1_0, x1_1, x1_2⟩ := x1.c3
    obtain ⟨x2_0, x2_1, x2_2⟩ := x2.c3
    obtain ⟨x3_0, x3_1, x3_2⟩ := x3.c3
    obtain ⟨x4_0, x4_1, x4_2⟩ := x4.c3
    obtain ⟨x5_0, x5_1, x5_2⟩ := x5.c3
    obtain ⟨x6_0, x6_1, x6_2⟩ := x6.c3
    refine wp_region_noPanic ?_
    refine wp_region_held_drew (S := fun w' => Up w w' ∧ w'.cell? ⟨W4.heap.size, 0, none⟩ = some (.bool s) ∧ w'.cell? ⟨W4.heap.size, 1, none⟩ = some (.slice A l.length c) ∧ w'.cell? ⟨W4.heap.size, 2, none⟩ = some (.slice D m.length d) ∧ w'.cell? ⟨W6.heap.size, 0, none⟩ = some (.bool s') ∧ w'.cell? ⟨W6.heap.size, 1, none⟩ = some (.slice A' l'.length c') ∧ w'.cell? ⟨W6.heap.size, 2, none⟩ = some (.slice D' m'.length d') ∧ w'.cell? ⟨W8.heap.size, 0, none⟩ = some (.bool s'') ∧ w'.cell? ⟨W8.heap.size, 1, none⟩ = some (.slice A'' l''.length c'') ∧ w'.cell? ⟨W8.heap.size, 2, none⟩ = some (.slice D'' m''.length d'') ∧ w'.cell? ⟨W10.heap.size, 0, none⟩ = some (.bool (Wd.ngb S.num)) ∧ w'.cell? ⟨W10.heap.size, 1, none⟩ = some (.slice Aa na ca) ∧ w'.cell? ⟨W10.heap.size, 2, none⟩ = some (.slice Aad nad cad) ∧ w'.cell? ⟨W12.heap.size, 0, none⟩ = some (.bool (Wd.ngb T.num)) ∧ w'.cell? ⟨W12.heap.size, 1, none⟩ = some (.slice Ab nb cb) ∧ w'.cell? ⟨W12.heap.size, 2, none⟩ = some (.slice Abd nbd cbd) ∧ w'.cell? ⟨W27.heap.size, 0, none⟩ = some (.bool (Wd.ngb PZ.num)) ∧ w'.cell? ⟨W27.heap.size, 1, none⟩ = some (.slice Ap np cp) ∧ w'.cell? ⟨W27.heap.size, 2, none⟩ = some (.slice Apd npd cpd)) (by kernel_rfl) ?_ (fun hHeld => ?_)
    · (first | with_reducible exact ⟨UP, x1_0, x1_1, x1_2, x2_0, x2_1, x2_2, x3_0, x3_1, x3_2, x4_0, x4_1, x4_2, x5_0, x5_1, x5_2, x6_0, x6_1, x6_2⟩ | with_reducible exact ⟨UP, x1_0, x1_1, x1_2, x2_0, x2_1, x2_2, x3_0, x3_1, x3_2, x4_0, x4_1, x4_2, x5_0, x5_1, x5_2, x6_0, x6_1, x6_2⟩ | with_reducible exact ⟨(UP.alloc_drew _), (cell_alloc_drew x1_0), (cell_alloc_drew x1_1), (cell_alloc_drew x1_2), (cell_alloc_drew x2_0), (cell_alloc_drew x2_1), (cell_alloc_drew x2_2), (cell_alloc_drew x3_0), (cell_alloc_drew x3_1), (cell_alloc_drew x3_2), (cell_alloc_drew x4_0), (cell_alloc_drew x4_1), (cell_alloc_drew x4_2), (cell_alloc_drew x5_0), (cell_alloc_drew x5_1), (cell_alloc_drew x5_2), (cell_alloc_drew x6_0), (cell_alloc_drew x6_1), (cell_alloc_drew x6_2)⟩ | with_reducible exact ⟨(UP.alloc2_drew _ _), (cell_alloc2_drew x1_0), (cell_alloc2_drew x1_1), (cell_alloc2_drew x1_2), (cell_alloc2_drew x2_0), (cell_alloc2_drew x2_1), (cell_alloc2_drew x2_2), (cell_alloc2_drew x3_0), (cell_alloc2_drew x3_1), (cell_alloc2_drew x3_2), (cell_alloc2_drew x4_0), (cell_alloc2_drew x4_1), (cell_alloc2_drew x4_2), (cell_alloc2_drew x5_0), (cell_alloc2_drew x5_1), (cell_alloc2_drew x5_2), (cell_alloc2_drew x6_0), (cell_alloc2_drew x6_1), (cell_alloc2_drew x6_2)⟩ | (simp only [← World.setCell_drew]; first | with_reducible exact ⟨UP, x1_0, x1_1, x1_2, x2_0, x2_1, x2_2, x3_0, x3_1, x3_2, x4_0, x4_1, x4_2, x5_0, x5_1, x5_2, x6_0, x6_1, x6_2⟩) | go_keep)
    refine wpAnyH_take (i := 0) (v := ?_) rfl (by kernel_rfl) (by kernel_rfl) (by kernel_rfl) (fun _ _ _ h => h) (Or.inl ⟨by rfl, ?_⟩) (by assumption) ?_
    rotate_left
    · (intro w hSw; (try dsimp only at hSw); go_simp; first | done | with_reducible rfl)
    try simp only [List.getElem_toArray, List.getElem_cons_zero, List.getElem_cons_succ, Act.put, List.setIfInBounds_toArray, List.set_cons_zero, List.set_cons_succ]
    refine wpAnyH_take (i := 1) (v := ?_) rfl (by kernel_rfl) (by kernel_rfl) (by kernel_rfl) (fun _ _ _ h => h) (Or.inl ⟨by rfl, ?_⟩) (by assumption) ?_
    rotate_left
    · (intro w hSw; (try dsimp only at hSw); go_simp; first | done | with_reducible rfl)
    try simp only [List.getElem_toArray, List.getElem_cons_zero, List.getElem_cons_succ, Act.put, List.setIfInBounds_toArray, List.set_cons_zero, List.set_cons_succ]
    refine wpAnyH_take (i := 3) (v := ?_) rfl (by kernel_rfl) (by kernel_rfl) (by kernel_rfl) (fun _ _ _ h => h) (Or.inl ⟨by rfl, ?_⟩) (by assumption) ?_
    rotate_left
    · (intro w hSw; (try dsimp only at hSw); go_simp; first | done | with_reducible rfl)
    try simp only [List.getElem_toArray, List.getElem_cons_zero, List.getElem_cons_succ, Act.put, List.setIfInBounds_toArray, List.set_cons_zero, List.set_cons_succ]
    refine wpAnyH_ready (rs := [2]) (by kernel_rfl) (by simp) ?_
    refine AllReadyH.cons rfl (fun K hK => ?_) AllReadyH.nil
    go_simp
    (first
          | (go_at_call 51
             ((with_reducible refine (frac_sub (FS.fr LS) FY (by omega) (by omega)).mono ?_))
             rintro e W29 ⟨V29, rfl, s1, u29⟩
             replace FX := FX.up u29
             replace FY := FY.up u29
             replace FZ := FZ.up u29
             replace a := a.up u29
             replace ad := ad.up u29
             replace FS := FS.up u29
             replace b := b.up u29
             replace bd := bd.up u29
             replace FT := FT.up u29
             replace a1 := a1.up u29
             replace a2 := a2.up u29
             replace a3 := a3.up u29
             replace m1 := m1.up u29
             replace m2 := m2.up u29
             replace m3 := m3.up u29
             replace g1 := g1.up u29
             replace g2 := g2.up u29
             replace g3 := g3.up u29
             replace g4 := g4.up u29
             replace p := p.up u29
             replace pd := pd.up u29
             try (replace s1 := s1.up u29)
             try (replace n1 := n1.up u29)
             replace b0 := b0.up u29
             replace b1 := b1.up u29
             replace b2 := b2.up u29
             replace x1 := x1.up u29
             replace x2 := x2.up u29
             replace x3 := x3.up u29
             replace x4 := x4.up u29
             replace x5 := x5.up u29
             replace x6 := x6.up u29
             replace UP := UP.trans u29
             clear b0_0 b0_1 b0_2 b1_0 b1_1 b1_2 b2_0 b2_1 b2_2 x1_0 x1_1 x1_2 x2_0 x2_1 x2_2 x3_0 x3_1 x3_2 x4_0 x4_1 x4_2 x5_0 x5_1 x5_2 x6_0 x6_1 x6_2
             obtain ⟨b0_0, b0_1, b0_2⟩ := b0.c3
             obtain ⟨b1_0, b1_1, b1_2⟩ := b1.c3
             obtain ⟨b2_0, b2_1, b2_2⟩ := b2.c3
             obtain ⟨x1_0, x1_1, x1_2⟩ := x1.c3
             obtain ⟨x2_0, x2_1, x2_2⟩ := x2.c3
             obtain ⟨x3_0, x3_1, x3_2⟩ := x3.c3
             obtain ⟨x4_0, x4_1, x4_2⟩ := x4.c3
             obtain ⟨x5_0, x5_1, x5_2⟩ := x5.c3
             obtain ⟨x6_0, x6_1, x6_2⟩ := x6.c3
             clear u29
             rw [E4.out] at s1))
    try go_wp2_with fail
    try clear hHeld
    refine hK.out _ _ ?_ (fun hHeld => ?_)
    · (first | with_reducible exact ⟨UP, x1_0, x1_1, x1_2, x2_0, x2_1, x2_2, x3_0, x3_1, x3_2, x4_0, x4_1, x4_2, x5_0, x5_1, x5_2, x6_0, x6_1, x6_2⟩ | with_reducible exact ⟨UP, x1_0, x1_1, x1_2, x2_0, x2_1, x2_2, x3_0, x3_1, x3_2, x4_0, x4_1, x4_2, x5_0, x5_1, x5_2, x6_0, x6_1, x6_2⟩ | with_reducible exact ⟨(UP.alloc_drew _), (cell_alloc_drew x1_0), (cell_alloc_drew x1_1), (cell_alloc_drew x1_2), (cell_alloc_drew x2_0), (cell_alloc_drew x2_1), (cell_alloc_drew x2_2), (cell_alloc_drew x3_0), (cell_alloc_drew x3_1), (cell_alloc_drew x3_2), (cell_alloc_drew x4_0), (cell_alloc_drew x4_1), (cell_alloc_drew x4_2), (cell_alloc_drew x5_0), (cell_alloc_drew x5_1), (cell_alloc_drew x5_2), (cell_alloc_drew x6_0), (cell_alloc_drew x6_1), (cell_alloc_drew x6_2)⟩ | with_reducible exact ⟨(UP.alloc2_drew _ _), (cell_alloc2_drew x1_0), (cell_alloc2_drew x1_1), (cell_alloc2_drew x1_2), (cell_alloc2_drew x2_0), (cell_alloc2_drew x2_1), (cell_alloc2_drew x2_2), (cell_alloc2_drew x3_0), (cell_alloc2_drew x3_1), (cell_alloc2_drew x3_2), (cell_alloc2_drew x4_0), (cell_alloc2_drew x4_1), (cell_alloc2_drew x4_2), (cell_alloc2_drew x5_0), (cell_alloc2_drew x5_1), (cell_alloc2_drew x5_2), (cell_alloc2_drew x6_0), (cell_alloc2_drew x6_1), (cell_alloc2_drew x6_2)⟩ | (simp only [← World.setCell_drew]; first | with_reducible exact ⟨UP, x1_0, x1_1, x1_2, x2_0, x2_1, x2_2, x3_0, x3_1, x3_2, x4_0, x4_1, x4_2, x5_0, x5_1, x5_2, x6_0, x6_1, x6_2⟩) | go_keep)
    clear hK K
    try simp only [List.getElem_toArray, List.getElem_cons_zero, List.getElem_cons_succ, Act.put, List.setIfInBounds_toArray, List.set_cons_zero, List.set_cons_succ]
    refine wpAnyH_ready (rs := [4]) (by kernel_rfl) (by simp) ?_
    refine AllReadyH.cons rfl (fun K hK => ?_) AllReadyH.nil
    go_simp
    (first
          | (go_at_call 52
             ((with_reducible refine (frac_norm FX (by omega)).mono ?_))
             rintro e W30 ⟨V30, rfl, n1, u30⟩
             replace FX := FX.up u30
             replace FY := FY.up u30
             replace FZ := FZ.up u30
             replace a := a.up u30
             replace ad := ad.up u30
             replace FS := FS.up u30
             replace b := b.up u30
             replace bd := bd.up u30
             replace FT := FT.up u30
             replace a1 := a1.up u30
             replace a2 := a2.up u30
             replace a3 := a3.up u30
             replace m1 := m1.up u30
             replace m2 := m2.up u30
             replace m3 := m3.up u30
             replace g1 := g1.up u30
             replace g2 := g2.up u30
             replace g3 := g3.up u30
             replace g4 := g4.up u30
             replace p := p.up u30
             replace pd := pd.up u30
             try (replace s1 := s1.up u30)
             try (replace n1 := n1.up u30)
             replace b0 := b0.up u30
             replace b1 := b1.up u30
             replace b2 := b2.up u30
             replace x1 := x1.up u30
             replace x2 := x2.up u30
             replace x3 := x3.up u30
             replace x4 := x4.up u30
             replace x5 := x5.up u30
             replace x6 := x6.up u30
             replace UP := UP.trans u30
             clear b0_0 b0_1 b0_2 b1_0 b1_1 b1_2 b2_0 b2_1 b2_2 x1_0 x1_1 x1_2 x2_0 x2_1 x2_2 x3_0 x3_1 x3_2 x4_0 x4_1 x4_2 x5_0 x5_1 x5_2 x6_0 x6_1 x6_2
             obtain ⟨b0_0, b0_1, b0_2⟩ := b0.c3
             obtain ⟨b1_0, b1_1, b1_2⟩ := b1.c3
             obtain ⟨b2_0, b2_1, b2_2⟩ := b2.c3
             obtain ⟨x1_0, x1_1, x1_2⟩ := x1.c3
             obtain ⟨x2_0, x2_1, x2_2⟩ := x2.c3
             obtain ⟨x3_0, x3_1, x3_2⟩ := x3.c3
             obtain ⟨x4_0, x4_1, x4_2⟩ := x4.c3
             obtain ⟨x5_0, x5_1, x5_2⟩ := x5.c3
             obtain ⟨x6_0, x6_1, x6_2⟩ := x6.c3
             clear u30))
    try go_wp2_with fail
    try clear hHeld
    refine hK.out _ _ ?_ (fun hHeld => ?_)
    · (first | with_reducible exact ⟨UP, x1_0, x1_1, x1_2, x2_0, x2_1, x2_2, x3_0, x3_1, x3_2, x4_0, x4_1, x4_2, x5_0, x5_1, x5_2, x6_0, x6_1, x6_2⟩ | with_reducible exact ⟨UP, x1_0, x1_1, x1_2, x2_0, x2_1, x2_2, x3_0, x3_1, x3_2, x4_0, x4_1, x4_2, x5_0, x5_1, x5_2, x6_0, x6_1, x6_2⟩ | with_reducible exact ⟨(UP.alloc_drew _), (cell_alloc_drew x1_0), (cell_alloc_drew x1_1), (cell_alloc_drew x1_2), (cell_alloc_drew x2_0), (cell_alloc_drew x2_1), (cell_alloc_drew x2_2), (cell_alloc_drew x3_0), (cell_alloc_drew x3_1), (cell_alloc_drew x3_2), (cell_alloc_drew x4_0), (cell_alloc_drew x4_1), (cell_alloc_drew x4_2), (cell_alloc_drew x5_0), (cell_alloc_drew x5_1), (cell_alloc_drew x5_2), (cell_alloc_drew x6_0), (cell_alloc_drew x6_1), (cell_alloc_drew x6_2)⟩ | with_reducible exact ⟨(UP.alloc2_drew _ _), (cell_alloc2_drew x1_0), (cell_alloc2_drew x1_1), (cell_alloc2_drew x1_2), (cell_alloc2_drew x2_0), (cell_alloc2_drew x2_1), (cell_alloc2_drew x2_2), (cell_alloc2_drew x3_0), (cell_alloc2_drew x3_1), (cell_alloc2_drew x3_2), (cell_alloc2_drew x4_0), (cell_alloc2_drew x4_1), (cell_alloc2_drew x4_2), (cell_alloc2_drew x5_0), (cell_alloc2_drew x5_1), (cell_alloc2_drew x5_2), (cell_alloc2_drew x6_0), (cell_alloc2_drew x6_1), (cell_alloc2_drew x6_2)⟩ | (simp only [← World.setCell_drew]; first | with_reducible exact ⟨UP, x1_0, x1_1, x1_2, x2_0, x2_1, x2_2, x3_0, x3_1, x3_2, x4_0, x4_1, x4_2, x5_0, x5_1, x5_2, x6_0, x6_1, x6_2⟩) | go_keep)
    clear hK K
    try simp only [List.getElem_toArray, List.getElem_cons_zero, List.getElem_cons_succ, Act.put, List.setIfInBounds_toArray, List.set_cons_zero, List.set_cons_succ]
    refine wpAnyH_ready (rs := [5]) (by kernel_rfl) (by simp) ?_
    refine AllReadyH.cons rfl (fun K hK => ?_) AllReadyH.nil
    go_simp
    (first
          | (go_at_call 49
             ((with_reducible refine (law_alike9 s1 n1 LX (by omega)).mono ?_))
             rintro e W31 ⟨rfl, u31⟩
             replace FX := FX.up u31
             replace FY := FY.up u31
             replace FZ := FZ.up u31
             replace a := a.up u31
             replace ad := ad.up u31
             replace FS := FS.up u31
             replace b := b.up u31
             replace bd := bd.up u31
             replace FT := FT.up u31
             replace a1 := a1.up u31
             replace a2 := a2.up u31
             replace a3 := a3.up u31
             replace m1 := m1.up u31
             replace m2 := m2.up u31
             replace m3 := m3.up u31
             replace g1 := g1.up u31
             replace g2 := g2.up u31
             replace g3 := g3.up u31
             replace g4 := g4.up u31
             replace p := p.up u31
             replace pd := pd.up u31
             try (replace s1 := s1.up u31)
             try (replace n1 := n1.up u31)
             replace b0 := b0.up u31
             replace b1 := b1.up u31
             replace b2 := b2.up u31
             replace x1 := x1.up u31
             replace x2 := x2.up u31
             replace x3 := x3.up u31
             replace x4 := x4.up u31
             replace x5 := x5.up u31
             replace x6 := x6.up u31
             replace UP := UP.trans u31
             clear b0_0 b0_1 b0_2 b1_0 b1_1 b1_2 b2_0 b2_1 b2_2 x1_0 x1_1 x1_2 x2_0 x2_1 x2_2 x3_0 x3_1 x3_2 x4_0 x4_1 x4_2 x5_0 x5_1 x5_2 x6_0 x6_1 x6_2
             obtain ⟨b0_0, b0_1, b0_2⟩ := b0.c3
             obtain ⟨b1_0, b1_1, b1_2⟩ := b1.c3
             obtain ⟨b2_0, b2_1, b2_2⟩ := b2.c3
             obtain ⟨x1_0, x1_1, x1_2⟩ := x1.c3
             obtain ⟨x2_0, x2_1, x2_2⟩ := x2.c3
             obtain ⟨x3_0, x3_1, x3_2⟩ := x3.c3
             obtain ⟨x4_0, x4_1, x4_2⟩ := x4.c3
             obtain ⟨x5_0, x5_1, x5_2⟩ := x5.c3
             obtain ⟨x6_0, x6_1, x6_2⟩ := x6.c3
             clear u31))
    try go_wp2_with fail
    try clear hHeld
    refine hK.out _ _ ?_ (fun hHeld => ?_)
    · (first | with_reducible exact ⟨UP, x1_0, x1_1, x1_2, x2_0, x2_1, x2_2, x3_0, x3_1, x3_2, x4_0, x4_1, x4_2, x5_0, x5_1, x5_2, x6_0, x6_1, x6_2⟩ | with_reducible exact ⟨UP, x1_0, x1_1, x1_2, x2_0, x2_1, x2_2, x3_0, x3_1, x3_2, x4_0, x4_1, x4_2, x5_0, x5_1, x5_2, x6_0, x6_1, x6_2⟩ | with_reducible exact ⟨(UP.alloc_drew _), (cell_alloc_drew x1_0), (cell_alloc_drew x1_1), (cell_alloc_drew x1_2), (cell_alloc_drew x2_0), (cell_alloc_drew x2_1), (cell_alloc_drew x2_2), (cell_alloc_drew x3_0), (cell_alloc_drew x3_1), (cell_alloc_drew x3_2), (cell_alloc_drew x4_0), (cell_alloc_drew x4_1), (cell_alloc_drew x4_2), (cell_alloc_drew x5_0), (cell_alloc_drew x5_1), (cell_alloc_drew x5_2), (cell_alloc_drew x6_0), (cell_alloc_drew x6_1), (cell_alloc_drew x6_2)⟩ | with_reducible exact ⟨(UP.alloc2_drew _ _), (cell_alloc2_drew x1_0), (cell_alloc2_drew x1_1), (cell_alloc2_drew x1_2), (cell_alloc2_drew x2_0), (cell_alloc2_drew x2_1), (cell_alloc2_drew x2_2), (cell_alloc2_drew x3_0), (cell_alloc2_drew x3_1), (cell_alloc2_drew x3_2), (cell_alloc2_drew x4_0), (cell_alloc2_drew x4_1), (cell_alloc2_drew x4_2), (cell_alloc2_drew x5_0), (cell_alloc2_drew x5_1), (cell_alloc2_drew x5_2), (cell_alloc2_drew x6_0), (cell_alloc2_drew x6_1), (cell_alloc2_drew x6_2)⟩ | (simp only [← World.setCell_drew]; first | with_reducible exact ⟨UP, x1_0, x1_1, x1_2, x2_0, x2_1, x2_2, x3_0, x3_1, x3_2, x4_0, x4_1, x4_2, x5_0, x5_1, x5_2, x6_0, x6_1, x6_2⟩) | go_keep)
    clear hK K
    try simp only [List.getElem_toArray, List.getElem_cons_zero, List.getElem_cons_succ, Act.put, List.setIfInBounds_toArray, List.set_cons_zero, List.set_cons_succ]
    refine wpAnyH_take (i := 6) (v := ?_) rfl (by kernel_rfl) (by kernel_rfl) (by kernel_rfl) (fun _ _ _ h => h) (Or.inl ⟨by rfl, ?_⟩) (by assumption) ?_
    rotate_left
    · (intro w hSw; (try dsimp only at hSw); go_simp; first | done | with_reducible rfl)
    try simp only [List.getElem_toArray, List.getElem_cons_zero, List.getElem_cons_succ, Act.put, List.setIfInBounds_toArray, List.set_cons_zero, List.set_cons_succ]
    refine wpAnyH_take (i := 7) (v := ?_) rfl (by kernel_rfl) (by kernel_rfl) (by kernel_rfl) (fun _ _ _ h => h) (Or.inl ⟨by rfl, ?_⟩) (by assumption) ?_
    rotate_left
    · (intro w hSw; (try dsimp only at hSw); go_simp; first | done | with_reducible rfl)
    try simp only [List.getElem_toArray, List.getElem_cons_zero, List.getElem_cons_succ, Act.put, List.setIfInBounds_toArray, List.set_cons_zero, List.set_cons_succ]
    refine wpAnyH_take (i := 8) (v := ?_) rfl (by kernel_rfl) (by kernel_rfl) (by kernel_rfl) (fun _ _ _ h => h) (Or.inl ⟨by rfl, ?_⟩) (by assumption) ?_
    rotate_left
    · (intro w hSw; (try dsimp only at hSw); go_simp; first | done | with_reducible rfl)
    try simp only [List.getElem_toArray, List.getElem_cons_zero, List.getElem_cons_succ, Act.put, List.setIfInBounds_toArray, List.set_cons_zero, List.set_cons_succ]
    refine wpAnyH_ready (rs := [9]) (by kernel_rfl) (by simp) ?_
    refine AllReadyH.cons rfl (fun K hK => ?_) AllReadyH.nil
    go_simp
    (first
          | (go_at_call 53
             ((with_reducible refine (frac_sign FY (by omega)).mono ?_))
             rintro e W32 ⟨rfl, u32⟩
             replace FX := FX.up u32
             replace FY := FY.up u32
             replace FZ := FZ.up u32
             replace a := a.up u32
             replace ad := ad.up u32
             replace FS := FS.up u32
             replace b := b.up u32
             replace bd := bd.up u32
             replace FT := FT.up u32
             replace a1 := a1.up u32
             replace a2 := a2.up u32
             replace a3 := a3.up u32
             replace m1 := m1.up u32
             replace m2 := m2.up u32
             replace m3 := m3.up u32
             replace g1 := g1.up u32
             replace g2 := g2.up u32
             replace g3 := g3.up u32
             replace g4 := g4.up u32
             replace p := p.up u32
             replace pd := pd.up u32
             try (replace s1 := s1.up u32)
             try (replace n1 := n1.up u32)
             replace b0 := b0.up u32
             replace b1 := b1.up u32
             replace b2 := b2.up u32
             replace x1 := x1.up u32
             replace x2 := x2.up u32
             replace x3 := x3.up u32
             replace x4 := x4.up u32
             replace x5 := x5.up u32
             replace x6 := x6.up u32
             replace UP := UP.trans u32
             clear b0_0 b0_1 b0_2 b1_0 b1_1 b1_2 b2_0 b2_1 b2_2 x1_0 x1_1 x1_2 x2_0 x2_1 x2_2 x3_0 x3_1 x3_2 x4_0 x4_1 x4_2 x5_0 x5_1 x5_2 x6_0 x6_1 x6_2
             obtain ⟨b0_0, b0_1, b0_2⟩ := b0.c3
             obtain ⟨b1_0, b1_1, b1_2⟩ := b1.c3
             obtain ⟨b2_0, b2_1, b2_2⟩ := b2.c3
             obtain ⟨x1_0, x1_1, x1_2⟩ := x1.c3
             obtain ⟨x2_0, x2_1, x2_2⟩ := x2.c3
             obtain ⟨x3_0, x3_1, x3_2⟩ := x3.c3
             obtain ⟨x4_0, x4_1, x4_2⟩ := x4.c3
             obtain ⟨x5_0, x5_1, x5_2⟩ := x5.c3
             obtain ⟨x6_0, x6_1, x6_2⟩ := x6.c3
             clear u32
             rw [HSG.out]))
    try go_wp2_with fail
    try clear hHeld
    refine hK.out _ _ ?_ (fun hHeld => ?_)
    · (first | with_reducible exact ⟨UP, x1_0, x1_1, x1_2, x2_0, x2_1, x2_2, x3_0, x3_1, x3_2, x4_0, x4_1, x4_2, x5_0, x5_1, x5_2, x6_0, x6_1, x6_2⟩ | with_reducible exact ⟨UP, x1_0, x1_1, x1_2, x2_0, x2_1, x2_2, x3_0, x3_1, x3_2, x4_0, x4_1, x4_2, x5_0, x5_1, x5_2, x6_0, x6_1, x6_2⟩ | with_reducible exact ⟨(UP.alloc_drew _), (cell_alloc_drew x1_0), (cell_alloc_drew x1_1), (cell_alloc_drew x1_2), (cell_alloc_drew x2_0), (cell_alloc_drew x2_1), (cell_alloc_drew x2_2), (cell_alloc_drew x3_0), (cell_alloc_drew x3_1), (cell_alloc_drew x3_2), (cell_alloc_drew x4_0), (cell_alloc_drew x4_1), (cell_alloc_drew x4_2), (cell_alloc_drew x5_0), (cell_alloc_drew x5_1), (cell_alloc_drew x5_2), (cell_alloc_drew x6_0), (cell_alloc_drew x6_1), (cell_alloc_drew x6_2)⟩ | with_reducible exact ⟨(UP.alloc2_drew _ _), (cell_alloc2_drew x1_0), (cell_alloc2_drew x1_1), (cell_alloc2_drew x1_2), (cell_alloc2_drew x2_0), (cell_alloc2_drew x2_1), (cell_alloc2_drew x2_2), (cell_alloc2_drew x3_0), (cell_alloc2_drew x3_1), (cell_alloc2_drew x3_2), (cell_alloc2_drew x4_0), (cell_alloc2_drew x4_1), (cell_alloc2_drew x4_2), (cell_alloc2_drew x5_0), (cell_alloc2_drew x5_1), (cell_alloc2_drew x5_2), (cell_alloc2_drew x6_0), (cell_alloc2_drew x6_1), (cell_alloc2_drew x6_2)⟩ | (simp only [← World.setCell_drew]; first | with_reducible exact ⟨UP, x1_0, x1_1, x1_2, x2_0, x2_1, x2_2, x3_0, x3_1, x3_2, x4_0, x4_1, x4_2, x5_0, x5_1, x5_2, x6_0, x6_1, x6_2⟩) | go_keep)
    clear hK K
    try simp only [List.getElem_toArray, List.getElem_cons_zero, List.getElem_cons_succ, Act.put, List.setIfInBounds_toArray, List.set_cons_zero, List.set_cons_succ]
    refine wpAnyH_take (i := 10) (v := ?_) rfl (by kernel_rfl) (by kernel_rfl) (by kernel_rfl) (fun _ _ _ h => h) (Or.inl ⟨by rfl, ?_⟩) (by assumption) ?_
    rotate_left
    · (intro w hSw; (try dsimp only at hSw); go_simp; first | done | with_reducible rfl)
    try simp only [List.getElem_toArray, List.getElem_cons_zero, List.getElem_cons_succ, Act.put, List.setIfInBounds_toArray, List.set_cons_zero, List.set_cons_succ]
    refine wpAnyH_take (i := 11) (v := ?_) rfl (by kernel_rfl) (by kernel_rfl) (by kernel_rfl) (fun _ _ _ h => h) (Or.inl ⟨by rfl, ?_⟩) (by assumption) ?_
    rotate_left
    · (intro w hSw; (try dsimp only at hSw); go_simp; first | done | with_reducible rfl)
    try simp only [List.getElem_toArray, List.getElem_cons_zero, List.getElem_cons_succ, Act.put, List.setIfInBounds_toArray, List.set_cons_zero, List.set_cons_succ]
    refine wpAnyH_take (i := 12) (v := ?_) rfl (by kernel_rfl) (by kernel_rfl) (by kernel_rfl) (fun _ _ _ h => h) (Or.inl ⟨by rfl, ?_⟩) (by assumption) ?_
    rotate_left
    · (intro w hSw; (try dsimp only at hSw); go_simp; first | done | with_reducible rfl)
    try simp only [List.getElem_toArray, List.getElem_cons_zero, List.getElem_cons_succ, Act.put, List.setIfInBounds_toArray, List.set_cons_zero, List.set_cons_succ]
    refine wpAnyH_take (i := 13) (v := ?_) rfl (by kernel_rfl) (by kernel_rfl) (by kernel_rfl) (fun _ _ _ h => h) (Or.inl ⟨by rfl, ?_⟩) (by assumption) ?_
    rotate_left
    · (intro w hSw; (try dsimp only at hSw); go_simp; first | done | with_reducible rfl)
    try simp only [List.getElem_toArray, List.getElem_cons_zero, List.getElem_cons_succ, Act.put, List.setIfInBounds_toArray, List.set_cons_zero, List.set_cons_succ]
    refine wpAnyH_take (i := 14) (v := ?_) rfl (by kernel_rfl) (by kernel_rfl) (by kernel_rfl) (fun _ _ _ h => h) (Or.inl ⟨by rfl, ?_⟩) (by assumption) ?_
    rotate_left
    · (intro w hSw; (try dsimp only at hSw); go_simp; first | done | with_reducible rfl)
    try simp only [List.getElem_toArray, List.getElem_cons_zero, List.getElem_cons_succ, Act.put, List.setIfInBounds_toArray, List.set_cons_zero, List.set_cons_succ]
    refine wpAnyH_take (i := 15) (v := ?_) rfl (by kernel_rfl) (by kernel_rfl) (by kernel_rfl) (fun _ _ _ h => h) (Or.inl ⟨by rfl, ?_⟩) (by assumption) ?_
    rotate_left
    · (intro w hSw; (try dsimp only at hSw); go_simp; first | done | with_reducible rfl)
    try simp only [List.getElem_toArray, List.getElem_cons_zero, List.getElem_cons_succ, Act.put, List.setIfInBounds_toArray, List.set_cons_zero, List.set_cons_succ]
    refine wpAnyH_take (i := 16) (v := ?_) rfl (by kernel_rfl) (by kernel_rfl) (by kernel_rfl) (fun _ _ _ h => h) (Or.inl ⟨by rfl, ?_⟩) (by assumption) ?_
    rotate_left
    · (intro w hSw; (try dsimp only at hSw); go_simp; first | done | with_reducible rfl)
    try simp only [List.getElem_toArray, List.getElem_cons_zero, List.getElem_cons_succ, Act.put, List.setIfInBounds_toArray, List.set_cons_zero, List.set_cons_succ]
    refine wpAnyH_take (i := 17) (v := undef) rfl (by kernel_rfl) (by kernel_rfl) (by kernel_rfl) (fun _ _ _ h => h) (Or.inr ⟨by rfl, rfl⟩) (by assumption) ?_
    try simp only [List.getElem_toArray, List.getElem_cons_zero, List.getElem_cons_succ, Act.put, List.setIfInBounds_toArray, List.set_cons_zero, List.set_cons_succ]
    refine wpAnyH_take (i := 18) (v := undef) rfl (by kernel_rfl) (by kernel_rfl) (by kernel_rfl) (fun _ _ _ h => h) (Or.inr ⟨by rfl, rfl⟩) (by assumption) ?_
    try simp only [List.getElem_toArray, List.getElem_cons_zero, List.getElem_cons_succ, Act.put, List.setIfInBounds_toArray, List.set_cons_zero, List.set_cons_succ]
    refine wpAnyH_take (i := 19) (v := undef) rfl (by kernel_rfl) (by kernel_rfl) (by kernel_rfl) (fun _ _ _ h => h) (Or.inr ⟨by rfl, rfl⟩) (by assumption) ?_
    try simp only [List.getElem_toArray, List.getElem_cons_zero, List.getElem_cons_succ, Act.put, List.setIfInBounds_toArray, List.set_cons_zero, List.set_cons_succ]
    refine wpAnyH_take (i := 20) (v := undef) rfl (by kernel_rfl) (by kernel_rfl) (by kernel_rfl) (fun _ _ _ h => h) (Or.inr ⟨by rfl, rfl⟩) (by assumption) ?_
    try simp only [List.getElem_toArray, List.getElem_cons_zero, List.getElem_cons_succ, Act.put, List.setIfInBounds_toArray, List.set_cons_zero, List.set_cons_succ]
    refine wpAnyH_take (i := 21) (v := ?_) rfl (by kernel_rfl) (by kernel_rfl) (by kernel_rfl) (fun _ _ _ h => h) (Or.inl ⟨by rfl, ?_⟩) (by assumption) ?_
    rotate_left
    · (intro w hSw; (try dsimp only at hSw); go_simp; first | done | with_reducible rfl)
    try simp only [List.getElem_toArray, List.getElem_cons_zero, List.getElem_cons_succ, Act.put, List.setIfInBounds_toArray, List.set_cons_zero, List.set_cons_succ]
    refine wpAnyH_take (i := 22) (v := ?_) rfl (by kernel_rfl) (by kernel_rfl) (by kernel_rfl) (fun _ _ _ h => h) (Or.inl ⟨by rfl, ?_⟩) (by assumption) ?_
    rotate_left
    · (intro w hSw; (try dsimp only at hSw); go_simp; first | done | with_reducible rfl)
    try simp only [List.getElem_toArray, List.getElem_cons_zero, List.getElem_cons_succ, Act.put, List.setIfInBounds_toArray, List.set_cons_zero, List.set_cons_succ]
    refine wpAnyH_take (i := 23) (v := ?_) rfl (by kernel_rfl) (by kernel_rfl) (by kernel_rfl) (fun _ _ _ h => h) (Or.inl ⟨by rfl, ?_⟩) (by assumption) ?_
    rotate_left
    · (intro w hSw; (try dsimp only at hSw); go_simp; first | done | with_reducible rfl)
    try simp only [List.getElem_toArray, List.getElem_cons_zero, List.getElem_cons_succ, Act.put, List.setIfInBounds_toArray, List.set_cons_zero, List.set_cons_succ]
    refine wpAnyH_take (i := 24) (v := ?_) rfl (by kernel_rfl) (by kernel_rfl) (by kernel_rfl) (fun _ _ _ h => h) (Or.inl ⟨by rfl, ?_⟩) (by assumption) ?_
    rotate_left
    · (intro w hSw; (try dsimp only at hSw); go_simp; first | done | with_reducible rfl)
    try simp only [List.getElem_toArray, List.getElem_cons_zero, List.getElem_cons_succ, Act.put, List.setIfInBounds_toArray, List.set_cons_zero, List.set_cons_succ]
    refine wpAnyH_take (i := 25) (v := ?_) rfl (by kernel_rfl) (by kernel_rfl) (by kernel_rfl) (fun _ _ _ h => h) (Or.inl ⟨by rfl, ?_⟩) (by assumption) ?_
    rotate_left
    · (intro w hSw; (try dsimp only at hSw); go_simp; first | done | with_reducible rfl)
    try simp only [List.getElem_toArray, List.getElem_cons_zero, List.getElem_cons_succ, Act.put, List.setIfInBounds_toArray, List.set_cons_zero, List.set_cons_succ]
    refine wpAnyH_ready (rs := [26]) (by kernel_rfl) (by simp) ?_
    refine AllReadyH.cons rfl (fun K hK => ?_) AllReadyH.nil
    go_simp
    (first
          | (go_at_call 52
             ((with_reducible refine (frac_norm FX (by omega)).mono ?_))
             rintro e W30 ⟨V30, rfl, n1, u30⟩
             replace FX := FX.up u30
             replace FY := FY.up u30
             replace FZ := FZ.up u30
             replace a := a.up u30
             replace ad := ad.up u30
             replace FS := FS.up u30
             replace b := b.up u30
             replace bd := bd.up u30
             replace FT := FT.up u30
             replace a1 := a1.up u30
             replace a2 := a2.up u30
             replace a3 := a3.up u30
             replace m1 := m1.up u30
             replace m2 := m2.up u30
             replace m3 := m3.up u30
             replace g1 := g1.up u30
             replace g2 := g2.up u30
             replace g3 := g3.up u30
             replace g4 := g4.up u30
             replace p := p.up u30
             replace pd := pd.up u30
             try (replace s1 := s1.up u30)
             try (replace n1 := n1.up u30)
             replace b0 := b0.up u30
             replace b1 := b1.up u30
             replace b2 := b2.up u30
             replace x1 := x1.up u30
             replace x2 := x2.up u30
             replace x3 := x3.up u30
             replace x4 := x4.up u30
             replace x5 := x5.up u30
             replace x6 := x6.up u30
             replace UP := UP.trans u30
             clear b0_0 b0_1 b0_2 b1_0 b1_1 b1_2 b2_0 b2_1 b2_2 x1_0 x1_1 x1_2 x2_0 x2_1 x2_2 x3_0 x3_1 x3_2 x4_0 x4_1 x4_2 x5_0 x5_1 x5_2 x6_0 x6_1 x6_2
             obtain ⟨b0_0, b0_1, b0_2⟩ := b0.c3
             obtain ⟨b1_0, b1_1, b1_2⟩ := b1.c3
             obtain ⟨b2_0, b2_1, b2_2⟩ := b2.c3
             obtain ⟨x1_0, x1_1, x1_2⟩ := x1.c3
             obtain ⟨x2_0, x2_1, x2_2⟩ := x2.c3
             obtain ⟨x3_0, x3_1, x3_2⟩ := x3.c3
             obtain ⟨x4_0, x4_1, x4_2⟩ := x4.c3
             obtain ⟨x5_0, x5_1, x5_2⟩ := x5.c3
             obtain ⟨x6_0, x6_1, x6_2⟩ := x6.c3
             clear u30))
    try go_wp2_with fail
    try clear hHeld
    refine hK.out _ _ ?_ (fun hHeld => ?_)
    · (first | with_reducible exact ⟨UP, x1_0, x1_1, x1_2, x2_0, x2_1, x2_2, x3_0, x3_1, x3_2, x4_0, x4_1, x4_2, x5_0, x5_1, x5_2, x6_0, x6_1, x6_2⟩ | with_reducible exact ⟨UP, x1_0, x1_1, x1_2, x2_0, x2_1, x2_2, x3_0, x3_1, x3_2, x4_0, x4_1, x4_2, x5_0, x5_1, x5_2, x6_0, x6_1, x6_2⟩ | with_reducible exact ⟨(UP.alloc_drew _), (cell_alloc_drew x1_0), (cell_alloc_drew x1_1), (cell_alloc_drew x1_2), (cell_alloc_drew x2_0), (cell_alloc_drew x2_1), (cell_alloc_drew x2_2), (cell_alloc_drew x3_0), (cell_alloc_drew x3_1), (cell_alloc_drew x3_2), (cell_alloc_drew x4_0), (cell_alloc_drew x4_1), (cell_alloc_drew x4_2), (cell_alloc_drew x5_0), (cell_alloc_drew x5_1), (cell_alloc_drew x5_2), (cell_alloc_drew x6_0), (cell_alloc_drew x6_1), (cell_alloc_drew x6_2)⟩ | with_reducible exact ⟨(UP.alloc2_drew _ _), (cell_alloc2_drew x1_0), (cell_alloc2_drew x1_1), (cell_alloc2_drew x1_2), (cell_alloc2_drew x2_0), (cell_alloc2_drew x2_1), (cell_alloc2_drew x2_2), (cell_alloc2_drew x3_0), (cell_alloc2_drew x3_1), (cell_alloc2_drew x3_2), (cell_alloc2_drew x4_0), (cell_alloc2_drew x4_1), (cell_alloc2_drew x4_2), (cell_alloc2_drew x5_0), (cell_alloc2_drew x5_1), (cell_alloc2_drew x5_2), (cell_alloc2_drew x6_0), (cell_alloc2_drew x6_1), (cell_alloc2_drew x6_2)⟩ | (simp only [← World.setCell_drew]; first | with_reducible exact ⟨UP, x1_0, x1_1, x1_2, x2_0, x2_1, x2_2, x3_0, x3_1, x3_2, x4_0, x4_1, x4_2, x5_0, x5_1, x5_2, x6_0, x6_1, x6_2⟩) | go_keep)
    clear hK K
    try simp only [List.getElem_toArray, List.getElem_cons_zero, List.getElem_cons_succ, Act.put, List.setIfInBounds_toArray, List.set_cons_zero, List.set_cons_succ]
    refine wpAnyH_ready (rs := [27]) (by kernel_rfl) (by simp) ?_
    refine AllReadyH.cons rfl (fun K hK => ?_) AllReadyH.nil
    go_simp
    (first
          | (go_at_call 54
             ((with_reducible refine (frac_same FX (n1.fr LX) (by omega) (by omega)).mono ?_))
             rintro e W34 ⟨rfl, u34⟩
             replace FX := FX.up u34
             replace FY := FY.up u34
             replace FZ := FZ.up u34
             replace a := a.up u34
             replace ad := ad.up u34
             replace FS := FS.up u34
             replace b := b.up u34
             replace bd := bd.up u34
             replace FT := FT.up u34
             replace a1 := a1.up u34
             replace a2 := a2.up u34
             replace a3 := a3.up u34
             replace m1 := m1.up u34
             replace m2 := m2.up u34
             replace m3 := m3.up u34
             replace g1 := g1.up u34
             replace g2 := g2.up u34
             replace g3 := g3.up u34
             replace g4 := g4.up u34
             replace p := p.up u34
             replace pd := pd.up u34
             try (replace s1 := s1.up u34)
             try (replace n1 := n1.up u34)
             replace b0 := b0.up u34
             replace b1 := b1.up u34
             replace b2 := b2.up u34
             replace x1 := x1.up u34
             replace x2 := x2.up u34
             replace x3 := x3.up u34
             replace x4 := x4.up u34
             replace x5 := x5.up u34
             replace x6 := x6.up u34
             replace UP := UP.trans u34
             clear b0_0 b0_1 b0_2 b1_0 b1_1 b1_2 b2_0 b2_1 b2_2 x1_0 x1_1 x1_2 x2_0 x2_1 x2_2 x3_0 x3_1 x3_2 x4_0 x4_1 x4_2 x5_0 x5_1 x5_2 x6_0 x6_1 x6_2
             obtain ⟨b0_0, b0_1, b0_2⟩ := b0.c3
             obtain ⟨b1_0, b1_1, b1_2⟩ := b1.c3
             obtain ⟨b2_0, b2_1, b2_2⟩ := b2.c3
             obtain ⟨x1_0, x1_1, x1_2⟩ := x1.c3
             obtain ⟨x2_0, x2_1, x2_2⟩ := x2.c3
             obtain ⟨x3_0, x3_1, x3_2⟩ := x3.c3
             obtain ⟨x4_0, x4_1, x4_2⟩ := x4.c3
             obtain ⟨x5_0, x5_1, x5_2⟩ := x5.c3
             obtain ⟨x6_0, x6_1, x6_2⟩ := x6.c3
             clear u34
             try rw [HXX.out]))
    try go_wp2_with fail
    try clear hHeld
    refine hK.out _ _ ?_ (fun hHeld => ?_)
    · (first | with_reducible exact ⟨UP, x1_0, x1_1, x1_2, x2_0, x2_1, x2_2, x3_0, x3_1, x3_2, x4_0, x4_1, x4_2, x5_0, x5_1, x5_2, x6_0, x6_1, x6_2⟩ | with_reducible exact ⟨UP, x1_0, x1_1, x1_2, x2_0, x2_1, x2_2, x3_0, x3_1, x3_2, x4_0, x4_1, x4_2, x5_0, x5_1, x5_2, x6_0, x6_1, x6_2⟩ | with_reducible exact ⟨(UP.alloc_drew _), (cell_alloc_drew x1_0), (cell_alloc_drew x1_1), (cell_alloc_drew x1_2), (cell_alloc_drew x2_0), (cell_alloc_drew x2_1), (cell_alloc_drew x2_2), (cell_alloc_drew x3_0), (cell_alloc_drew x3_1), (cell_alloc_drew x3_2), (cell_alloc_drew x4_0), (cell_alloc_drew x4_1), (cell_alloc_drew x4_2), (cell_alloc_drew x5_0), (cell_alloc_drew x5_1), (cell_alloc_drew x5_2), (cell_alloc_drew x6_0), (cell_alloc_drew x6_1), (cell_alloc_drew x6_2)⟩ | with_reducible exact ⟨(UP.alloc2_drew _ _), (cell_alloc2_drew x1_0), (cell_alloc2_drew x1_1), (cell_alloc2_drew x1_2), (cell_alloc2_drew x2_0), (cell_alloc2_drew x2_1), (cell_alloc2_drew x2_2), (cell_alloc2_drew x3_0), (cell_alloc2_drew x3_1), (cell_alloc2_drew x3_2), (cell_alloc2_drew x4_0), (cell_alloc2_drew x4_1), (cell_alloc2_drew x4_2), (cell_alloc2_drew x5_0), (cell_alloc2_drew x5_1), (cell_alloc2_drew x5_2), (cell_alloc2_drew x6_0), (cell_alloc2_drew x6_1), (cell_alloc2_drew x6_2)⟩ | (simp only [← World.setCell_drew]; first | with_reducible exact ⟨UP, x1_0, x1_1, x1_2, x2_0, x2_1, x2_2, x3_0, x3_1, x3_2, x4_0, x4_1, x4_2, x5_0, x5_1, x5_2, x6_0, x6_1, x6_2⟩) | go_keep)
    clear hK K
    try simp only [List.getElem_toArray, List.getElem_cons_zero, List.getElem_cons_succ, Act.put, List.setIfInBounds_toArray, List.set_cons_zero, List.set_cons_succ]
    refine wpAnyH_take (i := 28) (v := ?_) rfl (by kernel_rfl) (by kernel_rfl) (by kernel_rfl) (fun _ _ _ h => h) (Or.inl ⟨by rfl, ?_⟩) (by assumption) ?_
    rotate_left
    · (intro w hSw; (try dsimp only at hSw); go_simp; first | done | with_reducible rfl)
    try simp only [List.getElem_toArray, List.getElem_cons_zero, List.getElem_cons_succ, Act.put, List.setIfInBounds_toArray, List.set_cons_zero, List.set_cons_succ]
    refine wpAnyH_take (i := 29) (v := ?_) rfl (by kernel_rfl) (by kernel_rfl) (by kernel_rfl) (fun _ _ _ h => h) (Or.inl ⟨by rfl, ?_⟩) (by assumption) ?_
    rotate_left
    · (intro w hSw; (try dsimp only at hSw); go_simp; first | done | with_reducible rfl)
    try simp only [List.getElem_toArray, List.getElem_cons_zero, List.getElem_cons_succ, Act.put, List.setIfInBounds_toArray, List.set_cons_zero, List.set_cons_succ]
    refine wpAnyH_take (i := 30) (v := ?_) rfl (by kernel_rfl) (by kernel_rfl) (by kernel_rfl) (fun _ _ _ h => h) (Or.inl ⟨by rfl, ?_⟩) (by assumption) ?_
    rotate_left
    · (intro w hSw; (try dsimp only at hSw); go_simp; first | done | with_reducible rfl)
    try simp only [List.getElem_toArray, List.getElem_cons_zero, List.getElem_cons_succ, Act.put, List.setIfInBounds_toArray, List.set_cons_zero, List.set_cons_succ]
    refine wpAnyH_ready (rs := [31]) (by kernel_rfl) (by simp) ?_
    refine AllReadyH.cons rfl (fun K hK => ?_) AllReadyH.nil
    go_simp
    (first
          | (go_at_call 55
             ((with_reducible refine (frac_right_yes FS LS (by omega)).mono ?_))
             rintro e W35 ⟨rfl, u35⟩
             replace FX := FX.up u35
             replace FY := FY.up u35
             replace FZ := FZ.up u35
             replace a := a.up u35
             replace ad := ad.up u35
             replace FS := FS.up u35
             replace b := b.up u35
             replace bd := bd.up u35
             replace FT := FT.up u35
             replace a1 := a1.up u35
             replace a2 := a2.up u35
             replace a3 := a3.up u35
             replace m1 := m1.up u35
             replace m2 := m2.up u35
             replace m3 := m3.up u35
             replace g1 := g1.up u35
             replace g2 := g2.up u35
             replace g3 := g3.up u35
             replace g4 := g4.up u35
             replace p := p.up u35
             replace pd := pd.up u35
             try (replace s1 := s1.up u35)
             try (replace n1 := n1.up u35)
             replace b0 := b0.up u35
             replace b1 := b1.up u35
             replace b2 := b2.up u35
             replace x1 := x1.up u35
             replace x2 := x2.up u35
             replace x3 := x3.up u35
             replace x4 := x4.up u35
             replace x5 := x5.up u35
             replace x6 := x6.up u35
             replace UP := UP.trans u35
             clear b0_0 b0_1 b0_2 b1_0 b1_1 b1_2 b2_0 b2_1 b2_2 x1_0 x1_1 x1_2 x2_0 x2_1 x2_2 x3_0 x3_1 x3_2 x4_0 x4_1 x4_2 x5_0 x5_1 x5_2 x6_0 x6_1 x6_2
             obtain ⟨b0_0, b0_1, b0_2⟩ := b0.c3
             obtain ⟨b1_0, b1_1, b1_2⟩ := b1.c3
             obtain ⟨b2_0, b2_1, b2_2⟩ := b2.c3
             obtain ⟨x1_0, x1_1, x1_2⟩ := x1.c3
             obtain ⟨x2_0, x2_1, x2_2⟩ := x2.c3
             obtain ⟨x3_0, x3_1, x3_2⟩ := x3.c3
             obtain ⟨x4_0, x4_1, x4_2⟩ := x4.c3
             obtain ⟨x5_0, x5_1, x5_2⟩ := x5.c3
             obtain ⟨x6_0, x6_1, x6_2⟩ := x6.c3
             clear u35))
    try go_wp2_with fail
    try clear hHeld
    refine hK.out _ _ ?_ (fun hHeld => ?_)
    · (first | with_reducible exact ⟨UP, x1_0, x1_1, x1_2, x2_0, x2_1, x2_2, x3_0, x3_1, x3_2, x4_0, x4_1, x4_2, x5_0, x5_1, x5_2, x6_0, x6_1, x6_2⟩ | with_reducible exact ⟨UP, x1_0, x1_1, x1_2, x2_0, x2_1, x2_2, x3_0, x3_1, x3_2, x4_0, x4_1, x4_2, x5_0, x5_1, x5_2, x6_0, x6_1, x6_2⟩ | with_reducible exact ⟨(UP.alloc_drew _), (cell_alloc_drew x1_0), (cell_alloc_drew x1_1), (cell_alloc_drew x1_2), (cell_alloc_drew x2_0), (cell_alloc_drew x2_1), (cell_alloc_drew x2_2), (cell_alloc_drew x3_0), (cell_alloc_drew x3_1), (cell_alloc_drew x3_2), (cell_alloc_drew x4_0), (cell_alloc_drew x4_1), (cell_alloc_drew x4_2), (cell_alloc_drew x5_0), (cell_alloc_drew x5_1), (cell_alloc_drew x5_2), (cell_alloc_drew x6_0), (cell_alloc_drew x6_1), (cell_alloc_drew x6_2)⟩ | with_reducible exact ⟨(UP.alloc2_drew _ _), (cell_alloc2_drew x1_0), (cell_alloc2_drew x1_1), (cell_alloc2_drew x1_2), (cell_alloc2_drew x2_0), (cell_alloc2_drew x2_1), (cell_alloc2_drew x2_2), (cell_alloc2_drew x3_0), (cell_alloc2_drew x3_1), (cell_alloc2_drew x3_2), (cell_alloc2_drew x4_0), (cell_alloc2_drew x4_1), (cell_alloc2_drew x4_2), (cell_alloc2_drew x5_0), (cell_alloc2_drew x5_1), (cell_alloc2_drew x5_2), (cell_alloc2_drew x6_0), (cell_alloc2_drew x6_1), (cell_alloc2_drew x6_2)⟩ | (simp only [← World.setCell_drew]; first | with_reducible exact ⟨UP, x1_0, x1_1, x1_2, x2_0, x2_1, x2_2, x3_0, x3_1, x3_2, x4_0, x4_1, x4_2, x5_0, x5_1, x5_2, x6_0, x6_1, x6_2⟩) | go_keep)
    clear hK K
    try simp only [List.getElem_toArray, List.getElem_cons_zero, List.getElem_cons_succ, Act.put, List.setIfInBounds_toArray, List.set_cons_zero, List.set_cons_succ]
    refine wpAnyH_take (i := 32) (v := ?_) rfl (by kernel_rfl) (by kernel_rfl) (by kernel_rfl) (fun _ _ _ h => h) (Or.inl ⟨by rfl, ?_⟩) (by assumption) ?_
    rotate_left
    · (intro w hSw; (try dsimp only at hSw); go_simp; first | done | with_reducible rfl)
    try simp only [List.getElem_toArray, List.getElem_cons_zero, List.getElem_cons_succ, Act.put, List.setIfInBounds_toArray, List.set_cons_zero, List.set_cons_succ]
    refine wpAnyH_take (i := 33) (v := ?_) rfl (by kernel_rfl) (by kernel_rfl) (by kernel_rfl) (fun _ _ _ h => h) (Or.inl ⟨by rfl, ?_⟩) (by assumption) ?_
    rotate_left
    · (intro w hSw; (try dsimp only at hSw); go_simp; first | done | with_reducible rfl)
    try simp only [List.getElem_toArray, List.getElem_cons_zero, List.getElem_cons_succ, Act.put, List.setIfInBounds_toArray, List.set_cons_zero, List.set_cons_succ]
    refine wpAnyH_ready (rs := [34]) (by kernel_rfl) (by simp) ?_
    refine AllReadyH.cons rfl (fun K hK => ?_) AllReadyH.nil
    go_simp
    (first
          | (go_at_call 36
             ((with_reducible refine (works9 _).mono ?_))
             rintro e W36 ⟨rfl, u36⟩
             replace FX := FX.up u36
             replace FY := FY.up u36
             replace FZ := FZ.up u36
             replace a := a.up u36
             replace ad := ad.up u36
             replace FS := FS.up u36
             replace b := b.up u36
             replace bd := bd.up u36
             replace FT := FT.up u36
             replace a1 := a1.up u36
             replace a2 := a2.up u36
             replace a3 := a3.up u36
             replace m1 := m1.up u36
             replace m2 := m2.up u36
             replace m3 := m3.up u36
             replace g1 := g1.up u36
             replace g2 := g2.up u36
             replace g3 := g3.up u36
             replace g4 := g4.up u36
             replace p := p.up u36
             replace pd := pd.up u36
             try (replace s1 := s1.up u36)
             try (replace n1 := n1.up u36)
             replace b0 := b0.up u36
             replace b1 := b1.up u36
             replace b2 := b2.up u36
             replace x1 := x1.up u36
             replace x2 := x2.up u36
             replace x3 := x3.up u36
             replace x4 := x4.up u36
             replace x5 := x5.up u36
             replace x6 := x6.up u36
             replace UP := UP.trans u36
             clear b0_0 b0_1 b0_2 b1_0 b1_1 b1_2 b2_0 b2_1 b2_2 x1_0 x1_1 x1_2 x2_0 x2_1 x2_2 x3_0 x3_1 x3_2 x4_0 x4_1 x4_2 x5_0 x5_1 x5_2 x6_0 x6_1 x6_2
             obtain ⟨b0_0, b0_1, b0_2⟩ := b0.c3
             obtain ⟨b1_0, b1_1, b1_2⟩ := b1.c3
             obtain ⟨b2_0, b2_1, b2_2⟩ := b2.c3
             obtain ⟨x1_0, x1_1, x1_2⟩ := x1.c3
             obtain ⟨x2_0, x2_1, x2_2⟩ := x2.c3
             obtain ⟨x3_0, x3_1, x3_2⟩ := x3.c3
             obtain ⟨x4_0, x4_1, x4_2⟩ := x4.c3
             obtain ⟨x5_0, x5_1, x5_2⟩ := x5.c3
             obtain ⟨x6_0, x6_1, x6_2⟩ := x6.c3
             clear u36))
    try go_wp2_with fail
    try clear hHeld
    refine hK.out _ _ ?_ (fun hHeld => ?_)
    · (first | with_reducible exact ⟨UP, x1_0, x1_1, x1_2, x2_0, x2_1, x2_2, x3_0, x3_1, x3_2, x4_0, x4_1, x4_2, x5_0, x5_1, x5_2, x6_0, x6_1, x6_2⟩ | with_reducible exact ⟨UP, x1_0, x1_1, x1_2, x2_0, x2_1, x2_2, x3_0, x3_1, x3_2, x4_0, x4_1, x4_2, x5_0, x5_1, x5_2, x6_0, x6_1, x6_2⟩ | with_reducible exact ⟨(UP.alloc_drew _), (cell_alloc_drew x1_0), (cell_alloc_drew x1_1), (cell_alloc_drew x1_2), (cell_alloc_drew x2_0), (cell_alloc_drew x2_1), (cell_alloc_drew x2_2), (cell_alloc_drew x3_0), (cell_alloc_drew x3_1), (cell_alloc_drew x3_2), (cell_alloc_drew x4_0), (cell_alloc_drew x4_1), (cell_alloc_drew x4_2), (cell_alloc_drew x5_0), (cell_alloc_drew x5_1), (cell_alloc_drew x5_2), (cell_alloc_drew x6_0), (cell_alloc_drew x6_1), (cell_alloc_drew x6_2)⟩ | with_reducible exact ⟨(UP.alloc2_drew _ _), (cell_alloc2_drew x1_0), (cell_alloc2_drew x1_1), (cell_alloc2_drew x1_2), (cell_alloc2_drew x2_0), (cell_alloc2_drew x2_1), (cell_alloc2_drew x2_2), (cell_alloc2_drew x3_0), (cell_alloc2_drew x3_1), (cell_alloc2_drew x3_2), (cell_alloc2_drew x4_0), (cell_alloc2_drew x4_1), (cell_alloc2_drew x4_2), (cell_alloc2_drew x5_0), (cell_alloc2_drew x5_1), (cell_alloc2_drew x5_2), (cell_alloc2_drew x6_0), (cell_alloc2_drew x6_1), (cell_alloc2_drew x6_2)⟩ | (simp only [← World.setCell_drew]; first | with_reducible exact ⟨UP, x1_0, x1_1, x1_2, x2_0, x2_1, x2_2, x3_0, x3_1, x3_2, x4_0, x4_1, x4_2, x5_0, x5_1, x5_2, x6_0, x6_1, x6_2⟩) | go_keep)
    clear hK K
    try simp only [List.getElem_toArray, List.getElem_cons_zero, List.getElem_cons_succ, Act.put, List.setIfInBounds_toArray, List.set_cons_zero, List.set_cons_succ]
    refine wpAnyH_take (i := 35) (v := ?_) rfl (by kernel_rfl) (by kernel_rfl) (by kernel_rfl) (fun _ _ _ h => h) (Or.inl ⟨by rfl, ?_⟩) (by assumption) ?_
    rotate_left
    · (intro w hSw; (try dsimp only at hSw); go_simp; first | done | with_reducible rfl)
    try simp only [List.getElem_toArray, List.getElem_cons_zero, List.getElem_cons_succ, Act.put, List.setIfInBounds_toArray, List.set_cons_zero, List.set_cons_succ]
    refine wpAnyH_take (i := 36) (v := ?_) rfl (by kernel_rfl) (by kernel_rfl) (by kernel_rfl) (fun _ _ _ h => h) (Or.inl ⟨by rfl, ?_⟩) (by assumption) ?_
    rotate_left
    · (intro w hSw; (try dsimp only at hSw); go_simp; first | done | with_reducible rfl)
    try simp only [List.getElem_toArray, List.getElem_cons_zero, List.getElem_cons_succ, Act.put, List.setIfInBounds_toArray, List.set_cons_zero, List.set_cons_succ]
    refine wpAnyH_done (by kernel_rfl) ?_ _
    refine NoPanic.normal ?_
    all_goals
      go_wp2
      go_ret
      exact ⟨rfl, UP⟩
  · have HOK : Hid ((!decide (y = 0)) = true) := Lib.hid (by simp [hy])
    have hs : ((Wd.sgn y.num : Int) != 0) = true := by
      rcases Wd.sgn_cases y.num with ⟨_, e⟩ | ⟨e, _⟩ | ⟨_, e⟩
      · rw [e]; rfl
      · exact absurd (Rat.num_eq_zero.1 e) hy
      · rw [e]; rfl
    have HB := Lib.hid (E5.out hy)
    clear hy
    have UP : Up w (((w.alloc (.cells #[.bool s, .slice A l.length c, .slice D m.length d] 61)).alloc (.cells #[.bool s', .slice A' l'.length c', .slice D' m'.length d'] 61)).alloc (.cells #[.bool s'', .slice A'' l''.length c'', .slice D'' m''.length d''] 61)) := (((Up.refl w).alloc _).alloc _).alloc _
    obtain ⟨b0, b1, b2⟩ := bx_three 61 61 61 w [.bool s, .slice A l.length c, .slice D m.length d] [.bool s', .slice A' l'.length c', .slice D' m'.length d'] [.bool s'', .slice A'' l''.length c'', .slice D'' m''.length d'']
    go_enter Try.func7, Try.ntmps7
    go_wp2_with fail
    generalize (((w.alloc (.cells #[.bool s, .slice A l.length c, .slice D m.length d] 61)).alloc (.cells #[.bool s', .slice A' l'.length c', .slice D' m'.length d'] 61)).alloc (.cells #[.bool s'', .slice A'' l''.length c'', .slice D'' m''.length d''] 61)) = W at *
    replace FX := FX.up UP
    replace FY := FY.up UP
    replace FZ := FZ.up UP
    obtain ⟨b0_0, b0_1, b0_2⟩ := b0.c3
    obtain ⟨b1_0, b1_1, b1_2⟩ := b1.c3
    obtain ⟨b2_0, b2_1, b2_2⟩ := b2.c3
    go_wp2_with fail
    ((with_reducible refine (ref_long9_no l1 l2 (by omega)).mono ?_))
    rintro e W1 ⟨rfl, u1⟩
    replace FX := FX.up u1
    replace FY := FY.up u1
    replace FZ := FZ.up u1
    replace b0 := b0.up u1
    replace b1 := b1.up u1
    replace b2 := b2.up u1
    replace UP := UP.trans u1
    clear b0_0 b0_1 b0_2 b1_0 b1_1 b1_2 b2_0 b2_1 b2_2
    obtain ⟨b0_0, b0_1, b0_2⟩ := b0.c3
    obtain ⟨b1_0, b1_1, b1_2⟩ := b1.c3
    obtain ⟨b2_0, b2_1, b2_2⟩ := b2.c3
    clear u1
    go_wp2_with fail
    ((with_reducible refine (ref_long9_no l3 l4 (by omega)).mono ?_))
    rintro e W2 ⟨rfl, u2⟩
    replace FX := FX.up u2
    replace FY := FY.up u2
    replace FZ := FZ.up u2
    replace b0 := b0.up u2
    replace b1 := b1.up u2
    replace b2 := b2.up u2
    replace UP := UP.trans u2
    clear b0_0 b0_1 b0_2 b1_0 b1_1 b1_2 b2_0 b2_1 b2_2
    obtain ⟨b0_0, b0_1, b0_2⟩ := b0.c3
    obtain ⟨b1_0, b1_1, b1_2⟩ := b1.c3
    obtain ⟨b2_0, b2_1, b2_2⟩ := b2.c3
    clear u2
    go_wp2_with fail
    ((with_reducible refine (ref_long9_no l5 l6 (by omega)).mono ?_))
    rintro e W3 ⟨rfl, u3⟩
    replace FX := FX.up u3
    replace FY := FY.up u3
    replace FZ := FZ.up u3
    replace b0 := b0.up u3
    replace b1 := b1.up u3
    replace b2 := b2.up u3
    replace UP := UP.trans u3
    clear b0_0 b0_1 b0_2 b1_0 b1_1 b1_2 b2_0 b2_1 b2_2
    obtain ⟨b0_0, b0_1, b0_2⟩ := b0.c3
    obtain ⟨b1_0, b1_1, b1_2⟩ := b1.c3
    obtain ⟨b2_0, b2_1, b2_2⟩ := b2.c3
    clear u3
    go_wp2_with fail
    ((with_reducible refine (law_to9 _ _ _ _ _ _ _ _).mono ?_))
    rintro e W4 ⟨rfl, u4⟩
    replace FX := FX.up u4
    replace FY := FY.up u4
    replace FZ := FZ.up u4
    replace b0 := b0.up u4
    replace b1 := b1.up u4
    replace b2 := b2.up u4
    replace UP := UP.trans u4
    clear b0_0 b0_1 b0_2 b1_0 b1_1 b1_2 b2_0 b2_1 b2_2
    obtain ⟨b0_0, b0_1, b0_2⟩ := b0.c3
    obtain ⟨b1_0, b1_1, b1_2⟩ := b1.c3
    obtain ⟨b2_0, b2_1, b2_2⟩ := b2.c3
    clear u4
    have b0_0a := fun O0 => (cell_alloc (o := O0) b0_0)
    have b0_1a := fun O0 => (cell_alloc (o := O0) b0_1)
    have b0_2a := fun O0 => (cell_alloc (o := O0) b0_2)
    have b1_0a := fun O0 => (cell_alloc (o := O0) b1_0)
    have b1_1a := fun O0 => (cell_alloc (o := O0) b1_1)
    have b1_2a := fun O0 => (cell_alloc (o := O0) b1_2)
    have b2_0a := fun O0 => (cell_alloc (o := O0) b2_0)
    have b2_1a := fun O0 => (cell_alloc (o := O0) b2_1)
    have b2_2a := fun O0 => (cell_alloc (o := O0) b2_2)
    go_wp2_with fail
    clear b0_0a b0_1a b0_2a b1_0a b1_1a b1_2a b2_0a b2_1a b2_2a
    have x1 := Bx.new 69 W4 [.bool s, .slice A l.length c, .slice D m.length d]
    have b0_lt_x1 := b0.lt
    have b1_lt_x1 := b1.lt
    have b2_lt_x1 := b2.lt
    replace FX := FX.up ((Up.refl W4).alloc (.cells #[.bool s, .slice A l.length c, .slice D m.length d] 69))
    replace FY := FY.up ((Up.refl W4).alloc (.cells #[.bool s, .slice A l.length c, .slice D m.length d] 69))
    replace FZ := FZ.up ((Up.refl W4).alloc (.cells #[.bool s, .slice A l.length c, .slice D m.length d] 69))
    replace b0 := b0.up ((Up.refl W4).alloc (.cells #[.bool s, .slice A l.length c, .slice D m.length d] 69))
    replace b1 := b1.up ((Up.refl W4).alloc (.cells #[.bool s, .slice A l.length c, .slice D m.length d] 69))
    replace b2 := b2.up ((Up.refl W4).alloc (.cells #[.bool s, .slice A l.length c, .slice D m.length d] 69))
    replace UP := UP.trans ((Up.refl W4).alloc (.cells #[.bool s, .slice A l.length c, .slice D m.length d] 69))
    generalize (W4.alloc (.cells #[.bool s, .slice A l.length c, .slice D m.length d] 69)) = W5 at *
    clear b0_0 b0_1 b0_2 b1_0 b1_1 b1_2 b2_0 b2_1 b2_2
    obtain ⟨b0_0, b0_1, b0_2⟩ := b0.c3
    obtain ⟨b1_0, b1_1, b1_2⟩ := b1.c3
    obtain ⟨b2_0, b2_1, b2_2⟩ := b2.c3
    obtain ⟨x1_0, x1_1, x1_2⟩ := x1.c3
    ((with_reducible refine (law_to9 _ _ _ _ _ _ _ _).mono ?_))
    rintro e W6 ⟨rfl, u6⟩
    replace FX := FX.up u6
    replace FY := FY.up u6
    replace FZ := FZ.up u6
    replace b0 := b0.up u6
    replace b1 := b1.up u6
    replace b2 := b2.up u6
    replace x1 := x1.up u6
    replace UP := UP.trans u6
    clear b0_0 b0_1 b0_2 b1_0 b1_1 b1_2 b2_0 b2_1 b2_2 x1_0 x1_1 x1_2
    obtain ⟨b0_0, b0_1, b0_2⟩ := b0.c3
    obtain ⟨b1_0, b1_1, b1_2⟩ := b1.c3
    obtain ⟨b2_0, b2_1, b2_2⟩ := b2.c3
    obtain ⟨x1_0, x1_1, x1_2⟩ := x1.c3
    clear u6
    have b0_0a := fun O0 => (cell_alloc (o := O0) b0_0)
    have b0_1a := fun O0 => (cell_alloc (o := O0) b0_1)
    have b0_2a := fun O0 => (cell_alloc (o := O0) b0_2)
    have b1_0a := fun O0 => (cell_alloc (o := O0) b1_0)
    have b1_1a := fun O0 => (cell_alloc (o := O0) b1_1)
    have b1_2a := fun O0 => (cell_alloc (o := O0) b1_2)
    have b2_0a := fun O0 => (cell_alloc (o := O0) b2_0)
    have b2_1a := fun O0 => (cell_alloc (o := O0) b2_1)
    have b2_2a := fun O0 => (cell_alloc (o := O0) b2_2)
    have x1_0a := fun O0 => (cell_alloc (o := O0) x1_0)
    have x1_1a := fun O0 => (cell_alloc (o := O0) x1_1)
    have x1_2a := fun O0 => (cell_alloc (o := O0) x1_2)
    go_wp2_with fail
    clear b0_0a b0_1a b0_2a b1_0a b1_1a b1_2a b2_0a b2_1a b2_2a x1_0a x1_1a x1_2a
    have x2 := Bx.new 69 W6 [.bool s', .slice A' l'.length c', .slice D' m'.length d']
    have b0_lt_x2 := b0.lt
    have b1_lt_x2 := b1.lt
    have b2_lt_x2 := b2.lt
    have x1_lt_x2 := x1.lt
    replace FX := FX.up ((Up.refl W6).alloc (.cells #[.bool s', .slice A' l'.length c', .slice D' m'.length d'] 69))
    replace FY := FY.up ((Up.refl W6).alloc (.cells #[.bool s', .slice A' l'.length c', .slice D' m'.length d'] 69))
    replace FZ := FZ.up ((Up.refl W6).alloc (.cells #[.bool s', .slice A' l'.length c', .slice D' m'.length d'] 69))
    replace b0 := b0.up ((Up.refl W6).alloc (.cells #[.bool s', .slice A' l'.length c', .slice D' m'.length d'] 69))
    replace b1 := b1.up ((Up.refl W6).alloc (.cells #[.bool s', .slice A' l'.length c', .slice D' m'.length d'] 69))
    replace b2 := b2.up ((Up.refl W6).alloc (.cells #[.bool s', .slice A' l'.length c', .slice D' m'.length d'] 69))
    replace x1 := x1.up ((Up.refl W6).alloc (.cells #[.bool s', .slice A' l'.length c', .slice D' m'.length d'] 69))
    replace UP := UP.trans ((Up.refl W6).alloc (.cells #[.bool s', .slice A' l'.length c', .slice D' m'.length d'] 69))
    generalize (W6.alloc (.cells #[.bool s', .slice A' l'.length c', .slice D' m'.length d'] 69)) = W7 at *
    clear b0_0 b0_1 b0_2 b1_0 b1_1 b1_2 b2_0 b2_1 b2_2 x1_0 x1_1 x1_2
    obtain ⟨b0_0, b0_1, b0_2⟩ := b0.c3
    obtain ⟨b1_0, b1_1, b1_2⟩ := b1.c3
    obtain ⟨b2_0, b2_1, b2_2⟩ := b2.c3
    obtain ⟨x1_0, x1_1, x1_2⟩ := x1.c3
    obtain ⟨x2_0, x2_1, x2_2⟩ := x2.c3
    ((with_reducible refine (law_to9 _ _ _ _ _ _ _ _).mono ?_))
    rintro e W8 ⟨rfl, u8⟩
    replace FX := FX.up u8
    replace FY := FY.up u8
    replace FZ := FZ.up u8
    replace b0 := b0.up u8
    replace b1 := b1.up u8
    replace b2 := b2.up u8
    replace x1 := x1.up u8
    replace x2 := x2.up u8
    replace UP := UP.trans u8
    clear b0_0 b0_1 b0_2 b1_0 b1_1 b1_2 b2_0 b2_1 b2_2 x1_0 x1_1 x1_2 x2_0 x2_1 x2_2
    obtain ⟨b0_0, b0_1, b0_2⟩ := b0.c3
    obtain ⟨b1_0, b1_1, b1_2⟩ := b1.c3
    obtain ⟨b2_0, b2_1, b2_2⟩ := b2.c3
    obtain ⟨x1_0, x1_1, x1_2⟩ := x1.c3
    obtain ⟨x2_0, x2_1, x2_2⟩ := x2.c3
    clear u8
    have b0_0a := fun O0 => (cell_alloc (o := O0) b0_0)
    have b0_1a := fun O0 => (cell_alloc (o := O0) b0_1)
    have b0_2a := fun O0 => (cell_alloc (o := O0) b0_2)
    have b1_0a := fun O0 => (cell_alloc (o := O0) b1_0)
    have b1_1a := fun O0 => (cell_alloc (o := O0) b1_1)
    have b1_2a := fun O0 => (cell_alloc (o := O0) b1_2)
    have b2_0a := fun O0 => (cell_alloc (o := O0) b2_0)
    have b2_1a := fun O0 => (cell_alloc (o := O0) b2_1)
    have b2_2a := fun O0 => (cell_alloc (o := O0) b2_2)
    have x1_0a := fun O0 => (cell_alloc (o := O0) x1_0)
    have x1_1a := fun O0 => (cell_alloc (o := O0) x1_1)
    have x1_2a := fun O0 => (cell_alloc (o := O0) x1_2)
    have x2_0a := fun O0 => (cell_alloc (o := O0) x2_0)
    have x2_1a := fun O0 => (cell_alloc (o := O0) x2_1)
    have x2_2a := fun O0 => (cell_alloc (o := O0) x2_2)
    go_wp2_with fail
    clear b0_0a b0_1a b0_2a b1_0a b1_1a b1_2a b2_0a b2_1a b2_2a x1_0a x1_1a x1_2a x2_0a x2_1a x2_2a
    have x3 := Bx.new 69 W8 [.bool s'', .slice A'' l''.length c'', .slice D'' m''.length d'']
    have b0_lt_x3 := b0.lt
    have b1_lt_x3 := b1.lt
    have b2_lt_x3 := b2.lt
    have x1_lt_x3 := x1.lt
    have x2_lt_x3 := x2.lt
    replace FX := FX.up ((Up.refl W8).alloc (.cells #[.bool s'', .slice A'' l''.length c'', .slice D'' m''.length d''] 69))
    replace FY := FY.up ((Up.refl W8).alloc (.cells #[.bool s'', .slice A'' l''.length c'', .slice D'' m''.length d''] 69))
    replace FZ := FZ.up ((Up.refl W8).alloc (.cells #[.bool s'', .slice A'' l''.length c'', .slice D'' m''.length d''] 69))
    replace b0 := b0.up ((Up.refl W8).alloc (.cells #[.bool s'', .slice A'' l''.length c'', .slice D'' m''.length d''] 69))
    replace b1 := b1.up ((Up.refl W8).alloc (.cells #[.bool s'', .slice A'' l''.length c'', .slice D'' m''.length d''] 69))
    replace b2 := b2.up ((Up.refl W8).alloc (.cells #[.bool s'', .slice A'' l''.length c'', .slice D'' m''.length d''] 69))
    replace x1 := x1.up ((Up.refl W8).alloc (.cells #[.bool s'', .slice A'' l''.length c'', .slice D'' m''.length d''] 69))
    replace x2 := x2.up ((Up.refl W8).alloc (.cells #[.bool s'', .slice A'' l''.length c'', .slice D'' m''.length d''] 69))
    replace UP := UP.trans ((Up.refl W8).alloc (.cells #[.bool s'', .slice A'' l''.length c'', .slice D'' m''.length d''] 69))
    generalize (W8.alloc (.cells #[.bool s'', .slice A'' l''.length c'', .slice D'' m''.length d''] 69)) = W9 at *
    clear b0_0 b0_1 b0_2 b1_0 b1_1 b1_2 b2_0 b2_1 b2_2 x1_0 x1_1 x1_2 x2_0 x2_1 x2_2
    obtain ⟨b0_0, b0_1, b0_2⟩ := b0.c3
    obtain ⟨b1_0, b1_1, b1_2⟩ := b1.c3
    obtain ⟨b2_0, b2_1, b2_2⟩ := b2.c3
    obtain ⟨x1_0, x1_1, x1_2⟩ := x1.c3
    obtain ⟨x2_0, x2_1, x2_2⟩ := x2.c3
    obtain ⟨x3_0, x3_1, x3_2⟩ := x3.c3
    ((with_reducible refine (frac_add FX FY (by omega) (by omega)).mono ?_))
    rintro e W10 ⟨V10, rfl, a, u10⟩
    replace FX := FX.up u10
    replace FY := FY.up u10
    replace FZ := FZ.up u10
    replace b0 := b0.up u10
    replace b1 := b1.up u10
    replace b2 := b2.up u10
    replace x1 := x1.up u10
    replace x2 := x2.up u10
    replace x3 := x3.up u10
    replace UP := UP.trans u10
    clear b0_0 b0_1 b0_2 b1_0 b1_1 b1_2 b2_0 b2_1 b2_2 x1_0 x1_1 x1_2 x2_0 x2_1 x2_2 x3_0 x3_1 x3_2
    obtain ⟨b0_0, b0_1, b0_2⟩ := b0.c3
    obtain ⟨b1_0, b1_1, b1_2⟩ := b1.c3
    obtain ⟨b2_0, b2_1, b2_2⟩ := b2.c3
    obtain ⟨x1_0, x1_1, x1_2⟩ := x1.c3
    obtain ⟨x2_0, x2_1, x2_2⟩ := x2.c3
    obtain ⟨x3_0, x3_1, x3_2⟩ := x3.c3
    clear u10
    rw [HS.out] at a
    obtain ⟨Xa, Ya, rfl, a, ad⟩ := a
    obtain ⟨Aa, na, ca, rfl⟩ := a.shape
    obtain ⟨Aad, nad, cad, rfl⟩ := ad.shape
    have b0_0a := fun O0 => (cell_alloc (o := O0) b0_0)
    have b0_1a := fun O0 => (cell_alloc (o := O0) b0_1)
    have b0_2a := fun O0 => (cell_alloc (o := O0) b0_2)
    have b1_0a := fun O0 => (cell_alloc (o := O0) b1_0)
    have b1_1a := fun O0 => (cell_alloc (o := O0) b1_1)
    have b1_2a := fun O0 => (cell_alloc (o := O0) b1_2)
    have b2_0a := fun O0 => (cell_alloc (o := O0) b2_0)
    have b2_1a := fun O0 => (cell_alloc (o := O0) b2_1)
    have b2_2a := fun O0 => (cell_alloc (o := O0) b2_2)
    have x1_0a := fun O0 => (cell_alloc (o := O0) x1_0)
    have x1_1a := fun O0 => (cell_alloc (o := O0) x1_1)
    have x1_2a := fun O0 => (cell_alloc (o := O0) x1_2)
    have x2_0a := fun O0 => (cell_alloc (o := O0) x2_0)
    have x2_1a := fun O0 => (cell_alloc (o := O0) x2_1)
    have x2_2a := fun O0 => (cell_alloc (o := O0) x2_2)
    have x3_0a := fun O0 => (cell_alloc (o := O0) x3_0)
    have x3_1a := fun O0 => (cell_alloc (o := O0) x3_1)
    have x3_2a := fun O0 => (cell_alloc (o := O0) x3_2)
    go_wp2_with fail
    clear b0_0a b0_1a b0_2a b1_0a b1_1a b1_2a b2_0a b2_1a b2_2a x1_0a x1_1a x1_2a x2_0a x2_1a x2_2a x3_0a x3_1a x3_2a
    have x4 := Bx.new 69 W10 [.bool (Wd.ngb S.num), .slice Aa na ca, .slice Aad nad cad]
    have b0_lt_x4 := b0.lt
    have b1_lt_x4 := b1.lt
    have b2_lt_x4 := b2.lt
    have x1_lt_x4 := x1.lt
    have x2_lt_x4 := x2.lt
    have x3_lt_x4 := x3.lt
    replace FX := FX.up ((Up.refl W10).alloc (.cells #[.bool (Wd.ngb S.num), .slice Aa na ca, .slice Aad nad cad] 69))
    replace FY := FY.up ((Up.refl W10).alloc (.cells #[.bool (Wd.ngb S.num), .slice Aa na ca, .slice Aad nad cad] 69))
    replace FZ := FZ.up ((Up.refl W10).alloc (.cells #[.bool (Wd.ngb S.num), .slice Aa na ca, .slice Aad nad cad] 69))
    replace a := a.up ((Up.refl W10).alloc (.cells #[.bool (Wd.ngb S.num), .slice Aa na ca, .slice Aad nad cad] 69))
    replace ad := ad.up ((Up.refl W10).alloc (.cells #[.bool (Wd.ngb S.num), .slice Aa na ca, .slice Aad nad cad] 69))
    replace b0 := b0.up ((Up.refl W10).alloc (.cells #[.bool (Wd.ngb S.num), .slice Aa na ca, .slice Aad nad cad] 69))
    replace b1 := b1.up ((Up.refl W10).alloc (.cells #[.bool (Wd.ngb S.num), .slice Aa na ca, .slice Aad nad cad] 69))
    replace b2 := b2.up ((Up.refl W10).alloc (.cells #[.bool (Wd.ngb S.num), .slice Aa na ca, .slice Aad nad cad] 69))
    replace x1 := x1.up ((Up.refl W10).alloc (.cells #[.bool (Wd.ngb S.num), .slice Aa na ca, .slice Aad nad cad] 69))
    replace x2 := x2.up ((Up.refl W10).alloc (.cells #[.bool (Wd.ngb S.num), .slice Aa na ca, .slice Aad nad cad] 69))
    replace x3 := x3.up ((Up.refl W10).alloc (.cells #[.bool (Wd.ngb S.num), .slice Aa na ca, .slice Aad nad cad] 69))
    replace UP := UP.trans ((Up.refl W10).alloc (.cells #[.bool (Wd.ngb S.num), .slice Aa na ca, .slice Aad nad cad] 69))
    generalize (W10.alloc (.cells #[.bool (Wd.ngb S.num), .slice Aa na ca, .slice Aad nad cad] 69)) = W11 at *
    clear b0_0 b0_1 b0_2 b1_0 b1_1 b1_2 b2_0 b2_1 b2_2 x1_0 x1_1 x1_2 x2_0 x2_1 x2_2 x3_0 x3_1 x3_2
    obtain ⟨b0_0, b0_1, b0_2⟩ := b0.c3
    obtain ⟨b1_0, b1_1, b1_2⟩ := b1.c3
    obtain ⟨b2_0, b2_1, b2_2⟩ := b2.c3
    obtain ⟨x1_0, x1_1, x1_2⟩ := x1.c3
    obtain ⟨x2_0, x2_1, x2_2⟩ := x2.c3
    obtain ⟨x3_0, x3_1, x3_2⟩ := x3.c3
    obtain ⟨x4_0, x4_1, x4_2⟩ := x4.c3
    have FS : Qw W11 (.agg #[.bool (Wd.ngb S.num), .slice Aa na ca, .slice Aad nad cad]) S := Qw.of a ad
    ((with_reducible refine (frac_mul FX FY (by omega) (by omega)).mono ?_))
    rintro e W12 ⟨V12, rfl, b, u12⟩
    replace FX := FX.up u12
    replace FY := FY.up u12
    replace FZ := FZ.up u12
    replace a := a.up u12
    replace ad := ad.up u12
    replace FS := FS.up u12
    replace b0 := b0.up u12
    replace b1 := b1.up u12
    replace b2 := b2.up u12
    replace x1 := x1.up u12
    replace x2 := x2.up u12
    replace x3 := x3.up u12
    replace x4 := x4.up u12
    replace UP := UP.trans u12
    clear b0_0 b0_1 b0_2 b1_0 b1_1 b1_2 b2_0 b2_1 b2_2 x1_0 x1_1 x1_2 x2_0 x2_1 x2_2 x3_0 x3_1 x3_2 x4_0 x4_1 x4_2
    obtain ⟨b0_0, b0_1, b0_2⟩ := b0.c3
    obtain ⟨b1_0, b1_1, b1_2⟩ := b1.c3
    obtain ⟨b2_0, b2_1, b2_2⟩ := b2.c3
    obtain ⟨x1_0, x1_1, x1_2⟩ := x1.c3
    obtain ⟨x2_0, x2_1, x2_2⟩ := x2.c3
    obtain ⟨x3_0, x3_1, x3_2⟩ := x3.c3
    obtain ⟨x4_0, x4_1, x4_2⟩ := x4.c3
    clear u12
    rw [HT.out] at b
    obtain ⟨Xb, Yb, rfl, b, bd⟩ := b
    obtain ⟨Ab, nb, cb, rfl⟩ := b.shape
    obtain ⟨Abd, nbd, cbd, rfl⟩ := bd.shape
    have b0_0a := fun O0 => (cell_alloc (o := O0) b0_0)
    have b0_1a := fun O0 => (cell_alloc (o := O0) b0_1)
    have b0_2a := fun O0 => (cell_alloc (o := O0) b0_2)
    have b1_0a := fun O0 => (cell_alloc (o := O0) b1_0)
    have b1_1a := fun O0 => (cell_alloc (o := O0) b1_1)
    have b1_2a := fun O0 => (cell_alloc (o := O0) b1_2)
    have b2_0a := fun O0 => (cell_alloc (o := O0) b2_0)
    have b2_1a := fun O0 => (cell_alloc (o := O0) b2_1)
    have b2_2a := fun O0 => (cell_alloc (o := O0) b2_2)
    have x1_0a := fun O0 => (cell_alloc (o := O0) x1_0)
    have x1_1a := fun O0 => (cell_alloc (o := O0) x1_1)
    have x1_2a := fun O0 => (cell_alloc (o := O0) x1_2)
    have x2_0a := fun O0 => (cell_alloc (o := O0) x2_0)
    have x2_1a := fun O0 => (cell_alloc (o := O0) x2_1)
    have x2_2a := fun O0 => (cell_alloc (o := O0) x2_2)
    have x3_0a := fun O0 => (cell_alloc (o := O0) x3_0)
    have x3_1a := fun O0 => (cell_alloc (o := O0) x3_1)
    have x3_2a := fun O0 => (cell_alloc (o := O0) x3_2)
    have x4_0a := fun O0 => (cell_alloc (o := O0) x4_0)
    have x4_1a := fun O0 => (cell_alloc (o := O0) x4_1)
    have x4_2a := fun O0 => (cell_alloc (o := O0) x4_2)
    go_wp2_with fail
    clear b0_0a b0_1a b0_2a b1_0a b1_1a b1_2a b2_0a b2_1a b2_2a x1_0a x1_1a x1_2a x2_0a x2_1a x2_2a x3_0a x3_1a x3_2a x4_0a x4_1a x4_2a
    have x5 := Bx.new 69 W12 [.bool (Wd.ngb T.num), .slice Ab nb cb, .slice Abd nbd cbd]
    have b0_lt_x5 := b0.lt
    have b1_lt_x5 := b1.lt
    have b2_lt_x5 := b2.lt
    have x1_lt_x5 := x1.lt
    have x2_lt_x5 := x2.lt
    have x3_lt_x5 := x3.lt
    have x4_lt_x5 := x4.lt
    replace FX := FX.up ((Up.refl W12).alloc (.cells #[.bool (Wd.ngb T.num), .slice Ab nb cb, .slice Abd nbd cbd] 69))
    replace FY := FY.up ((Up.refl W12).alloc (.cells #[.bool (Wd.ngb T.num), .slice Ab nb cb, .slice Abd nbd cbd] 69))
    replace FZ := FZ.up ((Up.refl W12).alloc (.cells #[.bool (Wd.ngb T.num), .slice Ab nb cb, .slice Abd nbd cbd] 69))
    replace a := a.up ((Up.refl W12).alloc (.cells #[.bool (Wd.ngb T.num), .slice Ab nb cb, .slice Abd nbd cbd] 69))
    replace ad := ad.up ((Up.refl W12).alloc (.cells #[.bool (Wd.ngb T.num), .slice Ab nb cb, .slice Abd nbd cbd] 69))
    replace FS := FS.up ((Up.refl W12).alloc (.cells #[.bool (Wd.ngb T.num), .slice Ab nb cb, .slice Abd nbd cbd] 69))
    replace b := b.up ((Up.refl W12).alloc (.cells #[.bool (Wd.ngb T.num), .slice Ab nb cb, .slice Abd nbd cbd] 69))
    replace bd := bd.up ((Up.refl W12).alloc (.cells #[.bool (Wd.ngb T.num), .slice Ab nb cb, .slice Abd nbd cbd] 69))
    replace b0 := b0.up ((Up.refl W12).alloc (.cells #[.bool (Wd.ngb T.num), .slice Ab nb cb, .slice Abd nbd cbd] 69))
    replace b1 := b1.up ((Up.refl W12).alloc (.cells #[.bool (Wd.ngb T.num), .slice Ab nb cb, .slice Abd nbd cbd] 69))
    replace b2 := b2.up ((Up.refl W12).alloc (.cells #[.bool (Wd.ngb T.num), .slice Ab nb cb, .slice Abd nbd cbd] 69))
    replace x1 := x1.up ((Up.refl W12).alloc (.cells #[.bool (Wd.ngb T.num), .slice Ab nb cb, .slice Abd nbd cbd] 69))
    replace x2 := x2.up ((Up.refl W12).alloc (.cells #[.bool (Wd.ngb T.num), .slice Ab nb cb, .slice Abd nbd cbd] 69))
    replace x3 := x3.up ((Up.refl W12).alloc (.cells #[.bool (Wd.ngb T.num), .slice Ab nb cb, .slice Abd nbd cbd] 69))
    replace x4 := x4.up ((Up.refl W12).alloc (.cells #[.bool (Wd.ngb T.num), .slice Ab nb cb, .slice Abd nbd cbd] 69))
    replace UP := UP.trans ((Up.refl W12).alloc (.cells #[.bool (Wd.ngb T.num), .slice Ab nb cb, .slice Abd nbd cbd] 69))
    generalize (W12.alloc (.cells #[.bool (Wd.ngb T.num), .slice Ab nb cb, .slice Abd nbd cbd] 69)) = W13 at *
    clear b0_0 b0_1 b0_2 b1_0 b1_1 b1_2 b2_0 b2_1 b2_2 x1_0 x1_1 x1_2 x2_0 x2_1 x2_2 x3_0 x3_1 x3_2 x4_0 x4_1 x4_2
    obtain ⟨b0_0, b0_1, b0_2⟩ := b0.c3
    obtain ⟨b1_0, b1_1, b1_2⟩ := b1.c3
    obtain ⟨b2_0, b2_1, b2_2⟩ := b2.c3
    obtain ⟨x1_0, x1_1, x1_2⟩ := x1.c3
    obtain ⟨x2_0, x2_1, x2_2⟩ := x2.c3
    obtain ⟨x3_0, x3_1, x3_2⟩ := x3.c3
    obtain ⟨x4_0, x4_1, x4_2⟩ := x4.c3
    obtain ⟨x5_0, x5_1, x5_2⟩ := x5.c3
    have FT : Qw W13 (.agg #[.bool (Wd.ngb T.num), .slice Ab nb cb, .slice Abd nbd cbd]) T := Qw.of b bd
    replace FX := FX.up (Up.refl W13).drew
    replace FY := FY.up (Up.refl W13).drew
    replace FZ := FZ.up (Up.refl W13).drew
    replace a := a.up (Up.refl W13).drew
    replace ad := ad.up (Up.refl W13).drew
    replace FS := FS.up (Up.refl W13).drew
    replace b := b.up (Up.refl W13).drew
    replace bd := bd.up (Up.refl W13).drew
    replace FT := FT.up (Up.refl W13).drew
    replace b0 := b0.up (Up.refl W13).drew
    replace b1 := b1.up (Up.refl W13).drew
    replace b2 := b2.up (Up.refl W13).drew
    replace x1 := x1.up (Up.refl W13).drew
    replace x2 := x2.up (Up.refl W13).drew
    replace x3 := x3.up (Up.refl W13).drew
    replace x4 := x4.up (Up.refl W13).drew
    replace x5 := x5.up (Up.refl W13).drew
    replace UP := UP.trans (Up.refl W13).drew
    clear b0_0 b0_1 b0_2 b1_0 b1_1 b1_2 b2_0 b2_1 b2_2 x1_0 x1_1 x1_2 x2_0 x2_1 x2_2 x3_0 x3_1 x3_2 x4_0 x4_1 x4_2 x5_0 x5_1 x5_2
    obtain ⟨b0_0, b0_1, b0_2⟩ := b0.c3
    obtain ⟨b1_0, b1_1, b1_2⟩ := b1.c3
    obtain ⟨b2_0, b2_1, b2_2⟩ := b2.c3
    obtain ⟨x1_0, x1_1, x1_2⟩ := x1.c3
    obtain ⟨x2_0, x2_1, x2_2⟩ := x2.c3
    obtain ⟨x3_0, x3_1, x3_2⟩ := x3.c3
    obtain ⟨x4_0, x4_1, x4_2⟩ := x4.c3
    obtain ⟨x5_0, x5_1, x5_2⟩ := x5.c3
    go_region_held3 (fun w' => Up w w' ∧ w'.cell? ⟨W4.heap.size, 0, none⟩ = some (.bool s) ∧ w'.cell? ⟨W4.heap.size, 1, none⟩ = some (.slice A l.length c) ∧ w'.cell? ⟨W4.heap.size, 2, none⟩ = some (.slice D m.length d) ∧ w'.cell? ⟨W6.heap.size, 0, none⟩ = some (.bool s') ∧ w'.cell? ⟨W6.heap.size, 1, none⟩ = some (.slice A' l'.length c') ∧ w'.cell? ⟨W6.heap.size, 2, none⟩ = some (.slice D' m'.length d') ∧ w'.cell? ⟨W8.heap.size, 0, none⟩ = some (.bool s'') ∧ w'.cell? ⟨W8.heap.size, 1, none⟩ = some (.slice A'' l''.length c'') ∧ w'.cell? ⟨W8.heap.size, 2, none⟩ = some (.slice D'' m''.length d'') ∧ w'.cell? ⟨W10.heap.size, 0, none⟩ = some (.bool (Wd.ngb S.num)) ∧ w'.cell? ⟨W10.heap.size, 1, none⟩ = some (.slice Aa na ca) ∧ w'.cell? ⟨W10.heap.size, 2, none⟩ = some (.slice Aad nad cad) ∧ w'.cell? ⟨W12.heap.size, 0, none⟩ = some (.bool (Wd.ngb T.num)) ∧ w'.cell? ⟨W12.heap.size, 1, none⟩ = some (.slice Ab nb cb) ∧ w'.cell? ⟨W12.heap.size, 2, none⟩ = some (.slice Abd nbd cbd))
        (first | with_reducible exact ⟨UP, x1_0, x1_1, x1_2, x2_0, x2_1, x2_2, x3_0, x3_1, x3_2, x4_0, x4_1, x4_2, x5_0, x5_1, x5_2⟩ | with_reducible exact ⟨UP, x1_0, x1_1, x1_2, x2_0, x2_1, x2_2, x3_0, x3_1, x3_2, x4_0, x4_1, x4_2, x5_0, x5_1, x5_2⟩ | with_reducible exact ⟨(UP.alloc_drew _), (cell_alloc_drew x1_0), (cell_alloc_drew x1_1), (cell_alloc_drew x1_2), (cell_alloc_drew x2_0), (cell_alloc_drew x2_1), (cell_alloc_drew x2_2), (cell_alloc_drew x3_0), (cell_alloc_drew x3_1), (cell_alloc_drew x3_2), (cell_alloc_drew x4_0), (cell_alloc_drew x4_1), (cell_alloc_drew x4_2), (cell_alloc_drew x5_0), (cell_alloc_drew x5_1), (cell_alloc_drew x5_2)⟩ | with_reducible exact ⟨(UP.alloc2_drew _ _), (cell_alloc2_drew x1_0), (cell_alloc2_drew x1_1), (cell_alloc2_drew x1_2), (cell_alloc2_drew x2_0), (cell_alloc2_drew x2_1), (cell_alloc2_drew x2_2), (cell_alloc2_drew x3_0), (cell_alloc2_drew x3_1), (cell_alloc2_drew x3_2), (cell_alloc2_drew x4_0), (cell_alloc2_drew x4_1), (cell_alloc2_drew x4_2), (cell_alloc2_drew x5_0), (cell_alloc2_drew x5_1), (cell_alloc2_drew x5_2)⟩ | (simp only [← World.setCell_drew]; first | with_reducible exact ⟨UP, x1_0, x1_1, x1_2, x2_0, x2_1, x2_2, x3_0, x3_1, x3_2, x4_0, x4_1, x4_2, x5_0, x5_1, x5_2⟩) | go_keep)
        ((first
          | (go_at_call 47
             ((with_reducible refine (frac_add (FS.fr LS) FZ (by omega) (by omega)).mono ?_))
             rintro e W14 ⟨V14, rfl, a1, u14⟩
             replace FX := FX.up u14
             replace FY := FY.up u14
             replace FZ := FZ.up u14
             replace a := a.up u14
             replace ad := ad.up u14
             replace FS := FS.up u14
             replace b := b.up u14
             replace bd := bd.up u14
             replace FT := FT.up u14
             try (replace a1 := a1.up u14)
             try (replace a2 := a2.up u14)
             try (replace a3 := a3.up u14)
             try (replace m1 := m1.up u14)
             try (replace m2 := m2.up u14)
             try (replace m3 := m3.up u14)
             try (replace g1 := g1.up u14)
             try (replace g2 := g2.up u14)
             try (replace g3 := g3.up u14)
             try (replace g4 := g4.up u14)
             replace b0 := b0.up u14
             replace b1 := b1.up u14
             replace b2 := b2.up u14
             replace x1 := x1.up u14
             replace x2 := x2.up u14
             replace x3 := x3.up u14
             replace x4 := x4.up u14
             replace x5 := x5.up u14
             replace UP := UP.trans u14
             clear b0_0 b0_1 b0_2 b1_0 b1_1 b1_2 b2_0 b2_1 b2_2 x1_0 x1_1 x1_2 x2_0 x2_1 x2_2 x3_0 x3_1 x3_2 x4_0 x4_1 x4_2 x5_0 x5_1 x5_2
             obtain ⟨b0_0, b0_1, b0_2⟩ := b0.c3
             obtain ⟨b1_0, b1_1, b1_2⟩ := b1.c3
             obtain ⟨b2_0, b2_1, b2_2⟩ := b2.c3
             obtain ⟨x1_0, x1_1, x1_2⟩ := x1.c3
             obtain ⟨x2_0, x2_1, x2_2⟩ := x2.c3
             obtain ⟨x3_0, x3_1, x3_2⟩ := x3.c3
             obtain ⟨x4_0, x4_1, x4_2⟩ := x4.c3
             obtain ⟨x5_0, x5_1, x5_2⟩ := x5.c3
             clear u14)
          | (go_at_call 47
             ((with_reducible refine (frac_add FZ FY (by omega) (by omega)).mono ?_))
             rintro e W15 ⟨V15, rfl, a2, u15⟩
             replace FX := FX.up u15
             replace FY := FY.up u15
             replace FZ := FZ.up u15
             replace a := a.up u15
             replace ad := ad.up u15
             replace FS := FS.up u15
             replace b := b.up u15
             replace bd := bd.up u15
             replace FT := FT.up u15
             try (replace a1 := a1.up u15)
             try (replace a2 := a2.up u15)
             try (replace a3 := a3.up u15)
             try (replace m1 := m1.up u15)
             try (replace m2 := m2.up u15)
             try (replace m3 := m3.up u15)
             try (replace g1 := g1.up u15)
             try (replace g2 := g2.up u15)
             try (replace g3 := g3.up u15)
             try (replace g4 := g4.up u15)
             replace b0 := b0.up u15
             replace b1 := b1.up u15
             replace b2 := b2.up u15
             replace x1 := x1.up u15
             replace x2 := x2.up u15
             replace x3 := x3.up u15
             replace x4 := x4.up u15
             replace x5 := x5.up u15
             replace UP := UP.trans u15
             clear b0_0 b0_1 b0_2 b1_0 b1_1 b1_2 b2_0 b2_1 b2_2 x1_0 x1_1 x1_2 x2_0 x2_1 x2_2 x3_0 x3_1 x3_2 x4_0 x4_1 x4_2 x5_0 x5_1 x5_2
             obtain ⟨b0_0, b0_1, b0_2⟩ := b0.c3
             obtain ⟨b1_0, b1_1, b1_2⟩ := b1.c3
             obtain ⟨b2_0, b2_1, b2_2⟩ := b2.c3
             obtain ⟨x1_0, x1_1, x1_2⟩ := x1.c3
             obtain ⟨x2_0, x2_1, x2_2⟩ := x2.c3
             obtain ⟨x3_0, x3_1, x3_2⟩ := x3.c3
             obtain ⟨x4_0, x4_1, x4_2⟩ := x4.c3
             obtain ⟨x5_0, x5_1, x5_2⟩ := x5.c3
             clear u15)
          | (go_at_call 47
             ((with_reducible refine (frac_add FX (a2.fr L2) (by omega) (by omega)).mono ?_))
             rintro e W16 ⟨V16, rfl, a3, u16⟩
             replace FX := FX.up u16
             replace FY := FY.up u16
             replace FZ := FZ.up u16
             replace a := a.up u16
             replace ad := ad.up u16
             replace FS := FS.up u16
             replace b := b.up u16
             replace bd := bd.up u16
             replace FT := FT.up u16
             try (replace a1 := a1.up u16)
             try (replace a2 := a2.up u16)
             try (replace a3 := a3.up u16)
             try (replace m1 := m1.up u16)
             try (replace m2 := m2.up u16)
             try (replace m3 := m3.up u16)
             try (replace g1 := g1.up u16)
             try (replace g2 := g2.up u16)
             try (replace g3 := g3.up u16)
             try (replace g4 := g4.up u16)
             replace b0 := b0.up u16
             replace b1 := b1.up u16
             replace b2 := b2.up u16
             replace x1 := x1.up u16
             replace x2 := x2.up u16
             replace x3 := x3.up u16
             replace x4 := x4.up u16
             replace x5 := x5.up u16
             replace UP := UP.trans u16
             clear b0_0 b0_1 b0_2 b1_0 b1_1 b1_2 b2_0 b2_1 b2_2 x1_0 x1_1 x1_2 x2_0 x2_1 x2_2 x3_0 x3_1 x3_2 x4_0 x4_1 x4_2 x5_0 x5_1 x5_2
             obtain ⟨b0_0, b0_1, b0_2⟩ := b0.c3
             obtain ⟨b1_0, b1_1, b1_2⟩ := b1.c3
             obtain ⟨b2_0, b2_1, b2_2⟩ := b2.c3
             obtain ⟨x1_0, x1_1, x1_2⟩ := x1.c3
             obtain ⟨x2_0, x2_1, x2_2⟩ := x2.c3
             obtain ⟨x3_0, x3_1, x3_2⟩ := x3.c3
             obtain ⟨x4_0, x4_1, x4_2⟩ := x4.c3
             obtain ⟨x5_0, x5_1, x5_2⟩ := x5.c3
             clear u16
             rw [E1.out] at a3)
          | (go_at_call 49
             ((with_reducible refine (law_alike9 a1 a3 L1 (by omega)).mono ?_))
             rintro e W17 ⟨rfl, u17⟩
             replace FX := FX.up u17
             replace FY := FY.up u17
             replace FZ := FZ.up u17
             replace a := a.up u17
             replace ad := ad.up u17
             replace FS := FS.up u17
             replace b := b.up u17
             replace bd := bd.up u17
             replace FT := FT.up u17
             try (replace a1 := a1.up u17)
             try (replace a2 := a2.up u17)
             try (replace a3 := a3.up u17)
             try (replace m1 := m1.up u17)
             try (replace m2 := m2.up u17)
             try (replace m3 := m3.up u17)
             try (replace g1 := g1.up u17)
             try (replace g2 := g2.up u17)
             try (replace g3 := g3.up u17)
             try (replace g4 := g4.up u17)
             replace b0 := b0.up u17
             replace b1 := b1.up u17
             replace b2 := b2.up u17
             replace x1 := x1.up u17
             replace x2 := x2.up u17
             replace x3 := x3.up u17
             replace x4 := x4.up u17
             replace x5 := x5.up u17
             replace UP := UP.trans u17
             clear b0_0 b0_1 b0_2 b1_0 b1_1 b1_2 b2_0 b2_1 b2_2 x1_0 x1_1 x1_2 x2_0 x2_1 x2_2 x3_0 x3_1 x3_2 x4_0 x4_1 x4_2 x5_0 x5_1 x5_2
             obtain ⟨b0_0, b0_1, b0_2⟩ := b0.c3
             obtain ⟨b1_0, b1_1, b1_2⟩ := b1.c3
             obtain ⟨b2_0, b2_1, b2_2⟩ := b2.c3
             obtain ⟨x1_0, x1_1, x1_2⟩ := x1.c3
             obtain ⟨x2_0, x2_1, x2_2⟩ := x2.c3
             obtain ⟨x3_0, x3_1, x3_2⟩ := x3.c3
             obtain ⟨x4_0, x4_1, x4_2⟩ := x4.c3
             obtain ⟨x5_0, x5_1, x5_2⟩ := x5.c3
             clear u17)
          | (go_at_call 48
             ((with_reducible refine (frac_mul (FT.fr LT) FZ (by omega) (by omega)).mono ?_))
             rintro e W18 ⟨V18, rfl, m1, u18⟩
             replace FX := FX.up u18
             replace FY := FY.up u18
             replace FZ := FZ.up u18
             replace a := a.up u18
             replace ad := ad.up u18
             replace FS := FS.up u18
             replace b := b.up u18
             replace bd := bd.up u18
             replace FT := FT.up u18
             try (replace a1 := a1.up u18)
             try (replace a2 := a2.up u18)
             try (replace a3 := a3.up u18)
             try (replace m1 := m1.up u18)
             try (replace m2 := m2.up u18)
             try (replace m3 := m3.up u18)
             try (replace g1 := g1.up u18)
             try (replace g2 := g2.up u18)
             try (replace g3 := g3.up u18)
             try (replace g4 := g4.up u18)
             replace b0 := b0.up u18
             replace b1 := b1.up u18
             replace b2 := b2.up u18
             replace x1 := x1.up u18
             replace x2 := x2.up u18
             replace x3 := x3.up u18
             replace x4 := x4.up u18
             replace x5 := x5.up u18
             replace UP := UP.trans u18
             clear b0_0 b0_1 b0_2 b1_0 b1_1 b1_2 b2_0 b2_1 b2_2 x1_0 x1_1 x1_2 x2_0 x2_1 x2_2 x3_0 x3_1 x3_2 x4_0 x4_1 x4_2 x5_0 x5_1 x5_2
             obtain ⟨b0_0, b0_1, b0_2⟩ := b0.c3
             obtain ⟨b1_0, b1_1, b1_2⟩ := b1.c3
             obtain ⟨b2_0, b2_1, b2_2⟩ := b2.c3
             obtain ⟨x1_0, x1_1, x1_2⟩ := x1.c3
             obtain ⟨x2_0, x2_1, x2_2⟩ := x2.c3
             obtain ⟨x3_0, x3_1, x3_2⟩ := x3.c3
             obtain ⟨x4_0, x4_1, x4_2⟩ := x4.c3
             obtain ⟨x5_0, x5_1, x5_2⟩ := x5.c3
             clear u18)
          | (go_at_call 48
             ((with_reducible refine (frac_mul FZ FY (by omega) (by omega)).mono ?_))
             rintro e W19 ⟨V19, rfl, m2, u19⟩
             replace FX := FX.up u19
             replace FY := FY.up u19
             replace FZ := FZ.up u19
             replace a := a.up u19
             replace ad := ad.up u19
             replace FS := FS.up u19
             replace b := b.up u19
             replace bd := bd.up u19
             replace FT := FT.up u19
             try (replace a1 := a1.up u19)
             try (replace a2 := a2.up u19)
             try (replace a3 := a3.up u19)
             try (replace m1 := m1.up u19)
             try (replace m2 := m2.up u19)
             try (replace m3 := m3.up u19)
             try (replace g1 := g1.up u19)
             try (replace g2 := g2.up u19)
             try (replace g3 := g3.up u19)
             try (replace g4 := g4.up u19)
             replace b0 := b0.up u19
             replace b1 := b1.up u19
             replace b2 := b2.up u19
             replace x1 := x1.up u19
             replace x2 := x2.up u19
             replace x3 := x3.up u19
             replace x4 := x4.up u19
             replace x5 := x5.up u19
             replace UP := UP.trans u19
             clear b0_0 b0_1 b0_2 b1_0 b1_1 b1_2 b2_0 b2_1 b2_2 x1_0 x1_1 x1_2 x2_0 x2_1 x2_2 x3_0 x3_1 x3_2 x4_0 x4_1 x4_2 x5_0 x5_1 x5_2
             obtain ⟨b0_0, b0_1, b0_2⟩ := b0.c3
             obtain ⟨b1_0, b1_1, b1_2⟩ := b1.c3
             obtain ⟨b2_0, b2_1, b2_2⟩ := b2.c3
             obtain ⟨x1_0, x1_1, x1_2⟩ := x1.c3
             obtain ⟨x2_0, x2_1, x2_2⟩ := x2.c3
             obtain ⟨x3_0, x3_1, x3_2⟩ := x3.c3
             obtain ⟨x4_0, x4_1, x4_2⟩ := x4.c3
             obtain ⟨x5_0, x5_1, x5_2⟩ := x5.c3
             clear u19)
          | (go_at_call 48
             ((with_reducible refine (frac_mul FX (m2.fr L4) (by omega) (by omega)).mono ?_))
             rintro e W20 ⟨V20, rfl, m3, u20⟩
             replace FX := FX.up u20
             replace FY := FY.up u20
             replace FZ := FZ.up u20
             replace a := a.up u20
             replace ad := ad.up u20
             replace FS := FS.up u20
             replace b := b.up u20
             replace bd := bd.up u20
             replace FT := FT.up u20
             try (replace a1 := a1.up u20)
             try (replace a2 := a2.up u20)
             try (replace a3 := a3.up u20)
             try (replace m1 := m1.up u20)
             try (replace m2 := m2.up u20)
             try (replace m3 := m3.up u20)
             try (replace g1 := g1.up u20)
             try (replace g2 := g2.up u20)
             try (replace g3 := g3.up u20)
             try (replace g4 := g4.up u20)
             replace b0 := b0.up u20
             replace b1 := b1.up u20
             replace b2 := b2.up u20
             replace x1 := x1.up u20
             replace x2 := x2.up u20
             replace x3 := x3.up u20
             replace x4 := x4.up u20
             replace x5 := x5.up u20
             replace UP := UP.trans u20
             clear b0_0 b0_1 b0_2 b1_0 b1_1 b1_2 b2_0 b2_1 b2_2 x1_0 x1_1 x1_2 x2_0 x2_1 x2_2 x3_0 x3_1 x3_2 x4_0 x4_1 x4_2 x5_0 x5_1 x5_2
             obtain ⟨b0_0, b0_1, b0_2⟩ := b0.c3
             obtain ⟨b1_0, b1_1, b1_2⟩ := b1.c3
             obtain ⟨b2_0, b2_1, b2_2⟩ := b2.c3
             obtain ⟨x1_0, x1_1, x1_2⟩ := x1.c3
             obtain ⟨x2_0, x2_1, x2_2⟩ := x2.c3
             obtain ⟨x3_0, x3_1, x3_2⟩ := x3.c3
             obtain ⟨x4_0, x4_1, x4_2⟩ := x4.c3
             obtain ⟨x5_0, x5_1, x5_2⟩ := x5.c3
             clear u20
             rw [E2.out] at m3)
          | (go_at_call 49
             ((with_reducible refine (law_alike9 m1 m3 L3 (by omega)).mono ?_))
             rintro e W21 ⟨rfl, u21⟩
             replace FX := FX.up u21
             replace FY := FY.up u21
             replace FZ := FZ.up u21
             replace a := a.up u21
             replace ad := ad.up u21
             replace FS := FS.up u21
             replace b := b.up u21
             replace bd := bd.up u21
             replace FT := FT.up u21
             try (replace a1 := a1.up u21)
             try (replace a2 := a2.up u21)
             try (replace a3 := a3.up u21)
             try (replace m1 := m1.up u21)
             try (replace m2 := m2.up u21)
             try (replace m3 := m3.up u21)
             try (replace g1 := g1.up u21)
             try (replace g2 := g2.up u21)
             try (replace g3 := g3.up u21)
             try (replace g4 := g4.up u21)
             replace b0 := b0.up u21
             replace b1 := b1.up u21
             replace b2 := b2.up u21
             replace x1 := x1.up u21
             replace x2 := x2.up u21
             replace x3 := x3.up u21
             replace x4 := x4.up u21
             replace x5 := x5.up u21
             replace UP := UP.trans u21
             clear b0_0 b0_1 b0_2 b1_0 b1_1 b1_2 b2_0 b2_1 b2_2 x1_0 x1_1 x1_2 x2_0 x2_1 x2_2 x3_0 x3_1 x3_2 x4_0 x4_1 x4_2 x5_0 x5_1 x5_2
             obtain ⟨b0_0, b0_1, b0_2⟩ := b0.c3
             obtain ⟨b1_0, b1_1, b1_2⟩ := b1.c3
             obtain ⟨b2_0, b2_1, b2_2⟩ := b2.c3
             obtain ⟨x1_0, x1_1, x1_2⟩ := x1.c3
             obtain ⟨x2_0, x2_1, x2_2⟩ := x2.c3
             obtain ⟨x3_0, x3_1, x3_2⟩ := x3.c3
             obtain ⟨x4_0, x4_1, x4_2⟩ := x4.c3
             obtain ⟨x5_0, x5_1, x5_2⟩ := x5.c3
             clear u21)
          | (go_at_call 47
             ((with_reducible refine (frac_add FY FZ (by omega) (by omega)).mono ?_))
             rintro e W22 ⟨V22, rfl, g1, u22⟩
             replace FX := FX.up u22
             replace FY := FY.up u22
             replace FZ := FZ.up u22
             replace a := a.up u22
             replace ad := ad.up u22
             replace FS := FS.up u22
             replace b := b.up u22
             replace bd := bd.up u22
             replace FT := FT.up u22
             try (replace a1 := a1.up u22)
             try (replace a2 := a2.up u22)
             try (replace a3 := a3.up u22)
             try (replace m1 := m1.up u22)
             try (replace m2 := m2.up u22)
             try (replace m3 := m3.up u22)
             try (replace g1 := g1.up u22)
             try (replace g2 := g2.up u22)
             try (replace g3 := g3.up u22)
             try (replace g4 := g4.up u22)
             replace b0 := b0.up u22
             replace b1 := b1.up u22
             replace b2 := b2.up u22
             replace x1 := x1.up u22
             replace x2 := x2.up u22
             replace x3 := x3.up u22
             replace x4 := x4.up u22
             replace x5 := x5.up u22
             replace UP := UP.trans u22
             clear b0_0 b0_1 b0_2 b1_0 b1_1 b1_2 b2_0 b2_1 b2_2 x1_0 x1_1 x1_2 x2_0 x2_1 x2_2 x3_0 x3_1 x3_2 x4_0 x4_1 x4_2 x5_0 x5_1 x5_2
             obtain ⟨b0_0, b0_1, b0_2⟩ := b0.c3
             obtain ⟨b1_0, b1_1, b1_2⟩ := b1.c3
             obtain ⟨b2_0, b2_1, b2_2⟩ := b2.c3
             obtain ⟨x1_0, x1_1, x1_2⟩ := x1.c3
             obtain ⟨x2_0, x2_1, x2_2⟩ := x2.c3
             obtain ⟨x3_0, x3_1, x3_2⟩ := x3.c3
             obtain ⟨x4_0, x4_1, x4_2⟩ := x4.c3
             obtain ⟨x5_0, x5_1, x5_2⟩ := x5.c3
             clear u22)
          | (go_at_call 48
             ((with_reducible refine (frac_mul FX (g1.fr L5) (by omega) (by omega)).mono ?_))
             rintro e W23 ⟨V23, rfl, g2, u23⟩
             replace FX := FX.up u23
             replace FY := FY.up u23
             replace FZ := FZ.up u23
             replace a := a.up u23
             replace ad := ad.up u23
             replace FS := FS.up u23
             replace b := b.up u23
             replace bd := bd.up u23
             replace FT := FT.up u23
             try (replace a1 := a1.up u23)
             try (replace a2 := a2.up u23)
             try (replace a3 := a3.up u23)
             try (replace m1 := m1.up u23)
             try (replace m2 := m2.up u23)
             try (replace m3 := m3.up u23)
             try (replace g1 := g1.up u23)
             try (replace g2 := g2.up u23)
             try (replace g3 := g3.up u23)
             try (replace g4 := g4.up u23)
             replace b0 := b0.up u23
             replace b1 := b1.up u23
             replace b2 := b2.up u23
             replace x1 := x1.up u23
             replace x2 := x2.up u23
             replace x3 := x3.up u23
             replace x4 := x4.up u23
             replace x5 := x5.up u23
             replace UP := UP.trans u23
             clear b0_0 b0_1 b0_2 b1_0 b1_1 b1_2 b2_0 b2_1 b2_2 x1_0 x1_1 x1_2 x2_0 x2_1 x2_2 x3_0 x3_1 x3_2 x4_0 x4_1 x4_2 x5_0 x5_1 x5_2
             obtain ⟨b0_0, b0_1, b0_2⟩ := b0.c3
             obtain ⟨b1_0, b1_1, b1_2⟩ := b1.c3
             obtain ⟨b2_0, b2_1, b2_2⟩ := b2.c3
             obtain ⟨x1_0, x1_1, x1_2⟩ := x1.c3
             obtain ⟨x2_0, x2_1, x2_2⟩ := x2.c3
             obtain ⟨x3_0, x3_1, x3_2⟩ := x3.c3
             obtain ⟨x4_0, x4_1, x4_2⟩ := x4.c3
             obtain ⟨x5_0, x5_1, x5_2⟩ := x5.c3
             clear u23)
          | (go_at_call 48
             ((with_reducible refine (frac_mul FX FZ (by omega) (by omega)).mono ?_))
             rintro e W24 ⟨V24, rfl, g3, u24⟩
             replace FX := FX.up u24
             replace FY := FY.up u24
             replace FZ := FZ.up u24
             replace a := a.up u24
             replace ad := ad.up u24
             replace FS := FS.up u24
             replace b := b.up u24
             replace bd := bd.up u24
             replace FT := FT.up u24
             try (replace a1 := a1.up u24)
             try (replace a2 := a2.up u24)
             try (replace a3 := a3.up u24)
             try (replace m1 := m1.up u24)
             try (replace m2 := m2.up u24)
             try (replace m3 := m3.up u24)
             try (replace g1 := g1.up u24)
             try (replace g2 := g2.up u24)
             try (replace g3 := g3.up u24)
             try (replace g4 := g4.up u24)
             replace b0 := b0.up u24
             replace b1 := b1.up u24
             replace b2 := b2.up u24
             replace x1 := x1.up u24
             replace x2 := x2.up u24
             replace x3 := x3.up u24
             replace x4 := x4.up u24
             replace x5 := x5.up u24
             replace UP := UP.trans u24
             clear b0_0 b0_1 b0_2 b1_0 b1_1 b1_2 b2_0 b2_1 b2_2 x1_0 x1_1 x1_2 x2_0 x2_1 x2_2 x3_0 x3_1 x3_2 x4_0 x4_1 x4_2 x5_0 x5_1 x5_2
             obtain ⟨b0_0, b0_1, b0_2⟩ := b0.c3
             obtain ⟨b1_0, b1_1, b1_2⟩ := b1.c3
             obtain ⟨b2_0, b2_1, b2_2⟩ := b2.c3
             obtain ⟨x1_0, x1_1, x1_2⟩ := x1.c3
             obtain ⟨x2_0, x2_1, x2_2⟩ := x2.c3
             obtain ⟨x3_0, x3_1, x3_2⟩ := x3.c3
             obtain ⟨x4_0, x4_1, x4_2⟩ := x4.c3
             obtain ⟨x5_0, x5_1, x5_2⟩ := x5.c3
             clear u24)
          | (go_at_call 47
             ((with_reducible refine (frac_add (FT.fr LT) (g3.fr L7) (by omega) (by omega)).mono ?_))
             rintro e W25 ⟨V25, rfl, g4, u25⟩
             replace FX := FX.up u25
             replace FY := FY.up u25
             replace FZ := FZ.up u25
             replace a := a.up u25
             replace ad := ad.up u25
             replace FS := FS.up u25
             replace b := b.up u25
             replace bd := bd.up u25
             replace FT := FT.up u25
             try (replace a1 := a1.up u25)
             try (replace a2 := a2.up u25)
             try (replace a3 := a3.up u25)
             try (replace m1 := m1.up u25)
             try (replace m2 := m2.up u25)
             try (replace m3 := m3.up u25)
             try (replace g1 := g1.up u25)
             try (replace g2 := g2.up u25)
             try (replace g3 := g3.up u25)
             try (replace g4 := g4.up u25)
             replace b0 := b0.up u25
             replace b1 := b1.up u25
             replace b2 := b2.up u25
             replace x1 := x1.up u25
             replace x2 := x2.up u25
             replace x3 := x3.up u25
             replace x4 := x4.up u25
             replace x5 := x5.up u25
             replace UP := UP.trans u25
             clear b0_0 b0_1 b0_2 b1_0 b1_1 b1_2 b2_0 b2_1 b2_2 x1_0 x1_1 x1_2 x2_0 x2_1 x2_2 x3_0 x3_1 x3_2 x4_0 x4_1 x4_2 x5_0 x5_1 x5_2
             obtain ⟨b0_0, b0_1, b0_2⟩ := b0.c3
             obtain ⟨b1_0, b1_1, b1_2⟩ := b1.c3
             obtain ⟨b2_0, b2_1, b2_2⟩ := b2.c3
             obtain ⟨x1_0, x1_1, x1_2⟩ := x1.c3
             obtain ⟨x2_0, x2_1, x2_2⟩ := x2.c3
             obtain ⟨x3_0, x3_1, x3_2⟩ := x3.c3
             obtain ⟨x4_0, x4_1, x4_2⟩ := x4.c3
             obtain ⟨x5_0, x5_1, x5_2⟩ := x5.c3
             clear u25
             rw [E3.out] at g4)
          | (go_at_call 49
             ((with_reducible refine (law_alike9 g2 g4 L6 (by omega)).mono ?_))
             rintro e W26 ⟨rfl, u26⟩
             replace FX := FX.up u26
             replace FY := FY.up u26
             replace FZ := FZ.up u26
             replace a := a.up u26
             replace ad := ad.up u26
             replace FS := FS.up u26
             replace b := b.up u26
             replace bd := bd.up u26
             replace FT := FT.up u26
             try (replace a1 := a1.up u26)
             try (replace a2 := a2.up u26)
             try (replace a3 := a3.up u26)
             try (replace m1 := m1.up u26)
             try (replace m2 := m2.up u26)
             try (replace m3 := m3.up u26)
             try (replace g1 := g1.up u26)
             try (replace g2 := g2.up u26)
             try (replace g3 := g3.up u26)
             try (replace g4 := g4.up u26)
             replace b0 := b0.up u26
             replace b1 := b1.up u26
             replace b2 := b2.up u26
             replace x1 := x1.up u26
             replace x2 := x2.up u26
             replace x3 := x3.up u26
             replace x4 := x4.up u26
             replace x5 := x5.up u26
             replace UP := UP.trans u26
             clear b0_0 b0_1 b0_2 b1_0 b1_1 b1_2 b2_0 b2_1 b2_2 x1_0 x1_1 x1_2 x2_0 x2_1 x2_2 x3_0 x3_1 x3_2 x4_0 x4_1 x4_2 x5_0 x5_1 x5_2
             obtain ⟨b0_0, b0_1, b0_2⟩ := b0.c3
             obtain ⟨b1_0, b1_1, b1_2⟩ := b1.c3
             obtain ⟨b2_0, b2_1, b2_2⟩ := b2.c3
             obtain ⟨x1_0, x1_1, x1_2⟩ := x1.c3
             obtain ⟨x2_0, x2_1, x2_2⟩ := x2.c3
             obtain ⟨x3_0, x3_1, x3_2⟩ := x3.c3
             obtain ⟨x4_0, x4_1, x4_2⟩ := x4.c3
             obtain ⟨x5_0, x5_1, x5_2⟩ := x5.c3
             clear u26)))
    go_wp2_with fail
    go_wp2_with fail
    ((with_reducible refine (frac_quo (FT.fr LT) FY (by omega) (by omega)).mono ?_))
    rintro e W27 ⟨V27, rfl, p, u27⟩
    replace FX := FX.up u27
    replace FY := FY.up u27
    replace FZ := FZ.up u27
    replace a := a.up u27
    replace ad := ad.up u27
    replace FS := FS.up u27
    replace b := b.up u27
    replace bd := bd.up u27
    replace FT := FT.up u27
    replace a1 := a1.up u27
    replace a2 := a2.up u27
    replace a3 := a3.up u27
    replace m1 := m1.up u27
    replace m2 := m2.up u27
    replace m3 := m3.up u27
    replace g1 := g1.up u27
    replace g2 := g2.up u27
    replace g3 := g3.up u27
    replace g4 := g4.up u27
    replace b0 := b0.up u27
    replace b1 := b1.up u27
    replace b2 := b2.up u27
    replace x1 := x1.up u27
    replace x2 := x2.up u27
    replace x3 := x3.up u27
    replace x4 := x4.up u27
    replace x5 := x5.up u27
    replace UP := UP.trans u27
    clear b0_0 b0_1 b0_2 b1_0 b1_1 b1_2 b2_0 b2_1 b2_2 x1_0 x1_1 x1_2 x2_0 x2_1 x2_2 x3_0 x3_1 x3_2 x4_0 x4_1 x4_2 x5_0 x5_1 x5_2
    obtain ⟨b0_0, b0_1, b0_2⟩ := b0.c3
    obtain ⟨b1_0, b1_1, b1_2⟩ := b1.c3
    obtain ⟨b2_0, b2_1, b2_2⟩ := b2.c3
    obtain ⟨x1_0, x1_1, x1_2⟩ := x1.c3
    obtain ⟨x2_0, x2_1, x2_2⟩ := x2.c3
    obtain ⟨x3_0, x3_1, x3_2⟩ := x3.c3
    obtain ⟨x4_0, x4_1, x4_2⟩ := x4.c3
    obtain ⟨x5_0, x5_1, x5_2⟩ := x5.c3
    clear u27
    rw [HOK.out]
    rw [HB.out] at p
    obtain ⟨Xp, Yp, rfl, p, pd⟩ := p
    obtain ⟨Ap, np, cp, rfl⟩ := p.shape
    obtain ⟨Apd, npd, cpd, rfl⟩ := pd.shape
    have b0_0a := fun O0 => (cell_alloc (o := O0) b0_0)
    have b0_1a := fun O0 => (cell_alloc (o := O0) b0_1)
    have b0_2a := fun O0 => (cell_alloc (o := O0) b0_2)
    have b1_0a := fun O0 => (cell_alloc (o := O0) b1_0)
    have b1_1a := fun O0 => (cell_alloc (o := O0) b1_1)
    have b1_2a := fun O0 => (cell_alloc (o := O0) b1_2)
    have b2_0a := fun O0 => (cell_alloc (o := O0) b2_0)
    have b2_1a := fun O0 => (cell_alloc (o := O0) b2_1)
    have b2_2a := fun O0 => (cell_alloc (o := O0) b2_2)
    have x1_0a := fun O0 => (cell_alloc (o := O0) x1_0)
    have x1_1a := fun O0 => (cell_alloc (o := O0) x1_1)
    have x1_2a := fun O0 => (cell_alloc (o := O0) x1_2)
    have x2_0a := fun O0 => (cell_alloc (o := O0) x2_0)
    have x2_1a := fun O0 => (cell_alloc (o := O0) x2_1)
    have x2_2a := fun O0 => (cell_alloc (o := O0) x2_2)
    have x3_0a := fun O0 => (cell_alloc (o := O0) x3_0)
    have x3_1a := fun O0 => (cell_alloc (o := O0) x3_1)
    have x3_2a := fun O0 => (cell_alloc (o := O0) x3_2)
    have x4_0a := fun O0 => (cell_alloc (o := O0) x4_0)
    have x4_1a := fun O0 => (cell_alloc (o := O0) x4_1)
    have x4_2a := fun O0 => (cell_alloc (o := O0) x4_2)
    have x5_0a := fun O0 => (cell_alloc (o := O0) x5_0)
    have x5_1a := fun O0 => (cell_alloc (o := O0) x5_1)
    have x5_2a := fun O0 => (cell_alloc (o := O0) x5_2)
    go_wp2_with fail
    clear b0_0a b0_1a b0_2a b1_0a b1_1a b1_2a b2_0a b2_1a b2_2a x1_0a x1_1a x1_2a x2_0a x2_1a x2_2a x3_0a x3_1a x3_2a x4_0a x4_1a x4_2a x5_0a x5_1a x5_2a
    have x6 := Bx.new 69 W27 [.bool (Wd.ngb x.num), .slice Ap np cp, .slice Apd npd cpd]
    have b0_lt_x6 := b0.lt
    have b1_lt_x6 := b1.lt
    have b2_lt_x6 := b2.lt
    have x1_lt_x6 := x1.lt
    have x2_lt_x6 := x2.lt
    have x3_lt_x6 := x3.lt
    have x4_lt_x6 := x4.lt
    have x5_lt_x6 := x5.lt
    replace FX := FX.up ((Up.refl W27).alloc (.cells #[.bool (Wd.ngb x.num), .slice Ap np cp, .slice Apd npd cpd] 69))
    replace FY := FY.up ((Up.refl W27).alloc (.cells #[.bool (Wd.ngb x.num), .slice Ap np cp, .slice Apd npd cpd] 69))
    replace FZ := FZ.up ((Up.refl W27).alloc (.cells #[.bool (Wd.ngb x.num), .slice Ap np cp, .slice Apd npd cpd] 69))
    replace a := a.up ((Up.refl W27).alloc (.cells #[.bool (Wd.ngb x.num), .slice Ap np cp, .slice Apd npd cpd] 69))
    replace ad := ad.up ((Up.refl W27).alloc (.cells #[.bool (Wd.ngb x.num), .slice Ap np cp, .slice Apd npd cpd] 69))
    replace FS := FS.up ((Up.refl W27).alloc (.cells #[.bool (Wd.ngb x.num), .slice Ap np cp, .slice Apd npd cpd] 69))
    replace b := b.up ((Up.refl W27).alloc (.cells #[.bool (Wd.ngb x.num), .slice Ap np cp, .slice Apd npd cpd] 69))
    replace bd := bd.up ((Up.refl W27).alloc (.cells #[.bool (Wd.ngb x.num), .slice Ap np cp, .slice Apd npd cpd] 69))
    replace FT := FT.up ((Up.refl W27).alloc (.cells #[.bool (Wd.ngb x.num), .slice Ap np cp, .slice Apd npd cpd] 69))
    replace a1 := a1.up ((Up.refl W27).alloc (.cells #[.bool (Wd.ngb x.num), .slice Ap np cp, .slice Apd npd cpd] 69))
    replace a2 := a2.up ((Up.refl W27).alloc (.cells #[.bool (Wd.ngb x.num), .slice Ap np cp, .slice Apd npd cpd] 69))
    replace a3 := a3.up ((Up.refl W27).alloc (.cells #[.bool (Wd.ngb x.num), .slice Ap np cp, .slice Apd npd cpd] 69))
    replace m1 := m1.up ((Up.refl W27).alloc (.cells #[.bool (Wd.ngb x.num), .slice Ap np cp, .slice Apd npd cpd] 69))
    replace m2 := m2.up ((Up.refl W27).alloc (.cells #[.bool (Wd.ngb x.num), .slice Ap np cp, .slice Apd npd cpd] 69))
    replace m3 := m3.up ((Up.refl W27).alloc (.cells #[.bool (Wd.ngb x.num), .slice Ap np cp, .slice Apd npd cpd] 69))
    replace g1 := g1.up ((Up.refl W27).alloc (.cells #[.bool (Wd.ngb x.num), .slice Ap np cp, .slice Apd npd cpd] 69))
    replace g2 := g2.up ((Up.refl W27).alloc (.cells #[.bool (Wd.ngb x.num), .slice Ap np cp, .slice Apd npd cpd] 69))
    replace g3 := g3.up ((Up.refl W27).alloc (.cells #[.bool (Wd.ngb x.num), .slice Ap np cp, .slice Apd npd cpd] 69))
    replace g4 := g4.up ((Up.refl W27).alloc (.cells #[.bool (Wd.ngb x.num), .slice Ap np cp, .slice Apd npd cpd] 69))
    replace p := p.up ((Up.refl W27).alloc (.cells #[.bool (Wd.ngb x.num), .slice Ap np cp, .slice Apd npd cpd] 69))
    replace pd := pd.up ((Up.refl W27).alloc (.cells #[.bool (Wd.ngb x.num), .slice Ap np cp, .slice Apd npd cpd] 69))
    replace b0 := b0.up ((Up.refl W27).alloc (.cells #[.bool (Wd.ngb x.num), .slice Ap np cp, .slice Apd npd cpd] 69))
    replace b1 := b1.up ((Up.refl W27).alloc (.cells #[.bool (Wd.ngb x.num), .slice Ap np cp, .slice Apd npd cpd] 69))
    replace b2 := b2.up ((Up.refl W27).alloc (.cells #[.bool (Wd.ngb x.num), .slice Ap np cp, .slice Apd npd cpd] 69))
    replace x1 := x1.up ((Up.refl W27).alloc (.cells #[.bool (Wd.ngb x.num), .slice Ap np cp, .slice Apd npd cpd] 69))
    replace x2 := x2.up ((Up.refl W27).alloc (.cells #[.bool (Wd.ngb x.num), .slice Ap np cp, .slice Apd npd cpd] 69))
    replace x3 := x3.up ((Up.refl W27).alloc (.cells #[.bool (Wd.ngb x.num), .slice Ap np cp, .slice Apd npd cpd] 69))
    replace x4 := x4.up ((Up.refl W27).alloc (.cells #[.bool (Wd.ngb x.num), .slice Ap np cp, .slice Apd npd cpd] 69))
    replace x5 := x5.up ((Up.refl W27).alloc (.cells #[.bool (Wd.ngb x.num), .slice Ap np cp, .slice Apd npd cpd] 69))
    replace UP := UP.trans ((Up.refl W27).alloc (.cells #[.bool (Wd.ngb x.num), .slice Ap np cp, .slice Apd npd cpd] 69))
    generalize (W27.alloc (.cells #[.bool (Wd.ngb x.num), .slice Ap np cp, .slice Apd npd cpd] 69)) = W28 at *
    clear b0_0 b0_1 b0_2 b1_0 b1_1 b1_2 b2_0 b2_1 b2_2 x1_0 x1_1 x1_2 x2_0 x2_1 x2_2 x3_0 x3_1 x3_2 x4_0 x4_1 x4_2 x5_0 x5_1 x5_2
    obtain ⟨b0_0, b0_1, b0_2⟩ := b0.c3
    obtain ⟨b1_0, b1_1, b1_2⟩ := b1.c3
    obtain ⟨b2_0, b2_1, b2_2⟩ := b2.c3
    obtain ⟨x1_0, x1_1, x1_2⟩ := x1.c3
    obtain ⟨x2_0, x2_1, x2_2⟩ := x2.c3
    obtain ⟨x3_0, x3_1, x3_2⟩ := x3.c3
    obtain ⟨x4_0, x4_1, x4_2⟩ := x4.c3
    obtain ⟨x5_0, x5_1, x5_2⟩ := x5.c3
    obtain ⟨x6_0, x6_1, x6_2⟩ := x6.c3
    skip
    replace FX := FX.up (Up.refl W28).drew
    replace FY := FY.up (Up.refl W28).drew
    replace FZ := FZ.up (Up.refl W28).drew
    replace a := a.up (Up.refl W28).drew
    replace ad := ad.up (Up.refl W28).drew
    replace FS := FS.up (Up.refl W28).drew
    replace b := b.up (Up.refl W28).drew
    replace bd := bd.up (Up.refl W28).drew
    replace FT := FT.up (Up.refl W28).drew
    replace a1 := a1.up (Up.refl W28).drew
    replace a2 := a2.up (Up.refl W28).drew
    replace a3 := a3.up (Up.refl W28).drew
    replace m1 := m1.up (Up.refl W28).drew
    replace m2 := m2.up (Up.refl W28).drew
    replace m3 := m3.up (Up.refl W28).drew
    replace g1 := g1.up (Up.refl W28).drew
    replace g2 := g2.up (Up.refl W28).drew
    replace g3 := g3.up (Up.refl W28).drew
    replace g4 := g4.up (Up.refl W28).drew
    replace p := p.up (Up.refl W28).drew
    replace pd := pd.up (Up.refl W28).drew
    replace b0 := b0.up (Up.refl W28).drew
    replace b1 := b1.up (Up.refl W28).drew
    replace b2 := b2.up (Up.refl W28).drew
    replace x1 := x1.up (Up.refl W28).drew
    replace x2 := x2.up (Up.refl W28).drew
    replace x3 := x3.up (Up.refl W28).drew
    replace x4 := x4.up (Up.refl W28).drew
    replace x5 := x5.up (Up.refl W28).drew
    replace x6 := x6.up (Up.refl W28).drew
    replace UP := UP.trans (Up.refl W28).drew
    clear b0_0 b0_1 b0_2 b1_0 b1_1 b1_2 b2_0 b2_1 b2_2 x1_0 x1_1 x1_2 x2_0 x2_1 x2_2 x3_0 x3_1 x3_2 x4_0 x4_1 x4_2 x5_0 x5_1 x5_2 x6_0 x6_1 x6_2
    obtain ⟨b0_0, b0_1, b0_2⟩ := b0.c3
    obtain ⟨b1_0, b1_1, b1_2⟩ := b1.c3
    obtain ⟨b2_0, b2_1, b2_2⟩ := b2.c3
    obtain ⟨x1_0, x1_1, x1_2⟩ := x1.c3
    obtain ⟨x2_0, x2_1, x2_2⟩ := x2.c3
    obtain ⟨x3_0, x3_1, x3_2⟩ := x3.c3
    obtain ⟨x4_0, x4_1, x4_2⟩ := x4.c3
    obtain ⟨x5_0, x5_1, x5_2⟩ := x5.c3
    obtain ⟨x6_0, x6_1, x6_2⟩ := x6.c3
    go_region_held3 (fun w' => Up w w' ∧ w'.cell? ⟨W4.heap.size, 0, none⟩ = some (.bool s) ∧ w'.cell? ⟨W4.heap.size, 1, none⟩ = some (.slice A l.length c) ∧ w'.cell? ⟨W4.heap.size, 2, none⟩ = some (.slice D m.length d) ∧ w'.cell? ⟨W6.heap.size, 0, none⟩ = some (.bool s') ∧ w'.cell? ⟨W6.heap.size, 1, none⟩ = some (.slice A' l'.length c') ∧ w'.cell? ⟨W6.heap.size, 2, none⟩ = some (.slice D' m'.length d') ∧ w'.cell? ⟨W8.heap.size, 0, none⟩ = some (.bool s'') ∧ w'.cell? ⟨W8.heap.size, 1, none⟩ = some (.slice A'' l''.length c'') ∧ w'.cell? ⟨W8.heap.size, 2, none⟩ = some (.slice D'' m''.length d'') ∧ w'.cell? ⟨W10.heap.size, 0, none⟩ = some (.bool (Wd.ngb S.num)) ∧ w'.cell? ⟨W10.heap.size, 1, none⟩ = some (.slice Aa na ca) ∧ w'.cell? ⟨W10.heap.size, 2, none⟩ = some (.slice Aad nad cad) ∧ w'.cell? ⟨W12.heap.size, 0, none⟩ = some (.bool (Wd.ngb T.num)) ∧ w'.cell? ⟨W12.heap.size, 1, none⟩ = some (.slice Ab nb cb) ∧ w'.cell? ⟨W12.heap.size, 2, none⟩ = some (.slice Abd nbd cbd) ∧ w'.cell? ⟨W27.heap.size, 0, none⟩ = some (.bool (Wd.ngb x.num)) ∧ w'.cell? ⟨W27.heap.size, 1, none⟩ = some (.slice Ap np cp) ∧ w'.cell? ⟨W27.heap.size, 2, none⟩ = some (.slice Apd npd cpd))
        (first | with_reducible exact ⟨UP, x1_0, x1_1, x1_2, x2_0, x2_1, x2_2, x3_0, x3_1, x3_2, x4_0, x4_1, x4_2, x5_0, x5_1, x5_2, x6_0, x6_1, x6_2⟩ | with_reducible exact ⟨UP, x1_0, x1_1, x1_2, x2_0, x2_1, x2_2, x3_0, x3_1, x3_2, x4_0, x4_1, x4_2, x5_0, x5_1, x5_2, x6_0, x6_1, x6_2⟩ | with_reducible exact ⟨(UP.alloc_drew _), (cell_alloc_drew x1_0), (cell_alloc_drew x1_1), (cell_alloc_drew x1_2), (cell_alloc_drew x2_0), (cell_alloc_drew x2_1), (cell_alloc_drew x2_2), (cell_alloc_drew x3_0), (cell_alloc_drew x3_1), (cell_alloc_drew x3_2), (cell_alloc_drew x4_0), (cell_alloc_drew x4_1), (cell_alloc_drew x4_2), (cell_alloc_drew x5_0), (cell_alloc_drew x5_1), (cell_alloc_drew x5_2), (cell_alloc_drew x6_0), (cell_alloc_drew x6_1), (cell_alloc_drew x6_2)⟩ | with_reducible exact ⟨(UP.alloc2_drew _ _), (cell_alloc2_drew x1_0), (cell_alloc2_drew x1_1), (cell_alloc2_drew x1_2), (cell_alloc2_drew x2_0), (cell_alloc2_drew x2_1), (cell_alloc2_drew x2_2), (cell_alloc2_drew x3_0), (cell_alloc2_drew x3_1), (cell_alloc2_drew x3_2), (cell_alloc2_drew x4_0), (cell_alloc2_drew x4_1), (cell_alloc2_drew x4_2), (cell_alloc2_drew x5_0), (cell_alloc2_drew x5_1), (cell_alloc2_drew x5_2), (cell_alloc2_drew x6_0), (cell_alloc2_drew x6_1), (cell_alloc2_drew x6_2)⟩ | (simp only [← World.setCell_drew]; first | with_reducible exact ⟨UP, x1_0, x1_1, x1_2, x2_0, x2_1, x2_2, x3_0, x3_1, x3_2, x4_0, x4_1, x4_2, x5_0, x5_1, x5_2, x6_0, x6_1, x6_2⟩) | go_keep)
        ((first
          | (go_at_call 51
             ((with_reducible refine (frac_sub (FS.fr LS) FY (by omega) (by omega)).mono ?_))
             rintro e W29 ⟨V29, rfl, s1, u29⟩
             replace FX := FX.up u29
             replace FY := FY.up u29
             replace FZ := FZ.up u29
             replace a := a.up u29
             replace ad := ad.up u29
             replace FS := FS.up u29
             replace b := b.up u29
             replace bd := bd.up u29
             replace FT := FT.up u29
             replace a1 := a1.up u29
             replace a2 := a2.up u29
             replace a3 := a3.up u29
             replace m1 := m1.up u29
             replace m2 := m2.up u29
             replace m3 := m3.up u29
             replace g1 := g1.up u29
             replace g2 := g2.up u29
             replace g3 := g3.up u29
             replace g4 := g4.up u29
             replace p := p.up u29
             replace pd := pd.up u29
             try (replace s1 := s1.up u29)
             try (replace n1 := n1.up u29)
             replace b0 := b0.up u29
             replace b1 := b1.up u29
             replace b2 := b2.up u29
             replace x1 := x1.up u29
             replace x2 := x2.up u29
             replace x3 := x3.up u29
             replace x4 := x4.up u29
             replace x5 := x5.up u29
             replace x6 := x6.up u29
             replace UP := UP.trans u29
             clear b0_0 b0_1 b0_2 b1_0 b1_1 b1_2 b2_0 b2_1 b2_2 x1_0 x1_1 x1_2 x2_0 x2_1 x2_2 x3_0 x3_1 x3_2 x4_0 x4_1 x4_2 x5_0 x5_1 x5_2 x6_0 x6_1 x6_2
             obtain ⟨b0_0, b0_1, b0_2⟩ := b0.c3
             obtain ⟨b1_0, b1_1, b1_2⟩ := b1.c3
             obtain ⟨b2_0, b2_1, b2_2⟩ := b2.c3
             obtain ⟨x1_0, x1_1, x1_2⟩ := x1.c3
             obtain ⟨x2_0, x2_1, x2_2⟩ := x2.c3
             obtain ⟨x3_0, x3_1, x3_2⟩ := x3.c3
             obtain ⟨x4_0, x4_1, x4_2⟩ := x4.c3
             obtain ⟨x5_0, x5_1, x5_2⟩ := x5.c3
             obtain ⟨x6_0, x6_1, x6_2⟩ := x6.c3
             clear u29
             rw [E4.out] at s1)
          | (go_at_call 52
             ((with_reducible refine (frac_norm FX (by omega)).mono ?_))
             rintro e W30 ⟨V30, rfl, n1, u30⟩
             replace FX := FX.up u30
             replace FY := FY.up u30
             replace FZ := FZ.up u30
             replace a := a.up u30
             replace ad := ad.up u30
             replace FS := FS.up u30
             replace b := b.up u30
             replace bd := bd.up u30
             replace FT := FT.up u30
             replace a1 := a1.up u30
             replace a2 := a2.up u30
             replace a3 := a3.up u30
             replace m1 := m1.up u30
             replace m2 := m2.up u30
             replace m3 := m3.up u30
             replace g1 := g1.up u30
             replace g2 := g2.up u30
             replace g3 := g3.up u30
             replace g4 := g4.up u30
             replace p := p.up u30
             replace pd := pd.up u30
             try (replace s1 := s1.up u30)
             try (replace n1 := n1.up u30)
             replace b0 := b0.up u30
             replace b1 := b1.up u30
             replace b2 := b2.up u30
             replace x1 := x1.up u30
             replace x2 := x2.up u30
             replace x3 := x3.up u30
             replace x4 := x4.up u30
             replace x5 := x5.up u30
             replace x6 := x6.up u30
             replace UP := UP.trans u30
             clear b0_0 b0_1 b0_2 b1_0 b1_1 b1_2 b2_0 b2_1 b2_2 x1_0 x1_1 x1_2 x2_0 x2_1 x2_2 x3_0 x3_1 x3_2 x4_0 x4_1 x4_2 x5_0 x5_1 x5_2 x6_0 x6_1 x6_2
             obtain ⟨b0_0, b0_1, b0_2⟩ := b0.c3
             obtain ⟨b1_0, b1_1, b1_2⟩ := b1.c3
             obtain ⟨b2_0, b2_1, b2_2⟩ := b2.c3
             obtain ⟨x1_0, x1_1, x1_2⟩ := x1.c3
             obtain ⟨x2_0, x2_1, x2_2⟩ := x2.c3
             obtain ⟨x3_0, x3_1, x3_2⟩ := x3.c3
             obtain ⟨x4_0, x4_1, x4_2⟩ := x4.c3
             obtain ⟨x5_0, x5_1, x5_2⟩ := x5.c3
             obtain ⟨x6_0, x6_1, x6_2⟩ := x6.c3
             clear u30)
          | (go_at_call 49
             ((with_reducible refine (law_alike9 s1 n1 LX (by omega)).mono ?_))
             rintro e W31 ⟨rfl, u31⟩
             replace FX := FX.up u31
             replace FY := FY.up u31
             replace FZ := FZ.up u31
             replace a := a.up u31
             replace ad := ad.up u31
             replace FS := FS.up u31
             replace b := b.up u31
             replace bd := bd.up u31
             replace FT := FT.up u31
             replace a1 := a1.up u31
             replace a2 := a2.up u31
             replace a3 := a3.up u31
             replace m1 := m1.up u31
             replace m2 := m2.up u31
             replace m3 := m3.up u31
             replace g1 := g1.up u31
             replace g2 := g2.up u31
             replace g3 := g3.up u31
             replace g4 := g4.up u31
             replace p := p.up u31
             replace pd := pd.up u31
             try (replace s1 := s1.up u31)
             try (replace n1 := n1.up u31)
             replace b0 := b0.up u31
             replace b1 := b1.up u31
             replace b2 := b2.up u31
             replace x1 := x1.up u31
             replace x2 := x2.up u31
             replace x3 := x3.up u31
             replace x4 := x4.up u31
             replace x5 := x5.up u31
             replace x6 := x6.up u31
             replace UP := UP.trans u31
             clear b0_0 b0_1 b0_2 b1_0 b1_1 b1_2 b2_0 b2_1 b2_2 x1_0 x1_1 x1_2 x2_0 x2_1 x2_2 x3_0 x3_1 x3_2 x4_0 x4_1 x4_2 x5_0 x5_1 x5_2 x6_0 x6_1 x6_2
             obtain ⟨b0_0, b0_1, b0_2⟩ := b0.c3
             obtain ⟨b1_0, b1_1, b1_2⟩ := b1.c3
             obtain ⟨b2_0, b2_1, b2_2⟩ := b2.c3
             obtain ⟨x1_0, x1_1, x1_2⟩ := x1.c3
             obtain ⟨x2_0, x2_1, x2_2⟩ := x2.c3
             obtain ⟨x3_0, x3_1, x3_2⟩ := x3.c3
             obtain ⟨x4_0, x4_1, x4_2⟩ := x4.c3
             obtain ⟨x5_0, x5_1, x5_2⟩ := x5.c3
             obtain ⟨x6_0, x6_1, x6_2⟩ := x6.c3
             clear u31)
          | (go_at_call 53
             ((with_reducible refine (frac_sign FY (by omega)).mono ?_))
             rintro e W32 ⟨rfl, u32⟩
             replace FX := FX.up u32
             replace FY := FY.up u32
             replace FZ := FZ.up u32
             replace a := a.up u32
             replace ad := ad.up u32
             replace FS := FS.up u32
             replace b := b.up u32
             replace bd := bd.up u32
             replace FT := FT.up u32
             replace a1 := a1.up u32
             replace a2 := a2.up u32
             replace a3 := a3.up u32
             replace m1 := m1.up u32
             replace m2 := m2.up u32
             replace m3 := m3.up u32
             replace g1 := g1.up u32
             replace g2 := g2.up u32
             replace g3 := g3.up u32
             replace g4 := g4.up u32
             replace p := p.up u32
             replace pd := pd.up u32
             try (replace s1 := s1.up u32)
             try (replace n1 := n1.up u32)
             replace b0 := b0.up u32
             replace b1 := b1.up u32
             replace b2 := b2.up u32
             replace x1 := x1.up u32
             replace x2 := x2.up u32
             replace x3 := x3.up u32
             replace x4 := x4.up u32
             replace x5 := x5.up u32
             replace x6 := x6.up u32
             replace UP := UP.trans u32
             clear b0_0 b0_1 b0_2 b1_0 b1_1 b1_2 b2_0 b2_1 b2_2 x1_0 x1_1 x1_2 x2_0 x2_1 x2_2 x3_0 x3_1 x3_2 x4_0 x4_1 x4_2 x5_0 x5_1 x5_2 x6_0 x6_1 x6_2
             obtain ⟨b0_0, b0_1, b0_2⟩ := b0.c3
             obtain ⟨b1_0, b1_1, b1_2⟩ := b1.c3
             obtain ⟨b2_0, b2_1, b2_2⟩ := b2.c3
             obtain ⟨x1_0, x1_1, x1_2⟩ := x1.c3
             obtain ⟨x2_0, x2_1, x2_2⟩ := x2.c3
             obtain ⟨x3_0, x3_1, x3_2⟩ := x3.c3
             obtain ⟨x4_0, x4_1, x4_2⟩ := x4.c3
             obtain ⟨x5_0, x5_1, x5_2⟩ := x5.c3
             obtain ⟨x6_0, x6_1, x6_2⟩ := x6.c3
             clear u32)
          | (go_at_call 49
             ((with_reducible refine (law_alike9 (Qw.of p pd) n1 LX (by omega)).mono ?_))
             rintro e W33 ⟨rfl, u33⟩
             replace FX := FX.up u33
             replace FY := FY.up u33
             replace FZ := FZ.up u33
             replace a := a.up u33
             replace ad := ad.up u33
             replace FS := FS.up u33
             replace b := b.up u33
             replace bd := bd.up u33
             replace FT := FT.up u33
             replace a1 := a1.up u33
             replace a2 := a2.up u33
             replace a3 := a3.up u33
             replace m1 := m1.up u33
             replace m2 := m2.up u33
             replace m3 := m3.up u33
             replace g1 := g1.up u33
             replace g2 := g2.up u33
             replace g3 := g3.up u33
             replace g4 := g4.up u33
             replace p := p.up u33
             replace pd := pd.up u33
             try (replace s1 := s1.up u33)
             try (replace n1 := n1.up u33)
             replace b0 := b0.up u33
             replace b1 := b1.up u33
             replace b2 := b2.up u33
             replace x1 := x1.up u33
             replace x2 := x2.up u33
             replace x3 := x3.up u33
             replace x4 := x4.up u33
             replace x5 := x5.up u33
             replace x6 := x6.up u33
             replace UP := UP.trans u33
             clear b0_0 b0_1 b0_2 b1_0 b1_1 b1_2 b2_0 b2_1 b2_2 x1_0 x1_1 x1_2 x2_0 x2_1 x2_2 x3_0 x3_1 x3_2 x4_0 x4_1 x4_2 x5_0 x5_1 x5_2 x6_0 x6_1 x6_2
             obtain ⟨b0_0, b0_1, b0_2⟩ := b0.c3
             obtain ⟨b1_0, b1_1, b1_2⟩ := b1.c3
             obtain ⟨b2_0, b2_1, b2_2⟩ := b2.c3
             obtain ⟨x1_0, x1_1, x1_2⟩ := x1.c3
             obtain ⟨x2_0, x2_1, x2_2⟩ := x2.c3
             obtain ⟨x3_0, x3_1, x3_2⟩ := x3.c3
             obtain ⟨x4_0, x4_1, x4_2⟩ := x4.c3
             obtain ⟨x5_0, x5_1, x5_2⟩ := x5.c3
             obtain ⟨x6_0, x6_1, x6_2⟩ := x6.c3
             clear u33)
          | (go_at_call 54
             ((with_reducible refine (frac_same FX (n1.fr LX) (by omega) (by omega)).mono ?_))
             rintro e W34 ⟨rfl, u34⟩
             replace FX := FX.up u34
             replace FY := FY.up u34
             replace FZ := FZ.up u34
             replace a := a.up u34
             replace ad := ad.up u34
             replace FS := FS.up u34
             replace b := b.up u34
             replace bd := bd.up u34
             replace FT := FT.up u34
             replace a1 := a1.up u34
             replace a2 := a2.up u34
             replace a3 := a3.up u34
             replace m1 := m1.up u34
             replace m2 := m2.up u34
             replace m3 := m3.up u34
             replace g1 := g1.up u34
             replace g2 := g2.up u34
             replace g3 := g3.up u34
             replace g4 := g4.up u34
             replace p := p.up u34
             replace pd := pd.up u34
             try (replace s1 := s1.up u34)
             try (replace n1 := n1.up u34)
             replace b0 := b0.up u34
             replace b1 := b1.up u34
             replace b2 := b2.up u34
             replace x1 := x1.up u34
             replace x2 := x2.up u34
             replace x3 := x3.up u34
             replace x4 := x4.up u34
             replace x5 := x5.up u34
             replace x6 := x6.up u34
             replace UP := UP.trans u34
             clear b0_0 b0_1 b0_2 b1_0 b1_1 b1_2 b2_0 b2_1 b2_2 x1_0 x1_1 x1_2 x2_0 x2_1 x2_2 x3_0 x3_1 x3_2 x4_0 x4_1 x4_2 x5_0 x5_1 x5_2 x6_0 x6_1 x6_2
             obtain ⟨b0_0, b0_1, b0_2⟩ := b0.c3
             obtain ⟨b1_0, b1_1, b1_2⟩ := b1.c3
             obtain ⟨b2_0, b2_1, b2_2⟩ := b2.c3
             obtain ⟨x1_0, x1_1, x1_2⟩ := x1.c3
             obtain ⟨x2_0, x2_1, x2_2⟩ := x2.c3
             obtain ⟨x3_0, x3_1, x3_2⟩ := x3.c3
             obtain ⟨x4_0, x4_1, x4_2⟩ := x4.c3
             obtain ⟨x5_0, x5_1, x5_2⟩ := x5.c3
             obtain ⟨x6_0, x6_1, x6_2⟩ := x6.c3
             clear u34
             try rw [HXX.out])
          | (go_at_call 55
             ((with_reducible refine (frac_right_yes FS LS (by omega)).mono ?_))
             rintro e W35 ⟨rfl, u35⟩
             replace FX := FX.up u35
             replace FY := FY.up u35
             replace FZ := FZ.up u35
             replace a := a.up u35
             replace ad := ad.up u35
             replace FS := FS.up u35
             replace b := b.up u35
             replace bd := bd.up u35
             replace FT := FT.up u35
             replace a1 := a1.up u35
             replace a2 := a2.up u35
             replace a3 := a3.up u35
             replace m1 := m1.up u35
             replace m2 := m2.up u35
             replace m3 := m3.up u35
             replace g1 := g1.up u35
             replace g2 := g2.up u35
             replace g3 := g3.up u35
             replace g4 := g4.up u35
             replace p := p.up u35
             replace pd := pd.up u35
             try (replace s1 := s1.up u35)
             try (replace n1 := n1.up u35)
             replace b0 := b0.up u35
             replace b1 := b1.up u35
             replace b2 := b2.up u35
             replace x1 := x1.up u35
             replace x2 := x2.up u35
             replace x3 := x3.up u35
             replace x4 := x4.up u35
             replace x5 := x5.up u35
             replace x6 := x6.up u35
             replace UP := UP.trans u35
             clear b0_0 b0_1 b0_2 b1_0 b1_1 b1_2 b2_0 b2_1 b2_2 x1_0 x1_1 x1_2 x2_0 x2_1 x2_2 x3_0 x3_1 x3_2 x4_0 x4_1 x4_2 x5_0 x5_1 x5_2 x6_0 x6_1 x6_2
             obtain ⟨b0_0, b0_1, b0_2⟩ := b0.c3
             obtain ⟨b1_0, b1_1, b1_2⟩ := b1.c3
             obtain ⟨b2_0, b2_1, b2_2⟩ := b2.c3
             obtain ⟨x1_0, x1_1, x1_2⟩ := x1.c3
             obtain ⟨x2_0, x2_1, x2_2⟩ := x2.c3
             obtain ⟨x3_0, x3_1, x3_2⟩ := x3.c3
             obtain ⟨x4_0, x4_1, x4_2⟩ := x4.c3
             obtain ⟨x5_0, x5_1, x5_2⟩ := x5.c3
             obtain ⟨x6_0, x6_1, x6_2⟩ := x6.c3
             clear u35)
          | (go_at_call 36
             ((with_reducible refine (works9 _).mono ?_))
             rintro e W36 ⟨rfl, u36⟩
             replace FX := FX.up u36
             replace FY := FY.up u36
             replace FZ := FZ.up u36
             replace a := a.up u36
             replace ad := ad.up u36
             replace FS := FS.up u36
             replace b := b.up u36
             replace bd := bd.up u36
             replace FT := FT.up u36
             replace a1 := a1.up u36
             replace a2 := a2.up u36
             replace a3 := a3.up u36
             replace m1 := m1.up u36
             replace m2 := m2.up u36
             replace m3 := m3.up u36
             replace g1 := g1.up u36
             replace g2 := g2.up u36
             replace g3 := g3.up u36
             replace g4 := g4.up u36
             replace p := p.up u36
             replace pd := pd.up u36
             try (replace s1 := s1.up u36)
             try (replace n1 := n1.up u36)
             replace b0 := b0.up u36
             replace b1 := b1.up u36
             replace b2 := b2.up u36
             replace x1 := x1.up u36
             replace x2 := x2.up u36
             replace x3 := x3.up u36
             replace x4 := x4.up u36
             replace x5 := x5.up u36
             replace x6 := x6.up u36
             replace UP := UP.trans u36
             clear b0_0 b0_1 b0_2 b1_0 b1_1 b1_2 b2_0 b2_1 b2_2 x1_0 x1_1 x1_2 x2_0 x2_1 x2_2 x3_0 x3_1 x3_2 x4_0 x4_1 x4_2 x5_0 x5_1 x5_2 x6_0 x6_1 x6_2
             obtain ⟨b0_0, b0_1, b0_2⟩ := b0.c3
             obtain ⟨b1_0, b1_1, b1_2⟩ := b1.c3
             obtain ⟨b2_0, b2_1, b2_2⟩ := b2.c3
             obtain ⟨x1_0, x1_1, x1_2⟩ := x1.c3
             obtain ⟨x2_0, x2_1, x2_2⟩ := x2.c3
             obtain ⟨x3_0, x3_1, x3_2⟩ := x3.c3
             obtain ⟨x4_0, x4_1, x4_2⟩ := x4.c3
             obtain ⟨x5_0, x5_1, x5_2⟩ := x5.c3
             obtain ⟨x6_0, x6_1, x6_2⟩ := x6.c3
             clear u36)))
    all_goals
      go_wp2
      go_ret
      exact ⟨rfl, UP⟩
end Go.Proofs.Ytmmcffceeahemaa
