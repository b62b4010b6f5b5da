/-
  The walk of FracOrder.
-/
import Derived.Test.YtjkkeilmnklpcaaFracWorks
import Derived.Test.YtjkkeilmnklpcaaFracMath5
set_option linter.unusedVariables false
set_option linter.unusedSimpArgs false
namespace Go.Proofs.Ytjkkeilmnklpcaa
open Go.RowKit

set_option maxRecDepth 100000 in
set_option maxHeartbeats 12800000 in
theorem fracOrder_walk {s s' s'' : Bool} {u v u' v' u'' v'' : Value} {l m l' m' l'' m'' : List Nat} {w : World} (hl : Ws w u l) (hm : Ws w v m) (hl' : Ws w u' l') (hm' : Ws w v' m') (hl'' : Ws w u'' l'') (hm'' : Ws w v'' m'') :
    Calls Try.prog 8 #[.agg #[.bool s, u, v], .agg #[.bool s', u', v'], .agg #[.bool s'', u'', v'']] w fun e w' => e = .returned (.bool true) ∧ Up w w' := by
  obtain ⟨A, c, rfl⟩ := hl.form
  obtain ⟨D, d, rfl⟩ := hm.form
  obtain ⟨A', c', rfl⟩ := hl'.form
  obtain ⟨D', d', rfl⟩ := hm'.form
  obtain ⟨A'', c'', rfl⟩ := hl''.form
  obtain ⟨D'', d'', rfl⟩ := hm''.form
  by_cases h1 : (6 : Int) < (l.length : Int) ∨ (6 : Int) < (m.length : Int)
  · have H1 := Lib.hid h1
    clear h1
    have UP : Up w (((w.alloc (.cells #[.bool s, .slice A l.length c, .slice D m.length d] 61)).alloc (.cells #[.bool s', .slice A' l'.length c', .slice D' m'.length d'] 61)).alloc (.cells #[.bool s'', .slice A'' l''.length c'', .slice D'' m''.length d''] 61)) := (((Up.refl w).alloc _).alloc _).alloc _
    obtain ⟨b0, b1, b2⟩ := bx_three 61 61 61 w [.bool s, .slice A l.length c, .slice D m.length d] [.bool s', .slice A' l'.length c', .slice D' m'.length d'] [.bool s'', .slice A'' l''.length c'', .slice D'' m''.length d'']
    go_enter Try.func8, Try.ntmps8
    go_wp2_with fail
    generalize (((w.alloc (.cells #[.bool s, .slice A l.length c, .slice D m.length d] 61)).alloc (.cells #[.bool s', .slice A' l'.length c', .slice D' m'.length d'] 61)).alloc (.cells #[.bool s'', .slice A'' l''.length c'', .slice D'' m''.length d''] 61)) = W at *
    have b0_0 := b0.cell (i := 0) rfl
    have b0_1 := b0.cell (i := 1) rfl
    have b0_2 := b0.cell (i := 2) rfl
    have b1_0 := b1.cell (i := 0) rfl
    have b1_1 := b1.cell (i := 1) rfl
    have b1_2 := b1.cell (i := 2) rfl
    have b2_0 := b2.cell (i := 0) rfl
    have b2_1 := b2.cell (i := 1) rfl
    have b2_2 := b2.cell (i := 2) rfl
    go_wp2_with fail
    ((with_reducible refine (ref_long9_yes H1.out (by omega)).mono ?_))
    rintro e W1 ⟨rfl, u1⟩
    replace b0 := b0.up u1
    replace b1 := b1.up u1
    replace b2 := b2.up u1
    replace UP := UP.trans u1
    replace b0_0 := b0.cell (i := 0) rfl
    replace b0_1 := b0.cell (i := 1) rfl
    replace b0_2 := b0.cell (i := 2) rfl
    replace b1_0 := b1.cell (i := 0) rfl
    replace b1_1 := b1.cell (i := 1) rfl
    replace b1_2 := b1.cell (i := 2) rfl
    replace b2_0 := b2.cell (i := 0) rfl
    replace b2_1 := b2.cell (i := 1) rfl
    replace b2_2 := b2.cell (i := 2) rfl
    clear u1
    go_wp2_with fail
    ((with_reducible refine (works9 _).mono ?_))
    rintro e W2 ⟨rfl, u2⟩
    replace b0 := b0.up u2
    replace b1 := b1.up u2
    replace b2 := b2.up u2
    replace UP := UP.trans u2
    replace b0_0 := b0.cell (i := 0) rfl
    replace b0_1 := b0.cell (i := 1) rfl
    replace b0_2 := b0.cell (i := 2) rfl
    replace b1_0 := b1.cell (i := 0) rfl
    replace b1_1 := b1.cell (i := 1) rfl
    replace b1_2 := b1.cell (i := 2) rfl
    replace b2_0 := b2.cell (i := 0) rfl
    replace b2_1 := b2.cell (i := 1) rfl
    replace b2_2 := b2.cell (i := 2) rfl
    clear u2
    go_wp2
    go_ret
    exact ⟨rfl, UP⟩
  have l1 : (l.length : Int) ≤ 6 := by omega
  have l2 : (m.length : Int) ≤ 6 := by omega
  clear h1
  by_cases h1 : (6 : Int) < (l'.length : Int) ∨ (6 : Int) < (m'.length : Int)
  · have H1 := Lib.hid h1
    clear h1
    have UP : Up w (((w.alloc (.cells #[.bool s, .slice A l.length c, .slice D m.length d] 61)).alloc (.cells #[.bool s', .slice A' l'.length c', .slice D' m'.length d'] 61)).alloc (.cells #[.bool s'', .slice A'' l''.length c'', .slice D'' m''.length d''] 61)) := (((Up.refl w).alloc _).alloc _).alloc _
    obtain ⟨b0, b1, b2⟩ := bx_three 61 61 61 w [.bool s, .slice A l.length c, .slice D m.length d] [.bool s', .slice A' l'.length c', .slice D' m'.length d'] [.bool s'', .slice A'' l''.length c'', .slice D'' m''.length d'']
    go_enter Try.func8, Try.ntmps8
    go_wp2_with fail
    generalize (((w.alloc (.cells #[.bool s, .slice A l.length c, .slice D m.length d] 61)).alloc (.cells #[.bool s', .slice A' l'.length c', .slice D' m'.length d'] 61)).alloc (.cells #[.bool s'', .slice A'' l''.length c'', .slice D'' m''.length d''] 61)) = W at *
    have b0_0 := b0.cell (i := 0) rfl
    have b0_1 := b0.cell (i := 1) rfl
    have b0_2 := b0.cell (i := 2) rfl
    have b1_0 := b1.cell (i := 0) rfl
    have b1_1 := b1.cell (i := 1) rfl
    have b1_2 := b1.cell (i := 2) rfl
    have b2_0 := b2.cell (i := 0) rfl
    have b2_1 := b2.cell (i := 1) rfl
    have b2_2 := b2.cell (i := 2) rfl
    go_wp2_with fail
    ((with_reducible refine (ref_long9_no l1 l2 (by omega)).mono ?_))
    rintro e W1 ⟨rfl, u1⟩
    replace b0 := b0.up u1
    replace b1 := b1.up u1
    replace b2 := b2.up u1
    replace UP := UP.trans u1
    replace b0_0 := b0.cell (i := 0) rfl
    replace b0_1 := b0.cell (i := 1) rfl
    replace b0_2 := b0.cell (i := 2) rfl
    replace b1_0 := b1.cell (i := 0) rfl
    replace b1_1 := b1.cell (i := 1) rfl
    replace b1_2 := b1.cell (i := 2) rfl
    replace b2_0 := b2.cell (i := 0) rfl
    replace b2_1 := b2.cell (i := 1) rfl
    replace b2_2 := b2.cell (i := 2) rfl
    clear u1
    go_wp2_with fail
    ((with_reducible refine (ref_long9_yes H1.out (by omega)).mono ?_))
    rintro e W2 ⟨rfl, u2⟩
    replace b0 := b0.up u2
    replace b1 := b1.up u2
    replace b2 := b2.up u2
    replace UP := UP.trans u2
    replace b0_0 := b0.cell (i := 0) rfl
    replace b0_1 := b0.cell (i := 1) rfl
    replace b0_2 := b0.cell (i := 2) rfl
    replace b1_0 := b1.cell (i := 0) rfl
    replace b1_1 := b1.cell (i := 1) rfl
    replace b1_2 := b1.cell (i := 2) rfl
    replace b2_0 := b2.cell (i := 0) rfl
    replace b2_1 := b2.cell (i := 1) rfl
    replace b2_2 := b2.cell (i := 2) rfl
    clear u2
    go_wp2_with fail
    ((with_reducible refine (works9 _).mono ?_))
    rintro e W3 ⟨rfl, u3⟩
    replace b0 := b0.up u3
    replace b1 := b1.up u3
    replace b2 := b2.up u3
    replace UP := UP.trans u3
    replace b0_0 := b0.cell (i := 0) rfl
    replace b0_1 := b0.cell (i := 1) rfl
    replace b0_2 := b0.cell (i := 2) rfl
    replace b1_0 := b1.cell (i := 0) rfl
    replace b1_1 := b1.cell (i := 1) rfl
    replace b1_2 := b1.cell (i := 2) rfl
    replace b2_0 := b2.cell (i := 0) rfl
    replace b2_1 := b2.cell (i := 1) rfl
    replace b2_2 := b2.cell (i := 2) rfl
    clear u3
    go_wp2
    go_ret
    exact ⟨rfl, UP⟩
  have l3 : (l'.length : Int) ≤ 6 := by omega
  have l4 : (m'.length : Int) ≤ 6 := by omega
  clear h1
  by_cases h1 : (6 : Int) < (l''.length : Int) ∨ (6 : Int) < (m''.length : Int)
  · have H1 := Lib.hid h1
    clear h1
    have UP : Up w (((w.alloc (.cells #[.bool s, .slice A l.length c, .slice D m.length d] 61)).alloc (.cells #[.bool s', .slice A' l'.length c', .slice D' m'.length d'] 61)).alloc (.cells #[.bool s'', .slice A'' l''.length c'', .slice D'' m''.length d''] 61)) := (((Up.refl w).alloc _).alloc _).alloc _
    obtain ⟨b0, b1, b2⟩ := bx_three 61 61 61 w [.bool s, .slice A l.length c, .slice D m.length d] [.bool s', .slice A' l'.length c', .slice D' m'.length d'] [.bool s'', .slice A'' l''.length c'', .slice D'' m''.length d'']
    go_enter Try.func8, Try.ntmps8
    go_wp2_with fail
    generalize (((w.alloc (.cells #[.bool s, .slice A l.length c, .slice D m.length d] 61)).alloc (.cells #[.bool s', .slice A' l'.length c', .slice D' m'.length d'] 61)).alloc (.cells #[.bool s'', .slice A'' l''.length c'', .slice D'' m''.length d''] 61)) = W at *
    have b0_0 := b0.cell (i := 0) rfl
    have b0_1 := b0.cell (i := 1) rfl
    have b0_2 := b0.cell (i := 2) rfl
    have b1_0 := b1.cell (i := 0) rfl
    have b1_1 := b1.cell (i := 1) rfl
    have b1_2 := b1.cell (i := 2) rfl
    have b2_0 := b2.cell (i := 0) rfl
    have b2_1 := b2.cell (i := 1) rfl
    have b2_2 := b2.cell (i := 2) rfl
    go_wp2_with fail
    ((with_reducible refine (ref_long9_no l1 l2 (by omega)).mono ?_))
    rintro e W1 ⟨rfl, u1⟩
    replace b0 := b0.up u1
    replace b1 := b1.up u1
    replace b2 := b2.up u1
    replace UP := UP.trans u1
    replace b0_0 := b0.cell (i := 0) rfl
    replace b0_1 := b0.cell (i := 1) rfl
    replace b0_2 := b0.cell (i := 2) rfl
    replace b1_0 := b1.cell (i := 0) rfl
    replace b1_1 := b1.cell (i := 1) rfl
    replace b1_2 := b1.cell (i := 2) rfl
    replace b2_0 := b2.cell (i := 0) rfl
    replace b2_1 := b2.cell (i := 1) rfl
    replace b2_2 := b2.cell (i := 2) rfl
    clear u1
    go_wp2_with fail
    ((with_reducible refine (ref_long9_no l3 l4 (by omega)).mono ?_))
    rintro e W2 ⟨rfl, u2⟩
    replace b0 := b0.up u2
    replace b1 := b1.up u2
    replace b2 := b2.up u2
    replace UP := UP.trans u2
    replace b0_0 := b0.cell (i := 0) rfl
    replace b0_1 := b0.cell (i := 1) rfl
    replace b0_2 := b0.cell (i := 2) rfl
    replace b1_0 := b1.cell (i := 0) rfl
    replace b1_1 := b1.cell (i := 1) rfl
    replace b1_2 := b1.cell (i := 2) rfl
    replace b2_0 := b2.cell (i := 0) rfl
    replace b2_1 := b2.cell (i := 1) rfl
    replace b2_2 := b2.cell (i := 2) rfl
    clear u2
    go_wp2_with fail
    ((with_reducible refine (ref_long9_yes H1.out (by omega)).mono ?_))
    rintro e W3 ⟨rfl, u3⟩
    replace b0 := b0.up u3
    replace b1 := b1.up u3
    replace b2 := b2.up u3
    replace UP := UP.trans u3
    replace b0_0 := b0.cell (i := 0) rfl
    replace b0_1 := b0.cell (i := 1) rfl
    replace b0_2 := b0.cell (i := 2) rfl
    replace b1_0 := b1.cell (i := 0) rfl
    replace b1_1 := b1.cell (i := 1) rfl
    replace b1_2 := b1.cell (i := 2) rfl
    replace b2_0 := b2.cell (i := 0) rfl
    replace b2_1 := b2.cell (i := 1) rfl
    replace b2_2 := b2.cell (i := 2) rfl
    clear u3
    go_wp2_with fail
    ((with_reducible refine (works9 _).mono ?_))
    rintro e W4 ⟨rfl, u4⟩
    replace b0 := b0.up u4
    replace b1 := b1.up u4
    replace b2 := b2.up u4
    replace UP := UP.trans u4
    replace b0_0 := b0.cell (i := 0) rfl
    replace b0_1 := b0.cell (i := 1) rfl
    replace b0_2 := b0.cell (i := 2) rfl
    replace b1_0 := b1.cell (i := 0) rfl
    replace b1_1 := b1.cell (i := 1) rfl
    replace b1_2 := b1.cell (i := 2) rfl
    replace b2_0 := b2.cell (i := 0) rfl
    replace b2_1 := b2.cell (i := 1) rfl
    replace b2_2 := b2.cell (i := 2) rfl
    clear u4
    go_wp2
    go_ret
    exact ⟨rfl, UP⟩
  have l5 : (l''.length : Int) ≤ 6 := by omega
  have l6 : (m''.length : Int) ≤ 6 := by omega
  clear h1
  obtain ⟨x, hx⟩ : ∃ q, mkRat (Wd.iv s (Wd.val l)) (Wd.val m) = q := ⟨_, rfl⟩
  obtain ⟨y, hy⟩ : ∃ q, mkRat (Wd.iv s' (Wd.val l')) (Wd.val m') = q := ⟨_, rfl⟩
  obtain ⟨z, hz⟩ : ∃ q, mkRat (Wd.iv s'' (Wd.val l'')) (Wd.val m'') = q := ⟨_, rfl⟩
  have FX : Fr w (.agg #[.bool s, .slice A l.length c, .slice D m.length d]) x 6 := ⟨s, _, _, l, m, rfl, hl, hm, hx, by omega, by omega, by omega⟩
  have FY : Fr w (.agg #[.bool s', .slice A' l'.length c', .slice D' m'.length d']) y 6 := ⟨s', _, _, l', m', rfl, hl', hm', hy, by omega, by omega, by omega⟩
  have FZ : Fr w (.agg #[.bool s'', .slice A'' l''.length c'', .slice D'' m''.length d'']) z 6 := ⟨s'', _, _, l'', m'', rfl, hl'', hm'', hz, by omega, by omega, by omega⟩
  clear hx hy hz hl hm hl' hm' hl'' hm''
  have LXZ := FX.lq.add FZ.lq
  have LYZ := FY.lq.add FZ.lq
  have MXZ := FX.lq.mul FZ.lq
  have MYZ := FY.lq.mul FZ.lq
  have HSW := Lib.hid (Wd.cmpQ_swap x y)
  have HAD := Lib.hid (Wd.cmpQ_add x y z)
  have HMU := Lib.hid (Wd.cmpQ_mul x y z)
  have HEQ : Hid (decide (x = y) = (Wd.cmpQ x y == 0)) := Lib.hid (by have := Wd.cmpQ_zero x y; rw [Bool.eq_iff_iff]; simpa using this.symm)
  have HOR := Lib.hid (@Wd.cmpQ_order x y z)
  have bo := Wd.cmpQ_bd x y
  have bp := Wd.cmpQ_bd y z
  have bz := Wd.sgn_bd z.num
  have HW : Hid (IntKind.i64.wrap (Wd.cmpQ x y * Wd.sgn z.num) = Wd.cmpQ x y * Wd.sgn z.num) := Lib.hid (by
    rcases Wd.sgn_cases (x - y).num with ⟨_, e⟩ | ⟨_, e⟩ | ⟨_, e⟩ <;> (unfold Wd.cmpQ; rw [e]; exact IntWalk.i64_in _ (by omega)))
  generalize ho : Wd.cmpQ x y = o at *
  generalize hp : Wd.cmpQ y z = p at *
  generalize hs : Wd.sgn z.num = sz at *
  have HO := Lib.hid ho
  have HP := Lib.hid hp
  have HS := Lib.hid hs
  clear ho hp hs
  by_cases c1 : 0 ≤ o
  · by_cases c2 : 0 ≤ p
    · have hle := HOR.out c1 c2
      generalize hr : Wd.cmpQ x z = r at *
      have HR := Lib.hid hr
      clear hr HOR
      by_cases hpo : p > o
      · have hrm : p ≤ r := by omega
        clear hle
        have UP : Up w (((w.alloc (.cells #[.bool s, .slice A l.length c, .slice D m.length d] 61)).alloc (.cells #[.bool s', .slice A' l'.length c', .slice D' m'.length d'] 61)).alloc (.cells #[.bool s'', .slice A'' l''.length c'', .slice D'' m''.length d''] 61)) := (((Up.refl w).alloc _).alloc _).alloc _
        obtain ⟨b0, b1, b2⟩ := bx_three 61 61 61 w [.bool s, .slice A l.length c, .slice D m.length d] [.bool s', .slice A' l'.length c', .slice D' m'.length d'] [.bool s'', .slice A'' l''.length c'', .slice D'' m''.length d'']
        go_enter Try.func8, Try.ntmps8
        go_wp2_with fail
        generalize (((w.alloc (.cells #[.bool s, .slice A l.length c, .slice D m.length d] 61)).alloc (.cells #[.bool s', .slice A' l'.length c', .slice D' m'.length d'] 61)).alloc (.cells #[.bool s'', .slice A'' l''.length c'', .slice D'' m''.length d''] 61)) = W at *
        replace FX := FX.up UP
        replace FY := FY.up UP
        replace FZ := FZ.up UP
        have b0_0 := b0.cell (i := 0) rfl
        have b0_1 := b0.cell (i := 1) rfl
        have b0_2 := b0.cell (i := 2) rfl
        have b1_0 := b1.cell (i := 0) rfl
        have b1_1 := b1.cell (i := 1) rfl
        have b1_2 := b1.cell (i := 2) rfl
        have b2_0 := b2.cell (i := 0) rfl
        have b2_1 := b2.cell (i := 1) rfl
        have b2_2 := b2.cell (i := 2) rfl
        go_wp2_with fail
        ((with_reducible refine (ref_long9_no l1 l2 (by omega)).mono ?_))
        rintro e W1 ⟨rfl, u1⟩
        replace FX := FX.up u1
        replace FY := FY.up u1
        replace FZ := FZ.up u1
        replace b0 := b0.up u1
        replace b1 := b1.up u1
        replace b2 := b2.up u1
        replace UP := UP.trans u1
        replace b0_0 := b0.cell (i := 0) rfl
        replace b0_1 := b0.cell (i := 1) rfl
        replace b0_2 := b0.cell (i := 2) rfl
        replace b1_0 := b1.cell (i := 0) rfl
        replace b1_1 := b1.cell (i := 1) rfl
        replace b1_2 := b1.cell (i := 2) rfl
        replace b2_0 := b2.cell (i := 0) rfl
        replace b2_1 := b2.cell (i := 1) rfl
        replace b2_2 := b2.cell (i := 2) rfl
        clear u1
        go_wp2_with fail
        ((with_reducible refine (ref_long9_no l3 l4 (by omega)).mono ?_))
        rintro e W2 ⟨rfl, u2⟩
        replace FX := FX.up u2
        replace FY := FY.up u2
        replace FZ := FZ.up u2
        replace b0 := b0.up u2
        replace b1 := b1.up u2
        replace b2 := b2.up u2
        replace UP := UP.trans u2
        replace b0_0 := b0.cell (i := 0) rfl
        replace b0_1 := b0.cell (i := 1) rfl
        replace b0_2 := b0.cell (i := 2) rfl
        replace b1_0 := b1.cell (i := 0) rfl
        replace b1_1 := b1.cell (i := 1) rfl
        replace b1_2 := b1.cell (i := 2) rfl
        replace b2_0 := b2.cell (i := 0) rfl
        replace b2_1 := b2.cell (i := 1) rfl
        replace b2_2 := b2.cell (i := 2) rfl
        clear u2
        go_wp2_with fail
        ((with_reducible refine (ref_long9_no l5 l6 (by omega)).mono ?_))
        rintro e W3 ⟨rfl, u3⟩
        replace FX := FX.up u3
        replace FY := FY.up u3
        replace FZ := FZ.up u3
        replace b0 := b0.up u3
        replace b1 := b1.up u3
        replace b2 := b2.up u3
        replace UP := UP.trans u3
        replace b0_0 := b0.cell (i := 0) rfl
        replace b0_1 := b0.cell (i := 1) rfl
        replace b0_2 := b0.cell (i := 2) rfl
        replace b1_0 := b1.cell (i := 0) rfl
        replace b1_1 := b1.cell (i := 1) rfl
        replace b1_2 := b1.cell (i := 2) rfl
        replace b2_0 := b2.cell (i := 0) rfl
        replace b2_1 := b2.cell (i := 1) rfl
        replace b2_2 := b2.cell (i := 2) rfl
        clear u3
        go_wp2_with fail
        ((with_reducible refine (law_to9 _ _ _ _ _ _ _ _).mono ?_))
        rintro e W4 ⟨rfl, u4⟩
        replace FX := FX.up u4
        replace FY := FY.up u4
        replace FZ := FZ.up u4
        replace b0 := b0.up u4
        replace b1 := b1.up u4
        replace b2 := b2.up u4
        replace UP := UP.trans u4
        replace b0_0 := b0.cell (i := 0) rfl
        replace b0_1 := b0.cell (i := 1) rfl
        replace b0_2 := b0.cell (i := 2) rfl
        replace b1_0 := b1.cell (i := 0) rfl
        replace b1_1 := b1.cell (i := 1) rfl
        replace b1_2 := b1.cell (i := 2) rfl
        replace b2_0 := b2.cell (i := 0) rfl
        replace b2_1 := b2.cell (i := 1) rfl
        replace b2_2 := b2.cell (i := 2) rfl
        clear u4
        have b0_0a := fun O0 => (cell_alloc (o := O0) b0_0)
        have b0_1a := fun O0 => (cell_alloc (o := O0) b0_1)
        have b0_2a := fun O0 => (cell_alloc (o := O0) b0_2)
        have b1_0a := fun O0 => (cell_alloc (o := O0) b1_0)
        have b1_1a := fun O0 => (cell_alloc (o := O0) b1_1)
        have b1_2a := fun O0 => (cell_alloc (o := O0) b1_2)
        have b2_0a := fun O0 => (cell_alloc (o := O0) b2_0)
        have b2_1a := fun O0 => (cell_alloc (o := O0) b2_1)
        have b2_2a := fun O0 => (cell_alloc (o := O0) b2_2)
        go_wp2_with fail
        clear b0_0a b0_1a b0_2a b1_0a b1_1a b1_2a b2_0a b2_1a b2_2a
        have x1 := Bx.new 67 W4 [.bool s, .slice A l.length c, .slice D m.length d]
        have b0_lt_x1 := b0.lt
        have b1_lt_x1 := b1.lt
        have b2_lt_x1 := b2.lt
        replace FX := FX.up ((Up.refl W4).alloc (.cells #[.bool s, .slice A l.length c, .slice D m.length d] 67))
        replace FY := FY.up ((Up.refl W4).alloc (.cells #[.bool s, .slice A l.length c, .slice D m.length d] 67))
        replace FZ := FZ.up ((Up.refl W4).alloc (.cells #[.bool s, .slice A l.length c, .slice D m.length d] 67))
        replace b0 := b0.up ((Up.refl W4).alloc (.cells #[.bool s, .slice A l.length c, .slice D m.length d] 67))
        replace b1 := b1.up ((Up.refl W4).alloc (.cells #[.bool s, .slice A l.length c, .slice D m.length d] 67))
        replace b2 := b2.up ((Up.refl W4).alloc (.cells #[.bool s, .slice A l.length c, .slice D m.length d] 67))
        replace UP := UP.trans ((Up.refl W4).alloc (.cells #[.bool s, .slice A l.length c, .slice D m.length d] 67))
        replace b0_0 := b0.cell (i := 0) rfl
        replace b0_1 := b0.cell (i := 1) rfl
        replace b0_2 := b0.cell (i := 2) rfl
        replace b1_0 := b1.cell (i := 0) rfl
        replace b1_1 := b1.cell (i := 1) rfl
        replace b1_2 := b1.cell (i := 2) rfl
        replace b2_0 := b2.cell (i := 0) rfl
        replace b2_1 := b2.cell (i := 1) rfl
        replace b2_2 := b2.cell (i := 2) rfl
        generalize (W4.alloc (.cells #[.bool s, .slice A l.length c, .slice D m.length d] 67)) = W5 at *
        replace b0_0 := b0.cell (i := 0) rfl
        replace b0_1 := b0.cell (i := 1) rfl
        replace b0_2 := b0.cell (i := 2) rfl
        replace b1_0 := b1.cell (i := 0) rfl
        replace b1_1 := b1.cell (i := 1) rfl
        replace b1_2 := b1.cell (i := 2) rfl
        replace b2_0 := b2.cell (i := 0) rfl
        replace b2_1 := b2.cell (i := 1) rfl
        replace b2_2 := b2.cell (i := 2) rfl
        have x1_0 := x1.cell (i := 0) rfl
        have x1_1 := x1.cell (i := 1) rfl
        have x1_2 := x1.cell (i := 2) rfl
        ((with_reducible refine (law_to9 _ _ _ _ _ _ _ _).mono ?_))
        rintro e W6 ⟨rfl, u6⟩
        replace FX := FX.up u6
        replace FY := FY.up u6
        replace FZ := FZ.up u6
        replace b0 := b0.up u6
        replace b1 := b1.up u6
        replace b2 := b2.up u6
        replace x1 := x1.up u6
        replace UP := UP.trans u6
        replace b0_0 := b0.cell (i := 0) rfl
        replace b0_1 := b0.cell (i := 1) rfl
        replace b0_2 := b0.cell (i := 2) rfl
        replace b1_0 := b1.cell (i := 0) rfl
        replace b1_1 := b1.cell (i := 1) rfl
        replace b1_2 := b1.cell (i := 2) rfl
        replace b2_0 := b2.cell (i := 0) rfl
        replace b2_1 := b2.cell (i := 1) rfl
        replace b2_2 := b2.cell (i := 2) rfl
        replace x1_0 := x1.cell (i := 0) rfl
        replace x1_1 := x1.cell (i := 1) rfl
        replace x1_2 := x1.cell (i := 2) rfl
        clear u6
        have b0_0a := fun O0 => (cell_alloc (o := O0) b0_0)
        have b0_1a := fun O0 => (cell_alloc (o := O0) b0_1)
        have b0_2a := fun O0 => (cell_alloc (o := O0) b0_2)
        have b1_0a := fun O0 => (cell_alloc (o := O0) b1_0)
        have b1_1a := fun O0 => (cell_alloc (o := O0) b1_1)
        have b1_2a := fun O0 => (cell_alloc (o := O0) b1_2)
        have b2_0a := fun O0 => (cell_alloc (o := O0) b2_0)
        have b2_1a := fun O0 => (cell_alloc (o := O0) b2_1)
        have b2_2a := fun O0 => (cell_alloc (o := O0) b2_2)
        have x1_0a := fun O0 => (cell_alloc (o := O0) x1_0)
        have x1_1a := fun O0 => (cell_alloc (o := O0) x1_1)
        have x1_2a := fun O0 => (cell_alloc (o := O0) x1_2)
        go_wp2_with fail
        clear b0_0a b0_1a b0_2a b1_0a b1_1a b1_2a b2_0a b2_1a b2_2a x1_0a x1_1a x1_2a
        have x2 := Bx.new 67 W6 [.bool s', .slice A' l'.length c', .slice D' m'.length d']
        have b0_lt_x2 := b0.lt
        have b1_lt_x2 := b1.lt
        have b2_lt_x2 := b2.lt
        have x1_lt_x2 := x1.lt
        replace FX := FX.up ((Up.refl W6).alloc (.cells #[.bool s', .slice A' l'.length c', .slice D' m'.length d'] 67))
        replace FY := FY.up ((Up.refl W6).alloc (.cells #[.bool s', .slice A' l'.length c', .slice D' m'.length d'] 67))
        replace FZ := FZ.up ((Up.refl W6).alloc (.cells #[.bool s', .slice A' l'.length c', .slice D' m'.length d'] 67))
        replace b0 := b0.up ((Up.refl W6).alloc (.cells #[.bool s', .slice A' l'.length c', .slice D' m'.length d'] 67))
        replace b1 := b1.up ((Up.refl W6).alloc (.cells #[.bool s', .slice A' l'.length c', .slice D' m'.length d'] 67))
        replace b2 := b2.up ((Up.refl W6).alloc (.cells #[.bool s', .slice A' l'.length c', .slice D' m'.length d'] 67))
        replace x1 := x1.up ((Up.refl W6).alloc (.cells #[.bool s', .slice A' l'.length c', .slice D' m'.length d'] 67))
        replace UP := UP.trans ((Up.refl W6).alloc (.cells #[.bool s', .slice A' l'.length c', .slice D' m'.length d'] 67))
        replace b0_0 := b0.cell (i := 0) rfl
        replace b0_1 := b0.cell (i := 1) rfl
        replace b0_2 := b0.cell (i := 2) rfl
        replace b1_0 := b1.cell (i := 0) rfl
        replace b1_1 := b1.cell (i := 1) rfl
        replace b1_2 := b1.cell (i := 2) rfl
        replace b2_0 := b2.cell (i := 0) rfl
        replace b2_1 := b2.cell (i := 1) rfl
        replace b2_2 := b2.cell (i := 2) rfl
        replace x1_0 := x1.cell (i := 0) rfl
        replace x1_1 := x1.cell (i := 1) rfl
        replace x1_2 := x1.cell (i := 2) rfl
        generalize (W6.alloc (.cells #[.bool s', .slice A' l'.length c', .slice D' m'.length d'] 67)) = W7 at *
        replace b0_0 := b0.cell (i := 0) rfl
        replace b0_1 := b0.cell (i := 1) rfl
        replace b0_2 := b0.cell (i := 2) rfl
        replace b1_0 := b1.cell (i := 0) rfl
        replace b1_1 := b1.cell (i := 1) rfl
        replace b1_2 := b1.cell (i := 2) rfl
        replace b2_0 := b2.cell (i := 0) rfl
        replace b2_1 := b2.cell (i := 1) rfl
        replace b2_2 := b2.cell (i := 2) rfl
        replace x1_0 := x1.cell (i := 0) rfl
        replace x1_1 := x1.cell (i := 1) rfl
        replace x1_2 := x1.cell (i := 2) rfl
        have x2_0 := x2.cell (i := 0) rfl
        have x2_1 := x2.cell (i := 1) rfl
        have x2_2 := x2.cell (i := 2) rfl
        ((with_reducible refine (law_to9 _ _ _ _ _ _ _ _).mono ?_))
        rintro e W8 ⟨rfl, u8⟩
        replace FX := FX.up u8
        replace FY := FY.up u8
        replace FZ := FZ.up u8
        replace b0 := b0.up u8
        replace b1 := b1.up u8
        replace b2 := b2.up u8
        replace x1 := x1.up u8
        replace x2 := x2.up u8
        replace UP := UP.trans u8
        replace b0_0 := b0.cell (i := 0) rfl
        replace b0_1 := b0.cell (i := 1) rfl
        replace b0_2 := b0.cell (i := 2) rfl
        replace b1_0 := b1.cell (i := 0) rfl
        replace b1_1 := b1.cell (i := 1) rfl
        replace b1_2 := b1.cell (i := 2) rfl
        replace b2_0 := b2.cell (i := 0) rfl
        replace b2_1 := b2.cell (i := 1) rfl
        replace b2_2 := b2.cell (i := 2) rfl
        replace x1_0 := x1.cell (i := 0) rfl
        replace x1_1 := x1.cell (i := 1) rfl
        replace x1_2 := x1.cell (i := 2) rfl
        replace x2_0 := x2.cell (i := 0) rfl
        replace x2_1 := x2.cell (i := 1) rfl
        replace x2_2 := x2.cell (i := 2) rfl
        clear u8
        have b0_0a := fun O0 => (cell_alloc (o := O0) b0_0)
        have b0_1a := fun O0 => (cell_alloc (o := O0) b0_1)
        have b0_2a := fun O0 => (cell_alloc (o := O0) b0_2)
        have b1_0a := fun O0 => (cell_alloc (o := O0) b1_0)
        have b1_1a := fun O0 => (cell_alloc (o := O0) b1_1)
        have b1_2a := fun O0 => (cell_alloc (o := O0) b1_2)
        have b2_0a := fun O0 => (cell_alloc (o := O0) b2_0)
        have b2_1a := fun O0 => (cell_alloc (o := O0) b2_1)
        have b2_2a := fun O0 => (cell_alloc (o := O0) b2_2)
        have x1_0a := fun O0 => (cell_alloc (o := O0) x1_0)
        have x1_1a := fun O0 => (cell_alloc (o := O0) x1_1)
        have x1_2a := fun O0 => (cell_alloc (o := O0) x1_2)
        have x2_0a := fun O0 => (cell_alloc (o := O0) x2_0)
        have x2_1a := fun O0 => (cell_alloc (o := O0) x2_1)
        have x2_2a := fun O0 => (cell_alloc (o := O0) x2_2)
        go_wp2_with fail
        clear b0_0a b0_1a b0_2a b1_0a b1_1a b1_2a b2_0a b2_1a b2_2a x1_0a x1_1a x1_2a x2_0a x2_1a x2_2a
        have x3 := Bx.new 67 W8 [.bool s'', .slice A'' l''.length c'', .slice D'' m''.length d'']
        have b0_lt_x3 := b0.lt
        have b1_lt_x3 := b1.lt
        have b2_lt_x3 := b2.lt
        have x1_lt_x3 := x1.lt
        have x2_lt_x3 := x2.lt
        replace FX := FX.up ((Up.refl W8).alloc (.cells #[.bool s'', .slice A'' l''.length c'', .slice D'' m''.length d''] 67))
        replace FY := FY.up ((Up.refl W8).alloc (.cells #[.bool s'', .slice A'' l''.length c'', .slice D'' m''.length d''] 67))
        replace FZ := FZ.up ((Up.refl W8).alloc (.cells #[.bool s'', .slice A'' l''.length c'', .slice D'' m''.length d''] 67))
        replace b0 := b0.up ((Up.refl W8).alloc (.cells #[.bool s'', .slice A'' l''.length c'', .slice D'' m''.length d''] 67))
        replace b1 := b1.up ((Up.refl W8).alloc (.cells #[.bool s'', .slice A'' l''.length c'', .slice D'' m''.length d''] 67))
        replace b2 := b2.up ((Up.refl W8).alloc (.cells #[.bool s'', .slice A'' l''.length c'', .slice D'' m''.length d''] 67))
        replace x1 := x1.up ((Up.refl W8).alloc (.cells #[.bool s'', .slice A'' l''.length c'', .slice D'' m''.length d''] 67))
        replace x2 := x2.up ((Up.refl W8).alloc (.cells #[.bool s'', .slice A'' l''.length c'', .slice D'' m''.length d''] 67))
        replace UP := UP.trans ((Up.refl W8).alloc (.cells #[.bool s'', .slice A'' l''.length c'', .slice D'' m''.length d''] 67))
        replace b0_0 := b0.cell (i := 0) rfl
        replace b0_1 := b0.cell (i := 1) rfl
        replace b0_2 := b0.cell (i := 2) rfl
        replace b1_0 := b1.cell (i := 0) rfl
        replace b1_1 := b1.cell (i := 1) rfl
        replace b1_2 := b1.cell (i := 2) rfl
        replace b2_0 := b2.cell (i := 0) rfl
        replace b2_1 := b2.cell (i := 1) rfl
        replace b2_2 := b2.cell (i := 2) rfl
        replace x1_0 := x1.cell (i := 0) rfl
        replace x1_1 := x1.cell (i := 1) rfl
        replace x1_2 := x1.cell (i := 2) rfl
        replace x2_0 := x2.cell (i := 0) rfl
        replace x2_1 := x2.cell (i := 1) rfl
        replace x2_2 := x2.cell (i := 2) rfl
        generalize (W8.alloc (.cells #[.bool s'', .slice A'' l''.length c'', .slice D'' m''.length d''] 67)) = W9 at *
        replace b0_0 := b0.cell (i := 0) rfl
        replace b0_1 := b0.cell (i := 1) rfl
        replace b0_2 := b0.cell (i := 2) rfl
        replace b1_0 := b1.cell (i := 0) rfl
        replace b1_1 := b1.cell (i := 1) rfl
        replace b1_2 := b1.cell (i := 2) rfl
        replace b2_0 := b2.cell (i := 0) rfl
        replace b2_1 := b2.cell (i := 1) rfl
        replace b2_2 := b2.cell (i := 2) rfl
        replace x1_0 := x1.cell (i := 0) rfl
        replace x1_1 := x1.cell (i := 1) rfl
        replace x1_2 := x1.cell (i := 2) rfl
        replace x2_0 := x2.cell (i := 0) rfl
        replace x2_1 := x2.cell (i := 1) rfl
        replace x2_2 := x2.cell (i := 2) rfl
        have x3_0 := x3.cell (i := 0) rfl
        have x3_1 := x3.cell (i := 1) rfl
        have x3_2 := x3.cell (i := 2) rfl
        ((with_reducible refine (frac_cmp FX FY (by omega) (by omega)).mono ?_))
        rintro e W10 ⟨rfl, u10⟩
        replace FX := FX.up u10
        replace FY := FY.up u10
        replace FZ := FZ.up u10
        replace b0 := b0.up u10
        replace b1 := b1.up u10
        replace b2 := b2.up u10
        replace x1 := x1.up u10
        replace x2 := x2.up u10
        replace x3 := x3.up u10
        replace UP := UP.trans u10
        replace b0_0 := b0.cell (i := 0) rfl
        replace b0_1 := b0.cell (i := 1) rfl
        replace b0_2 := b0.cell (i := 2) rfl
        replace b1_0 := b1.cell (i := 0) rfl
        replace b1_1 := b1.cell (i := 1) rfl
        replace b1_2 := b1.cell (i := 2) rfl
        replace b2_0 := b2.cell (i := 0) rfl
        replace b2_1 := b2.cell (i := 1) rfl
        replace b2_2 := b2.cell (i := 2) rfl
        replace x1_0 := x1.cell (i := 0) rfl
        replace x1_1 := x1.cell (i := 1) rfl
        replace x1_2 := x1.cell (i := 2) rfl
        replace x2_0 := x2.cell (i := 0) rfl
        replace x2_1 := x2.cell (i := 1) rfl
        replace x2_2 := x2.cell (i := 2) rfl
        replace x3_0 := x3.cell (i := 0) rfl
        replace x3_1 := x3.cell (i := 1) rfl
        replace x3_2 := x3.cell (i := 2) rfl
        clear u10
        rw [HO.out]
        go_wp2_with fail
        ((with_reducible refine (frac_cmp FY FZ (by omega) (by omega)).mono ?_))
        rintro e W11 ⟨rfl, u11⟩
        replace FX := FX.up u11
        replace FY := FY.up u11
        replace FZ := FZ.up u11
        replace b0 := b0.up u11
        replace b1 := b1.up u11
        replace b2 := b2.up u11
        replace x1 := x1.up u11
        replace x2 := x2.up u11
        replace x3 := x3.up u11
        replace UP := UP.trans u11
        replace b0_0 := b0.cell (i := 0) rfl
        replace b0_1 := b0.cell (i := 1) rfl
        replace b0_2 := b0.cell (i := 2) rfl
        replace b1_0 := b1.cell (i := 0) rfl
        replace b1_1 := b1.cell (i := 1) rfl
        replace b1_2 := b1.cell (i := 2) rfl
        replace b2_0 := b2.cell (i := 0) rfl
        replace b2_1 := b2.cell (i := 1) rfl
        replace b2_2 := b2.cell (i := 2) rfl
        replace x1_0 := x1.cell (i := 0) rfl
        replace x1_1 := x1.cell (i := 1) rfl
        replace x1_2 := x1.cell (i := 2) rfl
        replace x2_0 := x2.cell (i := 0) rfl
        replace x2_1 := x2.cell (i := 1) rfl
        replace x2_2 := x2.cell (i := 2) rfl
        replace x3_0 := x3.cell (i := 0) rfl
        replace x3_1 := x3.cell (i := 1) rfl
        replace x3_2 := x3.cell (i := 2) rfl
        clear u11
        rw [HP.out]
        go_wp2_with fail
        ((with_reducible refine (frac_cmp FX FZ (by omega) (by omega)).mono ?_))
        rintro e W12 ⟨rfl, u12⟩
        replace FX := FX.up u12
        replace FY := FY.up u12
        replace FZ := FZ.up u12
        replace b0 := b0.up u12
        replace b1 := b1.up u12
        replace b2 := b2.up u12
        replace x1 := x1.up u12
        replace x2 := x2.up u12
        replace x3 := x3.up u12
        replace UP := UP.trans u12
        replace b0_0 := b0.cell (i := 0) rfl
        replace b0_1 := b0.cell (i := 1) rfl
        replace b0_2 := b0.cell (i := 2) rfl
        replace b1_0 := b1.cell (i := 0) rfl
        replace b1_1 := b1.cell (i := 1) rfl
        replace b1_2 := b1.cell (i := 2) rfl
        replace b2_0 := b2.cell (i := 0) rfl
        replace b2_1 := b2.cell (i := 1) rfl
        replace b2_2 := b2.cell (i := 2) rfl
        replace x1_0 := x1.cell (i := 0) rfl
        replace x1_1 := x1.cell (i := 1) rfl
        replace x1_2 := x1.cell (i := 2) rfl
        replace x2_0 := x2.cell (i := 0) rfl
        replace x2_1 := x2.cell (i := 1) rfl
        replace x2_2 := x2.cell (i := 2) rfl
        replace x3_0 := x3.cell (i := 0) rfl
        replace x3_1 := x3.cell (i := 1) rfl
        replace x3_2 := x3.cell (i := 2) rfl
        clear u12
        rw [HR.out]
        go_wp2_with fail
        have hw := HW.out
        have hw2 : IntKind.i64.wrap (-o) = -o := IntWalk.i64_in _ (by omega)
        have k1 : ((-o : Int) == -o) = true := by simp
        have k2 : ((o : Int) == o) = true := by simp
        have k3 : ((o * sz : Int) == o * sz) = true := by simp
        have k4 : ((o == 0) == (o == 0)) = true := by simp
        replace FX := FX.up (Up.refl W12).drew
        replace FY := FY.up (Up.refl W12).drew
        replace FZ := FZ.up (Up.refl W12).drew
        replace b0 := b0.up (Up.refl W12).drew
        replace b1 := b1.up (Up.refl W12).drew
        replace b2 := b2.up (Up.refl W12).drew
        replace x1 := x1.up (Up.refl W12).drew
        replace x2 := x2.up (Up.refl W12).drew
        replace x3 := x3.up (Up.refl W12).drew
        replace UP := UP.trans (Up.refl W12).drew
        replace b0_0 := b0.cell (i := 0) rfl
        replace b0_1 := b0.cell (i := 1) rfl
        replace b0_2 := b0.cell (i := 2) rfl
        replace b1_0 := b1.cell (i := 0) rfl
        replace b1_1 := b1.cell (i := 1) rfl
        replace b1_2 := b1.cell (i := 2) rfl
        replace b2_0 := b2.cell (i := 0) rfl
        replace b2_1 := b2.cell (i := 1) rfl
        replace b2_2 := b2.cell (i := 2) rfl
        replace x1_0 := x1.cell (i := 0) rfl
        replace x1_1 := x1.cell (i := 1) rfl
        replace x1_2 := x1.cell (i := 2) rfl
        replace x2_0 := x2.cell (i := 0) rfl
        replace x2_1 := x2.cell (i := 1) rfl
        replace x2_2 := x2.cell (i := 2) rfl
        replace x3_0 := x3.cell (i := 0) rfl
        replace x3_1 := x3.cell (i := 1) rfl
        replace x3_2 := x3.cell (i := 2) rfl
        go_region_held3 (fun w' => Up w w' ∧ w'.cell? ⟨W4.heap.size, 0, none⟩ = some (.bool s) ∧ w'.cell? ⟨W4.heap.size, 1, none⟩ = some (.slice A l.length c) ∧ w'.cell? ⟨W4.heap.size, 2, none⟩ = some (.slice D m.length d) ∧ w'.cell? ⟨W6.heap.size, 0, none⟩ = some (.bool s') ∧ w'.cell? ⟨W6.heap.size, 1, none⟩ = some (.slice A' l'.length c') ∧ w'.cell? ⟨W6.heap.size, 2, none⟩ = some (.slice D' m'.length d') ∧ w'.cell? ⟨W8.heap.size, 0, none⟩ = some (.bool s'') ∧ w'.cell? ⟨W8.heap.size, 1, none⟩ = some (.slice A'' l''.length c'') ∧ w'.cell? ⟨W8.heap.size, 2, none⟩ = some (.slice D'' m''.length d''))
            (first | with_reducible exact ⟨UP, x1_0, x1_1, x1_2, x2_0, x2_1, x2_2, x3_0, x3_1, x3_2⟩ | with_reducible exact ⟨UP, x1_0, x1_1, x1_2, x2_0, x2_1, x2_2, x3_0, x3_1, x3_2⟩ | with_reducible exact ⟨(UP.alloc_drew _), (cell_alloc_drew x1_0), (cell_alloc_drew x1_1), (cell_alloc_drew x1_2), (cell_alloc_drew x2_0), (cell_alloc_drew x2_1), (cell_alloc_drew x2_2), (cell_alloc_drew x3_0), (cell_alloc_drew x3_1), (cell_alloc_drew x3_2)⟩ | with_reducible exact ⟨(UP.alloc2_drew _ _), (cell_alloc2_drew x1_0), (cell_alloc2_drew x1_1), (cell_alloc2_drew x1_2), (cell_alloc2_drew x2_0), (cell_alloc2_drew x2_1), (cell_alloc2_drew x2_2), (cell_alloc2_drew x3_0), (cell_alloc2_drew x3_1), (cell_alloc2_drew x3_2)⟩ | (simp only [← World.setCell_drew]; with_reducible exact ⟨UP, x1_0, x1_1, x1_2, x2_0, x2_1, x2_2, x3_0, x3_1, x3_2⟩) | go_keep)
            ((first
              | (go_at_call 44
                 ((with_reducible refine (frac_cmp FY FX (by omega) (by omega)).mono ?_))
                 rintro e W13 ⟨rfl, u13⟩
                 replace FX := FX.up u13
                 replace FY := FY.up u13
                 replace FZ := FZ.up u13
                 try (replace a1 := a1.up u13)
                 try (replace a2 := a2.up u13)
                 try (replace m1 := m1.up u13)
                 try (replace m2 := m2.up u13)
                 replace b0 := b0.up u13
                 replace b1 := b1.up u13
                 replace b2 := b2.up u13
                 replace x1 := x1.up u13
                 replace x2 := x2.up u13
                 replace x3 := x3.up u13
                 replace UP := UP.trans u13
                 replace b0_0 := b0.cell (i := 0) rfl
                 replace b0_1 := b0.cell (i := 1) rfl
                 replace b0_2 := b0.cell (i := 2) rfl
                 replace b1_0 := b1.cell (i := 0) rfl
                 replace b1_1 := b1.cell (i := 1) rfl
                 replace b1_2 := b1.cell (i := 2) rfl
                 replace b2_0 := b2.cell (i := 0) rfl
                 replace b2_1 := b2.cell (i := 1) rfl
                 replace b2_2 := b2.cell (i := 2) rfl
                 replace x1_0 := x1.cell (i := 0) rfl
                 replace x1_1 := x1.cell (i := 1) rfl
                 replace x1_2 := x1.cell (i := 2) rfl
                 replace x2_0 := x2.cell (i := 0) rfl
                 replace x2_1 := x2.cell (i := 1) rfl
                 replace x2_2 := x2.cell (i := 2) rfl
                 replace x3_0 := x3.cell (i := 0) rfl
                 replace x3_1 := x3.cell (i := 1) rfl
                 replace x3_2 := x3.cell (i := 2) rfl
                 clear u13
                 rw [HSW.out])
              | (go_at_call 45
                 ((with_reducible refine (frac_add FX FZ (by omega) (by omega)).mono ?_))
                 rintro e W14 ⟨V14, rfl, a1, u14⟩
                 replace FX := FX.up u14
                 replace FY := FY.up u14
                 replace FZ := FZ.up u14
                 try (replace a1 := a1.up u14)
                 try (replace a2 := a2.up u14)
                 try (replace m1 := m1.up u14)
                 try (replace m2 := m2.up u14)
                 replace b0 := b0.up u14
                 replace b1 := b1.up u14
                 replace b2 := b2.up u14
                 replace x1 := x1.up u14
                 replace x2 := x2.up u14
                 replace x3 := x3.up u14
                 replace UP := UP.trans u14
                 replace b0_0 := b0.cell (i := 0) rfl
                 replace b0_1 := b0.cell (i := 1) rfl
                 replace b0_2 := b0.cell (i := 2) rfl
                 replace b1_0 := b1.cell (i := 0) rfl
                 replace b1_1 := b1.cell (i := 1) rfl
                 replace b1_2 := b1.cell (i := 2) rfl
                 replace b2_0 := b2.cell (i := 0) rfl
                 replace b2_1 := b2.cell (i := 1) rfl
                 replace b2_2 := b2.cell (i := 2) rfl
                 replace x1_0 := x1.cell (i := 0) rfl
                 replace x1_1 := x1.cell (i := 1) rfl
                 replace x1_2 := x1.cell (i := 2) rfl
                 replace x2_0 := x2.cell (i := 0) rfl
                 replace x2_1 := x2.cell (i := 1) rfl
                 replace x2_2 := x2.cell (i := 2) rfl
                 replace x3_0 := x3.cell (i := 0) rfl
                 replace x3_1 := x3.cell (i := 1) rfl
                 replace x3_2 := x3.cell (i := 2) rfl
                 clear u14)
              | (go_at_call 45
                 ((with_reducible refine (frac_add FY FZ (by omega) (by omega)).mono ?_))
                 rintro e W15 ⟨V15, rfl, a2, u15⟩
                 replace FX := FX.up u15
                 replace FY := FY.up u15
                 replace FZ := FZ.up u15
                 try (replace a1 := a1.up u15)
                 try (replace a2 := a2.up u15)
                 try (replace m1 := m1.up u15)
                 try (replace m2 := m2.up u15)
                 replace b0 := b0.up u15
                 replace b1 := b1.up u15
                 replace b2 := b2.up u15
                 replace x1 := x1.up u15
                 replace x2 := x2.up u15
                 replace x3 := x3.up u15
                 replace UP := UP.trans u15
                 replace b0_0 := b0.cell (i := 0) rfl
                 replace b0_1 := b0.cell (i := 1) rfl
                 replace b0_2 := b0.cell (i := 2) rfl
                 replace b1_0 := b1.cell (i := 0) rfl
                 replace b1_1 := b1.cell (i := 1) rfl
                 replace b1_2 := b1.cell (i := 2) rfl
                 replace b2_0 := b2.cell (i := 0) rfl
                 replace b2_1 := b2.cell (i := 1) rfl
                 replace b2_2 := b2.cell (i := 2) rfl
                 replace x1_0 := x1.cell (i := 0) rfl
                 replace x1_1 := x1.cell (i := 1) rfl
                 replace x1_2 := x1.cell (i := 2) rfl
                 replace x2_0 := x2.cell (i := 0) rfl
                 replace x2_1 := x2.cell (i := 1) rfl
                 replace x2_2 := x2.cell (i := 2) rfl
                 replace x3_0 := x3.cell (i := 0) rfl
                 replace x3_1 := x3.cell (i := 1) rfl
                 replace x3_2 := x3.cell (i := 2) rfl
                 clear u15)
              | (go_at_call 44
                 ((with_reducible refine (frac_cmp (a1.fr LXZ) (a2.fr LYZ) (by omega) (by omega)).mono ?_))
                 rintro e W16 ⟨rfl, u16⟩
                 replace FX := FX.up u16
                 replace FY := FY.up u16
                 replace FZ := FZ.up u16
                 try (replace a1 := a1.up u16)
                 try (replace a2 := a2.up u16)
                 try (replace m1 := m1.up u16)
                 try (replace m2 := m2.up u16)
                 replace b0 := b0.up u16
                 replace b1 := b1.up u16
                 replace b2 := b2.up u16
                 replace x1 := x1.up u16
                 replace x2 := x2.up u16
                 replace x3 := x3.up u16
                 replace UP := UP.trans u16
                 replace b0_0 := b0.cell (i := 0) rfl
                 replace b0_1 := b0.cell (i := 1) rfl
                 replace b0_2 := b0.cell (i := 2) rfl
                 replace b1_0 := b1.cell (i := 0) rfl
                 replace b1_1 := b1.cell (i := 1) rfl
                 replace b1_2 := b1.cell (i := 2) rfl
                 replace b2_0 := b2.cell (i := 0) rfl
                 replace b2_1 := b2.cell (i := 1) rfl
                 replace b2_2 := b2.cell (i := 2) rfl
                 replace x1_0 := x1.cell (i := 0) rfl
                 replace x1_1 := x1.cell (i := 1) rfl
                 replace x1_2 := x1.cell (i := 2) rfl
                 replace x2_0 := x2.cell (i := 0) rfl
                 replace x2_1 := x2.cell (i := 1) rfl
                 replace x2_2 := x2.cell (i := 2) rfl
                 replace x3_0 := x3.cell (i := 0) rfl
                 replace x3_1 := x3.cell (i := 1) rfl
                 replace x3_2 := x3.cell (i := 2) rfl
                 clear u16
                 rw [HAD.out])
              | (go_at_call 43
                 ((with_reducible refine (frac_mul FX FZ (by omega) (by omega)).mono ?_))
                 rintro e W17 ⟨V17, rfl, m1, u17⟩
                 replace FX := FX.up u17
                 replace FY := FY.up u17
                 replace FZ := FZ.up u17
                 try (replace a1 := a1.up u17)
                 try (replace a2 := a2.up u17)
                 try (replace m1 := m1.up u17)
                 try (replace m2 := m2.up u17)
                 replace b0 := b0.up u17
                 replace b1 := b1.up u17
                 replace b2 := b2.up u17
                 replace x1 := x1.up u17
                 replace x2 := x2.up u17
                 replace x3 := x3.up u17
                 replace UP := UP.trans u17
                 replace b0_0 := b0.cell (i := 0) rfl
                 replace b0_1 := b0.cell (i := 1) rfl
                 replace b0_2 := b0.cell (i := 2) rfl
                 replace b1_0 := b1.cell (i := 0) rfl
                 replace b1_1 := b1.cell (i := 1) rfl
                 replace b1_2 := b1.cell (i := 2) rfl
                 replace b2_0 := b2.cell (i := 0) rfl
                 replace b2_1 := b2.cell (i := 1) rfl
                 replace b2_2 := b2.cell (i := 2) rfl
                 replace x1_0 := x1.cell (i := 0) rfl
                 replace x1_1 := x1.cell (i := 1) rfl
                 replace x1_2 := x1.cell (i := 2) rfl
                 replace x2_0 := x2.cell (i := 0) rfl
                 replace x2_1 := x2.cell (i := 1) rfl
                 replace x2_2 := x2.cell (i := 2) rfl
                 replace x3_0 := x3.cell (i := 0) rfl
                 replace x3_1 := x3.cell (i := 1) rfl
                 replace x3_2 := x3.cell (i := 2) rfl
                 clear u17)
              | (go_at_call 43
                 ((with_reducible refine (frac_mul FY FZ (by omega) (by omega)).mono ?_))
                 rintro e W18 ⟨V18, rfl, m2, u18⟩
                 replace FX := FX.up u18
                 replace FY := FY.up u18
                 replace FZ := FZ.up u18
                 try (replace a1 := a1.up u18)
                 try (replace a2 := a2.up u18)
                 try (replace m1 := m1.up u18)
                 try (replace m2 := m2.up u18)
                 replace b0 := b0.up u18
                 replace b1 := b1.up u18
                 replace b2 := b2.up u18
                 replace x1 := x1.up u18
                 replace x2 := x2.up u18
                 replace x3 := x3.up u18
                 replace UP := UP.trans u18
                 replace b0_0 := b0.cell (i := 0) rfl
                 replace b0_1 := b0.cell (i := 1) rfl
                 replace b0_2 := b0.cell (i := 2) rfl
                 replace b1_0 := b1.cell (i := 0) rfl
                 replace b1_1 := b1.cell (i := 1) rfl
                 replace b1_2 := b1.cell (i := 2) rfl
                 replace b2_0 := b2.cell (i := 0) rfl
                 replace b2_1 := b2.cell (i := 1) rfl
                 replace b2_2 := b2.cell (i := 2) rfl
                 replace x1_0 := x1.cell (i := 0) rfl
                 replace x1_1 := x1.cell (i := 1) rfl
                 replace x1_2 := x1.cell (i := 2) rfl
                 replace x2_0 := x2.cell (i := 0) rfl
                 replace x2_1 := x2.cell (i := 1) rfl
                 replace x2_2 := x2.cell (i := 2) rfl
                 replace x3_0 := x3.cell (i := 0) rfl
                 replace x3_1 := x3.cell (i := 1) rfl
                 replace x3_2 := x3.cell (i := 2) rfl
                 clear u18)
              | (go_at_call 44
                 ((with_reducible refine (frac_cmp (m1.fr MXZ) (m2.fr MYZ) (by omega) (by omega)).mono ?_))
                 rintro e W19 ⟨rfl, u19⟩
                 replace FX := FX.up u19
                 replace FY := FY.up u19
                 replace FZ := FZ.up u19
                 try (replace a1 := a1.up u19)
                 try (replace a2 := a2.up u19)
                 try (replace m1 := m1.up u19)
                 try (replace m2 := m2.up u19)
                 replace b0 := b0.up u19
                 replace b1 := b1.up u19
                 replace b2 := b2.up u19
                 replace x1 := x1.up u19
                 replace x2 := x2.up u19
                 replace x3 := x3.up u19
                 replace UP := UP.trans u19
                 replace b0_0 := b0.cell (i := 0) rfl
                 replace b0_1 := b0.cell (i := 1) rfl
                 replace b0_2 := b0.cell (i := 2) rfl
                 replace b1_0 := b1.cell (i := 0) rfl
                 replace b1_1 := b1.cell (i := 1) rfl
                 replace b1_2 := b1.cell (i := 2) rfl
                 replace b2_0 := b2.cell (i := 0) rfl
                 replace b2_1 := b2.cell (i := 1) rfl
                 replace b2_2 := b2.cell (i := 2) rfl
                 replace x1_0 := x1.cell (i := 0) rfl
                 replace x1_1 := x1.cell (i := 1) rfl
                 replace x1_2 := x1.cell (i := 2) rfl
                 replace x2_0 := x2.cell (i := 0) rfl
                 replace x2_1 := x2.cell (i := 1) rfl
                 replace x2_2 := x2.cell (i := 2) rfl
                 replace x3_0 := x3.cell (i := 0) rfl
                 replace x3_1 := x3.cell (i := 1) rfl
                 replace x3_2 := x3.cell (i := 2) rfl
                 clear u19
                 rw [HMU.out])
              | (go_at_call 41
                 ((with_reducible refine (frac_sign FZ (by omega)).mono ?_))
                 rintro e W20 ⟨rfl, u20⟩
                 replace FX := FX.up u20
                 replace FY := FY.up u20
                 replace FZ := FZ.up u20
                 try (replace a1 := a1.up u20)
                 try (replace a2 := a2.up u20)
                 try (replace m1 := m1.up u20)
                 try (replace m2 := m2.up u20)
                 replace b0 := b0.up u20
                 replace b1 := b1.up u20
                 replace b2 := b2.up u20
                 replace x1 := x1.up u20
                 replace x2 := x2.up u20
                 replace x3 := x3.up u20
                 replace UP := UP.trans u20
                 replace b0_0 := b0.cell (i := 0) rfl
                 replace b0_1 := b0.cell (i := 1) rfl
                 replace b0_2 := b0.cell (i := 2) rfl
                 replace b1_0 := b1.cell (i := 0) rfl
                 replace b1_1 := b1.cell (i := 1) rfl
                 replace b1_2 := b1.cell (i := 2) rfl
                 replace b2_0 := b2.cell (i := 0) rfl
                 replace b2_1 := b2.cell (i := 1) rfl
                 replace b2_2 := b2.cell (i := 2) rfl
                 replace x1_0 := x1.cell (i := 0) rfl
                 replace x1_1 := x1.cell (i := 1) rfl
                 replace x1_2 := x1.cell (i := 2) rfl
                 replace x2_0 := x2.cell (i := 0) rfl
                 replace x2_1 := x2.cell (i := 1) rfl
                 replace x2_2 := x2.cell (i := 2) rfl
                 replace x3_0 := x3.cell (i := 0) rfl
                 replace x3_1 := x3.cell (i := 1) rfl
                 replace x3_2 := x3.cell (i := 2) rfl
                 clear u20
                 rw [HS.out])
              | (go_at_call 46
                 ((with_reducible refine (frac_same FX FY (by omega) (by omega)).mono ?_))
                 rintro e W21 ⟨rfl, u21⟩
                 replace FX := FX.up u21
                 replace FY := FY.up u21
                 replace FZ := FZ.up u21
                 try (replace a1 := a1.up u21)
                 try (replace a2 := a2.up u21)
                 try (replace m1 := m1.up u21)
                 try (replace m2 := m2.up u21)
                 replace b0 := b0.up u21
                 replace b1 := b1.up u21
                 replace b2 := b2.up u21
                 replace x1 := x1.up u21
                 replace x2 := x2.up u21
                 replace x3 := x3.up u21
                 replace UP := UP.trans u21
                 replace b0_0 := b0.cell (i := 0) rfl
                 replace b0_1 := b0.cell (i := 1) rfl
                 replace b0_2 := b0.cell (i := 2) rfl
                 replace b1_0 := b1.cell (i := 0) rfl
                 replace b1_1 := b1.cell (i := 1) rfl
                 replace b1_2 := b1.cell (i := 2) rfl
                 replace b2_0 := b2.cell (i := 0) rfl
                 replace b2_1 := b2.cell (i := 1) rfl
                 replace b2_2 := b2.cell (i := 2) rfl
                 replace x1_0 := x1.cell (i := 0) rfl
                 replace x1_1 := x1.cell (i := 1) rfl
                 replace x1_2 := x1.cell (i := 2) rfl
                 replace x2_0 := x2.cell (i := 0) rfl
                 replace x2_1 := x2.cell (i := 1) rfl
                 replace x2_2 := x2.cell (i := 2) rfl
                 replace x3_0 := x3.cell (i := 0) rfl
                 replace x3_1 := x3.cell (i := 1) rfl
                 replace x3_2 := x3.cell (i := 2) rfl
                 clear u21
                 rw [HEQ.out])
              | (go_at_call 35
                 ((with_reducible refine (works9 _).mono ?_))
                 rintro e W22 ⟨rfl, u22⟩
                 replace FX := FX.up u22
                 replace FY := FY.up u22
                 replace FZ := FZ.up u22
                 try (replace a1 := a1.up u22)
                 try (replace a2 := a2.up u22)
                 try (replace m1 := m1.up u22)
                 try (replace m2 := m2.up u22)
                 replace b0 := b0.up u22
                 replace b1 := b1.up u22
                 replace b2 := b2.up u22
                 replace x1 := x1.up u22
                 replace x2 := x2.up u22
                 replace x3 := x3.up u22
                 replace UP := UP.trans u22
                 replace b0_0 := b0.cell (i := 0) rfl
                 replace b0_1 := b0.cell (i := 1) rfl
                 replace b0_2 := b0.cell (i := 2) rfl
                 replace b1_0 := b1.cell (i := 0) rfl
                 replace b1_1 := b1.cell (i := 1) rfl
                 replace b1_2 := b1.cell (i := 2) rfl
                 replace b2_0 := b2.cell (i := 0) rfl
                 replace b2_1 := b2.cell (i := 1) rfl
                 replace b2_2 := b2.cell (i := 2) rfl
                 replace x1_0 := x1.cell (i := 0) rfl
                 replace x1_1 := x1.cell (i := 1) rfl
                 replace x1_2 := x1.cell (i := 2) rfl
                 replace x2_0 := x2.cell (i := 0) rfl
                 replace x2_1 := x2.cell (i := 1) rfl
                 replace x2_2 := x2.cell (i := 2) rfl
                 replace x3_0 := x3.cell (i := 0) rfl
                 replace x3_1 := x3.cell (i := 1) rfl
                 replace x3_2 := x3.cell (i := 2) rfl
                 clear u22)))
        all_goals
          go_wp2
          go_ret
          exact ⟨by simp, UP⟩
      · have hrm : o ≤ r := by omega
        clear hle
        have UP : Up w (((w.alloc (.cells #[.bool s, .slice A l.length c, .slice D m.length d] 61)).alloc (.cells #[.bool s', .slice A' l'.length c', .slice D' m'.length d'] 61)).alloc (.cells #[.bool s'', .slice A'' l''.length c'', .slice D'' m''.length d''] 61)) := (((Up.refl w).alloc _).alloc _).alloc _
        obtain ⟨b0, b1, b2⟩ := bx_three 61 61 61 w [.bool s, .slice A l.length c, .slice D m.length d] [.bool s', .slice A' l'.length c', .slice D' m'.length d'] [.bool s'', .slice A'' l''.length c'', .slice D'' m''.length d'']
        go_enter Try.func8, Try.ntmps8
        go_wp2_with fail
        generalize (((w.alloc (.cells #[.bool s, .slice A l.length c, .slice D m.length d] 61)).alloc (.cells #[.bool s', .slice A' l'.length c', .slice D' m'.length d'] 61)).alloc (.cells #[.bool s'', .slice A'' l''.length c'', .slice D'' m''.length d''] 61)) = W at *
        replace FX := FX.up UP
        replace FY := FY.up UP
        replace FZ := FZ.up UP
        have b0_0 := b0.cell (i := 0) rfl
        have b0_1 := b0.cell (i := 1) rfl
        have b0_2 := b0.cell (i := 2) rfl
        have b1_0 := b1.cell (i := 0) rfl
        have b1_1 := b1.cell (i := 1) rfl
        have b1_2 := b1.cell (i := 2) rfl
        have b2_0 := b2.cell (i := 0) rfl
        have b2_1 := b2.cell (i := 1) rfl
        have b2_2 := b2.cell (i := 2) rfl
        go_wp2_with fail
        ((with_reducible refine (ref_long9_no l1 l2 (by omega)).mono ?_))
        rintro e W1 ⟨rfl, u1⟩
        replace FX := FX.up u1
        replace FY := FY.up u1
        replace FZ := FZ.up u1
        replace b0 := b0.up u1
        replace b1 := b1.up u1
        replace b2 := b2.up u1
        replace UP := UP.trans u1
        replace b0_0 := b0.cell (i := 0) rfl
        replace b0_1 := b0.cell (i := 1) rfl
        replace b0_2 := b0.cell (i := 2) rfl
        replace b1_0 := b1.cell (i := 0) rfl
        replace b1_1 := b1.cell (i := 1) rfl
        replace b1_2 := b1.cell (i := 2) rfl
        replace b2_0 := b2.cell (i := 0) rfl
        replace b2_1 := b2.cell (i := 1) rfl
        replace b2_2 := b2.cell (i := 2) rfl
        clear u1
        go_wp2_with fail
        ((with_reducible refine (ref_long9_no l3 l4 (by omega)).mono ?_))
        rintro e W2 ⟨rfl, u2⟩
        replace FX := FX.up u2
        replace FY := FY.up u2
        replace FZ := FZ.up u2
        replace b0 := b0.up u2
        replace b1 := b1.up u2
        replace b2 := b2.up u2
        replace UP := UP.trans u2
        replace b0_0 := b0.cell (i := 0) rfl
        replace b0_1 := b0.cell (i := 1) rfl
        replace b0_2 := b0.cell (i := 2) rfl
        replace b1_0 := b1.cell (i := 0) rfl
        replace b1_1 := b1.cell (i := 1) rfl
        replace b1_2 := b1.cell (i := 2) rfl
        replace b2_0 := b2.cell (i := 0) rfl
        replace b2_1 := b2.cell (i := 1) rfl
        replace b2_2 := b2.cell (i := 2) rfl
        clear u2
        go_wp2_with fail
        ((with_reducible refine (ref_long9_no l5 l6 (by omega)).mono ?_))
        rintro e W3 ⟨rfl, u3⟩
        replace FX := FX.up u3
        replace FY := FY.up u3
        replace FZ := FZ.up u3
        replace b0 := b0.up u3
        replace b1 := b1.up u3
        replace b2 := b2.up u3
        replace UP := UP.trans u3
        replace b0_0 := b0.cell (i := 0) rfl
        replace b0_1 := b0.cell (i := 1) rfl
        replace b0_2 := b0.cell (i := 2) rfl
        replace b1_0 := b1.cell (i := 0) rfl
        replace b1_1 := b1.cell (i := 1) rfl
        replace b1_2 := b1.cell (i := 2) rfl
        replace b2_0 := b2.cell (i := 0) rfl
        replace b2_1 := b2.cell (i := 1) rfl
        replace b2_2 := b2.cell (i := 2) rfl
        clear u3
        go_wp2_with fail
        ((with_reducible refine (law_to9 _ _ _ _ _ _ _ _).mono ?_))
        rintro e W4 ⟨rfl, u4⟩
        replace FX := FX.up u4
        replace FY := FY.up u4
        replace FZ := FZ.up u4
        replace b0 := b0.up u4
        replace b1 := b1.up u4
        replace b2 := b2.up u4
        replace UP := UP.trans u4
        replace b0_0 := b0.cell (i := 0) rfl
        replace b0_1 := b0.cell (i := 1) rfl
        replace b0_2 := b0.cell (i := 2) rfl
        replace b1_0 := b1.cell (i := 0) rfl
        replace b1_1 := b1.cell (i := 1) rfl
        replace b1_2 := b1.cell (i := 2) rfl
        replace b2_0 := b2.cell (i := 0) rfl
        replace b2_1 := b2.cell (i := 1) rfl
        replace b2_2 := b2.cell (i := 2) rfl
        clear u4
        have b0_0a := fun O0 => (cell_alloc (o := O0) b0_0)
        have b0_1a := fun O0 => (cell_alloc (o := O0) b0_1)
        have b0_2a := fun O0 => (cell_alloc (o := O0) b0_2)
        have b1_0a := fun O0 => (cell_alloc (o := O0) b1_0)
        have b1_1a := fun O0 => (cell_alloc (o := O0) b1_1)
        have b1_2a := fun O0 => (cell_alloc (o := O0) b1_2)
        have b2_0a := fun O0 => (cell_alloc (o := O0) b2_0)
        have b2_1a := fun O0 => (cell_alloc (o := O0) b2_1)
        have b2_2a := fun O0 => (cell_alloc (o := O0) b2_2)
        go_wp2_with fail
        clear b0_0a b0_1a b0_2a b1_0a b1_1a b1_2a b2_0a b2_1a b2_2a
        have x1 := Bx.new 67 W4 [.bool s, .slice A l.length c, .slice D m.length d]
        have b0_lt_x1 := b0.lt
        have b1_lt_x1 := b1.lt
        have b2_lt_x1 := b2.lt
        replace FX := FX.up ((Up.refl W4).alloc (.cells #[.bool s, .slice A l.length c, .slice D m.length d] 67))
        replace FY := FY.up ((Up.refl W4).alloc (.cells #[.bool s, .slice A l.length c, .slice D m.length d] 67))
        replace FZ := FZ.up ((Up.refl W4).alloc (.cells #[.bool s, .slice A l.length c, .slice D m.length d] 67))
        replace b0 := b0.up ((Up.refl W4).alloc (.cells #[.bool s, .slice A l.length c, .slice D m.length d] 67))
        replace b1 := b1.up ((Up.refl W4).alloc (.cells #[.bool s, .slice A l.length c, .slice D m.length d] 67))
        replace b2 := b2.up ((Up.refl W4).alloc (.cells #[.bool s, .slice A l.length c, .slice D m.length d] 67))
        replace UP := UP.trans ((Up.refl W4).alloc (.cells #[.bool s, .slice A l.length c, .slice D m.length d] 67))
        replace b0_0 := b0.cell (i := 0) rfl
        replace b0_1 := b0.cell (i := 1) rfl
        replace b0_2 := b0.cell (i := 2) rfl
        replace b1_0 := b1.cell (i := 0) rfl
        replace b1_1 := b1.cell (i := 1) rfl
        replace b1_2 := b1.cell (i := 2) rfl
        replace b2_0 := b2.cell (i := 0) rfl
        replace b2_1 := b2.cell (i := 1) rfl
        replace b2_2 := b2.cell (i := 2) rfl
        generalize (W4.alloc (.cells #[.bool s, .slice A l.length c, .slice D m.length d] 67)) = W5 at *
        replace b0_0 := b0.cell (i := 0) rfl
        replace b0_1 := b0.cell (i := 1) rfl
        replace b0_2 := b0.cell (i := 2) rfl
        replace b1_0 := b1.cell (i := 0) rfl
        replace b1_1 := b1.cell (i := 1) rfl
        replace b1_2 := b1.cell (i := 2) rfl
        replace b2_0 := b2.cell (i := 0) rfl
        replace b2_1 := b2.cell (i := 1) rfl
        replace b2_2 := b2.cell (i := 2) rfl
        have x1_0 := x1.cell (i := 0) rfl
        have x1_1 := x1.cell (i := 1) rfl
        have x1_2 := x1.cell (i := 2) rfl
        ((with_reducible refine (law_to9 _ _ _ _ _ _ _ _).mono ?_))
        rintro e W6 ⟨rfl, u6⟩
        replace FX := FX.up u6
        replace FY := FY.up u6
        replace FZ := FZ.up u6
        replace b0 := b0.up u6
        replace b1 := b1.up u6
        replace b2 := b2.up u6
        replace x1 := x1.up u6
        replace UP := UP.trans u6
        replace b0_0 := b0.cell (i := 0) rfl
        replace b0_1 := b0.cell (i := 1) rfl
        replace b0_2 := b0.cell (i := 2) rfl
        replace b1_0 := b1.cell (i := 0) rfl
        replace b1_1 := b1.cell (i := 1) rfl
        replace b1_2 := b1.cell (i := 2) rfl
        replace b2_0 := b2.cell (i := 0) rfl
        replace b2_1 := b2.cell (i := 1) rfl
        replace b2_2 := b2.cell (i := 2) rfl
        replace x1_0 := x1.cell (i := 0) rfl
        replace x1_1 := x1.cell (i := 1) rfl
        replace x1_2 := x1.cell (i := 2) rfl
        clear u6
        have b0_0a := fun O0 => (cell_alloc (o := O0) b0_0)
        have b0_1a := fun O0 => (cell_alloc (o := O0) b0_1)
        have b0_2a := fun O0 => (cell_alloc (o := O0) b0_2)
        have b1_0a := fun O0 => (cell_alloc (o := O0) b1_0)
        have b1_1a := fun O0 => (cell_alloc (o := O0) b1_1)
        have b1_2a := fun O0 => (cell_alloc (o := O0) b1_2)
        have b2_0a := fun O0 => (cell_alloc (o := O0) b2_0)
        have b2_1a := fun O0 => (cell_alloc (o := O0) b2_1)
        have b2_2a := fun O0 => (cell_alloc (o := O0) b2_2)
        have x1_0a := fun O0 => (cell_alloc (o := O0) x1_0)
        have x1_1a := fun O0 => (cell_alloc (o := O0) x1_1)
        have x1_2a := fun O0 => (cell_alloc (o := O0) x1_2)
        go_wp2_with fail
        clear b0_0a b0_1a b0_2a b1_0a b1_1a b1_2a b2_0a b2_1a b2_2a x1_0a x1_1a x1_2a
        have x2 := Bx.new 67 W6 [.bool s', .slice A' l'.length c', .slice D' m'.length d']
        have b0_lt_x2 := b0.lt
        have b1_lt_x2 := b1.lt
        have b2_lt_x2 := b2.lt
        have x1_lt_x2 := x1.lt
        replace FX := FX.up ((Up.refl W6).alloc (.cells #[.bool s', .slice A' l'.length c', .slice D' m'.length d'] 67))
        replace FY := FY.up ((Up.refl W6).alloc (.cells #[.bool s', .slice A' l'.length c', .slice D' m'.length d'] 67))
        replace FZ := FZ.up ((Up.refl W6).alloc (.cells #[.bool s', .slice A' l'.length c', .slice D' m'.length d'] 67))
        replace b0 := b0.up ((Up.refl W6).alloc (.cells #[.bool s', .slice A' l'.length c', .slice D' m'.length d'] 67))
        replace b1 := b1.up ((Up.refl W6).alloc (.cells #[.bool s', .slice A' l'.length c', .slice D' m'.length d'] 67))
        replace b2 := b2.up ((Up.refl W6).alloc (.cells #[.bool s', .slice A' l'.length c', .slice D' m'.length d'] 67))
        replace x1 := x1.up ((Up.refl W6).alloc (.cells #[.bool s', .slice A' l'.length c', .slice D' m'.length d'] 67))
        replace UP := UP.trans ((Up.refl W6).alloc (.cells #[.bool s', .slice A' l'.length c', .slice D' m'.length d'] 67))
        replace b0_0 := b0.cell (i := 0) rfl
        replace b0_1 := b0.cell (i := 1) rfl
        replace b0_2 := b0.cell (i := 2) rfl
        replace b1_0 := b1.cell (i := 0) rfl
        replace b1_1 := b1.cell (i := 1) rfl
        replace b1_2 := b1.cell (i := 2) rfl
        replace b2_0 := b2.cell (i := 0) rfl
        replace b2_1 := b2.cell (i := 1) rfl
        replace b2_2 := b2.cell (i := 2) rfl
        replace x1_0 := x1.cell (i := 0) rfl
        replace x1_1 := x1.cell (i := 1) rfl
        replace x1_2 := x1.cell (i := 2) rfl
        generalize (W6.alloc (.cells #[.bool s', .slice A' l'.length c', .slice D' m'.length d'] 67)) = W7 at *
        replace b0_0 := b0.cell (i := 0) rfl
        replace b0_1 := b0.cell (i := 1) rfl
        replace b0_2 := b0.cell (i := 2) rfl
        replace b1_0 := b1.cell (i := 0) rfl
        replace b1_1 := b1.cell (i := 1) rfl
        replace b1_2 := b1.cell (i := 2) rfl
        replace b2_0 := b2.cell (i := 0) rfl
        replace b2_1 := b2.cell (i := 1) rfl
        replace b2_2 := b2.cell (i := 2) rfl
        replace x1_0 := x1.cell (i := 0) rfl
        replace x1_1 := x1.cell (i := 1) rfl
        replace x1_2 := x1.cell (i := 2) rfl
        have x2_0 := x2.cell (i := 0) rfl
        have x2_1 := x2.cell (i := 1) rfl
        have x2_2 := x2.cell (i := 2) rfl
        ((with_reducible refine (law_to9 _ _ _ _ _ _ _ _).mono ?_))
        rintro e W8 ⟨rfl, u8⟩
        replace FX := FX.up u8
        replace FY := FY.up u8
        replace FZ := FZ.up u8
        replace b0 := b0.up u8
        replace b1 := b1.up u8
        replace b2 := b2.up u8
        replace x1 := x1.up u8
        replace x2 := x2.up u8
        replace UP := UP.trans u8
        replace b0_0 := b0.cell (i := 0) rfl
        replace b0_1 := b0.cell (i := 1) rfl
        replace b0_2 := b0.cell (i := 2) rfl
        replace b1_0 := b1.cell (i := 0) rfl
        replace b1_1 := b1.cell (i := 1) rfl
        replace b1_2 := b1.cell (i := 2) rfl
        replace b2_0 := b2.cell (i := 0) rfl
        replace b2_1 := b2.cell (i := 1) rfl
        replace b2_2 := b2.cell (i := 2) rfl
        replace x1_0 := x1.cell (i := 0) rfl
        replace x1_1 := x1.cell (i := 1) rfl
        replace x1_2 := x1.cell (i := 2) rfl
        replace x2_0 := x2.cell (i := 0) rfl
        replace x2_1 := x2.cell (i := 1) rfl
        replace x2_2 := x2.cell (i := 2) rfl
        clear u8
        have b0_0a := fun O0 => (cell_alloc (o := O0) b0_0)
        have b0_1a := fun O0 => (cell_alloc (o := O0) b0_1)
        have b0_2a := fun O0 => (cell_alloc (o := O0) b0_2)
        have b1_0a := fun O0 => (cell_alloc (o := O0) b1_0)
        have b1_1a := fun O0 => (cell_alloc (o := O0) b1_1)
        have b1_2a := fun O0 => (cell_alloc (o := O0) b1_2)
        have b2_0a := fun O0 => (cell_alloc (o := O0) b2_0)
        have b2_1a := fun O0 => (cell_alloc (o := O0) b2_1)
        have b2_2a := fun O0 => (cell_alloc (o := O0) b2_2)
        have x1_0a := fun O0 => (cell_alloc (o := O0) x1_0)
        have x1_1a := fun O0 => (cell_alloc (o := O0) x1_1)
        have x1_2a := fun O0 => (cell_alloc (o := O0) x1_2)
        have x2_0a := fun O0 => (cell_alloc (o := O0) x2_0)
        have x2_1a := fun O0 => (cell_alloc (o := O0) x2_1)
        have x2_2a := fun O0 => (cell_alloc (o := O0) x2_2)
        go_wp2_with fail
        clear b0_0a b0_1a b0_2a b1_0a b1_1a b1_2a b2_0a b2_1a b2_2a x1_0a x1_1a x1_2a x2_0a x2_1a x2_2a
        have x3 := Bx.new 67 W8 [.bool s'', .slice A'' l''.length c'', .slice D'' m''.length d'']
        have b0_lt_x3 := b0.lt
        have b1_lt_x3 := b1.lt
        have b2_lt_x3 := b2.lt
        have x1_lt_x3 := x1.lt
        have x2_lt_x3 := x2.lt
        replace FX := FX.up ((Up.refl W8).alloc (.cells #[.bool s'', .slice A'' l''.length c'', .slice D'' m''.length d''] 67))
        replace FY := FY.up ((Up.refl W8).alloc (.cells #[.bool s'', .slice A'' l''.length c'', .slice D'' m''.length d''] 67))
        replace FZ := FZ.up ((Up.refl W8).alloc (.cells #[.bool s'', .slice A'' l''.length c'', .slice D'' m''.length d''] 67))
        replace b0 := b0.up ((Up.refl W8).alloc (.cells #[.bool s'', .slice A'' l''.length c'', .slice D'' m''.length d''] 67))
        replace b1 := b1.up ((Up.refl W8).alloc (.cells #[.bool s'', .slice A'' l''.length c'', .slice D'' m''.length d''] 67))
        replace b2 := b2.up ((Up.refl W8).alloc (.cells #[.bool s'', .slice A'' l''.length c'', .slice D'' m''.length d''] 67))
        replace x1 := x1.up ((Up.refl W8).alloc (.cells #[.bool s'', .slice A'' l''.length c'', .slice D'' m''.length d''] 67))
        replace x2 := x2.up ((Up.refl W8).alloc (.cells #[.bool s'', .slice A'' l''.length c'', .slice D'' m''.length d''] 67))
        replace UP := UP.trans ((Up.refl W8).alloc (.cells #[.bool s'', .slice A'' l''.length c'', .slice D'' m''.length d''] 67))
        replace b0_0 := b0.cell (i := 0) rfl
        replace b0_1 := b0.cell (i := 1) rfl
        replace b0_2 := b0.cell (i := 2) rfl
        replace b1_0 := b1.cell (i := 0) rfl
        replace b1_1 := b1.cell (i := 1) rfl
        replace b1_2 := b1.cell (i := 2) rfl
        replace b2_0 := b2.cell (i := 0) rfl
        replace b2_1 := b2.cell (i := 1) rfl
        replace b2_2 := b2.cell (i := 2) rfl
        replace x1_0 := x1.cell (i := 0) rfl
        replace x1_1 := x1.cell (i := 1) rfl
        replace x1_2 := x1.cell (i := 2) rfl
        replace x2_0 := x2.cell (i := 0) rfl
        replace x2_1 := x2.cell (i := 1) rfl
        replace x2_2 := x2.cell (i := 2) rfl
        generalize (W8.alloc (.cells #[.bool s'', .slice A'' l''.length c'', .slice D'' m''.length d''] 67)) = W9 at *
        replace b0_0 := b0.cell (i := 0) rfl
        replace b0_1 := b0.cell (i := 1) rfl
        replace b0_2 := b0.cell (i := 2) rfl
        replace b1_0 := b1.cell (i := 0) rfl
        replace b1_1 := b1.cell (i := 1) rfl
        replace b1_2 := b1.cell (i := 2) rfl
        replace b2_0 := b2.cell (i := 0) rfl
        replace b2_1 := b2.cell (i := 1) rfl
        replace b2_2 := b2.cell (i := 2) rfl
        replace x1_0 := x1.cell (i := 0) rfl
        replace x1_1 := x1.cell (i := 1) rfl
        replace x1_2 := x1.cell (i := 2) rfl
        replace x2_0 := x2.cell (i := 0) rfl
        replace x2_1 := x2.cell (i := 1) rfl
        replace x2_2 := x2.cell (i := 2) rfl
        have x3_0 := x3.cell (i := 0) rfl
        have x3_1 := x3.cell (i := 1) rfl
        have x3_2 := x3.cell (i := 2) rfl
        ((with_reducible refine (frac_cmp FX FY (by omega) (by omega)).mono ?_))
        rintro e W10 ⟨rfl, u10⟩
        replace FX := FX.up u10
        replace FY := FY.up u10
        replace FZ := FZ.up u10
        replace b0 := b0.up u10
        replace b1 := b1.up u10
        replace b2 := b2.up u10
        replace x1 := x1.up u10
        replace x2 := x2.up u10
        replace x3 := x3.up u10
        replace UP := UP.trans u10
        replace b0_0 := b0.cell (i := 0) rfl
        replace b0_1 := b0.cell (i := 1) rfl
        replace b0_2 := b0.cell (i := 2) rfl
        replace b1_0 := b1.cell (i := 0) rfl
        replace b1_1 := b1.cell (i := 1) rfl
        replace b1_2 := b1.cell (i := 2) rfl
        replace b2_0 := b2.cell (i := 0) rfl
        replace b2_1 := b2.cell (i := 1) rfl
        replace b2_2 := b2.cell (i := 2) rfl
        replace x1_0 := x1.cell (i := 0) rfl
        replace x1_1 := x1.cell (i := 1) rfl
        replace x1_2 := x1.cell (i := 2) rfl
        replace x2_0 := x2.cell (i := 0) rfl
        replace x2_1 := x2.cell (i := 1) rfl
        replace x2_2 := x2.cell (i := 2) rfl
        replace x3_0 := x3.cell (i := 0) rfl
        replace x3_1 := x3.cell (i := 1) rfl
        replace x3_2 := x3.cell (i := 2) rfl
        clear u10
        rw [HO.out]
        go_wp2_with fail
        ((with_reducible refine (frac_cmp FY FZ (by omega) (by omega)).mono ?_))
        rintro e W11 ⟨rfl, u11⟩
        replace FX := FX.up u11
        replace FY := FY.up u11
        replace FZ := FZ.up u11
        replace b0 := b0.up u11
        replace b1 := b1.up u11
        replace b2 := b2.up u11
        replace x1 := x1.up u11
        replace x2 := x2.up u11
        replace x3 := x3.up u11
        replace UP := UP.trans u11
        replace b0_0 := b0.cell (i := 0) rfl
        replace b0_1 := b0.cell (i := 1) rfl
        replace b0_2 := b0.cell (i := 2) rfl
        replace b1_0 := b1.cell (i := 0) rfl
        replace b1_1 := b1.cell (i := 1) rfl
        replace b1_2 := b1.cell (i := 2) rfl
        replace b2_0 := b2.cell (i := 0) rfl
        replace b2_1 := b2.cell (i := 1) rfl
        replace b2_2 := b2.cell (i := 2) rfl
        replace x1_0 := x1.cell (i := 0) rfl
        replace x1_1 := x1.cell (i := 1) rfl
        replace x1_2 := x1.cell (i := 2) rfl
        replace x2_0 := x2.cell (i := 0) rfl
        replace x2_1 := x2.cell (i := 1) rfl
        replace x2_2 := x2.cell (i := 2) rfl
        replace x3_0 := x3.cell (i := 0) rfl
        replace x3_1 := x3.cell (i := 1) rfl
        replace x3_2 := x3.cell (i := 2) rfl
        clear u11
        rw [HP.out]
        go_wp2_with fail
        ((with_reducible refine (frac_cmp FX FZ (by omega) (by omega)).mono ?_))
        rintro e W12 ⟨rfl, u12⟩
        replace FX := FX.up u12
        replace FY := FY.up u12
        replace FZ := FZ.up u12
        replace b0 := b0.up u12
        replace b1 := b1.up u12
        replace b2 := b2.up u12
        replace x1 := x1.up u12
        replace x2 := x2.up u12
        replace x3 := x3.up u12
        replace UP := UP.trans u12
        replace b0_0 := b0.cell (i := 0) rfl
        replace b0_1 := b0.cell (i := 1) rfl
        replace b0_2 := b0.cell (i := 2) rfl
        replace b1_0 := b1.cell (i := 0) rfl
        replace b1_1 := b1.cell (i := 1) rfl
        replace b1_2 := b1.cell (i := 2) rfl
        replace b2_0 := b2.cell (i := 0) rfl
        replace b2_1 := b2.cell (i := 1) rfl
        replace b2_2 := b2.cell (i := 2) rfl
        replace x1_0 := x1.cell (i := 0) rfl
        replace x1_1 := x1.cell (i := 1) rfl
        replace x1_2 := x1.cell (i := 2) rfl
        replace x2_0 := x2.cell (i := 0) rfl
        replace x2_1 := x2.cell (i := 1) rfl
        replace x2_2 := x2.cell (i := 2) rfl
        replace x3_0 := x3.cell (i := 0) rfl
        replace x3_1 := x3.cell (i := 1) rfl
        replace x3_2 := x3.cell (i := 2) rfl
        clear u12
        rw [HR.out]
        go_wp2_with fail
        have hw := HW.out
        have hw2 : IntKind.i64.wrap (-o) = -o := IntWalk.i64_in _ (by omega)
        have k1 : ((-o : Int) == -o) = true := by simp
        have k2 : ((o : Int) == o) = true := by simp
        have k3 : ((o * sz : Int) == o * sz) = true := by simp
        have k4 : ((o == 0) == (o == 0)) = true := by simp
        replace FX := FX.up (Up.refl W12).drew
        replace FY := FY.up (Up.refl W12).drew
        replace FZ := FZ.up (Up.refl W12).drew
        replace b0 := b0.up (Up.refl W12).drew
        replace b1 := b1.up (Up.refl W12).drew
        replace b2 := b2.up (Up.refl W12).drew
        replace x1 := x1.up (Up.refl W12).drew
        replace x2 := x2.up (Up.refl W12).drew
        replace x3 := x3.up (Up.refl W12).drew
        replace UP := UP.trans (Up.refl W12).drew
        replace b0_0 := b0.cell (i := 0) rfl
        replace b0_1 := b0.cell (i := 1) rfl
        replace b0_2 := b0.cell (i := 2) rfl
        replace b1_0 := b1.cell (i := 0) rfl
        replace b1_1 := b1.cell (i := 1) rfl
        replace b1_2 := b1.cell (i := 2) rfl
        replace b2_0 := b2.cell (i := 0) rfl
        replace b2_1 := b2.cell (i := 1) rfl
        replace b2_2 := b2.cell (i := 2) rfl
        replace x1_0 := x1.cell (i := 0) rfl
        replace x1_1 := x1.cell (i := 1) rfl
        replace x1_2 := x1.cell (i := 2) rfl
        replace x2_0 := x2.cell (i := 0) rfl
        replace x2_1 := x2.cell (i := 1) rfl
        replace x2_2 := x2.cell (i := 2) rfl
        replace x3_0 := x3.cell (i := 0) rfl
        replace x3_1 := x3.cell (i := 1) rfl
        replace x3_2 := x3.cell (i := 2) rfl
        go_region_held3 (fun w' => Up w w' ∧ w'.cell? ⟨W4.heap.size, 0, none⟩ = some (.bool s) ∧ w'.cell? ⟨W4.heap.size, 1, none⟩ = some (.slice A l.length c) ∧ w'.cell? ⟨W4.heap.size, 2, none⟩ = some (.slice D m.length d) ∧ w'.cell? ⟨W6.heap.size, 0, none⟩ = some (.bool s') ∧ w'.cell? ⟨W6.heap.size, 1, none⟩ = some (.slice A' l'.length c') ∧ w'.cell? ⟨W6.heap.size, 2, none⟩ = some (.slice D' m'.length d') ∧ w'.cell? ⟨W8.heap.size, 0, none⟩ = some (.bool s'') ∧ w'.cell? ⟨W8.heap.size, 1, none⟩ = some (.slice A'' l''.length c'') ∧ w'.cell? ⟨W8.heap.size, 2, none⟩ = some (.slice D'' m''.length d''))
            (first | with_reducible exact ⟨UP, x1_0, x1_1, x1_2, x2_0, x2_1, x2_2, x3_0, x3_1, x3_2⟩ | with_reducible exact ⟨UP, x1_0, x1_1, x1_2, x2_0, x2_1, x2_2, x3_0, x3_1, x3_2⟩ | with_reducible exact ⟨(UP.alloc_drew _), (cell_alloc_drew x1_0), (cell_alloc_drew x1_1), (cell_alloc_drew x1_2), (cell_alloc_drew x2_0), (cell_alloc_drew x2_1), (cell_alloc_drew x2_2), (cell_alloc_drew x3_0), (cell_alloc_drew x3_1), (cell_alloc_drew x3_2)⟩ | with_reducible exact ⟨(UP.alloc2_drew _ _), (cell_alloc2_drew x1_0), (cell_alloc2_drew x1_1), (cell_alloc2_drew x1_2), (cell_alloc2_drew x2_0), (cell_alloc2_drew x2_1), (cell_alloc2_drew x2_2), (cell_alloc2_drew x3_0), (cell_alloc2_drew x3_1), (cell_alloc2_drew x3_2)⟩ | (simp only [← World.setCell_drew]; with_reducible exact ⟨UP, x1_0, x1_1, x1_2, x2_0, x2_1, x2_2, x3_0, x3_1, x3_2⟩) | go_keep)
            ((first
              | (go_at_call 44
                 ((with_reducible refine (frac_cmp FY FX (by omega) (by omega)).mono ?_))
                 rintro e W13 ⟨rfl, u13⟩
                 replace FX := FX.up u13
                 replace FY := FY.up u13
                 replace FZ := FZ.up u13
                 try (replace a1 := a1.up u13)
                 try (replace a2 := a2.up u13)
                 try (replace m1 := m1.up u13)
                 try (replace m2 := m2.up u13)
                 replace b0 := b0.up u13
                 replace b1 := b1.up u13
                 replace b2 := b2.up u13
                 replace x1 := x1.up u13
                 replace x2 := x2.up u13
                 replace x3 := x3.up u13
                 replace UP := UP.trans u13
                 replace b0_0 := b0.cell (i := 0) rfl
                 replace b0_1 := b0.cell (i := 1) rfl
                 replace b0_2 := b0.cell (i := 2) rfl
                 replace b1_0 := b1.cell (i := 0) rfl
                 replace b1_1 := b1.cell (i := 1) rfl
                 replace b1_2 := b1.cell (i := 2) rfl
                 replace b2_0 := b2.cell (i := 0) rfl
                 replace b2_1 := b2.cell (i := 1) rfl
                 replace b2_2 := b2.cell (i := 2) rfl
                 replace x1_0 := x1.cell (i := 0) rfl
                 replace x1_1 := x1.cell (i := 1) rfl
                 replace x1_2 := x1.cell (i := 2) rfl
                 replace x2_0 := x2.cell (i := 0) rfl
                 replace x2_1 := x2.cell (i := 1) rfl
                 replace x2_2 := x2.cell (i := 2) rfl
                 replace x3_0 := x3.cell (i := 0) rfl
                 replace x3_1 := x3.cell (i := 1) rfl
                 replace x3_2 := x3.cell (i := 2) rfl
                 clear u13
                 rw [HSW.out])
              | (go_at_call 45
                 ((with_reducible refine (frac_add FX FZ (by omega) (by omega)).mono ?_))
                 rintro e W14 ⟨V14, rfl, a1, u14⟩
                 replace FX := FX.up u14
                 replace FY := FY.up u14
                 replace FZ := FZ.up u14
                 try (replace a1 := a1.up u14)
                 try (replace a2 := a2.up u14)
                 try (replace m1 := m1.up u14)
                 try (replace m2 := m2.up u14)
                 replace b0 := b0.up u14
                 replace b1 := b1.up u14
                 replace b2 := b2.up u14
                 replace x1 := x1.up u14
                 replace x2 := x2.up u14
                 replace x3 := x3.up u14
                 replace UP := UP.trans u14
                 replace b0_0 := b0.cell (i := 0) rfl
                 replace b0_1 := b0.cell (i := 1) rfl
                 replace b0_2 := b0.cell (i := 2) rfl
                 replace b1_0 := b1.cell (i := 0) rfl
                 replace b1_1 := b1.cell (i := 1) rfl
                 replace b1_2 := b1.cell (i := 2) rfl
                 replace b2_0 := b2.cell (i := 0) rfl
                 replace b2_1 := b2.cell (i := 1) rfl
                 replace b2_2 := b2.cell (i := 2) rfl
                 replace x1_0 := x1.cell (i := 0) rfl
                 replace x1_1 := x1.cell (i := 1) rfl
                 replace x1_2 := x1.cell (i := 2) rfl
                 replace x2_0 := x2.cell (i := 0) rfl
                 replace x2_1 := x2.cell (i := 1) rfl
                 replace x2_2 := x2.cell (i := 2) rfl
                 replace x3_0 := x3.cell (i := 0) rfl
                 replace x3_1 := x3.cell (i := 1) rfl
                 replace x3_2 := x3.cell (i := 2) rfl
                 clear u14)
              | (go_at_call 45
                 ((with_reducible refine (frac_add FY FZ (by omega) (by omega)).mono ?_))
                 rintro e W15 ⟨V15, rfl, a2, u15⟩
                 replace FX := FX.up u15
                 replace FY := FY.up u15
                 replace FZ := FZ.up u15
                 try (replace a1 := a1.up u15)
                 try (replace a2 := a2.up u15)
                 try (replace m1 := m1.up u15)
                 try (replace m2 := m2.up u15)
                 replace b0 := b0.up u15
                 replace b1 := b1.up u15
                 replace b2 := b2.up u15
                 replace x1 := x1.up u15
                 replace x2 := x2.up u15
                 replace x3 := x3.up u15
                 replace UP := UP.trans u15
                 replace b0_0 := b0.cell (i := 0) rfl
                 replace b0_1 := b0.cell (i := 1) rfl
                 replace b0_2 := b0.cell (i := 2) rfl
                 replace b1_0 := b1.cell (i := 0) rfl
                 replace b1_1 := b1.cell (i := 1) rfl
                 replace b1_2 := b1.cell (i := 2) rfl
                 replace b2_0 := b2.cell (i := 0) rfl
                 replace b2_1 := b2.cell (i := 1) rfl
                 replace b2_2 := b2.cell (i := 2) rfl
                 replace x1_0 := x1.cell (i := 0) rfl
                 replace x1_1 := x1.cell (i := 1) rfl
                 replace x1_2 := x1.cell (i := 2) rfl
                 replace x2_0 := x2.cell (i := 0) rfl
                 replace x2_1 := x2.cell (i := 1) rfl
                 replace x2_2 := x2.cell (i := 2) rfl
                 replace x3_0 := x3.cell (i := 0) rfl
                 replace x3_1 := x3.cell (i := 1) rfl
                 replace x3_2 := x3.cell (i := 2) rfl
                 clear u15)
              | (go_at_call 44
                 ((with_reducible refine (frac_cmp (a1.fr LXZ) (a2.fr LYZ) (by omega) (by omega)).mono ?_))
                 rintro e W16 ⟨rfl, u16⟩
                 replace FX := FX.up u16
                 replace FY := FY.up u16
                 replace FZ := FZ.up u16
                 try (replace a1 := a1.up u16)
                 try (replace a2 := a2.up u16)
                 try (replace m1 := m1.up u16)
                 try (replace m2 := m2.up u16)
                 replace b0 := b0.up u16
                 replace b1 := b1.up u16
                 replace b2 := b2.up u16
                 replace x1 := x1.up u16
                 replace x2 := x2.up u16
                 replace x3 := x3.up u16
                 replace UP := UP.trans u16
                 replace b0_0 := b0.cell (i := 0) rfl
                 replace b0_1 := b0.cell (i := 1) rfl
                 replace b0_2 := b0.cell (i := 2) rfl
                 replace b1_0 := b1.cell (i := 0) rfl
                 replace b1_1 := b1.cell (i := 1) rfl
                 replace b1_2 := b1.cell (i := 2) rfl
                 replace b2_0 := b2.cell (i := 0) rfl
                 replace b2_1 := b2.cell (i := 1) rfl
                 replace b2_2 := b2.cell (i := 2) rfl
                 replace x1_0 := x1.cell (i := 0) rfl
                 replace x1_1 := x1.cell (i := 1) rfl
                 replace x1_2 := x1.cell (i := 2) rfl
                 replace x2_0 := x2.cell (i := 0) rfl
                 replace x2_1 := x2.cell (i := 1) rfl
                 replace x2_2 := x2.cell (i := 2) rfl
                 replace x3_0 := x3.cell (i := 0) rfl
                 replace x3_1 := x3.cell (i := 1) rfl
                 replace x3_2 := x3.cell (i := 2) rfl
                 clear u16
                 rw [HAD.out])
              | (go_at_call 43
                 ((with_reducible refine (frac_mul FX FZ (by omega) (by omega)).mono ?_))
                 rintro e W17 ⟨V17, rfl, m1, u17⟩
                 replace FX := FX.up u17
                 replace FY := FY.up u17
                 replace FZ := FZ.up u17
                 try (replace a1 := a1.up u17)
                 try (replace a2 := a2.up u17)
                 try (replace m1 := m1.up u17)
                 try (replace m2 := m2.up u17)
                 replace b0 := b0.up u17
                 replace b1 := b1.up u17
                 replace b2 := b2.up u17
                 replace x1 := x1.up u17
                 replace x2 := x2.up u17
                 replace x3 := x3.up u17
                 replace UP := UP.trans u17
                 replace b0_0 := b0.cell (i := 0) rfl
                 replace b0_1 := b0.cell (i := 1) rfl
                 replace b0_2 := b0.cell (i := 2) rfl
                 replace b1_0 := b1.cell (i := 0) rfl
                 replace b1_1 := b1.cell (i := 1) rfl
                 replace b1_2 := b1.cell (i := 2) rfl
                 replace b2_0 := b2.cell (i := 0) rfl
                 replace b2_1 := b2.cell (i := 1) rfl
                 replace b2_2 := b2.cell (i := 2) rfl
                 replace x1_0 := x1.cell (i := 0) rfl
                 replace x1_1 := x1.cell (i := 1) rfl
                 replace x1_2 := x1.cell (i := 2) rfl
                 replace x2_0 := x2.cell (i := 0) rfl
                 replace x2_1 := x2.cell (i := 1) rfl
                 replace x2_2 := x2.cell (i := 2) rfl
                 replace x3_0 := x3.cell (i := 0) rfl
                 replace x3_1 := x3.cell (i := 1) rfl
                 replace x3_2 := x3.cell (i := 2) rfl
                 clear u17)
              | (go_at_call 43
                 ((with_reducible refine (frac_mul FY FZ (by omega) (by omega)).mono ?_))
                 rintro e W18 ⟨V18, rfl, m2, u18⟩
                 replace FX := FX.up u18
                 replace FY := FY.up u18
                 replace FZ := FZ.up u18
                 try (replace a1 := a1.up u18)
                 try (replace a2 := a2.up u18)
                 try (replace m1 := m1.up u18)
                 try (replace m2 := m2.up u18)
                 replace b0 := b0.up u18
                 replace b1 := b1.up u18
                 replace b2 := b2.up u18
                 replace x1 := x1.up u18
                 replace x2 := x2.up u18
                 replace x3 := x3.up u18
                 replace UP := UP.trans u18
                 replace b0_0 := b0.cell (i := 0) rfl
                 replace b0_1 := b0.cell (i := 1) rfl
                 replace b0_2 := b0.cell (i := 2) rfl
                 replace b1_0 := b1.cell (i := 0) rfl
                 replace b1_1 := b1.cell (i := 1) rfl
                 replace b1_2 := b1.cell (i := 2) rfl
                 replace b2_0 := b2.cell (i := 0) rfl
                 replace b2_1 := b2.cell (i := 1) rfl
                 replace b2_2 := b2.cell (i := 2) rfl
                 replace x1_0 := x1.cell (i := 0) rfl
                 replace x1_1 := x1.cell (i := 1) rfl
                 replace x1_2 := x1.cell (i := 2) rfl
                 replace x2_0 := x2.cell (i := 0) rfl
                 replace x2_1 := x2.cell (i := 1) rfl
                 replace x2_2 := x2.cell (i := 2) rfl
                 replace x3_0 := x3.cell (i := 0) rfl
                 replace x3_1 := x3.cell (i := 1) rfl
                 replace x3_2 := x3.cell (i := 2) rfl
                 clear u18)
              | (go_at_call 44
                 ((with_reducible refine (frac_cmp (m1.fr MXZ) (m2.fr MYZ) (by omega) (by omega)).mono ?_))
                 rintro e W19 ⟨rfl, u19⟩
                 replace FX := FX.up u19
                 replace FY := FY.up u19
                 replace FZ := FZ.up u19
                 try (replace a1 := a1.up u19)
                 try (replace a2 := a2.up u19)
                 try (replace m1 := m1.up u19)
                 try (replace m2 := m2.up u19)
                 replace b0 := b0.up u19
                 replace b1 := b1.up u19
                 replace b2 := b2.up u19
                 replace x1 := x1.up u19
                 replace x2 := x2.up u19
                 replace x3 := x3.up u19
                 replace UP := UP.trans u19
                 replace b0_0 := b0.cell (i := 0) rfl
                 replace b0_1 := b0.cell (i := 1) rfl
                 replace b0_2 := b0.cell (i := 2) rfl
                 replace b1_0 := b1.cell (i := 0) rfl
                 replace b1_1 := b1.cell (i := 1) rfl
                 replace b1_2 := b1.cell (i := 2) rfl
                 replace b2_0 := b2.cell (i := 0) rfl
                 replace b2_1 := b2.cell (i := 1) rfl
                 replace b2_2 := b2.cell (i := 2) rfl
                 replace x1_0 := x1.cell (i := 0) rfl
                 replace x1_1 := x1.cell (i := 1) rfl
                 replace x1_2 := x1.cell (i := 2) rfl
                 replace x2_0 := x2.cell (i := 0) rfl
                 replace x2_1 := x2.cell (i := 1) rfl
                 replace x2_2 := x2.cell (i := 2) rfl
                 replace x3_0 := x3.cell (i := 0) rfl
                 replace x3_1 := x3.cell (i := 1) rfl
                 replace x3_2 := x3.cell (i := 2) rfl
                 clear u19
                 rw [HMU.out])
              | (go_at_call 41
                 ((with_reducible refine (frac_sign FZ (by omega)).mono ?_))
                 rintro e W20 ⟨rfl, u20⟩
                 replace FX := FX.up u20
                 replace FY := FY.up u20
                 replace FZ := FZ.up u20
                 try (replace a1 := a1.up u20)
                 try (replace a2 := a2.up u20)
                 try (replace m1 := m1.up u20)
                 try (replace m2 := m2.up u20)
                 replace b0 := b0.up u20
                 replace b1 := b1.up u20
                 replace b2 := b2.up u20
                 replace x1 := x1.up u20
                 replace x2 := x2.up u20
                 replace x3 := x3.up u20
                 replace UP := UP.trans u20
                 replace b0_0 := b0.cell (i := 0) rfl
                 replace b0_1 := b0.cell (i := 1) rfl
                 replace b0_2 := b0.cell (i := 2) rfl
                 replace b1_0 := b1.cell (i := 0) rfl
                 replace b1_1 := b1.cell (i := 1) rfl
                 replace b1_2 := b1.cell (i := 2) rfl
                 replace b2_0 := b2.cell (i := 0) rfl
                 replace b2_1 := b2.cell (i := 1) rfl
                 replace b2_2 := b2.cell (i := 2) rfl
                 replace x1_0 := x1.cell (i := 0) rfl
                 replace x1_1 := x1.cell (i := 1) rfl
                 replace x1_2 := x1.cell (i := 2) rfl
                 replace x2_0 := x2.cell (i := 0) rfl
                 replace x2_1 := x2.cell (i := 1) rfl
                 replace x2_2 := x2.cell (i := 2) rfl
                 replace x3_0 := x3.cell (i := 0) rfl
                 replace x3_1 := x3.cell (i := 1) rfl
                 replace x3_2 := x3.cell (i := 2) rfl
                 clear u20
                 rw [HS.out])
              | (go_at_call 46
                 ((with_reducible refine (frac_same FX FY (by omega) (by omega)).mono ?_))
                 rintro e W21 ⟨rfl, u21⟩
                 replace FX := FX.up u21
                 replace FY := FY.up u21
                 replace FZ := FZ.up u21
                 try (replace a1 := a1.up u21)
                 try (replace a2 := a2.up u21)
                 try (replace m1 := m1.up u21)
                 try (replace m2 := m2.up u21)
                 replace b0 := b0.up u21
                 replace b1 := b1.up u21
                 replace b2 := b2.up u21
                 replace x1 := x1.up u21
                 replace x2 := x2.up u21
                 replace x3 := x3.up u21
                 replace UP := UP.trans u21
                 replace b0_0 := b0.cell (i := 0) rfl
                 replace b0_1 := b0.cell (i := 1) rfl
                 replace b0_2 := b0.cell (i := 2) rfl
                 replace b1_0 := b1.cell (i := 0) rfl
                 replace b1_1 := b1.cell (i := 1) rfl
                 replace b1_2 := b1.cell (i := 2) rfl
                 replace b2_0 := b2.cell (i := 0) rfl
                 replace b2_1 := b2.cell (i := 1) rfl
                 replace b2_2 := b2.cell (i := 2) rfl
                 replace x1_0 := x1.cell (i := 0) rfl
                 replace x1_1 := x1.cell (i := 1) rfl
                 replace x1_2 := x1.cell (i := 2) rfl
                 replace x2_0 := x2.cell (i := 0) rfl
                 replace x2_1 := x2.cell (i := 1) rfl
                 replace x2_2 := x2.cell (i := 2) rfl
                 replace x3_0 := x3.cell (i := 0) rfl
                 replace x3_1 := x3.cell (i := 1) rfl
                 replace x3_2 := x3.cell (i := 2) rfl
                 clear u21
                 rw [HEQ.out])
              | (go_at_call 35
                 ((with_reducible refine (works9 _).mono ?_))
                 rintro e W22 ⟨rfl, u22⟩
                 replace FX := FX.up u22
                 replace FY := FY.up u22
                 replace FZ := FZ.up u22
                 try (replace a1 := a1.up u22)
                 try (replace a2 := a2.up u22)
                 try (replace m1 := m1.up u22)
                 try (replace m2 := m2.up u22)
                 replace b0 := b0.up u22
                 replace b1 := b1.up u22
                 replace b2 := b2.up u22
                 replace x1 := x1.up u22
                 replace x2 := x2.up u22
                 replace x3 := x3.up u22
                 replace UP := UP.trans u22
                 replace b0_0 := b0.cell (i := 0) rfl
                 replace b0_1 := b0.cell (i := 1) rfl
                 replace b0_2 := b0.cell (i := 2) rfl
                 replace b1_0 := b1.cell (i := 0) rfl
                 replace b1_1 := b1.cell (i := 1) rfl
                 replace b1_2 := b1.cell (i := 2) rfl
                 replace b2_0 := b2.cell (i := 0) rfl
                 replace b2_1 := b2.cell (i := 1) rfl
                 replace b2_2 := b2.cell (i := 2) rfl
                 replace x1_0 := x1.cell (i := 0) rfl
                 replace x1_1 := x1.cell (i := 1) rfl
                 replace x1_2 := x1.cell (i := 2) rfl
                 replace x2_0 := x2.cell (i := 0) rfl
                 replace x2_1 := x2.cell (i := 1) rfl
                 replace x2_2 := x2.cell (i := 2) rfl
                 replace x3_0 := x3.cell (i := 0) rfl
                 replace x3_1 := x3.cell (i := 1) rfl
                 replace x3_2 := x3.cell (i := 2) rfl
                 clear u22)))
        all_goals
          go_wp2
          go_ret
          exact ⟨by simp, UP⟩
    · skip
      have UP : Up w (((w.alloc (.cells #[.bool s, .slice A l.length c, .slice D m.length d] 61)).alloc (.cells #[.bool s', .slice A' l'.length c', .slice D' m'.length d'] 61)).alloc (.cells #[.bool s'', .slice A'' l''.length c'', .slice D'' m''.length d''] 61)) := (((Up.refl w).alloc _).alloc _).alloc _
      obtain ⟨b0, b1, b2⟩ := bx_three 61 61 61 w [.bool s, .slice A l.length c, .slice D m.length d] [.bool s', .slice A' l'.length c', .slice D' m'.length d'] [.bool s'', .slice A'' l''.length c'', .slice D'' m''.length d'']
      go_enter Try.func8, Try.ntmps8
      go_wp2_with fail
      generalize (((w.alloc (.cells #[.bool s, .slice A l.length c, .slice D m.length d] 61)).alloc (.cells #[.bool s', .slice A' l'.length c', .slice D' m'.length d'] 61)).alloc (.cells #[.bool s'', .slice A'' l''.length c'', .slice D'' m''.length d''] 61)) = W at *
      replace FX := FX.up UP
      replace FY := FY.up UP
      replace FZ := FZ.up UP
      have b0_0 := b0.cell (i := 0) rfl
      have b0_1 := b0.cell (i := 1) rfl
      have b0_2 := b0.cell (i := 2) rfl
      have b1_0 := b1.cell (i := 0) rfl
      have b1_1 := b1.cell (i := 1) rfl
      have b1_2 := b1.cell (i := 2) rfl
      have b2_0 := b2.cell (i := 0) rfl
      have b2_1 := b2.cell (i := 1) rfl
      have b2_2 := b2.cell (i := 2) rfl
      go_wp2_with fail
      ((with_reducible refine (ref_long9_no l1 l2 (by omega)).mono ?_))
      rintro e W1 ⟨rfl, u1⟩
      replace FX := FX.up u1
      replace FY := FY.up u1
      replace FZ := FZ.up u1
      replace b0 := b0.up u1
      replace b1 := b1.up u1
      replace b2 := b2.up u1
      replace UP := UP.trans u1
      replace b0_0 := b0.cell (i := 0) rfl
      replace b0_1 := b0.cell (i := 1) rfl
      replace b0_2 := b0.cell (i := 2) rfl
      replace b1_0 := b1.cell (i := 0) rfl
      replace b1_1 := b1.cell (i := 1) rfl
      replace b1_2 := b1.cell (i := 2) rfl
      replace b2_0 := b2.cell (i := 0) rfl
      replace b2_1 := b2.cell (i := 1) rfl
      replace b2_2 := b2.cell (i := 2) rfl
      clear u1
      go_wp2_with fail
      ((with_reducible refine (ref_long9_no l3 l4 (by omega)).mono ?_))
      rintro e W2 ⟨rfl, u2⟩
      replace FX := FX.up u2
      replace FY := FY.up u2
      replace FZ := FZ.up u2
      replace b0 := b0.up u2
      replace b1 := b1.up u2
      replace b2 := b2.up u2
      replace UP := UP.trans u2
      replace b0_0 := b0.cell (i := 0) rfl
      replace b0_1 := b0.cell (i := 1) rfl
      replace b0_2 := b0.cell (i := 2) rfl
      replace b1_0 := b1.cell (i := 0) rfl
      replace b1_1 := b1.cell (i := 1) rfl
      replace b1_2 := b1.cell (i := 2) rfl
      replace b2_0 := b2.cell (i := 0) rfl
      replace b2_1 := b2.cell (i := 1) rfl
      replace b2_2 := b2.cell (i := 2) rfl
      clear u2
      go_wp2_with fail
      ((with_reducible refine (ref_long9_no l5 l6 (by omega)).mono ?_))
      rintro e W3 ⟨rfl, u3⟩
      replace FX := FX.up u3
      replace FY := FY.up u3
      replace FZ := FZ.up u3
      replace b0 := b0.up u3
      replace b1 := b1.up u3
      replace b2 := b2.up u3
      replace UP := UP.trans u3
      replace b0_0 := b0.cell (i := 0) rfl
      replace b0_1 := b0.cell (i := 1) rfl
      replace b0_2 := b0.cell (i := 2) rfl
      replace b1_0 := b1.cell (i := 0) rfl
      replace b1_1 := b1.cell (i := 1) rfl
      replace b1_2 := b1.cell (i := 2) rfl
      replace b2_0 := b2.cell (i := 0) rfl
      replace b2_1 := b2.cell (i := 1) rfl
      replace b2_2 := b2.cell (i := 2) rfl
      clear u3
      go_wp2_with fail
      ((with_reducible refine (law_to9 _ _ _ _ _ _ _ _).mono ?_))
      rintro e W4 ⟨rfl, u4⟩
      replace FX := FX.up u4
      replace FY := FY.up u4
      replace FZ := FZ.up u4
      replace b0 := b0.up u4
      replace b1 := b1.up u4
      replace b2 := b2.up u4
      replace UP := UP.trans u4
      replace b0_0 := b0.cell (i := 0) rfl
      replace b0_1 := b0.cell (i := 1) rfl
      replace b0_2 := b0.cell (i := 2) rfl
      replace b1_0 := b1.cell (i := 0) rfl
      replace b1_1 := b1.cell (i := 1) rfl
      replace b1_2 := b1.cell (i := 2) rfl
      replace b2_0 := b2.cell (i := 0) rfl
      replace b2_1 := b2.cell (i := 1) rfl
      replace b2_2 := b2.cell (i := 2) rfl
      clear u4
      have b0_0a := fun O0 => (cell_alloc (o := O0) b0_0)
      have b0_1a := fun O0 => (cell_alloc (o := O0) b0_1)
      have b0_2a := fun O0 => (cell_alloc (o := O0) b0_2)
      have b1_0a := fun O0 => (cell_alloc (o := O0) b1_0)
      have b1_1a := fun O0 => (cell_alloc (o := O0) b1_1)
      have b1_2a := fun O0 => (cell_alloc (o := O0) b1_2)
      have b2_0a := fun O0 => (cell_alloc (o := O0) b2_0)
      have b2_1a := fun O0 => (cell_alloc (o := O0) b2_1)
      have b2_2a := fun O0 => (cell_alloc (o := O0) b2_2)
      go_wp2_with fail
      clear b0_0a b0_1a b0_2a b1_0a b1_1a b1_2a b2_0a b2_1a b2_2a
      have x1 := Bx.new 67 W4 [.bool s, .slice A l.length c, .slice D m.length d]
      have b0_lt_x1 := b0.lt
      have b1_lt_x1 := b1.lt
      have b2_lt_x1 := b2.lt
      replace FX := FX.up ((Up.refl W4).alloc (.cells #[.bool s, .slice A l.length c, .slice D m.length d] 67))
      replace FY := FY.up ((Up.refl W4).alloc (.cells #[.bool s, .slice A l.length c, .slice D m.length d] 67))
      replace FZ := FZ.up ((Up.refl W4).alloc (.cells #[.bool s, .slice A l.length c, .slice D m.length d] 67))
      replace b0 := b0.up ((Up.refl W4).alloc (.cells #[.bool s, .slice A l.length c, .slice D m.length d] 67))
      replace b1 := b1.up ((Up.refl W4).alloc (.cells #[.bool s, .slice A l.length c, .slice D m.length d] 67))
      replace b2 := b2.up ((Up.refl W4).alloc (.cells #[.bool s, .slice A l.length c, .slice D m.length d] 67))
      replace UP := UP.trans ((Up.refl W4).alloc (.cells #[.bool s, .slice A l.length c, .slice D m.length d] 67))
      replace b0_0 := b0.cell (i := 0) rfl
      replace b0_1 := b0.cell (i := 1) rfl
      replace b0_2 := b0.cell (i := 2) rfl
      replace b1_0 := b1.cell (i := 0) rfl
      replace b1_1 := b1.cell (i := 1) rfl
      replace b1_2 := b1.cell (i := 2) rfl
      replace b2_0 := b2.cell (i := 0) rfl
      replace b2_1 := b2.cell (i := 1) rfl
      replace b2_2 := b2.cell (i := 2) rfl
      generalize (W4.alloc (.cells #[.bool s, .slice A l.length c, .slice D m.length d] 67)) = W5 at *
      replace b0_0 := b0.cell (i := 0) rfl
      replace b0_1 := b0.cell (i := 1) rfl
      replace b0_2 := b0.cell (i := 2) rfl
      replace b1_0 := b1.cell (i := 0) rfl
      replace b1_1 := b1.cell (i := 1) rfl
      replace b1_2 := b1.cell (i := 2) rfl
      replace b2_0 := b2.cell (i := 0) rfl
      replace b2_1 := b2.cell (i := 1) rfl
      replace b2_2 := b2.cell (i := 2) rfl
      have x1_0 := x1.cell (i := 0) rfl
      have x1_1 := x1.cell (i := 1) rfl
      have x1_2 := x1.cell (i := 2) rfl
      ((with_reducible refine (law_to9 _ _ _ _ _ _ _ _).mono ?_))
      rintro e W6 ⟨rfl, u6⟩
      replace FX := FX.up u6
      replace FY := FY.up u6
      replace FZ := FZ.up u6
      replace b0 := b0.up u6
      replace b1 := b1.up u6
      replace b2 := b2.up u6
      replace x1 := x1.up u6
      replace UP := UP.trans u6
      replace b0_0 := b0.cell (i := 0) rfl
      replace b0_1 := b0.cell (i := 1) rfl
      replace b0_2 := b0.cell (i := 2) rfl
      replace b1_0 := b1.cell (i := 0) rfl
      replace b1_1 := b1.cell (i := 1) rfl
      replace b1_2 := b1.cell (i := 2) rfl
      replace b2_0 := b2.cell (i := 0) rfl
      replace b2_1 := b2.cell (i := 1) rfl
      replace b2_2 := b2.cell (i := 2) rfl
      replace x1_0 := x1.cell (i := 0) rfl
      replace x1_1 := x1.cell (i := 1) rfl
      replace x1_2 := x1.cell (i := 2) rfl
      clear u6
      have b0_0a := fun O0 => (cell_alloc (o := O0) b0_0)
      have b0_1a := fun O0 => (cell_alloc (o := O0) b0_1)
      have b0_2a := fun O0 => (cell_alloc (o := O0) b0_2)
      have b1_0a := fun O0 => (cell_alloc (o := O0) b1_0)
      have b1_1a := fun O0 => (cell_alloc (o := O0) b1_1)
      have b1_2a := fun O0 => (cell_alloc (o := O0) b1_2)
      have b2_0a := fun O0 => (cell_alloc (o := O0) b2_0)
      have b2_1a := fun O0 => (cell_alloc (o := O0) b2_1)
      have b2_2a := fun O0 => (cell_alloc (o := O0) b2_2)
      have x1_0a := fun O0 => (cell_alloc (o := O0) x1_0)
      have x1_1a := fun O0 => (cell_alloc (o := O0) x1_1)
      have x1_2a := fun O0 => (cell_alloc (o := O0) x1_2)
      go_wp2_with fail
      clear b0_0a b0_1a b0_2a b1_0a b1_1a b1_2a b2_0a b2_1a b2_2a x1_0a x1_1a x1_2a
      have x2 := Bx.new 67 W6 [.bool s', .slice A' l'.length c', .slice D' m'.length d']
      have b0_lt_x2 := b0.lt
      have b1_lt_x2 := b1.lt
      have b2_lt_x2 := b2.lt
      have x1_lt_x2 := x1.lt
      replace FX := FX.up ((Up.refl W6).alloc (.cells #[.bool s', .slice A' l'.length c', .slice D' m'.length d'] 67))
      replace FY := FY.up ((Up.refl W6).alloc (.cells #[.bool s', .slice A' l'.length c', .slice D' m'.length d'] 67))
      replace FZ := FZ.up ((Up.refl W6).alloc (.cells #[.bool s', .slice A' l'.length c', .slice D' m'.length d'] 67))
      replace b0 := b0.up ((Up.refl W6).alloc (.cells #[.bool s', .slice A' l'.length c', .slice D' m'.length d'] 67))
      replace b1 := b1.up ((Up.refl W6).alloc (.cells #[.bool s', .slice A' l'.length c', .slice D' m'.length d'] 67))
      replace b2 := b2.up ((Up.refl W6).alloc (.cells #[.bool s', .slice A' l'.length c', .slice D' m'.length d'] 67))
      replace x1 := x1.up ((Up.refl W6).alloc (.cells #[.bool s', .slice A' l'.length c', .slice D' m'.length d'] 67))
      replace UP := UP.trans ((Up.refl W6).alloc (.cells #[.bool s', .slice A' l'.length c', .slice D' m'.length d'] 67))
      replace b0_0 := b0.cell (i := 0) rfl
      replace b0_1 := b0.cell (i := 1) rfl
      replace b0_2 := b0.cell (i := 2) rfl
      replace b1_0 := b1.cell (i := 0) rfl
      replace b1_1 := b1.cell (i := 1) rfl
      replace b1_2 := b1.cell (i := 2) rfl
      replace b2_0 := b2.cell (i := 0) rfl
      replace b2_1 := b2.cell (i := 1) rfl
      replace b2_2 := b2.cell (i := 2) rfl
      replace x1_0 := x1.cell (i := 0) rfl
      replace x1_1 := x1.cell (i := 1) rfl
      replace x1_2 := x1.cell (i := 2) rfl
      generalize (W6.alloc (.cells #[.bool s', .slice A' l'.length c', .slice D' m'.length d'] 67)) = W7 at *
      replace b0_0 := b0.cell (i := 0) rfl
      replace b0_1 := b0.cell (i := 1) rfl
      replace b0_2 := b0.cell (i := 2) rfl
      replace b1_0 := b1.cell (i := 0) rfl
      replace b1_1 := b1.cell (i := 1) rfl
      replace b1_2 := b1.cell (i := 2) rfl
      replace b2_0 := b2.cell (i := 0) rfl
      replace b2_1 := b2.cell (i := 1) rfl
      replace b2_2 := b2.cell (i := 2) rfl
      replace x1_0 := x1.cell (i := 0) rfl
      replace x1_1 := x1.cell (i := 1) rfl
      replace x1_2 := x1.cell (i := 2) rfl
      have x2_0 := x2.cell (i := 0) rfl
      have x2_1 := x2.cell (i := 1) rfl
      have x2_2 := x2.cell (i := 2) rfl
      ((with_reducible refine (law_to9 _ _ _ _ _ _ _ _).mono ?_))
      rintro e W8 ⟨rfl, u8⟩
      replace FX := FX.up u8
      replace FY := FY.up u8
      replace FZ := FZ.up u8
      replace b0 := b0.up u8
      replace b1 := b1.up u8
      replace b2 := b2.up u8
      replace x1 := x1.up u8
      replace x2 := x2.up u8
      replace UP := UP.trans u8
      replace b0_0 := b0.cell (i := 0) rfl
      replace b0_1 := b0.cell (i := 1) rfl
      replace b0_2 := b0.cell (i := 2) rfl
      replace b1_0 := b1.cell (i := 0) rfl
      replace b1_1 := b1.cell (i := 1) rfl
      replace b1_2 := b1.cell (i := 2) rfl
      replace b2_0 := b2.cell (i := 0) rfl
      replace b2_1 := b2.cell (i := 1) rfl
      replace b2_2 := b2.cell (i := 2) rfl
      replace x1_0 := x1.cell (i := 0) rfl
      replace x1_1 := x1.cell (i := 1) rfl
      replace x1_2 := x1.cell (i := 2) rfl
      replace x2_0 := x2.cell (i := 0) rfl
      replace x2_1 := x2.cell (i := 1) rfl
      replace x2_2 := x2.cell (i := 2) rfl
      clear u8
      have b0_0a := fun O0 => (cell_alloc (o := O0) b0_0)
      have b0_1a := fun O0 => (cell_alloc (o := O0) b0_1)
      have b0_2a := fun O0 => (cell_alloc (o := O0) b0_2)
      have b1_0a := fun O0 => (cell_alloc (o := O0) b1_0)
      have b1_1a := fun O0 => (cell_alloc (o := O0) b1_1)
      have b1_2a := fun O0 => (cell_alloc (o := O0) b1_2)
      have b2_0a := fun O0 => (cell_alloc (o := O0) b2_0)
      have b2_1a := fun O0 => (cell_alloc (o := O0) b2_1)
      have b2_2a := fun O0 => (cell_alloc (o := O0) b2_2)
      have x1_0a := fun O0 => (cell_alloc (o := O0) x1_0)
      have x1_1a := fun O0 => (cell_alloc (o := O0) x1_1)
      have x1_2a := fun O0 => (cell_alloc (o := O0) x1_2)
      have x2_0a := fun O0 => (cell_alloc (o := O0) x2_0)
      have x2_1a := fun O0 => (cell_alloc (o := O0) x2_1)
      have x2_2a := fun O0 => (cell_alloc (o := O0) x2_2)
      go_wp2_with fail
      clear b0_0a b0_1a b0_2a b1_0a b1_1a b1_2a b2_0a b2_1a b2_2a x1_0a x1_1a x1_2a x2_0a x2_1a x2_2a
      have x3 := Bx.new 67 W8 [.bool s'', .slice A'' l''.length c'', .slice D'' m''.length d'']
      have b0_lt_x3 := b0.lt
      have b1_lt_x3 := b1.lt
      have b2_lt_x3 := b2.lt
      have x1_lt_x3 := x1.lt
      have x2_lt_x3 := x2.lt
      replace FX := FX.up ((Up.refl W8).alloc (.cells #[.bool s'', .slice A'' l''.length c'', .slice D'' m''.length d''] 67))
      replace FY := FY.up ((Up.refl W8).alloc (.cells #[.bool s'', .slice A'' l''.length c'', .slice D'' m''.length d''] 67))
      replace FZ := FZ.up ((Up.refl W8).alloc (.cells #[.bool s'', .slice A'' l''.length c'', .slice D'' m''.length d''] 67))
      replace b0 := b0.up ((Up.refl W8).alloc (.cells #[.bool s'', .slice A'' l''.length c'', .slice D'' m''.length d''] 67))
      replace b1 := b1.up ((Up.refl W8).alloc (.cells #[.bool s'', .slice A'' l''.length c'', .slice D'' m''.length d''] 67))
      replace b2 := b2.up ((Up.refl W8).alloc (.cells #[.bool s'', .slice A'' l''.length c'', .slice D'' m''.length d''] 67))
      replace x1 := x1.up ((Up.refl W8).alloc (.cells #[.bool s'', .slice A'' l''.length c'', .slice D'' m''.length d''] 67))
      replace x2 := x2.up ((Up.refl W8).alloc (.cells #[.bool s'', .slice A'' l''.length c'', .slice D'' m''.length d''] 67))
      replace UP := UP.trans ((Up.refl W8).alloc (.cells #[.bool s'', .slice A'' l''.length c'', .slice D'' m''.length d''] 67))
      replace b0_0 := b0.cell (i := 0) rfl
      replace b0_1 := b0.cell (i := 1) rfl
      replace b0_2 := b0.cell (i := 2) rfl
      replace b1_0 := b1.cell (i := 0) rfl
      replace b1_1 := b1.cell (i := 1) rfl
      replace b1_2 := b1.cell (i := 2) rfl
      replace b2_0 := b2.cell (i := 0) rfl
      replace b2_1 := b2.cell (i := 1) rfl
      replace b2_2 := b2.cell (i := 2) rfl
      replace x1_0 := x1.cell (i := 0) rfl
      replace x1_1 := x1.cell (i := 1) rfl
      replace x1_2 := x1.cell (i := 2) rfl
      replace x2_0 := x2.cell (i := 0) rfl
      replace x2_1 := x2.cell (i := 1) rfl
      replace x2_2 := x2.cell (i := 2) rfl
      generalize (W8.alloc (.cells #[.bool s'', .slice A'' l''.length c'', .slice D'' m''.length d''] 67)) = W9 at *
      replace b0_0 := b0.cell (i := 0) rfl
      replace b0_1 := b0.cell (i := 1) rfl
      replace b0_2 := b0.cell (i := 2) rfl
      replace b1_0 := b1.cell (i := 0) rfl
      replace b1_1 := b1.cell (i := 1) rfl
      replace b1_2 := b1.cell (i := 2) rfl
      replace b2_0 := b2.cell (i := 0) rfl
      replace b2_1 := b2.cell (i := 1) rfl
      replace b2_2 := b2.cell (i := 2) rfl
      replace x1_0 := x1.cell (i := 0) rfl
      replace x1_1 := x1.cell (i := 1) rfl
      replace x1_2 := x1.cell (i := 2) rfl
      replace x2_0 := x2.cell (i := 0) rfl
      replace x2_1 := x2.cell (i := 1) rfl
      replace x2_2 := x2.cell (i := 2) rfl
      have x3_0 := x3.cell (i := 0) rfl
      have x3_1 := x3.cell (i := 1) rfl
      have x3_2 := x3.cell (i := 2) rfl
      ((with_reducible refine (frac_cmp FX FY (by omega) (by omega)).mono ?_))
      rintro e W10 ⟨rfl, u10⟩
      replace FX := FX.up u10
      replace FY := FY.up u10
      replace FZ := FZ.up u10
      replace b0 := b0.up u10
      replace b1 := b1.up u10
      replace b2 := b2.up u10
      replace x1 := x1.up u10
      replace x2 := x2.up u10
      replace x3 := x3.up u10
      replace UP := UP.trans u10
      replace b0_0 := b0.cell (i := 0) rfl
      replace b0_1 := b0.cell (i := 1) rfl
      replace b0_2 := b0.cell (i := 2) rfl
      replace b1_0 := b1.cell (i := 0) rfl
      replace b1_1 := b1.cell (i := 1) rfl
      replace b1_2 := b1.cell (i := 2) rfl
      replace b2_0 := b2.cell (i := 0) rfl
      replace b2_1 := b2.cell (i := 1) rfl
      replace b2_2 := b2.cell (i := 2) rfl
      replace x1_0 := x1.cell (i := 0) rfl
      replace x1_1 := x1.cell (i := 1) rfl
      replace x1_2 := x1.cell (i := 2) rfl
      replace x2_0 := x2.cell (i := 0) rfl
      replace x2_1 := x2.cell (i := 1) rfl
      replace x2_2 := x2.cell (i := 2) rfl
      replace x3_0 := x3.cell (i := 0) rfl
      replace x3_1 := x3.cell (i := 1) rfl
      replace x3_2 := x3.cell (i := 2) rfl
      clear u10
      rw [HO.out]
      go_wp2_with fail
      ((with_reducible refine (frac_cmp FY FZ (by omega) (by omega)).mono ?_))
      rintro e W11 ⟨rfl, u11⟩
      replace FX := FX.up u11
      replace FY := FY.up u11
      replace FZ := FZ.up u11
      replace b0 := b0.up u11
      replace b1 := b1.up u11
      replace b2 := b2.up u11
      replace x1 := x1.up u11
      replace x2 := x2.up u11
      replace x3 := x3.up u11
      replace UP := UP.trans u11
      replace b0_0 := b0.cell (i := 0) rfl
      replace b0_1 := b0.cell (i := 1) rfl
      replace b0_2 := b0.cell (i := 2) rfl
      replace b1_0 := b1.cell (i := 0) rfl
      replace b1_1 := b1.cell (i := 1) rfl
      replace b1_2 := b1.cell (i := 2) rfl
      replace b2_0 := b2.cell (i := 0) rfl
      replace b2_1 := b2.cell (i := 1) rfl
      replace b2_2 := b2.cell (i := 2) rfl
      replace x1_0 := x1.cell (i := 0) rfl
      replace x1_1 := x1.cell (i := 1) rfl
      replace x1_2 := x1.cell (i := 2) rfl
      replace x2_0 := x2.cell (i := 0) rfl
      replace x2_1 := x2.cell (i := 1) rfl
      replace x2_2 := x2.cell (i := 2) rfl
      replace x3_0 := x3.cell (i := 0) rfl
      replace x3_1 := x3.cell (i := 1) rfl
      replace x3_2 := x3.cell (i := 2) rfl
      clear u11
      rw [HP.out]
      go_wp2_with fail
      have hw := HW.out
      have hw2 : IntKind.i64.wrap (-o) = -o := IntWalk.i64_in _ (by omega)
      have k1 : ((-o : Int) == -o) = true := by simp
      have k2 : ((o : Int) == o) = true := by simp
      have k3 : ((o * sz : Int) == o * sz) = true := by simp
      have k4 : ((o == 0) == (o == 0)) = true := by simp
      replace FX := FX.up (Up.refl W11).drew
      replace FY := FY.up (Up.refl W11).drew
      replace FZ := FZ.up (Up.refl W11).drew
      replace b0 := b0.up (Up.refl W11).drew
      replace b1 := b1.up (Up.refl W11).drew
      replace b2 := b2.up (Up.refl W11).drew
      replace x1 := x1.up (Up.refl W11).drew
      replace x2 := x2.up (Up.refl W11).drew
      replace x3 := x3.up (Up.refl W11).drew
      replace UP := UP.trans (Up.refl W11).drew
      replace b0_0 := b0.cell (i := 0) rfl
      replace b0_1 := b0.cell (i := 1) rfl
      replace b0_2 := b0.cell (i := 2) rfl
      replace b1_0 := b1.cell (i := 0) rfl
      replace b1_1 := b1.cell (i := 1) rfl
      replace b1_2 := b1.cell (i := 2) rfl
      replace b2_0 := b2.cell (i := 0) rfl
      replace b2_1 := b2.cell (i := 1) rfl
      replace b2_2 := b2.cell (i := 2) rfl
      replace x1_0 := x1.cell (i := 0) rfl
      replace x1_1 := x1.cell (i := 1) rfl
      replace x1_2 := x1.cell (i := 2) rfl
      replace x2_0 := x2.cell (i := 0) rfl
      replace x2_1 := x2.cell (i := 1) rfl
      replace x2_2 := x2.cell (i := 2) rfl
      replace x3_0 := x3.cell (i := 0) rfl
      replace x3_1 := x3.cell (i := 1) rfl
      replace x3_2 := x3.cell (i := 2) rfl
      go_region_held3 (fun w' => Up w w' ∧ w'.cell? ⟨W4.heap.size, 0, none⟩ = some (.bool s) ∧ w'.cell? ⟨W4.heap.size, 1, none⟩ = some (.slice A l.length c) ∧ w'.cell? ⟨W4.heap.size, 2, none⟩ = some (.slice D m.length d) ∧ w'.cell? ⟨W6.heap.size, 0, none⟩ = some (.bool s') ∧ w'.cell? ⟨W6.heap.size, 1, none⟩ = some (.slice A' l'.length c') ∧ w'.cell? ⟨W6.heap.size, 2, none⟩ = some (.slice D' m'.length d') ∧ w'.cell? ⟨W8.heap.size, 0, none⟩ = some (.bool s'') ∧ w'.cell? ⟨W8.heap.size, 1, none⟩ = some (.slice A'' l''.length c'') ∧ w'.cell? ⟨W8.heap.size, 2, none⟩ = some (.slice D'' m''.length d''))
          (first | with_reducible exact ⟨UP, x1_0, x1_1, x1_2, x2_0, x2_1, x2_2, x3_0, x3_1, x3_2⟩ | with_reducible exact ⟨UP, x1_0, x1_1, x1_2, x2_0, x2_1, x2_2, x3_0, x3_1, x3_2⟩ | with_reducible exact ⟨(UP.alloc_drew _), (cell_alloc_drew x1_0), (cell_alloc_drew x1_1), (cell_alloc_drew x1_2), (cell_alloc_drew x2_0), (cell_alloc_drew x2_1), (cell_alloc_drew x2_2), (cell_alloc_drew x3_0), (cell_alloc_drew x3_1), (cell_alloc_drew x3_2)⟩ | with_reducible exact ⟨(UP.alloc2_drew _ _), (cell_alloc2_drew x1_0), (cell_alloc2_drew x1_1), (cell_alloc2_drew x1_2), (cell_alloc2_drew x2_0), (cell_alloc2_drew x2_1), (cell_alloc2_drew x2_2), (cell_alloc2_drew x3_0), (cell_alloc2_drew x3_1), (cell_alloc2_drew x3_2)⟩ | (simp only [← World.setCell_drew]; with_reducible exact ⟨UP, x1_0, x1_1, x1_2, x2_0, x2_1, x2_2, x3_0, x3_1, x3_2⟩) | go_keep)
          ((first
            | (go_at_call 44
               ((with_reducible refine (frac_cmp FY FX (by omega) (by omega)).mono ?_))
               rintro e W12 ⟨rfl, u12⟩
               replace FX := FX.up u12
               replace FY := FY.up u12
               replace FZ := FZ.up u12
               try (replace a1 := a1.up u12)
               try (replace a2 := a2.up u12)
               try (replace m1 := m1.up u12)
               try (replace m2 := m2.up u12)
               replace b0 := b0.up u12
               replace b1 := b1.up u12
               replace b2 := b2.up u12
               replace x1 := x1.up u12
               replace x2 := x2.up u12
               replace x3 := x3.up u12
               replace UP := UP.trans u12
               replace b0_0 := b0.cell (i := 0) rfl
               replace b0_1 := b0.cell (i := 1) rfl
               replace b0_2 := b0.cell (i := 2) rfl
               replace b1_0 := b1.cell (i := 0) rfl
               replace b1_1 := b1.cell (i := 1) rfl
               replace b1_2 := b1.cell (i := 2) rfl
               replace b2_0 := b2.cell (i := 0) rfl
               replace b2_1 := b2.cell (i := 1) rfl
               replace b2_2 := b2.cell (i := 2) rfl
               replace x1_0 := x1.cell (i := 0) rfl
               replace x1_1 := x1.cell (i := 1) rfl
               replace x1_2 := x1.cell (i := 2) rfl
               replace x2_0 := x2.cell (i := 0) rfl
               replace x2_1 := x2.cell (i := 1) rfl
               replace x2_2 := x2.cell (i := 2) rfl
               replace x3_0 := x3.cell (i := 0) rfl
               replace x3_1 := x3.cell (i := 1) rfl
               replace x3_2 := x3.cell (i := 2) rfl
               clear u12
               rw [HSW.out])
            | (go_at_call 45
               ((with_reducible refine (frac_add FX FZ (by omega) (by omega)).mono ?_))
               rintro e W13 ⟨V13, rfl, a1, u13⟩
               replace FX := FX.up u13
               replace FY := FY.up u13
               replace FZ := FZ.up u13
               try (replace a1 := a1.up u13)
               try (replace a2 := a2.up u13)
               try (replace m1 := m1.up u13)
               try (replace m2 := m2.up u13)
               replace b0 := b0.up u13
               replace b1 := b1.up u13
               replace b2 := b2.up u13
               replace x1 := x1.up u13
               replace x2 := x2.up u13
               replace x3 := x3.up u13
               replace UP := UP.trans u13
               replace b0_0 := b0.cell (i := 0) rfl
               replace b0_1 := b0.cell (i := 1) rfl
               replace b0_2 := b0.cell (i := 2) rfl
               replace b1_0 := b1.cell (i := 0) rfl
               replace b1_1 := b1.cell (i := 1) rfl
               replace b1_2 := b1.cell (i := 2) rfl
               replace b2_0 := b2.cell (i := 0) rfl
               replace b2_1 := b2.cell (i := 1) rfl
               replace b2_2 := b2.cell (i := 2) rfl
               replace x1_0 := x1.cell (i := 0) rfl
               replace x1_1 := x1.cell (i := 1) rfl
               replace x1_2 := x1.cell (i := 2) rfl
               replace x2_0 := x2.cell (i := 0) rfl
               replace x2_1 := x2.cell (i := 1) rfl
               replace x2_2 := x2.cell (i := 2) rfl
               replace x3_0 := x3.cell (i := 0) rfl
               replace x3_1 := x3.cell (i := 1) rfl
               replace x3_2 := x3.cell (i := 2) rfl
               clear u13)
            | (go_at_call 45
               ((with_reducible refine (frac_add FY FZ (by omega) (by omega)).mono ?_))
               rintro e W14 ⟨V14, rfl, a2, u14⟩
               replace FX := FX.up u14
               replace FY := FY.up u14
               replace FZ := FZ.up u14
               try (replace a1 := a1.up u14)
               try (replace a2 := a2.up u14)
               try (replace m1 := m1.up u14)
               try (replace m2 := m2.up u14)
               replace b0 := b0.up u14
               replace b1 := b1.up u14
               replace b2 := b2.up u14
               replace x1 := x1.up u14
               replace x2 := x2.up u14
               replace x3 := x3.up u14
               replace UP := UP.trans u14
               replace b0_0 := b0.cell (i := 0) rfl
               replace b0_1 := b0.cell (i := 1) rfl
               replace b0_2 := b0.cell (i := 2) rfl
               replace b1_0 := b1.cell (i := 0) rfl
               replace b1_1 := b1.cell (i := 1) rfl
               replace b1_2 := b1.cell (i := 2) rfl
               replace b2_0 := b2.cell (i := 0) rfl
               replace b2_1 := b2.cell (i := 1) rfl
               replace b2_2 := b2.cell (i := 2) rfl
               replace x1_0 := x1.cell (i := 0) rfl
               replace x1_1 := x1.cell (i := 1) rfl
               replace x1_2 := x1.cell (i := 2) rfl
               replace x2_0 := x2.cell (i := 0) rfl
               replace x2_1 := x2.cell (i := 1) rfl
               replace x2_2 := x2.cell (i := 2) rfl
               replace x3_0 := x3.cell (i := 0) rfl
               replace x3_1 := x3.cell (i := 1) rfl
               replace x3_2 := x3.cell (i := 2) rfl
               clear u14)
            | (go_at_call 44
               ((with_reducible refine (frac_cmp (a1.fr LXZ) (a2.fr LYZ) (by omega) (by omega)).mono ?_))
               rintro e W15 ⟨rfl, u15⟩
               replace FX := FX.up u15
               replace FY := FY.up u15
               replace FZ := FZ.up u15
               try (replace a1 := a1.up u15)
               try (replace a2 := a2.up u15)
               try (replace m1 := m1.up u15)
               try (replace m2 := m2.up u15)
               replace b0 := b0.up u15
               replace b1 := b1.up u15
               replace b2 := b2.up u15
               replace x1 := x1.up u15
               replace x2 := x2.up u15
               replace x3 := x3.up u15
               replace UP := UP.trans u15
               replace b0_0 := b0.cell (i := 0) rfl
               replace b0_1 := b0.cell (i := 1) rfl
               replace b0_2 := b0.cell (i := 2) rfl
               replace b1_0 := b1.cell (i := 0) rfl
               replace b1_1 := b1.cell (i := 1) rfl
               replace b1_2 := b1.cell (i := 2) rfl
               replace b2_0 := b2.cell (i := 0) rfl
               replace b2_1 := b2.cell (i := 1) rfl
               replace b2_2 := b2.cell (i := 2) rfl
               replace x1_0 := x1.cell (i := 0) rfl
               replace x1_1 := x1.cell (i := 1) rfl
               replace x1_2 := x1.cell (i := 2) rfl
               replace x2_0 := x2.cell (i := 0) rfl
               replace x2_1 := x2.cell (i := 1) rfl
               replace x2_2 := x2.cell (i := 2) rfl
               replace x3_0 := x3.cell (i := 0) rfl
               replace x3_1 := x3.cell (i := 1) rfl
               replace x3_2 := x3.cell (i := 2) rfl
               clear u15
               rw [HAD.out])
            | (go_at_call 43
               ((with_reducible refine (frac_mul FX FZ (by omega) (by omega)).mono ?_))
               rintro e W16 ⟨V16, rfl, m1, u16⟩
               replace FX := FX.up u16
               replace FY := FY.up u16
               replace FZ := FZ.up u16
               try (replace a1 := a1.up u16)
               try (replace a2 := a2.up u16)
               try (replace m1 := m1.up u16)
               try (replace m2 := m2.up u16)
               replace b0 := b0.up u16
               replace b1 := b1.up u16
               replace b2 := b2.up u16
               replace x1 := x1.up u16
               replace x2 := x2.up u16
               replace x3 := x3.up u16
               replace UP := UP.trans u16
               replace b0_0 := b0.cell (i := 0) rfl
               replace b0_1 := b0.cell (i := 1) rfl
               replace b0_2 := b0.cell (i := 2) rfl
               replace b1_0 := b1.cell (i := 0) rfl
               replace b1_1 := b1.cell (i := 1) rfl
               replace b1_2 := b1.cell (i := 2) rfl
               replace b2_0 := b2.cell (i := 0) rfl
               replace b2_1 := b2.cell (i := 1) rfl
               replace b2_2 := b2.cell (i := 2) rfl
               replace x1_0 := x1.cell (i := 0) rfl
               replace x1_1 := x1.cell (i := 1) rfl
               replace x1_2 := x1.cell (i := 2) rfl
               replace x2_0 := x2.cell (i := 0) rfl
               replace x2_1 := x2.cell (i := 1) rfl
               replace x2_2 := x2.cell (i := 2) rfl
               replace x3_0 := x3.cell (i := 0) rfl
               replace x3_1 := x3.cell (i := 1) rfl
               replace x3_2 := x3.cell (i := 2) rfl
               clear u16)
            | (go_at_call 43
               ((with_reducible refine (frac_mul FY FZ (by omega) (by omega)).mono ?_))
               rintro e W17 ⟨V17, rfl, m2, u17⟩
               replace FX := FX.up u17
               replace FY := FY.up u17
               replace FZ := FZ.up u17
               try (replace a1 := a1.up u17)
               try (replace a2 := a2.up u17)
               try (replace m1 := m1.up u17)
               try (replace m2 := m2.up u17)
               replace b0 := b0.up u17
               replace b1 := b1.up u17
               replace b2 := b2.up u17
               replace x1 := x1.up u17
               replace x2 := x2.up u17
               replace x3 := x3.up u17
               replace UP := UP.trans u17
               replace b0_0 := b0.cell (i := 0) rfl
               replace b0_1 := b0.cell (i := 1) rfl
               replace b0_2 := b0.cell (i := 2) rfl
               replace b1_0 := b1.cell (i := 0) rfl
               replace b1_1 := b1.cell (i := 1) rfl
               replace b1_2 := b1.cell (i := 2) rfl
               replace b2_0 := b2.cell (i := 0) rfl
               replace b2_1 := b2.cell (i := 1) rfl
               replace b2_2 := b2.cell (i := 2) rfl
               replace x1_0 := x1.cell (i := 0) rfl
               replace x1_1 := x1.cell (i := 1) rfl
               replace x1_2 := x1.cell (i := 2) rfl
               replace x2_0 := x2.cell (i := 0) rfl
               replace x2_1 := x2.cell (i := 1) rfl
               replace x2_2 := x2.cell (i := 2) rfl
               replace x3_0 := x3.cell (i := 0) rfl
               replace x3_1 := x3.cell (i := 1) rfl
               replace x3_2 := x3.cell (i := 2) rfl
               clear u17)
            | (go_at_call 44
               ((with_reducible refine (frac_cmp (m1.fr MXZ) (m2.fr MYZ) (by omega) (by omega)).mono ?_))
               rintro e W18 ⟨rfl, u18⟩
               replace FX := FX.up u18
               replace FY := FY.up u18
               replace FZ := FZ.up u18
               try (replace a1 := a1.up u18)
               try (replace a2 := a2.up u18)
               try (replace m1 := m1.up u18)
               try (replace m2 := m2.up u18)
               replace b0 := b0.up u18
               replace b1 := b1.up u18
               replace b2 := b2.up u18
               replace x1 := x1.up u18
               replace x2 := x2.up u18
               replace x3 := x3.up u18
               replace UP := UP.trans u18
               replace b0_0 := b0.cell (i := 0) rfl
               replace b0_1 := b0.cell (i := 1) rfl
               replace b0_2 := b0.cell (i := 2) rfl
               replace b1_0 := b1.cell (i := 0) rfl
               replace b1_1 := b1.cell (i := 1) rfl
               replace b1_2 := b1.cell (i := 2) rfl
               replace b2_0 := b2.cell (i := 0) rfl
               replace b2_1 := b2.cell (i := 1) rfl
               replace b2_2 := b2.cell (i := 2) rfl
               replace x1_0 := x1.cell (i := 0) rfl
               replace x1_1 := x1.cell (i := 1) rfl
               replace x1_2 := x1.cell (i := 2) rfl
               replace x2_0 := x2.cell (i := 0) rfl
               replace x2_1 := x2.cell (i := 1) rfl
               replace x2_2 := x2.cell (i := 2) rfl
               replace x3_0 := x3.cell (i := 0) rfl
               replace x3_1 := x3.cell (i := 1) rfl
               replace x3_2 := x3.cell (i := 2) rfl
               clear u18
               rw [HMU.out])
            | (go_at_call 41
               ((with_reducible refine (frac_sign FZ (by omega)).mono ?_))
               rintro e W19 ⟨rfl, u19⟩
               replace FX := FX.up u19
               replace FY := FY.up u19
               replace FZ := FZ.up u19
               try (replace a1 := a1.up u19)
               try (replace a2 := a2.up u19)
               try (replace m1 := m1.up u19)
               try (replace m2 := m2.up u19)
               replace b0 := b0.up u19
               replace b1 := b1.up u19
               replace b2 := b2.up u19
               replace x1 := x1.up u19
               replace x2 := x2.up u19
               replace x3 := x3.up u19
               replace UP := UP.trans u19
               replace b0_0 := b0.cell (i := 0) rfl
               replace b0_1 := b0.cell (i := 1) rfl
               replace b0_2 := b0.cell (i := 2) rfl
               replace b1_0 := b1.cell (i := 0) rfl
               replace b1_1 := b1.cell (i := 1) rfl
               replace b1_2 := b1.cell (i := 2) rfl
               replace b2_0 := b2.cell (i := 0) rfl
               replace b2_1 := b2.cell (i := 1) rfl
               replace b2_2 := b2.cell (i := 2) rfl
               replace x1_0 := x1.cell (i := 0) rfl
               replace x1_1 := x1.cell (i := 1) rfl
               replace x1_2 := x1.cell (i := 2) rfl
               replace x2_0 := x2.cell (i := 0) rfl
               replace x2_1 := x2.cell (i := 1) rfl
               replace x2_2 := x2.cell (i := 2) rfl
               replace x3_0 := x3.cell (i := 0) rfl
               replace x3_1 := x3.cell (i := 1) rfl
               replace x3_2 := x3.cell (i := 2) rfl
               clear u19
               rw [HS.out])
            | (go_at_call 46
               ((with_reducible refine (frac_same FX FY (by omega) (by omega)).mono ?_))
               rintro e W20 ⟨rfl, u20⟩
               replace FX := FX.up u20
               replace FY := FY.up u20
               replace FZ := FZ.up u20
               try (replace a1 := a1.up u20)
               try (replace a2 := a2.up u20)
               try (replace m1 := m1.up u20)
               try (replace m2 := m2.up u20)
               replace b0 := b0.up u20
               replace b1 := b1.up u20
               replace b2 := b2.up u20
               replace x1 := x1.up u20
               replace x2 := x2.up u20
               replace x3 := x3.up u20
               replace UP := UP.trans u20
               replace b0_0 := b0.cell (i := 0) rfl
               replace b0_1 := b0.cell (i := 1) rfl
               replace b0_2 := b0.cell (i := 2) rfl
               replace b1_0 := b1.cell (i := 0) rfl
               replace b1_1 := b1.cell (i := 1) rfl
               replace b1_2 := b1.cell (i := 2) rfl
               replace b2_0 := b2.cell (i := 0) rfl
               replace b2_1 := b2.cell (i := 1) rfl
               replace b2_2 := b2.cell (i := 2) rfl
               replace x1_0 := x1.cell (i := 0) rfl
               replace x1_1 := x1.cell (i := 1) rfl
               replace x1_2 := x1.cell (i := 2) rfl
               replace x2_0 := x2.cell (i := 0) rfl
               replace x2_1 := x2.cell (i := 1) rfl
               replace x2_2 := x2.cell (i := 2) rfl
               replace x3_0 := x3.cell (i := 0) rfl
               replace x3_1 := x3.cell (i := 1) rfl
               replace x3_2 := x3.cell (i := 2) rfl
               clear u20
               rw [HEQ.out])
            | (go_at_call 35
               ((with_reducible refine (works9 _).mono ?_))
               rintro e W21 ⟨rfl, u21⟩
               replace FX := FX.up u21
               replace FY := FY.up u21
               replace FZ := FZ.up u21
               try (replace a1 := a1.up u21)
               try (replace a2 := a2.up u21)
               try (replace m1 := m1.up u21)
               try (replace m2 := m2.up u21)
               replace b0 := b0.up u21
               replace b1 := b1.up u21
               replace b2 := b2.up u21
               replace x1 := x1.up u21
               replace x2 := x2.up u21
               replace x3 := x3.up u21
               replace UP := UP.trans u21
               replace b0_0 := b0.cell (i := 0) rfl
               replace b0_1 := b0.cell (i := 1) rfl
               replace b0_2 := b0.cell (i := 2) rfl
               replace b1_0 := b1.cell (i := 0) rfl
               replace b1_1 := b1.cell (i := 1) rfl
               replace b1_2 := b1.cell (i := 2) rfl
               replace b2_0 := b2.cell (i := 0) rfl
               replace b2_1 := b2.cell (i := 1) rfl
               replace b2_2 := b2.cell (i := 2) rfl
               replace x1_0 := x1.cell (i := 0) rfl
               replace x1_1 := x1.cell (i := 1) rfl
               replace x1_2 := x1.cell (i := 2) rfl
               replace x2_0 := x2.cell (i := 0) rfl
               replace x2_1 := x2.cell (i := 1) rfl
               replace x2_2 := x2.cell (i := 2) rfl
               replace x3_0 := x3.cell (i := 0) rfl
               replace x3_1 := x3.cell (i := 1) rfl
               replace x3_2 := x3.cell (i := 2) rfl
               clear u21)))
      all_goals
        go_wp2
        go_ret
        exact ⟨by simp, UP⟩
  · skip
    have UP : Up w (((w.alloc (.cells #[.bool s, .slice A l.length c, .slice D m.length d] 61)).alloc (.cells #[.bool s', .slice A' l'.length c', .slice D' m'.length d'] 61)).alloc (.cells #[.bool s'', .slice A'' l''.length c'', .slice D'' m''.length d''] 61)) := (((Up.refl w).alloc _).alloc _).alloc _
    obtain ⟨b0, b1, b2⟩ := bx_three 61 61 61 w [.bool s, .slice A l.length c, .slice D m.length d] [.bool s', .slice A' l'.length c', .slice D' m'.length d'] [.bool s'', .slice A'' l''.length c'', .slice D'' m''.length d'']
    go_enter Try.func8, Try.ntmps8
    go_wp2_with fail
    generalize (((w.alloc (.cells #[.bool s, .slice A l.length c, .slice D m.length d] 61)).alloc (.cells #[.bool s', .slice A' l'.length c', .slice D' m'.length d'] 61)).alloc (.cells #[.bool s'', .slice A'' l''.length c'', .slice D'' m''.length d''] 61)) = W at *
    replace FX := FX.up UP
    replace FY := FY.up UP
    replace FZ := FZ.up UP
    have b0_0 := b0.cell (i := 0) rfl
    have b0_1 := b0.cell (i := 1) rfl
    have b0_2 := b0.cell (i := 2) rfl
    have b1_0 := b1.cell (i := 0) rfl
    have b1_1 := b1.cell (i := 1) rfl
    have b1_2 := b1.cell (i := 2) rfl
    have b2_0 := b2.cell (i := 0) rfl
    have b2_1 := b2.cell (i := 1) rfl
    have b2_2 := b2.cell (i := 2) rfl
    go_wp2_with fail
    ((with_reducible refine (ref_long9_no l1 l2 (by omega)).mono ?_))
    rintro e W1 ⟨rfl, u1⟩
    replace FX := FX.up u1
    replace FY := FY.up u1
    replace FZ := FZ.up u1
    replace b0 := b0.up u1
    replace b1 := b1.up u1
    replace b2 := b2.up u1
    replace UP := UP.trans u1
    replace b0_0 := b0.cell (i := 0) rfl
    replace b0_1 := b0.cell (i := 1) rfl
    replace b0_2 := b0.cell (i := 2) rfl
    replace b1_0 := b1.cell (i := 0) rfl
    replace b1_1 := b1.cell (i := 1) rfl
    replace b1_2 := b1.cell (i := 2) rfl
    replace b2_0 := b2.cell (i := 0) rfl
    replace b2_1 := b2.cell (i := 1) rfl
    replace b2_2 := b2.cell (i := 2) rfl
    clear u1
    go_wp2_with fail
    ((with_reducible refine (ref_long9_no l3 l4 (by omega)).mono ?_))
    rintro e W2 ⟨rfl, u2⟩
    replace FX := FX.up u2
    replace FY := FY.up u2
    replace FZ := FZ.up u2
    replace b0 := b0.up u2
    replace b1 := b1.up u2
    replace b2 := b2.up u2
    replace UP := UP.trans u2
    replace b0_0 := b0.cell (i := 0) rfl
    replace b0_1 := b0.cell (i := 1) rfl
    replace b0_2 := b0.cell (i := 2) rfl
    replace b1_0 := b1.cell (i := 0) rfl
    replace b1_1 := b1.cell (i := 1) rfl
    replace b1_2 := b1.cell (i := 2) rfl
    replace b2_0 := b2.cell (i := 0) rfl
    replace b2_1 := b2.cell (i := 1) rfl
    replace b2_2 := b2.cell (i := 2) rfl
    clear u2
    go_wp2_with fail
    ((with_reducible refine (ref_long9_no l5 l6 (by omega)).mono ?_))
    rintro e W3 ⟨rfl, u3⟩
    replace FX := FX.up u3
    replace FY := FY.up u3
    replace FZ := FZ.up u3
    replace b0 := b0.up u3
    replace b1 := b1.up u3
    replace b2 := b2.up u3
    replace UP := UP.trans u3
    replace b0_0 := b0.cell (i := 0) rfl
    replace b0_1 := b0.cell (i := 1) rfl
    replace b0_2 := b0.cell (i := 2) rfl
    replace b1_0 := b1.cell (i := 0) rfl
    replace b1_1 := b1.cell (i := 1) rfl
    replace b1_2 := b1.cell (i := 2) rfl
    replace b2_0 := b2.cell (i := 0) rfl
    replace b2_1 := b2.cell (i := 1) rfl
    replace b2_2 := b2.cell (i := 2) rfl
    clear u3
    go_wp2_with fail
    ((with_reducible refine (law_to9 _ _ _ _ _ _ _ _).mono ?_))
    rintro e W4 ⟨rfl, u4⟩
    replace FX := FX.up u4
    replace FY := FY.up u4
    replace FZ := FZ.up u4
    replace b0 := b0.up u4
    replace b1 := b1.up u4
    replace b2 := b2.up u4
    replace UP := UP.trans u4
    replace b0_0 := b0.cell (i := 0) rfl
    replace b0_1 := b0.cell (i := 1) rfl
    replace b0_2 := b0.cell (i := 2) rfl
    replace b1_0 := b1.cell (i := 0) rfl
    replace b1_1 := b1.cell (i := 1) rfl
    replace b1_2 := b1.cell (i := 2) rfl
    replace b2_0 := b2.cell (i := 0) rfl
    replace b2_1 := b2.cell (i := 1) rfl
    replace b2_2 := b2.cell (i := 2) rfl
    clear u4
    have b0_0a := fun O0 => (cell_alloc (o := O0) b0_0)
    have b0_1a := fun O0 => (cell_alloc (o := O0) b0_1)
    have b0_2a := fun O0 => (cell_alloc (o := O0) b0_2)
    have b1_0a := fun O0 => (cell_alloc (o := O0) b1_0)
    have b1_1a := fun O0 => (cell_alloc (o := O0) b1_1)
    have b1_2a := fun O0 => (cell_alloc (o := O0) b1_2)
    have b2_0a := fun O0 => (cell_alloc (o := O0) b2_0)
    have b2_1a := fun O0 => (cell_alloc (o := O0) b2_1)
    have b2_2a := fun O0 => (cell_alloc (o := O0) b2_2)
    go_wp2_with fail
    clear b0_0a b0_1a b0_2a b1_0a b1_1a b1_2a b2_0a b2_1a b2_2a
    have x1 := Bx.new 67 W4 [.bool s, .slice A l.length c, .slice D m.length d]
    have b0_lt_x1 := b0.lt
    have b1_lt_x1 := b1.lt
    have b2_lt_x1 := b2.lt
    replace FX := FX.up ((Up.refl W4).alloc (.cells #[.bool s, .slice A l.length c, .slice D m.length d] 67))
    replace FY := FY.up ((Up.refl W4).alloc (.cells #[.bool s, .slice A l.length c, .slice D m.length d] 67))
    replace FZ := FZ.up ((Up.refl W4).alloc (.cells #[.bool s, .slice A l.length c, .slice D m.length d] 67))
    replace b0 := b0.up ((Up.refl W4).alloc (.cells #[.bool s, .slice A l.length c, .slice D m.length d] 67))
    replace b1 := b1.up ((Up.refl W4).alloc (.cells #[.bool s, .slice A l.length c, .slice D m.length d] 67))
    replace b2 := b2.up ((Up.refl W4).alloc (.cells #[.bool s, .slice A l.length c, .slice D m.length d] 67))
    replace UP := UP.trans ((Up.refl W4).alloc (.cells #[.bool s, .slice A l.length c, .slice D m.length d] 67))
    replace b0_0 := b0.cell (i := 0) rfl
    replace b0_1 := b0.cell (i := 1) rfl
    replace b0_2 := b0.cell (i := 2) rfl
    replace b1_0 := b1.cell (i := 0) rfl
    replace b1_1 := b1.cell (i := 1) rfl
    replace b1_2 := b1.cell (i := 2) rfl
    replace b2_0 := b2.cell (i := 0) rfl
    replace b2_1 := b2.cell (i := 1) rfl
    replace b2_2 := b2.cell (i := 2) rfl
    generalize (W4.alloc (.cells #[.bool s, .slice A l.length c, .slice D m.length d] 67)) = W5 at *
    replace b0_0 := b0.cell (i := 0) rfl
    replace b0_1 := b0.cell (i := 1) rfl
    replace b0_2 := b0.cell (i := 2) rfl
    replace b1_0 := b1.cell (i := 0) rfl
    replace b1_1 := b1.cell (i := 1) rfl
    replace b1_2 := b1.cell (i := 2) rfl
    replace b2_0 := b2.cell (i := 0) rfl
    replace b2_1 := b2.cell (i := 1) rfl
    replace b2_2 := b2.cell (i := 2) rfl
    have x1_0 := x1.cell (i := 0) rfl
    have x1_1 := x1.cell (i := 1) rfl
    have x1_2 := x1.cell (i := 2) rfl
    ((with_reducible refine (law_to9 _ _ _ _ _ _ _ _).mono ?_))
    rintro e W6 ⟨rfl, u6⟩
    replace FX := FX.up u6
    replace FY := FY.up u6
    replace FZ := FZ.up u6
    replace b0 := b0.up u6
    replace b1 := b1.up u6
    replace b2 := b2.up u6
    replace x1 := x1.up u6
    replace UP := UP.trans u6
    replace b0_0 := b0.cell (i := 0) rfl
    replace b0_1 := b0.cell (i := 1) rfl
    replace b0_2 := b0.cell (i := 2) rfl
    replace b1_0 := b1.cell (i := 0) rfl
    replace b1_1 := b1.cell (i := 1) rfl
    replace b1_2 := b1.cell (i := 2) rfl
    replace b2_0 := b2.cell (i := 0) rfl
    replace b2_1 := b2.cell (i := 1) rfl
    replace b2_2 := b2.cell (i := 2) rfl
    replace x1_0 := x1.cell (i := 0) rfl
    replace x1_1 := x1.cell (i := 1) rfl
    replace x1_2 := x1.cell (i := 2) rfl
    clear u6
    have b0_0a := fun O0 => (cell_alloc (o := O0) b0_0)
    have b0_1a := fun O0 => (cell_alloc (o := O0) b0_1)
    have b0_2a := fun O0 => (cell_alloc (o := O0) b0_2)
    have b1_0a := fun O0 => (cell_alloc (o := O0) b1_0)
    have b1_1a := fun O0 => (cell_alloc (o := O0) b1_1)
    have b1_2a := fun O0 => (cell_alloc (o := O0) b1_2)
    have b2_0a := fun O0 => (cell_alloc (o := O0) b2_0)
    have b2_1a := fun O0 => (cell_alloc (o := O0) b2_1)
    have b2_2a := fun O0 => (cell_alloc (o := O0) b2_2)
    have x1_0a := fun O0 => (cell_alloc (o := O0) x1_0)
    have x1_1a := fun O0 => (cell_alloc (o := O0) x1_1)
    have x1_2a := fun O0 => (cell_alloc (o := O0) x1_2)
    go_wp2_with fail
    clear b0_0a b0_1a b0_2a b1_0a b1_1a b1_2a b2_0a b2_1a b2_2a x1_0a x1_1a x1_2a
    have x2 := Bx.new 67 W6 [.bool s', .slice A' l'.length c', .slice D' m'.length d']
    have b0_lt_x2 := b0.lt
    have b1_lt_x2 := b1.lt
    have b2_lt_x2 := b2.lt
    have x1_lt_x2 := x1.lt
    replace FX := FX.up ((Up.refl W6).alloc (.cells #[.bool s', .slice A' l'.length c', .slice D' m'.length d'] 67))
    replace FY := FY.up ((Up.refl W6).alloc (.cells #[.bool s', .slice A' l'.length c', .slice D' m'.length d'] 67))
    replace FZ := FZ.up ((Up.refl W6).alloc (.cells #[.bool s', .slice A' l'.length c', .slice D' m'.length d'] 67))
    replace b0 := b0.up ((Up.refl W6).alloc (.cells #[.bool s', .slice A' l'.length c', .slice D' m'.length d'] 67))
    replace b1 := b1.up ((Up.refl W6).alloc (.cells #[.bool s', .slice A' l'.length c', .slice D' m'.length d'] 67))
    replace b2 := b2.up ((Up.refl W6).alloc (.cells #[.bool s', .slice A' l'.length c', .slice D' m'.length d'] 67))
    replace x1 := x1.up ((Up.refl W6).alloc (.cells #[.bool s', .slice A' l'.length c', .slice D' m'.length d'] 67))
    replace UP := UP.trans ((Up.refl W6).alloc (.cells #[.bool s', .slice A' l'.length c', .slice D' m'.length d'] 67))
    replace b0_0 := b0.cell (i := 0) rfl
    replace b0_1 := b0.cell (i := 1) rfl
    replace b0_2 := b0.cell (i := 2) rfl
    replace b1_0 := b1.cell (i := 0) rfl
    replace b1_1 := b1.cell (i := 1) rfl
    replace b1_2 := b1.cell (i := 2) rfl
    replace b2_0 := b2.cell (i := 0) rfl
    replace b2_1 := b2.cell (i := 1) rfl
    replace b2_2 := b2.cell (i := 2) rfl
    replace x1_0 := x1.cell (i := 0) rfl
    replace x1_1 := x1.cell (i := 1) rfl
    replace x1_2 := x1.cell (i := 2) rfl
    generalize (W6.alloc (.cells #[.bool s', .slice A' l'.length c', .slice D' m'.length d'] 67)) = W7 at *
    replace b0_0 := b0.cell (i := 0) rfl
    replace b0_1 := b0.cell (i := 1) rfl
    replace b0_2 := b0.cell (i := 2) rfl
    replace b1_0 := b1.cell (i := 0) rfl
    replace b1_1 := b1.cell (i := 1) rfl
    replace b1_2 := b1.cell (i := 2) rfl
    replace b2_0 := b2.cell (i := 0) rfl
    replace b2_1 := b2.cell (i := 1) rfl
    replace b2_2 := b2.cell (i := 2) rfl
    replace x1_0 := x1.cell (i := 0) rfl
    replace x1_1 := x1.cell (i := 1) rfl
    replace x1_2 := x1.cell (i := 2) rfl
    have x2_0 := x2.cell (i := 0) rfl
    have x2_1 := x2.cell (i := 1) rfl
    have x2_2 := x2.cell (i := 2) rfl
    ((with_reducible refine (law_to9 _ _ _ _ _ _ _ _).mono ?_))
    rintro e W8 ⟨rfl, u8⟩
    replace FX := FX.up u8
    replace FY := FY.up u8
    replace FZ := FZ.up u8
    replace b0 := b0.up u8
    replace b1 := b1.up u8
    replace b2 := b2.up u8
    replace x1 := x1.up u8
    replace x2 := x2.up u8
    replace UP := UP.trans u8
    replace b0_0 := b0.cell (i := 0) rfl
    replace b0_1 := b0.cell (i := 1) rfl
    replace b0_2 := b0.cell (i := 2) rfl
    replace b1_0 := b1.cell (i := 0) rfl
    replace b1_1 := b1.cell (i := 1) rfl
    replace b1_2 := b1.cell (i := 2) rfl
    replace b2_0 := b2.cell (i := 0) rfl
    replace b2_1 := b2.cell (i := 1) rfl
    replace b2_2 := b2.cell (i := 2) rfl
    replace x1_0 := x1.cell (i := 0) rfl
    replace x1_1 := x1.cell (i := 1) rfl
    replace x1_2 := x1.cell (i := 2) rfl
    replace x2_0 := x2.cell (i := 0) rfl
    replace x2_1 := x2.cell (i := 1) rfl
    replace x2_2 := x2.cell (i := 2) rfl
    clear u8
    have b0_0a := fun O0 => (cell_alloc (o := O0) b0_0)
    have b0_1a := fun O0 => (cell_alloc (o := O0) b0_1)
    have b0_2a := fun O0 => (cell_alloc (o := O0) b0_2)
    have b1_0a := fun O0 => (cell_alloc (o := O0) b1_0)
    have b1_1a := fun O0 => (cell_alloc (o := O0) b1_1)
    have b1_2a := fun O0 => (cell_alloc (o := O0) b1_2)
    have b2_0a := fun O0 => (cell_alloc (o := O0) b2_0)
    have b2_1a := fun O0 => (cell_alloc (o := O0) b2_1)
    have b2_2a := fun O0 => (cell_alloc (o := O0) b2_2)
    have x1_0a := fun O0 => (cell_alloc (o := O0) x1_0)
    have x1_1a := fun O0 => (cell_alloc (o := O0) x1_1)
    have x1_2a := fun O0 => (cell_alloc (o := O0) x1_2)
    have x2_0a := fun O0 => (cell_alloc (o := O0) x2_0)
    have x2_1a := fun O0 => (cell_alloc (o := O0) x2_1)
    have x2_2a := fun O0 => (cell_alloc (o := O0) x2_2)
    go_wp2_with fail
    clear b0_0a b0_1a b0_2a b1_0a b1_1a b1_2a b2_0a b2_1a b2_2a x1_0a x1_1a x1_2a x2_0a x2_1a x2_2a
    have x3 := Bx.new 67 W8 [.bool s'', .slice A'' l''.length c'', .slice D'' m''.length d'']
    have b0_lt_x3 := b0.lt
    have b1_lt_x3 := b1.lt
    have b2_lt_x3 := b2.lt
    have x1_lt_x3 := x1.lt
    have x2_lt_x3 := x2.lt
    replace FX := FX.up ((Up.refl W8).alloc (.cells #[.bool s'', .slice A'' l''.length c'', .slice D'' m''.length d''] 67))
    replace FY := FY.up ((Up.refl W8).alloc (.cells #[.bool s'', .slice A'' l''.length c'', .slice D'' m''.length d''] 67))
    replace FZ := FZ.up ((Up.refl W8).alloc (.cells #[.bool s'', .slice A'' l''.length c'', .slice D'' m''.length d''] 67))
    replace b0 := b0.up ((Up.refl W8).alloc (.cells #[.bool s'', .slice A'' l''.length c'', .slice D'' m''.length d''] 67))
    replace b1 := b1.up ((Up.refl W8).alloc (.cells #[.bool s'', .slice A'' l''.length c'', .slice D'' m''.length d''] 67))
    replace b2 := b2.up ((Up.refl W8).alloc (.cells #[.bool s'', .slice A'' l''.length c'', .slice D'' m''.length d''] 67))
    replace x1 := x1.up ((Up.refl W8).alloc (.cells #[.bool s'', .slice A'' l''.length c'', .slice D'' m''.length d''] 67))
    replace x2 := x2.up ((Up.refl W8).alloc (.cells #[.bool s'', .slice A'' l''.length c'', .slice D'' m''.length d''] 67))
    replace UP := UP.trans ((Up.refl W8).alloc (.cells #[.bool s'', .slice A'' l''.length c'', .slice D'' m''.length d''] 67))
    replace b0_0 := b0.cell (i := 0) rfl
    replace b0_1 := b0.cell (i := 1) rfl
    replace b0_2 := b0.cell (i := 2) rfl
    replace b1_0 := b1.cell (i := 0) rfl
    replace b1_1 := b1.cell (i := 1) rfl
    replace b1_2 := b1.cell (i := 2) rfl
    replace b2_0 := b2.cell (i := 0) rfl
    replace b2_1 := b2.cell (i := 1) rfl
    replace b2_2 := b2.cell (i := 2) rfl
    replace x1_0 := x1.cell (i := 0) rfl
    replace x1_1 := x1.cell (i := 1) rfl
    replace x1_2 := x1.cell (i := 2) rfl
    replace x2_0 := x2.cell (i := 0) rfl
    replace x2_1 := x2.cell (i := 1) rfl
    replace x2_2 := x2.cell (i := 2) rfl
    generalize (W8.alloc (.cells #[.bool s'', .slice A'' l''.length c'', .slice D'' m''.length d''] 67)) = W9 at *
    replace b0_0 := b0.cell (i := 0) rfl
    replace b0_1 := b0.cell (i := 1) rfl
    replace b0_2 := b0.cell (i := 2) rfl
    replace b1_0 := b1.cell (i := 0) rfl
    replace b1_1 := b1.cell (i := 1) rfl
    replace b1_2 := b1.cell (i := 2) rfl
    replace b2_0 := b2.cell (i := 0) rfl
    replace b2_1 := b2.cell (i := 1) rfl
    replace b2_2 := b2.cell (i := 2) rfl
    replace x1_0 := x1.cell (i := 0) rfl
    replace x1_1 := x1.cell (i := 1) rfl
    replace x1_2 := x1.cell (i := 2) rfl
    replace x2_0 := x2.cell (i := 0) rfl
    replace x2_1 := x2.cell (i := 1) rfl
    replace x2_2 := x2.cell (i := 2) rfl
    have x3_0 := x3.cell (i := 0) rfl
    have x3_1 := x3.cell (i := 1) rfl
    have x3_2 := x3.cell (i := 2) rfl
    ((with_reducible refine (frac_cmp FX FY (by omega) (by omega)).mono ?_))
    rintro e W10 ⟨rfl, u10⟩
    replace FX := FX.up u10
    replace FY := FY.up u10
    replace FZ := FZ.up u10
    replace b0 := b0.up u10
    replace b1 := b1.up u10
    replace b2 := b2.up u10
    replace x1 := x1.up u10
    replace x2 := x2.up u10
    replace x3 := x3.up u10
    replace UP := UP.trans u10
    replace b0_0 := b0.cell (i := 0) rfl
    replace b0_1 := b0.cell (i := 1) rfl
    replace b0_2 := b0.cell (i := 2) rfl
    replace b1_0 := b1.cell (i := 0) rfl
    replace b1_1 := b1.cell (i := 1) rfl
    replace b1_2 := b1.cell (i := 2) rfl
    replace b2_0 := b2.cell (i := 0) rfl
    replace b2_1 := b2.cell (i := 1) rfl
    replace b2_2 := b2.cell (i := 2) rfl
    replace x1_0 := x1.cell (i := 0) rfl
    replace x1_1 := x1.cell (i := 1) rfl
    replace x1_2 := x1.cell (i := 2) rfl
    replace x2_0 := x2.cell (i := 0) rfl
    replace x2_1 := x2.cell (i := 1) rfl
    replace x2_2 := x2.cell (i := 2) rfl
    replace x3_0 := x3.cell (i := 0) rfl
    replace x3_1 := x3.cell (i := 1) rfl
    replace x3_2 := x3.cell (i := 2) rfl
    clear u10
    rw [HO.out]
    go_wp2_with fail
    ((with_reducible refine (frac_cmp FY FZ (by omega) (by omega)).mono ?_))
    rintro e W11 ⟨rfl, u11⟩
    replace FX := FX.up u11
    replace FY := FY.up u11
    replace FZ := FZ.up u11
    replace b0 := b0.up u11
    replace b1 := b1.up u11
    replace b2 := b2.up u11
    replace x1 := x1.up u11
    replace x2 := x2.up u11
    replace x3 := x3.up u11
    replace UP := UP.trans u11
    replace b0_0 := b0.cell (i := 0) rfl
    replace b0_1 := b0.cell (i := 1) rfl
    replace b0_2 := b0.cell (i := 2) rfl
    replace b1_0 := b1.cell (i := 0) rfl
    replace b1_1 := b1.cell (i := 1) rfl
    replace b1_2 := b1.cell (i := 2) rfl
    replace b2_0 := b2.cell (i := 0) rfl
    replace b2_1 := b2.cell (i := 1) rfl
    replace b2_2 := b2.cell (i := 2) rfl
    replace x1_0 := x1.cell (i := 0) rfl
    replace x1_1 := x1.cell (i := 1) rfl
    replace x1_2 := x1.cell (i := 2) rfl
    replace x2_0 := x2.cell (i := 0) rfl
    replace x2_1 := x2.cell (i := 1) rfl
    replace x2_2 := x2.cell (i := 2) rfl
    replace x3_0 := x3.cell (i := 0) rfl
    replace x3_1 := x3.cell (i := 1) rfl
    replace x3_2 := x3.cell (i := 2) rfl
    clear u11
    rw [HP.out]
    go_wp2_with fail
    have hw := HW.out
    have hw2 : IntKind.i64.wrap (-o) = -o := IntWalk.i64_in _ (by omega)
    have k1 : ((-o : Int) == -o) = true := by simp
    have k2 : ((o : Int) == o) = true := by simp
    have k3 : ((o * sz : Int) == o * sz) = true := by simp
    have k4 : ((o == 0) == (o == 0)) = true := by simp
    replace FX := FX.up (Up.refl W11).drew
    replace FY := FY.up (Up.refl W11).drew
    replace FZ := FZ.up (Up.refl W11).drew
    replace b0 := b0.up (Up.refl W11).drew
    replace b1 := b1.up (Up.refl W11).drew
    replace b2 := b2.up (Up.refl W11).drew
    replace x1 := x1.up (Up.refl W11).drew
    replace x2 := x2.up (Up.refl W11).drew
    replace x3 := x3.up (Up.refl W11).drew
    replace UP := UP.trans (Up.refl W11).drew
    replace b0_0 := b0.cell (i := 0) rfl
    replace b0_1 := b0.cell (i := 1) rfl
    replace b0_2 := b0.cell (i := 2) rfl
    replace b1_0 := b1.cell (i := 0) rfl
    replace b1_1 := b1.cell (i := 1) rfl
    replace b1_2 := b1.cell (i := 2) rfl
    replace b2_0 := b2.cell (i := 0) rfl
    replace b2_1 := b2.cell (i := 1) rfl
    replace b2_2 := b2.cell (i := 2) rfl
    replace x1_0 := x1.cell (i := 0) rfl
    replace x1_1 := x1.cell (i := 1) rfl
    replace x1_2 := x1.cell (i := 2) rfl
    replace x2_0 := x2.cell (i := 0) rfl
    replace x2_1 := x2.cell (i := 1) rfl
    replace x2_2 := x2.cell (i := 2) rfl
    replace x3_0 := x3.cell (i := 0) rfl
    replace x3_1 := x3.cell (i := 1) rfl
    replace x3_2 := x3.cell (i := 2) rfl
    go_region_held3 (fun w' => Up w w' ∧ w'.cell? ⟨W4.heap.size, 0, none⟩ = some (.bool s) ∧ w'.cell? ⟨W4.heap.size, 1, none⟩ = some (.slice A l.length c) ∧ w'.cell? ⟨W4.heap.size, 2, none⟩ = some (.slice D m.length d) ∧ w'.cell? ⟨W6.heap.size, 0, none⟩ = some (.bool s') ∧ w'.cell? ⟨W6.heap.size, 1, none⟩ = some (.slice A' l'.length c') ∧ w'.cell? ⟨W6.heap.size, 2, none⟩ = some (.slice D' m'.length d') ∧ w'.cell? ⟨W8.heap.size, 0, none⟩ = some (.bool s'') ∧ w'.cell? ⟨W8.heap.size, 1, none⟩ = some (.slice A'' l''.length c'') ∧ w'.cell? ⟨W8.heap.size, 2, none⟩ = some (.slice D'' m''.length d''))
        (first | with_reducible exact ⟨UP, x1_0, x1_1, x1_2, x2_0, x2_1, x2_2, x3_0, x3_1, x3_2⟩ | with_reducible exact ⟨UP, x1_0, x1_1, x1_2, x2_0, x2_1, x2_2, x3_0, x3_1, x3_2⟩ | with_reducible exact ⟨(UP.alloc_drew _), (cell_alloc_drew x1_0), (cell_alloc_drew x1_1), (cell_alloc_drew x1_2), (cell_alloc_drew x2_0), (cell_alloc_drew x2_1), (cell_alloc_drew x2_2), (cell_alloc_drew x3_0), (cell_alloc_drew x3_1), (cell_alloc_drew x3_2)⟩ | with_reducible exact ⟨(UP.alloc2_drew _ _), (cell_alloc2_drew x1_0), (cell_alloc2_drew x1_1), (cell_alloc2_drew x1_2), (cell_alloc2_drew x2_0), (cell_alloc2_drew x2_1), (cell_alloc2_drew x2_2), (cell_alloc2_drew x3_0), (cell_alloc2_drew x3_1), (cell_alloc2_drew x3_2)⟩ | (simp only [← World.setCell_drew]; with_reducible exact ⟨UP, x1_0, x1_1, x1_2, x2_0, x2_1, x2_2, x3_0, x3_1, x3_2⟩) | go_keep)
        ((first
          | (go_at_call 44
             ((with_reducible refine (frac_cmp FY FX (by omega) (by omega)).mono ?_))
             rintro e W12 ⟨rfl, u12⟩
             replace FX := FX.up u12
             replace FY := FY.up u12
             replace FZ := FZ.up u12
             try (replace a1 := a1.up u12)
             try (replace a2 := a2.up u12)
             try (replace m1 := m1.up u12)
             try (replace m2 := m2.up u12)
             replace b0 := b0.up u12
             replace b1 := b1.up u12
             replace b2 := b2.up u12
             replace x1 := x1.up u12
             replace x2 := x2.up u12
             replace x3 := x3.up u12
             replace UP := UP.trans u12
             replace b0_0 := b0.cell (i := 0) rfl
             replace b0_1 := b0.cell (i := 1) rfl
             replace b0_2 := b0.cell (i := 2) rfl
             replace b1_0 := b1.cell (i := 0) rfl
             replace b1_1 := b1.cell (i := 1) rfl
             replace b1_2 := b1.cell (i := 2) rfl
             replace b2_0 := b2.cell (i := 0) rfl
             replace b2_1 := b2.cell (i := 1) rfl
             replace b2_2 := b2.cell (i := 2) rfl
             replace x1_0 := x1.cell (i := 0) rfl
             replace x1_1 := x1.cell (i := 1) rfl
             replace x1_2 := x1.cell (i := 2) rfl
             replace x2_0 := x2.cell (i := 0) rfl
             replace x2_1 := x2.cell (i := 1) rfl
             replace x2_2 := x2.cell (i := 2) rfl
             replace x3_0 := x3.cell (i := 0) rfl
             replace x3_1 := x3.cell (i := 1) rfl
             replace x3_2 := x3.cell (i := 2) rfl
             clear u12
             rw [HSW.out])
          | (go_at_call 45
             ((with_reducible refine (frac_add FX FZ (by omega) (by omega)).mono ?_))
             rintro e W13 ⟨V13, rfl, a1, u13⟩
             replace FX := FX.up u13
             replace FY := FY.up u13
             replace FZ := FZ.up u13
             try (replace a1 := a1.up u13)
             try (replace a2 := a2.up u13)
             try (replace m1 := m1.up u13)
             try (replace m2 := m2.up u13)
             replace b0 := b0.up u13
             replace b1 := b1.up u13
             replace b2 := b2.up u13
             replace x1 := x1.up u13
             replace x2 := x2.up u13
             replace x3 := x3.up u13
             replace UP := UP.trans u13
             replace b0_0 := b0.cell (i := 0) rfl
             replace b0_1 := b0.cell (i := 1) rfl
             replace b0_2 := b0.cell (i := 2) rfl
             replace b1_0 := b1.cell (i := 0) rfl
             replace b1_1 := b1.cell (i := 1) rfl
             replace b1_2 := b1.cell (i := 2) rfl
             replace b2_0 := b2.cell (i := 0) rfl
             replace b2_1 := b2.cell (i := 1) rfl
             replace b2_2 := b2.cell (i := 2) rfl
             replace x1_0 := x1.cell (i := 0) rfl
             replace x1_1 := x1.cell (i := 1) rfl
             replace x1_2 := x1.cell (i := 2) rfl
             replace x2_0 := x2.cell (i := 0) rfl
             replace x2_1 := x2.cell (i := 1) rfl
             replace x2_2 := x2.cell (i := 2) rfl
             replace x3_0 := x3.cell (i := 0) rfl
             replace x3_1 := x3.cell (i := 1) rfl
             replace x3_2 := x3.cell (i := 2) rfl
             clear u13)
          | (go_at_call 45
             ((with_reducible refine (frac_add FY FZ (by omega) (by omega)).mono ?_))
             rintro e W14 ⟨V14, rfl, a2, u14⟩
             replace FX := FX.up u14
             replace FY := FY.up u14
             replace FZ := FZ.up u14
             try (replace a1 := a1.up u14)
             try (replace a2 := a2.up u14)
             try (replace m1 := m1.up u14)
             try (replace m2 := m2.up u14)
             replace b0 := b0.up u14
             replace b1 := b1.up u14
             replace b2 := b2.up u14
             replace x1 := x1.up u14
             replace x2 := x2.up u14
             replace x3 := x3.up u14
             replace UP := UP.trans u14
             replace b0_0 := b0.cell (i := 0) rfl
             replace b0_1 := b0.cell (i := 1) rfl
             replace b0_2 := b0.cell (i := 2) rfl
             replace b1_0 := b1.cell (i := 0) rfl
             replace b1_1 := b1.cell (i := 1) rfl
             replace b1_2 := b1.cell (i := 2) rfl
             replace b2_0 := b2.cell (i := 0) rfl
             replace b2_1 := b2.cell (i := 1) rfl
             replace b2_2 := b2.cell (i := 2) rfl
             replace x1_0 := x1.cell (i := 0) rfl
             replace x1_1 := x1.cell (i := 1) rfl
             replace x1_2 := x1.cell (i := 2) rfl
             replace x2_0 := x2.cell (i := 0) rfl
             replace x2_1 := x2.cell (i := 1) rfl
             replace x2_2 := x2.cell (i := 2) rfl
             replace x3_0 := x3.cell (i := 0) rfl
             replace x3_1 := x3.cell (i := 1) rfl
             replace x3_2 := x3.cell (i := 2) rfl
             clear u14)
          | (go_at_call 44
             ((with_reducible refine (frac_cmp (a1.fr LXZ) (a2.fr LYZ) (by omega) (by omega)).mono ?_))
             rintro e W15 ⟨rfl, u15⟩
             replace FX := FX.up u15
             replace FY := FY.up u15
             replace FZ := FZ.up u15
             try (replace a1 := a1.up u15)
             try (replace a2 := a2.up u15)
             try (replace m1 := m1.up u15)
             try (replace m2 := m2.up u15)
             replace b0 := b0.up u15
             replace b1 := b1.up u15
             replace b2 := b2.up u15
             replace x1 := x1.up u15
             replace x2 := x2.up u15
             replace x3 := x3.up u15
             replace UP := UP.trans u15
             replace b0_0 := b0.cell (i := 0) rfl
             replace b0_1 := b0.cell (i := 1) rfl
             replace b0_2 := b0.cell (i := 2) rfl
             replace b1_0 := b1.cell (i := 0) rfl
             replace b1_1 := b1.cell (i := 1) rfl
             replace b1_2 := b1.cell (i := 2) rfl
             replace b2_0 := b2.cell (i := 0) rfl
             replace b2_1 := b2.cell (i := 1) rfl
             replace b2_2 := b2.cell (i := 2) rfl
             replace x1_0 := x1.cell (i := 0) rfl
             replace x1_1 := x1.cell (i := 1) rfl
             replace x1_2 := x1.cell (i := 2) rfl
             replace x2_0 := x2.cell (i := 0) rfl
             replace x2_1 := x2.cell (i := 1) rfl
             replace x2_2 := x2.cell (i := 2) rfl
             replace x3_0 := x3.cell (i := 0) rfl
             replace x3_1 := x3.cell (i := 1) rfl
             replace x3_2 := x3.cell (i := 2) rfl
             clear u15
             rw [HAD.out])
          | (go_at_call 43
             ((with_reducible refine (frac_mul FX FZ (by omega) (by omega)).mono ?_))
             rintro e W16 ⟨V16, rfl, m1, u16⟩
             replace FX := FX.up u16
             replace FY := FY.up u16
             replace FZ := FZ.up u16
             try (replace a1 := a1.up u16)
             try (replace a2 := a2.up u16)
             try (replace m1 := m1.up u16)
             try (replace m2 := m2.up u16)
             replace b0 := b0.up u16
             replace b1 := b1.up u16
             replace b2 := b2.up u16
             replace x1 := x1.up u16
             replace x2 := x2.up u16
             replace x3 := x3.up u16
             replace UP := UP.trans u16
             replace b0_0 := b0.cell (i := 0) rfl
             replace b0_1 := b0.cell (i := 1) rfl
             replace b0_2 := b0.cell (i := 2) rfl
             replace b1_0 := b1.cell (i := 0) rfl
             replace b1_1 := b1.cell (i := 1) rfl
             replace b1_2 := b1.cell (i := 2) rfl
             replace b2_0 := b2.cell (i := 0) rfl
             replace b2_1 := b2.cell (i := 1) rfl
             replace b2_2 := b2.cell (i := 2) rfl
             replace x1_0 := x1.cell (i := 0) rfl
             replace x1_1 := x1.cell (i := 1) rfl
             replace x1_2 := x1.cell (i := 2) rfl
             replace x2_0 := x2.cell (i := 0) rfl
             replace x2_1 := x2.cell (i := 1) rfl
             replace x2_2 := x2.cell (i := 2) rfl
             replace x3_0 := x3.cell (i := 0) rfl
             replace x3_1 := x3.cell (i := 1) rfl
             replace x3_2 := x3.cell (i := 2) rfl
             clear u16)
          | (go_at_call 43
             ((with_reducible refine (frac_mul FY FZ (by omega) (by omega)).mono ?_))
             rintro e W17 ⟨V17, rfl, m2, u17⟩
             replace FX := FX.up u17
             replace FY := FY.up u17
             replace FZ := FZ.up u17
             try (replace a1 := a1.up u17)
             try (replace a2 := a2.up u17)
             try (replace m1 := m1.up u17)
             try (replace m2 := m2.up u17)
             replace b0 := b0.up u17
             replace b1 := b1.up u17
             replace b2 := b2.up u17
             replace x1 := x1.up u17
             replace x2 := x2.up u17
             replace x3 := x3.up u17
             replace UP := UP.trans u17
             replace b0_0 := b0.cell (i := 0) rfl
             replace b0_1 := b0.cell (i := 1) rfl
             replace b0_2 := b0.cell (i := 2) rfl
             replace b1_0 := b1.cell (i := 0) rfl
             replace b1_1 := b1.cell (i := 1) rfl
             replace b1_2 := b1.cell (i := 2) rfl
             replace b2_0 := b2.cell (i := 0) rfl
             replace b2_1 := b2.cell (i := 1) rfl
             replace b2_2 := b2.cell (i := 2) rfl
             replace x1_0 := x1.cell (i := 0) rfl
             replace x1_1 := x1.cell (i := 1) rfl
             replace x1_2 := x1.cell (i := 2) rfl
             replace x2_0 := x2.cell (i := 0) rfl
             replace x2_1 := x2.cell (i := 1) rfl
             replace x2_2 := x2.cell (i := 2) rfl
             replace x3_0 := x3.cell (i := 0) rfl
             replace x3_1 := x3.cell (i := 1) rfl
             replace x3_2 := x3.cell (i := 2) rfl
             clear u17)
          | (go_at_call 44
             ((with_reducible refine (frac_cmp (m1.fr MXZ) (m2.fr MYZ) (by omega) (by omega)).mono ?_))
             rintro e W18 ⟨rfl, u18⟩
             replace FX := FX.up u18
             replace FY := FY.up u18
             replace FZ := FZ.up u18
             try (replace a1 := a1.up u18)
             try (replace a2 := a2.up u18)
             try (replace m1 := m1.up u18)
             try (replace m2 := m2.up u18)
             replace b0 := b0.up u18
             replace b1 := b1.up u18
             replace b2 := b2.up u18
             replace x1 := x1.up u18
             replace x2 := x2.up u18
             replace x3 := x3.up u18
             replace UP := UP.trans u18
             replace b0_0 := b0.cell (i := 0) rfl
             replace b0_1 := b0.cell (i := 1) rfl
             replace b0_2 := b0.cell (i := 2) rfl
             replace b1_0 := b1.cell (i := 0) rfl
             replace b1_1 := b1.cell (i := 1) rfl
             replace b1_2 := b1.cell (i := 2) rfl
             replace b2_0 := b2.cell (i := 0) rfl
             replace b2_1 := b2.cell (i := 1) rfl
             replace b2_2 := b2.cell (i := 2) rfl
             replace x1_0 := x1.cell (i := 0) rfl
             replace x1_1 := x1.cell (i := 1) rfl
             replace x1_2 := x1.cell (i := 2) rfl
             replace x2_0 := x2.cell (i := 0) rfl
             replace x2_1 := x2.cell (i := 1) rfl
             replace x2_2 := x2.cell (i := 2) rfl
             replace x3_0 := x3.cell (i := 0) rfl
             replace x3_1 := x3.cell (i := 1) rfl
             replace x3_2 := x3.cell (i := 2) rfl
             clear u18
             rw [HMU.out])
          | (go_at_call 41
             ((with_reducible refine (frac_sign FZ (by omega)).mono ?_))
             rintro e W19 ⟨rfl, u19⟩
             replace FX := FX.up u19
             replace FY := FY.up u19
             replace FZ := FZ.up u19
             try (replace a1 := a1.up u19)
             try (replace a2 := a2.up u19)
             try (replace m1 := m1.up u19)
             try (replace m2 := m2.up u19)
             replace b0 := b0.up u19
             replace b1 := b1.up u19
             replace b2 := b2.up u19
             replace x1 := x1.up u19
             replace x2 := x2.up u19
             replace x3 := x3.up u19
             replace UP := UP.trans u19
             replace b0_0 := b0.cell (i := 0) rfl
             replace b0_1 := b0.cell (i := 1) rfl
             replace b0_2 := b0.cell (i := 2) rfl
             replace b1_0 := b1.cell (i := 0) rfl
             replace b1_1 := b1.cell (i := 1) rfl
             replace b1_2 := b1.cell (i := 2) rfl
             replace b2_0 := b2.cell (i := 0) rfl
             replace b2_1 := b2.cell (i := 1) rfl
             replace b2_2 := b2.cell (i := 2) rfl
             replace x1_0 := x1.cell (i := 0) rfl
             replace x1_1 := x1.cell (i := 1) rfl
             replace x1_2 := x1.cell (i := 2) rfl
             replace x2_0 := x2.cell (i := 0) rfl
             replace x2_1 := x2.cell (i := 1) rfl
             replace x2_2 := x2.cell (i := 2) rfl
             replace x3_0 := x3.cell (i := 0) rfl
             replace x3_1 := x3.cell (i := 1) rfl
             replace x3_2 := x3.cell (i := 2) rfl
             clear u19
             rw [HS.out])
          | (go_at_call 46
             ((with_reducible refine (frac_same FX FY (by omega) (by omega)).mono ?_))
             rintro e W20 ⟨rfl, u20⟩
             replace FX := FX.up u20
             replace FY := FY.up u20
             replace FZ := FZ.up u20
             try (replace a1 := a1.up u20)
             try (replace a2 := a2.up u20)
             try (replace m1 := m1.up u20)
             try (replace m2 := m2.up u20)
             replace b0 := b0.up u20
             replace b1 := b1.up u20
             replace b2 := b2.up u20
             replace x1 := x1.up u20
             replace x2 := x2.up u20
             replace x3 := x3.up u20
             replace UP := UP.trans u20
             replace b0_0 := b0.cell (i := 0) rfl
             replace b0_1 := b0.cell (i := 1) rfl
             replace b0_2 := b0.cell (i := 2) rfl
             replace b1_0 := b1.cell (i := 0) rfl
             replace b1_1 := b1.cell (i := 1) rfl
             replace b1_2 := b1.cell (i := 2) rfl
             replace b2_0 := b2.cell (i := 0) rfl
             replace b2_1 := b2.cell (i := 1) rfl
             replace b2_2 := b2.cell (i := 2) rfl
             replace x1_0 := x1.cell (i := 0) rfl
             replace x1_1 := x1.cell (i := 1) rfl
             replace x1_2 := x1.cell (i := 2) rfl
             replace x2_0 := x2.cell (i := 0) rfl
             replace x2_1 := x2.cell (i := 1) rfl
             replace x2_2 := x2.cell (i := 2) rfl
             replace x3_0 := x3.cell (i := 0) rfl
             replace x3_1 := x3.cell (i := 1) rfl
             replace x3_2 := x3.cell (i := 2) rfl
             clear u20
             rw [HEQ.out])
          | (go_at_call 35
             ((with_reducible refine (works9 _).mono ?_))
             rintro e W21 ⟨rfl, u21⟩
             replace FX := FX.up u21
             replace FY := FY.up u21
             replace FZ := FZ.up u21
             try (replace a1 := a1.up u21)
             try (replace a2 := a2.up u21)
             try (replace m1 := m1.up u21)
             try (replace m2 := m2.up u21)
             replace b0 := b0.up u21
             replace b1 := b1.up u21
             replace b2 := b2.up u21
             replace x1 := x1.up u21
             replace x2 := x2.up u21
             replace x3 := x3.up u21
             replace UP := UP.trans u21
             replace b0_0 := b0.cell (i := 0) rfl
             replace b0_1 := b0.cell (i := 1) rfl
             replace b0_2 := b0.cell (i := 2) rfl
             replace b1_0 := b1.cell (i := 0) rfl
             replace b1_1 := b1.cell (i := 1) rfl
             replace b1_2 := b1.cell (i := 2) rfl
             replace b2_0 := b2.cell (i := 0) rfl
             replace b2_1 := b2.cell (i := 1) rfl
             replace b2_2 := b2.cell (i := 2) rfl
             replace x1_0 := x1.cell (i := 0) rfl
             replace x1_1 := x1.cell (i := 1) rfl
             replace x1_2 := x1.cell (i := 2) rfl
             replace x2_0 := x2.cell (i := 0) rfl
             replace x2_1 := x2.cell (i := 1) rfl
             replace x2_2 := x2.cell (i := 2) rfl
             replace x3_0 := x3.cell (i := 0) rfl
             replace x3_1 := x3.cell (i := 1) rfl
             replace x3_2 := x3.cell (i := 2) rfl
             clear u21)))
    all_goals
      go_wp2
      go_ret
      exact ⟨by simp, UP⟩
end Go.Proofs.Ytjkkeilmnklpcaa
