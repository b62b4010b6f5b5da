/-
  The walks of the statements of layer 9, those without the document's answer.
-/
import Derived.Test.YtjkkeilmnklpcaaFracWorks
import Derived.Test.YtjkkeilmnklpcaaFracMath4
set_option linter.unusedVariables false
set_option linter.unusedSimpArgs false
namespace Go.Proofs.Ytjkkeilmnklpcaa
open Go.RowKit

set_option maxRecDepth 100000 in
set_option maxHeartbeats 6400000 in
theorem fracExponents_walk {s : Bool} {u v : Value} {l m : List Nat} {a b : Int} {w : World} (hl : Ws w u l) (hm : Ws w v m) (ha : -9223372036854775808 ≤ a ∧ a ≤ 9223372036854775807) (hb : -9223372036854775808 ≤ b ∧ b ≤ 9223372036854775807) :
    Calls Try.prog 7 #[.agg #[.bool s, u, v], .int .i64 a, .int .i64 b] w fun e w' => e = .returned (.bool true) ∧ Up w w' := by
  obtain ⟨A, c, rfl⟩ := hl.form
  obtain ⟨D, d, rfl⟩ := hm.form
  by_cases hlong : 3 < l.length ∨ 3 < m.length
  · have h1 : (3 : Int) < (l.length : Int) ∨ (3 : Int) < (m.length : Int) := by omega
    have H1 := Lib.hid h1
    clear hlong h1
    have UP : Up w (w.alloc (.cells #[.bool s, .slice A l.length c, .slice D m.length d] 61)) := (Up.refl w).alloc _
    have b0 := Bx.new 61 w [.bool s, .slice A l.length c, .slice D m.length d]
    go_enter Try.func7, Try.ntmps7
    go_wp2_with fail
    generalize (w.alloc (.cells #[.bool s, .slice A l.length c, .slice D m.length d] 61)) = W at *
    replace hl := hl.up UP
    replace hm := hm.up UP
    have b0_0 := b0.cell (i := 0) rfl
    have b0_1 := b0.cell (i := 1) rfl
    have b0_2 := b0.cell (i := 2) rfl
    go_wp2_with fail
    ((with_reducible refine (law_to9 _ _ _ _ _ _ _ _).mono ?_))
    rintro e W1 ⟨rfl, u1⟩
    replace hl := hl.up u1
    replace hm := hm.up u1
    replace b0 := b0.up u1
    replace UP := UP.trans u1
    replace b0_0 := b0.cell (i := 0) rfl
    replace b0_1 := b0.cell (i := 1) rfl
    replace b0_2 := b0.cell (i := 2) rfl
    clear u1
    have b0_0a := fun O0 => (cell_alloc (o := O0) b0_0)
    have b0_1a := fun O0 => (cell_alloc (o := O0) b0_1)
    have b0_2a := fun O0 => (cell_alloc (o := O0) b0_2)
    go_wp2_with fail
    clear b0_0a b0_1a b0_2a
    have x1 := Bx.new 67 W1 [.bool s, .slice A l.length c, .slice D m.length d]
    have b0_lt_x1 := b0.lt
    replace hl := hl.up ((Up.refl W1).alloc (.cells #[.bool s, .slice A l.length c, .slice D m.length d] 67))
    replace hm := hm.up ((Up.refl W1).alloc (.cells #[.bool s, .slice A l.length c, .slice D m.length d] 67))
    replace b0 := b0.up ((Up.refl W1).alloc (.cells #[.bool s, .slice A l.length c, .slice D m.length d] 67))
    replace UP := UP.trans ((Up.refl W1).alloc (.cells #[.bool s, .slice A l.length c, .slice D m.length d] 67))
    replace b0_0 := b0.cell (i := 0) rfl
    replace b0_1 := b0.cell (i := 1) rfl
    replace b0_2 := b0.cell (i := 2) rfl
    generalize (W1.alloc (.cells #[.bool s, .slice A l.length c, .slice D m.length d] 67)) = W2 at *
    replace b0_0 := b0.cell (i := 0) rfl
    replace b0_1 := b0.cell (i := 1) rfl
    replace b0_2 := b0.cell (i := 2) rfl
    have x1_0 := x1.cell (i := 0) rfl
    have x1_1 := x1.cell (i := 1) rfl
    have x1_2 := x1.cell (i := 2) rfl
    ((with_reducible refine (ref_long9_yes H1.out (by omega)).mono ?_))
    rintro e W3 ⟨rfl, u3⟩
    replace hl := hl.up u3
    replace hm := hm.up u3
    replace b0 := b0.up u3
    replace x1 := x1.up u3
    replace UP := UP.trans u3
    replace b0_0 := b0.cell (i := 0) rfl
    replace b0_1 := b0.cell (i := 1) rfl
    replace b0_2 := b0.cell (i := 2) rfl
    replace x1_0 := x1.cell (i := 0) rfl
    replace x1_1 := x1.cell (i := 1) rfl
    replace x1_2 := x1.cell (i := 2) rfl
    clear u3
    go_wp2_with fail
    ((with_reducible refine (works9 _).mono ?_))
    rintro e W4 ⟨rfl, u4⟩
    replace hl := hl.up u4
    replace hm := hm.up u4
    replace b0 := b0.up u4
    replace x1 := x1.up u4
    replace UP := UP.trans u4
    replace b0_0 := b0.cell (i := 0) rfl
    replace b0_1 := b0.cell (i := 1) rfl
    replace b0_2 := b0.cell (i := 2) rfl
    replace x1_0 := x1.cell (i := 0) rfl
    replace x1_1 := x1.cell (i := 1) rfl
    replace x1_2 := x1.cell (i := 2) rfl
    clear u4
    go_wp2
    go_ret
    exact ⟨rfl, UP⟩
  have l1 : (l.length : Int) ≤ 3 := by omega
  have l2 : (m.length : Int) ≤ 3 := by omega
  clear hlong
  obtain ⟨q, hq⟩ : ∃ q, mkRat (Wd.iv s (Wd.val l)) (Wd.val m) = q := ⟨_, rfl⟩
  have HQ := Lib.hid hq
  clear hq
  by_cases c1 : a < -4
  · skip
    have UP : Up w (w.alloc (.cells #[.bool s, .slice A l.length c, .slice D m.length d] 61)) := (Up.refl w).alloc _
    have b0 := Bx.new 61 w [.bool s, .slice A l.length c, .slice D m.length d]
    go_enter Try.func7, Try.ntmps7
    go_wp2_with fail
    generalize (w.alloc (.cells #[.bool s, .slice A l.length c, .slice D m.length d] 61)) = W at *
    replace hl := hl.up UP
    replace hm := hm.up UP
    have b0_0 := b0.cell (i := 0) rfl
    have b0_1 := b0.cell (i := 1) rfl
    have b0_2 := b0.cell (i := 2) rfl
    go_wp2_with fail
    ((with_reducible refine (law_to9 _ _ _ _ _ _ _ _).mono ?_))
    rintro e W1 ⟨rfl, u1⟩
    replace hl := hl.up u1
    replace hm := hm.up u1
    replace b0 := b0.up u1
    replace UP := UP.trans u1
    replace b0_0 := b0.cell (i := 0) rfl
    replace b0_1 := b0.cell (i := 1) rfl
    replace b0_2 := b0.cell (i := 2) rfl
    clear u1
    have b0_0a := fun O0 => (cell_alloc (o := O0) b0_0)
    have b0_1a := fun O0 => (cell_alloc (o := O0) b0_1)
    have b0_2a := fun O0 => (cell_alloc (o := O0) b0_2)
    go_wp2_with fail
    clear b0_0a b0_1a b0_2a
    have x1 := Bx.new 67 W1 [.bool s, .slice A l.length c, .slice D m.length d]
    have b0_lt_x1 := b0.lt
    replace hl := hl.up ((Up.refl W1).alloc (.cells #[.bool s, .slice A l.length c, .slice D m.length d] 67))
    replace hm := hm.up ((Up.refl W1).alloc (.cells #[.bool s, .slice A l.length c, .slice D m.length d] 67))
    replace b0 := b0.up ((Up.refl W1).alloc (.cells #[.bool s, .slice A l.length c, .slice D m.length d] 67))
    replace UP := UP.trans ((Up.refl W1).alloc (.cells #[.bool s, .slice A l.length c, .slice D m.length d] 67))
    replace b0_0 := b0.cell (i := 0) rfl
    replace b0_1 := b0.cell (i := 1) rfl
    replace b0_2 := b0.cell (i := 2) rfl
    generalize (W1.alloc (.cells #[.bool s, .slice A l.length c, .slice D m.length d] 67)) = W2 at *
    replace b0_0 := b0.cell (i := 0) rfl
    replace b0_1 := b0.cell (i := 1) rfl
    replace b0_2 := b0.cell (i := 2) rfl
    have x1_0 := x1.cell (i := 0) rfl
    have x1_1 := x1.cell (i := 1) rfl
    have x1_2 := x1.cell (i := 2) rfl
    ((with_reducible refine (ref_long9_no l1 l2 (by omega)).mono ?_))
    rintro e W3 ⟨rfl, u3⟩
    replace hl := hl.up u3
    replace hm := hm.up u3
    replace b0 := b0.up u3
    replace x1 := x1.up u3
    replace UP := UP.trans u3
    replace b0_0 := b0.cell (i := 0) rfl
    replace b0_1 := b0.cell (i := 1) rfl
    replace b0_2 := b0.cell (i := 2) rfl
    replace x1_0 := x1.cell (i := 0) rfl
    replace x1_1 := x1.cell (i := 1) rfl
    replace x1_2 := x1.cell (i := 2) rfl
    clear u3
    go_wp2_with fail
    ((with_reducible refine (works9 _).mono ?_))
    rintro e W4 ⟨rfl, u4⟩
    replace hl := hl.up u4
    replace hm := hm.up u4
    replace b0 := b0.up u4
    replace x1 := x1.up u4
    replace UP := UP.trans u4
    replace b0_0 := b0.cell (i := 0) rfl
    replace b0_1 := b0.cell (i := 1) rfl
    replace b0_2 := b0.cell (i := 2) rfl
    replace x1_0 := x1.cell (i := 0) rfl
    replace x1_1 := x1.cell (i := 1) rfl
    replace x1_2 := x1.cell (i := 2) rfl
    clear u4
    go_wp2
    go_ret
    exact ⟨rfl, UP⟩
  by_cases c2 : 4 < a
  · skip
    have UP : Up w (w.alloc (.cells #[.bool s, .slice A l.length c, .slice D m.length d] 61)) := (Up.refl w).alloc _
    have b0 := Bx.new 61 w [.bool s, .slice A l.length c, .slice D m.length d]
    go_enter Try.func7, Try.ntmps7
    go_wp2_with fail
    generalize (w.alloc (.cells #[.bool s, .slice A l.length c, .slice D m.length d] 61)) = W at *
    replace hl := hl.up UP
    replace hm := hm.up UP
    have b0_0 := b0.cell (i := 0) rfl
    have b0_1 := b0.cell (i := 1) rfl
    have b0_2 := b0.cell (i := 2) rfl
    go_wp2_with fail
    ((with_reducible refine (law_to9 _ _ _ _ _ _ _ _).mono ?_))
    rintro e W1 ⟨rfl, u1⟩
    replace hl := hl.up u1
    replace hm := hm.up u1
    replace b0 := b0.up u1
    replace UP := UP.trans u1
    replace b0_0 := b0.cell (i := 0) rfl
    replace b0_1 := b0.cell (i := 1) rfl
    replace b0_2 := b0.cell (i := 2) rfl
    clear u1
    have b0_0a := fun O0 => (cell_alloc (o := O0) b0_0)
    have b0_1a := fun O0 => (cell_alloc (o := O0) b0_1)
    have b0_2a := fun O0 => (cell_alloc (o := O0) b0_2)
    go_wp2_with fail
    clear b0_0a b0_1a b0_2a
    have x1 := Bx.new 67 W1 [.bool s, .slice A l.length c, .slice D m.length d]
    have b0_lt_x1 := b0.lt
    replace hl := hl.up ((Up.refl W1).alloc (.cells #[.bool s, .slice A l.length c, .slice D m.length d] 67))
    replace hm := hm.up ((Up.refl W1).alloc (.cells #[.bool s, .slice A l.length c, .slice D m.length d] 67))
    replace b0 := b0.up ((Up.refl W1).alloc (.cells #[.bool s, .slice A l.length c, .slice D m.length d] 67))
    replace UP := UP.trans ((Up.refl W1).alloc (.cells #[.bool s, .slice A l.length c, .slice D m.length d] 67))
    replace b0_0 := b0.cell (i := 0) rfl
    replace b0_1 := b0.cell (i := 1) rfl
    replace b0_2 := b0.cell (i := 2) rfl
    generalize (W1.alloc (.cells #[.bool s, .slice A l.length c, .slice D m.length d] 67)) = W2 at *
    replace b0_0 := b0.cell (i := 0) rfl
    replace b0_1 := b0.cell (i := 1) rfl
    replace b0_2 := b0.cell (i := 2) rfl
    have x1_0 := x1.cell (i := 0) rfl
    have x1_1 := x1.cell (i := 1) rfl
    have x1_2 := x1.cell (i := 2) rfl
    ((with_reducible refine (ref_long9_no l1 l2 (by omega)).mono ?_))
    rintro e W3 ⟨rfl, u3⟩
    replace hl := hl.up u3
    replace hm := hm.up u3
    replace b0 := b0.up u3
    replace x1 := x1.up u3
    replace UP := UP.trans u3
    replace b0_0 := b0.cell (i := 0) rfl
    replace b0_1 := b0.cell (i := 1) rfl
    replace b0_2 := b0.cell (i := 2) rfl
    replace x1_0 := x1.cell (i := 0) rfl
    replace x1_1 := x1.cell (i := 1) rfl
    replace x1_2 := x1.cell (i := 2) rfl
    clear u3
    go_wp2_with fail
    ((with_reducible refine (works9 _).mono ?_))
    rintro e W4 ⟨rfl, u4⟩
    replace hl := hl.up u4
    replace hm := hm.up u4
    replace b0 := b0.up u4
    replace x1 := x1.up u4
    replace UP := UP.trans u4
    replace b0_0 := b0.cell (i := 0) rfl
    replace b0_1 := b0.cell (i := 1) rfl
    replace b0_2 := b0.cell (i := 2) rfl
    replace x1_0 := x1.cell (i := 0) rfl
    replace x1_1 := x1.cell (i := 1) rfl
    replace x1_2 := x1.cell (i := 2) rfl
    clear u4
    go_wp2
    go_ret
    exact ⟨rfl, UP⟩
  by_cases c3 : b < -4
  · skip
    have UP : Up w (w.alloc (.cells #[.bool s, .slice A l.length c, .slice D m.length d] 61)) := (Up.refl w).alloc _
    have b0 := Bx.new 61 w [.bool s, .slice A l.length c, .slice D m.length d]
    go_enter Try.func7, Try.ntmps7
    go_wp2_with fail
    generalize (w.alloc (.cells #[.bool s, .slice A l.length c, .slice D m.length d] 61)) = W at *
    replace hl := hl.up UP
    replace hm := hm.up UP
    have b0_0 := b0.cell (i := 0) rfl
    have b0_1 := b0.cell (i := 1) rfl
    have b0_2 := b0.cell (i := 2) rfl
    go_wp2_with fail
    ((with_reducible refine (law_to9 _ _ _ _ _ _ _ _).mono ?_))
    rintro e W1 ⟨rfl, u1⟩
    replace hl := hl.up u1
    replace hm := hm.up u1
    replace b0 := b0.up u1
    replace UP := UP.trans u1
    replace b0_0 := b0.cell (i := 0) rfl
    replace b0_1 := b0.cell (i := 1) rfl
    replace b0_2 := b0.cell (i := 2) rfl
    clear u1
    have b0_0a := fun O0 => (cell_alloc (o := O0) b0_0)
    have b0_1a := fun O0 => (cell_alloc (o := O0) b0_1)
    have b0_2a := fun O0 => (cell_alloc (o := O0) b0_2)
    go_wp2_with fail
    clear b0_0a b0_1a b0_2a
    have x1 := Bx.new 67 W1 [.bool s, .slice A l.length c, .slice D m.length d]
    have b0_lt_x1 := b0.lt
    replace hl := hl.up ((Up.refl W1).alloc (.cells #[.bool s, .slice A l.length c, .slice D m.length d] 67))
    replace hm := hm.up ((Up.refl W1).alloc (.cells #[.bool s, .slice A l.length c, .slice D m.length d] 67))
    replace b0 := b0.up ((Up.refl W1).alloc (.cells #[.bool s, .slice A l.length c, .slice D m.length d] 67))
    replace UP := UP.trans ((Up.refl W1).alloc (.cells #[.bool s, .slice A l.length c, .slice D m.length d] 67))
    replace b0_0 := b0.cell (i := 0) rfl
    replace b0_1 := b0.cell (i := 1) rfl
    replace b0_2 := b0.cell (i := 2) rfl
    generalize (W1.alloc (.cells #[.bool s, .slice A l.length c, .slice D m.length d] 67)) = W2 at *
    replace b0_0 := b0.cell (i := 0) rfl
    replace b0_1 := b0.cell (i := 1) rfl
    replace b0_2 := b0.cell (i := 2) rfl
    have x1_0 := x1.cell (i := 0) rfl
    have x1_1 := x1.cell (i := 1) rfl
    have x1_2 := x1.cell (i := 2) rfl
    ((with_reducible refine (ref_long9_no l1 l2 (by omega)).mono ?_))
    rintro e W3 ⟨rfl, u3⟩
    replace hl := hl.up u3
    replace hm := hm.up u3
    replace b0 := b0.up u3
    replace x1 := x1.up u3
    replace UP := UP.trans u3
    replace b0_0 := b0.cell (i := 0) rfl
    replace b0_1 := b0.cell (i := 1) rfl
    replace b0_2 := b0.cell (i := 2) rfl
    replace x1_0 := x1.cell (i := 0) rfl
    replace x1_1 := x1.cell (i := 1) rfl
    replace x1_2 := x1.cell (i := 2) rfl
    clear u3
    go_wp2_with fail
    ((with_reducible refine (works9 _).mono ?_))
    rintro e W4 ⟨rfl, u4⟩
    replace hl := hl.up u4
    replace hm := hm.up u4
    replace b0 := b0.up u4
    replace x1 := x1.up u4
    replace UP := UP.trans u4
    replace b0_0 := b0.cell (i := 0) rfl
    replace b0_1 := b0.cell (i := 1) rfl
    replace b0_2 := b0.cell (i := 2) rfl
    replace x1_0 := x1.cell (i := 0) rfl
    replace x1_1 := x1.cell (i := 1) rfl
    replace x1_2 := x1.cell (i := 2) rfl
    clear u4
    go_wp2
    go_ret
    exact ⟨rfl, UP⟩
  by_cases c4 : 4 < b
  · skip
    have UP : Up w (w.alloc (.cells #[.bool s, .slice A l.length c, .slice D m.length d] 61)) := (Up.refl w).alloc _
    have b0 := Bx.new 61 w [.bool s, .slice A l.length c, .slice D m.length d]
    go_enter Try.func7, Try.ntmps7
    go_wp2_with fail
    generalize (w.alloc (.cells #[.bool s, .slice A l.length c, .slice D m.length d] 61)) = W at *
    replace hl := hl.up UP
    replace hm := hm.up UP
    have b0_0 := b0.cell (i := 0) rfl
    have b0_1 := b0.cell (i := 1) rfl
    have b0_2 := b0.cell (i := 2) rfl
    go_wp2_with fail
    ((with_reducible refine (law_to9 _ _ _ _ _ _ _ _).mono ?_))
    rintro e W1 ⟨rfl, u1⟩
    replace hl := hl.up u1
    replace hm := hm.up u1
    replace b0 := b0.up u1
    replace UP := UP.trans u1
    replace b0_0 := b0.cell (i := 0) rfl
    replace b0_1 := b0.cell (i := 1) rfl
    replace b0_2 := b0.cell (i := 2) rfl
    clear u1
    have b0_0a := fun O0 => (cell_alloc (o := O0) b0_0)
    have b0_1a := fun O0 => (cell_alloc (o := O0) b0_1)
    have b0_2a := fun O0 => (cell_alloc (o := O0) b0_2)
    go_wp2_with fail
    clear b0_0a b0_1a b0_2a
    have x1 := Bx.new 67 W1 [.bool s, .slice A l.length c, .slice D m.length d]
    have b0_lt_x1 := b0.lt
    replace hl := hl.up ((Up.refl W1).alloc (.cells #[.bool s, .slice A l.length c, .slice D m.length d] 67))
    replace hm := hm.up ((Up.refl W1).alloc (.cells #[.bool s, .slice A l.length c, .slice D m.length d] 67))
    replace b0 := b0.up ((Up.refl W1).alloc (.cells #[.bool s, .slice A l.length c, .slice D m.length d] 67))
    replace UP := UP.trans ((Up.refl W1).alloc (.cells #[.bool s, .slice A l.length c, .slice D m.length d] 67))
    replace b0_0 := b0.cell (i := 0) rfl
    replace b0_1 := b0.cell (i := 1) rfl
    replace b0_2 := b0.cell (i := 2) rfl
    generalize (W1.alloc (.cells #[.bool s, .slice A l.length c, .slice D m.length d] 67)) = W2 at *
    replace b0_0 := b0.cell (i := 0) rfl
    replace b0_1 := b0.cell (i := 1) rfl
    replace b0_2 := b0.cell (i := 2) rfl
    have x1_0 := x1.cell (i := 0) rfl
    have x1_1 := x1.cell (i := 1) rfl
    have x1_2 := x1.cell (i := 2) rfl
    ((with_reducible refine (ref_long9_no l1 l2 (by omega)).mono ?_))
    rintro e W3 ⟨rfl, u3⟩
    replace hl := hl.up u3
    replace hm := hm.up u3
    replace b0 := b0.up u3
    replace x1 := x1.up u3
    replace UP := UP.trans u3
    replace b0_0 := b0.cell (i := 0) rfl
    replace b0_1 := b0.cell (i := 1) rfl
    replace b0_2 := b0.cell (i := 2) rfl
    replace x1_0 := x1.cell (i := 0) rfl
    replace x1_1 := x1.cell (i := 1) rfl
    replace x1_2 := x1.cell (i := 2) rfl
    clear u3
    go_wp2_with fail
    ((with_reducible refine (works9 _).mono ?_))
    rintro e W4 ⟨rfl, u4⟩
    replace hl := hl.up u4
    replace hm := hm.up u4
    replace b0 := b0.up u4
    replace x1 := x1.up u4
    replace UP := UP.trans u4
    replace b0_0 := b0.cell (i := 0) rfl
    replace b0_1 := b0.cell (i := 1) rfl
    replace b0_2 := b0.cell (i := 2) rfl
    replace x1_0 := x1.cell (i := 0) rfl
    replace x1_1 := x1.cell (i := 1) rfl
    replace x1_2 := x1.cell (i := 2) rfl
    clear u4
    go_wp2
    go_ret
    exact ⟨rfl, UP⟩
  have FR : Fr w (.agg #[.bool s, .slice A l.length c, .slice D m.length d]) q 3 := ⟨s, _, _, l, m, rfl, hl, hm, HQ.out, by omega, by omega, by omega⟩
  by_cases c5 : q = 0
  · have HS : Hid (Wd.sgn q.num = 0) := Lib.hid (by rw [c5]; rfl)
    clear c5
    have UP : Up w (w.alloc (.cells #[.bool s, .slice A l.length c, .slice D m.length d] 61)) := (Up.refl w).alloc _
    have b0 := Bx.new 61 w [.bool s, .slice A l.length c, .slice D m.length d]
    go_enter Try.func7, Try.ntmps7
    go_wp2_with fail
    generalize (w.alloc (.cells #[.bool s, .slice A l.length c, .slice D m.length d] 61)) = W at *
    replace FR := FR.up UP
    have b0_0 := b0.cell (i := 0) rfl
    have b0_1 := b0.cell (i := 1) rfl
    have b0_2 := b0.cell (i := 2) rfl
    go_wp2_with fail
    ((with_reducible refine (law_to9 _ _ _ _ _ _ _ _).mono ?_))
    rintro e W1 ⟨rfl, u1⟩
    replace FR := FR.up u1
    replace b0 := b0.up u1
    replace UP := UP.trans u1
    replace b0_0 := b0.cell (i := 0) rfl
    replace b0_1 := b0.cell (i := 1) rfl
    replace b0_2 := b0.cell (i := 2) rfl
    clear u1
    have b0_0a := fun O0 => (cell_alloc (o := O0) b0_0)
    have b0_1a := fun O0 => (cell_alloc (o := O0) b0_1)
    have b0_2a := fun O0 => (cell_alloc (o := O0) b0_2)
    go_wp2_with fail
    clear b0_0a b0_1a b0_2a
    have x1 := Bx.new 67 W1 [.bool s, .slice A l.length c, .slice D m.length d]
    have b0_lt_x1 := b0.lt
    replace FR := FR.up ((Up.refl W1).alloc (.cells #[.bool s, .slice A l.length c, .slice D m.length d] 67))
    replace b0 := b0.up ((Up.refl W1).alloc (.cells #[.bool s, .slice A l.length c, .slice D m.length d] 67))
    replace UP := UP.trans ((Up.refl W1).alloc (.cells #[.bool s, .slice A l.length c, .slice D m.length d] 67))
    replace b0_0 := b0.cell (i := 0) rfl
    replace b0_1 := b0.cell (i := 1) rfl
    replace b0_2 := b0.cell (i := 2) rfl
    generalize (W1.alloc (.cells #[.bool s, .slice A l.length c, .slice D m.length d] 67)) = W2 at *
    replace b0_0 := b0.cell (i := 0) rfl
    replace b0_1 := b0.cell (i := 1) rfl
    replace b0_2 := b0.cell (i := 2) rfl
    have x1_0 := x1.cell (i := 0) rfl
    have x1_1 := x1.cell (i := 1) rfl
    have x1_2 := x1.cell (i := 2) rfl
    ((with_reducible refine (ref_long9_no l1 l2 (by omega)).mono ?_))
    rintro e W3 ⟨rfl, u3⟩
    replace FR := FR.up u3
    replace b0 := b0.up u3
    replace x1 := x1.up u3
    replace UP := UP.trans u3
    replace b0_0 := b0.cell (i := 0) rfl
    replace b0_1 := b0.cell (i := 1) rfl
    replace b0_2 := b0.cell (i := 2) rfl
    replace x1_0 := x1.cell (i := 0) rfl
    replace x1_1 := x1.cell (i := 1) rfl
    replace x1_2 := x1.cell (i := 2) rfl
    clear u3
    go_wp2_with fail
    ((with_reducible refine (frac_sign FR (by omega)).mono ?_))
    rintro e W4 ⟨rfl, u4⟩
    replace FR := FR.up u4
    replace b0 := b0.up u4
    replace x1 := x1.up u4
    replace UP := UP.trans u4
    replace b0_0 := b0.cell (i := 0) rfl
    replace b0_1 := b0.cell (i := 1) rfl
    replace b0_2 := b0.cell (i := 2) rfl
    replace x1_0 := x1.cell (i := 0) rfl
    replace x1_1 := x1.cell (i := 1) rfl
    replace x1_2 := x1.cell (i := 2) rfl
    clear u4
    rw [HS.out]
    go_wp2_with fail
    ((with_reducible refine (works9 _).mono ?_))
    rintro e W5 ⟨rfl, u5⟩
    replace FR := FR.up u5
    replace b0 := b0.up u5
    replace x1 := x1.up u5
    replace UP := UP.trans u5
    replace b0_0 := b0.cell (i := 0) rfl
    replace b0_1 := b0.cell (i := 1) rfl
    replace b0_2 := b0.cell (i := 2) rfl
    replace x1_0 := x1.cell (i := 0) rfl
    replace x1_1 := x1.cell (i := 1) rfl
    replace x1_2 := x1.cell (i := 2) rfl
    clear u5
    go_wp2
    go_ret
    exact ⟨rfl, UP⟩
  have hs : ((Wd.sgn q.num : Int) == 0) = false := by
    rcases Wd.sgn_cases q.num with ⟨_, e⟩ | ⟨e, _⟩ | ⟨_, e⟩
    · rw [e]; rfl
    · exact absurd (Rat.num_eq_zero.1 e) c5
    · rw [e]; rfl
  have LQ := FR.lq
  have HA := Lib.hid (Wd.powB_yes (e := a) c5 (by omega) (by omega))
  have HB := Lib.hid (Wd.powB_yes (e := b) c5 (by omega) (by omega))
  have HC := Lib.hid (Wd.powB_yes (e := a + b) c5 (by omega) (by omega))
  have LA := LQ.zpow (n := 4) (e := a) (by omega) (by omega)
  have LB := LQ.zpow (n := 4) (e := b) (by omega) (by omega)
  have LC := LQ.zpow (n := 8) (e := a + b) (by omega) (by omega)
  have HM : Hid (q ^ a * q ^ b = q ^ (a + b)) := Lib.hid (Rat.zpow_add c5 a b).symm
  clear c5
  generalize q ^ a = qa at *
  generalize q ^ b = qb at *
  generalize q ^ (a + b) = qc at *
  have UP : Up w (w.alloc (.cells #[.bool s, .slice A l.length c, .slice D m.length d] 61)) := (Up.refl w).alloc _
  have b0 := Bx.new 61 w [.bool s, .slice A l.length c, .slice D m.length d]
  go_enter Try.func7, Try.ntmps7
  go_wp2_with fail
  generalize (w.alloc (.cells #[.bool s, .slice A l.length c, .slice D m.length d] 61)) = W at *
  replace FR := FR.up UP
  have b0_0 := b0.cell (i := 0) rfl
  have b0_1 := b0.cell (i := 1) rfl
  have b0_2 := b0.cell (i := 2) rfl
  go_wp2_with fail
  ((with_reducible refine (law_to9 _ _ _ _ _ _ _ _).mono ?_))
  rintro e W1 ⟨rfl, u1⟩
  replace FR := FR.up u1
  replace b0 := b0.up u1
  replace UP := UP.trans u1
  replace b0_0 := b0.cell (i := 0) rfl
  replace b0_1 := b0.cell (i := 1) rfl
  replace b0_2 := b0.cell (i := 2) rfl
  clear u1
  have b0_0a := fun O0 => (cell_alloc (o := O0) b0_0)
  have b0_1a := fun O0 => (cell_alloc (o := O0) b0_1)
  have b0_2a := fun O0 => (cell_alloc (o := O0) b0_2)
  go_wp2_with fail
  clear b0_0a b0_1a b0_2a
  have x1 := Bx.new 67 W1 [.bool s, .slice A l.length c, .slice D m.length d]
  have b0_lt_x1 := b0.lt
  replace FR := FR.up ((Up.refl W1).alloc (.cells #[.bool s, .slice A l.length c, .slice D m.length d] 67))
  replace b0 := b0.up ((Up.refl W1).alloc (.cells #[.bool s, .slice A l.length c, .slice D m.length d] 67))
  replace UP := UP.trans ((Up.refl W1).alloc (.cells #[.bool s, .slice A l.length c, .slice D m.length d] 67))
  replace b0_0 := b0.cell (i := 0) rfl
  replace b0_1 := b0.cell (i := 1) rfl
  replace b0_2 := b0.cell (i := 2) rfl
  generalize (W1.alloc (.cells #[.bool s, .slice A l.length c, .slice D m.length d] 67)) = W2 at *
  replace b0_0 := b0.cell (i := 0) rfl
  replace b0_1 := b0.cell (i := 1) rfl
  replace b0_2 := b0.cell (i := 2) rfl
  have x1_0 := x1.cell (i := 0) rfl
  have x1_1 := x1.cell (i := 1) rfl
  have x1_2 := x1.cell (i := 2) rfl
  ((with_reducible refine (ref_long9_no l1 l2 (by omega)).mono ?_))
  rintro e W3 ⟨rfl, u3⟩
  replace FR := FR.up u3
  replace b0 := b0.up u3
  replace x1 := x1.up u3
  replace UP := UP.trans u3
  replace b0_0 := b0.cell (i := 0) rfl
  replace b0_1 := b0.cell (i := 1) rfl
  replace b0_2 := b0.cell (i := 2) rfl
  replace x1_0 := x1.cell (i := 0) rfl
  replace x1_1 := x1.cell (i := 1) rfl
  replace x1_2 := x1.cell (i := 2) rfl
  clear u3
  go_wp2_with fail
  ((with_reducible refine (frac_sign FR (by omega)).mono ?_))
  rintro e W4 ⟨rfl, u4⟩
  replace FR := FR.up u4
  replace b0 := b0.up u4
  replace x1 := x1.up u4
  replace UP := UP.trans u4
  replace b0_0 := b0.cell (i := 0) rfl
  replace b0_1 := b0.cell (i := 1) rfl
  replace b0_2 := b0.cell (i := 2) rfl
  replace x1_0 := x1.cell (i := 0) rfl
  replace x1_1 := x1.cell (i := 1) rfl
  replace x1_2 := x1.cell (i := 2) rfl
  clear u4
  go_wp2_with fail
  ((with_reducible refine (frac_pow FR (by omega) (by omega)).mono ?_))
  rintro e W5 ⟨V5, rfl, p, u5⟩
  replace FR := FR.up u5
  replace b0 := b0.up u5
  replace x1 := x1.up u5
  replace UP := UP.trans u5
  replace b0_0 := b0.cell (i := 0) rfl
  replace b0_1 := b0.cell (i := 1) rfl
  replace b0_2 := b0.cell (i := 2) rfl
  replace x1_0 := x1.cell (i := 0) rfl
  replace x1_1 := x1.cell (i := 1) rfl
  replace x1_2 := x1.cell (i := 2) rfl
  clear u5
  rw [HA.out.1]
  rw [HA.out.2] at p
  obtain ⟨Xp, Yp, rfl, p, pd⟩ := p
  obtain ⟨Ap, np, cp, rfl⟩ := p.shape
  obtain ⟨Apd, npd, cpd, rfl⟩ := pd.shape
  have b0_0a := fun O0 => (cell_alloc (o := O0) b0_0)
  have b0_1a := fun O0 => (cell_alloc (o := O0) b0_1)
  have b0_2a := fun O0 => (cell_alloc (o := O0) b0_2)
  have x1_0a := fun O0 => (cell_alloc (o := O0) x1_0)
  have x1_1a := fun O0 => (cell_alloc (o := O0) x1_1)
  have x1_2a := fun O0 => (cell_alloc (o := O0) x1_2)
  go_wp2_with fail
  clear b0_0a b0_1a b0_2a x1_0a x1_1a x1_2a
  have x2 := Bx.new 67 W5 [.bool (Wd.ngb qa.num), .slice Ap np cp, .slice Apd npd cpd]
  have b0_lt_x2 := b0.lt
  have x1_lt_x2 := x1.lt
  replace FR := FR.up ((Up.refl W5).alloc (.cells #[.bool (Wd.ngb qa.num), .slice Ap np cp, .slice Apd npd cpd] 67))
  replace p := p.up ((Up.refl W5).alloc (.cells #[.bool (Wd.ngb qa.num), .slice Ap np cp, .slice Apd npd cpd] 67))
  replace pd := pd.up ((Up.refl W5).alloc (.cells #[.bool (Wd.ngb qa.num), .slice Ap np cp, .slice Apd npd cpd] 67))
  replace b0 := b0.up ((Up.refl W5).alloc (.cells #[.bool (Wd.ngb qa.num), .slice Ap np cp, .slice Apd npd cpd] 67))
  replace x1 := x1.up ((Up.refl W5).alloc (.cells #[.bool (Wd.ngb qa.num), .slice Ap np cp, .slice Apd npd cpd] 67))
  replace UP := UP.trans ((Up.refl W5).alloc (.cells #[.bool (Wd.ngb qa.num), .slice Ap np cp, .slice Apd npd cpd] 67))
  replace b0_0 := b0.cell (i := 0) rfl
  replace b0_1 := b0.cell (i := 1) rfl
  replace b0_2 := b0.cell (i := 2) rfl
  replace x1_0 := x1.cell (i := 0) rfl
  replace x1_1 := x1.cell (i := 1) rfl
  replace x1_2 := x1.cell (i := 2) rfl
  generalize (W5.alloc (.cells #[.bool (Wd.ngb qa.num), .slice Ap np cp, .slice Apd npd cpd] 67)) = W6 at *
  replace b0_0 := b0.cell (i := 0) rfl
  replace b0_1 := b0.cell (i := 1) rfl
  replace b0_2 := b0.cell (i := 2) rfl
  replace x1_0 := x1.cell (i := 0) rfl
  replace x1_1 := x1.cell (i := 1) rfl
  replace x1_2 := x1.cell (i := 2) rfl
  have x2_0 := x2.cell (i := 0) rfl
  have x2_1 := x2.cell (i := 1) rfl
  have x2_2 := x2.cell (i := 2) rfl
  ((with_reducible refine (frac_pow FR (by omega) (by omega)).mono ?_))
  rintro e W7 ⟨V7, rfl, o, u7⟩
  replace FR := FR.up u7
  replace p := p.up u7
  replace pd := pd.up u7
  replace b0 := b0.up u7
  replace x1 := x1.up u7
  replace x2 := x2.up u7
  replace UP := UP.trans u7
  replace b0_0 := b0.cell (i := 0) rfl
  replace b0_1 := b0.cell (i := 1) rfl
  replace b0_2 := b0.cell (i := 2) rfl
  replace x1_0 := x1.cell (i := 0) rfl
  replace x1_1 := x1.cell (i := 1) rfl
  replace x1_2 := x1.cell (i := 2) rfl
  replace x2_0 := x2.cell (i := 0) rfl
  replace x2_1 := x2.cell (i := 1) rfl
  replace x2_2 := x2.cell (i := 2) rfl
  clear u7
  rw [HB.out.1]
  rw [HB.out.2] at o
  obtain ⟨Xo, Yo, rfl, o, od⟩ := o
  obtain ⟨Ao, no, co, rfl⟩ := o.shape
  obtain ⟨Aod, nod, cod, rfl⟩ := od.shape
  have hw : IntKind.i64.wrap (a + b) = a + b := IntWalk.i64_in _ (by omega)
  have b0_0a := fun O0 => (cell_alloc (o := O0) b0_0)
  have b0_1a := fun O0 => (cell_alloc (o := O0) b0_1)
  have b0_2a := fun O0 => (cell_alloc (o := O0) b0_2)
  have x1_0a := fun O0 => (cell_alloc (o := O0) x1_0)
  have x1_1a := fun O0 => (cell_alloc (o := O0) x1_1)
  have x1_2a := fun O0 => (cell_alloc (o := O0) x1_2)
  have x2_0a := fun O0 => (cell_alloc (o := O0) x2_0)
  have x2_1a := fun O0 => (cell_alloc (o := O0) x2_1)
  have x2_2a := fun O0 => (cell_alloc (o := O0) x2_2)
  go_wp2_with fail
  clear b0_0a b0_1a b0_2a x1_0a x1_1a x1_2a x2_0a x2_1a x2_2a
  have x3 := Bx.new 67 W7 [.bool (Wd.ngb qb.num), .slice Ao no co, .slice Aod nod cod]
  have b0_lt_x3 := b0.lt
  have x1_lt_x3 := x1.lt
  have x2_lt_x3 := x2.lt
  replace FR := FR.up ((Up.refl W7).alloc (.cells #[.bool (Wd.ngb qb.num), .slice Ao no co, .slice Aod nod cod] 67))
  replace p := p.up ((Up.refl W7).alloc (.cells #[.bool (Wd.ngb qb.num), .slice Ao no co, .slice Aod nod cod] 67))
  replace pd := pd.up ((Up.refl W7).alloc (.cells #[.bool (Wd.ngb qb.num), .slice Ao no co, .slice Aod nod cod] 67))
  replace o := o.up ((Up.refl W7).alloc (.cells #[.bool (Wd.ngb qb.num), .slice Ao no co, .slice Aod nod cod] 67))
  replace od := od.up ((Up.refl W7).alloc (.cells #[.bool (Wd.ngb qb.num), .slice Ao no co, .slice Aod nod cod] 67))
  replace b0 := b0.up ((Up.refl W7).alloc (.cells #[.bool (Wd.ngb qb.num), .slice Ao no co, .slice Aod nod cod] 67))
  replace x1 := x1.up ((Up.refl W7).alloc (.cells #[.bool (Wd.ngb qb.num), .slice Ao no co, .slice Aod nod cod] 67))
  replace x2 := x2.up ((Up.refl W7).alloc (.cells #[.bool (Wd.ngb qb.num), .slice Ao no co, .slice Aod nod cod] 67))
  replace UP := UP.trans ((Up.refl W7).alloc (.cells #[.bool (Wd.ngb qb.num), .slice Ao no co, .slice Aod nod cod] 67))
  replace b0_0 := b0.cell (i := 0) rfl
  replace b0_1 := b0.cell (i := 1) rfl
  replace b0_2 := b0.cell (i := 2) rfl
  replace x1_0 := x1.cell (i := 0) rfl
  replace x1_1 := x1.cell (i := 1) rfl
  replace x1_2 := x1.cell (i := 2) rfl
  replace x2_0 := x2.cell (i := 0) rfl
  replace x2_1 := x2.cell (i := 1) rfl
  replace x2_2 := x2.cell (i := 2) rfl
  generalize (W7.alloc (.cells #[.bool (Wd.ngb qb.num), .slice Ao no co, .slice Aod nod cod] 67)) = W8 at *
  replace b0_0 := b0.cell (i := 0) rfl
  replace b0_1 := b0.cell (i := 1) rfl
  replace b0_2 := b0.cell (i := 2) rfl
  replace x1_0 := x1.cell (i := 0) rfl
  replace x1_1 := x1.cell (i := 1) rfl
  replace x1_2 := x1.cell (i := 2) rfl
  replace x2_0 := x2.cell (i := 0) rfl
  replace x2_1 := x2.cell (i := 1) rfl
  replace x2_2 := x2.cell (i := 2) rfl
  have x3_0 := x3.cell (i := 0) rfl
  have x3_1 := x3.cell (i := 1) rfl
  have x3_2 := x3.cell (i := 2) rfl
  ((with_reducible refine (frac_pow FR (by omega) (by omega)).mono ?_))
  rintro e W9 ⟨V9, rfl, t, u9⟩
  replace FR := FR.up u9
  replace p := p.up u9
  replace pd := pd.up u9
  replace o := o.up u9
  replace od := od.up u9
  replace b0 := b0.up u9
  replace x1 := x1.up u9
  replace x2 := x2.up u9
  replace x3 := x3.up u9
  replace UP := UP.trans u9
  replace b0_0 := b0.cell (i := 0) rfl
  replace b0_1 := b0.cell (i := 1) rfl
  replace b0_2 := b0.cell (i := 2) rfl
  replace x1_0 := x1.cell (i := 0) rfl
  replace x1_1 := x1.cell (i := 1) rfl
  replace x1_2 := x1.cell (i := 2) rfl
  replace x2_0 := x2.cell (i := 0) rfl
  replace x2_1 := x2.cell (i := 1) rfl
  replace x2_2 := x2.cell (i := 2) rfl
  replace x3_0 := x3.cell (i := 0) rfl
  replace x3_1 := x3.cell (i := 1) rfl
  replace x3_2 := x3.cell (i := 2) rfl
  clear u9
  rw [HC.out.1]
  rw [HC.out.2] at t
  obtain ⟨Xt, Yt, rfl, t, td⟩ := t
  obtain ⟨At, nt, ct, rfl⟩ := t.shape
  obtain ⟨Atd, ntd, ctd, rfl⟩ := td.shape
  have b0_0a := fun O0 => (cell_alloc (o := O0) b0_0)
  have b0_1a := fun O0 => (cell_alloc (o := O0) b0_1)
  have b0_2a := fun O0 => (cell_alloc (o := O0) b0_2)
  have x1_0a := fun O0 => (cell_alloc (o := O0) x1_0)
  have x1_1a := fun O0 => (cell_alloc (o := O0) x1_1)
  have x1_2a := fun O0 => (cell_alloc (o := O0) x1_2)
  have x2_0a := fun O0 => (cell_alloc (o := O0) x2_0)
  have x2_1a := fun O0 => (cell_alloc (o := O0) x2_1)
  have x2_2a := fun O0 => (cell_alloc (o := O0) x2_2)
  have x3_0a := fun O0 => (cell_alloc (o := O0) x3_0)
  have x3_1a := fun O0 => (cell_alloc (o := O0) x3_1)
  have x3_2a := fun O0 => (cell_alloc (o := O0) x3_2)
  go_wp2_with fail
  clear b0_0a b0_1a b0_2a x1_0a x1_1a x1_2a x2_0a x2_1a x2_2a x3_0a x3_1a x3_2a
  have x4 := Bx.new 67 W9 [.bool (Wd.ngb qc.num), .slice At nt ct, .slice Atd ntd ctd]
  have b0_lt_x4 := b0.lt
  have x1_lt_x4 := x1.lt
  have x2_lt_x4 := x2.lt
  have x3_lt_x4 := x3.lt
  replace FR := FR.up ((Up.refl W9).alloc (.cells #[.bool (Wd.ngb qc.num), .slice At nt ct, .slice Atd ntd ctd] 67))
  replace p := p.up ((Up.refl W9).alloc (.cells #[.bool (Wd.ngb qc.num), .slice At nt ct, .slice Atd ntd ctd] 67))
  replace pd := pd.up ((Up.refl W9).alloc (.cells #[.bool (Wd.ngb qc.num), .slice At nt ct, .slice Atd ntd ctd] 67))
  replace o := o.up ((Up.refl W9).alloc (.cells #[.bool (Wd.ngb qc.num), .slice At nt ct, .slice Atd ntd ctd] 67))
  replace od := od.up ((Up.refl W9).alloc (.cells #[.bool (Wd.ngb qc.num), .slice At nt ct, .slice Atd ntd ctd] 67))
  replace t := t.up ((Up.refl W9).alloc (.cells #[.bool (Wd.ngb qc.num), .slice At nt ct, .slice Atd ntd ctd] 67))
  replace td := td.up ((Up.refl W9).alloc (.cells #[.bool (Wd.ngb qc.num), .slice At nt ct, .slice Atd ntd ctd] 67))
  replace b0 := b0.up ((Up.refl W9).alloc (.cells #[.bool (Wd.ngb qc.num), .slice At nt ct, .slice Atd ntd ctd] 67))
  replace x1 := x1.up ((Up.refl W9).alloc (.cells #[.bool (Wd.ngb qc.num), .slice At nt ct, .slice Atd ntd ctd] 67))
  replace x2 := x2.up ((Up.refl W9).alloc (.cells #[.bool (Wd.ngb qc.num), .slice At nt ct, .slice Atd ntd ctd] 67))
  replace x3 := x3.up ((Up.refl W9).alloc (.cells #[.bool (Wd.ngb qc.num), .slice At nt ct, .slice Atd ntd ctd] 67))
  replace UP := UP.trans ((Up.refl W9).alloc (.cells #[.bool (Wd.ngb qc.num), .slice At nt ct, .slice Atd ntd ctd] 67))
  replace b0_0 := b0.cell (i := 0) rfl
  replace b0_1 := b0.cell (i := 1) rfl
  replace b0_2 := b0.cell (i := 2) rfl
  replace x1_0 := x1.cell (i := 0) rfl
  replace x1_1 := x1.cell (i := 1) rfl
  replace x1_2 := x1.cell (i := 2) rfl
  replace x2_0 := x2.cell (i := 0) rfl
  replace x2_1 := x2.cell (i := 1) rfl
  replace x2_2 := x2.cell (i := 2) rfl
  replace x3_0 := x3.cell (i := 0) rfl
  replace x3_1 := x3.cell (i := 1) rfl
  replace x3_2 := x3.cell (i := 2) rfl
  generalize (W9.alloc (.cells #[.bool (Wd.ngb qc.num), .slice At nt ct, .slice Atd ntd ctd] 67)) = W10 at *
  replace b0_0 := b0.cell (i := 0) rfl
  replace b0_1 := b0.cell (i := 1) rfl
  replace b0_2 := b0.cell (i := 2) rfl
  replace x1_0 := x1.cell (i := 0) rfl
  replace x1_1 := x1.cell (i := 1) rfl
  replace x1_2 := x1.cell (i := 2) rfl
  replace x2_0 := x2.cell (i := 0) rfl
  replace x2_1 := x2.cell (i := 1) rfl
  replace x2_2 := x2.cell (i := 2) rfl
  replace x3_0 := x3.cell (i := 0) rfl
  replace x3_1 := x3.cell (i := 1) rfl
  replace x3_2 := x3.cell (i := 2) rfl
  have x4_0 := x4.cell (i := 0) rfl
  have x4_1 := x4.cell (i := 1) rfl
  have x4_2 := x4.cell (i := 2) rfl
  replace FR := FR.up (Up.refl W10).drew
  replace p := p.up (Up.refl W10).drew
  replace pd := pd.up (Up.refl W10).drew
  replace o := o.up (Up.refl W10).drew
  replace od := od.up (Up.refl W10).drew
  replace t := t.up (Up.refl W10).drew
  replace td := td.up (Up.refl W10).drew
  replace b0 := b0.up (Up.refl W10).drew
  replace x1 := x1.up (Up.refl W10).drew
  replace x2 := x2.up (Up.refl W10).drew
  replace x3 := x3.up (Up.refl W10).drew
  replace x4 := x4.up (Up.refl W10).drew
  replace UP := UP.trans (Up.refl W10).drew
  replace b0_0 := b0.cell (i := 0) rfl
  replace b0_1 := b0.cell (i := 1) rfl
  replace b0_2 := b0.cell (i := 2) rfl
  replace x1_0 := x1.cell (i := 0) rfl
  replace x1_1 := x1.cell (i := 1) rfl
  replace x1_2 := x1.cell (i := 2) rfl
  replace x2_0 := x2.cell (i := 0) rfl
  replace x2_1 := x2.cell (i := 1) rfl
  replace x2_2 := x2.cell (i := 2) rfl
  replace x3_0 := x3.cell (i := 0) rfl
  replace x3_1 := x3.cell (i := 1) rfl
  replace x3_2 := x3.cell (i := 2) rfl
  replace x4_0 := x4.cell (i := 0) rfl
  replace x4_1 := x4.cell (i := 1) rfl
  replace x4_2 := x4.cell (i := 2) rfl
  go_region_held3 (fun w' => Up w w' ∧ w'.cell? ⟨w.heap.size, 0, none⟩ = some (.bool s) ∧ w'.cell? ⟨w.heap.size, 1, none⟩ = some (.slice A l.length c) ∧ w'.cell? ⟨w.heap.size, 2, none⟩ = some (.slice D m.length d) ∧ w'.cell? ⟨W1.heap.size, 0, none⟩ = some (.bool s) ∧ w'.cell? ⟨W1.heap.size, 1, none⟩ = some (.slice A l.length c) ∧ w'.cell? ⟨W1.heap.size, 2, none⟩ = some (.slice D m.length d) ∧ w'.cell? ⟨W5.heap.size, 0, none⟩ = some (.bool (Wd.ngb qa.num)) ∧ w'.cell? ⟨W5.heap.size, 1, none⟩ = some (.slice Ap np cp) ∧ w'.cell? ⟨W5.heap.size, 2, none⟩ = some (.slice Apd npd cpd) ∧ w'.cell? ⟨W7.heap.size, 0, none⟩ = some (.bool (Wd.ngb qb.num)) ∧ w'.cell? ⟨W7.heap.size, 1, none⟩ = some (.slice Ao no co) ∧ w'.cell? ⟨W7.heap.size, 2, none⟩ = some (.slice Aod nod cod) ∧ w'.cell? ⟨W9.heap.size, 0, none⟩ = some (.bool (Wd.ngb qc.num)) ∧ w'.cell? ⟨W9.heap.size, 1, none⟩ = some (.slice At nt ct) ∧ w'.cell? ⟨W9.heap.size, 2, none⟩ = some (.slice Atd ntd ctd))
      (first | with_reducible exact ⟨UP, b0_0, b0_1, b0_2, x1_0, x1_1, x1_2, x2_0, x2_1, x2_2, x3_0, x3_1, x3_2, x4_0, x4_1, x4_2⟩ | with_reducible exact ⟨UP, b0_0, b0_1, b0_2, x1_0, x1_1, x1_2, x2_0, x2_1, x2_2, x3_0, x3_1, x3_2, x4_0, x4_1, x4_2⟩ | with_reducible exact ⟨(UP.alloc_drew _), (cell_alloc_drew b0_0), (cell_alloc_drew b0_1), (cell_alloc_drew b0_2), (cell_alloc_drew x1_0), (cell_alloc_drew x1_1), (cell_alloc_drew x1_2), (cell_alloc_drew x2_0), (cell_alloc_drew x2_1), (cell_alloc_drew x2_2), (cell_alloc_drew x3_0), (cell_alloc_drew x3_1), (cell_alloc_drew x3_2), (cell_alloc_drew x4_0), (cell_alloc_drew x4_1), (cell_alloc_drew x4_2)⟩ | with_reducible exact ⟨(UP.alloc2_drew _ _), (cell_alloc2_drew b0_0), (cell_alloc2_drew b0_1), (cell_alloc2_drew b0_2), (cell_alloc2_drew x1_0), (cell_alloc2_drew x1_1), (cell_alloc2_drew x1_2), (cell_alloc2_drew x2_0), (cell_alloc2_drew x2_1), (cell_alloc2_drew x2_2), (cell_alloc2_drew x3_0), (cell_alloc2_drew x3_1), (cell_alloc2_drew x3_2), (cell_alloc2_drew x4_0), (cell_alloc2_drew x4_1), (cell_alloc2_drew x4_2)⟩ | (simp only [← World.setCell_drew]; with_reducible exact ⟨UP, b0_0, b0_1, b0_2, x1_0, x1_1, x1_2, x2_0, x2_1, x2_2, x3_0, x3_1, x3_2, x4_0, x4_1, x4_2⟩) | go_keep)
      ((first
        | (go_at_call 43
           ((with_reducible refine (frac_mul ((Qw.of p pd).fr LA) ((Qw.of o od).fr LB) (by omega) (by omega)).mono ?_))
           rintro e W11 ⟨V11, rfl, y, u11⟩
           replace FR := FR.up u11
           replace p := p.up u11
           replace pd := pd.up u11
           replace o := o.up u11
           replace od := od.up u11
           replace t := t.up u11
           replace td := td.up u11
           try (replace y := y.up u11)
           replace b0 := b0.up u11
           replace x1 := x1.up u11
           replace x2 := x2.up u11
           replace x3 := x3.up u11
           replace x4 := x4.up u11
           replace UP := UP.trans u11
           replace b0_0 := b0.cell (i := 0) rfl
           replace b0_1 := b0.cell (i := 1) rfl
           replace b0_2 := b0.cell (i := 2) rfl
           replace x1_0 := x1.cell (i := 0) rfl
           replace x1_1 := x1.cell (i := 1) rfl
           replace x1_2 := x1.cell (i := 2) rfl
           replace x2_0 := x2.cell (i := 0) rfl
           replace x2_1 := x2.cell (i := 1) rfl
           replace x2_2 := x2.cell (i := 2) rfl
           replace x3_0 := x3.cell (i := 0) rfl
           replace x3_1 := x3.cell (i := 1) rfl
           replace x3_2 := x3.cell (i := 2) rfl
           replace x4_0 := x4.cell (i := 0) rfl
           replace x4_1 := x4.cell (i := 1) rfl
           replace x4_2 := x4.cell (i := 2) rfl
           clear u11
           rw [HM.out] at y)
        | (go_at_call 42
           ((with_reducible refine (law_alike9 y (Qw.of t td) LC (by omega)).mono ?_))
           rintro e W12 ⟨rfl, u12⟩
           replace FR := FR.up u12
           replace p := p.up u12
           replace pd := pd.up u12
           replace o := o.up u12
           replace od := od.up u12
           replace t := t.up u12
           replace td := td.up u12
           try (replace y := y.up u12)
           replace b0 := b0.up u12
           replace x1 := x1.up u12
           replace x2 := x2.up u12
           replace x3 := x3.up u12
           replace x4 := x4.up u12
           replace UP := UP.trans u12
           replace b0_0 := b0.cell (i := 0) rfl
           replace b0_1 := b0.cell (i := 1) rfl
           replace b0_2 := b0.cell (i := 2) rfl
           replace x1_0 := x1.cell (i := 0) rfl
           replace x1_1 := x1.cell (i := 1) rfl
           replace x1_2 := x1.cell (i := 2) rfl
           replace x2_0 := x2.cell (i := 0) rfl
           replace x2_1 := x2.cell (i := 1) rfl
           replace x2_2 := x2.cell (i := 2) rfl
           replace x3_0 := x3.cell (i := 0) rfl
           replace x3_1 := x3.cell (i := 1) rfl
           replace x3_2 := x3.cell (i := 2) rfl
           replace x4_0 := x4.cell (i := 0) rfl
           replace x4_1 := x4.cell (i := 1) rfl
           replace x4_2 := x4.cell (i := 2) rfl
           clear u12)
        | (go_at_call 35
           ((with_reducible refine (works9 _).mono ?_))
           rintro e W13 ⟨rfl, u13⟩
           replace FR := FR.up u13
           replace p := p.up u13
           replace pd := pd.up u13
           replace o := o.up u13
           replace od := od.up u13
           replace t := t.up u13
           replace td := td.up u13
           try (replace y := y.up u13)
           replace b0 := b0.up u13
           replace x1 := x1.up u13
           replace x2 := x2.up u13
           replace x3 := x3.up u13
           replace x4 := x4.up u13
           replace UP := UP.trans u13
           replace b0_0 := b0.cell (i := 0) rfl
           replace b0_1 := b0.cell (i := 1) rfl
           replace b0_2 := b0.cell (i := 2) rfl
           replace x1_0 := x1.cell (i := 0) rfl
           replace x1_1 := x1.cell (i := 1) rfl
           replace x1_2 := x1.cell (i := 2) rfl
           replace x2_0 := x2.cell (i := 0) rfl
           replace x2_1 := x2.cell (i := 1) rfl
           replace x2_2 := x2.cell (i := 2) rfl
           replace x3_0 := x3.cell (i := 0) rfl
           replace x3_1 := x3.cell (i := 1) rfl
           replace x3_2 := x3.cell (i := 2) rfl
           replace x4_0 := x4.cell (i := 0) rfl
           replace x4_1 := x4.cell (i := 1) rfl
           replace x4_2 := x4.cell (i := 2) rfl
           clear u13)))
  all_goals
    go_wp2
    go_ret
    exact ⟨rfl, UP⟩
end Go.Proofs.Ytjkkeilmnklpcaa
