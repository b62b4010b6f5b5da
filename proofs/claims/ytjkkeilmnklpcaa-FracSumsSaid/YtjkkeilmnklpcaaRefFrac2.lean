/-
  Layer 9, the document's answers: the right fraction, products, quotients.
-/
import Derived.Test.YtjkkeilmnklpcaaRefFrac
import Derived.Test.YtjkkeilmnklpcaaFrac2
import Derived.Test.YtjkkeilmnklpcaaFracMath2
import Derived.Test.YtjkkeilmnklpcaaRefTwos
set_option linter.unusedVariables false
set_option linter.unusedSimpArgs false
namespace Go.Proofs.Ytjkkeilmnklpcaa
open Go.RowKit

/-- A fraction 0 with the lower number 1, written out. -/
theorem zero_qw {w : World} {g1 g2 : Nat} (y1 : Bx 118 w g1 []) (y2 : Bx 118 w g2 [.int .u32 1]) : Qw w (.agg #[.bool false, .slice (some ⟨g1, 0, none⟩) 0 0, .slice (some ⟨g2, 0, none⟩) 1 1]) 0 := by
  have e1 : Ws w (.slice (some ⟨g1, 0, none⟩) 0 0) [] := Blk.ws (l := []) y1 Wd.ok_nil (by simp [maxLen])
  have e2 : Ws w (.slice (some ⟨g2, 0, none⟩) 1 1) [1] := Blk.ws (l := [1]) y2 (by intro x hx; simp at hx; subst hx; rw [Wd.B_eq]; omega) (by simp [maxLen])
  have w1 : Wd.words 1 = [1] := by rw [Wd.words_pos (by omega), Wd.B_eq, show 1 / 4294967296 = 0 from rfl, Wd.words_zero]
  rw [← Wd.words_zero] at e1
  rw [← w1] at e2
  exact Qw.mk (q := 0) e1 e2 rfl rfl rfl
theorem words_len_zero (n : Nat) (h : n = 0) : (((Wd.words n).length : Int) == 0) = true := by rw [h, Wd.words_zero]; rfl
theorem words_len_pos (n : Nat) (h : n ≠ 0) : (((Wd.words n).length : Int) == 0) = false := by
  have : (Wd.words n).length ≠ 0 := fun e => h (Wd.words_length_zero.1 e)
  rw [beq_eq_false_iff_ne]
  omega
theorem mkRat_one (z : Int) : (mkRat z 1).num = z ∧ (mkRat z 1).den = 1 := by
  rw [Rat.num_mkRat, Rat.den_mkRat]
  simp

set_option maxRecDepth 100000 in
set_option maxHeartbeats 3200000 in
theorem ref9_norm {v : Value} {q : Rat} {k : Nat} {w : World} (h : Fr w v q k) (hk : k ≤ 100000) : Calls Try.prog 39 #[v] w (RetQ q w) := by
  have H := h
  obtain ⟨s, v1, v2, l, m, rfl, hl, hm, hq, hle, hme, h1⟩ := h
  obtain ⟨A, c, rfl⟩ := hl.form
  obtain ⟨D, d, rfl⟩ := hm.form
  have w1 := Wd.words_val_length hl.ok
  have w2 := Wd.words_val_length hm.ok
  by_cases e1 : Wd.val m = 0
  · have HZ : Hid (q = 0) := Lib.hid (by rw [← hq, e1, Rat.mkRat_zero])
    have k1 := words_len_zero _ e1
    clear e1 hq
    have UP : Up w ((w.alloc (.cells #[.bool s, .slice A l.length c, .slice D m.length d] 61)).alloc (.cells #[.bool false, .slice none 0 0, .slice none 0 0] 61)) := ((Up.refl w).alloc _).alloc _
    obtain ⟨b0, r0⟩ := bx_two 61 61 w [.bool s, .slice A l.length c, .slice D m.length d] [.bool false, .slice none 0 0, .slice none 0 0]
    go_enter Try.func39, Try.ntmps39
    go_wp2_with fail
    generalize ((w.alloc (.cells #[.bool s, .slice A l.length c, .slice D m.length d] 61)).alloc (.cells #[.bool false, .slice none 0 0, .slice none 0 0] 61)) = W at *
    replace hl := hl.up UP
    replace hm := hm.up UP
    have b0_0 := b0.cell (i := 0) rfl
    have b0_1 := b0.cell (i := 1) rfl
    have b0_2 := b0.cell (i := 2) rfl
    have r0_0 := r0.cell (i := 0) rfl
    have r0_1 := r0.cell (i := 1) rfl
    have r0_2 := r0.cell (i := 2) rfl
    have r0_f0 := r0.free 0
    have r0_f1 := r0.free 1
    have r0_f2 := r0.free 2
    go_wp2_with fail
    ((with_reducible refine (ref_norm hm (by omega)).mono ?_))
    intro e W1 ret1
    obtain ⟨V1, rfl, n2, u1⟩ := ret1.ws
    clear ret1
    replace hl := hl.up u1
    replace hm := hm.up u1
    replace b0 := b0.up u1
    replace r0 := r0.up u1
    replace UP := UP.trans u1
    replace b0_0 := b0.cell (i := 0) rfl
    replace b0_1 := b0.cell (i := 1) rfl
    replace b0_2 := b0.cell (i := 2) rfl
    replace r0_0 := r0.cell (i := 0) rfl
    replace r0_1 := r0.cell (i := 1) rfl
    replace r0_2 := r0.cell (i := 2) rfl
    replace r0_f0 := r0.free 0
    replace r0_f1 := r0.free 1
    replace r0_f2 := r0.free 2
    clear u1
    go_wp2_with fail
    ((with_reducible refine (ref_norm hl (by omega)).mono ?_))
    intro e W2 ret2
    obtain ⟨V2, rfl, n1, u2⟩ := ret2.ws
    clear ret2
    replace hl := hl.up u2
    replace hm := hm.up u2
    replace n2 := n2.up u2
    replace b0 := b0.up u2
    replace r0 := r0.up u2
    replace UP := UP.trans u2
    replace b0_0 := b0.cell (i := 0) rfl
    replace b0_1 := b0.cell (i := 1) rfl
    replace b0_2 := b0.cell (i := 2) rfl
    replace r0_0 := r0.cell (i := 0) rfl
    replace r0_1 := r0.cell (i := 1) rfl
    replace r0_2 := r0.cell (i := 2) rfl
    replace r0_f0 := r0.free 0
    replace r0_f1 := r0.free 1
    replace r0_f2 := r0.free 2
    clear u2
    obtain ⟨A1, c1, rfl⟩ := n1.form
    obtain ⟨A2, c2, rfl⟩ := n2.form
    have b0_0a := fun O0 => (cell_alloc (o := O0) b0_0)
    have b0_1a := fun O0 => (cell_alloc (o := O0) b0_1)
    have b0_2a := fun O0 => (cell_alloc (o := O0) b0_2)
    have r0_0a := fun O0 => (cell_alloc (o := O0) r0_0)
    have r0_f0a := fun O0 => (r0.up ((Up.refl W2).alloc O0)).free 0
    have r0_1a := fun O0 => (cell_alloc (o := O0) r0_1)
    have r0_f1a := fun O0 => (r0.up ((Up.refl W2).alloc O0)).free 1
    have r0_2a := fun O0 => (cell_alloc (o := O0) r0_2)
    have r0_f2a := fun O0 => (r0.up ((Up.refl W2).alloc O0)).free 2
    have b0_0b := fun O0 O1 => (cell_alloc (o := O1) (cell_alloc (o := O0) b0_0))
    have b0_1b := fun O0 O1 => (cell_alloc (o := O1) (cell_alloc (o := O0) b0_1))
    have b0_2b := fun O0 O1 => (cell_alloc (o := O1) (cell_alloc (o := O0) b0_2))
    have r0_0b := fun O0 O1 => (cell_alloc (o := O1) (cell_alloc (o := O0) r0_0))
    have r0_f0b := fun O0 O1 => (r0.up (((Up.refl W2).alloc O0).alloc O1)).free 0
    have r0_1b := fun O0 O1 => (cell_alloc (o := O1) (cell_alloc (o := O0) r0_1))
    have r0_f1b := fun O0 O1 => (r0.up (((Up.refl W2).alloc O0).alloc O1)).free 1
    have r0_2b := fun O0 O1 => (cell_alloc (o := O1) (cell_alloc (o := O0) r0_2))
    have r0_f2b := fun O0 O1 => (r0.up (((Up.refl W2).alloc O0).alloc O1)).free 2
    go_wp2_with fail
    clear b0_0a b0_1a b0_2a r0_0a r0_f0a r0_1a r0_f1a r0_2a r0_f2a b0_0b b0_1b b0_2b r0_0b r0_f0b r0_1b r0_f1b r0_2b r0_f2b
    obtain ⟨y1, y2⟩ := bx_two 118 118 W2 [] [.int .u32 1]
    have b0_lt_y1 := b0.lt
    have r0_lt_y1 := r0.lt
    have b0_lt_y2 := b0.lt
    have r0_lt_y2 := r0.lt
    replace hl := hl.up ((((Up.refl W2).alloc (.cells #[] 118))).alloc (.cells #[.int .u32 1] 118))
    replace hm := hm.up ((((Up.refl W2).alloc (.cells #[] 118))).alloc (.cells #[.int .u32 1] 118))
    replace n2 := n2.up ((((Up.refl W2).alloc (.cells #[] 118))).alloc (.cells #[.int .u32 1] 118))
    replace n1 := n1.up ((((Up.refl W2).alloc (.cells #[] 118))).alloc (.cells #[.int .u32 1] 118))
    replace b0 := b0.up ((((Up.refl W2).alloc (.cells #[] 118))).alloc (.cells #[.int .u32 1] 118))
    replace r0 := r0.up ((((Up.refl W2).alloc (.cells #[] 118))).alloc (.cells #[.int .u32 1] 118))
    replace UP := UP.trans ((((Up.refl W2).alloc (.cells #[] 118))).alloc (.cells #[.int .u32 1] 118))
    replace b0_0 := b0.cell (i := 0) rfl
    replace b0_1 := b0.cell (i := 1) rfl
    replace b0_2 := b0.cell (i := 2) rfl
    replace r0_0 := r0.cell (i := 0) rfl
    replace r0_1 := r0.cell (i := 1) rfl
    replace r0_2 := r0.cell (i := 2) rfl
    replace r0_f0 := r0.free 0
    replace r0_f1 := r0.free 1
    replace r0_f2 := r0.free 2
    generalize ((W2.alloc (.cells #[] 118)).alloc (.cells #[.int .u32 1] 118)) = W3 at *
    replace b0_0 := b0.cell (i := 0) rfl
    replace b0_1 := b0.cell (i := 1) rfl
    replace b0_2 := b0.cell (i := 2) rfl
    replace r0_0 := r0.cell (i := 0) rfl
    replace r0_1 := r0.cell (i := 1) rfl
    replace r0_2 := r0.cell (i := 2) rfl
    replace r0_f0 := r0.free 0
    replace r0_f1 := r0.free 1
    replace r0_f2 := r0.free 2
    have y2_0 := y2.cell (i := 0) rfl
    exact end_rq rfl rfl rfl (by rw [HZ.out]; exact zero_qw y1 y2) r0 trivial trivial trivial UP (by omega)
  by_cases e2 : Wd.val l = 0
  · have HZ : Hid (q = 0) := Lib.hid (by rw [← hq, e2, Wd.iv_zero, Rat.zero_mkRat])
    have k1 := words_len_pos _ e1
    have k2 := words_len_zero _ e2
    clear e1 e2 hq
    have UP : Up w ((w.alloc (.cells #[.bool s, .slice A l.length c, .slice D m.length d] 61)).alloc (.cells #[.bool false, .slice none 0 0, .slice none 0 0] 61)) := ((Up.refl w).alloc _).alloc _
    obtain ⟨b0, r0⟩ := bx_two 61 61 w [.bool s, .slice A l.length c, .slice D m.length d] [.bool false, .slice none 0 0, .slice none 0 0]
    go_enter Try.func39, Try.ntmps39
    go_wp2_with fail
    generalize ((w.alloc (.cells #[.bool s, .slice A l.length c, .slice D m.length d] 61)).alloc (.cells #[.bool false, .slice none 0 0, .slice none 0 0] 61)) = W at *
    replace hl := hl.up UP
    replace hm := hm.up UP
    have b0_0 := b0.cell (i := 0) rfl
    have b0_1 := b0.cell (i := 1) rfl
    have b0_2 := b0.cell (i := 2) rfl
    have r0_0 := r0.cell (i := 0) rfl
    have r0_1 := r0.cell (i := 1) rfl
    have r0_2 := r0.cell (i := 2) rfl
    have r0_f0 := r0.free 0
    have r0_f1 := r0.free 1
    have r0_f2 := r0.free 2
    go_wp2_with fail
    ((with_reducible refine (ref_norm hm (by omega)).mono ?_))
    intro e W1 ret1
    obtain ⟨V1, rfl, n2, u1⟩ := ret1.ws
    clear ret1
    replace hl := hl.up u1
    replace hm := hm.up u1
    replace b0 := b0.up u1
    replace r0 := r0.up u1
    replace UP := UP.trans u1
    replace b0_0 := b0.cell (i := 0) rfl
    replace b0_1 := b0.cell (i := 1) rfl
    replace b0_2 := b0.cell (i := 2) rfl
    replace r0_0 := r0.cell (i := 0) rfl
    replace r0_1 := r0.cell (i := 1) rfl
    replace r0_2 := r0.cell (i := 2) rfl
    replace r0_f0 := r0.free 0
    replace r0_f1 := r0.free 1
    replace r0_f2 := r0.free 2
    clear u1
    go_wp2_with fail
    ((with_reducible refine (ref_norm hl (by omega)).mono ?_))
    intro e W2 ret2
    obtain ⟨V2, rfl, n1, u2⟩ := ret2.ws
    clear ret2
    replace hl := hl.up u2
    replace hm := hm.up u2
    replace n2 := n2.up u2
    replace b0 := b0.up u2
    replace r0 := r0.up u2
    replace UP := UP.trans u2
    replace b0_0 := b0.cell (i := 0) rfl
    replace b0_1 := b0.cell (i := 1) rfl
    replace b0_2 := b0.cell (i := 2) rfl
    replace r0_0 := r0.cell (i := 0) rfl
    replace r0_1 := r0.cell (i := 1) rfl
    replace r0_2 := r0.cell (i := 2) rfl
    replace r0_f0 := r0.free 0
    replace r0_f1 := r0.free 1
    replace r0_f2 := r0.free 2
    clear u2
    obtain ⟨A1, c1, rfl⟩ := n1.form
    obtain ⟨A2, c2, rfl⟩ := n2.form
    have b0_0a := fun O0 => (cell_alloc (o := O0) b0_0)
    have b0_1a := fun O0 => (cell_alloc (o := O0) b0_1)
    have b0_2a := fun O0 => (cell_alloc (o := O0) b0_2)
    have r0_0a := fun O0 => (cell_alloc (o := O0) r0_0)
    have r0_f0a := fun O0 => (r0.up ((Up.refl W2).alloc O0)).free 0
    have r0_1a := fun O0 => (cell_alloc (o := O0) r0_1)
    have r0_f1a := fun O0 => (r0.up ((Up.refl W2).alloc O0)).free 1
    have r0_2a := fun O0 => (cell_alloc (o := O0) r0_2)
    have r0_f2a := fun O0 => (r0.up ((Up.refl W2).alloc O0)).free 2
    have b0_0b := fun O0 O1 => (cell_alloc (o := O1) (cell_alloc (o := O0) b0_0))
    have b0_1b := fun O0 O1 => (cell_alloc (o := O1) (cell_alloc (o := O0) b0_1))
    have b0_2b := fun O0 O1 => (cell_alloc (o := O1) (cell_alloc (o := O0) b0_2))
    have r0_0b := fun O0 O1 => (cell_alloc (o := O1) (cell_alloc (o := O0) r0_0))
    have r0_f0b := fun O0 O1 => (r0.up (((Up.refl W2).alloc O0).alloc O1)).free 0
    have r0_1b := fun O0 O1 => (cell_alloc (o := O1) (cell_alloc (o := O0) r0_1))
    have r0_f1b := fun O0 O1 => (r0.up (((Up.refl W2).alloc O0).alloc O1)).free 1
    have r0_2b := fun O0 O1 => (cell_alloc (o := O1) (cell_alloc (o := O0) r0_2))
    have r0_f2b := fun O0 O1 => (r0.up (((Up.refl W2).alloc O0).alloc O1)).free 2
    go_wp2_with fail
    clear b0_0a b0_1a b0_2a r0_0a r0_f0a r0_1a r0_f1a r0_2a r0_f2a b0_0b b0_1b b0_2b r0_0b r0_f0b r0_1b r0_f1b r0_2b r0_f2b
    obtain ⟨y1, y2⟩ := bx_two 118 118 W2 [] [.int .u32 1]
    have b0_lt_y1 := b0.lt
    have r0_lt_y1 := r0.lt
    have b0_lt_y2 := b0.lt
    have r0_lt_y2 := r0.lt
    replace hl := hl.up ((((Up.refl W2).alloc (.cells #[] 118))).alloc (.cells #[.int .u32 1] 118))
    replace hm := hm.up ((((Up.refl W2).alloc (.cells #[] 118))).alloc (.cells #[.int .u32 1] 118))
    replace n2 := n2.up ((((Up.refl W2).alloc (.cells #[] 118))).alloc (.cells #[.int .u32 1] 118))
    replace n1 := n1.up ((((Up.refl W2).alloc (.cells #[] 118))).alloc (.cells #[.int .u32 1] 118))
    replace b0 := b0.up ((((Up.refl W2).alloc (.cells #[] 118))).alloc (.cells #[.int .u32 1] 118))
    replace r0 := r0.up ((((Up.refl W2).alloc (.cells #[] 118))).alloc (.cells #[.int .u32 1] 118))
    replace UP := UP.trans ((((Up.refl W2).alloc (.cells #[] 118))).alloc (.cells #[.int .u32 1] 118))
    replace b0_0 := b0.cell (i := 0) rfl
    replace b0_1 := b0.cell (i := 1) rfl
    replace b0_2 := b0.cell (i := 2) rfl
    replace r0_0 := r0.cell (i := 0) rfl
    replace r0_1 := r0.cell (i := 1) rfl
    replace r0_2 := r0.cell (i := 2) rfl
    replace r0_f0 := r0.free 0
    replace r0_f1 := r0.free 1
    replace r0_f2 := r0.free 2
    generalize ((W2.alloc (.cells #[] 118)).alloc (.cells #[.int .u32 1] 118)) = W3 at *
    replace b0_0 := b0.cell (i := 0) rfl
    replace b0_1 := b0.cell (i := 1) rfl
    replace b0_2 := b0.cell (i := 2) rfl
    replace r0_0 := r0.cell (i := 0) rfl
    replace r0_1 := r0.cell (i := 1) rfl
    replace r0_2 := r0.cell (i := 2) rfl
    replace r0_f0 := r0.free 0
    replace r0_f1 := r0.free 1
    replace r0_f2 := r0.free 2
    have y2_0 := y2.cell (i := 0) rfl
    exact end_rq rfl rfl rfl (by rw [HZ.out]; exact zero_qw y1 y2) r0 trivial trivial trivial UP (by omega)
  have k1 := words_len_pos _ e1
  have k2 := words_len_pos _ e2
  have HN2 := Lib.hid e1
  have HN1 : Hid (Wd.ngb (Wd.iv s (Wd.val l)) = s) := Lib.hid (Wd.iv_ne s e2)
  by_cases e3 : Wd.val m = 1
  · have HO : Hid (decide (Wd.val m = 1) = true) := Lib.hid (decide_eq_true e3)
    have HQ : Hid (q.num = Wd.iv s (Wd.val l) ∧ q.den = Wd.val m) := Lib.hid (by rw [← hq, e3]; exact mkRat_one _)
    clear e1 e2 e3 hq
    have UP : Up w ((w.alloc (.cells #[.bool s, .slice A l.length c, .slice D m.length d] 61)).alloc (.cells #[.bool false, .slice none 0 0, .slice none 0 0] 61)) := ((Up.refl w).alloc _).alloc _
    obtain ⟨b0, r0⟩ := bx_two 61 61 w [.bool s, .slice A l.length c, .slice D m.length d] [.bool false, .slice none 0 0, .slice none 0 0]
    go_enter Try.func39, Try.ntmps39
    go_wp2_with fail
    generalize ((w.alloc (.cells #[.bool s, .slice A l.length c, .slice D m.length d] 61)).alloc (.cells #[.bool false, .slice none 0 0, .slice none 0 0] 61)) = W at *
    replace hl := hl.up UP
    replace hm := hm.up UP
    have b0_0 := b0.cell (i := 0) rfl
    have b0_1 := b0.cell (i := 1) rfl
    have b0_2 := b0.cell (i := 2) rfl
    have r0_0 := r0.cell (i := 0) rfl
    have r0_1 := r0.cell (i := 1) rfl
    have r0_2 := r0.cell (i := 2) rfl
    have r0_f0 := r0.free 0
    have r0_f1 := r0.free 1
    have r0_f2 := r0.free 2
    go_wp2_with fail
    ((with_reducible refine (ref_norm hm (by omega)).mono ?_))
    intro e W1 ret1
    obtain ⟨V1, rfl, n2, u1⟩ := ret1.ws
    clear ret1
    replace hl := hl.up u1
    replace hm := hm.up u1
    replace b0 := b0.up u1
    replace r0 := r0.up u1
    replace UP := UP.trans u1
    replace b0_0 := b0.cell (i := 0) rfl
    replace b0_1 := b0.cell (i := 1) rfl
    replace b0_2 := b0.cell (i := 2) rfl
    replace r0_0 := r0.cell (i := 0) rfl
    replace r0_1 := r0.cell (i := 1) rfl
    replace r0_2 := r0.cell (i := 2) rfl
    replace r0_f0 := r0.free 0
    replace r0_f1 := r0.free 1
    replace r0_f2 := r0.free 2
    clear u1
    go_wp2_with fail
    ((with_reducible refine (ref_norm hl (by omega)).mono ?_))
    intro e W2 ret2
    obtain ⟨V2, rfl, n1, u2⟩ := ret2.ws
    clear ret2
    replace hl := hl.up u2
    replace hm := hm.up u2
    replace n2 := n2.up u2
    replace b0 := b0.up u2
    replace r0 := r0.up u2
    replace UP := UP.trans u2
    replace b0_0 := b0.cell (i := 0) rfl
    replace b0_1 := b0.cell (i := 1) rfl
    replace b0_2 := b0.cell (i := 2) rfl
    replace r0_0 := r0.cell (i := 0) rfl
    replace r0_1 := r0.cell (i := 1) rfl
    replace r0_2 := r0.cell (i := 2) rfl
    replace r0_f0 := r0.free 0
    replace r0_f1 := r0.free 1
    replace r0_f2 := r0.free 2
    clear u2
    obtain ⟨A1, c1, rfl⟩ := n1.form
    obtain ⟨A2, c2, rfl⟩ := n2.form
    go_wp2_with fail
    ((with_reducible refine (ref_one n2 (by omega)).mono ?_))
    rintro e W3 ⟨rfl, rfl⟩
    rw [HO.out]
    go_wp2_with fail
    exact end_rq rfl rfl rfl (Qw.mk (q := q) n1 n2 (by rw [HQ.out.1, HN1.out]) (by rw [HQ.out.1, Wd.iv_abs]) HQ.out.2) r0 trivial trivial trivial UP (by omega)
  · have HO : Hid (decide (Wd.val m = 1) = false) := Lib.hid (decide_eq_false e3)
    have HP := Lib.hid (Wd.mkRat_parts s (Wd.val l) e1)
    have hg := Wd.gcd_len (n := 100000) (Nat.le_trans w1 (by omega)) (Nat.le_trans w2 (by omega))
    have HG : Hid (Nat.gcd (Wd.val l) (Wd.val m) ≠ 0) := Lib.hid (fun e => e1 (Wd.gcd_eq_zero.1 e).2)
    have HD : Hid (Wd.val l / Nat.gcd (Wd.val l) (Wd.val m) ≠ 0) := Lib.hid (fun e => e2 (by have := Wd.div_gcd_left (Wd.val l) (Wd.val m); rw [e, Nat.mul_zero] at this; exact this.symm))
    have HQ := Lib.hid hq
    clear e1 e2 e3 hq
    have UP : Up w ((w.alloc (.cells #[.bool s, .slice A l.length c, .slice D m.length d] 61)).alloc (.cells #[.bool false, .slice none 0 0, .slice none 0 0] 61)) := ((Up.refl w).alloc _).alloc _
    obtain ⟨b0, r0⟩ := bx_two 61 61 w [.bool s, .slice A l.length c, .slice D m.length d] [.bool false, .slice none 0 0, .slice none 0 0]
    go_enter Try.func39, Try.ntmps39
    go_wp2_with fail
    generalize ((w.alloc (.cells #[.bool s, .slice A l.length c, .slice D m.length d] 61)).alloc (.cells #[.bool false, .slice none 0 0, .slice none 0 0] 61)) = W at *
    replace hl := hl.up UP
    replace hm := hm.up UP
    have b0_0 := b0.cell (i := 0) rfl
    have b0_1 := b0.cell (i := 1) rfl
    have b0_2 := b0.cell (i := 2) rfl
    have r0_0 := r0.cell (i := 0) rfl
    have r0_1 := r0.cell (i := 1) rfl
    have r0_2 := r0.cell (i := 2) rfl
    have r0_f0 := r0.free 0
    have r0_f1 := r0.free 1
    have r0_f2 := r0.free 2
    go_wp2_with fail
    ((with_reducible refine (ref_norm hm (by omega)).mono ?_))
    intro e W1 ret1
    obtain ⟨V1, rfl, n2, u1⟩ := ret1.ws
    clear ret1
    replace hl := hl.up u1
    replace hm := hm.up u1
    replace b0 := b0.up u1
    replace r0 := r0.up u1
    replace UP := UP.trans u1
    replace b0_0 := b0.cell (i := 0) rfl
    replace b0_1 := b0.cell (i := 1) rfl
    replace b0_2 := b0.cell (i := 2) rfl
    replace r0_0 := r0.cell (i := 0) rfl
    replace r0_1 := r0.cell (i := 1) rfl
    replace r0_2 := r0.cell (i := 2) rfl
    replace r0_f0 := r0.free 0
    replace r0_f1 := r0.free 1
    replace r0_f2 := r0.free 2
    clear u1
    go_wp2_with fail
    ((with_reducible refine (ref_norm hl (by omega)).mono ?_))
    intro e W2 ret2
    obtain ⟨V2, rfl, n1, u2⟩ := ret2.ws
    clear ret2
    replace hl := hl.up u2
    replace hm := hm.up u2
    replace n2 := n2.up u2
    replace b0 := b0.up u2
    replace r0 := r0.up u2
    replace UP := UP.trans u2
    replace b0_0 := b0.cell (i := 0) rfl
    replace b0_1 := b0.cell (i := 1) rfl
    replace b0_2 := b0.cell (i := 2) rfl
    replace r0_0 := r0.cell (i := 0) rfl
    replace r0_1 := r0.cell (i := 1) rfl
    replace r0_2 := r0.cell (i := 2) rfl
    replace r0_f0 := r0.free 0
    replace r0_f1 := r0.free 1
    replace r0_f2 := r0.free 2
    clear u2
    obtain ⟨A1, c1, rfl⟩ := n1.form
    obtain ⟨A2, c2, rfl⟩ := n2.form
    go_wp2_with fail
    ((with_reducible refine (ref_one n2 (by omega)).mono ?_))
    rintro e W3 ⟨rfl, rfl⟩
    rw [HO.out]
    go_wp2_with fail
    ((with_reducible refine (ref_gcd n1 n2 (by omega) (by omega)).mono ?_))
    rintro e W4 ⟨V4, rfl, g, u4⟩
    replace hl := hl.up u4
    replace hm := hm.up u4
    replace n2 := n2.up u4
    replace n1 := n1.up u4
    replace b0 := b0.up u4
    replace r0 := r0.up u4
    replace UP := UP.trans u4
    replace b0_0 := b0.cell (i := 0) rfl
    replace b0_1 := b0.cell (i := 1) rfl
    replace b0_2 := b0.cell (i := 2) rfl
    replace r0_0 := r0.cell (i := 0) rfl
    replace r0_1 := r0.cell (i := 1) rfl
    replace r0_2 := r0.cell (i := 2) rfl
    replace r0_f0 := r0.free 0
    replace r0_f1 := r0.free 1
    replace r0_f2 := r0.free 2
    clear u4
    rw [Wd.val_words, Wd.val_words] at g
    go_wp2_with fail
    ((with_reducible refine (ref_over n1 g (by omega) (by omega) HG.out).mono ?_))
    rintro e W5 ⟨V5, rfl, o1, u5⟩
    replace hl := hl.up u5
    replace hm := hm.up u5
    replace n2 := n2.up u5
    replace n1 := n1.up u5
    replace g := g.up u5
    replace b0 := b0.up u5
    replace r0 := r0.up u5
    replace UP := UP.trans u5
    replace b0_0 := b0.cell (i := 0) rfl
    replace b0_1 := b0.cell (i := 1) rfl
    replace b0_2 := b0.cell (i := 2) rfl
    replace r0_0 := r0.cell (i := 0) rfl
    replace r0_1 := r0.cell (i := 1) rfl
    replace r0_2 := r0.cell (i := 2) rfl
    replace r0_f0 := r0.free 0
    replace r0_f1 := r0.free 1
    replace r0_f2 := r0.free 2
    clear u5
    rw [Wd.val_words] at o1
    go_wp2_with fail
    ((with_reducible refine (ref_over n2 g (by omega) (by omega) HG.out).mono ?_))
    rintro e W6 ⟨V6, rfl, o2, u6⟩
    replace hl := hl.up u6
    replace hm := hm.up u6
    replace n2 := n2.up u6
    replace n1 := n1.up u6
    replace g := g.up u6
    replace o1 := o1.up u6
    replace b0 := b0.up u6
    replace r0 := r0.up u6
    replace UP := UP.trans u6
    replace b0_0 := b0.cell (i := 0) rfl
    replace b0_1 := b0.cell (i := 1) rfl
    replace b0_2 := b0.cell (i := 2) rfl
    replace r0_0 := r0.cell (i := 0) rfl
    replace r0_1 := r0.cell (i := 1) rfl
    replace r0_2 := r0.cell (i := 2) rfl
    replace r0_f0 := r0.free 0
    replace r0_f1 := r0.free 1
    replace r0_f2 := r0.free 2
    clear u6
    rw [Wd.val_words] at o2
    obtain ⟨B1, x1, f1, rfl⟩ := o1.shape
    obtain ⟨B2, x2, f2, rfl⟩ := o2.shape
    go_wp2_with fail
    exact end_rq rfl rfl rfl (Qw.mk (q := q) o1 o2 (by rw [← HQ.out, HP.out.1, Wd.iv_ne s HD.out]) (by rw [← HQ.out, HP.out.1, Wd.iv_abs]) (by rw [← HQ.out]; exact HP.out.2)) r0 trivial trivial trivial UP (by omega)
end Go.Proofs.Ytjkkeilmnklpcaa
