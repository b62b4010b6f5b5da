/-
  Layer 9: fractions: on the other side of 0, without a sign, powers.
-/
import Derived.Test.YtjkkeilmnklpcaaFrac4
import Derived.Test.YtjkkeilmnklpcaaFracMath3
import Derived.Test.YtjkkeilmnklpcaaShift
set_option linter.unusedVariables false
set_option linter.unusedSimpArgs false
namespace Go.Proofs.Ytjkkeilmnklpcaa
open Go.RowKit


set_option maxHeartbeats 3200000 in
theorem frac_neg {v : Value} {q : Rat} {k : Nat} {w : World} (h : Fr w v q k) (hk : k ≤ 400000) : Calls Try.prog 56 #[v] w (RetQ (-q) w) := by
  have HL1 := h.lq.1
  have H := h
  obtain ⟨s, v1, v2, l, m, rfl, hl, hm, _, hle, hme, h1⟩ := h
  obtain ⟨A, c, rfl⟩ := hl.form
  obtain ⟨D, d, rfl⟩ := hm.form
  clear hl hm
  have UP : Up w ((w.alloc (.cells #[.bool s, .slice A l.length c, .slice D m.length d] 67)).alloc (.cells #[.bool false, .slice none 0 0, .slice none 0 0] 67)) := ((Up.refl w).alloc _).alloc _
  obtain ⟨b0, r0⟩ := bx_two 67 67 w [.bool s, .slice A l.length c, .slice D m.length d] [.bool false, .slice none 0 0, .slice none 0 0]
  go_enter Try.func56, Try.ntmps56
  go_wp2_with fail
  generalize ((w.alloc (.cells #[.bool s, .slice A l.length c, .slice D m.length d] 67)).alloc (.cells #[.bool false, .slice none 0 0, .slice none 0 0] 67)) = W at *
  replace H := H.up UP
  have b0_0 := b0.cell (i := 0) rfl
  have b0_1 := b0.cell (i := 1) rfl
  have b0_2 := b0.cell (i := 2) rfl
  have r0_0 := r0.cell (i := 0) rfl
  have r0_1 := r0.cell (i := 1) rfl
  have r0_2 := r0.cell (i := 2) rfl
  have r0_f0 := r0.free 0
  have r0_f1 := r0.free 1
  have r0_f2 := r0.free 2
  go_wp2_with fail
  ((with_reducible refine (frac_norm H (by omega)).mono ?_))
  rintro e W1 ⟨V1, rfl, q1, u1⟩
  replace H := H.up u1
  replace b0 := b0.up u1
  replace r0 := r0.up u1
  replace UP := UP.trans u1
  replace b0_0 := b0.cell (i := 0) rfl
  replace b0_1 := b0.cell (i := 1) rfl
  replace b0_2 := b0.cell (i := 2) rfl
  replace r0_0 := r0.cell (i := 0) rfl
  replace r0_1 := r0.cell (i := 1) rfl
  replace r0_2 := r0.cell (i := 2) rfl
  replace r0_f0 := r0.free 0
  replace r0_f1 := r0.free 1
  replace r0_f2 := r0.free 2
  clear u1
  obtain ⟨Xq1, Yq1, rfl, q1, q1d⟩ := q1
  obtain ⟨Aq1, nq1, cq1, rfl⟩ := q1.shape
  obtain ⟨Aq1d, nq1d, cq1d, rfl⟩ := q1d.shape
  have b0_0a := fun O0 => (cell_alloc (o := O0) b0_0)
  have b0_1a := fun O0 => (cell_alloc (o := O0) b0_1)
  have b0_2a := fun O0 => (cell_alloc (o := O0) b0_2)
  have r0_0a := fun O0 => (cell_alloc (o := O0) r0_0)
  have r0_f0a := fun O0 => (r0.up ((Up.refl W1).alloc O0)).free 0
  have r0_1a := fun O0 => (cell_alloc (o := O0) r0_1)
  have r0_f1a := fun O0 => (r0.up ((Up.refl W1).alloc O0)).free 1
  have r0_2a := fun O0 => (cell_alloc (o := O0) r0_2)
  have r0_f2a := fun O0 => (r0.up ((Up.refl W1).alloc O0)).free 2
  go_wp2_with fail
  clear b0_0a b0_1a b0_2a r0_0a r0_f0a r0_1a r0_f1a r0_2a r0_f2a
  have b1 := Bx.new 67 W1 [.bool (Wd.ngb q.num), .slice Aq1 nq1 cq1, .slice Aq1d nq1d cq1d]
  have b0_lt_b1 := b0.lt
  have b0_ne_b1 : ¬ (w.heap.size = W1.heap.size) := by omega
  have b0_en_b1 : ¬ (W1.heap.size = w.heap.size) := by omega
  have r0_lt_b1 := r0.lt
  have r0_ne_b1 : ¬ (w.heap.size + 1 = W1.heap.size) := by omega
  have r0_en_b1 : ¬ (W1.heap.size = w.heap.size + 1) := by omega
  replace H := H.up ((Up.refl W1).alloc (.cells #[.bool (Wd.ngb q.num), .slice Aq1 nq1 cq1, .slice Aq1d nq1d cq1d] 67))
  replace q1 := q1.up ((Up.refl W1).alloc (.cells #[.bool (Wd.ngb q.num), .slice Aq1 nq1 cq1, .slice Aq1d nq1d cq1d] 67))
  replace q1d := q1d.up ((Up.refl W1).alloc (.cells #[.bool (Wd.ngb q.num), .slice Aq1 nq1 cq1, .slice Aq1d nq1d cq1d] 67))
  replace b0 := b0.up ((Up.refl W1).alloc (.cells #[.bool (Wd.ngb q.num), .slice Aq1 nq1 cq1, .slice Aq1d nq1d cq1d] 67))
  replace r0 := r0.up ((Up.refl W1).alloc (.cells #[.bool (Wd.ngb q.num), .slice Aq1 nq1 cq1, .slice Aq1d nq1d cq1d] 67))
  replace UP := UP.trans ((Up.refl W1).alloc (.cells #[.bool (Wd.ngb q.num), .slice Aq1 nq1 cq1, .slice Aq1d nq1d cq1d] 67))
  replace b0_0 := b0.cell (i := 0) rfl
  replace b0_1 := b0.cell (i := 1) rfl
  replace b0_2 := b0.cell (i := 2) rfl
  replace r0_0 := r0.cell (i := 0) rfl
  replace r0_1 := r0.cell (i := 1) rfl
  replace r0_2 := r0.cell (i := 2) rfl
  replace r0_f0 := r0.free 0
  replace r0_f1 := r0.free 1
  replace r0_f2 := r0.free 2
  generalize (W1.alloc (.cells #[.bool (Wd.ngb q.num), .slice Aq1 nq1 cq1, .slice Aq1d nq1d cq1d] 67)) = W2 at *
  replace b0_0 := b0.cell (i := 0) rfl
  replace b0_1 := b0.cell (i := 1) rfl
  replace b0_2 := b0.cell (i := 2) rfl
  replace r0_0 := r0.cell (i := 0) rfl
  replace r0_1 := r0.cell (i := 1) rfl
  replace r0_2 := r0.cell (i := 2) rfl
  replace r0_f0 := r0.free 0
  replace r0_f1 := r0.free 1
  replace r0_f2 := r0.free 2
  have b1_0 := b1.cell (i := 0) rfl
  have b1_1 := b1.cell (i := 1) rfl
  have b1_2 := b1.cell (i := 2) rfl
  have b1_f0 := b1.free 0
  have b1_f1 := b1.free 1
  have b1_f2 := b1.free 2
  ((with_reducible refine (whole_neg (k := 400000) (Wh.mk (Wd.ngb q.num) q1 (Nat.le_trans HL1 (by omega))) (by omega)).mono ?_))
  rintro e W3 ⟨V3, rfl, z1, u3⟩
  replace H := H.up u3
  replace q1 := q1.up u3
  replace q1d := q1d.up u3
  replace b0 := b0.up u3
  replace r0 := r0.up u3
  replace b1 := b1.up u3
  replace UP := UP.trans u3
  replace b0_0 := b0.cell (i := 0) rfl
  replace b0_1 := b0.cell (i := 1) rfl
  replace b0_2 := b0.cell (i := 2) rfl
  replace r0_0 := r0.cell (i := 0) rfl
  replace r0_1 := r0.cell (i := 1) rfl
  replace r0_2 := r0.cell (i := 2) rfl
  replace r0_f0 := r0.free 0
  replace r0_f1 := r0.free 1
  replace r0_f2 := r0.free 2
  replace b1_0 := b1.cell (i := 0) rfl
  replace b1_1 := b1.cell (i := 1) rfl
  replace b1_2 := b1.cell (i := 2) rfl
  replace b1_f0 := b1.free 0
  replace b1_f1 := b1.free 1
  replace b1_f2 := b1.free 2
  clear u3
  rw [Wd.val_words, Wd.iv_ngb] at z1
  obtain ⟨Xz1, rfl, z1⟩ := z1
  obtain ⟨Az1, nz1, cz1, rfl⟩ := z1.shape
  go_wp2_with fail
  have KW : Kw (W3) ((W3).setCell ⟨W1.heap.size, 0, none⟩ (.bool (Wd.ngb (-q.num)))) := Kw.store (c := (.bool (Wd.ngb q.num))) b1 rfl trivial _
  replace H := H.kw KW
  replace q1 := q1.kw KW
  replace q1d := q1d.kw KW
  replace z1 := z1.kw KW
  replace b0 := b0.far (p := ⟨W1.heap.size, 0, none⟩) (by dsimp only; omega) (.bool (Wd.ngb (-q.num)))
  replace r0 := r0.far (p := ⟨W1.heap.size, 0, none⟩) (by dsimp only; omega) (.bool (Wd.ngb (-q.num)))
  replace b1 : Bx 67 ((W3).setCell ⟨W1.heap.size, 0, none⟩ (.bool (Wd.ngb (-q.num)))) (W1.heap.size) [.bool (Wd.ngb (-q.num)), .slice Aq1 nq1 cq1, .slice Aq1d nq1d cq1d] := b1.set 0 (.bool (Wd.ngb (-q.num)))
  replace UP := UP.setCell (p := ⟨W1.heap.size, 0, none⟩) (by dsimp only; omega) (.bool (Wd.ngb (-q.num)))
  have KW : Kw (((W3).setCell ⟨W1.heap.size, 0, none⟩ (.bool (Wd.ngb (-q.num))))) ((((W3).setCell ⟨W1.heap.size, 0, none⟩ (.bool (Wd.ngb (-q.num))))).setCell ⟨W1.heap.size, 1, none⟩ (.slice Az1 nz1 cz1)) := Kw.store (c := (.slice Aq1 nq1 cq1)) b1 rfl trivial _
  replace H := H.kw KW
  replace q1 := q1.kw KW
  replace q1d := q1d.kw KW
  replace z1 := z1.kw KW
  replace b0 := b0.far (p := ⟨W1.heap.size, 1, none⟩) (by dsimp only; omega) (.slice Az1 nz1 cz1)
  replace r0 := r0.far (p := ⟨W1.heap.size, 1, none⟩) (by dsimp only; omega) (.slice Az1 nz1 cz1)
  replace b1 : Bx 67 ((((W3).setCell ⟨W1.heap.size, 0, none⟩ (.bool (Wd.ngb (-q.num))))).setCell ⟨W1.heap.size, 1, none⟩ (.slice Az1 nz1 cz1)) (W1.heap.size) [.bool (Wd.ngb (-q.num)), .slice Az1 nz1 cz1, .slice Aq1d nq1d cq1d] := b1.set 1 (.slice Az1 nz1 cz1)
  replace UP := UP.setCell (p := ⟨W1.heap.size, 1, none⟩) (by dsimp only; omega) (.slice Az1 nz1 cz1)
  clear KW
  generalize ((((W3).setCell ⟨W1.heap.size, 0, none⟩ (.bool (Wd.ngb (-q.num))))).setCell ⟨W1.heap.size, 1, none⟩ (.slice Az1 nz1 cz1)) = W4 at *
  replace b0_0 := b0.cell (i := 0) rfl
  replace b0_1 := b0.cell (i := 1) rfl
  replace b0_2 := b0.cell (i := 2) rfl
  replace r0_0 := r0.cell (i := 0) rfl
  replace r0_1 := r0.cell (i := 1) rfl
  replace r0_2 := r0.cell (i := 2) rfl
  replace r0_f0 := r0.free 0
  replace r0_f1 := r0.free 1
  replace r0_f2 := r0.free 2
  replace b1_0 := b1.cell (i := 0) rfl
  replace b1_1 := b1.cell (i := 1) rfl
  exact end_q rfl rfl rfl (Qw.mk (q := -q) z1 q1d rfl rfl rfl) r0 trivial trivial trivial UP (by omega)

set_option maxHeartbeats 3200000 in
theorem frac_abs {v : Value} {q : Rat} {k : Nat} {w : World} (h : Fr w v q k) (hk : k ≤ 400000) : Calls Try.prog 58 #[v] w (RetQ (Wd.absQ q) w) := by
  have H := h
  obtain ⟨s, v1, v2, l, m, rfl, hl, hm, _, hle, hme, h1⟩ := h
  obtain ⟨A, c, rfl⟩ := hl.form
  obtain ⟨D, d, rfl⟩ := hm.form
  clear hl hm
  have UP : Up w ((w.alloc (.cells #[.bool s, .slice A l.length c, .slice D m.length d] 67)).alloc (.cells #[.bool false, .slice none 0 0, .slice none 0 0] 67)) := ((Up.refl w).alloc _).alloc _
  obtain ⟨b0, r0⟩ := bx_two 67 67 w [.bool s, .slice A l.length c, .slice D m.length d] [.bool false, .slice none 0 0, .slice none 0 0]
  go_enter Try.func58, Try.ntmps58
  go_wp2_with fail
  generalize ((w.alloc (.cells #[.bool s, .slice A l.length c, .slice D m.length d] 67)).alloc (.cells #[.bool false, .slice none 0 0, .slice none 0 0] 67)) = W at *
  replace H := H.up UP
  have b0_0 := b0.cell (i := 0) rfl
  have b0_1 := b0.cell (i := 1) rfl
  have b0_2 := b0.cell (i := 2) rfl
  have r0_0 := r0.cell (i := 0) rfl
  have r0_1 := r0.cell (i := 1) rfl
  have r0_2 := r0.cell (i := 2) rfl
  have r0_f0 := r0.free 0
  have r0_f1 := r0.free 1
  have r0_f2 := r0.free 2
  go_wp2_with fail
  ((with_reducible refine (frac_norm H (by omega)).mono ?_))
  rintro e W1 ⟨V1, rfl, q1, u1⟩
  replace H := H.up u1
  replace b0 := b0.up u1
  replace r0 := r0.up u1
  replace UP := UP.trans u1
  replace b0_0 := b0.cell (i := 0) rfl
  replace b0_1 := b0.cell (i := 1) rfl
  replace b0_2 := b0.cell (i := 2) rfl
  replace r0_0 := r0.cell (i := 0) rfl
  replace r0_1 := r0.cell (i := 1) rfl
  replace r0_2 := r0.cell (i := 2) rfl
  replace r0_f0 := r0.free 0
  replace r0_f1 := r0.free 1
  replace r0_f2 := r0.free 2
  clear u1
  obtain ⟨Xq1, Yq1, rfl, q1, q1d⟩ := q1
  obtain ⟨Aq1, nq1, cq1, rfl⟩ := q1.shape
  obtain ⟨Aq1d, nq1d, cq1d, rfl⟩ := q1d.shape
  have b0_0a := fun O0 => (cell_alloc (o := O0) b0_0)
  have b0_1a := fun O0 => (cell_alloc (o := O0) b0_1)
  have b0_2a := fun O0 => (cell_alloc (o := O0) b0_2)
  have r0_0a := fun O0 => (cell_alloc (o := O0) r0_0)
  have r0_f0a := fun O0 => (r0.up ((Up.refl W1).alloc O0)).free 0
  have r0_1a := fun O0 => (cell_alloc (o := O0) r0_1)
  have r0_f1a := fun O0 => (r0.up ((Up.refl W1).alloc O0)).free 1
  have r0_2a := fun O0 => (cell_alloc (o := O0) r0_2)
  have r0_f2a := fun O0 => (r0.up ((Up.refl W1).alloc O0)).free 2
  go_wp2_with fail
  clear b0_0a b0_1a b0_2a r0_0a r0_f0a r0_1a r0_f1a r0_2a r0_f2a
  have b1 := Bx.new 67 W1 [.bool false, .slice Aq1 nq1 cq1, .slice Aq1d nq1d cq1d]
  have b0_lt_b1 := b0.lt
  have b0_ne_b1 : ¬ (w.heap.size = W1.heap.size) := by omega
  have b0_en_b1 : ¬ (W1.heap.size = w.heap.size) := by omega
  have r0_lt_b1 := r0.lt
  have r0_ne_b1 : ¬ (w.heap.size + 1 = W1.heap.size) := by omega
  have r0_en_b1 : ¬ (W1.heap.size = w.heap.size + 1) := by omega
  replace H := H.up ((Up.refl W1).alloc (.cells #[.bool false, .slice Aq1 nq1 cq1, .slice Aq1d nq1d cq1d] 67))
  replace q1 := q1.up ((Up.refl W1).alloc (.cells #[.bool false, .slice Aq1 nq1 cq1, .slice Aq1d nq1d cq1d] 67))
  replace q1d := q1d.up ((Up.refl W1).alloc (.cells #[.bool false, .slice Aq1 nq1 cq1, .slice Aq1d nq1d cq1d] 67))
  replace b0 := b0.up ((Up.refl W1).alloc (.cells #[.bool false, .slice Aq1 nq1 cq1, .slice Aq1d nq1d cq1d] 67))
  replace r0 := r0.up ((Up.refl W1).alloc (.cells #[.bool false, .slice Aq1 nq1 cq1, .slice Aq1d nq1d cq1d] 67))
  replace UP := UP.trans ((Up.refl W1).alloc (.cells #[.bool false, .slice Aq1 nq1 cq1, .slice Aq1d nq1d cq1d] 67))
  replace b0_0 := b0.cell (i := 0) rfl
  replace b0_1 := b0.cell (i := 1) rfl
  replace b0_2 := b0.cell (i := 2) rfl
  replace r0_0 := r0.cell (i := 0) rfl
  replace r0_1 := r0.cell (i := 1) rfl
  replace r0_2 := r0.cell (i := 2) rfl
  replace r0_f0 := r0.free 0
  replace r0_f1 := r0.free 1
  replace r0_f2 := r0.free 2
  generalize (W1.alloc (.cells #[.bool false, .slice Aq1 nq1 cq1, .slice Aq1d nq1d cq1d] 67)) = W2 at *
  replace b0_0 := b0.cell (i := 0) rfl
  replace b0_1 := b0.cell (i := 1) rfl
  replace b0_2 := b0.cell (i := 2) rfl
  replace r0_0 := r0.cell (i := 0) rfl
  replace r0_1 := r0.cell (i := 1) rfl
  replace r0_2 := r0.cell (i := 2) rfl
  replace r0_f0 := r0.free 0
  replace r0_f1 := r0.free 1
  replace r0_f2 := r0.free 2
  have b1_0 := b1.cell (i := 0) rfl
  have b1_1 := b1.cell (i := 1) rfl
  have b1_2 := b1.cell (i := 2) rfl
  have b1_f0 := b1.free 0
  have b1_f1 := b1.free 1
  have b1_f2 := b1.free 2
  exact end_q rfl rfl rfl (Qw.mk (q := Wd.absQ q) q1 q1d (by rw [Wd.absQ_num, Wd.ngb_natCast]) (by rw [Wd.absQ_num, Int.natAbs_natCast]) (Wd.absQ_den q)) r0 trivial trivial trivial UP (by omega)

set_option maxHeartbeats 3200000 in
theorem frac_power {v : Value} {a : List Nat} {ti : Int} {w : World} (n : Nat) (hn : ti = n) (h : Ws w v a) (hn8 : n ≤ 8) (hl : a.length ≤ 10000000) : Calls Try.prog 84 #[v, .int .i64 ti] w (RetW (Wd.words (Wd.val a ^ n)) w) := by
  subst hn
  have LW := Lib.hid (Wd.words_pow_le (Wd.words_val_length h.ok))
  have HA := Lib.hid h
  obtain ⟨A, c, rfl⟩ := h.form
  go_enter Try.func84, Try.ntmps84
  go_wp2_with fail
  refine (nat_of (n := 1) 1 rfl (by omega) _).mono ?_
  rintro e W1 ⟨V1, rfl, n1, u1⟩
  go_wp2_with fail
  go_loopw [5, 8] (fun s5 s8 wr => ∃ k : Nat, s8 = .int .i64 k ∧ k ≤ n ∧ Ws wr s5 (Wd.words (Wd.val a ^ k)) ∧ Up w wr) (fun _ s8 _ => n - (intOf s8).toNat)
  case atStart => exact ⟨0, rfl, Nat.zero_le _, by rw [Nat.pow_zero]; exact n1, u1⟩
  case round =>
    obtain ⟨k, rfl, hk, hs, hup⟩ := hrel
    by_cases hlt : k < n
    · have h1 := LW.out k
      have h2 : a.length * k ≤ 80000000 := Nat.le_trans (Nat.mul_le_mul hl (show k ≤ 8 by omega)) (by omega)
      go_wp2_with fail
      refine (prod_mul hs (HA.out.up hup) (by omega) (by omega)).mono ?_
      rintro e W2 ⟨V2, rfl, n2, u2⟩
      rw [Wd.val_words, ← Nat.pow_succ] at n2
      clear h1 h2
      go_wp2
      go_roundw
      case rel => exact ⟨k + 1, by go_num, by omega, n2, hup.trans u2⟩
      case measure => simp [intOf]; omega
    · obtain rfl : k = n := by omega
      go_wp2
      go_ret
      exact ⟨_, rfl, hs, hup⟩
end Go.Proofs.Ytjkkeilmnklpcaa
