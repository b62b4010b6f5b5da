/-
  Layer 9: fractions: powers.
-/
import Derived.Test.YtjkkeilmnklpcaaFrac5
set_option linter.unusedVariables false
set_option linter.unusedSimpArgs false
namespace Go.Proofs.Ytjkkeilmnklpcaa
open Go.RowKit


set_option maxRecDepth 100000 in
set_option maxHeartbeats 6400000 in
theorem frac_pow {v : Value} {q : Rat} {k : Nat} {w : World} {e : Int} (h : Fr w v q k) (hk : k ≤ 100000) (he : -9223372036854775808 ≤ e ∧ e ≤ 9223372036854775807) : Calls Try.prog 36 #[v, .int .i64 e] w (RetQB (Wd.powQ q e) (Wd.powB q e) w) := by
  have LQ1 : (Wd.words q.num.natAbs).length ≤ k := h.lq.1
  have LQ2 := h.lq.2
  by_cases hok : Wd.powB q e = true
  rotate_left
  · have hno : Wd.powB q e = false := by simpa using hok
    have HR : Hid (Wd.powQ q e = 0 ∧ Wd.powB q e = false) := Lib.hid ⟨by unfold Wd.powQ; rw [hno]; rfl, hno⟩
    unfold Wd.powB at hno
    have hno := of_decide_eq_false hno
    clear hok
    have H := h
    obtain ⟨s, v1, v2, l, m, rfl, hl, hm, _, hle, hme, h1⟩ := h
    obtain ⟨A, c, rfl⟩ := hl.form
    obtain ⟨D, d, rfl⟩ := hm.form
    clear hl hm
    by_cases c1 : e < -8
    · clear hno
      have UP : Up w ((w.alloc (.cells #[.bool s, .slice A l.length c, .slice D m.length d] 67)).alloc (.cells #[.bool false, .slice none 0 0, .slice none 0 0] 67)) := ((Up.refl w).alloc _).alloc _
      obtain ⟨b0, r0⟩ := bx_two 67 67 w [.bool s, .slice A l.length c, .slice D m.length d] [.bool false, .slice none 0 0, .slice none 0 0]
      go_enter Try.func36, Try.ntmps36
      go_wp2_with fail
      generalize ((w.alloc (.cells #[.bool s, .slice A l.length c, .slice D m.length d] 67)).alloc (.cells #[.bool false, .slice none 0 0, .slice none 0 0] 67)) = W at *
      replace H := H.up UP
      have b0_0 := b0.cell (i := 0) rfl
      have b0_1 := b0.cell (i := 1) rfl
      have b0_2 := b0.cell (i := 2) rfl
      have r0_0 := r0.cell (i := 0) rfl
      have r0_1 := r0.cell (i := 1) rfl
      have r0_2 := r0.cell (i := 2) rfl
      have r0_f0 := r0.free 0
      have r0_f1 := r0.free 1
      have r0_f2 := r0.free 2
      skip
      go_wp2_with fail
      ((with_reducible refine (frac_of0 _).mono ?_))
      rintro e W1 ⟨V1, rfl, q1, u1⟩
      replace H := H.up u1
      replace b0 := b0.up u1
      replace r0 := r0.up u1
      replace UP := UP.trans u1
      replace b0_0 := b0.cell (i := 0) rfl
      replace b0_1 := b0.cell (i := 1) rfl
      replace b0_2 := b0.cell (i := 2) rfl
      replace r0_0 := r0.cell (i := 0) rfl
      replace r0_1 := r0.cell (i := 1) rfl
      replace r0_2 := r0.cell (i := 2) rfl
      replace r0_f0 := r0.free 0
      replace r0_f1 := r0.free 1
      replace r0_f2 := r0.free 2
      clear u1
      obtain ⟨Xq1, Yq1, rfl, q1, q1d⟩ := q1
      obtain ⟨Aq1, nq1, cq1, rfl⟩ := q1.shape
      obtain ⟨Aq1d, nq1d, cq1d, rfl⟩ := q1d.shape
      go_wp2_with fail
      exact end_qb_as HR.out.1 HR.out.2 rfl rfl rfl rfl ⟨_, _, rfl, q1, q1d⟩ r0 trivial trivial trivial UP (by omega)
    · by_cases c2 : 8 < e
      · clear hno
        have UP : Up w ((w.alloc (.cells #[.bool s, .slice A l.length c, .slice D m.length d] 67)).alloc (.cells #[.bool false, .slice none 0 0, .slice none 0 0] 67)) := ((Up.refl w).alloc _).alloc _
        obtain ⟨b0, r0⟩ := bx_two 67 67 w [.bool s, .slice A l.length c, .slice D m.length d] [.bool false, .slice none 0 0, .slice none 0 0]
        go_enter Try.func36, Try.ntmps36
        go_wp2_with fail
        generalize ((w.alloc (.cells #[.bool s, .slice A l.length c, .slice D m.length d] 67)).alloc (.cells #[.bool false, .slice none 0 0, .slice none 0 0] 67)) = W at *
        replace H := H.up UP
        have b0_0 := b0.cell (i := 0) rfl
        have b0_1 := b0.cell (i := 1) rfl
        have b0_2 := b0.cell (i := 2) rfl
        have r0_0 := r0.cell (i := 0) rfl
        have r0_1 := r0.cell (i := 1) rfl
        have r0_2 := r0.cell (i := 2) rfl
        have r0_f0 := r0.free 0
        have r0_f1 := r0.free 1
        have r0_f2 := r0.free 2
        skip
        go_wp2_with fail
        ((with_reducible refine (frac_of0 _).mono ?_))
        rintro e W1 ⟨V1, rfl, q1, u1⟩
        replace H := H.up u1
        replace b0 := b0.up u1
        replace r0 := r0.up u1
        replace UP := UP.trans u1
        replace b0_0 := b0.cell (i := 0) rfl
        replace b0_1 := b0.cell (i := 1) rfl
        replace b0_2 := b0.cell (i := 2) rfl
        replace r0_0 := r0.cell (i := 0) rfl
        replace r0_1 := r0.cell (i := 1) rfl
        replace r0_2 := r0.cell (i := 2) rfl
        replace r0_f0 := r0.free 0
        replace r0_f1 := r0.free 1
        replace r0_f2 := r0.free 2
        clear u1
        obtain ⟨Xq1, Yq1, rfl, q1, q1d⟩ := q1
        obtain ⟨Aq1, nq1, cq1, rfl⟩ := q1.shape
        obtain ⟨Aq1d, nq1d, cq1d, rfl⟩ := q1d.shape
        go_wp2_with fail
        exact end_qb_as HR.out.1 HR.out.2 rfl rfl rfl rfl ⟨_, _, rfl, q1, q1d⟩ r0 trivial trivial trivial UP (by omega)
      · have c3 : e < 0 := by
          rcases Int.lt_or_le e 0 with h | h
          · exact h
          · exact absurd ⟨by omega, by omega, fun hh => by omega⟩ hno
        have HS : Hid (Wd.sgn q.num = 0) := Lib.hid (by
          have : q = 0 := by
            rcases Classical.em (q = 0) with h | h
            · exact h
            · exact absurd ⟨by omega, by omega, fun hh => h hh.2⟩ hno
          rw [this]; rfl)
        clear hno
        have UP : Up w ((w.alloc (.cells #[.bool s, .slice A l.length c, .slice D m.length d] 67)).alloc (.cells #[.bool false, .slice none 0 0, .slice none 0 0] 67)) := ((Up.refl w).alloc _).alloc _
        obtain ⟨b0, r0⟩ := bx_two 67 67 w [.bool s, .slice A l.length c, .slice D m.length d] [.bool false, .slice none 0 0, .slice none 0 0]
        go_enter Try.func36, Try.ntmps36
        go_wp2_with fail
        generalize ((w.alloc (.cells #[.bool s, .slice A l.length c, .slice D m.length d] 67)).alloc (.cells #[.bool false, .slice none 0 0, .slice none 0 0] 67)) = W at *
        replace H := H.up UP
        have b0_0 := b0.cell (i := 0) rfl
        have b0_1 := b0.cell (i := 1) rfl
        have b0_2 := b0.cell (i := 2) rfl
        have r0_0 := r0.cell (i := 0) rfl
        have r0_1 := r0.cell (i := 1) rfl
        have r0_2 := r0.cell (i := 2) rfl
        have r0_f0 := r0.free 0
        have r0_f1 := r0.free 1
        have r0_f2 := r0.free 2
        go_wp2_with fail
        ((with_reducible refine (frac_sign H (by omega)).mono ?_))
        rintro e W1 ⟨rfl, u1⟩
        replace H := H.up u1
        replace b0 := b0.up u1
        replace r0 := r0.up u1
        replace UP := UP.trans u1
        replace b0_0 := b0.cell (i := 0) rfl
        replace b0_1 := b0.cell (i := 1) rfl
        replace b0_2 := b0.cell (i := 2) rfl
        replace r0_0 := r0.cell (i := 0) rfl
        replace r0_1 := r0.cell (i := 1) rfl
        replace r0_2 := r0.cell (i := 2) rfl
        replace r0_f0 := r0.free 0
        replace r0_f1 := r0.free 1
        replace r0_f2 := r0.free 2
        clear u1
        rw [HS.out]
        go_wp2_with fail
        ((with_reducible refine (frac_of0 _).mono ?_))
        rintro e W2 ⟨V2, rfl, q1, u2⟩
        replace H := H.up u2
        replace b0 := b0.up u2
        replace r0 := r0.up u2
        replace UP := UP.trans u2
        replace b0_0 := b0.cell (i := 0) rfl
        replace b0_1 := b0.cell (i := 1) rfl
        replace b0_2 := b0.cell (i := 2) rfl
        replace r0_0 := r0.cell (i := 0) rfl
        replace r0_1 := r0.cell (i := 1) rfl
        replace r0_2 := r0.cell (i := 2) rfl
        replace r0_f0 := r0.free 0
        replace r0_f1 := r0.free 1
        replace r0_f2 := r0.free 2
        clear u2
        obtain ⟨Xq1, Yq1, rfl, q1, q1d⟩ := q1
        obtain ⟨Aq1, nq1, cq1, rfl⟩ := q1.shape
        obtain ⟨Aq1d, nq1d, cq1d, rfl⟩ := q1d.shape
        go_wp2_with fail
        exact end_qb_as HR.out.1 HR.out.2 rfl rfl rfl rfl ⟨_, _, rfl, q1, q1d⟩ r0 trivial trivial trivial UP (by omega)
  have HR : Hid (Wd.powQ q e = q ^ e ∧ Wd.powB q e = true) := Lib.hid ⟨by unfold Wd.powQ; rw [hok]; rfl, hok⟩
  unfold Wd.powB at hok
  have hok := of_decide_eq_true hok
  obtain ⟨o1, o2, o3⟩ := hok
  have LPN := Lib.hid (Wd.words_pow_le LQ1)
  have LPD := Lib.hid (Wd.words_pow_le LQ2)
  obtain ⟨neg, HNEG⟩ : ∃ b, Hid (Wd.ngb q.num = b) := ⟨_, Lib.hid rfl⟩
  have H := h
  obtain ⟨s, v1, v2, l, m, rfl, hl, hm, _, hle, hme, h1⟩ := h
  obtain ⟨A, c, rfl⟩ := hl.form
  obtain ⟨D, d, rfl⟩ := hm.form
  clear hl hm
  rcases Int.lt_or_le e 0 with hlt | hge
  · obtain ⟨n, hn⟩ := Int.eq_ofNat_of_zero_le (a := -e) (by omega)
    obtain rfl : e = -(n : Int) := by omega
    have hn8 : n ≤ 8 := by omega
    have hq : q ≠ 0 := fun hh => o3 ⟨hlt, hh⟩
    have HM : Hid (((n : Nat) : Int) = if ((n : Nat) : Int) > -(n : Int) then ((n : Nat) : Int) else -(n : Int)) := Lib.hid (by rw [if_pos (by omega)])
    have HP := Lib.hid (Wd.pow_down hq n)
    have L1 := LPN.out n
    have L2 := LPD.out n
    have hs : ((Wd.sgn q.num : Int) == 0) = false := by
      rcases Wd.sgn_cases q.num with ⟨_, e⟩ | ⟨e, _⟩ | ⟨_, e⟩
      · rw [e]; rfl
      · exact absurd (Rat.num_eq_zero.1 e) hq
      · rw [e]; rfl
    clear hn hq o3 hok
    clear LPN LPD
    have L3 : k * n ≤ 800000 := Nat.le_trans (Nat.mul_le_mul hk hn8) (by omega)
    obtain ⟨odd, HODD⟩ : ∃ b, Hid (decide (n % 2 = 1) = b) := ⟨_, Lib.hid rfl⟩
    have HPAR : Hid ((((n : Nat) : Int) % 2 == 1) = odd) := Lib.hid (by rw [← HODD.out, Bool.eq_iff_iff]; simp; omega)
    have HN0 : Hid (neg = false → (q ^ (-(n : Int))).num = Wd.iv false (q.den ^ n)) := Lib.hid (fun hh => by rw [HP.out.1, HNEG.out, hh]; rfl)
    have HN1 : Hid (neg = true → (q ^ (-(n : Int))).num = Wd.iv (((n : Nat) : Int) % 2 == 1) (q.den ^ n)) := Lib.hid (fun hh => by rw [HP.out.1, HNEG.out, hh, HODD.out, HPAR.out]; rfl)
    have UP : Up w ((w.alloc (.cells #[.bool s, .slice A l.length c, .slice D m.length d] 67)).alloc (.cells #[.bool false, .slice none 0 0, .slice none 0 0] 67)) := ((Up.refl w).alloc _).alloc _
    obtain ⟨b0, r0⟩ := bx_two 67 67 w [.bool s, .slice A l.length c, .slice D m.length d] [.bool false, .slice none 0 0, .slice none 0 0]
    go_enter Try.func36, Try.ntmps36
    go_wp2_with fail
    generalize ((w.alloc (.cells #[.bool s, .slice A l.length c, .slice D m.length d] 67)).alloc (.cells #[.bool false, .slice none 0 0, .slice none 0 0] 67)) = W at *
    replace H := H.up UP
    have b0_0 := b0.cell (i := 0) rfl
    have b0_1 := b0.cell (i := 1) rfl
    have b0_2 := b0.cell (i := 2) rfl
    have r0_0 := r0.cell (i := 0) rfl
    have r0_1 := r0.cell (i := 1) rfl
    have r0_2 := r0.cell (i := 2) rfl
    have r0_f0 := r0.free 0
    have r0_f1 := r0.free 1
    have r0_f2 := r0.free 2
    go_wp2_with fail
    ((with_reducible refine (frac_sign H (by omega)).mono ?_))
    rintro e W1 ⟨rfl, u1⟩
    replace H := H.up u1
    replace b0 := b0.up u1
    replace r0 := r0.up u1
    replace UP := UP.trans u1
    replace b0_0 := b0.cell (i := 0) rfl
    replace b0_1 := b0.cell (i := 1) rfl
    replace b0_2 := b0.cell (i := 2) rfl
    replace r0_0 := r0.cell (i := 0) rfl
    replace r0_1 := r0.cell (i := 1) rfl
    replace r0_2 := r0.cell (i := 2) rfl
    replace r0_f0 := r0.free 0
    replace r0_f1 := r0.free 1
    replace r0_f2 := r0.free 2
    clear u1
    go_wp2_with fail
    ((with_reducible refine (frac_norm H (by omega)).mono ?_))
    rintro e W2 ⟨V2, rfl, q1, u2⟩
    replace H := H.up u2
    replace b0 := b0.up u2
    replace r0 := r0.up u2
    replace UP := UP.trans u2
    replace b0_0 := b0.cell (i := 0) rfl
    replace b0_1 := b0.cell (i := 1) rfl
    replace b0_2 := b0.cell (i := 2) rfl
    replace r0_0 := r0.cell (i := 0) rfl
    replace r0_1 := r0.cell (i := 1) rfl
    replace r0_2 := r0.cell (i := 2) rfl
    replace r0_f0 := r0.free 0
    replace r0_f1 := r0.free 1
    replace r0_f2 := r0.free 2
    clear u2
    obtain ⟨Xq1, Yq1, rfl, q1, q1d⟩ := q1
    obtain ⟨Aq1, nq1, cq1, rfl⟩ := q1.shape
    obtain ⟨Aq1d, nq1d, cq1d, rfl⟩ := q1d.shape
    rw [HNEG.out]
    have b0_0a := fun O0 => (cell_alloc (o := O0) b0_0)
    have b0_1a := fun O0 => (cell_alloc (o := O0) b0_1)
    have b0_2a := fun O0 => (cell_alloc (o := O0) b0_2)
    have r0_0a := fun O0 => (cell_alloc (o := O0) r0_0)
    have r0_f0a := fun O0 => (r0.up ((Up.refl W2).alloc O0)).free 0
    have r0_1a := fun O0 => (cell_alloc (o := O0) r0_1)
    have r0_f1a := fun O0 => (r0.up ((Up.refl W2).alloc O0)).free 1
    have r0_2a := fun O0 => (cell_alloc (o := O0) r0_2)
    have r0_f2a := fun O0 => (r0.up ((Up.refl W2).alloc O0)).free 2
    go_wp2_with (with_reducible show wpList _ _ _ _ _ _; refine wl_max (o := ⟨some 31, _, _, _, _, _⟩) rfl _ _ _ _ rfl rfl rfl HM.out ?_)
    clear b0_0a b0_1a b0_2a r0_0a r0_f0a r0_1a r0_f1a r0_2a r0_f2a
    have b1 := Bx.new 67 W2 [.bool neg, .slice Aq1 nq1 cq1, .slice Aq1d nq1d cq1d]
    have b0_lt_b1 := b0.lt
    have r0_lt_b1 := r0.lt
    replace H := H.up ((Up.refl W2).alloc (.cells #[.bool neg, .slice Aq1 nq1 cq1, .slice Aq1d nq1d cq1d] 67))
    replace q1 := q1.up ((Up.refl W2).alloc (.cells #[.bool neg, .slice Aq1 nq1 cq1, .slice Aq1d nq1d cq1d] 67))
    replace q1d := q1d.up ((Up.refl W2).alloc (.cells #[.bool neg, .slice Aq1 nq1 cq1, .slice Aq1d nq1d cq1d] 67))
    replace b0 := b0.up ((Up.refl W2).alloc (.cells #[.bool neg, .slice Aq1 nq1 cq1, .slice Aq1d nq1d cq1d] 67))
    replace r0 := r0.up ((Up.refl W2).alloc (.cells #[.bool neg, .slice Aq1 nq1 cq1, .slice Aq1d nq1d cq1d] 67))
    replace UP := UP.trans ((Up.refl W2).alloc (.cells #[.bool neg, .slice Aq1 nq1 cq1, .slice Aq1d nq1d cq1d] 67))
    replace b0_0 := b0.cell (i := 0) rfl
    replace b0_1 := b0.cell (i := 1) rfl
    replace b0_2 := b0.cell (i := 2) rfl
    replace r0_0 := r0.cell (i := 0) rfl
    replace r0_1 := r0.cell (i := 1) rfl
    replace r0_2 := r0.cell (i := 2) rfl
    replace r0_f0 := r0.free 0
    replace r0_f1 := r0.free 1
    replace r0_f2 := r0.free 2
    generalize (W2.alloc (.cells #[.bool neg, .slice Aq1 nq1 cq1, .slice Aq1d nq1d cq1d] 67)) = W3 at *
    replace b0_0 := b0.cell (i := 0) rfl
    replace b0_1 := b0.cell (i := 1) rfl
    replace b0_2 := b0.cell (i := 2) rfl
    replace r0_0 := r0.cell (i := 0) rfl
    replace r0_1 := r0.cell (i := 1) rfl
    replace r0_2 := r0.cell (i := 2) rfl
    replace r0_f0 := r0.free 0
    replace r0_f1 := r0.free 1
    replace r0_f2 := r0.free 2
    have b1_0 := b1.cell (i := 0) rfl
    have b1_1 := b1.cell (i := 1) rfl
    have b1_2 := b1.cell (i := 2) rfl
    replace H := H.up (Up.refl W3).drew
    replace q1 := q1.up (Up.refl W3).drew
    replace q1d := q1d.up (Up.refl W3).drew
    replace b0 := b0.up (Up.refl W3).drew
    replace r0 := r0.up (Up.refl W3).drew
    replace b1 := b1.up (Up.refl W3).drew
    replace UP := UP.trans (Up.refl W3).drew
    replace b0_0 := b0.cell (i := 0) rfl
    replace b0_1 := b0.cell (i := 1) rfl
    replace b0_2 := b0.cell (i := 2) rfl
    replace r0_0 := r0.cell (i := 0) rfl
    replace r0_1 := r0.cell (i := 1) rfl
    replace r0_2 := r0.cell (i := 2) rfl
    replace r0_f0 := r0.free 0
    replace r0_f1 := r0.free 1
    replace r0_f2 := r0.free 2
    replace b1_0 := b1.cell (i := 0) rfl
    replace b1_1 := b1.cell (i := 1) rfl
    replace b1_2 := b1.cell (i := 2) rfl
    go_region_held3 (fun w' => Up w w' ∧ w'.cell? ⟨w.heap.size, 0, none⟩ = some (.bool s) ∧ w'.cell? ⟨w.heap.size, 1, none⟩ = some (.slice A l.length c) ∧ w'.cell? ⟨w.heap.size, 2, none⟩ = some (.slice D m.length d) ∧ w'.cell? ⟨w.heap.size + 1, 0, none⟩ = some (.bool false) ∧ w'.cell? ⟨w.heap.size + 1, 1, none⟩ = some (.slice none 0 0) ∧ w'.cell? ⟨w.heap.size + 1, 2, none⟩ = some (.slice none 0 0) ∧ w'.cell? ⟨W2.heap.size, 0, none⟩ = some (.bool neg) ∧ w'.cell? ⟨W2.heap.size, 1, none⟩ = some (.slice Aq1 nq1 cq1) ∧ w'.cell? ⟨W2.heap.size, 2, none⟩ = some (.slice Aq1d nq1d cq1d))
        (first | with_reducible exact ⟨UP, b0_0, b0_1, b0_2, r0_0, r0_1, r0_2, b1_0, b1_1, b1_2⟩ | with_reducible exact ⟨UP, b0_0, b0_1, b0_2, r0_0, r0_1, r0_2, b1_0, b1_1, b1_2⟩ | with_reducible exact ⟨(UP.alloc_drew _), (cell_alloc_drew b0_0), (cell_alloc_drew b0_1), (cell_alloc_drew b0_2), (cell_alloc_drew r0_0), (cell_alloc_drew r0_1), (cell_alloc_drew r0_2), (cell_alloc_drew b1_0), (cell_alloc_drew b1_1), (cell_alloc_drew b1_2)⟩ | with_reducible exact ⟨(UP.alloc2_drew _ _), (cell_alloc2_drew b0_0), (cell_alloc2_drew b0_1), (cell_alloc2_drew b0_2), (cell_alloc2_drew r0_0), (cell_alloc2_drew r0_1), (cell_alloc2_drew r0_2), (cell_alloc2_drew b1_0), (cell_alloc2_drew b1_1), (cell_alloc2_drew b1_2)⟩ | (simp only [← World.setCell_drew]; with_reducible exact ⟨UP, b0_0, b0_1, b0_2, r0_0, r0_1, r0_2, b1_0, b1_1, b1_2⟩) | go_keep)
        ((first
          | (go_at_call 84
             ((with_reducible refine (frac_power n rfl q1 (by omega) (by omega)).mono ?_))
             rintro e W4 ⟨V4, rfl, x1, u4⟩
             replace H := H.up u4
             replace q1 := q1.up u4
             replace q1d := q1d.up u4
             try (replace x1 := x1.up u4)
             try (replace x2 := x2.up u4)
             replace b0 := b0.up u4
             replace r0 := r0.up u4
             replace b1 := b1.up u4
             replace UP := UP.trans u4
             replace b0_0 := b0.cell (i := 0) rfl
             replace b0_1 := b0.cell (i := 1) rfl
             replace b0_2 := b0.cell (i := 2) rfl
             replace r0_0 := r0.cell (i := 0) rfl
             replace r0_1 := r0.cell (i := 1) rfl
             replace r0_2 := r0.cell (i := 2) rfl
             replace r0_f0 := r0.free 0
             replace r0_f1 := r0.free 1
             replace r0_f2 := r0.free 2
             replace b1_0 := b1.cell (i := 0) rfl
             replace b1_1 := b1.cell (i := 1) rfl
             replace b1_2 := b1.cell (i := 2) rfl
             clear u4
             rw [Wd.val_words] at x1
             obtain ⟨Ax1, nx1, cx1, rfl⟩ := x1.shape)
          | (go_at_call 84
             ((with_reducible refine (frac_power n rfl q1d (by omega) (by omega)).mono ?_))
             rintro e W5 ⟨V5, rfl, x2, u5⟩
             replace H := H.up u5
             replace q1 := q1.up u5
             replace q1d := q1d.up u5
             try (replace x1 := x1.up u5)
             try (replace x2 := x2.up u5)
             replace b0 := b0.up u5
             replace r0 := r0.up u5
             replace b1 := b1.up u5
             replace UP := UP.trans u5
             replace b0_0 := b0.cell (i := 0) rfl
             replace b0_1 := b0.cell (i := 1) rfl
             replace b0_2 := b0.cell (i := 2) rfl
             replace r0_0 := r0.cell (i := 0) rfl
             replace r0_1 := r0.cell (i := 1) rfl
             replace r0_2 := r0.cell (i := 2) rfl
             replace r0_f0 := r0.free 0
             replace r0_f1 := r0.free 1
             replace r0_f2 := r0.free 2
             replace b1_0 := b1.cell (i := 0) rfl
             replace b1_1 := b1.cell (i := 1) rfl
             replace b1_2 := b1.cell (i := 2) rfl
             clear u5
             rw [Wd.val_words] at x2
             obtain ⟨Ax2, nx2, cx2, rfl⟩ := x2.shape)))
    cases neg
    · skip
      go_wp2_with fail
      ((with_reducible refine (whole_norm (k := 1000000) (Wh.mk false x2 (by omega)) (by omega)).mono ?_))
      rintro e W6 ⟨V6, rfl, z1, u6⟩
      replace H := H.up u6
      replace q1 := q1.up u6
      replace q1d := q1d.up u6
      replace x1 := x1.up u6
      replace x2 := x2.up u6
      replace b0 := b0.up u6
      replace r0 := r0.up u6
      replace b1 := b1.up u6
      replace UP := UP.trans u6
      replace b0_0 := b0.cell (i := 0) rfl
      replace b0_1 := b0.cell (i := 1) rfl
      replace b0_2 := b0.cell (i := 2) rfl
      replace r0_0 := r0.cell (i := 0) rfl
      replace r0_1 := r0.cell (i := 1) rfl
      replace r0_2 := r0.cell (i := 2) rfl
      replace r0_f0 := r0.free 0
      replace r0_f1 := r0.free 1
      replace r0_f2 := r0.free 2
      replace b1_0 := b1.cell (i := 0) rfl
      replace b1_1 := b1.cell (i := 1) rfl
      replace b1_2 := b1.cell (i := 2) rfl
      clear u6
      rw [Wd.val_words, ← HN0.out (by trivial)] at z1
      obtain ⟨Xz1, rfl, z1⟩ := z1
      obtain ⟨Az1, nz1, cz1, rfl⟩ := z1.shape
      go_wp2_with fail
      exact end_qb_as HR.out.1 HR.out.2 rfl rfl rfl rfl (Qw.mk (q := q ^ (-(n : Int))) z1 x1 rfl rfl HP.out.2) r0 trivial trivial trivial UP (by omega)
    · skip
      go_wp2_with fail
      ((with_reducible refine (whole_norm (k := 1000000) (Wh.mk (((n : Nat) : Int) % 2 == 1) x2 (by omega)) (by omega)).mono ?_))
      rintro e W6 ⟨V6, rfl, z1, u6⟩
      replace H := H.up u6
      replace q1 := q1.up u6
      replace q1d := q1d.up u6
      replace x1 := x1.up u6
      replace x2 := x2.up u6
      replace b0 := b0.up u6
      replace r0 := r0.up u6
      replace b1 := b1.up u6
      replace UP := UP.trans u6
      replace b0_0 := b0.cell (i := 0) rfl
      replace b0_1 := b0.cell (i := 1) rfl
      replace b0_2 := b0.cell (i := 2) rfl
      replace r0_0 := r0.cell (i := 0) rfl
      replace r0_1 := r0.cell (i := 1) rfl
      replace r0_2 := r0.cell (i := 2) rfl
      replace r0_f0 := r0.free 0
      replace r0_f1 := r0.free 1
      replace r0_f2 := r0.free 2
      replace b1_0 := b1.cell (i := 0) rfl
      replace b1_1 := b1.cell (i := 1) rfl
      replace b1_2 := b1.cell (i := 2) rfl
      clear u6
      rw [Wd.val_words, ← HN1.out (by trivial)] at z1
      obtain ⟨Xz1, rfl, z1⟩ := z1
      obtain ⟨Az1, nz1, cz1, rfl⟩ := z1.shape
      go_wp2_with fail
      exact end_qb_as HR.out.1 HR.out.2 rfl rfl rfl rfl (Qw.mk (q := q ^ (-(n : Int))) z1 x1 rfl rfl HP.out.2) r0 trivial trivial trivial UP (by omega)
  · obtain ⟨n, rfl⟩ := Int.eq_ofNat_of_zero_le hge
    have hn8 : n ≤ 8 := by omega
    have HM : Hid (((n : Nat) : Int) = if -((n : Nat) : Int) > (n : Int) then -((n : Nat) : Int) else (n : Int)) := Lib.hid (by rw [if_neg (by omega)])
    have HP := Lib.hid (Wd.pow_up q n)
    have L1 := LPN.out n
    have L2 := LPD.out n
    clear hge o3 hok
    clear LPN LPD
    have L3 : k * n ≤ 800000 := Nat.le_trans (Nat.mul_le_mul hk hn8) (by omega)
    obtain ⟨odd, HODD⟩ : ∃ b, Hid (decide (n % 2 = 1) = b) := ⟨_, Lib.hid rfl⟩
    have HPAR : Hid ((((n : Nat) : Int) % 2 == 1) = odd) := Lib.hid (by rw [← HODD.out, Bool.eq_iff_iff]; simp; omega)
    have HN0 : Hid (neg = false → (q ^ (n : Int)).num = Wd.iv false (q.num.natAbs ^ n)) := Lib.hid (fun hh => by rw [HP.out.1, HNEG.out, hh]; rfl)
    have HN1 : Hid (neg = true → (q ^ (n : Int)).num = Wd.iv (((n : Nat) : Int) % 2 == 1) (q.num.natAbs ^ n)) := Lib.hid (fun hh => by rw [HP.out.1, HNEG.out, hh, HODD.out, HPAR.out]; rfl)
    have UP : Up w ((w.alloc (.cells #[.bool s, .slice A l.length c, .slice D m.length d] 67)).alloc (.cells #[.bool false, .slice none 0 0, .slice none 0 0] 67)) := ((Up.refl w).alloc _).alloc _
    obtain ⟨b0, r0⟩ := bx_two 67 67 w [.bool s, .slice A l.length c, .slice D m.length d] [.bool false, .slice none 0 0, .slice none 0 0]
    go_enter Try.func36, Try.ntmps36
    go_wp2_with fail
    generalize ((w.alloc (.cells #[.bool s, .slice A l.length c, .slice D m.length d] 67)).alloc (.cells #[.bool false, .slice none 0 0, .slice none 0 0] 67)) = W at *
    replace H := H.up UP
    have b0_0 := b0.cell (i := 0) rfl
    have b0_1 := b0.cell (i := 1) rfl
    have b0_2 := b0.cell (i := 2) rfl
    have r0_0 := r0.cell (i := 0) rfl
    have r0_1 := r0.cell (i := 1) rfl
    have r0_2 := r0.cell (i := 2) rfl
    have r0_f0 := r0.free 0
    have r0_f1 := r0.free 1
    have r0_f2 := r0.free 2
    skip
    go_wp2_with fail
    ((with_reducible refine (frac_norm H (by omega)).mono ?_))
    rintro e W1 ⟨V1, rfl, q1, u1⟩
    replace H := H.up u1
    replace b0 := b0.up u1
    replace r0 := r0.up u1
    replace UP := UP.trans u1
    replace b0_0 := b0.cell (i := 0) rfl
    replace b0_1 := b0.cell (i := 1) rfl
    replace b0_2 := b0.cell (i := 2) rfl
    replace r0_0 := r0.cell (i := 0) rfl
    replace r0_1 := r0.cell (i := 1) rfl
    replace r0_2 := r0.cell (i := 2) rfl
    replace r0_f0 := r0.free 0
    replace r0_f1 := r0.free 1
    replace r0_f2 := r0.free 2
    clear u1
    obtain ⟨Xq1, Yq1, rfl, q1, q1d⟩ := q1
    obtain ⟨Aq1, nq1, cq1, rfl⟩ := q1.shape
    obtain ⟨Aq1d, nq1d, cq1d, rfl⟩ := q1d.shape
    rw [HNEG.out]
    have b0_0a := fun O0 => (cell_alloc (o := O0) b0_0)
    have b0_1a := fun O0 => (cell_alloc (o := O0) b0_1)
    have b0_2a := fun O0 => (cell_alloc (o := O0) b0_2)
    have r0_0a := fun O0 => (cell_alloc (o := O0) r0_0)
    have r0_f0a := fun O0 => (r0.up ((Up.refl W1).alloc O0)).free 0
    have r0_1a := fun O0 => (cell_alloc (o := O0) r0_1)
    have r0_f1a := fun O0 => (r0.up ((Up.refl W1).alloc O0)).free 1
    have r0_2a := fun O0 => (cell_alloc (o := O0) r0_2)
    have r0_f2a := fun O0 => (r0.up ((Up.refl W1).alloc O0)).free 2
    go_wp2_with (with_reducible show wpList _ _ _ _ _ _; refine wl_max (o := ⟨some 31, _, _, _, _, _⟩) rfl _ _ _ _ rfl rfl rfl HM.out ?_)
    clear b0_0a b0_1a b0_2a r0_0a r0_f0a r0_1a r0_f1a r0_2a r0_f2a
    have b1 := Bx.new 67 W1 [.bool neg, .slice Aq1 nq1 cq1, .slice Aq1d nq1d cq1d]
    have b0_lt_b1 := b0.lt
    have r0_lt_b1 := r0.lt
    replace H := H.up ((Up.refl W1).alloc (.cells #[.bool neg, .slice Aq1 nq1 cq1, .slice Aq1d nq1d cq1d] 67))
    replace q1 := q1.up ((Up.refl W1).alloc (.cells #[.bool neg, .slice Aq1 nq1 cq1, .slice Aq1d nq1d cq1d] 67))
    replace q1d := q1d.up ((Up.refl W1).alloc (.cells #[.bool neg, .slice Aq1 nq1 cq1, .slice Aq1d nq1d cq1d] 67))
    replace b0 := b0.up ((Up.refl W1).alloc (.cells #[.bool neg, .slice Aq1 nq1 cq1, .slice Aq1d nq1d cq1d] 67))
    replace r0 := r0.up ((Up.refl W1).alloc (.cells #[.bool neg, .slice Aq1 nq1 cq1, .slice Aq1d nq1d cq1d] 67))
    replace UP := UP.trans ((Up.refl W1).alloc (.cells #[.bool neg, .slice Aq1 nq1 cq1, .slice Aq1d nq1d cq1d] 67))
    replace b0_0 := b0.cell (i := 0) rfl
    replace b0_1 := b0.cell (i := 1) rfl
    replace b0_2 := b0.cell (i := 2) rfl
    replace r0_0 := r0.cell (i := 0) rfl
    replace r0_1 := r0.cell (i := 1) rfl
    replace r0_2 := r0.cell (i := 2) rfl
    replace r0_f0 := r0.free 0
    replace r0_f1 := r0.free 1
    replace r0_f2 := r0.free 2
    generalize (W1.alloc (.cells #[.bool neg, .slice Aq1 nq1 cq1, .slice Aq1d nq1d cq1d] 67)) = W2 at *
    replace b0_0 := b0.cell (i := 0) rfl
    replace b0_1 := b0.cell (i := 1) rfl
    replace b0_2 := b0.cell (i := 2) rfl
    replace r0_0 := r0.cell (i := 0) rfl
    replace r0_1 := r0.cell (i := 1) rfl
    replace r0_2 := r0.cell (i := 2) rfl
    replace r0_f0 := r0.free 0
    replace r0_f1 := r0.free 1
    replace r0_f2 := r0.free 2
    have b1_0 := b1.cell (i := 0) rfl
    have b1_1 := b1.cell (i := 1) rfl
    have b1_2 := b1.cell (i := 2) rfl
    replace H := H.up (Up.refl W2).drew
    replace q1 := q1.up (Up.refl W2).drew
    replace q1d := q1d.up (Up.refl W2).drew
    replace b0 := b0.up (Up.refl W2).drew
    replace r0 := r0.up (Up.refl W2).drew
    replace b1 := b1.up (Up.refl W2).drew
    replace UP := UP.trans (Up.refl W2).drew
    replace b0_0 := b0.cell (i := 0) rfl
    replace b0_1 := b0.cell (i := 1) rfl
    replace b0_2 := b0.cell (i := 2) rfl
    replace r0_0 := r0.cell (i := 0) rfl
    replace r0_1 := r0.cell (i := 1) rfl
    replace r0_2 := r0.cell (i := 2) rfl
    replace r0_f0 := r0.free 0
    replace r0_f1 := r0.free 1
    replace r0_f2 := r0.free 2
    replace b1_0 := b1.cell (i := 0) rfl
    replace b1_1 := b1.cell (i := 1) rfl
    replace b1_2 := b1.cell (i := 2) rfl
    go_region_held3 (fun w' => Up w w' ∧ w'.cell? ⟨w.heap.size, 0, none⟩ = some (.bool s) ∧ w'.cell? ⟨w.heap.size, 1, none⟩ = some (.slice A l.length c) ∧ w'.cell? ⟨w.heap.size, 2, none⟩ = some (.slice D m.length d) ∧ w'.cell? ⟨w.heap.size + 1, 0, none⟩ = some (.bool false) ∧ w'.cell? ⟨w.heap.size + 1, 1, none⟩ = some (.slice none 0 0) ∧ w'.cell? ⟨w.heap.size + 1, 2, none⟩ = some (.slice none 0 0) ∧ w'.cell? ⟨W1.heap.size, 0, none⟩ = some (.bool neg) ∧ w'.cell? ⟨W1.heap.size, 1, none⟩ = some (.slice Aq1 nq1 cq1) ∧ w'.cell? ⟨W1.heap.size, 2, none⟩ = some (.slice Aq1d nq1d cq1d))
        (first | with_reducible exact ⟨UP, b0_0, b0_1, b0_2, r0_0, r0_1, r0_2, b1_0, b1_1, b1_2⟩ | with_reducible exact ⟨UP, b0_0, b0_1, b0_2, r0_0, r0_1, r0_2, b1_0, b1_1, b1_2⟩ | with_reducible exact ⟨(UP.alloc_drew _), (cell_alloc_drew b0_0), (cell_alloc_drew b0_1), (cell_alloc_drew b0_2), (cell_alloc_drew r0_0), (cell_alloc_drew r0_1), (cell_alloc_drew r0_2), (cell_alloc_drew b1_0), (cell_alloc_drew b1_1), (cell_alloc_drew b1_2)⟩ | with_reducible exact ⟨(UP.alloc2_drew _ _), (cell_alloc2_drew b0_0), (cell_alloc2_drew b0_1), (cell_alloc2_drew b0_2), (cell_alloc2_drew r0_0), (cell_alloc2_drew r0_1), (cell_alloc2_drew r0_2), (cell_alloc2_drew b1_0), (cell_alloc2_drew b1_1), (cell_alloc2_drew b1_2)⟩ | (simp only [← World.setCell_drew]; with_reducible exact ⟨UP, b0_0, b0_1, b0_2, r0_0, r0_1, r0_2, b1_0, b1_1, b1_2⟩) | go_keep)
        ((first
          | (go_at_call 84
             ((with_reducible refine (frac_power n rfl q1 (by omega) (by omega)).mono ?_))
             rintro e W3 ⟨V3, rfl, x1, u3⟩
             replace H := H.up u3
             replace q1 := q1.up u3
             replace q1d := q1d.up u3
             try (replace x1 := x1.up u3)
             try (replace x2 := x2.up u3)
             replace b0 := b0.up u3
             replace r0 := r0.up u3
             replace b1 := b1.up u3
             replace UP := UP.trans u3
             replace b0_0 := b0.cell (i := 0) rfl
             replace b0_1 := b0.cell (i := 1) rfl
             replace b0_2 := b0.cell (i := 2) rfl
             replace r0_0 := r0.cell (i := 0) rfl
             replace r0_1 := r0.cell (i := 1) rfl
             replace r0_2 := r0.cell (i := 2) rfl
             replace r0_f0 := r0.free 0
             replace r0_f1 := r0.free 1
             replace r0_f2 := r0.free 2
             replace b1_0 := b1.cell (i := 0) rfl
             replace b1_1 := b1.cell (i := 1) rfl
             replace b1_2 := b1.cell (i := 2) rfl
             clear u3
             rw [Wd.val_words] at x1
             obtain ⟨Ax1, nx1, cx1, rfl⟩ := x1.shape)
          | (go_at_call 84
             ((with_reducible refine (frac_power n rfl q1d (by omega) (by omega)).mono ?_))
             rintro e W4 ⟨V4, rfl, x2, u4⟩
             replace H := H.up u4
             replace q1 := q1.up u4
             replace q1d := q1d.up u4
             try (replace x1 := x1.up u4)
             try (replace x2 := x2.up u4)
             replace b0 := b0.up u4
             replace r0 := r0.up u4
             replace b1 := b1.up u4
             replace UP := UP.trans u4
             replace b0_0 := b0.cell (i := 0) rfl
             replace b0_1 := b0.cell (i := 1) rfl
             replace b0_2 := b0.cell (i := 2) rfl
             replace r0_0 := r0.cell (i := 0) rfl
             replace r0_1 := r0.cell (i := 1) rfl
             replace r0_2 := r0.cell (i := 2) rfl
             replace r0_f0 := r0.free 0
             replace r0_f1 := r0.free 1
             replace r0_f2 := r0.free 2
             replace b1_0 := b1.cell (i := 0) rfl
             replace b1_1 := b1.cell (i := 1) rfl
             replace b1_2 := b1.cell (i := 2) rfl
             clear u4
             rw [Wd.val_words] at x2
             obtain ⟨Ax2, nx2, cx2, rfl⟩ := x2.shape)))
    cases neg
    · skip
      go_wp2_with fail
      ((with_reducible refine (whole_norm (k := 1000000) (Wh.mk false x1 (by omega)) (by omega)).mono ?_))
      rintro e W5 ⟨V5, rfl, z1, u5⟩
      replace H := H.up u5
      replace q1 := q1.up u5
      replace q1d := q1d.up u5
      replace x1 := x1.up u5
      replace x2 := x2.up u5
      replace b0 := b0.up u5
      replace r0 := r0.up u5
      replace b1 := b1.up u5
      replace UP := UP.trans u5
      replace b0_0 := b0.cell (i := 0) rfl
      replace b0_1 := b0.cell (i := 1) rfl
      replace b0_2 := b0.cell (i := 2) rfl
      replace r0_0 := r0.cell (i := 0) rfl
      replace r0_1 := r0.cell (i := 1) rfl
      replace r0_2 := r0.cell (i := 2) rfl
      replace r0_f0 := r0.free 0
      replace r0_f1 := r0.free 1
      replace r0_f2 := r0.free 2
      replace b1_0 := b1.cell (i := 0) rfl
      replace b1_1 := b1.cell (i := 1) rfl
      replace b1_2 := b1.cell (i := 2) rfl
      clear u5
      rw [Wd.val_words, ← HN0.out (by trivial)] at z1
      obtain ⟨Xz1, rfl, z1⟩ := z1
      obtain ⟨Az1, nz1, cz1, rfl⟩ := z1.shape
      go_wp2_with fail
      exact end_qb_as HR.out.1 HR.out.2 rfl rfl rfl rfl (Qw.mk (q := q ^ (n : Int)) z1 x2 rfl rfl HP.out.2) r0 trivial trivial trivial UP (by omega)
    · skip
      go_wp2_with fail
      ((with_reducible refine (whole_norm (k := 1000000) (Wh.mk (((n : Nat) : Int) % 2 == 1) x1 (by omega)) (by omega)).mono ?_))
      rintro e W5 ⟨V5, rfl, z1, u5⟩
      replace H := H.up u5
      replace q1 := q1.up u5
      replace q1d := q1d.up u5
      replace x1 := x1.up u5
      replace x2 := x2.up u5
      replace b0 := b0.up u5
      replace r0 := r0.up u5
      replace b1 := b1.up u5
      replace UP := UP.trans u5
      replace b0_0 := b0.cell (i := 0) rfl
      replace b0_1 := b0.cell (i := 1) rfl
      replace b0_2 := b0.cell (i := 2) rfl
      replace r0_0 := r0.cell (i := 0) rfl
      replace r0_1 := r0.cell (i := 1) rfl
      replace r0_2 := r0.cell (i := 2) rfl
      replace r0_f0 := r0.free 0
      replace r0_f1 := r0.free 1
      replace r0_f2 := r0.free 2
      replace b1_0 := b1.cell (i := 0) rfl
      replace b1_1 := b1.cell (i := 1) rfl
      replace b1_2 := b1.cell (i := 2) rfl
      clear u5
      rw [Wd.val_words, ← HN1.out (by trivial)] at z1
      obtain ⟨Xz1, rfl, z1⟩ := z1
      obtain ⟨Az1, nz1, cz1, rfl⟩ := z1.shape
      go_wp2_with fail
      exact end_qb_as HR.out.1 HR.out.2 rfl rfl rfl rfl (Qw.mk (q := q ^ (n : Int)) z1 x2 rfl rfl HP.out.2) r0 trivial trivial trivial UP (by omega)
end Go.Proofs.Ytjkkeilmnklpcaa
