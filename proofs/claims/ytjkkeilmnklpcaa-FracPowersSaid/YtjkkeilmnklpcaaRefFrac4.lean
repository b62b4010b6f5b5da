/-
  Layer 9, the document's answers: powers.
-/
import Derived.Test.YtjkkeilmnklpcaaRefFrac3
import Derived.Deep.LoopGhost
set_option linter.unusedVariables false
set_option linter.unusedSimpArgs false
namespace Go.Proofs.Ytjkkeilmnklpcaa
open Go.RowKit

theorem end_rqb_as {fn : Func} {a : Act} {w0 w : World} {t t' : Tmp} {g : Nat} {q q' : Rat} {b b' s : Bool} {u d p1 p2 p3 : Value} (eq : q' = q) (eb : b' = b) (hres : fn.results = #[.cell t 61, .tmp t']) (ht : a.tmps.getD t undef = .pointer (some ⟨g, 0, none⟩)) (hb : a.tmps.getD t' undef = .bool b) (hd : a.defers = [])
    (h : Qw w (.agg #[.bool s, u, d]) q) (r : Bx 61 w g [p1, p2, p3]) (n1 : NoWord p1) (n2 : NoWord p2) (n3 : NoWord p3) (hu : Up w0 w) (hg : w0.heap.size ≤ g) :
    bodyPost Try.prog fn (RetQB q' b' w0) .ret a (((w.setCell ⟨g, 0, none⟩ (.bool s)).setCell ⟨g, 1, none⟩ u).setCell ⟨g, 2, none⟩ d) := by
  subst eq eb
  obtain ⟨r3, h3, u3⟩ := q_stored h r n1 n2 n3 hu hg
  exact bodyPost_ret (run_res_cell_tmp hres ht agg_rfrac_ size_rfrac_ r3 rfl) hd ⟨_, by rw [hb], h3, u3⟩
theorem Qw.of_ {w : World} {u d : Value} {q : Rat} (h : Ws w u (Wd.words q.num.natAbs)) (k : Ws w d (Wd.words q.den)) : Qw w (.agg #[.bool (Wd.ngb q.num), u, d]) q := ⟨u, d, rfl, h, k⟩
theorem ref9_int0 (w : World) : Calls Try.prog 47 #[.int .i64 0] w (RetQ 0 w) := ref9_int (n := 0) (by omega) w
theorem ref9_int1 (w : World) : Calls Try.prog 47 #[.int .i64 1] w (RetQ 1 w) := ref9_int (n := 1) (by omega) w

set_option maxRecDepth 100000 in
set_option maxHeartbeats 6400000 in
theorem ref9_pow {v : Value} {q : Rat} {k : Nat} {w : World} {e : Int} (h : Qw w v q) (lq : Wd.Lq q k) (hk : k ≤ 4000) (he : -9223372036854775808 ≤ e ∧ e ≤ 9223372036854775807) : Calls Try.prog 38 #[v, .int .i64 e] w (RetQB (Wd.powQ q e) (Wd.powB q e) w) := by
  have H := h
  obtain ⟨v1, v2, rfl, hl, hm⟩ := h
  obtain ⟨A, n0, c, rfl⟩ := hl.shape
  obtain ⟨D, m, d, rfl⟩ := hm.shape
  generalize hs : Wd.ngb q.num = s at *
  clear hs hl hm
  by_cases hok : Wd.powB q e = true
  rotate_left
  · have hno : Wd.powB q e = false := by simpa using hok
    have HR : Hid (Wd.powQ q e = 0 ∧ Wd.powB q e = false) := Lib.hid ⟨by unfold Wd.powQ; rw [hno]; rfl, hno⟩
    unfold Wd.powB at hno
    have hno := of_decide_eq_false hno
    clear hok
    by_cases c1 : e < -8
    · clear hno
      have UP : Up w ((w.alloc (.cells #[.bool s, .slice A n0 c, .slice D m d] 61)).alloc (.cells #[.bool false, .slice none 0 0, .slice none 0 0] 61)) := ((Up.refl w).alloc _).alloc _
      obtain ⟨b0, r0⟩ := bx_two 61 61 w [.bool s, .slice A n0 c, .slice D m d] [.bool false, .slice none 0 0, .slice none 0 0]
      go_enter Try.func38, Try.ntmps38
      go_wp2_with fail
      generalize ((w.alloc (.cells #[.bool s, .slice A n0 c, .slice D m d] 61)).alloc (.cells #[.bool false, .slice none 0 0, .slice none 0 0] 61)) = W at *
      replace H := H.up UP
      have b0_0 := b0.cell (i := 0) rfl
      have b0_1 := b0.cell (i := 1) rfl
      have b0_2 := b0.cell (i := 2) rfl
      have r0_0 := r0.cell (i := 0) rfl
      have r0_1 := r0.cell (i := 1) rfl
      have r0_2 := r0.cell (i := 2) rfl
      have r0_f0 := r0.free 0
      have r0_f1 := r0.free 1
      have r0_f2 := r0.free 2
      skip
      go_wp2_with fail
      ((with_reducible refine (ref9_int0 _).mono ?_))
      rintro e W1 ⟨V1, rfl, q1, u1⟩
      replace H := H.up u1
      replace b0 := b0.up u1
      replace r0 := r0.up u1
      replace UP := UP.trans u1
      replace b0_0 := b0.cell (i := 0) rfl
      replace b0_1 := b0.cell (i := 1) rfl
      replace b0_2 := b0.cell (i := 2) rfl
      replace r0_0 := r0.cell (i := 0) rfl
      replace r0_1 := r0.cell (i := 1) rfl
      replace r0_2 := r0.cell (i := 2) rfl
      replace r0_f0 := r0.free 0
      replace r0_f1 := r0.free 1
      replace r0_f2 := r0.free 2
      clear u1
      obtain ⟨Xq1, Yq1, rfl, q1, q1d⟩ := q1
      obtain ⟨Aq1, nq1, cq1, rfl⟩ := q1.shape
      obtain ⟨Aq1d, nq1d, cq1d, rfl⟩ := q1d.shape
      go_wp2_with fail
      exact end_rqb_as HR.out.1 HR.out.2 rfl rfl rfl rfl ⟨_, _, rfl, q1, q1d⟩ r0 trivial trivial trivial UP (by omega)
    · by_cases c2 : 8 < e
      · clear hno
        have UP : Up w ((w.alloc (.cells #[.bool s, .slice A n0 c, .slice D m d] 61)).alloc (.cells #[.bool false, .slice none 0 0, .slice none 0 0] 61)) := ((Up.refl w).alloc _).alloc _
        obtain ⟨b0, r0⟩ := bx_two 61 61 w [.bool s, .slice A n0 c, .slice D m d] [.bool false, .slice none 0 0, .slice none 0 0]
        go_enter Try.func38, Try.ntmps38
        go_wp2_with fail
        generalize ((w.alloc (.cells #[.bool s, .slice A n0 c, .slice D m d] 61)).alloc (.cells #[.bool false, .slice none 0 0, .slice none 0 0] 61)) = W at *
        replace H := H.up UP
        have b0_0 := b0.cell (i := 0) rfl
        have b0_1 := b0.cell (i := 1) rfl
        have b0_2 := b0.cell (i := 2) rfl
        have r0_0 := r0.cell (i := 0) rfl
        have r0_1 := r0.cell (i := 1) rfl
        have r0_2 := r0.cell (i := 2) rfl
        have r0_f0 := r0.free 0
        have r0_f1 := r0.free 1
        have r0_f2 := r0.free 2
        skip
        go_wp2_with fail
        ((with_reducible refine (ref9_int0 _).mono ?_))
        rintro e W1 ⟨V1, rfl, q1, u1⟩
        replace H := H.up u1
        replace b0 := b0.up u1
        replace r0 := r0.up u1
        replace UP := UP.trans u1
        replace b0_0 := b0.cell (i := 0) rfl
        replace b0_1 := b0.cell (i := 1) rfl
        replace b0_2 := b0.cell (i := 2) rfl
        replace r0_0 := r0.cell (i := 0) rfl
        replace r0_1 := r0.cell (i := 1) rfl
        replace r0_2 := r0.cell (i := 2) rfl
        replace r0_f0 := r0.free 0
        replace r0_f1 := r0.free 1
        replace r0_f2 := r0.free 2
        clear u1
        obtain ⟨Xq1, Yq1, rfl, q1, q1d⟩ := q1
        obtain ⟨Aq1, nq1, cq1, rfl⟩ := q1.shape
        obtain ⟨Aq1d, nq1d, cq1d, rfl⟩ := q1d.shape
        go_wp2_with fail
        exact end_rqb_as HR.out.1 HR.out.2 rfl rfl rfl rfl ⟨_, _, rfl, q1, q1d⟩ r0 trivial trivial trivial UP (by omega)
      · have c3 : e < 0 := by
          rcases Int.lt_or_le e 0 with h | h
          · exact h
          · exact absurd ⟨by omega, by omega, fun hh => by omega⟩ hno
        have HS : Hid (decide (q = 0) = true) := Lib.hid (by
          rcases Classical.em (q = 0) with h | h
          · exact decide_eq_true h
          · exact absurd ⟨by omega, by omega, fun hh => h hh.2⟩ hno)
        clear hno
        have UP : Up w ((w.alloc (.cells #[.bool s, .slice A n0 c, .slice D m d] 61)).alloc (.cells #[.bool false, .slice none 0 0, .slice none 0 0] 61)) := ((Up.refl w).alloc _).alloc _
        obtain ⟨b0, r0⟩ := bx_two 61 61 w [.bool s, .slice A n0 c, .slice D m d] [.bool false, .slice none 0 0, .slice none 0 0]
        go_enter Try.func38, Try.ntmps38
        go_wp2_with fail
        generalize ((w.alloc (.cells #[.bool s, .slice A n0 c, .slice D m d] 61)).alloc (.cells #[.bool false, .slice none 0 0, .slice none 0 0] 61)) = W at *
        replace H := H.up UP
        have b0_0 := b0.cell (i := 0) rfl
        have b0_1 := b0.cell (i := 1) rfl
        have b0_2 := b0.cell (i := 2) rfl
        have r0_0 := r0.cell (i := 0) rfl
        have r0_1 := r0.cell (i := 1) rfl
        have r0_2 := r0.cell (i := 2) rfl
        have r0_f0 := r0.free 0
        have r0_f1 := r0.free 1
        have r0_f2 := r0.free 2
        go_wp2_with fail
        ((with_reducible refine (ref9_zero H).mono ?_))
        rintro e W1 ⟨rfl, u1⟩
        replace H := H.up u1
        replace b0 := b0.up u1
        replace r0 := r0.up u1
        replace UP := UP.trans u1
        replace b0_0 := b0.cell (i := 0) rfl
        replace b0_1 := b0.cell (i := 1) rfl
        replace b0_2 := b0.cell (i := 2) rfl
        replace r0_0 := r0.cell (i := 0) rfl
        replace r0_1 := r0.cell (i := 1) rfl
        replace r0_2 := r0.cell (i := 2) rfl
        replace r0_f0 := r0.free 0
        replace r0_f1 := r0.free 1
        replace r0_f2 := r0.free 2
        clear u1
        rw [HS.out]
        go_wp2_with fail
        ((with_reducible refine (ref9_int0 _).mono ?_))
        rintro e W2 ⟨V2, rfl, q1, u2⟩
        replace H := H.up u2
        replace b0 := b0.up u2
        replace r0 := r0.up u2
        replace UP := UP.trans u2
        replace b0_0 := b0.cell (i := 0) rfl
        replace b0_1 := b0.cell (i := 1) rfl
        replace b0_2 := b0.cell (i := 2) rfl
        replace r0_0 := r0.cell (i := 0) rfl
        replace r0_1 := r0.cell (i := 1) rfl
        replace r0_2 := r0.cell (i := 2) rfl
        replace r0_f0 := r0.free 0
        replace r0_f1 := r0.free 1
        replace r0_f2 := r0.free 2
        clear u2
        obtain ⟨Xq1, Yq1, rfl, q1, q1d⟩ := q1
        obtain ⟨Aq1, nq1, cq1, rfl⟩ := q1.shape
        obtain ⟨Aq1d, nq1d, cq1d, rfl⟩ := q1d.shape
        go_wp2_with fail
        exact end_rqb_as HR.out.1 HR.out.2 rfl rfl rfl rfl ⟨_, _, rfl, q1, q1d⟩ r0 trivial trivial trivial UP (by omega)
  have HR : Hid (Wd.powQ q e = q ^ e ∧ Wd.powB q e = true) := Lib.hid ⟨by unfold Wd.powQ; rw [hok]; rfl, hok⟩
  unfold Wd.powB at hok
  have hok := of_decide_eq_true hok
  obtain ⟨o1, o2, o3⟩ := hok
  rcases Int.lt_or_le e 0 with hlt | hge
  · obtain ⟨N, hN⟩ := Int.eq_ofNat_of_zero_le (a := -e) (by omega)
    obtain rfl : e = -(N : Int) := by omega
    have hn8 : N ≤ 8 := by omega
    have LP := Lib.hid (fun j => (lq.pow j).inv)
    have HZ : Hid ((q ^ 0)⁻¹ = 1) := Lib.hid (by rw [Rat.pow_zero]; decide +kernel)
    have HSTEP : Hid (∀ n : Nat, (q ^ (n + 1))⁻¹ = (q ^ n)⁻¹ / q) := Lib.hid (fun n => by rw [Rat.pow_succ, Rat.inv_mul_rev, Rat.div_def, Rat.mul_comm])
    have HR : Hid (Wd.powQ q (-(N : Int)) = (q ^ N)⁻¹ ∧ Wd.powB q (-(N : Int)) = true) := Lib.hid ⟨by rw [HR.out.1, Rat.zpow_neg, Rat.zpow_natCast], HR.out.2⟩
    have HS : Hid (decide (q = 0) = false) := Lib.hid (decide_eq_false (fun hh => o3 ⟨hlt, hh⟩))
    have hN1 : 0 < N := by omega
    clear hN o3 hok
    have UP : Up w ((w.alloc (.cells #[.bool s, .slice A n0 c, .slice D m d] 61)).alloc (.cells #[.bool false, .slice none 0 0, .slice none 0 0] 61)) := ((Up.refl w).alloc _).alloc _
    obtain ⟨b0, r0⟩ := bx_two 61 61 w [.bool s, .slice A n0 c, .slice D m d] [.bool false, .slice none 0 0, .slice none 0 0]
    go_enter Try.func38, Try.ntmps38
    go_wp2_with fail
    generalize ((w.alloc (.cells #[.bool s, .slice A n0 c, .slice D m d] 61)).alloc (.cells #[.bool false, .slice none 0 0, .slice none 0 0] 61)) = W at *
    replace H := H.up UP
    have b0_0 := b0.cell (i := 0) rfl
    have b0_1 := b0.cell (i := 1) rfl
    have b0_2 := b0.cell (i := 2) rfl
    have r0_0 := r0.cell (i := 0) rfl
    have r0_1 := r0.cell (i := 1) rfl
    have r0_2 := r0.cell (i := 2) rfl
    have r0_f0 := r0.free 0
    have r0_f1 := r0.free 1
    have r0_f2 := r0.free 2
    go_wp2_with fail
    ((with_reducible refine (ref9_zero H).mono ?_))
    rintro e W1 ⟨rfl, u1⟩
    replace H := H.up u1
    replace b0 := b0.up u1
    replace r0 := r0.up u1
    replace UP := UP.trans u1
    replace b0_0 := b0.cell (i := 0) rfl
    replace b0_1 := b0.cell (i := 1) rfl
    replace b0_2 := b0.cell (i := 2) rfl
    replace r0_0 := r0.cell (i := 0) rfl
    replace r0_1 := r0.cell (i := 1) rfl
    replace r0_2 := r0.cell (i := 2) rfl
    replace r0_f0 := r0.free 0
    replace r0_f1 := r0.free 1
    replace r0_f2 := r0.free 2
    clear u1
    rw [HS.out]
    go_wp2_with fail
    ((with_reducible refine (ref9_int1 _).mono ?_))
    rintro e W2 ⟨V2, rfl, o, u2⟩
    replace H := H.up u2
    replace b0 := b0.up u2
    replace r0 := r0.up u2
    replace UP := UP.trans u2
    replace b0_0 := b0.cell (i := 0) rfl
    replace b0_1 := b0.cell (i := 1) rfl
    replace b0_2 := b0.cell (i := 2) rfl
    replace r0_0 := r0.cell (i := 0) rfl
    replace r0_1 := r0.cell (i := 1) rfl
    replace r0_2 := r0.cell (i := 2) rfl
    replace r0_f0 := r0.free 0
    replace r0_f1 := r0.free 1
    replace r0_f2 := r0.free 2
    clear u2
    obtain ⟨P0, HP0⟩ : ∃ P, Hid ((1 : Rat) = P) := ⟨_, Lib.hid rfl⟩
    rw [HP0.out] at o
    obtain ⟨Xo, Yo, rfl, o, od⟩ := o
    obtain ⟨Ao, no, co, rfl⟩ := o.shape
    obtain ⟨Aod, nod, cod, rfl⟩ := od.shape
    have b0_0a := fun O0 => (cell_alloc (o := O0) b0_0)
    have b0_1a := fun O0 => (cell_alloc (o := O0) b0_1)
    have b0_2a := fun O0 => (cell_alloc (o := O0) b0_2)
    have r0_0a := fun O0 => (cell_alloc (o := O0) r0_0)
    have r0_f0a := fun O0 => (r0.up ((Up.refl W2).alloc O0)).free 0
    have r0_1a := fun O0 => (cell_alloc (o := O0) r0_1)
    have r0_f1a := fun O0 => (r0.up ((Up.refl W2).alloc O0)).free 1
    have r0_2a := fun O0 => (cell_alloc (o := O0) r0_2)
    have r0_f2a := fun O0 => (r0.up ((Up.refl W2).alloc O0)).free 2
    go_wp2_with fail
    clear b0_0a b0_1a b0_2a r0_0a r0_f0a r0_1a r0_f1a r0_2a r0_f2a
    have x1 := Bx.new 61 W2 [.bool (Wd.ngb P0.num), .slice Ao no co, .slice Aod nod cod]
    have b0_lt_x1 := b0.lt
    have b0_ne_x1 : ¬ (w.heap.size = W2.heap.size) := by omega
    have b0_en_x1 : ¬ (W2.heap.size = w.heap.size) := by omega
    have r0_lt_x1 := r0.lt
    have r0_ne_x1 : ¬ (w.heap.size + 1 = W2.heap.size) := by omega
    have r0_en_x1 : ¬ (W2.heap.size = w.heap.size + 1) := by omega
    replace H := H.up ((Up.refl W2).alloc (.cells #[.bool (Wd.ngb P0.num), .slice Ao no co, .slice Aod nod cod] 61))
    replace o := o.up ((Up.refl W2).alloc (.cells #[.bool (Wd.ngb P0.num), .slice Ao no co, .slice Aod nod cod] 61))
    replace od := od.up ((Up.refl W2).alloc (.cells #[.bool (Wd.ngb P0.num), .slice Ao no co, .slice Aod nod cod] 61))
    replace b0 := b0.up ((Up.refl W2).alloc (.cells #[.bool (Wd.ngb P0.num), .slice Ao no co, .slice Aod nod cod] 61))
    replace r0 := r0.up ((Up.refl W2).alloc (.cells #[.bool (Wd.ngb P0.num), .slice Ao no co, .slice Aod nod cod] 61))
    replace UP := UP.trans ((Up.refl W2).alloc (.cells #[.bool (Wd.ngb P0.num), .slice Ao no co, .slice Aod nod cod] 61))
    replace b0_0 := b0.cell (i := 0) rfl
    replace b0_1 := b0.cell (i := 1) rfl
    replace b0_2 := b0.cell (i := 2) rfl
    replace r0_0 := r0.cell (i := 0) rfl
    replace r0_1 := r0.cell (i := 1) rfl
    replace r0_2 := r0.cell (i := 2) rfl
    replace r0_f0 := r0.free 0
    replace r0_f1 := r0.free 1
    replace r0_f2 := r0.free 2
    generalize (W2.alloc (.cells #[.bool (Wd.ngb P0.num), .slice Ao no co, .slice Aod nod cod] 61)) = W3 at *
    replace b0_0 := b0.cell (i := 0) rfl
    replace b0_1 := b0.cell (i := 1) rfl
    replace b0_2 := b0.cell (i := 2) rfl
    replace r0_0 := r0.cell (i := 0) rfl
    replace r0_1 := r0.cell (i := 1) rfl
    replace r0_2 := r0.cell (i := 2) rfl
    replace r0_f0 := r0.free 0
    replace r0_f1 := r0.free 1
    replace r0_f2 := r0.free 2
    have x1_0 := x1.cell (i := 0) rfl
    have x1_1 := x1.cell (i := 1) rfl
    have x1_2 := x1.cell (i := 2) rfl
    have x1_f0 := x1.free 0
    have x1_f1 := x1.free 1
    have x1_f2 := x1.free 2
    refine wp_loop_rounds 1 ?_
    rw [rounds_succ]
    go_wp2_with fail
    go_loopw [8] (fun s7 wr => ∃ (n : Nat) (s' : Bool) (A' D' : Option Addr) (n1 c1 n2 c2 : Nat), s7 = .int .i64 (-(n : Int)) ∧ n ≤ N ∧ Bx 61 wr W2.heap.size [.bool s', .slice A' n1 c1, .slice D' n2 c2] ∧ Qw wr (.agg #[.bool s', .slice A' n1 c1, .slice D' n2 c2]) ((q ^ n)⁻¹) ∧ Bx 61 wr w.heap.size [.bool s, .slice A n0 c, .slice D m d] ∧ Bx 61 wr (w.heap.size + 1) [.bool false, .slice none 0 0, .slice none 0 0] ∧ Qw wr (.agg #[.bool s, .slice A n0 c, .slice D m d]) q ∧ Up w wr) (fun s7 _ => N - (-(intOf s7)).toNat)
    case atStart => exact ⟨0, _, _, _, _, _, _, _, rfl, Nat.zero_le _, x1, by rw [HZ.out, HP0.out]; exact Qw.of_ o od, b0, r0, H, UP⟩
    case round =>
      obtain ⟨n, s', A', D', n1, c1, n2, c2, rfl, hn, x1, X, b0, r0, H, UP⟩ := hrel
      have b0_0 := b0.cell (i := 0) rfl
      have b0_1 := b0.cell (i := 1) rfl
      have b0_2 := b0.cell (i := 2) rfl
      have r0_0 := r0.cell (i := 0) rfl
      have r0_1 := r0.cell (i := 1) rfl
      have r0_2 := r0.cell (i := 2) rfl
      have r0_f0 := r0.free 0
      have r0_f1 := r0.free 1
      have r0_f2 := r0.free 2
      have x1_0 := x1.cell (i := 0) rfl
      have x1_1 := x1.cell (i := 1) rfl
      have x1_2 := x1.cell (i := 2) rfl
      have x1_f0 := x1.free 0
      have x1_f1 := x1.free 1
      have x1_f2 := x1.free 2
      have hkn : k * n ≤ 32000 := Nat.le_trans (Nat.mul_le_mul hk (show n ≤ 8 by omega)) (by omega)
      by_cases hlt : n < N
      · have HS := Lib.hid (HSTEP.out n)
        go_wp2_with fail
        ((with_reducible refine (ref9_quo X H (LP.out n) lq (by omega) (by omega)).mono ?_))
        rintro e W51 ⟨V51, rfl, y, u51⟩
        replace H := H.up u51
        replace X := X.up u51
        replace b0 := b0.up u51
        replace r0 := r0.up u51
        replace x1 := x1.up u51
        replace UP := UP.trans u51
        replace b0_0 := b0.cell (i := 0) rfl
        replace b0_1 := b0.cell (i := 1) rfl
        replace b0_2 := b0.cell (i := 2) rfl
        replace r0_0 := r0.cell (i := 0) rfl
        replace r0_1 := r0.cell (i := 1) rfl
        replace r0_2 := r0.cell (i := 2) rfl
        replace r0_f0 := r0.free 0
        replace r0_f1 := r0.free 1
        replace r0_f2 := r0.free 2
        replace x1_0 := x1.cell (i := 0) rfl
        replace x1_1 := x1.cell (i := 1) rfl
        replace x1_2 := x1.cell (i := 2) rfl
        replace x1_f0 := x1.free 0
        replace x1_f1 := x1.free 1
        replace x1_f2 := x1.free 2
        clear u51
        obtain ⟨P1, HP1⟩ : ∃ P, Hid ((q ^ (n + 1))⁻¹ = P) := ⟨_, Lib.hid rfl⟩
        rw [← HS.out, HP1.out] at y
        obtain ⟨Xy, Yy, rfl, y, yd⟩ := y
        obtain ⟨Ay, ny, cy, rfl⟩ := y.shape
        obtain ⟨Ayd, nyd, cyd, rfl⟩ := yd.shape
        go_wp2_with fail
        have KW : Kw (W51) ((W51).setCell ⟨W2.heap.size, 0, none⟩ (.bool (Wd.ngb P1.num))) := Kw.store (c := (.bool s')) x1 rfl trivial _
        replace H := H.kw KW
        replace X := X.kw KW
        replace y := y.kw KW
        replace yd := yd.kw KW
        replace b0 := b0.far (p := ⟨W2.heap.size, 0, none⟩) (by dsimp only; omega) (.bool (Wd.ngb P1.num))
        replace r0 := r0.far (p := ⟨W2.heap.size, 0, none⟩) (by dsimp only; omega) (.bool (Wd.ngb P1.num))
        replace x1 : Bx 61 ((W51).setCell ⟨W2.heap.size, 0, none⟩ (.bool (Wd.ngb P1.num))) (W2.heap.size) [.bool (Wd.ngb P1.num), .slice A' n1 c1, .slice D' n2 c2] := x1.set 0 (.bool (Wd.ngb P1.num))
        replace UP := UP.setCell (p := ⟨W2.heap.size, 0, none⟩) (by dsimp only; omega) (.bool (Wd.ngb P1.num))
        have KW : Kw (((W51).setCell ⟨W2.heap.size, 0, none⟩ (.bool (Wd.ngb P1.num)))) ((((W51).setCell ⟨W2.heap.size, 0, none⟩ (.bool (Wd.ngb P1.num)))).setCell ⟨W2.heap.size, 1, none⟩ (.slice Ay ny cy)) := Kw.store (c := (.slice A' n1 c1)) x1 rfl trivial _
        replace H := H.kw KW
        replace X := X.kw KW
        replace y := y.kw KW
        replace yd := yd.kw KW
        replace b0 := b0.far (p := ⟨W2.heap.size, 1, none⟩) (by dsimp only; omega) (.slice Ay ny cy)
        replace r0 := r0.far (p := ⟨W2.heap.size, 1, none⟩) (by dsimp only; omega) (.slice Ay ny cy)
        replace x1 : Bx 61 ((((W51).setCell ⟨W2.heap.size, 0, none⟩ (.bool (Wd.ngb P1.num)))).setCell ⟨W2.heap.size, 1, none⟩ (.slice Ay ny cy)) (W2.heap.size) [.bool (Wd.ngb P1.num), .slice Ay ny cy, .slice D' n2 c2] := x1.set 1 (.slice Ay ny cy)
        replace UP := UP.setCell (p := ⟨W2.heap.size, 1, none⟩) (by dsimp only; omega) (.slice Ay ny cy)
        have KW : Kw (((((W51).setCell ⟨W2.heap.size, 0, none⟩ (.bool (Wd.ngb P1.num)))).setCell ⟨W2.heap.size, 1, none⟩ (.slice Ay ny cy))) ((((((W51).setCell ⟨W2.heap.size, 0, none⟩ (.bool (Wd.ngb P1.num)))).setCell ⟨W2.heap.size, 1, none⟩ (.slice Ay ny cy))).setCell ⟨W2.heap.size, 2, none⟩ (.slice Ayd nyd cyd)) := Kw.store (c := (.slice D' n2 c2)) x1 rfl trivial _
        replace H := H.kw KW
        replace X := X.kw KW
        replace y := y.kw KW
        replace yd := yd.kw KW
        replace b0 := b0.far (p := ⟨W2.heap.size, 2, none⟩) (by dsimp only; omega) (.slice Ayd nyd cyd)
        replace r0 := r0.far (p := ⟨W2.heap.size, 2, none⟩) (by dsimp only; omega) (.slice Ayd nyd cyd)
        replace x1 : Bx 61 ((((((W51).setCell ⟨W2.heap.size, 0, none⟩ (.bool (Wd.ngb P1.num)))).setCell ⟨W2.heap.size, 1, none⟩ (.slice Ay ny cy))).setCell ⟨W2.heap.size, 2, none⟩ (.slice Ayd nyd cyd)) (W2.heap.size) [.bool (Wd.ngb P1.num), .slice Ay ny cy, .slice Ayd nyd cyd] := x1.set 2 (.slice Ayd nyd cyd)
        replace UP := UP.setCell (p := ⟨W2.heap.size, 2, none⟩) (by dsimp only; omega) (.slice Ayd nyd cyd)
        clear KW
        generalize ((((((W51).setCell ⟨W2.heap.size, 0, none⟩ (.bool (Wd.ngb P1.num)))).setCell ⟨W2.heap.size, 1, none⟩ (.slice Ay ny cy))).setCell ⟨W2.heap.size, 2, none⟩ (.slice Ayd nyd cyd)) = W52 at *
        replace b0_0 := b0.cell (i := 0) rfl
        replace b0_1 := b0.cell (i := 1) rfl
        replace b0_2 := b0.cell (i := 2) rfl
        replace r0_0 := r0.cell (i := 0) rfl
        replace r0_1 := r0.cell (i := 1) rfl
        replace r0_2 := r0.cell (i := 2) rfl
        replace r0_f0 := r0.free 0
        replace r0_f1 := r0.free 1
        replace r0_f2 := r0.free 2
        replace x1_0 := x1.cell (i := 0) rfl
        replace x1_1 := x1.cell (i := 1) rfl
        replace x1_2 := x1.cell (i := 2) rfl
        go_roundw
        case rel => exact ⟨n + 1, _, _, _, _, _, _, _, by first | go_num | (congr 1; omega), by omega, x1, by rw [HP1.out]; exact Qw.of_ y yd, b0, r0, H, UP⟩
        case measure => simp [intOf]; omega
      · obtain rfl : n = N := by omega
        go_wp2_with fail
        exact end_rqb_as HR.out.1 HR.out.2 rfl rfl rfl rfl X r0 trivial trivial trivial UP (by omega)
  · obtain ⟨N, rfl⟩ := Int.eq_ofNat_of_zero_le hge
    have hn8 : N ≤ 8 := by omega
    have LP := Lib.hid (fun j => lq.pow j)
    have HZ : Hid (q ^ 0 = 1) := Lib.hid (Rat.pow_zero q)
    have HSTEP := Lib.hid (Rat.pow_succ q)
    have HR : Hid (Wd.powQ q (N : Int) = q ^ N ∧ Wd.powB q (N : Int) = true) := Lib.hid ⟨by rw [HR.out.1, Rat.zpow_natCast], HR.out.2⟩
    clear hge o3 hok
    have UP : Up w ((w.alloc (.cells #[.bool s, .slice A n0 c, .slice D m d] 61)).alloc (.cells #[.bool false, .slice none 0 0, .slice none 0 0] 61)) := ((Up.refl w).alloc _).alloc _
    obtain ⟨b0, r0⟩ := bx_two 61 61 w [.bool s, .slice A n0 c, .slice D m d] [.bool false, .slice none 0 0, .slice none 0 0]
    go_enter Try.func38, Try.ntmps38
    go_wp2_with fail
    generalize ((w.alloc (.cells #[.bool s, .slice A n0 c, .slice D m d] 61)).alloc (.cells #[.bool false, .slice none 0 0, .slice none 0 0] 61)) = W at *
    replace H := H.up UP
    have b0_0 := b0.cell (i := 0) rfl
    have b0_1 := b0.cell (i := 1) rfl
    have b0_2 := b0.cell (i := 2) rfl
    have r0_0 := r0.cell (i := 0) rfl
    have r0_1 := r0.cell (i := 1) rfl
    have r0_2 := r0.cell (i := 2) rfl
    have r0_f0 := r0.free 0
    have r0_f1 := r0.free 1
    have r0_f2 := r0.free 2
    skip
    go_wp2_with fail
    ((with_reducible refine (ref9_int1 _).mono ?_))
    rintro e W1 ⟨V1, rfl, o, u1⟩
    replace H := H.up u1
    replace b0 := b0.up u1
    replace r0 := r0.up u1
    replace UP := UP.trans u1
    replace b0_0 := b0.cell (i := 0) rfl
    replace b0_1 := b0.cell (i := 1) rfl
    replace b0_2 := b0.cell (i := 2) rfl
    replace r0_0 := r0.cell (i := 0) rfl
    replace r0_1 := r0.cell (i := 1) rfl
    replace r0_2 := r0.cell (i := 2) rfl
    replace r0_f0 := r0.free 0
    replace r0_f1 := r0.free 1
    replace r0_f2 := r0.free 2
    clear u1
    obtain ⟨P0, HP0⟩ : ∃ P, Hid ((1 : Rat) = P) := ⟨_, Lib.hid rfl⟩
    rw [HP0.out] at o
    obtain ⟨Xo, Yo, rfl, o, od⟩ := o
    obtain ⟨Ao, no, co, rfl⟩ := o.shape
    obtain ⟨Aod, nod, cod, rfl⟩ := od.shape
    have b0_0a := fun O0 => (cell_alloc (o := O0) b0_0)
    have b0_1a := fun O0 => (cell_alloc (o := O0) b0_1)
    have b0_2a := fun O0 => (cell_alloc (o := O0) b0_2)
    have r0_0a := fun O0 => (cell_alloc (o := O0) r0_0)
    have r0_f0a := fun O0 => (r0.up ((Up.refl W1).alloc O0)).free 0
    have r0_1a := fun O0 => (cell_alloc (o := O0) r0_1)
    have r0_f1a := fun O0 => (r0.up ((Up.refl W1).alloc O0)).free 1
    have r0_2a := fun O0 => (cell_alloc (o := O0) r0_2)
    have r0_f2a := fun O0 => (r0.up ((Up.refl W1).alloc O0)).free 2
    go_wp2_with fail
    clear b0_0a b0_1a b0_2a r0_0a r0_f0a r0_1a r0_f1a r0_2a r0_f2a
    have x1 := Bx.new 61 W1 [.bool (Wd.ngb P0.num), .slice Ao no co, .slice Aod nod cod]
    have b0_lt_x1 := b0.lt
    have b0_ne_x1 : ¬ (w.heap.size = W1.heap.size) := by omega
    have b0_en_x1 : ¬ (W1.heap.size = w.heap.size) := by omega
    have r0_lt_x1 := r0.lt
    have r0_ne_x1 : ¬ (w.heap.size + 1 = W1.heap.size) := by omega
    have r0_en_x1 : ¬ (W1.heap.size = w.heap.size + 1) := by omega
    replace H := H.up ((Up.refl W1).alloc (.cells #[.bool (Wd.ngb P0.num), .slice Ao no co, .slice Aod nod cod] 61))
    replace o := o.up ((Up.refl W1).alloc (.cells #[.bool (Wd.ngb P0.num), .slice Ao no co, .slice Aod nod cod] 61))
    replace od := od.up ((Up.refl W1).alloc (.cells #[.bool (Wd.ngb P0.num), .slice Ao no co, .slice Aod nod cod] 61))
    replace b0 := b0.up ((Up.refl W1).alloc (.cells #[.bool (Wd.ngb P0.num), .slice Ao no co, .slice Aod nod cod] 61))
    replace r0 := r0.up ((Up.refl W1).alloc (.cells #[.bool (Wd.ngb P0.num), .slice Ao no co, .slice Aod nod cod] 61))
    replace UP := UP.trans ((Up.refl W1).alloc (.cells #[.bool (Wd.ngb P0.num), .slice Ao no co, .slice Aod nod cod] 61))
    replace b0_0 := b0.cell (i := 0) rfl
    replace b0_1 := b0.cell (i := 1) rfl
    replace b0_2 := b0.cell (i := 2) rfl
    replace r0_0 := r0.cell (i := 0) rfl
    replace r0_1 := r0.cell (i := 1) rfl
    replace r0_2 := r0.cell (i := 2) rfl
    replace r0_f0 := r0.free 0
    replace r0_f1 := r0.free 1
    replace r0_f2 := r0.free 2
    generalize (W1.alloc (.cells #[.bool (Wd.ngb P0.num), .slice Ao no co, .slice Aod nod cod] 61)) = W2 at *
    replace b0_0 := b0.cell (i := 0) rfl
    replace b0_1 := b0.cell (i := 1) rfl
    replace b0_2 := b0.cell (i := 2) rfl
    replace r0_0 := r0.cell (i := 0) rfl
    replace r0_1 := r0.cell (i := 1) rfl
    replace r0_2 := r0.cell (i := 2) rfl
    replace r0_f0 := r0.free 0
    replace r0_f1 := r0.free 1
    replace r0_f2 := r0.free 2
    have x1_0 := x1.cell (i := 0) rfl
    have x1_1 := x1.cell (i := 1) rfl
    have x1_2 := x1.cell (i := 2) rfl
    have x1_f0 := x1.free 0
    have x1_f1 := x1.free 1
    have x1_f2 := x1.free 2
    go_loopw [7] (fun s7 wr => ∃ (n : Nat) (s' : Bool) (A' D' : Option Addr) (n1 c1 n2 c2 : Nat), s7 = .int .i64 n ∧ n ≤ N ∧ Bx 61 wr W1.heap.size [.bool s', .slice A' n1 c1, .slice D' n2 c2] ∧ Qw wr (.agg #[.bool s', .slice A' n1 c1, .slice D' n2 c2]) (q ^ n) ∧ Bx 61 wr w.heap.size [.bool s, .slice A n0 c, .slice D m d] ∧ Bx 61 wr (w.heap.size + 1) [.bool false, .slice none 0 0, .slice none 0 0] ∧ Qw wr (.agg #[.bool s, .slice A n0 c, .slice D m d]) q ∧ Up w wr) (fun s7 _ => N - (intOf s7).toNat)
    case atStart => exact ⟨0, _, _, _, _, _, _, _, rfl, Nat.zero_le _, x1, by rw [HZ.out, HP0.out]; exact Qw.of_ o od, b0, r0, H, UP⟩
    case round =>
      obtain ⟨n, s', A', D', n1, c1, n2, c2, rfl, hn, x1, X, b0, r0, H, UP⟩ := hrel
      have b0_0 := b0.cell (i := 0) rfl
      have b0_1 := b0.cell (i := 1) rfl
      have b0_2 := b0.cell (i := 2) rfl
      have r0_0 := r0.cell (i := 0) rfl
      have r0_1 := r0.cell (i := 1) rfl
      have r0_2 := r0.cell (i := 2) rfl
      have r0_f0 := r0.free 0
      have r0_f1 := r0.free 1
      have r0_f2 := r0.free 2
      have x1_0 := x1.cell (i := 0) rfl
      have x1_1 := x1.cell (i := 1) rfl
      have x1_2 := x1.cell (i := 2) rfl
      have x1_f0 := x1.free 0
      have x1_f1 := x1.free 1
      have x1_f2 := x1.free 2
      have hkn : k * n ≤ 32000 := Nat.le_trans (Nat.mul_le_mul hk (show n ≤ 8 by omega)) (by omega)
      by_cases hlt : n < N
      · have HS := Lib.hid (HSTEP.out n)
        go_wp2_with fail
        ((with_reducible refine (ref9_mul X H (LP.out n) lq (by omega) (by omega)).mono ?_))
        rintro e W51 ⟨V51, rfl, y, u51⟩
        replace H := H.up u51
        replace X := X.up u51
        replace b0 := b0.up u51
        replace r0 := r0.up u51
        replace x1 := x1.up u51
        replace UP := UP.trans u51
        replace b0_0 := b0.cell (i := 0) rfl
        replace b0_1 := b0.cell (i := 1) rfl
        replace b0_2 := b0.cell (i := 2) rfl
        replace r0_0 := r0.cell (i := 0) rfl
        replace r0_1 := r0.cell (i := 1) rfl
        replace r0_2 := r0.cell (i := 2) rfl
        replace r0_f0 := r0.free 0
        replace r0_f1 := r0.free 1
        replace r0_f2 := r0.free 2
        replace x1_0 := x1.cell (i := 0) rfl
        replace x1_1 := x1.cell (i := 1) rfl
        replace x1_2 := x1.cell (i := 2) rfl
        replace x1_f0 := x1.free 0
        replace x1_f1 := x1.free 1
        replace x1_f2 := x1.free 2
        clear u51
        obtain ⟨P1, HP1⟩ : ∃ P, Hid (q ^ (n + 1) = P) := ⟨_, Lib.hid rfl⟩
        rw [← HS.out, HP1.out] at y
        obtain ⟨Xy, Yy, rfl, y, yd⟩ := y
        obtain ⟨Ay, ny, cy, rfl⟩ := y.shape
        obtain ⟨Ayd, nyd, cyd, rfl⟩ := yd.shape
        go_wp2_with fail
        have KW : Kw (W51) ((W51).setCell ⟨W1.heap.size, 0, none⟩ (.bool (Wd.ngb P1.num))) := Kw.store (c := (.bool s')) x1 rfl trivial _
        replace H := H.kw KW
        replace X := X.kw KW
        replace y := y.kw KW
        replace yd := yd.kw KW
        replace b0 := b0.far (p := ⟨W1.heap.size, 0, none⟩) (by dsimp only; omega) (.bool (Wd.ngb P1.num))
        replace r0 := r0.far (p := ⟨W1.heap.size, 0, none⟩) (by dsimp only; omega) (.bool (Wd.ngb P1.num))
        replace x1 : Bx 61 ((W51).setCell ⟨W1.heap.size, 0, none⟩ (.bool (Wd.ngb P1.num))) (W1.heap.size) [.bool (Wd.ngb P1.num), .slice A' n1 c1, .slice D' n2 c2] := x1.set 0 (.bool (Wd.ngb P1.num))
        replace UP := UP.setCell (p := ⟨W1.heap.size, 0, none⟩) (by dsimp only; omega) (.bool (Wd.ngb P1.num))
        have KW : Kw (((W51).setCell ⟨W1.heap.size, 0, none⟩ (.bool (Wd.ngb P1.num)))) ((((W51).setCell ⟨W1.heap.size, 0, none⟩ (.bool (Wd.ngb P1.num)))).setCell ⟨W1.heap.size, 1, none⟩ (.slice Ay ny cy)) := Kw.store (c := (.slice A' n1 c1)) x1 rfl trivial _
        replace H := H.kw KW
        replace X := X.kw KW
        replace y := y.kw KW
        replace yd := yd.kw KW
        replace b0 := b0.far (p := ⟨W1.heap.size, 1, none⟩) (by dsimp only; omega) (.slice Ay ny cy)
        replace r0 := r0.far (p := ⟨W1.heap.size, 1, none⟩) (by dsimp only; omega) (.slice Ay ny cy)
        replace x1 : Bx 61 ((((W51).setCell ⟨W1.heap.size, 0, none⟩ (.bool (Wd.ngb P1.num)))).setCell ⟨W1.heap.size, 1, none⟩ (.slice Ay ny cy)) (W1.heap.size) [.bool (Wd.ngb P1.num), .slice Ay ny cy, .slice D' n2 c2] := x1.set 1 (.slice Ay ny cy)
        replace UP := UP.setCell (p := ⟨W1.heap.size, 1, none⟩) (by dsimp only; omega) (.slice Ay ny cy)
        have KW : Kw (((((W51).setCell ⟨W1.heap.size, 0, none⟩ (.bool (Wd.ngb P1.num)))).setCell ⟨W1.heap.size, 1, none⟩ (.slice Ay ny cy))) ((((((W51).setCell ⟨W1.heap.size, 0, none⟩ (.bool (Wd.ngb P1.num)))).setCell ⟨W1.heap.size, 1, none⟩ (.slice Ay ny cy))).setCell ⟨W1.heap.size, 2, none⟩ (.slice Ayd nyd cyd)) := Kw.store (c := (.slice D' n2 c2)) x1 rfl trivial _
        replace H := H.kw KW
        replace X := X.kw KW
        replace y := y.kw KW
        replace yd := yd.kw KW
        replace b0 := b0.far (p := ⟨W1.heap.size, 2, none⟩) (by dsimp only; omega) (.slice Ayd nyd cyd)
        replace r0 := r0.far (p := ⟨W1.heap.size, 2, none⟩) (by dsimp only; omega) (.slice Ayd nyd cyd)
        replace x1 : Bx 61 ((((((W51).setCell ⟨W1.heap.size, 0, none⟩ (.bool (Wd.ngb P1.num)))).setCell ⟨W1.heap.size, 1, none⟩ (.slice Ay ny cy))).setCell ⟨W1.heap.size, 2, none⟩ (.slice Ayd nyd cyd)) (W1.heap.size) [.bool (Wd.ngb P1.num), .slice Ay ny cy, .slice Ayd nyd cyd] := x1.set 2 (.slice Ayd nyd cyd)
        replace UP := UP.setCell (p := ⟨W1.heap.size, 2, none⟩) (by dsimp only; omega) (.slice Ayd nyd cyd)
        clear KW
        generalize ((((((W51).setCell ⟨W1.heap.size, 0, none⟩ (.bool (Wd.ngb P1.num)))).setCell ⟨W1.heap.size, 1, none⟩ (.slice Ay ny cy))).setCell ⟨W1.heap.size, 2, none⟩ (.slice Ayd nyd cyd)) = W52 at *
        replace b0_0 := b0.cell (i := 0) rfl
        replace b0_1 := b0.cell (i := 1) rfl
        replace b0_2 := b0.cell (i := 2) rfl
        replace r0_0 := r0.cell (i := 0) rfl
        replace r0_1 := r0.cell (i := 1) rfl
        replace r0_2 := r0.cell (i := 2) rfl
        replace r0_f0 := r0.free 0
        replace r0_f1 := r0.free 1
        replace r0_f2 := r0.free 2
        replace x1_0 := x1.cell (i := 0) rfl
        replace x1_1 := x1.cell (i := 1) rfl
        replace x1_2 := x1.cell (i := 2) rfl
        go_roundw
        case rel => exact ⟨n + 1, _, _, _, _, _, _, _, by go_num, by omega, x1, by rw [HP1.out]; exact Qw.of_ y yd, b0, r0, H, UP⟩
        case measure => simp [intOf]; omega
      · obtain rfl : n = N := by omega
        go_wp2_with fail
        refine wp_loop_rounds 1 ?_
        rw [rounds_succ]
        go_wp2_with fail
        exact end_rqb_as HR.out.1 HR.out.2 rfl rfl rfl rfl X r0 trivial trivial trivial UP (by omega)
end Go.Proofs.Ytjkkeilmnklpcaa
