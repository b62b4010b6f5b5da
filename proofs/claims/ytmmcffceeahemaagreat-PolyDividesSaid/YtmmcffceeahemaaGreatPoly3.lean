/-
  Layer 14: a polynomial's value.
-/
import Derived.Test.YtmmcffceeahemaaGreatPoly2
set_option linter.unusedVariables false
set_option linter.unusedSimpArgs false
namespace Pq
theorem E_drop {p : List Rat} {m : Nat} (h : m < p.length) (x : Rat) : E (p.drop m) x = E (p.drop (m + 1)) x * x + p[m] := by
 rw [List.drop_eq_getElem_cons h]
 show p[m] + x * E (p.drop (m + 1)) x = _
 rw [Rat.add_comm, Rat.mul_comm]
end Pq
namespace Go.Proofs.YtmmcffceeahemaaGreat
open Go.RowKit

theorem lq_eval {x : Rat} {kx ka : Nat} (hx : Wd.Lq x kx) : ∀ (qs : List Rat), (∀ q ∈ qs, Wd.Lq q ka) → Wd.Lq (Pq.E qs x) (qs.length * (kx + ka + 1) + 2)
 | [], _ => (lq_int (n := 0) (by omega)).mono (by simp)
 | a :: p, h => by
   have := (h a (by simp)).add (hx.mul (lq_eval hx p (fun q hq => h q (by simp [hq]))))
   refine this.mono ?_
   rw [List.length_cons, Nat.succ_mul]
   omega

theorem qw_of {w : World} {u d : Value} {q : Rat} (h : Ws w u (Wd.words q.num.natAbs)) (k : Ws w d (Wd.words q.den)) : Qw w (.agg #[.bool (Wd.ngb q.num), u, d]) q := ⟨_, _, rfl, h, k⟩
theorem sq_lq {k : Nat} {w : World} {v : Value} {qs : List Rat} (h : Sq (Frk k) w v qs) : ∀ q ∈ qs, Wd.Lq q k := by
 intro q hq
 obtain ⟨i, hi, rfl⟩ := List.getElem_of_mem hq
 obtain ⟨A, c, rfl⟩ := h.form
 obtain ⟨_, _, _, _, _, _, _, _, _, _, _, _, _, _, FX⟩ := h.at_ (kp_fr k) hi
 exact Fr.lq FX
set_option maxRecDepth 100000 in
set_option maxHeartbeats 6400000 in
theorem poly_eval {vx v : Value} {x : Rat} {qs : List Rat} {kx ka : Nat} {w : World} (hx : Fr w vx x kx) (h : Sq (Frk ka) w v qs) (hl : qs.length ≤ 100000000) (hk : qs.length * (kx + ka + 1) ≤ 4000000) (hkx : kx ≤ 4000000) (hka : ka ≤ 4000000) : Calls Tryz.prog 33 #[v, vx] w (RetQ (Pq.E qs x) w) := by
 have LXX := hx.lq
 obtain ⟨x0, rfl, ⟨A1, n1, c1, e1⟩, ⟨D1, n2, c2, e2⟩⟩ := (kp_fr kx).form hx
 obtain ⟨s0, u0, d0⟩ := x0
 simp only at e1 e2
 subst e1 e2
 have FC : Fr w (.agg #[.bool s0, .slice A1 n1 c1, .slice D1 n2 c2]) x kx := hx
 clear hx
 have LE : Hid (∀ n, Wd.Lq (Pq.E (qs.drop n) x) 4000002) := Lib.hid (fun n => (lq_eval LXX (ka := ka) (qs.drop n) (fun q hq => sq_lq h q (List.mem_of_mem_drop hq))).mono (by
  have : (qs.drop n).length * (kx + ka + 1) ≤ qs.length * (kx + ka + 1) := Nat.mul_le_mul_right _ (by rw [List.length_drop]; omega)
  omega))
 obtain ⟨A, cv, rfl⟩ := h.form
 have H := Lib.hid h
 clear h hk
 have UP : Up w ((w.alloc (.cells #[.bool s0, .slice A1 n1 c1, .slice D1 n2 c2] 34)).alloc (.cells #[.bool false, .slice none 0 0, .slice none 0 0] 34)) := ((Up.refl w).alloc _).alloc _
 obtain ⟨b0, r0⟩ := bx_two 34 34 w [.bool s0, .slice A1 n1 c1, .slice D1 n2 c2] [.bool false, .slice none 0 0, .slice none 0 0]
 show Calls Tryz.prog 33 #[.slice A qs.length cv, .agg #[.bool s0, .slice A1 n1 c1, .slice D1 n2 c2]] w _
 go_enter Tryz.func33, Tryz.ntmps33
 go_wp2_with fail
 generalize ((w.alloc (.cells #[.bool s0, .slice A1 n1 c1, .slice D1 n2 c2] 34)).alloc (.cells #[.bool false, .slice none 0 0, .slice none 0 0] 34)) = W at *
 replace FC := FC.up UP
 obtain ⟨b0_0, b0_1, b0_2⟩ := b0.c3
 obtain ⟨r0_0, r0_1, r0_2⟩ := r0.c3
 have r0_f0 := r0.free 0
 have r0_f1 := r0.free 1
 have r0_f2 := r0.free 2
 go_wp2_with fail
 ((with_reducible refine (frac_of0 _).mono ?_))
 rintro e W1 ⟨V1, rfl, o, u1⟩
 replace FC := FC.up u1
 replace b0 := b0.up u1
 replace r0 := r0.up u1
 replace UP := UP.trans u1
 clear b0_0 b0_1 b0_2 r0_0 r0_1 r0_2
 obtain ⟨b0_0, b0_1, b0_2⟩ := b0.c3
 obtain ⟨r0_0, r0_1, r0_2⟩ := r0.c3
 replace r0_f0 := r0.free 0
 replace r0_f1 := r0.free 1
 replace r0_f2 := r0.free 2
 clear u1
 obtain ⟨P0, HP0⟩ : ∃ P, Hid ((0 : Rat) = P) := ⟨_, Lib.hid rfl⟩
 rw [HP0.out] at o
 obtain ⟨Xo, Yo, rfl, o, od⟩ := o
 obtain ⟨Ao, no, co, rfl⟩ := o.shape
 obtain ⟨Aod, nod, cod, rfl⟩ := od.shape
 have b0_0a := fun O0 => (cell_alloc (o := O0) b0_0)
 have b0_1a := fun O0 => (cell_alloc (o := O0) b0_1)
 have b0_2a := fun O0 => (cell_alloc (o := O0) b0_2)
 have r0_0a := fun O0 => (cell_alloc (o := O0) r0_0)
 have r0_f0a := fun O0 => (r0.up ((Up.refl W1).alloc O0)).free 0
 have r0_1a := fun O0 => (cell_alloc (o := O0) r0_1)
 have r0_f1a := fun O0 => (r0.up ((Up.refl W1).alloc O0)).free 1
 have r0_2a := fun O0 => (cell_alloc (o := O0) r0_2)
 have r0_f2a := fun O0 => (r0.up ((Up.refl W1).alloc O0)).free 2
 go_wp2_with fail
 clear b0_0a b0_1a b0_2a r0_0a r0_f0a r0_1a r0_f1a r0_2a r0_f2a
 have x1 := Bx.new 34 W1 [.bool (Wd.ngb P0.num), .slice Ao no co, .slice Aod nod cod]
 have b0_lt_x1 := b0.lt
 have b0_ne_x1 : ¬ (w.heap.size = W1.heap.size) := by omega
 have b0_en_x1 : ¬ (W1.heap.size = w.heap.size) := by omega
 have r0_lt_x1 := r0.lt
 have r0_ne_x1 : ¬ (w.heap.size + 1 = W1.heap.size) := by omega
 have r0_en_x1 : ¬ (W1.heap.size = w.heap.size + 1) := by omega
 replace FC := FC.up ((Up.refl W1).alloc (.cells #[.bool (Wd.ngb P0.num), .slice Ao no co, .slice Aod nod cod] 34))
 replace o := o.up ((Up.refl W1).alloc (.cells #[.bool (Wd.ngb P0.num), .slice Ao no co, .slice Aod nod cod] 34))
 replace od := od.up ((Up.refl W1).alloc (.cells #[.bool (Wd.ngb P0.num), .slice Ao no co, .slice Aod nod cod] 34))
 replace b0 := b0.up ((Up.refl W1).alloc (.cells #[.bool (Wd.ngb P0.num), .slice Ao no co, .slice Aod nod cod] 34))
 replace r0 := r0.up ((Up.refl W1).alloc (.cells #[.bool (Wd.ngb P0.num), .slice Ao no co, .slice Aod nod cod] 34))
 replace UP := UP.trans ((Up.refl W1).alloc (.cells #[.bool (Wd.ngb P0.num), .slice Ao no co, .slice Aod nod cod] 34))
 generalize (W1.alloc (.cells #[.bool (Wd.ngb P0.num), .slice Ao no co, .slice Aod nod cod] 34)) = W2 at *
 clear b0_0 b0_1 b0_2 r0_0 r0_1 r0_2
 obtain ⟨b0_0, b0_1, b0_2⟩ := b0.c3
 obtain ⟨r0_0, r0_1, r0_2⟩ := r0.c3
 replace r0_f0 := r0.free 0
 replace r0_f1 := r0.free 1
 replace r0_f2 := r0.free 2
 obtain ⟨x1_0, x1_1, x1_2⟩ := x1.c3
 have x1_f0 := x1.free 0
 have x1_f1 := x1.free 1
 have x1_f2 := x1.free 2
 go_loopw [6] (fun s6 wr => ∃ (n : Nat) (s' : Bool) (A' D' : Option Addr) (m1 f1 m2 f2 : Nat), s6 = .int .i64 ((n : Int) - 1) ∧ n ≤ qs.length ∧ Bx 34 wr W1.heap.size [.bool s', .slice A' m1 f1, .slice D' m2 f2] ∧ Qw wr (.agg #[.bool s', .slice A' m1 f1, .slice D' m2 f2]) (Pq.E (qs.drop n) x) ∧ Bx 34 wr w.heap.size [.bool s0, .slice A1 n1 c1, .slice D1 n2 c2] ∧ Bx 34 wr (w.heap.size + 1) [.bool false, .slice none 0 0, .slice none 0 0] ∧ Fr wr (.agg #[.bool s0, .slice A1 n1 c1, .slice D1 n2 c2]) x kx ∧ Up w wr) (fun s6 _ => (intOf s6 + 1).toNat)
 case atStart => exact ⟨qs.length, _, _, _, _, _, _, _, rfl, Nat.le_refl _, x1, by rw [List.drop_length, show Pq.E [] x = P0 from HP0.out]; exact ⟨_, _, rfl, o, od⟩, b0, r0, FC, UP⟩
 case round =>
  obtain ⟨n, s', A', D', m1, f1, m2, f2, rfl, hn, x1, X, b0, r0, FC, UP⟩ := hrel
  obtain ⟨b0_0, b0_1, b0_2⟩ := b0.c3
  obtain ⟨r0_0, r0_1, r0_2⟩ := r0.c3
  have r0_f0 := r0.free 0
  have r0_f1 := r0.free 1
  have r0_f2 := r0.free 2
  obtain ⟨x1_0, x1_1, x1_2⟩ := x1.c3
  have x1_f0 := x1.free 0
  have x1_f1 := x1.free 1
  have x1_f2 := x1.free 2
  cases n with
  | zero =>
    rw [List.drop_zero] at X
    go_wp2_with fail
    exact end_q rfl rfl rfl X r0 trivial trivial trivial UP (by omega)
  | succ m =>
    have hm : m < qs.length := by omega
    obtain ⟨b, o, s, B, m0, f, D, n', f', e0, hb, g1, g2, g3, FX0⟩ := H.out.at_ (kp_fr ka) hm
    subst e0
    have HD : Hid (Pq.E (qs.drop m) x = Pq.E (qs.drop (m + 1)) x * x + qs[m]) := Lib.hid (Pq.E_drop hm x)
    have L1 := LE.out (m + 1)
    have L0 := LE.out m
    generalize qs[m] = q at *
    generalize Pq.E (qs.drop (m + 1)) x = p at *
    have FX0 : Fr w (.agg #[.bool s, .slice B m0 f, .slice D n' f']) q ka := FX0
    have FX := FX0.up UP
    have HOLD : Hid (∀ w', Up w w' → w'.cell? ⟨b, o + m * 3, none⟩ = some (.bool s) ∧ w'.cell? ⟨b, o + m * 3 + 1, none⟩ = some (.slice B m0 f) ∧ w'.cell? ⟨b, o + m * 3 + 2, none⟩ = some (.slice D n' f')) := Lib.hid (fun w' hu => ⟨(hu.cell (p := ⟨b, o + m * 3, none⟩) hb).trans g1, (hu.cell (p := ⟨b, o + m * 3 + 1, none⟩) hb).trans g2, (hu.cell (p := ⟨b, o + m * 3 + 2, none⟩) hb).trans g3⟩)
    clear g1 g2 g3 FX0
    have k1 : (m : Int) < (qs.length : Int) := by omega
    have k0 : (0 : Int) ≤ (m : Int) := by omega
    have kk : ((m : Int)).toNat = m := by omega
    obtain ⟨Y, HY⟩ : ∃ Y, Hid (p * x = Y) := ⟨_, Lib.hid rfl⟩
    have HM := HY
    have LY : Wd.Lq Y (4000002 + kx) := by rw [← HY.out]; exact L1.mul LXX
    obtain ⟨R, HR⟩ : ∃ R, Hid (Y + q = R) := ⟨_, Lib.hid rfl⟩
    have HA := HR
    have HV : Hid (Pq.E (qs.drop m) x = R) := Lib.hid (by rw [HD.out, HY.out, HR.out])
    go_wp2_with fail
    replace X := X.up (Up.refl wr).drew
    replace FC := FC.up (Up.refl wr).drew
    replace FX := FX.up (Up.refl wr).drew
    replace b0 := b0.up (Up.refl wr).drew
    replace r0 := r0.up (Up.refl wr).drew
    replace x1 := x1.up (Up.refl wr).drew
    replace UP := UP.trans (Up.refl wr).drew
    clear b0_0 b0_1 b0_2 r0_0 r0_1 r0_2
    obtain ⟨b0_0, b0_1, b0_2⟩ := b0.c3
    obtain ⟨r0_0, r0_1, r0_2⟩ := r0.c3
    replace r0_f0 := r0.free 0
    replace r0_f1 := r0.free 1
    replace r0_f2 := r0.free 2
    obtain ⟨x1_0, x1_1, x1_2⟩ := x1.c3
    have x1_f0 := x1.free 0
    have x1_f1 := x1.free 1
    have x1_f2 := x1.free 2
    refine wp_region_noPanic ?_
    refine wp_region_held_drew (S := fun w' => Up w w' ∧ w'.cell? ⟨w.heap.size, 0, none⟩ = some (.bool s0) ∧ w'.cell? ⟨w.heap.size, 1, none⟩ = some (.slice A1 n1 c1) ∧ w'.cell? ⟨w.heap.size, 2, none⟩ = some (.slice D1 n2 c2) ∧ w'.cell? ⟨b, o + m * 3, none⟩ = some (.bool s) ∧ w'.cell? ⟨b, o + m * 3 + 1, none⟩ = some (.slice B m0 f) ∧ w'.cell? ⟨b, o + m * 3 + 2, none⟩ = some (.slice D n' f')) (by kernel_rfl) ?_ (fun hHeld => ?_)
    · exact ⟨UP, b0_0, b0_1, b0_2, HOLD.out _ UP⟩
    refine wpAnyH_take (i := 1) (v := ?_) rfl (by kernel_rfl) (by kernel_rfl) (by kernel_rfl) (fun _ _ _ h => h) (Or.inl ⟨by rfl, ?_⟩) (by assumption) ?_
    rotate_left
    · (intro w hSw; (try dsimp only at hSw); go_simp; first | done | with_reducible rfl)
    try simp only [List.getElem_toArray, List.getElem_cons_zero, List.getElem_cons_succ, Act.put, List.setIfInBounds_toArray, List.set_cons_zero, List.set_cons_succ]
    refine wpAnyH_take (i := 3) (v := ?_) rfl (by kernel_rfl) (by kernel_rfl) (by kernel_rfl) (fun _ _ _ h => h) (Or.inl ⟨by rfl, ?_⟩) (by assumption) ?_
    rotate_left
    · (intro w hSw; (try dsimp only at hSw); go_simp; first | done | with_reducible rfl)
    try simp only [List.getElem_toArray, List.getElem_cons_zero, List.getElem_cons_succ, Act.put, List.setIfInBounds_toArray, List.set_cons_zero, List.set_cons_succ]
    refine wpAnyH_take (i := 4) (v := ?_) rfl (by kernel_rfl) (by kernel_rfl) (by kernel_rfl) (fun _ _ _ h => h) (Or.inl ⟨by rfl, ?_⟩) (by assumption) ?_
    rotate_left
    · (intro w hSw; (try dsimp only at hSw); go_simp; first | done | with_reducible rfl)
    try simp only [List.getElem_toArray, List.getElem_cons_zero, List.getElem_cons_succ, Act.put, List.setIfInBounds_toArray, List.set_cons_zero, List.set_cons_succ]
    refine wpAnyH_take (i := 5) (v := ?_) rfl (by kernel_rfl) (by kernel_rfl) (by kernel_rfl) (fun _ _ _ h => h) (Or.inl ⟨by rfl, ?_⟩) (by assumption) ?_
    rotate_left
    · (intro w hSw; (try dsimp only at hSw); go_simp; first | done | with_reducible rfl)
    try simp only [List.getElem_toArray, List.getElem_cons_zero, List.getElem_cons_succ, Act.put, List.setIfInBounds_toArray, List.set_cons_zero, List.set_cons_succ]
    refine wpAnyH_take (i := 6) (v := ?_) rfl (by kernel_rfl) (by kernel_rfl) (by kernel_rfl) (fun _ _ _ h => h) (Or.inl ⟨by rfl, ?_⟩) (by assumption) ?_
    rotate_left
    · (intro w hSw; (try dsimp only at hSw); go_simp; first | done | with_reducible rfl)
    try simp only [List.getElem_toArray, List.getElem_cons_zero, List.getElem_cons_succ, Act.put, List.setIfInBounds_toArray, List.set_cons_zero, List.set_cons_succ]
    refine wpAnyH_ready (rs := [0]) (by kernel_rfl) (by simp) ?_
    refine AllReadyH.cons rfl (fun K hK => ?_) AllReadyH.nil
    go_simp
    skip
    try go_wp2_with fail
    try clear hHeld
    refine hK.out _ _ ?_ (fun hHeld => ?_)
    · (first | exact ⟨UP, b0_0, b0_1, b0_2, HOLD.out _ UP⟩ | exact ⟨(((UP.setCell (p := ⟨W1.heap.size, 0, none⟩) (by dsimp only; omega) _).setCell (p := ⟨W1.heap.size, 1, none⟩) (by dsimp only; omega) _).setCell (p := ⟨W1.heap.size, 2, none⟩) (by dsimp only; omega) _), (cell_far_block (cell_far_block (cell_far_block b0_0 (by dsimp only; omega)) (by dsimp only; omega)) (by dsimp only; omega)), (cell_far_block (cell_far_block (cell_far_block b0_1 (by dsimp only; omega)) (by dsimp only; omega)) (by dsimp only; omega)), (cell_far_block (cell_far_block (cell_far_block b0_2 (by dsimp only; omega)) (by dsimp only; omega)) (by dsimp only; omega)), HOLD.out _ (((UP.setCell (p := ⟨W1.heap.size, 0, none⟩) (by dsimp only; omega) _).setCell (p := ⟨W1.heap.size, 1, none⟩) (by dsimp only; omega) _).setCell (p := ⟨W1.heap.size, 2, none⟩) (by dsimp only; omega) _)⟩ | exact ⟨(UP.alloc_drew _), (cell_alloc_drew b0_0), (cell_alloc_drew b0_1), (cell_alloc_drew b0_2), HOLD.out _ (UP.alloc_drew _)⟩ | exact ⟨(UP.alloc2_drew _ _), (cell_alloc2_drew b0_0), (cell_alloc2_drew b0_1), (cell_alloc2_drew b0_2), HOLD.out _ (UP.alloc2_drew _ _)⟩ | (simp only [← World.setCell_drew]; first | exact ⟨(((UP.setCell (p := ⟨W1.heap.size, 0, none⟩) (by dsimp only; omega) _).setCell (p := ⟨W1.heap.size, 1, none⟩) (by dsimp only; omega) _).setCell (p := ⟨W1.heap.size, 2, none⟩) (by dsimp only; omega) _), (cell_far_block (cell_far_block (cell_far_block b0_0 (by dsimp only; omega)) (by dsimp only; omega)) (by dsimp only; omega)), (cell_far_block (cell_far_block (cell_far_block b0_1 (by dsimp only; omega)) (by dsimp only; omega)) (by dsimp only; omega)), (cell_far_block (cell_far_block (cell_far_block b0_2 (by dsimp only; omega)) (by dsimp only; omega)) (by dsimp only; omega)), HOLD.out _ (((UP.setCell (p := ⟨W1.heap.size, 0, none⟩) (by dsimp only; omega) _).setCell (p := ⟨W1.heap.size, 1, none⟩) (by dsimp only; omega) _).setCell (p := ⟨W1.heap.size, 2, none⟩) (by dsimp only; omega) _)⟩) | go_keep)
    clear hK K
    try simp only [List.getElem_toArray, List.getElem_cons_zero, List.getElem_cons_succ, Act.put, List.setIfInBounds_toArray, List.set_cons_zero, List.set_cons_succ]
    refine wpAnyH_ready (rs := [2]) (by kernel_rfl) (by simp) ?_
    refine AllReadyH.cons rfl (fun K hK => ?_) AllReadyH.nil
    go_simp
    (first
      | (go_at_call 110
         ((with_reducible refine (frac_mul (X.fr L1) FC (by omega) (by omega)).mono ?_))
         rintro e W51 ⟨V51, rfl, y, u51⟩
         replace X := X.up u51
         replace FC := FC.up u51
         replace FX := FX.up u51
         try (replace y := y.up u51)
         try (replace z := z.up u51)
         replace b0 := b0.up u51
         replace r0 := r0.up u51
         replace x1 := x1.up u51
         replace UP := UP.trans u51
         clear b0_0 b0_1 b0_2 r0_0 r0_1 r0_2 x1_0 x1_1 x1_2
         obtain ⟨b0_0, b0_1, b0_2⟩ := b0.c3
         obtain ⟨r0_0, r0_1, r0_2⟩ := r0.c3
         replace r0_f0 := r0.free 0
         replace r0_f1 := r0.free 1
         replace r0_f2 := r0.free 2
         obtain ⟨x1_0, x1_1, x1_2⟩ := x1.c3
         replace x1_f0 := x1.free 0
         replace x1_f1 := x1.free 1
         replace x1_f2 := x1.free 2
         clear u51
         rw [HM.out] at y
         obtain ⟨Xy, Yy, rfl, y, yd⟩ := y
         obtain ⟨Ay, ny, cy, rfl⟩ := y.shape
         obtain ⟨Ayd, nyd, cyd, rfl⟩ := yd.shape))
    try go_wp2_with fail
    try clear hHeld
    refine hK.out _ _ ?_ (fun hHeld => ?_)
    · exact ⟨UP, b0_0, b0_1, b0_2, HOLD.out _ UP⟩
    clear hK K
    try simp only [List.getElem_toArray, List.getElem_cons_zero, List.getElem_cons_succ, Act.put, List.setIfInBounds_toArray, List.set_cons_zero, List.set_cons_succ]
    refine wpAnyH_ready (rs := [7]) (by kernel_rfl) (by simp) ?_
    refine AllReadyH.cons rfl (fun K hK => ?_) AllReadyH.nil
    go_simp
    (first
      | (go_at_call 109
         ((with_reducible refine (frac_add ((qw_of y yd).fr LY) FX (by omega) (by omega)).mono ?_))
         rintro e W52 ⟨V52, rfl, z, u52⟩
         replace X := X.up u52
         replace FC := FC.up u52
         replace FX := FX.up u52
         try (replace y := y.up u52)
         try (replace z := z.up u52)
         replace b0 := b0.up u52
         replace r0 := r0.up u52
         replace x1 := x1.up u52
         replace UP := UP.trans u52
         clear b0_0 b0_1 b0_2 r0_0 r0_1 r0_2 x1_0 x1_1 x1_2
         obtain ⟨b0_0, b0_1, b0_2⟩ := b0.c3
         obtain ⟨r0_0, r0_1, r0_2⟩ := r0.c3
         replace r0_f0 := r0.free 0
         replace r0_f1 := r0.free 1
         replace r0_f2 := r0.free 2
         obtain ⟨x1_0, x1_1, x1_2⟩ := x1.c3
         replace x1_f0 := x1.free 0
         replace x1_f1 := x1.free 1
         replace x1_f2 := x1.free 2
         clear u52
         rw [HA.out] at z
         obtain ⟨Xz, Yz, rfl, z, zd⟩ := z
         obtain ⟨Az, nz, cz, rfl⟩ := z.shape
         obtain ⟨Azd, nzd, czd, rfl⟩ := zd.shape))
    try go_wp2_with fail
    try clear hHeld
    refine hK.out _ _ ?_ (fun hHeld => ?_)
    · exact ⟨UP, b0_0, b0_1, b0_2, HOLD.out _ UP⟩
    clear hK K
    try simp only [List.getElem_toArray, List.getElem_cons_zero, List.getElem_cons_succ, Act.put, List.setIfInBounds_toArray, List.set_cons_zero, List.set_cons_succ]
    refine wpAnyH_ready (rs := [8]) (by kernel_rfl) (by simp) ?_
    refine AllReadyH.cons rfl (fun K hK => ?_) AllReadyH.nil
    go_simp
    skip
    try go_wp2_with fail
    try clear hHeld
    refine hK.out _ _ ?_ (fun hHeld => ?_)
    · (first | exact ⟨UP, b0_0, b0_1, b0_2, HOLD.out _ UP⟩ | exact ⟨(((UP.setCell (p := ⟨W1.heap.size, 0, none⟩) (by dsimp only; omega) _).setCell (p := ⟨W1.heap.size, 1, none⟩) (by dsimp only; omega) _).setCell (p := ⟨W1.heap.size, 2, none⟩) (by dsimp only; omega) _), (cell_far_block (cell_far_block (cell_far_block b0_0 (by dsimp only; omega)) (by dsimp only; omega)) (by dsimp only; omega)), (cell_far_block (cell_far_block (cell_far_block b0_1 (by dsimp only; omega)) (by dsimp only; omega)) (by dsimp only; omega)), (cell_far_block (cell_far_block (cell_far_block b0_2 (by dsimp only; omega)) (by dsimp only; omega)) (by dsimp only; omega)), HOLD.out _ (((UP.setCell (p := ⟨W1.heap.size, 0, none⟩) (by dsimp only; omega) _).setCell (p := ⟨W1.heap.size, 1, none⟩) (by dsimp only; omega) _).setCell (p := ⟨W1.heap.size, 2, none⟩) (by dsimp only; omega) _)⟩ | exact ⟨(UP.alloc_drew _), (cell_alloc_drew b0_0), (cell_alloc_drew b0_1), (cell_alloc_drew b0_2), HOLD.out _ (UP.alloc_drew _)⟩ | exact ⟨(UP.alloc2_drew _ _), (cell_alloc2_drew b0_0), (cell_alloc2_drew b0_1), (cell_alloc2_drew b0_2), HOLD.out _ (UP.alloc2_drew _ _)⟩ | (simp only [← World.setCell_drew]; first | exact ⟨(((UP.setCell (p := ⟨W1.heap.size, 0, none⟩) (by dsimp only; omega) _).setCell (p := ⟨W1.heap.size, 1, none⟩) (by dsimp only; omega) _).setCell (p := ⟨W1.heap.size, 2, none⟩) (by dsimp only; omega) _), (cell_far_block (cell_far_block (cell_far_block b0_0 (by dsimp only; omega)) (by dsimp only; omega)) (by dsimp only; omega)), (cell_far_block (cell_far_block (cell_far_block b0_1 (by dsimp only; omega)) (by dsimp only; omega)) (by dsimp only; omega)), (cell_far_block (cell_far_block (cell_far_block b0_2 (by dsimp only; omega)) (by dsimp only; omega)) (by dsimp only; omega)), HOLD.out _ (((UP.setCell (p := ⟨W1.heap.size, 0, none⟩) (by dsimp only; omega) _).setCell (p := ⟨W1.heap.size, 1, none⟩) (by dsimp only; omega) _).setCell (p := ⟨W1.heap.size, 2, none⟩) (by dsimp only; omega) _)⟩) | go_keep)
    clear hK K
    try simp only [List.getElem_toArray, List.getElem_cons_zero, List.getElem_cons_succ, Act.put, List.setIfInBounds_toArray, List.set_cons_zero, List.set_cons_succ]
    refine wpAnyH_done (by kernel_rfl) ?_ _
    refine NoPanic.normal ?_
    clear y X
    have KW : Kw (W52) ((W52).setCell ⟨W1.heap.size, 0, none⟩ (.bool (Wd.ngb R.num))) := Kw.store (c := (.bool s')) x1 rfl trivial _
    replace FC := FC.kw KW
    replace FX := FX.kw KW
    replace z := z.kw KW
    replace zd := zd.kw KW
    replace b0 := b0.far (p := ⟨W1.heap.size, 0, none⟩) (by dsimp only; omega) (.bool (Wd.ngb R.num))
    replace r0 := r0.far (p := ⟨W1.heap.size, 0, none⟩) (by dsimp only; omega) (.bool (Wd.ngb R.num))
    replace x1 : Bx 34 ((W52).setCell ⟨W1.heap.size, 0, none⟩ (.bool (Wd.ngb R.num))) (W1.heap.size) [.bool (Wd.ngb R.num), .slice A' m1 f1, .slice D' m2 f2] := x1.set 0 (.bool (Wd.ngb R.num))
    replace UP := UP.setCell (p := ⟨W1.heap.size, 0, none⟩) (by dsimp only; omega) (.bool (Wd.ngb R.num))
    have KW : Kw (((W52).setCell ⟨W1.heap.size, 0, none⟩ (.bool (Wd.ngb R.num)))) ((((W52).setCell ⟨W1.heap.size, 0, none⟩ (.bool (Wd.ngb R.num)))).setCell ⟨W1.heap.size, 1, none⟩ (.slice Az nz cz)) := Kw.store (c := (.slice A' m1 f1)) x1 rfl trivial _
    replace FC := FC.kw KW
    replace FX := FX.kw KW
    replace z := z.kw KW
    replace zd := zd.kw KW
    replace b0 := b0.far (p := ⟨W1.heap.size, 1, none⟩) (by dsimp only; omega) (.slice Az nz cz)
    replace r0 := r0.far (p := ⟨W1.heap.size, 1, none⟩) (by dsimp only; omega) (.slice Az nz cz)
    replace x1 : Bx 34 ((((W52).setCell ⟨W1.heap.size, 0, none⟩ (.bool (Wd.ngb R.num)))).setCell ⟨W1.heap.size, 1, none⟩ (.slice Az nz cz)) (W1.heap.size) [.bool (Wd.ngb R.num), .slice Az nz cz, .slice D' m2 f2] := x1.set 1 (.slice Az nz cz)
    replace UP := UP.setCell (p := ⟨W1.heap.size, 1, none⟩) (by dsimp only; omega) (.slice Az nz cz)
    have KW : Kw (((((W52).setCell ⟨W1.heap.size, 0, none⟩ (.bool (Wd.ngb R.num)))).setCell ⟨W1.heap.size, 1, none⟩ (.slice Az nz cz))) ((((((W52).setCell ⟨W1.heap.size, 0, none⟩ (.bool (Wd.ngb R.num)))).setCell ⟨W1.heap.size, 1, none⟩ (.slice Az nz cz))).setCell ⟨W1.heap.size, 2, none⟩ (.slice Azd nzd czd)) := Kw.store (c := (.slice D' m2 f2)) x1 rfl trivial _
    replace FC := FC.kw KW
    replace FX := FX.kw KW
    replace z := z.kw KW
    replace zd := zd.kw KW
    replace b0 := b0.far (p := ⟨W1.heap.size, 2, none⟩) (by dsimp only; omega) (.slice Azd nzd czd)
    replace r0 := r0.far (p := ⟨W1.heap.size, 2, none⟩) (by dsimp only; omega) (.slice Azd nzd czd)
    replace x1 : Bx 34 ((((((W52).setCell ⟨W1.heap.size, 0, none⟩ (.bool (Wd.ngb R.num)))).setCell ⟨W1.heap.size, 1, none⟩ (.slice Az nz cz))).setCell ⟨W1.heap.size, 2, none⟩ (.slice Azd nzd czd)) (W1.heap.size) [.bool (Wd.ngb R.num), .slice Az nz cz, .slice Azd nzd czd] := x1.set 2 (.slice Azd nzd czd)
    replace UP := UP.setCell (p := ⟨W1.heap.size, 2, none⟩) (by dsimp only; omega) (.slice Azd nzd czd)
    clear KW
    generalize ((((((W52).setCell ⟨W1.heap.size, 0, none⟩ (.bool (Wd.ngb R.num)))).setCell ⟨W1.heap.size, 1, none⟩ (.slice Az nz cz))).setCell ⟨W1.heap.size, 2, none⟩ (.slice Azd nzd czd)) = W53 at *
    clear b0_0 b0_1 b0_2 r0_0 r0_1 r0_2 x1_0 x1_1 x1_2
    obtain ⟨b0_0, b0_1, b0_2⟩ := b0.c3
    obtain ⟨r0_0, r0_1, r0_2⟩ := r0.c3
    replace r0_f0 := r0.free 0
    replace r0_f1 := r0.free 1
    replace r0_f2 := r0.free 2
    obtain ⟨x1_0, x1_1, x1_2⟩ := x1.c3
    go_wp2_with fail
    go_roundw
    case rel => exact ⟨m, _, _, _, _, _, _, _, by first | rfl | go_num | (congr 1; omega), by omega, x1, by rw [HV.out]; exact ⟨_, _, rfl, z, zd⟩, b0, r0, FC, UP⟩
    case measure => simp [intOf] <;> omega
end Go.Proofs.YtmmcffceeahemaaGreat
