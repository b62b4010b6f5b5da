/-
  Layer 14: the chapter's examples.
-/
import Derived.Test.YtmmcffceeahemaaGreatPoly11
set_option linter.unusedVariables false
set_option linter.unusedSimpArgs false
namespace Go.Proofs.YtmmcffceeahemaaGreat
open Go.RowKit

theorem w14_a : decide (Pq.nm (Pq.nm (Pq.mul [((1 : Int) : Rat), ((1 : Int) : Rat)] [((1 : Int) : Rat), ((-1 : Int) : Rat)])) = Pq.nm [((1 : Int) : Rat), 0, ((-1 : Int) : Rat)]) = true := by decide +kernel
theorem w14_b : (((Pq.nm (Pq.nm (Pq.mul [((1 : Int) : Rat), ((1 : Int) : Rat)] [((1 : Int) : Rat), ((-1 : Int) : Rat)]))).length : Int) - 1) = 2 := by decide +kernel
theorem w14_c : decide (Pq.nm (Pq.nm (Pq.df (Pq.nm (Pq.mul [((1 : Int) : Rat), ((1 : Int) : Rat)] [((1 : Int) : Rat), ((-1 : Int) : Rat)])))) = Pq.nm [0, ((-2 : Int) : Rat)]) = true := by decide +kernel
theorem w14_l : (Pq.nm (Pq.mul [((1 : Int) : Rat), ((1 : Int) : Rat)] [((1 : Int) : Rat), ((-1 : Int) : Rat)])).length = 3 := by decide +kernel
set_option maxRecDepth 100000 in
set_option maxHeartbeats 6400000 in
theorem works14 (w : World) : Calls Tryz.prog 21 #[] w fun e w' => e = .returned (.bool true) ∧ Up w w' := by
 have HA := Lib.hid w14_a
 have HB := Lib.hid w14_b
 have HC := Lib.hid w14_c
 have HL := Lib.hid w14_l
 have L1 : Hid (Wd.Lq ((1 : Int) : Rat) 2) := Lib.hid (lq_int (by omega))
 have LM : Hid (Wd.Lq ((-1 : Int) : Rat) 2) := Lib.hid (lq_int (by omega))
 have LM2 : Hid (Wd.Lq ((-2 : Int) : Rat) 2) := Lib.hid (lq_int (by omega))
 have LZ : Hid (Wd.Lq 0 2) := Lib.hid (lq_int (n := 0) (by omega))
 obtain ⟨P1, HP1⟩ : ∃ P, Hid (((1 : Int) : Rat) = P) := ⟨_, Lib.hid rfl⟩
 obtain ⟨M1, HM1⟩ : ∃ P, Hid (((-1 : Int) : Rat) = P) := ⟨_, Lib.hid rfl⟩
 obtain ⟨M2, HM2⟩ : ∃ P, Hid (((-2 : Int) : Rat) = P) := ⟨_, Lib.hid rfl⟩
 obtain ⟨Z0, HZ0⟩ : ∃ P, Hid ((0 : Rat) = P) := ⟨_, Lib.hid rfl⟩
 rw [HP1.out, HM1.out, HZ0.out] at HA
 rw [HP1.out, HM1.out] at HB HL
 rw [HP1.out, HM1.out, HM2.out, HZ0.out] at HC
 rw [HP1.out] at L1
 rw [HM1.out] at LM
 rw [HM2.out] at LM2
 rw [HZ0.out] at LZ
 have LP : Hid (Pq.Lp [P1, P1] 5) := Lib.hid (Pq.Lp.few (k := 2) (by simp; exact L1.out))
 have LQ : Hid (Pq.Lp [P1, M1] 5) := Lib.hid (Pq.Lp.few (k := 2) (by simp; exact ⟨L1.out, LM.out⟩))
 have LR := Lib.hid (LP.out.mul LQ.out (by simp))
 obtain ⟨R, HR⟩ : ∃ R, Hid (Pq.nm (Pq.mul [P1, P1] [P1, M1]) = R) := ⟨_, Lib.hid rfl⟩
 rw [HR.out] at HA HB HC HL LR
 have UP : Up w w := Up.refl w
 go_enter Tryz.func21, Tryz.ntmps21
 go_wp2_with fail
 ((with_reducible refine (frac_of (n := 1) (by omega) _).mono ?_))
 rintro e W1 ⟨V1, rfl, o, u1⟩
 replace UP := UP.trans u1
 clear u1
 rw [HP1.out] at o
 obtain ⟨Xo, Yo, rfl, o, od⟩ := o
 obtain ⟨Ao, no, co, rfl⟩ := o.shape
 obtain ⟨Aod, nod, cod, rfl⟩ := od.shape
 go_wp2_with fail
 have x1 := Bx.new 34 W1 [.bool (Wd.ngb P1.num), .slice Ao no co, .slice Aod nod cod]
 replace o := o.up ((Up.refl W1).alloc (.cells #[.bool (Wd.ngb P1.num), .slice Ao no co, .slice Aod nod cod] 34))
 replace od := od.up ((Up.refl W1).alloc (.cells #[.bool (Wd.ngb P1.num), .slice Ao no co, .slice Aod nod cod] 34))
 replace UP := UP.trans ((Up.refl W1).alloc (.cells #[.bool (Wd.ngb P1.num), .slice Ao no co, .slice Aod nod cod] 34))
 generalize (W1.alloc (.cells #[.bool (Wd.ngb P1.num), .slice Ao no co, .slice Aod nod cod] 34)) = W2 at *
 obtain ⟨x1_0, x1_1, x1_2⟩ := x1.c3
 replace o := o.up (Up.refl W2).drew
 replace od := od.up (Up.refl W2).drew
 replace x1 := x1.up (Up.refl W2).drew
 replace UP := UP.trans (Up.refl W2).drew
 clear x1_0 x1_1 x1_2
 obtain ⟨x1_0, x1_1, x1_2⟩ := x1.c3
 refine wp_region_noPanic ?_
 refine wp_region_held_drew (S := fun w' => Up w w' ∧ w'.cell? ⟨W1.heap.size, 0, none⟩ = some (.bool (Wd.ngb P1.num)) ∧ w'.cell? ⟨W1.heap.size, 1, none⟩ = some (.slice Ao no co) ∧ w'.cell? ⟨W1.heap.size, 2, none⟩ = some (.slice Aod nod cod)) (by kernel_rfl) (by exact ⟨UP, x1_0, x1_1, x1_2⟩) (fun hHeld => ?_)
 clear hHeld
 generalize W2.drew = WC at *
 have hHeld : Up w WC ∧ WC.cell? ⟨W1.heap.size, 0, none⟩ = some (.bool (Wd.ngb P1.num)) ∧ WC.cell? ⟨W1.heap.size, 1, none⟩ = some (.slice Ao no co) ∧ WC.cell? ⟨W1.heap.size, 2, none⟩ = some (.slice Aod nod cod) := by exact ⟨UP, x1_0, x1_1, x1_2⟩
 refine wpAnyH_take (i := 0) (v := ?_) rfl (by kernel_rfl) (by decide +kernel) (by decide +kernel) (fun _ _ _ h => h) (Or.inl ⟨by rfl, ?_⟩) (by assumption) ?_
 rotate_left
 · (intro w hSw; (try dsimp only at hSw); go_simp; first | done | with_reducible rfl)
 try simp only [List.getElem_toArray, List.getElem_cons_zero, List.getElem_cons_succ, Act.put, List.setIfInBounds_toArray, List.set_cons_zero, List.set_cons_succ]
 refine wpAnyH_take (i := 1) (v := ?_) rfl (by kernel_rfl) (by decide +kernel) (by decide +kernel) (fun _ _ _ h => h) (Or.inl ⟨by rfl, ?_⟩) (by assumption) ?_
 rotate_left
 · (intro w hSw; (try dsimp only at hSw); go_simp; first | done | with_reducible rfl)
 try simp only [List.getElem_toArray, List.getElem_cons_zero, List.getElem_cons_succ, Act.put, List.setIfInBounds_toArray, List.set_cons_zero, List.set_cons_succ]
 refine wpAnyH_take (i := 3) (v := ?_) rfl (by kernel_rfl) (by decide +kernel) (by decide +kernel) (fun _ _ _ h => h) (Or.inl ⟨by rfl, ?_⟩) (by assumption) ?_
 rotate_left
 · (intro w hSw; (try dsimp only at hSw); go_simp; first | done | with_reducible rfl)
 try simp only [List.getElem_toArray, List.getElem_cons_zero, List.getElem_cons_succ, Act.put, List.setIfInBounds_toArray, List.set_cons_zero, List.set_cons_succ]
 repeat' first
  | refine wpAnyH_ready (rs := [2, 4, 5]) (by decide +kernel) (by simp) ?_
  | refine wpAnyH_ready (rs := [2, 4]) (by decide +kernel) (by simp) ?_
  | refine wpAnyH_ready (rs := [4, 5]) (by decide +kernel) (by simp) ?_
  | refine wpAnyH_ready (rs := [4]) (by decide +kernel) (by simp) ?_
  | refine wpAnyH_ready (rs := [2, 5, 6]) (by decide +kernel) (by simp) ?_
  | refine wpAnyH_ready (rs := [2, 6]) (by decide +kernel) (by simp) ?_
  | refine wpAnyH_ready (rs := [5, 6]) (by decide +kernel) (by simp) ?_
  | refine wpAnyH_ready (rs := [6]) (by decide +kernel) (by simp) ?_
  | refine wpAnyH_ready (rs := [2, 5]) (by decide +kernel) (by simp) ?_
  | refine wpAnyH_ready (rs := [2]) (by decide +kernel) (by simp) ?_
  | refine wpAnyH_ready (rs := [5]) (by decide +kernel) (by simp) ?_
  | refine wpAnyH_ready (rs := [7]) (by decide +kernel) (by simp) ?_
  | refine AllReadyH.cons (i := 2) rfl (fun K hK2 => ?_) ?_
  | refine AllReadyH.cons (i := 4) rfl (fun K hK4 => ?_) ?_
  | refine AllReadyH.cons (i := 5) rfl (fun K hK5 => ?_) ?_
  | refine AllReadyH.cons (i := 6) rfl (fun K hK6 => ?_) ?_
  | refine AllReadyH.cons (i := 7) rfl (fun K hK7 => ?_) ?_
  | exact AllReadyH.nil
  | (have hK := hK2
     clear hK2
     (try clear hHeld)
     go_simp
     have s1 := Bx.new 34 WC [.bool (Wd.ngb P1.num), .slice Ao no co, .slice Aod nod cod, .bool (Wd.ngb P1.num), .slice Ao no co, .slice Aod nod cod]
     have x1_lt_s1 := x1.lt
     have s1_base := UP.size
     try (have s2_lt_s1 := s2.lt)
     replace o := o.up ((Up.refl WC).alloc (.cells #[.bool (Wd.ngb P1.num), .slice Ao no co, .slice Aod nod cod, .bool (Wd.ngb P1.num), .slice Ao no co, .slice Aod nod cod] 34))
     replace od := od.up ((Up.refl WC).alloc (.cells #[.bool (Wd.ngb P1.num), .slice Ao no co, .slice Aod nod cod, .bool (Wd.ngb P1.num), .slice Ao no co, .slice Aod nod cod] 34))
     try (replace m := m.up ((Up.refl WC).alloc (.cells #[.bool (Wd.ngb P1.num), .slice Ao no co, .slice Aod nod cod, .bool (Wd.ngb P1.num), .slice Ao no co, .slice Aod nod cod] 34)))
     try (replace p := p.up ((Up.refl WC).alloc (.cells #[.bool (Wd.ngb P1.num), .slice Ao no co, .slice Aod nod cod, .bool (Wd.ngb P1.num), .slice Ao no co, .slice Aod nod cod] 34)))
     try (replace md := md.up ((Up.refl WC).alloc (.cells #[.bool (Wd.ngb P1.num), .slice Ao no co, .slice Aod nod cod, .bool (Wd.ngb P1.num), .slice Ao no co, .slice Aod nod cod] 34)))
     replace x1 := x1.up ((Up.refl WC).alloc (.cells #[.bool (Wd.ngb P1.num), .slice Ao no co, .slice Aod nod cod, .bool (Wd.ngb P1.num), .slice Ao no co, .slice Aod nod cod] 34))
     try (replace s2 := s2.up ((Up.refl WC).alloc (.cells #[.bool (Wd.ngb P1.num), .slice Ao no co, .slice Aod nod cod, .bool (Wd.ngb P1.num), .slice Ao no co, .slice Aod nod cod] 34)))
     replace UP := UP.trans ((Up.refl WC).alloc (.cells #[.bool (Wd.ngb P1.num), .slice Ao no co, .slice Aod nod cod, .bool (Wd.ngb P1.num), .slice Ao no co, .slice Aod nod cod] 34))
     generalize WC.alloc (.cells #[.bool (Wd.ngb P1.num), .slice Ao no co, .slice Aod nod cod, .bool (Wd.ngb P1.num), .slice Ao no co, .slice Aod nod cod] 34) = WD at *
     generalize WC.heap.size = gs1 at *
     obtain ⟨WC, hWC⟩ : ∃ W, W = WD := ⟨_, rfl⟩
     subst hWC
     clear x1_0 x1_1 x1_2
     obtain ⟨x1_0, x1_1, x1_2⟩ := x1.c3
     refine hK.out _ _ (by exact ⟨UP, x1_0, x1_1, x1_2⟩) (fun hHeld => ?_)
     clear hK K
     try simp only [List.getElem_toArray, List.getElem_cons_zero, List.getElem_cons_succ, Act.put, List.setIfInBounds_toArray, List.set_cons_zero, List.set_cons_succ])
  | (have hK := hK4
     clear hK4
     (try clear hHeld)
     go_simp
     go_at_call 90
     ((with_reducible refine (frac_of (n := -1) (by omega) _).mono ?_))
     rintro e WD ⟨V4, rfl, m, uu⟩
     replace o := o.up uu
     replace od := od.up uu
     try (replace p := p.up uu)
     try (replace md := md.up uu)
     replace x1 := x1.up uu
     try (replace s1 := s1.up uu)
     try (replace s2 := s2.up uu)
     replace UP := UP.trans uu
     clear uu
     obtain ⟨WC, hWC⟩ : ∃ W, W = WD := ⟨_, rfl⟩
     subst hWC
     clear x1_0 x1_1 x1_2
     obtain ⟨x1_0, x1_1, x1_2⟩ := x1.c3
     rw [HM1.out] at m
     obtain ⟨Xm, Ym, rfl, m, md⟩ := m
     obtain ⟨Am, nm, cm, rfl⟩ := m.shape
     obtain ⟨Amd, nmd, cmd, rfl⟩ := md.shape
     try go_wp2_with fail
     refine hK.out _ _ (by exact ⟨UP, x1_0, x1_1, x1_2⟩) (fun hHeld => ?_)
     clear hK K
     try simp only [List.getElem_toArray, List.getElem_cons_zero, List.getElem_cons_succ, Act.put, List.setIfInBounds_toArray, List.set_cons_zero, List.set_cons_succ])
  | (have hK := hK5
     clear hK5
     (try clear hHeld)
     go_simp
     have s2 := Bx.new 34 WC [.bool (Wd.ngb P1.num), .slice Ao no co, .slice Aod nod cod, .bool (Wd.ngb M1.num), .slice Am nm cm, .slice Amd nmd cmd]
     have x1_lt_s2 := x1.lt
     have s2_base := UP.size
     try (have s1_lt_s2 := s1.lt)
     replace o := o.up ((Up.refl WC).alloc (.cells #[.bool (Wd.ngb P1.num), .slice Ao no co, .slice Aod nod cod, .bool (Wd.ngb M1.num), .slice Am nm cm, .slice Amd nmd cmd] 34))
     replace od := od.up ((Up.refl WC).alloc (.cells #[.bool (Wd.ngb P1.num), .slice Ao no co, .slice Aod nod cod, .bool (Wd.ngb M1.num), .slice Am nm cm, .slice Amd nmd cmd] 34))
     try (replace m := m.up ((Up.refl WC).alloc (.cells #[.bool (Wd.ngb P1.num), .slice Ao no co, .slice Aod nod cod, .bool (Wd.ngb M1.num), .slice Am nm cm, .slice Amd nmd cmd] 34)))
     try (replace p := p.up ((Up.refl WC).alloc (.cells #[.bool (Wd.ngb P1.num), .slice Ao no co, .slice Aod nod cod, .bool (Wd.ngb M1.num), .slice Am nm cm, .slice Amd nmd cmd] 34)))
     try (replace md := md.up ((Up.refl WC).alloc (.cells #[.bool (Wd.ngb P1.num), .slice Ao no co, .slice Aod nod cod, .bool (Wd.ngb M1.num), .slice Am nm cm, .slice Amd nmd cmd] 34)))
     replace x1 := x1.up ((Up.refl WC).alloc (.cells #[.bool (Wd.ngb P1.num), .slice Ao no co, .slice Aod nod cod, .bool (Wd.ngb M1.num), .slice Am nm cm, .slice Amd nmd cmd] 34))
     try (replace s1 := s1.up ((Up.refl WC).alloc (.cells #[.bool (Wd.ngb P1.num), .slice Ao no co, .slice Aod nod cod, .bool (Wd.ngb M1.num), .slice Am nm cm, .slice Amd nmd cmd] 34)))
     replace UP := UP.trans ((Up.refl WC).alloc (.cells #[.bool (Wd.ngb P1.num), .slice Ao no co, .slice Aod nod cod, .bool (Wd.ngb M1.num), .slice Am nm cm, .slice Amd nmd cmd] 34))
     generalize WC.alloc (.cells #[.bool (Wd.ngb P1.num), .slice Ao no co, .slice Aod nod cod, .bool (Wd.ngb M1.num), .slice Am nm cm, .slice Amd nmd cmd] 34) = WD at *
     generalize WC.heap.size = gs2 at *
     obtain ⟨WC, hWC⟩ : ∃ W, W = WD := ⟨_, rfl⟩
     subst hWC
     clear x1_0 x1_1 x1_2
     obtain ⟨x1_0, x1_1, x1_2⟩ := x1.c3
     refine hK.out _ _ (by exact ⟨UP, x1_0, x1_1, x1_2⟩) (fun hHeld => ?_)
     clear hK K
     try simp only [List.getElem_toArray, List.getElem_cons_zero, List.getElem_cons_succ, Act.put, List.setIfInBounds_toArray, List.set_cons_zero, List.set_cons_succ])
  | (have hK := hK6
     clear hK6
     (try clear hHeld)
     go_simp
     go_at_call 39
     ((with_reducible refine (poly_mul2 (fs_two s1 ((qw_of o od).fr L1.out) ((qw_of o od).fr L1.out)) (fs_two s2 ((qw_of o od).fr L1.out) ((qw_of m md).fr LM.out)) LP.out LQ.out (by simp) (by simp) (by omega) (by omega) (by omega)).mono ?_))
     rintro e WD ⟨V6, rfl, p, uu⟩
     replace o := o.up uu
     replace od := od.up uu
     try (replace m := m.up uu)
     try (replace md := md.up uu)
     replace x1 := x1.up uu
     try (replace s1 := s1.up uu)
     try (replace s2 := s2.up uu)
     replace UP := UP.trans uu
     clear uu
     obtain ⟨WC, hWC⟩ : ∃ W, W = WD := ⟨_, rfl⟩
     subst hWC
     clear x1_0 x1_1 x1_2
     obtain ⟨x1_0, x1_1, x1_2⟩ := x1.c3
     rw [HR.out] at p
     try go_wp2_with fail
     refine hK.out _ _ (by exact ⟨UP, x1_0, x1_1, x1_2⟩) (fun hHeld => ?_)
     clear hK K
     try simp only [List.getElem_toArray, List.getElem_cons_zero, List.getElem_cons_succ, Act.put, List.setIfInBounds_toArray, List.set_cons_zero, List.set_cons_succ])
  | (have hK := hK7
     clear hK7
     (try clear hHeld)
     go_simp
     refine hK.out _ _ (by exact ⟨UP, x1_0, x1_1, x1_2⟩) (fun hHeld => ?_)
     clear hK K
     try simp only [List.getElem_toArray, List.getElem_cons_zero, List.getElem_cons_succ, Act.put, List.setIfInBounds_toArray, List.set_cons_zero, List.set_cons_succ])
  | refine wpAnyH_done (by decide +kernel) (NoPanic.normal ?_) _
  | fail
 all_goals try clear hHeld
 all_goals obtain ⟨s1_0, s1_1, s1_2, s1_3, s1_4, s1_5⟩ := s1.c6
 all_goals obtain ⟨s2_0, s2_1, s2_2, s2_3, s2_4, s2_5⟩ := s2.c6
 all_goals
  clear s1_0 s1_1 s1_2 s1_3 s1_4 s1_5 s2_0 s2_1 s2_2 s2_3 s2_4 s2_5 s1 s2
  obtain ⟨Ap, cp, rfl⟩ := p.form
  have pf := p.fs
  clear p m md
  clear x1_0 x1_1 x1_2
  obtain ⟨x1_0, x1_1, x1_2⟩ := x1.c3
  go_wp2_with fail
  replace o := o.up (Up.refl WC).drew
  replace od := od.up (Up.refl WC).drew
  replace pf := pf.up (Up.refl WC).drew
  replace x1 := x1.up (Up.refl WC).drew
  replace UP := UP.trans (Up.refl WC).drew
  clear x1_0 x1_1 x1_2
  obtain ⟨x1_0, x1_1, x1_2⟩ := x1.c3
  refine wp_region_noPanic ?_
  refine wp_region_held_drew (S := fun w' => Up w w' ∧ w'.cell? ⟨W1.heap.size, 0, none⟩ = some (.bool (Wd.ngb P1.num)) ∧ w'.cell? ⟨W1.heap.size, 1, none⟩ = some (.slice Ao no co) ∧ w'.cell? ⟨W1.heap.size, 2, none⟩ = some (.slice Aod nod cod)) (by kernel_rfl) (by exact ⟨UP, x1_0, x1_1, x1_2⟩) (fun hHeld => ?_)
  clear hHeld
  generalize WC.drew = WC at *
  have hHeld : Up w WC ∧ WC.cell? ⟨W1.heap.size, 0, none⟩ = some (.bool (Wd.ngb P1.num)) ∧ WC.cell? ⟨W1.heap.size, 1, none⟩ = some (.slice Ao no co) ∧ WC.cell? ⟨W1.heap.size, 2, none⟩ = some (.slice Aod nod cod) := by exact ⟨UP, x1_0, x1_1, x1_2⟩
  refine wpAnyH_take (i := 0) (v := ?_) rfl (by kernel_rfl) (by decide +kernel) (by decide +kernel) (fun _ _ _ h => h) (Or.inl ⟨by rfl, ?_⟩) (by assumption) ?_
  rotate_left
  · (intro w hSw; (try dsimp only at hSw); go_simp; first | done | with_reducible rfl)
  try simp only [List.getElem_toArray, List.getElem_cons_zero, List.getElem_cons_succ, Act.put, List.setIfInBounds_toArray, List.set_cons_zero, List.set_cons_succ]
  refine wpAnyH_take (i := 1) (v := ?_) rfl (by kernel_rfl) (by decide +kernel) (by decide +kernel) (fun _ _ _ h => h) (Or.inl ⟨by rfl, ?_⟩) (by assumption) ?_
  rotate_left
  · (intro w hSw; (try dsimp only at hSw); go_simp; first | done | with_reducible rfl)
  try simp only [List.getElem_toArray, List.getElem_cons_zero, List.getElem_cons_succ, Act.put, List.setIfInBounds_toArray, List.set_cons_zero, List.set_cons_succ]
  repeat' first
   | (refine wpAnyH_take (i := 6) (v := ?_) rfl (by kernel_rfl) (by decide +kernel) (by decide +kernel) (fun _ _ _ h => h) (Or.inl ⟨by rfl, ?_⟩) (by assumption) ?_
      rotate_left
      · (intro w hSw; (try dsimp only at hSw); go_simp; first | done | with_reducible rfl)
      try simp only [List.getElem_toArray, List.getElem_cons_zero, List.getElem_cons_succ, Act.put, List.setIfInBounds_toArray, List.set_cons_zero, List.set_cons_succ])
   | (refine wpAnyH_take (i := 7) (v := ?_) rfl (by kernel_rfl) (by decide +kernel) (by decide +kernel) (fun _ _ _ h => h) (Or.inl ⟨by rfl, ?_⟩) (by assumption) ?_
      rotate_left
      · (intro w hSw; (try dsimp only at hSw); go_simp; first | done | with_reducible rfl)
      try simp only [List.getElem_toArray, List.getElem_cons_zero, List.getElem_cons_succ, Act.put, List.setIfInBounds_toArray, List.set_cons_zero, List.set_cons_succ])
   | (refine wpAnyH_take (i := 9) (v := ?_) rfl (by kernel_rfl) (by decide +kernel) (by decide +kernel) (fun _ _ _ h => h) (Or.inl ⟨by rfl, ?_⟩) (by assumption) ?_
      rotate_left
      · (intro w hSw; (try dsimp only at hSw); go_simp; first | done | with_reducible rfl)
      try simp only [List.getElem_toArray, List.getElem_cons_zero, List.getElem_cons_succ, Act.put, List.setIfInBounds_toArray, List.set_cons_zero, List.set_cons_succ])
   | (refine wpAnyH_take (i := 10) (v := ?_) rfl (by kernel_rfl) (by decide +kernel) (by decide +kernel) (fun _ _ _ h => h) (Or.inl ⟨by rfl, ?_⟩) (by assumption) ?_
      rotate_left
      · (intro w hSw; (try dsimp only at hSw); go_simp; first | done | with_reducible rfl)
      try simp only [List.getElem_toArray, List.getElem_cons_zero, List.getElem_cons_succ, Act.put, List.setIfInBounds_toArray, List.set_cons_zero, List.set_cons_succ])
   | (refine wpAnyH_take (i := 11) (v := ?_) rfl (by kernel_rfl) (by decide +kernel) (by decide +kernel) (fun _ _ _ h => h) (Or.inl ⟨by rfl, ?_⟩) (by assumption) ?_
      rotate_left
      · (intro w hSw; (try dsimp only at hSw); go_simp; first | done | with_reducible rfl)
      try simp only [List.getElem_toArray, List.getElem_cons_zero, List.getElem_cons_succ, Act.put, List.setIfInBounds_toArray, List.set_cons_zero, List.set_cons_succ])
   | (refine wpAnyH_take (i := 12) (v := ?_) rfl (by kernel_rfl) (by decide +kernel) (by decide +kernel) (fun _ _ _ h => h) (Or.inl ⟨by rfl, ?_⟩) (by assumption) ?_
      rotate_left
      · (intro w hSw; (try dsimp only at hSw); go_simp; first | done | with_reducible rfl)
      try simp only [List.getElem_toArray, List.getElem_cons_zero, List.getElem_cons_succ, Act.put, List.setIfInBounds_toArray, List.set_cons_zero, List.set_cons_succ])
   | (refine wpAnyH_take (i := 18) (v := ?_) rfl (by kernel_rfl) (by decide +kernel) (by decide +kernel) (fun _ _ _ h => h) (Or.inl ⟨by rfl, ?_⟩) (by assumption) ?_
      rotate_left
      · (intro w hSw; (try dsimp only at hSw); go_simp; first | done | with_reducible rfl)
      try simp only [List.getElem_toArray, List.getElem_cons_zero, List.getElem_cons_succ, Act.put, List.setIfInBounds_toArray, List.set_cons_zero, List.set_cons_succ])
   | refine wpAnyH_ready (rs := [2]) (by decide +kernel) (by simp) ?_
   | refine wpAnyH_ready (rs := [3]) (by decide +kernel) (by simp) ?_
   | refine wpAnyH_ready (rs := [4]) (by decide +kernel) (by simp) ?_
   | refine wpAnyH_ready (rs := [5]) (by decide +kernel) (by simp) ?_
   | refine wpAnyH_ready (rs := [8]) (by decide +kernel) (by simp) ?_
   | refine wpAnyH_ready (rs := [13]) (by decide +kernel) (by simp) ?_
   | refine wpAnyH_ready (rs := [14]) (by decide +kernel) (by simp) ?_
   | refine wpAnyH_ready (rs := [15]) (by decide +kernel) (by simp) ?_
   | refine wpAnyH_ready (rs := [16]) (by decide +kernel) (by simp) ?_
   | refine wpAnyH_ready (rs := [17]) (by decide +kernel) (by simp) ?_
   | refine wpAnyH_ready (rs := [19]) (by decide +kernel) (by simp) ?_
   | refine AllReadyH.cons (i := 2) rfl (fun K hK2 => ?_) ?_
   | refine AllReadyH.cons (i := 3) rfl (fun K hK3 => ?_) ?_
   | refine AllReadyH.cons (i := 4) rfl (fun K hK4 => ?_) ?_
   | refine AllReadyH.cons (i := 5) rfl (fun K hK5 => ?_) ?_
   | refine AllReadyH.cons (i := 8) rfl (fun K hK8 => ?_) ?_
   | refine AllReadyH.cons (i := 13) rfl (fun K hK13 => ?_) ?_
   | refine AllReadyH.cons (i := 14) rfl (fun K hK14 => ?_) ?_
   | refine AllReadyH.cons (i := 15) rfl (fun K hK15 => ?_) ?_
   | refine AllReadyH.cons (i := 16) rfl (fun K hK16 => ?_) ?_
   | refine AllReadyH.cons (i := 17) rfl (fun K hK17 => ?_) ?_
   | refine AllReadyH.cons (i := 19) rfl (fun K hK19 => ?_) ?_
   | exact AllReadyH.nil
   | (have hK := hK2
      clear hK2
      (try clear hHeld)
      go_simp
      go_at_call 90
      ((with_reducible refine (frac_of0 _).mono ?_))
      rintro e WD ⟨V2, rfl, z, uu⟩
      replace o := o.up uu
      replace od := od.up uu
      replace pf := pf.up uu
      try (replace m := m.up uu)
      try (replace d := d.up uu)
      try (replace y := y.up uu)
      try (replace k := k.up uu)
      try (replace zd := zd.up uu)
      try (replace md := md.up uu)
      try (replace yd := yd.up uu)
      try (replace kd := kd.up uu)
      replace x1 := x1.up uu
      try (replace s3 := s3.up uu)
      try (replace s4 := s4.up uu)
      replace UP := UP.trans uu
      clear uu
      obtain ⟨WC, hWC⟩ : ∃ W, W = WD := ⟨_, rfl⟩
      subst hWC
      clear x1_0 x1_1 x1_2
      obtain ⟨x1_0, x1_1, x1_2⟩ := x1.c3
      rw [HZ0.out] at z
      obtain ⟨Xz, Yz, rfl, z, zd⟩ := z
      obtain ⟨Az, nz, cz, rfl⟩ := z.shape
      obtain ⟨Azd, nzd, czd, rfl⟩ := zd.shape
      try go_wp2_with fail
      refine hK.out _ _ (by exact ⟨UP, x1_0, x1_1, x1_2⟩) (fun hHeld => ?_)
      clear hK K
      try simp only [List.getElem_toArray, List.getElem_cons_zero, List.getElem_cons_succ, Act.put, List.setIfInBounds_toArray, List.set_cons_zero, List.set_cons_succ])
   | (have hK := hK3
      clear hK3
      (try clear hHeld)
      go_simp
      go_at_call 90
      ((with_reducible refine (frac_of (n := -1) (by omega) _).mono ?_))
      rintro e WD ⟨V3, rfl, m, uu⟩
      replace o := o.up uu
      replace od := od.up uu
      replace pf := pf.up uu
      try (replace z := z.up uu)
      try (replace d := d.up uu)
      try (replace y := y.up uu)
      try (replace k := k.up uu)
      try (replace zd := zd.up uu)
      try (replace md := md.up uu)
      try (replace yd := yd.up uu)
      try (replace kd := kd.up uu)
      replace x1 := x1.up uu
      try (replace s3 := s3.up uu)
      try (replace s4 := s4.up uu)
      replace UP := UP.trans uu
      clear uu
      obtain ⟨WC, hWC⟩ : ∃ W, W = WD := ⟨_, rfl⟩
      subst hWC
      clear x1_0 x1_1 x1_2
      obtain ⟨x1_0, x1_1, x1_2⟩ := x1.c3
      rw [HM1.out] at m
      obtain ⟨Xm, Ym, rfl, m, md⟩ := m
      obtain ⟨Am, nm, cm, rfl⟩ := m.shape
      obtain ⟨Amd, nmd, cmd, rfl⟩ := md.shape
      try go_wp2_with fail
      refine hK.out _ _ (by exact ⟨UP, x1_0, x1_1, x1_2⟩) (fun hHeld => ?_)
      clear hK K
      try simp only [List.getElem_toArray, List.getElem_cons_zero, List.getElem_cons_succ, Act.put, List.setIfInBounds_toArray, List.set_cons_zero, List.set_cons_succ])
   | (have hK := hK4
      clear hK4
      (try clear hHeld)
      go_simp
      have s3 := Bx.new 34 WC [.bool (Wd.ngb P1.num), .slice Ao no co, .slice Aod nod cod, .bool (Wd.ngb Z0.num), .slice Az nz cz, .slice Azd nzd czd, .bool (Wd.ngb M1.num), .slice Am nm cm, .slice Amd nmd cmd]
      have x1_lt_s3 := x1.lt
      have s3_base := UP.size
      try (have s4_lt_s3 := s4.lt)
      replace o := o.up ((Up.refl WC).alloc (.cells #[.bool (Wd.ngb P1.num), .slice Ao no co, .slice Aod nod cod, .bool (Wd.ngb Z0.num), .slice Az nz cz, .slice Azd nzd czd, .bool (Wd.ngb M1.num), .slice Am nm cm, .slice Amd nmd cmd] 34))
      replace od := od.up ((Up.refl WC).alloc (.cells #[.bool (Wd.ngb P1.num), .slice Ao no co, .slice Aod nod cod, .bool (Wd.ngb Z0.num), .slice Az nz cz, .slice Azd nzd czd, .bool (Wd.ngb M1.num), .slice Am nm cm, .slice Amd nmd cmd] 34))
      replace pf := pf.up ((Up.refl WC).alloc (.cells #[.bool (Wd.ngb P1.num), .slice Ao no co, .slice Aod nod cod, .bool (Wd.ngb Z0.num), .slice Az nz cz, .slice Azd nzd czd, .bool (Wd.ngb M1.num), .slice Am nm cm, .slice Amd nmd cmd] 34))
      try (replace z := z.up ((Up.refl WC).alloc (.cells #[.bool (Wd.ngb P1.num), .slice Ao no co, .slice Aod nod cod, .bool (Wd.ngb Z0.num), .slice Az nz cz, .slice Azd nzd czd, .bool (Wd.ngb M1.num), .slice Am nm cm, .slice Amd nmd cmd] 34)))
      try (replace m := m.up ((Up.refl WC).alloc (.cells #[.bool (Wd.ngb P1.num), .slice Ao no co, .slice Aod nod cod, .bool (Wd.ngb Z0.num), .slice Az nz cz, .slice Azd nzd czd, .bool (Wd.ngb M1.num), .slice Am nm cm, .slice Amd nmd cmd] 34)))
      try (replace d := d.up ((Up.refl WC).alloc (.cells #[.bool (Wd.ngb P1.num), .slice Ao no co, .slice Aod nod cod, .bool (Wd.ngb Z0.num), .slice Az nz cz, .slice Azd nzd czd, .bool (Wd.ngb M1.num), .slice Am nm cm, .slice Amd nmd cmd] 34)))
      try (replace y := y.up ((Up.refl WC).alloc (.cells #[.bool (Wd.ngb P1.num), .slice Ao no co, .slice Aod nod cod, .bool (Wd.ngb Z0.num), .slice Az nz cz, .slice Azd nzd czd, .bool (Wd.ngb M1.num), .slice Am nm cm, .slice Amd nmd cmd] 34)))
      try (replace k := k.up ((Up.refl WC).alloc (.cells #[.bool (Wd.ngb P1.num), .slice Ao no co, .slice Aod nod cod, .bool (Wd.ngb Z0.num), .slice Az nz cz, .slice Azd nzd czd, .bool (Wd.ngb M1.num), .slice Am nm cm, .slice Amd nmd cmd] 34)))
      try (replace zd := zd.up ((Up.refl WC).alloc (.cells #[.bool (Wd.ngb P1.num), .slice Ao no co, .slice Aod nod cod, .bool (Wd.ngb Z0.num), .slice Az nz cz, .slice Azd nzd czd, .bool (Wd.ngb M1.num), .slice Am nm cm, .slice Amd nmd cmd] 34)))
      try (replace md := md.up ((Up.refl WC).alloc (.cells #[.bool (Wd.ngb P1.num), .slice Ao no co, .slice Aod nod cod, .bool (Wd.ngb Z0.num), .slice Az nz cz, .slice Azd nzd czd, .bool (Wd.ngb M1.num), .slice Am nm cm, .slice Amd nmd cmd] 34)))
      try (replace yd := yd.up ((Up.refl WC).alloc (.cells #[.bool (Wd.ngb P1.num), .slice Ao no co, .slice Aod nod cod, .bool (Wd.ngb Z0.num), .slice Az nz cz, .slice Azd nzd czd, .bool (Wd.ngb M1.num), .slice Am nm cm, .slice Amd nmd cmd] 34)))
      try (replace kd := kd.up ((Up.refl WC).alloc (.cells #[.bool (Wd.ngb P1.num), .slice Ao no co, .slice Aod nod cod, .bool (Wd.ngb Z0.num), .slice Az nz cz, .slice Azd nzd czd, .bool (Wd.ngb M1.num), .slice Am nm cm, .slice Amd nmd cmd] 34)))
      replace x1 := x1.up ((Up.refl WC).alloc (.cells #[.bool (Wd.ngb P1.num), .slice Ao no co, .slice Aod nod cod, .bool (Wd.ngb Z0.num), .slice Az nz cz, .slice Azd nzd czd, .bool (Wd.ngb M1.num), .slice Am nm cm, .slice Amd nmd cmd] 34))
      try (replace s4 := s4.up ((Up.refl WC).alloc (.cells #[.bool (Wd.ngb P1.num), .slice Ao no co, .slice Aod nod cod, .bool (Wd.ngb Z0.num), .slice Az nz cz, .slice Azd nzd czd, .bool (Wd.ngb M1.num), .slice Am nm cm, .slice Amd nmd cmd] 34)))
      replace UP := UP.trans ((Up.refl WC).alloc (.cells #[.bool (Wd.ngb P1.num), .slice Ao no co, .slice Aod nod cod, .bool (Wd.ngb Z0.num), .slice Az nz cz, .slice Azd nzd czd, .bool (Wd.ngb M1.num), .slice Am nm cm, .slice Amd nmd cmd] 34))
      generalize WC.alloc (.cells #[.bool (Wd.ngb P1.num), .slice Ao no co, .slice Aod nod cod, .bool (Wd.ngb Z0.num), .slice Az nz cz, .slice Azd nzd czd, .bool (Wd.ngb M1.num), .slice Am nm cm, .slice Amd nmd cmd] 34) = WD at *
      generalize WC.heap.size = gs3 at *
      obtain ⟨WC, hWC⟩ : ∃ W, W = WD := ⟨_, rfl⟩
      subst hWC
      clear x1_0 x1_1 x1_2
      obtain ⟨x1_0, x1_1, x1_2⟩ := x1.c3
      refine hK.out _ _ (by exact ⟨UP, x1_0, x1_1, x1_2⟩) (fun hHeld => ?_)
      clear hK K
      try simp only [List.getElem_toArray, List.getElem_cons_zero, List.getElem_cons_succ, Act.put, List.setIfInBounds_toArray, List.set_cons_zero, List.set_cons_succ])
   | (have hK := hK5
      clear hK5
      (try clear hHeld)
      go_simp
      go_at_call 30
      ((with_reducible refine (poly_same pf.sq (((fs_three s3 ((qw_of o od).fr L1.out) ((qw_of z zd).fr LZ.out) ((qw_of m md).fr LM.out)).mono (by omega)).sq) (by rw [HL.out]; omega) (by simp) (by omega)).mono ?_))
      rintro e WD ⟨rfl, uu⟩
      replace o := o.up uu
      replace od := od.up uu
      replace pf := pf.up uu
      try (replace z := z.up uu)
      try (replace m := m.up uu)
      try (replace d := d.up uu)
      try (replace y := y.up uu)
      try (replace k := k.up uu)
      try (replace zd := zd.up uu)
      try (replace md := md.up uu)
      try (replace yd := yd.up uu)
      try (replace kd := kd.up uu)
      replace x1 := x1.up uu
      try (replace s3 := s3.up uu)
      try (replace s4 := s4.up uu)
      replace UP := UP.trans uu
      clear uu
      obtain ⟨WC, hWC⟩ : ∃ W, W = WD := ⟨_, rfl⟩
      subst hWC
      clear x1_0 x1_1 x1_2
      obtain ⟨x1_0, x1_1, x1_2⟩ := x1.c3
      rw [HA.out]
      try go_wp2_with fail
      refine hK.out _ _ (by exact ⟨UP, x1_0, x1_1, x1_2⟩) (fun hHeld => ?_)
      clear hK K
      try simp only [List.getElem_toArray, List.getElem_cons_zero, List.getElem_cons_succ, Act.put, List.setIfInBounds_toArray, List.set_cons_zero, List.set_cons_succ])
   | (have hK := hK8
      clear hK8
      (try clear hHeld)
      go_simp
      go_at_call 29
      ((with_reducible refine (poly_degree pf.sq (by rw [HL.out]; omega) (by omega)).mono ?_))
      rintro e WD ⟨rfl, uu⟩
      replace o := o.up uu
      replace od := od.up uu
      replace pf := pf.up uu
      try (replace z := z.up uu)
      try (replace m := m.up uu)
      try (replace d := d.up uu)
      try (replace y := y.up uu)
      try (replace k := k.up uu)
      try (replace zd := zd.up uu)
      try (replace md := md.up uu)
      try (replace yd := yd.up uu)
      try (replace kd := kd.up uu)
      replace x1 := x1.up uu
      try (replace s3 := s3.up uu)
      try (replace s4 := s4.up uu)
      replace UP := UP.trans uu
      clear uu
      obtain ⟨WC, hWC⟩ : ∃ W, W = WD := ⟨_, rfl⟩
      subst hWC
      clear x1_0 x1_1 x1_2
      obtain ⟨x1_0, x1_1, x1_2⟩ := x1.c3
      rw [HB.out]
      try go_wp2_with fail
      refine hK.out _ _ (by exact ⟨UP, x1_0, x1_1, x1_2⟩) (fun hHeld => ?_)
      clear hK K
      try simp only [List.getElem_toArray, List.getElem_cons_zero, List.getElem_cons_succ, Act.put, List.setIfInBounds_toArray, List.set_cons_zero, List.set_cons_succ])
   | (have hK := hK13
      clear hK13
      (try clear hHeld)
      go_simp
      go_at_call 44
      ((with_reducible refine (poly_diff2 pf LR.out (by rw [HL.out]; omega) (by omega)).mono ?_))
      rintro e WD ⟨V13, rfl, d, uu⟩
      replace o := o.up uu
      replace od := od.up uu
      replace pf := pf.up uu
      try (replace z := z.up uu)
      try (replace m := m.up uu)
      try (replace y := y.up uu)
      try (replace k := k.up uu)
      try (replace zd := zd.up uu)
      try (replace md := md.up uu)
      try (replace yd := yd.up uu)
      try (replace kd := kd.up uu)
      replace x1 := x1.up uu
      try (replace s3 := s3.up uu)
      try (replace s4 := s4.up uu)
      replace UP := UP.trans uu
      clear uu
      obtain ⟨WC, hWC⟩ : ∃ W, W = WD := ⟨_, rfl⟩
      subst hWC
      clear x1_0 x1_1 x1_2
      obtain ⟨x1_0, x1_1, x1_2⟩ := x1.c3
      try go_wp2_with fail
      refine hK.out _ _ (by exact ⟨UP, x1_0, x1_1, x1_2⟩) (fun hHeld => ?_)
      clear hK K
      try simp only [List.getElem_toArray, List.getElem_cons_zero, List.getElem_cons_succ, Act.put, List.setIfInBounds_toArray, List.set_cons_zero, List.set_cons_succ])
   | (have hK := hK14
      clear hK14
      (try clear hHeld)
      go_simp
      go_at_call 90
      ((with_reducible refine (frac_of0 _).mono ?_))
      rintro e WD ⟨V14, rfl, y, uu⟩
      replace o := o.up uu
      replace od := od.up uu
      replace pf := pf.up uu
      try (replace z := z.up uu)
      try (replace m := m.up uu)
      try (replace d := d.up uu)
      try (replace k := k.up uu)
      try (replace zd := zd.up uu)
      try (replace md := md.up uu)
      try (replace yd := yd.up uu)
      try (replace kd := kd.up uu)
      replace x1 := x1.up uu
      try (replace s3 := s3.up uu)
      try (replace s4 := s4.up uu)
      replace UP := UP.trans uu
      clear uu
      obtain ⟨WC, hWC⟩ : ∃ W, W = WD := ⟨_, rfl⟩
      subst hWC
      clear x1_0 x1_1 x1_2
      obtain ⟨x1_0, x1_1, x1_2⟩ := x1.c3
      rw [HZ0.out] at y
      obtain ⟨Xy, Yy, rfl, y, yd⟩ := y
      obtain ⟨Ay, ny, cy, rfl⟩ := y.shape
      obtain ⟨Ayd, nyd, cyd, rfl⟩ := yd.shape
      try go_wp2_with fail
      refine hK.out _ _ (by exact ⟨UP, x1_0, x1_1, x1_2⟩) (fun hHeld => ?_)
      clear hK K
      try simp only [List.getElem_toArray, List.getElem_cons_zero, List.getElem_cons_succ, Act.put, List.setIfInBounds_toArray, List.set_cons_zero, List.set_cons_succ])
   | (have hK := hK15
      clear hK15
      (try clear hHeld)
      go_simp
      go_at_call 90
      ((with_reducible refine (frac_of (n := -2) (by omega) _).mono ?_))
      rintro e WD ⟨V15, rfl, k, uu⟩
      replace o := o.up uu
      replace od := od.up uu
      replace pf := pf.up uu
      try (replace z := z.up uu)
      try (replace m := m.up uu)
      try (replace d := d.up uu)
      try (replace y := y.up uu)
      try (replace zd := zd.up uu)
      try (replace md := md.up uu)
      try (replace yd := yd.up uu)
      try (replace kd := kd.up uu)
      replace x1 := x1.up uu
      try (replace s3 := s3.up uu)
      try (replace s4 := s4.up uu)
      replace UP := UP.trans uu
      clear uu
      obtain ⟨WC, hWC⟩ : ∃ W, W = WD := ⟨_, rfl⟩
      subst hWC
      clear x1_0 x1_1 x1_2
      obtain ⟨x1_0, x1_1, x1_2⟩ := x1.c3
      rw [HM2.out] at k
      obtain ⟨Xk, Yk, rfl, k, kd⟩ := k
      obtain ⟨Ak, nk, ck, rfl⟩ := k.shape
      obtain ⟨Akd, nkd, ckd, rfl⟩ := kd.shape
      try go_wp2_with fail
      refine hK.out _ _ (by exact ⟨UP, x1_0, x1_1, x1_2⟩) (fun hHeld => ?_)
      clear hK K
      try simp only [List.getElem_toArray, List.getElem_cons_zero, List.getElem_cons_succ, Act.put, List.setIfInBounds_toArray, List.set_cons_zero, List.set_cons_succ])
   | (have hK := hK16
      clear hK16
      (try clear hHeld)
      go_simp
      have s4 := Bx.new 34 WC [.bool (Wd.ngb Z0.num), .slice Ay ny cy, .slice Ayd nyd cyd, .bool (Wd.ngb M2.num), .slice Ak nk ck, .slice Akd nkd ckd]
      have x1_lt_s4 := x1.lt
      have s4_base := UP.size
      try (have s3_lt_s4 := s3.lt)
      replace o := o.up ((Up.refl WC).alloc (.cells #[.bool (Wd.ngb Z0.num), .slice Ay ny cy, .slice Ayd nyd cyd, .bool (Wd.ngb M2.num), .slice Ak nk ck, .slice Akd nkd ckd] 34))
      replace od := od.up ((Up.refl WC).alloc (.cells #[.bool (Wd.ngb Z0.num), .slice Ay ny cy, .slice Ayd nyd cyd, .bool (Wd.ngb M2.num), .slice Ak nk ck, .slice Akd nkd ckd] 34))
      replace pf := pf.up ((Up.refl WC).alloc (.cells #[.bool (Wd.ngb Z0.num), .slice Ay ny cy, .slice Ayd nyd cyd, .bool (Wd.ngb M2.num), .slice Ak nk ck, .slice Akd nkd ckd] 34))
      try (replace z := z.up ((Up.refl WC).alloc (.cells #[.bool (Wd.ngb Z0.num), .slice Ay ny cy, .slice Ayd nyd cyd, .bool (Wd.ngb M2.num), .slice Ak nk ck, .slice Akd nkd ckd] 34)))
      try (replace m := m.up ((Up.refl WC).alloc (.cells #[.bool (Wd.ngb Z0.num), .slice Ay ny cy, .slice Ayd nyd cyd, .bool (Wd.ngb M2.num), .slice Ak nk ck, .slice Akd nkd ckd] 34)))
      try (replace d := d.up ((Up.refl WC).alloc (.cells #[.bool (Wd.ngb Z0.num), .slice Ay ny cy, .slice Ayd nyd cyd, .bool (Wd.ngb M2.num), .slice Ak nk ck, .slice Akd nkd ckd] 34)))
      try (replace y := y.up ((Up.refl WC).alloc (.cells #[.bool (Wd.ngb Z0.num), .slice Ay ny cy, .slice Ayd nyd cyd, .bool (Wd.ngb M2.num), .slice Ak nk ck, .slice Akd nkd ckd] 34)))
      try (replace k := k.up ((Up.refl WC).alloc (.cells #[.bool (Wd.ngb Z0.num), .slice Ay ny cy, .slice Ayd nyd cyd, .bool (Wd.ngb M2.num), .slice Ak nk ck, .slice Akd nkd ckd] 34)))
      try (replace zd := zd.up ((Up.refl WC).alloc (.cells #[.bool (Wd.ngb Z0.num), .slice Ay ny cy, .slice Ayd nyd cyd, .bool (Wd.ngb M2.num), .slice Ak nk ck, .slice Akd nkd ckd] 34)))
      try (replace md := md.up ((Up.refl WC).alloc (.cells #[.bool (Wd.ngb Z0.num), .slice Ay ny cy, .slice Ayd nyd cyd, .bool (Wd.ngb M2.num), .slice Ak nk ck, .slice Akd nkd ckd] 34)))
      try (replace yd := yd.up ((Up.refl WC).alloc (.cells #[.bool (Wd.ngb Z0.num), .slice Ay ny cy, .slice Ayd nyd cyd, .bool (Wd.ngb M2.num), .slice Ak nk ck, .slice Akd nkd ckd] 34)))
      try (replace kd := kd.up ((Up.refl WC).alloc (.cells #[.bool (Wd.ngb Z0.num), .slice Ay ny cy, .slice Ayd nyd cyd, .bool (Wd.ngb M2.num), .slice Ak nk ck, .slice Akd nkd ckd] 34)))
      replace x1 := x1.up ((Up.refl WC).alloc (.cells #[.bool (Wd.ngb Z0.num), .slice Ay ny cy, .slice Ayd nyd cyd, .bool (Wd.ngb M2.num), .slice Ak nk ck, .slice Akd nkd ckd] 34))
      try (replace s3 := s3.up ((Up.refl WC).alloc (.cells #[.bool (Wd.ngb Z0.num), .slice Ay ny cy, .slice Ayd nyd cyd, .bool (Wd.ngb M2.num), .slice Ak nk ck, .slice Akd nkd ckd] 34)))
      replace UP := UP.trans ((Up.refl WC).alloc (.cells #[.bool (Wd.ngb Z0.num), .slice Ay ny cy, .slice Ayd nyd cyd, .bool (Wd.ngb M2.num), .slice Ak nk ck, .slice Akd nkd ckd] 34))
      generalize WC.alloc (.cells #[.bool (Wd.ngb Z0.num), .slice Ay ny cy, .slice Ayd nyd cyd, .bool (Wd.ngb M2.num), .slice Ak nk ck, .slice Akd nkd ckd] 34) = WD at *
      generalize WC.heap.size = gs4 at *
      obtain ⟨WC, hWC⟩ : ∃ W, W = WD := ⟨_, rfl⟩
      subst hWC
      clear x1_0 x1_1 x1_2
      obtain ⟨x1_0, x1_1, x1_2⟩ := x1.c3
      refine hK.out _ _ (by exact ⟨UP, x1_0, x1_1, x1_2⟩) (fun hHeld => ?_)
      clear hK K
      try simp only [List.getElem_toArray, List.getElem_cons_zero, List.getElem_cons_succ, Act.put, List.setIfInBounds_toArray, List.set_cons_zero, List.set_cons_succ])
   | (have hK := hK17
      clear hK17
      (try clear hHeld)
      go_simp
      go_at_call 30
      ((with_reducible refine (poly_same d.fs.sq (((fs_two s4 ((qw_of y yd).fr LZ.out) ((qw_of k kd).fr LM2.out)).mono (by omega)).sq) (Nat.le_trans (Pq.nm_len _) (by rw [Pq.df_len, HL.out]; omega)) (by simp) (by omega)).mono ?_))
      rintro e WD ⟨rfl, uu⟩
      replace o := o.up uu
      replace od := od.up uu
      replace pf := pf.up uu
      try (replace z := z.up uu)
      try (replace m := m.up uu)
      try (replace d := d.up uu)
      try (replace y := y.up uu)
      try (replace k := k.up uu)
      try (replace zd := zd.up uu)
      try (replace md := md.up uu)
      try (replace yd := yd.up uu)
      try (replace kd := kd.up uu)
      replace x1 := x1.up uu
      try (replace s3 := s3.up uu)
      try (replace s4 := s4.up uu)
      replace UP := UP.trans uu
      clear uu
      obtain ⟨WC, hWC⟩ : ∃ W, W = WD := ⟨_, rfl⟩
      subst hWC
      clear x1_0 x1_1 x1_2
      obtain ⟨x1_0, x1_1, x1_2⟩ := x1.c3
      rw [HC.out]
      try go_wp2_with fail
      refine hK.out _ _ (by exact ⟨UP, x1_0, x1_1, x1_2⟩) (fun hHeld => ?_)
      clear hK K
      try simp only [List.getElem_toArray, List.getElem_cons_zero, List.getElem_cons_succ, Act.put, List.setIfInBounds_toArray, List.set_cons_zero, List.set_cons_succ])
   | (have hK := hK19
      clear hK19
      (try clear hHeld)
      go_simp
      refine hK.out _ _ (by exact ⟨UP, x1_0, x1_1, x1_2⟩) (fun hHeld => ?_)
      clear hK K
      try simp only [List.getElem_toArray, List.getElem_cons_zero, List.getElem_cons_succ, Act.put, List.setIfInBounds_toArray, List.set_cons_zero, List.set_cons_succ])
   | refine wpAnyH_done (by decide +kernel) (NoPanic.normal ?_) _
   | fail
  all_goals try clear hHeld
  all_goals obtain ⟨s4_0, s4_1, s4_2, s4_3, s4_4, s4_5⟩ := s4.c6
  all_goals
   go_wp2
   go_ret
   exact ⟨rfl, UP⟩
end Go.Proofs.YtmmcffceeahemaaGreat
