/-
  Layer 36: the size that is wanted next, and whether one is too small.
-/
import Derived.Test.YtmmcffceeahemaaGreatZsPace5
import Derived.Test.YtmmcffceeahemaaGreatZsPaceLoad
import Derived.Test.YtmmcffceeahemaaGreatZsPaceFac
set_option linter.unusedVariables false
set_option linter.unusedSimpArgs false
namespace Go.Proofs.YtmmcffceeahemaaGreat
open Go.RowKit
set_option maxRecDepth 100000 in
set_option maxHeartbeats 6400000 in
theorem pace_next {s1 s2 s3 s4 s5 : Bool} {A1 A2 A3 A4 A5 D1 D2 D3 D4 D5 : Option Addr} {l1 l2 l3 l4 l5 m1 m2 m3 m4 m5 : List Nat} {c1 c2 c3 c4 c5 e1 e2 e3 e4 e5 : Nat} {fi mo : Int} {v h : Value} {tol safe low high e sz : Rat} {k kh : Nat} {w : World} (F1 : Fr w (.agg #[.bool s1, .slice A1 l1.length c1, .slice D1 m1.length e1]) tol 1000) (F2 : Fr w (.agg #[.bool s2, .slice A2 l2.length c2, .slice D2 m2.length e2]) safe 1000) (F3 : Fr w (.agg #[.bool s3, .slice A3 l3.length c3, .slice D3 m3.length e3]) low 1000) (F4 : Fr w (.agg #[.bool s4, .slice A4 l4.length c4, .slice D4 m4.length e4]) high 1000) (hh : Fr w h sz kh) (hkh : kh ≤ 4000) (he : Fr w v e k) (hk : k ≤ 4000) (h1 : 1 ≤ fi) (h2 : fi ≤ 1024) :
 Calls Tryz.prog 56 #[.agg #[.bool s1, .slice A1 l1.length c1, .slice D1 m1.length e1, .bool s2, .slice A2 l2.length c2, .slice D2 m2.length e2, .bool s3, .slice A3 l3.length c3, .slice D3 m3.length e3, .bool s4, .slice A4 l4.length c4, .slice D4 m4.length e4, .bool s5, .slice A5 l5.length c5, .slice D5 m5.length e5, .int .i64 fi, .int .i64 mo], h, v] w (RetQ (sz * Pc.fac tol safe low high fi e) w) := by
 obtain ⟨x0, rfl, ⟨A6, n6, c6, e9⟩, ⟨D6, p6, d6, e8⟩⟩ := (kp_fr kh).form hh
 obtain ⟨s6, u0, d0⟩ := x0
 simp only at e9 e8
 subst e9 e8
 have FH : Fr w (.agg #[.bool s6, .slice A6 n6 c6, .slice D6 p6 d6]) sz kh := hh
 obtain ⟨x0, rfl, ⟨A7, n7, c7, e9⟩, ⟨D7, p7, d7, e8⟩⟩ := (kp_fr k).form he
 obtain ⟨s7, u0, d0⟩ := x0
 simp only at e9 e8
 subst e9 e8
 have FE : Fr w (.agg #[.bool s7, .slice A7 n7 c7, .slice D7 p7 d7]) e k := he
 clear hh he
 have LF := lq_fac5 F1.lq F2.lq F3.lq F4.lq FE.lq h1 h2
 obtain ⟨F, HF⟩ : ∃ x, Hid (Pc.fac tol safe low high fi e = x) := ⟨_, Lib.hid rfl⟩
 rw [HF.out] at LF ⊢
 obtain ⟨R, HR⟩ : ∃ x, Hid (sz * F = x) := ⟨_, Lib.hid rfl⟩
 rw [HR.out]
 have UP : Up w ((((w.alloc (.cells #[.bool s1, .slice A1 l1.length c1, .slice D1 m1.length e1, .bool s2, .slice A2 l2.length c2, .slice D2 m2.length e2, .bool s3, .slice A3 l3.length c3, .slice D3 m3.length e3, .bool s4, .slice A4 l4.length c4, .slice D4 m4.length e4, .bool s5, .slice A5 l5.length c5, .slice D5 m5.length e5, .int .i64 fi, .int .i64 mo] 36)).alloc (.cells #[.bool s6, .slice A6 n6 c6, .slice D6 p6 d6] 34)).alloc (.cells #[.bool s7, .slice A7 n7 c7, .slice D7 p7 d7] 34)).alloc (.cells #[.bool false, .slice none 0 0, .slice none 0 0] 34)) := ((((Up.refl w).alloc _).alloc _).alloc _).alloc _
 obtain ⟨b0, b1, b2, r0⟩ := bx_four 36 34 34 34 w [.bool s1, .slice A1 l1.length c1, .slice D1 m1.length e1, .bool s2, .slice A2 l2.length c2, .slice D2 m2.length e2, .bool s3, .slice A3 l3.length c3, .slice D3 m3.length e3, .bool s4, .slice A4 l4.length c4, .slice D4 m4.length e4, .bool s5, .slice A5 l5.length c5, .slice D5 m5.length e5, .int .i64 fi, .int .i64 mo] [.bool s6, .slice A6 n6 c6, .slice D6 p6 d6] [.bool s7, .slice A7 n7 c7, .slice D7 p7 d7] [.bool false, .slice none 0 0, .slice none 0 0]
 show Calls Tryz.prog 56 #[.agg #[.bool s1, .slice A1 l1.length c1, .slice D1 m1.length e1, .bool s2, .slice A2 l2.length c2, .slice D2 m2.length e2, .bool s3, .slice A3 l3.length c3, .slice D3 m3.length e3, .bool s4, .slice A4 l4.length c4, .slice D4 m4.length e4, .bool s5, .slice A5 l5.length c5, .slice D5 m5.length e5, .int .i64 fi, .int .i64 mo], .agg #[.bool s6, .slice A6 n6 c6, .slice D6 p6 d6], .agg #[.bool s7, .slice A7 n7 c7, .slice D7 p7 d7]] w _
 go_enter Tryz.func56, Tryz.ntmps56
 go_wp2_with fail
 generalize ((((w.alloc (.cells #[.bool s1, .slice A1 l1.length c1, .slice D1 m1.length e1, .bool s2, .slice A2 l2.length c2, .slice D2 m2.length e2, .bool s3, .slice A3 l3.length c3, .slice D3 m3.length e3, .bool s4, .slice A4 l4.length c4, .slice D4 m4.length e4, .bool s5, .slice A5 l5.length c5, .slice D5 m5.length e5, .int .i64 fi, .int .i64 mo] 36)).alloc (.cells #[.bool s6, .slice A6 n6 c6, .slice D6 p6 d6] 34)).alloc (.cells #[.bool s7, .slice A7 n7 c7, .slice D7 p7 d7] 34)).alloc (.cells #[.bool false, .slice none 0 0, .slice none 0 0] 34)) = W at *
 replace F1 := F1.up UP
 replace F2 := F2.up UP
 replace F3 := F3.up UP
 replace F4 := F4.up UP
 replace FH := FH.up UP
 replace FE := FE.up UP
 have b0_0 := b0.cell (i := 0) rfl
 have b0_1 := b0.cell (i := 1) rfl
 have b0_2 := b0.cell (i := 2) rfl
 have b0_3 := b0.cell (i := 3) rfl
 have b0_4 := b0.cell (i := 4) rfl
 have b0_5 := b0.cell (i := 5) rfl
 have b0_6 := b0.cell (i := 6) rfl
 have b0_7 := b0.cell (i := 7) rfl
 have b0_8 := b0.cell (i := 8) rfl
 have b0_9 := b0.cell (i := 9) rfl
 have b0_10 := b0.cell (i := 10) rfl
 have b0_11 := b0.cell (i := 11) rfl
 have b0_12 := b0.cell (i := 12) rfl
 have b0_13 := b0.cell (i := 13) rfl
 have b0_14 := b0.cell (i := 14) rfl
 have b0_15 := b0.cell (i := 15) rfl
 have b0_16 := b0.cell (i := 16) rfl
 obtain ⟨b1_0, b1_1, b1_2⟩ := b1.c3
 obtain ⟨b2_0, b2_1, b2_2⟩ := b2.c3
 obtain ⟨r0_0, r0_1, r0_2⟩ := r0.c3
 have r0_f0 := r0.free 0
 have r0_f1 := r0.free 1
 have r0_f2 := r0.free 2
 replace F1 := F1.up (Up.refl W).drew
 replace F2 := F2.up (Up.refl W).drew
 replace F3 := F3.up (Up.refl W).drew
 replace F4 := F4.up (Up.refl W).drew
 replace FH := FH.up (Up.refl W).drew
 replace FE := FE.up (Up.refl W).drew
 replace b0 := b0.up (Up.refl W).drew
 replace b1 := b1.up (Up.refl W).drew
 replace b2 := b2.up (Up.refl W).drew
 replace r0 := r0.up (Up.refl W).drew
 replace UP := UP.trans (Up.refl W).drew
 clear b0_0 b0_1 b0_2 b0_3 b0_4 b0_5 b0_6 b0_7 b0_8 b0_9 b0_10 b0_11 b0_12 b0_13 b0_14 b0_15 b0_16 b1_0 b1_1 b1_2 b2_0 b2_1 b2_2
 have b0_0 := b0.cell (i := 0) rfl
 have b0_1 := b0.cell (i := 1) rfl
 have b0_2 := b0.cell (i := 2) rfl
 have b0_3 := b0.cell (i := 3) rfl
 have b0_4 := b0.cell (i := 4) rfl
 have b0_5 := b0.cell (i := 5) rfl
 have b0_6 := b0.cell (i := 6) rfl
 have b0_7 := b0.cell (i := 7) rfl
 have b0_8 := b0.cell (i := 8) rfl
 have b0_9 := b0.cell (i := 9) rfl
 have b0_10 := b0.cell (i := 10) rfl
 have b0_11 := b0.cell (i := 11) rfl
 have b0_12 := b0.cell (i := 12) rfl
 have b0_13 := b0.cell (i := 13) rfl
 have b0_14 := b0.cell (i := 14) rfl
 have b0_15 := b0.cell (i := 15) rfl
 have b0_16 := b0.cell (i := 16) rfl
 obtain ⟨b1_0, b1_1, b1_2⟩ := b1.c3
 obtain ⟨b2_0, b2_1, b2_2⟩ := b2.c3
 obtain ⟨r0_0, r0_1, r0_2⟩ := r0.c3
 have r0_f0 := r0.free 0
 have r0_f1 := r0.free 1
 have r0_f2 := r0.free 2
 refine wp_region_noPanic ?_
 refine wp_region_held_drew (S := fun w' => Up w w' ∧ w'.cell? ⟨w.heap.size, 0, none⟩ = some (.bool s1) ∧ w'.cell? ⟨w.heap.size, 1, none⟩ = some (.slice A1 l1.length c1) ∧ w'.cell? ⟨w.heap.size, 2, none⟩ = some (.slice D1 m1.length e1) ∧ w'.cell? ⟨w.heap.size, 3, none⟩ = some (.bool s2) ∧ w'.cell? ⟨w.heap.size, 4, none⟩ = some (.slice A2 l2.length c2) ∧ w'.cell? ⟨w.heap.size, 5, none⟩ = some (.slice D2 m2.length e2) ∧ w'.cell? ⟨w.heap.size, 6, none⟩ = some (.bool s3) ∧ w'.cell? ⟨w.heap.size, 7, none⟩ = some (.slice A3 l3.length c3) ∧ w'.cell? ⟨w.heap.size, 8, none⟩ = some (.slice D3 m3.length e3) ∧ w'.cell? ⟨w.heap.size, 9, none⟩ = some (.bool s4) ∧ w'.cell? ⟨w.heap.size, 10, none⟩ = some (.slice A4 l4.length c4) ∧ w'.cell? ⟨w.heap.size, 11, none⟩ = some (.slice D4 m4.length e4) ∧ w'.cell? ⟨w.heap.size, 12, none⟩ = some (.bool s5) ∧ w'.cell? ⟨w.heap.size, 13, none⟩ = some (.slice A5 l5.length c5) ∧ w'.cell? ⟨w.heap.size, 14, none⟩ = some (.slice D5 m5.length e5) ∧ w'.cell? ⟨w.heap.size, 15, none⟩ = some (.int .i64 fi) ∧ w'.cell? ⟨w.heap.size, 16, none⟩ = some (.int .i64 mo) ∧ w'.cell? ⟨w.heap.size + 1, 0, none⟩ = some (.bool s6) ∧ w'.cell? ⟨w.heap.size + 1, 1, none⟩ = some (.slice A6 n6 c6) ∧ w'.cell? ⟨w.heap.size + 1, 2, none⟩ = some (.slice D6 p6 d6) ∧ w'.cell? ⟨w.heap.size + 1 + 1, 0, none⟩ = some (.bool s7) ∧ w'.cell? ⟨w.heap.size + 1 + 1, 1, none⟩ = some (.slice A7 n7 c7) ∧ w'.cell? ⟨w.heap.size + 1 + 1, 2, none⟩ = some (.slice D7 p7 d7)) (by kernel_rfl) ?_ (fun hHeld => ?_)
 · with_reducible exact ⟨UP, b0_0, b0_1, b0_2, b0_3, b0_4, b0_5, b0_6, b0_7, b0_8, b0_9, b0_10, b0_11, b0_12, b0_13, b0_14, b0_15, b0_16, b1_0, b1_1, b1_2, b2_0, b2_1, b2_2⟩
 refine wpAnyH_take (i := 0) (v := ?_) rfl (by kernel_rfl) (by kernel_rfl) (by kernel_rfl) (fun _ _ _ h => h) (Or.inl ⟨by rfl, ?_⟩) (by assumption) ?_
 rotate_left
 · (intro w hSw; (try dsimp only at hSw); go_simp; first | done | with_reducible rfl)
 try simp only [List.getElem_toArray, List.getElem_cons_zero, List.getElem_cons_succ, Act.put, List.setIfInBounds_toArray, List.set_cons_zero, List.set_cons_succ]
 refine wpAnyH_take (i := 1) (v := ?_) rfl (by kernel_rfl) (by kernel_rfl) (by kernel_rfl) (fun _ _ _ h => h) (Or.inl ⟨by rfl, ?_⟩) (by assumption) ?_
 rotate_left
 · (intro w hSw; (try dsimp only at hSw); go_simp; first | done | with_reducible rfl)
 try simp only [List.getElem_toArray, List.getElem_cons_zero, List.getElem_cons_succ, Act.put, List.setIfInBounds_toArray, List.set_cons_zero, List.set_cons_succ]
 refine wpAnyH_take (i := 2) (v := ?_) rfl (by kernel_rfl) (by kernel_rfl) (by kernel_rfl) (fun _ _ _ h => h) (Or.inl ⟨by rfl, ?_⟩) (by assumption) ?_
 rotate_left
 · (intro w hSw; (try dsimp only at hSw); go_simp; first | done | with_reducible rfl)
 try simp only [List.getElem_toArray, List.getElem_cons_zero, List.getElem_cons_succ, Act.put, List.setIfInBounds_toArray, List.set_cons_zero, List.set_cons_succ]
 refine wpAnyH_ready (rs := [3]) (by kernel_rfl) (by simp) ?_
 refine AllReadyH.cons rfl (fun K hK => ?_) AllReadyH.nil
 go_simp
 (first
   | (go_at_call 55
      ((with_reducible refine (pace_factor F1 F2 F3 F4 FE (by omega) h1 h2).mono ?_))
      rintro e W1 ⟨V1, rfl, f, u1⟩
      replace F1 := F1.up u1
      replace F2 := F2.up u1
      replace F3 := F3.up u1
      replace F4 := F4.up u1
      replace FH := FH.up u1
      replace FE := FE.up u1
      try (replace f := f.up u1)
      try (replace m := m.up u1)
      replace b0 := b0.up u1
      replace b1 := b1.up u1
      replace b2 := b2.up u1
      replace r0 := r0.up u1
      replace UP := UP.trans u1
      clear b0_0 b0_1 b0_2 b0_3 b0_4 b0_5 b0_6 b0_7 b0_8 b0_9 b0_10 b0_11 b0_12 b0_13 b0_14 b0_15 b0_16 b1_0 b1_1 b1_2 b2_0 b2_1 b2_2 r0_0 r0_1 r0_2
      have b0_0 := b0.cell (i := 0) rfl
      have b0_1 := b0.cell (i := 1) rfl
      have b0_2 := b0.cell (i := 2) rfl
      have b0_3 := b0.cell (i := 3) rfl
      have b0_4 := b0.cell (i := 4) rfl
      have b0_5 := b0.cell (i := 5) rfl
      have b0_6 := b0.cell (i := 6) rfl
      have b0_7 := b0.cell (i := 7) rfl
      have b0_8 := b0.cell (i := 8) rfl
      have b0_9 := b0.cell (i := 9) rfl
      have b0_10 := b0.cell (i := 10) rfl
      have b0_11 := b0.cell (i := 11) rfl
      have b0_12 := b0.cell (i := 12) rfl
      have b0_13 := b0.cell (i := 13) rfl
      have b0_14 := b0.cell (i := 14) rfl
      have b0_15 := b0.cell (i := 15) rfl
      have b0_16 := b0.cell (i := 16) rfl
      obtain ⟨b1_0, b1_1, b1_2⟩ := b1.c3
      obtain ⟨b2_0, b2_1, b2_2⟩ := b2.c3
      obtain ⟨r0_0, r0_1, r0_2⟩ := r0.c3
      replace r0_f0 := r0.free 0
      replace r0_f1 := r0.free 1
      replace r0_f2 := r0.free 2
      clear u1
      rw [HF.out] at f))
 try go_wp2_with fail
 try clear hHeld
 refine hK.out _ _ ?_ (fun hHeld => ?_)
 · with_reducible exact ⟨UP, b0_0, b0_1, b0_2, b0_3, b0_4, b0_5, b0_6, b0_7, b0_8, b0_9, b0_10, b0_11, b0_12, b0_13, b0_14, b0_15, b0_16, b1_0, b1_1, b1_2, b2_0, b2_1, b2_2⟩
 clear hK K
 try simp only [List.getElem_toArray, List.getElem_cons_zero, List.getElem_cons_succ, Act.put, List.setIfInBounds_toArray, List.set_cons_zero, List.set_cons_succ]
 refine wpAnyH_ready (rs := [4]) (by kernel_rfl) (by simp) ?_
 refine AllReadyH.cons rfl (fun K hK => ?_) AllReadyH.nil
 go_simp
 (first
   | (go_at_call 110
      ((with_reducible refine (frac_mul FH (f.fr LF) (by omega) (by omega)).mono ?_))
      rintro e W2 ⟨V2, rfl, m, u2⟩
      replace F1 := F1.up u2
      replace F2 := F2.up u2
      replace F3 := F3.up u2
      replace F4 := F4.up u2
      replace FH := FH.up u2
      replace FE := FE.up u2
      try (replace f := f.up u2)
      try (replace m := m.up u2)
      replace b0 := b0.up u2
      replace b1 := b1.up u2
      replace b2 := b2.up u2
      replace r0 := r0.up u2
      replace UP := UP.trans u2
      clear b0_0 b0_1 b0_2 b0_3 b0_4 b0_5 b0_6 b0_7 b0_8 b0_9 b0_10 b0_11 b0_12 b0_13 b0_14 b0_15 b0_16 b1_0 b1_1 b1_2 b2_0 b2_1 b2_2 r0_0 r0_1 r0_2
      have b0_0 := b0.cell (i := 0) rfl
      have b0_1 := b0.cell (i := 1) rfl
      have b0_2 := b0.cell (i := 2) rfl
      have b0_3 := b0.cell (i := 3) rfl
      have b0_4 := b0.cell (i := 4) rfl
      have b0_5 := b0.cell (i := 5) rfl
      have b0_6 := b0.cell (i := 6) rfl
      have b0_7 := b0.cell (i := 7) rfl
      have b0_8 := b0.cell (i := 8) rfl
      have b0_9 := b0.cell (i := 9) rfl
      have b0_10 := b0.cell (i := 10) rfl
      have b0_11 := b0.cell (i := 11) rfl
      have b0_12 := b0.cell (i := 12) rfl
      have b0_13 := b0.cell (i := 13) rfl
      have b0_14 := b0.cell (i := 14) rfl
      have b0_15 := b0.cell (i := 15) rfl
      have b0_16 := b0.cell (i := 16) rfl
      obtain ⟨b1_0, b1_1, b1_2⟩ := b1.c3
      obtain ⟨b2_0, b2_1, b2_2⟩ := b2.c3
      obtain ⟨r0_0, r0_1, r0_2⟩ := r0.c3
      replace r0_f0 := r0.free 0
      replace r0_f1 := r0.free 1
      replace r0_f2 := r0.free 2
      clear u2
      rw [HR.out] at m
      obtain ⟨Xm, Ym, rfl, m, md⟩ := m
      obtain ⟨Am, nm, cm, rfl⟩ := m.shape
      obtain ⟨Amd, nmd, cmd, rfl⟩ := md.shape))
 try go_wp2_with fail
 try clear hHeld
 refine hK.out _ _ ?_ (fun hHeld => ?_)
 · with_reducible exact ⟨UP, b0_0, b0_1, b0_2, b0_3, b0_4, b0_5, b0_6, b0_7, b0_8, b0_9, b0_10, b0_11, b0_12, b0_13, b0_14, b0_15, b0_16, b1_0, b1_1, b1_2, b2_0, b2_1, b2_2⟩
 clear hK K
 try simp only [List.getElem_toArray, List.getElem_cons_zero, List.getElem_cons_succ, Act.put, List.setIfInBounds_toArray, List.set_cons_zero, List.set_cons_succ]
 refine wpAnyH_ready (rs := [5]) (by kernel_rfl) (by simp) ?_
 refine AllReadyH.cons rfl (fun K hK => ?_) AllReadyH.nil
 go_simp
 skip
 try go_wp2_with fail
 try clear hHeld
 refine hK.out _ _ ?_ (fun hHeld => ?_)
 · (first | with_reducible exact ⟨UP, b0_0, b0_1, b0_2, b0_3, b0_4, b0_5, b0_6, b0_7, b0_8, b0_9, b0_10, b0_11, b0_12, b0_13, b0_14, b0_15, b0_16, b1_0, b1_1, b1_2, b2_0, b2_1, b2_2⟩ | with_reducible exact ⟨(((UP.setCell (p := ⟨w.heap.size + 1 + 1 + 1, 0, none⟩) (by dsimp only; omega) _).setCell (p := ⟨w.heap.size + 1 + 1 + 1, 1, none⟩) (by dsimp only; omega) _).setCell (p := ⟨w.heap.size + 1 + 1 + 1, 2, none⟩) (by dsimp only; omega) _), (cell_far_block (cell_far_block (cell_far_block b0_0 (by dsimp only; omega)) (by dsimp only; omega)) (by dsimp only; omega)), (cell_far_block (cell_far_block (cell_far_block b0_1 (by dsimp only; omega)) (by dsimp only; omega)) (by dsimp only; omega)), (cell_far_block (cell_far_block (cell_far_block b0_2 (by dsimp only; omega)) (by dsimp only; omega)) (by dsimp only; omega)), (cell_far_block (cell_far_block (cell_far_block b0_3 (by dsimp only; omega)) (by dsimp only; omega)) (by dsimp only; omega)), (cell_far_block (cell_far_block (cell_far_block b0_4 (by dsimp only; omega)) (by dsimp only; omega)) (by dsimp only; omega)), (cell_far_block (cell_far_block (cell_far_block b0_5 (by dsimp only; omega)) (by dsimp only; omega)) (by dsimp only; omega)), (cell_far_block (cell_far_block (cell_far_block b0_6 (by dsimp only; omega)) (by dsimp only; omega)) (by dsimp only; omega)), (cell_far_block (cell_far_block (cell_far_block b0_7 (by dsimp only; omega)) (by dsimp only; omega)) (by dsimp only; omega)), (cell_far_block (cell_far_block (cell_far_block b0_8 (by dsimp only; omega)) (by dsimp only; omega)) (by dsimp only; omega)), (cell_far_block (cell_far_block (cell_far_block b0_9 (by dsimp only; omega)) (by dsimp only; omega)) (by dsimp only; omega)), (cell_far_block (cell_far_block (cell_far_block b0_10 (by dsimp only; omega)) (by dsimp only; omega)) (by dsimp only; omega)), (cell_far_block (cell_far_block (cell_far_block b0_11 (by dsimp only; omega)) (by dsimp only; omega)) (by dsimp only; omega)), (cell_far_block (cell_far_block (cell_far_block b0_12 (by dsimp only; omega)) (by dsimp only; omega)) (by dsimp only; omega)), (cell_far_block (cell_far_block (cell_far_block b0_13 (by dsimp only; omega)) (by dsimp only; omega)) (by dsimp only; omega)), (cell_far_block (cell_far_block (cell_far_block b0_14 (by dsimp only; omega)) (by dsimp only; omega)) (by dsimp only; omega)), (cell_far_block (cell_far_block (cell_far_block b0_15 (by dsimp only; omega)) (by dsimp only; omega)) (by dsimp only; omega)), (cell_far_block (cell_far_block (cell_far_block b0_16 (by dsimp only; omega)) (by dsimp only; omega)) (by dsimp only; omega)), (cell_far_block (cell_far_block (cell_far_block b1_0 (by dsimp only; omega)) (by dsimp only; omega)) (by dsimp only; omega)), (cell_far_block (cell_far_block (cell_far_block b1_1 (by dsimp only; omega)) (by dsimp only; omega)) (by dsimp only; omega)), (cell_far_block (cell_far_block (cell_far_block b1_2 (by dsimp only; omega)) (by dsimp only; omega)) (by dsimp only; omega)), (cell_far_block (cell_far_block (cell_far_block b2_0 (by dsimp only; omega)) (by dsimp only; omega)) (by dsimp only; omega)), (cell_far_block (cell_far_block (cell_far_block b2_1 (by dsimp only; omega)) (by dsimp only; omega)) (by dsimp only; omega)), (cell_far_block (cell_far_block (cell_far_block b2_2 (by dsimp only; omega)) (by dsimp only; omega)) (by dsimp only; omega))⟩)
 clear hK K
 try simp only [List.getElem_toArray, List.getElem_cons_zero, List.getElem_cons_succ, Act.put, List.setIfInBounds_toArray, List.set_cons_zero, List.set_cons_succ]
 refine wpAnyH_done (by kernel_rfl) ?_ _
 refine NoPanic.normal ?_
 clear hHeld
 go_wp2_with fail
 exact end_q rfl rfl rfl (qw_of2 m md) r0 trivial trivial trivial UP (by omega)
set_option maxRecDepth 100000 in
set_option maxHeartbeats 3200000 in
theorem pace_under {s1 s2 s3 s4 s5 : Bool} {A1 A2 A3 A4 A5 D1 D2 D3 D4 D5 : Option Addr} {l1 l2 l3 l4 l5 m1 m2 m3 m4 m5 : List Nat} {c1 c2 c3 c4 c5 e1 e2 e3 e4 e5 : Nat} {fi mo : Int} {v : Value} {e t : Rat} {k : Nat} {w : World} (h : Fr w v e k) (ht : Fr w (.agg #[.bool s5, .slice A5 l5.length c5, .slice D5 m5.length e5]) t 1000) (hk : k ≤ 100000) :
 Calls Tryz.prog 58 #[.agg #[.bool s1, .slice A1 l1.length c1, .slice D1 m1.length e1, .bool s2, .slice A2 l2.length c2, .slice D2 m2.length e2, .bool s3, .slice A3 l3.length c3, .slice D3 m3.length e3, .bool s4, .slice A4 l4.length c4, .slice D4 m4.length e4, .bool s5, .slice A5 l5.length c5, .slice D5 m5.length e5, .int .i64 fi, .int .i64 mo], v] w fun x w' => x = .returned (.bool (decide (e < t))) ∧ Up w w' := by
 have HP := Lib.hid (Pc.cmp_lt e t)
 obtain ⟨x0, rfl, ⟨A6, n6, c6, e9⟩, ⟨D6, p6, d6, e8⟩⟩ := (kp_fr k).form h
 obtain ⟨s6, u0, d0⟩ := x0
 simp only at e9 e8
 subst e9 e8
 have FE : Fr w (.agg #[.bool s6, .slice A6 n6 c6, .slice D6 p6 d6]) e k := h
 clear h
 obtain ⟨z, HZ⟩ : ∃ z, Hid (Wd.cmpQ e t = z) := ⟨_, Lib.hid rfl⟩
 rw [HZ.out] at HP
 have UP : Up w ((w.alloc (.cells #[.bool s1, .slice A1 l1.length c1, .slice D1 m1.length e1, .bool s2, .slice A2 l2.length c2, .slice D2 m2.length e2, .bool s3, .slice A3 l3.length c3, .slice D3 m3.length e3, .bool s4, .slice A4 l4.length c4, .slice D4 m4.length e4, .bool s5, .slice A5 l5.length c5, .slice D5 m5.length e5, .int .i64 fi, .int .i64 mo] 36)).alloc (.cells #[.bool s6, .slice A6 n6 c6, .slice D6 p6 d6] 34)) := ((Up.refl w).alloc _).alloc _
 obtain ⟨b0, b1⟩ := bx_two 36 34 w [.bool s1, .slice A1 l1.length c1, .slice D1 m1.length e1, .bool s2, .slice A2 l2.length c2, .slice D2 m2.length e2, .bool s3, .slice A3 l3.length c3, .slice D3 m3.length e3, .bool s4, .slice A4 l4.length c4, .slice D4 m4.length e4, .bool s5, .slice A5 l5.length c5, .slice D5 m5.length e5, .int .i64 fi, .int .i64 mo] [.bool s6, .slice A6 n6 c6, .slice D6 p6 d6]
 show Calls Tryz.prog 58 #[.agg #[.bool s1, .slice A1 l1.length c1, .slice D1 m1.length e1, .bool s2, .slice A2 l2.length c2, .slice D2 m2.length e2, .bool s3, .slice A3 l3.length c3, .slice D3 m3.length e3, .bool s4, .slice A4 l4.length c4, .slice D4 m4.length e4, .bool s5, .slice A5 l5.length c5, .slice D5 m5.length e5, .int .i64 fi, .int .i64 mo], .agg #[.bool s6, .slice A6 n6 c6, .slice D6 p6 d6]] w _
 go_enter Tryz.func58, Tryz.ntmps58
 go_wp2_with fail
 generalize ((w.alloc (.cells #[.bool s1, .slice A1 l1.length c1, .slice D1 m1.length e1, .bool s2, .slice A2 l2.length c2, .slice D2 m2.length e2, .bool s3, .slice A3 l3.length c3, .slice D3 m3.length e3, .bool s4, .slice A4 l4.length c4, .slice D4 m4.length e4, .bool s5, .slice A5 l5.length c5, .slice D5 m5.length e5, .int .i64 fi, .int .i64 mo] 36)).alloc (.cells #[.bool s6, .slice A6 n6 c6, .slice D6 p6 d6] 34)) = W at *
 replace FE := FE.up UP
 replace ht := ht.up UP
 have b0_0 := b0.cell (i := 0) rfl
 have b0_1 := b0.cell (i := 1) rfl
 have b0_2 := b0.cell (i := 2) rfl
 have b0_3 := b0.cell (i := 3) rfl
 have b0_4 := b0.cell (i := 4) rfl
 have b0_5 := b0.cell (i := 5) rfl
 have b0_6 := b0.cell (i := 6) rfl
 have b0_7 := b0.cell (i := 7) rfl
 have b0_8 := b0.cell (i := 8) rfl
 have b0_9 := b0.cell (i := 9) rfl
 have b0_10 := b0.cell (i := 10) rfl
 have b0_11 := b0.cell (i := 11) rfl
 have b0_12 := b0.cell (i := 12) rfl
 have b0_13 := b0.cell (i := 13) rfl
 have b0_14 := b0.cell (i := 14) rfl
 have b0_15 := b0.cell (i := 15) rfl
 have b0_16 := b0.cell (i := 16) rfl
 obtain ⟨b1_0, b1_1, b1_2⟩ := b1.c3
 go_wp2_with fail
 ((with_reducible refine (frac_cmp FE ht (by omega) (by omega)).mono ?_))
 rintro e W1 ⟨rfl, u1⟩
 replace FE := FE.up u1
 replace ht := ht.up u1
 replace b0 := b0.up u1
 replace b1 := b1.up u1
 replace UP := UP.trans u1
 clear b0_0 b0_1 b0_2 b0_3 b0_4 b0_5 b0_6 b0_7 b0_8 b0_9 b0_10 b0_11 b0_12 b0_13 b0_14 b0_15 b0_16 b1_0 b1_1 b1_2
 have b0_0 := b0.cell (i := 0) rfl
 have b0_1 := b0.cell (i := 1) rfl
 have b0_2 := b0.cell (i := 2) rfl
 have b0_3 := b0.cell (i := 3) rfl
 have b0_4 := b0.cell (i := 4) rfl
 have b0_5 := b0.cell (i := 5) rfl
 have b0_6 := b0.cell (i := 6) rfl
 have b0_7 := b0.cell (i := 7) rfl
 have b0_8 := b0.cell (i := 8) rfl
 have b0_9 := b0.cell (i := 9) rfl
 have b0_10 := b0.cell (i := 10) rfl
 have b0_11 := b0.cell (i := 11) rfl
 have b0_12 := b0.cell (i := 12) rfl
 have b0_13 := b0.cell (i := 13) rfl
 have b0_14 := b0.cell (i := 14) rfl
 have b0_15 := b0.cell (i := 15) rfl
 have b0_16 := b0.cell (i := 16) rfl
 obtain ⟨b1_0, b1_1, b1_2⟩ := b1.c3
 clear u1
 rw [HZ.out]
 go_wp2
 go_ret
 exact ⟨by rw [← HP.out]; rfl, UP⟩
end Go.Proofs.YtmmcffceeahemaaGreat
