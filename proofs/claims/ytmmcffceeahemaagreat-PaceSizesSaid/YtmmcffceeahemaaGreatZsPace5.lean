/-
  Layer 36: the factor behind an error.
-/
import Derived.Test.YtmmcffceeahemaaGreatZsPace4
set_option linter.unusedVariables false
set_option linter.unusedSimpArgs false
namespace Go.Proofs.YtmmcffceeahemaaGreat
open Go.RowKit
theorem down_lq {x : Rat} {k : Nat} {fi : Int} (h : Wd.Lq x k) (h1 : 1 ≤ fi) (h2 : fi ≤ 1024) : Wd.Lq (Pc.down x fi) (k + 2) :=
 Wd.Lq.mk (Wd.Lq.floor (h.mul (lq_int (n := fi) (by omega)))) (Nat.le_trans (Wd.words_64 (by omega)) (by omega)) (by omega)
set_option maxRecDepth 100000 in
set_option maxHeartbeats 6400000 in
theorem pace_factor {s1 s2 s3 s4 s5 : Bool} {A1 A2 A3 A4 A5 D1 D2 D3 D4 D5 : Option Addr} {l1 l2 l3 l4 l5 m1 m2 m3 m4 m5 : List Nat} {c1 c2 c3 c4 c5 e1 e2 e3 e4 e5 : Nat} {fi mo : Int} {v : Value} {tol safe low high e : Rat} {k : Nat} {w : World} (F1 : Fr w (.agg #[.bool s1, .slice A1 l1.length c1, .slice D1 m1.length e1]) tol 1000) (F2 : Fr w (.agg #[.bool s2, .slice A2 l2.length c2, .slice D2 m2.length e2]) safe 1000) (F3 : Fr w (.agg #[.bool s3, .slice A3 l3.length c3, .slice D3 m3.length e3]) low 1000) (F4 : Fr w (.agg #[.bool s4, .slice A4 l4.length c4, .slice D4 m4.length e4]) high 1000) (h : Fr w v e k) (hk : k ≤ 4000) (h1 : 1 ≤ fi) (h2 : fi ≤ 1024) :
 Calls Tryz.prog 55 #[.agg #[.bool s1, .slice A1 l1.length c1, .slice D1 m1.length e1, .bool s2, .slice A2 l2.length c2, .slice D2 m2.length e2, .bool s3, .slice A3 l3.length c3, .slice D3 m3.length e3, .bool s4, .slice A4 l4.length c4, .slice D4 m4.length e4, .bool s5, .slice A5 l5.length c5, .slice D5 m5.length e5, .int .i64 fi, .int .i64 mo], v] w (RetQ (Pc.fac tol safe low high fi e) w) := by
 obtain ⟨x0, rfl, ⟨A6, n6, c6, e9⟩, ⟨D6, p6, d6, e8⟩⟩ := (kp_fr k).form h
 obtain ⟨s6, u0, d0⟩ := x0
 simp only at e9 e8
 subst e9 e8
 have FE : Fr w (.agg #[.bool s6, .slice A6 n6 c6, .slice D6 p6 d6]) e k := h
 clear h
 have HFA : Hid (∀ X, Pc.down (safe * tol / e) fi = X → Pc.fac tol safe low high fi e = if e = 0 then high else if X < low then low else if high < X then high else X) := Lib.hid (fun X hX => by rw [← hX]; rfl)
 have LM := F2.lq.mul F1.lq
 have LT := LM.div FE.lq
 obtain ⟨M, HM⟩ : ∃ x, Hid (safe * tol = x) := ⟨_, Lib.hid rfl⟩
 rw [HM.out] at LM LT HFA
 obtain ⟨T, HTT⟩ : ∃ x, Hid (M / e = x) := ⟨_, Lib.hid rfl⟩
 rw [HTT.out] at LT HFA
 have LX := down_lq LT h1 h2
 obtain ⟨X, HX⟩ : ∃ x, Hid (Pc.down T fi = x) := ⟨_, Lib.hid rfl⟩
 rw [HX.out] at LX
 have HFX := Lib.hid (HFA.out X HX.out)
 clear HFA
 obtain ⟨R, HR⟩ : ∃ x, Hid (Pc.fac tol safe low high fi e = x) := ⟨_, Lib.hid rfl⟩
 rw [HR.out] at HFX ⊢
 have UP : Up w (((w.alloc (.cells #[.bool s1, .slice A1 l1.length c1, .slice D1 m1.length e1, .bool s2, .slice A2 l2.length c2, .slice D2 m2.length e2, .bool s3, .slice A3 l3.length c3, .slice D3 m3.length e3, .bool s4, .slice A4 l4.length c4, .slice D4 m4.length e4, .bool s5, .slice A5 l5.length c5, .slice D5 m5.length e5, .int .i64 fi, .int .i64 mo] 36)).alloc (.cells #[.bool s6, .slice A6 n6 c6, .slice D6 p6 d6] 34)).alloc (.cells #[.bool false, .slice none 0 0, .slice none 0 0] 34)) := (((Up.refl w).alloc _).alloc _).alloc _
 obtain ⟨b0, b1, r0⟩ := bx_three 36 34 34 w [.bool s1, .slice A1 l1.length c1, .slice D1 m1.length e1, .bool s2, .slice A2 l2.length c2, .slice D2 m2.length e2, .bool s3, .slice A3 l3.length c3, .slice D3 m3.length e3, .bool s4, .slice A4 l4.length c4, .slice D4 m4.length e4, .bool s5, .slice A5 l5.length c5, .slice D5 m5.length e5, .int .i64 fi, .int .i64 mo] [.bool s6, .slice A6 n6 c6, .slice D6 p6 d6] [.bool false, .slice none 0 0, .slice none 0 0]
 show Calls Tryz.prog 55 #[.agg #[.bool s1, .slice A1 l1.length c1, .slice D1 m1.length e1, .bool s2, .slice A2 l2.length c2, .slice D2 m2.length e2, .bool s3, .slice A3 l3.length c3, .slice D3 m3.length e3, .bool s4, .slice A4 l4.length c4, .slice D4 m4.length e4, .bool s5, .slice A5 l5.length c5, .slice D5 m5.length e5, .int .i64 fi, .int .i64 mo], .agg #[.bool s6, .slice A6 n6 c6, .slice D6 p6 d6]] w _
 go_enter Tryz.func55, Tryz.ntmps55
 go_upto_region 1 with fail
 generalize (((w.alloc (.cells #[.bool s1, .slice A1 l1.length c1, .slice D1 m1.length e1, .bool s2, .slice A2 l2.length c2, .slice D2 m2.length e2, .bool s3, .slice A3 l3.length c3, .slice D3 m3.length e3, .bool s4, .slice A4 l4.length c4, .slice D4 m4.length e4, .bool s5, .slice A5 l5.length c5, .slice D5 m5.length e5, .int .i64 fi, .int .i64 mo] 36)).alloc (.cells #[.bool s6, .slice A6 n6 c6, .slice D6 p6 d6] 34)).alloc (.cells #[.bool false, .slice none 0 0, .slice none 0 0] 34)) = W at *
 replace F1 := F1.up UP
 replace F2 := F2.up UP
 replace F3 := F3.up UP
 replace F4 := F4.up UP
 replace FE := FE.up UP
 have b0_0 := b0.cell (i := 0) rfl
 have b0_1 := b0.cell (i := 1) rfl
 have b0_2 := b0.cell (i := 2) rfl
 have b0_3 := b0.cell (i := 3) rfl
 have b0_4 := b0.cell (i := 4) rfl
 have b0_5 := b0.cell (i := 5) rfl
 have b0_6 := b0.cell (i := 6) rfl
 have b0_7 := b0.cell (i := 7) rfl
 have b0_8 := b0.cell (i := 8) rfl
 have b0_9 := b0.cell (i := 9) rfl
 have b0_10 := b0.cell (i := 10) rfl
 have b0_11 := b0.cell (i := 11) rfl
 have b0_12 := b0.cell (i := 12) rfl
 have b0_13 := b0.cell (i := 13) rfl
 have b0_14 := b0.cell (i := 14) rfl
 have b0_15 := b0.cell (i := 15) rfl
 have b0_16 := b0.cell (i := 16) rfl
 obtain ⟨b1_0, b1_1, b1_2⟩ := b1.c3
 obtain ⟨r0_0, r0_1, r0_2⟩ := r0.c3
 have r0_f0 := r0.free 0
 have r0_f1 := r0.free 1
 have r0_f2 := r0.free 2
 go_cut [5, 6] (fun t5 t6 wx => ∃ (g : Nat) (A D : Option Addr) (n c m d : Nat), t5 = .pointer (some ⟨g, 0, none⟩) ∧ t6 = .bool (!decide (e = 0)) ∧ Bx 34 wx g [.bool (Wd.ngb T.num), .slice A n c, .slice D m d] ∧ Qw wx (.agg #[.bool (Wd.ngb T.num), .slice A n c, .slice D m d]) T ∧ w.heap.size + 2 < g ∧ Bx 36 wx w.heap.size [.bool s1, .slice A1 l1.length c1, .slice D1 m1.length e1, .bool s2, .slice A2 l2.length c2, .slice D2 m2.length e2, .bool s3, .slice A3 l3.length c3, .slice D3 m3.length e3, .bool s4, .slice A4 l4.length c4, .slice D4 m4.length e4, .bool s5, .slice A5 l5.length c5, .slice D5 m5.length e5, .int .i64 fi, .int .i64 mo] ∧ Bx 34 wx (w.heap.size + 1 + 1) [.bool false, .slice none 0 0, .slice none 0 0] ∧ Fr wx (.agg #[.bool s2, .slice A2 l2.length c2, .slice D2 m2.length e2]) safe 1000 ∧ Fr wx (.agg #[.bool s3, .slice A3 l3.length c3, .slice D3 m3.length e3]) low 1000 ∧ Fr wx (.agg #[.bool s4, .slice A4 l4.length c4, .slice D4 m4.length e4]) high 1000 ∧ Up w wx)
 case first =>
  replace F1 := F1.up (Up.refl W).drew
  replace F2 := F2.up (Up.refl W).drew
  replace F3 := F3.up (Up.refl W).drew
  replace F4 := F4.up (Up.refl W).drew
  replace FE := FE.up (Up.refl W).drew
  replace b0 := b0.up (Up.refl W).drew
  replace b1 := b1.up (Up.refl W).drew
  replace r0 := r0.up (Up.refl W).drew
  replace UP := UP.trans (Up.refl W).drew
  clear b0_0 b0_1 b0_2 b0_3 b0_4 b0_5 b0_6 b0_7 b0_8 b0_9 b0_10 b0_11 b0_12 b0_13 b0_14 b0_15 b0_16 b1_0 b1_1 b1_2 r0_0 r0_1 r0_2
  have b0_0 := b0.cell (i := 0) rfl
  have b0_1 := b0.cell (i := 1) rfl
  have b0_2 := b0.cell (i := 2) rfl
  have b0_3 := b0.cell (i := 3) rfl
  have b0_4 := b0.cell (i := 4) rfl
  have b0_5 := b0.cell (i := 5) rfl
  have b0_6 := b0.cell (i := 6) rfl
  have b0_7 := b0.cell (i := 7) rfl
  have b0_8 := b0.cell (i := 8) rfl
  have b0_9 := b0.cell (i := 9) rfl
  have b0_10 := b0.cell (i := 10) rfl
  have b0_11 := b0.cell (i := 11) rfl
  have b0_12 := b0.cell (i := 12) rfl
  have b0_13 := b0.cell (i := 13) rfl
  have b0_14 := b0.cell (i := 14) rfl
  have b0_15 := b0.cell (i := 15) rfl
  have b0_16 := b0.cell (i := 16) rfl
  obtain ⟨b1_0, b1_1, b1_2⟩ := b1.c3
  obtain ⟨r0_0, r0_1, r0_2⟩ := r0.c3
  replace r0_f0 := r0.free 0
  replace r0_f1 := r0.free 1
  replace r0_f2 := r0.free 2
  refine wp_region_noPanic ?_
  refine wp_region_held_drew (S := fun w' => Up w w' ∧ w'.cell? ⟨w.heap.size, 0, none⟩ = some (.bool s1) ∧ w'.cell? ⟨w.heap.size, 1, none⟩ = some (.slice A1 l1.length c1) ∧ w'.cell? ⟨w.heap.size, 2, none⟩ = some (.slice D1 m1.length e1) ∧ w'.cell? ⟨w.heap.size, 3, none⟩ = some (.bool s2) ∧ w'.cell? ⟨w.heap.size, 4, none⟩ = some (.slice A2 l2.length c2) ∧ w'.cell? ⟨w.heap.size, 5, none⟩ = some (.slice D2 m2.length e2) ∧ w'.cell? ⟨w.heap.size, 6, none⟩ = some (.bool s3) ∧ w'.cell? ⟨w.heap.size, 7, none⟩ = some (.slice A3 l3.length c3) ∧ w'.cell? ⟨w.heap.size, 8, none⟩ = some (.slice D3 m3.length e3) ∧ w'.cell? ⟨w.heap.size, 9, none⟩ = some (.bool s4) ∧ w'.cell? ⟨w.heap.size, 10, none⟩ = some (.slice A4 l4.length c4) ∧ w'.cell? ⟨w.heap.size, 11, none⟩ = some (.slice D4 m4.length e4) ∧ w'.cell? ⟨w.heap.size, 12, none⟩ = some (.bool s5) ∧ w'.cell? ⟨w.heap.size, 13, none⟩ = some (.slice A5 l5.length c5) ∧ w'.cell? ⟨w.heap.size, 14, none⟩ = some (.slice D5 m5.length e5) ∧ w'.cell? ⟨w.heap.size, 15, none⟩ = some (.int .i64 fi) ∧ w'.cell? ⟨w.heap.size, 16, none⟩ = some (.int .i64 mo) ∧ w'.cell? ⟨w.heap.size + 1, 0, none⟩ = some (.bool s6) ∧ w'.cell? ⟨w.heap.size + 1, 1, none⟩ = some (.slice A6 n6 c6) ∧ w'.cell? ⟨w.heap.size + 1, 2, none⟩ = some (.slice D6 p6 d6)) (by kernel_rfl) (by exact ⟨UP, b0_0, b0_1, b0_2, b0_3, b0_4, b0_5, b0_6, b0_7, b0_8, b0_9, b0_10, b0_11, b0_12, b0_13, b0_14, b0_15, b0_16, b1_0, b1_1, b1_2⟩) (fun hHeld => ?_)
  clear hHeld
  generalize W.drew = WC at *
  have hHeld : Up w WC ∧ WC.cell? ⟨w.heap.size, 0, none⟩ = some (.bool s1) ∧ WC.cell? ⟨w.heap.size, 1, none⟩ = some (.slice A1 l1.length c1) ∧ WC.cell? ⟨w.heap.size, 2, none⟩ = some (.slice D1 m1.length e1) ∧ WC.cell? ⟨w.heap.size, 3, none⟩ = some (.bool s2) ∧ WC.cell? ⟨w.heap.size, 4, none⟩ = some (.slice A2 l2.length c2) ∧ WC.cell? ⟨w.heap.size, 5, none⟩ = some (.slice D2 m2.length e2) ∧ WC.cell? ⟨w.heap.size, 6, none⟩ = some (.bool s3) ∧ WC.cell? ⟨w.heap.size, 7, none⟩ = some (.slice A3 l3.length c3) ∧ WC.cell? ⟨w.heap.size, 8, none⟩ = some (.slice D3 m3.length e3) ∧ WC.cell? ⟨w.heap.size, 9, none⟩ = some (.bool s4) ∧ WC.cell? ⟨w.heap.size, 10, none⟩ = some (.slice A4 l4.length c4) ∧ WC.cell? ⟨w.heap.size, 11, none⟩ = some (.slice D4 m4.length e4) ∧ WC.cell? ⟨w.heap.size, 12, none⟩ = some (.bool s5) ∧ WC.cell? ⟨w.heap.size, 13, none⟩ = some (.slice A5 l5.length c5) ∧ WC.cell? ⟨w.heap.size, 14, none⟩ = some (.slice D5 m5.length e5) ∧ WC.cell? ⟨w.heap.size, 15, none⟩ = some (.int .i64 fi) ∧ WC.cell? ⟨w.heap.size, 16, none⟩ = some (.int .i64 mo) ∧ WC.cell? ⟨w.heap.size + 1, 0, none⟩ = some (.bool s6) ∧ WC.cell? ⟨w.heap.size + 1, 1, none⟩ = some (.slice A6 n6 c6) ∧ WC.cell? ⟨w.heap.size + 1, 2, none⟩ = some (.slice D6 p6 d6) := by exact ⟨UP, b0_0, b0_1, b0_2, b0_3, b0_4, b0_5, b0_6, b0_7, b0_8, b0_9, b0_10, b0_11, b0_12, b0_13, b0_14, b0_15, b0_16, b1_0, b1_1, b1_2⟩
  refine wpAnyH_take (i := 0) (v := ?_) rfl (by kernel_rfl) (by decide +kernel) (by decide +kernel) (fun _ _ _ h => h) (Or.inl ⟨by rfl, ?_⟩) (by assumption) ?_
  rotate_left
  · (intro w hSw; (try dsimp only at hSw); go_simp; first | done | with_reducible rfl)
  try simp only [List.getElem_toArray, List.getElem_cons_zero, List.getElem_cons_succ, Act.put, List.setIfInBounds_toArray, List.set_cons_zero, List.set_cons_succ]
  refine wpAnyH_take (i := 1) (v := ?_) rfl (by kernel_rfl) (by decide +kernel) (by decide +kernel) (fun _ _ _ h => h) (Or.inl ⟨by rfl, ?_⟩) (by assumption) ?_
  rotate_left
  · (intro w hSw; (try dsimp only at hSw); go_simp; first | done | with_reducible rfl)
  try simp only [List.getElem_toArray, List.getElem_cons_zero, List.getElem_cons_succ, Act.put, List.setIfInBounds_toArray, List.set_cons_zero, List.set_cons_succ]
  refine wpAnyH_take (i := 2) (v := ?_) rfl (by kernel_rfl) (by decide +kernel) (by decide +kernel) (fun _ _ _ h => h) (Or.inl ⟨by rfl, ?_⟩) (by assumption) ?_
  rotate_left
  · (intro w hSw; (try dsimp only at hSw); go_simp; first | done | with_reducible rfl)
  try simp only [List.getElem_toArray, List.getElem_cons_zero, List.getElem_cons_succ, Act.put, List.setIfInBounds_toArray, List.set_cons_zero, List.set_cons_succ]
  refine wpAnyH_take (i := 3) (v := ?_) rfl (by kernel_rfl) (by decide +kernel) (by decide +kernel) (fun _ _ _ h => h) (Or.inl ⟨by rfl, ?_⟩) (by assumption) ?_
  rotate_left
  · (intro w hSw; (try dsimp only at hSw); go_simp; first | done | with_reducible rfl)
  try simp only [List.getElem_toArray, List.getElem_cons_zero, List.getElem_cons_succ, Act.put, List.setIfInBounds_toArray, List.set_cons_zero, List.set_cons_succ]
  refine wpAnyH_take (i := 5) (v := ?_) rfl (by kernel_rfl) (by decide +kernel) (by decide +kernel) (fun _ _ _ h => h) (Or.inl ⟨by rfl, ?_⟩) (by assumption) ?_
  rotate_left
  · (intro w hSw; (try dsimp only at hSw); go_simp; first | done | with_reducible rfl)
  try simp only [List.getElem_toArray, List.getElem_cons_zero, List.getElem_cons_succ, Act.put, List.setIfInBounds_toArray, List.set_cons_zero, List.set_cons_succ]
  repeat' first
   | (refine wpAnyH_take (i := 7) (v := ?_) rfl (by kernel_rfl) (by decide +kernel) (by decide +kernel) (fun _ _ _ h => h) (Or.inl ⟨by rfl, ?_⟩) (by assumption) ?_
      rotate_left
      · (intro w hSw; (try dsimp only at hSw); go_simp; first | done | with_reducible rfl)
      try simp only [List.getElem_toArray, List.getElem_cons_zero, List.getElem_cons_succ, Act.put, List.setIfInBounds_toArray, List.set_cons_zero, List.set_cons_succ])
   | (refine wpAnyH_take (i := 8) (v := ?_) rfl (by kernel_rfl) (by decide +kernel) (by decide +kernel) (fun _ _ _ h => h) (Or.inl ⟨by rfl, ?_⟩) (by assumption) ?_
      rotate_left
      · (intro w hSw; (try dsimp only at hSw); go_simp; first | done | with_reducible rfl)
      try simp only [List.getElem_toArray, List.getElem_cons_zero, List.getElem_cons_succ, Act.put, List.setIfInBounds_toArray, List.set_cons_zero, List.set_cons_succ])
   | (refine wpAnyH_take (i := 9) (v := ?_) rfl (by kernel_rfl) (by decide +kernel) (by decide +kernel) (fun _ _ _ h => h) (Or.inl ⟨by rfl, ?_⟩) (by assumption) ?_
      rotate_left
      · (intro w hSw; (try dsimp only at hSw); go_simp; first | done | with_reducible rfl)
      try simp only [List.getElem_toArray, List.getElem_cons_zero, List.getElem_cons_succ, Act.put, List.setIfInBounds_toArray, List.set_cons_zero, List.set_cons_succ])
   | refine wpAnyH_ready (rs := [4, 10]) (by decide +kernel) (by simp) ?_
   | refine wpAnyH_ready (rs := [4]) (by decide +kernel) (by simp) ?_
   | refine wpAnyH_ready (rs := [6, 10]) (by decide +kernel) (by simp) ?_
   | refine wpAnyH_ready (rs := [6]) (by decide +kernel) (by simp) ?_
   | refine wpAnyH_ready (rs := [10]) (by decide +kernel) (by simp) ?_
   | refine wpAnyH_ready (rs := [11]) (by decide +kernel) (by simp) ?_
   | refine wpAnyH_ready (rs := [12]) (by decide +kernel) (by simp) ?_
   | refine AllReadyH.cons (i := 4) rfl (fun K hK4 => ?_) ?_
   | refine AllReadyH.cons (i := 6) rfl (fun K hK6 => ?_) ?_
   | refine AllReadyH.cons (i := 10) rfl (fun K hK10 => ?_) ?_
   | refine AllReadyH.cons (i := 11) rfl (fun K hK11 => ?_) ?_
   | refine AllReadyH.cons (i := 12) rfl (fun K hK12 => ?_) ?_
   | exact AllReadyH.nil
   | (have hK := hK4
      clear hK4
      (try clear hHeld)
      go_simp
      go_at_call 110
      ((with_reducible refine (frac_mul F2 F1 (by omega) (by omega)).mono ?_))
      rintro e WD ⟨V4, rfl, m, uu⟩
      replace F1 := F1.up uu
      replace F2 := F2.up uu
      replace F3 := F3.up uu
      replace F4 := F4.up uu
      replace FE := FE.up uu
      try (replace q := q.up uu)
      try (replace qd := qd.up uu)
      replace b0 := b0.up uu
      replace b1 := b1.up uu
      replace r0 := r0.up uu
      try (replace x1 := x1.up uu)
      replace UP := UP.trans uu
      clear uu
      obtain ⟨WC, hWC⟩ : ∃ W, W = WD := ⟨_, rfl⟩
      subst hWC
      clear b0_0 b0_1 b0_2 b0_3 b0_4 b0_5 b0_6 b0_7 b0_8 b0_9 b0_10 b0_11 b0_12 b0_13 b0_14 b0_15 b0_16
      have b0_0 := b0.cell (i := 0) rfl
      have b0_1 := b0.cell (i := 1) rfl
      have b0_2 := b0.cell (i := 2) rfl
      have b0_3 := b0.cell (i := 3) rfl
      have b0_4 := b0.cell (i := 4) rfl
      have b0_5 := b0.cell (i := 5) rfl
      have b0_6 := b0.cell (i := 6) rfl
      have b0_7 := b0.cell (i := 7) rfl
      have b0_8 := b0.cell (i := 8) rfl
      have b0_9 := b0.cell (i := 9) rfl
      have b0_10 := b0.cell (i := 10) rfl
      have b0_11 := b0.cell (i := 11) rfl
      have b0_12 := b0.cell (i := 12) rfl
      have b0_13 := b0.cell (i := 13) rfl
      have b0_14 := b0.cell (i := 14) rfl
      have b0_15 := b0.cell (i := 15) rfl
      have b0_16 := b0.cell (i := 16) rfl
      clear b1_0 b1_1 b1_2
      obtain ⟨b1_0, b1_1, b1_2⟩ := b1.c3
      replace r0_f0 := r0.free 0
      replace r0_f1 := r0.free 1
      replace r0_f2 := r0.free 2
      clear r0_0 r0_1 r0_2
      obtain ⟨r0_0, r0_1, r0_2⟩ := r0.c3
      rw [HM.out] at m
      try go_wp2_with fail
      refine hK.out _ _ (by exact ⟨UP, b0_0, b0_1, b0_2, b0_3, b0_4, b0_5, b0_6, b0_7, b0_8, b0_9, b0_10, b0_11, b0_12, b0_13, b0_14, b0_15, b0_16, b1_0, b1_1, b1_2⟩) (fun hHeld => ?_)
      clear hK K
      try simp only [List.getElem_toArray, List.getElem_cons_zero, List.getElem_cons_succ, Act.put, List.setIfInBounds_toArray, List.set_cons_zero, List.set_cons_succ])
   | (have hK := hK6
      clear hK6
      (try clear hHeld)
      go_simp
      go_at_call 116
      ((with_reducible refine (frac_quo (m.fr LM) FE (by omega) (by omega)).mono ?_))
      rintro e WD ⟨V6, rfl, q, uu⟩
      replace F1 := F1.up uu
      replace F2 := F2.up uu
      replace F3 := F3.up uu
      replace F4 := F4.up uu
      replace FE := FE.up uu
      try (replace m := m.up uu)
      try (replace qd := qd.up uu)
      replace b0 := b0.up uu
      replace b1 := b1.up uu
      replace r0 := r0.up uu
      try (replace x1 := x1.up uu)
      replace UP := UP.trans uu
      clear uu
      obtain ⟨WC, hWC⟩ : ∃ W, W = WD := ⟨_, rfl⟩
      subst hWC
      clear b0_0 b0_1 b0_2 b0_3 b0_4 b0_5 b0_6 b0_7 b0_8 b0_9 b0_10 b0_11 b0_12 b0_13 b0_14 b0_15 b0_16
      have b0_0 := b0.cell (i := 0) rfl
      have b0_1 := b0.cell (i := 1) rfl
      have b0_2 := b0.cell (i := 2) rfl
      have b0_3 := b0.cell (i := 3) rfl
      have b0_4 := b0.cell (i := 4) rfl
      have b0_5 := b0.cell (i := 5) rfl
      have b0_6 := b0.cell (i := 6) rfl
      have b0_7 := b0.cell (i := 7) rfl
      have b0_8 := b0.cell (i := 8) rfl
      have b0_9 := b0.cell (i := 9) rfl
      have b0_10 := b0.cell (i := 10) rfl
      have b0_11 := b0.cell (i := 11) rfl
      have b0_12 := b0.cell (i := 12) rfl
      have b0_13 := b0.cell (i := 13) rfl
      have b0_14 := b0.cell (i := 14) rfl
      have b0_15 := b0.cell (i := 15) rfl
      have b0_16 := b0.cell (i := 16) rfl
      clear b1_0 b1_1 b1_2
      obtain ⟨b1_0, b1_1, b1_2⟩ := b1.c3
      replace r0_f0 := r0.free 0
      replace r0_f1 := r0.free 1
      replace r0_f2 := r0.free 2
      clear r0_0 r0_1 r0_2
      obtain ⟨r0_0, r0_1, r0_2⟩ := r0.c3
      rw [HTT.out] at q
      obtain ⟨Xq, Yq, rfl, q, qd⟩ := q
      obtain ⟨Aq, nq, cq, rfl⟩ := q.shape
      obtain ⟨Aqd, nqd, cqd, rfl⟩ := qd.shape
      try go_wp2_with fail
      refine hK.out _ _ (by exact ⟨UP, b0_0, b0_1, b0_2, b0_3, b0_4, b0_5, b0_6, b0_7, b0_8, b0_9, b0_10, b0_11, b0_12, b0_13, b0_14, b0_15, b0_16, b1_0, b1_1, b1_2⟩) (fun hHeld => ?_)
      clear hK K
      try simp only [List.getElem_toArray, List.getElem_cons_zero, List.getElem_cons_succ, Act.put, List.setIfInBounds_toArray, List.set_cons_zero, List.set_cons_succ])
   | (have hK := hK10
      clear hK10
      (try clear hHeld)
      go_simp
      have x1 := Bx.new 34 WC [.bool false, .slice none 0 0, .slice none 0 0]
      have b0_lt_x1 := b0.lt
      have b1_lt_x1 := b1.lt
      have r0_lt_x1 := r0.lt
      have x1_base := UP.size
      have nu := ((Up.refl WC).alloc (.cells #[.bool false, .slice none 0 0, .slice none 0 0] 34))
      replace F1 := F1.up nu
      replace F2 := F2.up nu
      replace F3 := F3.up nu
      replace F4 := F4.up nu
      replace FE := FE.up nu
      try (replace m := m.up nu)
      try (replace q := q.up nu)
      try (replace qd := qd.up nu)
      replace b0 := b0.up nu
      replace b1 := b1.up nu
      replace r0 := r0.up nu
      replace UP := UP.trans nu
      clear nu
      generalize WC.alloc (.cells #[.bool false, .slice none 0 0, .slice none 0 0] 34) = WD at *
      generalize WC.heap.size = gx1 at *
      obtain ⟨WC, hWC⟩ : ∃ W, W = WD := ⟨_, rfl⟩
      subst hWC
      clear b0_0 b0_1 b0_2 b0_3 b0_4 b0_5 b0_6 b0_7 b0_8 b0_9 b0_10 b0_11 b0_12 b0_13 b0_14 b0_15 b0_16
      have b0_0 := b0.cell (i := 0) rfl
      have b0_1 := b0.cell (i := 1) rfl
      have b0_2 := b0.cell (i := 2) rfl
      have b0_3 := b0.cell (i := 3) rfl
      have b0_4 := b0.cell (i := 4) rfl
      have b0_5 := b0.cell (i := 5) rfl
      have b0_6 := b0.cell (i := 6) rfl
      have b0_7 := b0.cell (i := 7) rfl
      have b0_8 := b0.cell (i := 8) rfl
      have b0_9 := b0.cell (i := 9) rfl
      have b0_10 := b0.cell (i := 10) rfl
      have b0_11 := b0.cell (i := 11) rfl
      have b0_12 := b0.cell (i := 12) rfl
      have b0_13 := b0.cell (i := 13) rfl
      have b0_14 := b0.cell (i := 14) rfl
      have b0_15 := b0.cell (i := 15) rfl
      have b0_16 := b0.cell (i := 16) rfl
      clear b1_0 b1_1 b1_2
      obtain ⟨b1_0, b1_1, b1_2⟩ := b1.c3
      replace r0_f0 := r0.free 0
      replace r0_f1 := r0.free 1
      replace r0_f2 := r0.free 2
      clear r0_0 r0_1 r0_2
      obtain ⟨r0_0, r0_1, r0_2⟩ := r0.c3
      refine hK.out _ _ (by exact ⟨UP, b0_0, b0_1, b0_2, b0_3, b0_4, b0_5, b0_6, b0_7, b0_8, b0_9, b0_10, b0_11, b0_12, b0_13, b0_14, b0_15, b0_16, b1_0, b1_1, b1_2⟩) (fun hHeld => ?_)
      clear hK K
      try simp only [List.getElem_toArray, List.getElem_cons_zero, List.getElem_cons_succ, Act.put, List.setIfInBounds_toArray, List.set_cons_zero, List.set_cons_succ])
   | (have hK := hK11
      clear hK11
      (try clear hHeld)
      obtain ⟨ce0, ce1, ce2⟩ := x1.c3
      have fr0 := x1.free 0
      have fr1 := x1.free 1
      have fr2 := x1.free 2
      go_simp
      clear ce0 ce1 ce2 fr0 fr1 fr2
      have KW : Kw (WC) ((WC).setCell ⟨gx1, 0, none⟩ (.bool (Wd.ngb T.num))) := Kw.store (c := (.bool false)) x1 rfl trivial _
      replace F1 := F1.kw KW
      replace F2 := F2.kw KW
      replace F3 := F3.kw KW
      replace F4 := F4.kw KW
      replace FE := FE.kw KW
      try (replace m := m.kw KW)
      try (replace q := q.kw KW)
      try (replace qd := qd.kw KW)
      replace b0 := b0.far (p := ⟨gx1, 0, none⟩) (by dsimp only; omega) (.bool (Wd.ngb T.num))
      replace b1 := b1.far (p := ⟨gx1, 0, none⟩) (by dsimp only; omega) (.bool (Wd.ngb T.num))
      replace r0 := r0.far (p := ⟨gx1, 0, none⟩) (by dsimp only; omega) (.bool (Wd.ngb T.num))
      replace x1 : Bx 34 ((WC).setCell ⟨gx1, 0, none⟩ (.bool (Wd.ngb T.num))) (gx1) [.bool (Wd.ngb T.num), .slice none 0 0, .slice none 0 0] := x1.set 0 (.bool (Wd.ngb T.num))
      replace UP := UP.setCell (p := ⟨gx1, 0, none⟩) (by dsimp only; omega) (.bool (Wd.ngb T.num))
      have KW : Kw (((WC).setCell ⟨gx1, 0, none⟩ (.bool (Wd.ngb T.num)))) ((((WC).setCell ⟨gx1, 0, none⟩ (.bool (Wd.ngb T.num)))).setCell ⟨gx1, 1, none⟩ (.slice Aq nq cq)) := Kw.store (c := (.slice none 0 0)) x1 rfl trivial _
      replace F1 := F1.kw KW
      replace F2 := F2.kw KW
      replace F3 := F3.kw KW
      replace F4 := F4.kw KW
      replace FE := FE.kw KW
      try (replace m := m.kw KW)
      try (replace q := q.kw KW)
      try (replace qd := qd.kw KW)
      replace b0 := b0.far (p := ⟨gx1, 1, none⟩) (by dsimp only; omega) (.slice Aq nq cq)
      replace b1 := b1.far (p := ⟨gx1, 1, none⟩) (by dsimp only; omega) (.slice Aq nq cq)
      replace r0 := r0.far (p := ⟨gx1, 1, none⟩) (by dsimp only; omega) (.slice Aq nq cq)
      replace x1 : Bx 34 ((((WC).setCell ⟨gx1, 0, none⟩ (.bool (Wd.ngb T.num)))).setCell ⟨gx1, 1, none⟩ (.slice Aq nq cq)) (gx1) [.bool (Wd.ngb T.num), .slice Aq nq cq, .slice none 0 0] := x1.set 1 (.slice Aq nq cq)
      replace UP := UP.setCell (p := ⟨gx1, 1, none⟩) (by dsimp only; omega) (.slice Aq nq cq)
      have KW : Kw (((((WC).setCell ⟨gx1, 0, none⟩ (.bool (Wd.ngb T.num)))).setCell ⟨gx1, 1, none⟩ (.slice Aq nq cq))) ((((((WC).setCell ⟨gx1, 0, none⟩ (.bool (Wd.ngb T.num)))).setCell ⟨gx1, 1, none⟩ (.slice Aq nq cq))).setCell ⟨gx1, 2, none⟩ (.slice Aqd nqd cqd)) := Kw.store (c := (.slice none 0 0)) x1 rfl trivial _
      replace F1 := F1.kw KW
      replace F2 := F2.kw KW
      replace F3 := F3.kw KW
      replace F4 := F4.kw KW
      replace FE := FE.kw KW
      try (replace m := m.kw KW)
      try (replace q := q.kw KW)
      try (replace qd := qd.kw KW)
      replace b0 := b0.far (p := ⟨gx1, 2, none⟩) (by dsimp only; omega) (.slice Aqd nqd cqd)
      replace b1 := b1.far (p := ⟨gx1, 2, none⟩) (by dsimp only; omega) (.slice Aqd nqd cqd)
      replace r0 := r0.far (p := ⟨gx1, 2, none⟩) (by dsimp only; omega) (.slice Aqd nqd cqd)
      replace x1 : Bx 34 ((((((WC).setCell ⟨gx1, 0, none⟩ (.bool (Wd.ngb T.num)))).setCell ⟨gx1, 1, none⟩ (.slice Aq nq cq))).setCell ⟨gx1, 2, none⟩ (.slice Aqd nqd cqd)) (gx1) [.bool (Wd.ngb T.num), .slice Aq nq cq, .slice Aqd nqd cqd] := x1.set 2 (.slice Aqd nqd cqd)
      replace UP := UP.setCell (p := ⟨gx1, 2, none⟩) (by dsimp only; omega) (.slice Aqd nqd cqd)
      clear KW
      generalize ((((((WC).setCell ⟨gx1, 0, none⟩ (.bool (Wd.ngb T.num)))).setCell ⟨gx1, 1, none⟩ (.slice Aq nq cq))).setCell ⟨gx1, 2, none⟩ (.slice Aqd nqd cqd)) = WD at *
      obtain ⟨WC, hWC⟩ : ∃ W, W = WD := ⟨_, rfl⟩
      subst hWC
      clear b0_0 b0_1 b0_2 b0_3 b0_4 b0_5 b0_6 b0_7 b0_8 b0_9 b0_10 b0_11 b0_12 b0_13 b0_14 b0_15 b0_16
      have b0_0 := b0.cell (i := 0) rfl
      have b0_1 := b0.cell (i := 1) rfl
      have b0_2 := b0.cell (i := 2) rfl
      have b0_3 := b0.cell (i := 3) rfl
      have b0_4 := b0.cell (i := 4) rfl
      have b0_5 := b0.cell (i := 5) rfl
      have b0_6 := b0.cell (i := 6) rfl
      have b0_7 := b0.cell (i := 7) rfl
      have b0_8 := b0.cell (i := 8) rfl
      have b0_9 := b0.cell (i := 9) rfl
      have b0_10 := b0.cell (i := 10) rfl
      have b0_11 := b0.cell (i := 11) rfl
      have b0_12 := b0.cell (i := 12) rfl
      have b0_13 := b0.cell (i := 13) rfl
      have b0_14 := b0.cell (i := 14) rfl
      have b0_15 := b0.cell (i := 15) rfl
      have b0_16 := b0.cell (i := 16) rfl
      clear b1_0 b1_1 b1_2
      obtain ⟨b1_0, b1_1, b1_2⟩ := b1.c3
      replace r0_f0 := r0.free 0
      replace r0_f1 := r0.free 1
      replace r0_f2 := r0.free 2
      clear r0_0 r0_1 r0_2
      obtain ⟨r0_0, r0_1, r0_2⟩ := r0.c3
      refine hK.out _ _ (by exact ⟨UP, b0_0, b0_1, b0_2, b0_3, b0_4, b0_5, b0_6, b0_7, b0_8, b0_9, b0_10, b0_11, b0_12, b0_13, b0_14, b0_15, b0_16, b1_0, b1_1, b1_2⟩) (fun hHeld => ?_)
      clear hK K
      try simp only [List.getElem_toArray, List.getElem_cons_zero, List.getElem_cons_succ, Act.put, List.setIfInBounds_toArray, List.set_cons_zero, List.set_cons_succ])
   | (have hK := hK12
      clear hK12
      (try clear hHeld)
      go_simp
      refine hK.out _ _ (by exact ⟨UP, b0_0, b0_1, b0_2, b0_3, b0_4, b0_5, b0_6, b0_7, b0_8, b0_9, b0_10, b0_11, b0_12, b0_13, b0_14, b0_15, b0_16, b1_0, b1_1, b1_2⟩) (fun hHeld => ?_)
      clear hK K
      try simp only [List.getElem_toArray, List.getElem_cons_zero, List.getElem_cons_succ, Act.put, List.setIfInBounds_toArray, List.set_cons_zero, List.set_cons_succ])
   | refine wpAnyH_done (by decide +kernel) (NoPanic.normal ?_) _
   | fail
  all_goals try clear hHeld
  all_goals obtain ⟨x1_0, x1_1, x1_2⟩ := x1.c3
  all_goals
   have hlt9 := r0_lt_x1
   go_wp2_with fail
   go_meet
   exact ⟨gx1, _, _, _, _, _, _, rfl, rfl, x1, qw_of2 q qd, by omega, b0, r0, F2, F3, F4, UP⟩
 case rest =>
  obtain ⟨g, A, D, n, c, m, d, rfl, rfl, x1, XT, hg2, b0, r0, F2, F3, F4, UP⟩ := hcut
  have hbase : w.heap.size < g := by omega
  clear b0_0 b0_1 b0_2 b0_3 b0_4 b0_5 b0_6 b0_7 b0_8 b0_9 b0_10 b0_11 b0_12 b0_13 b0_14 b0_15 b0_16 r0_0 r0_1 r0_2 r0_f0 r0_f1 r0_f2
  by_cases h0 : e = 0
  · have HB : Hid ((!decide (e = 0)) = false) := Lib.hid (by rw [decide_eq_true h0]; rfl)
    have HE : Hid (high = R) := Lib.hid (by rw [HFX.out, if_pos h0])
    clear h0
    rw [HB.out]
    have b0_0 := b0.cell (i := 0) rfl
    have b0_1 := b0.cell (i := 1) rfl
    have b0_2 := b0.cell (i := 2) rfl
    have b0_3 := b0.cell (i := 3) rfl
    have b0_4 := b0.cell (i := 4) rfl
    have b0_5 := b0.cell (i := 5) rfl
    have b0_6 := b0.cell (i := 6) rfl
    have b0_7 := b0.cell (i := 7) rfl
    have b0_8 := b0.cell (i := 8) rfl
    have b0_9 := b0.cell (i := 9) rfl
    have b0_10 := b0.cell (i := 10) rfl
    have b0_11 := b0.cell (i := 11) rfl
    have b0_12 := b0.cell (i := 12) rfl
    have b0_13 := b0.cell (i := 13) rfl
    have b0_14 := b0.cell (i := 14) rfl
    have b0_15 := b0.cell (i := 15) rfl
    have b0_16 := b0.cell (i := 16) rfl
    obtain ⟨r0_0, r0_1, r0_2⟩ := r0.c3
    have r0_f0 := r0.free 0
    have r0_f1 := r0.free 1
    have r0_f2 := r0.free 2
    go_wp2_with fail
    ((with_reducible refine (frac_norm F4 (by omega)).mono ?_))
    rintro e W51 ⟨V51, rfl, nn, u51⟩
    replace F4 := F4.up u51
    replace b0 := b0.up u51
    replace r0 := r0.up u51
    replace UP := UP.trans u51
    clear b0_0 b0_1 b0_2 b0_3 b0_4 b0_5 b0_6 b0_7 b0_8 b0_9 b0_10 b0_11 b0_12 b0_13 b0_14 b0_15 b0_16 r0_0 r0_1 r0_2
    have b0_0 := b0.cell (i := 0) rfl
    have b0_1 := b0.cell (i := 1) rfl
    have b0_2 := b0.cell (i := 2) rfl
    have b0_3 := b0.cell (i := 3) rfl
    have b0_4 := b0.cell (i := 4) rfl
    have b0_5 := b0.cell (i := 5) rfl
    have b0_6 := b0.cell (i := 6) rfl
    have b0_7 := b0.cell (i := 7) rfl
    have b0_8 := b0.cell (i := 8) rfl
    have b0_9 := b0.cell (i := 9) rfl
    have b0_10 := b0.cell (i := 10) rfl
    have b0_11 := b0.cell (i := 11) rfl
    have b0_12 := b0.cell (i := 12) rfl
    have b0_13 := b0.cell (i := 13) rfl
    have b0_14 := b0.cell (i := 14) rfl
    have b0_15 := b0.cell (i := 15) rfl
    have b0_16 := b0.cell (i := 16) rfl
    obtain ⟨r0_0, r0_1, r0_2⟩ := r0.c3
    replace r0_f0 := r0.free 0
    replace r0_f1 := r0.free 1
    replace r0_f2 := r0.free 2
    clear u51
    obtain ⟨Xnn, Ynn, rfl, nn, nnd⟩ := nn
    obtain ⟨Ann, nnn, cnn, rfl⟩ := nn.shape
    obtain ⟨Annd, nnnd, cnnd, rfl⟩ := nnd.shape
    go_wp2_with fail
    exact end_q rfl rfl rfl (by rw [← HE.out]; exact qw_of2 nn nnd) r0 trivial trivial trivial UP (by omega)
  · have HB : Hid ((!decide (e = 0)) = true) := Lib.hid (by rw [decide_eq_false h0]; rfl)
    have HE : Hid (R = if X < low then low else if high < X then high else X) := Lib.hid (by rw [HFX.out, if_neg h0])
    clear h0
    rw [HB.out]
    have hgn : ¬ (g = w.heap.size) := by omega
    have b0_0 := b0.cell (i := 0) rfl
    have b0_1 := b0.cell (i := 1) rfl
    have b0_2 := b0.cell (i := 2) rfl
    have b0_3 := b0.cell (i := 3) rfl
    have b0_4 := b0.cell (i := 4) rfl
    have b0_5 := b0.cell (i := 5) rfl
    have b0_6 := b0.cell (i := 6) rfl
    have b0_7 := b0.cell (i := 7) rfl
    have b0_8 := b0.cell (i := 8) rfl
    have b0_9 := b0.cell (i := 9) rfl
    have b0_10 := b0.cell (i := 10) rfl
    have b0_11 := b0.cell (i := 11) rfl
    have b0_12 := b0.cell (i := 12) rfl
    have b0_13 := b0.cell (i := 13) rfl
    have b0_14 := b0.cell (i := 14) rfl
    have b0_15 := b0.cell (i := 15) rfl
    have b0_16 := b0.cell (i := 16) rfl
    obtain ⟨r0_0, r0_1, r0_2⟩ := r0.c3
    have r0_f0 := r0.free 0
    have r0_f1 := r0.free 1
    have r0_f2 := r0.free 2
    obtain ⟨x1_0, x1_1, x1_2⟩ := x1.c3
    have x1_f0 := x1.free 0
    have x1_f1 := x1.free 1
    have x1_f2 := x1.free 2
    go_wp2_with fail
    ((with_reducible refine (pace_down (XT.fr LT) (by omega) h1 h2).mono ?_))
    rintro e W51 ⟨V51, rfl, dn, u51⟩
    replace F3 := F3.up u51
    replace F4 := F4.up u51
    replace XT := XT.up u51
    replace b0 := b0.up u51
    replace r0 := r0.up u51
    replace x1 := x1.up u51
    replace UP := UP.trans u51
    clear b0_0 b0_1 b0_2 b0_3 b0_4 b0_5 b0_6 b0_7 b0_8 b0_9 b0_10 b0_11 b0_12 b0_13 b0_14 b0_15 b0_16 r0_0 r0_1 r0_2 x1_0 x1_1 x1_2
    have b0_0 := b0.cell (i := 0) rfl
    have b0_1 := b0.cell (i := 1) rfl
    have b0_2 := b0.cell (i := 2) rfl
    have b0_3 := b0.cell (i := 3) rfl
    have b0_4 := b0.cell (i := 4) rfl
    have b0_5 := b0.cell (i := 5) rfl
    have b0_6 := b0.cell (i := 6) rfl
    have b0_7 := b0.cell (i := 7) rfl
    have b0_8 := b0.cell (i := 8) rfl
    have b0_9 := b0.cell (i := 9) rfl
    have b0_10 := b0.cell (i := 10) rfl
    have b0_11 := b0.cell (i := 11) rfl
    have b0_12 := b0.cell (i := 12) rfl
    have b0_13 := b0.cell (i := 13) rfl
    have b0_14 := b0.cell (i := 14) rfl
    have b0_15 := b0.cell (i := 15) rfl
    have b0_16 := b0.cell (i := 16) rfl
    obtain ⟨r0_0, r0_1, r0_2⟩ := r0.c3
    replace r0_f0 := r0.free 0
    replace r0_f1 := r0.free 1
    replace r0_f2 := r0.free 2
    obtain ⟨x1_0, x1_1, x1_2⟩ := x1.c3
    replace x1_f0 := x1.free 0
    replace x1_f1 := x1.free 1
    replace x1_f2 := x1.free 2
    clear u51
    rw [HX.out] at dn
    obtain ⟨Xdn, Ydn, rfl, dn, dnd⟩ := dn
    obtain ⟨Adn, ndn, cdn, rfl⟩ := dn.shape
    obtain ⟨Adnd, ndnd, cdnd, rfl⟩ := dnd.shape
    go_wp2_with fail
    clear XT
    have KW : Kw (W51) ((W51).setCell ⟨g, 0, none⟩ (.bool (Wd.ngb X.num))) := Kw.store (c := (.bool (Wd.ngb T.num))) x1 rfl trivial _
    replace F3 := F3.kw KW
    replace F4 := F4.kw KW
    replace dn := dn.kw KW
    replace dnd := dnd.kw KW
    replace b0 := b0.far (p := ⟨g, 0, none⟩) (by dsimp only; omega) (.bool (Wd.ngb X.num))
    replace r0 := r0.far (p := ⟨g, 0, none⟩) (by dsimp only; omega) (.bool (Wd.ngb X.num))
    replace x1 : Bx 34 ((W51).setCell ⟨g, 0, none⟩ (.bool (Wd.ngb X.num))) (g) [.bool (Wd.ngb X.num), .slice A n c, .slice D m d] := x1.set 0 (.bool (Wd.ngb X.num))
    replace UP := UP.setCell (p := ⟨g, 0, none⟩) (by dsimp only; omega) (.bool (Wd.ngb X.num))
    have KW : Kw (((W51).setCell ⟨g, 0, none⟩ (.bool (Wd.ngb X.num)))) ((((W51).setCell ⟨g, 0, none⟩ (.bool (Wd.ngb X.num)))).setCell ⟨g, 1, none⟩ (.slice Adn ndn cdn)) := Kw.store (c := (.slice A n c)) x1 rfl trivial _
    replace F3 := F3.kw KW
    replace F4 := F4.kw KW
    replace dn := dn.kw KW
    replace dnd := dnd.kw KW
    replace b0 := b0.far (p := ⟨g, 1, none⟩) (by dsimp only; omega) (.slice Adn ndn cdn)
    replace r0 := r0.far (p := ⟨g, 1, none⟩) (by dsimp only; omega) (.slice Adn ndn cdn)
    replace x1 : Bx 34 ((((W51).setCell ⟨g, 0, none⟩ (.bool (Wd.ngb X.num)))).setCell ⟨g, 1, none⟩ (.slice Adn ndn cdn)) (g) [.bool (Wd.ngb X.num), .slice Adn ndn cdn, .slice D m d] := x1.set 1 (.slice Adn ndn cdn)
    replace UP := UP.setCell (p := ⟨g, 1, none⟩) (by dsimp only; omega) (.slice Adn ndn cdn)
    have KW : Kw (((((W51).setCell ⟨g, 0, none⟩ (.bool (Wd.ngb X.num)))).setCell ⟨g, 1, none⟩ (.slice Adn ndn cdn))) ((((((W51).setCell ⟨g, 0, none⟩ (.bool (Wd.ngb X.num)))).setCell ⟨g, 1, none⟩ (.slice Adn ndn cdn))).setCell ⟨g, 2, none⟩ (.slice Adnd ndnd cdnd)) := Kw.store (c := (.slice D m d)) x1 rfl trivial _
    replace F3 := F3.kw KW
    replace F4 := F4.kw KW
    replace dn := dn.kw KW
    replace dnd := dnd.kw KW
    replace b0 := b0.far (p := ⟨g, 2, none⟩) (by dsimp only; omega) (.slice Adnd ndnd cdnd)
    replace r0 := r0.far (p := ⟨g, 2, none⟩) (by dsimp only; omega) (.slice Adnd ndnd cdnd)
    replace x1 : Bx 34 ((((((W51).setCell ⟨g, 0, none⟩ (.bool (Wd.ngb X.num)))).setCell ⟨g, 1, none⟩ (.slice Adn ndn cdn))).setCell ⟨g, 2, none⟩ (.slice Adnd ndnd cdnd)) (g) [.bool (Wd.ngb X.num), .slice Adn ndn cdn, .slice Adnd ndnd cdnd] := x1.set 2 (.slice Adnd ndnd cdnd)
    replace UP := UP.setCell (p := ⟨g, 2, none⟩) (by dsimp only; omega) (.slice Adnd ndnd cdnd)
    clear KW
    generalize ((((((W51).setCell ⟨g, 0, none⟩ (.bool (Wd.ngb X.num)))).setCell ⟨g, 1, none⟩ (.slice Adn ndn cdn))).setCell ⟨g, 2, none⟩ (.slice Adnd ndnd cdnd)) = W52 at *
    clear b0_0 b0_1 b0_2 b0_3 b0_4 b0_5 b0_6 b0_7 b0_8 b0_9 b0_10 b0_11 b0_12 b0_13 b0_14 b0_15 b0_16 r0_0 r0_1 r0_2 x1_0 x1_1 x1_2
    have b0_0 := b0.cell (i := 0) rfl
    have b0_1 := b0.cell (i := 1) rfl
    have b0_2 := b0.cell (i := 2) rfl
    have b0_3 := b0.cell (i := 3) rfl
    have b0_4 := b0.cell (i := 4) rfl
    have b0_5 := b0.cell (i := 5) rfl
    have b0_6 := b0.cell (i := 6) rfl
    have b0_7 := b0.cell (i := 7) rfl
    have b0_8 := b0.cell (i := 8) rfl
    have b0_9 := b0.cell (i := 9) rfl
    have b0_10 := b0.cell (i := 10) rfl
    have b0_11 := b0.cell (i := 11) rfl
    have b0_12 := b0.cell (i := 12) rfl
    have b0_13 := b0.cell (i := 13) rfl
    have b0_14 := b0.cell (i := 14) rfl
    have b0_15 := b0.cell (i := 15) rfl
    have b0_16 := b0.cell (i := 16) rfl
    obtain ⟨r0_0, r0_1, r0_2⟩ := r0.c3
    replace r0_f0 := r0.free 0
    replace r0_f1 := r0.free 1
    replace r0_f2 := r0.free 2
    obtain ⟨x1_0, x1_1, x1_2⟩ := x1.c3
    have HN3 := Lib.hid (Pc.lt_iff X low)
    obtain ⟨z3, HZ3⟩ : ∃ z, Hid (Wd.cmpQ X low = z) := ⟨_, Lib.hid rfl⟩
    rw [HZ3.out] at HN3
    have HN4 := Lib.hid (Wd.cmpQ_pos X high)
    obtain ⟨z4, HZ4⟩ : ∃ z, Hid (Wd.cmpQ X high = z) := ⟨_, Lib.hid rfl⟩
    rw [HZ4.out] at HN4
    ((with_reducible refine (frac_cmp ((qw_of2 dn dnd).fr LX) F3 (by omega) (by omega)).mono ?_))
    rintro e W53 ⟨rfl, u53⟩
    replace F3 := F3.up u53
    replace F4 := F4.up u53
    replace dn := dn.up u53
    replace dnd := dnd.up u53
    replace b0 := b0.up u53
    replace r0 := r0.up u53
    replace x1 := x1.up u53
    replace UP := UP.trans u53
    clear b0_0 b0_1 b0_2 b0_3 b0_4 b0_5 b0_6 b0_7 b0_8 b0_9 b0_10 b0_11 b0_12 b0_13 b0_14 b0_15 b0_16 r0_0 r0_1 r0_2 x1_0 x1_1 x1_2
    have b0_0 := b0.cell (i := 0) rfl
    have b0_1 := b0.cell (i := 1) rfl
    have b0_2 := b0.cell (i := 2) rfl
    have b0_3 := b0.cell (i := 3) rfl
    have b0_4 := b0.cell (i := 4) rfl
    have b0_5 := b0.cell (i := 5) rfl
    have b0_6 := b0.cell (i := 6) rfl
    have b0_7 := b0.cell (i := 7) rfl
    have b0_8 := b0.cell (i := 8) rfl
    have b0_9 := b0.cell (i := 9) rfl
    have b0_10 := b0.cell (i := 10) rfl
    have b0_11 := b0.cell (i := 11) rfl
    have b0_12 := b0.cell (i := 12) rfl
    have b0_13 := b0.cell (i := 13) rfl
    have b0_14 := b0.cell (i := 14) rfl
    have b0_15 := b0.cell (i := 15) rfl
    have b0_16 := b0.cell (i := 16) rfl
    obtain ⟨r0_0, r0_1, r0_2⟩ := r0.c3
    replace r0_f0 := r0.free 0
    replace r0_f1 := r0.free 1
    replace r0_f2 := r0.free 2
    obtain ⟨x1_0, x1_1, x1_2⟩ := x1.c3
    clear u53
    rw [HZ3.out]
    by_cases hl : X < low
    · have k2 : z3 < 0 := HN3.out.2 hl
      have HE2 : Hid (low = R) := Lib.hid (by rw [HE.out, if_pos hl])
      clear hl
      go_wp2_with fail
      ((with_reducible refine (frac_norm F3 (by omega)).mono ?_))
      rintro e W54 ⟨V54, rfl, nn, u54⟩
      replace F3 := F3.up u54
      replace F4 := F4.up u54
      replace dn := dn.up u54
      replace dnd := dnd.up u54
      replace b0 := b0.up u54
      replace r0 := r0.up u54
      replace x1 := x1.up u54
      replace UP := UP.trans u54
      clear b0_0 b0_1 b0_2 b0_3 b0_4 b0_5 b0_6 b0_7 b0_8 b0_9 b0_10 b0_11 b0_12 b0_13 b0_14 b0_15 b0_16 r0_0 r0_1 r0_2 x1_0 x1_1 x1_2
      have b0_0 := b0.cell (i := 0) rfl
      have b0_1 := b0.cell (i := 1) rfl
      have b0_2 := b0.cell (i := 2) rfl
      have b0_3 := b0.cell (i := 3) rfl
      have b0_4 := b0.cell (i := 4) rfl
      have b0_5 := b0.cell (i := 5) rfl
      have b0_6 := b0.cell (i := 6) rfl
      have b0_7 := b0.cell (i := 7) rfl
      have b0_8 := b0.cell (i := 8) rfl
      have b0_9 := b0.cell (i := 9) rfl
      have b0_10 := b0.cell (i := 10) rfl
      have b0_11 := b0.cell (i := 11) rfl
      have b0_12 := b0.cell (i := 12) rfl
      have b0_13 := b0.cell (i := 13) rfl
      have b0_14 := b0.cell (i := 14) rfl
      have b0_15 := b0.cell (i := 15) rfl
      have b0_16 := b0.cell (i := 16) rfl
      obtain ⟨r0_0, r0_1, r0_2⟩ := r0.c3
      replace r0_f0 := r0.free 0
      replace r0_f1 := r0.free 1
      replace r0_f2 := r0.free 2
      obtain ⟨x1_0, x1_1, x1_2⟩ := x1.c3
      clear u54
      obtain ⟨Xnn, Ynn, rfl, nn, nnd⟩ := nn
      obtain ⟨Ann, nnn, cnn, rfl⟩ := nn.shape
      obtain ⟨Annd, nnnd, cnnd, rfl⟩ := nnd.shape
      go_wp2_with fail
      exact end_q rfl rfl rfl (by rw [← HE2.out]; exact qw_of2 nn nnd) r0 trivial trivial trivial UP (by omega)
    have k2 : ¬ (z3 < 0) := fun hh => hl (HN3.out.1 hh)
    have HE2 : Hid (R = if high < X then high else X) := Lib.hid (by rw [HE.out, if_neg hl])
    clear hl
    go_wp2_with fail
    ((with_reducible refine (frac_cmp ((qw_of2 dn dnd).fr LX) F4 (by omega) (by omega)).mono ?_))
    rintro e W54 ⟨rfl, u54⟩
    replace F3 := F3.up u54
    replace F4 := F4.up u54
    replace dn := dn.up u54
    replace dnd := dnd.up u54
    replace b0 := b0.up u54
    replace r0 := r0.up u54
    replace x1 := x1.up u54
    replace UP := UP.trans u54
    clear b0_0 b0_1 b0_2 b0_3 b0_4 b0_5 b0_6 b0_7 b0_8 b0_9 b0_10 b0_11 b0_12 b0_13 b0_14 b0_15 b0_16 r0_0 r0_1 r0_2 x1_0 x1_1 x1_2
    have b0_0 := b0.cell (i := 0) rfl
    have b0_1 := b0.cell (i := 1) rfl
    have b0_2 := b0.cell (i := 2) rfl
    have b0_3 := b0.cell (i := 3) rfl
    have b0_4 := b0.cell (i := 4) rfl
    have b0_5 := b0.cell (i := 5) rfl
    have b0_6 := b0.cell (i := 6) rfl
    have b0_7 := b0.cell (i := 7) rfl
    have b0_8 := b0.cell (i := 8) rfl
    have b0_9 := b0.cell (i := 9) rfl
    have b0_10 := b0.cell (i := 10) rfl
    have b0_11 := b0.cell (i := 11) rfl
    have b0_12 := b0.cell (i := 12) rfl
    have b0_13 := b0.cell (i := 13) rfl
    have b0_14 := b0.cell (i := 14) rfl
    have b0_15 := b0.cell (i := 15) rfl
    have b0_16 := b0.cell (i := 16) rfl
    obtain ⟨r0_0, r0_1, r0_2⟩ := r0.c3
    replace r0_f0 := r0.free 0
    replace r0_f1 := r0.free 1
    replace r0_f2 := r0.free 2
    obtain ⟨x1_0, x1_1, x1_2⟩ := x1.c3
    clear u54
    rw [HZ4.out]
    by_cases hh : high < X
    · have k3 : z4 > 0 := HN4.out.2 hh
      have HE3 : Hid (high = R) := Lib.hid (by rw [HE2.out, if_pos hh])
      clear hh
      go_wp2_with fail
      ((with_reducible refine (frac_norm F4 (by omega)).mono ?_))
      rintro e W55 ⟨V55, rfl, nn, u55⟩
      replace F3 := F3.up u55
      replace F4 := F4.up u55
      replace dn := dn.up u55
      replace dnd := dnd.up u55
      replace b0 := b0.up u55
      replace r0 := r0.up u55
      replace x1 := x1.up u55
      replace UP := UP.trans u55
      clear b0_0 b0_1 b0_2 b0_3 b0_4 b0_5 b0_6 b0_7 b0_8 b0_9 b0_10 b0_11 b0_12 b0_13 b0_14 b0_15 b0_16 r0_0 r0_1 r0_2 x1_0 x1_1 x1_2
      have b0_0 := b0.cell (i := 0) rfl
      have b0_1 := b0.cell (i := 1) rfl
      have b0_2 := b0.cell (i := 2) rfl
      have b0_3 := b0.cell (i := 3) rfl
      have b0_4 := b0.cell (i := 4) rfl
      have b0_5 := b0.cell (i := 5) rfl
      have b0_6 := b0.cell (i := 6) rfl
      have b0_7 := b0.cell (i := 7) rfl
      have b0_8 := b0.cell (i := 8) rfl
      have b0_9 := b0.cell (i := 9) rfl
      have b0_10 := b0.cell (i := 10) rfl
      have b0_11 := b0.cell (i := 11) rfl
      have b0_12 := b0.cell (i := 12) rfl
      have b0_13 := b0.cell (i := 13) rfl
      have b0_14 := b0.cell (i := 14) rfl
      have b0_15 := b0.cell (i := 15) rfl
      have b0_16 := b0.cell (i := 16) rfl
      obtain ⟨r0_0, r0_1, r0_2⟩ := r0.c3
      replace r0_f0 := r0.free 0
      replace r0_f1 := r0.free 1
      replace r0_f2 := r0.free 2
      obtain ⟨x1_0, x1_1, x1_2⟩ := x1.c3
      clear u55
      obtain ⟨Xnn, Ynn, rfl, nn, nnd⟩ := nn
      obtain ⟨Ann, nnn, cnn, rfl⟩ := nn.shape
      obtain ⟨Annd, nnnd, cnnd, rfl⟩ := nnd.shape
      go_wp2_with fail
      exact end_q rfl rfl rfl (by rw [← HE3.out]; exact qw_of2 nn nnd) r0 trivial trivial trivial UP (by omega)
    have k3 : ¬ (z4 > 0) := fun h9 => hh (HN4.out.1 h9)
    have HE3 : Hid (X = R) := Lib.hid (by rw [HE2.out, if_neg hh])
    clear hh
    go_wp2_with fail
    exact end_q rfl rfl rfl (by rw [← HE3.out]; exact qw_of2 dn dnd) r0 trivial trivial trivial UP (by omega)
end Go.Proofs.YtmmcffceeahemaaGreat
