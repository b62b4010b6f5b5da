/-
  Layer 36: rules that come in: turned over; too long?
-/
import Derived.Test.YtmmcffceeahemaaGreatZsPace7
set_option linter.unusedVariables false
set_option linter.unusedSimpArgs false
namespace Go.Proofs.YtmmcffceeahemaaGreat
open Go.RowKit
set_option maxRecDepth 100000 in
set_option maxHeartbeats 6400000 in
theorem law_to36 {s1 s2 s3 s4 s5 : Bool} {A1 A2 A3 A4 A5 D1 D2 D3 D4 D5 : Option Addr} {l1 l2 l3 l4 l5 m1 m2 m3 m4 m5 : List Nat} {c1 c2 c3 c4 c5 e1 e2 e3 e4 e5 : Nat} {fi mo : Int} {w : World} : Calls Tryz.prog 13 #[.agg #[.bool s1, .slice A1 l1.length c1, .slice D1 m1.length e1, .bool s2, .slice A2 l2.length c2, .slice D2 m2.length e2, .bool s3, .slice A3 l3.length c3, .slice D3 m3.length e3, .bool s4, .slice A4 l4.length c4, .slice D4 m4.length e4, .bool s5, .slice A5 l5.length c5, .slice D5 m5.length e5, .int .i64 fi, .int .i64 mo]] w fun e w' => e = .returned (.agg #[.bool s1, .slice A1 l1.length c1, .slice D1 m1.length e1, .bool s2, .slice A2 l2.length c2, .slice D2 m2.length e2, .bool s3, .slice A3 l3.length c3, .slice D3 m3.length e3, .bool s4, .slice A4 l4.length c4, .slice D4 m4.length e4, .bool s5, .slice A5 l5.length c5, .slice D5 m5.length e5, .int .i64 fi, .int .i64 mo]) ∧ Up w w' := by
 have UP : Up w ((w.alloc (.cells #[.bool s1, .slice A1 l1.length c1, .slice D1 m1.length e1, .bool s2, .slice A2 l2.length c2, .slice D2 m2.length e2, .bool s3, .slice A3 l3.length c3, .slice D3 m3.length e3, .bool s4, .slice A4 l4.length c4, .slice D4 m4.length e4, .bool s5, .slice A5 l5.length c5, .slice D5 m5.length e5, .int .i64 fi, .int .i64 mo] 26)).alloc (.cells #[.bool false, .slice none 0 0, .slice none 0 0, .bool false, .slice none 0 0, .slice none 0 0, .bool false, .slice none 0 0, .slice none 0 0, .bool false, .slice none 0 0, .slice none 0 0, .bool false, .slice none 0 0, .slice none 0 0, .int .i64 0, .int .i64 0] 36)) := ((Up.refl w).alloc _).alloc _
 obtain ⟨b0, r0⟩ := bx_two 26 36 w [.bool s1, .slice A1 l1.length c1, .slice D1 m1.length e1, .bool s2, .slice A2 l2.length c2, .slice D2 m2.length e2, .bool s3, .slice A3 l3.length c3, .slice D3 m3.length e3, .bool s4, .slice A4 l4.length c4, .slice D4 m4.length e4, .bool s5, .slice A5 l5.length c5, .slice D5 m5.length e5, .int .i64 fi, .int .i64 mo] [.bool false, .slice none 0 0, .slice none 0 0, .bool false, .slice none 0 0, .slice none 0 0, .bool false, .slice none 0 0, .slice none 0 0, .bool false, .slice none 0 0, .slice none 0 0, .bool false, .slice none 0 0, .slice none 0 0, .int .i64 0, .int .i64 0]
 go_enter Tryz.func13, Tryz.ntmps13
 go_wp2_with fail
 generalize ((w.alloc (.cells #[.bool s1, .slice A1 l1.length c1, .slice D1 m1.length e1, .bool s2, .slice A2 l2.length c2, .slice D2 m2.length e2, .bool s3, .slice A3 l3.length c3, .slice D3 m3.length e3, .bool s4, .slice A4 l4.length c4, .slice D4 m4.length e4, .bool s5, .slice A5 l5.length c5, .slice D5 m5.length e5, .int .i64 fi, .int .i64 mo] 26)).alloc (.cells #[.bool false, .slice none 0 0, .slice none 0 0, .bool false, .slice none 0 0, .slice none 0 0, .bool false, .slice none 0 0, .slice none 0 0, .bool false, .slice none 0 0, .slice none 0 0, .bool false, .slice none 0 0, .slice none 0 0, .int .i64 0, .int .i64 0] 36)) = W at *
 have b0_0 := b0.cell (i := 0) rfl
 have b0_1 := b0.cell (i := 1) rfl
 have b0_2 := b0.cell (i := 2) rfl
 have b0_3 := b0.cell (i := 3) rfl
 have b0_4 := b0.cell (i := 4) rfl
 have b0_5 := b0.cell (i := 5) rfl
 have b0_6 := b0.cell (i := 6) rfl
 have b0_7 := b0.cell (i := 7) rfl
 have b0_8 := b0.cell (i := 8) rfl
 have b0_9 := b0.cell (i := 9) rfl
 have b0_10 := b0.cell (i := 10) rfl
 have b0_11 := b0.cell (i := 11) rfl
 have b0_12 := b0.cell (i := 12) rfl
 have b0_13 := b0.cell (i := 13) rfl
 have b0_14 := b0.cell (i := 14) rfl
 have b0_15 := b0.cell (i := 15) rfl
 have b0_16 := b0.cell (i := 16) rfl
 have r0_0 := r0.cell (i := 0) rfl
 have r0_1 := r0.cell (i := 1) rfl
 have r0_2 := r0.cell (i := 2) rfl
 have r0_3 := r0.cell (i := 3) rfl
 have r0_4 := r0.cell (i := 4) rfl
 have r0_5 := r0.cell (i := 5) rfl
 have r0_6 := r0.cell (i := 6) rfl
 have r0_7 := r0.cell (i := 7) rfl
 have r0_8 := r0.cell (i := 8) rfl
 have r0_9 := r0.cell (i := 9) rfl
 have r0_10 := r0.cell (i := 10) rfl
 have r0_11 := r0.cell (i := 11) rfl
 have r0_12 := r0.cell (i := 12) rfl
 have r0_13 := r0.cell (i := 13) rfl
 have r0_14 := r0.cell (i := 14) rfl
 have r0_15 := r0.cell (i := 15) rfl
 have r0_16 := r0.cell (i := 16) rfl
 have r0_f0 := r0.free 0
 have r0_f1 := r0.free 1
 have r0_f2 := r0.free 2
 have r0_f3 := r0.free 3
 have r0_f4 := r0.free 4
 have r0_f5 := r0.free 5
 have r0_f6 := r0.free 6
 have r0_f7 := r0.free 7
 have r0_f8 := r0.free 8
 have r0_f9 := r0.free 9
 have r0_f10 := r0.free 10
 have r0_f11 := r0.free 11
 have r0_f12 := r0.free 12
 have r0_f13 := r0.free 13
 have r0_f14 := r0.free 14
 have r0_f15 := r0.free 15
 have r0_f16 := r0.free 16
 replace b0 := b0.up (Up.refl W).drew
 replace r0 := r0.up (Up.refl W).drew
 replace UP := UP.trans (Up.refl W).drew
 clear b0_0 b0_1 b0_2 b0_3 b0_4 b0_5 b0_6 b0_7 b0_8 b0_9 b0_10 b0_11 b0_12 b0_13 b0_14 b0_15 b0_16
 have b0_0 := b0.cell (i := 0) rfl
 have b0_1 := b0.cell (i := 1) rfl
 have b0_2 := b0.cell (i := 2) rfl
 have b0_3 := b0.cell (i := 3) rfl
 have b0_4 := b0.cell (i := 4) rfl
 have b0_5 := b0.cell (i := 5) rfl
 have b0_6 := b0.cell (i := 6) rfl
 have b0_7 := b0.cell (i := 7) rfl
 have b0_8 := b0.cell (i := 8) rfl
 have b0_9 := b0.cell (i := 9) rfl
 have b0_10 := b0.cell (i := 10) rfl
 have b0_11 := b0.cell (i := 11) rfl
 have b0_12 := b0.cell (i := 12) rfl
 have b0_13 := b0.cell (i := 13) rfl
 have b0_14 := b0.cell (i := 14) rfl
 have b0_15 := b0.cell (i := 15) rfl
 have b0_16 := b0.cell (i := 16) rfl
 have r0_0 := r0.cell (i := 0) rfl
 have r0_1 := r0.cell (i := 1) rfl
 have r0_2 := r0.cell (i := 2) rfl
 have r0_3 := r0.cell (i := 3) rfl
 have r0_4 := r0.cell (i := 4) rfl
 have r0_5 := r0.cell (i := 5) rfl
 have r0_6 := r0.cell (i := 6) rfl
 have r0_7 := r0.cell (i := 7) rfl
 have r0_8 := r0.cell (i := 8) rfl
 have r0_9 := r0.cell (i := 9) rfl
 have r0_10 := r0.cell (i := 10) rfl
 have r0_11 := r0.cell (i := 11) rfl
 have r0_12 := r0.cell (i := 12) rfl
 have r0_13 := r0.cell (i := 13) rfl
 have r0_14 := r0.cell (i := 14) rfl
 have r0_15 := r0.cell (i := 15) rfl
 have r0_16 := r0.cell (i := 16) rfl
 have r0_f0 := r0.free 0
 have r0_f1 := r0.free 1
 have r0_f2 := r0.free 2
 have r0_f3 := r0.free 3
 have r0_f4 := r0.free 4
 have r0_f5 := r0.free 5
 have r0_f6 := r0.free 6
 have r0_f7 := r0.free 7
 have r0_f8 := r0.free 8
 have r0_f9 := r0.free 9
 have r0_f10 := r0.free 10
 have r0_f11 := r0.free 11
 have r0_f12 := r0.free 12
 have r0_f13 := r0.free 13
 have r0_f14 := r0.free 14
 have r0_f15 := r0.free 15
 have r0_f16 := r0.free 16
 refine wp_region_noPanic ?_
 refine wp_region_held_drew (S := fun w' => Up w w' ∧ w'.cell? ⟨w.heap.size, 0, none⟩ = some (.bool s1) ∧ w'.cell? ⟨w.heap.size, 1, none⟩ = some (.slice A1 l1.length c1) ∧ w'.cell? ⟨w.heap.size, 2, none⟩ = some (.slice D1 m1.length e1) ∧ w'.cell? ⟨w.heap.size, 3, none⟩ = some (.bool s2) ∧ w'.cell? ⟨w.heap.size, 4, none⟩ = some (.slice A2 l2.length c2) ∧ w'.cell? ⟨w.heap.size, 5, none⟩ = some (.slice D2 m2.length e2) ∧ w'.cell? ⟨w.heap.size, 6, none⟩ = some (.bool s3) ∧ w'.cell? ⟨w.heap.size, 7, none⟩ = some (.slice A3 l3.length c3) ∧ w'.cell? ⟨w.heap.size, 8, none⟩ = some (.slice D3 m3.length e3) ∧ w'.cell? ⟨w.heap.size, 9, none⟩ = some (.bool s4) ∧ w'.cell? ⟨w.heap.size, 10, none⟩ = some (.slice A4 l4.length c4) ∧ w'.cell? ⟨w.heap.size, 11, none⟩ = some (.slice D4 m4.length e4) ∧ w'.cell? ⟨w.heap.size, 12, none⟩ = some (.bool s5) ∧ w'.cell? ⟨w.heap.size, 13, none⟩ = some (.slice A5 l5.length c5) ∧ w'.cell? ⟨w.heap.size, 14, none⟩ = some (.slice D5 m5.length e5) ∧ w'.cell? ⟨w.heap.size, 15, none⟩ = some (.int .i64 fi) ∧ w'.cell? ⟨w.heap.size, 16, none⟩ = some (.int .i64 mo)) (by kernel_rfl) ?_ (fun hHeld => ?_)
 · with_reducible exact ⟨UP, b0_0, b0_1, b0_2, b0_3, b0_4, b0_5, b0_6, b0_7, b0_8, b0_9, b0_10, b0_11, b0_12, b0_13, b0_14, b0_15, b0_16⟩
 refine wpAnyH_take (i := 0) (v := ?_) rfl (by kernel_rfl) (by kernel_rfl) (by kernel_rfl) (fun _ _ _ h => h) (Or.inl ⟨by rfl, ?_⟩) (by assumption) ?_
 rotate_left
 · (intro w hSw; (try dsimp only at hSw); go_simp; first | done | with_reducible rfl)
 try simp only [List.getElem_toArray, List.getElem_cons_zero, List.getElem_cons_succ, Act.put, List.setIfInBounds_toArray, List.set_cons_zero, List.set_cons_succ]
 refine wpAnyH_take (i := 1) (v := ?_) rfl (by kernel_rfl) (by kernel_rfl) (by kernel_rfl) (fun _ _ _ h => h) (Or.inl ⟨by rfl, ?_⟩) (by assumption) ?_
 rotate_left
 · (intro w hSw; (try dsimp only at hSw); go_simp; first | done | with_reducible rfl)
 try simp only [List.getElem_toArray, List.getElem_cons_zero, List.getElem_cons_succ, Act.put, List.setIfInBounds_toArray, List.set_cons_zero, List.set_cons_succ]
 refine wpAnyH_take (i := 3) (v := ?_) rfl (by kernel_rfl) (by kernel_rfl) (by kernel_rfl) (fun _ _ _ h => h) (Or.inl ⟨by rfl, ?_⟩) (by assumption) ?_
 rotate_left
 · (intro w hSw; (try dsimp only at hSw); go_simp; first | done | with_reducible rfl)
 try simp only [List.getElem_toArray, List.getElem_cons_zero, List.getElem_cons_succ, Act.put, List.setIfInBounds_toArray, List.set_cons_zero, List.set_cons_succ]
 refine wpAnyH_take (i := 4) (v := ?_) rfl (by kernel_rfl) (by kernel_rfl) (by kernel_rfl) (fun _ _ _ h => h) (Or.inl ⟨by rfl, ?_⟩) (by assumption) ?_
 rotate_left
 · (intro w hSw; (try dsimp only at hSw); go_simp; first | done | with_reducible rfl)
 try simp only [List.getElem_toArray, List.getElem_cons_zero, List.getElem_cons_succ, Act.put, List.setIfInBounds_toArray, List.set_cons_zero, List.set_cons_succ]
 refine wpAnyH_take (i := 6) (v := ?_) rfl (by kernel_rfl) (by kernel_rfl) (by kernel_rfl) (fun _ _ _ h => h) (Or.inl ⟨by rfl, ?_⟩) (by assumption) ?_
 rotate_left
 · (intro w hSw; (try dsimp only at hSw); go_simp; first | done | with_reducible rfl)
 try simp only [List.getElem_toArray, List.getElem_cons_zero, List.getElem_cons_succ, Act.put, List.setIfInBounds_toArray, List.set_cons_zero, List.set_cons_succ]
 refine wpAnyH_take (i := 7) (v := ?_) rfl (by kernel_rfl) (by kernel_rfl) (by kernel_rfl) (fun _ _ _ h => h) (Or.inl ⟨by rfl, ?_⟩) (by assumption) ?_
 rotate_left
 · (intro w hSw; (try dsimp only at hSw); go_simp; first | done | with_reducible rfl)
 try simp only [List.getElem_toArray, List.getElem_cons_zero, List.getElem_cons_succ, Act.put, List.setIfInBounds_toArray, List.set_cons_zero, List.set_cons_succ]
 refine wpAnyH_take (i := 9) (v := ?_) rfl (by kernel_rfl) (by kernel_rfl) (by kernel_rfl) (fun _ _ _ h => h) (Or.inl ⟨by rfl, ?_⟩) (by assumption) ?_
 rotate_left
 · (intro w hSw; (try dsimp only at hSw); go_simp; first | done | with_reducible rfl)
 try simp only [List.getElem_toArray, List.getElem_cons_zero, List.getElem_cons_succ, Act.put, List.setIfInBounds_toArray, List.set_cons_zero, List.set_cons_succ]
 refine wpAnyH_take (i := 10) (v := ?_) rfl (by kernel_rfl) (by kernel_rfl) (by kernel_rfl) (fun _ _ _ h => h) (Or.inl ⟨by rfl, ?_⟩) (by assumption) ?_
 rotate_left
 · (intro w hSw; (try dsimp only at hSw); go_simp; first | done | with_reducible rfl)
 try simp only [List.getElem_toArray, List.getElem_cons_zero, List.getElem_cons_succ, Act.put, List.setIfInBounds_toArray, List.set_cons_zero, List.set_cons_succ]
 refine wpAnyH_take (i := 12) (v := ?_) rfl (by kernel_rfl) (by kernel_rfl) (by kernel_rfl) (fun _ _ _ h => h) (Or.inl ⟨by rfl, ?_⟩) (by assumption) ?_
 rotate_left
 · (intro w hSw; (try dsimp only at hSw); go_simp; first | done | with_reducible rfl)
 try simp only [List.getElem_toArray, List.getElem_cons_zero, List.getElem_cons_succ, Act.put, List.setIfInBounds_toArray, List.set_cons_zero, List.set_cons_succ]
 refine wpAnyH_take (i := 13) (v := ?_) rfl (by kernel_rfl) (by kernel_rfl) (by kernel_rfl) (fun _ _ _ h => h) (Or.inl ⟨by rfl, ?_⟩) (by assumption) ?_
 rotate_left
 · (intro w hSw; (try dsimp only at hSw); go_simp; first | done | with_reducible rfl)
 try simp only [List.getElem_toArray, List.getElem_cons_zero, List.getElem_cons_succ, Act.put, List.setIfInBounds_toArray, List.set_cons_zero, List.set_cons_succ]
 refine wpAnyH_take (i := 15) (v := ?_) rfl (by kernel_rfl) (by kernel_rfl) (by kernel_rfl) (fun _ _ _ h => h) (Or.inl ⟨by rfl, ?_⟩) (by assumption) ?_
 rotate_left
 · (intro w hSw; (try dsimp only at hSw); go_simp; first | done | with_reducible rfl)
 try simp only [List.getElem_toArray, List.getElem_cons_zero, List.getElem_cons_succ, Act.put, List.setIfInBounds_toArray, List.set_cons_zero, List.set_cons_succ]
 refine wpAnyH_take (i := 16) (v := ?_) rfl (by kernel_rfl) (by kernel_rfl) (by kernel_rfl) (fun _ _ _ h => h) (Or.inl ⟨by rfl, ?_⟩) (by assumption) ?_
 rotate_left
 · (intro w hSw; (try dsimp only at hSw); go_simp; first | done | with_reducible rfl)
 try simp only [List.getElem_toArray, List.getElem_cons_zero, List.getElem_cons_succ, Act.put, List.setIfInBounds_toArray, List.set_cons_zero, List.set_cons_succ]
 refine wpAnyH_take (i := 17) (v := ?_) rfl (by kernel_rfl) (by kernel_rfl) (by kernel_rfl) (fun _ _ _ h => h) (Or.inl ⟨by rfl, ?_⟩) (by assumption) ?_
 rotate_left
 · (intro w hSw; (try dsimp only at hSw); go_simp; first | done | with_reducible rfl)
 try simp only [List.getElem_toArray, List.getElem_cons_zero, List.getElem_cons_succ, Act.put, List.setIfInBounds_toArray, List.set_cons_zero, List.set_cons_succ]
 refine wpAnyH_take (i := 18) (v := ?_) rfl (by kernel_rfl) (by kernel_rfl) (by kernel_rfl) (fun _ _ _ h => h) (Or.inl ⟨by rfl, ?_⟩) (by assumption) ?_
 rotate_left
 · (intro w hSw; (try dsimp only at hSw); go_simp; first | done | with_reducible rfl)
 try simp only [List.getElem_toArray, List.getElem_cons_zero, List.getElem_cons_succ, Act.put, List.setIfInBounds_toArray, List.set_cons_zero, List.set_cons_succ]
 refine wpAnyH_ready (rs := [2]) (by kernel_rfl) (by simp) ?_
 refine AllReadyH.cons rfl (fun K hK => ?_) AllReadyH.nil
 go_simp
 (first
   | (go_at_call 26
      ((with_reducible refine (law_to9 _ _ _ _ _ _ _ _).mono ?_))
      rintro e W1 ⟨rfl, u1⟩
      replace b0 := b0.up u1
      replace r0 := r0.up u1
      replace UP := UP.trans u1
      clear b0_0 b0_1 b0_2 b0_3 b0_4 b0_5 b0_6 b0_7 b0_8 b0_9 b0_10 b0_11 b0_12 b0_13 b0_14 b0_15 b0_16 r0_0 r0_1 r0_2 r0_3 r0_4 r0_5 r0_6 r0_7 r0_8 r0_9 r0_10 r0_11 r0_12 r0_13 r0_14 r0_15 r0_16
      have b0_0 := b0.cell (i := 0) rfl
      have b0_1 := b0.cell (i := 1) rfl
      have b0_2 := b0.cell (i := 2) rfl
      have b0_3 := b0.cell (i := 3) rfl
      have b0_4 := b0.cell (i := 4) rfl
      have b0_5 := b0.cell (i := 5) rfl
      have b0_6 := b0.cell (i := 6) rfl
      have b0_7 := b0.cell (i := 7) rfl
      have b0_8 := b0.cell (i := 8) rfl
      have b0_9 := b0.cell (i := 9) rfl
      have b0_10 := b0.cell (i := 10) rfl
      have b0_11 := b0.cell (i := 11) rfl
      have b0_12 := b0.cell (i := 12) rfl
      have b0_13 := b0.cell (i := 13) rfl
      have b0_14 := b0.cell (i := 14) rfl
      have b0_15 := b0.cell (i := 15) rfl
      have b0_16 := b0.cell (i := 16) rfl
      have r0_0 := r0.cell (i := 0) rfl
      have r0_1 := r0.cell (i := 1) rfl
      have r0_2 := r0.cell (i := 2) rfl
      have r0_3 := r0.cell (i := 3) rfl
      have r0_4 := r0.cell (i := 4) rfl
      have r0_5 := r0.cell (i := 5) rfl
      have r0_6 := r0.cell (i := 6) rfl
      have r0_7 := r0.cell (i := 7) rfl
      have r0_8 := r0.cell (i := 8) rfl
      have r0_9 := r0.cell (i := 9) rfl
      have r0_10 := r0.cell (i := 10) rfl
      have r0_11 := r0.cell (i := 11) rfl
      have r0_12 := r0.cell (i := 12) rfl
      have r0_13 := r0.cell (i := 13) rfl
      have r0_14 := r0.cell (i := 14) rfl
      have r0_15 := r0.cell (i := 15) rfl
      have r0_16 := r0.cell (i := 16) rfl
      replace r0_f0 := r0.free 0
      replace r0_f1 := r0.free 1
      replace r0_f2 := r0.free 2
      replace r0_f3 := r0.free 3
      replace r0_f4 := r0.free 4
      replace r0_f5 := r0.free 5
      replace r0_f6 := r0.free 6
      replace r0_f7 := r0.free 7
      replace r0_f8 := r0.free 8
      replace r0_f9 := r0.free 9
      replace r0_f10 := r0.free 10
      replace r0_f11 := r0.free 11
      replace r0_f12 := r0.free 12
      replace r0_f13 := r0.free 13
      replace r0_f14 := r0.free 14
      replace r0_f15 := r0.free 15
      replace r0_f16 := r0.free 16
      clear u1))
 try go_wp2_with fail
 try clear hHeld
 refine hK.out _ _ ?_ (fun hHeld => ?_)
 · with_reducible exact ⟨UP, b0_0, b0_1, b0_2, b0_3, b0_4, b0_5, b0_6, b0_7, b0_8, b0_9, b0_10, b0_11, b0_12, b0_13, b0_14, b0_15, b0_16⟩
 clear hK K
 try simp only [List.getElem_toArray, List.getElem_cons_zero, List.getElem_cons_succ, Act.put, List.setIfInBounds_toArray, List.set_cons_zero, List.set_cons_succ]
 refine wpAnyH_ready (rs := [5]) (by kernel_rfl) (by simp) ?_
 refine AllReadyH.cons rfl (fun K hK => ?_) AllReadyH.nil
 go_simp
 (first
   | (go_at_call 26
      ((with_reducible refine (law_to9 _ _ _ _ _ _ _ _).mono ?_))
      rintro e W1 ⟨rfl, u1⟩
      replace b0 := b0.up u1
      replace r0 := r0.up u1
      replace UP := UP.trans u1
      clear b0_0 b0_1 b0_2 b0_3 b0_4 b0_5 b0_6 b0_7 b0_8 b0_9 b0_10 b0_11 b0_12 b0_13 b0_14 b0_15 b0_16 r0_0 r0_1 r0_2 r0_3 r0_4 r0_5 r0_6 r0_7 r0_8 r0_9 r0_10 r0_11 r0_12 r0_13 r0_14 r0_15 r0_16
      have b0_0 := b0.cell (i := 0) rfl
      have b0_1 := b0.cell (i := 1) rfl
      have b0_2 := b0.cell (i := 2) rfl
      have b0_3 := b0.cell (i := 3) rfl
      have b0_4 := b0.cell (i := 4) rfl
      have b0_5 := b0.cell (i := 5) rfl
      have b0_6 := b0.cell (i := 6) rfl
      have b0_7 := b0.cell (i := 7) rfl
      have b0_8 := b0.cell (i := 8) rfl
      have b0_9 := b0.cell (i := 9) rfl
      have b0_10 := b0.cell (i := 10) rfl
      have b0_11 := b0.cell (i := 11) rfl
      have b0_12 := b0.cell (i := 12) rfl
      have b0_13 := b0.cell (i := 13) rfl
      have b0_14 := b0.cell (i := 14) rfl
      have b0_15 := b0.cell (i := 15) rfl
      have b0_16 := b0.cell (i := 16) rfl
      have r0_0 := r0.cell (i := 0) rfl
      have r0_1 := r0.cell (i := 1) rfl
      have r0_2 := r0.cell (i := 2) rfl
      have r0_3 := r0.cell (i := 3) rfl
      have r0_4 := r0.cell (i := 4) rfl
      have r0_5 := r0.cell (i := 5) rfl
      have r0_6 := r0.cell (i := 6) rfl
      have r0_7 := r0.cell (i := 7) rfl
      have r0_8 := r0.cell (i := 8) rfl
      have r0_9 := r0.cell (i := 9) rfl
      have r0_10 := r0.cell (i := 10) rfl
      have r0_11 := r0.cell (i := 11) rfl
      have r0_12 := r0.cell (i := 12) rfl
      have r0_13 := r0.cell (i := 13) rfl
      have r0_14 := r0.cell (i := 14) rfl
      have r0_15 := r0.cell (i := 15) rfl
      have r0_16 := r0.cell (i := 16) rfl
      replace r0_f0 := r0.free 0
      replace r0_f1 := r0.free 1
      replace r0_f2 := r0.free 2
      replace r0_f3 := r0.free 3
      replace r0_f4 := r0.free 4
      replace r0_f5 := r0.free 5
      replace r0_f6 := r0.free 6
      replace r0_f7 := r0.free 7
      replace r0_f8 := r0.free 8
      replace r0_f9 := r0.free 9
      replace r0_f10 := r0.free 10
      replace r0_f11 := r0.free 11
      replace r0_f12 := r0.free 12
      replace r0_f13 := r0.free 13
      replace r0_f14 := r0.free 14
      replace r0_f15 := r0.free 15
      replace r0_f16 := r0.free 16
      clear u1))
 try go_wp2_with fail
 try clear hHeld
 refine hK.out _ _ ?_ (fun hHeld => ?_)
 · with_reducible exact ⟨UP, b0_0, b0_1, b0_2, b0_3, b0_4, b0_5, b0_6, b0_7, b0_8, b0_9, b0_10, b0_11, b0_12, b0_13, b0_14, b0_15, b0_16⟩
 clear hK K
 try simp only [List.getElem_toArray, List.getElem_cons_zero, List.getElem_cons_succ, Act.put, List.setIfInBounds_toArray, List.set_cons_zero, List.set_cons_succ]
 refine wpAnyH_ready (rs := [8]) (by kernel_rfl) (by simp) ?_
 refine AllReadyH.cons rfl (fun K hK => ?_) AllReadyH.nil
 go_simp
 (first
   | (go_at_call 26
      ((with_reducible refine (law_to9 _ _ _ _ _ _ _ _).mono ?_))
      rintro e W1 ⟨rfl, u1⟩
      replace b0 := b0.up u1
      replace r0 := r0.up u1
      replace UP := UP.trans u1
      clear b0_0 b0_1 b0_2 b0_3 b0_4 b0_5 b0_6 b0_7 b0_8 b0_9 b0_10 b0_11 b0_12 b0_13 b0_14 b0_15 b0_16 r0_0 r0_1 r0_2 r0_3 r0_4 r0_5 r0_6 r0_7 r0_8 r0_9 r0_10 r0_11 r0_12 r0_13 r0_14 r0_15 r0_16
      have b0_0 := b0.cell (i := 0) rfl
      have b0_1 := b0.cell (i := 1) rfl
      have b0_2 := b0.cell (i := 2) rfl
      have b0_3 := b0.cell (i := 3) rfl
      have b0_4 := b0.cell (i := 4) rfl
      have b0_5 := b0.cell (i := 5) rfl
      have b0_6 := b0.cell (i := 6) rfl
      have b0_7 := b0.cell (i := 7) rfl
      have b0_8 := b0.cell (i := 8) rfl
      have b0_9 := b0.cell (i := 9) rfl
      have b0_10 := b0.cell (i := 10) rfl
      have b0_11 := b0.cell (i := 11) rfl
      have b0_12 := b0.cell (i := 12) rfl
      have b0_13 := b0.cell (i := 13) rfl
      have b0_14 := b0.cell (i := 14) rfl
      have b0_15 := b0.cell (i := 15) rfl
      have b0_16 := b0.cell (i := 16) rfl
      have r0_0 := r0.cell (i := 0) rfl
      have r0_1 := r0.cell (i := 1) rfl
      have r0_2 := r0.cell (i := 2) rfl
      have r0_3 := r0.cell (i := 3) rfl
      have r0_4 := r0.cell (i := 4) rfl
      have r0_5 := r0.cell (i := 5) rfl
      have r0_6 := r0.cell (i := 6) rfl
      have r0_7 := r0.cell (i := 7) rfl
      have r0_8 := r0.cell (i := 8) rfl
      have r0_9 := r0.cell (i := 9) rfl
      have r0_10 := r0.cell (i := 10) rfl
      have r0_11 := r0.cell (i := 11) rfl
      have r0_12 := r0.cell (i := 12) rfl
      have r0_13 := r0.cell (i := 13) rfl
      have r0_14 := r0.cell (i := 14) rfl
      have r0_15 := r0.cell (i := 15) rfl
      have r0_16 := r0.cell (i := 16) rfl
      replace r0_f0 := r0.free 0
      replace r0_f1 := r0.free 1
      replace r0_f2 := r0.free 2
      replace r0_f3 := r0.free 3
      replace r0_f4 := r0.free 4
      replace r0_f5 := r0.free 5
      replace r0_f6 := r0.free 6
      replace r0_f7 := r0.free 7
      replace r0_f8 := r0.free 8
      replace r0_f9 := r0.free 9
      replace r0_f10 := r0.free 10
      replace r0_f11 := r0.free 11
      replace r0_f12 := r0.free 12
      replace r0_f13 := r0.free 13
      replace r0_f14 := r0.free 14
      replace r0_f15 := r0.free 15
      replace r0_f16 := r0.free 16
      clear u1))
 try go_wp2_with fail
 try clear hHeld
 refine hK.out _ _ ?_ (fun hHeld => ?_)
 · with_reducible exact ⟨UP, b0_0, b0_1, b0_2, b0_3, b0_4, b0_5, b0_6, b0_7, b0_8, b0_9, b0_10, b0_11, b0_12, b0_13, b0_14, b0_15, b0_16⟩
 clear hK K
 try simp only [List.getElem_toArray, List.getElem_cons_zero, List.getElem_cons_succ, Act.put, List.setIfInBounds_toArray, List.set_cons_zero, List.set_cons_succ]
 refine wpAnyH_ready (rs := [11]) (by kernel_rfl) (by simp) ?_
 refine AllReadyH.cons rfl (fun K hK => ?_) AllReadyH.nil
 go_simp
 (first
   | (go_at_call 26
      ((with_reducible refine (law_to9 _ _ _ _ _ _ _ _).mono ?_))
      rintro e W1 ⟨rfl, u1⟩
      replace b0 := b0.up u1
      replace r0 := r0.up u1
      replace UP := UP.trans u1
      clear b0_0 b0_1 b0_2 b0_3 b0_4 b0_5 b0_6 b0_7 b0_8 b0_9 b0_10 b0_11 b0_12 b0_13 b0_14 b0_15 b0_16 r0_0 r0_1 r0_2 r0_3 r0_4 r0_5 r0_6 r0_7 r0_8 r0_9 r0_10 r0_11 r0_12 r0_13 r0_14 r0_15 r0_16
      have b0_0 := b0.cell (i := 0) rfl
      have b0_1 := b0.cell (i := 1) rfl
      have b0_2 := b0.cell (i := 2) rfl
      have b0_3 := b0.cell (i := 3) rfl
      have b0_4 := b0.cell (i := 4) rfl
      have b0_5 := b0.cell (i := 5) rfl
      have b0_6 := b0.cell (i := 6) rfl
      have b0_7 := b0.cell (i := 7) rfl
      have b0_8 := b0.cell (i := 8) rfl
      have b0_9 := b0.cell (i := 9) rfl
      have b0_10 := b0.cell (i := 10) rfl
      have b0_11 := b0.cell (i := 11) rfl
      have b0_12 := b0.cell (i := 12) rfl
      have b0_13 := b0.cell (i := 13) rfl
      have b0_14 := b0.cell (i := 14) rfl
      have b0_15 := b0.cell (i := 15) rfl
      have b0_16 := b0.cell (i := 16) rfl
      have r0_0 := r0.cell (i := 0) rfl
      have r0_1 := r0.cell (i := 1) rfl
      have r0_2 := r0.cell (i := 2) rfl
      have r0_3 := r0.cell (i := 3) rfl
      have r0_4 := r0.cell (i := 4) rfl
      have r0_5 := r0.cell (i := 5) rfl
      have r0_6 := r0.cell (i := 6) rfl
      have r0_7 := r0.cell (i := 7) rfl
      have r0_8 := r0.cell (i := 8) rfl
      have r0_9 := r0.cell (i := 9) rfl
      have r0_10 := r0.cell (i := 10) rfl
      have r0_11 := r0.cell (i := 11) rfl
      have r0_12 := r0.cell (i := 12) rfl
      have r0_13 := r0.cell (i := 13) rfl
      have r0_14 := r0.cell (i := 14) rfl
      have r0_15 := r0.cell (i := 15) rfl
      have r0_16 := r0.cell (i := 16) rfl
      replace r0_f0 := r0.free 0
      replace r0_f1 := r0.free 1
      replace r0_f2 := r0.free 2
      replace r0_f3 := r0.free 3
      replace r0_f4 := r0.free 4
      replace r0_f5 := r0.free 5
      replace r0_f6 := r0.free 6
      replace r0_f7 := r0.free 7
      replace r0_f8 := r0.free 8
      replace r0_f9 := r0.free 9
      replace r0_f10 := r0.free 10
      replace r0_f11 := r0.free 11
      replace r0_f12 := r0.free 12
      replace r0_f13 := r0.free 13
      replace r0_f14 := r0.free 14
      replace r0_f15 := r0.free 15
      replace r0_f16 := r0.free 16
      clear u1))
 try go_wp2_with fail
 try clear hHeld
 refine hK.out _ _ ?_ (fun hHeld => ?_)
 · with_reducible exact ⟨UP, b0_0, b0_1, b0_2, b0_3, b0_4, b0_5, b0_6, b0_7, b0_8, b0_9, b0_10, b0_11, b0_12, b0_13, b0_14, b0_15, b0_16⟩
 clear hK K
 try simp only [List.getElem_toArray, List.getElem_cons_zero, List.getElem_cons_succ, Act.put, List.setIfInBounds_toArray, List.set_cons_zero, List.set_cons_succ]
 refine wpAnyH_ready (rs := [14]) (by kernel_rfl) (by simp) ?_
 refine AllReadyH.cons rfl (fun K hK => ?_) AllReadyH.nil
 go_simp
 (first
   | (go_at_call 26
      ((with_reducible refine (law_to9 _ _ _ _ _ _ _ _).mono ?_))
      rintro e W1 ⟨rfl, u1⟩
      replace b0 := b0.up u1
      replace r0 := r0.up u1
      replace UP := UP.trans u1
      clear b0_0 b0_1 b0_2 b0_3 b0_4 b0_5 b0_6 b0_7 b0_8 b0_9 b0_10 b0_11 b0_12 b0_13 b0_14 b0_15 b0_16 r0_0 r0_1 r0_2 r0_3 r0_4 r0_5 r0_6 r0_7 r0_8 r0_9 r0_10 r0_11 r0_12 r0_13 r0_14 r0_15 r0_16
      have b0_0 := b0.cell (i := 0) rfl
      have b0_1 := b0.cell (i := 1) rfl
      have b0_2 := b0.cell (i := 2) rfl
      have b0_3 := b0.cell (i := 3) rfl
      have b0_4 := b0.cell (i := 4) rfl
      have b0_5 := b0.cell (i := 5) rfl
      have b0_6 := b0.cell (i := 6) rfl
      have b0_7 := b0.cell (i := 7) rfl
      have b0_8 := b0.cell (i := 8) rfl
      have b0_9 := b0.cell (i := 9) rfl
      have b0_10 := b0.cell (i := 10) rfl
      have b0_11 := b0.cell (i := 11) rfl
      have b0_12 := b0.cell (i := 12) rfl
      have b0_13 := b0.cell (i := 13) rfl
      have b0_14 := b0.cell (i := 14) rfl
      have b0_15 := b0.cell (i := 15) rfl
      have b0_16 := b0.cell (i := 16) rfl
      have r0_0 := r0.cell (i := 0) rfl
      have r0_1 := r0.cell (i := 1) rfl
      have r0_2 := r0.cell (i := 2) rfl
      have r0_3 := r0.cell (i := 3) rfl
      have r0_4 := r0.cell (i := 4) rfl
      have r0_5 := r0.cell (i := 5) rfl
      have r0_6 := r0.cell (i := 6) rfl
      have r0_7 := r0.cell (i := 7) rfl
      have r0_8 := r0.cell (i := 8) rfl
      have r0_9 := r0.cell (i := 9) rfl
      have r0_10 := r0.cell (i := 10) rfl
      have r0_11 := r0.cell (i := 11) rfl
      have r0_12 := r0.cell (i := 12) rfl
      have r0_13 := r0.cell (i := 13) rfl
      have r0_14 := r0.cell (i := 14) rfl
      have r0_15 := r0.cell (i := 15) rfl
      have r0_16 := r0.cell (i := 16) rfl
      replace r0_f0 := r0.free 0
      replace r0_f1 := r0.free 1
      replace r0_f2 := r0.free 2
      replace r0_f3 := r0.free 3
      replace r0_f4 := r0.free 4
      replace r0_f5 := r0.free 5
      replace r0_f6 := r0.free 6
      replace r0_f7 := r0.free 7
      replace r0_f8 := r0.free 8
      replace r0_f9 := r0.free 9
      replace r0_f10 := r0.free 10
      replace r0_f11 := r0.free 11
      replace r0_f12 := r0.free 12
      replace r0_f13 := r0.free 13
      replace r0_f14 := r0.free 14
      replace r0_f15 := r0.free 15
      replace r0_f16 := r0.free 16
      clear u1))
 try go_wp2_with fail
 try clear hHeld
 refine hK.out _ _ ?_ (fun hHeld => ?_)
 · with_reducible exact ⟨UP, b0_0, b0_1, b0_2, b0_3, b0_4, b0_5, b0_6, b0_7, b0_8, b0_9, b0_10, b0_11, b0_12, b0_13, b0_14, b0_15, b0_16⟩
 clear hK K
 try simp only [List.getElem_toArray, List.getElem_cons_zero, List.getElem_cons_succ, Act.put, List.setIfInBounds_toArray, List.set_cons_zero, List.set_cons_succ]
 refine wpAnyH_take (i := 19) (v := ?_) rfl (by kernel_rfl) (by kernel_rfl) (by kernel_rfl) (fun _ _ _ h => h) (Or.inl ⟨by rfl, ?_⟩) (by assumption) ?_
 rotate_left
 · (intro w hSw; (try dsimp only at hSw); go_simp; first | done | with_reducible rfl)
 try simp only [List.getElem_toArray, List.getElem_cons_zero, List.getElem_cons_succ, Act.put, List.setIfInBounds_toArray, List.set_cons_zero, List.set_cons_succ]
 refine wpAnyH_ready (rs := [20]) (by kernel_rfl) (by simp) ?_
 refine AllReadyH.cons rfl (fun K hK => ?_) AllReadyH.nil
 go_simp
 skip
 try go_wp2_with fail
 try clear hHeld
 refine hK.out _ _ ?_ (fun hHeld => ?_)
 · (first | with_reducible exact ⟨UP, b0_0, b0_1, b0_2, b0_3, b0_4, b0_5, b0_6, b0_7, b0_8, b0_9, b0_10, b0_11, b0_12, b0_13, b0_14, b0_15, b0_16⟩ | with_reducible exact ⟨(((((((((((((((((UP.setCell (p := ⟨w.heap.size + 1, 0, none⟩) (by dsimp only; omega) _).setCell (p := ⟨w.heap.size + 1, 1, none⟩) (by dsimp only; omega) _).setCell (p := ⟨w.heap.size + 1, 2, none⟩) (by dsimp only; omega) _).setCell (p := ⟨w.heap.size + 1, 3, none⟩) (by dsimp only; omega) _).setCell (p := ⟨w.heap.size + 1, 4, none⟩) (by dsimp only; omega) _).setCell (p := ⟨w.heap.size + 1, 5, none⟩) (by dsimp only; omega) _).setCell (p := ⟨w.heap.size + 1, 6, none⟩) (by dsimp only; omega) _).setCell (p := ⟨w.heap.size + 1, 7, none⟩) (by dsimp only; omega) _).setCell (p := ⟨w.heap.size + 1, 8, none⟩) (by dsimp only; omega) _).setCell (p := ⟨w.heap.size + 1, 9, none⟩) (by dsimp only; omega) _).setCell (p := ⟨w.heap.size + 1, 10, none⟩) (by dsimp only; omega) _).setCell (p := ⟨w.heap.size + 1, 11, none⟩) (by dsimp only; omega) _).setCell (p := ⟨w.heap.size + 1, 12, none⟩) (by dsimp only; omega) _).setCell (p := ⟨w.heap.size + 1, 13, none⟩) (by dsimp only; omega) _).setCell (p := ⟨w.heap.size + 1, 14, none⟩) (by dsimp only; omega) _).setCell (p := ⟨w.heap.size + 1, 15, none⟩) (by dsimp only; omega) _).setCell (p := ⟨w.heap.size + 1, 16, none⟩) (by dsimp only; omega) _), (cell_far_block (cell_far_block (cell_far_block (cell_far_block (cell_far_block (cell_far_block (cell_far_block (cell_far_block (cell_far_block (cell_far_block (cell_far_block (cell_far_block (cell_far_block (cell_far_block (cell_far_block (cell_far_block (cell_far_block b0_0 (by dsimp only; omega)) (by dsimp only; omega)) (by dsimp only; omega)) (by dsimp only; omega)) (by dsimp only; omega)) (by dsimp only; omega)) (by dsimp only; omega)) (by dsimp only; omega)) (by dsimp only; omega)) (by dsimp only; omega)) (by dsimp only; omega)) (by dsimp only; omega)) (by dsimp only; omega)) (by dsimp only; omega)) (by dsimp only; omega)) (by dsimp only; omega)) (by dsimp only; omega)), (cell_far_block (cell_far_block (cell_far_block (cell_far_block (cell_far_block (cell_far_block (cell_far_block (cell_far_block (cell_far_block (cell_far_block (cell_far_block (cell_far_block (cell_far_block (cell_far_block (cell_far_block (cell_far_block (cell_far_block b0_1 (by dsimp only; omega)) (by dsimp only; omega)) (by dsimp only; omega)) (by dsimp only; omega)) (by dsimp only; omega)) (by dsimp only; omega)) (by dsimp only; omega)) (by dsimp only; omega)) (by dsimp only; omega)) (by dsimp only; omega)) (by dsimp only; omega)) (by dsimp only; omega)) (by dsimp only; omega)) (by dsimp only; omega)) (by dsimp only; omega)) (by dsimp only; omega)) (by dsimp only; omega)), (cell_far_block (cell_far_block (cell_far_block (cell_far_block (cell_far_block (cell_far_block (cell_far_block (cell_far_block (cell_far_block (cell_far_block (cell_far_block (cell_far_block (cell_far_block (cell_far_block (cell_far_block (cell_far_block (cell_far_block b0_2 (by dsimp only; omega)) (by dsimp only; omega)) (by dsimp only; omega)) (by dsimp only; omega)) (by dsimp only; omega)) (by dsimp only; omega)) (by dsimp only; omega)) (by dsimp only; omega)) (by dsimp only; omega)) (by dsimp only; omega)) (by dsimp only; omega)) (by dsimp only; omega)) (by dsimp only; omega)) (by dsimp only; omega)) (by dsimp only; omega)) (by dsimp only; omega)) (by dsimp only; omega)), (cell_far_block (cell_far_block (cell_far_block (cell_far_block (cell_far_block (cell_far_block (cell_far_block (cell_far_block (cell_far_block (cell_far_block (cell_far_block (cell_far_block (cell_far_block (cell_far_block (cell_far_block (cell_far_block (cell_far_block b0_3 (by dsimp only; omega)) (by dsimp only; omega)) (by dsimp only; omega)) (by dsimp only; omega)) (by dsimp only; omega)) (by dsimp only; omega)) (by dsimp only; omega)) (by dsimp only; omega)) (by dsimp only; omega)) (by dsimp only; omega)) (by dsimp only; omega)) (by dsimp only; omega)) (by dsimp only; omega)) (by dsimp only; omega)) (by dsimp only; omega)) (by dsimp only; omega)) (by dsimp only; omega)), (cell_far_block (cell_far_block (cell_far_block (cell_far_block (cell_far_block (cell_far_block (cell_far_block (cell_far_block (cell_far_block (cell_far_block (cell_far_block (cell_far_block (cell_far_block (cell_far_block (cell_far_block (cell_far_block (cell_far_block b0_4 (by dsimp only; omega)) (by dsimp only; omega)) (by dsimp only; omega)) (by dsimp only; omega)) (by dsimp only; omega)) (by dsimp only; omega)) (by dsimp only; omega)) (by dsimp only; omega)) (by dsimp only; omega)) (by dsimp only; omega)) (by dsimp only; omega)) (by dsimp only; omega)) (by dsimp only; omega)) (by dsimp only; omega)) (by dsimp only; omega)) (by dsimp only; omega)) (by dsimp only; omega)), (cell_far_block (cell_far_block (cell_far_block (cell_far_block (cell_far_block (cell_far_block (cell_far_block (cell_far_block (cell_far_block (cell_far_block (cell_far_block (cell_far_block (cell_far_block (cell_far_block (cell_far_block (cell_far_block (cell_far_block b0_5 (by dsimp only; omega)) (by dsimp only; omega)) (by dsimp only; omega)) (by dsimp only; omega)) (by dsimp only; omega)) (by dsimp only; omega)) (by dsimp only; omega)) (by dsimp only; omega)) (by dsimp only; omega)) (by dsimp only; omega)) (by dsimp only; omega)) (by dsimp only; omega)) (by dsimp only; omega)) (by dsimp only; omega)) (by dsimp only; omega)) (by dsimp only; omega)) (by dsimp only; omega)), (cell_far_block (cell_far_block (cell_far_block (cell_far_block (cell_far_block (cell_far_block (cell_far_block (cell_far_block (cell_far_block (cell_far_block (cell_far_block (cell_far_block (cell_far_block (cell_far_block (cell_far_block (cell_far_block (cell_far_block b0_6 (by dsimp only; omega)) (by dsimp only; omega)) (by dsimp only; omega)) (by dsimp only; omega)) (by dsimp only; omega)) (by dsimp only; omega)) (by dsimp only; omega)) (by dsimp only; omega)) (by dsimp only; omega)) (by dsimp only; omega)) (by dsimp only; omega)) (by dsimp only; omega)) (by dsimp only; omega)) (by dsimp only; omega)) (by dsimp only; omega)) (by dsimp only; omega)) (by dsimp only; omega)), (cell_far_block (cell_far_block (cell_far_block (cell_far_block (cell_far_block (cell_far_block (cell_far_block (cell_far_block (cell_far_block (cell_far_block (cell_far_block (cell_far_block (cell_far_block (cell_far_block (cell_far_block (cell_far_block (cell_far_block b0_7 (by dsimp only; omega)) (by dsimp only; omega)) (by dsimp only; omega)) (by dsimp only; omega)) (by dsimp only; omega)) (by dsimp only; omega)) (by dsimp only; omega)) (by dsimp only; omega)) (by dsimp only; omega)) (by dsimp only; omega)) (by dsimp only; omega)) (by dsimp only; omega)) (by dsimp only; omega)) (by dsimp only; omega)) (by dsimp only; omega)) (by dsimp only; omega)) (by dsimp only; omega)), (cell_far_block (cell_far_block (cell_far_block (cell_far_block (cell_far_block (cell_far_block (cell_far_block (cell_far_block (cell_far_block (cell_far_block (cell_far_block (cell_far_block (cell_far_block (cell_far_block (cell_far_block (cell_far_block (cell_far_block b0_8 (by dsimp only; omega)) (by dsimp only; omega)) (by dsimp only; omega)) (by dsimp only; omega)) (by dsimp only; omega)) (by dsimp only; omega)) (by dsimp only; omega)) (by dsimp only; omega)) (by dsimp only; omega)) (by dsimp only; omega)) (by dsimp only; omega)) (by dsimp only; omega)) (by dsimp only; omega)) (by dsimp only; omega)) (by dsimp only; omega)) (by dsimp only; omega)) (by dsimp only; omega)), (cell_far_block (cell_far_block (cell_far_block (cell_far_block (cell_far_block (cell_far_block (cell_far_block (cell_far_block (cell_far_block (cell_far_block (cell_far_block (cell_far_block (cell_far_block (cell_far_block (cell_far_block (cell_far_block (cell_far_block b0_9 (by dsimp only; omega)) (by dsimp only; omega)) (by dsimp only; omega)) (by dsimp only; omega)) (by dsimp only; omega)) (by dsimp only; omega)) (by dsimp only; omega)) (by dsimp only; omega)) (by dsimp only; omega)) (by dsimp only; omega)) (by dsimp only; omega)) (by dsimp only; omega)) (by dsimp only; omega)) (by dsimp only; omega)) (by dsimp only; omega)) (by dsimp only; omega)) (by dsimp only; omega)), (cell_far_block (cell_far_block (cell_far_block (cell_far_block (cell_far_block (cell_far_block (cell_far_block (cell_far_block (cell_far_block (cell_far_block (cell_far_block (cell_far_block (cell_far_block (cell_far_block (cell_far_block (cell_far_block (cell_far_block b0_10 (by dsimp only; omega)) (by dsimp only; omega)) (by dsimp only; omega)) (by dsimp only; omega)) (by dsimp only; omega)) (by dsimp only; omega)) (by dsimp only; omega)) (by dsimp only; omega)) (by dsimp only; omega)) (by dsimp only; omega)) (by dsimp only; omega)) (by dsimp only; omega)) (by dsimp only; omega)) (by dsimp only; omega)) (by dsimp only; omega)) (by dsimp only; omega)) (by dsimp only; omega)), (cell_far_block (cell_far_block (cell_far_block (cell_far_block (cell_far_block (cell_far_block (cell_far_block (cell_far_block (cell_far_block (cell_far_block (cell_far_block (cell_far_block (cell_far_block (cell_far_block (cell_far_block (cell_far_block (cell_far_block b0_11 (by dsimp only; omega)) (by dsimp only; omega)) (by dsimp only; omega)) (by dsimp only; omega)) (by dsimp only; omega)) (by dsimp only; omega)) (by dsimp only; omega)) (by dsimp only; omega)) (by dsimp only; omega)) (by dsimp only; omega)) (by dsimp only; omega)) (by dsimp only; omega)) (by dsimp only; omega)) (by dsimp only; omega)) (by dsimp only; omega)) (by dsimp only; omega)) (by dsimp only; omega)), (cell_far_block (cell_far_block (cell_far_block (cell_far_block (cell_far_block (cell_far_block (cell_far_block (cell_far_block (cell_far_block (cell_far_block (cell_far_block (cell_far_block (cell_far_block (cell_far_block (cell_far_block (cell_far_block (cell_far_block b0_12 (by dsimp only; omega)) (by dsimp only; omega)) (by dsimp only; omega)) (by dsimp only; omega)) (by dsimp only; omega)) (by dsimp only; omega)) (by dsimp only; omega)) (by dsimp only; omega)) (by dsimp only; omega)) (by dsimp only; omega)) (by dsimp only; omega)) (by dsimp only; omega)) (by dsimp only; omega)) (by dsimp only; omega)) (by dsimp only; omega)) (by dsimp only; omega)) (by dsimp only; omega)), (cell_far_block (cell_far_block (cell_far_block (cell_far_block (cell_far_block (cell_far_block (cell_far_block (cell_far_block (cell_far_block (cell_far_block (cell_far_block (cell_far_block (cell_far_block (cell_far_block (cell_far_block (cell_far_block (cell_far_block b0_13 (by dsimp only; omega)) (by dsimp only; omega)) (by dsimp only; omega)) (by dsimp only; omega)) (by dsimp only; omega)) (by dsimp only; omega)) (by dsimp only; omega)) (by dsimp only; omega)) (by dsimp only; omega)) (by dsimp only; omega)) (by dsimp only; omega)) (by dsimp only; omega)) (by dsimp only; omega)) (by dsimp only; omega)) (by dsimp only; omega)) (by dsimp only; omega)) (by dsimp only; omega)), (cell_far_block (cell_far_block (cell_far_block (cell_far_block (cell_far_block (cell_far_block (cell_far_block (cell_far_block (cell_far_block (cell_far_block (cell_far_block (cell_far_block (cell_far_block (cell_far_block (cell_far_block (cell_far_block (cell_far_block b0_14 (by dsimp only; omega)) (by dsimp only; omega)) (by dsimp only; omega)) (by dsimp only; omega)) (by dsimp only; omega)) (by dsimp only; omega)) (by dsimp only; omega)) (by dsimp only; omega)) (by dsimp only; omega)) (by dsimp only; omega)) (by dsimp only; omega)) (by dsimp only; omega)) (by dsimp only; omega)) (by dsimp only; omega)) (by dsimp only; omega)) (by dsimp only; omega)) (by dsimp only; omega)), (cell_far_block (cell_far_block (cell_far_block (cell_far_block (cell_far_block (cell_far_block (cell_far_block (cell_far_block (cell_far_block (cell_far_block (cell_far_block (cell_far_block (cell_far_block (cell_far_block (cell_far_block (cell_far_block (cell_far_block b0_15 (by dsimp only; omega)) (by dsimp only; omega)) (by dsimp only; omega)) (by dsimp only; omega)) (by dsimp only; omega)) (by dsimp only; omega)) (by dsimp only; omega)) (by dsimp only; omega)) (by dsimp only; omega)) (by dsimp only; omega)) (by dsimp only; omega)) (by dsimp only; omega)) (by dsimp only; omega)) (by dsimp only; omega)) (by dsimp only; omega)) (by dsimp only; omega)) (by dsimp only; omega)), (cell_far_block (cell_far_block (cell_far_block (cell_far_block (cell_far_block (cell_far_block (cell_far_block (cell_far_block (cell_far_block (cell_far_block (cell_far_block (cell_far_block (cell_far_block (cell_far_block (cell_far_block (cell_far_block (cell_far_block b0_16 (by dsimp only; omega)) (by dsimp only; omega)) (by dsimp only; omega)) (by dsimp only; omega)) (by dsimp only; omega)) (by dsimp only; omega)) (by dsimp only; omega)) (by dsimp only; omega)) (by dsimp only; omega)) (by dsimp only; omega)) (by dsimp only; omega)) (by dsimp only; omega)) (by dsimp only; omega)) (by dsimp only; omega)) (by dsimp only; omega)) (by dsimp only; omega)) (by dsimp only; omega))⟩)
 clear hK K
 try simp only [List.getElem_toArray, List.getElem_cons_zero, List.getElem_cons_succ, Act.put, List.setIfInBounds_toArray, List.set_cons_zero, List.set_cons_succ]
 refine wpAnyH_done (by kernel_rfl) ?_ _
 refine NoPanic.normal ?_
 clear hHeld
 have KW : Kw (W1) ((W1).setCell ⟨w.heap.size + 1, 0, none⟩ (.bool s1)) := Kw.store (c := (.bool false)) r0 rfl trivial _
 replace b0 := b0.far (p := ⟨w.heap.size + 1, 0, none⟩) (by dsimp only; omega) (.bool s1)
 replace r0 : Bx 36 ((W1).setCell ⟨w.heap.size + 1, 0, none⟩ (.bool s1)) (w.heap.size + 1) [.bool s1, .slice none 0 0, .slice none 0 0, .bool false, .slice none 0 0, .slice none 0 0, .bool false, .slice none 0 0, .slice none 0 0, .bool false, .slice none 0 0, .slice none 0 0, .bool false, .slice none 0 0, .slice none 0 0, .int .i64 0, .int .i64 0] := r0.set 0 (.bool s1)
 replace UP := UP.setCell (p := ⟨w.heap.size + 1, 0, none⟩) (by dsimp only; omega) (.bool s1)
 clear KW
 generalize ((W1).setCell ⟨w.heap.size + 1, 0, none⟩ (.bool s1)) = W2_0 at *
 have KW : Kw (W2_0) ((W2_0).setCell ⟨w.heap.size + 1, 1, none⟩ (.slice A1 l1.length c1)) := Kw.store (c := (.slice none 0 0)) r0 rfl trivial _
 replace b0 := b0.far (p := ⟨w.heap.size + 1, 1, none⟩) (by dsimp only; omega) (.slice A1 l1.length c1)
 replace r0 : Bx 36 ((W2_0).setCell ⟨w.heap.size + 1, 1, none⟩ (.slice A1 l1.length c1)) (w.heap.size + 1) [.bool s1, .slice A1 l1.length c1, .slice none 0 0, .bool false, .slice none 0 0, .slice none 0 0, .bool false, .slice none 0 0, .slice none 0 0, .bool false, .slice none 0 0, .slice none 0 0, .bool false, .slice none 0 0, .slice none 0 0, .int .i64 0, .int .i64 0] := r0.set 1 (.slice A1 l1.length c1)
 replace UP := UP.setCell (p := ⟨w.heap.size + 1, 1, none⟩) (by dsimp only; omega) (.slice A1 l1.length c1)
 clear KW
 generalize ((W2_0).setCell ⟨w.heap.size + 1, 1, none⟩ (.slice A1 l1.length c1)) = W2_1 at *
 have KW : Kw (W2_1) ((W2_1).setCell ⟨w.heap.size + 1, 2, none⟩ (.slice D1 m1.length e1)) := Kw.store (c := (.slice none 0 0)) r0 rfl trivial _
 replace b0 := b0.far (p := ⟨w.heap.size + 1, 2, none⟩) (by dsimp only; omega) (.slice D1 m1.length e1)
 replace r0 : Bx 36 ((W2_1).setCell ⟨w.heap.size + 1, 2, none⟩ (.slice D1 m1.length e1)) (w.heap.size + 1) [.bool s1, .slice A1 l1.length c1, .slice D1 m1.length e1, .bool false, .slice none 0 0, .slice none 0 0, .bool false, .slice none 0 0, .slice none 0 0, .bool false, .slice none 0 0, .slice none 0 0, .bool false, .slice none 0 0, .slice none 0 0, .int .i64 0, .int .i64 0] := r0.set 2 (.slice D1 m1.length e1)
 replace UP := UP.setCell (p := ⟨w.heap.size + 1, 2, none⟩) (by dsimp only; omega) (.slice D1 m1.length e1)
 clear KW
 generalize ((W2_1).setCell ⟨w.heap.size + 1, 2, none⟩ (.slice D1 m1.length e1)) = W2_2 at *
 have KW : Kw (W2_2) ((W2_2).setCell ⟨w.heap.size + 1, 3, none⟩ (.bool s2)) := Kw.store (c := (.bool false)) r0 rfl trivial _
 replace b0 := b0.far (p := ⟨w.heap.size + 1, 3, none⟩) (by dsimp only; omega) (.bool s2)
 replace r0 : Bx 36 ((W2_2).setCell ⟨w.heap.size + 1, 3, none⟩ (.bool s2)) (w.heap.size + 1) [.bool s1, .slice A1 l1.length c1, .slice D1 m1.length e1, .bool s2, .slice none 0 0, .slice none 0 0, .bool false, .slice none 0 0, .slice none 0 0, .bool false, .slice none 0 0, .slice none 0 0, .bool false, .slice none 0 0, .slice none 0 0, .int .i64 0, .int .i64 0] := r0.set 3 (.bool s2)
 replace UP := UP.setCell (p := ⟨w.heap.size + 1, 3, none⟩) (by dsimp only; omega) (.bool s2)
 clear KW
 generalize ((W2_2).setCell ⟨w.heap.size + 1, 3, none⟩ (.bool s2)) = W2_3 at *
 have KW : Kw (W2_3) ((W2_3).setCell ⟨w.heap.size + 1, 4, none⟩ (.slice A2 l2.length c2)) := Kw.store (c := (.slice none 0 0)) r0 rfl trivial _
 replace b0 := b0.far (p := ⟨w.heap.size + 1, 4, none⟩) (by dsimp only; omega) (.slice A2 l2.length c2)
 replace r0 : Bx 36 ((W2_3).setCell ⟨w.heap.size + 1, 4, none⟩ (.slice A2 l2.length c2)) (w.heap.size + 1) [.bool s1, .slice A1 l1.length c1, .slice D1 m1.length e1, .bool s2, .slice A2 l2.length c2, .slice none 0 0, .bool false, .slice none 0 0, .slice none 0 0, .bool false, .slice none 0 0, .slice none 0 0, .bool false, .slice none 0 0, .slice none 0 0, .int .i64 0, .int .i64 0] := r0.set 4 (.slice A2 l2.length c2)
 replace UP := UP.setCell (p := ⟨w.heap.size + 1, 4, none⟩) (by dsimp only; omega) (.slice A2 l2.length c2)
 clear KW
 generalize ((W2_3).setCell ⟨w.heap.size + 1, 4, none⟩ (.slice A2 l2.length c2)) = W2_4 at *
 have KW : Kw (W2_4) ((W2_4).setCell ⟨w.heap.size + 1, 5, none⟩ (.slice D2 m2.length e2)) := Kw.store (c := (.slice none 0 0)) r0 rfl trivial _
 replace b0 := b0.far (p := ⟨w.heap.size + 1, 5, none⟩) (by dsimp only; omega) (.slice D2 m2.length e2)
 replace r0 : Bx 36 ((W2_4).setCell ⟨w.heap.size + 1, 5, none⟩ (.slice D2 m2.length e2)) (w.heap.size + 1) [.bool s1, .slice A1 l1.length c1, .slice D1 m1.length e1, .bool s2, .slice A2 l2.length c2, .slice D2 m2.length e2, .bool false, .slice none 0 0, .slice none 0 0, .bool false, .slice none 0 0, .slice none 0 0, .bool false, .slice none 0 0, .slice none 0 0, .int .i64 0, .int .i64 0] := r0.set 5 (.slice D2 m2.length e2)
 replace UP := UP.setCell (p := ⟨w.heap.size + 1, 5, none⟩) (by dsimp only; omega) (.slice D2 m2.length e2)
 clear KW
 generalize ((W2_4).setCell ⟨w.heap.size + 1, 5, none⟩ (.slice D2 m2.length e2)) = W2_5 at *
 have KW : Kw (W2_5) ((W2_5).setCell ⟨w.heap.size + 1, 6, none⟩ (.bool s3)) := Kw.store (c := (.bool false)) r0 rfl trivial _
 replace b0 := b0.far (p := ⟨w.heap.size + 1, 6, none⟩) (by dsimp only; omega) (.bool s3)
 replace r0 : Bx 36 ((W2_5).setCell ⟨w.heap.size + 1, 6, none⟩ (.bool s3)) (w.heap.size + 1) [.bool s1, .slice A1 l1.length c1, .slice D1 m1.length e1, .bool s2, .slice A2 l2.length c2, .slice D2 m2.length e2, .bool s3, .slice none 0 0, .slice none 0 0, .bool false, .slice none 0 0, .slice none 0 0, .bool false, .slice none 0 0, .slice none 0 0, .int .i64 0, .int .i64 0] := r0.set 6 (.bool s3)
 replace UP := UP.setCell (p := ⟨w.heap.size + 1, 6, none⟩) (by dsimp only; omega) (.bool s3)
 clear KW
 generalize ((W2_5).setCell ⟨w.heap.size + 1, 6, none⟩ (.bool s3)) = W2_6 at *
 have KW : Kw (W2_6) ((W2_6).setCell ⟨w.heap.size + 1, 7, none⟩ (.slice A3 l3.length c3)) := Kw.store (c := (.slice none 0 0)) r0 rfl trivial _
 replace b0 := b0.far (p := ⟨w.heap.size + 1, 7, none⟩) (by dsimp only; omega) (.slice A3 l3.length c3)
 replace r0 : Bx 36 ((W2_6).setCell ⟨w.heap.size + 1, 7, none⟩ (.slice A3 l3.length c3)) (w.heap.size + 1) [.bool s1, .slice A1 l1.length c1, .slice D1 m1.length e1, .bool s2, .slice A2 l2.length c2, .slice D2 m2.length e2, .bool s3, .slice A3 l3.length c3, .slice none 0 0, .bool false, .slice none 0 0, .slice none 0 0, .bool false, .slice none 0 0, .slice none 0 0, .int .i64 0, .int .i64 0] := r0.set 7 (.slice A3 l3.length c3)
 replace UP := UP.setCell (p := ⟨w.heap.size + 1, 7, none⟩) (by dsimp only; omega) (.slice A3 l3.length c3)
 clear KW
 generalize ((W2_6).setCell ⟨w.heap.size + 1, 7, none⟩ (.slice A3 l3.length c3)) = W2_7 at *
 have KW : Kw (W2_7) ((W2_7).setCell ⟨w.heap.size + 1, 8, none⟩ (.slice D3 m3.length e3)) := Kw.store (c := (.slice none 0 0)) r0 rfl trivial _
 replace b0 := b0.far (p := ⟨w.heap.size + 1, 8, none⟩) (by dsimp only; omega) (.slice D3 m3.length e3)
 replace r0 : Bx 36 ((W2_7).setCell ⟨w.heap.size + 1, 8, none⟩ (.slice D3 m3.length e3)) (w.heap.size + 1) [.bool s1, .slice A1 l1.length c1, .slice D1 m1.length e1, .bool s2, .slice A2 l2.length c2, .slice D2 m2.length e2, .bool s3, .slice A3 l3.length c3, .slice D3 m3.length e3, .bool false, .slice none 0 0, .slice none 0 0, .bool false, .slice none 0 0, .slice none 0 0, .int .i64 0, .int .i64 0] := r0.set 8 (.slice D3 m3.length e3)
 replace UP := UP.setCell (p := ⟨w.heap.size + 1, 8, none⟩) (by dsimp only; omega) (.slice D3 m3.length e3)
 clear KW
 generalize ((W2_7).setCell ⟨w.heap.size + 1, 8, none⟩ (.slice D3 m3.length e3)) = W2_8 at *
 have KW : Kw (W2_8) ((W2_8).setCell ⟨w.heap.size + 1, 9, none⟩ (.bool s4)) := Kw.store (c := (.bool false)) r0 rfl trivial _
 replace b0 := b0.far (p := ⟨w.heap.size + 1, 9, none⟩) (by dsimp only; omega) (.bool s4)
 replace r0 : Bx 36 ((W2_8).setCell ⟨w.heap.size + 1, 9, none⟩ (.bool s4)) (w.heap.size + 1) [.bool s1, .slice A1 l1.length c1, .slice D1 m1.length e1, .bool s2, .slice A2 l2.length c2, .slice D2 m2.length e2, .bool s3, .slice A3 l3.length c3, .slice D3 m3.length e3, .bool s4, .slice none 0 0, .slice none 0 0, .bool false, .slice none 0 0, .slice none 0 0, .int .i64 0, .int .i64 0] := r0.set 9 (.bool s4)
 replace UP := UP.setCell (p := ⟨w.heap.size + 1, 9, none⟩) (by dsimp only; omega) (.bool s4)
 clear KW
 generalize ((W2_8).setCell ⟨w.heap.size + 1, 9, none⟩ (.bool s4)) = W2_9 at *
 have KW : Kw (W2_9) ((W2_9).setCell ⟨w.heap.size + 1, 10, none⟩ (.slice A4 l4.length c4)) := Kw.store (c := (.slice none 0 0)) r0 rfl trivial _
 replace b0 := b0.far (p := ⟨w.heap.size + 1, 10, none⟩) (by dsimp only; omega) (.slice A4 l4.length c4)
 replace r0 : Bx 36 ((W2_9).setCell ⟨w.heap.size + 1, 10, none⟩ (.slice A4 l4.length c4)) (w.heap.size + 1) [.bool s1, .slice A1 l1.length c1, .slice D1 m1.length e1, .bool s2, .slice A2 l2.length c2, .slice D2 m2.length e2, .bool s3, .slice A3 l3.length c3, .slice D3 m3.length e3, .bool s4, .slice A4 l4.length c4, .slice none 0 0, .bool false, .slice none 0 0, .slice none 0 0, .int .i64 0, .int .i64 0] := r0.set 10 (.slice A4 l4.length c4)
 replace UP := UP.setCell (p := ⟨w.heap.size + 1, 10, none⟩) (by dsimp only; omega) (.slice A4 l4.length c4)
 clear KW
 generalize ((W2_9).setCell ⟨w.heap.size + 1, 10, none⟩ (.slice A4 l4.length c4)) = W2_10 at *
 have KW : Kw (W2_10) ((W2_10).setCell ⟨w.heap.size + 1, 11, none⟩ (.slice D4 m4.length e4)) := Kw.store (c := (.slice none 0 0)) r0 rfl trivial _
 replace b0 := b0.far (p := ⟨w.heap.size + 1, 11, none⟩) (by dsimp only; omega) (.slice D4 m4.length e4)
 replace r0 : Bx 36 ((W2_10).setCell ⟨w.heap.size + 1, 11, none⟩ (.slice D4 m4.length e4)) (w.heap.size + 1) [.bool s1, .slice A1 l1.length c1, .slice D1 m1.length e1, .bool s2, .slice A2 l2.length c2, .slice D2 m2.length e2, .bool s3, .slice A3 l3.length c3, .slice D3 m3.length e3, .bool s4, .slice A4 l4.length c4, .slice D4 m4.length e4, .bool false, .slice none 0 0, .slice none 0 0, .int .i64 0, .int .i64 0] := r0.set 11 (.slice D4 m4.length e4)
 replace UP := UP.setCell (p := ⟨w.heap.size + 1, 11, none⟩) (by dsimp only; omega) (.slice D4 m4.length e4)
 clear KW
 generalize ((W2_10).setCell ⟨w.heap.size + 1, 11, none⟩ (.slice D4 m4.length e4)) = W2_11 at *
 have KW : Kw (W2_11) ((W2_11).setCell ⟨w.heap.size + 1, 12, none⟩ (.bool s5)) := Kw.store (c := (.bool false)) r0 rfl trivial _
 replace b0 := b0.far (p := ⟨w.heap.size + 1, 12, none⟩) (by dsimp only; omega) (.bool s5)
 replace r0 : Bx 36 ((W2_11).setCell ⟨w.heap.size + 1, 12, none⟩ (.bool s5)) (w.heap.size + 1) [.bool s1, .slice A1 l1.length c1, .slice D1 m1.length e1, .bool s2, .slice A2 l2.length c2, .slice D2 m2.length e2, .bool s3, .slice A3 l3.length c3, .slice D3 m3.length e3, .bool s4, .slice A4 l4.length c4, .slice D4 m4.length e4, .bool s5, .slice none 0 0, .slice none 0 0, .int .i64 0, .int .i64 0] := r0.set 12 (.bool s5)
 replace UP := UP.setCell (p := ⟨w.heap.size + 1, 12, none⟩) (by dsimp only; omega) (.bool s5)
 clear KW
 generalize ((W2_11).setCell ⟨w.heap.size + 1, 12, none⟩ (.bool s5)) = W2_12 at *
 have KW : Kw (W2_12) ((W2_12).setCell ⟨w.heap.size + 1, 13, none⟩ (.slice A5 l5.length c5)) := Kw.store (c := (.slice none 0 0)) r0 rfl trivial _
 replace b0 := b0.far (p := ⟨w.heap.size + 1, 13, none⟩) (by dsimp only; omega) (.slice A5 l5.length c5)
 replace r0 : Bx 36 ((W2_12).setCell ⟨w.heap.size + 1, 13, none⟩ (.slice A5 l5.length c5)) (w.heap.size + 1) [.bool s1, .slice A1 l1.length c1, .slice D1 m1.length e1, .bool s2, .slice A2 l2.length c2, .slice D2 m2.length e2, .bool s3, .slice A3 l3.length c3, .slice D3 m3.length e3, .bool s4, .slice A4 l4.length c4, .slice D4 m4.length e4, .bool s5, .slice A5 l5.length c5, .slice none 0 0, .int .i64 0, .int .i64 0] := r0.set 13 (.slice A5 l5.length c5)
 replace UP := UP.setCell (p := ⟨w.heap.size + 1, 13, none⟩) (by dsimp only; omega) (.slice A5 l5.length c5)
 clear KW
 generalize ((W2_12).setCell ⟨w.heap.size + 1, 13, none⟩ (.slice A5 l5.length c5)) = W2_13 at *
 have KW : Kw (W2_13) ((W2_13).setCell ⟨w.heap.size + 1, 14, none⟩ (.slice D5 m5.length e5)) := Kw.store (c := (.slice none 0 0)) r0 rfl trivial _
 replace b0 := b0.far (p := ⟨w.heap.size + 1, 14, none⟩) (by dsimp only; omega) (.slice D5 m5.length e5)
 replace r0 : Bx 36 ((W2_13).setCell ⟨w.heap.size + 1, 14, none⟩ (.slice D5 m5.length e5)) (w.heap.size + 1) [.bool s1, .slice A1 l1.length c1, .slice D1 m1.length e1, .bool s2, .slice A2 l2.length c2, .slice D2 m2.length e2, .bool s3, .slice A3 l3.length c3, .slice D3 m3.length e3, .bool s4, .slice A4 l4.length c4, .slice D4 m4.length e4, .bool s5, .slice A5 l5.length c5, .slice D5 m5.length e5, .int .i64 0, .int .i64 0] := r0.set 14 (.slice D5 m5.length e5)
 replace UP := UP.setCell (p := ⟨w.heap.size + 1, 14, none⟩) (by dsimp only; omega) (.slice D5 m5.length e5)
 clear KW
 generalize ((W2_13).setCell ⟨w.heap.size + 1, 14, none⟩ (.slice D5 m5.length e5)) = W2_14 at *
 have KW : Kw (W2_14) ((W2_14).setCell ⟨w.heap.size + 1, 15, none⟩ (.int .i64 fi)) := Kw.store (c := (.int .i64 0)) r0 rfl trivial _
 replace b0 := b0.far (p := ⟨w.heap.size + 1, 15, none⟩) (by dsimp only; omega) (.int .i64 fi)
 replace r0 : Bx 36 ((W2_14).setCell ⟨w.heap.size + 1, 15, none⟩ (.int .i64 fi)) (w.heap.size + 1) [.bool s1, .slice A1 l1.length c1, .slice D1 m1.length e1, .bool s2, .slice A2 l2.length c2, .slice D2 m2.length e2, .bool s3, .slice A3 l3.length c3, .slice D3 m3.length e3, .bool s4, .slice A4 l4.length c4, .slice D4 m4.length e4, .bool s5, .slice A5 l5.length c5, .slice D5 m5.length e5, .int .i64 fi, .int .i64 0] := r0.set 15 (.int .i64 fi)
 replace UP := UP.setCell (p := ⟨w.heap.size + 1, 15, none⟩) (by dsimp only; omega) (.int .i64 fi)
 clear KW
 generalize ((W2_14).setCell ⟨w.heap.size + 1, 15, none⟩ (.int .i64 fi)) = W2_15 at *
 have KW : Kw (W2_15) ((W2_15).setCell ⟨w.heap.size + 1, 16, none⟩ (.int .i64 mo)) := Kw.store (c := (.int .i64 0)) r0 rfl trivial _
 replace b0 := b0.far (p := ⟨w.heap.size + 1, 16, none⟩) (by dsimp only; omega) (.int .i64 mo)
 replace r0 : Bx 36 ((W2_15).setCell ⟨w.heap.size + 1, 16, none⟩ (.int .i64 mo)) (w.heap.size + 1) [.bool s1, .slice A1 l1.length c1, .slice D1 m1.length e1, .bool s2, .slice A2 l2.length c2, .slice D2 m2.length e2, .bool s3, .slice A3 l3.length c3, .slice D3 m3.length e3, .bool s4, .slice A4 l4.length c4, .slice D4 m4.length e4, .bool s5, .slice A5 l5.length c5, .slice D5 m5.length e5, .int .i64 fi, .int .i64 mo] := r0.set 16 (.int .i64 mo)
 replace UP := UP.setCell (p := ⟨w.heap.size + 1, 16, none⟩) (by dsimp only; omega) (.int .i64 mo)
 clear KW
 generalize ((W2_15).setCell ⟨w.heap.size + 1, 16, none⟩ (.int .i64 mo)) = W2 at *
 clear b0_0 b0_1 b0_2 b0_3 b0_4 b0_5 b0_6 b0_7 b0_8 b0_9 b0_10 b0_11 b0_12 b0_13 b0_14 b0_15 b0_16 r0_0 r0_1 r0_2 r0_3 r0_4 r0_5 r0_6 r0_7 r0_8 r0_9 r0_10 r0_11 r0_12 r0_13 r0_14 r0_15 r0_16
 have b0_0 := b0.cell (i := 0) rfl
 have b0_1 := b0.cell (i := 1) rfl
 have b0_2 := b0.cell (i := 2) rfl
 have b0_3 := b0.cell (i := 3) rfl
 have b0_4 := b0.cell (i := 4) rfl
 have b0_5 := b0.cell (i := 5) rfl
 have b0_6 := b0.cell (i := 6) rfl
 have b0_7 := b0.cell (i := 7) rfl
 have b0_8 := b0.cell (i := 8) rfl
 have b0_9 := b0.cell (i := 9) rfl
 have b0_10 := b0.cell (i := 10) rfl
 have b0_11 := b0.cell (i := 11) rfl
 have b0_12 := b0.cell (i := 12) rfl
 have b0_13 := b0.cell (i := 13) rfl
 have b0_14 := b0.cell (i := 14) rfl
 have b0_15 := b0.cell (i := 15) rfl
 have b0_16 := b0.cell (i := 16) rfl
 have r0_0 := r0.cell (i := 0) rfl
 have r0_1 := r0.cell (i := 1) rfl
 have r0_2 := r0.cell (i := 2) rfl
 have r0_3 := r0.cell (i := 3) rfl
 have r0_4 := r0.cell (i := 4) rfl
 have r0_5 := r0.cell (i := 5) rfl
 have r0_6 := r0.cell (i := 6) rfl
 have r0_7 := r0.cell (i := 7) rfl
 have r0_8 := r0.cell (i := 8) rfl
 have r0_9 := r0.cell (i := 9) rfl
 have r0_10 := r0.cell (i := 10) rfl
 have r0_11 := r0.cell (i := 11) rfl
 have r0_12 := r0.cell (i := 12) rfl
 have r0_13 := r0.cell (i := 13) rfl
 have r0_14 := r0.cell (i := 14) rfl
 have r0_15 := r0.cell (i := 15) rfl
 have r0_16 := r0.cell (i := 16) rfl
 go_wp2_with fail
 exact bodyPost_ret (run_res_cell rfl rfl agg_rules size_rules r0 rfl) rfl ⟨rfl, UP⟩
/-- A fraction too long? -/
theorem ref_long9g {s : Bool} {A D : Option Addr} {l m : List Nat} {c d : Nat} {w : World} (k : Nat) {K : Int} (hK : K = (k : Int)) (hk : k ≤ 1000) : Calls Tryz.prog 20 #[.agg #[.bool s, .slice A l.length c, .slice D m.length d], .int .i64 K] w fun e w' => ∃ t, e = .returned (.bool t) ∧ Hid (t = false → l.length ≤ k ∧ m.length ≤ k) ∧ Up w w' := by
 subst hK
 by_cases h : (k : Int) < (l.length : Int) ∨ (k : Int) < (m.length : Int)
 · refine (ref_long9_yes h (by omega)).mono ?_
   rintro e w' ⟨rfl, u⟩
   exact ⟨true, rfl, Lib.hid (fun hh => by cases hh), u⟩
 · refine (ref_long9_no (by omega) (by omega) (by omega)).mono ?_
   rintro e w' ⟨rfl, u⟩
   exact ⟨false, rfl, Lib.hid (fun _ => ⟨by omega, by omega⟩), u⟩
set_option maxRecDepth 100000 in
set_option maxHeartbeats 6400000 in
theorem ref_long36 {s1 s2 s3 s4 s5 : Bool} {A1 A2 A3 A4 A5 D1 D2 D3 D4 D5 : Option Addr} {l1 l2 l3 l4 l5 m1 m2 m3 m4 m5 : List Nat} {c1 c2 c3 c4 c5 e1 e2 e3 e4 e5 : Nat} {fi mo : Int} {w : World} (k : Nat) {K : Int} (hK : K = (k : Int)) (hk : k ≤ 1000) : Calls Tryz.prog 9 #[.agg #[.bool s1, .slice A1 l1.length c1, .slice D1 m1.length e1, .bool s2, .slice A2 l2.length c2, .slice D2 m2.length e2, .bool s3, .slice A3 l3.length c3, .slice D3 m3.length e3, .bool s4, .slice A4 l4.length c4, .slice D4 m4.length e4, .bool s5, .slice A5 l5.length c5, .slice D5 m5.length e5, .int .i64 fi, .int .i64 mo], .int .i64 K] w fun e w' => ∃ t, e = .returned (.bool t) ∧ Hid (t = false → (l1.length ≤ k ∧ m1.length ≤ k) ∧ (l2.length ≤ k ∧ m2.length ≤ k) ∧ (l3.length ≤ k ∧ m3.length ≤ k) ∧ (l4.length ≤ k ∧ m4.length ≤ k) ∧ (l5.length ≤ k ∧ m5.length ≤ k)) ∧ Up w w' := by
 have HK := Lib.hid hK
 clear hK
 have UP : Up w (w.alloc (.cells #[.bool s1, .slice A1 l1.length c1, .slice D1 m1.length e1, .bool s2, .slice A2 l2.length c2, .slice D2 m2.length e2, .bool s3, .slice A3 l3.length c3, .slice D3 m3.length e3, .bool s4, .slice A4 l4.length c4, .slice D4 m4.length e4, .bool s5, .slice A5 l5.length c5, .slice D5 m5.length e5, .int .i64 fi, .int .i64 mo] 26)) := (Up.refl w).alloc _
 have b0 := Bx.new 26 w [.bool s1, .slice A1 l1.length c1, .slice D1 m1.length e1, .bool s2, .slice A2 l2.length c2, .slice D2 m2.length e2, .bool s3, .slice A3 l3.length c3, .slice D3 m3.length e3, .bool s4, .slice A4 l4.length c4, .slice D4 m4.length e4, .bool s5, .slice A5 l5.length c5, .slice D5 m5.length e5, .int .i64 fi, .int .i64 mo]
 go_enter Tryz.func9, Tryz.ntmps9
 go_wp2_with fail
 generalize (w.alloc (.cells #[.bool s1, .slice A1 l1.length c1, .slice D1 m1.length e1, .bool s2, .slice A2 l2.length c2, .slice D2 m2.length e2, .bool s3, .slice A3 l3.length c3, .slice D3 m3.length e3, .bool s4, .slice A4 l4.length c4, .slice D4 m4.length e4, .bool s5, .slice A5 l5.length c5, .slice D5 m5.length e5, .int .i64 fi, .int .i64 mo] 26)) = W at *
 have b0_0 := b0.cell (i := 0) rfl
 have b0_1 := b0.cell (i := 1) rfl
 have b0_2 := b0.cell (i := 2) rfl
 have b0_3 := b0.cell (i := 3) rfl
 have b0_4 := b0.cell (i := 4) rfl
 have b0_5 := b0.cell (i := 5) rfl
 have b0_6 := b0.cell (i := 6) rfl
 have b0_7 := b0.cell (i := 7) rfl
 have b0_8 := b0.cell (i := 8) rfl
 have b0_9 := b0.cell (i := 9) rfl
 have b0_10 := b0.cell (i := 10) rfl
 have b0_11 := b0.cell (i := 11) rfl
 have b0_12 := b0.cell (i := 12) rfl
 have b0_13 := b0.cell (i := 13) rfl
 have b0_14 := b0.cell (i := 14) rfl
 have b0_15 := b0.cell (i := 15) rfl
 have b0_16 := b0.cell (i := 16) rfl
 go_wp2_with fail
 ((with_reducible refine (ref_long9g (l := l1) (m := m1) k HK.out hk).mono ?_))
 rintro e W1 ⟨t1, rfl, ht1, u1⟩
 replace b0 := b0.up u1
 replace UP := UP.trans u1
 clear b0_0 b0_1 b0_2 b0_3 b0_4 b0_5 b0_6 b0_7 b0_8 b0_9 b0_10 b0_11 b0_12 b0_13 b0_14 b0_15 b0_16
 have b0_0 := b0.cell (i := 0) rfl
 have b0_1 := b0.cell (i := 1) rfl
 have b0_2 := b0.cell (i := 2) rfl
 have b0_3 := b0.cell (i := 3) rfl
 have b0_4 := b0.cell (i := 4) rfl
 have b0_5 := b0.cell (i := 5) rfl
 have b0_6 := b0.cell (i := 6) rfl
 have b0_7 := b0.cell (i := 7) rfl
 have b0_8 := b0.cell (i := 8) rfl
 have b0_9 := b0.cell (i := 9) rfl
 have b0_10 := b0.cell (i := 10) rfl
 have b0_11 := b0.cell (i := 11) rfl
 have b0_12 := b0.cell (i := 12) rfl
 have b0_13 := b0.cell (i := 13) rfl
 have b0_14 := b0.cell (i := 14) rfl
 have b0_15 := b0.cell (i := 15) rfl
 have b0_16 := b0.cell (i := 16) rfl
 clear u1
 cases t1
 rotate_left
 · skip
   go_wp2
   go_ret
   exact ⟨true, rfl, Lib.hid (fun hh => by cases hh), UP⟩
 have g1 := Lib.hid (ht1.out rfl)
 clear ht1
 go_wp2_with fail
 ((with_reducible refine (ref_long9g (l := l2) (m := m2) k HK.out hk).mono ?_))
 rintro e W2 ⟨t2, rfl, ht2, u2⟩
 replace b0 := b0.up u2
 replace UP := UP.trans u2
 clear b0_0 b0_1 b0_2 b0_3 b0_4 b0_5 b0_6 b0_7 b0_8 b0_9 b0_10 b0_11 b0_12 b0_13 b0_14 b0_15 b0_16
 have b0_0 := b0.cell (i := 0) rfl
 have b0_1 := b0.cell (i := 1) rfl
 have b0_2 := b0.cell (i := 2) rfl
 have b0_3 := b0.cell (i := 3) rfl
 have b0_4 := b0.cell (i := 4) rfl
 have b0_5 := b0.cell (i := 5) rfl
 have b0_6 := b0.cell (i := 6) rfl
 have b0_7 := b0.cell (i := 7) rfl
 have b0_8 := b0.cell (i := 8) rfl
 have b0_9 := b0.cell (i := 9) rfl
 have b0_10 := b0.cell (i := 10) rfl
 have b0_11 := b0.cell (i := 11) rfl
 have b0_12 := b0.cell (i := 12) rfl
 have b0_13 := b0.cell (i := 13) rfl
 have b0_14 := b0.cell (i := 14) rfl
 have b0_15 := b0.cell (i := 15) rfl
 have b0_16 := b0.cell (i := 16) rfl
 clear u2
 cases t2
 rotate_left
 · skip
   go_wp2
   go_ret
   exact ⟨true, rfl, Lib.hid (fun hh => by cases hh), UP⟩
 have g2 := Lib.hid (ht2.out rfl)
 clear ht2
 go_wp2_with fail
 ((with_reducible refine (ref_long9g (l := l3) (m := m3) k HK.out hk).mono ?_))
 rintro e W3 ⟨t3, rfl, ht3, u3⟩
 replace b0 := b0.up u3
 replace UP := UP.trans u3
 clear b0_0 b0_1 b0_2 b0_3 b0_4 b0_5 b0_6 b0_7 b0_8 b0_9 b0_10 b0_11 b0_12 b0_13 b0_14 b0_15 b0_16
 have b0_0 := b0.cell (i := 0) rfl
 have b0_1 := b0.cell (i := 1) rfl
 have b0_2 := b0.cell (i := 2) rfl
 have b0_3 := b0.cell (i := 3) rfl
 have b0_4 := b0.cell (i := 4) rfl
 have b0_5 := b0.cell (i := 5) rfl
 have b0_6 := b0.cell (i := 6) rfl
 have b0_7 := b0.cell (i := 7) rfl
 have b0_8 := b0.cell (i := 8) rfl
 have b0_9 := b0.cell (i := 9) rfl
 have b0_10 := b0.cell (i := 10) rfl
 have b0_11 := b0.cell (i := 11) rfl
 have b0_12 := b0.cell (i := 12) rfl
 have b0_13 := b0.cell (i := 13) rfl
 have b0_14 := b0.cell (i := 14) rfl
 have b0_15 := b0.cell (i := 15) rfl
 have b0_16 := b0.cell (i := 16) rfl
 clear u3
 cases t3
 rotate_left
 · skip
   go_wp2
   go_ret
   exact ⟨true, rfl, Lib.hid (fun hh => by cases hh), UP⟩
 have g3 := Lib.hid (ht3.out rfl)
 clear ht3
 go_wp2_with fail
 ((with_reducible refine (ref_long9g (l := l4) (m := m4) k HK.out hk).mono ?_))
 rintro e W4 ⟨t4, rfl, ht4, u4⟩
 replace b0 := b0.up u4
 replace UP := UP.trans u4
 clear b0_0 b0_1 b0_2 b0_3 b0_4 b0_5 b0_6 b0_7 b0_8 b0_9 b0_10 b0_11 b0_12 b0_13 b0_14 b0_15 b0_16
 have b0_0 := b0.cell (i := 0) rfl
 have b0_1 := b0.cell (i := 1) rfl
 have b0_2 := b0.cell (i := 2) rfl
 have b0_3 := b0.cell (i := 3) rfl
 have b0_4 := b0.cell (i := 4) rfl
 have b0_5 := b0.cell (i := 5) rfl
 have b0_6 := b0.cell (i := 6) rfl
 have b0_7 := b0.cell (i := 7) rfl
 have b0_8 := b0.cell (i := 8) rfl
 have b0_9 := b0.cell (i := 9) rfl
 have b0_10 := b0.cell (i := 10) rfl
 have b0_11 := b0.cell (i := 11) rfl
 have b0_12 := b0.cell (i := 12) rfl
 have b0_13 := b0.cell (i := 13) rfl
 have b0_14 := b0.cell (i := 14) rfl
 have b0_15 := b0.cell (i := 15) rfl
 have b0_16 := b0.cell (i := 16) rfl
 clear u4
 cases t4
 rotate_left
 · skip
   go_wp2
   go_ret
   exact ⟨true, rfl, Lib.hid (fun hh => by cases hh), UP⟩
 have g4 := Lib.hid (ht4.out rfl)
 clear ht4
 go_wp2_with fail
 ((with_reducible refine (ref_long9g (l := l5) (m := m5) k HK.out hk).mono ?_))
 rintro e W5 ⟨t5, rfl, ht5, u5⟩
 replace b0 := b0.up u5
 replace UP := UP.trans u5
 clear b0_0 b0_1 b0_2 b0_3 b0_4 b0_5 b0_6 b0_7 b0_8 b0_9 b0_10 b0_11 b0_12 b0_13 b0_14 b0_15 b0_16
 have b0_0 := b0.cell (i := 0) rfl
 have b0_1 := b0.cell (i := 1) rfl
 have b0_2 := b0.cell (i := 2) rfl
 have b0_3 := b0.cell (i := 3) rfl
 have b0_4 := b0.cell (i := 4) rfl
 have b0_5 := b0.cell (i := 5) rfl
 have b0_6 := b0.cell (i := 6) rfl
 have b0_7 := b0.cell (i := 7) rfl
 have b0_8 := b0.cell (i := 8) rfl
 have b0_9 := b0.cell (i := 9) rfl
 have b0_10 := b0.cell (i := 10) rfl
 have b0_11 := b0.cell (i := 11) rfl
 have b0_12 := b0.cell (i := 12) rfl
 have b0_13 := b0.cell (i := 13) rfl
 have b0_14 := b0.cell (i := 14) rfl
 have b0_15 := b0.cell (i := 15) rfl
 have b0_16 := b0.cell (i := 16) rfl
 clear u5
 cases t5
 rotate_left
 · skip
   go_wp2
   go_ret
   exact ⟨true, rfl, Lib.hid (fun hh => by cases hh), UP⟩
 have g5 := Lib.hid (ht5.out rfl)
 clear ht5
 go_wp2
 go_ret
 exact ⟨false, rfl, Lib.hid (fun _ => ⟨g1.out, g2.out, g3.out, g4.out, g5.out⟩), UP⟩
end Go.Proofs.YtmmcffceeahemaaGreat
