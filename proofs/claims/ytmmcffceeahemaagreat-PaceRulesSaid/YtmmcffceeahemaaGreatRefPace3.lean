/-
  Layer 36, the document's answers: the usual rules; rules that come back.
-/
import Derived.Test.YtmmcffceeahemaaGreatRefPace2
import Derived.Test.YtmmcffceeahemaaGreatPace6
import Derived.Test.YtmmcffceeahemaaGreatFracTo
set_option linter.unusedVariables false
set_option linter.unusedSimpArgs false
namespace Go.Proofs.YtmmcffceeahemaaGreat
open Go.RowKit

theorem agg_rr (w : World) : (isAgg 26).run Tryz.prog w = .ok true w := by kernel_rfl
theorem size_rr (w : World) : (sizeOf 26).run Tryz.prog w = .ok 17 w := by kernel_rfl
set_option maxRecDepth 100000 in
set_option maxHeartbeats 6400000 in
theorem law_of36 {s1 s2 s3 s4 s5 : Bool} {A1 A2 A3 A4 A5 D1 D2 D3 D4 D5 : Option Addr} {l1 l2 l3 l4 l5 m1 m2 m3 m4 m5 : List Nat} {c1 c2 c3 c4 c5 e1 e2 e3 e4 e5 : Nat} {fi mo : Int} {w : World} : Calls Tryz.prog 16 #[.agg #[.bool s1, .slice A1 l1.length c1, .slice D1 m1.length e1, .bool s2, .slice A2 l2.length c2, .slice D2 m2.length e2, .bool s3, .slice A3 l3.length c3, .slice D3 m3.length e3, .bool s4, .slice A4 l4.length c4, .slice D4 m4.length e4, .bool s5, .slice A5 l5.length c5, .slice D5 m5.length e5, .int .i64 fi, .int .i64 mo]] w fun e w' => e = .returned (.agg #[.bool s1, .slice A1 l1.length c1, .slice D1 m1.length e1, .bool s2, .slice A2 l2.length c2, .slice D2 m2.length e2, .bool s3, .slice A3 l3.length c3, .slice D3 m3.length e3, .bool s4, .slice A4 l4.length c4, .slice D4 m4.length e4, .bool s5, .slice A5 l5.length c5, .slice D5 m5.length e5, .int .i64 fi, .int .i64 mo]) ∧ Up w w' := by
 have UP : Up w ((w.alloc (.cells #[.bool s1, .slice A1 l1.length c1, .slice D1 m1.length e1, .bool s2, .slice A2 l2.length c2, .slice D2 m2.length e2, .bool s3, .slice A3 l3.length c3, .slice D3 m3.length e3, .bool s4, .slice A4 l4.length c4, .slice D4 m4.length e4, .bool s5, .slice A5 l5.length c5, .slice D5 m5.length e5, .int .i64 fi, .int .i64 mo] 36)).alloc (.cells #[.bool false, .slice none 0 0, .slice none 0 0, .bool false, .slice none 0 0, .slice none 0 0, .bool false, .slice none 0 0, .slice none 0 0, .bool false, .slice none 0 0, .slice none 0 0, .bool false, .slice none 0 0, .slice none 0 0, .int .i64 0, .int .i64 0] 26)) := ((Up.refl w).alloc _).alloc _
 obtain ⟨b0, r0⟩ := bx_two 36 26 w [.bool s1, .slice A1 l1.length c1, .slice D1 m1.length e1, .bool s2, .slice A2 l2.length c2, .slice D2 m2.length e2, .bool s3, .slice A3 l3.length c3, .slice D3 m3.length e3, .bool s4, .slice A4 l4.length c4, .slice D4 m4.length e4, .bool s5, .slice A5 l5.length c5, .slice D5 m5.length e5, .int .i64 fi, .int .i64 mo] [.bool false, .slice none 0 0, .slice none 0 0, .bool false, .slice none 0 0, .slice none 0 0, .bool false, .slice none 0 0, .slice none 0 0, .bool false, .slice none 0 0, .slice none 0 0, .bool false, .slice none 0 0, .slice none 0 0, .int .i64 0, .int .i64 0]
 go_enter Tryz.func16, Tryz.ntmps16
 go_wp2_with fail
 generalize ((w.alloc (.cells #[.bool s1, .slice A1 l1.length c1, .slice D1 m1.length e1, .bool s2, .slice A2 l2.length c2, .slice D2 m2.length e2, .bool s3, .slice A3 l3.length c3, .slice D3 m3.length e3, .bool s4, .slice A4 l4.length c4, .slice D4 m4.length e4, .bool s5, .slice A5 l5.length c5, .slice D5 m5.length e5, .int .i64 fi, .int .i64 mo] 36)).alloc (.cells #[.bool false, .slice none 0 0, .slice none 0 0, .bool false, .slice none 0 0, .slice none 0 0, .bool false, .slice none 0 0, .slice none 0 0, .bool false, .slice none 0 0, .slice none 0 0, .bool false, .slice none 0 0, .slice none 0 0, .int .i64 0, .int .i64 0] 26)) = W at *
 have b0_0 := b0.cell (i := 0) rfl
 have b0_1 := b0.cell (i := 1) rfl
 have b0_2 := b0.cell (i := 2) rfl
 have b0_3 := b0.cell (i := 3) rfl
 have b0_4 := b0.cell (i := 4) rfl
 have b0_5 := b0.cell (i := 5) rfl
 have b0_6 := b0.cell (i := 6) rfl
 have b0_7 := b0.cell (i := 7) rfl
 have b0_8 := b0.cell (i := 8) rfl
 have b0_9 := b0.cell (i := 9) rfl
 have b0_10 := b0.cell (i := 10) rfl
 have b0_11 := b0.cell (i := 11) rfl
 have b0_12 := b0.cell (i := 12) rfl
 have b0_13 := b0.cell (i := 13) rfl
 have b0_14 := b0.cell (i := 14) rfl
 have b0_15 := b0.cell (i := 15) rfl
 have b0_16 := b0.cell (i := 16) rfl
 have r0_0 := r0.cell (i := 0) rfl
 have r0_1 := r0.cell (i := 1) rfl
 have r0_2 := r0.cell (i := 2) rfl
 have r0_3 := r0.cell (i := 3) rfl
 have r0_4 := r0.cell (i := 4) rfl
 have r0_5 := r0.cell (i := 5) rfl
 have r0_6 := r0.cell (i := 6) rfl
 have r0_7 := r0.cell (i := 7) rfl
 have r0_8 := r0.cell (i := 8) rfl
 have r0_9 := r0.cell (i := 9) rfl
 have r0_10 := r0.cell (i := 10) rfl
 have r0_11 := r0.cell (i := 11) rfl
 have r0_12 := r0.cell (i := 12) rfl
 have r0_13 := r0.cell (i := 13) rfl
 have r0_14 := r0.cell (i := 14) rfl
 have r0_15 := r0.cell (i := 15) rfl
 have r0_16 := r0.cell (i := 16) rfl
 have r0_f0 := r0.free 0
 have r0_f1 := r0.free 1
 have r0_f2 := r0.free 2
 have r0_f3 := r0.free 3
 have r0_f4 := r0.free 4
 have r0_f5 := r0.free 5
 have r0_f6 := r0.free 6
 have r0_f7 := r0.free 7
 have r0_f8 := r0.free 8
 have r0_f9 := r0.free 9
 have r0_f10 := r0.free 10
 have r0_f11 := r0.free 11
 have r0_f12 := r0.free 12
 have r0_f13 := r0.free 13
 have r0_f14 := r0.free 14
 have r0_f15 := r0.free 15
 have r0_f16 := r0.free 16
 replace b0 := b0.up (Up.refl W).drew
 replace r0 := r0.up (Up.refl W).drew
 replace UP := UP.trans (Up.refl W).drew
 clear b0_0 b0_1 b0_2 b0_3 b0_4 b0_5 b0_6 b0_7 b0_8 b0_9 b0_10 b0_11 b0_12 b0_13 b0_14 b0_15 b0_16
 have b0_0 := b0.cell (i := 0) rfl
 have b0_1 := b0.cell (i := 1) rfl
 have b0_2 := b0.cell (i := 2) rfl
 have b0_3 := b0.cell (i := 3) rfl
 have b0_4 := b0.cell (i := 4) rfl
 have b0_5 := b0.cell (i := 5) rfl
 have b0_6 := b0.cell (i := 6) rfl
 have b0_7 := b0.cell (i := 7) rfl
 have b0_8 := b0.cell (i := 8) rfl
 have b0_9 := b0.cell (i := 9) rfl
 have b0_10 := b0.cell (i := 10) rfl
 have b0_11 := b0.cell (i := 11) rfl
 have b0_12 := b0.cell (i := 12) rfl
 have b0_13 := b0.cell (i := 13) rfl
 have b0_14 := b0.cell (i := 14) rfl
 have b0_15 := b0.cell (i := 15) rfl
 have b0_16 := b0.cell (i := 16) rfl
 have r0_0 := r0.cell (i := 0) rfl
 have r0_1 := r0.cell (i := 1) rfl
 have r0_2 := r0.cell (i := 2) rfl
 have r0_3 := r0.cell (i := 3) rfl
 have r0_4 := r0.cell (i := 4) rfl
 have r0_5 := r0.cell (i := 5) rfl
 have r0_6 := r0.cell (i := 6) rfl
 have r0_7 := r0.cell (i := 7) rfl
 have r0_8 := r0.cell (i := 8) rfl
 have r0_9 := r0.cell (i := 9) rfl
 have r0_10 := r0.cell (i := 10) rfl
 have r0_11 := r0.cell (i := 11) rfl
 have r0_12 := r0.cell (i := 12) rfl
 have r0_13 := r0.cell (i := 13) rfl
 have r0_14 := r0.cell (i := 14) rfl
 have r0_15 := r0.cell (i := 15) rfl
 have r0_16 := r0.cell (i := 16) rfl
 have r0_f0 := r0.free 0
 have r0_f1 := r0.free 1
 have r0_f2 := r0.free 2
 have r0_f3 := r0.free 3
 have r0_f4 := r0.free 4
 have r0_f5 := r0.free 5
 have r0_f6 := r0.free 6
 have r0_f7 := r0.free 7
 have r0_f8 := r0.free 8
 have r0_f9 := r0.free 9
 have r0_f10 := r0.free 10
 have r0_f11 := r0.free 11
 have r0_f12 := r0.free 12
 have r0_f13 := r0.free 13
 have r0_f14 := r0.free 14
 have r0_f15 := r0.free 15
 have r0_f16 := r0.free 16
 refine wp_region_noPanic ?_
 refine wp_region_held_drew (S := fun w' => Up w w' ∧ w'.cell? ⟨w.heap.size, 0, none⟩ = some (.bool s1) ∧ w'.cell? ⟨w.heap.size, 1, none⟩ = some (.slice A1 l1.length c1) ∧ w'.cell? ⟨w.heap.size, 2, none⟩ = some (.slice D1 m1.length e1) ∧ w'.cell? ⟨w.heap.size, 3, none⟩ = some (.bool s2) ∧ w'.cell? ⟨w.heap.size, 4, none⟩ = some (.slice A2 l2.length c2) ∧ w'.cell? ⟨w.heap.size, 5, none⟩ = some (.slice D2 m2.length e2) ∧ w'.cell? ⟨w.heap.size, 6, none⟩ = some (.bool s3) ∧ w'.cell? ⟨w.heap.size, 7, none⟩ = some (.slice A3 l3.length c3) ∧ w'.cell? ⟨w.heap.size, 8, none⟩ = some (.slice D3 m3.length e3) ∧ w'.cell? ⟨w.heap.size, 9, none⟩ = some (.bool s4) ∧ w'.cell? ⟨w.heap.size, 10, none⟩ = some (.slice A4 l4.length c4) ∧ w'.cell? ⟨w.heap.size, 11, none⟩ = some (.slice D4 m4.length e4) ∧ w'.cell? ⟨w.heap.size, 12, none⟩ = some (.bool s5) ∧ w'.cell? ⟨w.heap.size, 13, none⟩ = some (.slice A5 l5.length c5) ∧ w'.cell? ⟨w.heap.size, 14, none⟩ = some (.slice D5 m5.length e5) ∧ w'.cell? ⟨w.heap.size, 15, none⟩ = some (.int .i64 fi) ∧ w'.cell? ⟨w.heap.size, 16, none⟩ = some (.int .i64 mo)) (by kernel_rfl) ?_ (fun hHeld => ?_)
 · with_reducible exact ⟨UP, b0_0, b0_1, b0_2, b0_3, b0_4, b0_5, b0_6, b0_7, b0_8, b0_9, b0_10, b0_11, b0_12, b0_13, b0_14, b0_15, b0_16⟩
 refine wpAnyH_take (i := 0) (v := ?_) rfl (by kernel_rfl) (by kernel_rfl) (by kernel_rfl) (fun _ _ _ h => h) (Or.inl ⟨by rfl, ?_⟩) (by assumption) ?_
 rotate_left
 · (intro w hSw; (try dsimp only at hSw); go_simp; first | done | with_reducible rfl)
 try simp only [List.getElem_toArray, List.getElem_cons_zero, List.getElem_cons_succ, Act.put, List.setIfInBounds_toArray, List.set_cons_zero, List.set_cons_succ]
 refine wpAnyH_take (i := 1) (v := ?_) rfl (by kernel_rfl) (by kernel_rfl) (by kernel_rfl) (fun _ _ _ h => h) (Or.inl ⟨by rfl, ?_⟩) (by assumption) ?_
 rotate_left
 · (intro w hSw; (try dsimp only at hSw); go_simp; first | done | with_reducible rfl)
 try simp only [List.getElem_toArray, List.getElem_cons_zero, List.getElem_cons_succ, Act.put, List.setIfInBounds_toArray, List.set_cons_zero, List.set_cons_succ]
 refine wpAnyH_take (i := 3) (v := ?_) rfl (by kernel_rfl) (by kernel_rfl) (by kernel_rfl) (fun _ _ _ h => h) (Or.inl ⟨by rfl, ?_⟩) (by assumption) ?_
 rotate_left
 · (intro w hSw; (try dsimp only at hSw); go_simp; first | done | with_reducible rfl)
 try simp only [List.getElem_toArray, List.getElem_cons_zero, List.getElem_cons_succ, Act.put, List.setIfInBounds_toArray, List.set_cons_zero, List.set_cons_succ]
 refine wpAnyH_take (i := 4) (v := ?_) rfl (by kernel_rfl) (by kernel_rfl) (by kernel_rfl) (fun _ _ _ h => h) (Or.inl ⟨by rfl, ?_⟩) (by assumption) ?_
 rotate_left
 · (intro w hSw; (try dsimp only at hSw); go_simp; first | done | with_reducible rfl)
 try simp only [List.getElem_toArray, List.getElem_cons_zero, List.getElem_cons_succ, Act.put, List.setIfInBounds_toArray, List.set_cons_zero, List.set_cons_succ]
 refine wpAnyH_take (i := 6) (v := ?_) rfl (by kernel_rfl) (by kernel_rfl) (by kernel_rfl) (fun _ _ _ h => h) (Or.inl ⟨by rfl, ?_⟩) (by assumption) ?_
 rotate_left
 · (intro w hSw; (try dsimp only at hSw); go_simp; first | done | with_reducible rfl)
 try simp only [List.getElem_toArray, List.getElem_cons_zero, List.getElem_cons_succ, Act.put, List.setIfInBounds_toArray, List.set_cons_zero, List.set_cons_succ]
 refine wpAnyH_take (i := 7) (v := ?_) rfl (by kernel_rfl) (by kernel_rfl) (by kernel_rfl) (fun _ _ _ h => h) (Or.inl ⟨by rfl, ?_⟩) (by assumption) ?_
 rotate_left
 · (intro w hSw; (try dsimp only at hSw); go_simp; first | done | with_reducible rfl)
 try simp only [List.getElem_toArray, List.getElem_cons_zero, List.getElem_cons_succ, Act.put, List.setIfInBounds_toArray, List.set_cons_zero, List.set_cons_succ]
 refine wpAnyH_take (i := 9) (v := ?_) rfl (by kernel_rfl) (by kernel_rfl) (by kernel_rfl) (fun _ _ _ h => h) (Or.inl ⟨by rfl, ?_⟩) (by assumption) ?_
 rotate_left
 · (intro w hSw; (try dsimp only at hSw); go_simp; first | done | with_reducible rfl)
 try simp only [List.getElem_toArray, List.getElem_cons_zero, List.getElem_cons_succ, Act.put, List.setIfInBounds_toArray, List.set_cons_zero, List.set_cons_succ]
 refine wpAnyH_take (i := 10) (v := ?_) rfl (by kernel_rfl) (by kernel_rfl) (by kernel_rfl) (fun _ _ _ h => h) (Or.inl ⟨by rfl, ?_⟩) (by assumption) ?_
 rotate_left
 · (intro w hSw; (try dsimp only at hSw); go_simp; first | done | with_reducible rfl)
 try simp only [List.getElem_toArray, List.getElem_cons_zero, List.getElem_cons_succ, Act.put, List.setIfInBounds_toArray, List.set_cons_zero, List.set_cons_succ]
 refine wpAnyH_take (i := 12) (v := ?_) rfl (by kernel_rfl) (by kernel_rfl) (by kernel_rfl) (fun _ _ _ h => h) (Or.inl ⟨by rfl, ?_⟩) (by assumption) ?_
 rotate_left
 · (intro w hSw; (try dsimp only at hSw); go_simp; first | done | with_reducible rfl)
 try simp only [List.getElem_toArray, List.getElem_cons_zero, List.getElem_cons_succ, Act.put, List.setIfInBounds_toArray, List.set_cons_zero, List.set_cons_succ]
 refine wpAnyH_take (i := 13) (v := ?_) rfl (by kernel_rfl) (by kernel_rfl) (by kernel_rfl) (fun _ _ _ h => h) (Or.inl ⟨by rfl, ?_⟩) (by assumption) ?_
 rotate_left
 · (intro w hSw; (try dsimp only at hSw); go_simp; first | done | with_reducible rfl)
 try simp only [List.getElem_toArray, List.getElem_cons_zero, List.getElem_cons_succ, Act.put, List.setIfInBounds_toArray, List.set_cons_zero, List.set_cons_succ]
 refine wpAnyH_take (i := 15) (v := ?_) rfl (by kernel_rfl) (by kernel_rfl) (by kernel_rfl) (fun _ _ _ h => h) (Or.inl ⟨by rfl, ?_⟩) (by assumption) ?_
 rotate_left
 · (intro w hSw; (try dsimp only at hSw); go_simp; first | done | with_reducible rfl)
 try simp only [List.getElem_toArray, List.getElem_cons_zero, List.getElem_cons_succ, Act.put, List.setIfInBounds_toArray, List.set_cons_zero, List.set_cons_succ]
 refine wpAnyH_take (i := 16) (v := ?_) rfl (by kernel_rfl) (by kernel_rfl) (by kernel_rfl) (fun _ _ _ h => h) (Or.inl ⟨by rfl, ?_⟩) (by assumption) ?_
 rotate_left
 · (intro w hSw; (try dsimp only at hSw); go_simp; first | done | with_reducible rfl)
 try simp only [List.getElem_toArray, List.getElem_cons_zero, List.getElem_cons_succ, Act.put, List.setIfInBounds_toArray, List.set_cons_zero, List.set_cons_succ]
 refine wpAnyH_take (i := 17) (v := ?_) rfl (by kernel_rfl) (by kernel_rfl) (by kernel_rfl) (fun _ _ _ h => h) (Or.inl ⟨by rfl, ?_⟩) (by assumption) ?_
 rotate_left
 · (intro w hSw; (try dsimp only at hSw); go_simp; first | done | with_reducible rfl)
 try simp only [List.getElem_toArray, List.getElem_cons_zero, List.getElem_cons_succ, Act.put, List.setIfInBounds_toArray, List.set_cons_zero, List.set_cons_succ]
 refine wpAnyH_take (i := 18) (v := ?_) rfl (by kernel_rfl) (by kernel_rfl) (by kernel_rfl) (fun _ _ _ h => h) (Or.inl ⟨by rfl, ?_⟩) (by assumption) ?_
 rotate_left
 · (intro w hSw; (try dsimp only at hSw); go_simp; first | done | with_reducible rfl)
 try simp only [List.getElem_toArray, List.getElem_cons_zero, List.getElem_cons_succ, Act.put, List.setIfInBounds_toArray, List.set_cons_zero, List.set_cons_succ]
 refine wpAnyH_ready (rs := [2]) (by kernel_rfl) (by simp) ?_
 refine AllReadyH.cons rfl (fun K hK => ?_) AllReadyH.nil
 go_simp
 (first
   | (go_at_call 98
      ((with_reducible refine (law_of9 _ _ _ _ _ _ _ _).mono ?_))
      rintro e W1 ⟨rfl, u1⟩
      replace b0 := b0.up u1
      replace r0 := r0.up u1
      replace UP := UP.trans u1
      clear b0_0 b0_1 b0_2 b0_3 b0_4 b0_5 b0_6 b0_7 b0_8 b0_9 b0_10 b0_11 b0_12 b0_13 b0_14 b0_15 b0_16 r0_0 r0_1 r0_2 r0_3 r0_4 r0_5 r0_6 r0_7 r0_8 r0_9 r0_10 r0_11 r0_12 r0_13 r0_14 r0_15 r0_16
      have b0_0 := b0.cell (i := 0) rfl
      have b0_1 := b0.cell (i := 1) rfl
      have b0_2 := b0.cell (i := 2) rfl
      have b0_3 := b0.cell (i := 3) rfl
      have b0_4 := b0.cell (i := 4) rfl
      have b0_5 := b0.cell (i := 5) rfl
      have b0_6 := b0.cell (i := 6) rfl
      have b0_7 := b0.cell (i := 7) rfl
      have b0_8 := b0.cell (i := 8) rfl
      have b0_9 := b0.cell (i := 9) rfl
      have b0_10 := b0.cell (i := 10) rfl
      have b0_11 := b0.cell (i := 11) rfl
      have b0_12 := b0.cell (i := 12) rfl
      have b0_13 := b0.cell (i := 13) rfl
      have b0_14 := b0.cell (i := 14) rfl
      have b0_15 := b0.cell (i := 15) rfl
      have b0_16 := b0.cell (i := 16) rfl
      have r0_0 := r0.cell (i := 0) rfl
      have r0_1 := r0.cell (i := 1) rfl
      have r0_2 := r0.cell (i := 2) rfl
      have r0_3 := r0.cell (i := 3) rfl
      have r0_4 := r0.cell (i := 4) rfl
      have r0_5 := r0.cell (i := 5) rfl
      have r0_6 := r0.cell (i := 6) rfl
      have r0_7 := r0.cell (i := 7) rfl
      have r0_8 := r0.cell (i := 8) rfl
      have r0_9 := r0.cell (i := 9) rfl
      have r0_10 := r0.cell (i := 10) rfl
      have r0_11 := r0.cell (i := 11) rfl
      have r0_12 := r0.cell (i := 12) rfl
      have r0_13 := r0.cell (i := 13) rfl
      have r0_14 := r0.cell (i := 14) rfl
      have r0_15 := r0.cell (i := 15) rfl
      have r0_16 := r0.cell (i := 16) rfl
      replace r0_f0 := r0.free 0
      replace r0_f1 := r0.free 1
      replace r0_f2 := r0.free 2
      replace r0_f3 := r0.free 3
      replace r0_f4 := r0.free 4
      replace r0_f5 := r0.free 5
      replace r0_f6 := r0.free 6
      replace r0_f7 := r0.free 7
      replace r0_f8 := r0.free 8
      replace r0_f9 := r0.free 9
      replace r0_f10 := r0.free 10
      replace r0_f11 := r0.free 11
      replace r0_f12 := r0.free 12
      replace r0_f13 := r0.free 13
      replace r0_f14 := r0.free 14
      replace r0_f15 := r0.free 15
      replace r0_f16 := r0.free 16
      clear u1))
 try go_wp2_with fail
 try clear hHeld
 refine hK.out _ _ ?_ (fun hHeld => ?_)
 · with_reducible exact ⟨UP, b0_0, b0_1, b0_2, b0_3, b0_4, b0_5, b0_6, b0_7, b0_8, b0_9, b0_10, b0_11, b0_12, b0_13, b0_14, b0_15, b0_16⟩
 clear hK K
 try simp only [List.getElem_toArray, List.getElem_cons_zero, List.getElem_cons_succ, Act.put, List.setIfInBounds_toArray, List.set_cons_zero, List.set_cons_succ]
 refine wpAnyH_ready (rs := [5]) (by kernel_rfl) (by simp) ?_
 refine AllReadyH.cons rfl (fun K hK => ?_) AllReadyH.nil
 go_simp
 (first
   | (go_at_call 98
      ((with_reducible refine (law_of9 _ _ _ _ _ _ _ _).mono ?_))
      rintro e W1 ⟨rfl, u1⟩
      replace b0 := b0.up u1
      replace r0 := r0.up u1
      replace UP := UP.trans u1
      clear b0_0 b0_1 b0_2 b0_3 b0_4 b0_5 b0_6 b0_7 b0_8 b0_9 b0_10 b0_11 b0_12 b0_13 b0_14 b0_15 b0_16 r0_0 r0_1 r0_2 r0_3 r0_4 r0_5 r0_6 r0_7 r0_8 r0_9 r0_10 r0_11 r0_12 r0_13 r0_14 r0_15 r0_16
      have b0_0 := b0.cell (i := 0) rfl
      have b0_1 := b0.cell (i := 1) rfl
      have b0_2 := b0.cell (i := 2) rfl
      have b0_3 := b0.cell (i := 3) rfl
      have b0_4 := b0.cell (i := 4) rfl
      have b0_5 := b0.cell (i := 5) rfl
      have b0_6 := b0.cell (i := 6) rfl
      have b0_7 := b0.cell (i := 7) rfl
      have b0_8 := b0.cell (i := 8) rfl
      have b0_9 := b0.cell (i := 9) rfl
      have b0_10 := b0.cell (i := 10) rfl
      have b0_11 := b0.cell (i := 11) rfl
      have b0_12 := b0.cell (i := 12) rfl
      have b0_13 := b0.cell (i := 13) rfl
      have b0_14 := b0.cell (i := 14) rfl
      have b0_15 := b0.cell (i := 15) rfl
      have b0_16 := b0.cell (i := 16) rfl
      have r0_0 := r0.cell (i := 0) rfl
      have r0_1 := r0.cell (i := 1) rfl
      have r0_2 := r0.cell (i := 2) rfl
      have r0_3 := r0.cell (i := 3) rfl
      have r0_4 := r0.cell (i := 4) rfl
      have r0_5 := r0.cell (i := 5) rfl
      have r0_6 := r0.cell (i := 6) rfl
      have r0_7 := r0.cell (i := 7) rfl
      have r0_8 := r0.cell (i := 8) rfl
      have r0_9 := r0.cell (i := 9) rfl
      have r0_10 := r0.cell (i := 10) rfl
      have r0_11 := r0.cell (i := 11) rfl
      have r0_12 := r0.cell (i := 12) rfl
      have r0_13 := r0.cell (i := 13) rfl
      have r0_14 := r0.cell (i := 14) rfl
      have r0_15 := r0.cell (i := 15) rfl
      have r0_16 := r0.cell (i := 16) rfl
      replace r0_f0 := r0.free 0
      replace r0_f1 := r0.free 1
      replace r0_f2 := r0.free 2
      replace r0_f3 := r0.free 3
      replace r0_f4 := r0.free 4
      replace r0_f5 := r0.free 5
      replace r0_f6 := r0.free 6
      replace r0_f7 := r0.free 7
      replace r0_f8 := r0.free 8
      replace r0_f9 := r0.free 9
      replace r0_f10 := r0.free 10
      replace r0_f11 := r0.free 11
      replace r0_f12 := r0.free 12
      replace r0_f13 := r0.free 13
      replace r0_f14 := r0.free 14
      replace r0_f15 := r0.free 15
      replace r0_f16 := r0.free 16
      clear u1))
 try go_wp2_with fail
 try clear hHeld
 refine hK.out _ _ ?_ (fun hHeld => ?_)
 · with_reducible exact ⟨UP, b0_0, b0_1, b0_2, b0_3, b0_4, b0_5, b0_6, b0_7, b0_8, b0_9, b0_10, b0_11, b0_12, b0_13, b0_14, b0_15, b0_16⟩
 clear hK K
 try simp only [List.getElem_toArray, List.getElem_cons_zero, List.getElem_cons_succ, Act.put, List.setIfInBounds_toArray, List.set_cons_zero, List.set_cons_succ]
 refine wpAnyH_ready (rs := [8]) (by kernel_rfl) (by simp) ?_
 refine AllReadyH.cons rfl (fun K hK => ?_) AllReadyH.nil
 go_simp
 (first
   | (go_at_call 98
      ((with_reducible refine (law_of9 _ _ _ _ _ _ _ _).mono ?_))
      rintro e W1 ⟨rfl, u1⟩
      replace b0 := b0.up u1
      replace r0 := r0.up u1
      replace UP := UP.trans u1
      clear b0_0 b0_1 b0_2 b0_3 b0_4 b0_5 b0_6 b0_7 b0_8 b0_9 b0_10 b0_11 b0_12 b0_13 b0_14 b0_15 b0_16 r0_0 r0_1 r0_2 r0_3 r0_4 r0_5 r0_6 r0_7 r0_8 r0_9 r0_10 r0_11 r0_12 r0_13 r0_14 r0_15 r0_16
      have b0_0 := b0.cell (i := 0) rfl
      have b0_1 := b0.cell (i := 1) rfl
      have b0_2 := b0.cell (i := 2) rfl
      have b0_3 := b0.cell (i := 3) rfl
      have b0_4 := b0.cell (i := 4) rfl
      have b0_5 := b0.cell (i := 5) rfl
      have b0_6 := b0.cell (i := 6) rfl
      have b0_7 := b0.cell (i := 7) rfl
      have b0_8 := b0.cell (i := 8) rfl
      have b0_9 := b0.cell (i := 9) rfl
      have b0_10 := b0.cell (i := 10) rfl
      have b0_11 := b0.cell (i := 11) rfl
      have b0_12 := b0.cell (i := 12) rfl
      have b0_13 := b0.cell (i := 13) rfl
      have b0_14 := b0.cell (i := 14) rfl
      have b0_15 := b0.cell (i := 15) rfl
      have b0_16 := b0.cell (i := 16) rfl
      have r0_0 := r0.cell (i := 0) rfl
      have r0_1 := r0.cell (i := 1) rfl
      have r0_2 := r0.cell (i := 2) rfl
      have r0_3 := r0.cell (i := 3) rfl
      have r0_4 := r0.cell (i := 4) rfl
      have r0_5 := r0.cell (i := 5) rfl
      have r0_6 := r0.cell (i := 6) rfl
      have r0_7 := r0.cell (i := 7) rfl
      have r0_8 := r0.cell (i := 8) rfl
      have r0_9 := r0.cell (i := 9) rfl
      have r0_10 := r0.cell (i := 10) rfl
      have r0_11 := r0.cell (i := 11) rfl
      have r0_12 := r0.cell (i := 12) rfl
      have r0_13 := r0.cell (i := 13) rfl
      have r0_14 := r0.cell (i := 14) rfl
      have r0_15 := r0.cell (i := 15) rfl
      have r0_16 := r0.cell (i := 16) rfl
      replace r0_f0 := r0.free 0
      replace r0_f1 := r0.free 1
      replace r0_f2 := r0.free 2
      replace r0_f3 := r0.free 3
      replace r0_f4 := r0.free 4
      replace r0_f5 := r0.free 5
      replace r0_f6 := r0.free 6
      replace r0_f7 := r0.free 7
      replace r0_f8 := r0.free 8
      replace r0_f9 := r0.free 9
      replace r0_f10 := r0.free 10
      replace r0_f11 := r0.free 11
      replace r0_f12 := r0.free 12
      replace r0_f13 := r0.free 13
      replace r0_f14 := r0.free 14
      replace r0_f15 := r0.free 15
      replace r0_f16 := r0.free 16
      clear u1))
 try go_wp2_with fail
 try clear hHeld
 refine hK.out _ _ ?_ (fun hHeld => ?_)
 · with_reducible exact ⟨UP, b0_0, b0_1, b0_2, b0_3, b0_4, b0_5, b0_6, b0_7, b0_8, b0_9, b0_10, b0_11, b0_12, b0_13, b0_14, b0_15, b0_16⟩
 clear hK K
 try simp only [List.getElem_toArray, List.getElem_cons_zero, List.getElem_cons_succ, Act.put, List.setIfInBounds_toArray, List.set_cons_zero, List.set_cons_succ]
 refine wpAnyH_ready (rs := [11]) (by kernel_rfl) (by simp) ?_
 refine AllReadyH.cons rfl (fun K hK => ?_) AllReadyH.nil
 go_simp
 (first
   | (go_at_call 98
      ((with_reducible refine (law_of9 _ _ _ _ _ _ _ _).mono ?_))
      rintro e W1 ⟨rfl, u1⟩
      replace b0 := b0.up u1
      replace r0 := r0.up u1
      replace UP := UP.trans u1
      clear b0_0 b0_1 b0_2 b0_3 b0_4 b0_5 b0_6 b0_7 b0_8 b0_9 b0_10 b0_11 b0_12 b0_13 b0_14 b0_15 b0_16 r0_0 r0_1 r0_2 r0_3 r0_4 r0_5 r0_6 r0_7 r0_8 r0_9 r0_10 r0_11 r0_12 r0_13 r0_14 r0_15 r0_16
      have b0_0 := b0.cell (i := 0) rfl
      have b0_1 := b0.cell (i := 1) rfl
      have b0_2 := b0.cell (i := 2) rfl
      have b0_3 := b0.cell (i := 3) rfl
      have b0_4 := b0.cell (i := 4) rfl
      have b0_5 := b0.cell (i := 5) rfl
      have b0_6 := b0.cell (i := 6) rfl
      have b0_7 := b0.cell (i := 7) rfl
      have b0_8 := b0.cell (i := 8) rfl
      have b0_9 := b0.cell (i := 9) rfl
      have b0_10 := b0.cell (i := 10) rfl
      have b0_11 := b0.cell (i := 11) rfl
      have b0_12 := b0.cell (i := 12) rfl
      have b0_13 := b0.cell (i := 13) rfl
      have b0_14 := b0.cell (i := 14) rfl
      have b0_15 := b0.cell (i := 15) rfl
      have b0_16 := b0.cell (i := 16) rfl
      have r0_0 := r0.cell (i := 0) rfl
      have r0_1 := r0.cell (i := 1) rfl
      have r0_2 := r0.cell (i := 2) rfl
      have r0_3 := r0.cell (i := 3) rfl
      have r0_4 := r0.cell (i := 4) rfl
      have r0_5 := r0.cell (i := 5) rfl
      have r0_6 := r0.cell (i := 6) rfl
      have r0_7 := r0.cell (i := 7) rfl
      have r0_8 := r0.cell (i := 8) rfl
      have r0_9 := r0.cell (i := 9) rfl
      have r0_10 := r0.cell (i := 10) rfl
      have r0_11 := r0.cell (i := 11) rfl
      have r0_12 := r0.cell (i := 12) rfl
      have r0_13 := r0.cell (i := 13) rfl
      have r0_14 := r0.cell (i := 14) rfl
      have r0_15 := r0.cell (i := 15) rfl
      have r0_16 := r0.cell (i := 16) rfl
      replace r0_f0 := r0.free 0
      replace r0_f1 := r0.free 1
      replace r0_f2 := r0.free 2
      replace r0_f3 := r0.free 3
      replace r0_f4 := r0.free 4
      replace r0_f5 := r0.free 5
      replace r0_f6 := r0.free 6
      replace r0_f7 := r0.free 7
      replace r0_f8 := r0.free 8
      replace r0_f9 := r0.free 9
      replace r0_f10 := r0.free 10
      replace r0_f11 := r0.free 11
      replace r0_f12 := r0.free 12
      replace r0_f13 := r0.free 13
      replace r0_f14 := r0.free 14
      replace r0_f15 := r0.free 15
      replace r0_f16 := r0.free 16
      clear u1))
 try go_wp2_with fail
 try clear hHeld
 refine hK.out _ _ ?_ (fun hHeld => ?_)
 · with_reducible exact ⟨UP, b0_0, b0_1, b0_2, b0_3, b0_4, b0_5, b0_6, b0_7, b0_8, b0_9, b0_10, b0_11, b0_12, b0_13, b0_14, b0_15, b0_16⟩
 clear hK K
 try simp only [List.getElem_toArray, List.getElem_cons_zero, List.getElem_cons_succ, Act.put, List.setIfInBounds_toArray, List.set_cons_zero, List.set_cons_succ]
 refine wpAnyH_ready (rs := [14]) (by kernel_rfl) (by simp) ?_
 refine AllReadyH.cons rfl (fun K hK => ?_) AllReadyH.nil
 go_simp
 (first
   | (go_at_call 98
      ((with_reducible refine (law_of9 _ _ _ _ _ _ _ _).mono ?_))
      rintro e W1 ⟨rfl, u1⟩
      replace b0 := b0.up u1
      replace r0 := r0.up u1
      replace UP := UP.trans u1
      clear b0_0 b0_1 b0_2 b0_3 b0_4 b0_5 b0_6 b0_7 b0_8 b0_9 b0_10 b0_11 b0_12 b0_13 b0_14 b0_15 b0_16 r0_0 r0_1 r0_2 r0_3 r0_4 r0_5 r0_6 r0_7 r0_8 r0_9 r0_10 r0_11 r0_12 r0_13 r0_14 r0_15 r0_16
      have b0_0 := b0.cell (i := 0) rfl
      have b0_1 := b0.cell (i := 1) rfl
      have b0_2 := b0.cell (i := 2) rfl
      have b0_3 := b0.cell (i := 3) rfl
      have b0_4 := b0.cell (i := 4) rfl
      have b0_5 := b0.cell (i := 5) rfl
      have b0_6 := b0.cell (i := 6) rfl
      have b0_7 := b0.cell (i := 7) rfl
      have b0_8 := b0.cell (i := 8) rfl
      have b0_9 := b0.cell (i := 9) rfl
      have b0_10 := b0.cell (i := 10) rfl
      have b0_11 := b0.cell (i := 11) rfl
      have b0_12 := b0.cell (i := 12) rfl
      have b0_13 := b0.cell (i := 13) rfl
      have b0_14 := b0.cell (i := 14) rfl
      have b0_15 := b0.cell (i := 15) rfl
      have b0_16 := b0.cell (i := 16) rfl
      have r0_0 := r0.cell (i := 0) rfl
      have r0_1 := r0.cell (i := 1) rfl
      have r0_2 := r0.cell (i := 2) rfl
      have r0_3 := r0.cell (i := 3) rfl
      have r0_4 := r0.cell (i := 4) rfl
      have r0_5 := r0.cell (i := 5) rfl
      have r0_6 := r0.cell (i := 6) rfl
      have r0_7 := r0.cell (i := 7) rfl
      have r0_8 := r0.cell (i := 8) rfl
      have r0_9 := r0.cell (i := 9) rfl
      have r0_10 := r0.cell (i := 10) rfl
      have r0_11 := r0.cell (i := 11) rfl
      have r0_12 := r0.cell (i := 12) rfl
      have r0_13 := r0.cell (i := 13) rfl
      have r0_14 := r0.cell (i := 14) rfl
      have r0_15 := r0.cell (i := 15) rfl
      have r0_16 := r0.cell (i := 16) rfl
      replace r0_f0 := r0.free 0
      replace r0_f1 := r0.free 1
      replace r0_f2 := r0.free 2
      replace r0_f3 := r0.free 3
      replace r0_f4 := r0.free 4
      replace r0_f5 := r0.free 5
      replace r0_f6 := r0.free 6
      replace r0_f7 := r0.free 7
      replace r0_f8 := r0.free 8
      replace r0_f9 := r0.free 9
      replace r0_f10 := r0.free 10
      replace r0_f11 := r0.free 11
      replace r0_f12 := r0.free 12
      replace r0_f13 := r0.free 13
      replace r0_f14 := r0.free 14
      replace r0_f15 := r0.free 15
      replace r0_f16 := r0.free 16
      clear u1))
 try go_wp2_with fail
 try clear hHeld
 refine hK.out _ _ ?_ (fun hHeld => ?_)
 · with_reducible exact ⟨UP, b0_0, b0_1, b0_2, b0_3, b0_4, b0_5, b0_6, b0_7, b0_8, b0_9, b0_10, b0_11, b0_12, b0_13, b0_14, b0_15, b0_16⟩
 clear hK K
 try simp only [List.getElem_toArray, List.getElem_cons_zero, List.getElem_cons_succ, Act.put, List.setIfInBounds_toArray, List.set_cons_zero, List.set_cons_succ]
 refine wpAnyH_take (i := 19) (v := ?_) rfl (by kernel_rfl) (by kernel_rfl) (by kernel_rfl) (fun _ _ _ h => h) (Or.inl ⟨by rfl, ?_⟩) (by assumption) ?_
 rotate_left
 · (intro w hSw; (try dsimp only at hSw); go_simp; first | done | with_reducible rfl)
 try simp only [List.getElem_toArray, List.getElem_cons_zero, List.getElem_cons_succ, Act.put, List.setIfInBounds_toArray, List.set_cons_zero, List.set_cons_succ]
 refine wpAnyH_ready (rs := [20]) (by kernel_rfl) (by simp) ?_
 refine AllReadyH.cons rfl (fun K hK => ?_) AllReadyH.nil
 go_simp
 skip
 try go_wp2_with fail
 try clear hHeld
 refine hK.out _ _ ?_ (fun hHeld => ?_)
 · (first | with_reducible exact ⟨UP, b0_0, b0_1, b0_2, b0_3, b0_4, b0_5, b0_6, b0_7, b0_8, b0_9, b0_10, b0_11, b0_12, b0_13, b0_14, b0_15, b0_16⟩ | with_reducible exact ⟨(((((((((((((((((UP.setCell (p := ⟨w.heap.size + 1, 0, none⟩) (by dsimp only; omega) _).setCell (p := ⟨w.heap.size + 1, 1, none⟩) (by dsimp only; omega) _).setCell (p := ⟨w.heap.size + 1, 2, none⟩) (by dsimp only; omega) _).setCell (p := ⟨w.heap.size + 1, 3, none⟩) (by dsimp only; omega) _).setCell (p := ⟨w.heap.size + 1, 4, none⟩) (by dsimp only; omega) _).setCell (p := ⟨w.heap.size + 1, 5, none⟩) (by dsimp only; omega) _).setCell (p := ⟨w.heap.size + 1, 6, none⟩) (by dsimp only; omega) _).setCell (p := ⟨w.heap.size + 1, 7, none⟩) (by dsimp only; omega) _).setCell (p := ⟨w.heap.size + 1, 8, none⟩) (by dsimp only; omega) _).setCell (p := ⟨w.heap.size + 1, 9, none⟩) (by dsimp only; omega) _).setCell (p := ⟨w.heap.size + 1, 10, none⟩) (by dsimp only; omega) _).setCell (p := ⟨w.heap.size + 1, 11, none⟩) (by dsimp only; omega) _).setCell (p := ⟨w.heap.size + 1, 12, none⟩) (by dsimp only; omega) _).setCell (p := ⟨w.heap.size + 1, 13, none⟩) (by dsimp only; omega) _).setCell (p := ⟨w.heap.size + 1, 14, none⟩) (by dsimp only; omega) _).setCell (p := ⟨w.heap.size + 1, 15, none⟩) (by dsimp only; omega) _).setCell (p := ⟨w.heap.size + 1, 16, none⟩) (by dsimp only; omega) _), (cell_far_block (cell_far_block (cell_far_block (cell_far_block (cell_far_block (cell_far_block (cell_far_block (cell_far_block (cell_far_block (cell_far_block (cell_far_block (cell_far_block (cell_far_block (cell_far_block (cell_far_block (cell_far_block (cell_far_block b0_0 (by dsimp only; omega)) (by dsimp only; omega)) (by dsimp only; omega)) (by dsimp only; omega)) (by dsimp only; omega)) (by dsimp only; omega)) (by dsimp only; omega)) (by dsimp only; omega)) (by dsimp only; omega)) (by dsimp only; omega)) (by dsimp only; omega)) (by dsimp only; omega)) (by dsimp only; omega)) (by dsimp only; omega)) (by dsimp only; omega)) (by dsimp only; omega)) (by dsimp only; omega)), (cell_far_block (cell_far_block (cell_far_block (cell_far_block (cell_far_block (cell_far_block (cell_far_block (cell_far_block (cell_far_block (cell_far_block (cell_far_block (cell_far_block (cell_far_block (cell_far_block (cell_far_block (cell_far_block (cell_far_block b0_1 (by dsimp only; omega)) (by dsimp only; omega)) (by dsimp only; omega)) (by dsimp only; omega)) (by dsimp only; omega)) (by dsimp only; omega)) (by dsimp only; omega)) (by dsimp only; omega)) (by dsimp only; omega)) (by dsimp only; omega)) (by dsimp only; omega)) (by dsimp only; omega)) (by dsimp only; omega)) (by dsimp only; omega)) (by dsimp only; omega)) (by dsimp only; omega)) (by dsimp only; omega)), (cell_far_block (cell_far_block (cell_far_block (cell_far_block (cell_far_block (cell_far_block (cell_far_block (cell_far_block (cell_far_block (cell_far_block (cell_far_block (cell_far_block (cell_far_block (cell_far_block (cell_far_block (cell_far_block (cell_far_block b0_2 (by dsimp only; omega)) (by dsimp only; omega)) (by dsimp only; omega)) (by dsimp only; omega)) (by dsimp only; omega)) (by dsimp only; omega)) (by dsimp only; omega)) (by dsimp only; omega)) (by dsimp only; omega)) (by dsimp only; omega)) (by dsimp only; omega)) (by dsimp only; omega)) (by dsimp only; omega)) (by dsimp only; omega)) (by dsimp only; omega)) (by dsimp only; omega)) (by dsimp only; omega)), (cell_far_block (cell_far_block (cell_far_block (cell_far_block (cell_far_block (cell_far_block (cell_far_block (cell_far_block (cell_far_block (cell_far_block (cell_far_block (cell_far_block (cell_far_block (cell_far_block (cell_far_block (cell_far_block (cell_far_block b0_3 (by dsimp only; omega)) (by dsimp only; omega)) (by dsimp only; omega)) (by dsimp only; omega)) (by dsimp only; omega)) (by dsimp only; omega)) (by dsimp only; omega)) (by dsimp only; omega)) (by dsimp only; omega)) (by dsimp only; omega)) (by dsimp only; omega)) (by dsimp only; omega)) (by dsimp only; omega)) (by dsimp only; omega)) (by dsimp only; omega)) (by dsimp only; omega)) (by dsimp only; omega)), (cell_far_block (cell_far_block (cell_far_block (cell_far_block (cell_far_block (cell_far_block (cell_far_block (cell_far_block (cell_far_block (cell_far_block (cell_far_block (cell_far_block (cell_far_block (cell_far_block (cell_far_block (cell_far_block (cell_far_block b0_4 (by dsimp only; omega)) (by dsimp only; omega)) (by dsimp only; omega)) (by dsimp only; omega)) (by dsimp only; omega)) (by dsimp only; omega)) (by dsimp only; omega)) (by dsimp only; omega)) (by dsimp only; omega)) (by dsimp only; omega)) (by dsimp only; omega)) (by dsimp only; omega)) (by dsimp only; omega)) (by dsimp only; omega)) (by dsimp only; omega)) (by dsimp only; omega)) (by dsimp only; omega)), (cell_far_block (cell_far_block (cell_far_block (cell_far_block (cell_far_block (cell_far_block (cell_far_block (cell_far_block (cell_far_block (cell_far_block (cell_far_block (cell_far_block (cell_far_block (cell_far_block (cell_far_block (cell_far_block (cell_far_block b0_5 (by dsimp only; omega)) (by dsimp only; omega)) (by dsimp only; omega)) (by dsimp only; omega)) (by dsimp only; omega)) (by dsimp only; omega)) (by dsimp only; omega)) (by dsimp only; omega)) (by dsimp only; omega)) (by dsimp only; omega)) (by dsimp only; omega)) (by dsimp only; omega)) (by dsimp only; omega)) (by dsimp only; omega)) (by dsimp only; omega)) (by dsimp only; omega)) (by dsimp only; omega)), (cell_far_block (cell_far_block (cell_far_block (cell_far_block (cell_far_block (cell_far_block (cell_far_block (cell_far_block (cell_far_block (cell_far_block (cell_far_block (cell_far_block (cell_far_block (cell_far_block (cell_far_block (cell_far_block (cell_far_block b0_6 (by dsimp only; omega)) (by dsimp only; omega)) (by dsimp only; omega)) (by dsimp only; omega)) (by dsimp only; omega)) (by dsimp only; omega)) (by dsimp only; omega)) (by dsimp only; omega)) (by dsimp only; omega)) (by dsimp only; omega)) (by dsimp only; omega)) (by dsimp only; omega)) (by dsimp only; omega)) (by dsimp only; omega)) (by dsimp only; omega)) (by dsimp only; omega)) (by dsimp only; omega)), (cell_far_block (cell_far_block (cell_far_block (cell_far_block (cell_far_block (cell_far_block (cell_far_block (cell_far_block (cell_far_block (cell_far_block (cell_far_block (cell_far_block (cell_far_block (cell_far_block (cell_far_block (cell_far_block (cell_far_block b0_7 (by dsimp only; omega)) (by dsimp only; omega)) (by dsimp only; omega)) (by dsimp only; omega)) (by dsimp only; omega)) (by dsimp only; omega)) (by dsimp only; omega)) (by dsimp only; omega)) (by dsimp only; omega)) (by dsimp only; omega)) (by dsimp only; omega)) (by dsimp only; omega)) (by dsimp only; omega)) (by dsimp only; omega)) (by dsimp only; omega)) (by dsimp only; omega)) (by dsimp only; omega)), (cell_far_block (cell_far_block (cell_far_block (cell_far_block (cell_far_block (cell_far_block (cell_far_block (cell_far_block (cell_far_block (cell_far_block (cell_far_block (cell_far_block (cell_far_block (cell_far_block (cell_far_block (cell_far_block (cell_far_block b0_8 (by dsimp only; omega)) (by dsimp only; omega)) (by dsimp only; omega)) (by dsimp only; omega)) (by dsimp only; omega)) (by dsimp only; omega)) (by dsimp only; omega)) (by dsimp only; omega)) (by dsimp only; omega)) (by dsimp only; omega)) (by dsimp only; omega)) (by dsimp only; omega)) (by dsimp only; omega)) (by dsimp only; omega)) (by dsimp only; omega)) (by dsimp only; omega)) (by dsimp only; omega)), (cell_far_block (cell_far_block (cell_far_block (cell_far_block (cell_far_block (cell_far_block (cell_far_block (cell_far_block (cell_far_block (cell_far_block (cell_far_block (cell_far_block (cell_far_block (cell_far_block (cell_far_block (cell_far_block (cell_far_block b0_9 (by dsimp only; omega)) (by dsimp only; omega)) (by dsimp only; omega)) (by dsimp only; omega)) (by dsimp only; omega)) (by dsimp only; omega)) (by dsimp only; omega)) (by dsimp only; omega)) (by dsimp only; omega)) (by dsimp only; omega)) (by dsimp only; omega)) (by dsimp only; omega)) (by dsimp only; omega)) (by dsimp only; omega)) (by dsimp only; omega)) (by dsimp only; omega)) (by dsimp only; omega)), (cell_far_block (cell_far_block (cell_far_block (cell_far_block (cell_far_block (cell_far_block (cell_far_block (cell_far_block (cell_far_block (cell_far_block (cell_far_block (cell_far_block (cell_far_block (cell_far_block (cell_far_block (cell_far_block (cell_far_block b0_10 (by dsimp only; omega)) (by dsimp only; omega)) (by dsimp only; omega)) (by dsimp only; omega)) (by dsimp only; omega)) (by dsimp only; omega)) (by dsimp only; omega)) (by dsimp only; omega)) (by dsimp only; omega)) (by dsimp only; omega)) (by dsimp only; omega)) (by dsimp only; omega)) (by dsimp only; omega)) (by dsimp only; omega)) (by dsimp only; omega)) (by dsimp only; omega)) (by dsimp only; omega)), (cell_far_block (cell_far_block (cell_far_block (cell_far_block (cell_far_block (cell_far_block (cell_far_block (cell_far_block (cell_far_block (cell_far_block (cell_far_block (cell_far_block (cell_far_block (cell_far_block (cell_far_block (cell_far_block (cell_far_block b0_11 (by dsimp only; omega)) (by dsimp only; omega)) (by dsimp only; omega)) (by dsimp only; omega)) (by dsimp only; omega)) (by dsimp only; omega)) (by dsimp only; omega)) (by dsimp only; omega)) (by dsimp only; omega)) (by dsimp only; omega)) (by dsimp only; omega)) (by dsimp only; omega)) (by dsimp only; omega)) (by dsimp only; omega)) (by dsimp only; omega)) (by dsimp only; omega)) (by dsimp only; omega)), (cell_far_block (cell_far_block (cell_far_block (cell_far_block (cell_far_block (cell_far_block (cell_far_block (cell_far_block (cell_far_block (cell_far_block (cell_far_block (cell_far_block (cell_far_block (cell_far_block (cell_far_block (cell_far_block (cell_far_block b0_12 (by dsimp only; omega)) (by dsimp only; omega)) (by dsimp only; omega)) (by dsimp only; omega)) (by dsimp only; omega)) (by dsimp only; omega)) (by dsimp only; omega)) (by dsimp only; omega)) (by dsimp only; omega)) (by dsimp only; omega)) (by dsimp only; omega)) (by dsimp only; omega)) (by dsimp only; omega)) (by dsimp only; omega)) (by dsimp only; omega)) (by dsimp only; omega)) (by dsimp only; omega)), (cell_far_block (cell_far_block (cell_far_block (cell_far_block (cell_far_block (cell_far_block (cell_far_block (cell_far_block (cell_far_block (cell_far_block (cell_far_block (cell_far_block (cell_far_block (cell_far_block (cell_far_block (cell_far_block (cell_far_block b0_13 (by dsimp only; omega)) (by dsimp only; omega)) (by dsimp only; omega)) (by dsimp only; omega)) (by dsimp only; omega)) (by dsimp only; omega)) (by dsimp only; omega)) (by dsimp only; omega)) (by dsimp only; omega)) (by dsimp only; omega)) (by dsimp only; omega)) (by dsimp only; omega)) (by dsimp only; omega)) (by dsimp only; omega)) (by dsimp only; omega)) (by dsimp only; omega)) (by dsimp only; omega)), (cell_far_block (cell_far_block (cell_far_block (cell_far_block (cell_far_block (cell_far_block (cell_far_block (cell_far_block (cell_far_block (cell_far_block (cell_far_block (cell_far_block (cell_far_block (cell_far_block (cell_far_block (cell_far_block (cell_far_block b0_14 (by dsimp only; omega)) (by dsimp only; omega)) (by dsimp only; omega)) (by dsimp only; omega)) (by dsimp only; omega)) (by dsimp only; omega)) (by dsimp only; omega)) (by dsimp only; omega)) (by dsimp only; omega)) (by dsimp only; omega)) (by dsimp only; omega)) (by dsimp only; omega)) (by dsimp only; omega)) (by dsimp only; omega)) (by dsimp only; omega)) (by dsimp only; omega)) (by dsimp only; omega)), (cell_far_block (cell_far_block (cell_far_block (cell_far_block (cell_far_block (cell_far_block (cell_far_block (cell_far_block (cell_far_block (cell_far_block (cell_far_block (cell_far_block (cell_far_block (cell_far_block (cell_far_block (cell_far_block (cell_far_block b0_15 (by dsimp only; omega)) (by dsimp only; omega)) (by dsimp only; omega)) (by dsimp only; omega)) (by dsimp only; omega)) (by dsimp only; omega)) (by dsimp only; omega)) (by dsimp only; omega)) (by dsimp only; omega)) (by dsimp only; omega)) (by dsimp only; omega)) (by dsimp only; omega)) (by dsimp only; omega)) (by dsimp only; omega)) (by dsimp only; omega)) (by dsimp only; omega)) (by dsimp only; omega)), (cell_far_block (cell_far_block (cell_far_block (cell_far_block (cell_far_block (cell_far_block (cell_far_block (cell_far_block (cell_far_block (cell_far_block (cell_far_block (cell_far_block (cell_far_block (cell_far_block (cell_far_block (cell_far_block (cell_far_block b0_16 (by dsimp only; omega)) (by dsimp only; omega)) (by dsimp only; omega)) (by dsimp only; omega)) (by dsimp only; omega)) (by dsimp only; omega)) (by dsimp only; omega)) (by dsimp only; omega)) (by dsimp only; omega)) (by dsimp only; omega)) (by dsimp only; omega)) (by dsimp only; omega)) (by dsimp only; omega)) (by dsimp only; omega)) (by dsimp only; omega)) (by dsimp only; omega)) (by dsimp only; omega))⟩ | with_reducible exact ⟨(UP.alloc_drew _), (cell_alloc_drew b0_0), (cell_alloc_drew b0_1), (cell_alloc_drew b0_2), (cell_alloc_drew b0_3), (cell_alloc_drew b0_4), (cell_alloc_drew b0_5), (cell_alloc_drew b0_6), (cell_alloc_drew b0_7), (cell_alloc_drew b0_8), (cell_alloc_drew b0_9), (cell_alloc_drew b0_10), (cell_alloc_drew b0_11), (cell_alloc_drew b0_12), (cell_alloc_drew b0_13), (cell_alloc_drew b0_14), (cell_alloc_drew b0_15), (cell_alloc_drew b0_16)⟩ | with_reducible exact ⟨(UP.alloc2_drew _ _), (cell_alloc2_drew b0_0), (cell_alloc2_drew b0_1), (cell_alloc2_drew b0_2), (cell_alloc2_drew b0_3), (cell_alloc2_drew b0_4), (cell_alloc2_drew b0_5), (cell_alloc2_drew b0_6), (cell_alloc2_drew b0_7), (cell_alloc2_drew b0_8), (cell_alloc2_drew b0_9), (cell_alloc2_drew b0_10), (cell_alloc2_drew b0_11), (cell_alloc2_drew b0_12), (cell_alloc2_drew b0_13), (cell_alloc2_drew b0_14), (cell_alloc2_drew b0_15), (cell_alloc2_drew b0_16)⟩ | (simp only [← World.setCell_drew]; first | with_reducible exact ⟨(((((((((((((((((UP.setCell (p := ⟨w.heap.size + 1, 0, none⟩) (by dsimp only; omega) _).setCell (p := ⟨w.heap.size + 1, 1, none⟩) (by dsimp only; omega) _).setCell (p := ⟨w.heap.size + 1, 2, none⟩) (by dsimp only; omega) _).setCell (p := ⟨w.heap.size + 1, 3, none⟩) (by dsimp only; omega) _).setCell (p := ⟨w.heap.size + 1, 4, none⟩) (by dsimp only; omega) _).setCell (p := ⟨w.heap.size + 1, 5, none⟩) (by dsimp only; omega) _).setCell (p := ⟨w.heap.size + 1, 6, none⟩) (by dsimp only; omega) _).setCell (p := ⟨w.heap.size + 1, 7, none⟩) (by dsimp only; omega) _).setCell (p := ⟨w.heap.size + 1, 8, none⟩) (by dsimp only; omega) _).setCell (p := ⟨w.heap.size + 1, 9, none⟩) (by dsimp only; omega) _).setCell (p := ⟨w.heap.size + 1, 10, none⟩) (by dsimp only; omega) _).setCell (p := ⟨w.heap.size + 1, 11, none⟩) (by dsimp only; omega) _).setCell (p := ⟨w.heap.size + 1, 12, none⟩) (by dsimp only; omega) _).setCell (p := ⟨w.heap.size + 1, 13, none⟩) (by dsimp only; omega) _).setCell (p := ⟨w.heap.size + 1, 14, none⟩) (by dsimp only; omega) _).setCell (p := ⟨w.heap.size + 1, 15, none⟩) (by dsimp only; omega) _).setCell (p := ⟨w.heap.size + 1, 16, none⟩) (by dsimp only; omega) _), (cell_far_block (cell_far_block (cell_far_block (cell_far_block (cell_far_block (cell_far_block (cell_far_block (cell_far_block (cell_far_block (cell_far_block (cell_far_block (cell_far_block (cell_far_block (cell_far_block (cell_far_block (cell_far_block (cell_far_block b0_0 (by dsimp only; omega)) (by dsimp only; omega)) (by dsimp only; omega)) (by dsimp only; omega)) (by dsimp only; omega)) (by dsimp only; omega)) (by dsimp only; omega)) (by dsimp only; omega)) (by dsimp only; omega)) (by dsimp only; omega)) (by dsimp only; omega)) (by dsimp only; omega)) (by dsimp only; omega)) (by dsimp only; omega)) (by dsimp only; omega)) (by dsimp only; omega)) (by dsimp only; omega)), (cell_far_block (cell_far_block (cell_far_block (cell_far_block (cell_far_block (cell_far_block (cell_far_block (cell_far_block (cell_far_block (cell_far_block (cell_far_block (cell_far_block (cell_far_block (cell_far_block (cell_far_block (cell_far_block (cell_far_block b0_1 (by dsimp only; omega)) (by dsimp only; omega)) (by dsimp only; omega)) (by dsimp only; omega)) (by dsimp only; omega)) (by dsimp only; omega)) (by dsimp only; omega)) (by dsimp only; omega)) (by dsimp only; omega)) (by dsimp only; omega)) (by dsimp only; omega)) (by dsimp only; omega)) (by dsimp only; omega)) (by dsimp only; omega)) (by dsimp only; omega)) (by dsimp only; omega)) (by dsimp only; omega)), (cell_far_block (cell_far_block (cell_far_block (cell_far_block (cell_far_block (cell_far_block (cell_far_block (cell_far_block (cell_far_block (cell_far_block (cell_far_block (cell_far_block (cell_far_block (cell_far_block (cell_far_block (cell_far_block (cell_far_block b0_2 (by dsimp only; omega)) (by dsimp only; omega)) (by dsimp only; omega)) (by dsimp only; omega)) (by dsimp only; omega)) (by dsimp only; omega)) (by dsimp only; omega)) (by dsimp only; omega)) (by dsimp only; omega)) (by dsimp only; omega)) (by dsimp only; omega)) (by dsimp only; omega)) (by dsimp only; omega)) (by dsimp only; omega)) (by dsimp only; omega)) (by dsimp only; omega)) (by dsimp only; omega)), (cell_far_block (cell_far_block (cell_far_block (cell_far_block (cell_far_block (cell_far_block (cell_far_block (cell_far_block (cell_far_block (cell_far_block (cell_far_block (cell_far_block (cell_far_block (cell_far_block (cell_far_block (cell_far_block (cell_far_block b0_3 (by dsimp only; omega)) (by dsimp only; omega)) (by dsimp only; omega)) (by dsimp only; omega)) (by dsimp only; omega)) (by dsimp only; omega)) (by dsimp only; omega)) (by dsimp only; omega)) (by dsimp only; omega)) (by dsimp only; omega)) (by dsimp only; omega)) (by dsimp only; omega)) (by dsimp only; omega)) (by dsimp only; omega)) (by dsimp only; omega)) (by dsimp only; omega)) (by dsimp only; omega)), (cell_far_block (cell_far_block (cell_far_block (cell_far_block (cell_far_block (cell_far_block (cell_far_block (cell_far_block (cell_far_block (cell_far_block (cell_far_block (cell_far_block (cell_far_block (cell_far_block (cell_far_block (cell_far_block (cell_far_block b0_4 (by dsimp only; omega)) (by dsimp only; omega)) (by dsimp only; omega)) (by dsimp only; omega)) (by dsimp only; omega)) (by dsimp only; omega)) (by dsimp only; omega)) (by dsimp only; omega)) (by dsimp only; omega)) (by dsimp only; omega)) (by dsimp only; omega)) (by dsimp only; omega)) (by dsimp only; omega)) (by dsimp only; omega)) (by dsimp only; omega)) (by dsimp only; omega)) (by dsimp only; omega)), (cell_far_block (cell_far_block (cell_far_block (cell_far_block (cell_far_block (cell_far_block (cell_far_block (cell_far_block (cell_far_block (cell_far_block (cell_far_block (cell_far_block (cell_far_block (cell_far_block (cell_far_block (cell_far_block (cell_far_block b0_5 (by dsimp only; omega)) (by dsimp only; omega)) (by dsimp only; omega)) (by dsimp only; omega)) (by dsimp only; omega)) (by dsimp only; omega)) (by dsimp only; omega)) (by dsimp only; omega)) (by dsimp only; omega)) (by dsimp only; omega)) (by dsimp only; omega)) (by dsimp only; omega)) (by dsimp only; omega)) (by dsimp only; omega)) (by dsimp only; omega)) (by dsimp only; omega)) (by dsimp only; omega)), (cell_far_block (cell_far_block (cell_far_block (cell_far_block (cell_far_block (cell_far_block (cell_far_block (cell_far_block (cell_far_block (cell_far_block (cell_far_block (cell_far_block (cell_far_block (cell_far_block (cell_far_block (cell_far_block (cell_far_block b0_6 (by dsimp only; omega)) (by dsimp only; omega)) (by dsimp only; omega)) (by dsimp only; omega)) (by dsimp only; omega)) (by dsimp only; omega)) (by dsimp only; omega)) (by dsimp only; omega)) (by dsimp only; omega)) (by dsimp only; omega)) (by dsimp only; omega)) (by dsimp only; omega)) (by dsimp only; omega)) (by dsimp only; omega)) (by dsimp only; omega)) (by dsimp only; omega)) (by dsimp only; omega)), (cell_far_block (cell_far_block (cell_far_block (cell_far_block (cell_far_block (cell_far_block (cell_far_block (cell_far_block (cell_far_block (cell_far_block (cell_far_block (cell_far_block (cell_far_block (cell_far_block (cell_far_block (cell_far_block (cell_far_block b0_7 (by dsimp only; omega)) (by dsimp only; omega)) (by dsimp only; omega)) (by dsimp only; omega)) (by dsimp only; omega)) (by dsimp only; omega)) (by dsimp only; omega)) (by dsimp only; omega)) (by dsimp only; omega)) (by dsimp only; omega)) (by dsimp only; omega)) (by dsimp only; omega)) (by dsimp only; omega)) (by dsimp only; omega)) (by dsimp only; omega)) (by dsimp only; omega)) (by dsimp only; omega)), (cell_far_block (cell_far_block (cell_far_block (cell_far_block (cell_far_block (cell_far_block (cell_far_block (cell_far_block (cell_far_block (cell_far_block (cell_far_block (cell_far_block (cell_far_block (cell_far_block (cell_far_block (cell_far_block (cell_far_block b0_8 (by dsimp only; omega)) (by dsimp only; omega)) (by dsimp only; omega)) (by dsimp only; omega)) (by dsimp only; omega)) (by dsimp only; omega)) (by dsimp only; omega)) (by dsimp only; omega)) (by dsimp only; omega)) (by dsimp only; omega)) (by dsimp only; omega)) (by dsimp only; omega)) (by dsimp only; omega)) (by dsimp only; omega)) (by dsimp only; omega)) (by dsimp only; omega)) (by dsimp only; omega)), (cell_far_block (cell_far_block (cell_far_block (cell_far_block (cell_far_block (cell_far_block (cell_far_block (cell_far_block (cell_far_block (cell_far_block (cell_far_block (cell_far_block (cell_far_block (cell_far_block (cell_far_block (cell_far_block (cell_far_block b0_9 (by dsimp only; omega)) (by dsimp only; omega)) (by dsimp only; omega)) (by dsimp only; omega)) (by dsimp only; omega)) (by dsimp only; omega)) (by dsimp only; omega)) (by dsimp only; omega)) (by dsimp only; omega)) (by dsimp only; omega)) (by dsimp only; omega)) (by dsimp only; omega)) (by dsimp only; omega)) (by dsimp only; omega)) (by dsimp only; omega)) (by dsimp only; omega)) (by dsimp only; omega)), (cell_far_block (cell_far_block (cell_far_block (cell_far_block (cell_far_block (cell_far_block (cell_far_block (cell_far_block (cell_far_block (cell_far_block (cell_far_block (cell_far_block (cell_far_block (cell_far_block (cell_far_block (cell_far_block (cell_far_block b0_10 (by dsimp only; omega)) (by dsimp only; omega)) (by dsimp only; omega)) (by dsimp only; omega)) (by dsimp only; omega)) (by dsimp only; omega)) (by dsimp only; omega)) (by dsimp only; omega)) (by dsimp only; omega)) (by dsimp only; omega)) (by dsimp only; omega)) (by dsimp only; omega)) (by dsimp only; omega)) (by dsimp only; omega)) (by dsimp only; omega)) (by dsimp only; omega)) (by dsimp only; omega)), (cell_far_block (cell_far_block (cell_far_block (cell_far_block (cell_far_block (cell_far_block (cell_far_block (cell_far_block (cell_far_block (cell_far_block (cell_far_block (cell_far_block (cell_far_block (cell_far_block (cell_far_block (cell_far_block (cell_far_block b0_11 (by dsimp only; omega)) (by dsimp only; omega)) (by dsimp only; omega)) (by dsimp only; omega)) (by dsimp only; omega)) (by dsimp only; omega)) (by dsimp only; omega)) (by dsimp only; omega)) (by dsimp only; omega)) (by dsimp only; omega)) (by dsimp only; omega)) (by dsimp only; omega)) (by dsimp only; omega)) (by dsimp only; omega)) (by dsimp only; omega)) (by dsimp only; omega)) (by dsimp only; omega)), (cell_far_block (cell_far_block (cell_far_block (cell_far_block (cell_far_block (cell_far_block (cell_far_block (cell_far_block (cell_far_block (cell_far_block (cell_far_block (cell_far_block (cell_far_block (cell_far_block (cell_far_block (cell_far_block (cell_far_block b0_12 (by dsimp only; omega)) (by dsimp only; omega)) (by dsimp only; omega)) (by dsimp only; omega)) (by dsimp only; omega)) (by dsimp only; omega)) (by dsimp only; omega)) (by dsimp only; omega)) (by dsimp only; omega)) (by dsimp only; omega)) (by dsimp only; omega)) (by dsimp only; omega)) (by dsimp only; omega)) (by dsimp only; omega)) (by dsimp only; omega)) (by dsimp only; omega)) (by dsimp only; omega)), (cell_far_block (cell_far_block (cell_far_block (cell_far_block (cell_far_block (cell_far_block (cell_far_block (cell_far_block (cell_far_block (cell_far_block (cell_far_block (cell_far_block (cell_far_block (cell_far_block (cell_far_block (cell_far_block (cell_far_block b0_13 (by dsimp only; omega)) (by dsimp only; omega)) (by dsimp only; omega)) (by dsimp only; omega)) (by dsimp only; omega)) (by dsimp only; omega)) (by dsimp only; omega)) (by dsimp only; omega)) (by dsimp only; omega)) (by dsimp only; omega)) (by dsimp only; omega)) (by dsimp only; omega)) (by dsimp only; omega)) (by dsimp only; omega)) (by dsimp only; omega)) (by dsimp only; omega)) (by dsimp only; omega)), (cell_far_block (cell_far_block (cell_far_block (cell_far_block (cell_far_block (cell_far_block (cell_far_block (cell_far_block (cell_far_block (cell_far_block (cell_far_block (cell_far_block (cell_far_block (cell_far_block (cell_far_block (cell_far_block (cell_far_block b0_14 (by dsimp only; omega)) (by dsimp only; omega)) (by dsimp only; omega)) (by dsimp only; omega)) (by dsimp only; omega)) (by dsimp only; omega)) (by dsimp only; omega)) (by dsimp only; omega)) (by dsimp only; omega)) (by dsimp only; omega)) (by dsimp only; omega)) (by dsimp only; omega)) (by dsimp only; omega)) (by dsimp only; omega)) (by dsimp only; omega)) (by dsimp only; omega)) (by dsimp only; omega)), (cell_far_block (cell_far_block (cell_far_block (cell_far_block (cell_far_block (cell_far_block (cell_far_block (cell_far_block (cell_far_block (cell_far_block (cell_far_block (cell_far_block (cell_far_block (cell_far_block (cell_far_block (cell_far_block (cell_far_block b0_15 (by dsimp only; omega)) (by dsimp only; omega)) (by dsimp only; omega)) (by dsimp only; omega)) (by dsimp only; omega)) (by dsimp only; omega)) (by dsimp only; omega)) (by dsimp only; omega)) (by dsimp only; omega)) (by dsimp only; omega)) (by dsimp only; omega)) (by dsimp only; omega)) (by dsimp only; omega)) (by dsimp only; omega)) (by dsimp only; omega)) (by dsimp only; omega)) (by dsimp only; omega)), (cell_far_block (cell_far_block (cell_far_block (cell_far_block (cell_far_block (cell_far_block (cell_far_block (cell_far_block (cell_far_block (cell_far_block (cell_far_block (cell_far_block (cell_far_block (cell_far_block (cell_far_block (cell_far_block (cell_far_block b0_16 (by dsimp only; omega)) (by dsimp only; omega)) (by dsimp only; omega)) (by dsimp only; omega)) (by dsimp only; omega)) (by dsimp only; omega)) (by dsimp only; omega)) (by dsimp only; omega)) (by dsimp only; omega)) (by dsimp only; omega)) (by dsimp only; omega)) (by dsimp only; omega)) (by dsimp only; omega)) (by dsimp only; omega)) (by dsimp only; omega)) (by dsimp only; omega)) (by dsimp only; omega))⟩) | go_keep)
 clear hK K
 try simp only [List.getElem_toArray, List.getElem_cons_zero, List.getElem_cons_succ, Act.put, List.setIfInBounds_toArray, List.set_cons_zero, List.set_cons_succ]
 refine wpAnyH_done (by kernel_rfl) ?_ _
 refine NoPanic.normal ?_
 clear hHeld
 have KW : Kw (W1) ((W1).setCell ⟨w.heap.size + 1, 0, none⟩ (.bool s1)) := Kw.store (c := (.bool false)) r0 rfl trivial _
 replace b0 := b0.far (p := ⟨w.heap.size + 1, 0, none⟩) (by dsimp only; omega) (.bool s1)
 replace r0 : Bx 26 ((W1).setCell ⟨w.heap.size + 1, 0, none⟩ (.bool s1)) (w.heap.size + 1) [.bool s1, .slice none 0 0, .slice none 0 0, .bool false, .slice none 0 0, .slice none 0 0, .bool false, .slice none 0 0, .slice none 0 0, .bool false, .slice none 0 0, .slice none 0 0, .bool false, .slice none 0 0, .slice none 0 0, .int .i64 0, .int .i64 0] := r0.set 0 (.bool s1)
 replace UP := UP.setCell (p := ⟨w.heap.size + 1, 0, none⟩) (by dsimp only; omega) (.bool s1)
 clear KW
 generalize ((W1).setCell ⟨w.heap.size + 1, 0, none⟩ (.bool s1)) = W2_0 at *
 have KW : Kw (W2_0) ((W2_0).setCell ⟨w.heap.size + 1, 1, none⟩ (.slice A1 l1.length c1)) := Kw.store (c := (.slice none 0 0)) r0 rfl trivial _
 replace b0 := b0.far (p := ⟨w.heap.size + 1, 1, none⟩) (by dsimp only; omega) (.slice A1 l1.length c1)
 replace r0 : Bx 26 ((W2_0).setCell ⟨w.heap.size + 1, 1, none⟩ (.slice A1 l1.length c1)) (w.heap.size + 1) [.bool s1, .slice A1 l1.length c1, .slice none 0 0, .bool false, .slice none 0 0, .slice none 0 0, .bool false, .slice none 0 0, .slice none 0 0, .bool false, .slice none 0 0, .slice none 0 0, .bool false, .slice none 0 0, .slice none 0 0, .int .i64 0, .int .i64 0] := r0.set 1 (.slice A1 l1.length c1)
 replace UP := UP.setCell (p := ⟨w.heap.size + 1, 1, none⟩) (by dsimp only; omega) (.slice A1 l1.length c1)
 clear KW
 generalize ((W2_0).setCell ⟨w.heap.size + 1, 1, none⟩ (.slice A1 l1.length c1)) = W2_1 at *
 have KW : Kw (W2_1) ((W2_1).setCell ⟨w.heap.size + 1, 2, none⟩ (.slice D1 m1.length e1)) := Kw.store (c := (.slice none 0 0)) r0 rfl trivial _
 replace b0 := b0.far (p := ⟨w.heap.size + 1, 2, none⟩) (by dsimp only; omega) (.slice D1 m1.length e1)
 replace r0 : Bx 26 ((W2_1).setCell ⟨w.heap.size + 1, 2, none⟩ (.slice D1 m1.length e1)) (w.heap.size + 1) [.bool s1, .slice A1 l1.length c1, .slice D1 m1.length e1, .bool false, .slice none 0 0, .slice none 0 0, .bool false, .slice none 0 0, .slice none 0 0, .bool false, .slice none 0 0, .slice none 0 0, .bool false, .slice none 0 0, .slice none 0 0, .int .i64 0, .int .i64 0] := r0.set 2 (.slice D1 m1.length e1)
 replace UP := UP.setCell (p := ⟨w.heap.size + 1, 2, none⟩) (by dsimp only; omega) (.slice D1 m1.length e1)
 clear KW
 generalize ((W2_1).setCell ⟨w.heap.size + 1, 2, none⟩ (.slice D1 m1.length e1)) = W2_2 at *
 have KW : Kw (W2_2) ((W2_2).setCell ⟨w.heap.size + 1, 3, none⟩ (.bool s2)) := Kw.store (c := (.bool false)) r0 rfl trivial _
 replace b0 := b0.far (p := ⟨w.heap.size + 1, 3, none⟩) (by dsimp only; omega) (.bool s2)
 replace r0 : Bx 26 ((W2_2).setCell ⟨w.heap.size + 1, 3, none⟩ (.bool s2)) (w.heap.size + 1) [.bool s1, .slice A1 l1.length c1, .slice D1 m1.length e1, .bool s2, .slice none 0 0, .slice none 0 0, .bool false, .slice none 0 0, .slice none 0 0, .bool false, .slice none 0 0, .slice none 0 0, .bool false, .slice none 0 0, .slice none 0 0, .int .i64 0, .int .i64 0] := r0.set 3 (.bool s2)
 replace UP := UP.setCell (p := ⟨w.heap.size + 1, 3, none⟩) (by dsimp only; omega) (.bool s2)
 clear KW
 generalize ((W2_2).setCell ⟨w.heap.size + 1, 3, none⟩ (.bool s2)) = W2_3 at *
 have KW : Kw (W2_3) ((W2_3).setCell ⟨w.heap.size + 1, 4, none⟩ (.slice A2 l2.length c2)) := Kw.store (c := (.slice none 0 0)) r0 rfl trivial _
 replace b0 := b0.far (p := ⟨w.heap.size + 1, 4, none⟩) (by dsimp only; omega) (.slice A2 l2.length c2)
 replace r0 : Bx 26 ((W2_3).setCell ⟨w.heap.size + 1, 4, none⟩ (.slice A2 l2.length c2)) (w.heap.size + 1) [.bool s1, .slice A1 l1.length c1, .slice D1 m1.length e1, .bool s2, .slice A2 l2.length c2, .slice none 0 0, .bool false, .slice none 0 0, .slice none 0 0, .bool false, .slice none 0 0, .slice none 0 0, .bool false, .slice none 0 0, .slice none 0 0, .int .i64 0, .int .i64 0] := r0.set 4 (.slice A2 l2.length c2)
 replace UP := UP.setCell (p := ⟨w.heap.size + 1, 4, none⟩) (by dsimp only; omega) (.slice A2 l2.length c2)
 clear KW
 generalize ((W2_3).setCell ⟨w.heap.size + 1, 4, none⟩ (.slice A2 l2.length c2)) = W2_4 at *
 have KW : Kw (W2_4) ((W2_4).setCell ⟨w.heap.size + 1, 5, none⟩ (.slice D2 m2.length e2)) := Kw.store (c := (.slice none 0 0)) r0 rfl trivial _
 replace b0 := b0.far (p := ⟨w.heap.size + 1, 5, none⟩) (by dsimp only; omega) (.slice D2 m2.length e2)
 replace r0 : Bx 26 ((W2_4).setCell ⟨w.heap.size + 1, 5, none⟩ (.slice D2 m2.length e2)) (w.heap.size + 1) [.bool s1, .slice A1 l1.length c1, .slice D1 m1.length e1, .bool s2, .slice A2 l2.length c2, .slice D2 m2.length e2, .bool false, .slice none 0 0, .slice none 0 0, .bool false, .slice none 0 0, .slice none 0 0, .bool false, .slice none 0 0, .slice none 0 0, .int .i64 0, .int .i64 0] := r0.set 5 (.slice D2 m2.length e2)
 replace UP := UP.setCell (p := ⟨w.heap.size + 1, 5, none⟩) (by dsimp only; omega) (.slice D2 m2.length e2)
 clear KW
 generalize ((W2_4).setCell ⟨w.heap.size + 1, 5, none⟩ (.slice D2 m2.length e2)) = W2_5 at *
 have KW : Kw (W2_5) ((W2_5).setCell ⟨w.heap.size + 1, 6, none⟩ (.bool s3)) := Kw.store (c := (.bool false)) r0 rfl trivial _
 replace b0 := b0.far (p := ⟨w.heap.size + 1, 6, none⟩) (by dsimp only; omega) (.bool s3)
 replace r0 : Bx 26 ((W2_5).setCell ⟨w.heap.size + 1, 6, none⟩ (.bool s3)) (w.heap.size + 1) [.bool s1, .slice A1 l1.length c1, .slice D1 m1.length e1, .bool s2, .slice A2 l2.length c2, .slice D2 m2.length e2, .bool s3, .slice none 0 0, .slice none 0 0, .bool false, .slice none 0 0, .slice none 0 0, .bool false, .slice none 0 0, .slice none 0 0, .int .i64 0, .int .i64 0] := r0.set 6 (.bool s3)
 replace UP := UP.setCell (p := ⟨w.heap.size + 1, 6, none⟩) (by dsimp only; omega) (.bool s3)
 clear KW
 generalize ((W2_5).setCell ⟨w.heap.size + 1, 6, none⟩ (.bool s3)) = W2_6 at *
 have KW : Kw (W2_6) ((W2_6).setCell ⟨w.heap.size + 1, 7, none⟩ (.slice A3 l3.length c3)) := Kw.store (c := (.slice none 0 0)) r0 rfl trivial _
 replace b0 := b0.far (p := ⟨w.heap.size + 1, 7, none⟩) (by dsimp only; omega) (.slice A3 l3.length c3)
 replace r0 : Bx 26 ((W2_6).setCell ⟨w.heap.size + 1, 7, none⟩ (.slice A3 l3.length c3)) (w.heap.size + 1) [.bool s1, .slice A1 l1.length c1, .slice D1 m1.length e1, .bool s2, .slice A2 l2.length c2, .slice D2 m2.length e2, .bool s3, .slice A3 l3.length c3, .slice none 0 0, .bool false, .slice none 0 0, .slice none 0 0, .bool false, .slice none 0 0, .slice none 0 0, .int .i64 0, .int .i64 0] := r0.set 7 (.slice A3 l3.length c3)
 replace UP := UP.setCell (p := ⟨w.heap.size + 1, 7, none⟩) (by dsimp only; omega) (.slice A3 l3.length c3)
 clear KW
 generalize ((W2_6).setCell ⟨w.heap.size + 1, 7, none⟩ (.slice A3 l3.length c3)) = W2_7 at *
 have KW : Kw (W2_7) ((W2_7).setCell ⟨w.heap.size + 1, 8, none⟩ (.slice D3 m3.length e3)) := Kw.store (c := (.slice none 0 0)) r0 rfl trivial _
 replace b0 := b0.far (p := ⟨w.heap.size + 1, 8, none⟩) (by dsimp only; omega) (.slice D3 m3.length e3)
 replace r0 : Bx 26 ((W2_7).setCell ⟨w.heap.size + 1, 8, none⟩ (.slice D3 m3.length e3)) (w.heap.size + 1) [.bool s1, .slice A1 l1.length c1, .slice D1 m1.length e1, .bool s2, .slice A2 l2.length c2, .slice D2 m2.length e2, .bool s3, .slice A3 l3.length c3, .slice D3 m3.length e3, .bool false, .slice none 0 0, .slice none 0 0, .bool false, .slice none 0 0, .slice none 0 0, .int .i64 0, .int .i64 0] := r0.set 8 (.slice D3 m3.length e3)
 replace UP := UP.setCell (p := ⟨w.heap.size + 1, 8, none⟩) (by dsimp only; omega) (.slice D3 m3.length e3)
 clear KW
 generalize ((W2_7).setCell ⟨w.heap.size + 1, 8, none⟩ (.slice D3 m3.length e3)) = W2_8 at *
 have KW : Kw (W2_8) ((W2_8).setCell ⟨w.heap.size + 1, 9, none⟩ (.bool s4)) := Kw.store (c := (.bool false)) r0 rfl trivial _
 replace b0 := b0.far (p := ⟨w.heap.size + 1, 9, none⟩) (by dsimp only; omega) (.bool s4)
 replace r0 : Bx 26 ((W2_8).setCell ⟨w.heap.size + 1, 9, none⟩ (.bool s4)) (w.heap.size + 1) [.bool s1, .slice A1 l1.length c1, .slice D1 m1.length e1, .bool s2, .slice A2 l2.length c2, .slice D2 m2.length e2, .bool s3, .slice A3 l3.length c3, .slice D3 m3.length e3, .bool s4, .slice none 0 0, .slice none 0 0, .bool false, .slice none 0 0, .slice none 0 0, .int .i64 0, .int .i64 0] := r0.set 9 (.bool s4)
 replace UP := UP.setCell (p := ⟨w.heap.size + 1, 9, none⟩) (by dsimp only; omega) (.bool s4)
 clear KW
 generalize ((W2_8).setCell ⟨w.heap.size + 1, 9, none⟩ (.bool s4)) = W2_9 at *
 have KW : Kw (W2_9) ((W2_9).setCell ⟨w.heap.size + 1, 10, none⟩ (.slice A4 l4.length c4)) := Kw.store (c := (.slice none 0 0)) r0 rfl trivial _
 replace b0 := b0.far (p := ⟨w.heap.size + 1, 10, none⟩) (by dsimp only; omega) (.slice A4 l4.length c4)
 replace r0 : Bx 26 ((W2_9).setCell ⟨w.heap.size + 1, 10, none⟩ (.slice A4 l4.length c4)) (w.heap.size + 1) [.bool s1, .slice A1 l1.length c1, .slice D1 m1.length e1, .bool s2, .slice A2 l2.length c2, .slice D2 m2.length e2, .bool s3, .slice A3 l3.length c3, .slice D3 m3.length e3, .bool s4, .slice A4 l4.length c4, .slice none 0 0, .bool false, .slice none 0 0, .slice none 0 0, .int .i64 0, .int .i64 0] := r0.set 10 (.slice A4 l4.length c4)
 replace UP := UP.setCell (p := ⟨w.heap.size + 1, 10, none⟩) (by dsimp only; omega) (.slice A4 l4.length c4)
 clear KW
 generalize ((W2_9).setCell ⟨w.heap.size + 1, 10, none⟩ (.slice A4 l4.length c4)) = W2_10 at *
 have KW : Kw (W2_10) ((W2_10).setCell ⟨w.heap.size + 1, 11, none⟩ (.slice D4 m4.length e4)) := Kw.store (c := (.slice none 0 0)) r0 rfl trivial _
 replace b0 := b0.far (p := ⟨w.heap.size + 1, 11, none⟩) (by dsimp only; omega) (.slice D4 m4.length e4)
 replace r0 : Bx 26 ((W2_10).setCell ⟨w.heap.size + 1, 11, none⟩ (.slice D4 m4.length e4)) (w.heap.size + 1) [.bool s1, .slice A1 l1.length c1, .slice D1 m1.length e1, .bool s2, .slice A2 l2.length c2, .slice D2 m2.length e2, .bool s3, .slice A3 l3.length c3, .slice D3 m3.length e3, .bool s4, .slice A4 l4.length c4, .slice D4 m4.length e4, .bool false, .slice none 0 0, .slice none 0 0, .int .i64 0, .int .i64 0] := r0.set 11 (.slice D4 m4.length e4)
 replace UP := UP.setCell (p := ⟨w.heap.size + 1, 11, none⟩) (by dsimp only; omega) (.slice D4 m4.length e4)
 clear KW
 generalize ((W2_10).setCell ⟨w.heap.size + 1, 11, none⟩ (.slice D4 m4.length e4)) = W2_11 at *
 have KW : Kw (W2_11) ((W2_11).setCell ⟨w.heap.size + 1, 12, none⟩ (.bool s5)) := Kw.store (c := (.bool false)) r0 rfl trivial _
 replace b0 := b0.far (p := ⟨w.heap.size + 1, 12, none⟩) (by dsimp only; omega) (.bool s5)
 replace r0 : Bx 26 ((W2_11).setCell ⟨w.heap.size + 1, 12, none⟩ (.bool s5)) (w.heap.size + 1) [.bool s1, .slice A1 l1.length c1, .slice D1 m1.length e1, .bool s2, .slice A2 l2.length c2, .slice D2 m2.length e2, .bool s3, .slice A3 l3.length c3, .slice D3 m3.length e3, .bool s4, .slice A4 l4.length c4, .slice D4 m4.length e4, .bool s5, .slice none 0 0, .slice none 0 0, .int .i64 0, .int .i64 0] := r0.set 12 (.bool s5)
 replace UP := UP.setCell (p := ⟨w.heap.size + 1, 12, none⟩) (by dsimp only; omega) (.bool s5)
 clear KW
 generalize ((W2_11).setCell ⟨w.heap.size + 1, 12, none⟩ (.bool s5)) = W2_12 at *
 have KW : Kw (W2_12) ((W2_12).setCell ⟨w.heap.size + 1, 13, none⟩ (.slice A5 l5.length c5)) := Kw.store (c := (.slice none 0 0)) r0 rfl trivial _
 replace b0 := b0.far (p := ⟨w.heap.size + 1, 13, none⟩) (by dsimp only; omega) (.slice A5 l5.length c5)
 replace r0 : Bx 26 ((W2_12).setCell ⟨w.heap.size + 1, 13, none⟩ (.slice A5 l5.length c5)) (w.heap.size + 1) [.bool s1, .slice A1 l1.length c1, .slice D1 m1.length e1, .bool s2, .slice A2 l2.length c2, .slice D2 m2.length e2, .bool s3, .slice A3 l3.length c3, .slice D3 m3.length e3, .bool s4, .slice A4 l4.length c4, .slice D4 m4.length e4, .bool s5, .slice A5 l5.length c5, .slice none 0 0, .int .i64 0, .int .i64 0] := r0.set 13 (.slice A5 l5.length c5)
 replace UP := UP.setCell (p := ⟨w.heap.size + 1, 13, none⟩) (by dsimp only; omega) (.slice A5 l5.length c5)
 clear KW
 generalize ((W2_12).setCell ⟨w.heap.size + 1, 13, none⟩ (.slice A5 l5.length c5)) = W2_13 at *
 have KW : Kw (W2_13) ((W2_13).setCell ⟨w.heap.size + 1, 14, none⟩ (.slice D5 m5.length e5)) := Kw.store (c := (.slice none 0 0)) r0 rfl trivial _
 replace b0 := b0.far (p := ⟨w.heap.size + 1, 14, none⟩) (by dsimp only; omega) (.slice D5 m5.length e5)
 replace r0 : Bx 26 ((W2_13).setCell ⟨w.heap.size + 1, 14, none⟩ (.slice D5 m5.length e5)) (w.heap.size + 1) [.bool s1, .slice A1 l1.length c1, .slice D1 m1.length e1, .bool s2, .slice A2 l2.length c2, .slice D2 m2.length e2, .bool s3, .slice A3 l3.length c3, .slice D3 m3.length e3, .bool s4, .slice A4 l4.length c4, .slice D4 m4.length e4, .bool s5, .slice A5 l5.length c5, .slice D5 m5.length e5, .int .i64 0, .int .i64 0] := r0.set 14 (.slice D5 m5.length e5)
 replace UP := UP.setCell (p := ⟨w.heap.size + 1, 14, none⟩) (by dsimp only; omega) (.slice D5 m5.length e5)
 clear KW
 generalize ((W2_13).setCell ⟨w.heap.size + 1, 14, none⟩ (.slice D5 m5.length e5)) = W2_14 at *
 have KW : Kw (W2_14) ((W2_14).setCell ⟨w.heap.size + 1, 15, none⟩ (.int .i64 fi)) := Kw.store (c := (.int .i64 0)) r0 rfl trivial _
 replace b0 := b0.far (p := ⟨w.heap.size + 1, 15, none⟩) (by dsimp only; omega) (.int .i64 fi)
 replace r0 : Bx 26 ((W2_14).setCell ⟨w.heap.size + 1, 15, none⟩ (.int .i64 fi)) (w.heap.size + 1) [.bool s1, .slice A1 l1.length c1, .slice D1 m1.length e1, .bool s2, .slice A2 l2.length c2, .slice D2 m2.length e2, .bool s3, .slice A3 l3.length c3, .slice D3 m3.length e3, .bool s4, .slice A4 l4.length c4, .slice D4 m4.length e4, .bool s5, .slice A5 l5.length c5, .slice D5 m5.length e5, .int .i64 fi, .int .i64 0] := r0.set 15 (.int .i64 fi)
 replace UP := UP.setCell (p := ⟨w.heap.size + 1, 15, none⟩) (by dsimp only; omega) (.int .i64 fi)
 clear KW
 generalize ((W2_14).setCell ⟨w.heap.size + 1, 15, none⟩ (.int .i64 fi)) = W2_15 at *
 have KW : Kw (W2_15) ((W2_15).setCell ⟨w.heap.size + 1, 16, none⟩ (.int .i64 mo)) := Kw.store (c := (.int .i64 0)) r0 rfl trivial _
 replace b0 := b0.far (p := ⟨w.heap.size + 1, 16, none⟩) (by dsimp only; omega) (.int .i64 mo)
 replace r0 : Bx 26 ((W2_15).setCell ⟨w.heap.size + 1, 16, none⟩ (.int .i64 mo)) (w.heap.size + 1) [.bool s1, .slice A1 l1.length c1, .slice D1 m1.length e1, .bool s2, .slice A2 l2.length c2, .slice D2 m2.length e2, .bool s3, .slice A3 l3.length c3, .slice D3 m3.length e3, .bool s4, .slice A4 l4.length c4, .slice D4 m4.length e4, .bool s5, .slice A5 l5.length c5, .slice D5 m5.length e5, .int .i64 fi, .int .i64 mo] := r0.set 16 (.int .i64 mo)
 replace UP := UP.setCell (p := ⟨w.heap.size + 1, 16, none⟩) (by dsimp only; omega) (.int .i64 mo)
 clear KW
 generalize ((W2_15).setCell ⟨w.heap.size + 1, 16, none⟩ (.int .i64 mo)) = W2 at *
 clear b0_0 b0_1 b0_2 b0_3 b0_4 b0_5 b0_6 b0_7 b0_8 b0_9 b0_10 b0_11 b0_12 b0_13 b0_14 b0_15 b0_16 r0_0 r0_1 r0_2 r0_3 r0_4 r0_5 r0_6 r0_7 r0_8 r0_9 r0_10 r0_11 r0_12 r0_13 r0_14 r0_15 r0_16
 have b0_0 := b0.cell (i := 0) rfl
 have b0_1 := b0.cell (i := 1) rfl
 have b0_2 := b0.cell (i := 2) rfl
 have b0_3 := b0.cell (i := 3) rfl
 have b0_4 := b0.cell (i := 4) rfl
 have b0_5 := b0.cell (i := 5) rfl
 have b0_6 := b0.cell (i := 6) rfl
 have b0_7 := b0.cell (i := 7) rfl
 have b0_8 := b0.cell (i := 8) rfl
 have b0_9 := b0.cell (i := 9) rfl
 have b0_10 := b0.cell (i := 10) rfl
 have b0_11 := b0.cell (i := 11) rfl
 have b0_12 := b0.cell (i := 12) rfl
 have b0_13 := b0.cell (i := 13) rfl
 have b0_14 := b0.cell (i := 14) rfl
 have b0_15 := b0.cell (i := 15) rfl
 have b0_16 := b0.cell (i := 16) rfl
 have r0_0 := r0.cell (i := 0) rfl
 have r0_1 := r0.cell (i := 1) rfl
 have r0_2 := r0.cell (i := 2) rfl
 have r0_3 := r0.cell (i := 3) rfl
 have r0_4 := r0.cell (i := 4) rfl
 have r0_5 := r0.cell (i := 5) rfl
 have r0_6 := r0.cell (i := 6) rfl
 have r0_7 := r0.cell (i := 7) rfl
 have r0_8 := r0.cell (i := 8) rfl
 have r0_9 := r0.cell (i := 9) rfl
 have r0_10 := r0.cell (i := 10) rfl
 have r0_11 := r0.cell (i := 11) rfl
 have r0_12 := r0.cell (i := 12) rfl
 have r0_13 := r0.cell (i := 13) rfl
 have r0_14 := r0.cell (i := 14) rfl
 have r0_15 := r0.cell (i := 15) rfl
 have r0_16 := r0.cell (i := 16) rfl
 go_wp2_with fail
 exact bodyPost_ret (run_res_cell rfl rfl agg_rr size_rr r0 rfl) rfl ⟨rfl, UP⟩
set_option maxRecDepth 100000 in
set_option maxHeartbeats 6400000 in
theorem ref_usual36 {U1 U2 U3 U4 U5 : Rat} (H1 : Hid (((1 : Int) : Rat) / ((1000 : Int) : Rat) = U1)) (H2 : Hid (((9 : Int) : Rat) / ((10 : Int) : Rat) = U2)) (H3 : Hid (((1 : Int) : Rat) / ((5 : Int) : Rat) = U3)) (H4 : Hid (((5 : Int) : Rat) = U4)) (H5 : Hid (((1 : Int) : Rat) / ((1000000 : Int) : Rat) = U5)) (w : World) : Calls Tryz.prog 18 #[] w (RetUs U1 U2 U3 U4 U5 w) := by
 have LO : Wd.Lq (((1 : Int) : Rat)) 2 := lq_int (by omega)
 have L2 : Wd.Lq (((1000 : Int) : Rat)) 2 := lq_int (by omega)
 have L3 : Wd.Lq (((9 : Int) : Rat)) 2 := lq_int (by omega)
 have L4 : Wd.Lq (((10 : Int) : Rat)) 2 := lq_int (by omega)
 have L5 : Wd.Lq (((5 : Int) : Rat)) 2 := lq_int (by omega)
 have L6 : Wd.Lq (((1000000 : Int) : Rat)) 2 := lq_int (by omega)
 obtain ⟨P1, HP1⟩ : ∃ P, Hid (((1 : Int) : Rat) = P) := ⟨_, Lib.hid rfl⟩
 rw [HP1.out] at LO H1 H3 H5
 have UP : Up w (w.alloc (.cells #[.bool false, .slice none 0 0, .slice none 0 0, .bool false, .slice none 0 0, .slice none 0 0, .bool false, .slice none 0 0, .slice none 0 0, .bool false, .slice none 0 0, .slice none 0 0, .bool false, .slice none 0 0, .slice none 0 0, .int .i64 0, .int .i64 0] 26)) := (Up.refl w).alloc _
 have r0 := Bx.new 26 w [.bool false, .slice none 0 0, .slice none 0 0, .bool false, .slice none 0 0, .slice none 0 0, .bool false, .slice none 0 0, .slice none 0 0, .bool false, .slice none 0 0, .slice none 0 0, .bool false, .slice none 0 0, .slice none 0 0, .int .i64 0, .int .i64 0]
 go_enter Tryz.func18, Tryz.ntmps18
 go_wp2_with fail
 generalize (w.alloc (.cells #[.bool false, .slice none 0 0, .slice none 0 0, .bool false, .slice none 0 0, .slice none 0 0, .bool false, .slice none 0 0, .slice none 0 0, .bool false, .slice none 0 0, .slice none 0 0, .bool false, .slice none 0 0, .slice none 0 0, .int .i64 0, .int .i64 0] 26)) = W at *
 have r0_0 := r0.cell (i := 0) rfl
 have r0_1 := r0.cell (i := 1) rfl
 have r0_2 := r0.cell (i := 2) rfl
 have r0_3 := r0.cell (i := 3) rfl
 have r0_4 := r0.cell (i := 4) rfl
 have r0_5 := r0.cell (i := 5) rfl
 have r0_6 := r0.cell (i := 6) rfl
 have r0_7 := r0.cell (i := 7) rfl
 have r0_8 := r0.cell (i := 8) rfl
 have r0_9 := r0.cell (i := 9) rfl
 have r0_10 := r0.cell (i := 10) rfl
 have r0_11 := r0.cell (i := 11) rfl
 have r0_12 := r0.cell (i := 12) rfl
 have r0_13 := r0.cell (i := 13) rfl
 have r0_14 := r0.cell (i := 14) rfl
 have r0_15 := r0.cell (i := 15) rfl
 have r0_16 := r0.cell (i := 16) rfl
 have r0_f0 := r0.free 0
 have r0_f1 := r0.free 1
 have r0_f2 := r0.free 2
 have r0_f3 := r0.free 3
 have r0_f4 := r0.free 4
 have r0_f5 := r0.free 5
 have r0_f6 := r0.free 6
 have r0_f7 := r0.free 7
 have r0_f8 := r0.free 8
 have r0_f9 := r0.free 9
 have r0_f10 := r0.free 10
 have r0_f11 := r0.free 11
 have r0_f12 := r0.free 12
 have r0_f13 := r0.free 13
 have r0_f14 := r0.free 14
 have r0_f15 := r0.free 15
 have r0_f16 := r0.free 16
 go_wp2_with fail
 ((with_reducible refine (ref9_int (n := 1) (by omega) _).mono ?_))
 rintro e W1 ⟨V1, rfl, o, u1⟩
 replace r0 := r0.up u1
 replace UP := UP.trans u1
 clear r0_0 r0_1 r0_2 r0_3 r0_4 r0_5 r0_6 r0_7 r0_8 r0_9 r0_10 r0_11 r0_12 r0_13 r0_14 r0_15 r0_16
 have r0_0 := r0.cell (i := 0) rfl
 have r0_1 := r0.cell (i := 1) rfl
 have r0_2 := r0.cell (i := 2) rfl
 have r0_3 := r0.cell (i := 3) rfl
 have r0_4 := r0.cell (i := 4) rfl
 have r0_5 := r0.cell (i := 5) rfl
 have r0_6 := r0.cell (i := 6) rfl
 have r0_7 := r0.cell (i := 7) rfl
 have r0_8 := r0.cell (i := 8) rfl
 have r0_9 := r0.cell (i := 9) rfl
 have r0_10 := r0.cell (i := 10) rfl
 have r0_11 := r0.cell (i := 11) rfl
 have r0_12 := r0.cell (i := 12) rfl
 have r0_13 := r0.cell (i := 13) rfl
 have r0_14 := r0.cell (i := 14) rfl
 have r0_15 := r0.cell (i := 15) rfl
 have r0_16 := r0.cell (i := 16) rfl
 replace r0_f0 := r0.free 0
 replace r0_f1 := r0.free 1
 replace r0_f2 := r0.free 2
 replace r0_f3 := r0.free 3
 replace r0_f4 := r0.free 4
 replace r0_f5 := r0.free 5
 replace r0_f6 := r0.free 6
 replace r0_f7 := r0.free 7
 replace r0_f8 := r0.free 8
 replace r0_f9 := r0.free 9
 replace r0_f10 := r0.free 10
 replace r0_f11 := r0.free 11
 replace r0_f12 := r0.free 12
 replace r0_f13 := r0.free 13
 replace r0_f14 := r0.free 14
 replace r0_f15 := r0.free 15
 replace r0_f16 := r0.free 16
 clear u1
 rw [HP1.out] at o
 obtain ⟨Xo, Yo, rfl, o, od⟩ := o
 obtain ⟨Ao, no, co, rfl⟩ := o.shape
 obtain ⟨Aod, nod, cod, rfl⟩ := od.shape
 have r0_0a := fun O0 => (cell_alloc (o := O0) r0_0)
 have r0_f0a := fun O0 => (r0.up ((Up.refl W1).alloc O0)).free 0
 have r0_1a := fun O0 => (cell_alloc (o := O0) r0_1)
 have r0_f1a := fun O0 => (r0.up ((Up.refl W1).alloc O0)).free 1
 have r0_2a := fun O0 => (cell_alloc (o := O0) r0_2)
 have r0_f2a := fun O0 => (r0.up ((Up.refl W1).alloc O0)).free 2
 have r0_3a := fun O0 => (cell_alloc (o := O0) r0_3)
 have r0_f3a := fun O0 => (r0.up ((Up.refl W1).alloc O0)).free 3
 have r0_4a := fun O0 => (cell_alloc (o := O0) r0_4)
 have r0_f4a := fun O0 => (r0.up ((Up.refl W1).alloc O0)).free 4
 have r0_5a := fun O0 => (cell_alloc (o := O0) r0_5)
 have r0_f5a := fun O0 => (r0.up ((Up.refl W1).alloc O0)).free 5
 have r0_6a := fun O0 => (cell_alloc (o := O0) r0_6)
 have r0_f6a := fun O0 => (r0.up ((Up.refl W1).alloc O0)).free 6
 have r0_7a := fun O0 => (cell_alloc (o := O0) r0_7)
 have r0_f7a := fun O0 => (r0.up ((Up.refl W1).alloc O0)).free 7
 have r0_8a := fun O0 => (cell_alloc (o := O0) r0_8)
 have r0_f8a := fun O0 => (r0.up ((Up.refl W1).alloc O0)).free 8
 have r0_9a := fun O0 => (cell_alloc (o := O0) r0_9)
 have r0_f9a := fun O0 => (r0.up ((Up.refl W1).alloc O0)).free 9
 have r0_10a := fun O0 => (cell_alloc (o := O0) r0_10)
 have r0_f10a := fun O0 => (r0.up ((Up.refl W1).alloc O0)).free 10
 have r0_11a := fun O0 => (cell_alloc (o := O0) r0_11)
 have r0_f11a := fun O0 => (r0.up ((Up.refl W1).alloc O0)).free 11
 have r0_12a := fun O0 => (cell_alloc (o := O0) r0_12)
 have r0_f12a := fun O0 => (r0.up ((Up.refl W1).alloc O0)).free 12
 have r0_13a := fun O0 => (cell_alloc (o := O0) r0_13)
 have r0_f13a := fun O0 => (r0.up ((Up.refl W1).alloc O0)).free 13
 have r0_14a := fun O0 => (cell_alloc (o := O0) r0_14)
 have r0_f14a := fun O0 => (r0.up ((Up.refl W1).alloc O0)).free 14
 have r0_15a := fun O0 => (cell_alloc (o := O0) r0_15)
 have r0_f15a := fun O0 => (r0.up ((Up.refl W1).alloc O0)).free 15
 have r0_16a := fun O0 => (cell_alloc (o := O0) r0_16)
 have r0_f16a := fun O0 => (r0.up ((Up.refl W1).alloc O0)).free 16
 go_wp2_with fail
 clear r0_0a r0_f0a r0_1a r0_f1a r0_2a r0_f2a r0_3a r0_f3a r0_4a r0_f4a r0_5a r0_f5a r0_6a r0_f6a r0_7a r0_f7a r0_8a r0_f8a r0_9a r0_f9a r0_10a r0_f10a r0_11a r0_f11a r0_12a r0_f12a r0_13a r0_f13a r0_14a r0_f14a r0_15a r0_f15a r0_16a r0_f16a
 have x1 := Bx.new 24 W1 [.bool (Wd.ngb P1.num), .slice Ao no co, .slice Aod nod cod]
 have r0_lt_x1 := r0.lt
 replace o := o.up ((Up.refl W1).alloc (.cells #[.bool (Wd.ngb P1.num), .slice Ao no co, .slice Aod nod cod] 24))
 replace od := od.up ((Up.refl W1).alloc (.cells #[.bool (Wd.ngb P1.num), .slice Ao no co, .slice Aod nod cod] 24))
 replace r0 := r0.up ((Up.refl W1).alloc (.cells #[.bool (Wd.ngb P1.num), .slice Ao no co, .slice Aod nod cod] 24))
 replace UP := UP.trans ((Up.refl W1).alloc (.cells #[.bool (Wd.ngb P1.num), .slice Ao no co, .slice Aod nod cod] 24))
 generalize (W1.alloc (.cells #[.bool (Wd.ngb P1.num), .slice Ao no co, .slice Aod nod cod] 24)) = W2 at *
 clear r0_0 r0_1 r0_2 r0_3 r0_4 r0_5 r0_6 r0_7 r0_8 r0_9 r0_10 r0_11 r0_12 r0_13 r0_14 r0_15 r0_16
 have r0_0 := r0.cell (i := 0) rfl
 have r0_1 := r0.cell (i := 1) rfl
 have r0_2 := r0.cell (i := 2) rfl
 have r0_3 := r0.cell (i := 3) rfl
 have r0_4 := r0.cell (i := 4) rfl
 have r0_5 := r0.cell (i := 5) rfl
 have r0_6 := r0.cell (i := 6) rfl
 have r0_7 := r0.cell (i := 7) rfl
 have r0_8 := r0.cell (i := 8) rfl
 have r0_9 := r0.cell (i := 9) rfl
 have r0_10 := r0.cell (i := 10) rfl
 have r0_11 := r0.cell (i := 11) rfl
 have r0_12 := r0.cell (i := 12) rfl
 have r0_13 := r0.cell (i := 13) rfl
 have r0_14 := r0.cell (i := 14) rfl
 have r0_15 := r0.cell (i := 15) rfl
 have r0_16 := r0.cell (i := 16) rfl
 replace r0_f0 := r0.free 0
 replace r0_f1 := r0.free 1
 replace r0_f2 := r0.free 2
 replace r0_f3 := r0.free 3
 replace r0_f4 := r0.free 4
 replace r0_f5 := r0.free 5
 replace r0_f6 := r0.free 6
 replace r0_f7 := r0.free 7
 replace r0_f8 := r0.free 8
 replace r0_f9 := r0.free 9
 replace r0_f10 := r0.free 10
 replace r0_f11 := r0.free 11
 replace r0_f12 := r0.free 12
 replace r0_f13 := r0.free 13
 replace r0_f14 := r0.free 14
 replace r0_f15 := r0.free 15
 replace r0_f16 := r0.free 16
 obtain ⟨x1_0, x1_1, x1_2⟩ := x1.c3
 go_wp2_with fail
 replace o := o.up (Up.refl W2).drew
 replace od := od.up (Up.refl W2).drew
 replace r0 := r0.up (Up.refl W2).drew
 replace x1 := x1.up (Up.refl W2).drew
 replace UP := UP.trans (Up.refl W2).drew
 clear x1_0 x1_1 x1_2
 have r0_0 := r0.cell (i := 0) rfl
 have r0_1 := r0.cell (i := 1) rfl
 have r0_2 := r0.cell (i := 2) rfl
 have r0_3 := r0.cell (i := 3) rfl
 have r0_4 := r0.cell (i := 4) rfl
 have r0_5 := r0.cell (i := 5) rfl
 have r0_6 := r0.cell (i := 6) rfl
 have r0_7 := r0.cell (i := 7) rfl
 have r0_8 := r0.cell (i := 8) rfl
 have r0_9 := r0.cell (i := 9) rfl
 have r0_10 := r0.cell (i := 10) rfl
 have r0_11 := r0.cell (i := 11) rfl
 have r0_12 := r0.cell (i := 12) rfl
 have r0_13 := r0.cell (i := 13) rfl
 have r0_14 := r0.cell (i := 14) rfl
 have r0_15 := r0.cell (i := 15) rfl
 have r0_16 := r0.cell (i := 16) rfl
 have r0_f0 := r0.free 0
 have r0_f1 := r0.free 1
 have r0_f2 := r0.free 2
 have r0_f3 := r0.free 3
 have r0_f4 := r0.free 4
 have r0_f5 := r0.free 5
 have r0_f6 := r0.free 6
 have r0_f7 := r0.free 7
 have r0_f8 := r0.free 8
 have r0_f9 := r0.free 9
 have r0_f10 := r0.free 10
 have r0_f11 := r0.free 11
 have r0_f12 := r0.free 12
 have r0_f13 := r0.free 13
 have r0_f14 := r0.free 14
 have r0_f15 := r0.free 15
 have r0_f16 := r0.free 16
 obtain ⟨x1_0, x1_1, x1_2⟩ := x1.c3
 refine wp_region_noPanic ?_
 refine wp_region_held_drew (S := fun w' => Up w w' ∧ w'.cell? ⟨W1.heap.size, 0, none⟩ = some (.bool (Wd.ngb P1.num)) ∧ w'.cell? ⟨W1.heap.size, 1, none⟩ = some (.slice Ao no co) ∧ w'.cell? ⟨W1.heap.size, 2, none⟩ = some (.slice Aod nod cod)) (by kernel_rfl) ?_ (fun hHeld => ?_)
 · with_reducible exact ⟨UP, x1_0, x1_1, x1_2⟩
 refine wpAnyH_take (i := 0) (v := ?_) rfl (by kernel_rfl) (by kernel_rfl) (by kernel_rfl) (fun _ _ _ h => h) (Or.inl ⟨by rfl, ?_⟩) (by assumption) ?_
 rotate_left
 · (intro w hSw; (try dsimp only at hSw); go_simp; first | done | with_reducible rfl)
 try simp only [List.getElem_toArray, List.getElem_cons_zero, List.getElem_cons_succ, Act.put, List.setIfInBounds_toArray, List.set_cons_zero, List.set_cons_succ]
 refine wpAnyH_take (i := 6) (v := ?_) rfl (by kernel_rfl) (by kernel_rfl) (by kernel_rfl) (fun _ _ _ h => h) (Or.inl ⟨by rfl, ?_⟩) (by assumption) ?_
 rotate_left
 · (intro w hSw; (try dsimp only at hSw); go_simp; first | done | with_reducible rfl)
 try simp only [List.getElem_toArray, List.getElem_cons_zero, List.getElem_cons_succ, Act.put, List.setIfInBounds_toArray, List.set_cons_zero, List.set_cons_succ]
 refine wpAnyH_take (i := 10) (v := ?_) rfl (by kernel_rfl) (by kernel_rfl) (by kernel_rfl) (fun _ _ _ h => h) (Or.inl ⟨by rfl, ?_⟩) (by assumption) ?_
 rotate_left
 · (intro w hSw; (try dsimp only at hSw); go_simp; first | done | with_reducible rfl)
 try simp only [List.getElem_toArray, List.getElem_cons_zero, List.getElem_cons_succ, Act.put, List.setIfInBounds_toArray, List.set_cons_zero, List.set_cons_succ]
 refine wpAnyH_ready (rs := [1]) (by kernel_rfl) (by simp) ?_
 refine AllReadyH.cons rfl (fun K hK => ?_) AllReadyH.nil
 go_simp
 (first
   | (go_at_call 65
      ((with_reducible refine (ref9_int (n := 1000) (by omega) _).mono ?_))
      rintro e W3 ⟨V3, rfl, a1, u3⟩
      replace o := o.up u3
      replace od := od.up u3
      try (replace a1 := a1.up u3)
      try (replace a := a.up u3)
      try (replace b1 := b1.up u3)
      try (replace b2 := b2.up u3)
      try (replace b := b.up u3)
      try (replace p1 := p1.up u3)
      try (replace p := p.up u3)
      try (replace q := q.up u3)
      try (replace t1 := t1.up u3)
      try (replace t := t.up u3)
      replace r0 := r0.up u3
      replace x1 := x1.up u3
      replace UP := UP.trans u3
      clear r0_0 r0_1 r0_2 r0_3 r0_4 r0_5 r0_6 r0_7 r0_8 r0_9 r0_10 r0_11 r0_12 r0_13 r0_14 r0_15 r0_16 x1_0 x1_1 x1_2
      have r0_0 := r0.cell (i := 0) rfl
      have r0_1 := r0.cell (i := 1) rfl
      have r0_2 := r0.cell (i := 2) rfl
      have r0_3 := r0.cell (i := 3) rfl
      have r0_4 := r0.cell (i := 4) rfl
      have r0_5 := r0.cell (i := 5) rfl
      have r0_6 := r0.cell (i := 6) rfl
      have r0_7 := r0.cell (i := 7) rfl
      have r0_8 := r0.cell (i := 8) rfl
      have r0_9 := r0.cell (i := 9) rfl
      have r0_10 := r0.cell (i := 10) rfl
      have r0_11 := r0.cell (i := 11) rfl
      have r0_12 := r0.cell (i := 12) rfl
      have r0_13 := r0.cell (i := 13) rfl
      have r0_14 := r0.cell (i := 14) rfl
      have r0_15 := r0.cell (i := 15) rfl
      have r0_16 := r0.cell (i := 16) rfl
      replace r0_f0 := r0.free 0
      replace r0_f1 := r0.free 1
      replace r0_f2 := r0.free 2
      replace r0_f3 := r0.free 3
      replace r0_f4 := r0.free 4
      replace r0_f5 := r0.free 5
      replace r0_f6 := r0.free 6
      replace r0_f7 := r0.free 7
      replace r0_f8 := r0.free 8
      replace r0_f9 := r0.free 9
      replace r0_f10 := r0.free 10
      replace r0_f11 := r0.free 11
      replace r0_f12 := r0.free 12
      replace r0_f13 := r0.free 13
      replace r0_f14 := r0.free 14
      replace r0_f15 := r0.free 15
      replace r0_f16 := r0.free 16
      obtain ⟨x1_0, x1_1, x1_2⟩ := x1.c3
      clear u3))
 try go_wp2_with fail
 try clear hHeld
 refine hK.out _ _ ?_ (fun hHeld => ?_)
 · with_reducible exact ⟨UP, x1_0, x1_1, x1_2⟩
 clear hK K
 try simp only [List.getElem_toArray, List.getElem_cons_zero, List.getElem_cons_succ, Act.put, List.setIfInBounds_toArray, List.set_cons_zero, List.set_cons_succ]
 refine wpAnyH_ready (rs := [2]) (by kernel_rfl) (by simp) ?_
 refine AllReadyH.cons rfl (fun K hK => ?_) AllReadyH.nil
 go_simp
 (first
   | (go_at_call 100
      ((with_reducible refine (ref9_quo (qw_of2 o od) a1 LO L2 (by omega) (by omega)).mono ?_))
      rintro e W4 ⟨V4, rfl, a, u4⟩
      replace o := o.up u4
      replace od := od.up u4
      try (replace a1 := a1.up u4)
      try (replace a := a.up u4)
      try (replace b1 := b1.up u4)
      try (replace b2 := b2.up u4)
      try (replace b := b.up u4)
      try (replace p1 := p1.up u4)
      try (replace p := p.up u4)
      try (replace q := q.up u4)
      try (replace t1 := t1.up u4)
      try (replace t := t.up u4)
      replace r0 := r0.up u4
      replace x1 := x1.up u4
      replace UP := UP.trans u4
      clear r0_0 r0_1 r0_2 r0_3 r0_4 r0_5 r0_6 r0_7 r0_8 r0_9 r0_10 r0_11 r0_12 r0_13 r0_14 r0_15 r0_16 x1_0 x1_1 x1_2
      have r0_0 := r0.cell (i := 0) rfl
      have r0_1 := r0.cell (i := 1) rfl
      have r0_2 := r0.cell (i := 2) rfl
      have r0_3 := r0.cell (i := 3) rfl
      have r0_4 := r0.cell (i := 4) rfl
      have r0_5 := r0.cell (i := 5) rfl
      have r0_6 := r0.cell (i := 6) rfl
      have r0_7 := r0.cell (i := 7) rfl
      have r0_8 := r0.cell (i := 8) rfl
      have r0_9 := r0.cell (i := 9) rfl
      have r0_10 := r0.cell (i := 10) rfl
      have r0_11 := r0.cell (i := 11) rfl
      have r0_12 := r0.cell (i := 12) rfl
      have r0_13 := r0.cell (i := 13) rfl
      have r0_14 := r0.cell (i := 14) rfl
      have r0_15 := r0.cell (i := 15) rfl
      have r0_16 := r0.cell (i := 16) rfl
      replace r0_f0 := r0.free 0
      replace r0_f1 := r0.free 1
      replace r0_f2 := r0.free 2
      replace r0_f3 := r0.free 3
      replace r0_f4 := r0.free 4
      replace r0_f5 := r0.free 5
      replace r0_f6 := r0.free 6
      replace r0_f7 := r0.free 7
      replace r0_f8 := r0.free 8
      replace r0_f9 := r0.free 9
      replace r0_f10 := r0.free 10
      replace r0_f11 := r0.free 11
      replace r0_f12 := r0.free 12
      replace r0_f13 := r0.free 13
      replace r0_f14 := r0.free 14
      replace r0_f15 := r0.free 15
      replace r0_f16 := r0.free 16
      obtain ⟨x1_0, x1_1, x1_2⟩ := x1.c3
      clear u4
      rw [H1.out] at a))
 try go_wp2_with fail
 try clear hHeld
 refine hK.out _ _ ?_ (fun hHeld => ?_)
 · with_reducible exact ⟨UP, x1_0, x1_1, x1_2⟩
 clear hK K
 try simp only [List.getElem_toArray, List.getElem_cons_zero, List.getElem_cons_succ, Act.put, List.setIfInBounds_toArray, List.set_cons_zero, List.set_cons_succ]
 refine wpAnyH_ready (rs := [3]) (by kernel_rfl) (by simp) ?_
 refine AllReadyH.cons rfl (fun K hK => ?_) AllReadyH.nil
 go_simp
 (first
   | (go_at_call 65
      ((with_reducible refine (ref9_int (n := 9) (by omega) _).mono ?_))
      rintro e W5 ⟨V5, rfl, b1, u5⟩
      replace o := o.up u5
      replace od := od.up u5
      try (replace a1 := a1.up u5)
      try (replace a := a.up u5)
      try (replace b1 := b1.up u5)
      try (replace b2 := b2.up u5)
      try (replace b := b.up u5)
      try (replace p1 := p1.up u5)
      try (replace p := p.up u5)
      try (replace q := q.up u5)
      try (replace t1 := t1.up u5)
      try (replace t := t.up u5)
      replace r0 := r0.up u5
      replace x1 := x1.up u5
      replace UP := UP.trans u5
      clear r0_0 r0_1 r0_2 r0_3 r0_4 r0_5 r0_6 r0_7 r0_8 r0_9 r0_10 r0_11 r0_12 r0_13 r0_14 r0_15 r0_16 x1_0 x1_1 x1_2
      have r0_0 := r0.cell (i := 0) rfl
      have r0_1 := r0.cell (i := 1) rfl
      have r0_2 := r0.cell (i := 2) rfl
      have r0_3 := r0.cell (i := 3) rfl
      have r0_4 := r0.cell (i := 4) rfl
      have r0_5 := r0.cell (i := 5) rfl
      have r0_6 := r0.cell (i := 6) rfl
      have r0_7 := r0.cell (i := 7) rfl
      have r0_8 := r0.cell (i := 8) rfl
      have r0_9 := r0.cell (i := 9) rfl
      have r0_10 := r0.cell (i := 10) rfl
      have r0_11 := r0.cell (i := 11) rfl
      have r0_12 := r0.cell (i := 12) rfl
      have r0_13 := r0.cell (i := 13) rfl
      have r0_14 := r0.cell (i := 14) rfl
      have r0_15 := r0.cell (i := 15) rfl
      have r0_16 := r0.cell (i := 16) rfl
      replace r0_f0 := r0.free 0
      replace r0_f1 := r0.free 1
      replace r0_f2 := r0.free 2
      replace r0_f3 := r0.free 3
      replace r0_f4 := r0.free 4
      replace r0_f5 := r0.free 5
      replace r0_f6 := r0.free 6
      replace r0_f7 := r0.free 7
      replace r0_f8 := r0.free 8
      replace r0_f9 := r0.free 9
      replace r0_f10 := r0.free 10
      replace r0_f11 := r0.free 11
      replace r0_f12 := r0.free 12
      replace r0_f13 := r0.free 13
      replace r0_f14 := r0.free 14
      replace r0_f15 := r0.free 15
      replace r0_f16 := r0.free 16
      obtain ⟨x1_0, x1_1, x1_2⟩ := x1.c3
      clear u5))
 try go_wp2_with fail
 try clear hHeld
 refine hK.out _ _ ?_ (fun hHeld => ?_)
 · with_reducible exact ⟨UP, x1_0, x1_1, x1_2⟩
 clear hK K
 try simp only [List.getElem_toArray, List.getElem_cons_zero, List.getElem_cons_succ, Act.put, List.setIfInBounds_toArray, List.set_cons_zero, List.set_cons_succ]
 refine wpAnyH_ready (rs := [4]) (by kernel_rfl) (by simp) ?_
 refine AllReadyH.cons rfl (fun K hK => ?_) AllReadyH.nil
 go_simp
 (first
   | (go_at_call 65
      ((with_reducible refine (ref9_int (n := 10) (by omega) _).mono ?_))
      rintro e W6 ⟨V6, rfl, b2, u6⟩
      replace o := o.up u6
      replace od := od.up u6
      try (replace a1 := a1.up u6)
      try (replace a := a.up u6)
      try (replace b1 := b1.up u6)
      try (replace b2 := b2.up u6)
      try (replace b := b.up u6)
      try (replace p1 := p1.up u6)
      try (replace p := p.up u6)
      try (replace q := q.up u6)
      try (replace t1 := t1.up u6)
      try (replace t := t.up u6)
      replace r0 := r0.up u6
      replace x1 := x1.up u6
      replace UP := UP.trans u6
      clear r0_0 r0_1 r0_2 r0_3 r0_4 r0_5 r0_6 r0_7 r0_8 r0_9 r0_10 r0_11 r0_12 r0_13 r0_14 r0_15 r0_16 x1_0 x1_1 x1_2
      have r0_0 := r0.cell (i := 0) rfl
      have r0_1 := r0.cell (i := 1) rfl
      have r0_2 := r0.cell (i := 2) rfl
      have r0_3 := r0.cell (i := 3) rfl
      have r0_4 := r0.cell (i := 4) rfl
      have r0_5 := r0.cell (i := 5) rfl
      have r0_6 := r0.cell (i := 6) rfl
      have r0_7 := r0.cell (i := 7) rfl
      have r0_8 := r0.cell (i := 8) rfl
      have r0_9 := r0.cell (i := 9) rfl
      have r0_10 := r0.cell (i := 10) rfl
      have r0_11 := r0.cell (i := 11) rfl
      have r0_12 := r0.cell (i := 12) rfl
      have r0_13 := r0.cell (i := 13) rfl
      have r0_14 := r0.cell (i := 14) rfl
      have r0_15 := r0.cell (i := 15) rfl
      have r0_16 := r0.cell (i := 16) rfl
      replace r0_f0 := r0.free 0
      replace r0_f1 := r0.free 1
      replace r0_f2 := r0.free 2
      replace r0_f3 := r0.free 3
      replace r0_f4 := r0.free 4
      replace r0_f5 := r0.free 5
      replace r0_f6 := r0.free 6
      replace r0_f7 := r0.free 7
      replace r0_f8 := r0.free 8
      replace r0_f9 := r0.free 9
      replace r0_f10 := r0.free 10
      replace r0_f11 := r0.free 11
      replace r0_f12 := r0.free 12
      replace r0_f13 := r0.free 13
      replace r0_f14 := r0.free 14
      replace r0_f15 := r0.free 15
      replace r0_f16 := r0.free 16
      obtain ⟨x1_0, x1_1, x1_2⟩ := x1.c3
      clear u6))
 try go_wp2_with fail
 try clear hHeld
 refine hK.out _ _ ?_ (fun hHeld => ?_)
 · with_reducible exact ⟨UP, x1_0, x1_1, x1_2⟩
 clear hK K
 try simp only [List.getElem_toArray, List.getElem_cons_zero, List.getElem_cons_succ, Act.put, List.setIfInBounds_toArray, List.set_cons_zero, List.set_cons_succ]
 refine wpAnyH_ready (rs := [5]) (by kernel_rfl) (by simp) ?_
 refine AllReadyH.cons rfl (fun K hK => ?_) AllReadyH.nil
 go_simp
 (first
   | (go_at_call 100
      ((with_reducible refine (ref9_quo b1 b2 L3 L4 (by omega) (by omega)).mono ?_))
      rintro e W7 ⟨V7, rfl, b, u7⟩
      replace o := o.up u7
      replace od := od.up u7
      try (replace a1 := a1.up u7)
      try (replace a := a.up u7)
      try (replace b1 := b1.up u7)
      try (replace b2 := b2.up u7)
      try (replace b := b.up u7)
      try (replace p1 := p1.up u7)
      try (replace p := p.up u7)
      try (replace q := q.up u7)
      try (replace t1 := t1.up u7)
      try (replace t := t.up u7)
      replace r0 := r0.up u7
      replace x1 := x1.up u7
      replace UP := UP.trans u7
      clear r0_0 r0_1 r0_2 r0_3 r0_4 r0_5 r0_6 r0_7 r0_8 r0_9 r0_10 r0_11 r0_12 r0_13 r0_14 r0_15 r0_16 x1_0 x1_1 x1_2
      have r0_0 := r0.cell (i := 0) rfl
      have r0_1 := r0.cell (i := 1) rfl
      have r0_2 := r0.cell (i := 2) rfl
      have r0_3 := r0.cell (i := 3) rfl
      have r0_4 := r0.cell (i := 4) rfl
      have r0_5 := r0.cell (i := 5) rfl
      have r0_6 := r0.cell (i := 6) rfl
      have r0_7 := r0.cell (i := 7) rfl
      have r0_8 := r0.cell (i := 8) rfl
      have r0_9 := r0.cell (i := 9) rfl
      have r0_10 := r0.cell (i := 10) rfl
      have r0_11 := r0.cell (i := 11) rfl
      have r0_12 := r0.cell (i := 12) rfl
      have r0_13 := r0.cell (i := 13) rfl
      have r0_14 := r0.cell (i := 14) rfl
      have r0_15 := r0.cell (i := 15) rfl
      have r0_16 := r0.cell (i := 16) rfl
      replace r0_f0 := r0.free 0
      replace r0_f1 := r0.free 1
      replace r0_f2 := r0.free 2
      replace r0_f3 := r0.free 3
      replace r0_f4 := r0.free 4
      replace r0_f5 := r0.free 5
      replace r0_f6 := r0.free 6
      replace r0_f7 := r0.free 7
      replace r0_f8 := r0.free 8
      replace r0_f9 := r0.free 9
      replace r0_f10 := r0.free 10
      replace r0_f11 := r0.free 11
      replace r0_f12 := r0.free 12
      replace r0_f13 := r0.free 13
      replace r0_f14 := r0.free 14
      replace r0_f15 := r0.free 15
      replace r0_f16 := r0.free 16
      obtain ⟨x1_0, x1_1, x1_2⟩ := x1.c3
      clear u7
      rw [H2.out] at b))
 try go_wp2_with fail
 try clear hHeld
 refine hK.out _ _ ?_ (fun hHeld => ?_)
 · with_reducible exact ⟨UP, x1_0, x1_1, x1_2⟩
 clear hK K
 try simp only [List.getElem_toArray, List.getElem_cons_zero, List.getElem_cons_succ, Act.put, List.setIfInBounds_toArray, List.set_cons_zero, List.set_cons_succ]
 refine wpAnyH_ready (rs := [7]) (by kernel_rfl) (by simp) ?_
 refine AllReadyH.cons rfl (fun K hK => ?_) AllReadyH.nil
 go_simp
 (first
   | (go_at_call 65
      ((with_reducible refine (ref9_int (n := 5) (by omega) _).mono ?_))
      rintro e W8 ⟨V8, rfl, p1, u8⟩
      replace o := o.up u8
      replace od := od.up u8
      try (replace a1 := a1.up u8)
      try (replace a := a.up u8)
      try (replace b1 := b1.up u8)
      try (replace b2 := b2.up u8)
      try (replace b := b.up u8)
      try (replace p1 := p1.up u8)
      try (replace p := p.up u8)
      try (replace q := q.up u8)
      try (replace t1 := t1.up u8)
      try (replace t := t.up u8)
      replace r0 := r0.up u8
      replace x1 := x1.up u8
      replace UP := UP.trans u8
      clear r0_0 r0_1 r0_2 r0_3 r0_4 r0_5 r0_6 r0_7 r0_8 r0_9 r0_10 r0_11 r0_12 r0_13 r0_14 r0_15 r0_16 x1_0 x1_1 x1_2
      have r0_0 := r0.cell (i := 0) rfl
      have r0_1 := r0.cell (i := 1) rfl
      have r0_2 := r0.cell (i := 2) rfl
      have r0_3 := r0.cell (i := 3) rfl
      have r0_4 := r0.cell (i := 4) rfl
      have r0_5 := r0.cell (i := 5) rfl
      have r0_6 := r0.cell (i := 6) rfl
      have r0_7 := r0.cell (i := 7) rfl
      have r0_8 := r0.cell (i := 8) rfl
      have r0_9 := r0.cell (i := 9) rfl
      have r0_10 := r0.cell (i := 10) rfl
      have r0_11 := r0.cell (i := 11) rfl
      have r0_12 := r0.cell (i := 12) rfl
      have r0_13 := r0.cell (i := 13) rfl
      have r0_14 := r0.cell (i := 14) rfl
      have r0_15 := r0.cell (i := 15) rfl
      have r0_16 := r0.cell (i := 16) rfl
      replace r0_f0 := r0.free 0
      replace r0_f1 := r0.free 1
      replace r0_f2 := r0.free 2
      replace r0_f3 := r0.free 3
      replace r0_f4 := r0.free 4
      replace r0_f5 := r0.free 5
      replace r0_f6 := r0.free 6
      replace r0_f7 := r0.free 7
      replace r0_f8 := r0.free 8
      replace r0_f9 := r0.free 9
      replace r0_f10 := r0.free 10
      replace r0_f11 := r0.free 11
      replace r0_f12 := r0.free 12
      replace r0_f13 := r0.free 13
      replace r0_f14 := r0.free 14
      replace r0_f15 := r0.free 15
      replace r0_f16 := r0.free 16
      obtain ⟨x1_0, x1_1, x1_2⟩ := x1.c3
      clear u8))
 try go_wp2_with fail
 try clear hHeld
 refine hK.out _ _ ?_ (fun hHeld => ?_)
 · with_reducible exact ⟨UP, x1_0, x1_1, x1_2⟩
 clear hK K
 try simp only [List.getElem_toArray, List.getElem_cons_zero, List.getElem_cons_succ, Act.put, List.setIfInBounds_toArray, List.set_cons_zero, List.set_cons_succ]
 refine wpAnyH_ready (rs := [8]) (by kernel_rfl) (by simp) ?_
 refine AllReadyH.cons rfl (fun K hK => ?_) AllReadyH.nil
 go_simp
 (first
   | (go_at_call 100
      ((with_reducible refine (ref9_quo (qw_of2 o od) p1 LO L5 (by omega) (by omega)).mono ?_))
      rintro e W9 ⟨V9, rfl, p, u9⟩
      replace o := o.up u9
      replace od := od.up u9
      try (replace a1 := a1.up u9)
      try (replace a := a.up u9)
      try (replace b1 := b1.up u9)
      try (replace b2 := b2.up u9)
      try (replace b := b.up u9)
      try (replace p1 := p1.up u9)
      try (replace p := p.up u9)
      try (replace q := q.up u9)
      try (replace t1 := t1.up u9)
      try (replace t := t.up u9)
      replace r0 := r0.up u9
      replace x1 := x1.up u9
      replace UP := UP.trans u9
      clear r0_0 r0_1 r0_2 r0_3 r0_4 r0_5 r0_6 r0_7 r0_8 r0_9 r0_10 r0_11 r0_12 r0_13 r0_14 r0_15 r0_16 x1_0 x1_1 x1_2
      have r0_0 := r0.cell (i := 0) rfl
      have r0_1 := r0.cell (i := 1) rfl
      have r0_2 := r0.cell (i := 2) rfl
      have r0_3 := r0.cell (i := 3) rfl
      have r0_4 := r0.cell (i := 4) rfl
      have r0_5 := r0.cell (i := 5) rfl
      have r0_6 := r0.cell (i := 6) rfl
      have r0_7 := r0.cell (i := 7) rfl
      have r0_8 := r0.cell (i := 8) rfl
      have r0_9 := r0.cell (i := 9) rfl
      have r0_10 := r0.cell (i := 10) rfl
      have r0_11 := r0.cell (i := 11) rfl
      have r0_12 := r0.cell (i := 12) rfl
      have r0_13 := r0.cell (i := 13) rfl
      have r0_14 := r0.cell (i := 14) rfl
      have r0_15 := r0.cell (i := 15) rfl
      have r0_16 := r0.cell (i := 16) rfl
      replace r0_f0 := r0.free 0
      replace r0_f1 := r0.free 1
      replace r0_f2 := r0.free 2
      replace r0_f3 := r0.free 3
      replace r0_f4 := r0.free 4
      replace r0_f5 := r0.free 5
      replace r0_f6 := r0.free 6
      replace r0_f7 := r0.free 7
      replace r0_f8 := r0.free 8
      replace r0_f9 := r0.free 9
      replace r0_f10 := r0.free 10
      replace r0_f11 := r0.free 11
      replace r0_f12 := r0.free 12
      replace r0_f13 := r0.free 13
      replace r0_f14 := r0.free 14
      replace r0_f15 := r0.free 15
      replace r0_f16 := r0.free 16
      obtain ⟨x1_0, x1_1, x1_2⟩ := x1.c3
      clear u9
      rw [H3.out] at p))
 try go_wp2_with fail
 try clear hHeld
 refine hK.out _ _ ?_ (fun hHeld => ?_)
 · with_reducible exact ⟨UP, x1_0, x1_1, x1_2⟩
 clear hK K
 try simp only [List.getElem_toArray, List.getElem_cons_zero, List.getElem_cons_succ, Act.put, List.setIfInBounds_toArray, List.set_cons_zero, List.set_cons_succ]
 refine wpAnyH_ready (rs := [9]) (by kernel_rfl) (by simp) ?_
 refine AllReadyH.cons rfl (fun K hK => ?_) AllReadyH.nil
 go_simp
 (first
   | (go_at_call 65
      ((with_reducible refine (ref9_int (n := 5) (by omega) _).mono ?_))
      rintro e W10 ⟨V10, rfl, q, u10⟩
      replace o := o.up u10
      replace od := od.up u10
      try (replace a1 := a1.up u10)
      try (replace a := a.up u10)
      try (replace b1 := b1.up u10)
      try (replace b2 := b2.up u10)
      try (replace b := b.up u10)
      try (replace p1 := p1.up u10)
      try (replace p := p.up u10)
      try (replace q := q.up u10)
      try (replace t1 := t1.up u10)
      try (replace t := t.up u10)
      replace r0 := r0.up u10
      replace x1 := x1.up u10
      replace UP := UP.trans u10
      clear r0_0 r0_1 r0_2 r0_3 r0_4 r0_5 r0_6 r0_7 r0_8 r0_9 r0_10 r0_11 r0_12 r0_13 r0_14 r0_15 r0_16 x1_0 x1_1 x1_2
      have r0_0 := r0.cell (i := 0) rfl
      have r0_1 := r0.cell (i := 1) rfl
      have r0_2 := r0.cell (i := 2) rfl
      have r0_3 := r0.cell (i := 3) rfl
      have r0_4 := r0.cell (i := 4) rfl
      have r0_5 := r0.cell (i := 5) rfl
      have r0_6 := r0.cell (i := 6) rfl
      have r0_7 := r0.cell (i := 7) rfl
      have r0_8 := r0.cell (i := 8) rfl
      have r0_9 := r0.cell (i := 9) rfl
      have r0_10 := r0.cell (i := 10) rfl
      have r0_11 := r0.cell (i := 11) rfl
      have r0_12 := r0.cell (i := 12) rfl
      have r0_13 := r0.cell (i := 13) rfl
      have r0_14 := r0.cell (i := 14) rfl
      have r0_15 := r0.cell (i := 15) rfl
      have r0_16 := r0.cell (i := 16) rfl
      replace r0_f0 := r0.free 0
      replace r0_f1 := r0.free 1
      replace r0_f2 := r0.free 2
      replace r0_f3 := r0.free 3
      replace r0_f4 := r0.free 4
      replace r0_f5 := r0.free 5
      replace r0_f6 := r0.free 6
      replace r0_f7 := r0.free 7
      replace r0_f8 := r0.free 8
      replace r0_f9 := r0.free 9
      replace r0_f10 := r0.free 10
      replace r0_f11 := r0.free 11
      replace r0_f12 := r0.free 12
      replace r0_f13 := r0.free 13
      replace r0_f14 := r0.free 14
      replace r0_f15 := r0.free 15
      replace r0_f16 := r0.free 16
      obtain ⟨x1_0, x1_1, x1_2⟩ := x1.c3
      clear u10
      rw [H4.out] at q))
 try go_wp2_with fail
 try clear hHeld
 refine hK.out _ _ ?_ (fun hHeld => ?_)
 · with_reducible exact ⟨UP, x1_0, x1_1, x1_2⟩
 clear hK K
 try simp only [List.getElem_toArray, List.getElem_cons_zero, List.getElem_cons_succ, Act.put, List.setIfInBounds_toArray, List.set_cons_zero, List.set_cons_succ]
 refine wpAnyH_ready (rs := [11]) (by kernel_rfl) (by simp) ?_
 refine AllReadyH.cons rfl (fun K hK => ?_) AllReadyH.nil
 go_simp
 (first
   | (go_at_call 65
      ((with_reducible refine (ref9_int (n := 1000000) (by omega) _).mono ?_))
      rintro e W11 ⟨V11, rfl, t1, u11⟩
      replace o := o.up u11
      replace od := od.up u11
      try (replace a1 := a1.up u11)
      try (replace a := a.up u11)
      try (replace b1 := b1.up u11)
      try (replace b2 := b2.up u11)
      try (replace b := b.up u11)
      try (replace p1 := p1.up u11)
      try (replace p := p.up u11)
      try (replace q := q.up u11)
      try (replace t1 := t1.up u11)
      try (replace t := t.up u11)
      replace r0 := r0.up u11
      replace x1 := x1.up u11
      replace UP := UP.trans u11
      clear r0_0 r0_1 r0_2 r0_3 r0_4 r0_5 r0_6 r0_7 r0_8 r0_9 r0_10 r0_11 r0_12 r0_13 r0_14 r0_15 r0_16 x1_0 x1_1 x1_2
      have r0_0 := r0.cell (i := 0) rfl
      have r0_1 := r0.cell (i := 1) rfl
      have r0_2 := r0.cell (i := 2) rfl
      have r0_3 := r0.cell (i := 3) rfl
      have r0_4 := r0.cell (i := 4) rfl
      have r0_5 := r0.cell (i := 5) rfl
      have r0_6 := r0.cell (i := 6) rfl
      have r0_7 := r0.cell (i := 7) rfl
      have r0_8 := r0.cell (i := 8) rfl
      have r0_9 := r0.cell (i := 9) rfl
      have r0_10 := r0.cell (i := 10) rfl
      have r0_11 := r0.cell (i := 11) rfl
      have r0_12 := r0.cell (i := 12) rfl
      have r0_13 := r0.cell (i := 13) rfl
      have r0_14 := r0.cell (i := 14) rfl
      have r0_15 := r0.cell (i := 15) rfl
      have r0_16 := r0.cell (i := 16) rfl
      replace r0_f0 := r0.free 0
      replace r0_f1 := r0.free 1
      replace r0_f2 := r0.free 2
      replace r0_f3 := r0.free 3
      replace r0_f4 := r0.free 4
      replace r0_f5 := r0.free 5
      replace r0_f6 := r0.free 6
      replace r0_f7 := r0.free 7
      replace r0_f8 := r0.free 8
      replace r0_f9 := r0.free 9
      replace r0_f10 := r0.free 10
      replace r0_f11 := r0.free 11
      replace r0_f12 := r0.free 12
      replace r0_f13 := r0.free 13
      replace r0_f14 := r0.free 14
      replace r0_f15 := r0.free 15
      replace r0_f16 := r0.free 16
      obtain ⟨x1_0, x1_1, x1_2⟩ := x1.c3
      clear u11))
 try go_wp2_with fail
 try clear hHeld
 refine hK.out _ _ ?_ (fun hHeld => ?_)
 · with_reducible exact ⟨UP, x1_0, x1_1, x1_2⟩
 clear hK K
 try simp only [List.getElem_toArray, List.getElem_cons_zero, List.getElem_cons_succ, Act.put, List.setIfInBounds_toArray, List.set_cons_zero, List.set_cons_succ]
 refine wpAnyH_ready (rs := [12]) (by kernel_rfl) (by simp) ?_
 refine AllReadyH.cons rfl (fun K hK => ?_) AllReadyH.nil
 go_simp
 (first
   | (go_at_call 100
      ((with_reducible refine (ref9_quo (qw_of2 o od) t1 LO L6 (by omega) (by omega)).mono ?_))
      rintro e W12 ⟨V12, rfl, t, u12⟩
      replace o := o.up u12
      replace od := od.up u12
      try (replace a1 := a1.up u12)
      try (replace a := a.up u12)
      try (replace b1 := b1.up u12)
      try (replace b2 := b2.up u12)
      try (replace b := b.up u12)
      try (replace p1 := p1.up u12)
      try (replace p := p.up u12)
      try (replace q := q.up u12)
      try (replace t1 := t1.up u12)
      try (replace t := t.up u12)
      replace r0 := r0.up u12
      replace x1 := x1.up u12
      replace UP := UP.trans u12
      clear r0_0 r0_1 r0_2 r0_3 r0_4 r0_5 r0_6 r0_7 r0_8 r0_9 r0_10 r0_11 r0_12 r0_13 r0_14 r0_15 r0_16 x1_0 x1_1 x1_2
      have r0_0 := r0.cell (i := 0) rfl
      have r0_1 := r0.cell (i := 1) rfl
      have r0_2 := r0.cell (i := 2) rfl
      have r0_3 := r0.cell (i := 3) rfl
      have r0_4 := r0.cell (i := 4) rfl
      have r0_5 := r0.cell (i := 5) rfl
      have r0_6 := r0.cell (i := 6) rfl
      have r0_7 := r0.cell (i := 7) rfl
      have r0_8 := r0.cell (i := 8) rfl
      have r0_9 := r0.cell (i := 9) rfl
      have r0_10 := r0.cell (i := 10) rfl
      have r0_11 := r0.cell (i := 11) rfl
      have r0_12 := r0.cell (i := 12) rfl
      have r0_13 := r0.cell (i := 13) rfl
      have r0_14 := r0.cell (i := 14) rfl
      have r0_15 := r0.cell (i := 15) rfl
      have r0_16 := r0.cell (i := 16) rfl
      replace r0_f0 := r0.free 0
      replace r0_f1 := r0.free 1
      replace r0_f2 := r0.free 2
      replace r0_f3 := r0.free 3
      replace r0_f4 := r0.free 4
      replace r0_f5 := r0.free 5
      replace r0_f6 := r0.free 6
      replace r0_f7 := r0.free 7
      replace r0_f8 := r0.free 8
      replace r0_f9 := r0.free 9
      replace r0_f10 := r0.free 10
      replace r0_f11 := r0.free 11
      replace r0_f12 := r0.free 12
      replace r0_f13 := r0.free 13
      replace r0_f14 := r0.free 14
      replace r0_f15 := r0.free 15
      replace r0_f16 := r0.free 16
      obtain ⟨x1_0, x1_1, x1_2⟩ := x1.c3
      clear u12
      rw [H5.out] at t
      obtain ⟨Xa, Ya, rfl, a, ad⟩ := a
      obtain ⟨Aa, na, ca, rfl⟩ := a.shape
      obtain ⟨Aad, nad, cad, rfl⟩ := ad.shape
      obtain ⟨Xb, Yb, rfl, b, bd⟩ := b
      obtain ⟨Ab, nb, cb, rfl⟩ := b.shape
      obtain ⟨Abd, nbd, cbd, rfl⟩ := bd.shape
      obtain ⟨Xp, Yp, rfl, p, pd⟩ := p
      obtain ⟨Ap, np, cp, rfl⟩ := p.shape
      obtain ⟨Apd, npd, cpd, rfl⟩ := pd.shape
      obtain ⟨Xq, Yq, rfl, q, qd⟩ := q
      obtain ⟨Aq, nq, cq, rfl⟩ := q.shape
      obtain ⟨Aqd, nqd, cqd, rfl⟩ := qd.shape
      obtain ⟨Xt, Yt, rfl, t, td⟩ := t
      obtain ⟨At, nt, ct, rfl⟩ := t.shape
      obtain ⟨Atd, ntd, ctd, rfl⟩ := td.shape))
 try go_wp2_with fail
 try clear hHeld
 refine hK.out _ _ ?_ (fun hHeld => ?_)
 · with_reducible exact ⟨UP, x1_0, x1_1, x1_2⟩
 clear hK K
 try simp only [List.getElem_toArray, List.getElem_cons_zero, List.getElem_cons_succ, Act.put, List.setIfInBounds_toArray, List.set_cons_zero, List.set_cons_succ]
 refine wpAnyH_take (i := 13) (v := ?_) rfl (by kernel_rfl) (by kernel_rfl) (by kernel_rfl) (fun _ _ _ h => h) (Or.inl ⟨by rfl, ?_⟩) (by assumption) ?_
 rotate_left
 · (intro w hSw; (try dsimp only at hSw); go_simp; first | done | with_reducible rfl)
 try simp only [List.getElem_toArray, List.getElem_cons_zero, List.getElem_cons_succ, Act.put, List.setIfInBounds_toArray, List.set_cons_zero, List.set_cons_succ]
 refine wpAnyH_ready (rs := [14]) (by kernel_rfl) (by simp) ?_
 refine AllReadyH.cons rfl (fun K hK => ?_) AllReadyH.nil
 go_simp
 skip
 try go_wp2_with fail
 try clear hHeld
 refine hK.out _ _ ?_ (fun hHeld => ?_)
 · (first | with_reducible exact ⟨UP, x1_0, x1_1, x1_2⟩ | with_reducible exact ⟨(((((((((((((((((UP.setCell (p := ⟨w.heap.size, 0, none⟩) (by dsimp only; omega) _).setCell (p := ⟨w.heap.size, 1, none⟩) (by dsimp only; omega) _).setCell (p := ⟨w.heap.size, 2, none⟩) (by dsimp only; omega) _).setCell (p := ⟨w.heap.size, 3, none⟩) (by dsimp only; omega) _).setCell (p := ⟨w.heap.size, 4, none⟩) (by dsimp only; omega) _).setCell (p := ⟨w.heap.size, 5, none⟩) (by dsimp only; omega) _).setCell (p := ⟨w.heap.size, 6, none⟩) (by dsimp only; omega) _).setCell (p := ⟨w.heap.size, 7, none⟩) (by dsimp only; omega) _).setCell (p := ⟨w.heap.size, 8, none⟩) (by dsimp only; omega) _).setCell (p := ⟨w.heap.size, 9, none⟩) (by dsimp only; omega) _).setCell (p := ⟨w.heap.size, 10, none⟩) (by dsimp only; omega) _).setCell (p := ⟨w.heap.size, 11, none⟩) (by dsimp only; omega) _).setCell (p := ⟨w.heap.size, 12, none⟩) (by dsimp only; omega) _).setCell (p := ⟨w.heap.size, 13, none⟩) (by dsimp only; omega) _).setCell (p := ⟨w.heap.size, 14, none⟩) (by dsimp only; omega) _).setCell (p := ⟨w.heap.size, 15, none⟩) (by dsimp only; omega) _).setCell (p := ⟨w.heap.size, 16, none⟩) (by dsimp only; omega) _), (cell_far_block (cell_far_block (cell_far_block (cell_far_block (cell_far_block (cell_far_block (cell_far_block (cell_far_block (cell_far_block (cell_far_block (cell_far_block (cell_far_block (cell_far_block (cell_far_block (cell_far_block (cell_far_block (cell_far_block x1_0 (by dsimp only; omega)) (by dsimp only; omega)) (by dsimp only; omega)) (by dsimp only; omega)) (by dsimp only; omega)) (by dsimp only; omega)) (by dsimp only; omega)) (by dsimp only; omega)) (by dsimp only; omega)) (by dsimp only; omega)) (by dsimp only; omega)) (by dsimp only; omega)) (by dsimp only; omega)) (by dsimp only; omega)) (by dsimp only; omega)) (by dsimp only; omega)) (by dsimp only; omega)), (cell_far_block (cell_far_block (cell_far_block (cell_far_block (cell_far_block (cell_far_block (cell_far_block (cell_far_block (cell_far_block (cell_far_block (cell_far_block (cell_far_block (cell_far_block (cell_far_block (cell_far_block (cell_far_block (cell_far_block x1_1 (by dsimp only; omega)) (by dsimp only; omega)) (by dsimp only; omega)) (by dsimp only; omega)) (by dsimp only; omega)) (by dsimp only; omega)) (by dsimp only; omega)) (by dsimp only; omega)) (by dsimp only; omega)) (by dsimp only; omega)) (by dsimp only; omega)) (by dsimp only; omega)) (by dsimp only; omega)) (by dsimp only; omega)) (by dsimp only; omega)) (by dsimp only; omega)) (by dsimp only; omega)), (cell_far_block (cell_far_block (cell_far_block (cell_far_block (cell_far_block (cell_far_block (cell_far_block (cell_far_block (cell_far_block (cell_far_block (cell_far_block (cell_far_block (cell_far_block (cell_far_block (cell_far_block (cell_far_block (cell_far_block x1_2 (by dsimp only; omega)) (by dsimp only; omega)) (by dsimp only; omega)) (by dsimp only; omega)) (by dsimp only; omega)) (by dsimp only; omega)) (by dsimp only; omega)) (by dsimp only; omega)) (by dsimp only; omega)) (by dsimp only; omega)) (by dsimp only; omega)) (by dsimp only; omega)) (by dsimp only; omega)) (by dsimp only; omega)) (by dsimp only; omega)) (by dsimp only; omega)) (by dsimp only; omega))⟩ | with_reducible exact ⟨(UP.alloc_drew _), (cell_alloc_drew x1_0), (cell_alloc_drew x1_1), (cell_alloc_drew x1_2)⟩ | with_reducible exact ⟨(UP.alloc2_drew _ _), (cell_alloc2_drew x1_0), (cell_alloc2_drew x1_1), (cell_alloc2_drew x1_2)⟩ | (simp only [← World.setCell_drew]; first | with_reducible exact ⟨(((((((((((((((((UP.setCell (p := ⟨w.heap.size, 0, none⟩) (by dsimp only; omega) _).setCell (p := ⟨w.heap.size, 1, none⟩) (by dsimp only; omega) _).setCell (p := ⟨w.heap.size, 2, none⟩) (by dsimp only; omega) _).setCell (p := ⟨w.heap.size, 3, none⟩) (by dsimp only; omega) _).setCell (p := ⟨w.heap.size, 4, none⟩) (by dsimp only; omega) _).setCell (p := ⟨w.heap.size, 5, none⟩) (by dsimp only; omega) _).setCell (p := ⟨w.heap.size, 6, none⟩) (by dsimp only; omega) _).setCell (p := ⟨w.heap.size, 7, none⟩) (by dsimp only; omega) _).setCell (p := ⟨w.heap.size, 8, none⟩) (by dsimp only; omega) _).setCell (p := ⟨w.heap.size, 9, none⟩) (by dsimp only; omega) _).setCell (p := ⟨w.heap.size, 10, none⟩) (by dsimp only; omega) _).setCell (p := ⟨w.heap.size, 11, none⟩) (by dsimp only; omega) _).setCell (p := ⟨w.heap.size, 12, none⟩) (by dsimp only; omega) _).setCell (p := ⟨w.heap.size, 13, none⟩) (by dsimp only; omega) _).setCell (p := ⟨w.heap.size, 14, none⟩) (by dsimp only; omega) _).setCell (p := ⟨w.heap.size, 15, none⟩) (by dsimp only; omega) _).setCell (p := ⟨w.heap.size, 16, none⟩) (by dsimp only; omega) _), (cell_far_block (cell_far_block (cell_far_block (cell_far_block (cell_far_block (cell_far_block (cell_far_block (cell_far_block (cell_far_block (cell_far_block (cell_far_block (cell_far_block (cell_far_block (cell_far_block (cell_far_block (cell_far_block (cell_far_block x1_0 (by dsimp only; omega)) (by dsimp only; omega)) (by dsimp only; omega)) (by dsimp only; omega)) (by dsimp only; omega)) (by dsimp only; omega)) (by dsimp only; omega)) (by dsimp only; omega)) (by dsimp only; omega)) (by dsimp only; omega)) (by dsimp only; omega)) (by dsimp only; omega)) (by dsimp only; omega)) (by dsimp only; omega)) (by dsimp only; omega)) (by dsimp only; omega)) (by dsimp only; omega)), (cell_far_block (cell_far_block (cell_far_block (cell_far_block (cell_far_block (cell_far_block (cell_far_block (cell_far_block (cell_far_block (cell_far_block (cell_far_block (cell_far_block (cell_far_block (cell_far_block (cell_far_block (cell_far_block (cell_far_block x1_1 (by dsimp only; omega)) (by dsimp only; omega)) (by dsimp only; omega)) (by dsimp only; omega)) (by dsimp only; omega)) (by dsimp only; omega)) (by dsimp only; omega)) (by dsimp only; omega)) (by dsimp only; omega)) (by dsimp only; omega)) (by dsimp only; omega)) (by dsimp only; omega)) (by dsimp only; omega)) (by dsimp only; omega)) (by dsimp only; omega)) (by dsimp only; omega)) (by dsimp only; omega)), (cell_far_block (cell_far_block (cell_far_block (cell_far_block (cell_far_block (cell_far_block (cell_far_block (cell_far_block (cell_far_block (cell_far_block (cell_far_block (cell_far_block (cell_far_block (cell_far_block (cell_far_block (cell_far_block (cell_far_block x1_2 (by dsimp only; omega)) (by dsimp only; omega)) (by dsimp only; omega)) (by dsimp only; omega)) (by dsimp only; omega)) (by dsimp only; omega)) (by dsimp only; omega)) (by dsimp only; omega)) (by dsimp only; omega)) (by dsimp only; omega)) (by dsimp only; omega)) (by dsimp only; omega)) (by dsimp only; omega)) (by dsimp only; omega)) (by dsimp only; omega)) (by dsimp only; omega)) (by dsimp only; omega))⟩) | go_keep)
 clear hK K
 try simp only [List.getElem_toArray, List.getElem_cons_zero, List.getElem_cons_succ, Act.put, List.setIfInBounds_toArray, List.set_cons_zero, List.set_cons_succ]
 refine wpAnyH_done (by kernel_rfl) ?_ _
 refine NoPanic.normal ?_
 clear hHeld
 obtain rfl := ws_len a
 obtain rfl := ws_len ad
 obtain rfl := ws_len b
 obtain rfl := ws_len bd
 obtain rfl := ws_len p
 obtain rfl := ws_len pd
 obtain rfl := ws_len q
 obtain rfl := ws_len qd
 obtain rfl := ws_len t
 obtain rfl := ws_len td
 clear o od
 have KW : Kw (W12) ((W12).setCell ⟨w.heap.size, 0, none⟩ (.bool (Wd.ngb U1.num))) := Kw.store (c := (.bool false)) r0 rfl trivial _
 replace a1 := a1.kw KW
 replace a := a.kw KW
 replace b1 := b1.kw KW
 replace b2 := b2.kw KW
 replace b := b.kw KW
 replace p1 := p1.kw KW
 replace p := p.kw KW
 replace q := q.kw KW
 replace t1 := t1.kw KW
 replace t := t.kw KW
 replace ad := ad.kw KW
 replace bd := bd.kw KW
 replace pd := pd.kw KW
 replace qd := qd.kw KW
 replace td := td.kw KW
 replace x1 := x1.far (p := ⟨w.heap.size, 0, none⟩) (by dsimp only; omega) (.bool (Wd.ngb U1.num))
 replace r0 : Bx 26 ((W12).setCell ⟨w.heap.size, 0, none⟩ (.bool (Wd.ngb U1.num))) (w.heap.size) [.bool (Wd.ngb U1.num), .slice none 0 0, .slice none 0 0, .bool false, .slice none 0 0, .slice none 0 0, .bool false, .slice none 0 0, .slice none 0 0, .bool false, .slice none 0 0, .slice none 0 0, .bool false, .slice none 0 0, .slice none 0 0, .int .i64 0, .int .i64 0] := r0.set 0 (.bool (Wd.ngb U1.num))
 replace UP := UP.setCell (p := ⟨w.heap.size, 0, none⟩) (by dsimp only; omega) (.bool (Wd.ngb U1.num))
 clear KW
 generalize ((W12).setCell ⟨w.heap.size, 0, none⟩ (.bool (Wd.ngb U1.num))) = W13_0 at *
 have KW : Kw (W13_0) ((W13_0).setCell ⟨w.heap.size, 1, none⟩ (.slice Aa (Wd.words U1.num.natAbs).length ca)) := Kw.store (c := (.slice none 0 0)) r0 rfl trivial _
 replace a1 := a1.kw KW
 replace a := a.kw KW
 replace b1 := b1.kw KW
 replace b2 := b2.kw KW
 replace b := b.kw KW
 replace p1 := p1.kw KW
 replace p := p.kw KW
 replace q := q.kw KW
 replace t1 := t1.kw KW
 replace t := t.kw KW
 replace ad := ad.kw KW
 replace bd := bd.kw KW
 replace pd := pd.kw KW
 replace qd := qd.kw KW
 replace td := td.kw KW
 replace x1 := x1.far (p := ⟨w.heap.size, 1, none⟩) (by dsimp only; omega) (.slice Aa (Wd.words U1.num.natAbs).length ca)
 replace r0 : Bx 26 ((W13_0).setCell ⟨w.heap.size, 1, none⟩ (.slice Aa (Wd.words U1.num.natAbs).length ca)) (w.heap.size) [.bool (Wd.ngb U1.num), .slice Aa (Wd.words U1.num.natAbs).length ca, .slice none 0 0, .bool false, .slice none 0 0, .slice none 0 0, .bool false, .slice none 0 0, .slice none 0 0, .bool false, .slice none 0 0, .slice none 0 0, .bool false, .slice none 0 0, .slice none 0 0, .int .i64 0, .int .i64 0] := r0.set 1 (.slice Aa (Wd.words U1.num.natAbs).length ca)
 replace UP := UP.setCell (p := ⟨w.heap.size, 1, none⟩) (by dsimp only; omega) (.slice Aa (Wd.words U1.num.natAbs).length ca)
 clear KW
 generalize ((W13_0).setCell ⟨w.heap.size, 1, none⟩ (.slice Aa (Wd.words U1.num.natAbs).length ca)) = W13_1 at *
 have KW : Kw (W13_1) ((W13_1).setCell ⟨w.heap.size, 2, none⟩ (.slice Aad (Wd.words U1.den).length cad)) := Kw.store (c := (.slice none 0 0)) r0 rfl trivial _
 replace a1 := a1.kw KW
 replace a := a.kw KW
 replace b1 := b1.kw KW
 replace b2 := b2.kw KW
 replace b := b.kw KW
 replace p1 := p1.kw KW
 replace p := p.kw KW
 replace q := q.kw KW
 replace t1 := t1.kw KW
 replace t := t.kw KW
 replace ad := ad.kw KW
 replace bd := bd.kw KW
 replace pd := pd.kw KW
 replace qd := qd.kw KW
 replace td := td.kw KW
 replace x1 := x1.far (p := ⟨w.heap.size, 2, none⟩) (by dsimp only; omega) (.slice Aad (Wd.words U1.den).length cad)
 replace r0 : Bx 26 ((W13_1).setCell ⟨w.heap.size, 2, none⟩ (.slice Aad (Wd.words U1.den).length cad)) (w.heap.size) [.bool (Wd.ngb U1.num), .slice Aa (Wd.words U1.num.natAbs).length ca, .slice Aad (Wd.words U1.den).length cad, .bool false, .slice none 0 0, .slice none 0 0, .bool false, .slice none 0 0, .slice none 0 0, .bool false, .slice none 0 0, .slice none 0 0, .bool false, .slice none 0 0, .slice none 0 0, .int .i64 0, .int .i64 0] := r0.set 2 (.slice Aad (Wd.words U1.den).length cad)
 replace UP := UP.setCell (p := ⟨w.heap.size, 2, none⟩) (by dsimp only; omega) (.slice Aad (Wd.words U1.den).length cad)
 clear KW
 generalize ((W13_1).setCell ⟨w.heap.size, 2, none⟩ (.slice Aad (Wd.words U1.den).length cad)) = W13_2 at *
 have KW : Kw (W13_2) ((W13_2).setCell ⟨w.heap.size, 3, none⟩ (.bool (Wd.ngb U2.num))) := Kw.store (c := (.bool false)) r0 rfl trivial _
 replace a1 := a1.kw KW
 replace a := a.kw KW
 replace b1 := b1.kw KW
 replace b2 := b2.kw KW
 replace b := b.kw KW
 replace p1 := p1.kw KW
 replace p := p.kw KW
 replace q := q.kw KW
 replace t1 := t1.kw KW
 replace t := t.kw KW
 replace ad := ad.kw KW
 replace bd := bd.kw KW
 replace pd := pd.kw KW
 replace qd := qd.kw KW
 replace td := td.kw KW
 replace x1 := x1.far (p := ⟨w.heap.size, 3, none⟩) (by dsimp only; omega) (.bool (Wd.ngb U2.num))
 replace r0 : Bx 26 ((W13_2).setCell ⟨w.heap.size, 3, none⟩ (.bool (Wd.ngb U2.num))) (w.heap.size) [.bool (Wd.ngb U1.num), .slice Aa (Wd.words U1.num.natAbs).length ca, .slice Aad (Wd.words U1.den).length cad, .bool (Wd.ngb U2.num), .slice none 0 0, .slice none 0 0, .bool false, .slice none 0 0, .slice none 0 0, .bool false, .slice none 0 0, .slice none 0 0, .bool false, .slice none 0 0, .slice none 0 0, .int .i64 0, .int .i64 0] := r0.set 3 (.bool (Wd.ngb U2.num))
 replace UP := UP.setCell (p := ⟨w.heap.size, 3, none⟩) (by dsimp only; omega) (.bool (Wd.ngb U2.num))
 clear KW
 generalize ((W13_2).setCell ⟨w.heap.size, 3, none⟩ (.bool (Wd.ngb U2.num))) = W13_3 at *
 have KW : Kw (W13_3) ((W13_3).setCell ⟨w.heap.size, 4, none⟩ (.slice Ab (Wd.words U2.num.natAbs).length cb)) := Kw.store (c := (.slice none 0 0)) r0 rfl trivial _
 replace a1 := a1.kw KW
 replace a := a.kw KW
 replace b1 := b1.kw KW
 replace b2 := b2.kw KW
 replace b := b.kw KW
 replace p1 := p1.kw KW
 replace p := p.kw KW
 replace q := q.kw KW
 replace t1 := t1.kw KW
 replace t := t.kw KW
 replace ad := ad.kw KW
 replace bd := bd.kw KW
 replace pd := pd.kw KW
 replace qd := qd.kw KW
 replace td := td.kw KW
 replace x1 := x1.far (p := ⟨w.heap.size, 4, none⟩) (by dsimp only; omega) (.slice Ab (Wd.words U2.num.natAbs).length cb)
 replace r0 : Bx 26 ((W13_3).setCell ⟨w.heap.size, 4, none⟩ (.slice Ab (Wd.words U2.num.natAbs).length cb)) (w.heap.size) [.bool (Wd.ngb U1.num), .slice Aa (Wd.words U1.num.natAbs).length ca, .slice Aad (Wd.words U1.den).length cad, .bool (Wd.ngb U2.num), .slice Ab (Wd.words U2.num.natAbs).length cb, .slice none 0 0, .bool false, .slice none 0 0, .slice none 0 0, .bool false, .slice none 0 0, .slice none 0 0, .bool false, .slice none 0 0, .slice none 0 0, .int .i64 0, .int .i64 0] := r0.set 4 (.slice Ab (Wd.words U2.num.natAbs).length cb)
 replace UP := UP.setCell (p := ⟨w.heap.size, 4, none⟩) (by dsimp only; omega) (.slice Ab (Wd.words U2.num.natAbs).length cb)
 clear KW
 generalize ((W13_3).setCell ⟨w.heap.size, 4, none⟩ (.slice Ab (Wd.words U2.num.natAbs).length cb)) = W13_4 at *
 have KW : Kw (W13_4) ((W13_4).setCell ⟨w.heap.size, 5, none⟩ (.slice Abd (Wd.words U2.den).length cbd)) := Kw.store (c := (.slice none 0 0)) r0 rfl trivial _
 replace a1 := a1.kw KW
 replace a := a.kw KW
 replace b1 := b1.kw KW
 replace b2 := b2.kw KW
 replace b := b.kw KW
 replace p1 := p1.kw KW
 replace p := p.kw KW
 replace q := q.kw KW
 replace t1 := t1.kw KW
 replace t := t.kw KW
 replace ad := ad.kw KW
 replace bd := bd.kw KW
 replace pd := pd.kw KW
 replace qd := qd.kw KW
 replace td := td.kw KW
 replace x1 := x1.far (p := ⟨w.heap.size, 5, none⟩) (by dsimp only; omega) (.slice Abd (Wd.words U2.den).length cbd)
 replace r0 : Bx 26 ((W13_4).setCell ⟨w.heap.size, 5, none⟩ (.slice Abd (Wd.words U2.den).length cbd)) (w.heap.size) [.bool (Wd.ngb U1.num), .slice Aa (Wd.words U1.num.natAbs).length ca, .slice Aad (Wd.words U1.den).length cad, .bool (Wd.ngb U2.num), .slice Ab (Wd.words U2.num.natAbs).length cb, .slice Abd (Wd.words U2.den).length cbd, .bool false, .slice none 0 0, .slice none 0 0, .bool false, .slice none 0 0, .slice none 0 0, .bool false, .slice none 0 0, .slice none 0 0, .int .i64 0, .int .i64 0] := r0.set 5 (.slice Abd (Wd.words U2.den).length cbd)
 replace UP := UP.setCell (p := ⟨w.heap.size, 5, none⟩) (by dsimp only; omega) (.slice Abd (Wd.words U2.den).length cbd)
 clear KW
 generalize ((W13_4).setCell ⟨w.heap.size, 5, none⟩ (.slice Abd (Wd.words U2.den).length cbd)) = W13_5 at *
 have KW : Kw (W13_5) ((W13_5).setCell ⟨w.heap.size, 6, none⟩ (.bool (Wd.ngb U3.num))) := Kw.store (c := (.bool false)) r0 rfl trivial _
 replace a1 := a1.kw KW
 replace a := a.kw KW
 replace b1 := b1.kw KW
 replace b2 := b2.kw KW
 replace b := b.kw KW
 replace p1 := p1.kw KW
 replace p := p.kw KW
 replace q := q.kw KW
 replace t1 := t1.kw KW
 replace t := t.kw KW
 replace ad := ad.kw KW
 replace bd := bd.kw KW
 replace pd := pd.kw KW
 replace qd := qd.kw KW
 replace td := td.kw KW
 replace x1 := x1.far (p := ⟨w.heap.size, 6, none⟩) (by dsimp only; omega) (.bool (Wd.ngb U3.num))
 replace r0 : Bx 26 ((W13_5).setCell ⟨w.heap.size, 6, none⟩ (.bool (Wd.ngb U3.num))) (w.heap.size) [.bool (Wd.ngb U1.num), .slice Aa (Wd.words U1.num.natAbs).length ca, .slice Aad (Wd.words U1.den).length cad, .bool (Wd.ngb U2.num), .slice Ab (Wd.words U2.num.natAbs).length cb, .slice Abd (Wd.words U2.den).length cbd, .bool (Wd.ngb U3.num), .slice none 0 0, .slice none 0 0, .bool false, .slice none 0 0, .slice none 0 0, .bool false, .slice none 0 0, .slice none 0 0, .int .i64 0, .int .i64 0] := r0.set 6 (.bool (Wd.ngb U3.num))
 replace UP := UP.setCell (p := ⟨w.heap.size, 6, none⟩) (by dsimp only; omega) (.bool (Wd.ngb U3.num))
 clear KW
 generalize ((W13_5).setCell ⟨w.heap.size, 6, none⟩ (.bool (Wd.ngb U3.num))) = W13_6 at *
 have KW : Kw (W13_6) ((W13_6).setCell ⟨w.heap.size, 7, none⟩ (.slice Ap (Wd.words U3.num.natAbs).length cp)) := Kw.store (c := (.slice none 0 0)) r0 rfl trivial _
 replace a1 := a1.kw KW
 replace a := a.kw KW
 replace b1 := b1.kw KW
 replace b2 := b2.kw KW
 replace b := b.kw KW
 replace p1 := p1.kw KW
 replace p := p.kw KW
 replace q := q.kw KW
 replace t1 := t1.kw KW
 replace t := t.kw KW
 replace ad := ad.kw KW
 replace bd := bd.kw KW
 replace pd := pd.kw KW
 replace qd := qd.kw KW
 replace td := td.kw KW
 replace x1 := x1.far (p := ⟨w.heap.size, 7, none⟩) (by dsimp only; omega) (.slice Ap (Wd.words U3.num.natAbs).length cp)
 replace r0 : Bx 26 ((W13_6).setCell ⟨w.heap.size, 7, none⟩ (.slice Ap (Wd.words U3.num.natAbs).length cp)) (w.heap.size) [.bool (Wd.ngb U1.num), .slice Aa (Wd.words U1.num.natAbs).length ca, .slice Aad (Wd.words U1.den).length cad, .bool (Wd.ngb U2.num), .slice Ab (Wd.words U2.num.natAbs).length cb, .slice Abd (Wd.words U2.den).length cbd, .bool (Wd.ngb U3.num), .slice Ap (Wd.words U3.num.natAbs).length cp, .slice none 0 0, .bool false, .slice none 0 0, .slice none 0 0, .bool false, .slice none 0 0, .slice none 0 0, .int .i64 0, .int .i64 0] := r0.set 7 (.slice Ap (Wd.words U3.num.natAbs).length cp)
 replace UP := UP.setCell (p := ⟨w.heap.size, 7, none⟩) (by dsimp only; omega) (.slice Ap (Wd.words U3.num.natAbs).length cp)
 clear KW
 generalize ((W13_6).setCell ⟨w.heap.size, 7, none⟩ (.slice Ap (Wd.words U3.num.natAbs).length cp)) = W13_7 at *
 have KW : Kw (W13_7) ((W13_7).setCell ⟨w.heap.size, 8, none⟩ (.slice Apd (Wd.words U3.den).length cpd)) := Kw.store (c := (.slice none 0 0)) r0 rfl trivial _
 replace a1 := a1.kw KW
 replace a := a.kw KW
 replace b1 := b1.kw KW
 replace b2 := b2.kw KW
 replace b := b.kw KW
 replace p1 := p1.kw KW
 replace p := p.kw KW
 replace q := q.kw KW
 replace t1 := t1.kw KW
 replace t := t.kw KW
 replace ad := ad.kw KW
 replace bd := bd.kw KW
 replace pd := pd.kw KW
 replace qd := qd.kw KW
 replace td := td.kw KW
 replace x1 := x1.far (p := ⟨w.heap.size, 8, none⟩) (by dsimp only; omega) (.slice Apd (Wd.words U3.den).length cpd)
 replace r0 : Bx 26 ((W13_7).setCell ⟨w.heap.size, 8, none⟩ (.slice Apd (Wd.words U3.den).length cpd)) (w.heap.size) [.bool (Wd.ngb U1.num), .slice Aa (Wd.words U1.num.natAbs).length ca, .slice Aad (Wd.words U1.den).length cad, .bool (Wd.ngb U2.num), .slice Ab (Wd.words U2.num.natAbs).length cb, .slice Abd (Wd.words U2.den).length cbd, .bool (Wd.ngb U3.num), .slice Ap (Wd.words U3.num.natAbs).length cp, .slice Apd (Wd.words U3.den).length cpd, .bool false, .slice none 0 0, .slice none 0 0, .bool false, .slice none 0 0, .slice none 0 0, .int .i64 0, .int .i64 0] := r0.set 8 (.slice Apd (Wd.words U3.den).length cpd)
 replace UP := UP.setCell (p := ⟨w.heap.size, 8, none⟩) (by dsimp only; omega) (.slice Apd (Wd.words U3.den).length cpd)
 clear KW
 generalize ((W13_7).setCell ⟨w.heap.size, 8, none⟩ (.slice Apd (Wd.words U3.den).length cpd)) = W13_8 at *
 have KW : Kw (W13_8) ((W13_8).setCell ⟨w.heap.size, 9, none⟩ (.bool (Wd.ngb U4.num))) := Kw.store (c := (.bool false)) r0 rfl trivial _
 replace a1 := a1.kw KW
 replace a := a.kw KW
 replace b1 := b1.kw KW
 replace b2 := b2.kw KW
 replace b := b.kw KW
 replace p1 := p1.kw KW
 replace p := p.kw KW
 replace q := q.kw KW
 replace t1 := t1.kw KW
 replace t := t.kw KW
 replace ad := ad.kw KW
 replace bd := bd.kw KW
 replace pd := pd.kw KW
 replace qd := qd.kw KW
 replace td := td.kw KW
 replace x1 := x1.far (p := ⟨w.heap.size, 9, none⟩) (by dsimp only; omega) (.bool (Wd.ngb U4.num))
 replace r0 : Bx 26 ((W13_8).setCell ⟨w.heap.size, 9, none⟩ (.bool (Wd.ngb U4.num))) (w.heap.size) [.bool (Wd.ngb U1.num), .slice Aa (Wd.words U1.num.natAbs).length ca, .slice Aad (Wd.words U1.den).length cad, .bool (Wd.ngb U2.num), .slice Ab (Wd.words U2.num.natAbs).length cb, .slice Abd (Wd.words U2.den).length cbd, .bool (Wd.ngb U3.num), .slice Ap (Wd.words U3.num.natAbs).length cp, .slice Apd (Wd.words U3.den).length cpd, .bool (Wd.ngb U4.num), .slice none 0 0, .slice none 0 0, .bool false, .slice none 0 0, .slice none 0 0, .int .i64 0, .int .i64 0] := r0.set 9 (.bool (Wd.ngb U4.num))
 replace UP := UP.setCell (p := ⟨w.heap.size, 9, none⟩) (by dsimp only; omega) (.bool (Wd.ngb U4.num))
 clear KW
 generalize ((W13_8).setCell ⟨w.heap.size, 9, none⟩ (.bool (Wd.ngb U4.num))) = W13_9 at *
 have KW : Kw (W13_9) ((W13_9).setCell ⟨w.heap.size, 10, none⟩ (.slice Aq (Wd.words U4.num.natAbs).length cq)) := Kw.store (c := (.slice none 0 0)) r0 rfl trivial _
 replace a1 := a1.kw KW
 replace a := a.kw KW
 replace b1 := b1.kw KW
 replace b2 := b2.kw KW
 replace b := b.kw KW
 replace p1 := p1.kw KW
 replace p := p.kw KW
 replace q := q.kw KW
 replace t1 := t1.kw KW
 replace t := t.kw KW
 replace ad := ad.kw KW
 replace bd := bd.kw KW
 replace pd := pd.kw KW
 replace qd := qd.kw KW
 replace td := td.kw KW
 replace x1 := x1.far (p := ⟨w.heap.size, 10, none⟩) (by dsimp only; omega) (.slice Aq (Wd.words U4.num.natAbs).length cq)
 replace r0 : Bx 26 ((W13_9).setCell ⟨w.heap.size, 10, none⟩ (.slice Aq (Wd.words U4.num.natAbs).length cq)) (w.heap.size) [.bool (Wd.ngb U1.num), .slice Aa (Wd.words U1.num.natAbs).length ca, .slice Aad (Wd.words U1.den).length cad, .bool (Wd.ngb U2.num), .slice Ab (Wd.words U2.num.natAbs).length cb, .slice Abd (Wd.words U2.den).length cbd, .bool (Wd.ngb U3.num), .slice Ap (Wd.words U3.num.natAbs).length cp, .slice Apd (Wd.words U3.den).length cpd, .bool (Wd.ngb U4.num), .slice Aq (Wd.words U4.num.natAbs).length cq, .slice none 0 0, .bool false, .slice none 0 0, .slice none 0 0, .int .i64 0, .int .i64 0] := r0.set 10 (.slice Aq (Wd.words U4.num.natAbs).length cq)
 replace UP := UP.setCell (p := ⟨w.heap.size, 10, none⟩) (by dsimp only; omega) (.slice Aq (Wd.words U4.num.natAbs).length cq)
 clear KW
 generalize ((W13_9).setCell ⟨w.heap.size, 10, none⟩ (.slice Aq (Wd.words U4.num.natAbs).length cq)) = W13_10 at *
 have KW : Kw (W13_10) ((W13_10).setCell ⟨w.heap.size, 11, none⟩ (.slice Aqd (Wd.words U4.den).length cqd)) := Kw.store (c := (.slice none 0 0)) r0 rfl trivial _
 replace a1 := a1.kw KW
 replace a := a.kw KW
 replace b1 := b1.kw KW
 replace b2 := b2.kw KW
 replace b := b.kw KW
 replace p1 := p1.kw KW
 replace p := p.kw KW
 replace q := q.kw KW
 replace t1 := t1.kw KW
 replace t := t.kw KW
 replace ad := ad.kw KW
 replace bd := bd.kw KW
 replace pd := pd.kw KW
 replace qd := qd.kw KW
 replace td := td.kw KW
 replace x1 := x1.far (p := ⟨w.heap.size, 11, none⟩) (by dsimp only; omega) (.slice Aqd (Wd.words U4.den).length cqd)
 replace r0 : Bx 26 ((W13_10).setCell ⟨w.heap.size, 11, none⟩ (.slice Aqd (Wd.words U4.den).length cqd)) (w.heap.size) [.bool (Wd.ngb U1.num), .slice Aa (Wd.words U1.num.natAbs).length ca, .slice Aad (Wd.words U1.den).length cad, .bool (Wd.ngb U2.num), .slice Ab (Wd.words U2.num.natAbs).length cb, .slice Abd (Wd.words U2.den).length cbd, .bool (Wd.ngb U3.num), .slice Ap (Wd.words U3.num.natAbs).length cp, .slice Apd (Wd.words U3.den).length cpd, .bool (Wd.ngb U4.num), .slice Aq (Wd.words U4.num.natAbs).length cq, .slice Aqd (Wd.words U4.den).length cqd, .bool false, .slice none 0 0, .slice none 0 0, .int .i64 0, .int .i64 0] := r0.set 11 (.slice Aqd (Wd.words U4.den).length cqd)
 replace UP := UP.setCell (p := ⟨w.heap.size, 11, none⟩) (by dsimp only; omega) (.slice Aqd (Wd.words U4.den).length cqd)
 clear KW
 generalize ((W13_10).setCell ⟨w.heap.size, 11, none⟩ (.slice Aqd (Wd.words U4.den).length cqd)) = W13_11 at *
 have KW : Kw (W13_11) ((W13_11).setCell ⟨w.heap.size, 12, none⟩ (.bool (Wd.ngb U5.num))) := Kw.store (c := (.bool false)) r0 rfl trivial _
 replace a1 := a1.kw KW
 replace a := a.kw KW
 replace b1 := b1.kw KW
 replace b2 := b2.kw KW
 replace b := b.kw KW
 replace p1 := p1.kw KW
 replace p := p.kw KW
 replace q := q.kw KW
 replace t1 := t1.kw KW
 replace t := t.kw KW
 replace ad := ad.kw KW
 replace bd := bd.kw KW
 replace pd := pd.kw KW
 replace qd := qd.kw KW
 replace td := td.kw KW
 replace x1 := x1.far (p := ⟨w.heap.size, 12, none⟩) (by dsimp only; omega) (.bool (Wd.ngb U5.num))
 replace r0 : Bx 26 ((W13_11).setCell ⟨w.heap.size, 12, none⟩ (.bool (Wd.ngb U5.num))) (w.heap.size) [.bool (Wd.ngb U1.num), .slice Aa (Wd.words U1.num.natAbs).length ca, .slice Aad (Wd.words U1.den).length cad, .bool (Wd.ngb U2.num), .slice Ab (Wd.words U2.num.natAbs).length cb, .slice Abd (Wd.words U2.den).length cbd, .bool (Wd.ngb U3.num), .slice Ap (Wd.words U3.num.natAbs).length cp, .slice Apd (Wd.words U3.den).length cpd, .bool (Wd.ngb U4.num), .slice Aq (Wd.words U4.num.natAbs).length cq, .slice Aqd (Wd.words U4.den).length cqd, .bool (Wd.ngb U5.num), .slice none 0 0, .slice none 0 0, .int .i64 0, .int .i64 0] := r0.set 12 (.bool (Wd.ngb U5.num))
 replace UP := UP.setCell (p := ⟨w.heap.size, 12, none⟩) (by dsimp only; omega) (.bool (Wd.ngb U5.num))
 clear KW
 generalize ((W13_11).setCell ⟨w.heap.size, 12, none⟩ (.bool (Wd.ngb U5.num))) = W13_12 at *
 have KW : Kw (W13_12) ((W13_12).setCell ⟨w.heap.size, 13, none⟩ (.slice At (Wd.words U5.num.natAbs).length ct)) := Kw.store (c := (.slice none 0 0)) r0 rfl trivial _
 replace a1 := a1.kw KW
 replace a := a.kw KW
 replace b1 := b1.kw KW
 replace b2 := b2.kw KW
 replace b := b.kw KW
 replace p1 := p1.kw KW
 replace p := p.kw KW
 replace q := q.kw KW
 replace t1 := t1.kw KW
 replace t := t.kw KW
 replace ad := ad.kw KW
 replace bd := bd.kw KW
 replace pd := pd.kw KW
 replace qd := qd.kw KW
 replace td := td.kw KW
 replace x1 := x1.far (p := ⟨w.heap.size, 13, none⟩) (by dsimp only; omega) (.slice At (Wd.words U5.num.natAbs).length ct)
 replace r0 : Bx 26 ((W13_12).setCell ⟨w.heap.size, 13, none⟩ (.slice At (Wd.words U5.num.natAbs).length ct)) (w.heap.size) [.bool (Wd.ngb U1.num), .slice Aa (Wd.words U1.num.natAbs).length ca, .slice Aad (Wd.words U1.den).length cad, .bool (Wd.ngb U2.num), .slice Ab (Wd.words U2.num.natAbs).length cb, .slice Abd (Wd.words U2.den).length cbd, .bool (Wd.ngb U3.num), .slice Ap (Wd.words U3.num.natAbs).length cp, .slice Apd (Wd.words U3.den).length cpd, .bool (Wd.ngb U4.num), .slice Aq (Wd.words U4.num.natAbs).length cq, .slice Aqd (Wd.words U4.den).length cqd, .bool (Wd.ngb U5.num), .slice At (Wd.words U5.num.natAbs).length ct, .slice none 0 0, .int .i64 0, .int .i64 0] := r0.set 13 (.slice At (Wd.words U5.num.natAbs).length ct)
 replace UP := UP.setCell (p := ⟨w.heap.size, 13, none⟩) (by dsimp only; omega) (.slice At (Wd.words U5.num.natAbs).length ct)
 clear KW
 generalize ((W13_12).setCell ⟨w.heap.size, 13, none⟩ (.slice At (Wd.words U5.num.natAbs).length ct)) = W13_13 at *
 have KW : Kw (W13_13) ((W13_13).setCell ⟨w.heap.size, 14, none⟩ (.slice Atd (Wd.words U5.den).length ctd)) := Kw.store (c := (.slice none 0 0)) r0 rfl trivial _
 replace a1 := a1.kw KW
 replace a := a.kw KW
 replace b1 := b1.kw KW
 replace b2 := b2.kw KW
 replace b := b.kw KW
 replace p1 := p1.kw KW
 replace p := p.kw KW
 replace q := q.kw KW
 replace t1 := t1.kw KW
 replace t := t.kw KW
 replace ad := ad.kw KW
 replace bd := bd.kw KW
 replace pd := pd.kw KW
 replace qd := qd.kw KW
 replace td := td.kw KW
 replace x1 := x1.far (p := ⟨w.heap.size, 14, none⟩) (by dsimp only; omega) (.slice Atd (Wd.words U5.den).length ctd)
 replace r0 : Bx 26 ((W13_13).setCell ⟨w.heap.size, 14, none⟩ (.slice Atd (Wd.words U5.den).length ctd)) (w.heap.size) [.bool (Wd.ngb U1.num), .slice Aa (Wd.words U1.num.natAbs).length ca, .slice Aad (Wd.words U1.den).length cad, .bool (Wd.ngb U2.num), .slice Ab (Wd.words U2.num.natAbs).length cb, .slice Abd (Wd.words U2.den).length cbd, .bool (Wd.ngb U3.num), .slice Ap (Wd.words U3.num.natAbs).length cp, .slice Apd (Wd.words U3.den).length cpd, .bool (Wd.ngb U4.num), .slice Aq (Wd.words U4.num.natAbs).length cq, .slice Aqd (Wd.words U4.den).length cqd, .bool (Wd.ngb U5.num), .slice At (Wd.words U5.num.natAbs).length ct, .slice Atd (Wd.words U5.den).length ctd, .int .i64 0, .int .i64 0] := r0.set 14 (.slice Atd (Wd.words U5.den).length ctd)
 replace UP := UP.setCell (p := ⟨w.heap.size, 14, none⟩) (by dsimp only; omega) (.slice Atd (Wd.words U5.den).length ctd)
 clear KW
 generalize ((W13_13).setCell ⟨w.heap.size, 14, none⟩ (.slice Atd (Wd.words U5.den).length ctd)) = W13_14 at *
 have KW : Kw (W13_14) ((W13_14).setCell ⟨w.heap.size, 15, none⟩ (.int .i64 16)) := Kw.store (c := (.int .i64 0)) r0 rfl trivial _
 replace a1 := a1.kw KW
 replace a := a.kw KW
 replace b1 := b1.kw KW
 replace b2 := b2.kw KW
 replace b := b.kw KW
 replace p1 := p1.kw KW
 replace p := p.kw KW
 replace q := q.kw KW
 replace t1 := t1.kw KW
 replace t := t.kw KW
 replace ad := ad.kw KW
 replace bd := bd.kw KW
 replace pd := pd.kw KW
 replace qd := qd.kw KW
 replace td := td.kw KW
 replace x1 := x1.far (p := ⟨w.heap.size, 15, none⟩) (by dsimp only; omega) (.int .i64 16)
 replace r0 : Bx 26 ((W13_14).setCell ⟨w.heap.size, 15, none⟩ (.int .i64 16)) (w.heap.size) [.bool (Wd.ngb U1.num), .slice Aa (Wd.words U1.num.natAbs).length ca, .slice Aad (Wd.words U1.den).length cad, .bool (Wd.ngb U2.num), .slice Ab (Wd.words U2.num.natAbs).length cb, .slice Abd (Wd.words U2.den).length cbd, .bool (Wd.ngb U3.num), .slice Ap (Wd.words U3.num.natAbs).length cp, .slice Apd (Wd.words U3.den).length cpd, .bool (Wd.ngb U4.num), .slice Aq (Wd.words U4.num.natAbs).length cq, .slice Aqd (Wd.words U4.den).length cqd, .bool (Wd.ngb U5.num), .slice At (Wd.words U5.num.natAbs).length ct, .slice Atd (Wd.words U5.den).length ctd, .int .i64 16, .int .i64 0] := r0.set 15 (.int .i64 16)
 replace UP := UP.setCell (p := ⟨w.heap.size, 15, none⟩) (by dsimp only; omega) (.int .i64 16)
 clear KW
 generalize ((W13_14).setCell ⟨w.heap.size, 15, none⟩ (.int .i64 16)) = W13_15 at *
 have KW : Kw (W13_15) ((W13_15).setCell ⟨w.heap.size, 16, none⟩ (.int .i64 100)) := Kw.store (c := (.int .i64 0)) r0 rfl trivial _
 replace a1 := a1.kw KW
 replace a := a.kw KW
 replace b1 := b1.kw KW
 replace b2 := b2.kw KW
 replace b := b.kw KW
 replace p1 := p1.kw KW
 replace p := p.kw KW
 replace q := q.kw KW
 replace t1 := t1.kw KW
 replace t := t.kw KW
 replace ad := ad.kw KW
 replace bd := bd.kw KW
 replace pd := pd.kw KW
 replace qd := qd.kw KW
 replace td := td.kw KW
 replace x1 := x1.far (p := ⟨w.heap.size, 16, none⟩) (by dsimp only; omega) (.int .i64 100)
 replace r0 : Bx 26 ((W13_15).setCell ⟨w.heap.size, 16, none⟩ (.int .i64 100)) (w.heap.size) [.bool (Wd.ngb U1.num), .slice Aa (Wd.words U1.num.natAbs).length ca, .slice Aad (Wd.words U1.den).length cad, .bool (Wd.ngb U2.num), .slice Ab (Wd.words U2.num.natAbs).length cb, .slice Abd (Wd.words U2.den).length cbd, .bool (Wd.ngb U3.num), .slice Ap (Wd.words U3.num.natAbs).length cp, .slice Apd (Wd.words U3.den).length cpd, .bool (Wd.ngb U4.num), .slice Aq (Wd.words U4.num.natAbs).length cq, .slice Aqd (Wd.words U4.den).length cqd, .bool (Wd.ngb U5.num), .slice At (Wd.words U5.num.natAbs).length ct, .slice Atd (Wd.words U5.den).length ctd, .int .i64 16, .int .i64 100] := r0.set 16 (.int .i64 100)
 replace UP := UP.setCell (p := ⟨w.heap.size, 16, none⟩) (by dsimp only; omega) (.int .i64 100)
 clear KW
 generalize ((W13_15).setCell ⟨w.heap.size, 16, none⟩ (.int .i64 100)) = W13 at *
 clear r0_0 r0_1 r0_2 r0_3 r0_4 r0_5 r0_6 r0_7 r0_8 r0_9 r0_10 r0_11 r0_12 r0_13 r0_14 r0_15 r0_16 x1_0 x1_1 x1_2
 have r0_0 := r0.cell (i := 0) rfl
 have r0_1 := r0.cell (i := 1) rfl
 have r0_2 := r0.cell (i := 2) rfl
 have r0_3 := r0.cell (i := 3) rfl
 have r0_4 := r0.cell (i := 4) rfl
 have r0_5 := r0.cell (i := 5) rfl
 have r0_6 := r0.cell (i := 6) rfl
 have r0_7 := r0.cell (i := 7) rfl
 have r0_8 := r0.cell (i := 8) rfl
 have r0_9 := r0.cell (i := 9) rfl
 have r0_10 := r0.cell (i := 10) rfl
 have r0_11 := r0.cell (i := 11) rfl
 have r0_12 := r0.cell (i := 12) rfl
 have r0_13 := r0.cell (i := 13) rfl
 have r0_14 := r0.cell (i := 14) rfl
 have r0_15 := r0.cell (i := 15) rfl
 have r0_16 := r0.cell (i := 16) rfl
 obtain ⟨x1_0, x1_1, x1_2⟩ := x1.c3
 go_wp2_with fail
 exact bodyPost_ret (run_res_cell rfl rfl agg_rr size_rr r0 rfl) rfl ⟨_, _, _, _, _, _, _, _, _, _, _, _, _, _, _, _, _, _, _, _, rfl, ⟨a, ad, b, bd, p, pd, q, qd, t, td⟩, UP⟩
end Go.Proofs.YtmmcffceeahemaaGreat
