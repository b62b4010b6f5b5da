/-
  The walk of the statement of layer 4 about products.
-/
import Derived.Test.YtelgenhmmfkmhaaProdLaws2
import Derived.Deep.RegionHeld3
set_option linter.unusedVariables false
set_option linter.unusedSimpArgs false
namespace Go.Proofs.Ytelgenhmmfkmhaa
open Go.RowKit

theorem ws_oneN (w : World) (x : Nat) (hx : x < Wd.B) {n : Nat} (hn : n = w.heap.size) : Ws (w.alloc (.cells #[.int .u32 (x : Int)] 22)) (.slice (some ⟨n, 0, none⟩) 1 1) [x] := by
  subst hn
  exact ws_one w x hx
theorem keep3 {w W W' : World} {N : Nat} {a b : Value} (u : Up W W') (h : Up w W ∧ W.cell? ⟨N, 0, none⟩ = some a ∧ W.cell? ⟨N, 1, none⟩ = some b) : Up w W' ∧ W'.cell? ⟨N, 0, none⟩ = some a ∧ W'.cell? ⟨N, 1, none⟩ = some b := by
  obtain ⟨h1, h2, h3⟩ := h
  have hN := World.block_lt_of_cell? W _ h2
  exact ⟨h1.trans u, (u.cell (p := ⟨N, 0, none⟩) hN).trans h2, (u.cell (p := ⟨N, 1, none⟩) hN).trans h3⟩

set_option maxRecDepth 100000 in
set_option maxHeartbeats 3200000 in
theorem prodTimes_walk {v u : Value} {a b : List Nat} {x y : Nat} {w : World} (ha : Ws w v a) (hb : Ws w u b) (bx : x < Wd.B) (b_y : y < Wd.B) :
    Calls Try.prog 20 #[v, u, .agg #[.int .u32 x, .int .u32 y]] w fun e w' => e = .returned (.bool true) ∧ Up w w' := by
  obtain ⟨A, ca, rfl⟩ := ha.form
  obtain ⟨D, cb, rfl⟩ := hb.form
  by_cases h1 : 100 < a.length
  · go_enter Try.func20, Try.ntmps20
    go_wp2_with fail
    refine (prod_works _).mono ?_
    rintro e w1 ⟨rfl, u1⟩
    have g1 := ((Up.refl w).alloc _).trans u1
    go_wp2
    go_ret
    exact ⟨rfl, g1⟩
  by_cases h2 : 100 < b.length
  · go_enter Try.func20, Try.ntmps20
    go_wp2_with fail
    refine (prod_works _).mono ?_
    rintro e w1 ⟨rfl, u1⟩
    have g1 := ((Up.refl w).alloc _).trans u1
    go_wp2
    go_ret
    exact ⟨rfl, g1⟩
  go_enter Try.func20, Try.ntmps20
  go_wp2_with fail
  have u0 : Up w (w.alloc (.cells #[.int .u32 (x : Int), .int .u32 (y : Int)] 83)) := (Up.refl w).alloc _
  have c0 : (w.alloc (.cells #[.int .u32 (x : Int), .int .u32 (y : Int)] 83)).cell? ⟨w.heap.size, 0, none⟩ = some (.int .u32 (x : Int)) := by rw [cell_of_row _ _ _ _ _ (0, 0) (heap_alloc_new w _)]; rfl
  have c1 : (w.alloc (.cells #[.int .u32 (x : Int), .int .u32 (y : Int)] 83)).cell? ⟨w.heap.size, 1, none⟩ = some (.int .u32 (y : Int)) := by rw [cell_of_row _ _ _ _ _ (0, 0) (heap_alloc_new w _)]; rfl
  generalize w.alloc (.cells #[.int .u32 (x : Int), .int .u32 (y : Int)] 83) = W0 at *
  have hs0 := u0.size
  have HMUL : Hid ((Wd.words (Wd.val a * Wd.val b)).length ≤ 200) := Lib.hid (Nat.le_trans (Wd.words_mul_le (wl a ha.ok) (wl b hb.ok)) (by omega))
  have HSQ : Hid ((Wd.words (Wd.val a * Wd.val a)).length ≤ 200) := Lib.hid (Nat.le_trans (Wd.words_mul_le (wl a ha.ok) (wl a ha.ok)) (by omega))
  have hlw := Wd.words_mul_le (wl a ha.ok) (wl [x] (Wd.ok_cons.2 ⟨bx, Wd.ok_nil⟩))
  have HLW : Hid ((Wd.words (Wd.val a * Wd.val [x])).length ≤ 101) := Lib.hid (Nat.le_trans hlw (by simp; omega))
  clear hlw
  have HV : Hid (Wd.val a * Wd.val [x] + Wd.val [y] = x * Wd.val a + y) := Lib.hid (by simp [Wd.val, Nat.mul_comm])
  have HWO : Hid ((Wd.words (x * Wd.val a + y)).length ≤ 200) := Lib.hid (by
    rw [← HV.out]
    exact Nat.le_trans (Wd.words_add_le (m := 101) HLW.out (Nat.le_trans (wl [y] (Wd.ok_cons.2 ⟨b_y, Wd.ok_nil⟩)) (by simp))) (by omega))
  have u0d : Up w W0.drew := u0.drew
  have wx1 : Ws (W0.alloc (.cells #[.int .u32 (x : Int)] 22)).drew (.slice (some ⟨W0.heap.size, 0, none⟩) 1 1) [x] := (ws_one W0 x bx).up (Up.refl _).drew
  have wx2 : ∀ o, Ws ((W0.alloc o).alloc (.cells #[.int .u32 (x : Int)] 22)).drew (.slice (some ⟨W0.heap.size + 1, 0, none⟩) 1 1) [x] := fun o => (ws_oneN (W0.alloc o) x bx (by simp)).up (Up.refl _).drew
  have wx3 : ∀ o, Ws ((W0.alloc (.cells #[.int .u32 (x : Int)] 22)).alloc o).drew (.slice (some ⟨W0.heap.size, 0, none⟩) 1 1) [x] := fun o => ((ws_one W0 x bx).up ((Up.refl _).alloc o)).up (Up.refl _).drew
  have wy2 : ∀ o, Ws ((W0.alloc o).alloc (.cells #[.int .u32 (y : Int)] 22)).drew (.slice (some ⟨W0.heap.size + 1, 0, none⟩) 1 1) [y] := fun o => (ws_oneN (W0.alloc o) y b_y (by simp)).up (Up.refl _).drew
  have wy3 : ∀ o, Ws ((W0.alloc (.cells #[.int .u32 (y : Int)] 22)).alloc o).drew (.slice (some ⟨W0.heap.size, 0, none⟩) 1 1) [y] := fun o => ((ws_one W0 y b_y).up ((Up.refl _).alloc o)).up (Up.refl _).drew
  go_region_held3 (fun w' => Up w w' ∧ w'.cell? ⟨w.heap.size, 0, none⟩ = some (.int .u32 (x : Int)) ∧ w'.cell? ⟨w.heap.size, 1, none⟩ = some (.int .u32 (y : Int)))
    (first
      | (refine ⟨?_, ?_, ?_⟩ <;> first | assumption | (first | exact (u0.alloc _).drew | exact ((u0.alloc _).alloc _).drew | exact k1 | exact k1.alloc _ | exact u0.alloc _ | exact Up.drew (Up.alloc (by assumption) _) | exact Up.alloc (by assumption) _) | go_keep))
    (first
      | (go_at_call 94
         refine (ref_mul (ha.up (by first | exact (u0.alloc _).drew | exact ((u0.alloc _).alloc _).drew)) (by first | exact wx1 | exact wx2 _ | exact wx3 _) (by omega) (by simp)).mono ?_
         intro e1 w1 hret
         obtain ⟨v1, rfl, s1, u1⟩ := hret.ws
         obtain ⟨k1, k2, k3⟩ := keep3 (N := w.heap.size) u1 (keep3 (W := W0) (by first | exact ((Up.refl W0).alloc _).drew | exact (((Up.refl W0).alloc _).alloc _).drew) ⟨u0, c0, c1⟩))
      | (go_at_call 60
         refine (ref_add (by first | exact s1 | exact s1.up ((Up.refl _).alloc _)) (by first | exact ws_one w1 y b_y | exact (wy2 _).up u1 | exact (wy3 _).up u1) (Nat.le_trans HLW.out (by omega)) (by simp)).mono ?_
         intro e2 w2 hret2
         obtain ⟨v2, rfl, s2, u2⟩ := hret2.ws
         have hg2 : Up w w2 := by first | exact k1.trans u2 | exact (k1.alloc _).trans u2
         obtain ⟨m1, m2, m3⟩ := keep3 (N := w.heap.size) (W := w1) (by first | exact u2 | exact ((Up.refl _).alloc _).trans u2) ⟨k1, k2, k3⟩)
      | fail)
  all_goals
    rw [Wd.val_words, HV.out] at s2
    clear u1 u2 s1 hret hret2 k1 k2 k3 m1 wx1 wx2 wx3 wy2 wy3
    go_wp2_with fail
    refine (prod_mul (ha.up hg2) (hb.up hg2) (by omega) (by omega)).mono ?_
    rintro e3 w3 ⟨v3, rfl, s3, u3⟩
    have g3 := hg2.trans u3
    go_wp2_with fail
    refine (ref_mul (ha.up g3) (hb.up g3) (by omega) (by omega)).mono ?_
    intro e4 w4 ret4
    obtain ⟨v4, rfl, s4, u4⟩ := ret4.ws
    have g4 := g3.trans u4
    have s3 := s3.up u4
    go_wp2_with fail
    refine (ref_same_yes s3 s4 (Nat.le_trans HMUL.out (by omega))).mono ?_
    rintro e5 w5 ⟨rfl, u5⟩
    have g5 := g4.trans u5
    have f5 := (u3.trans u4).trans u5
    have s2 := s2.up f5
    obtain ⟨m1, m2, m3⟩ := keep3 f5 ⟨hg2, m2, m3⟩
    clear u3 u4 u5 f5 s3 s4 ret4 g3 g4 hg2
    go_wp2_with fail
    refine (prod_square (ha.up g5) (by omega)).mono ?_
    rintro e6 w6 ⟨v6, rfl, s6, u6⟩
    have g6 := g5.trans u6
    go_wp2_with fail
    refine (ref_mul (ha.up g6) (ha.up g6) (by omega) (by omega)).mono ?_
    intro e7 w7 ret7
    obtain ⟨v7, rfl, s7, u7⟩ := ret7.ws
    have g7 := g6.trans u7
    have s6 := s6.up u7
    go_wp2_with fail
    refine (ref_same_yes s6 s7 (Nat.le_trans HSQ.out (by omega))).mono ?_
    rintro e8 w8 ⟨rfl, u8⟩
    have g8 := g7.trans u8
    have f8 := (u6.trans u7).trans u8
    have s2 := s2.up f8
    obtain ⟨n1, n2, n3⟩ := keep3 f8 ⟨g5, m2, m3⟩
    clear u6 u7 u8 f8 s6 s7 ret7 g6 g7 g5 m1 m2 m3
    go_wp2_with fail
    refine (prod_word x y rfl rfl bx b_y (ha.up g8) (by omega)).mono ?_
    rintro e9 w9 ⟨v9, rfl, s9, u9⟩
    have g9 := g8.trans u9
    have s2 := s2.up u9
    go_wp2_with fail
    refine (ref_same_yes s9 s2 (Nat.le_trans HWO.out (by omega))).mono ?_
    rintro e10 w10 ⟨rfl, u10⟩
    have g10 := g9.trans u10
    go_wp2_with fail
    refine (prod_works _).mono ?_
    rintro e11 w11 ⟨rfl, u11⟩
    have g11 := g10.trans u11
    go_wp2
    go_ret
    exact ⟨rfl, g11⟩
end Go.Proofs.Ytelgenhmmfkmhaa
