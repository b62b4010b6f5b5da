/-
  The walks of the statements of layer 5.
-/
import Derived.Test.YtelgenhmmfkmhaaRefQuot
import Derived.Test.YtelgenhmmfkmhaaProdLaws
import Derived.Test.YtelgenhmmfkmhaaZeros
set_option linter.unusedVariables false
set_option linter.unusedSimpArgs false
namespace Go.Proofs.Ytelgenhmmfkmhaa
open Go.RowKit

theorem own_up {w w' : World} {base : Nat} {e : TypeId} {v : Value} {n size : Nat} {xs : List Value} (h : w.ownsRow base e size v n xs) (hu : Up w w') : w'.ownsRow base e size v n xs :=
  own_made h ⟨hu.os, hu.tape, hu.output, hu.size, fun k hk _ => hu.block k hk⟩
theorem words_1' : Wd.words 1 = [1] := words_small (by omega) (by omega)
theorem words_2 : Wd.words 2 = [2] := words_small (by omega) (by omega)
theorem words_3 : Wd.words 3 = [3] := words_small (by omega) (by omega)

set_option maxRecDepth 100000 in
set_option maxHeartbeats 1600000 in
theorem quot_works (w : World) : Calls Try.prog 105 #[] w fun e w' => e = .returned (.bool true) ∧ Up w w' := by
  have H63 : Hid (exOk 6 3 = true ∧ exN 6 3 = [2]) := Lib.hid ⟨exOk_yes (by omega) (by omega), by rw [exN_yes (exOk_yes (by omega) (by omega))]; exact words_2⟩
  go_enter Try.func105, Try.ntmps105
  go_wp2_with fail
  refine (nat_of 7 rfl (by omega) _).mono ?_
  rintro e W1 ⟨V1, rfl, a, U1⟩
  have G1 := (Up.refl w).trans U1
  clear U1
  go_wp2_with fail
  refine (nat_of 2 rfl (by omega) _).mono ?_
  rintro e W2 ⟨V2, rfl, b, U2⟩
  have G2 := G1.trans U2
  have a := a.up U2
  clear U2 G1
  go_wp2_with fail
  refine (quot_div a b (Nat.le_trans (len_words_small (by omega)) (by omega)) (Nat.le_trans (len_words_small (by omega)) (by omega)) (by rw [Wd.val_words]; omega)).mono ?_
  rintro e W3 ⟨V3, V3', rfl, q, r, U3⟩
  have G3 := G2.trans U3
  have a := a.up U3
  have b := b.up U3
  clear U3 G2
  rw [Wd.val_words, Wd.val_words, show 7 / 2 = 3 from rfl, words_3] at q
  rw [Wd.val_words, Wd.val_words, show 7 % 2 = 1 from rfl, words_1] at r
  clear a b
  go_wp2_with fail
  refine (nat_of 6 rfl (by omega) _).mono ?_
  rintro e W4 ⟨V4, rfl, a, U4⟩
  have G4 := G3.trans U4
  have q := q.up U4
  have r := r.up U4
  clear U4 G3
  go_wp2_with fail
  refine (nat_of 3 rfl (by omega) _).mono ?_
  rintro e W5 ⟨V5, rfl, b, U5⟩
  have G5 := G4.trans U5
  have q := q.up U5
  have r := r.up U5
  have a := a.up U5
  clear U5 G4
  go_wp2_with fail
  refine (quot_exact a b (Nat.le_trans (len_words_small (by omega)) (by omega)) (Nat.le_trans (len_words_small (by omega)) (by omega))).mono ?_
  rintro e W6 ⟨V6, rfl, x, U6⟩
  have G6 := G5.trans U6
  have q := q.up U6
  have r := r.up U6
  have a := a.up U6
  have b := b.up U6
  clear U6 G5
  rw [Wd.val_words, Wd.val_words, H63.out.2] at x
  rw [Wd.val_words, Wd.val_words, H63.out.1]
  clear a b
  go_wp2_with fail
  refine (ref_same_yes (q.up ((Up.refl _).alloc _)) (ws_one W6 3 (by rw [Wd.B_eq]; omega)) (by simp)).mono ?_
  rintro e W7 ⟨rfl, U7⟩
  have G7 := (G6.alloc _).trans U7
  have q := (q.up ((Up.refl _).alloc _)).up U7
  have r := (r.up ((Up.refl _).alloc _)).up U7
  have x := (x.up ((Up.refl _).alloc _)).up U7
  clear U7 G6
  go_wp2_with fail
  refine (ref_same_yes (r.up ((Up.refl _).alloc _)) (ws_one W7 1 Wd.B_one) (by simp)).mono ?_
  rintro e W8 ⟨rfl, U8⟩
  have G8 := (G7.alloc _).trans U8
  have q := (q.up ((Up.refl _).alloc _)).up U8
  have r := (r.up ((Up.refl _).alloc _)).up U8
  have x := (x.up ((Up.refl _).alloc _)).up U8
  clear U8 G7
  go_wp2_with fail
  refine (ref_same_yes (x.up ((Up.refl _).alloc _)) (ws_one W8 2 (by rw [Wd.B_eq]; omega)) (by simp)).mono ?_
  rintro e W9 ⟨rfl, U9⟩
  have G9 := (G8.alloc _).trans U9
  have q := (q.up ((Up.refl _).alloc _)).up U9
  have r := (r.up ((Up.refl _).alloc _)).up U9
  have x := (x.up ((Up.refl _).alloc _)).up U9
  clear U9 G8
  go_wp2
  go_ret
  exact ⟨rfl, G9⟩

set_option maxRecDepth 100000 in
set_option maxHeartbeats 3200000 in
theorem quotDivides_walk {v u : Value} {a b : List Nat} {w : World} (ha : Ws w v a) (hb : Ws w u b) :
    Calls Try.prog 24 #[v, u] w fun e w' => e = .returned (.bool true) ∧ Up w w' := by
  obtain ⟨A, ca, rfl⟩ := ha.form
  obtain ⟨D, cb, rfl⟩ := hb.form
  by_cases h1 : 40 < a.length
  · go_enter Try.func24, Try.ntmps24
    go_wp2_with fail
    refine (quot_works _).mono ?_
    rintro e W1 ⟨rfl, U1⟩
    have G1 := (Up.refl w).trans U1
    clear U1
    go_wp2
    go_ret
    exact ⟨rfl, G1⟩
  by_cases h2 : 40 < b.length
  · go_enter Try.func24, Try.ntmps24
    go_wp2_with fail
    refine (quot_works _).mono ?_
    rintro e W1 ⟨rfl, U1⟩
    have G1 := (Up.refl w).trans U1
    clear U1
    go_wp2
    go_ret
    exact ⟨rfl, G1⟩
  by_cases h0 : Wd.val b = 0
  · have HK := Lib.hid (exOk_zero (A := Wd.val a) h0)
    have HN := Lib.hid (exN_no HK.out)
    have HW : Hid (Wd.words (Wd.val b) = []) := Lib.hid (by rw [h0, Wd.words_zero])
    have H0 := Lib.hid h0
    clear h0
    go_enter Try.func24, Try.ntmps24
    go_wp2_with fail
    refine (quot_div_no ha hb (by omega) (by omega) H0.out).mono ?_
    rintro e W1 ⟨V1, V1', rfl, q, r, U1⟩
    have G1 := (Up.refl w).trans U1
    have ha := ha.up U1
    have hb := hb.up U1
    clear U1
    go_wp2_with fail
    refine (quot_exact ha hb (by omega) (by omega)).mono ?_
    rintro e W2 ⟨V2, rfl, x, U2⟩
    have G2 := G1.trans U2
    have ha := ha.up U2
    have hb := hb.up U2
    have q := q.up U2
    have r := r.up U2
    clear U2 G1
    rw [HN.out] at x
    rw [HK.out]
    go_wp2_with fail
    refine (ref_norm hb (by omega)).mono ?_
    intro e W3 ret3
    obtain ⟨V3, rfl, n, U3⟩ := ret3.ws
    clear ret3
    have G3 := G2.trans U3
    have ha := ha.up U3
    have hb := hb.up U3
    have q := q.up U3
    have r := r.up U3
    have x := x.up U3
    clear U3 G2
    rw [HW.out] at n
    obtain ⟨_, _, rfl⟩ := n.form
    obtain ⟨_, _, rfl⟩ := q.form
    obtain ⟨_, _, rfl⟩ := r.form
    obtain ⟨_, _, rfl⟩ := x.form
    go_wp2_with fail
    refine (quot_works _).mono ?_
    rintro e W4 ⟨rfl, U4⟩
    have G4 := G3.trans U4
    have ha := ha.up U4
    have hb := hb.up U4
    have q := q.up U4
    have r := r.up U4
    have x := x.up U4
    have n := n.up U4
    clear U4 G3
    go_wp2
    go_ret
    exact ⟨rfl, G4⟩
  · have HB1 : Hid ((Wd.words (Wd.val b)).length ≠ 0) := Lib.hid (fun h => h0 (Wd.words_length_zero.1 h))
    have hlq := len_div ha.ok (Wd.val b)
    have hlr := len_mod ha.ok (Wd.val b)
    by_cases h5 : Wd.val a % Wd.val b = 0
    · have HK := Lib.hid (exOk_yes h0 h5)
      have HN := Lib.hid (exN_yes HK.out)
      have HT : Hid (Wd.words (Wd.val a % Wd.val b) = []) := Lib.hid (by rw [h5, Wd.words_zero])
      have H0 := Lib.hid h0
      clear h0 h5
      go_enter Try.func24, Try.ntmps24
      go_wp2_with fail
      refine (quot_div ha hb (by omega) (by omega) H0.out).mono ?_
      rintro e W1 ⟨V1, V1', rfl, q, r, U1⟩
      have G1 := (Up.refl w).trans U1
      have ha := ha.up U1
      have hb := hb.up U1
      clear U1
      go_wp2_with fail
      refine (quot_exact ha hb (by omega) (by omega)).mono ?_
      rintro e W2 ⟨V2, rfl, x, U2⟩
      have G2 := G1.trans U2
      have ha := ha.up U2
      have hb := hb.up U2
      have q := q.up U2
      have r := r.up U2
      clear U2 G1
      rw [HN.out] at x
      rw [HK.out]
      go_wp2_with fail
      refine (ref_norm hb (by omega)).mono ?_
      intro e W3 ret3
      obtain ⟨V3, rfl, n, U3⟩ := ret3.ws
      clear ret3
      have G3 := G2.trans U3
      have ha := ha.up U3
      have hb := hb.up U3
      have q := q.up U3
      have r := r.up U3
      have x := x.up U3
      clear U3 G2
      have hbn := HB1.out
      generalize Wd.words (Wd.val b) = nb at *
      obtain ⟨_, _, rfl⟩ := n.form
      have hbn2 : ((nb.length : Int) == 0) = false := by simpa using hbn
      clear hbn
      clear n
      go_wp2_with fail
      refine (ref_div ha hb (by omega) (by omega) H0.out).mono ?_
      rintro e W4 ⟨V4, V4', rfl, s, t, k4, U4⟩
      have G4 := G3.trans U4
      have ha := ha.up U4
      have hb := hb.up U4
      have q := q.up U4
      have r := r.up U4
      have x := x.up U4
      have t := own_weaken t (Up.size G3)
      clear U4 G3
      have t := Ws.of_own t k4
      clear k4
      go_wp2_with fail
      refine (ref_same_yes q s (by omega)).mono ?_
      rintro e W5 ⟨rfl, U5⟩
      have G5 := G4.trans U5
      have ha := ha.up U5
      have hb := hb.up U5
      have q := q.up U5
      have r := r.up U5
      have x := x.up U5
      have s := s.up U5
      have t := t.up U5
      clear U5 G4
      go_wp2_with fail
      refine (ref_same_yes r t (by omega)).mono ?_
      rintro e W6 ⟨rfl, U6⟩
      have G6 := G5.trans U6
      have ha := ha.up U6
      have hb := hb.up U6
      have q := q.up U6
      have r := r.up U6
      have x := x.up U6
      have s := s.up U6
      have t := t.up U6
      clear U6 G5
      rw [HT.out] at t
      obtain ⟨_, _, rfl⟩ := t.form
      go_wp2_with fail
      refine (ref_same_yes x s (by omega)).mono ?_
      rintro e W7 ⟨rfl, U7⟩
      have G7 := G6.trans U7
      have ha := ha.up U7
      have hb := hb.up U7
      have q := q.up U7
      have r := r.up U7
      have x := x.up U7
      have s := s.up U7
      have t := t.up U7
      clear U7 G6
      go_wp2_with fail
      refine (quot_works _).mono ?_
      rintro e W8 ⟨rfl, U8⟩
      have G8 := G7.trans U8
      have ha := ha.up U8
      have hb := hb.up U8
      have q := q.up U8
      have r := r.up U8
      have x := x.up U8
      have s := s.up U8
      have t := t.up U8
      clear U8 G7
      go_wp2
      go_ret
      exact ⟨rfl, G8⟩
    · have HK := Lib.hid (exOk_rest h5)
      have HN := Lib.hid (exN_no HK.out)
      obtain ⟨T, hT⟩ : ∃ T, T = Wd.words (Wd.val a % Wd.val b) := ⟨_, rfl⟩
      have HT : Hid (Wd.words (Wd.val a % Wd.val b) = T) := Lib.hid hT.symm
      have hTl : ((T.length : Int) == 0) = false := by
        have : T.length ≠ 0 := fun h => h5 (Wd.words_length_zero.1 (by rw [← hT]; exact h))
        simpa using this
      clear hT
      have H0 := Lib.hid h0
      clear h0 h5
      go_enter Try.func24, Try.ntmps24
      go_wp2_with fail
      refine (quot_div ha hb (by omega) (by omega) H0.out).mono ?_
      rintro e W1 ⟨V1, V1', rfl, q, r, U1⟩
      have G1 := (Up.refl w).trans U1
      have ha := ha.up U1
      have hb := hb.up U1
      clear U1
      go_wp2_with fail
      refine (quot_exact ha hb (by omega) (by omega)).mono ?_
      rintro e W2 ⟨V2, rfl, x, U2⟩
      have G2 := G1.trans U2
      have ha := ha.up U2
      have hb := hb.up U2
      have q := q.up U2
      have r := r.up U2
      clear U2 G1
      rw [HN.out] at x
      rw [HK.out]
      go_wp2_with fail
      refine (ref_norm hb (by omega)).mono ?_
      intro e W3 ret3
      obtain ⟨V3, rfl, n, U3⟩ := ret3.ws
      clear ret3
      have G3 := G2.trans U3
      have ha := ha.up U3
      have hb := hb.up U3
      have q := q.up U3
      have r := r.up U3
      have x := x.up U3
      clear U3 G2
      have hbn := HB1.out
      generalize Wd.words (Wd.val b) = nb at *
      obtain ⟨_, _, rfl⟩ := n.form
      have hbn2 : ((nb.length : Int) == 0) = false := by simpa using hbn
      clear hbn
      clear n
      go_wp2_with fail
      refine (ref_div ha hb (by omega) (by omega) H0.out).mono ?_
      rintro e W4 ⟨V4, V4', rfl, s, t, k4, U4⟩
      have G4 := G3.trans U4
      have ha := ha.up U4
      have hb := hb.up U4
      have q := q.up U4
      have r := r.up U4
      have x := x.up U4
      have t := own_weaken t (Up.size G3)
      clear U4 G3
      have t := Ws.of_own t k4
      clear k4
      go_wp2_with fail
      refine (ref_same_yes q s (by omega)).mono ?_
      rintro e W5 ⟨rfl, U5⟩
      have G5 := G4.trans U5
      have ha := ha.up U5
      have hb := hb.up U5
      have q := q.up U5
      have r := r.up U5
      have x := x.up U5
      have s := s.up U5
      have t := t.up U5
      clear U5 G4
      go_wp2_with fail
      refine (ref_same_yes r t (by omega)).mono ?_
      rintro e W6 ⟨rfl, U6⟩
      have G6 := G5.trans U6
      have ha := ha.up U6
      have hb := hb.up U6
      have q := q.up U6
      have r := r.up U6
      have x := x.up U6
      have s := s.up U6
      have t := t.up U6
      clear U6 G5
      rw [HT.out] at t
      obtain ⟨_, _, rfl⟩ := t.form
      obtain ⟨_, _, rfl⟩ := x.form
      go_wp2_with fail
      refine (quot_works _).mono ?_
      rintro e W7 ⟨rfl, U7⟩
      have G7 := G6.trans U7
      have ha := ha.up U7
      have hb := hb.up U7
      have q := q.up U7
      have r := r.up U7
      have x := x.up U7
      have s := s.up U7
      have t := t.up U7
      clear U7 G6
      go_wp2
      go_ret
      exact ⟨rfl, G7⟩

theorem word_pad {r : Nat} (h : r < 4294967296) : Wd.words r ++ List.replicate (1 - (Wd.words r).length) 0 = [r] := by
  by_cases h0 : r = 0
  · subst h0; rw [Wd.words_zero]; rfl
  · rw [words_small h0 h]; rfl

set_option maxRecDepth 100000 in
set_option maxHeartbeats 3200000 in
theorem quotWords_walk {v : Value} {a : List Nat} {x : Nat} {w : World} (ha : Ws w v a) (bx : x < Wd.B) :
    Calls Try.prog 25 #[v, .int .u32 x] w fun e w' => e = .returned (.bool true) ∧ Up w w' := by
  obtain ⟨A, ca, rfl⟩ := ha.form
  by_cases h1 : 40 < a.length
  · go_enter Try.func25, Try.ntmps25
    go_wp2_with fail
    refine (quot_works _).mono ?_
    rintro e W1 ⟨rfl, U1⟩
    have G1 := (Up.refl w).trans U1
    clear U1
    go_wp2
    go_ret
    exact ⟨rfl, G1⟩
  rcases Nat.eq_zero_or_pos x with h0 | h0
  · subst h0
    show Calls Try.prog 25 #[.slice A a.length ca, .int .u32 0] w fun e w' => e = .returned (.bool true) ∧ Up w w'
    go_enter Try.func25, Try.ntmps25
    go_wp2_with fail
    refine (quot_word_no ha).mono ?_
    rintro e W1 ⟨V1, rfl, q, U1⟩
    have G1 := (Up.refl w).trans U1
    have ha := ha.up U1
    clear U1
    obtain ⟨_, _, rfl⟩ := q.form
    go_wp2_with fail
    refine (quot_works _).mono ?_
    rintro e W2 ⟨rfl, U2⟩
    have G2 := G1.trans U2
    have ha := ha.up U2
    have q := q.up U2
    clear U2 G1
    go_wp2
    go_ret
    exact ⟨rfl, G2⟩
  · have hx0 : ((x : Int) == 0) = false := by simp; omega
    have hx4 : x < 4294967296 := by rw [← Wd.B_eq]; exact bx
    have hr4 : Wd.val a % x < 4294967296 := Nat.lt_trans (Nat.mod_lt _ h0) hx4
    have HB := Lib.hid bx
    have HR : Hid (Wd.val a % x < Wd.B) := Lib.hid (by rw [Wd.B_eq]; exact hr4)
    have HP := Lib.hid (word_pad hr4)
    have HVX : Hid (Wd.val [x] = x) := Lib.hid (by simp [Wd.val])
    have H0 := Lib.hid h0
    have hlq := len_div ha.ok x
    have hlr := len_words_small hr4
    clear h0 bx
    go_enter Try.func25, Try.ntmps25
    go_wp2_with fail
    refine (quot_word x rfl HB.out H0.out ha (by omega)).mono ?_
    rintro e W1 ⟨V1, rfl, q, U1⟩
    have G1 := (Up.refl w).trans U1
    have ha := ha.up U1
    clear U1
    generalize hR : Wd.val a % x = R at *
    have HRR := Lib.hid hR
    clear hR
    go_wp2_with fail
    refine (ref_div (ha.up ((Up.refl _).alloc _)) (ws_one W1 x HB.out) (by omega) (by simp) (by rw [HVX.out]; have := H0.out; omega)).mono ?_
    rintro e W2 ⟨V2, V2', rfl, s, t, k2, U2⟩
    have G2 := (G1.alloc _).trans U2
    have ha := (ha.up ((Up.refl _).alloc _)).up U2
    have q := (q.up ((Up.refl _).alloc _)).up U2
    have t := own_weaken t (Up.size (G1.alloc _))
    clear U2 G1
    rw [HVX.out] at s t
    rw [HRR.out] at t
    obtain ⟨_, _, rfl, _, _⟩ := own_form t
    clear k2
    go_wp2_with fail
    refine (ref_same_yes q s (by omega)).mono ?_
    rintro e W3 ⟨rfl, U3⟩
    have G3 := G2.trans U3
    have ha := ha.up U3
    have q := q.up U3
    have s := s.up U3
    have t := own_up t ((Up.refl _).trans U3)
    clear U3 G2
    generalize Wd.words R = T at *
    have hMT : (1 : Int) - (T.length : Int) = ((1 - T.length : Nat) : Int) := by omega
    have HMT := Lib.hid hMT
    clear hMT
    have g3 := G3
    go_wp2_with (at_builtin; refine wl_struck (by rfl) ?_; refine wl_append_zeros (w0 := w) rfl (.tmp 50) (.tmp 53) rfl (n := T.length) (xs := T) rfl (own_up t ((Up.refl _).alloc _)) (1 - T.length) rfl HMT.out (by omega) (g3.alloc _) ?_; intro v5 w5 h5 u5 gr5)
    rw [HP.out] at h5
    have hR1 : Ws w5 (.slice (some ⟨W3.heap.size, 0, none⟩) 1 1) [R] := (Blk.beside t (Nat.le_refl _) (blk_new W3 [R]) gr5).ws (Wd.ok_cons.2 ⟨HR.out, Wd.ok_nil⟩) (by simp [maxLen])
    have hR2 : Ws w5 v5 [R] := Ws.of_own (base := w.heap.size) (by rw [show [R].length = T.length + (1 - T.length) from by simp; omega]; exact h5) (Wd.ok_cons.2 ⟨HR.out, Wd.ok_nil⟩)
    clear h5 gr5 t
    go_wp2_with fail
    refine (ref_same_yes hR1 hR2 (by simp)).mono ?_
    rintro e w6 ⟨rfl, u6⟩
    have g6 := u5.trans u6
    go_wp2_with fail
    refine (quot_works _).mono ?_
    rintro e w7 ⟨rfl, u7⟩
    have g7 := g6.trans u7
    go_wp2
    go_ret
    exact ⟨rfl, g7⟩

set_option maxRecDepth 100000 in
set_option maxHeartbeats 3200000 in
theorem quotBack_walk {v u t : Value} {a b c : List Nat} {w : World} (ha : Ws w v a) (hb : Ws w u b) (hc : Ws w t c) :
    Calls Try.prog 26 #[v, u, t] w fun e w' => e = .returned (.bool true) ∧ Up w w' := by
  obtain ⟨A, ca, rfl⟩ := ha.form
  obtain ⟨D, cb, rfl⟩ := hb.form
  obtain ⟨F, cc, rfl⟩ := hc.form
  by_cases h1 : 40 < a.length
  · go_enter Try.func26, Try.ntmps26
    go_wp2_with fail
    refine (quot_works _).mono ?_
    rintro e W1 ⟨rfl, U1⟩
    have G1 := (Up.refl w).trans U1
    clear U1
    go_wp2
    go_ret
    exact ⟨rfl, G1⟩
  by_cases h2 : 40 < b.length
  · go_enter Try.func26, Try.ntmps26
    go_wp2_with fail
    refine (quot_works _).mono ?_
    rintro e W1 ⟨rfl, U1⟩
    have G1 := (Up.refl w).trans U1
    clear U1
    go_wp2
    go_ret
    exact ⟨rfl, G1⟩
  by_cases h3 : 40 < c.length
  · go_enter Try.func26, Try.ntmps26
    go_wp2_with fail
    refine (quot_works _).mono ?_
    rintro e W1 ⟨rfl, U1⟩
    have G1 := (Up.refl w).trans U1
    clear U1
    go_wp2
    go_ret
    exact ⟨rfl, G1⟩
  by_cases h0 : Wd.val b = 0
  · have H0 := Lib.hid h0
    clear h0
    go_enter Try.func26, Try.ntmps26
    go_wp2_with fail
    refine (nat_zero hb (by omega)).mono ?_
    rintro e w1_ ⟨rfl, rfl⟩
    rw [H0.out]
    go_wp2_with fail
    refine (quot_works _).mono ?_
    rintro e W2 ⟨rfl, U2⟩
    have G2 := (Up.refl w).trans U2
    have hb := hb.up U2
    clear U2
    go_wp2
    go_ret
    exact ⟨rfl, G2⟩
  have HZ : Hid (decide (Wd.val b = 0) = false) := Lib.hid (by simpa using h0)
  have hlq := len_div ha.ok (Wd.val b)
  have hlr := len_mod ha.ok (Wd.val b)
  have la := wl a ha.ok
  have lb := wl b hb.ok
  have lc := wl c hc.ok
  have hqb := Wd.words_mul_le hlq lb
  have hcb := Wd.words_mul_le lc lb
  have hrlt := Nat.mod_lt (Wd.val a) (Nat.pos_of_ne_zero h0)
  have HS1 : Hid (Wd.vsum [Wd.words (Wd.val a / Wd.val b * Wd.val b), Wd.words (Wd.val a % Wd.val b)] = Wd.val a) := Lib.hid (by
    rw [vsum_two, Wd.val_words, Wd.val_words, Nat.mul_comm]; exact Nat.div_add_mod _ _)
  have HS2 : Hid (Wd.vsum [Wd.words (Wd.val c * Wd.val b), Wd.words (Wd.val a % Wd.val b)] = Wd.val c * Wd.val b + Wd.val a % Wd.val b) := Lib.hid (by
    rw [vsum_two, Wd.val_words, Wd.val_words])
  have HD : Hid ((Wd.val c * Wd.val b + Wd.val a % Wd.val b) / Wd.val b = Wd.val c ∧ (Wd.val c * Wd.val b + Wd.val a % Wd.val b) % Wd.val b = Wd.val a % Wd.val b) := Lib.hid (by
    have := Wd.div_of (n := Wd.val c * Wd.val b + Wd.val a % Wd.val b) rfl hrlt
    exact ⟨this.1.symm, this.2.symm⟩)
  have HLS := Lib.hid (Wd.words_add_le (a := Wd.val c * Wd.val b) (b := Wd.val a % Wd.val b) (m := 80) (by omega) (by omega))
  have HC1 := Lib.hid (Wd.cmpI_eq (a := Wd.val a) rfl)
  have HC2 := Lib.hid (Wd.cmpI_lt hrlt)
  have HC3 := Lib.hid (Wd.cmpI_eq (a := Wd.val c) rfl)
  have HC4 := Lib.hid (Wd.cmpI_eq (a := Wd.val a % Wd.val b) rfl)
  have HX : Hid (exOk (Wd.val c * Wd.val b) (Wd.val b) = true) := Lib.hid (exOk_yes h0 (Nat.mul_mod_left _ _))
  have HXN : Hid (exN (Wd.val c * Wd.val b) (Wd.val b) = Wd.words (Wd.val c)) := Lib.hid (by rw [exN_yes HX.out, Nat.mul_div_cancel _ (Nat.pos_of_ne_zero h0)])
  have H0 := Lib.hid h0
  clear h0 hrlt
  go_enter Try.func26, Try.ntmps26
  go_wp2_with fail
  refine (nat_zero hb (by omega)).mono ?_
  rintro e w1_ ⟨rfl, rfl⟩
  rw [HZ.out]
  go_wp2_with fail
  refine (quot_div ha hb (by omega) (by omega) H0.out).mono ?_
  rintro e W2 ⟨V2, V2', rfl, q, r, U2⟩
  have G2 := (Up.refl w).trans U2
  have ha := ha.up U2
  have hb := hb.up U2
  have hc := hc.up U2
  clear U2
  go_wp2_with fail
  refine (prod_mul q hb (by omega) (by omega)).mono ?_
  rintro e W3 ⟨V3, rfl, p, U3⟩
  have G3 := G2.trans U3
  have ha := ha.up U3
  have hb := hb.up U3
  have hc := hc.up U3
  have q := q.up U3
  have r := r.up U3
  clear U3 G2
  rw [Wd.val_words] at p
  obtain ⟨_, _, rfl⟩ := r.form
  obtain ⟨_, _, rfl⟩ := p.form
  have ps := wss_two p r
  go_wp2_with fail
  refine (nat_add ps (by simp) (lens_two (by omega) (by omega)) (by rw [HS1.out]; omega)).mono ?_
  rintro e W4 ⟨V4, rfl, s, U4⟩
  have G4 := (G3.alloc _).trans U4
  have ha := (ha.up ((Up.refl _).alloc _)).up U4
  have hb := (hb.up ((Up.refl _).alloc _)).up U4
  have hc := (hc.up ((Up.refl _).alloc _)).up U4
  have q := (q.up ((Up.refl _).alloc _)).up U4
  have r := (r.up ((Up.refl _).alloc _)).up U4
  have p := (p.up ((Up.refl _).alloc _)).up U4
  clear U4 G3
  rw [HS1.out] at s
  clear p ps q
  go_wp2_with fail
  refine (nat_cmp_up s ha (by omega) (by omega)).mono ?_
  rintro e W5 ⟨rfl, U5⟩
  have G5 := G4.trans U5
  have ha := ha.up U5
  have hb := hb.up U5
  have hc := hc.up U5
  have r := r.up U5
  have s := s.up U5
  clear U5 G4
  rw [Wd.val_words, HC1.out]
  clear s
  go_wp2_with fail
  refine (nat_cmp_up r hb (by omega) (by omega)).mono ?_
  rintro e W6 ⟨rfl, U6⟩
  have G6 := G5.trans U6
  have ha := ha.up U6
  have hb := hb.up U6
  have hc := hc.up U6
  have r := r.up U6
  clear U6 G5
  rw [Wd.val_words, HC2.out]
  go_wp2_with fail
  refine (prod_mul hc hb (by omega) (by omega)).mono ?_
  rintro e W7 ⟨V7, rfl, p, U7⟩
  have G7 := G6.trans U7
  have ha := ha.up U7
  have hb := hb.up U7
  have hc := hc.up U7
  have r := r.up U7
  clear U7 G6
  obtain ⟨_, _, rfl⟩ := p.form
  have ps := wss_two p r
  go_wp2_with fail
  refine (nat_add ps (by simp) (lens_two (by omega) (by omega)) (by rw [HS2.out]; exact Nat.le_trans HLS.out (by omega))).mono ?_
  rintro e W8 ⟨V8, rfl, s, U8⟩
  have G8 := (G7.alloc _).trans U8
  have ha := (ha.up ((Up.refl _).alloc _)).up U8
  have hb := (hb.up ((Up.refl _).alloc _)).up U8
  have hc := (hc.up ((Up.refl _).alloc _)).up U8
  have r := (r.up ((Up.refl _).alloc _)).up U8
  have p := (p.up ((Up.refl _).alloc _)).up U8
  clear U8 G7
  rw [HS2.out] at s
  clear p ps
  go_wp2_with fail
  refine (quot_div s hb (Nat.le_trans HLS.out (by omega)) (by omega) H0.out).mono ?_
  rintro e W9 ⟨V9, V9', rfl, d, m, U9⟩
  have G9 := G8.trans U9
  have ha := ha.up U9
  have hb := hb.up U9
  have hc := hc.up U9
  have r := r.up U9
  have s := s.up U9
  clear U9 G8
  rw [Wd.val_words, HD.out.1] at d
  rw [Wd.val_words, HD.out.2] at m
  clear s
  go_wp2_with fail
  refine (prod_mul hc hb (by omega) (by omega)).mono ?_
  rintro e W10 ⟨V10, rfl, p, U10⟩
  have G10 := G9.trans U10
  have ha := ha.up U10
  have hb := hb.up U10
  have hc := hc.up U10
  have r := r.up U10
  have d := d.up U10
  have m := m.up U10
  clear U10 G9
  go_wp2_with fail
  refine (quot_exact p hb (by omega) (by omega)).mono ?_
  rintro e W11 ⟨V11, rfl, x, U11⟩
  have G11 := G10.trans U11
  have ha := ha.up U11
  have hb := hb.up U11
  have hc := hc.up U11
  have r := r.up U11
  have d := d.up U11
  have m := m.up U11
  have p := p.up U11
  clear U11 G10
  rw [Wd.val_words, HXN.out] at x
  rw [Wd.val_words, HX.out]
  clear p
  go_wp2_with fail
  refine (nat_cmp_up d hc (by omega) (by omega)).mono ?_
  rintro e W12 ⟨rfl, U12⟩
  have G12 := G11.trans U12
  have ha := ha.up U12
  have hb := hb.up U12
  have hc := hc.up U12
  have r := r.up U12
  have d := d.up U12
  have m := m.up U12
  have x := x.up U12
  clear U12 G11
  rw [Wd.val_words, HC3.out]
  go_wp2_with fail
  refine (nat_cmp_up m r (by omega) (by omega)).mono ?_
  rintro e W13 ⟨rfl, U13⟩
  have G13 := G12.trans U13
  have ha := ha.up U13
  have hb := hb.up U13
  have hc := hc.up U13
  have r := r.up U13
  have d := d.up U13
  have m := m.up U13
  have x := x.up U13
  clear U13 G12
  rw [Wd.val_words, HC4.out]
  go_wp2_with fail
  refine (nat_cmp_up x hc (by omega) (by omega)).mono ?_
  rintro e W14 ⟨rfl, U14⟩
  have G14 := G13.trans U14
  have ha := ha.up U14
  have hb := hb.up U14
  have hc := hc.up U14
  have r := r.up U14
  have d := d.up U14
  have m := m.up U14
  have x := x.up U14
  clear U14 G13
  rw [Wd.val_words, HC3.out]
  go_wp2_with fail
  refine (quot_works _).mono ?_
  rintro e W15 ⟨rfl, U15⟩
  have G15 := G14.trans U15
  have ha := ha.up U15
  have hb := hb.up U15
  have hc := hc.up U15
  have r := r.up U15
  have d := d.up U15
  have m := m.up U15
  have x := x.up U15
  clear U15 G14
  go_wp2
  go_ret
  exact ⟨rfl, G15⟩
end Go.Proofs.Ytelgenhmmfkmhaa
