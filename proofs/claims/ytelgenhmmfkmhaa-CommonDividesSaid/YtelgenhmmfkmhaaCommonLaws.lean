/-
  The walks of the statements of layer 6.
-/
import Derived.Test.YtelgenhmmfkmhaaRefCommon
set_option linter.unusedVariables false
set_option linter.unusedSimpArgs false
namespace Go.Proofs.Ytelgenhmmfkmhaa
open Go.RowKit

theorem words_6 : Wd.words 6 = [6] := words_small (by omega) (by omega)
theorem words_12 : Wd.words 12 = [12] := words_small (by omega) (by omega)
theorem gcd_works : Nat.gcd 12 18 = 6 ∧ Nat.gcd 4 6 = 2 := by decide

set_option maxRecDepth 100000 in
set_option maxHeartbeats 1600000 in
theorem common_works (w : World) : Calls Try.prog 110 #[] w fun e w' => e = .returned (.bool true) ∧ Up w w' := by
  go_enter Try.func110, Try.ntmps110
  go_wp2_with fail
  refine (nat_of 12 rfl (by omega) _).mono ?_
  rintro e W1 ⟨V1, rfl, a, U1⟩
  have G1 := (Up.refl w).trans U1
  clear U1
  go_wp2_with fail
  refine (nat_of 18 rfl (by omega) _).mono ?_
  rintro e W2 ⟨V2, rfl, b, U2⟩
  have G2 := G1.trans U2
  have a := a.up U2
  clear U2 G1
  go_wp2_with fail
  refine (common_cancel a b (Nat.le_trans (len_words_small (by omega)) (by omega)) (Nat.le_trans (len_words_small (by omega)) (by omega))).mono ?_
  rintro e W3 ⟨V3, V3', rfl, x, y, U3⟩
  have G3 := G2.trans U3
  have a := a.up U3
  have b := b.up U3
  clear U3 G2
  rw [Wd.val_words, Wd.val_words, gcd_works.1, show 12 / 6 = 2 from rfl, words_2] at x
  rw [Wd.val_words, Wd.val_words, gcd_works.1, show 18 / 6 = 3 from rfl, words_3] at y
  clear a b
  go_wp2_with fail
  refine (nat_of 12 rfl (by omega) _).mono ?_
  rintro e W4 ⟨V4, rfl, a, U4⟩
  have G4 := G3.trans U4
  have x := x.up U4
  have y := y.up U4
  clear U4 G3
  go_wp2_with fail
  refine (nat_of 18 rfl (by omega) _).mono ?_
  rintro e W5 ⟨V5, rfl, b, U5⟩
  have G5 := G4.trans U5
  have x := x.up U5
  have y := y.up U5
  have a := a.up U5
  clear U5 G4
  go_wp2_with fail
  refine (common_gcd a b (Nat.le_trans (len_words_small (by omega)) (by omega)) (Nat.le_trans (len_words_small (by omega)) (by omega))).mono ?_
  rintro e W6 ⟨V6, rfl, g, U6⟩
  have G6 := G5.trans U6
  have x := x.up U6
  have y := y.up U6
  have a := a.up U6
  have b := b.up U6
  clear U6 G5
  rw [Wd.val_words, Wd.val_words, gcd_works.1, words_6] at g
  clear a b
  go_wp2_with fail
  refine (ref_same_yes (g.up ((Up.refl _).alloc _)) (ws_one W6 6 (by rw [Wd.B_eq]; omega)) (by simp)).mono ?_
  rintro e W7 ⟨rfl, U7⟩
  have G7 := (G6.alloc _).trans U7
  have x := (x.up ((Up.refl _).alloc _)).up U7
  have y := (y.up ((Up.refl _).alloc _)).up U7
  have g := (g.up ((Up.refl _).alloc _)).up U7
  clear U7 G6
  clear g
  go_wp2_with fail
  refine (nat_of 4 rfl (by omega) _).mono ?_
  rintro e W8 ⟨V8, rfl, a, U8⟩
  have G8 := G7.trans U8
  have x := x.up U8
  have y := y.up U8
  clear U8 G7
  go_wp2_with fail
  refine (nat_of 6 rfl (by omega) _).mono ?_
  rintro e W9 ⟨V9, rfl, b, U9⟩
  have G9 := G8.trans U9
  have x := x.up U9
  have y := y.up U9
  have a := a.up U9
  clear U9 G8
  go_wp2_with fail
  refine (common_lcm a b (Nat.le_trans (len_words_small (by omega)) (by omega)) (Nat.le_trans (len_words_small (by omega)) (by omega))).mono ?_
  rintro e W10 ⟨V10, rfl, m, U10⟩
  have G10 := G9.trans U10
  have x := x.up U10
  have y := y.up U10
  have a := a.up U10
  have b := b.up U10
  clear U10 G9
  rw [Wd.val_words, Wd.val_words, gcd_works.2, show 4 / 2 * 6 = 12 from rfl, words_12] at m
  clear a b
  go_wp2_with fail
  refine (ref_same_yes (m.up ((Up.refl _).alloc _)) (ws_one W10 12 (by rw [Wd.B_eq]; omega)) (by simp)).mono ?_
  rintro e W11 ⟨rfl, U11⟩
  have G11 := (G10.alloc _).trans U11
  have x := (x.up ((Up.refl _).alloc _)).up U11
  have y := (y.up ((Up.refl _).alloc _)).up U11
  have m := (m.up ((Up.refl _).alloc _)).up U11
  clear U11 G10
  clear m
  go_wp2_with fail
  refine (ref_same_yes (x.up ((Up.refl _).alloc _)) (ws_one W11 2 (by rw [Wd.B_eq]; omega)) (by simp)).mono ?_
  rintro e W12 ⟨rfl, U12⟩
  have G12 := (G11.alloc _).trans U12
  have x := (x.up ((Up.refl _).alloc _)).up U12
  have y := (y.up ((Up.refl _).alloc _)).up U12
  clear U12 G11
  go_wp2_with fail
  refine (ref_same_yes (y.up ((Up.refl _).alloc _)) (ws_one W12 3 (by rw [Wd.B_eq]; omega)) (by simp)).mono ?_
  rintro e W13 ⟨rfl, U13⟩
  have G13 := (G12.alloc _).trans U13
  have x := (x.up ((Up.refl _).alloc _)).up U13
  have y := (y.up ((Up.refl _).alloc _)).up U13
  clear U13 G12
  go_wp2
  go_ret
  exact ⟨rfl, G13⟩

theorem common_prime_at {v u : Value} {a b : List Nat} {w : World} {G : Nat} {t : Bool} (hG : Nat.gcd (Wd.val a) (Wd.val b) = G) (ht : decide (G = 1) = t) (ha : Ws w v a) (hb : Ws w u b) (hla : a.length ≤ 1000000) (hlb : b.length ≤ 1000000) :
    Calls Try.prog 114 #[v, u] w fun e w' => e = .returned (.bool t) ∧ Up w w' := by
  subst hG ht
  exact common_prime ha hb hla hlb
theorem ref_one_at {v : Value} {n : Nat} {w : World} {t : Bool} (ht : decide (n = 1) = t) (h : Ws w v (Wd.words n)) (hl : (Wd.words n).length ≤ 100000000) : Calls Try.prog 115 #[v] w fun e w' => e = .returned (.bool t) ∧ w = w' := by
  subst ht
  exact ref_one h hl

set_option maxRecDepth 100000 in
set_option maxHeartbeats 3200000 in
theorem commonTells_walk {v u : Value} {a b : List Nat} {w : World} (ha : Ws w v a) (hb : Ws w u b) :
    Calls Try.prog 27 #[v, u] w fun e w' => e = .returned (.bool true) ∧ Up w w' := by
  obtain ⟨A, ca, rfl⟩ := ha.form
  obtain ⟨D, cb, rfl⟩ := hb.form
  by_cases h1 : 30 < a.length
  · go_enter Try.func27, Try.ntmps27
    go_wp2_with fail
    refine (common_works _).mono ?_
    rintro e W1 ⟨rfl, U1⟩
    have G1 := (Up.refl w).trans U1
    clear U1
    go_wp2
    go_ret
    exact ⟨rfl, G1⟩
  by_cases h2 : 30 < b.length
  · go_enter Try.func27, Try.ntmps27
    go_wp2_with fail
    refine (common_works _).mono ?_
    rintro e W1 ⟨rfl, U1⟩
    have G1 := (Up.refl w).trans U1
    clear U1
    go_wp2
    go_ret
    exact ⟨rfl, G1⟩
  have la := wl a ha.ok
  have lb := wl b hb.ok
  have hl := Wd.gcd_len (n := 30) (Nat.le_trans la (by omega)) (Nat.le_trans lb (by omega))
  have hda := len_div ha.ok (Nat.gcd (Wd.val a) (Wd.val b))
  have hdb := len_div hb.ok (Nat.gcd (Wd.val a) (Wd.val b))
  have hm := Wd.words_mul_le hda lb
  generalize hG : Nat.gcd (Wd.val a) (Wd.val b) = G at *
  have HG := Lib.hid hG
  clear hG
  obtain ⟨one, HONE⟩ : ∃ one, Hid (decide (G = 1) = one) := ⟨_, Lib.hid rfl⟩
  rcases Nat.eq_zero_or_pos G with h0 | h0
  · subst h0
    go_enter Try.func27, Try.ntmps27
    go_wp2_with fail
    refine (ref_gcd ha hb (by omega) (by omega)).mono ?_
    rintro e W1 ⟨V1, rfl, g, U1⟩
    have G1 := (Up.refl w).trans U1
    have ha := ha.up U1
    have hb := hb.up U1
    clear U1
    rw [HG.out] at g
    go_wp2_with fail
    refine (common_cancel ha hb (by omega) (by omega)).mono ?_
    rintro e W2 ⟨V2, V2', rfl, x, y, U2⟩
    have G2 := G1.trans U2
    have ha := ha.up U2
    have hb := hb.up U2
    have g := g.up U2
    clear U2 G1
    rw [HG.out] at x y
    go_wp2_with fail
    refine (common_gcd ha hb (by omega) (by omega)).mono ?_
    rintro e W3 ⟨V3, rfl, g2, U3⟩
    have G3 := G2.trans U3
    have ha := ha.up U3
    have hb := hb.up U3
    have g := g.up U3
    have x := x.up U3
    have y := y.up U3
    clear U3 G2
    rw [HG.out] at g2
    go_wp2_with fail
    refine (ref_same_yes g2 g (by omega)).mono ?_
    rintro e W4 ⟨rfl, U4⟩
    have G4 := G3.trans U4
    have ha := ha.up U4
    have hb := hb.up U4
    have g := g.up U4
    have x := x.up U4
    have y := y.up U4
    have g2 := g2.up U4
    clear U4 G3
    clear g2
    go_wp2_with fail
    refine (common_prime_at HG.out HONE.out ha hb (by omega) (by omega)).mono ?_
    rintro e W5 ⟨rfl, U5⟩
    have G5 := G4.trans U5
    have ha := ha.up U5
    have hb := hb.up U5
    have g := g.up U5
    have x := x.up U5
    have y := y.up U5
    clear U5 G4
    go_wp2_with fail
    refine (ref_one_at HONE.out g (by omega)).mono ?_
    rintro e w6_ ⟨rfl, rfl⟩
    clear HONE
    cases one
    all_goals
      go_wp2_with fail
      refine (common_lcm ha hb (by omega) (by omega)).mono ?_
      rintro e W7 ⟨V7, rfl, m, U7⟩
      have G7 := G5.trans U7
      have ha := ha.up U7
      have hb := hb.up U7
      have g := g.up U7
      have x := x.up U7
      have y := y.up U7
      clear U7 G5
      rw [HG.out] at m
      go_wp2_with fail
      refine (ref_lcm ha hb (by omega) (by omega)).mono ?_
      rintro e W8 ⟨V8, rfl, m2, U8⟩
      have G8 := G7.trans U8
      have ha := ha.up U8
      have hb := hb.up U8
      have g := g.up U8
      have x := x.up U8
      have y := y.up U8
      have m := m.up U8
      clear U8 G7
      rw [HG.out] at m2
      go_wp2_with fail
      refine (ref_same_yes m m2 (by omega)).mono ?_
      rintro e W9 ⟨rfl, U9⟩
      have G9 := G8.trans U9
      have ha := ha.up U9
      have hb := hb.up U9
      have g := g.up U9
      have x := x.up U9
      have y := y.up U9
      have m := m.up U9
      have m2 := m2.up U9
      clear U9 G8
      clear m m2
      rw [Wd.words_zero] at g
      rw [Nat.div_zero, Wd.words_zero] at x y
      obtain ⟨_, _, rfl⟩ := g.form
      obtain ⟨_, _, rfl⟩ := x.form
      obtain ⟨_, _, rfl⟩ := y.form
      go_wp2_with fail
      refine (common_works _).mono ?_
      rintro e W10 ⟨rfl, U10⟩
      have G10 := G9.trans U10
      have ha := ha.up U10
      have hb := hb.up U10
      have g := g.up U10
      have x := x.up U10
      have y := y.up U10
      clear U10 G9
      go_wp2
      go_ret
      exact ⟨rfl, G10⟩
  · have hne : (((Wd.words G).length : Int) == 0) = false := by
      have : (Wd.words G).length ≠ 0 := fun h => by have := Wd.words_length_zero.1 h; omega
      simpa using this
    have H0 : Hid (G ≠ 0) := Lib.hid (by omega)
    clear h0
    go_enter Try.func27, Try.ntmps27
    go_wp2_with fail
    refine (ref_gcd ha hb (by omega) (by omega)).mono ?_
    rintro e W1 ⟨V1, rfl, g, U1⟩
    have G1 := (Up.refl w).trans U1
    have ha := ha.up U1
    have hb := hb.up U1
    clear U1
    rw [HG.out] at g
    go_wp2_with fail
    refine (common_cancel ha hb (by omega) (by omega)).mono ?_
    rintro e W2 ⟨V2, V2', rfl, x, y, U2⟩
    have G2 := G1.trans U2
    have ha := ha.up U2
    have hb := hb.up U2
    have g := g.up U2
    clear U2 G1
    rw [HG.out] at x y
    go_wp2_with fail
    refine (common_gcd ha hb (by omega) (by omega)).mono ?_
    rintro e W3 ⟨V3, rfl, g2, U3⟩
    have G3 := G2.trans U3
    have ha := ha.up U3
    have hb := hb.up U3
    have g := g.up U3
    have x := x.up U3
    have y := y.up U3
    clear U3 G2
    rw [HG.out] at g2
    go_wp2_with fail
    refine (ref_same_yes g2 g (by omega)).mono ?_
    rintro e W4 ⟨rfl, U4⟩
    have G4 := G3.trans U4
    have ha := ha.up U4
    have hb := hb.up U4
    have g := g.up U4
    have x := x.up U4
    have y := y.up U4
    have g2 := g2.up U4
    clear U4 G3
    clear g2
    go_wp2_with fail
    refine (common_prime_at HG.out HONE.out ha hb (by omega) (by omega)).mono ?_
    rintro e W5 ⟨rfl, U5⟩
    have G5 := G4.trans U5
    have ha := ha.up U5
    have hb := hb.up U5
    have g := g.up U5
    have x := x.up U5
    have y := y.up U5
    clear U5 G4
    go_wp2_with fail
    refine (ref_one_at HONE.out g (by omega)).mono ?_
    rintro e w6_ ⟨rfl, rfl⟩
    clear HONE
    cases one
    all_goals
      go_wp2_with fail
      refine (common_lcm ha hb (by omega) (by omega)).mono ?_
      rintro e W7 ⟨V7, rfl, m, U7⟩
      have G7 := G5.trans U7
      have ha := ha.up U7
      have hb := hb.up U7
      have g := g.up U7
      have x := x.up U7
      have y := y.up U7
      clear U7 G5
      rw [HG.out] at m
      go_wp2_with fail
      refine (ref_lcm ha hb (by omega) (by omega)).mono ?_
      rintro e W8 ⟨V8, rfl, m2, U8⟩
      have G8 := G7.trans U8
      have ha := ha.up U8
      have hb := hb.up U8
      have g := g.up U8
      have x := x.up U8
      have y := y.up U8
      have m := m.up U8
      clear U8 G7
      rw [HG.out] at m2
      go_wp2_with fail
      refine (ref_same_yes m m2 (by omega)).mono ?_
      rintro e W9 ⟨rfl, U9⟩
      have G9 := G8.trans U9
      have ha := ha.up U9
      have hb := hb.up U9
      have g := g.up U9
      have x := x.up U9
      have y := y.up U9
      have m := m.up U9
      have m2 := m2.up U9
      clear U9 G8
      clear m m2
      obtain ⟨_, _, rfl⟩ := g.form
      go_wp2_with fail
      refine (ref_over ha g (by omega) (by omega) H0.out).mono ?_
      rintro e W10 ⟨V10, rfl, o, U10⟩
      have G10 := G9.trans U10
      have ha := ha.up U10
      have hb := hb.up U10
      have g := g.up U10
      have x := x.up U10
      have y := y.up U10
      clear U10 G9
      go_wp2_with fail
      refine (ref_same_yes x o (by omega)).mono ?_
      rintro e W11 ⟨rfl, U11⟩
      have G11 := G10.trans U11
      have ha := ha.up U11
      have hb := hb.up U11
      have g := g.up U11
      have x := x.up U11
      have y := y.up U11
      have o := o.up U11
      clear U11 G10
      go_wp2_with fail
      refine (ref_over hb g (by omega) (by omega) H0.out).mono ?_
      rintro e W12 ⟨V12, rfl, p, U12⟩
      have G12 := G11.trans U12
      have ha := ha.up U12
      have hb := hb.up U12
      have g := g.up U12
      have x := x.up U12
      have y := y.up U12
      have o := o.up U12
      clear U12 G11
      go_wp2_with fail
      refine (ref_same_yes y p (by omega)).mono ?_
      rintro e W13 ⟨rfl, U13⟩
      have G13 := G12.trans U13
      have ha := ha.up U13
      have hb := hb.up U13
      have g := g.up U13
      have x := x.up U13
      have y := y.up U13
      have o := o.up U13
      have p := p.up U13
      clear U13 G12
      go_wp2_with fail
      refine (common_works _).mono ?_
      rintro e W14 ⟨rfl, U14⟩
      have G14 := G13.trans U14
      have ha := ha.up U14
      have hb := hb.up U14
      have g := g.up U14
      have x := x.up U14
      have y := y.up U14
      have o := o.up U14
      have p := p.up U14
      clear U14 G13
      go_wp2
      go_ret
      exact ⟨rfl, G14⟩

set_option maxRecDepth 100000 in
set_option maxHeartbeats 1600000 in
theorem commonAll_walk {v : Value} {ls : List (List Nat)} {w : World} (h : Wss w v ls) :
    Calls Try.prog 28 #[v] w fun e w' => e = .returned (.bool true) ∧ Up w w' := by
  cases hL : Wd.longL (lens ls) 60 0 with
  | true =>
    go_enter Try.func28, Try.ntmps28
    go_wp2_with fail
    refine (ref_long 60 rfl h (by omega)).mono ?_
    rintro e w1 ⟨rfl, rfl⟩
    rw [hL]
    clear hL
    go_wp2_with fail
    refine (common_works _).mono ?_
    rintro e W1 ⟨rfl, U1⟩
    have G1 := (Up.refl w).trans U1
    clear U1
    go_wp2
    go_ret
    exact ⟨rfl, G1⟩
  | false =>
    have hb := lens_false hL
    have hok := wss_ok h
    have h0 := h
    have HB := Lib.hid hb.1
    have hn2 := hb.2
    have HT := Lib.hid (Wd.vgcd_len (ls := ls) (n := 60) (fun l hl => ⟨hok l hl, hb.1 l hl⟩))
    clear hok hb
    go_enter Try.func28, Try.ntmps28
    go_wp2_with fail
    refine (ref_long 60 rfl h (by omega)).mono ?_
    rintro e w1 ⟨rfl, rfl⟩
    rw [hL]
    clear hL
    obtain ⟨A, c, vs, rfl, p2, p3, p4, p5, p6⟩ := h
    have P4 := Lib.hid p4
    have P6 := Lib.hid p6
    clear p3 p4 p6
    have hz := ws_zero w
    go_wp2_with fail
    go_loopw [3, 4] (fun s3 s4 wr => ∃ (k : Nat), s4 = .int .i64 k ∧ k ≤ ls.length ∧ Ws wr s3 (Wd.words (Wd.vgcd (ls.take k))) ∧ Up w wr) (fun _ s4 _ => ls.length - (intOf s4).toNat)
    case atStart => exact ⟨0, rfl, Nat.zero_le _, by rw [List.take_zero, Wd.vgcd_nil, Wd.words_zero]; exact hz, (Up.refl w).alloc _⟩
    case round =>
      obtain ⟨k, rfl, hk, hs3, hup⟩ := hrel
      by_cases hlt : k < ls.length
      · obtain ⟨b1, o1, u, rfl, hb1, hc1, hu⟩ := rd_words p5 P4.out P6.out hlt
        have hc2 := (hup.cell (p := ⟨b1, o1 + k, none⟩) hb1).trans hc1
        have hl1 : ls[k].length ≤ 60 := HB.out _ (List.getElem_mem hlt)
        have hl2 := HT.out k
        have HNEXT := Lib.hid (Wd.vgcd_take_succ hlt)
        clear hc1
        go_wp2_with fail
        refine (ref_gcd hs3 (hu.up hup) (by omega) (by omega)).mono ?_
        rintro e w2 ⟨s', rfl, s2, u2⟩
        rw [Wd.val_words, ← HNEXT.out] at s2
        go_wp2
        go_roundw
        case rel => exact ⟨k + 1, by go_num, by omega, s2, hup.trans u2⟩
        case measure => simp [intOf]; omega
      · obtain rfl : k = ls.length := by omega
        have hl2 := HT.out ls.length
        rw [List.take_length] at hs3 hl2
        go_wp2_with fail
        refine (common_all (h0.up hup) (by omega) (fun l hl => Nat.le_trans (HB.out l hl) (by omega))).mono ?_
        rintro e w2 ⟨v2, rfl, s2, u2⟩
        have g2 := hup.trans u2
        go_wp2_with fail
        refine (ref_same_yes s2 (hs3.up u2) (by omega)).mono ?_
        rintro e w3 ⟨rfl, u3⟩
        have g3 := g2.trans u3
        go_wp2_with fail
        refine (common_works _).mono ?_
        rintro e w4 ⟨rfl, u4⟩
        have g4 := g3.trans u4
        go_wp2
        go_ret
        exact ⟨rfl, g4⟩

theorem lcm_left {A B : Nat} : A / Nat.gcd A B * B = A * (B / Nat.gcd A B) := by
  rcases Nat.eq_zero_or_pos (Nat.gcd A B) with h | h
  · rw [h, Nat.div_zero, Nat.div_zero, Nat.zero_mul, Nat.mul_zero]
  · have h1 := Wd.div_gcd_left A B
    have h2 := Wd.div_gcd_right A B
    generalize Nat.gcd A B = G at *
    generalize hx : A / G = x at *
    generalize hy : B / G = y at *
    rw [← h1, ← h2]
    ac_rfl
theorem gcd_lcm (A B : Nat) : Nat.gcd A B * (A / Nat.gcd A B * B) = A * B := by
  rw [← Nat.mul_assoc, Wd.div_gcd_left]

set_option maxRecDepth 100000 in
set_option maxHeartbeats 3200000 in
theorem commonBoth_walk {v u : Value} {a b : List Nat} {w : World} (ha : Ws w v a) (hb : Ws w u b) :
    Calls Try.prog 29 #[v, u] w fun e w' => e = .returned (.bool true) ∧ Up w w' := by
  obtain ⟨A, ca, rfl⟩ := ha.form
  obtain ⟨D, cb, rfl⟩ := hb.form
  by_cases h1 : 20 < a.length
  · go_enter Try.func29, Try.ntmps29
    go_wp2_with fail
    refine (common_works _).mono ?_
    rintro e W1 ⟨rfl, U1⟩
    have G1 := (Up.refl w).trans U1
    clear U1
    go_wp2
    go_ret
    exact ⟨rfl, G1⟩
  by_cases h2 : 20 < b.length
  · go_enter Try.func29, Try.ntmps29
    go_wp2_with fail
    refine (common_works _).mono ?_
    rintro e W1 ⟨rfl, U1⟩
    have G1 := (Up.refl w).trans U1
    clear U1
    go_wp2
    go_ret
    exact ⟨rfl, G1⟩
  have la := wl a ha.ok
  have lb := wl b hb.ok
  have hl := Wd.gcd_len (n := 20) (Nat.le_trans la (by omega)) (Nat.le_trans lb (by omega))
  have hda := len_div ha.ok (Nat.gcd (Wd.val a) (Wd.val b))
  have hm := Wd.words_mul_le hda lb
  have hab := Wd.words_mul_le la lb
  have HGM := Lib.hid (gcd_lcm (Wd.val a) (Wd.val b))
  have HL := Lib.hid (@lcm_left (Wd.val a) (Wd.val b))
  obtain ⟨M, hM⟩ : ∃ M, M = Wd.val a / Nat.gcd (Wd.val a) (Wd.val b) * Wd.val b := ⟨_, rfl⟩
  rw [← hM] at HGM HL hm
  have HM := Lib.hid hM.symm
  by_cases ha0 : Wd.val a = 0
  · have H1 : Hid (decide (Wd.val a = 0) = true) := Lib.hid (by simpa using ha0)
    have H2 : Hid (decide (M = 0) = true) := Lib.hid (by simp [hM, ha0])
    clear ha0 hM
    go_enter Try.func29, Try.ntmps29
    go_wp2_with fail
    refine (common_lcm ha hb (by omega) (by omega)).mono ?_
    rintro e W1 ⟨V1, rfl, m, U1⟩
    have G1 := (Up.refl w).trans U1
    have ha := ha.up U1
    have hb := hb.up U1
    clear U1
    rw [HM.out] at m
    go_wp2_with fail
    refine (nat_zero ha (by omega)).mono ?_
    rintro e w2_ ⟨rfl, rfl⟩
    rw [H1.out]
    go_wp2_with fail
    refine (nat_zero m (by omega)).mono ?_
    rintro e w3_ ⟨rfl, rfl⟩
    rw [Wd.val_words, H2.out]
    go_wp2_with fail
    refine (common_works _).mono ?_
    rintro e W4 ⟨rfl, U4⟩
    have G4 := G1.trans U4
    have ha := ha.up U4
    have hb := hb.up U4
    have m := m.up U4
    clear U4 G1
    go_wp2
    go_ret
    exact ⟨rfl, G4⟩
  have H1 : Hid (decide (Wd.val a = 0) = false) := Lib.hid (by simpa using ha0)
  by_cases hb0 : Wd.val b = 0
  · have H3 : Hid (decide (Wd.val b = 0) = true) := Lib.hid (by simpa using hb0)
    have H2 : Hid (decide (M = 0) = true) := Lib.hid (by simp [hM, hb0])
    clear ha0 hb0 hM
    go_enter Try.func29, Try.ntmps29
    go_wp2_with fail
    refine (common_lcm ha hb (by omega) (by omega)).mono ?_
    rintro e W1 ⟨V1, rfl, m, U1⟩
    have G1 := (Up.refl w).trans U1
    have ha := ha.up U1
    have hb := hb.up U1
    clear U1
    rw [HM.out] at m
    go_wp2_with fail
    refine (nat_zero ha (by omega)).mono ?_
    rintro e w2_ ⟨rfl, rfl⟩
    rw [H1.out]
    go_wp2_with fail
    refine (nat_zero hb (by omega)).mono ?_
    rintro e w3_ ⟨rfl, rfl⟩
    rw [H3.out]
    go_wp2_with fail
    refine (nat_zero m (by omega)).mono ?_
    rintro e w4_ ⟨rfl, rfl⟩
    rw [Wd.val_words, H2.out]
    go_wp2_with fail
    refine (common_works _).mono ?_
    rintro e W5 ⟨rfl, U5⟩
    have G5 := G1.trans U5
    have ha := ha.up U5
    have hb := hb.up U5
    have m := m.up U5
    clear U5 G1
    go_wp2
    go_ret
    exact ⟨rfl, G5⟩
  have H3 : Hid (decide (Wd.val b = 0) = false) := Lib.hid (by simpa using hb0)
  have HX : Hid (exOk M (Wd.val a) = true) := Lib.hid (exOk_yes ha0 (by rw [HL.out]; exact Nat.mul_mod_right _ _))
  have HY : Hid (exOk M (Wd.val b) = true) := Lib.hid (exOk_yes hb0 (by rw [hM]; exact Nat.mul_mod_left _ _))
  clear ha0 hb0 hM
  go_enter Try.func29, Try.ntmps29
  go_wp2_with fail
  refine (common_lcm ha hb (by omega) (by omega)).mono ?_
  rintro e W1 ⟨V1, rfl, m, U1⟩
  have G1 := (Up.refl w).trans U1
  have ha := ha.up U1
  have hb := hb.up U1
  clear U1
  rw [HM.out] at m
  go_wp2_with fail
  refine (nat_zero ha (by omega)).mono ?_
  rintro e w2_ ⟨rfl, rfl⟩
  rw [H1.out]
  go_wp2_with fail
  refine (nat_zero hb (by omega)).mono ?_
  rintro e w3_ ⟨rfl, rfl⟩
  rw [H3.out]
  go_wp2_with fail
  refine (quot_exact m ha (by omega) (by omega)).mono ?_
  rintro e W4 ⟨V4, rfl, x, U4⟩
  have G4 := G1.trans U4
  have ha := ha.up U4
  have hb := hb.up U4
  have m := m.up U4
  clear U4 G1
  rw [Wd.val_words, HX.out]
  clear x
  go_wp2_with fail
  refine (quot_exact m hb (by omega) (by omega)).mono ?_
  rintro e W5 ⟨V5, rfl, x, U5⟩
  have G5 := G4.trans U5
  have ha := ha.up U5
  have hb := hb.up U5
  have m := m.up U5
  clear U5 G4
  rw [Wd.val_words, HY.out]
  clear x
  go_wp2_with fail
  refine (common_gcd ha hb (by omega) (by omega)).mono ?_
  rintro e W6 ⟨V6, rfl, g, U6⟩
  have G6 := G5.trans U6
  have ha := ha.up U6
  have hb := hb.up U6
  have m := m.up U6
  clear U6 G5
  go_wp2_with fail
  refine (prod_mul g m (by omega) (by omega)).mono ?_
  rintro e W7 ⟨V7, rfl, p, U7⟩
  have G7 := G6.trans U7
  have ha := ha.up U7
  have hb := hb.up U7
  have m := m.up U7
  have g := g.up U7
  clear U7 G6
  rw [Wd.val_words, Wd.val_words, HGM.out] at p
  go_wp2_with fail
  refine (prod_mul ha hb (by omega) (by omega)).mono ?_
  rintro e W8 ⟨V8, rfl, q, U8⟩
  have G8 := G7.trans U8
  have ha := ha.up U8
  have hb := hb.up U8
  have m := m.up U8
  have g := g.up U8
  have p := p.up U8
  clear U8 G7
  go_wp2_with fail
  refine (ref_same_yes p q (by omega)).mono ?_
  rintro e W9 ⟨rfl, U9⟩
  have G9 := G8.trans U9
  have ha := ha.up U9
  have hb := hb.up U9
  have m := m.up U9
  have g := g.up U9
  have p := p.up U9
  have q := q.up U9
  clear U9 G8
  go_wp2_with fail
  refine (common_works _).mono ?_
  rintro e W10 ⟨rfl, U10⟩
  have G10 := G9.trans U10
  have ha := ha.up U10
  have hb := hb.up U10
  have m := m.up U10
  have g := g.up U10
  have p := p.up U10
  have q := q.up U10
  clear U10 G9
  go_wp2
  go_ret
  exact ⟨rfl, G10⟩

set_option maxRecDepth 100000 in
set_option maxHeartbeats 3200000 in
theorem commonDivides_walk {v u t : Value} {a b c : List Nat} {w : World} (ha : Ws w v a) (hb : Ws w u b) (hc : Ws w t c) :
    Calls Try.prog 30 #[v, u, t] w fun e w' => e = .returned (.bool true) ∧ Up w w' := by
  obtain ⟨A, ca, rfl⟩ := ha.form
  obtain ⟨D, cb, rfl⟩ := hb.form
  obtain ⟨F, cc, rfl⟩ := hc.form
  by_cases h1 : 20 < a.length
  · go_enter Try.func30, Try.ntmps30
    go_wp2_with fail
    refine (common_works _).mono ?_
    rintro e W1 ⟨rfl, U1⟩
    have G1 := (Up.refl w).trans U1
    clear U1
    go_wp2
    go_ret
    exact ⟨rfl, G1⟩
  by_cases h2 : 20 < b.length
  · go_enter Try.func30, Try.ntmps30
    go_wp2_with fail
    refine (common_works _).mono ?_
    rintro e W1 ⟨rfl, U1⟩
    have G1 := (Up.refl w).trans U1
    clear U1
    go_wp2
    go_ret
    exact ⟨rfl, G1⟩
  by_cases h3 : 20 < c.length
  · go_enter Try.func30, Try.ntmps30
    go_wp2_with fail
    refine (common_works _).mono ?_
    rintro e W1 ⟨rfl, U1⟩
    have G1 := (Up.refl w).trans U1
    clear U1
    go_wp2
    go_ret
    exact ⟨rfl, G1⟩
  have la := wl a ha.ok
  have lb := wl b hb.ok
  have lc := wl c hc.ok
  have hl := Wd.gcd_len (n := 20) (Nat.le_trans la (by omega)) (Nat.le_trans lb (by omega))
  have hac := Wd.words_mul_le la lc
  have hbc := Wd.words_mul_le lb lc
  have hgc := Wd.words_mul_le hl lc
  have hda := len_div ha.ok (Nat.gcd (Wd.val a) (Wd.val b))
  have hdb := len_div hb.ok (Nat.gcd (Wd.val a) (Wd.val b))
  have HMUL := Lib.hid (Nat.gcd_mul_right (Wd.val a) (Wd.val c) (Wd.val b))
  have HCOM := Lib.hid (Nat.gcd_comm (Wd.val b) (Wd.val a))
  have HDA := Lib.hid (Nat.gcd_dvd_left (Wd.val a) (Wd.val b))
  have HDB := Lib.hid (Nat.gcd_dvd_right (Wd.val a) (Wd.val b))
  have HONE := Lib.hid (fun h => Wd.gcd_rest_one (a := Wd.val a) (b := Wd.val b) h)
  have HZ := Lib.hid (@Wd.gcd_eq_zero (Wd.val a) (Wd.val b))
  generalize hG : Nat.gcd (Wd.val a) (Wd.val b) = G at *
  have HG := Lib.hid hG
  clear hG
  by_cases ha0 : Wd.val a = 0
  · have HA : Hid (decide (Wd.val a = 0) = true) := Lib.hid (by simpa using ha0)
    by_cases hb0 : Wd.val b = 0
    · have HB : Hid (decide (Wd.val b = 0) = true) := Lib.hid (by simpa using hb0)
      have H2 : Hid (decide (G = 0) = true) := Lib.hid (by simpa using HZ.out.2 ⟨ha0, hb0⟩)
      clear ha0 hb0
      go_enter Try.func30, Try.ntmps30
      go_wp2_with fail
      refine (common_gcd ha hb (by omega) (by omega)).mono ?_
      rintro e W1 ⟨V1, rfl, g, U1⟩
      have G1 := (Up.refl w).trans U1
      have ha := ha.up U1
      have hb := hb.up U1
      have hc := hc.up U1
      clear U1
      rw [HG.out] at g
      go_wp2_with fail
      refine (prod_mul ha hc (by omega) (by omega)).mono ?_
      rintro e W2 ⟨V2, rfl, p, U2⟩
      have G2 := G1.trans U2
      have ha := ha.up U2
      have hb := hb.up U2
      have hc := hc.up U2
      have g := g.up U2
      clear U2 G1
      go_wp2_with fail
      refine (prod_mul hb hc (by omega) (by omega)).mono ?_
      rintro e W3 ⟨V3, rfl, q, U3⟩
      have G3 := G2.trans U3
      have ha := ha.up U3
      have hb := hb.up U3
      have hc := hc.up U3
      have g := g.up U3
      have p := p.up U3
      clear U3 G2
      go_wp2_with fail
      refine (common_gcd p q (by omega) (by omega)).mono ?_
      rintro e W4 ⟨V4, rfl, r, U4⟩
      have G4 := G3.trans U4
      have ha := ha.up U4
      have hb := hb.up U4
      have hc := hc.up U4
      have g := g.up U4
      have p := p.up U4
      have q := q.up U4
      clear U4 G3
      rw [Wd.val_words, Wd.val_words, HMUL.out] at r
      clear p q
      go_wp2_with fail
      refine (prod_mul g hc (by omega) (by omega)).mono ?_
      rintro e W5 ⟨V5, rfl, s, U5⟩
      have G5 := G4.trans U5
      have ha := ha.up U5
      have hb := hb.up U5
      have hc := hc.up U5
      have g := g.up U5
      have r := r.up U5
      clear U5 G4
      rw [Wd.val_words] at s
      go_wp2_with fail
      refine (ref_same_yes r s (by omega)).mono ?_
      rintro e W6 ⟨rfl, U6⟩
      have G6 := G5.trans U6
      have ha := ha.up U6
      have hb := hb.up U6
      have hc := hc.up U6
      have g := g.up U6
      have r := r.up U6
      have s := s.up U6
      clear U6 G5
      clear r s
      go_wp2_with fail
      refine (common_gcd hb ha (by omega) (by omega)).mono ?_
      rintro e W7 ⟨V7, rfl, o, U7⟩
      have G7 := G6.trans U7
      have ha := ha.up U7
      have hb := hb.up U7
      have hc := hc.up U7
      have g := g.up U7
      clear U7 G6
      rw [HCOM.out] at o
      go_wp2_with fail
      refine (ref_same_yes o g (by omega)).mono ?_
      rintro e W8 ⟨rfl, U8⟩
      have G8 := G7.trans U8
      have ha := ha.up U8
      have hb := hb.up U8
      have hc := hc.up U8
      have g := g.up U8
      have o := o.up U8
      clear U8 G7
      clear o
      go_wp2_with fail
      refine (nat_zero ha (by omega)).mono ?_
      rintro e w9_ ⟨rfl, rfl⟩
      rw [HA.out]
      go_wp2_with fail
      refine (nat_zero hb (by omega)).mono ?_
      rintro e w10_ ⟨rfl, rfl⟩
      rw [HB.out]
      go_wp2_with fail
      refine (nat_zero g (by omega)).mono ?_
      rintro e w11_ ⟨rfl, rfl⟩
      rw [Wd.val_words, H2.out]
      go_wp2_with fail
      refine (common_works _).mono ?_
      rintro e W12 ⟨rfl, U12⟩
      have G12 := G8.trans U12
      have ha := ha.up U12
      have hb := hb.up U12
      have hc := hc.up U12
      have g := g.up U12
      clear U12 G8
      go_wp2
      go_ret
      exact ⟨rfl, G12⟩
    · have HB : Hid (decide (Wd.val b = 0) = false) := Lib.hid (by simpa using hb0)
      have hg0 : G ≠ 0 := fun h => hb0 (HZ.out.1 h).2
      have HXO : Hid (exOk (Wd.val a) G = true) := Lib.hid (exOk_yes hg0 (Nat.mod_eq_zero_of_dvd HDA.out))
      have HYO : Hid (exOk (Wd.val b) G = true) := Lib.hid (exOk_yes hg0 (Nat.mod_eq_zero_of_dvd HDB.out))
      have HXN := Lib.hid (exN_yes HXO.out)
      have HYN := Lib.hid (exN_yes HYO.out)
      have HP : Hid (Nat.gcd (Wd.val (Wd.words (Wd.val a / G))) (Wd.val (Wd.words (Wd.val b / G))) = 1) := Lib.hid (by rw [Wd.val_words, Wd.val_words]; exact HONE.out hg0)
      clear hg0
      clear ha0 hb0
      go_enter Try.func30, Try.ntmps30
      go_wp2_with fail
      refine (common_gcd ha hb (by omega) (by omega)).mono ?_
      rintro e W1 ⟨V1, rfl, g, U1⟩
      have G1 := (Up.refl w).trans U1
      have ha := ha.up U1
      have hb := hb.up U1
      have hc := hc.up U1
      clear U1
      rw [HG.out] at g
      go_wp2_with fail
      refine (prod_mul ha hc (by omega) (by omega)).mono ?_
      rintro e W2 ⟨V2, rfl, p, U2⟩
      have G2 := G1.trans U2
      have ha := ha.up U2
      have hb := hb.up U2
      have hc := hc.up U2
      have g := g.up U2
      clear U2 G1
      go_wp2_with fail
      refine (prod_mul hb hc (by omega) (by omega)).mono ?_
      rintro e W3 ⟨V3, rfl, q, U3⟩
      have G3 := G2.trans U3
      have ha := ha.up U3
      have hb := hb.up U3
      have hc := hc.up U3
      have g := g.up U3
      have p := p.up U3
      clear U3 G2
      go_wp2_with fail
      refine (common_gcd p q (by omega) (by omega)).mono ?_
      rintro e W4 ⟨V4, rfl, r, U4⟩
      have G4 := G3.trans U4
      have ha := ha.up U4
      have hb := hb.up U4
      have hc := hc.up U4
      have g := g.up U4
      have p := p.up U4
      have q := q.up U4
      clear U4 G3
      rw [Wd.val_words, Wd.val_words, HMUL.out] at r
      clear p q
      go_wp2_with fail
      refine (prod_mul g hc (by omega) (by omega)).mono ?_
      rintro e W5 ⟨V5, rfl, s, U5⟩
      have G5 := G4.trans U5
      have ha := ha.up U5
      have hb := hb.up U5
      have hc := hc.up U5
      have g := g.up U5
      have r := r.up U5
      clear U5 G4
      rw [Wd.val_words] at s
      go_wp2_with fail
      refine (ref_same_yes r s (by omega)).mono ?_
      rintro e W6 ⟨rfl, U6⟩
      have G6 := G5.trans U6
      have ha := ha.up U6
      have hb := hb.up U6
      have hc := hc.up U6
      have g := g.up U6
      have r := r.up U6
      have s := s.up U6
      clear U6 G5
      clear r s
      go_wp2_with fail
      refine (common_gcd hb ha (by omega) (by omega)).mono ?_
      rintro e W7 ⟨V7, rfl, o, U7⟩
      have G7 := G6.trans U7
      have ha := ha.up U7
      have hb := hb.up U7
      have hc := hc.up U7
      have g := g.up U7
      clear U7 G6
      rw [HCOM.out] at o
      go_wp2_with fail
      refine (ref_same_yes o g (by omega)).mono ?_
      rintro e W8 ⟨rfl, U8⟩
      have G8 := G7.trans U8
      have ha := ha.up U8
      have hb := hb.up U8
      have hc := hc.up U8
      have g := g.up U8
      have o := o.up U8
      clear U8 G7
      clear o
      go_wp2_with fail
      refine (nat_zero ha (by omega)).mono ?_
      rintro e w9_ ⟨rfl, rfl⟩
      rw [HA.out]
      go_wp2_with fail
      refine (nat_zero hb (by omega)).mono ?_
      rintro e w10_ ⟨rfl, rfl⟩
      rw [HB.out]
      go_wp2_with fail
      refine (quot_exact ha g (by omega) (by omega)).mono ?_
      rintro e W11 ⟨V11, rfl, x, U11⟩
      have G11 := G8.trans U11
      have ha := ha.up U11
      have hb := hb.up U11
      have hc := hc.up U11
      have g := g.up U11
      clear U11 G8
      rw [Wd.val_words, HXN.out] at x
      rw [Wd.val_words, HXO.out]
      go_wp2_with fail
      refine (quot_exact hb g (by omega) (by omega)).mono ?_
      rintro e W12 ⟨V12, rfl, y, U12⟩
      have G12 := G11.trans U12
      have ha := ha.up U12
      have hb := hb.up U12
      have hc := hc.up U12
      have g := g.up U12
      have x := x.up U12
      clear U12 G11
      rw [Wd.val_words, HYN.out] at y
      rw [Wd.val_words, HYO.out]
      go_wp2_with fail
      refine (common_prime_at (G := 1) (t := true) HP.out rfl x y (by omega) (by omega)).mono ?_
      rintro e W13 ⟨rfl, U13⟩
      have G13 := G12.trans U13
      have ha := ha.up U13
      have hb := hb.up U13
      have hc := hc.up U13
      have g := g.up U13
      have x := x.up U13
      have y := y.up U13
      clear U13 G12
      go_wp2_with fail
      refine (common_works _).mono ?_
      rintro e W14 ⟨rfl, U14⟩
      have G14 := G13.trans U14
      have ha := ha.up U14
      have hb := hb.up U14
      have hc := hc.up U14
      have g := g.up U14
      have x := x.up U14
      have y := y.up U14
      clear U14 G13
      go_wp2
      go_ret
      exact ⟨rfl, G14⟩
  · have HA : Hid (decide (Wd.val a = 0) = false) := Lib.hid (by simpa using ha0)
    have hg0 : G ≠ 0 := fun h => ha0 (HZ.out.1 h).1
    have HXO : Hid (exOk (Wd.val a) G = true) := Lib.hid (exOk_yes hg0 (Nat.mod_eq_zero_of_dvd HDA.out))
    have HYO : Hid (exOk (Wd.val b) G = true) := Lib.hid (exOk_yes hg0 (Nat.mod_eq_zero_of_dvd HDB.out))
    have HXN := Lib.hid (exN_yes HXO.out)
    have HYN := Lib.hid (exN_yes HYO.out)
    have HP : Hid (Nat.gcd (Wd.val (Wd.words (Wd.val a / G))) (Wd.val (Wd.words (Wd.val b / G))) = 1) := Lib.hid (by rw [Wd.val_words, Wd.val_words]; exact HONE.out hg0)
    clear hg0
    clear ha0
    go_enter Try.func30, Try.ntmps30
    go_wp2_with fail
    refine (common_gcd ha hb (by omega) (by omega)).mono ?_
    rintro e W1 ⟨V1, rfl, g, U1⟩
    have G1 := (Up.refl w).trans U1
    have ha := ha.up U1
    have hb := hb.up U1
    have hc := hc.up U1
    clear U1
    rw [HG.out] at g
    go_wp2_with fail
    refine (prod_mul ha hc (by omega) (by omega)).mono ?_
    rintro e W2 ⟨V2, rfl, p, U2⟩
    have G2 := G1.trans U2
    have ha := ha.up U2
    have hb := hb.up U2
    have hc := hc.up U2
    have g := g.up U2
    clear U2 G1
    go_wp2_with fail
    refine (prod_mul hb hc (by omega) (by omega)).mono ?_
    rintro e W3 ⟨V3, rfl, q, U3⟩
    have G3 := G2.trans U3
    have ha := ha.up U3
    have hb := hb.up U3
    have hc := hc.up U3
    have g := g.up U3
    have p := p.up U3
    clear U3 G2
    go_wp2_with fail
    refine (common_gcd p q (by omega) (by omega)).mono ?_
    rintro e W4 ⟨V4, rfl, r, U4⟩
    have G4 := G3.trans U4
    have ha := ha.up U4
    have hb := hb.up U4
    have hc := hc.up U4
    have g := g.up U4
    have p := p.up U4
    have q := q.up U4
    clear U4 G3
    rw [Wd.val_words, Wd.val_words, HMUL.out] at r
    clear p q
    go_wp2_with fail
    refine (prod_mul g hc (by omega) (by omega)).mono ?_
    rintro e W5 ⟨V5, rfl, s, U5⟩
    have G5 := G4.trans U5
    have ha := ha.up U5
    have hb := hb.up U5
    have hc := hc.up U5
    have g := g.up U5
    have r := r.up U5
    clear U5 G4
    rw [Wd.val_words] at s
    go_wp2_with fail
    refine (ref_same_yes r s (by omega)).mono ?_
    rintro e W6 ⟨rfl, U6⟩
    have G6 := G5.trans U6
    have ha := ha.up U6
    have hb := hb.up U6
    have hc := hc.up U6
    have g := g.up U6
    have r := r.up U6
    have s := s.up U6
    clear U6 G5
    clear r s
    go_wp2_with fail
    refine (common_gcd hb ha (by omega) (by omega)).mono ?_
    rintro e W7 ⟨V7, rfl, o, U7⟩
    have G7 := G6.trans U7
    have ha := ha.up U7
    have hb := hb.up U7
    have hc := hc.up U7
    have g := g.up U7
    clear U7 G6
    rw [HCOM.out] at o
    go_wp2_with fail
    refine (ref_same_yes o g (by omega)).mono ?_
    rintro e W8 ⟨rfl, U8⟩
    have G8 := G7.trans U8
    have ha := ha.up U8
    have hb := hb.up U8
    have hc := hc.up U8
    have g := g.up U8
    have o := o.up U8
    clear U8 G7
    clear o
    go_wp2_with fail
    refine (nat_zero ha (by omega)).mono ?_
    rintro e w9_ ⟨rfl, rfl⟩
    rw [HA.out]
    go_wp2_with fail
    refine (quot_exact ha g (by omega) (by omega)).mono ?_
    rintro e W10 ⟨V10, rfl, x, U10⟩
    have G10 := G8.trans U10
    have ha := ha.up U10
    have hb := hb.up U10
    have hc := hc.up U10
    have g := g.up U10
    clear U10 G8
    rw [Wd.val_words, HXN.out] at x
    rw [Wd.val_words, HXO.out]
    go_wp2_with fail
    refine (quot_exact hb g (by omega) (by omega)).mono ?_
    rintro e W11 ⟨V11, rfl, y, U11⟩
    have G11 := G10.trans U11
    have ha := ha.up U11
    have hb := hb.up U11
    have hc := hc.up U11
    have g := g.up U11
    have x := x.up U11
    clear U11 G10
    rw [Wd.val_words, HYN.out] at y
    rw [Wd.val_words, HYO.out]
    go_wp2_with fail
    refine (common_prime_at (G := 1) (t := true) HP.out rfl x y (by omega) (by omega)).mono ?_
    rintro e W12 ⟨rfl, U12⟩
    have G12 := G11.trans U12
    have ha := ha.up U12
    have hb := hb.up U12
    have hc := hc.up U12
    have g := g.up U12
    have x := x.up U12
    have y := y.up U12
    clear U12 G11
    go_wp2_with fail
    refine (common_works _).mono ?_
    rintro e W13 ⟨rfl, U13⟩
    have G13 := G12.trans U13
    have ha := ha.up U13
    have hb := hb.up U13
    have hc := hc.up U13
    have g := g.up U13
    have x := x.up U13
    have y := y.up U13
    clear U13 G12
    go_wp2
    go_ret
    exact ⟨rfl, G13⟩
end Go.Proofs.Ytelgenhmmfkmhaa
