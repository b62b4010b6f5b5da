/-
  The walks of the statements of layer 2, the others.
-/
import Derived.Test.YtelgenhmmfkmhaaNatLaws
set_option linter.unusedVariables false
set_option linter.unusedSimpArgs false
namespace Go.Proofs.Ytelgenhmmfkmhaa
open Go.RowKit

theorem wss_ok {w : World} {v : Value} {ls : List (List Nat)} (h : Wss w v ls) : ∀ l ∈ ls, Wd.Ok l := by
  obtain ⟨A, c, vs, _, _, _, h4, _, h6⟩ := h
  intro l hl
  obtain ⟨i, hi, rfl⟩ := List.mem_iff_getElem.1 hl
  exact (h6 i vs[i] ls[i] (List.getElem?_eq_getElem (by omega)) (List.getElem?_eq_getElem hi)).ok
theorem lens_false {ls : List (List Nat)} {m : Nat} (h : Wd.longL (lens ls) m 0 = false) : (∀ l ∈ ls, l.length ≤ m) ∧ ls.length ≤ 100 := by
  have h1 := Wd.longL_false h
  refine ⟨fun l hl => Wd.sum_mem_le h1.1 _ (List.mem_map_of_mem hl), ?_⟩
  rcases h1.2 with h2 | h2
  · have : ls = [] := by simpa [lens] using h2
    simp [this]
  · simpa [lens] using h2

set_option maxHeartbeats 1600000 in
theorem natAdds_walk {v : Value} {ls : List (List Nat)} {w : World} (h : Wss w v ls) :
    Calls Try.prog 8 #[v] w fun e w' => e = .returned (.bool true) ∧ Up w w' := by
  cases hL : Wd.longL (lens ls) 300 0 with
  | true =>
    go_enter Try.func8, Try.ntmps8
    go_wp2_with fail
    refine (ref_long 300 rfl h (by omega)).mono ?_
    rintro e w1 ⟨rfl, rfl⟩
    rw [hL]
    clear hL
    go_wp2_with fail
    refine (nat_works _).mono ?_
    rintro e w1 ⟨rfl, u1⟩
    go_wp2
    go_ret
    exact ⟨rfl, u1⟩
  | false =>
    have hb := lens_false hL
    have hok := wss_ok h
    have hle : (Wd.words (Wd.vsum ls)).length ≤ 302 := Wd.words_vsum_le (fun l hl => ⟨hok l hl, hb.1 l hl⟩) (by omega)
    have h0 := h
    have HB := Lib.hid hb.1
    have hn2 := hb.2
    have HLE := Lib.hid hle
    clear hok hb hle
    go_enter Try.func8, Try.ntmps8
    go_wp2_with fail
    refine (ref_long 300 rfl h (by omega)).mono ?_
    rintro e w1 ⟨rfl, rfl⟩
    rw [hL]
    clear hL
    obtain ⟨A, c, vs, rfl, p2, p3, p4, p5, p6⟩ := h
    have P4 := Lib.hid p4
    have P6 := Lib.hid p6
    clear p3 p4 p6
    have hz := ws_zero w
    go_wp2_with fail
    go_loopw [3, 4] (fun s3 s4 wr => ∃ (k : Nat), s4 = .int .i64 k ∧ k ≤ ls.length ∧ Ws wr s3 (Wd.words (Wd.vsum (ls.take k))) ∧ Up w wr) (fun _ s4 _ => ls.length - (intOf s4).toNat)
    case atStart => exact ⟨0, rfl, Nat.zero_le _, by rw [List.take_zero, Wd.vsum_nil, Wd.words_zero]; exact hz, (Up.refl w).alloc _⟩
    case round =>
      obtain ⟨k, rfl, hk, hsum, hup⟩ := hrel
      by_cases hlt : k < ls.length
      · obtain ⟨b1, o1, u, rfl, hb1, hc1, hu⟩ := rd_words p5 P4.out P6.out hlt
        have hc2 := (hup.cell (p := ⟨b1, o1 + k, none⟩) hb1).trans hc1
        have hl1 : ls[k].length ≤ 300 := HB.out _ (List.getElem_mem hlt)
        have hls : (Wd.words (Wd.vsum (ls.take k))).length ≤ 302 := Nat.le_trans (Wd.words_len_take ls k) HLE.out
        have HNEXT := Lib.hid (Wd.vsum_take_succ hlt)
        clear hc1
        go_wp2_with fail
        refine (ref_add hsum (hu.up hup) (by omega) (by omega)).mono ?_
        rintro e w2 ⟨s', rfl, o2, k2, u2⟩
        have s2 := Ws.of_own o2 k2
        rw [Wd.val_words, ← HNEXT.out] at s2
        clear o2 k2
        go_wp2
        go_roundw
        case rel => exact ⟨k + 1, by go_num, by omega, s2, hup.trans u2⟩
        case measure => simp [intOf]; omega
      · obtain rfl : k = ls.length := by omega
        rw [List.take_length] at hsum
        go_wp2_with fail
        refine (nat_add (h0.up hup) (by omega) (fun l hl => Nat.le_trans (HB.out l hl) (by omega)) (Nat.le_trans HLE.out (by omega))).mono ?_
        rintro e w2 ⟨v2, rfl, s2, u2⟩
        have g2 := hup.trans u2
        go_wp2_with fail
        refine (ref_same_yes s2 (hsum.up u2) (Nat.le_trans HLE.out (by omega))).mono ?_
        rintro e w3 ⟨rfl, u3⟩
        have g3 := g2.trans u3
        go_wp2_with fail
        refine (nat_works _).mono ?_
        rintro e w4 ⟨rfl, u4⟩
        have g4 := g3.trans u4
        go_wp2
        go_ret
        exact ⟨rfl, g4⟩

theorem len_sub {a : List Nat} {n m : Nat} (ha : Wd.Ok a) (h : a.length ≤ m) (hn : n ≤ Wd.val a) : (Wd.words n).length ≤ m := Nat.le_trans (Wd.words_mono hn) (len_words_val ha h)

set_option maxHeartbeats 3200000 in
theorem natTakes_walk {v u : Value} {a b : List Nat} {w : World} (ha : Ws w v a) (hb : Ws w u b) :
    Calls Try.prog 11 #[v, u] w fun e w' => e = .returned (.bool true) ∧ Up w w' := by
  obtain ⟨A, c, rfl⟩ := ha.form
  obtain ⟨D, d, rfl⟩ := hb.form
  by_cases h1 : 300 < a.length
  · go_enter Try.func11, Try.ntmps11
    go_wp2_with fail
    refine (nat_works _).mono ?_
    rintro e w1 ⟨rfl, u1⟩
    go_wp2
    go_ret
    exact ⟨rfl, u1⟩
  · by_cases h2 : 300 < b.length
    · go_enter Try.func11, Try.ntmps11
      go_wp2_with fail
      refine (nat_works _).mono ?_
      rintro e w1 ⟨rfl, u1⟩
      go_wp2
      go_ret
      exact ⟨rfl, u1⟩
    · have hla : a.length ≤ 300 := by omega
      have hlb : b.length ≤ 300 := by omega
      clear h1 h2
      rcases Wd.cmpI_cases (Wd.val a) (Wd.val b) with ⟨h, hc⟩ | hge
      · have hd := len_sub hb.ok hlb (Nat.sub_le (Wd.val b) (Wd.val a))
        go_enter Try.func11, Try.ntmps11
        go_wp2_with fail
        refine (nat_sub_no ha hb (by omega) (by omega) h).mono ?_
        rintro e w1 ⟨v1, rfl, s1, u1⟩
        obtain ⟨A1, c1, rfl⟩ := s1.form
        go_wp2_with fail
        refine (nat_gap (ha.up u1) (hb.up u1) (by omega) (by omega)).mono ?_
        rintro e w2 ⟨v2, rfl, s2, u2⟩
        have g2 := u1.trans u2
        rw [Wd.gapN_lt h] at s2
        rw [hc]
        go_wp2_with fail
        refine (ref_cmp (ha.up g2) (hb.up g2) (by omega) (by omega)).mono ?_
        rintro e w3 ⟨rfl, rfl⟩
        rw [hc]
        have HC := Lib.hid hc
        clear hc
        go_wp2_with fail
        refine (ref_sub (hb.up g2) (ha.up g2) (by omega) (by omega) (by omega)).mono ?_
        rintro e w4 ⟨v4, rfl, o4, k4, u4⟩
        have s4 := Ws.of_own o4 k4
        have g4 := g2.trans u4
        clear o4 k4
        go_wp2_with fail
        refine (ref_same_yes (s2.up u4) s4 (by omega)).mono ?_
        rintro e w5 ⟨rfl, u5⟩
        have g5 := g4.trans u5
        go_wp2_with fail
        refine (nat_works _).mono ?_
        rintro e w6 ⟨rfl, u6⟩
        have g6 := g5.trans u6
        go_wp2
        go_ret
        exact ⟨rfl, g6⟩
      · have hle : Wd.val b ≤ Wd.val a := by rcases hge with h | h <;> omega
        have hci : Wd.cmpI (Wd.val a) (Wd.val b) = 0 ∨ Wd.cmpI (Wd.val a) (Wd.val b) = 1 := by rcases hge with h | h; exact .inl h.2; exact .inr h.2
        have hd := len_sub ha.ok hla (Nat.sub_le (Wd.val a) (Wd.val b))
        have HG := Lib.hid (Wd.gapN_ge hle)
        clear hge
        generalize hci' : Wd.cmpI (Wd.val a) (Wd.val b) = ci at hci
        have HCI := Lib.hid hci'
        clear hci'
        rcases hci with rfl | rfl
        all_goals
          go_enter Try.func11, Try.ntmps11
          go_wp2_with fail
          refine (nat_sub ha hb (by omega) (by omega) hle).mono ?_
          rintro e w1 ⟨v1, rfl, s1, u1⟩
          go_wp2_with fail
          refine (nat_gap (ha.up u1) (hb.up u1) (by omega) (by omega)).mono ?_
          rintro e w2 ⟨v2, rfl, s2, u2⟩
          have g2 := u1.trans u2
          rw [HG.out] at s2
          rw [HCI.out]
          go_wp2_with fail
          refine (ref_cmp (ha.up g2) (hb.up g2) (by omega) (by omega)).mono ?_
          rintro e w3 ⟨rfl, rfl⟩
          rw [HCI.out]
          go_wp2_with fail
          refine (ref_sub (ha.up g2) (hb.up g2) (by omega) (by omega) hle).mono ?_
          rintro e w4 ⟨v4, rfl, o4, k4, u4⟩
          have s4 := Ws.of_own o4 k4
          have g4 := g2.trans u4
          have s1 := s1.up (u2.trans u4)
          have s2 := s2.up u4
          clear o4 k4
          go_wp2_with fail
          refine (ref_same_yes s1 s4 (by omega)).mono ?_
          rintro e w5 ⟨rfl, u5⟩
          have g5 := g4.trans u5
          go_wp2_with fail
          refine (ref_same_yes (s2.up u5) (s1.up u5) (by omega)).mono ?_
          rintro e w6 ⟨rfl, u6⟩
          have g6 := g5.trans u6
          go_wp2_with fail
          refine (nat_works _).mono ?_
          rintro e w7 ⟨rfl, u7⟩
          have g7 := g6.trans u7
          go_wp2
          go_ret
          exact ⟨rfl, g7⟩

theorem lens_three {l m n : List Nat} {k : Nat} (h1 : l.length ≤ k) (h2 : m.length ≤ k) (h3 : n.length ≤ k) : ∀ x ∈ [l, m, n], x.length ≤ k := by
  intro x hx; simp at hx; rcases hx with rfl | rfl | rfl <;> assumption
theorem lens_two {l m : List Nat} {k : Nat} (h1 : l.length ≤ k) (h2 : m.length ≤ k) : ∀ x ∈ [l, m], x.length ≤ k := by
  intro x hx; simp at hx; rcases hx with rfl | rfl <;> assumption
theorem vsum_two (a b : List Nat) : Wd.vsum [a, b] = Wd.val a + Wd.val b := by simp [Wd.vsum_cons, Wd.vsum_nil]
theorem vsum_three (a b c : List Nat) : Wd.vsum [a, b, c] = Wd.val a + (Wd.val b + Wd.val c) := by simp [Wd.vsum_cons, Wd.vsum_nil]

set_option maxHeartbeats 3200000 in
theorem natBack_walk {v u t : Value} {a b c : List Nat} {w : World} (ha : Ws w v a) (hb : Ws w u b) (hc : Ws w t c) :
    Calls Try.prog 9 #[v, u, t] w fun e w' => e = .returned (.bool true) ∧ Up w w' := by
  obtain ⟨A, ca, rfl⟩ := ha.form
  obtain ⟨D, cb, rfl⟩ := hb.form
  obtain ⟨F, cc, rfl⟩ := hc.form
  by_cases h1 : 200 < a.length
  · go_enter Try.func9, Try.ntmps9
    go_wp2_with fail
    refine (nat_works _).mono ?_
    rintro e w1 ⟨rfl, u1⟩
    go_wp2
    go_ret
    exact ⟨rfl, u1⟩
  by_cases h2 : 200 < b.length
  · go_enter Try.func9, Try.ntmps9
    go_wp2_with fail
    refine (nat_works _).mono ?_
    rintro e w1 ⟨rfl, u1⟩
    go_wp2
    go_ret
    exact ⟨rfl, u1⟩
  by_cases h3 : 200 < c.length
  · go_enter Try.func9, Try.ntmps9
    go_wp2_with fail
    refine (nat_works _).mono ?_
    rintro e w1 ⟨rfl, u1⟩
    go_wp2
    go_ret
    exact ⟨rfl, u1⟩
  have hla : a.length ≤ 200 := by omega
  have hlb : b.length ≤ 200 := by omega
  have hlc : c.length ≤ 200 := by omega
  clear h1 h2 h3
  have la := len_words_val ha.ok hla
  have lb := len_words_val hb.ok hlb
  have lc := len_words_val hc.ok hlc
  have lbc := Wd.words_add_le lb lc
  have lba := Wd.words_add_le lb la
  have labc := Wd.words_add_le (Nat.le_trans la (show 200 ≤ 202 by omega)) lbc
  have e1 : Wd.val a + (Wd.val b + Wd.val c) - Wd.val c = Wd.val b + Wd.val a := by omega
  have e2 : Wd.val b + Wd.val a - Wd.val b = Wd.val a := by omega
  have e3 : Wd.val c + (Wd.val b + Wd.val a) = Wd.val a + (Wd.val b + Wd.val c) := by omega
  have E1 := Lib.hid e1
  have E2 := Lib.hid e2
  have E3 := Lib.hid e3
  clear e1 e2 e3
  have LE : Hid (Wd.val c ≤ Wd.val a + (Wd.val b + Wd.val c) ∧ Wd.val b ≤ Wd.val b + Wd.val a) := Lib.hid (by omega)
  have HCA := Lib.hid (Wd.cmpI_eq (rfl : Wd.val a = Wd.val a))
  have hge : 0 ≤ Wd.cmpI (Wd.val a + (Wd.val b + Wd.val c)) (Wd.val a) := by
    have := @Wd.cmpI_neg (Wd.val a + (Wd.val b + Wd.val c)) (Wd.val a)
    omega
  go_enter Try.func9, Try.ntmps9
  go_wp2_with fail
  refine (nat_add (wss_three ha hb hc) (by simp) (lens_three (by omega) (by omega) (by omega)) (by rw [vsum_three]; omega)).mono ?_
  rintro e w1 ⟨v1, rfl, s1, u1⟩
  have g1 := ((Up.refl w).alloc _).trans u1
  rw [vsum_three] at s1
  go_wp2_with fail
  refine (nat_sub s1 (hc.up g1) (by omega) (by omega) (by rw [Wd.val_words]; exact LE.out.1)).mono ?_
  rintro e w2 ⟨v2, rfl, s2, u2⟩
  have g2 := g1.trans u2
  rw [Wd.val_words, E1.out] at s2
  go_wp2_with fail
  refine (nat_sub s2 (hb.up g2) (by omega) (by omega) (by rw [Wd.val_words]; exact LE.out.2)).mono ?_
  rintro e w3 ⟨v3, rfl, s3, u3⟩
  have g3 := g2.trans u3
  have s1 := s1.up (u2.trans u3)
  rw [Wd.val_words, E2.out] at s3
  go_wp2_with fail
  refine (nat_cmp_up s3 (ha.up g3) (by omega) (by omega)).mono ?_
  rintro e w4 ⟨rfl, u4⟩
  have g4 := g3.trans u4
  have s1 := s1.up u4
  rw [Wd.val_words, HCA.out]
  go_wp2_with fail
  refine (nat_add (wss_two (hb.up g4) (ha.up g4)) (by simp) (lens_two (by omega) (by omega)) (by rw [vsum_two]; omega)).mono ?_
  rintro e w5 ⟨v5, rfl, s5, u5⟩
  have g5 := (g4.alloc _).trans u5
  have s1 := s1.up (((Up.refl _).alloc _).trans u5)
  rw [vsum_two] at s5
  obtain ⟨A5, c5, rfl⟩ := s5.form
  go_wp2_with fail
  refine (nat_add (wss_two (hc.up g5) s5) (by simp) (lens_two (by omega) (by omega)) (by rw [vsum_two, Wd.val_words, E3.out]; omega)).mono ?_
  rintro e w6 ⟨v6, rfl, s6, u6⟩
  have g6 := (g5.alloc _).trans u6
  have s1 := s1.up (((Up.refl _).alloc _).trans u6)
  rw [vsum_two, Wd.val_words, E3.out] at s6
  go_wp2_with fail
  refine (ref_same_yes s1 s6 (by omega)).mono ?_
  rintro e w7 ⟨rfl, u7⟩
  have g7 := g6.trans u7
  have s1 := s1.up u7
  go_wp2_with fail
  refine (nat_cmp_up s1 (ha.up g7) (by omega) (by omega)).mono ?_
  rintro e w8 ⟨rfl, u8⟩
  have g8 := g7.trans u8
  rw [Wd.val_words]
  go_wp2_with fail
  refine (nat_works _).mono ?_
  rintro e w9 ⟨rfl, u9⟩
  have g9 := g8.trans u9
  go_wp2
  go_ret
  exact ⟨rfl, g9⟩
end Go.Proofs.Ytelgenhmmfkmhaa
