/-
  Noughts appended to a row of the call's own.
  The walks of layer 6.
-/
import Derived.Test.YtmmcffceeahemaaGreatZtMem
import Derived.Lib.AppendZerosOnto
import Derived.Test.YtmmcffceeahemaaGreatZtLowQuot
import Derived.Test.YtmmcffceeahemaaGreatZtPlain
import Derived.Test.YtmmcffceeahemaaGreatZtLowTwos
import Derived.Deep.LoopGhost
import Derived.Test.YtmmcffceeahemaaGreatZtShort
set_option linter.unusedVariables false
set_option linter.unusedSimpArgs false
namespace Go.Proofs.YtmmcffceeahemaaGreat
open Go.RowKit
set_option maxHeartbeats 800000 in
theorem common_small {xi yi : Int} (x y : Nat) (hx : xi = x) (hy : yi = y) (bx : x < 18446744073709551616) (b_y : y < 18446744073709551616) (w : World) :
 Calls Tryz.prog 192 #[.int .u64 xi, .int .u64 yi] w fun e w' => e = .returned (.int .u64 ((Nat.gcd x y : Nat) : Int)) ∧ Up w w' := by
 subst hx hy
 have HX := Lib.hid bx
 have HY := Lib.hid b_y
 clear bx b_y
 go_enter Tryz.func192, Tryz.ntmps192
 go_wp2
 go_loopw [0, 1] (fun s0 s1 wr => ∃ (a b : Nat), s0 = .int .u64 a ∧ s1 = .int .u64 b ∧ Hid (a < 18446744073709551616 ∧ b < 18446744073709551616) ∧ Hid (Nat.gcd a b = Nat.gcd x y) ∧ Up w wr) (fun _ s1 _ => (intOf s1).toNat)
 case atStart => exact ⟨x, y, rfl, rfl, Lib.hid ⟨HX.out, HY.out⟩, Lib.hid rfl, Up.refl w⟩
 case round =>
  obtain ⟨a, b, rfl, rfl, HB, HG, hup⟩ := hrel
  rcases Nat.eq_zero_or_pos b with h0 | h0
  · subst h0
    have HE : Hid (Nat.gcd x y = a) := Lib.hid (by rw [← HG.out, Nat.gcd_zero_right])
    go_wp2
    go_ret
    exact ⟨by rw [HE.out]; rfl, hup⟩
  · have hb0 : ((b : Int) == 0) = false := by simp; omega
    have hb1 : ((b : Int) != 0) = true := by simp; omega
    have hb2 : (b = 0) = False := eq_false (by omega)
    have HN : Hid (Nat.gcd b (a % b) = Nat.gcd x y) := Lib.hid (by rw [Wd.gcd_rest]; exact HG.out)
    have hlt := Nat.mod_lt a h0
    obtain ⟨r, hr⟩ : ∃ r, r = a % b := ⟨_, rfl⟩
    rw [← hr] at HN hlt
    have HR : Hid ((a : Int) % (b : Int) = (r : Int)) := Lib.hid (by rw [hr, Int.natCast_emod])
    have HRT : Hid ((a : Int).tmod (b : Int) = (r : Int)) := Lib.hid (by rw [Int.tmod_eq_emod_of_nonneg (by omega)]; exact HR.out)
    have HB2 : Hid (b < 18446744073709551616 ∧ r < 18446744073709551616) := Lib.hid ⟨HB.out.2, by have := HB.out.2; omega⟩
    clear hr
    go_wp2
    go_region
    all_goals
     rw [HR.out]
     have hup2 := hup.drew
     go_wp2
     go_roundw
     case rel => exact ⟨b, r, rfl, rfl, HB2, HN, hup2⟩
     case measure => simp [intOf]; omega
set_option maxRecDepth 100000 in
set_option maxHeartbeats 1600000 in
theorem common_gcd {v u : Value} {a b : List Nat} {w : World} (ha : Ws w v a) (hb : Ws w u b) (hla : a.length ≤ 100000000) (hlb : b.length ≤ 100000000) :
 Calls Tryz.prog 184 #[v, u] w (RetW (Wd.words (Nat.gcd (Wd.val a) (Wd.val b))) w) := by
 have hal := len_words_val ha.ok hla
 have hbl := len_words_val hb.ok hlb
 go_enter Tryz.func184, Tryz.ntmps184
 go_wp2_with fail
 refine (nat_norm ha (by omega)).mono ?_
 intro e W1 ret1
 obtain ⟨V1, rfl, s1, U1⟩ := ret1.ws
 clear ret1
 have G1 := (Up.refl w).trans U1
 have ha := ha.up U1
 have hb := hb.up U1
 clear U1
 go_wp2_with fail
 refine (nat_norm hb (by omega)).mono ?_
 intro e W2 ret2
 obtain ⟨V2, rfl, s2, U2⟩ := ret2.ws
 clear ret2
 have G2 := G1.trans U2
 have ha := ha.up U2
 have hb := hb.up U2
 have s1 := s1.up U2
 clear U2 G1
 have g2 := G2
 clear ha hb
 go_wp2_with fail
 go_loopg [0, 1] (Wd.val b) (fun n s0 s1 wr => ∃ (m : Nat), Ws wr s0 (Wd.words m) ∧ Ws wr s1 (Wd.words n) ∧ Hid ((Wd.words m).length ≤ 100000000 ∧ (Wd.words n).length ≤ 100000000) ∧ Hid (Nat.gcd m n = Nat.gcd (Wd.val a) (Wd.val b)) ∧ Up w wr)
 case atStart => exact ⟨Wd.val a, s1, s2, Lib.hid ⟨hal, hbl⟩, Lib.hid rfl, g2⟩
 case round =>
  obtain ⟨m, h0, h1, HL, HG, hup⟩ := hrel
  have hl := HL.out
  obtain ⟨A, c, rfl⟩ := h0.form
  obtain ⟨D, d, rfl⟩ := h1.form
  by_cases hlt : 2 < (Wd.words gk).length
  · have HN0 : Hid (Wd.val (Wd.words gk) ≠ 0) := Lib.hid (by
     rw [Wd.val_words]
     intro h
     rw [h, Wd.words_zero] at hlt
     simp at hlt)
    have HN : Hid (Nat.gcd gk (m % gk) = Nat.gcd (Wd.val a) (Wd.val b)) := Lib.hid (by rw [Wd.gcd_rest]; exact HG.out)
    have HLT : Hid (m % gk < gk) := Lib.hid (Nat.mod_lt _ (Nat.pos_of_ne_zero (by have := HN0.out; rw [Wd.val_words] at this; exact this)))
    have HL2 : Hid ((Wd.words gk).length ≤ 100000000 ∧ (Wd.words (m % gk)).length ≤ 100000000) := Lib.hid ⟨hl.2, Nat.le_trans (Wd.words_mono (Nat.le_of_lt HLT.out)) hl.2⟩
    go_wp2_with fail
    refine (quot_div h0 h1 (by omega) (by omega) HN0.out).mono ?_
    rintro e W1 ⟨V1, V1', rfl, q, r, U1⟩
    have G1 := (Up.refl wr).trans U1
    have h0 := h0.up U1
    have h1 := h1.up U1
    clear U1
    rw [Wd.val_words, Wd.val_words] at r
    have g1 := hup.trans G1
    go_wp2
    go_roundg (m % gk)
    case measure => exact HLT.out
    case rel => exact ⟨gk, h1, r, HL2, HN, g1⟩
  · rcases Nat.eq_zero_or_pos gk with hz | hz
    · subst hz
      have HE : Hid (Nat.gcd (Wd.val a) (Wd.val b) = m) := Lib.hid (by rw [← HG.out, Nat.gcd_zero_right])
      rw [Wd.words_zero] at *
      go_wp2
      go_ret
      exact ⟨_, rfl, by rw [HE.out]; exact h0, hup⟩
    · have HN0 : Hid (Wd.val (Wd.words gk) ≠ 0) := Lib.hid (by rw [Wd.val_words]; omega)
      have hne : ((Wd.words gk).length : Int) ≠ 0 := by
       have : (Wd.words gk).length ≠ 0 := fun h => by have := Wd.words_length_zero.1 h; omega
       omega
      have hne2 : (((Wd.words gk).length : Int) == 0) = false := by simpa using hne
      have HN : Hid (Nat.gcd gk (m % gk) = Nat.gcd (Wd.val a) (Wd.val b)) := Lib.hid (by rw [Wd.gcd_rest]; exact HG.out)
      have HLT := Lib.hid (Nat.mod_lt m hz)
      have hl2 : (Wd.words gk).length ≤ 2 := by omega
      have hl3 : (Wd.words (m % gk)).length ≤ 2 := Nat.le_trans (Wd.words_mono (Nat.le_of_lt HLT.out)) hl2
      have HB : Hid (gk < 18446744073709551616 ∧ m % gk < 18446744073709551616) := Lib.hid (by
       have h1 := Wd.words_length_le_iff.1 hl2
       have h2 := Wd.words_length_le_iff.1 hl3
       rw [Wd.B_eq] at h1 h2
       exact ⟨h1, h2⟩)
      have HG2 : Hid (Nat.gcd gk (m % gk) < 18446744073709551616) := Lib.hid (Nat.lt_of_le_of_lt (Nat.gcd_le_left _ hz) HB.out.1)
      have HS1 := Lib.hid (small_yes hl2)
      have HS2 := Lib.hid (small_yes hl3)
      clear hne hz
      go_wp2_with fail
      refine (quot_div h0 h1 (by omega) (by omega) HN0.out).mono ?_
      rintro e W1 ⟨V1, V1', rfl, q, r, U1⟩
      have G1 := (Up.refl wr).trans U1
      have h0 := h0.up U1
      have h1 := h1.up U1
      clear U1
      rw [Wd.val_words, Wd.val_words] at r
      go_wp2_with fail
      refine (nat_small h1 (by omega)).mono ?_
      rintro e w2_ ⟨rfl, rfl⟩
      rw [Wd.val_words, HS1.out]
      go_wp2_with fail
      refine (nat_small r (by omega)).mono ?_
      rintro e w3_ ⟨rfl, rfl⟩
      rw [Wd.val_words, HS2.out]
      go_wp2_with fail
      refine (common_small gk (m % gk) rfl rfl HB.out.1 HB.out.2 _).mono ?_
      rintro e W4 ⟨rfl, U4⟩
      have G4 := G1.trans U4
      have h0 := h0.up U4
      have h1 := h1.up U4
      have q := q.up U4
      have r := r.up U4
      clear U4 G1
      rw [HN.out]
      go_wp2_with fail
      refine (nat_of (Nat.gcd (Wd.val a) (Wd.val b)) rfl (by rw [← HN.out]; exact HG2.out) _).mono ?_
      rintro e W5 ⟨V5, rfl, o, U5⟩
      have G5 := G4.trans U5
      have h0 := h0.up U5
      have h1 := h1.up U5
      have q := q.up U5
      have r := r.up U5
      clear U5 G4
      have g5 := hup.trans G5
      go_wp2
      go_ret
      exact ⟨_, rfl, o, g5⟩
/-- Two slices. -/
def RetWW (l m : List Nat) (w : World) (e : Ending) (w' : World) : Prop := ∃ v u, e = .returned (.tuple #[v, u]) ∧ Ws w' v l ∧ Ws w' u m ∧ Up w w'
theorem ret_ww {v u : Value} {l l' m m' : List Nat} {w w' : World} (hs : Ws w' v l) (hr : Ws w' u m) (h1 : l = l') (h2 : m = m') (hu : Up w w') : RetWW l' m' w (.returned (.tuple #[v, u])) w' := ⟨v, u, rfl, by rw [← h1]; exact hs, by rw [← h2]; exact hr, hu⟩
theorem one_cases (n : Nat) : ((Wd.words n).length ≠ 1 ∧ decide (n = 1) = false) ∨ ∃ x, Wd.words n = [x] ∧ x = n := by
 by_cases h : (Wd.words n).length = 1
 · obtain ⟨x, hx⟩ := List.length_eq_one_iff.1 h
   refine .inr ⟨x, hx, ?_⟩
   have := Wd.val_words n
   rw [hx] at this
   simpa [Wd.val] using this
 · refine .inl ⟨h, ?_⟩
   have : n ≠ 1 := fun e => h (by rw [e, words_1]; rfl)
   simpa using this
set_option maxHeartbeats 800000 in
theorem common_one {v : Value} {n : Nat} {w : World} (h : Ws w v (Wd.words n)) (hl : (Wd.words n).length ≤ 10000000000) : Calls Tryz.prog 185 #[v] w fun e w' => e = .returned (.bool (decide (n = 1))) ∧ w = w' := by
 rcases one_cases n with ⟨h1, h2⟩ | ⟨x, hx, rfl⟩
 · have H2 := Lib.hid h2
   clear h2
   obtain ⟨A, c, rfl⟩ := h.form
   have h3 : (((Wd.words n).length : Int) == 1) = false := by simp; omega
   go_enter Tryz.func185, Tryz.ntmps185
   go_wp2
   go_ret
   exact ⟨by rw [H2.out]; rfl, rfl⟩
 · rw [hx] at h
   clear hx hl
   obtain ⟨A, c, rfl, _, _, _, p5⟩ := h
   obtain ⟨b1, o1, rfl, hb1, hc1⟩ := rd_word_D p5 (k := 0) (by simp)
   have hc1 : w.cell? ⟨b1, o1, none⟩ = some (.int .u32 (x : Int)) := hc1
   have HE : Hid (decide (x = 1) = ((x : Int) == 1)) := Lib.hid (by rw [Bool.eq_iff_iff]; simp; omega)
   go_enter Tryz.func185, Tryz.ntmps185
   go_wp2
   go_ret
   exact ⟨by rw [HE.out]; rfl, rfl⟩
set_option maxHeartbeats 800000 in
theorem ref_one {v : Value} {n : Nat} {w : World} (h : Ws w v (Wd.words n)) (hl : (Wd.words n).length ≤ 10000000000) : Calls Tryz.prog 103 #[v] w fun e w' => e = .returned (.bool (decide (n = 1))) ∧ w = w' := by
 rcases one_cases n with ⟨h1, h2⟩ | ⟨x, hx, rfl⟩
 · have H2 := Lib.hid h2
   clear h2
   obtain ⟨A, c, rfl⟩ := h.form
   have h3 : (((Wd.words n).length : Int) == 1) = false := by simp; omega
   go_enter Tryz.func103, Tryz.ntmps103
   go_wp2
   go_ret
   exact ⟨by rw [H2.out]; rfl, rfl⟩
 · rw [hx] at h
   clear hx hl
   obtain ⟨A, c, rfl, _, _, _, p5⟩ := h
   obtain ⟨b1, o1, rfl, hb1, hc1⟩ := rd_word_D p5 (k := 0) (by simp)
   have hc1 : w.cell? ⟨b1, o1, none⟩ = some (.int .u32 (x : Int)) := hc1
   have HE : Hid (decide (x = 1) = ((x : Int) == 1)) := Lib.hid (by rw [Bool.eq_iff_iff]; simp; omega)
   go_enter Tryz.func103, Tryz.ntmps103
   go_wp2
   go_ret
   exact ⟨by rw [HE.out]; rfl, rfl⟩
set_option maxHeartbeats 1600000 in
theorem common_cancel {v u : Value} {a b : List Nat} {w : World} (ha : Ws w v a) (hb : Ws w u b) (hla : a.length ≤ 100000000) (hlb : b.length ≤ 100000000) :
 Calls Tryz.prog 171 #[v, u] w (RetWW (Wd.words (Wd.val a / Nat.gcd (Wd.val a) (Wd.val b))) (Wd.words (Wd.val b / Nat.gcd (Wd.val a) (Wd.val b))) w) := by
 have hl := Wd.gcd_len (len_words_val ha.ok hla) (len_words_val hb.ok hlb)
 generalize hG : Nat.gcd (Wd.val a) (Wd.val b) = G at *
 have HG := Lib.hid hG
 clear hG
 rcases Nat.eq_zero_or_pos G with h0 | h0
 · subst h0
   go_enter Tryz.func171, Tryz.ntmps171
   go_wp2_with fail
   refine (common_gcd ha hb hla hlb).mono ?_
   rintro e W1 ⟨V1, rfl, g, U1⟩
   have G1 := (Up.refl w).trans U1
   have ha := ha.up U1
   have hb := hb.up U1
   clear U1
   rw [HG.out, Wd.words_zero] at g
   obtain ⟨_, _, rfl⟩ := g.form
   go_wp2
   go_ret2
   exact ret_ww (Ws.nil _) (Ws.nil _) (by rw [Nat.div_zero, Wd.words_zero]) (by rw [Nat.div_zero, Wd.words_zero]) G1
 · have hne : (((Wd.words G).length : Int) == 0) = false := by
    have : (Wd.words G).length ≠ 0 := fun h => by have := Wd.words_length_zero.1 h; omega
    simpa using this
   by_cases h1 : G = 1
   · have H1 : Hid (decide (G = 1) = true) := Lib.hid (by simpa using h1)
     have HD : Hid (Wd.val a / G = Wd.val a ∧ Wd.val b / G = Wd.val b) := Lib.hid (by rw [h1, Nat.div_one, Nat.div_one]; exact ⟨rfl, rfl⟩)
     clear h1 h0
     go_enter Tryz.func171, Tryz.ntmps171
     go_wp2_with fail
     refine (common_gcd ha hb hla hlb).mono ?_
     rintro e W1 ⟨V1, rfl, g, U1⟩
     have G1 := (Up.refl w).trans U1
     have ha := ha.up U1
     have hb := hb.up U1
     clear U1
     rw [HG.out] at g
     obtain ⟨_, _, rfl⟩ := g.form
     go_wp2_with fail
     refine (common_one g (by omega)).mono ?_
     rintro e w2_ ⟨rfl, rfl⟩
     rw [H1.out]
     go_wp2_with fail
     refine (nat_norm ha (by omega)).mono ?_
     intro e W3 ret3
     obtain ⟨V3, rfl, x, U3⟩ := ret3.ws
     clear ret3
     have G3 := G1.trans U3
     have ha := ha.up U3
     have hb := hb.up U3
     have g := g.up U3
     clear U3 G1
     go_wp2_with fail
     refine (nat_norm hb (by omega)).mono ?_
     intro e W4 ret4
     obtain ⟨V4, rfl, y, U4⟩ := ret4.ws
     clear ret4
     have G4 := G3.trans U4
     have ha := ha.up U4
     have hb := hb.up U4
     have g := g.up U4
     have x := x.up U4
     clear U4 G3
     go_wp2
     go_ret2
     exact ret_ww x y (by rw [HD.out.1]) (by rw [HD.out.2]) G4
   · have H1 : Hid (decide (G = 1) = false) := Lib.hid (by simpa using h1)
     have H0 : Hid (Wd.val (Wd.words G) ≠ 0) := Lib.hid (by rw [Wd.val_words]; omega)
     clear h1 h0
     go_enter Tryz.func171, Tryz.ntmps171
     go_wp2_with fail
     refine (common_gcd ha hb hla hlb).mono ?_
     rintro e W1 ⟨V1, rfl, g, U1⟩
     have G1 := (Up.refl w).trans U1
     have ha := ha.up U1
     have hb := hb.up U1
     clear U1
     rw [HG.out] at g
     obtain ⟨_, _, rfl⟩ := g.form
     go_wp2_with fail
     refine (common_one g (by omega)).mono ?_
     rintro e w2_ ⟨rfl, rfl⟩
     rw [H1.out]
     go_wp2_with fail
     refine (quot_div ha g (by omega) (by omega) H0.out).mono ?_
     rintro e W3 ⟨V3, V3', rfl, x, x', U3⟩
     have G3 := G1.trans U3
     have ha := ha.up U3
     have hb := hb.up U3
     have g := g.up U3
     clear U3 G1
     rw [Wd.val_words] at x
     go_wp2_with fail
     refine (quot_div hb g (by omega) (by omega) H0.out).mono ?_
     rintro e W4 ⟨V4, V4', rfl, y, y', U4⟩
     have G4 := G3.trans U4
     have ha := ha.up U4
     have hb := hb.up U4
     have g := g.up U4
     have x := x.up U4
     have x' := x'.up U4
     clear U4 G3
     rw [Wd.val_words] at y
     go_wp2
     go_ret2
     exact ret_ww x y rfl rfl G4
end Go.Proofs.YtmmcffceeahemaaGreat
