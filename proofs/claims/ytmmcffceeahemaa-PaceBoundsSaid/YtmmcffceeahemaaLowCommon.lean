/-
  The walks of layer 6.
  The walks of the document's layer 6: by halves, in place.
-/
import Derived.Test.YtmmcffceeahemaaLowRefQuot
import Derived.Test.YtmmcffceeahemaaPlain
import Derived.Test.YtmmcffceeahemaaLowTwos
import Derived.Deep.LoopGhost
set_option linter.unusedVariables false
set_option linter.unusedSimpArgs false
namespace Go.Proofs.Ytmmcffceeahemaa
open Go.RowKit

set_option maxHeartbeats 800000 in
theorem common_small {xi yi : Int} (x y : Nat) (hx : xi = x) (hy : yi = y) (bx : x < 18446744073709551616) (b_y : y < 18446744073709551616) (w : World) :
    Calls Try.prog 194 #[.int .u64 xi, .int .u64 yi] w fun e w' => e = .returned (.int .u64 ((Nat.gcd x y : Nat) : Int)) ∧ Up w w' := by
  subst hx hy
  have HX := Lib.hid bx
  have HY := Lib.hid b_y
  clear bx b_y
  go_enter Try.func194, Try.ntmps194
  go_wp2
  go_loopw [0, 1] (fun s0 s1 wr => ∃ (a b : Nat), s0 = .int .u64 a ∧ s1 = .int .u64 b ∧ Hid (a < 18446744073709551616 ∧ b < 18446744073709551616) ∧ Hid (Nat.gcd a b = Nat.gcd x y) ∧ Up w wr) (fun _ s1 _ => (intOf s1).toNat)
  case atStart => exact ⟨x, y, rfl, rfl, Lib.hid ⟨HX.out, HY.out⟩, Lib.hid rfl, Up.refl w⟩
  case round =>
    obtain ⟨a, b, rfl, rfl, HB, HG, hup⟩ := hrel
    rcases Nat.eq_zero_or_pos b with h0 | h0
    · subst h0
      have HE : Hid (Nat.gcd x y = a) := Lib.hid (by rw [← HG.out, Nat.gcd_zero_right])
      go_wp2
      go_ret
      exact ⟨by rw [HE.out]; rfl, hup⟩
    · have hb0 : ((b : Int) == 0) = false := by simp; omega
      have hb1 : ((b : Int) != 0) = true := by simp; omega
      have hb2 : (b = 0) = False := eq_false (by omega)
      have HN : Hid (Nat.gcd b (a % b) = Nat.gcd x y) := Lib.hid (by rw [Wd.gcd_rest]; exact HG.out)
      have hlt := Nat.mod_lt a h0
      obtain ⟨r, hr⟩ : ∃ r, r = a % b := ⟨_, rfl⟩
      rw [← hr] at HN hlt
      have HR : Hid ((a : Int) % (b : Int) = (r : Int)) := Lib.hid (by rw [hr, Int.natCast_emod])
      have HRT : Hid ((a : Int).tmod (b : Int) = (r : Int)) := Lib.hid (by rw [Int.tmod_eq_emod_of_nonneg (by omega)]; exact HR.out)
      have HB2 : Hid (b < 18446744073709551616 ∧ r < 18446744073709551616) := Lib.hid ⟨HB.out.2, by have := HB.out.2; omega⟩
      clear hr
      go_wp2
      go_region
      all_goals
        rw [HR.out]
        have hup2 := hup.drew
        go_wp2
        go_roundw
        case rel => exact ⟨b, r, rfl, rfl, HB2, HN, hup2⟩
        case measure => simp [intOf]; omega

set_option maxRecDepth 100000 in
set_option maxHeartbeats 1600000 in
theorem common_gcd {v u : Value} {a b : List Nat} {w : World} (ha : Ws w v a) (hb : Ws w u b) (hla : a.length ≤ 100000000) (hlb : b.length ≤ 100000000) :
    Calls Try.prog 182 #[v, u] w (RetW (Wd.words (Nat.gcd (Wd.val a) (Wd.val b))) w) := by
  have hal := len_words_val ha.ok hla
  have hbl := len_words_val hb.ok hlb
  go_enter Try.func182, Try.ntmps182
  go_wp2_with fail
  refine (nat_norm ha (by omega)).mono ?_
  intro e W1 ret1
  obtain ⟨V1, rfl, s1, U1⟩ := ret1.ws
  clear ret1
  have G1 := (Up.refl w).trans U1
  have ha := ha.up U1
  have hb := hb.up U1
  clear U1
  go_wp2_with fail
  refine (nat_norm hb (by omega)).mono ?_
  intro e W2 ret2
  obtain ⟨V2, rfl, s2, U2⟩ := ret2.ws
  clear ret2
  have G2 := G1.trans U2
  have ha := ha.up U2
  have hb := hb.up U2
  have s1 := s1.up U2
  clear U2 G1
  have g2 := G2
  clear ha hb
  go_wp2_with fail
  go_loopg [0, 1] (Wd.val b) (fun n s0 s1 wr => ∃ (m : Nat), Ws wr s0 (Wd.words m) ∧ Ws wr s1 (Wd.words n) ∧ Hid ((Wd.words m).length ≤ 100000000 ∧ (Wd.words n).length ≤ 100000000) ∧ Hid (Nat.gcd m n = Nat.gcd (Wd.val a) (Wd.val b)) ∧ Up w wr)
  case atStart => exact ⟨Wd.val a, s1, s2, Lib.hid ⟨hal, hbl⟩, Lib.hid rfl, g2⟩
  case round =>
    obtain ⟨m, h0, h1, HL, HG, hup⟩ := hrel
    have hl := HL.out
    obtain ⟨A, c, rfl⟩ := h0.form
    obtain ⟨D, d, rfl⟩ := h1.form
    by_cases hlt : 2 < (Wd.words gk).length
    · have HN0 : Hid (Wd.val (Wd.words gk) ≠ 0) := Lib.hid (by
        rw [Wd.val_words]
        intro h
        rw [h, Wd.words_zero] at hlt
        simp at hlt)
      have HN : Hid (Nat.gcd gk (m % gk) = Nat.gcd (Wd.val a) (Wd.val b)) := Lib.hid (by rw [Wd.gcd_rest]; exact HG.out)
      have HLT : Hid (m % gk < gk) := Lib.hid (Nat.mod_lt _ (Nat.pos_of_ne_zero (by have := HN0.out; rw [Wd.val_words] at this; exact this)))
      have HL2 : Hid ((Wd.words gk).length ≤ 100000000 ∧ (Wd.words (m % gk)).length ≤ 100000000) := Lib.hid ⟨hl.2, Nat.le_trans (Wd.words_mono (Nat.le_of_lt HLT.out)) hl.2⟩
      go_wp2_with fail
      refine (quot_div h0 h1 (by omega) (by omega) HN0.out).mono ?_
      rintro e W1 ⟨V1, V1', rfl, q, r, U1⟩
      have G1 := (Up.refl wr).trans U1
      have h0 := h0.up U1
      have h1 := h1.up U1
      clear U1
      rw [Wd.val_words, Wd.val_words] at r
      have g1 := hup.trans G1
      go_wp2
      go_roundg (m % gk)
      case measure => exact HLT.out
      case rel => exact ⟨gk, h1, r, HL2, HN, g1⟩
    · rcases Nat.eq_zero_or_pos gk with hz | hz
      · subst hz
        have HE : Hid (Nat.gcd (Wd.val a) (Wd.val b) = m) := Lib.hid (by rw [← HG.out, Nat.gcd_zero_right])
        rw [Wd.words_zero] at *
        go_wp2
        go_ret
        exact ⟨_, rfl, by rw [HE.out]; exact h0, hup⟩
      · have HN0 : Hid (Wd.val (Wd.words gk) ≠ 0) := Lib.hid (by rw [Wd.val_words]; omega)
        have hne : ((Wd.words gk).length : Int) ≠ 0 := by
          have : (Wd.words gk).length ≠ 0 := fun h => by have := Wd.words_length_zero.1 h; omega
          omega
        have hne2 : (((Wd.words gk).length : Int) == 0) = false := by simpa using hne
        have HN : Hid (Nat.gcd gk (m % gk) = Nat.gcd (Wd.val a) (Wd.val b)) := Lib.hid (by rw [Wd.gcd_rest]; exact HG.out)
        have HLT := Lib.hid (Nat.mod_lt m hz)
        have hl2 : (Wd.words gk).length ≤ 2 := by omega
        have hl3 : (Wd.words (m % gk)).length ≤ 2 := Nat.le_trans (Wd.words_mono (Nat.le_of_lt HLT.out)) hl2
        have HB : Hid (gk < 18446744073709551616 ∧ m % gk < 18446744073709551616) := Lib.hid (by
          have h1 := Wd.words_length_le_iff.1 hl2
          have h2 := Wd.words_length_le_iff.1 hl3
          rw [Wd.B_eq] at h1 h2
          exact ⟨h1, h2⟩)
        have HG2 : Hid (Nat.gcd gk (m % gk) < 18446744073709551616) := Lib.hid (Nat.lt_of_le_of_lt (Nat.gcd_le_left _ hz) HB.out.1)
        have HS1 := Lib.hid (small_yes hl2)
        have HS2 := Lib.hid (small_yes hl3)
        clear hne hz
        go_wp2_with fail
        refine (quot_div h0 h1 (by omega) (by omega) HN0.out).mono ?_
        rintro e W1 ⟨V1, V1', rfl, q, r, U1⟩
        have G1 := (Up.refl wr).trans U1
        have h0 := h0.up U1
        have h1 := h1.up U1
        clear U1
        rw [Wd.val_words, Wd.val_words] at r
        go_wp2_with fail
        refine (nat_small h1 (by omega)).mono ?_
        rintro e w2_ ⟨rfl, rfl⟩
        rw [Wd.val_words, HS1.out]
        go_wp2_with fail
        refine (nat_small r (by omega)).mono ?_
        rintro e w3_ ⟨rfl, rfl⟩
        rw [Wd.val_words, HS2.out]
        go_wp2_with fail
        refine (common_small gk (m % gk) rfl rfl HB.out.1 HB.out.2 _).mono ?_
        rintro e W4 ⟨rfl, U4⟩
        have G4 := G1.trans U4
        have h0 := h0.up U4
        have h1 := h1.up U4
        have q := q.up U4
        have r := r.up U4
        clear U4 G1
        rw [HN.out]
        go_wp2_with fail
        refine (nat_of (Nat.gcd (Wd.val a) (Wd.val b)) rfl (by rw [← HN.out]; exact HG2.out) _).mono ?_
        rintro e W5 ⟨V5, rfl, o, U5⟩
        have G5 := G4.trans U5
        have h0 := h0.up U5
        have h1 := h1.up U5
        have q := q.up U5
        have r := r.up U5
        clear U5 G4
        have g5 := hup.trans G5
        go_wp2
        go_ret
        exact ⟨_, rfl, o, g5⟩

/-- Two slices. -/
def RetWW (l m : List Nat) (w : World) (e : Ending) (w' : World) : Prop := ∃ v u, e = .returned (.tuple #[v, u]) ∧ Ws w' v l ∧ Ws w' u m ∧ Up w w'
theorem ret_ww {v u : Value} {l l' m m' : List Nat} {w w' : World} (hs : Ws w' v l) (hr : Ws w' u m) (h1 : l = l') (h2 : m = m') (hu : Up w w') : RetWW l' m' w (.returned (.tuple #[v, u])) w' := ⟨v, u, rfl, by rw [← h1]; exact hs, by rw [← h2]; exact hr, hu⟩

theorem one_cases (n : Nat) : ((Wd.words n).length ≠ 1 ∧ decide (n = 1) = false) ∨ ∃ x, Wd.words n = [x] ∧ x = n := by
  by_cases h : (Wd.words n).length = 1
  · obtain ⟨x, hx⟩ := List.length_eq_one_iff.1 h
    refine .inr ⟨x, hx, ?_⟩
    have := Wd.val_words n
    rw [hx] at this
    simpa [Wd.val] using this
  · refine .inl ⟨h, ?_⟩
    have : n ≠ 1 := fun e => h (by rw [e, words_1]; rfl)
    simpa using this

set_option maxHeartbeats 800000 in
theorem common_one {v : Value} {n : Nat} {w : World} (h : Ws w v (Wd.words n)) (hl : (Wd.words n).length ≤ 10000000000) : Calls Try.prog 183 #[v] w fun e w' => e = .returned (.bool (decide (n = 1))) ∧ w = w' := by
  rcases one_cases n with ⟨h1, h2⟩ | ⟨x, hx, rfl⟩
  · have H2 := Lib.hid h2
    clear h2
    obtain ⟨A, c, rfl⟩ := h.form
    have h3 : (((Wd.words n).length : Int) == 1) = false := by simp; omega
    go_enter Try.func183, Try.ntmps183
    go_wp2
    go_ret
    exact ⟨by rw [H2.out]; rfl, rfl⟩
  · rw [hx] at h
    clear hx hl
    obtain ⟨A, c, rfl, _, _, _, p5⟩ := h
    obtain ⟨b1, o1, rfl, hb1, hc1⟩ := rd_word_D p5 (k := 0) (by simp)
    have hc1 : w.cell? ⟨b1, o1, none⟩ = some (.int .u32 (x : Int)) := hc1
    have HE : Hid (decide (x = 1) = ((x : Int) == 1)) := Lib.hid (by rw [Bool.eq_iff_iff]; simp; omega)
    go_enter Try.func183, Try.ntmps183
    go_wp2
    go_ret
    exact ⟨by rw [HE.out]; rfl, rfl⟩
set_option maxHeartbeats 800000 in
theorem ref_one {v : Value} {n : Nat} {w : World} (h : Ws w v (Wd.words n)) (hl : (Wd.words n).length ≤ 10000000000) : Calls Try.prog 108 #[v] w fun e w' => e = .returned (.bool (decide (n = 1))) ∧ w = w' := by
  rcases one_cases n with ⟨h1, h2⟩ | ⟨x, hx, rfl⟩
  · have H2 := Lib.hid h2
    clear h2
    obtain ⟨A, c, rfl⟩ := h.form
    have h3 : (((Wd.words n).length : Int) == 1) = false := by simp; omega
    go_enter Try.func108, Try.ntmps108
    go_wp2
    go_ret
    exact ⟨by rw [H2.out]; rfl, rfl⟩
  · rw [hx] at h
    clear hx hl
    obtain ⟨A, c, rfl, _, _, _, p5⟩ := h
    obtain ⟨b1, o1, rfl, hb1, hc1⟩ := rd_word_D p5 (k := 0) (by simp)
    have hc1 : w.cell? ⟨b1, o1, none⟩ = some (.int .u32 (x : Int)) := hc1
    have HE : Hid (decide (x = 1) = ((x : Int) == 1)) := Lib.hid (by rw [Bool.eq_iff_iff]; simp; omega)
    go_enter Try.func108, Try.ntmps108
    go_wp2
    go_ret
    exact ⟨by rw [HE.out]; rfl, rfl⟩


set_option maxHeartbeats 1600000 in
theorem common_cancel {v u : Value} {a b : List Nat} {w : World} (ha : Ws w v a) (hb : Ws w u b) (hla : a.length ≤ 100000000) (hlb : b.length ≤ 100000000) :
    Calls Try.prog 159 #[v, u] w (RetWW (Wd.words (Wd.val a / Nat.gcd (Wd.val a) (Wd.val b))) (Wd.words (Wd.val b / Nat.gcd (Wd.val a) (Wd.val b))) w) := by
  have hl := Wd.gcd_len (len_words_val ha.ok hla) (len_words_val hb.ok hlb)
  generalize hG : Nat.gcd (Wd.val a) (Wd.val b) = G at *
  have HG := Lib.hid hG
  clear hG
  rcases Nat.eq_zero_or_pos G with h0 | h0
  · subst h0
    go_enter Try.func159, Try.ntmps159
    go_wp2_with fail
    refine (common_gcd ha hb hla hlb).mono ?_
    rintro e W1 ⟨V1, rfl, g, U1⟩
    have G1 := (Up.refl w).trans U1
    have ha := ha.up U1
    have hb := hb.up U1
    clear U1
    rw [HG.out, Wd.words_zero] at g
    obtain ⟨_, _, rfl⟩ := g.form
    go_wp2
    go_ret2
    exact ret_ww (Ws.nil _) (Ws.nil _) (by rw [Nat.div_zero, Wd.words_zero]) (by rw [Nat.div_zero, Wd.words_zero]) G1
  · have hne : (((Wd.words G).length : Int) == 0) = false := by
      have : (Wd.words G).length ≠ 0 := fun h => by have := Wd.words_length_zero.1 h; omega
      simpa using this
    by_cases h1 : G = 1
    · have H1 : Hid (decide (G = 1) = true) := Lib.hid (by simpa using h1)
      have HD : Hid (Wd.val a / G = Wd.val a ∧ Wd.val b / G = Wd.val b) := Lib.hid (by rw [h1, Nat.div_one, Nat.div_one]; exact ⟨rfl, rfl⟩)
      clear h1 h0
      go_enter Try.func159, Try.ntmps159
      go_wp2_with fail
      refine (common_gcd ha hb hla hlb).mono ?_
      rintro e W1 ⟨V1, rfl, g, U1⟩
      have G1 := (Up.refl w).trans U1
      have ha := ha.up U1
      have hb := hb.up U1
      clear U1
      rw [HG.out] at g
      obtain ⟨_, _, rfl⟩ := g.form
      go_wp2_with fail
      refine (common_one g (by omega)).mono ?_
      rintro e w2_ ⟨rfl, rfl⟩
      rw [H1.out]
      go_wp2_with fail
      refine (nat_norm ha (by omega)).mono ?_
      intro e W3 ret3
      obtain ⟨V3, rfl, x, U3⟩ := ret3.ws
      clear ret3
      have G3 := G1.trans U3
      have ha := ha.up U3
      have hb := hb.up U3
      have g := g.up U3
      clear U3 G1
      go_wp2_with fail
      refine (nat_norm hb (by omega)).mono ?_
      intro e W4 ret4
      obtain ⟨V4, rfl, y, U4⟩ := ret4.ws
      clear ret4
      have G4 := G3.trans U4
      have ha := ha.up U4
      have hb := hb.up U4
      have g := g.up U4
      have x := x.up U4
      clear U4 G3
      go_wp2
      go_ret2
      exact ret_ww x y (by rw [HD.out.1]) (by rw [HD.out.2]) G4
    · have H1 : Hid (decide (G = 1) = false) := Lib.hid (by simpa using h1)
      have H0 : Hid (Wd.val (Wd.words G) ≠ 0) := Lib.hid (by rw [Wd.val_words]; omega)
      clear h1 h0
      go_enter Try.func159, Try.ntmps159
      go_wp2_with fail
      refine (common_gcd ha hb hla hlb).mono ?_
      rintro e W1 ⟨V1, rfl, g, U1⟩
      have G1 := (Up.refl w).trans U1
      have ha := ha.up U1
      have hb := hb.up U1
      clear U1
      rw [HG.out] at g
      obtain ⟨_, _, rfl⟩ := g.form
      go_wp2_with fail
      refine (common_one g (by omega)).mono ?_
      rintro e w2_ ⟨rfl, rfl⟩
      rw [H1.out]
      go_wp2_with fail
      refine (quot_div ha g (by omega) (by omega) H0.out).mono ?_
      rintro e W3 ⟨V3, V3', rfl, x, x', U3⟩
      have G3 := G1.trans U3
      have ha := ha.up U3
      have hb := hb.up U3
      have g := g.up U3
      clear U3 G1
      rw [Wd.val_words] at x
      go_wp2_with fail
      refine (quot_div hb g (by omega) (by omega) H0.out).mono ?_
      rintro e W4 ⟨V4, V4', rfl, y, y', U4⟩
      have G4 := G3.trans U4
      have ha := ha.up U4
      have hb := hb.up U4
      have g := g.up U4
      have x := x.up U4
      have x' := x'.up U4
      clear U4 G3
      rw [Wd.val_words] at y
      go_wp2
      go_ret2
      exact ret_ww x y rfl rfl G4



end Go.Proofs.Ytmmcffceeahemaa
set_option linter.unusedVariables false
set_option linter.unusedSimpArgs false
namespace Go.Proofs.Ytmmcffceeahemaa
open Go.RowKit

/-- A right list that stands in the midst of a block. -/
def Mid (w : World) (v : Value) (g n : Nat) : Prop :=
  ∃ (off c : Nat) (pre rest : List Value), v = .slice (some ⟨g, off, none⟩) (Wd.words n).length c ∧ pre.length = off ∧ BlkP w g pre (Wd.words n) rest ∧ (Wd.words n).length ≤ c ∧ c ≤ maxLen
theorem Mid.up {w w' : World} {v : Value} {g n : Nat} (h : Mid w v g n) (k : Up w w') : Mid w' v g n := by
  obtain ⟨off, c, pre, rest, h1, h2, h3, h4, h5⟩ := h
  exact ⟨off, c, pre, rest, h1, h2, h3.up k, h4, h5⟩
theorem Mid.other {w w' : World} {v : Value} {g n h : Nat} (m : Mid w v g n) (k : Only h w w') (hne : g ≠ h) : Mid w' v g n := by
  obtain ⟨off, c, pre, rest, h1, h2, h3, h4, h5⟩ := m
  exact ⟨off, c, pre, rest, h1, h2, h3.other k hne, h4, h5⟩
theorem Mid.ws {w : World} {v : Value} {g n : Nat} (m : Mid w v g n) : Ws w v (Wd.words n) := by
  obtain ⟨off, c, pre, rest, rfl, h2, h3, h4, h5⟩ := m
  exact h3.ws h2 (Wd.ok_words n) h4 h5
theorem Mid.stays {w : World} {v : Value} {g n h : Nat} (m : Mid w v g n) (hne : g ≠ h) : Stays h w v (Wd.words n) := fun w' k => (m.other k hne).ws
theorem Mid.of_own {w : World} {base : Nat} {v : Value} {n : Nat} (h : w.ownsRow base 150 1 v (Wd.words n).length ((Wd.words n).map wv)) (hn : n ≠ 0) : ∃ g, Mid w v g n ∧ base ≤ g ∧ g < w.heap.size := by
  have hl : 0 < (Wd.words n).length := Nat.pos_of_ne_zero (fun h => hn (Wd.words_length_zero.1 h))
  obtain ⟨g, c, rest, rfl, h1, h2, h3, h4⟩ := own_blk h hl
  exact ⟨g, ⟨0, c, [], rest, rfl, rfl, h4.mid, h2, h3⟩, h1, h4.lt⟩

/-- What halving leaves. -/
def RetDown (g off c : Nat) (pre : List Value) (n : Nat) (w : World) (e : Ending) (w' : World) : Prop :=
  ∃ rest', e = .returned (.slice (some ⟨g, off, none⟩) (Wd.words n).length c) ∧ BlkP w' g pre (Wd.words n) rest' ∧ Only g w w'

theorem down_at {a p : List Nat} {n i : Nat} (ha : Wd.Ok a) (hn : n < 32) (hi : i < p.length) (h2 : p.drop i = a.drop i) (h : Wd.DownAt a p 0 n i) :
    Wd.DownAt a (p.set i ((p.getD i 0 + Wd.B * p.getD (i + 1) 0) / 2 ^ n % Wd.B)) 0 n (i + 1) ∧ (p.set i ((p.getD i 0 + Wd.B * p.getD (i + 1) 0) / 2 ^ n % Wd.B)).drop (i + 1) = a.drop (i + 1) := by
  have h3 : p.drop (i + 1) = a.drop (i + 1) := by rw [← List.drop_drop, h2, List.drop_drop]
  refine ⟨?_, by rw [List.drop_set_of_lt (by omega)]; exact h3⟩
  have e := Wd.downAt_step ha (w := 0) hn hi h
  rw [Nat.zero_add] at e
  rw [Wd.getD_of_drop h2, Wd.getD_of_drop h3]
  exact e
theorem down_end {a p : List Nat} {n : Nat} (ha : Wd.Ok a) (hl : p.length = a.length) (h : Wd.DownAt a p 0 n a.length) : Wd.val p = Wd.val a / 2 ^ n := by
  have e := Wd.downAt_end ha (w := 0) (b := n) (o := p) (by omega) (by omega) (by rw [Nat.sub_zero]; exact h)
  rw [Nat.mul_zero, Nat.zero_add] at e
  exact e
theorem cast_down3 (x y k : Nat) : (((y : Int) * 4294967296 + (x : Int)) / 2 ^ k % 4294967296) = (((x + Wd.B * y) / 2 ^ k % Wd.B : Nat) : Int) := by
  rw [← cast_down2, Int.add_comm, Int.mul_comm]

set_option maxRecDepth 100000 in
set_option maxHeartbeats 1600000 in
theorem ref_down6 {w : World} {a : List Nat} {pre rest : List Value} {g off N c : Nat} {ni : Int} (n : Nat) (hni : ni = n) (hn : n < 32) (hp : pre.length = off) (hN : a.length = N) (hb : BlkP w g pre a rest) (ho : Wd.Ok a) (hbig : a.length ≤ 100000000000) (hc : a.length ≤ c) :
    Calls Try.prog 180 #[.slice (some ⟨g, off, none⟩) N c, .int .i64 ni] w (RetDown g off c pre (Wd.val a / 2 ^ n) w) := by
  subst hN hni
  have HPR := Lib.hid hp
  have HO := Lib.hid ho
  clear hp ho
  go_enter Try.func180, Try.ntmps180
  go_wp2
  go_loopw [5, 6] (fun s5 s6 wr => ∃ (i : Nat) (p : List Nat), s5 = .int .i64 i ∧ i ≤ a.length ∧ Hid (p.length = a.length) ∧ Hid (Wd.Ok p) ∧ BlkP wr g pre p rest ∧ Only g w wr ∧ Hid (p.drop i = a.drop i) ∧ Hid (Wd.DownAt a p 0 n i)) (fun s5 _ _ => a.length - (intOf s5).toNat)
  case atStart => exact ⟨0, a, rfl, Nat.zero_le _, Lib.hid rfl, HO, hb, Only.refl _ _, Lib.hid rfl, Lib.hid (Wd.downAt_zero a a 0 n)⟩
  case round =>
    obtain ⟨i, p, rfl, hi, HL, HP, hbl, hon, HD, HAT⟩ := hrel
    by_cases hlt : i < a.length
    · have hx := Wd.ok_getD HP.out i
      have hy := Wd.ok_getD HP.out (i + 1)
      have hil : i < p.length := by rw [HL.out]; exact hlt
      have HN := Lib.hid (down_at HO.out hn hil HD.out HAT.out)
      have HP2 := Lib.hid (Wd.ok_set HP.out i (x := (p.getD i 0 + Wd.B * p.getD (i + 1) 0) / 2 ^ n % Wd.B) (Nat.mod_lt _ Wd.B_pos))
      have HL2 : ∀ x, Hid ((p.set i x).length = a.length) := fun x => Lib.hid (by rw [List.length_set]; exact HL.out)
      have hcg := hbl.cellD HPR.out hil
      have hfg := hbl.free (off + i)
      rw [Wd.B_eq] at hx hy
      by_cases hlt2 : i + 1 < a.length
      · have hcg2 := hbl.cellD HPR.out (i := i + 1) (by rw [HL.out]; exact hlt2)
        have hbl2 := Lib.hid (hbl.set HPR.out hil ((p.getD i 0 + Wd.B * p.getD (i + 1) 0) / 2 ^ n % Wd.B))
        generalize p.getD i 0 = x at *
        generalize p.getD (i + 1) 0 = y at *
        go_wp2
        go_roundw
        case rel => exact ⟨i + 1, _, by go_num, by omega, HL2 _, HP2, by rw [cast_down3]; exact hbl2.out, hon.set _ _, Lib.hid HN.out.2, Lib.hid HN.out.1⟩
        case measure => simp [intOf]; omega
      · have hy0 := getD_ge p (i := i + 1) (by rw [HL.out]; omega)
        have hbl2 := Lib.hid (hbl.set HPR.out hil ((p.getD i 0 + Wd.B * p.getD (i + 1) 0) / 2 ^ n % Wd.B))
        rw [hy0, Nat.mul_zero, Nat.add_zero] at HN HP2 hbl2
        clear hy0 hy
        generalize p.getD i 0 = x at *
        go_wp2
        go_roundw
        case rel => exact ⟨i + 1, _, by go_num, by omega, HL2 _, HP2, by rw [cast_down1]; exact hbl2.out, hon.set _ _, Lib.hid HN.out.2, Lib.hid HN.out.1⟩
        case measure => simp [intOf]; omega
    · obtain rfl : i = a.length := by omega
      have HE := Lib.hid (down_end HO.out HL.out HAT.out)
      have HW := Lib.hid (Wd.words_val HP.out)
      clear HD HAT hi
      generalize hA : a.length = L at *
      have HAL := Lib.hid hA
      clear hA
      have hfin : ∀ k, k ≤ L → Wd.trim p = p.take k → Wd.words (Wd.val a / 2 ^ n) = p.take k ∧ (p.take k).length = k := fun k hk ht => by
        rw [← HE.out, HW.out, ht, List.length_take, HL.out]
        exact ⟨rfl, by omega⟩
      have HF := Lib.hid hfin
      clear hfin
      go_wp2
      go_loopg [0] L (fun k s0 wq => s0 = .slice (some ⟨g, off, none⟩) k c ∧ k ≤ L ∧ Hid (Wd.trim (p.take k) = Wd.trim p) ∧ wr = wq)
      case atStart => exact ⟨rfl, Nat.le_refl _, Lib.hid (by rw [List.take_of_length_le (by rw [HL.out]; omega)]), rfl⟩
      case round =>
        obtain ⟨rfl, hk, HT, rfl⟩ := hrel
        match gk, hk, HT with
        | 0, hk, HT =>
          have HF0 := Lib.hid (HF.out 0 (by omega) HT.out.symm)
          go_wp2
          go_ret
          exact ⟨_, by rw [HF0.out.1]; rfl, by rw [HF0.out.1]; exact hbl.cut 0, hon⟩
        | k + 1, hk, HT =>
          have hkl : k < p.length := by rw [HL.out]; exact hk
          have hcg := hbl.cellD HPR.out hkl
          have hgd : p.getD k 0 = p[k] := getD_lt p hkl
          by_cases h0 : p.getD k 0 = 0
          · have HN : Hid (Wd.trim (p.take k) = Wd.trim p) := Lib.hid (by rw [← HT.out, Wd.trim_take_of_zero hkl (by rw [← hgd]; exact h0)])
            rw [h0] at hcg
            clear h0 hgd
            go_wp2
            go_roundg k
            case measure => omega
            case rel => exact ⟨by simp, by omega, HN, rfl⟩
          · have HT2 : Hid (Wd.trim p = p.take (k + 1)) := Lib.hid (by rw [← HT.out, Wd.trim_take_of_ne hkl (by rw [← hgd]; exact h0)])
            have HF0 := Lib.hid (HF.out (k + 1) hk HT2.out)
            clear hgd
            generalize p.getD k 0 = x at *
            have hx0 : ((x : Int) == 0) = false := by simpa using h0
            clear h0
            go_wp2
            go_ret
            exact ⟨_, by rw [HF0.out.1, HF0.out.2]; rfl, by rw [HF0.out.1]; exact hbl.cut (k + 1), hon⟩

/-- What is left of a number without the noughts at its end; and how many there were. -/
def RetOdd (g n : Nat) (w : World) (e : Ending) (w' : World) : Prop :=
  ∃ v, e = .returned (.tuple #[v, .int .i64 ((Wd.tz n : Nat) : Int)]) ∧ Mid w' v g (Wd.oddN n) ∧ Only g w w'

/-- Noughts in front: k words of them are gone. -/
def OddAt (a l : List Nat) (k : Nat) : Prop := Wd.val a = Wd.B ^ k * Wd.val l ∧ k + l.length = a.length ∧ Wd.val l ≠ 0 ∧ Wd.Ok l
theorem oddAt_step {a l : List Nat} {k : Nat} (h : OddAt a (0 :: l) k) : OddAt a l (k + 1) := by
  obtain ⟨h1, h2, h3, h4⟩ := h
  simp only [Wd.val, Nat.zero_add] at h1 h3
  refine ⟨by rw [h1, Nat.pow_succ, Nat.mul_assoc], by simp only [List.length_cons] at h2; omega, fun h => h3 (by rw [h, Nat.mul_zero]), (Wd.ok_cons.1 h4).2⟩
theorem oddAt_end {a l : List Nat} {x k : Nat} (hx : x ≠ 0) (h : OddAt a (x :: l) k) : Wd.tz (Wd.val a) = 32 * k + Wd.tz x ∧ Wd.val (x :: l) / 2 ^ Wd.tz x = Wd.oddN (Wd.val a) := by
  obtain ⟨h1, h2, h3, h4⟩ := h
  have hxB := (Wd.ok_cons.1 h4).1
  have e1 : Wd.tz (Wd.val (x :: l)) = Wd.tz x := Wd.tz_add_big hx hxB
  have e2 : Wd.tz (Wd.val a) = 32 * k + Wd.tz x := by rw [h1, Wd.B_pow, Wd.tz_mul_pow _ h3, e1]
  refine ⟨e2, ?_⟩
  unfold Wd.oddN
  rw [e2, h1, Wd.B_pow, Nat.pow_add, ← Nat.div_div_eq_div_mul, Nat.mul_div_cancel_left _ (Nat.two_pow_pos _)]

set_option maxRecDepth 100000 in
set_option maxHeartbeats 1600000 in
theorem ref_odd6 {w : World} {a : List Nat} {pre rest : List Value} {g off N c : Nat} (hp : pre.length = off) (hN : a.length = N) (hb : BlkP w g pre a rest) (ho : Wd.Ok a) (hbig : a.length ≤ 10000000000) (hc : a.length ≤ c) (hcm : c ≤ maxLen) (h0 : Wd.val a ≠ 0) :
    Calls Try.prog 154 #[.slice (some ⟨g, off, none⟩) N c] w (RetOdd g (Wd.val a) w) := by
  subst hN
  have HPR := Lib.hid hp
  have HCM := Lib.hid hcm
  have HO : Hid (OddAt a a 0) := Lib.hid ⟨by rw [Nat.pow_zero, Nat.one_mul], by omega, h0, ho⟩
  clear hp ho h0 hcm
  go_enter Try.func154, Try.ntmps154
  go_wp2
  go_loopg [0, 4] a.length (fun m s0 s4 wr => ∃ (k o d : Nat) (l : List Nat) (pr : List Value), m = l.length ∧ s0 = .slice (some ⟨g, o, none⟩) l.length d ∧ s4 = .int .i64 ((32 * k : Nat) : Int) ∧ l.length ≤ d ∧ k + l.length ≤ 10000000000 ∧ Hid (d ≤ maxLen) ∧ Hid (pr.length = o) ∧ BlkP wr g pr l rest ∧ Hid (OddAt a l k) ∧ w = wr)
  case atStart => exact ⟨0, off, c, a, pre, rfl, rfl, rfl, hc, by omega, HCM, HPR, hb, HO, rfl⟩
  case round =>
    obtain ⟨k, o, d, l, pr, rfl, rfl, rfl, hld, hkl, HDM, HPL, hbl, HAT, rfl⟩ := hrel
    match l, hld, hkl, hbl, HAT with
    | [], hld, hkl, hbl, HAT => exact absurd rfl HAT.out.2.2.1
    | x :: l, hld, hkl, hbl, HAT =>
      have hcg := hbl.cellD HPL.out (i := 0) (by simp)
      have hcg : w.cell? ⟨g, o, none⟩ = some (.int .u32 (x : Int)) := hcg
      simp only [List.length_cons] at hld hkl
      by_cases hx0 : x = 0
      · subst hx0
        have HN := Lib.hid (oddAt_step HAT.out)
        have hl0 : l.length ≠ 0 := fun h => by
          have := List.eq_nil_of_length_eq_zero h
          subst this
          exact HN.out.2.2.1 rfl
        have hd1 : (d = 1) = False := eq_false (by omega)
        have HPL2 : Hid ((pr ++ [wv 0]).length = o + 1) := Lib.hid (by rw [List.length_append, HPL.out]; rfl)
        have hbl2 := hbl.tail
        have HDM2 : Hid (d - 1 ≤ maxLen) := Lib.hid (Nat.le_trans (Nat.sub_le _ _) HDM.out)
        rw [List.length_cons]
        go_wp2
        go_roundg l.length
        case measure => simp
        case rel => exact ⟨k + 1, o + 1, d - 1, l, _, rfl, by simp, by go_num, by omega, by omega, HDM2, HPL2, hbl2, HN, rfl⟩
      · have HE := Lib.hid (oddAt_end hx0 HAT.out)
        have hxB := (Wd.ok_cons.1 HAT.out.2.2.2).1
        have htz := Wd.tz_lt 32 x hx0 (by rw [← Wd.B_two]; exact hxB)
        have HOK := Lib.hid HAT.out.2.2.2
        have hx1 : ((x : Int) == 0) = false := by simpa using hx0
        have hxp : 0 < x := Nat.pos_of_ne_zero hx0
        clear hx0
        have hln : (x :: l).length ≤ 100000000000 := by simp; omega
        have hlc : (x :: l).length ≤ d := by simpa using hld
        go_wp2_with fail
        refine (ref_zeros1 x rfl hxB hxp _).mono ?_
        rintro e w2 ⟨rfl, rfl⟩
        generalize Wd.tz x = t at *
        go_wp2_with fail
        refine (ref_down6 t rfl htz HPL.out rfl hbl HOK.out hln hlc).mono ?_
        rintro e w2 ⟨rest', rfl, hb2, hon⟩
        rw [HE.out.2] at hb2 ⊢
        have hle : (Wd.words (Wd.oddN (Wd.val a))).length ≤ d := by
          rw [← HE.out.2]
          exact Nat.le_trans (Nat.le_trans (Wd.words_mono (Nat.div_le_self _ _)) (Wd.words_val_length HOK.out)) hlc
        have HLE := Lib.hid hle
        clear hle
        go_wp2
        go_ret2
        refine ⟨_, ?_, ⟨o, d, pr, rest', rfl, HPL.out, hb2, HLE.out, HDM.out⟩, hon⟩
        rw [HE.out.1]
        go_num

set_option maxRecDepth 100000 in
set_option maxHeartbeats 1600000 in
theorem ref_double6 {v : Value} {l : List Nat} {w : World} {ti : Int} (t : Nat) (hti : ti = t) (ht : t ≤ 3200000000) (h : Ws w v l) (hl : l.length ≤ 100000000) :
    Calls Try.prog 156 #[v, .int .i64 ti] w (RetW (Wd.words (Wd.val l * 2 ^ t)) w) := by
  subst hti
  have hok := h.ok
  obtain ⟨A, c, rfl, p2, p3, p4, p5⟩ := h
  have P5 := Lib.hid p5
  have OK := Lib.hid hok
  clear p3 p4 p5 hok
  have hq : t / 32 ≤ 100000000 := by omega
  have HQ : Hid ((t : Int) / 32 = ((t / 32 : Nat) : Int)) := Lib.hid (by omega)
  obtain ⟨P, hP⟩ : ∃ P, P = 2 ^ (t % 32) := ⟨_, rfl⟩
  have HPB0 : P < 4294967296 := by
    rw [hP]
    exact Nat.lt_of_lt_of_le (Nat.pow_lt_pow_right (by omega) (Nat.mod_lt t (by omega))) (by omega)
  have HSH : Hid ((2 : Int) ^ (t % 32) % 4294967296 = (P : Int)) := Lib.hid (by
    have : ((2 : Int) ^ (t % 32)) = (P : Int) := by rw [hP, Int.natCast_pow]; rfl
    rw [this]
    omega)
  clear HPB0
  have HPB : Hid (P < Wd.B) := Lib.hid (by
    rw [Wd.B_eq, hP]
    exact Nat.lt_of_lt_of_le (Nat.pow_lt_pow_right (by omega) (Nat.mod_lt t (by omega))) (by omega))
  have HV : Hid (Wd.val (List.replicate (t / 32) 0 ++ l) * Wd.val [P] = Wd.val l * 2 ^ t) := Lib.hid (by
    rw [Wd.val_append, Wd.val_replicate, List.length_replicate, Nat.zero_add]
    simp only [Wd.val, Nat.mul_zero, Nat.add_zero]
    rw [hP, Nat.mul_assoc, Nat.mul_comm, Nat.mul_assoc, Nat.mul_comm (2 ^ (t % 32)), ← Wd.pow_split])
  clear hP
  generalize hQ : t / 32 = q at *
  clear hQ
  go_enter Try.func156, Try.ntmps156
  go_wp2_with (at_make; go_loud (refine wl_make rfl _ _ rfl q rfl rfl HQ.out ?_ ?_))
  · omega
  intro w1 hb1 hu1
  have hown := hb1.own (base := w.heap.size) (Nat.le_refl _) (by rw [List.length_replicate]; unfold maxLen; omega)
  have HLR : Hid ((List.replicate q 0 ++ l).length = q + l.length) := Lib.hid (by simp)
  have HOR : Hid (Wd.Ok (List.replicate q 0 ++ l)) := Lib.hid (Wd.ok_append.2 ⟨Wd.ok_replicate q, OK.out⟩)
  rw [List.length_replicate] at hown
  generalize List.replicate q 0 = z at *
  go_wp2_with (at_builtin; refine wl_append (w0 := w) rfl (.tmp 8) (.tmp 9) rfl (n := q) (xs := z) rfl hown (l := l) rfl (P5.out.up hu1) rfl (by omega) hu1 ?_; intro v2 w2 h2 u2)
  have s2 : Ws w2 v2 (z ++ l) := Ws.of_own (base := w.heap.size) (by rw [HLR.out]; exact h2) HOR.out
  clear h2 hown hb1
  go_wp2_with fail
  rw [HSH.out]
  refine (ref_mul (s2.up ((Up.refl _).alloc _)) (ws_one w2 P HPB.out) (by rw [HLR.out]; omega) (by simp)).mono ?_
  intro e w3 ret3
  obtain ⟨v3, rfl, s3, u3⟩ := ret3.ws
  rw [HV.out] at s3
  have g3 := (u2.alloc _).trans u3
  go_wp2
  go_ret
  exact ⟨_, rfl, s3, g3⟩

set_option maxRecDepth 100000 in
set_option maxHeartbeats 3200000 in
theorem ref_gcd {v u : Value} {a b : List Nat} {w : World} (ha : Ws w v a) (hb : Ws w u b) (hla : a.length ≤ 10000000) (hlb : b.length ≤ 10000000) :
    Calls Try.prog 109 #[v, u] w (RetW (Wd.words (Nat.gcd (Wd.val a) (Wd.val b))) w) := by
  have hal := len_words_val ha.ok hla
  have hbl := len_words_val hb.ok hlb
  have hta := Wd.val_lt_two ha.ok
  have htb := Wd.val_lt_two hb.ok
  by_cases ha0 : Wd.val a = 0
  · have HG : Hid (Wd.words (Wd.val a) = [] ∧ Nat.gcd (Wd.val a) (Wd.val b) = Wd.val b) := Lib.hid (by rw [ha0, Wd.words_zero, Nat.gcd_zero_left]; exact ⟨rfl, rfl⟩)
    clear ha0 hta htb
    go_enter Try.func109, Try.ntmps109
    go_wp2_with fail
    refine (ref_norm ha (by omega)).mono ?_
    intro e W1 ret1
    obtain ⟨V1, rfl, x, U1⟩ := ret1.ws
    clear ret1
    have G1 := (Up.refl w).trans U1
    have ha := ha.up U1
    have hb := hb.up U1
    clear U1
    rw [HG.out.1] at x
    obtain ⟨_, _, rfl⟩ := x.form
    go_wp2_with fail
    refine (ref_norm hb (by omega)).mono ?_
    intro e W2 ret2
    obtain ⟨V2, rfl, y, U2⟩ := ret2.ws
    clear ret2
    have G2 := G1.trans U2
    have ha := ha.up U2
    have hb := hb.up U2
    have x := x.up U2
    clear U2 G1
    go_wp2
    go_ret
    exact ⟨_, rfl, by rw [HG.out.2]; exact y, G2⟩
  · have HA1 : Hid ((Wd.words (Wd.val a)).length ≠ 0) := Lib.hid (fun h => ha0 (Wd.words_length_zero.1 h))
    by_cases hb0 : Wd.val b = 0
    · have HG : Hid (Wd.words (Wd.val b) = [] ∧ Nat.gcd (Wd.val a) (Wd.val b) = Wd.val a) := Lib.hid (by rw [hb0, Wd.words_zero, Nat.gcd_zero_right]; exact ⟨rfl, rfl⟩)
      clear ha0 hb0 hta htb
      go_enter Try.func109, Try.ntmps109
      go_wp2_with fail
      refine (ref_norm ha (by omega)).mono ?_
      intro e W1 ret1
      obtain ⟨V1, rfl, x, U1⟩ := ret1.ws
      clear ret1
      have G1 := (Up.refl w).trans U1
      have ha := ha.up U1
      have hb := hb.up U1
      clear U1
      have hx1 := HA1.out
      generalize hX : Wd.words (Wd.val a) = X at *
      have HX := Lib.hid hX
      clear hX
      obtain ⟨_, _, rfl⟩ := x.form
      have hx2 : ((X.length : Int) == 0) = false := by simpa using hx1
      clear hx1
      go_wp2_with fail
      refine (ref_norm hb (by omega)).mono ?_
      intro e W2 ret2
      obtain ⟨V2, rfl, y, U2⟩ := ret2.ws
      clear ret2
      have G2 := G1.trans U2
      have ha := ha.up U2
      have hb := hb.up U2
      have x := x.up U2
      clear U2 G1
      rw [HG.out.1] at y
      obtain ⟨_, _, rfl⟩ := y.form
      go_wp2
      go_ret
      exact ⟨_, rfl, by rw [HG.out.2, HX.out]; exact x, G2⟩
    · have HG := Lib.hid (Wd.gcd_halves ha0 hb0)
      have HB1 : Hid ((Wd.words (Wd.val b)).length ≠ 0) := Lib.hid (fun h => hb0 (Wd.words_length_zero.1 h))
      have hta := Wd.tz_lt _ _ ha0 hta
      have htb := Wd.tz_lt _ _ hb0 htb
      have HA0 := Lib.hid ha0
      have HB0 := Lib.hid hb0
      clear ha0 hb0
      go_enter Try.func109, Try.ntmps109
      go_wp2_with fail
      refine (ref_norm ha (by omega)).mono ?_
      rintro e w1 ⟨v1, rfl, x1, k1, u1⟩
      obtain ⟨gx, mx, hgx, hgx2⟩ := Mid.of_own x1 HA0.out
      have hb1 := hb.up u1
      go_wp2_with fail
      refine (ref_norm hb1 (by omega)).mono ?_
      rintro e w2 ⟨v2, rfl, y1, k2, u2⟩
      obtain ⟨gy, my, hgy, hgy2⟩ := Mid.of_own y1 HB0.out
      have mx := mx.up u2
      have g2 := u1.trans u2
      have hs1 := u1.size
      have HNE : Hid (gx ≠ gy) := Lib.hid (by omega)
      have hgy3 : w.heap.size ≤ gy := by omega
      clear x1 y1 k1 k2 hb1
      obtain ⟨ox, cx, px, rx, rfl, q1, q2, q3, q4⟩ := mx
      obtain ⟨oy, cy, py, ry, rfl, r1, r2, r3, r4⟩ := my
      have hxl : (((Wd.words (Wd.val a)).length : Int) == 0) = false := by simpa using HA1.out
      have hyl : (((Wd.words (Wd.val b)).length : Int) == 0) = false := by simpa using HB1.out
      have Q1 := Lib.hid q1
      have Q4 := Lib.hid q4
      have my : Mid w2 (.slice (some ⟨gy, oy, none⟩) (Wd.words (Wd.val b)).length cy) gy (Wd.val b) := ⟨oy, cy, py, ry, rfl, r1, r2, r3, r4⟩
      clear q1 q4 r1 r2 r3 r4
      go_wp2_with fail
      refine (ref_odd6 Q1.out rfl q2 (Wd.ok_words _) (by omega) q3 Q4.out (by rw [Wd.val_words]; exact HA0.out)).mono ?_
      rintro e w3 ⟨v3, rfl, m3, on3⟩
      rw [Wd.val_words] at m3 ⊢
      have my := my.other on3 (Ne.symm HNE.out)
      have g3 := on3.up g2 hgx
      obtain ⟨oy, cy, py, ry, e, r1, r2, r3, r4⟩ := my
      cases e
      have R1 := Lib.hid r1
      have R4 := Lib.hid r4
      clear r1 r4
      go_wp2_with fail
      refine (ref_odd6 R1.out rfl r2 (Wd.ok_words _) (by omega) r3 R4.out (by rw [Wd.val_words]; exact HB0.out)).mono ?_
      rintro e w4 ⟨v4, rfl, m4, on4⟩
      rw [Wd.val_words] at m4 ⊢
      have m3 := m3.other on4 HNE.out
      have g4 := on4.up g3 hgy3
      clear r2 r3 q2 q3 on3 on4 hxl hyl
      have HST : Hid (Wd.oddN (Wd.val a) % 2 = 1 ∧ Wd.oddN (Wd.val b) % 2 = 1 ∧ (Wd.words (Wd.oddN (Wd.val a))).length ≤ 10000000 ∧ (Wd.words (Wd.oddN (Wd.val b))).length ≤ 10000000) :=
        Lib.hid ⟨Wd.oddN_odd HA0.out, Wd.oddN_odd HB0.out, Nat.le_trans (Wd.words_mono (Wd.oddN_le _)) hal, Nat.le_trans (Wd.words_mono (Wd.oddN_le _)) hbl⟩
      generalize Wd.oddN (Wd.val a) = XA at *
      generalize Wd.oddN (Wd.val b) = XB at *
      have hmin : ((min (Wd.tz (Wd.val a)) (Wd.tz (Wd.val b)) : Nat) : Int) = if ((Wd.tz (Wd.val b) : Nat) : Int) < ((Wd.tz (Wd.val a) : Nat) : Int) then ((Wd.tz (Wd.val b) : Nat) : Int) else ((Wd.tz (Wd.val a) : Nat) : Int) := by split <;> omega
      generalize Wd.tz (Wd.val a) = ta at *
      generalize Wd.tz (Wd.val b) = tb at *
      have HMIN := Lib.hid hmin
      clear hmin
      go_wp2_with fail
      go_loopg [5, 6] (XA + XB) (fun n s5 s6 wr => ∃ (X Y g1 g2 : Nat), n = X + Y ∧ Mid wr s5 g1 X ∧ Mid wr s6 g2 Y ∧ Hid (g1 ≠ g2) ∧ w.heap.size ≤ g1 ∧ w.heap.size ≤ g2 ∧ Hid (X % 2 = 1 ∧ Y % 2 = 1 ∧ (Wd.words X).length ≤ 10000000 ∧ (Wd.words Y).length ≤ 10000000) ∧ Hid (Nat.gcd X Y = Nat.gcd XA XB) ∧ Up w wr)
      case atStart => exact ⟨XA, XB, gx, gy, rfl, m3, m4, HNE, hgx, hgy3, HST, Lib.hid rfl, g4⟩
      case round =>
        obtain ⟨X, Y, g1, g2, rfl, hX, hY, HNG, hg1, hg2, HS, HGC, hup⟩ := hrel
        have hl := HS.out
        have hXl := hl.2.2.1
        have hYl := hl.2.2.2
        clear hl
        go_wp2_with fail
        refine (ref_cmp hX.ws hY.ws (by omega) (by omega)).mono ?_
        rintro e w5 ⟨rfl, rfl⟩
        rw [Wd.val_words, Wd.val_words]
        rcases Nat.lt_trichotomy X Y with h | h | h
        · have HC := Lib.hid (Wd.cmpI_lt h)
          rw [HC.out]
          -- Y is greater: in block @G1@
          have HN : Hid (Nat.gcd (Wd.oddN (Y - X)) X = Nat.gcd XA XB) := Lib.hid (by rw [Wd.gcd_less HS.out.1 h, ← HGC.out]; exact Nat.gcd_comm _ _)
          have hd0 : Y - X ≠ 0 := by omega
          have HD := Lib.hid (And.intro (Wd.oddN_odd hd0) (Wd.oddN_le (Y - X)))
          have HD0 := Lib.hid hd0
          have HLT := Lib.hid h
          clear hd0
          have hst := hX.stays (Ne.symm HNG.out).symm
          obtain ⟨ox, cx, px, rx, rfl, q1, q2, q3, q4⟩ := hY
          have Q1 := Lib.hid q1
          have Q4 := Lib.hid q4
          clear q1 q4
          go_wp2_with fail
          refine (ref_less5 Q1.out rfl q2 (Wd.ok_words _) hst (by omega) (by omega) (by rw [Wd.val_words, Wd.val_words]; exact Nat.le_of_lt HLT.out)).mono ?_
          rintro e w6 ⟨rfl, o, q5, oko, lo, vo, on6⟩
          rw [Wd.val_words, Wd.val_words] at vo
          have mY := hX.other on6 (Ne.symm HNG.out).symm
          have g6 := on6.up hup hg2
          have HV := Lib.hid vo
          have HOK := Lib.hid oko
          have HLO := Lib.hid lo
          clear vo oko lo
          go_wp2_with fail
          refine (ref_odd6 Q1.out HLO.out q5 HOK.out (by rw [HLO.out]; omega) (by rw [HLO.out]; exact q3) Q4.out (by rw [HV.out]; exact HD0.out)).mono ?_
          rintro e w7 ⟨v7, rfl, m7, on7⟩
          rw [HV.out] at m7 ⊢
          have mY := mY.other on7 (Ne.symm HNG.out).symm
          have g7 := on7.up g6 hg2
          have HS7 : Hid (Wd.oddN (Y - X) % 2 = 1 ∧ X % 2 = 1 ∧ (Wd.words (Wd.oddN (Y - X))).length ≤ 10000000 ∧ (Wd.words X).length ≤ 10000000) :=
            Lib.hid ⟨HD.out.1, HS.out.1, Nat.le_trans (Wd.words_mono (Nat.le_trans HD.out.2 (Nat.sub_le _ _))) (by omega), by omega⟩
          go_wp2
          go_roundg (Wd.oddN (Y - X) + X)
          case measure =>
            have h1 := HD.out.2
            have h2 := HS.out.1
            have h3 := HLT.out
            omega
          case rel => exact ⟨_, X, _, _, rfl, m7, mY, Lib.hid (Ne.symm HNG.out), hg2, hg1, HS7, HN, g7⟩
        · have HC := Lib.hid (Wd.cmpI_eq h)
          rw [HC.out]
          have HE : Hid (Wd.val (Wd.words X) * 2 ^ min ta tb = Nat.gcd (Wd.val a) (Wd.val b)) := Lib.hid (by rw [Wd.val_words, HG.out, ← HGC.out, ← h, Nat.gcd_self])
          have hmn : min ta tb ≤ 3200000000 := by omega
          clear h
          have hXs := hX.ws
          go_wp2_with (with_reducible show wpList _ _ _ _ _ _; refine wl_min (o := ⟨some 54, _, _, _, _, _⟩) rfl _ _ _ _ rfl rfl rfl HMIN.out ?_)
          refine (ref_double6 (min ta tb) rfl hmn hXs (by omega)).mono ?_
          rintro e w6 ⟨v6, rfl, s6, u6⟩
          rw [HE.out] at s6
          have g6 := hup.trans u6
          go_wp2
          go_ret
          exact ⟨_, rfl, s6, g6⟩
        · have HC := Lib.hid (Wd.cmpI_gt h)
          rw [HC.out]
          -- X is greater: in block @G1@
          have HN : Hid (Nat.gcd (Wd.oddN (X - Y)) Y = Nat.gcd XA XB) := Lib.hid (by rw [Wd.gcd_less HS.out.2.1 h, ← HGC.out]; (try rfl))
          have hd0 : X - Y ≠ 0 := by omega
          have HD := Lib.hid (And.intro (Wd.oddN_odd hd0) (Wd.oddN_le (X - Y)))
          have HD0 := Lib.hid hd0
          have HLT := Lib.hid h
          clear hd0
          have hst := hY.stays HNG.out.symm
          obtain ⟨ox, cx, px, rx, rfl, q1, q2, q3, q4⟩ := hX
          have Q1 := Lib.hid q1
          have Q4 := Lib.hid q4
          clear q1 q4
          go_wp2_with fail
          refine (ref_less5 Q1.out rfl q2 (Wd.ok_words _) hst (by omega) (by omega) (by rw [Wd.val_words, Wd.val_words]; exact Nat.le_of_lt HLT.out)).mono ?_
          rintro e w6 ⟨rfl, o, q5, oko, lo, vo, on6⟩
          rw [Wd.val_words, Wd.val_words] at vo
          have mY := hY.other on6 HNG.out.symm
          have g6 := on6.up hup hg1
          have HV := Lib.hid vo
          have HOK := Lib.hid oko
          have HLO := Lib.hid lo
          clear vo oko lo
          go_wp2_with fail
          refine (ref_odd6 Q1.out HLO.out q5 HOK.out (by rw [HLO.out]; omega) (by rw [HLO.out]; exact q3) Q4.out (by rw [HV.out]; exact HD0.out)).mono ?_
          rintro e w7 ⟨v7, rfl, m7, on7⟩
          rw [HV.out] at m7 ⊢
          have mY := mY.other on7 HNG.out.symm
          have g7 := on7.up g6 hg1
          have HS7 : Hid (Wd.oddN (X - Y) % 2 = 1 ∧ Y % 2 = 1 ∧ (Wd.words (Wd.oddN (X - Y))).length ≤ 10000000 ∧ (Wd.words Y).length ≤ 10000000) :=
            Lib.hid ⟨HD.out.1, HS.out.2.1, Nat.le_trans (Wd.words_mono (Nat.le_trans HD.out.2 (Nat.sub_le _ _))) (by omega), by omega⟩
          go_wp2
          go_roundg (Wd.oddN (X - Y) + Y)
          case measure =>
            have h1 := HD.out.2
            have h2 := HS.out.2.1
            have h3 := HLT.out
            omega
          case rel => exact ⟨_, Y, _, _, rfl, m7, mY, Lib.hid HNG.out, hg1, hg2, HS7, HN, g7⟩

set_option maxHeartbeats 800000 in
theorem ref_over {v u : Value} {a : List Nat} {G : Nat} {w : World} (ha : Ws w v a) (hg : Ws w u (Wd.words G)) (hla : a.length ≤ 100000000) (hlg : (Wd.words G).length ≤ 100000000) (h0 : G ≠ 0) :
    Calls Try.prog 110 #[v, u] w (RetW (Wd.words (Wd.val a / G)) w) := by
  by_cases h1 : G = 1
  · have H1 : Hid (decide (G = 1) = true) := Lib.hid (by simpa using h1)
    have HD : Hid (Wd.val a / G = Wd.val a) := Lib.hid (by rw [h1, Nat.div_one])
    clear h1 h0
    go_enter Try.func110, Try.ntmps110
    go_wp2_with fail
    refine (ref_one hg (by omega)).mono ?_
    rintro e w1_ ⟨rfl, rfl⟩
    rw [H1.out]
    go_wp2_with fail
    refine (ref_norm ha (by omega)).mono ?_
    intro e W2 ret2
    obtain ⟨V2, rfl, x, U2⟩ := ret2.ws
    clear ret2
    have G2 := (Up.refl w).trans U2
    have ha := ha.up U2
    have hg := hg.up U2
    clear U2
    go_wp2
    go_ret
    exact ⟨_, rfl, by rw [HD.out]; exact x, G2⟩
  · have H1 : Hid (decide (G = 1) = false) := Lib.hid (by simpa using h1)
    have H0 : Hid (Wd.val (Wd.words G) ≠ 0) := Lib.hid (by rw [Wd.val_words]; exact h0)
    clear h1 h0
    go_enter Try.func110, Try.ntmps110
    go_wp2_with fail
    refine (ref_one hg (by omega)).mono ?_
    rintro e w1_ ⟨rfl, rfl⟩
    rw [H1.out]
    go_wp2_with fail
    refine (ref_div ha hg (by omega) (by omega) H0.out).mono ?_
    rintro e W2 ⟨V2, V2', rfl, x, y, k2, U2⟩
    have G2 := (Up.refl w).trans U2
    have ha := ha.up U2
    have hg := hg.up U2
    have y := own_weaken y (Up.size (Up.refl w))
    clear U2
    rw [Wd.val_words] at x
    go_wp2
    go_ret
    exact ⟨_, rfl, x, G2⟩


end Go.Proofs.Ytmmcffceeahemaa
