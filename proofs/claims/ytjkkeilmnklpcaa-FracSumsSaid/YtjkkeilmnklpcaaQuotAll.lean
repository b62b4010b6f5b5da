/-
  The walks of layer 5: quotient and rest of any two; exact quotients.
-/
import Derived.Test.YtjkkeilmnklpcaaQuotDiv
import Derived.Test.YtjkkeilmnklpcaaPow
set_option linter.unusedVariables false
set_option linter.unusedSimpArgs false
namespace Go.Proofs.Ytjkkeilmnklpcaa
open Go.RowKit

theorem quot_div_no {v u : Value} {a b : List Nat} {w : World} (ha : Ws w v a) (hb : Ws w u b) (hla : a.length ≤ 10000000) (hlb : b.length ≤ 10000000) (h0 : Wd.val b = 0) :
    Calls Try.prog 132 #[v, u] w (RetWWB [] [] false w) := by
  have HE : Hid (Wd.words (Wd.val b) = []) := Lib.hid (by rw [h0, Wd.words_zero])
  clear h0
  go_enter Try.func132, Try.ntmps132
  go_wp2_with fail
  refine (nat_norm hb (by omega)).mono ?_
  intro e w1 hret
  obtain ⟨v1, rfl, s1, u1⟩ := hret.ws
  rw [HE.out] at s1
  obtain ⟨A, c, rfl⟩ := s1.form
  go_wp2
  go_ret3
  exact ⟨_, _, rfl, Ws.nil _, Ws.nil _, u1⟩

set_option maxHeartbeats 800000 in
theorem quot_div_lt {v u : Value} {a b : List Nat} {w : World} (ha : Ws w v a) (hb : Ws w u b) (hla : a.length ≤ 10000000) (hlb : b.length ≤ 10000000) (h0 : Wd.val a < Wd.val b) :
    Calls Try.prog 132 #[v, u] w (RetWWB (Wd.words (Wd.val a / Wd.val b)) (Wd.words (Wd.val a % Wd.val b)) true w) := by
  have HQ : Hid (Wd.val a / Wd.val b = 0 ∧ Wd.val a % Wd.val b = Wd.val a) := Lib.hid ⟨Nat.div_eq_of_lt h0, Nat.mod_eq_of_lt h0⟩
  have HC := Lib.hid (Wd.cmpI_lt h0)
  have hlen : 1 ≤ (Wd.words (Wd.val b)).length := by
    rcases Nat.eq_zero_or_pos (Wd.words (Wd.val b)).length with h | h
    · have := Wd.words_length_zero.1 h; omega
    · exact h
  have hlen2 := len_words_val hb.ok hlb
  have HW := Lib.hid (Wd.val_words (Wd.val b))
  obtain ⟨A, c, rfl⟩ := ha.form
  clear h0
  go_enter Try.func132, Try.ntmps132
  go_wp2_with fail
  refine (nat_norm hb (by omega)).mono ?_
  intro e w1 hret
  obtain ⟨v1, rfl, s1, u1⟩ := hret.ws
  obtain ⟨D, d, rfl⟩ := s1.form
  have ha1 := ha.up u1
  generalize hL : (Wd.words (Wd.val b)).length = L at *
  have HL := Lib.hid hL
  clear hL
  go_wp2_with fail
  refine (nat_cmp_up ha1 s1 (by omega) (by rw [HL.out]; omega)).mono ?_
  rintro e w2 ⟨rfl, u2⟩
  rw [HW.out, HC.out]
  have ha2 := ha1.up u2
  have g2 := u1.trans u2
  go_wp2_with fail
  refine (nat_norm ha2 (by omega)).mono ?_
  intro e w3 hret3
  obtain ⟨v3, rfl, s3, u3⟩ := hret3.ws
  have g3 := g2.trans u3
  go_wp2
  go_ret3
  exact ret_wwb (Ws.nil _) s3 (by rw [HQ.out.1, Wd.words_zero]) (by rw [HQ.out.2]) g3

set_option maxHeartbeats 800000 in
theorem quot_div_one {v u : Value} {a b : List Nat} {w : World} (ha : Ws w v a) (hb : Ws w u b) (hla : a.length ≤ 10000000) (hlb : b.length ≤ 10000000) (h0 : Wd.val b ≤ Wd.val a) (h1 : (Wd.words (Wd.val b)).length = 1) :
    Calls Try.prog 132 #[v, u] w (RetWWB (Wd.words (Wd.val a / Wd.val b)) (Wd.words (Wd.val a % Wd.val b)) true w) := by
  have HC : Hid (Wd.cmpI (Wd.val a) (Wd.val b) = 0 ∨ Wd.cmpI (Wd.val a) (Wd.val b) = 1) := Lib.hid (by
    rcases Wd.cmpI_cases (Wd.val a) (Wd.val b) with h | h | h
    · omega
    · exact .inl h.2
    · exact .inr h.2)
  have HW := Lib.hid (Wd.val_words (Wd.val b))
  have hok := Wd.ok_words (Wd.val b)
  obtain ⟨x, hx⟩ : ∃ x, Wd.words (Wd.val b) = [x] := List.length_eq_one_iff.1 h1
  have hvx : Wd.val b = x := by
    have := HW.out
    rw [hx] at this
    simpa [Wd.val] using this.symm
  have bx : x < Wd.B := by
    rw [hx] at hok
    exact (Wd.ok_cons.1 hok).1
  have hx0 : 0 < x := by
    rcases Nat.eq_zero_or_pos x with h | h
    · rw [hvx, h, Wd.words_zero] at hx; cases hx
    · exact h
  obtain ⟨A, c, rfl⟩ := ha.form
  rw [hvx] at HC ⊢
  have HX := Lib.hid hx
  have HVX := Lib.hid hvx
  have HBX := Lib.hid bx
  have hxx : x < 4294967296 := by rw [← Wd.B_eq]; exact bx
  have hmod : Wd.val a % x < 4294967296 := Nat.lt_trans (Nat.mod_lt _ hx0) hxx
  clear h0 h1 HW hok hx hvx bx
  go_enter Try.func132, Try.ntmps132
  go_wp2_with fail
  refine (nat_norm hb (by omega)).mono ?_
  intro e w1 hret
  obtain ⟨v1, rfl, s1, u1⟩ := hret.ws
  rw [HX.out] at s1
  have s1b := s1
  obtain ⟨D, d, rfl, _, _, _, hrd⟩ := s1
  have ha1 := ha.up u1
  go_wp2_with fail
  refine (nat_cmp_up ha1 s1b (by omega) (by simp)).mono ?_
  rintro e w2 ⟨rfl, u2⟩
  rw [show Wd.val [x] = x from by simp [Wd.val]]
  have ha2 := ha1.up u2
  have g2 := u1.trans u2
  obtain ⟨b1, o1, rfl, hb1, hc1⟩ := rd_word_D (hrd.up u2) (k := 0) (by simp)
  have hc1 : w2.cell? ⟨b1, o1, none⟩ = some (.int .u32 (x : Int)) := hc1
  have hcc := HC.out
  generalize Wd.cmpI (Wd.val a) x = cm at *
  clear HC
  have hcn : ¬ cm < 0 := by omega
  clear hcc
  go_wp2_with fail
  refine (quot_word x rfl HBX.out hx0 ha2 (by omega)).mono ?_
  rintro e w3 ⟨v3, rfl, s3, u3⟩
  have g3 := g2.trans u3
  generalize hr : Wd.val a % x = r at *
  have HR := Lib.hid hr
  clear hr
  go_wp2_with fail
  refine (nat_of r rfl (by omega) _).mono ?_
  rintro e w4 ⟨v4, rfl, s4, u4⟩
  have s3 := s3.up u4
  have g4 := g3.trans u4
  go_wp2
  go_ret3
  exact ret_wwb s3 s4 rfl rfl g4

set_option maxRecDepth 100000 in
set_option maxHeartbeats 1600000 in
theorem quot_div_long {v u : Value} {a b : List Nat} {w : World} (ha : Ws w v a) (hb : Ws w u b) (hla : a.length ≤ 10000000) (hlb : b.length ≤ 10000000) (h0 : Wd.val b ≤ Wd.val a) (h1 : 2 ≤ (Wd.words (Wd.val b)).length) :
    Calls Try.prog 132 #[v, u] w (RetWWB (Wd.words (Wd.val a / Wd.val b)) (Wd.words (Wd.val a % Wd.val b)) true w) := by
  have HC : Hid (Wd.cmpI (Wd.val a) (Wd.val b) = 0 ∨ Wd.cmpI (Wd.val a) (Wd.val b) = 1) := Lib.hid (by
    rcases Wd.cmpI_cases (Wd.val a) (Wd.val b) with h | h | h
    · omega
    · exact .inl h.2
    · exact .inr h.2)
  have HW := Lib.hid (Wd.val_words (Wd.val b))
  have hok := Wd.ok_words (Wd.val b)
  have hlen2 := len_words_val hb.ok hlb
  have hlast := Wd.ok_getD hok ((Wd.words (Wd.val b)).length - 1)
  have hbl : Wd.bl ((Wd.words (Wd.val b)).getD ((Wd.words (Wd.val b)).length - 1) 0) ≤ 32 := by
    rw [Wd.bl_le_iff, ← Wd.B_two]; exact hlast
  have HLE := Lib.hid h0
  obtain ⟨A, c, rfl⟩ := ha.form
  clear h0
  go_enter Try.func132, Try.ntmps132
  go_wp2_with fail
  refine (nat_norm hb (by omega)).mono ?_
  intro e w1 hret
  obtain ⟨v1, rfl, s1, u1⟩ := hret.ws
  have s1b := s1
  obtain ⟨D, d, rfl, _, _, _, hrd⟩ := s1
  have ha1 := ha.up u1
  go_wp2_with fail
  refine (nat_cmp_up ha1 s1b (by omega) (by omega)).mono ?_
  rintro e w2 ⟨rfl, u2⟩
  rw [HW.out]
  have ha2 := ha1.up u2
  have g2 := u1.trans u2
  have s2 := s1b.up u2
  obtain ⟨b1, o1, rfl, hb1, hc1⟩ := rd_word_D (hrd.up u2) (k := (Wd.words (Wd.val b)).length - 1) (by omega)
  have HBW : Hid (∃ z, z = Wd.words (Wd.val b)) := Lib.hid ⟨_, rfl⟩
  have hcc := HC.out
  generalize Wd.cmpI (Wd.val a) (Wd.val b) = cm at *
  have hcn : ¬ cm < 0 := by omega
  clear hcc HC
  generalize (Wd.words (Wd.val b)).getD ((Wd.words (Wd.val b)).length - 1) 0 = top at *
  generalize hL : (Wd.words (Wd.val b)).length = L at *
  have HL := Lib.hid hL
  clear hL
  go_wp2_with fail
  refine (limb_len top rfl hlast _).mono ?_
  rintro e w3 ⟨rfl, rfl⟩
  have hsl := len_shift (Wd.val_lt_two ha.ok) (Nat.min_le_right (32 - (Wd.bl top : Int)).toNat 4096)
  have hsb := len_shift (Wd.val_lt_two hb.ok) (Nat.min_le_right (32 - (Wd.bl top : Int)).toNat 4096)
  have hmin : min (32 - (Wd.bl top : Int)).toNat 4096 = (32 - (Wd.bl top : Int)).toNat := Nat.min_eq_left (by omega)
  generalize Wd.bl top = t at *
  obtain ⟨S, hS⟩ : ∃ S, S = 2 ^ min (32 - (t : Int)).toNat 4096 := ⟨_, rfl⟩
  have hS0 : 0 < S := by rw [hS]; exact Nat.two_pow_pos _
  rw [← hS] at hsl hsb
  have HS := Lib.hid hS
  have HMIN := Lib.hid hmin
  have HSL := Lib.hid hsl
  have HSB := Lib.hid hsb
  have HLS : Hid (L ≤ (Wd.words (Wd.val b * S)).length ∧ (Wd.words (Wd.val b * S)).length ≤ (Wd.words (Wd.val a * S)).length) := Lib.hid (by
    refine ⟨?_, Wd.words_mono (Nat.mul_le_mul_right _ HLE.out)⟩
    rw [← HL.out]
    exact Wd.words_mono (Nat.le_mul_of_pos_right _ hS0))
  have HOA := Lib.hid (Wd.ok_words (Wd.val a * S))
  have HVA := Lib.hid (Wd.val_words (Wd.val a * S))
  have HOB := Lib.hid (Wd.ok_words (Wd.val b * S))
  have HVB := Lib.hid (Wd.val_words (Wd.val b * S))
  have HLAST := Lib.hid (Wd.words_last (Wd.val b * S))
  have HQ : Hid (Wd.val a * S / (Wd.val b * S) = Wd.val a / Wd.val b ∧ Wd.val a * S % (Wd.val b * S) = Wd.val a % Wd.val b * S) := Lib.hid ⟨Nat.mul_div_mul_right _ _ hS0, Nat.mul_mod_mul_right _ _ _⟩
  have HS0 := Lib.hid hS0
  clear hS hmin hsl hsb hS0 HBW hc1 hok
  go_wp2_with fail
  refine (twos_up_own (n := 32 - (t : Int)) ha2 (by omega) (by omega)).mono ?_
  rintro e w4 ⟨v4, rfl, s4, k4, u4⟩
  rw [← HS.out] at s4
  clear k4
  generalize Wd.words (Wd.val a * S) = U at *
  have hUl : U.length ≤ 20000000 := Nat.le_trans HSL.out (by omega)
  go_wp2_with (at_builtin; refine wl_append (w0 := w2) rfl (.tmp 52) (.tmp 53) rfl (n := U.length) (xs := U) rfl (s4.alloc _) (l := [0]) rfl (blk_new w4 [0]).rd rfl (by omega) (u4.alloc _) ?_; intro v5 w5 h5 u5)
  obtain ⟨g, cc, rest, rfl, hbg, q2, q3, hbk⟩ := own_blk h5 (by omega)
  have hglt := hbk.lt
  have s5 := s2.up u5
  go_wp2_with fail
  refine (twos_up_own (n := 32 - (t : Int)) s5 (by rw [HL.out]; omega) (by omega)).mono ?_
  rintro e w6 ⟨v6, rfl, s6, k6, u6⟩
  rw [Wd.val_words, ← HS.out] at s6
  clear k6
  have hst := Stays.of_own s6 HOB.out hglt
  have hbk6 := hbk.up u6
  have g6 := u5.trans u6
  generalize Wd.words (Wd.val b * S) = V at *
  have hVl : V.length ≤ U.length := HLS.out.2
  have hV2 : 2 ≤ V.length := Nat.le_trans h1 HLS.out.1
  obtain ⟨m, hm⟩ : ∃ m, U.length + 1 = m + V.length := ⟨U.length + 1 - V.length, by omega⟩
  have HUL : Hid ((U ++ [0]).length = U.length + 1) := Lib.hid (by simp)
  have HUO : Hid (Wd.Ok (U ++ [0])) := Lib.hid (Wd.ok_append.2 ⟨HOA.out, Wd.ok_cons.2 ⟨Wd.B_pos, Wd.ok_nil⟩⟩)
  have HUV : Hid (Wd.val (U ++ [0]) = Wd.val a * S) := Lib.hid (by rw [Wd.val_append, HVA.out]; simp [Wd.val])
  have HTOP : Hid (V.getD (V.length - 1) 0 ≠ 0) := Lib.hid (HLAST.out (by omega))
  have HLT : Hid (Wd.val (U ++ [0]) < Wd.B ^ m * Wd.val V) := Lib.hid (by
    obtain ⟨n, hn⟩ : ∃ n, V.length = n + 2 := ⟨V.length - 2, by omega⟩
    have h := HTOP.out
    rw [hn] at h
    exact Wd.left_lt HOA.out hn h (by omega))
  have HM : Hid ((U ++ [0]).length = m + V.length) := Lib.hid (by rw [HUL.out]; exact hm)
  clear hm
  go_wp2_with fail
  refine (quot_long rfl hV2 HM.out HUL.out (by omega) hbk6 HUO.out hst HTOP.out HLT.out).mono ?_
  rintro e w7 ⟨v7, q, r, rfl, s7, hql, hbr, okr, hrl, hvq, hvr, hon⟩
  have g7 := hon.up g6 hbg
  rw [HUV.out, HVB.out] at hvq hvr
  rw [HUL.out] at hql hrl
  have HVQ : Hid (Wd.val q = Wd.val a / Wd.val b) := Lib.hid (by rw [hvq, HQ.out.1])
  have HVR : Hid (Wd.val r = Wd.val a % Wd.val b * S) := Lib.hid (by rw [hvr, HQ.out.2])
  have s7r := hbr.ws okr (by rw [hrl]; exact q2) q3
  rw [hrl] at s7r
  have HRL : Hid (r.length = U.length + 1) := Lib.hid hrl
  clear hvq hvr hrl okr
  go_wp2_with fail
  refine (nat_norm s7 (by omega)).mono ?_
  intro e w8 ret8
  obtain ⟨v8, rfl, s8, u8⟩ := ret8.ws
  have g8 := g7.trans u8
  rw [HVQ.out] at s8
  have s8r := s7r.up u8
  go_wp2_with fail
  refine (twos_down (n := 32 - (t : Int)) s8r (by rw [HRL.out]; omega) (by omega)).mono ?_
  rintro e w9 ⟨v9, rfl, s9, u9⟩
  have s8 := s8.up u9
  have g9 := g2.trans (g8.trans u9)
  have HV9 : Hid (Wd.val r / 2 ^ (32 - (t : Int)).toNat = Wd.val a % Wd.val b) := Lib.hid (by
    rw [HVR.out, ← HMIN.out, ← HS.out]
    exact Nat.mul_div_cancel _ HS0.out)
  rw [HV9.out] at s9
  go_wp2
  go_ret3
  exact ret_wwb s8 s9 rfl rfl g9

theorem quot_div {v u : Value} {a b : List Nat} {w : World} (ha : Ws w v a) (hb : Ws w u b) (hla : a.length ≤ 10000000) (hlb : b.length ≤ 10000000) (h0 : Wd.val b ≠ 0) :
    Calls Try.prog 132 #[v, u] w (RetWWB (Wd.words (Wd.val a / Wd.val b)) (Wd.words (Wd.val a % Wd.val b)) true w) := by
  rcases Nat.lt_or_ge (Wd.val a) (Wd.val b) with h | h
  · exact quot_div_lt ha hb hla hlb h
  · have h1 : (Wd.words (Wd.val b)).length ≠ 0 := fun h => h0 (Wd.words_length_zero.1 h)
    by_cases h2 : (Wd.words (Wd.val b)).length = 1
    · exact quot_div_one ha hb hla hlb h h2
    · exact quot_div_long ha hb hla hlb h (by omega)

/-- Is there a quotient without a rest? It. -/
def exOk (A V : Nat) : Bool := decide (V ≠ 0 ∧ A % V = 0)
def exN (A V : Nat) : List Nat := if exOk A V then Wd.words (A / V) else []
theorem exOk_yes {A V : Nat} (h : V ≠ 0) (h2 : A % V = 0) : exOk A V = true := by simp [exOk, h, h2]
theorem exOk_zero {A V : Nat} (h : V = 0) : exOk A V = false := by simp [exOk, h]
theorem exOk_rest {A V : Nat} (h : A % V ≠ 0) : exOk A V = false := by simp [exOk, h]
theorem exN_yes {A V : Nat} (h : exOk A V = true) : exN A V = Wd.words (A / V) := by simp [exN, h]
theorem exN_no {A V : Nat} (h : exOk A V = false) : exN A V = [] := by simp [exN, h]


end Go.Proofs.Ytjkkeilmnklpcaa
