/-
  The walks of layer 5: by words, guesses, taken and given back in place.
-/
import Derived.Test.YtjkkeilmnklpcaaProd
import Derived.Test.YtjkkeilmnklpcaaPlace
import Derived.Test.YtjkkeilmnklpcaaQuotMath
import Derived.Deep.LoopGhost
set_option linter.unusedVariables false
set_option linter.unusedSimpArgs false
namespace Go.Proofs.Ytjkkeilmnklpcaa
open Go.RowKit

theorem quot_word_no {v : Value} {a : List Nat} {w : World} (ha : Ws w v a) :
    Calls Try.prog 145 #[v, .int .u32 0] w (RetWNB [] 0 false w) := by
  obtain ⟨A, d, rfl⟩ := ha.form
  go_enter Try.func145, Try.ntmps145
  go_wp2
  go_ret3
  exact ⟨_, rfl, Ws.nil _, Up.refl _⟩

set_option maxHeartbeats 1600000 in
theorem quot_word {v : Value} {a : List Nat} {xi : Int} {w : World} (x : Nat) (hx : xi = x) (bx : x < Wd.B) (h0 : 0 < x) (ha : Ws w v a) (hla : a.length ≤ 100000000) :
    Calls Try.prog 145 #[v, .int .u32 xi] w (RetWNB (Wd.words (Wd.val a / x)) (Wd.val a % x) true w) := by
  subst hx
  have HX : Hid (0 < x) := Lib.hid h0
  have hx0 : ((x : Int) == 0) = false := by simp; omega
  obtain ⟨A, d, rfl, p2, p3, p4, p5⟩ := ha
  have P4 := Lib.hid p4
  clear p3 p4
  go_enter Try.func145, Try.ntmps145
  go_wp2_with (at_make; go_loud (refine wl_make rfl _ _ rfl a.length rfl rfl ?_ ?_ ?_))
  · omega
  · omega
  intro w1 hb1 hu1
  have HZ : Hid ((List.replicate a.length 0).length = a.length) := Lib.hid (by rw [List.length_replicate])
  have HZO := Lib.hid (Wd.ok_replicate a.length)
  have HM := Lib.hid (Wd.wordAt_zero a HX.out)
  generalize List.replicate a.length 0 = o1 at hb1 HZ HZO HM
  go_wp2_with fail
  go_loopw [5, 7] (fun s5 s7 wr => ∃ (k r : Nat) (o : List Nat), s5 = .int .u32 r ∧ s7 = .int .i64 ((k : Int) - 1) ∧ k ≤ a.length ∧ r < x ∧ Hid (o.length = a.length) ∧ Hid (Wd.Ok o) ∧ Blk wr w.heap.size o ∧ Up w wr ∧ Hid (Wd.WordAt a o x k r)) (fun _ s7 _ => (intOf s7 + 1).toNat)
  case atStart => exact ⟨a.length, 0, o1, rfl, rfl, Nat.le_refl _, HX.out, HZ, HZO, hb1, hu1, HM⟩
  case round =>
    obtain ⟨k, r, o, rfl, rfl, hk, hr, ho, HO, hbl, hup, HAT⟩ := hrel
    match k, hk, HAT with
    | 0, hk, HAT =>
      have HE := Lib.hid (Wd.wordAt_end HAT.out)
      have hwn : Ws wr (.slice (some ⟨w.heap.size, 0, none⟩) a.length a.length) o := by
        have := hbl.ws HO.out (by rw [ho.out]; unfold maxLen; omega)
        rw [ho.out] at this
        exact this
      have HL : Hid (o.length ≤ 1000000000) := Lib.hid (by rw [ho.out]; omega)
      go_wp2_with fail
      refine (nat_norm hwn HL.out).mono ?_
      intro e w3 hret
      obtain ⟨v3, rfl, h3, h4⟩ := hret.ws
      rw [HE.out.1] at h3
      have hfin := hup.trans h4
      go_wp2
      go_ret3
      exact ⟨v3, by rw [HE.out.2]; rfl, h3, hfin⟩
    | k + 1, hk, HAT =>
      have ei : ((k + 1 : Nat) : Int) - 1 = k := by omega
      rw [ei]
      clear ei
      have hlt : k < a.length := hk
      have hy := Wd.ok_getD P4.out k
      have hil : k < o.length := by rw [ho.out]; omega
      have hrB : r < Wd.B := Nat.lt_trans hr bx
      have HN := Lib.hid (Wd.wordAt_step hlt HAT.out)
      have HO2 := Lib.hid (Wd.ok_set HO.out k (Wd.divQ_lt hy hr))
      have hr2 := Wd.divR_lt (h := r) (l := a.getD k 0) HX.out
      have hcg := hbl.cellD hil
      have hfg := hbl.free k
      obtain ⟨b1, o1, rfl, hb1, hc1⟩ := rd_word_D (p5.up hup) hlt
      generalize a.getD k 0 = y at *
      generalize o.getD k 0 = z at *
      go_wp2_with fail
      refine (limb_div r y x rfl rfl rfl hrB hy bx hr _).mono ?_
      rintro e w2 ⟨n, rfl, rfl⟩
      have hbl2 := hbl.drewN n
      have hup2 := hup.drewN n
      go_wp2
      go_roundw
      case rel => exact ⟨k, _, _, rfl, rfl, by omega, hr2, Lib.hid (by rw [List.length_set]; exact ho.out), HO2, hbl2.set _ _, hup2.setCell (Nat.le_refl _) _, HN⟩
      case measure => simp [intOf]

/-- A word, behind reads in an order that is open. -/
def RetDraw (x : Nat) (w : World) (e : Ending) (w' : World) : Prop := e = .returned (.int .u32 (x : Int)) ∧ ∃ n, w' = w.drewN n

set_option maxHeartbeats 1600000 in
theorem quot_guess {w : World} {a2i a1i a0i b1i b0i : Int} (a2 a1 a0 b1 b0 : Nat) (e2 : a2i = a2) (e1 : a1i = a1) (e0 : a0i = a0) (f1 : b1i = b1) (f0 : b0i = b0) (ha2 : a2 < Wd.B) (ha1 : a1 < Wd.B) (ha0 : a0 < Wd.B) (hb1 : b1 < Wd.B) (hb0 : b0 < Wd.B) (hle : a2 ≤ b1) (hpos : 0 < b1) :
    Calls Try.prog 154 #[.int .u32 a2i, .int .u32 a1i, .int .u32 a0i, .int .u32 b1i, .int .u32 b0i] w (RetDraw (Wd.guessN a2 a1 a0 b1 b0) w) := by
  subst e2 e1 e0 f1 f0
  have HTOP : Hid (Wd.B - 1 = 4294967295) := Lib.hid (by rw [Wd.B_eq])
  have POS := Lib.hid hpos
  by_cases h3 : a2 = b1 ∧ Wd.B ≤ a1 + b1
  · obtain ⟨rfl, h3⟩ := h3
    have HV := Lib.hid (Wd.guess_over_top (a0 := a0) hpos hb0 h3)
    have hc : Wd.addC a1 a2 0 = 1 := by
      have := Wd.addC_le ha1 hb1 (c := 0) (by omega)
      have h5 := Wd.add_eq a1 a2 0
      have := Wd.addS_lt a1 a2 0
      rcases Nat.eq_zero_or_pos (Wd.addC a1 a2 0) with h0 | h0
      · rw [h0, Nat.mul_zero] at h5; omega
      · omega
    have HC := Lib.hid hc
    clear hc h3
    go_enter Try.func154, Try.ntmps154
    go_wp2
    go_step3
    go_wp2_with fail
    refine (limb_div_no a2 a1 a2 rfl rfl rfl ha2 ha1 hb1 (Nat.le_refl _) _).mono ?_
    rintro e w' ⟨rfl, rfl⟩
    go_wp2_with fail
    refine (limb_add a1 a2 0 rfl rfl rfl ha1 hb1 Wd.B_pos _).mono ?_
    rintro e w' ⟨rfl, rfl⟩
    rw [HC.out]
    go_wp2
    rw [Exit.noGoto_ret]
    go_ret
    exact ⟨by rw [HV.out, HTOP.out]; rfl, 0, rfl⟩
  · obtain ⟨q0, r0, HG0, hcase⟩ : ∃ q0 r0, Hid (Wd.GuessAt a2 a1 a0 b1 b0 q0 r0) ∧ ((a2 < b1 ∧ Hid (q0 = Wd.divQ a2 a1 b1 ∧ r0 = Wd.divR a2 a1 b1)) ∨ (b1 ≤ a2 ∧ Hid (q0 = 4294967295 ∧ Wd.addS a1 b1 0 = r0 ∧ Wd.addC a1 b1 0 = 0))) := by
      rcases Nat.lt_or_ge a2 b1 with h | h
      · exact ⟨_, _, Lib.hid (Wd.guess_start h ha1 hb1 ha0), .inl ⟨h, Lib.hid ⟨rfl, rfl⟩⟩⟩
      · have e : a2 = b1 := by omega
        subst e
        have hlt : a1 + a2 < Wd.B := by
          rcases Nat.lt_or_ge (a1 + a2) Wd.B with h | h
          · exact h
          · exact absurd ⟨rfl, h⟩ h3
        have h5 := Wd.add_eq a1 a2 0
        have h6 := Wd.addC_le ha1 hb1 (c := 0) (by omega)
        have h7 : Wd.addC a1 a2 0 = 0 := by
          rcases Nat.eq_zero_or_pos (Wd.addC a1 a2 0) with h0 | h0
          · exact h0
          · have h8 : Wd.addC a1 a2 0 = 1 := by omega
            rw [h8] at h5; omega
        rw [h7] at h5
        refine ⟨Wd.B - 1, a1 + a2, Lib.hid (Wd.guess_start_top hlt), .inr ⟨by omega, Lib.hid ⟨HTOP.out, by omega, h7⟩⟩⟩
    clear h3
    rcases hcase with ⟨h, HQ⟩ | ⟨h, HQ⟩
    · go_enter Try.func154, Try.ntmps154
      go_wp2
      go_step3
      go_wp2_with fail
      refine (limb_div a2 a1 b1 rfl rfl rfl ha2 ha1 hb1 h _).mono ?_
      rintro e w' ⟨n, rfl, rfl⟩
      rw [← HQ.out.1, ← HQ.out.2]
      go_wp2
      go_step3
      go_wp2
      have hlt0 := HG0.out.1
      go_loop [11, 12] (fun s11 s12 => ∃ (q r : Nat), s11 = .int .u32 q ∧ s12 = .int .u32 r ∧ Hid (Wd.GuessAt a2 a1 a0 b1 b0 q r)) (fun s11 _ => (intOf s11).toNat)
      case atStart => exact ⟨q0, r0, rfl, rfl, HG0⟩
      case round =>
        obtain ⟨q, r, rfl, rfl, HAT⟩ := hrel
        have hq := HAT.out.1
        have hq4 : q < 4294967296 := by rw [← Wd.B_eq]; exact hq
        have hr := HAT.out.2.1
        have HT := Lib.hid (Wd.two_le (r := r) (a0 := a0) (Wd.mul_eq q b0 0 0) (Wd.mulL_lt q b0 0 0) ha0)
        have hhi := Wd.mulH_lt hq hb0 Wd.B_pos Wd.B_pos
        have hlo := Wd.mulL_lt q b0 0 0
        go_wp2_with fail
        refine (limb_mul q b0 0 0 rfl rfl rfl rfl hq hb0 Wd.B_pos Wd.B_pos _).mono ?_
        rintro e w2 ⟨rfl, rfl⟩
        generalize Wd.mulH q b0 0 0 = hi at *
        generalize Wd.mulL q b0 0 0 = lo at *
        by_cases hyes : hi < r ∨ hi = r ∧ lo ≤ a0
        · have HV := Lib.hid (Wd.guess_end POS.out HAT.out (by have := HT.out.2 hyes; omega))
          rcases hyes with h1 | ⟨rfl, h1⟩
          · go_wp2
            rw [Exit.noGoto_ret]
            go_ret
            exact ⟨by rw [← HV.out]; rfl, n, rfl⟩
          · go_wp2
            rw [Exit.noGoto_ret]
            go_ret
            exact ⟨by rw [← HV.out]; rfl, n, rfl⟩
        · have hgt : r * Wd.B + a0 < q * b0 := by
            rcases Nat.lt_or_ge (r * Wd.B + a0) (q * b0) with h | h
            · exact h
            · exact absurd (HT.out.1 (by omega)) hyes
          have HGT := Lib.hid hgt
          have hq1 := (Wd.guess_less HAT.out hgt).1
          have hcases : r < hi ∨ hi = r ∧ a0 < lo := by omega
          have h5 := Wd.add_eq r b1 0
          have h6 := Wd.addC_le hr hb1 (c := 0) (by omega)
          have h7 := Wd.addS_lt r b1 0
          have hsum : (r + b1 < Wd.B ∧ Wd.addS r b1 0 = r + b1 ∧ Wd.addC r b1 0 = 0) ∨ (Wd.B ≤ r + b1 ∧ Wd.addC r b1 0 = 1) := by
            rcases Nat.eq_zero_or_pos (Wd.addC r b1 0) with h0 | h0
            · rw [h0, Nat.mul_zero] at h5
              exact .inl ⟨by omega, by omega, h0⟩
            · have h8 : Wd.addC r b1 0 = 1 := by omega
              rw [h8] at h5
              exact .inr ⟨by omega, h8⟩
          clear h5 h6 h7 hgt hyes HT
          rcases hsum with ⟨hs1, hs2, hs3⟩ | ⟨hs1, hs3⟩
          · have HN := Lib.hid (Wd.guess_step HAT.out HGT.out hs1)
            have HS := Lib.hid (And.intro hs2 hs3)
            clear hs2 hs3
            rcases hcases with h1 | ⟨rfl, h1⟩
            all_goals
              go_wp2_with fail
              refine (limb_add _ b1 0 rfl rfl rfl hr hb1 Wd.B_pos _).mono ?_
              rintro e w2 ⟨rfl, rfl⟩
              rw [HS.out.1, HS.out.2]
              go_wp2
              go_round
              case rel => exact ⟨q - 1, _, by rw [Int.natCast_sub hq1]; rfl, rfl, HN⟩
              case measure => simp [intOf]; omega
          · have HV := Lib.hid (Wd.guess_over POS.out hb0 HAT.out HGT.out hs1)
            have HS := Lib.hid hs3
            clear hs3
            rcases hcases with h1 | ⟨rfl, h1⟩
            all_goals
              go_wp2_with fail
              refine (limb_add _ b1 0 rfl rfl rfl hr hb1 Wd.B_pos _).mono ?_
              rintro e w2 ⟨rfl, rfl⟩
              rw [HS.out]
              go_wp2
              rw [Exit.noGoto_ret]
              go_ret
              exact ⟨by rw [← HV.out, Int.natCast_sub hq1]; rfl, n, rfl⟩
    · have hd2 : decide (b1 < a2) = false := by simp; omega
      go_enter Try.func154, Try.ntmps154
      go_wp2
      go_step3
      go_wp2_with fail
      refine (limb_div_no a2 a1 b1 rfl rfl rfl ha2 ha1 hb1 h _).mono ?_
      rintro e w' ⟨rfl, rfl⟩
      go_wp2_with fail
      refine (limb_add a1 b1 0 rfl rfl rfl ha1 hb1 Wd.B_pos _).mono ?_
      rintro e w' ⟨rfl, rfl⟩
      rw [HQ.out.2.1, HQ.out.2.2]
      go_wp2
      go_step3
      go_wp2
      have hlt0 := HG0.out.1
      go_loop [11, 12] (fun s11 s12 => ∃ (q r : Nat), s11 = .int .u32 q ∧ s12 = .int .u32 r ∧ Hid (Wd.GuessAt a2 a1 a0 b1 b0 q r)) (fun s11 _ => (intOf s11).toNat)
      case atStart => exact ⟨q0, r0, by rw [HQ.out.1]; rfl, rfl, HG0⟩
      case round =>
        obtain ⟨q, r, rfl, rfl, HAT⟩ := hrel
        have hq := HAT.out.1
        have hq4 : q < 4294967296 := by rw [← Wd.B_eq]; exact hq
        have hr := HAT.out.2.1
        have HT := Lib.hid (Wd.two_le (r := r) (a0 := a0) (Wd.mul_eq q b0 0 0) (Wd.mulL_lt q b0 0 0) ha0)
        have hhi := Wd.mulH_lt hq hb0 Wd.B_pos Wd.B_pos
        have hlo := Wd.mulL_lt q b0 0 0
        go_wp2_with fail
        refine (limb_mul q b0 0 0 rfl rfl rfl rfl hq hb0 Wd.B_pos Wd.B_pos _).mono ?_
        rintro e w2 ⟨rfl, rfl⟩
        generalize Wd.mulH q b0 0 0 = hi at *
        generalize Wd.mulL q b0 0 0 = lo at *
        by_cases hyes : hi < r ∨ hi = r ∧ lo ≤ a0
        · have HV := Lib.hid (Wd.guess_end POS.out HAT.out (by have := HT.out.2 hyes; omega))
          rcases hyes with h1 | ⟨rfl, h1⟩
          · go_wp2
            rw [Exit.noGoto_ret]
            go_ret
            exact ⟨by rw [← HV.out]; rfl, 0, rfl⟩
          · go_wp2
            rw [Exit.noGoto_ret]
            go_ret
            exact ⟨by rw [← HV.out]; rfl, 0, rfl⟩
        · have hgt : r * Wd.B + a0 < q * b0 := by
            rcases Nat.lt_or_ge (r * Wd.B + a0) (q * b0) with h | h
            · exact h
            · exact absurd (HT.out.1 (by omega)) hyes
          have HGT := Lib.hid hgt
          have hq1 := (Wd.guess_less HAT.out hgt).1
          have hcases : r < hi ∨ hi = r ∧ a0 < lo := by omega
          have h5 := Wd.add_eq r b1 0
          have h6 := Wd.addC_le hr hb1 (c := 0) (by omega)
          have h7 := Wd.addS_lt r b1 0
          have hsum : (r + b1 < Wd.B ∧ Wd.addS r b1 0 = r + b1 ∧ Wd.addC r b1 0 = 0) ∨ (Wd.B ≤ r + b1 ∧ Wd.addC r b1 0 = 1) := by
            rcases Nat.eq_zero_or_pos (Wd.addC r b1 0) with h0 | h0
            · rw [h0, Nat.mul_zero] at h5
              exact .inl ⟨by omega, by omega, h0⟩
            · have h8 : Wd.addC r b1 0 = 1 := by omega
              rw [h8] at h5
              exact .inr ⟨by omega, h8⟩
          clear h5 h6 h7 hgt hyes HT
          rcases hsum with ⟨hs1, hs2, hs3⟩ | ⟨hs1, hs3⟩
          · have HN := Lib.hid (Wd.guess_step HAT.out HGT.out hs1)
            have HS := Lib.hid (And.intro hs2 hs3)
            clear hs2 hs3
            rcases hcases with h1 | ⟨rfl, h1⟩
            all_goals
              go_wp2_with fail
              refine (limb_add _ b1 0 rfl rfl rfl hr hb1 Wd.B_pos _).mono ?_
              rintro e w2 ⟨rfl, rfl⟩
              rw [HS.out.1, HS.out.2]
              go_wp2
              go_round
              case rel => exact ⟨q - 1, _, by rw [Int.natCast_sub hq1]; rfl, rfl, HN⟩
              case measure => simp [intOf]; omega
          · have HV := Lib.hid (Wd.guess_over POS.out hb0 HAT.out HGT.out hs1)
            have HS := Lib.hid hs3
            clear hs3
            rcases hcases with h1 | ⟨rfl, h1⟩
            all_goals
              go_wp2_with fail
              refine (limb_add _ b1 0 rfl rfl rfl hr hb1 Wd.B_pos _).mono ?_
              rintro e w2 ⟨rfl, rfl⟩
              rw [HS.out]
              go_wp2
              rw [Exit.noGoto_ret]
              go_ret
              exact ⟨by rw [← HV.out, Int.natCast_sub hq1]; rfl, 0, rfl⟩

/-- What is left when so many times another list is taken away, from a place on; and was it too much? -/
def TakeIs (g : Nat) (rest : List Value) (a b : List Nat) (x k bo : Nat) (w w' : World) : Prop :=
  ∃ o, BlkR w' g o rest ∧ Wd.Ok o ∧ o.length = a.length ∧ Wd.val o + Wd.B ^ k * (x * Wd.val b) = Wd.val a + Wd.B ^ (k + b.length + 1) * bo ∧ o.drop (k + b.length + 1) = a.drop (k + b.length + 1) ∧ Only g w w'
def RetTake (g : Nat) (rest : List Value) (a b : List Nat) (x k : Nat) (w : World) (e : Ending) (w' : World) : Prop :=
  (e = .returned (.bool false) ∧ TakeIs g rest a b x k 0 w w') ∨ (e = .returned (.bool true) ∧ TakeIs g rest a b x k 1 w w')

set_option maxRecDepth 100000 in
set_option maxHeartbeats 1600000 in
theorem quot_take {w : World} {u : Value} {a b : List Nat} {rest : List Value} {g N c : Nat} {ki xi : Int} (k x : Nat) (hk : ki = k) (hx : xi = x) (bx : x < Wd.B) (hN : a.length = N) (hb : BlkR w g a rest) (ho : Wd.Ok a) (hs : Stays g w u b) (hlen : k + b.length < a.length) (hbig : a.length ≤ 1000000000) :
    Calls Try.prog 155 #[.slice (some ⟨g, 0, none⟩) N c, .int .i64 ki, u, .int .u32 xi] w (RetTake g rest a b x k w) := by
  subst hk hx hN
  obtain ⟨A, d, rfl, okb, hr⟩ := hs.open_
  have OB := Lib.hid okb
  have HO := Lib.hid ho
  have HR := Lib.hid hr
  clear okb ho hr hs
  have hk1 : k < a.length := by omega
  go_enter Try.func155, Try.ntmps155
  go_wp2
  go_loopw [9, 10, 17] (fun s9 s10 s17 wr => ∃ (i cy bo : Nat) (p : List Nat), s9 = .int .u32 cy ∧ s10 = .int .u32 bo ∧ s17 = .int .i64 i ∧ i ≤ b.length ∧ Hid (Wd.Ok p) ∧ BlkR wr g p rest ∧ Only g w wr ∧ Hid (Wd.TakeAt b a p x k i cy bo)) (fun _ _ s17 _ => b.length - (intOf s17).toNat)
  case atStart => exact ⟨0, 0, 0, a, rfl, rfl, rfl, Nat.zero_le _, HO, hb, Only.refl _ _, Lib.hid (Wd.takeAt_zero b a x k)⟩
  case round =>
    obtain ⟨i, cy, bo, p, rfl, rfl, rfl, hi, HP, hbl, hon, HAT⟩ := hrel
    have hcy := HAT.out.1
    have hbo := HAT.out.2.1
    by_cases hlt : i < b.length
    · have hy := Wd.ok_getD OB.out i
      have hz := Wd.ok_getD HP.out (k + i)
      have hil : k + i < p.length := by rw [HAT.out.2.2.1]; omega
      have hki : k + i < a.length := by omega
      have HN := Lib.hid (Wd.takeAt_step hki bx hy HAT.out)
      have hlo := Wd.mulL_lt x (b.getD i 0) cy 0
      have HP2 := Lib.hid (Wd.ok_set HP.out (k + i) (Wd.subD_lt hz hlo (Nat.lt_of_le_of_lt hbo Wd.B_one)))
      have hcg := hbl.cellD hil
      have hfg := hbl.free (k + i)
      obtain ⟨b1, o1, rfl, hb1, hc1⟩ := rd_word_D (HR.out wr hon) hlt
      generalize b.getD i 0 = y at *
      generalize p.getD (k + i) 0 = z at *
      go_wp2_with fail
      refine (limb_mul x y cy 0 rfl rfl rfl rfl bx hy hcy Wd.B_pos _).mono ?_
      rintro e w2 ⟨rfl, rfl⟩
      generalize Wd.mulL x y cy 0 = lo at *
      go_wp2_with fail
      refine (limb_sub z lo bo rfl rfl rfl hz hlo (Nat.lt_of_le_of_lt hbo Wd.B_one) _).mono ?_
      rintro e w2 ⟨rfl, rfl⟩
      go_wp2
      go_roundw
      case rel => exact ⟨i + 1, _, _, _, rfl, rfl, by go_num, by omega, HP2, hbl.set hil _, hon.set _ _, HN⟩
      case measure => simp [intOf]; omega
    · obtain rfl : i = b.length := by omega
      have hz := Wd.ok_getD HP.out (k + b.length)
      have hil : k + b.length < p.length := by rw [HAT.out.2.2.1]; omega
      have HE := Lib.hid (Wd.takeAt_end hlen HAT.out)
      have HP2 := Lib.hid (Wd.ok_set HP.out (k + b.length) (Wd.subD_lt hz hcy (Nat.lt_of_le_of_lt hbo Wd.B_one)))
      have hcg := hbl.cellD hil
      have hfg := hbl.free (k + b.length)
      generalize p.getD (k + b.length) 0 = z at *
      go_wp2_with fail
      refine (limb_sub z cy bo rfl rfl rfl hz hcy (Nat.lt_of_le_of_lt hbo Wd.B_one) _).mono ?_
      rintro e w2 ⟨rfl, rfl⟩
      have hfin : ∀ j, Wd.subB z cy bo = j → TakeIs g rest a b x k j w (wr.setCell ⟨g, k + b.length, none⟩ (.int .u32 ((Wd.subD z cy bo : Nat) : Int))) := fun j hj =>
        ⟨_, hbl.set hil _, HP2.out, HE.out.2.2.1, by rw [← hj]; exact HE.out.1, HE.out.2.1, hon.set _ _⟩
      have HF := Lib.hid hfin
      have hj := HE.out.2.2.2
      clear hfin HE HP2 HAT
      generalize Wd.subB z cy bo = j at *
      have hj2 : j = 0 ∨ j = 1 := by omega
      rcases hj2 with rfl | rfl
      · have HF2 := Lib.hid (HF.out 0 rfl)
        go_wp2
        go_ret
        exact .inl ⟨rfl, HF2.out⟩
      · have HF2 := Lib.hid (HF.out 1 rfl)
        go_wp2
        go_ret
        exact .inr ⟨rfl, HF2.out⟩

/-- What is given back, from a place on: what comes out of the end is left off. -/
def RetGive (g : Nat) (rest : List Value) (a b : List Nat) (k : Nat) (w : World) (e : Ending) (w' : World) : Prop :=
  e = .returned (.tuple #[]) ∧ ∃ (o : List Nat) (j : Nat), j ≤ 1 ∧ BlkR w' g o rest ∧ Wd.Ok o ∧ o.length = a.length ∧ Wd.val o + Wd.B ^ (k + b.length + 1) * j = Wd.val a + Wd.B ^ k * Wd.val b ∧ o.drop (k + b.length + 1) = a.drop (k + b.length + 1) ∧ Only g w w'

set_option maxRecDepth 100000 in
set_option maxHeartbeats 1600000 in
theorem quot_give {w : World} {u : Value} {a b : List Nat} {rest : List Value} {g N c : Nat} {ki : Int} (k : Nat) (hk : ki = k) (hN : a.length = N) (hb : BlkR w g a rest) (ho : Wd.Ok a) (hs : Stays g w u b) (hlen : k + b.length < a.length) (hbig : a.length ≤ 1000000000) :
    Calls Try.prog 156 #[.slice (some ⟨g, 0, none⟩) N c, .int .i64 ki, u] w (RetGive g rest a b k w) := by
  subst hk hN
  obtain ⟨A, d, rfl, okb, hr⟩ := hs.open_
  have OB := Lib.hid okb
  have HO := Lib.hid ho
  have HR := Lib.hid hr
  clear okb ho hr hs
  have hk1 : k < a.length := by omega
  go_enter Try.func156, Try.ntmps156
  go_wp2
  go_loopw [6, 11] (fun s6 s11 wr => ∃ (i cy : Nat) (p : List Nat), s6 = .int .u32 cy ∧ s11 = .int .i64 i ∧ i ≤ b.length ∧ Hid (Wd.Ok p) ∧ BlkR wr g p rest ∧ Only g w wr ∧ Hid (Wd.GiveAt b a p k i cy)) (fun _ s11 _ => b.length - (intOf s11).toNat)
  case atStart => exact ⟨0, 0, a, rfl, rfl, Nat.zero_le _, HO, hb, Only.refl _ _, Lib.hid (Wd.giveAt_zero b a k)⟩
  case round =>
    obtain ⟨i, cy, p, rfl, rfl, hi, HP, hbl, hon, HAT⟩ := hrel
    have hcy := HAT.out.1
    by_cases hlt : i < b.length
    · have hy := Wd.ok_getD OB.out i
      have hz := Wd.ok_getD HP.out (k + i)
      have hil : k + i < p.length := by rw [HAT.out.2.1]; omega
      have hki : k + i < a.length := by omega
      have HN := Lib.hid (Wd.giveAt_step hki HP.out hy HAT.out)
      have HP2 := Lib.hid (Wd.ok_set HP.out (k + i) (Wd.addS_lt (p.getD (k + i) 0) (b.getD i 0) cy))
      have hcg := hbl.cellD hil
      have hfg := hbl.free (k + i)
      obtain ⟨b1, o1, rfl, hb1, hc1⟩ := rd_word_D (HR.out wr hon) hlt
      generalize b.getD i 0 = y at *
      generalize p.getD (k + i) 0 = z at *
      go_wp2_with fail
      refine (limb_add z y cy rfl rfl rfl hz hy (Nat.lt_of_le_of_lt hcy Wd.B_one) _).mono ?_
      rintro e w2 ⟨rfl, rfl⟩
      go_wp2
      go_roundw
      case rel => exact ⟨i + 1, _, _, rfl, by go_num, by omega, HP2, hbl.set hil _, hon.set _ _, HN⟩
      case measure => simp [intOf]; omega
    · obtain rfl : i = b.length := by omega
      have hz := Wd.ok_getD HP.out (k + b.length)
      have hil : k + b.length < p.length := by rw [HAT.out.2.1]; omega
      have HE := Lib.hid (Wd.giveAt_end hlen HP.out HAT.out)
      have HP2 := Lib.hid (Wd.ok_set HP.out (k + b.length) (x := (p.getD (k + b.length) 0 + cy) % Wd.B) (Nat.mod_lt _ Wd.B_pos))
      have hcg := hbl.cellD hil
      have hfg := hbl.free (k + b.length)
      generalize p.getD (k + b.length) 0 = z at *
      have HW : Hid (((z : Int) + (cy : Int)) % 4294967296 = (((z + cy) % Wd.B : Nat) : Int)) := Lib.hid (by rw [Wd.B_eq]; omega)
      go_wp2
      go_end0
      rw [HW.out]
      exact ⟨rfl, _, _, HE.out.2.2.2, hbl.set hil _, HP2.out, HE.out.2.2.1, HE.out.1, HE.out.2.1, hon.set _ _⟩
end Go.Proofs.Ytjkkeilmnklpcaa
