/-
  The walks of the document's layer 4.
-/
import Derived.Test.YtelgenhmmfkmhaaPow
set_option linter.unusedVariables false
set_option linter.unusedSimpArgs false
namespace Go.Proofs.Ytelgenhmmfkmhaa
open Go.RowKit

theorem wide_sum {x y z c S : Nat} (hS : S = x * y + z + c) (hx : x < Wd.B) (hy : y < Wd.B) (hz : z < Wd.B) (hc : c < Wd.B) :
    IntKind.u64.wrap ((c : Int) + IntKind.u64.wrap (IntKind.u64.wrap (IntKind.u64.wrap (x : Int) * IntKind.u64.wrap (y : Int)) + IntKind.u64.wrap (z : Int))) = (S : Int) ∧ S < 18446744073709551616 := by
  have hm := Wd.mul_le_top hx hy
  rw [Wd.B_eq] at hx hy hz hc
  have e1 : IntKind.u64.wrap (x : Int) = x := by rw [IntKind.wrap_u64]; omega
  have e2 : IntKind.u64.wrap (y : Int) = y := by rw [IntKind.wrap_u64]; omega
  have e3 : IntKind.u64.wrap (z : Int) = z := by rw [IntKind.wrap_u64]; omega
  have e4 : ((x : Int) * (y : Int)) = ((x * y : Nat) : Int) := by rw [Int.natCast_mul]
  rw [e1, e2, e3, e4]
  generalize x * y = m at *
  rw [IntKind.wrap_u64, IntKind.wrap_u64, IntKind.wrap_u64]
  omega

set_option maxRecDepth 100000 in
set_option maxHeartbeats 1600000 in
theorem ref_mul {v u : Value} {a b : List Nat} {w : World} (ha : Ws w v a) (hb : Ws w u b) (hla : a.length ≤ 100000000) (hlb : b.length ≤ 100000000) :
    Calls Try.prog 94 #[v, u] w (RetO (Wd.words (Wd.val a * Wd.val b)) w) := by
  obtain ⟨A, d, rfl, p2, p3, p4, p5⟩ := ha
  obtain ⟨D, d2, rfl, q2, q3, q4, q5⟩ := hb
  have P4 := Lib.hid p4
  have Q4 := Lib.hid q4
  clear p3 p4 q3 q4
  go_enter Try.func94, Try.ntmps94
  go_wp2_with (at_make; go_loud (refine wl_make rfl _ _ rfl (a.length + b.length) rfl rfl ?_ ?_ ?_))
  · omega
  · omega
  intro w1 hb1 hu1
  have HZ : Hid ((List.replicate (a.length + b.length) 0).length = a.length + b.length) := Lib.hid (by rw [List.length_replicate])
  have HZO := Lib.hid (Wd.ok_replicate (a.length + b.length))
  have HM := Lib.hid (Wd.mulAt_zero b a (a.length + b.length))
  generalize List.replicate (a.length + b.length) 0 = o1 at hb1 HZ HZO HM
  go_wp2_with fail
  go_loopw [6] (fun s6 wr => ∃ (i : Nat) (o : List Nat), s6 = .int .i64 i ∧ i ≤ a.length ∧ Hid (o.length = a.length + b.length) ∧ Hid (Wd.Ok o) ∧ Blk wr w.heap.size o ∧ Up w wr ∧ Hid (Wd.MulAt b a o i)) (fun s6 _ => a.length - (intOf s6).toNat)
  case atStart => exact ⟨0, o1, rfl, Nat.zero_le _, HZ, HZO, hb1, hu1, HM⟩
  case round =>
    obtain ⟨i, o, rfl, hi, ho, HO, hbl, hup, HAT⟩ := hrel
    by_cases hlt : i < a.length
    · have hx := Wd.ok_getD P4.out i
      have HS := Lib.hid (fun o' h1 h2 => Wd.mulAt_step (o' := o') HAT.out h1 h2)
      have HR := Lib.hid (Wd.rowAt_zero b o (a.getD i 0) 0 i Wd.B_pos)
      have HZD := Lib.hid HAT.out.2
      clear HAT
      go_wp2_with fail
      go_loopw [7, 8] (fun s7 s8 wq => ∃ (k cy : Nat) (p : List Nat), s7 = .int .u64 cy ∧ s8 = .int .i64 k ∧ k ≤ b.length ∧ Hid (Wd.Ok p) ∧ Blk wq w.heap.size p ∧ Up w wq ∧ Hid (Wd.RowAt b o p (a.getD i 0) 0 i k cy)) (fun _ s8 _ => b.length - (intOf s8).toNat)
      case atStart => exact ⟨0, 0, o, rfl, rfl, Nat.zero_le _, HO, hbl, hup, HR⟩
      case round =>
        obtain ⟨k, cy, p, rfl, rfl, hk, HP, hbl2, hup2, HRT⟩ := hrel
        have hcy := HRT.out.1
        have hlp := HRT.out.2.1
        by_cases hlt2 : k < b.length
        · have hy := Wd.ok_getD Q4.out k
          have hz := Wd.ok_getD HP.out (i + k)
          have hil : i + k < p.length := by rw [hlp, ho.out]; omega
          have HN := Lib.hid (Wd.rowAt_step (by rw [← hlp]; exact hil) HP.out hx hy HRT.out)
          have HP2 := Lib.hid (Wd.ok_set HP.out (i + k) (Wd.mulL_lt (a.getD i 0) (b.getD k 0) (p.getD (i + k) 0) cy))
          have hcg := hbl2.cellD hil
          have hfg := hbl2.free (i + k)
          obtain ⟨b1, o1, rfl, hb1, hc1⟩ := rd_word_D (p5.up hup2) hlt
          obtain ⟨b2, o2, rfl, hb2, hc2⟩ := rd_word_D (q5.up hup2) hlt2
          clear hlp
          generalize a.getD i 0 = x at *
          generalize b.getD k 0 = y at *
          generalize p.getD (i + k) 0 = z at *
          obtain ⟨S, hS⟩ : ∃ S, S = x * y + z + cy := ⟨_, rfl⟩
          have HW := Lib.hid (wide_sum hS hx hy hz hcy)
          have HLO : Hid (((S : Int) % 4294967296) = ((Wd.mulL x y z cy : Nat) : Int)) := Lib.hid (by unfold Wd.mulL; rw [← hS]; omega)
          have HHI : Hid (((S : Int) / 4294967296) = ((Wd.mulH x y z cy : Nat) : Int)) := Lib.hid (by unfold Wd.mulH; rw [← hS]; omega)
          have hS2 := HW.out.2
          clear hS
          go_wp2
          go_quiet (fail)
          rw [HW.out.1]
          have hbl3 := hbl2.drewN nq
          have hup3 := hup2.drewN nq
          go_wp2
          go_roundw
          case rel =>
            rw [HLO.out, HHI.out]
            exact ⟨k + 1, _, _, rfl, by go_num, by omega, HP2, hbl3.set _ _, hup3.setCell (Nat.le_refl _) _, HN⟩
          case measure => simp [intOf]; omega
        · obtain rfl : k = b.length := by omega
          have hil : i + b.length < p.length := by rw [hlp, ho.out]; omega
          have HE := Lib.hid (Wd.rowAt_end (by rw [← hlp]; exact hil) HZD.out HRT.out)
          have HN := Lib.hid (HS.out _ HE.out.1 HE.out.2)
          have HP2 := Lib.hid (Wd.ok_set HP.out (i + b.length) hcy)
          have HL : Hid ((p.set (i + b.length) cy).length = a.length + b.length) := Lib.hid (by rw [List.length_set, hlp]; exact ho.out)
          have hcg := hbl2.cellD hil
          have hfg := hbl2.free (i + b.length)
          rw [Wd.B_eq] at hcy
          clear hlp HE
          generalize p.getD (i + b.length) 0 = z at *
          go_wp2
          go_roundw
          case rel => exact ⟨i + 1, _, by go_num, by omega, HL, HP2, hbl2.set _ _, hup2.setCell (Nat.le_refl _) _, HN⟩
          case measure => simp [intOf]; omega
    · obtain rfl : i = a.length := by omega
      have hwn : Ws wr (.slice (some ⟨w.heap.size, 0, none⟩) (a.length + b.length) (a.length + b.length)) o := by
        have := hbl.ws HO.out (by rw [ho.out]; unfold maxLen; omega)
        rw [ho.out] at this
        exact this
      have HV : Hid (Wd.val o = Wd.val a * Wd.val b) := Lib.hid (by have := HAT.out.1; rw [List.take_length] at this; rw [this, Nat.mul_comm])
      have HL : Hid (o.length ≤ 1000000000) := Lib.hid (by rw [ho.out]; omega)
      go_wp2_with fail
      refine (ref_norm hwn HL.out).mono ?_
      rintro e w2 ⟨v', rfl, h', h2, h3⟩
      rw [HV.out] at h' h2
      have hsz := hup.size
      have hfin : Up w w2 := hup.trans h3
      go_wp2
      go_ret
      exact ⟨v', rfl, own_weaken h' hsz, h2, hfin⟩

theorem words_1 : Wd.words 1 = [1] := words_small (by omega) (by omega)

set_option maxHeartbeats 3200000 in
theorem ref_pow {v : Value} {a : List Nat} {w : World} {n : Int} (ha : Ws w v a) (hla : a.length ≤ 1000000) (hn : -9223372036854775808 ≤ n ∧ n ≤ 9223372036854775807) :
    Calls Try.prog 91 #[v, .int .i64 n] w (RetWB (Wd.words (Wd.powN (Wd.val a) n)) (Wd.powOk (Wd.val a) n) w) := by
  obtain ⟨A, c, rfl⟩ := ha.form
  have hbl := (Wd.bl_le_iff (32 * a.length) (Wd.val a)).2 (Wd.val_lt_two ha.ok)
  have hlw := len_words_val ha.ok (Nat.le_refl _)
  by_cases hneg : n < 0
  · have HK := Lib.hid (powOk_neg (N := Wd.val a) hneg)
    have HV := Lib.hid (powN_no HK.out)
    go_enter Try.func91, Try.ntmps91
    go_wp2_with fail
    refine (ref_len3 ha (by omega)).mono ?_
    rintro e w1 ⟨rfl, u1⟩
    generalize Wd.bl (Wd.val a) = L at *
    go_wp2
    go_ret2
    exact ret_wb (ws_zero _) (by rw [HV.out, Wd.words_zero]) HK.out.symm (u1.alloc _)
  obtain ⟨e, rfl⟩ : ∃ e : Nat, n = e := ⟨n.toNat, by omega⟩
  by_cases hfar : 1 < Wd.bl (Wd.val a) ∧ 65536 / (Wd.bl (Wd.val a) : Int) < (e : Int)
  · obtain ⟨hf1, hf2⟩ := hfar
    have HK := Lib.hid (powOk_far (N := Wd.val a) (e := e) (by omega) hf2)
    have HV := Lib.hid (powN_no HK.out)
    go_enter Try.func91, Try.ntmps91
    go_wp2_with fail
    refine (ref_len3 ha (by omega)).mono ?_
    rintro e1 w1 ⟨rfl, u1⟩
    generalize Wd.bl (Wd.val a) = L at *
    go_wp2
    go_ret2
    exact ret_wb (ws_zero _) (by rw [HV.out, Wd.words_zero]) HK.out.symm (u1.alloc _)
  by_cases hsm : Wd.bl (Wd.val a) ≤ 1
  · have HK := Lib.hid (powOk_small (N := Wd.val a) (e := e) (by omega) hsm)
    have HS : Hid (Wd.val a ^ min e 1 = Wd.val a ^ e) := Lib.hid (by
      rcases Nat.eq_zero_or_pos e with h0 | h0
      · rw [h0]; rfl
      · rw [Nat.min_eq_right h0, Nat.pow_one, Wd.small_pow hsm h0])
    have HMI : Hid (((min e 1 : Nat) : Int) = if (1 : Int) < (e : Int) then 1 else (e : Int)) := Lib.hid (by split <;> omega)
    have hm1 : min e 1 ≤ 1 := by omega
    generalize min e 1 = m at *
    have HVV : Hid (Wd.words (Wd.val a ^ m) = Wd.words (Wd.powN (Wd.val a) e)) := Lib.hid (by rw [powN_yes HK.out, HS.out]; rfl)
    have HP : Hid (∀ k, k ≤ m → (Wd.words (Wd.val a ^ k)).length ≤ 100000000) := Lib.hid (fun k hk => by
      have h01 : k = 0 ∨ k = 1 := by omega
      rcases h01 with rfl | rfl
      · rw [Nat.pow_zero]; exact Nat.le_trans Wd.words_one_len (by omega)
      · rw [Nat.pow_one]; omega)
    clear HS hfar
    go_enter Try.func91, Try.ntmps91
    go_wp2_with fail
    refine (ref_len3 ha (by omega)).mono ?_
    rintro e1 w1 ⟨rfl, u1⟩
    generalize Wd.bl (Wd.val a) = L at *
    go_wp2_with (with_reducible show wpList _ _ _ _ _ _; refine wl_min (o := ⟨some 28, _, _, _, _, _⟩) rfl _ _ _ _ rfl rfl rfl HMI.out ?_)
    go_loopw [7, 8] (fun s7 s8 wr => ∃ (k : Nat), s8 = .int .i64 k ∧ k ≤ m ∧ Ws wr s7 (Wd.words (Wd.val a ^ k)) ∧ Up w wr) (fun _ s8 _ => m - (intOf s8).toNat)
    case atStart => exact ⟨0, rfl, Nat.zero_le _, by rw [Nat.pow_zero, words_1]; exact ws_one w1 1 Wd.B_one, u1.alloc _⟩
    case round =>
      obtain ⟨k, rfl, hk, hs7, hup⟩ := hrel
      by_cases hlt : k < m
      · have HL := Lib.hid (HP.out k hk)
        have HN : Hid (Wd.val a ^ k * Wd.val a = Wd.val a ^ (k + 1)) := Lib.hid (by rw [Nat.pow_succ])
        go_wp2_with fail
        refine (ref_norm (ha.up hup) (by omega)).mono ?_
        intro e1 w2 hret
        obtain ⟨v2, rfl, h2, h3⟩ := hret.ws
        have g2 := hup.trans h3
        go_wp2_with fail
        refine (ref_mul (hs7.up h3) h2 HL.out (by omega)).mono ?_
        intro e1 w3 hret3
        obtain ⟨v3, rfl, h4, h5⟩ := hret3.ws
        rw [Wd.val_words, Wd.val_words, HN.out] at h4
        have g3 := g2.trans h5
        go_wp2
        go_roundw
        case rel => exact ⟨k + 1, by go_num, by omega, h4, g3⟩
        case measure => simp [intOf]; omega
      · obtain rfl : k = m := by omega
        go_wp2
        go_ret2
        exact ret_wb hs7 HVV.out HK.out.symm hup
  · have hnear : (e : Int) ≤ 65536 / (Wd.bl (Wd.val a) : Int) := by omega
    have HK := Lib.hid (powOk_near (N := Wd.val a) (e := e) (by omega) hnear)
    have hle : e * Wd.bl (Wd.val a) ≤ 65536 := by
      have h3 : ((65536 / Wd.bl (Wd.val a) : Nat) : Int) = 65536 / (Wd.bl (Wd.val a) : Int) := by rw [Int.natCast_ediv]; rfl
      have h2 : e ≤ 65536 / Wd.bl (Wd.val a) := by omega
      exact (Nat.le_div_iff_mul_le (by omega)).1 h2
    have he6 : e ≤ 65536 := Nat.le_trans (Nat.le_mul_of_pos_right e (by omega)) hle
    have HVV : Hid (Wd.words (Wd.val a ^ e) = Wd.words (Wd.powN (Wd.val a) e)) := Lib.hid (by rw [powN_yes HK.out]; rfl)
    have HP : Hid (∀ k, k ≤ e → (Wd.words (Wd.val a ^ k)).length ≤ 100000000) := Lib.hid (fun k hk => Nat.le_trans (Wd.pow_len hle hk) (by omega))
    clear hle hfar
    go_enter Try.func91, Try.ntmps91
    go_wp2_with fail
    refine (ref_len3 ha (by omega)).mono ?_
    rintro e1 w1 ⟨rfl, u1⟩
    generalize Wd.bl (Wd.val a) = L at *
    go_wp2_with fail
    go_loopw [7, 8] (fun s7 s8 wr => ∃ (k : Nat), s8 = .int .i64 k ∧ k ≤ e ∧ Ws wr s7 (Wd.words (Wd.val a ^ k)) ∧ Up w wr) (fun _ s8 _ => e - (intOf s8).toNat)
    case atStart => exact ⟨0, rfl, Nat.zero_le _, by rw [Nat.pow_zero, words_1]; exact ws_one w1 1 Wd.B_one, u1.alloc _⟩
    case round =>
      obtain ⟨k, rfl, hk, hs7, hup⟩ := hrel
      by_cases hlt : k < e
      · have HL := Lib.hid (HP.out k hk)
        have HN : Hid (Wd.val a ^ k * Wd.val a = Wd.val a ^ (k + 1)) := Lib.hid (by rw [Nat.pow_succ])
        go_wp2_with fail
        refine (ref_norm (ha.up hup) (by omega)).mono ?_
        intro e1 w2 hret
        obtain ⟨v2, rfl, h2, h3⟩ := hret.ws
        have g2 := hup.trans h3
        go_wp2_with fail
        refine (ref_mul (hs7.up h3) h2 HL.out (by omega)).mono ?_
        intro e1 w3 hret3
        obtain ⟨v3, rfl, h4, h5⟩ := hret3.ws
        rw [Wd.val_words, Wd.val_words, HN.out] at h4
        have g3 := g2.trans h5
        go_wp2
        go_roundw
        case rel => exact ⟨k + 1, by go_num, by omega, h4, g3⟩
        case measure => simp [intOf]; omega
      · obtain rfl : k = e := by omega
        go_wp2
        go_ret2
        exact ret_wb hs7 HVV.out HK.out.symm hup
end Go.Proofs.Ytelgenhmmfkmhaa
