/-
  The walks of layer 4.
  The walk of powers.
  The walks of the document's layer 4.
  The walks of the statements of layer 4.
-/
import Derived.Test.YtmmcffceeahemaaLowLaws
import Derived.Test.YtmmcffceeahemaaPlain
set_option linter.unusedVariables false
set_option linter.unusedSimpArgs false
namespace Go.Proofs.Ytmmcffceeahemaa
open Go.RowKit

/-- What a row leaves behind. -/
def RetRow (w0 : World) (g : Nat) (o a : List Nat) (x c k : Nat) (e : Ending) (w' : World) : Prop :=
  e = .returned (.tuple #[]) ∧ ∃ o', Blk w' g o' ∧ Wd.Ok o' ∧ o'.length = o.length ∧ (Wd.val o' = Wd.val o + Wd.B ^ k * (x * Wd.val a + c) ∧ Wd.val (o'.drop (k + a.length + 1)) = 0) ∧ Up w0 w'

set_option maxRecDepth 100000 in
set_option maxHeartbeats 1600000 in
theorem prod_row {w0 w : World} {v : Value} {a o : List Nat} {g N : Nat} {ki xi ci : Int} (k x c : Nat) (hk : ki = k) (hx : xi = x) (hc : ci = c) (bx : x < Wd.B) (bc : c < Wd.B) (ha : Ws w0 v a) (hN : o.length = N)
    (hb : Blk w g o) (ho : Wd.Ok o) (hu : Up w0 w) (hg : w0.heap.size ≤ g) (hlen : k + a.length < o.length) (hbig : o.length ≤ 100000000000) (hz : Wd.val (o.drop (k + a.length)) = 0) :
    Calls Try.prog 164 #[.slice (some ⟨g, 0, none⟩) N N, .int .i64 ki, v, .int .u32 xi, .int .u32 ci] w (RetRow w0 g o a x c k) := by
  subst hk hx hc hN
  obtain ⟨A, d, rfl, p2, p3, p4, p5⟩ := ha
  have P4 := Lib.hid p4
  have HZ := Lib.hid hz
  have HO := Lib.hid ho
  have HBC := Lib.hid bc
  clear p3 p4 hz ho bc
  have hk1 : k < o.length := by omega
  go_enter Try.func164, Try.ntmps164
  go_wp2
  go_loopw [4, 14] (fun s4 s14 wr => ∃ (i cy : Nat) (p : List Nat), s4 = .int .u32 cy ∧ s14 = .int .i64 i ∧ i ≤ a.length ∧ Hid (Wd.Ok p) ∧ Blk wr g p ∧ Up w0 wr ∧ Hid (Wd.RowAt a o p x c k i cy)) (fun _ s14 _ => a.length - (intOf s14).toNat)
  case atStart => exact ⟨0, c, o, rfl, rfl, Nat.zero_le _, HO, hb, hu, Lib.hid (Wd.rowAt_zero a o x c k HBC.out)⟩
  case round =>
    obtain ⟨i, cy, p, rfl, rfl, hi, HP, hbl, hup, HAT⟩ := hrel
    by_cases hlt : i < a.length
    · have hy := Wd.ok_getD P4.out i
      have hz := Wd.ok_getD HP.out (k + i)
      have hcy := HAT.out.1
      have hil : k + i < p.length := by rw [HAT.out.2.1]; omega
      have HN := Lib.hid (Wd.rowAt_step (by omega) HP.out bx hy HAT.out)
      have HP2 := Lib.hid (Wd.ok_set HP.out (k + i) (Wd.mulL_lt x (a.getD i 0) (p.getD (k + i) 0) cy))
      have hcg := hbl.cellD hil
      have hfg := hbl.free (k + i)
      obtain ⟨b1, o1, rfl, hb1, hc1⟩ := rd_word_D (p5.up hup) hlt
      have hki : k + i < o.length := by omega
      generalize a.getD i 0 = y at *
      generalize p.getD (k + i) 0 = z at *
      go_wp2_with fail
      refine (limb_mul x y z cy rfl rfl rfl rfl bx hy hz hcy _).mono ?_
      rintro e w2 ⟨rfl, rfl⟩
      go_wp2
      go_roundw
      case rel => exact ⟨i + 1, _, _, rfl, by go_num, by omega, HP2, hbl.set _ _, hup.setCell hg _, HN⟩
      case measure => simp [intOf]; omega
    · obtain rfl : i = a.length := by omega
      have hcy := HAT.out.1
      have hil : k + a.length < p.length := by rw [HAT.out.2.1]; omega
      have hlp : (p.set (k + a.length) cy).length = o.length := by rw [List.length_set]; exact HAT.out.2.1
      have HE := Lib.hid (Wd.rowAt_end hlen HZ.out HAT.out)
      have HP2 := Lib.hid (Wd.ok_set HP.out (k + a.length) hcy)
      have HL := Lib.hid hlp
      have hcg := hbl.cellD hil
      have hfg := hbl.free (k + a.length)
      clear hlp
      generalize p.getD (k + a.length) 0 = z at *
      go_wp2
      go_end0
      exact ⟨rfl, _, hbl.set _ _, HP2.out, HL.out, HE.out, hup.setCell hg _⟩


set_option maxHeartbeats 1600000 in
theorem prod_mul {v u : Value} {a b : List Nat} {w : World} (ha : Ws w v a) (hb : Ws w u b) (hla : a.length ≤ 10000000000) (hlb : b.length ≤ 10000000000) :
    Calls Try.prog 120 #[v, u] w (RetW (Wd.words (Wd.val a * Wd.val b)) w) := by
  have ha0 := ha
  obtain ⟨A, d, rfl⟩ := ha.form
  obtain ⟨D, d2, rfl, q2, q3, q4, q5⟩ := hb
  have Q4 := Lib.hid q4
  clear q3 q4 ha
  go_enter Try.func120, Try.ntmps120
  go_wp2_with (at_make; go_loud (refine wl_make rfl _ _ rfl (a.length + b.length + 1) rfl rfl ?_ ?_ ?_))
  · omega
  · omega
  intro w1 hb1 hu1
  have HZ : Hid ((List.replicate (a.length + b.length + 1) 0).length = a.length + b.length + 1) := Lib.hid (by rw [List.length_replicate])
  have HZO := Lib.hid (Wd.ok_replicate (a.length + b.length + 1))
  have HM := Lib.hid (Wd.mulAt_zero a b (a.length + b.length + 1))
  generalize List.replicate (a.length + b.length + 1) 0 = o1 at hb1 HZ HZO HM
  go_wp2_with fail
  go_loopw [17] (fun s17 wr => ∃ (i : Nat) (o : List Nat), s17 = .int .i64 i ∧ i ≤ b.length ∧ Hid (o.length = a.length + b.length + 1) ∧ Hid (Wd.Ok o) ∧ Blk wr w.heap.size o ∧ Up w wr ∧ Hid (Wd.MulAt a b o i)) (fun s17 _ => b.length - (intOf s17).toNat)
  case atStart => exact ⟨0, o1, rfl, Nat.zero_le _, HZ, HZO, hb1, hu1, HM⟩
  case round =>
    obtain ⟨i, o, rfl, hi, ho, HO, hbl, hup, HAT⟩ := hrel
    by_cases hlt : i < b.length
    · have hy := Wd.ok_getD Q4.out i
      have HS := Lib.hid (fun o' h1 h2 => Wd.mulAt_step (o' := o') HAT.out h1 h2)
      obtain ⟨b1, o1, rfl, hb1, hc1⟩ := rd_word_D (q5.up hup) hlt
      generalize b.getD i 0 = y at *
      go_wp2_with fail
      refine (prod_row (w0 := w) (a := a) (o := o) i y 0 rfl rfl rfl hy Wd.B_pos ha0 ho.out hbl HO.out hup (Nat.le_refl _) (by rw [ho.out]; omega) (by rw [ho.out]; omega) HAT.out.2).mono ?_
      rintro e w2 ⟨rfl, o2, hb2, k2, l2, ⟨v2, d2⟩, u2⟩
      have HN := Lib.hid (HS.out o2 v2 d2)
      have HL : Hid (o2.length = a.length + b.length + 1) := Lib.hid (by rw [l2]; exact ho.out)
      have HO2 := Lib.hid k2
      clear v2 d2 l2 k2
      go_wp2
      go_roundw
      case rel => exact ⟨i + 1, o2, by go_num, by omega, HL, HO2, hb2, u2, HN⟩
      case measure => simp [intOf]; omega
    · obtain rfl : i = b.length := by omega
      have hwn : Ws wr (.slice (some ⟨w.heap.size, 0, none⟩) (a.length + b.length + 1) (a.length + b.length + 1)) o := by
        have := hbl.ws HO.out (by rw [ho.out]; unfold maxLen; omega)
        rw [ho.out] at this
        exact this
      have HV : Hid (Wd.val o = Wd.val a * Wd.val b) := Lib.hid (by have := HAT.out.1; rw [List.take_length] at this; exact this)
      have HL : Hid (o.length ≤ 100000000000) := Lib.hid (by rw [ho.out]; omega)
      go_wp2_with fail
      refine (nat_norm hwn HL.out).mono ?_
      intro e w3 hret
      obtain ⟨v3, rfl, h3, h4⟩ := hret.ws
      rw [HV.out] at h3
      have hfin := hup.trans h4
      go_wp2
      go_ret
      exact ⟨v3, rfl, h3, hfin⟩



end Go.Proofs.Ytmmcffceeahemaa
set_option linter.unusedVariables false
set_option linter.unusedSimpArgs false
namespace Go.Proofs.Ytmmcffceeahemaa
open Go.RowKit

theorem i64_and_one (n : Nat) (h : n < 9223372036854775808) : bits .and .i64 (n : Int) 1 = ((n % 2 : Nat) : Int) := by
  have h127 : (BitVec.ofInt 64 1).toNat = 2 ^ 1 - 1 := by decide
  have key : (BitVec.ofInt 64 (n : Int) &&& BitVec.ofInt 64 1).toNat = ((n : Int) % ((2 ^ 64 : Nat) : Int)).toNat % 2 ^ 1 := by
    rw [BitVec.toNat_and, BitVec.toNat_ofInt, h127, Nat.and_two_pow_sub_one_eq_mod]
  show IntKind.i64.wrap ((BitVec.ofInt 64 (n : Int) &&& BitVec.ofInt 64 1).toNat : Nat) = ((n % 2 : Nat) : Int)
  rw [key, IntKind.wrap_i64]
  omega
theorem and_one_i64 {e b r : Nat} (he : e ≤ 65536) (hc : e / 2 ^ b % 2 = r) : bits .and .i64 ((e : Int) / 2 ^ b) 1 = (r : Int) := by
  have h1 : ((e : Int) / 2 ^ b) = ((e / 2 ^ b : Nat) : Int) := by rw [Int.natCast_ediv, Int.natCast_pow]; rfl
  rw [h1, i64_and_one _ (Nat.lt_of_le_of_lt (Nat.div_le_self _ _) (by omega)), hc]
theorem and_one_i64_no {e b : Nat} (he : e ≤ 65536) (hc : e / 2 ^ b % 2 = 0) : (bits .and .i64 ((e : Int) / 2 ^ b) 1 == 1) = false := by rw [and_one_i64 he hc]; rfl
theorem and_one_i64_yes {e b : Nat} (he : e ≤ 65536) (hc : e / 2 ^ b % 2 = 1) : (bits .and .i64 ((e : Int) / 2 ^ b) 1 == 1) = true := by rw [and_one_i64 he hc]; rfl
theorem powOk_neg {N : Nat} {e : Int} (h : e < 0) : Wd.powOk N e = false := by
  unfold Wd.powOk
  exact decide_eq_false (by omega)
theorem powOk_far {N : Nat} {e : Int} (h1 : 1 < Wd.bl N) (h2 : 65536 / (Wd.bl N : Int) < e) : Wd.powOk N e = false := by
  unfold Wd.powOk
  exact decide_eq_false (by omega)
theorem powOk_small {N : Nat} {e : Int} (h0 : 0 ≤ e) (h1 : Wd.bl N ≤ 1) : Wd.powOk N e = true := by
  unfold Wd.powOk
  exact decide_eq_true ⟨h0, .inl h1⟩
theorem powOk_near {N : Nat} {e : Int} (h0 : 0 ≤ e) (h2 : e ≤ 65536 / (Wd.bl N : Int)) : Wd.powOk N e = true := by
  unfold Wd.powOk
  exact decide_eq_true ⟨h0, .inr h2⟩
theorem powN_no {N : Nat} {e : Int} (h : Wd.powOk N e = false) : Wd.powN N e = 0 := by unfold Wd.powN; rw [h]; rfl
theorem powN_yes {N : Nat} {e : Int} (h : Wd.powOk N e = true) : Wd.powN N e = N ^ e.toNat := by unfold Wd.powN; rw [h]; rfl
theorem ret_wb {v : Value} {l l' : List Nat} {b b' : Bool} {w w' : World} (hs : Ws w' v l) (h1 : l = l') (h2 : b = b') (hu : Up w w') : RetWB l' b' w (.returned (.tuple #[v, .bool b])) w' := ⟨v, by rw [h2], by rw [← h1]; exact hs, hu⟩


end Go.Proofs.Ytmmcffceeahemaa
set_option linter.unusedVariables false
set_option linter.unusedSimpArgs false
namespace Go.Proofs.Ytmmcffceeahemaa
open Go.RowKit

theorem wide_sum {x y z c S : Nat} (hS : S = x * y + z + c) (hx : x < Wd.B) (hy : y < Wd.B) (hz : z < Wd.B) (hc : c < Wd.B) :
    IntKind.u64.wrap ((c : Int) + IntKind.u64.wrap (IntKind.u64.wrap (IntKind.u64.wrap (x : Int) * IntKind.u64.wrap (y : Int)) + IntKind.u64.wrap (z : Int))) = (S : Int) ∧ S < 18446744073709551616 := by
  have hm := Wd.mul_le_top hx hy
  rw [Wd.B_eq] at hx hy hz hc
  have e1 : IntKind.u64.wrap (x : Int) = x := by rw [IntKind.wrap_u64]; omega
  have e2 : IntKind.u64.wrap (y : Int) = y := by rw [IntKind.wrap_u64]; omega
  have e3 : IntKind.u64.wrap (z : Int) = z := by rw [IntKind.wrap_u64]; omega
  have e4 : ((x : Int) * (y : Int)) = ((x * y : Nat) : Int) := by rw [Int.natCast_mul]
  rw [e1, e2, e3, e4]
  generalize x * y = m at *
  rw [IntKind.wrap_u64, IntKind.wrap_u64, IntKind.wrap_u64]
  omega

set_option maxRecDepth 100000 in
set_option maxHeartbeats 1600000 in
theorem ref_mul {v u : Value} {a b : List Nat} {w : World} (ha : Ws w v a) (hb : Ws w u b) (hla : a.length ≤ 10000000000) (hlb : b.length ≤ 10000000000) :
    Calls Try.prog 113 #[v, u] w (RetO (Wd.words (Wd.val a * Wd.val b)) w) := by
  obtain ⟨A, d, rfl, p2, p3, p4, p5⟩ := ha
  obtain ⟨D, d2, rfl, q2, q3, q4, q5⟩ := hb
  have P4 := Lib.hid p4
  have Q4 := Lib.hid q4
  clear p3 p4 q3 q4
  go_enter Try.func113, Try.ntmps113
  go_wp2_with (at_make; go_loud (refine wl_make rfl _ _ rfl (a.length + b.length) rfl rfl ?_ ?_ ?_))
  · omega
  · omega
  intro w1 hb1 hu1
  have HZ : Hid ((List.replicate (a.length + b.length) 0).length = a.length + b.length) := Lib.hid (by rw [List.length_replicate])
  have HZO := Lib.hid (Wd.ok_replicate (a.length + b.length))
  have HM := Lib.hid (Wd.mulAt_zero b a (a.length + b.length))
  generalize List.replicate (a.length + b.length) 0 = o1 at hb1 HZ HZO HM
  go_wp2_with fail
  go_loopw [6] (fun s6 wr => ∃ (i : Nat) (o : List Nat), s6 = .int .i64 i ∧ i ≤ a.length ∧ Hid (o.length = a.length + b.length) ∧ Hid (Wd.Ok o) ∧ Blk wr w.heap.size o ∧ Up w wr ∧ Hid (Wd.MulAt b a o i)) (fun s6 _ => a.length - (intOf s6).toNat)
  case atStart => exact ⟨0, o1, rfl, Nat.zero_le _, HZ, HZO, hb1, hu1, HM⟩
  case round =>
    obtain ⟨i, o, rfl, hi, ho, HO, hbl, hup, HAT⟩ := hrel
    by_cases hlt : i < a.length
    · have hx := Wd.ok_getD P4.out i
      have HS := Lib.hid (fun o' h1 h2 => Wd.mulAt_step (o' := o') HAT.out h1 h2)
      have HR := Lib.hid (Wd.rowAt_zero b o (a.getD i 0) 0 i Wd.B_pos)
      have HZD := Lib.hid HAT.out.2
      clear HAT
      go_wp2_with fail
      go_loopw [7, 8] (fun s7 s8 wq => ∃ (k cy : Nat) (p : List Nat), s7 = .int .u64 cy ∧ s8 = .int .i64 k ∧ k ≤ b.length ∧ Hid (Wd.Ok p) ∧ Blk wq w.heap.size p ∧ Up w wq ∧ Hid (Wd.RowAt b o p (a.getD i 0) 0 i k cy)) (fun _ s8 _ => b.length - (intOf s8).toNat)
      case atStart => exact ⟨0, 0, o, rfl, rfl, Nat.zero_le _, HO, hbl, hup, HR⟩
      case round =>
        obtain ⟨k, cy, p, rfl, rfl, hk, HP, hbl2, hup2, HRT⟩ := hrel
        have hcy := HRT.out.1
        have hlp := HRT.out.2.1
        by_cases hlt2 : k < b.length
        · have hy := Wd.ok_getD Q4.out k
          have hz := Wd.ok_getD HP.out (i + k)
          have hil : i + k < p.length := by rw [hlp, ho.out]; omega
          have HN := Lib.hid (Wd.rowAt_step (by rw [← hlp]; exact hil) HP.out hx hy HRT.out)
          have HP2 := Lib.hid (Wd.ok_set HP.out (i + k) (Wd.mulL_lt (a.getD i 0) (b.getD k 0) (p.getD (i + k) 0) cy))
          have hcg := hbl2.cellD hil
          have hfg := hbl2.free (i + k)
          obtain ⟨b1, o1, rfl, hb1, hc1⟩ := rd_word_D (p5.up hup2) hlt
          obtain ⟨b2, o2, rfl, hb2, hc2⟩ := rd_word_D (q5.up hup2) hlt2
          clear hlp
          generalize a.getD i 0 = x at *
          generalize b.getD k 0 = y at *
          generalize p.getD (i + k) 0 = z at *
          obtain ⟨S, hS⟩ : ∃ S, S = x * y + z + cy := ⟨_, rfl⟩
          have HW := Lib.hid (wide_sum hS hx hy hz hcy)
          have HLO : Hid (((S : Int) % 4294967296) = ((Wd.mulL x y z cy : Nat) : Int)) := Lib.hid (by unfold Wd.mulL; rw [← hS]; omega)
          have HHI : Hid (((S : Int) / 4294967296) = ((Wd.mulH x y z cy : Nat) : Int)) := Lib.hid (by unfold Wd.mulH; rw [← hS]; omega)
          have hS2 := HW.out.2
          clear hS
          go_wp2
          go_quiet (fail)
          rw [HW.out.1]
          have hbl3 := hbl2.drewN nq
          have hup3 := hup2.drewN nq
          go_wp2
          go_roundw
          case rel =>
            rw [HLO.out, HHI.out]
            exact ⟨k + 1, _, _, rfl, by go_num, by omega, HP2, hbl3.set _ _, hup3.setCell (Nat.le_refl _) _, HN⟩
          case measure => simp [intOf]; omega
        · obtain rfl : k = b.length := by omega
          have hil : i + b.length < p.length := by rw [hlp, ho.out]; omega
          have HE := Lib.hid (Wd.rowAt_end (by rw [← hlp]; exact hil) HZD.out HRT.out)
          have HN := Lib.hid (HS.out _ HE.out.1 HE.out.2)
          have HP2 := Lib.hid (Wd.ok_set HP.out (i + b.length) hcy)
          have HL : Hid ((p.set (i + b.length) cy).length = a.length + b.length) := Lib.hid (by rw [List.length_set, hlp]; exact ho.out)
          have hcg := hbl2.cellD hil
          have hfg := hbl2.free (i + b.length)
          rw [Wd.B_eq] at hcy
          clear hlp HE
          generalize p.getD (i + b.length) 0 = z at *
          go_wp2
          go_roundw
          case rel => exact ⟨i + 1, _, by go_num, by omega, HL, HP2, hbl2.set _ _, hup2.setCell (Nat.le_refl _) _, HN⟩
          case measure => simp [intOf]; omega
    · obtain rfl : i = a.length := by omega
      have hwn : Ws wr (.slice (some ⟨w.heap.size, 0, none⟩) (a.length + b.length) (a.length + b.length)) o := by
        have := hbl.ws HO.out (by rw [ho.out]; unfold maxLen; omega)
        rw [ho.out] at this
        exact this
      have HV : Hid (Wd.val o = Wd.val a * Wd.val b) := Lib.hid (by have := HAT.out.1; rw [List.take_length] at this; rw [this, Nat.mul_comm])
      have HL : Hid (o.length ≤ 100000000000) := Lib.hid (by rw [ho.out]; omega)
      go_wp2_with fail
      refine (ref_norm hwn HL.out).mono ?_
      rintro e w2 ⟨v', rfl, h', h2, h3⟩
      rw [HV.out] at h' h2
      have hsz := hup.size
      have hfin : Up w w2 := hup.trans h3
      go_wp2
      go_ret
      exact ⟨v', rfl, own_weaken h' hsz, h2, hfin⟩

theorem words_1 : Wd.words 1 = [1] := words_small (by omega) (by omega)


end Go.Proofs.Ytmmcffceeahemaa
set_option linter.unusedVariables false
set_option linter.unusedSimpArgs false
namespace Go.Proofs.Ytmmcffceeahemaa
open Go.RowKit

theorem bl_2 : Wd.bl 2 = 2 := Wd.bl_top (n := 1) (by decide) (by decide)
theorem pow_2 : Wd.powOk 2 10 = true ∧ Wd.powN 2 10 = 1024 := by
  have h : Wd.powOk 2 10 = true := powOk_near (by omega) (by rw [bl_2]; decide)
  exact ⟨h, by rw [powN_yes h]; decide⟩
theorem words_top : Wd.words (4294967295 * 4294967295) = [1, 4294967294] :=
  words_list (ok_of_all (by simp)) rfl (by simp [Wd.val, Wd.B_eq])
theorem words_1024 : Wd.words 1024 = [1024] := words_small (by omega) (by omega)


/-- The lists that are handed in are right lists' worth of words. -/
theorem wl (a : List Nat) (h : Wd.Ok a) : (Wd.words (Wd.val a)).length ≤ a.length := Wd.words_val_length h


end Go.Proofs.Ytmmcffceeahemaa
