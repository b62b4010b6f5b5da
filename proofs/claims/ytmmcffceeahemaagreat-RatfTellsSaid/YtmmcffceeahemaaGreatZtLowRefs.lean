/-
  The walks of the document's layer 3.
  The walks of the document's layer 3 that shift.
  The walks of the statements of layer 2.
  The walks of the statements of layer 2, the others.
  The laws of layer 3.
  The walks of the document's layer 4.
  The walks of the statements of layer 4.
-/
import Derived.Test.YtmmcffceeahemaaGreatZtLowTwos
import Derived.Test.YtmmcffceeahemaaGreatZtRefNat
import Derived.Test.YtmmcffceeahemaaGreatZtLowProd
import Derived.Test.YtmmcffceeahemaaGreatZtShort
set_option linter.unusedVariables false
set_option linter.unusedSimpArgs false
namespace Go.Proofs.YtmmcffceeahemaaGreat
open Go.RowKit
set_option maxHeartbeats 800000 in
theorem ref_has {v : Value} {l : List Nat} {w : World} {n : Int} (h : Ws w v l) (hl : l.length ≤ 10000000000) (hn : -9223372036854775808 ≤ n ∧ n ≤ 9223372036854775807) :
 Calls Tryz.prog 182 #[v, .int .i64 n] w fun e w' => e = .returned (.bool (bitZ (Wd.val l) n)) ∧ w = w' := by
 obtain ⟨A, c, rfl, p2, p3, p4, p5⟩ := h
 have P4 := Lib.hid p4
 clear p3 p4
 obtain ⟨hn1, hn2⟩ := hn
 by_cases hneg : n < 0
 · have E : Hid (bitZ (Wd.val l) n = false) := Lib.hid (if_pos hneg)
   go_enter Tryz.func182, Tryz.ntmps182
   go_wp2
   go_ret
   exact ⟨by rw [E.out]; rfl, rfl⟩
 · obtain ⟨i, rfl⟩ : ∃ i : Nat, n = i := ⟨n.toNat, by omega⟩
   have e0 : bitZ (Wd.val l) i = Wd.bitN (Wd.val l) i := if_neg hneg
   rw [e0]
   clear e0 hneg hn1
   by_cases hfar : l.length ≤ i / 32
   · have E := Lib.hid (bit_far P4.out hfar)
     go_enter Tryz.func182, Tryz.ntmps182
     go_wp2
     go_ret
     exact ⟨by rw [E.out]; rfl, rfl⟩
   · have hx := Wd.ok_getD P4.out (i / 32)
     rw [Wd.B_eq] at hx
     obtain ⟨b, o, rfl, hb, hc⟩ := rd_word_D p5 (k := i / 32) (by omega)
     have E : Hid (Wd.bitN (Wd.val l) i = decide (l.getD (i / 32) 0 / 2 ^ (i % 32) % 2 = 1)) := Lib.hid (by unfold Wd.bitN; rw [Wd.bit_word l P4.out])
     generalize l.getD (i / 32) 0 = x at *
     go_enter Tryz.func182, Tryz.ntmps182
     go_wp2
     go_loop [5, 6] (fun s5 s6 => ∃ (k y : Nat), s5 = .int .u32 y ∧ s6 = .int .i64 k ∧ k ≤ i % 32 ∧ y < 4294967296 ∧ Hid (y = x / 2 ^ k)) (fun _ s6 => i % 32 - (intOf s6).toNat)
     case atStart => exact ⟨0, x, rfl, rfl, Nat.zero_le _, hx, Lib.hid (by rw [Nat.pow_zero, Nat.div_one])⟩
     case round =>
      obtain ⟨k, y, rfl, rfl, hk, hy, HY⟩ := hrel
      by_cases hlt : k < i % 32
      · have HN : Hid (y / 2 = x / 2 ^ (k + 1)) := Lib.hid (by rw [HY.out, Nat.div_div_eq_div_mul, Nat.pow_succ])
        go_wp2
        go_round
        case rel => exact ⟨k + 1, y / 2, by go_num, by go_num, by omega, by omega, HN⟩
        case measure => simp [intOf]; omega
      · obtain rfl : k = i % 32 := by omega
        have HV : Hid (Wd.bitN (Wd.val l) i = decide (y % 2 = 1)) := Lib.hid (by rw [E.out, HY.out])
        clear E HY
        go_wp2
        go_ret
        refine ⟨?_, rfl⟩
        rw [HV.out]
        refine congrArg (fun b => Ending.returned (.bool b)) ?_
        rw [Bool.eq_iff_iff]
        simp
        omega
set_option maxHeartbeats 800000 in
theorem ref_len3 {v : Value} {l : List Nat} {w : World} (h : Ws w v l) (hl : l.length ≤ 10000000000) :
 Calls Tryz.prog 164 #[v] w (RetI (Wd.bl (Wd.val l) : Nat) w) := by
 have h0 := h
 obtain ⟨A, c, rfl, p2, p3, p4, p5⟩ := h
 have P4 := Lib.hid p4
 have HLT := Lib.hid (Wd.val_lt_two p4)
 clear p3 p4 p5
 go_enter Tryz.func164, Tryz.ntmps164
 go_wp2
 go_loop [3] (fun s3 => ∃ (n : Nat), s3 = .int .i64 n ∧ n ≤ 32 * l.length ∧ Hid (Wd.val l < 2 ^ n)) (fun s3 => (intOf s3).toNat)
 case atStart => exact ⟨32 * l.length, by go_num, Nat.le_refl _, HLT⟩
 case round =>
  obtain ⟨n, rfl, hn, hv⟩ := hrel
  match n, hn, hv with
  | 0, hn, hv =>
    have E := Lib.hid (Wd.bl_of_zero hv.out)
    go_wp2
    go_ret
    exact ret_i (by rw [E.out]; rfl) (Up.refl _)
  | n + 1, hn, hv =>
    have H1 := Lib.hid (fun hb => Wd.bl_top (n := n) hv.out hb)
    have H2 := Lib.hid (fun hb => Wd.lt_of_bit (n := n) hv.out hb)
    have e0 : bitZ (Wd.val l) (n : Int) = Wd.bitN (Wd.val l) n := if_neg (by omega)
    have E0 := Lib.hid e0
    clear e0
    go_wp2_with fail
    refine (ref_has h0 hl (by omega)).mono ?_
    rintro e w2 ⟨rfl, rfl⟩
    rw [E0.out]
    clear E0
    cases hbit : Wd.bitN (Wd.val l) n
    · have HN := Lib.hid (H2.out hbit)
      clear hbit H1 H2
      go_wp2
      go_round
      case rel => exact ⟨n, by go_num, by omega, HN⟩
      case measure => simp [intOf]
    · have HN := Lib.hid (H1.out hbit)
      clear hbit H1 H2
      go_wp2
      go_ret
      exact ret_i (by rw [HN.out]; first | rfl | (simp; done) | (show _ = _; simp)) (Up.refl _)
end Go.Proofs.YtmmcffceeahemaaGreat
namespace Go.Proofs.YtmmcffceeahemaaGreat
open Go.RowKit
theorem wide_sum {x y z c S : Nat} (hS : S = x * y + z + c) (hx : x < Wd.B) (hy : y < Wd.B) (hz : z < Wd.B) (hc : c < Wd.B) :
 IntKind.u64.wrap ((c : Int) + IntKind.u64.wrap (IntKind.u64.wrap (IntKind.u64.wrap (x : Int) * IntKind.u64.wrap (y : Int)) + IntKind.u64.wrap (z : Int))) = (S : Int) ∧ S < 18446744073709551616 := by
 have hm := Wd.mul_le_top hx hy
 rw [Wd.B_eq] at hx hy hz hc
 have e1 : IntKind.u64.wrap (x : Int) = x := by rw [IntKind.wrap_u64]; omega
 have e2 : IntKind.u64.wrap (y : Int) = y := by rw [IntKind.wrap_u64]; omega
 have e3 : IntKind.u64.wrap (z : Int) = z := by rw [IntKind.wrap_u64]; omega
 have e4 : ((x : Int) * (y : Int)) = ((x * y : Nat) : Int) := by rw [Int.natCast_mul]
 rw [e1, e2, e3, e4]
 generalize x * y = m at *
 rw [IntKind.wrap_u64, IntKind.wrap_u64, IntKind.wrap_u64]
 omega
set_option maxRecDepth 100000 in
set_option maxHeartbeats 1600000 in
theorem ref_mul {v u : Value} {a b : List Nat} {w : World} (ha : Ws w v a) (hb : Ws w u b) (hla : a.length ≤ 10000000000) (hlb : b.length ≤ 10000000000) :
 Calls Tryz.prog 125 #[v, u] w (RetO (Wd.words (Wd.val a * Wd.val b)) w) := by
 obtain ⟨A, d, rfl, p2, p3, p4, p5⟩ := ha
 obtain ⟨D, d2, rfl, q2, q3, q4, q5⟩ := hb
 have P4 := Lib.hid p4
 have Q4 := Lib.hid q4
 clear p3 p4 q3 q4
 go_enter Tryz.func125, Tryz.ntmps125
 go_wp2_with (at_make; go_loud (refine wl_make rfl _ _ rfl (a.length + b.length) rfl rfl ?_ ?_ ?_))
 · omega
 · omega
 intro w1 hb1 hu1
 have HZ : Hid ((List.replicate (a.length + b.length) 0).length = a.length + b.length) := Lib.hid (by rw [List.length_replicate])
 have HZO := Lib.hid (Wd.ok_replicate (a.length + b.length))
 have HM := Lib.hid (Wd.mulAt_zero b a (a.length + b.length))
 generalize List.replicate (a.length + b.length) 0 = o1 at hb1 HZ HZO HM
 go_wp2_with fail
 go_loopw [6] (fun s6 wr => ∃ (i : Nat) (o : List Nat), s6 = .int .i64 i ∧ i ≤ a.length ∧ Hid (o.length = a.length + b.length) ∧ Hid (Wd.Ok o) ∧ Blk wr w.heap.size o ∧ Up w wr ∧ Hid (Wd.MulAt b a o i)) (fun s6 _ => a.length - (intOf s6).toNat)
 case atStart => exact ⟨0, o1, rfl, Nat.zero_le _, HZ, HZO, hb1, hu1, HM⟩
 case round =>
  obtain ⟨i, o, rfl, hi, ho, HO, hbl, hup, HAT⟩ := hrel
  by_cases hlt : i < a.length
  · have hx := Wd.ok_getD P4.out i
    have HS := Lib.hid (fun o' h1 h2 => Wd.mulAt_step (o' := o') HAT.out h1 h2)
    have HR := Lib.hid (Wd.rowAt_zero b o (a.getD i 0) 0 i Wd.B_pos)
    have HZD := Lib.hid HAT.out.2
    clear HAT
    go_wp2_with fail
    go_loopw [7, 8] (fun s7 s8 wq => ∃ (k cy : Nat) (p : List Nat), s7 = .int .u64 cy ∧ s8 = .int .i64 k ∧ k ≤ b.length ∧ Hid (Wd.Ok p) ∧ Blk wq w.heap.size p ∧ Up w wq ∧ Hid (Wd.RowAt b o p (a.getD i 0) 0 i k cy)) (fun _ s8 _ => b.length - (intOf s8).toNat)
    case atStart => exact ⟨0, 0, o, rfl, rfl, Nat.zero_le _, HO, hbl, hup, HR⟩
    case round =>
     obtain ⟨k, cy, p, rfl, rfl, hk, HP, hbl2, hup2, HRT⟩ := hrel
     have hcy := HRT.out.1
     have hlp := HRT.out.2.1
     by_cases hlt2 : k < b.length
     · have hy := Wd.ok_getD Q4.out k
       have hz := Wd.ok_getD HP.out (i + k)
       have hil : i + k < p.length := by rw [hlp, ho.out]; omega
       have HN := Lib.hid (Wd.rowAt_step (by rw [← hlp]; exact hil) HP.out hx hy HRT.out)
       have HP2 := Lib.hid (Wd.ok_set HP.out (i + k) (Wd.mulL_lt (a.getD i 0) (b.getD k 0) (p.getD (i + k) 0) cy))
       have hcg := hbl2.cellD hil
       have hfg := hbl2.free (i + k)
       obtain ⟨b1, o1, rfl, hb1, hc1⟩ := rd_word_D (p5.up hup2) hlt
       obtain ⟨b2, o2, rfl, hb2, hc2⟩ := rd_word_D (q5.up hup2) hlt2
       clear hlp
       generalize a.getD i 0 = x at *
       generalize b.getD k 0 = y at *
       generalize p.getD (i + k) 0 = z at *
       obtain ⟨S, hS⟩ : ∃ S, S = x * y + z + cy := ⟨_, rfl⟩
       have HW := Lib.hid (wide_sum hS hx hy hz hcy)
       have HLO : Hid (((S : Int) % 4294967296) = ((Wd.mulL x y z cy : Nat) : Int)) := Lib.hid (by unfold Wd.mulL; rw [← hS]; omega)
       have HHI : Hid (((S : Int) / 4294967296) = ((Wd.mulH x y z cy : Nat) : Int)) := Lib.hid (by unfold Wd.mulH; rw [← hS]; omega)
       have hS2 := HW.out.2
       clear hS
       go_wp2
       go_quiet (fail)
       rw [HW.out.1]
       have hbl3 := hbl2.drewN nq
       have hup3 := hup2.drewN nq
       go_wp2
       go_roundw
       case rel =>
        rw [HLO.out, HHI.out]
        exact ⟨k + 1, _, _, rfl, by go_num, by omega, HP2, hbl3.set _ _, hup3.setCell (Nat.le_refl _) _, HN⟩
       case measure => simp [intOf]; omega
     · obtain rfl : k = b.length := by omega
       have hil : i + b.length < p.length := by rw [hlp, ho.out]; omega
       have HE := Lib.hid (Wd.rowAt_end (by rw [← hlp]; exact hil) HZD.out HRT.out)
       have HN := Lib.hid (HS.out _ HE.out.1 HE.out.2)
       have HP2 := Lib.hid (Wd.ok_set HP.out (i + b.length) hcy)
       have HL : Hid ((p.set (i + b.length) cy).length = a.length + b.length) := Lib.hid (by rw [List.length_set, hlp]; exact ho.out)
       have hcg := hbl2.cellD hil
       have hfg := hbl2.free (i + b.length)
       rw [Wd.B_eq] at hcy
       clear hlp HE
       generalize p.getD (i + b.length) 0 = z at *
       go_wp2
       go_roundw
       case rel => exact ⟨i + 1, _, by go_num, by omega, HL, HP2, hbl2.set _ _, hup2.setCell (Nat.le_refl _) _, HN⟩
       case measure => simp [intOf]; omega
  · obtain rfl : i = a.length := by omega
    have hwn : Ws wr (.slice (some ⟨w.heap.size, 0, none⟩) (a.length + b.length) (a.length + b.length)) o := by
     have := hbl.ws HO.out (by rw [ho.out]; unfold maxLen; omega)
     rw [ho.out] at this
     exact this
    have HV : Hid (Wd.val o = Wd.val a * Wd.val b) := Lib.hid (by have := HAT.out.1; rw [List.take_length] at this; rw [this, Nat.mul_comm])
    have HL : Hid (o.length ≤ 100000000000) := Lib.hid (by rw [ho.out]; omega)
    go_wp2_with fail
    refine (ref_norm hwn HL.out).mono ?_
    rintro e w2 ⟨v', rfl, h', h2, h3⟩
    rw [HV.out] at h' h2
    have hsz := hup.size
    have hfin : Up w w2 := hup.trans h3
    go_wp2
    go_ret
    exact ⟨v', rfl, own_weaken h' hsz, h2, hfin⟩
end Go.Proofs.YtmmcffceeahemaaGreat
set_option linter.unusedSimpArgs false
