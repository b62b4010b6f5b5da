/-
  The walks of the document's layer 3.
-/
import Derived.Test.YtjkkeilmnklpcaaTwos
set_option linter.unusedVariables false
set_option linter.unusedSimpArgs false
namespace Go.Proofs.Ytjkkeilmnklpcaa
open Go.RowKit

set_option maxHeartbeats 800000 in
theorem ref_has {v : Value} {l : List Nat} {w : World} {n : Int} (h : Ws w v l) (hl : l.length ≤ 100000000) (hn : -9223372036854775808 ≤ n ∧ n ≤ 9223372036854775807) :
    Calls Try.prog 118 #[v, .int .i64 n] w fun e w' => e = .returned (.bool (bitZ (Wd.val l) n)) ∧ w = w' := by
  obtain ⟨A, c, rfl, p2, p3, p4, p5⟩ := h
  have P4 := Lib.hid p4
  clear p3 p4
  obtain ⟨hn1, hn2⟩ := hn
  by_cases hneg : n < 0
  · have E : Hid (bitZ (Wd.val l) n = false) := Lib.hid (if_pos hneg)
    go_enter Try.func118, Try.ntmps118
    go_wp2
    go_ret
    exact ⟨by rw [E.out]; rfl, rfl⟩
  · obtain ⟨i, rfl⟩ : ∃ i : Nat, n = i := ⟨n.toNat, by omega⟩
    have e0 : bitZ (Wd.val l) i = Wd.bitN (Wd.val l) i := if_neg hneg
    rw [e0]
    clear e0 hneg hn1
    by_cases hfar : l.length ≤ i / 32
    · have E := Lib.hid (bit_far P4.out hfar)
      go_enter Try.func118, Try.ntmps118
      go_wp2
      go_ret
      exact ⟨by rw [E.out]; rfl, rfl⟩
    · have hx := Wd.ok_getD P4.out (i / 32)
      rw [Wd.B_eq] at hx
      obtain ⟨b, o, rfl, hb, hc⟩ := rd_word_D p5 (k := i / 32) (by omega)
      have E : Hid (Wd.bitN (Wd.val l) i = decide (l.getD (i / 32) 0 / 2 ^ (i % 32) % 2 = 1)) := Lib.hid (by unfold Wd.bitN; rw [Wd.bit_word l P4.out])
      generalize l.getD (i / 32) 0 = x at *
      go_enter Try.func118, Try.ntmps118
      go_wp2
      go_loop [5, 6] (fun s5 s6 => ∃ (k y : Nat), s5 = .int .u32 y ∧ s6 = .int .i64 k ∧ k ≤ i % 32 ∧ y < 4294967296 ∧ Hid (y = x / 2 ^ k)) (fun _ s6 => i % 32 - (intOf s6).toNat)
      case atStart => exact ⟨0, x, rfl, rfl, Nat.zero_le _, hx, Lib.hid (by rw [Nat.pow_zero, Nat.div_one])⟩
      case round =>
        obtain ⟨k, y, rfl, rfl, hk, hy, HY⟩ := hrel
        by_cases hlt : k < i % 32
        · have HN : Hid (y / 2 = x / 2 ^ (k + 1)) := Lib.hid (by rw [HY.out, Nat.div_div_eq_div_mul, Nat.pow_succ])
          go_wp2
          go_round
          case rel => exact ⟨k + 1, y / 2, by go_num, by go_num, by omega, by omega, HN⟩
          case measure => simp [intOf]; omega
        · obtain rfl : k = i % 32 := by omega
          have HV : Hid (Wd.bitN (Wd.val l) i = decide (y % 2 = 1)) := Lib.hid (by rw [E.out, HY.out])
          clear E HY
          go_wp2
          go_ret
          refine ⟨?_, rfl⟩
          rw [HV.out]
          refine congrArg (fun b => Ending.returned (.bool b)) ?_
          rw [Bool.eq_iff_iff]
          simp
          omega

set_option maxHeartbeats 800000 in
theorem ref_len3 {v : Value} {l : List Nat} {w : World} (h : Ws w v l) (hl : l.length ≤ 100000000) :
    Calls Try.prog 83 #[v] w (RetI (Wd.bl (Wd.val l) : Nat) w) := by
  have h0 := h
  obtain ⟨A, c, rfl, p2, p3, p4, p5⟩ := h
  have P4 := Lib.hid p4
  have HLT := Lib.hid (Wd.val_lt_two p4)
  clear p3 p4 p5
  go_enter Try.func83, Try.ntmps83
  go_wp2
  go_loop [3] (fun s3 => ∃ (n : Nat), s3 = .int .i64 n ∧ n ≤ 32 * l.length ∧ Hid (Wd.val l < 2 ^ n)) (fun s3 => (intOf s3).toNat)
  case atStart => exact ⟨32 * l.length, by go_num, Nat.le_refl _, HLT⟩
  case round =>
    obtain ⟨n, rfl, hn, hv⟩ := hrel
    match n, hn, hv with
    | 0, hn, hv =>
      have E := Lib.hid (Wd.bl_of_zero hv.out)
      go_wp2
      go_ret
      exact ret_i (by rw [E.out]; rfl) (Up.refl _)
    | n + 1, hn, hv =>
      have H1 := Lib.hid (fun hb => Wd.bl_top (n := n) hv.out hb)
      have H2 := Lib.hid (fun hb => Wd.lt_of_bit (n := n) hv.out hb)
      have e0 : bitZ (Wd.val l) (n : Int) = Wd.bitN (Wd.val l) n := if_neg (by omega)
      have E0 := Lib.hid e0
      clear e0
      go_wp2_with fail
      refine (ref_has h0 hl (by omega)).mono ?_
      rintro e w2 ⟨rfl, rfl⟩
      rw [E0.out]
      clear E0
      cases hbit : Wd.bitN (Wd.val l) n
      · have HN := Lib.hid (H2.out hbit)
        clear hbit H1 H2
        go_wp2
        go_round
        case rel => exact ⟨n, by go_num, by omega, HN⟩
        case measure => simp [intOf]
      · have HN := Lib.hid (H1.out hbit)
        clear hbit H1 H2
        go_wp2
        go_ret
        exact ret_i (by rw [HN.out]; first | rfl | (simp; done) | (show _ = _; simp)) (Up.refl _)


end Go.Proofs.Ytjkkeilmnklpcaa
