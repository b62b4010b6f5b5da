/-
  The walks of the document's layer 3 that shift.
-/
import Derived.Test.YtelgenhmmfkmhaaShift
import Derived.Test.YtelgenhmmfkmhaaRefNat
set_option linter.unusedVariables false
set_option linter.unusedSimpArgs false
namespace Go.Proofs.Ytelgenhmmfkmhaa
open Go.RowKit

theorem low_add {z b : Nat} (hz : z < 2 ^ b) (hb : b < 32) : IntKind.u32.wrap ((z : Int) + IntKind.u32.wrap (2 ^ b)) = ((z + 2 ^ b : Nat) : Int) ∧ z + 2 ^ b < Wd.B := by
  have h1 : (2 : Nat) ^ b ≤ 2 ^ 31 := Nat.pow_le_pow_right (by omega) (by omega)
  have e1 : ((2 : Int) ^ b) = ((2 ^ b : Nat) : Int) := by rw [Int.natCast_pow]; rfl
  rw [e1, Wd.B_eq]
  generalize 2 ^ b = p at *
  rw [IntKind.wrap_u32', IntKind.wrap_u32']
  omega

set_option maxRecDepth 100000 in
set_option maxHeartbeats 1600000 in
theorem ref_bits {v : Value} {l : List Nat} {w : World} {f n : Int} (T m : Nat) (hm : n = m) (h : Ws w v l) (hl : l.length ≤ 100000000) (hf : -4096 ≤ f ∧ f ≤ 10000000000) (hm2 : m ≤ 10000000000)
    (hT : ∀ i, i < m → bitZ (Wd.val l) (f + (i : Nat)) = Wd.bitN T i) :
    Calls Try.prog 126 #[v, .int .i64 f, .int .i64 n] w (RetO (Wd.words (T % 2 ^ m)) w) := by
  subst hm
  obtain ⟨A, c, rfl⟩ := h.form
  have HT := Lib.hid hT
  clear hT
  go_enter Try.func126, Try.ntmps126
  go_wp2_with (at_make; go_loud (refine wl_make rfl _ _ rfl (m / 32 + 1) rfl rfl ?_ ?_ ?_))
  · omega
  · omega
  intro w1 hb1 hu1
  have HZ : Hid ((List.replicate (m / 32 + 1) 0).length = m / 32 + 1) := Lib.hid (by rw [List.length_replicate])
  have HZO := Lib.hid (Wd.ok_replicate (m / 32 + 1))
  have HZV := Lib.hid (Wd.val_replicate (m / 32 + 1))
  generalize List.replicate (m / 32 + 1) 0 = o1 at hb1 HZ HZO HZV
  go_wp2_with fail
  go_loopw [8] (fun s8 wr => ∃ (i : Nat) (o : List Nat), s8 = .int .i64 i ∧ i ≤ m ∧ Hid (o.length = m / 32 + 1) ∧ Hid (Wd.Ok o) ∧ Blk wr w.heap.size o ∧ Up w wr ∧ Hid (Wd.val o = T % 2 ^ i)) (fun s8 _ => m - (intOf s8).toNat)
  case atStart => exact ⟨0, o1, rfl, Nat.zero_le _, HZ, HZO, hb1, hu1, Lib.hid (by rw [HZV.out, Nat.pow_zero, Nat.mod_one])⟩
  case round =>
    obtain ⟨i, o, rfl, hi, ho, HO, hbl, hup, HV⟩ := hrel
    by_cases hlt : i < m
    · have hbit := HT.out i hlt
      have hil : i / 32 < o.length := by rw [ho.out]; omega
      have HB := Lib.hid (Wd.bit_step T i)
      have hz := Wd.bits_word_lt HO.out (i := i) (by rw [HV.out]; exact Nat.mod_lt _ (Nat.two_pow_pos i))
      have HS := Lib.hid (Wd.bits_set (o := o) (i := i) hil)
      have hb : i % 32 < 32 := Nat.mod_lt _ (by omega)
      have hcg := hbl.cellD hil
      have hfg := hbl.free (i / 32)
      have HZL := Lib.hid hz
      clear hz
      go_wp2_with fail
      refine (ref_has (n := f + (i : Nat)) (h.up hup) hl (by omega)).mono ?_
      rintro e w2 ⟨rfl, rfl⟩
      rw [hbit]
      have HBIT : Hid (Wd.bitN T i = decide (T / 2 ^ i % 2 = 1)) := Lib.hid rfl
      clear hbit
      cases hbi : Wd.bitN T i
      · have HN : Hid (Wd.val o = T % 2 ^ (i + 1)) := Lib.hid (by
          have h1 := HBIT.out
          rw [hbi] at h1
          have h2 := of_decide_eq_false h1.symm
          rw [HB.out, show T / 2 ^ i % 2 = 0 from by omega, Nat.zero_mul, Nat.add_zero, HV.out])
        clear HBIT hbi
        go_wp2
        go_roundw
        case rel => exact ⟨i + 1, o, by go_num, by omega, ho, HO, hbl, hup, HN⟩
        case measure => simp [intOf]; omega
      · have HN : Hid (Wd.val (o.set (i / 32) (o.getD (i / 32) 0 + 2 ^ (i % 32))) = T % 2 ^ (i + 1)) := Lib.hid (by
          have h1 := HBIT.out
          rw [hbi] at h1
          have h2 := of_decide_eq_true h1.symm
          rw [HB.out, h2, Nat.one_mul, HS.out, HV.out])
        clear HBIT hbi HS
        generalize o.getD (i / 32) 0 = z at *
        go_wp2
        have k1 : (i : Int) / 32 < (m : Int) / 32 + 1 := by omega
        have k0 : (0 : Int) ≤ (i : Int) / 32 := by omega
        have k2 : IntKind.i64.wrap ((i : Int) / 32) = (i : Int) / 32 := by rw [IntKind.wrap_i64]; omega
        have k8 : ((i : Int)).tmod 32 = (i : Int) % 32 := Int.tmod_eq_emod_of_nonneg (by omega)
        have k4 : ((i : Int) / 32).toNat = i / 32 := by omega
        have k5 : ((i : Int) % 32).toNat = i % 32 := by omega
        have k6 : ¬ (i : Int) % 32 < 0 := by omega
        have k7 : min (i % 32) 32 = i % 32 := by omega
        have k3 : IntKind.i64.wrap ((i : Int) % 32) = (i : Int) % 32 := by rw [IntKind.wrap_i64]; omega
        go_still_tail 10, (by kernel_rfl)
        rw [(low_add HZL.out hb).1]
        change wpList _ _ _ _ _ wr.drew
        have HO2 := Lib.hid (Wd.ok_set HO.out (i / 32) (low_add HZL.out hb).2)
        have hbl2 := hbl.drew
        have hup2 := hup.drew
        have hcg2 : wr.drew.cell? ⟨w.heap.size, i / 32, none⟩ = _ := hcg
        have hfg2 : wr.drew.frozen? ⟨w.heap.size, i / 32, none⟩ = _ := hfg
        clear hbl hup hcg hfg k1 k0 k2 k3 k8 k4 k5 k6 k7 HZL
        generalize wr.drew = w2 at *
        generalize z + 2 ^ (i % 32) = y at *
        go_wp2
        go_roundw
        case rel => exact ⟨i + 1, _, by go_num, by omega, Lib.hid (by rw [List.length_set]; exact ho.out), HO2, hbl2.set _ _, hup2.setCell (Nat.le_refl _) _, HN⟩
        case measure => simp [intOf]; omega
    · obtain rfl : i = m := by omega
      have hwn : Ws wr (.slice (some ⟨w.heap.size, 0, none⟩) (i / 32 + 1) (i / 32 + 1)) o := by
        have := hbl.ws HO.out (by rw [ho.out]; unfold maxLen; omega)
        rw [ho.out] at this
        exact this
      have HLN : Hid (o.length ≤ 1000000000) := Lib.hid (by rw [ho.out]; omega)
      go_wp2_with fail
      refine (ref_norm hwn HLN.out).mono ?_
      rintro e w2 ⟨v', rfl, h', h2, h3⟩
      rw [HV.out] at h' h2
      have hsz := hup.size
      have hfin : Up w w2 := hup.trans h3
      go_wp2
      go_ret
      exact ⟨v', rfl, own_weaken h' hsz, h2, hfin⟩

/-- What stands at a place of a number shifted. -/
theorem bit_up (N n i : Nat) : bitZ N ((-(n : Int)) + (i : Nat)) = Wd.bitN (N * 2 ^ n) i := by
  unfold bitZ
  by_cases h : i < n
  · rw [if_pos (by omega)]
    unfold Wd.bitN
    have e : N * 2 ^ n = 2 ^ i * (2 * (2 ^ (n - i - 1) * N)) := by
      have e2 : 2 ^ n = 2 ^ i * (2 * 2 ^ (n - i - 1)) := by
        rw [← Nat.pow_succ', ← Nat.pow_add]; congr 1; omega
      rw [e2]; ac_rfl
    rw [e, Nat.mul_div_cancel_left _ (Nat.two_pow_pos i), Nat.mul_mod_right]
    rfl
  · rw [if_neg (by omega), show (-(n : Int) + (i : Nat)).toNat = i - n from by omega]
    unfold Wd.bitN
    rw [show i = n + (i - n) from by omega, Nat.pow_add, ← Nat.div_div_eq_div_mul, Nat.mul_div_cancel _ (Nat.two_pow_pos n), Nat.add_sub_cancel_left]
theorem bit_down (N n i : Nat) : bitZ N ((n : Int) + (i : Nat)) = Wd.bitN (N / 2 ^ n) i := by
  unfold bitZ
  rw [if_neg (by omega), show ((n : Int) + (i : Nat)).toNat = n + i from by omega]
  unfold Wd.bitN
  rw [Nat.div_div_eq_div_mul, ← Nat.pow_add]
theorem bit_low (N i : Nat) : bitZ N ((0 : Int) + (i : Nat)) = Wd.bitN N i := by
  have := bit_down N 0 i
  rw [Nat.pow_zero, Nat.div_one] at this
  exact this

set_option maxHeartbeats 1600000 in
theorem ref_up {v : Value} {l : List Nat} {w : World} {n : Int} (h : Ws w v l) (hl : l.length ≤ 100000000) (hn : -9223372036854775808 ≤ n ∧ n ≤ 9223372036854775807) :
    Calls Try.prog 84 #[v, .int .i64 n] w (RetW (Wd.words (Wd.val l * 2 ^ min n.toNat 4096)) w) := by
  have hM := max_zero n
  have HM := Lib.hid hM
  have HM2 := Lib.hid (min_top (n := n.toNat))
  have hi : min n.toNat 4096 ≤ 4096 := by omega
  generalize min n.toNat 4096 = i at *
  generalize n.toNat = j at *
  clear hn hM
  obtain ⟨A, c, rfl⟩ := h.form
  have hlt : Wd.val l * 2 ^ i % 2 ^ (i + 32 * l.length) = Wd.val l * 2 ^ i := by
    refine Nat.mod_eq_of_lt ?_
    rw [Nat.add_comm, Nat.pow_add]
    exact Nat.mul_lt_mul_of_pos_right (Wd.val_lt_two h.ok) (Nat.two_pow_pos i)
  have HLT := Lib.hid hlt
  clear hlt
  go_enter Try.func84, Try.ntmps84
  go_wp2_with (first | (with_reducible show wpList _ _ _ _ _ _; refine wl_max (o := ⟨some 6, _, _, _, _, _⟩) rfl _ _ _ _ rfl rfl rfl HM.out ?_) | (with_reducible show wpList _ _ _ _ _ _; refine wl_min (o := ⟨some 7, _, _, _, _, _⟩) rfl _ _ _ _ rfl rfl rfl HM2.out ?_))
  refine (ref_bits (Wd.val l * 2 ^ i) (i + 32 * l.length) (by omega) h hl (by omega) (by omega) (fun k _ => bit_up _ i k)).mono ?_
  intro e w2 hret
  obtain ⟨v2, rfl, h2, h3⟩ := hret.ws
  rw [HLT.out] at h2
  go_wp2
  go_ret
  exact ⟨v2, rfl, h2, h3⟩

theorem min_len {j L : Nat} : ((min j L : Nat) : Int) = if (L : Int) < (j : Int) then (L : Int) else (j : Int) := by split <;> omega
theorem div_far {N L j : Nat} (h : N < 2 ^ L) : N / 2 ^ min j L = N / 2 ^ j := by
  by_cases hj : j ≤ L
  · rw [Nat.min_eq_left hj]
  · rw [Nat.min_eq_right (by omega), Nat.div_eq_of_lt h, Nat.div_eq_of_lt (Nat.lt_of_lt_of_le h (Nat.pow_le_pow_right (by omega) (by omega)))]
theorem mod_far {N L j : Nat} (h : N < 2 ^ L) : N % 2 ^ min j L = N % 2 ^ j := by
  by_cases hj : j ≤ L
  · rw [Nat.min_eq_left hj]
  · rw [Nat.min_eq_right (by omega), Nat.mod_eq_of_lt h, Nat.mod_eq_of_lt (Nat.lt_of_lt_of_le h (Nat.pow_le_pow_right (by omega) (by omega)))]

set_option maxHeartbeats 1600000 in
theorem ref_down {v : Value} {l : List Nat} {w : World} {n : Int} (h : Ws w v l) (hl : l.length ≤ 100000000) (hn : -9223372036854775808 ≤ n ∧ n ≤ 9223372036854775807) :
    Calls Try.prog 86 #[v, .int .i64 n] w (RetW (Wd.words (Wd.val l / 2 ^ n.toNat)) w) := by
  have HM := Lib.hid (max_zero n)
  have HM2 := Lib.hid (min_len (j := n.toNat) (L := 32 * l.length))
  have HV := Lib.hid (div_far (j := n.toNat) (Wd.val_lt_two h.ok))
  have hi : min n.toNat (32 * l.length) ≤ 32 * l.length := by omega
  generalize min n.toNat (32 * l.length) = i at *
  generalize n.toNat = j at *
  clear hn
  obtain ⟨A, c, rfl⟩ := h.form
  have hlt : Wd.val l / 2 ^ i % 2 ^ (32 * l.length - i) = Wd.val l / 2 ^ i := by
    refine Nat.mod_eq_of_lt (Nat.div_lt_of_lt_mul ?_)
    rw [← Nat.pow_add, show i + (32 * l.length - i) = 32 * l.length from by omega]
    exact Wd.val_lt_two h.ok
  have HLT := Lib.hid hlt
  clear hlt
  have e1 : ((32 * l.length : Nat) : Int) = 32 * (l.length : Int) := by omega
  rw [e1] at HM2
  clear e1
  go_enter Try.func86, Try.ntmps86
  go_wp2_with (first | (with_reducible show wpList _ _ _ _ _ _; refine wl_max (o := ⟨some 6, _, _, _, _, _⟩) rfl _ _ _ _ rfl rfl rfl HM.out ?_) | (with_reducible show wpList _ _ _ _ _ _; refine wl_min (o := ⟨some 10, _, _, _, _, _⟩) rfl _ _ _ _ rfl rfl rfl HM2.out ?_))
  refine (ref_bits (Wd.val l / 2 ^ i) (32 * l.length - i) (by omega) h hl (by omega) (by omega) (fun k _ => bit_down _ i k)).mono ?_
  intro e w2 hret
  obtain ⟨v2, rfl, h2, h3⟩ := hret.ws
  rw [HLT.out, HV.out] at h2
  go_wp2
  go_ret
  exact ⟨v2, rfl, h2, h3⟩

set_option maxHeartbeats 1600000 in
theorem ref_low {v : Value} {l : List Nat} {w : World} {n : Int} (h : Ws w v l) (hl : l.length ≤ 100000000) (hn : -9223372036854775808 ≤ n ∧ n ≤ 9223372036854775807) :
    Calls Try.prog 88 #[v, .int .i64 n] w (RetW (Wd.words (Wd.val l % 2 ^ n.toNat)) w) := by
  have HM := Lib.hid (max_zero n)
  have HM2 := Lib.hid (min_len (j := n.toNat) (L := 32 * l.length))
  have HV := Lib.hid (mod_far (j := n.toNat) (Wd.val_lt_two h.ok))
  have hi : min n.toNat (32 * l.length) ≤ 32 * l.length := by omega
  generalize min n.toNat (32 * l.length) = i at *
  generalize n.toNat = j at *
  clear hn
  obtain ⟨A, c, rfl⟩ := h.form
  have e1 : ((32 * l.length : Nat) : Int) = 32 * (l.length : Int) := by omega
  rw [e1] at HM2
  clear e1
  go_enter Try.func88, Try.ntmps88
  go_wp2_with (first | (with_reducible show wpList _ _ _ _ _ _; refine wl_max (o := ⟨some 7, _, _, _, _, _⟩) rfl _ _ _ _ rfl rfl rfl HM.out ?_) | (with_reducible show wpList _ _ _ _ _ _; refine wl_min (o := ⟨some 11, _, _, _, _, _⟩) rfl _ _ _ _ rfl rfl rfl HM2.out ?_))
  refine (ref_bits (Wd.val l) i (by omega) h hl (by omega) (by omega) (fun k _ => bit_low _ k)).mono ?_
  intro e w2 hret
  obtain ⟨v2, rfl, h2, h3⟩ := hret.ws
  rw [HV.out] at h2
  go_wp2
  go_ret
  exact ⟨v2, rfl, h2, h3⟩
end Go.Proofs.Ytelgenhmmfkmhaa
