/-
  The walks of layer 4.
-/
import Derived.Test.YtelgenhmmfkmhaaTwosLaws
import Derived.Test.YtelgenhmmfkmhaaProdMath
set_option linter.unusedVariables false
set_option linter.unusedSimpArgs false
namespace Go.Proofs.Ytelgenhmmfkmhaa
open Go.RowKit

/-- What a row leaves behind. -/
def RetRow (w0 : World) (g : Nat) (o a : List Nat) (x c k : Nat) (e : Ending) (w' : World) : Prop :=
  e = .returned (.tuple #[]) ∧ ∃ o', Blk w' g o' ∧ Wd.Ok o' ∧ o'.length = o.length ∧ (Wd.val o' = Wd.val o + Wd.B ^ k * (x * Wd.val a + c) ∧ Wd.val (o'.drop (k + a.length + 1)) = 0) ∧ Up w0 w'

set_option maxRecDepth 100000 in
set_option maxHeartbeats 1600000 in
theorem prod_row {w0 w : World} {v : Value} {a o : List Nat} {g N : Nat} {ki xi ci : Int} (k x c : Nat) (hk : ki = k) (hx : xi = x) (hc : ci = c) (bx : x < Wd.B) (bc : c < Wd.B) (ha : Ws w0 v a) (hN : o.length = N)
    (hb : Blk w g o) (ho : Wd.Ok o) (hu : Up w0 w) (hg : w0.heap.size ≤ g) (hlen : k + a.length < o.length) (hbig : o.length ≤ 1000000000) (hz : Wd.val (o.drop (k + a.length)) = 0) :
    Calls Try.prog 127 #[.slice (some ⟨g, 0, none⟩) N N, .int .i64 ki, v, .int .u32 xi, .int .u32 ci] w (RetRow w0 g o a x c k) := by
  subst hk hx hc hN
  obtain ⟨A, d, rfl, p2, p3, p4, p5⟩ := ha
  have P4 := Lib.hid p4
  have HZ := Lib.hid hz
  have HO := Lib.hid ho
  have HBC := Lib.hid bc
  clear p3 p4 hz ho bc
  have hk1 : k < o.length := by omega
  go_enter Try.func127, Try.ntmps127
  go_wp2
  go_loopw [4, 14] (fun s4 s14 wr => ∃ (i cy : Nat) (p : List Nat), s4 = .int .u32 cy ∧ s14 = .int .i64 i ∧ i ≤ a.length ∧ Hid (Wd.Ok p) ∧ Blk wr g p ∧ Up w0 wr ∧ Hid (Wd.RowAt a o p x c k i cy)) (fun _ s14 _ => a.length - (intOf s14).toNat)
  case atStart => exact ⟨0, c, o, rfl, rfl, Nat.zero_le _, HO, hb, hu, Lib.hid (Wd.rowAt_zero a o x c k HBC.out)⟩
  case round =>
    obtain ⟨i, cy, p, rfl, rfl, hi, HP, hbl, hup, HAT⟩ := hrel
    by_cases hlt : i < a.length
    · have hy := Wd.ok_getD P4.out i
      have hz := Wd.ok_getD HP.out (k + i)
      have hcy := HAT.out.1
      have hil : k + i < p.length := by rw [HAT.out.2.1]; omega
      have HN := Lib.hid (Wd.rowAt_step (by omega) HP.out bx hy HAT.out)
      have HP2 := Lib.hid (Wd.ok_set HP.out (k + i) (Wd.mulL_lt x (a.getD i 0) (p.getD (k + i) 0) cy))
      have hcg := hbl.cellD hil
      have hfg := hbl.free (k + i)
      obtain ⟨b1, o1, rfl, hb1, hc1⟩ := rd_word_D (p5.up hup) hlt
      have hki : k + i < o.length := by omega
      generalize a.getD i 0 = y at *
      generalize p.getD (k + i) 0 = z at *
      go_wp2_with fail
      refine (limb_mul x y z cy rfl rfl rfl rfl bx hy hz hcy _).mono ?_
      rintro e w2 ⟨rfl, rfl⟩
      go_wp2
      go_roundw
      case rel => exact ⟨i + 1, _, _, rfl, by go_num, by omega, HP2, hbl.set _ _, hup.setCell hg _, HN⟩
      case measure => simp [intOf]; omega
    · obtain rfl : i = a.length := by omega
      have hcy := HAT.out.1
      have hil : k + a.length < p.length := by rw [HAT.out.2.1]; omega
      have hlp : (p.set (k + a.length) cy).length = o.length := by rw [List.length_set]; exact HAT.out.2.1
      have HE := Lib.hid (Wd.rowAt_end hlen HZ.out HAT.out)
      have HP2 := Lib.hid (Wd.ok_set HP.out (k + a.length) hcy)
      have HL := Lib.hid hlp
      have hcg := hbl.cellD hil
      have hfg := hbl.free (k + a.length)
      clear hlp
      generalize p.getD (k + a.length) 0 = z at *
      go_wp2
      go_end0
      exact ⟨rfl, _, hbl.set _ _, HP2.out, HL.out, HE.out, hup.setCell hg _⟩

set_option maxHeartbeats 1600000 in
theorem prod_word {v : Value} {a : List Nat} {xi ci : Int} {w : World} (x c : Nat) (hx : xi = x) (hc : ci = c) (bx : x < Wd.B) (bc : c < Wd.B) (ha : Ws w v a) (hla : a.length ≤ 100000000) :
    Calls Try.prog 95 #[v, .int .u32 xi, .int .u32 ci] w (RetW (Wd.words (x * Wd.val a + c)) w) := by
  subst hx hc
  obtain ⟨A, d, rfl⟩ := ha.form
  go_enter Try.func95, Try.ntmps95
  go_wp2_with (at_make; go_loud (refine wl_make rfl _ _ rfl (a.length + 1) rfl rfl ?_ ?_ ?_))
  · omega
  · omega
  intro w1 hb1 hu1
  have HZ : Hid ((List.replicate (a.length + 1) 0).length = a.length + 1) := Lib.hid (by rw [List.length_replicate])
  have HZO := Lib.hid (Wd.ok_replicate (a.length + 1))
  have HZV := Lib.hid (Wd.val_replicate (a.length + 1))
  have HZD : Hid (Wd.val ((List.replicate (a.length + 1) 0).drop (0 + a.length)) = 0) := Lib.hid (by rw [List.drop_replicate, Wd.val_replicate])
  generalize List.replicate (a.length + 1) 0 = o1 at hb1 HZ HZO HZV HZD
  go_wp2_with fail
  refine (prod_row (w0 := w) (a := a) (o := o1) 0 x c rfl rfl rfl bx bc ha HZ.out hb1 HZO.out hu1 (Nat.le_refl _) (by rw [HZ.out]; omega) (by rw [HZ.out]; omega) HZD.out).mono ?_
  rintro e w2 ⟨rfl, o2, hb2, k2, l2, ⟨v2, d2⟩, u2⟩
  rw [HZ.out] at l2
  rw [HZV.out, Nat.pow_zero, Nat.one_mul, Nat.zero_add] at v2
  have hwn : Ws w2 (.slice (some ⟨w.heap.size, 0, none⟩) (a.length + 1) (a.length + 1)) o2 := by
    have := hb2.ws k2 (by rw [l2]; unfold maxLen; omega)
    rw [l2] at this
    exact this
  have HV := Lib.hid v2
  have HL : Hid (o2.length ≤ 1000000000) := Lib.hid (by rw [l2]; omega)
  clear v2 l2 d2 k2
  go_wp2_with fail
  refine (nat_norm hwn HL.out).mono ?_
  intro e w3 hret
  obtain ⟨v3, rfl, h3, h4⟩ := hret.ws
  rw [HV.out] at h3
  have hfin := u2.trans h4
  go_wp2
  go_ret
  exact ⟨v3, rfl, h3, hfin⟩

set_option maxHeartbeats 1600000 in
theorem prod_mul {v u : Value} {a b : List Nat} {w : World} (ha : Ws w v a) (hb : Ws w u b) (hla : a.length ≤ 100000000) (hlb : b.length ≤ 100000000) :
    Calls Try.prog 92 #[v, u] w (RetW (Wd.words (Wd.val a * Wd.val b)) w) := by
  have ha0 := ha
  obtain ⟨A, d, rfl⟩ := ha.form
  obtain ⟨D, d2, rfl, q2, q3, q4, q5⟩ := hb
  have Q4 := Lib.hid q4
  clear q3 q4 ha
  go_enter Try.func92, Try.ntmps92
  go_wp2_with (at_make; go_loud (refine wl_make rfl _ _ rfl (a.length + b.length + 1) rfl rfl ?_ ?_ ?_))
  · omega
  · omega
  intro w1 hb1 hu1
  have HZ : Hid ((List.replicate (a.length + b.length + 1) 0).length = a.length + b.length + 1) := Lib.hid (by rw [List.length_replicate])
  have HZO := Lib.hid (Wd.ok_replicate (a.length + b.length + 1))
  have HM := Lib.hid (Wd.mulAt_zero a b (a.length + b.length + 1))
  generalize List.replicate (a.length + b.length + 1) 0 = o1 at hb1 HZ HZO HM
  go_wp2_with fail
  go_loopw [17] (fun s17 wr => ∃ (i : Nat) (o : List Nat), s17 = .int .i64 i ∧ i ≤ b.length ∧ Hid (o.length = a.length + b.length + 1) ∧ Hid (Wd.Ok o) ∧ Blk wr w.heap.size o ∧ Up w wr ∧ Hid (Wd.MulAt a b o i)) (fun s17 _ => b.length - (intOf s17).toNat)
  case atStart => exact ⟨0, o1, rfl, Nat.zero_le _, HZ, HZO, hb1, hu1, HM⟩
  case round =>
    obtain ⟨i, o, rfl, hi, ho, HO, hbl, hup, HAT⟩ := hrel
    by_cases hlt : i < b.length
    · have hy := Wd.ok_getD Q4.out i
      have HS := Lib.hid (fun o' h1 h2 => Wd.mulAt_step (o' := o') HAT.out h1 h2)
      obtain ⟨b1, o1, rfl, hb1, hc1⟩ := rd_word_D (q5.up hup) hlt
      generalize b.getD i 0 = y at *
      go_wp2_with fail
      refine (prod_row (w0 := w) (a := a) (o := o) i y 0 rfl rfl rfl hy Wd.B_pos ha0 ho.out hbl HO.out hup (Nat.le_refl _) (by rw [ho.out]; omega) (by rw [ho.out]; omega) HAT.out.2).mono ?_
      rintro e w2 ⟨rfl, o2, hb2, k2, l2, ⟨v2, d2⟩, u2⟩
      have HN := Lib.hid (HS.out o2 v2 d2)
      have HL : Hid (o2.length = a.length + b.length + 1) := Lib.hid (by rw [l2]; exact ho.out)
      have HO2 := Lib.hid k2
      clear v2 d2 l2 k2
      go_wp2
      go_roundw
      case rel => exact ⟨i + 1, o2, by go_num, by omega, HL, HO2, hb2, u2, HN⟩
      case measure => simp [intOf]; omega
    · obtain rfl : i = b.length := by omega
      have hwn : Ws wr (.slice (some ⟨w.heap.size, 0, none⟩) (a.length + b.length + 1) (a.length + b.length + 1)) o := by
        have := hbl.ws HO.out (by rw [ho.out]; unfold maxLen; omega)
        rw [ho.out] at this
        exact this
      have HV : Hid (Wd.val o = Wd.val a * Wd.val b) := Lib.hid (by have := HAT.out.1; rw [List.take_length] at this; exact this)
      have HL : Hid (o.length ≤ 1000000000) := Lib.hid (by rw [ho.out]; omega)
      go_wp2_with fail
      refine (nat_norm hwn HL.out).mono ?_
      intro e w3 hret
      obtain ⟨v3, rfl, h3, h4⟩ := hret.ws
      rw [HV.out] at h3
      have hfin := hup.trans h4
      go_wp2
      go_ret
      exact ⟨v3, rfl, h3, hfin⟩

set_option maxRecDepth 100000 in
set_option maxHeartbeats 1600000 in
theorem prod_square {v : Value} {a : List Nat} {w : World} (ha : Ws w v a) (hla : a.length ≤ 400000) :
    Calls Try.prog 93 #[v] w (RetW (Wd.words (Wd.val a * Wd.val a)) w) := by
  obtain ⟨A, d, rfl, p2, p3, p4, p5⟩ := ha
  have P4 := Lib.hid p4
  have P3 := Lib.hid p3
  clear p3 p4
  go_enter Try.func93, Try.ntmps93
  go_wp2_with (at_make; go_loud (refine wl_make rfl _ _ rfl (2 * a.length + 1) rfl rfl ?_ ?_ ?_))
  · omega
  · omega
  intro w1 hb1 hu1
  have HZ : Hid ((List.replicate (2 * a.length + 1) 0).length = 2 * a.length + 1) := Lib.hid (by rw [List.length_replicate])
  have HZO := Lib.hid (Wd.ok_replicate (2 * a.length + 1))
  have HM := Lib.hid (Wd.crossAt_zero a (2 * a.length + 1))
  generalize List.replicate (2 * a.length + 1) 0 = o1 at hb1 HZ HZO HM
  go_wp2_with fail
  go_loopw [17] (fun s17 wr => ∃ (i : Nat) (o : List Nat), s17 = .int .i64 i ∧ i ≤ a.length ∧ Hid (o.length = 2 * a.length + 1) ∧ Hid (Wd.Ok o) ∧ Blk wr w.heap.size o ∧ Up w wr ∧ Hid (Wd.CrossAt a o i)) (fun s17 _ => a.length - (intOf s17).toNat)
  case atStart => exact ⟨0, o1, rfl, Nat.zero_le _, HZ, HZO, hb1, hu1, HM⟩
  case round =>
    obtain ⟨i, o, rfl, hi, ho, HO, hbl, hup, HAT⟩ := hrel
    by_cases hlt : i < a.length
    · have hy := Wd.ok_getD P4.out i
      have HS := Lib.hid (fun o' h1 h2 => Wd.crossAt_step (o' := o') hlt HAT.out h1 h2)
      have HDL : Hid ((a.drop (i + 1)).length = a.length - (i + 1)) := Lib.hid (by rw [List.length_drop])
      have HDO := Lib.hid (Wd.ok_drop P4.out (i + 1))
      obtain ⟨b1, o1, rfl, hb1, hc1⟩ := rd_word_D (p5.up hup) hlt
      have HRD : Hid (RdV w (some ⟨b1, o1 + (i + 1), none⟩) ((a.drop (i + 1)).map wv)) := Lib.hid (by rw [List.map_drop]; exact p5.drop (i + 1))
      generalize a.getD i 0 = y at *
      have HW0 : Hid (d = i + 1 → Ws w (.slice (some ⟨b1, o1, none⟩) (a.length - (i + 1)) (d - (i + 1))) (a.drop (i + 1))) := Lib.hid (fun hd => by
        have hal : a.length = i + 1 := by omega
        have e : a.drop (i + 1) = [] := List.drop_eq_nil_of_le (by omega)
        rw [e]
        exact Ws.mk (by simp; omega) (by simp) (Nat.le_trans (Nat.sub_le _ _) P3.out) Wd.ok_nil (RdV.nil _ _))
      have HW1 : Hid (Ws w (.slice (some ⟨b1, o1 + (i + 1), none⟩) (a.length - (i + 1)) (d - (i + 1))) (a.drop (i + 1))) := Lib.hid (Ws.mk HDL.out.symm (by rw [HDL.out]; omega) (Nat.le_trans (Nat.sub_le _ _) P3.out) HDO.out HRD.out)
      by_cases hd : d = i + 1
      · have HW2 := Lib.hid (HW0.out hd)
        have hd2 : (d = i + 1) = True := eq_true hd
        clear hd
        go_wp2_with fail
        refine (prod_row (w0 := w) (a := a.drop (i + 1)) (o := o) (2 * i + 1) y 0 (by omega) rfl rfl hy Wd.B_pos HW2.out ho.out hbl HO.out hup (Nat.le_refl _) (by rw [ho.out, HDL.out]; omega) (by rw [ho.out]; omega) (by rw [HDL.out, show 2 * i + 1 + (a.length - (i + 1)) = i + a.length from by omega]; exact HAT.out.2)).mono ?_
        rintro e w2 ⟨rfl, o2, hb2, k2, l2, ⟨v2, d2⟩, u2⟩
        rw [HDL.out] at d2
        have HN := Lib.hid (HS.out o2 v2 d2)
        have HL : Hid (o2.length = 2 * a.length + 1) := Lib.hid (by rw [l2]; exact ho.out)
        have HO2 := Lib.hid k2
        clear v2 d2 l2 k2 HW0 HW1
        go_wp2
        go_roundw
        case rel => exact ⟨i + 1, o2, by go_num, by omega, HL, HO2, hb2, u2, HN⟩
        case measure => simp [intOf]; omega
      · have hd2 : (d = i + 1) = False := eq_false hd
        clear hd
        go_wp2_with fail
        refine (prod_row (w0 := w) (a := a.drop (i + 1)) (o := o) (2 * i + 1) y 0 (by omega) rfl rfl hy Wd.B_pos HW1.out ho.out hbl HO.out hup (Nat.le_refl _) (by rw [ho.out, HDL.out]; omega) (by rw [ho.out]; omega) (by rw [HDL.out, show 2 * i + 1 + (a.length - (i + 1)) = i + a.length from by omega]; exact HAT.out.2)).mono ?_
        rintro e w2 ⟨rfl, o2, hb2, k2, l2, ⟨v2, d2⟩, u2⟩
        rw [HDL.out] at d2
        have HN := Lib.hid (HS.out o2 v2 d2)
        have HL : Hid (o2.length = 2 * a.length + 1) := Lib.hid (by rw [l2]; exact ho.out)
        have HO2 := Lib.hid k2
        clear v2 d2 l2 k2 HW0 HW1
        go_wp2
        go_roundw
        case rel => exact ⟨i + 1, o2, by go_num, by omega, HL, HO2, hb2, u2, HN⟩
        case measure => simp [intOf]; omega
    · obtain rfl : i = a.length := by omega
      have hwn : Ws wr (.slice (some ⟨w.heap.size, 0, none⟩) (2 * a.length + 1) (2 * a.length + 1)) o := by
        have := hbl.ws HO.out (by rw [ho.out]; unfold maxLen; omega)
        rw [ho.out] at this
        exact this
      have HV : Hid (Wd.val o = Wd.crossN a a.length) := Lib.hid HAT.out.1
      have HL : Hid (o.length ≤ 100000000) := Lib.hid (by rw [ho.out]; omega)
      go_wp2_with fail
      refine (twos_up hwn HL.out (by omega)).mono ?_
      rintro e w2 ⟨v2, rfl, s2, u2⟩
      rw [HV.out, show 2 ^ min (1 : Int).toNat 4096 = 2 from by decide] at s2
      have g2 := hup.trans u2
      clear HZ HZO HM hbl hwn HAT ho HO HV HL u2 hup hu1
      go_wp2_with (at_make; go_loud (refine wl_make rfl _ _ rfl (2 * a.length) rfl rfl ?_ ?_ ?_))
      · omega
      · omega
      intro w3 hb3 hu3
      have g3 := g2.trans hu3
      obtain ⟨A2, n2, c2, rfl⟩ := s2.shape
      have s3 := s2.up hu3
      have HZ : Hid ((List.replicate (2 * a.length) 0).length = 2 * a.length) := Lib.hid (by rw [List.length_replicate])
      have HZO := Lib.hid (Wd.ok_replicate (2 * a.length))
      have HM := Lib.hid (Wd.diagAt_zero a (List.replicate (2 * a.length) 0))
      generalize List.replicate (2 * a.length) 0 = o3 at hb3 HZ HZO HM
      have hg3 := g2.size
      have hs2 : ∀ w', Up w2 w' → Ws w' (.slice A2 n2 c2) (Wd.words (Wd.crossN a a.length * 2)) := fun w' h => s2.up h
      have HS2 := Lib.hid hs2
      clear hs2 s3 s2
      go_wp2_with fail
      go_loopw [41] (fun s41 wr => ∃ (i : Nat) (o : List Nat), s41 = .int .i64 i ∧ i ≤ a.length ∧ Hid (o.length = 2 * a.length) ∧ Hid (Wd.Ok o) ∧ Blk wr w2.heap.size o ∧ Up w wr ∧ Up w2 wr ∧ Hid (Wd.DiagAt a o i)) (fun s41 _ => a.length - (intOf s41).toNat)
      case atStart => exact ⟨0, o3, rfl, Nat.zero_le _, HZ, HZO, hb3, g3, hu3, HM⟩
      case round =>
        obtain ⟨i, o, rfl, hi, ho, HO, hbl, hup, hup2, HAT⟩ := hrel
        by_cases hlt : i < a.length
        · have hy := Wd.ok_getD P4.out i
          have hil1 : 2 * i + 1 < o.length := by rw [ho.out]; omega
          have hil2 : 2 * i < o.length := by omega
          have HN := Lib.hid (Wd.diagAt_step hil1 HAT.out)
          have HO2 := Lib.hid (Wd.ok_set (Wd.ok_set HO.out (2 * i + 1) (Wd.mulH_lt hy hy Wd.B_pos Wd.B_pos)) (2 * i) (Wd.mulL_lt (a.getD i 0) (a.getD i 0) 0 0))
          have hcg := hbl.cellD hil1
          have hfg := hbl.free (2 * i + 1)
          have hcg2 := hbl.cellD hil2
          have hfg2 := hbl.free (2 * i)
          obtain ⟨b1, o1, rfl, hb1, hc1⟩ := rd_word_D (p5.up hup) hlt
          have hi1 : 2 * i + 1 < 2 * a.length := by omega
          generalize a.getD i 0 = y at *
          generalize o.getD (2 * i) 0 = z at *
          generalize o.getD (2 * i + 1) 0 = z1 at *
          go_wp2_with fail
          refine (limb_mul y y 0 0 rfl rfl rfl rfl hy hy Wd.B_pos Wd.B_pos _).mono ?_
          rintro e w4 ⟨rfl, rfl⟩
          go_wp2
          go_roundw
          case rel => exact ⟨i + 1, _, by go_num, by omega, Lib.hid (by rw [List.length_set, List.length_set]; exact ho.out), HO2, (hbl.set _ _).set _ _, (hup.setCell hg3 _).setCell hg3 _, (hup2.setCell (Nat.le_refl _) _).setCell (Nat.le_refl _) _, HN⟩
          case measure => simp [intOf]; omega
        · obtain rfl : i = a.length := by omega
          have HD := Lib.hid (Wd.diagAt_end ho.out HAT.out)
          have hwn : Ws wr (.slice (some ⟨w2.heap.size, 0, none⟩) (2 * a.length) (2 * a.length)) o := by
            have := hbl.ws HO.out (by rw [ho.out]; unfold maxLen; omega)
            rw [ho.out] at this
            exact this
          have s4 := HS2.out wr hup2
          have HV : Hid (Wd.vsum [Wd.words (Wd.crossN a a.length * 2), o] = Wd.val a * Wd.val a) := Lib.hid (by
            rw [Wd.vsum_cons, Wd.vsum_cons, Wd.vsum_nil, Nat.add_zero, Wd.val_words, HD.out]
            exact Wd.square_end a)
          have hlw := Wd.words_mul_le (a := Wd.val a) (b := Wd.val a) (len_words_val P4.out (Nat.le_refl _)) (len_words_val P4.out (Nat.le_refl _))
          have HLW := Lib.hid hlw
          have HL2 : Hid ((Wd.words (Wd.crossN a a.length * 2)).length ≤ 1000000) := Lib.hid (Nat.le_trans (Nat.le_trans (Wd.words_mono (by have := Wd.square_end a; omega)) hlw) (by omega))
          have HLO : Hid (o.length ≤ 1000000) := Lib.hid (by rw [ho.out]; omega)
          clear hlw
          go_wp2_with fail
          refine (nat_add (wss_two s4 hwn) (by simp) ?_ ?_).mono ?_
          · intro l hl
            simp at hl
            rcases hl with rfl | rfl
            · exact HL2.out
            · exact HLO.out
          · rw [HV.out]; exact Nat.le_trans HLW.out (by omega)
          rintro e w5 ⟨v5, rfl, s5, u5⟩
          rw [HV.out] at s5
          have hfin := (hup.alloc _).trans u5
          go_wp2
          go_ret
          exact ⟨v5, rfl, s5, hfin⟩

set_option maxHeartbeats 1600000 in
theorem prod_all {v : Value} {ls : List (List Nat)} {w : World} (h : Wss w v ls) (hll : ls.length ≤ 1000000000) (hs : (ls.map List.length).sum ≤ 1000000) :
    Calls Try.prog 96 #[v] w (RetW (Wd.words (Wd.vprod ls)) w) := by
  have hok : ∀ l ∈ ls, Wd.Ok l := by
    obtain ⟨A, c, vs, rfl, p2, p3, p4, p5, p6⟩ := h
    intro l hl
    obtain ⟨i, hi, rfl⟩ := List.getElem_of_mem hl
    have hi2 : i < vs.length := by omega
    exact (p6 i vs[i] ls[i] (List.getElem?_eq_getElem hi2) (List.getElem?_eq_getElem hi)).ok
  have hlen : ∀ l ∈ ls, l.length ≤ 1000000 := fun l hl => Wd.sum_mem_le hs _ (List.mem_map_of_mem hl)
  have HT := Lib.hid (Wd.words_vprod_take ls hok)
  have HLEN := Lib.hid hlen
  obtain ⟨A, c, vs, rfl, p2, p3, p4, p5, p6⟩ := h
  have P4 := Lib.hid p4
  have P6 := Lib.hid p6
  clear p3 p4 p6 hok hlen
  go_enter Try.func96, Try.ntmps96
  go_wp2_with fail
  refine (nat_of 1 rfl (by omega) _).mono ?_
  rintro e w1 ⟨v1, rfl, s1, u1⟩
  go_wp2_with fail
  go_loopw [3, 9] (fun s3 s9 wr => ∃ (k : Nat), s9 = .int .i64 k ∧ k ≤ ls.length ∧ Ws wr s3 (Wd.words (Wd.vprod (ls.take k))) ∧ Up w wr) (fun _ s9 _ => ls.length - (intOf s9).toNat)
  case atStart => exact ⟨0, rfl, Nat.zero_le _, s1, u1⟩
  case round =>
    obtain ⟨k, rfl, hk, hs3, hup⟩ := hrel
    by_cases hlt : k < ls.length
    · obtain ⟨b1, o1, u, rfl, hb1, hc1, hu⟩ := rd_words (p5.up hup) P4.out (fun i u l h1 h2 => (P6.out i u l h1 h2).up hup) hlt
      have hl1 := HLEN.out ls[k] (List.getElem_mem hlt)
      have hl2 := HT.out k
      have HN := Lib.hid (Wd.vprod_take_succ hlt)
      go_wp2_with fail
      refine (prod_mul hs3 hu (by omega) (by omega)).mono ?_
      rintro e w2 ⟨v2, rfl, s2, u2⟩
      rw [Wd.val_words, ← HN.out] at s2
      have g2 := hup.trans u2
      go_wp2
      go_roundw
      case rel => exact ⟨k + 1, by go_num, by omega, s2, g2⟩
      case measure => simp [intOf]; omega
    · obtain rfl : k = ls.length := by omega
      rw [List.take_length] at hs3
      go_wp2
      go_ret
      exact ⟨_, rfl, hs3, hup⟩
end Go.Proofs.Ytelgenhmmfkmhaa
