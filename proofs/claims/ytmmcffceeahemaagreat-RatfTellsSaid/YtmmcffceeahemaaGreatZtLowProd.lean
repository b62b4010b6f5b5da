/-
  The walks of layer 4.
  The walk of powers.
-/
import Derived.Test.YtmmcffceeahemaaGreatZtLowTwos
import Derived.Test.YtmmcffceeahemaaGreatZtPlain
import Derived.Test.YtmmcffceeahemaaGreatZtShort
set_option linter.unusedVariables false
set_option linter.unusedSimpArgs false
namespace Go.Proofs.YtmmcffceeahemaaGreat
open Go.RowKit
/-- What a row leaves behind. -/
def RetRow (w0 : World) (g : Nat) (o a : List Nat) (x c k : Nat) (e : Ending) (w' : World) : Prop :=
 e = .returned (.tuple #[]) ∧ ∃ o', Blk w' g o' ∧ Wd.Ok o' ∧ o'.length = o.length ∧ (Wd.val o' = Wd.val o + Wd.B ^ k * (x * Wd.val a + c) ∧ Wd.val (o'.drop (k + a.length + 1)) = 0) ∧ Up w0 w'
set_option maxRecDepth 100000 in
set_option maxHeartbeats 1600000 in
theorem prod_row {w0 w : World} {v : Value} {a o : List Nat} {g N : Nat} {ki xi ci : Int} (k x c : Nat) (hk : ki = k) (hx : xi = x) (hc : ci = c) (bx : x < Wd.B) (bc : c < Wd.B) (ha : Ws w0 v a) (hN : o.length = N)
 (hb : Blk w g o) (ho : Wd.Ok o) (hu : Up w0 w) (hg : w0.heap.size ≤ g) (hlen : k + a.length < o.length) (hbig : o.length ≤ 100000000000) (hz : Wd.val (o.drop (k + a.length)) = 0) :
 Calls Tryz.prog 175 #[.slice (some ⟨g, 0, none⟩) N N, .int .i64 ki, v, .int .u32 xi, .int .u32 ci] w (RetRow w0 g o a x c k) := by
 subst hk hx hc hN
 obtain ⟨A, d, rfl, p2, p3, p4, p5⟩ := ha
 have P4 := Lib.hid p4
 have HZ := Lib.hid hz
 have HO := Lib.hid ho
 have HBC := Lib.hid bc
 clear p3 p4 hz ho bc
 have hk1 : k < o.length := by omega
 go_enter Tryz.func175, Tryz.ntmps175
 go_wp2
 go_loopw [4, 14] (fun s4 s14 wr => ∃ (i cy : Nat) (p : List Nat), s4 = .int .u32 cy ∧ s14 = .int .i64 i ∧ i ≤ a.length ∧ Hid (Wd.Ok p) ∧ Blk wr g p ∧ Up w0 wr ∧ Hid (Wd.RowAt a o p x c k i cy)) (fun _ s14 _ => a.length - (intOf s14).toNat)
 case atStart => exact ⟨0, c, o, rfl, rfl, Nat.zero_le _, HO, hb, hu, Lib.hid (Wd.rowAt_zero a o x c k HBC.out)⟩
 case round =>
  obtain ⟨i, cy, p, rfl, rfl, hi, HP, hbl, hup, HAT⟩ := hrel
  by_cases hlt : i < a.length
  · have hy := Wd.ok_getD P4.out i
    have hz := Wd.ok_getD HP.out (k + i)
    have hcy := HAT.out.1
    have hil : k + i < p.length := by rw [HAT.out.2.1]; omega
    have HN := Lib.hid (Wd.rowAt_step (by omega) HP.out bx hy HAT.out)
    have HP2 := Lib.hid (Wd.ok_set HP.out (k + i) (Wd.mulL_lt x (a.getD i 0) (p.getD (k + i) 0) cy))
    have hcg := hbl.cellD hil
    have hfg := hbl.free (k + i)
    obtain ⟨b1, o1, rfl, hb1, hc1⟩ := rd_word_D (p5.up hup) hlt
    have hki : k + i < o.length := by omega
    generalize a.getD i 0 = y at *
    generalize p.getD (k + i) 0 = z at *
    go_wp2_with fail
    refine (limb_mul x y z cy rfl rfl rfl rfl bx hy hz hcy _).mono ?_
    rintro e w2 ⟨rfl, rfl⟩
    go_wp2
    go_roundw
    case rel => exact ⟨i + 1, _, _, rfl, by go_num, by omega, HP2, hbl.set _ _, hup.setCell hg _, HN⟩
    case measure => simp [intOf]; omega
  · obtain rfl : i = a.length := by omega
    have hcy := HAT.out.1
    have hil : k + a.length < p.length := by rw [HAT.out.2.1]; omega
    have hlp : (p.set (k + a.length) cy).length = o.length := by rw [List.length_set]; exact HAT.out.2.1
    have HE := Lib.hid (Wd.rowAt_end hlen HZ.out HAT.out)
    have HP2 := Lib.hid (Wd.ok_set HP.out (k + a.length) hcy)
    have HL := Lib.hid hlp
    have hcg := hbl.cellD hil
    have hfg := hbl.free (k + a.length)
    clear hlp
    generalize p.getD (k + a.length) 0 = z at *
    go_wp2
    go_end0
    exact ⟨rfl, _, hbl.set _ _, HP2.out, HL.out, HE.out, hup.setCell hg _⟩
set_option maxHeartbeats 1600000 in
theorem prod_mul {v u : Value} {a b : List Nat} {w : World} (ha : Ws w v a) (hb : Ws w u b) (hla : a.length ≤ 10000000000) (hlb : b.length ≤ 10000000000) :
 Calls Tryz.prog 151 #[v, u] w (RetW (Wd.words (Wd.val a * Wd.val b)) w) := by
 have ha0 := ha
 obtain ⟨A, d, rfl⟩ := ha.form
 obtain ⟨D, d2, rfl, q2, q3, q4, q5⟩ := hb
 have Q4 := Lib.hid q4
 clear q3 q4 ha
 go_enter Tryz.func151, Tryz.ntmps151
 go_wp2_with (at_make; go_loud (refine wl_make rfl _ _ rfl (a.length + b.length + 1) rfl rfl ?_ ?_ ?_))
 · omega
 · omega
 intro w1 hb1 hu1
 have HZ : Hid ((List.replicate (a.length + b.length + 1) 0).length = a.length + b.length + 1) := Lib.hid (by rw [List.length_replicate])
 have HZO := Lib.hid (Wd.ok_replicate (a.length + b.length + 1))
 have HM := Lib.hid (Wd.mulAt_zero a b (a.length + b.length + 1))
 generalize List.replicate (a.length + b.length + 1) 0 = o1 at hb1 HZ HZO HM
 go_wp2_with fail
 go_loopw [17] (fun s17 wr => ∃ (i : Nat) (o : List Nat), s17 = .int .i64 i ∧ i ≤ b.length ∧ Hid (o.length = a.length + b.length + 1) ∧ Hid (Wd.Ok o) ∧ Blk wr w.heap.size o ∧ Up w wr ∧ Hid (Wd.MulAt a b o i)) (fun s17 _ => b.length - (intOf s17).toNat)
 case atStart => exact ⟨0, o1, rfl, Nat.zero_le _, HZ, HZO, hb1, hu1, HM⟩
 case round =>
  obtain ⟨i, o, rfl, hi, ho, HO, hbl, hup, HAT⟩ := hrel
  by_cases hlt : i < b.length
  · have hy := Wd.ok_getD Q4.out i
    have HS := Lib.hid (fun o' h1 h2 => Wd.mulAt_step (o' := o') HAT.out h1 h2)
    obtain ⟨b1, o1, rfl, hb1, hc1⟩ := rd_word_D (q5.up hup) hlt
    generalize b.getD i 0 = y at *
    go_wp2_with fail
    refine (prod_row (w0 := w) (a := a) (o := o) i y 0 rfl rfl rfl hy Wd.B_pos ha0 ho.out hbl HO.out hup (Nat.le_refl _) (by rw [ho.out]; omega) (by rw [ho.out]; omega) HAT.out.2).mono ?_
    rintro e w2 ⟨rfl, o2, hb2, k2, l2, ⟨v2, d2⟩, u2⟩
    have HN := Lib.hid (HS.out o2 v2 d2)
    have HL : Hid (o2.length = a.length + b.length + 1) := Lib.hid (by rw [l2]; exact ho.out)
    have HO2 := Lib.hid k2
    clear v2 d2 l2 k2
    go_wp2
    go_roundw
    case rel => exact ⟨i + 1, o2, by go_num, by omega, HL, HO2, hb2, u2, HN⟩
    case measure => simp [intOf]; omega
  · obtain rfl : i = b.length := by omega
    have hwn : Ws wr (.slice (some ⟨w.heap.size, 0, none⟩) (a.length + b.length + 1) (a.length + b.length + 1)) o := by
     have := hbl.ws HO.out (by rw [ho.out]; unfold maxLen; omega)
     rw [ho.out] at this
     exact this
    have HV : Hid (Wd.val o = Wd.val a * Wd.val b) := Lib.hid (by have := HAT.out.1; rw [List.take_length] at this; exact this)
    have HL : Hid (o.length ≤ 100000000000) := Lib.hid (by rw [ho.out]; omega)
    go_wp2_with fail
    refine (nat_norm hwn HL.out).mono ?_
    intro e w3 hret
    obtain ⟨v3, rfl, h3, h4⟩ := hret.ws
    rw [HV.out] at h3
    have hfin := hup.trans h4
    go_wp2
    go_ret
    exact ⟨v3, rfl, h3, hfin⟩
end Go.Proofs.YtmmcffceeahemaaGreat
set_option linter.unusedSimpArgs false
