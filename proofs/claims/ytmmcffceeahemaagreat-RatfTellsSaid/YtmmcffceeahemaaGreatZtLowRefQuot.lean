/-
  The walks of the document's layer 5: bit by bit.
  The walks of the statements of layer 5.
  The walks of the document's layer 6: by halves, in place.
-/
import Derived.Test.YtmmcffceeahemaaGreatZtLowQuot
import Derived.Test.YtmmcffceeahemaaGreatZtLowRefs
import Derived.StillTailTactics
import Derived.Test.YtmmcffceeahemaaGreatZtLowCommon
import Derived.Test.YtmmcffceeahemaaGreatZtShort
set_option linter.unusedVariables false
set_option linter.unusedSimpArgs false
namespace Go.Proofs.YtmmcffceeahemaaGreat
open Go.RowKit
/-- A number written in place. -/
def RetIn (g : Nat) (pre rest : List Value) (n len : Nat) (w : World) (e : Ending) (w' : World) : Prop :=
 e = .returned (.tuple #[]) ∧ ∃ o, BlkP w' g pre o rest ∧ Wd.Ok o ∧ o.length = len ∧ Wd.val o = n ∧ Only g w w'
set_option maxRecDepth 100000 in
set_option maxHeartbeats 1600000 in
theorem ref_double5 {w : World} {a : List Nat} {rest : List Value} {g N c : Nat} {t : Bool} (m : Nat) (hm : m ≤ 1) (ht : t = decide (m = 1)) (hN : a.length = N) (hb : BlkR w g a rest) (ho : Wd.Ok a) (hbig : a.length ≤ 100000000000) (hlt : 2 * Wd.val a + m < Wd.B ^ a.length) :
 Calls Tryz.prog 170 #[.slice (some ⟨g, 0, none⟩) N c, .bool t] w (RetIn g [] rest (2 * Wd.val a + m) N w) := by
 subst hN
 have HO := Lib.hid ho
 have HLT := Lib.hid hlt
 clear ho hlt
 have hm2 : m = 0 ∨ m = 1 := by omega
 rcases hm2 with rfl | rfl
 · obtain rfl : t = false := by simpa using ht
   clear ht hm
   go_enter Tryz.func170, Tryz.ntmps170
   go_wp2
   go_loopw [4, 5, 6] (fun s4 s5 _ wr => ∃ (i cy : Nat) (p : List Nat), s4 = .int .u32 cy ∧ s5 = .int .i64 i ∧ i ≤ a.length ∧ Hid (Wd.Ok p) ∧ BlkR wr g p rest ∧ Only g w wr ∧ Hid (Wd.DoubleAt a p 0 i cy)) (fun _ s5 _ _ => a.length - (intOf s5).toNat)
   case atStart => exact ⟨0, 0, a, rfl, rfl, Nat.zero_le _, HO, hb, Only.refl _ _, Lib.hid (Wd.doubleAt_zero a (by omega))⟩
   case round =>
    obtain ⟨i, cy, p, rfl, rfl, hi, HP, hbl, hon, HAT⟩ := hrel
    have hcy := HAT.out.1
    by_cases hlt : i < a.length
    · have hy := Wd.ok_getD HO.out i
      have hz := Wd.ok_getD HP.out i
      have hil : i < p.length := by rw [HAT.out.2.1]; omega
      have HN := Lib.hid (Wd.doubleAt_step hil hy HAT.out)
      have HP2 := Lib.hid (Wd.ok_set HP.out i (x := (2 * p.getD i 0 + cy) % Wd.B) (Nat.mod_lt _ Wd.B_pos))
      have hcg := hbl.cellD hil
      have hfg := hbl.free i
      generalize p.getD i 0 = z at *
      have HW : Hid ((((2 * z + cy) % Wd.B : Nat) : Int) = (z : Int) * 2 % 4294967296 + (cy : Int)) := Lib.hid (by rw [Wd.B_eq]; omega)
      have HW2 : Hid ((((2 * z + cy) % Wd.B : Nat) : Int) = ((z : Int) * 2 + (cy : Int)) % 4294967296) := Lib.hid (by rw [Wd.B_eq]; omega)
      have hz4 : z < 4294967296 := by rw [← Wd.B_eq]; exact hz
      go_wp2
      go_roundw
      case rel => exact ⟨i + 1, z / 2147483648, _, by go_num, by go_num, by omega, HP2, (by first | (rw [← HW.out]; exact hbl.set hil _) | (rw [← HW2.out]; exact hbl.set hil _)), hon.set _ _, HN⟩
      case measure => simp [intOf]; omega
    · obtain rfl : i = a.length := by omega
      have HE := Lib.hid (Wd.doubleAt_end HAT.out HLT.out)
      have HL := Lib.hid HAT.out.2.1
      go_wp2
      go_end0
      exact ⟨rfl, p, hbl, HP.out, HL.out, HE.out, hon⟩
 · obtain rfl : t = true := by simpa using ht
   clear ht hm
   go_enter Tryz.func170, Tryz.ntmps170
   go_wp2
   go_loopw [4, 5, 6] (fun s4 s5 _ wr => ∃ (i cy : Nat) (p : List Nat), s4 = .int .u32 cy ∧ s5 = .int .i64 i ∧ i ≤ a.length ∧ Hid (Wd.Ok p) ∧ BlkR wr g p rest ∧ Only g w wr ∧ Hid (Wd.DoubleAt a p 1 i cy)) (fun _ s5 _ _ => a.length - (intOf s5).toNat)
   case atStart => exact ⟨0, 1, a, rfl, rfl, Nat.zero_le _, HO, hb, Only.refl _ _, Lib.hid (Wd.doubleAt_zero a (by omega))⟩
   case round =>
    obtain ⟨i, cy, p, rfl, rfl, hi, HP, hbl, hon, HAT⟩ := hrel
    have hcy := HAT.out.1
    by_cases hlt : i < a.length
    · have hy := Wd.ok_getD HO.out i
      have hz := Wd.ok_getD HP.out i
      have hil : i < p.length := by rw [HAT.out.2.1]; omega
      have HN := Lib.hid (Wd.doubleAt_step hil hy HAT.out)
      have HP2 := Lib.hid (Wd.ok_set HP.out i (x := (2 * p.getD i 0 + cy) % Wd.B) (Nat.mod_lt _ Wd.B_pos))
      have hcg := hbl.cellD hil
      have hfg := hbl.free i
      generalize p.getD i 0 = z at *
      have HW : Hid ((((2 * z + cy) % Wd.B : Nat) : Int) = (z : Int) * 2 % 4294967296 + (cy : Int)) := Lib.hid (by rw [Wd.B_eq]; omega)
      have HW2 : Hid ((((2 * z + cy) % Wd.B : Nat) : Int) = ((z : Int) * 2 + (cy : Int)) % 4294967296) := Lib.hid (by rw [Wd.B_eq]; omega)
      have hz4 : z < 4294967296 := by rw [← Wd.B_eq]; exact hz
      go_wp2
      go_roundw
      case rel => exact ⟨i + 1, z / 2147483648, _, by go_num, by go_num, by omega, HP2, (by first | (rw [← HW.out]; exact hbl.set hil _) | (rw [← HW2.out]; exact hbl.set hil _)), hon.set _ _, HN⟩
      case measure => simp [intOf]; omega
    · obtain rfl : i = a.length := by omega
      have HE := Lib.hid (Wd.doubleAt_end HAT.out HLT.out)
      have HL := Lib.hid HAT.out.2.1
      go_wp2
      go_end0
      exact ⟨rfl, p, hbl, HP.out, HL.out, HE.out, hon⟩
set_option maxRecDepth 100000 in
set_option maxHeartbeats 1600000 in
theorem ref_less5 {w : World} {u : Value} {a b : List Nat} {pre rest : List Value} {g off N c : Nat} (hp : pre.length = off) (hN : a.length = N) (hb : BlkP w g pre a rest) (ho : Wd.Ok a) (hs : Stays g w u b) (hlb : b.length ≤ 100000000000) (hbig : a.length ≤ 100000000000) (hle : Wd.val b ≤ Wd.val a) :
 Calls Tryz.prog 146 #[.slice (some ⟨g, off, none⟩) N c, u] w (RetIn g pre rest (Wd.val a - Wd.val b) N w) := by
 subst hN
 have HPR := Lib.hid hp
 have HS := Lib.hid hs
 obtain ⟨A, d, rfl, okb, hr⟩ := hs.open_
 have OB := Lib.hid okb
 have HO := Lib.hid ho
 have HLE := Lib.hid hle
 clear okb ho hr hs hle hp
 go_enter Tryz.func146, Tryz.ntmps146
 go_wp2
 go_loopw [4, 5] (fun s4 s5 wr => ∃ (i cy : Nat) (p : List Nat), s4 = .int .u64 cy ∧ s5 = .int .i64 i ∧ i ≤ a.length ∧ Hid (Wd.Ok p) ∧ BlkP wr g pre p rest ∧ Only g w wr ∧ Hid (Wd.LessAt a b p i cy)) (fun _ s5 _ => a.length - (intOf s5).toNat)
 case atStart => exact ⟨0, 0, a, rfl, rfl, Nat.zero_le _, HO, hb, Only.refl _ _, Lib.hid (Wd.lessAt_zero a b)⟩
 case round =>
  obtain ⟨i, cy, p, rfl, rfl, hi, HP, hbl, hon, HAT⟩ := hrel
  have hcy := HAT.out.2.2.1
  by_cases hlt : i < a.length
  · have hx := Wd.ok_getD HP.out i
    have hy := Wd.ok_getD OB.out i
    have hil : i < p.length := by rw [HAT.out.1]; omega
    have HN := Lib.hid (Wd.lessAt_step hil hy HAT.out)
    have hs := Wd.subD_lt hx hy (Nat.lt_of_le_of_lt hcy Wd.B_one)
    have HO2 := Lib.hid (Wd.ok_set HP.out i hs)
    have hcg := hbl.cellD HPR.out hil
    have hfg := hbl.free (off + i)
    have hblN := Lib.hid (hbl.set HPR.out hil (Wd.subD (p.getD i 0) (b.getD i 0) cy))
    rw [Wd.B_eq] at hx hy
    have hst := (HS.out.only hon).ws
    clear hs
    generalize p.getD i 0 = x at *
    go_wp2_with fail
    refine (ref_at i rfl hst hlb (by omega)).mono ?_
    rintro e w' ⟨rfl, rfl⟩
    generalize b.getD i 0 = y at *
    by_cases hxy : x < y + cy
    · have eB : Wd.subB x y cy = 1 := by simp only [Wd.subB]; omega
      have eD : ((Wd.subD x y cy : Nat) : Int) = (x : Int) + 4294967296 - ((y : Int) + (cy : Int)) := by simp only [Wd.subD, eB]; omega
      have EB := Lib.hid eB
      have ED := Lib.hid eD
      clear eB eD
      go_wp2
      go_roundw
      case rel => exact ⟨i + 1, Wd.subB x y cy, p.set i (Wd.subD x y cy), by rw [EB.out]; rfl, by go_num, by omega, HO2, by rw [← ED.out]; exact hblN.out, hon.set _ _, HN⟩
      case measure => simp [intOf]; omega
    · have eB : Wd.subB x y cy = 0 := by simp only [Wd.subB]; omega
      have eD : ((Wd.subD x y cy : Nat) : Int) = (x : Int) - ((y : Int) + (cy : Int)) := by simp only [Wd.subD, eB]; omega
      have EB := Lib.hid eB
      have ED := Lib.hid eD
      clear eB eD
      go_wp2
      go_roundw
      case rel => exact ⟨i + 1, Wd.subB x y cy, p.set i (Wd.subD x y cy), by rw [EB.out]; rfl, by go_num, by omega, HO2, by rw [← ED.out]; exact hblN.out, hon.set _ _, HN⟩
      case measure => simp [intOf]; omega
  · obtain rfl : i = a.length := by omega
    have HE := Lib.hid (Wd.lessAt_end HO.out OB.out HP.out HLE.out HAT.out)
    have HL := Lib.hid HAT.out.1
    go_wp2
    go_end0
    exact ⟨rfl, p, hbl, HP.out, HL.out, HE.out, hon⟩
/-- Two slices, the second one a row of the call's own. -/
def RetOO (l m : List Nat) (w : World) (e : Ending) (w' : World) : Prop := ∃ v u, e = .returned (.tuple #[v, u]) ∧ Ws w' v l ∧ w'.ownsRow w.heap.size 122 1 u m.length (m.map wv) ∧ Wd.Ok m ∧ Up w w'
theorem Blk.r {w : World} {g : Nat} {l : List Nat} (h : Blk w g l) : BlkR w g l [] := by
 unfold BlkR
 rw [List.append_nil]
 exact h
theorem BlkP.blk {w : World} {g : Nat} {l : List Nat} (h : BlkP w g [] l []) : Blk w g l := by
 unfold BlkP at h
 rw [List.append_nil] at h
 exact h
theorem bl_gt {n k : Nat} (h : k < Wd.bl n) : n / 2 ^ k ≠ 0 := fun h0 => by
 have := (Nat.div_eq_zero_iff_lt (Nat.two_pow_pos k)).1 h0
 have := (Wd.bl_le_iff k n).2 this
 omega
/-- What one bit more makes. -/
def DivAt (a b q r : List Nat) (k : Nat) : Prop := Wd.val q = Wd.val a / 2 ^ k / Wd.val b ∧ Wd.val r = Wd.val a / 2 ^ k % Wd.val b
set_option maxRecDepth 100000 in
set_option maxHeartbeats 1600000 in
theorem ref_div {v u : Value} {a b : List Nat} {w : World} (ha : Ws w v a) (hb : Ws w u b) (hla : a.length ≤ 1000000000) (hlb : b.length ≤ 1000000000) (h0 : Wd.val b ≠ 0) :
 Calls Tryz.prog 148 #[v, u] w (RetOO (Wd.words (Wd.val a / Wd.val b)) (Wd.words (Wd.val a % Wd.val b)) w) := by
 have HB := Lib.hid hb
 have HA := Lib.hid ha
 have H0 := Lib.hid (Nat.pos_of_ne_zero h0)
 have hbits := (Wd.bl_le_iff (32 * a.length) (Wd.val a)).2 (Wd.val_lt_two ha.ok)
 obtain ⟨A, c, rfl, p2, p3, p4, p5⟩ := ha
 obtain ⟨D, d, rfl⟩ := hb.form
 have OA := Lib.hid p4
 have OB := Lib.hid hb.ok
 clear p2 p3 p4 h0 hb
 go_enter Tryz.func148, Tryz.ntmps148
 go_wp2_with (at_make; go_loud (refine wl_make rfl _ _ rfl a.length rfl rfl ?_ ?_ ?_))
 · omega
 · omega
 intro w1 hb1 hu1
 have HZ : Hid ((List.replicate a.length 0).length = a.length) := Lib.hid (by rw [List.length_replicate])
 have HZO := Lib.hid (Wd.ok_replicate a.length)
 have HZV := Lib.hid (Wd.val_replicate a.length)
 generalize List.replicate a.length 0 = z1 at hb1 HZ HZO HZV
 go_wp2_with (at_make; go_loud (refine wl_make rfl _ _ rfl (b.length + 1) rfl rfl ?_ ?_ ?_))
 · omega
 · omega
 intro w2 hb2 hu2
 have HY : Hid ((List.replicate (b.length + 1) 0).length = b.length + 1) := Lib.hid (by rw [List.length_replicate])
 have HYO := Lib.hid (Wd.ok_replicate (b.length + 1))
 have HYV := Lib.hid (Wd.val_replicate (b.length + 1))
 generalize List.replicate (b.length + 1) 0 = y1 at hb2 HY HYO HYV
 have hb12 := hb1.up hu2
 have g2 := hu1.trans hu2
 have hs1 := hu1.size
 have hlt1 := hb1.lt
 have HNE : Hid (w.heap.size ≠ w1.heap.size) := Lib.hid (by omega)
 have ha2 := HA.out.up g2
 go_wp2_with fail
 refine (ref_len3 ha2 (by omega)).mono ?_
 rintro e w3 ⟨rfl, u3⟩
 have g3 := g2.trans u3
 have hb13 := hb12.up u3
 have hb23 := hb2.up u3
 have HM : Hid (DivAt a b z1 y1 (Wd.bl (Wd.val a))) := Lib.hid (by
  unfold DivAt
  rw [Wd.div_two_bl, Nat.zero_div, Nat.zero_mod]
  exact ⟨HZV.out, HYV.out⟩)
 have HBIT : Hid (∀ k, k < Wd.bl (Wd.val a) → 0 < a.length ∧ k / 32 < a.length) := Lib.hid (fun k hk => by omega)
 have HBG : Hid (∀ k, k < Wd.bl (Wd.val a) → Wd.val a / 2 ^ k ≠ 0) := Lib.hid (fun k hk => bl_gt hk)
 have hbb : Wd.bl (Wd.val a) ≤ 32000000000 := by omega
 generalize Wd.bl (Wd.val a) = K at *
 go_wp2_with fail
 go_loopw [8] (fun s8 wr => ∃ (k : Nat) (q r : List Nat), s8 = .int .i64 ((k : Int) - 1) ∧ k ≤ K ∧ Hid (q.length = a.length) ∧ Hid (Wd.Ok q) ∧ Blk wr w.heap.size q ∧ Hid (r.length = b.length + 1) ∧ Hid (Wd.Ok r) ∧ Blk wr w1.heap.size r ∧ Up w wr ∧ Hid (DivAt a b q r k)) (fun s8 _ => (intOf s8 + 1).toNat)
 case atStart => exact ⟨K, z1, y1, rfl, Nat.le_refl _, HZ, HZO, hb13, HY, HYO, hb23, g3, HM⟩
 case round =>
  obtain ⟨k, q, r, rfl, hk, HQL, HQO, hbq, HRL, HRO, hbr, hup, HAT⟩ := hrel
  match k, hk, HAT with
  | 0, hk, HAT =>
    have HE : Hid (Wd.val q = Wd.val a / Wd.val b ∧ Wd.val r = Wd.val a % Wd.val b) := Lib.hid (by
     have := HAT.out
     unfold DivAt at this
     rw [Nat.pow_zero, Nat.div_one] at this
     exact this)
    have hwq : Ws wr (.slice (some ⟨w.heap.size, 0, none⟩) a.length a.length) q := by
     have := hbq.ws HQO.out (by rw [HQL.out]; unfold maxLen; omega)
     rw [HQL.out] at this
     exact this
    have hwr : Ws wr (.slice (some ⟨w1.heap.size, 0, none⟩) (b.length + 1) (b.length + 1)) r := by
     have := hbr.ws HRO.out (by rw [HRL.out]; unfold maxLen; omega)
     rw [HRL.out] at this
     exact this
    have hq1 : q.length ≤ 100000000000 := by rw [HQL.out]; omega
    have hr1 : r.length ≤ 100000000000 := by rw [HRL.out]; omega
    have HQ1 := Lib.hid hq1
    have HR1 := Lib.hid hr1
    clear hq1 hr1
    go_wp2_with fail
    refine (ref_norm hwq HQ1.out).mono ?_
    intro e w4 ret4
    obtain ⟨v4, rfl, s4, u4⟩ := ret4.ws
    rw [HE.out.1] at s4
    have g4 := hup.trans u4
    have hwr4 := hwr.up u4
    go_wp2_with fail
    refine (ref_norm hwr4 HR1.out).mono ?_
    rintro e w5 ⟨v5, rfl, s5, k5, u5⟩
    rw [HE.out.2] at s5 k5
    have s4 := s4.up u5
    have hsz := g4.size
    have g5 : Up w w5 := g4.trans u5
    go_wp2
    go_ret2
    exact ⟨v4, v5, rfl, s4, own_weaken s5 hsz, k5, g5⟩
  | k + 1, hk, HAT =>
    have ei : ((k + 1 : Nat) : Int) - 1 = k := by omega
    rw [ei]
    clear ei
    obtain ⟨hapos, hka⟩ := HBIT.out k hk
    have HW := Lib.hid (Wd.bit_word a OA.out k)
    have hx := Wd.ok_getD OA.out (k / 32)
    obtain ⟨b1, o1, rfl, hb1, hc1⟩ := rd_word_D (p5.up hup) (k := k / 32) hka
    generalize a.getD (k / 32) 0 = x at *
    go_wp2
    have k1 : (k : Int) / 32 < (a.length : Int) := by omega
    have k0 : (0 : Int) ≤ (k : Int) / 32 := by omega
    have k2 : IntKind.i64.wrap ((k : Int) / 32) = (k : Int) / 32 := by rw [IntKind.wrap_i64]; omega
    have k8 : ((k : Int)).tmod 32 = (k : Int) % 32 := Int.tmod_eq_emod_of_nonneg (by omega)
    have k4 : ((k : Int) / 32).toNat = k / 32 := by omega
    have k5 : ((k : Int) % 32).toNat = k % 32 := by omega
    have k6 : ¬ (k : Int) % 32 < 0 := by omega
    have k7 : min (k % 32) 32 = k % 32 := by omega
    have k3 : IntKind.i64.wrap ((k : Int) % 32) = (k : Int) % 32 := by rw [IntKind.wrap_i64]; omega
    obtain ⟨P, hP⟩ : ∃ P : Nat, P = 2 ^ (k % 32) := ⟨_, rfl⟩
    have hP0 : 0 < P := by rw [hP]; exact Nat.two_pow_pos _
    have hP1 : P < 4294967296 := by
     rw [hP]
     exact Nat.lt_of_lt_of_le (Nat.pow_lt_pow_right (by omega) (Nat.mod_lt k (by omega))) (by omega)
    have e9 : IntKind.u32.wrap (2 ^ (k % 32)) = (P : Int) := by
     have : ((2 : Int) ^ (k % 32)) = (P : Int) := by rw [hP, Int.natCast_pow]; rfl
     rw [this, IntKind.wrap_u32']; omega
    have e9b : (P = 0) = False := eq_false (by omega)
    obtain ⟨y, hy⟩ : ∃ y, y = x / P := ⟨_, rfl⟩
    have hyx : y ≤ x := by rw [hy]; exact Nat.div_le_self _ _
    rw [Wd.B_eq] at hx
    have e10 : IntKind.u32.wrap ((x : Int) / (P : Int)) = (y : Int) := by
     have : ((x : Int) / (P : Int)) = (y : Int) := by rw [hy, Int.natCast_ediv]
     rw [this, IntKind.wrap_u32']; omega
    have e10b : IntKind.u32.wrap ((x : Int).tdiv (P : Int)) = (y : Int) := by
     rw [Int.tdiv_eq_ediv_of_nonneg (by omega)]; exact e10
    have e11 : IntKind.u32.wrap ((y : Int) % 2) = ((y % 2 : Nat) : Int) := by rw [IntKind.wrap_u32']; omega
    have e11b : ((y : Int)).tmod 2 = (y : Int) % 2 := Int.tmod_eq_emod_of_nonneg (by omega)
    rw [← hP, ← hy] at HW
    clear hP hy
    go_still_tail 12, (by kernel_rfl)
    obtain ⟨t, ht⟩ : ∃ t, t = y % 2 := ⟨_, rfl⟩
    have ht1 : t ≤ 1 := by omega
    have HTB : Hid (((y : Int) % 2 == 1) = decide (t = 1)) := Lib.hid (by rw [Bool.eq_iff_iff]; simp; omega)
    rw [← ht] at HW
    rw [HTB.out]
    change wpList _ _ _ _ _ wr.drew
    have hup2 := hup.drew
    have hbq2 : Blk wr.drew w.heap.size q := hbq
    have hbr2 : Blk wr.drew w1.heap.size r := hbr
    clear k0 k1 k2 k3 k4 k5 k6 k7 k8 e9 e9b e10 e10b e11 e11b hc1 hyx ht HTB hbq hbr hup hx
    generalize wr.drew = wd at *
    have HAB : Hid (Wd.val a / 2 ^ k = 2 * (Wd.val a / 2 ^ (k + 1)) + t) := Lib.hid (by rw [Wd.bit_div (Wd.val a) 1 k (by omega), HW.out])
    have hvb := Wd.val_lt OB.out
    have hva := Wd.val_lt OA.out
    have hv1 : Wd.val r < Wd.val b := by rw [HAT.out.2]; exact Nat.mod_lt _ H0.out
    have hv2 : 2 * Wd.val r + t < Wd.B ^ r.length := by
     rw [HRL.out, Nat.pow_succ]
     have h2 := Nat.mul_le_mul_left (Wd.B ^ b.length) Wd.B_two_le
     omega
    have hv3 : 2 * Wd.val q + 0 < Wd.B ^ q.length := by
     rw [HQL.out, HAT.out.1]
     have h2 := Nat.div_le_self (Wd.val a / 2 ^ (k + 1)) (Wd.val b)
     have h3 := Nat.div_le_self (Wd.val a) (2 ^ k)
     have h4 := HAB.out
     omega
    have HV2 := Lib.hid hv2
    have HV3 := Lib.hid hv3
    clear hvb hva hv1 hv2 hv3
    have hq1 : q.length ≤ 100000000000 := by rw [HQL.out]; omega
    have hr1 : r.length ≤ 100000000000 := by rw [HRL.out]; omega
    go_wp2_with fail
    refine (ref_double5 t ht1 rfl HRL.out hbr2.r HRO.out hr1 HV2.out).mono ?_
    rintro e w5 ⟨rfl, r5, hbr5, okr5, lr5, vr5, on5⟩
    have hbq5 := hbq2.other on5 HNE.out
    have hup5 := on5.up hup2 hs1
    have HRO5 := Lib.hid okr5
    have HRL5 := Lib.hid lr5
    have HRV5 := Lib.hid vr5
    clear okr5 lr5 vr5 hbq2
    go_wp2_with fail
    refine (ref_double5 0 (by omega) rfl HQL.out hbq5.r HQO.out hq1 HV3.out).mono ?_
    rintro e w6 ⟨rfl, q6, hbq6, okq6, lq6, vq6, on6⟩
    have hbr6 := hbr5.other on6 (Ne.symm HNE.out)
    have hup6 := on6.up hup5 (Nat.le_refl _)
    have HQO6 := Lib.hid okq6
    have HQL6 := Lib.hid lq6
    have HQV6 := Lib.hid vq6
    clear okq6 lq6 vq6 hbr5
    have hwr6 : Ws w6 (.slice (some ⟨w1.heap.size, 0, none⟩) (b.length + 1) (b.length + 1)) r5 := by
     have := hbr6.blk.ws HRO5.out (by rw [HRL5.out]; unfold maxLen; omega)
     rw [HRL5.out] at this
     exact this
    have hr51 : r5.length ≤ 100000000000 := by rw [HRL5.out]; omega
    have hb6 := HB.out.up hup6
    go_wp2_with fail
    refine (ref_cmp hwr6 hb6 hr51 (by omega)).mono ?_
    rintro e w7 ⟨rfl, rfl⟩
    by_cases hge : Wd.val b ≤ Wd.val r5
    · have hcm : 0 ≤ Wd.cmpI (Wd.val r5) (Wd.val b) := by
       rcases Wd.cmpI_cases (Wd.val r5) (Wd.val b) with h | h | h <;> omega
      have HGE := Lib.hid hge
      have hst := Stays.of_old (g := w1.heap.size) HB.out hup6 hs1
      have HN := Lib.hid (Wd.bit_yes H0.out (M := Wd.val a / 2 ^ (k + 1)) (t := t) (by rw [← HAT.out.2, ← HRV5.out]; exact hge) ht1)
      clear hge
      generalize Wd.cmpI (Wd.val r5) (Wd.val b) = cm at *
      go_wp2_with fail
      refine (ref_less5 rfl HRL5.out hbr6 HRO5.out hst (by omega) hr51 HGE.out).mono ?_
      rintro e w8 ⟨rfl, r8, hbr8, okr8, lr8, vr8, on8⟩
      have hbq8 := hbq6.blk.other on8 HNE.out
      have hup8 := on8.up hup6 hs1
      have HRO8 := Lib.hid okr8
      have HRL8 := Lib.hid lr8
      have HRV8 : Hid (Wd.val r8 = Wd.val a / 2 ^ k % Wd.val b) := Lib.hid (by rw [vr8, HRV5.out, HAB.out, HN.out.2, HAT.out.2])
      clear okr8 lr8 vr8
      have hq0 : 0 < q6.length := by rw [HQL6.out]; exact hapos
      have HS := Lib.hid (Wd.val_set hq0 (q6.getD 0 0 + 1))
      have hz : q6.getD 0 0 < 4294967295 := by
       have h1 := HQV6.out
       have h2 := Wd.val_drop q6 0
       rw [List.drop_zero, h1] at h2
       have h3 := Wd.ok_getD HQO6.out 0
       rw [Wd.B_eq] at h2 h3
       omega
      have HQ9 := Lib.hid (Wd.ok_set HQO6.out 0 (x := q6.getD 0 0 + 1) (by rw [Wd.B_eq]; omega))
      have HQV9 : Hid (Wd.val (q6.set 0 (q6.getD 0 0 + 1)) = Wd.val a / 2 ^ k / Wd.val b) := Lib.hid (by
       have h1 := HS.out
       rw [Nat.pow_zero] at h1
       rw [HAB.out, HN.out.1, ← HAT.out.1]
       have h2 := HQV6.out
       omega)
      have hcg := hbq8.cellD hq0
      have hfg := hbq8.free 0
      have HQL9 : Hid ((q6.set 0 (q6.getD 0 0 + 1)).length = a.length) := Lib.hid (by rw [List.length_set]; exact HQL6.out)
      have hbq9 := hbq8.set 0 (q6.getD 0 0 + 1)
      clear HS
      generalize q6.getD 0 0 = z at *
      rw [Int.natCast_add] at hbq9
      go_wp2
      go_roundw
      case rel => exact ⟨k, _, r8, rfl, by omega, HQL9, HQ9, hbq9, HRL8, HRO8, (hbr8.blk).other ((Only.refl _ _).set _ _) (Ne.symm HNE.out), hup8.setCell (Nat.le_refl _) _, Lib.hid ⟨HQV9.out, HRV8.out⟩⟩
      case measure => simp [intOf]
    · have hcm : Wd.cmpI (Wd.val r5) (Wd.val b) < 0 := Wd.cmpI_neg.2 (by omega)
      have HN := Lib.hid (Wd.bit_no H0.out (M := Wd.val a / 2 ^ (k + 1)) (t := t) (by rw [← HAT.out.2, ← HRV5.out]; omega))
      have HF : Hid (DivAt a b q6 r5 k) := Lib.hid ⟨by rw [HQV6.out, HAB.out, HN.out.1, HAT.out.1]; rfl, by rw [HRV5.out, HAB.out, HN.out.2, HAT.out.2]⟩
      clear hge
      generalize Wd.cmpI (Wd.val r5) (Wd.val b) = cm at *
      go_wp2
      go_roundw
      case rel => exact ⟨k, q6, r5, rfl, by omega, HQL6, HQO6, hbq6.blk, HRL5, HRO5, hbr6.blk, hup6, HF⟩
      case measure => simp [intOf]
end Go.Proofs.YtmmcffceeahemaaGreat
namespace Go.Proofs.YtmmcffceeahemaaGreat
open Go.RowKit
/-- A right list that stands in the midst of a block. -/
def Mid (w : World) (v : Value) (g n : Nat) : Prop :=
 ∃ (off c : Nat) (pre rest : List Value), v = .slice (some ⟨g, off, none⟩) (Wd.words n).length c ∧ pre.length = off ∧ BlkP w g pre (Wd.words n) rest ∧ (Wd.words n).length ≤ c ∧ c ≤ maxLen
theorem Mid.up {w w' : World} {v : Value} {g n : Nat} (h : Mid w v g n) (k : Up w w') : Mid w' v g n := by
 obtain ⟨off, c, pre, rest, h1, h2, h3, h4, h5⟩ := h
 exact ⟨off, c, pre, rest, h1, h2, h3.up k, h4, h5⟩
instance Mid.lup {w w' : World} {v : Value} {g n : Nat} : Lu (Up w w') (Mid w v g n) (Mid w' v g n) := luM fun u h => h.up u
theorem Mid.other {w w' : World} {v : Value} {g n h : Nat} (m : Mid w v g n) (k : Only h w w') (hne : g ≠ h) : Mid w' v g n := by
 obtain ⟨off, c, pre, rest, h1, h2, h3, h4, h5⟩ := m
 exact ⟨off, c, pre, rest, h1, h2, h3.other k hne, h4, h5⟩
theorem Mid.ws {w : World} {v : Value} {g n : Nat} (m : Mid w v g n) : Ws w v (Wd.words n) := by
 obtain ⟨off, c, pre, rest, rfl, h2, h3, h4, h5⟩ := m
 exact h3.ws h2 (Wd.ok_words n) h4 h5
theorem Mid.stays {w : World} {v : Value} {g n h : Nat} (m : Mid w v g n) (hne : g ≠ h) : Stays h w v (Wd.words n) := fun w' k => (m.other k hne).ws
theorem Mid.of_own {w : World} {base : Nat} {v : Value} {n : Nat} (h : w.ownsRow base 122 1 v (Wd.words n).length ((Wd.words n).map wv)) (hn : n ≠ 0) : ∃ g, Mid w v g n ∧ base ≤ g ∧ g < w.heap.size := by
 have hl : 0 < (Wd.words n).length := Nat.pos_of_ne_zero (fun h => hn (Wd.words_length_zero.1 h))
 obtain ⟨g, c, rest, rfl, h1, h2, h3, h4⟩ := own_blk h hl
 exact ⟨g, ⟨0, c, [], rest, rfl, rfl, h4.mid, h2, h3⟩, h1, h4.lt⟩
/-- What halving leaves. -/
def RetDown (g off c : Nat) (pre : List Value) (n : Nat) (w : World) (e : Ending) (w' : World) : Prop :=
 ∃ rest', e = .returned (.slice (some ⟨g, off, none⟩) (Wd.words n).length c) ∧ BlkP w' g pre (Wd.words n) rest' ∧ Only g w w'
theorem down_at {a p : List Nat} {n i : Nat} (ha : Wd.Ok a) (hn : n < 32) (hi : i < p.length) (h2 : p.drop i = a.drop i) (h : Wd.DownAt a p 0 n i) :
 Wd.DownAt a (p.set i ((p.getD i 0 + Wd.B * p.getD (i + 1) 0) / 2 ^ n % Wd.B)) 0 n (i + 1) ∧ (p.set i ((p.getD i 0 + Wd.B * p.getD (i + 1) 0) / 2 ^ n % Wd.B)).drop (i + 1) = a.drop (i + 1) := by
 have h3 : p.drop (i + 1) = a.drop (i + 1) := by rw [← List.drop_drop, h2, List.drop_drop]
 refine ⟨?_, by rw [List.drop_set_of_lt (by omega)]; exact h3⟩
 have e := Wd.downAt_step ha (w := 0) hn hi h
 rw [Nat.zero_add] at e
 rw [Wd.getD_of_drop h2, Wd.getD_of_drop h3]
 exact e
theorem down_end {a p : List Nat} {n : Nat} (ha : Wd.Ok a) (hl : p.length = a.length) (h : Wd.DownAt a p 0 n a.length) : Wd.val p = Wd.val a / 2 ^ n := by
 have e := Wd.downAt_end ha (w := 0) (b := n) (o := p) (by omega) (by omega) (by rw [Nat.sub_zero]; exact h)
 rw [Nat.mul_zero, Nat.zero_add] at e
 exact e
theorem cast_down3 (x y k : Nat) : (((y : Int) * 4294967296 + (x : Int)) / 2 ^ k % 4294967296) = (((x + Wd.B * y) / 2 ^ k % Wd.B : Nat) : Int) := by
 rw [← cast_down2, Int.add_comm, Int.mul_comm]
set_option maxRecDepth 100000 in
set_option maxHeartbeats 1600000 in
theorem ref_down6 {w : World} {a : List Nat} {pre rest : List Value} {g off N c : Nat} {ni : Int} (n : Nat) (hni : ni = n) (hn : n < 32) (hp : pre.length = off) (hN : a.length = N) (hb : BlkP w g pre a rest) (ho : Wd.Ok a) (hbig : a.length ≤ 100000000000) (hc : a.length ≤ c) :
 Calls Tryz.prog 169 #[.slice (some ⟨g, off, none⟩) N c, .int .i64 ni] w (RetDown g off c pre (Wd.val a / 2 ^ n) w) := by
 subst hN hni
 have HPR := Lib.hid hp
 have HO := Lib.hid ho
 clear hp ho
 go_enter Tryz.func169, Tryz.ntmps169
 go_wp2
 go_loopw [5, 6] (fun s5 s6 wr => ∃ (i : Nat) (p : List Nat), s5 = .int .i64 i ∧ i ≤ a.length ∧ Hid (p.length = a.length) ∧ Hid (Wd.Ok p) ∧ BlkP wr g pre p rest ∧ Only g w wr ∧ Hid (p.drop i = a.drop i) ∧ Hid (Wd.DownAt a p 0 n i)) (fun s5 _ _ => a.length - (intOf s5).toNat)
 case atStart => exact ⟨0, a, rfl, Nat.zero_le _, Lib.hid rfl, HO, hb, Only.refl _ _, Lib.hid rfl, Lib.hid (Wd.downAt_zero a a 0 n)⟩
 case round =>
  obtain ⟨i, p, rfl, hi, HL, HP, hbl, hon, HD, HAT⟩ := hrel
  by_cases hlt : i < a.length
  · have hx := Wd.ok_getD HP.out i
    have hy := Wd.ok_getD HP.out (i + 1)
    have hil : i < p.length := by rw [HL.out]; exact hlt
    have HN := Lib.hid (down_at HO.out hn hil HD.out HAT.out)
    have HP2 := Lib.hid (Wd.ok_set HP.out i (x := (p.getD i 0 + Wd.B * p.getD (i + 1) 0) / 2 ^ n % Wd.B) (Nat.mod_lt _ Wd.B_pos))
    have HL2 : ∀ x, Hid ((p.set i x).length = a.length) := fun x => Lib.hid (by rw [List.length_set]; exact HL.out)
    have hcg := hbl.cellD HPR.out hil
    have hfg := hbl.free (off + i)
    rw [Wd.B_eq] at hx hy
    by_cases hlt2 : i + 1 < a.length
    · have hcg2 := hbl.cellD HPR.out (i := i + 1) (by rw [HL.out]; exact hlt2)
      have hbl2 := Lib.hid (hbl.set HPR.out hil ((p.getD i 0 + Wd.B * p.getD (i + 1) 0) / 2 ^ n % Wd.B))
      generalize p.getD i 0 = x at *
      generalize p.getD (i + 1) 0 = y at *
      go_wp2
      go_roundw
      case rel => exact ⟨i + 1, _, by go_num, by omega, HL2 _, HP2, by rw [cast_down3]; exact hbl2.out, hon.set _ _, Lib.hid HN.out.2, Lib.hid HN.out.1⟩
      case measure => simp [intOf]; omega
    · have hy0 := getD_ge p (i := i + 1) (by rw [HL.out]; omega)
      have hbl2 := Lib.hid (hbl.set HPR.out hil ((p.getD i 0 + Wd.B * p.getD (i + 1) 0) / 2 ^ n % Wd.B))
      rw [hy0, Nat.mul_zero, Nat.add_zero] at HN HP2 hbl2
      clear hy0 hy
      generalize p.getD i 0 = x at *
      go_wp2
      go_roundw
      case rel => exact ⟨i + 1, _, by go_num, by omega, HL2 _, HP2, by rw [cast_down1]; exact hbl2.out, hon.set _ _, Lib.hid HN.out.2, Lib.hid HN.out.1⟩
      case measure => simp [intOf]; omega
  · obtain rfl : i = a.length := by omega
    have HE := Lib.hid (down_end HO.out HL.out HAT.out)
    have HW := Lib.hid (Wd.words_val HP.out)
    clear HD HAT hi
    generalize hA : a.length = L at *
    have HAL := Lib.hid hA
    clear hA
    have hfin : ∀ k, k ≤ L → Wd.trim p = p.take k → Wd.words (Wd.val a / 2 ^ n) = p.take k ∧ (p.take k).length = k := fun k hk ht => by
     rw [← HE.out, HW.out, ht, List.length_take, HL.out]
     exact ⟨rfl, by omega⟩
    have HF := Lib.hid hfin
    clear hfin
    go_wp2
    go_loopg [0] L (fun k s0 wq => s0 = .slice (some ⟨g, off, none⟩) k c ∧ k ≤ L ∧ Hid (Wd.trim (p.take k) = Wd.trim p) ∧ wr = wq)
    case atStart => exact ⟨rfl, Nat.le_refl _, Lib.hid (by rw [List.take_of_length_le (by rw [HL.out]; omega)]), rfl⟩
    case round =>
     obtain ⟨rfl, hk, HT, rfl⟩ := hrel
     match gk, hk, HT with
     | 0, hk, HT =>
       have HF0 := Lib.hid (HF.out 0 (by omega) HT.out.symm)
       go_wp2
       go_ret
       exact ⟨_, by rw [HF0.out.1]; rfl, by rw [HF0.out.1]; exact hbl.cut 0, hon⟩
     | k + 1, hk, HT =>
       have hkl : k < p.length := by rw [HL.out]; exact hk
       have hcg := hbl.cellD HPR.out hkl
       have hgd : p.getD k 0 = p[k] := getD_lt p hkl
       by_cases h0 : p.getD k 0 = 0
       · have HN : Hid (Wd.trim (p.take k) = Wd.trim p) := Lib.hid (by rw [← HT.out, Wd.trim_take_of_zero hkl (by rw [← hgd]; exact h0)])
         rw [h0] at hcg
         clear h0 hgd
         go_wp2
         go_roundg k
         case measure => omega
         case rel => exact ⟨by simp, by omega, HN, rfl⟩
       · have HT2 : Hid (Wd.trim p = p.take (k + 1)) := Lib.hid (by rw [← HT.out, Wd.trim_take_of_ne hkl (by rw [← hgd]; exact h0)])
         have HF0 := Lib.hid (HF.out (k + 1) hk HT2.out)
         clear hgd
         generalize p.getD k 0 = x at *
         have hx0 : ((x : Int) == 0) = false := by simpa using h0
         clear h0
         go_wp2
         go_ret
         exact ⟨_, by rw [HF0.out.1, HF0.out.2]; rfl, by rw [HF0.out.1]; exact hbl.cut (k + 1), hon⟩
/-- What is left of a number without the noughts at its end; and how many there were. -/
def RetOdd (g n : Nat) (w : World) (e : Ending) (w' : World) : Prop :=
 ∃ v, e = .returned (.tuple #[v, .int .i64 ((Wd.tz n : Nat) : Int)]) ∧ Mid w' v g (Wd.oddN n) ∧ Only g w w'
/-- Noughts in front: k words of them are gone. -/
def OddAt (a l : List Nat) (k : Nat) : Prop := Wd.val a = Wd.B ^ k * Wd.val l ∧ k + l.length = a.length ∧ Wd.val l ≠ 0 ∧ Wd.Ok l
theorem oddAt_step {a l : List Nat} {k : Nat} (h : OddAt a (0 :: l) k) : OddAt a l (k + 1) := by
 obtain ⟨h1, h2, h3, h4⟩ := h
 simp only [Wd.val, Nat.zero_add] at h1 h3
 refine ⟨by rw [h1, Nat.pow_succ, Nat.mul_assoc], by simp only [List.length_cons] at h2; omega, fun h => h3 (by rw [h, Nat.mul_zero]), (Wd.ok_cons.1 h4).2⟩
theorem oddAt_end {a l : List Nat} {x k : Nat} (hx : x ≠ 0) (h : OddAt a (x :: l) k) : Wd.tz (Wd.val a) = 32 * k + Wd.tz x ∧ Wd.val (x :: l) / 2 ^ Wd.tz x = Wd.oddN (Wd.val a) := by
 obtain ⟨h1, h2, h3, h4⟩ := h
 have hxB := (Wd.ok_cons.1 h4).1
 have e1 : Wd.tz (Wd.val (x :: l)) = Wd.tz x := Wd.tz_add_big hx hxB
 have e2 : Wd.tz (Wd.val a) = 32 * k + Wd.tz x := by rw [h1, Wd.B_pow, Wd.tz_mul_pow _ h3, e1]
 refine ⟨e2, ?_⟩
 unfold Wd.oddN
 rw [e2, h1, Wd.B_pow, Nat.pow_add, ← Nat.div_div_eq_div_mul, Nat.mul_div_cancel_left _ (Nat.two_pow_pos _)]
set_option maxRecDepth 100000 in
set_option maxHeartbeats 1600000 in
theorem ref_odd6 {w : World} {a : List Nat} {pre rest : List Value} {g off N c : Nat} (hp : pre.length = off) (hN : a.length = N) (hb : BlkP w g pre a rest) (ho : Wd.Ok a) (hbig : a.length ≤ 10000000000) (hc : a.length ≤ c) (hcm : c ≤ maxLen) (h0 : Wd.val a ≠ 0) :
 Calls Tryz.prog 144 #[.slice (some ⟨g, off, none⟩) N c] w (RetOdd g (Wd.val a) w) := by
 subst hN
 have HPR := Lib.hid hp
 have HCM := Lib.hid hcm
 have HO : Hid (OddAt a a 0) := Lib.hid ⟨by rw [Nat.pow_zero, Nat.one_mul], by omega, h0, ho⟩
 clear hp ho h0 hcm
 go_enter Tryz.func144, Tryz.ntmps144
 go_wp2
 go_loopg [0, 4] a.length (fun m s0 s4 wr => ∃ (k o d : Nat) (l : List Nat) (pr : List Value), m = l.length ∧ s0 = .slice (some ⟨g, o, none⟩) l.length d ∧ s4 = .int .i64 ((32 * k : Nat) : Int) ∧ l.length ≤ d ∧ k + l.length ≤ 10000000000 ∧ Hid (d ≤ maxLen) ∧ Hid (pr.length = o) ∧ BlkP wr g pr l rest ∧ Hid (OddAt a l k) ∧ w = wr)
 case atStart => exact ⟨0, off, c, a, pre, rfl, rfl, rfl, hc, by omega, HCM, HPR, hb, HO, rfl⟩
 case round =>
  obtain ⟨k, o, d, l, pr, rfl, rfl, rfl, hld, hkl, HDM, HPL, hbl, HAT, rfl⟩ := hrel
  match l, hld, hkl, hbl, HAT with
  | [], hld, hkl, hbl, HAT => exact absurd rfl HAT.out.2.2.1
  | x :: l, hld, hkl, hbl, HAT =>
    have hcg := hbl.cellD HPL.out (i := 0) (by simp)
    have hcg : w.cell? ⟨g, o, none⟩ = some (.int .u32 (x : Int)) := hcg
    simp only [List.length_cons] at hld hkl
    by_cases hx0 : x = 0
    · subst hx0
      have HN := Lib.hid (oddAt_step HAT.out)
      have hl0 : l.length ≠ 0 := fun h => by
       have := List.eq_nil_of_length_eq_zero h
       subst this
       exact HN.out.2.2.1 rfl
      have hd1 : (d = 1) = False := eq_false (by omega)
      have HPL2 : Hid ((pr ++ [wv 0]).length = o + 1) := Lib.hid (by rw [List.length_append, HPL.out]; rfl)
      have hbl2 := hbl.tail
      have HDM2 : Hid (d - 1 ≤ maxLen) := Lib.hid (Nat.le_trans (Nat.sub_le _ _) HDM.out)
      rw [List.length_cons]
      go_wp2
      go_roundg l.length
      case measure => simp
      case rel => exact ⟨k + 1, o + 1, d - 1, l, _, rfl, by simp, by go_num, by omega, by omega, HDM2, HPL2, hbl2, HN, rfl⟩
    · have HE := Lib.hid (oddAt_end hx0 HAT.out)
      have hxB := (Wd.ok_cons.1 HAT.out.2.2.2).1
      have htz := Wd.tz_lt 32 x hx0 (by rw [← Wd.B_two]; exact hxB)
      have HOK := Lib.hid HAT.out.2.2.2
      have hx1 : ((x : Int) == 0) = false := by simpa using hx0
      have hxp : 0 < x := Nat.pos_of_ne_zero hx0
      clear hx0
      have hln : (x :: l).length ≤ 100000000000 := by simp; omega
      have hlc : (x :: l).length ≤ d := by simpa using hld
      go_wp2_with fail
      refine (ref_zeros1 x rfl hxB hxp _).mono ?_
      rintro e w2 ⟨rfl, rfl⟩
      generalize Wd.tz x = t at *
      go_wp2_with fail
      refine (ref_down6 t rfl htz HPL.out rfl hbl HOK.out hln hlc).mono ?_
      rintro e w2 ⟨rest', rfl, hb2, hon⟩
      rw [HE.out.2] at hb2 ⊢
      have hle : (Wd.words (Wd.oddN (Wd.val a))).length ≤ d := by
       rw [← HE.out.2]
       exact Nat.le_trans (Nat.le_trans (Wd.words_mono (Nat.div_le_self _ _)) (Wd.words_val_length HOK.out)) hlc
      have HLE := Lib.hid hle
      clear hle
      go_wp2
      go_ret2
      refine ⟨_, ?_, ⟨o, d, pr, rest', rfl, HPL.out, hb2, HLE.out, HDM.out⟩, hon⟩
      rw [HE.out.1]
      go_num
set_option maxRecDepth 100000 in
set_option maxHeartbeats 1600000 in
theorem ref_double6 {v : Value} {l : List Nat} {w : World} {ti : Int} (t : Nat) (hti : ti = t) (ht : t ≤ 3200000000) (h : Ws w v l) (hl : l.length ≤ 100000000) :
 Calls Tryz.prog 147 #[v, .int .i64 ti] w (RetW (Wd.words (Wd.val l * 2 ^ t)) w) := by
 subst hti
 have hok := h.ok
 obtain ⟨A, c, rfl, p2, p3, p4, p5⟩ := h
 have P5 := Lib.hid p5
 have OK := Lib.hid hok
 clear p3 p4 p5 hok
 have hq : t / 32 ≤ 100000000 := by omega
 have HQ : Hid ((t : Int) / 32 = ((t / 32 : Nat) : Int)) := Lib.hid (by omega)
 obtain ⟨P, hP⟩ : ∃ P, P = 2 ^ (t % 32) := ⟨_, rfl⟩
 have HPB0 : P < 4294967296 := by
  rw [hP]
  exact Nat.lt_of_lt_of_le (Nat.pow_lt_pow_right (by omega) (Nat.mod_lt t (by omega))) (by omega)
 have HSH : Hid ((2 : Int) ^ (t % 32) % 4294967296 = (P : Int)) := Lib.hid (by
  have : ((2 : Int) ^ (t % 32)) = (P : Int) := by rw [hP, Int.natCast_pow]; rfl
  rw [this]
  omega)
 clear HPB0
 have HPB : Hid (P < Wd.B) := Lib.hid (by
  rw [Wd.B_eq, hP]
  exact Nat.lt_of_lt_of_le (Nat.pow_lt_pow_right (by omega) (Nat.mod_lt t (by omega))) (by omega))
 have HV : Hid (Wd.val (List.replicate (t / 32) 0 ++ l) * Wd.val [P] = Wd.val l * 2 ^ t) := Lib.hid (by
  rw [Wd.val_append, Wd.val_replicate, List.length_replicate, Nat.zero_add]
  simp only [Wd.val, Nat.mul_zero, Nat.add_zero]
  rw [hP, Nat.mul_assoc, Nat.mul_comm, Nat.mul_assoc, Nat.mul_comm (2 ^ (t % 32)), ← Wd.pow_split])
 clear hP
 generalize hQ : t / 32 = q at *
 clear hQ
 go_enter Tryz.func147, Tryz.ntmps147
 go_wp2_with (at_make; go_loud (refine wl_make rfl _ _ rfl q rfl rfl HQ.out ?_ ?_))
 · omega
 intro w1 hb1 hu1
 have hown := hb1.own (base := w.heap.size) (Nat.le_refl _) (by rw [List.length_replicate]; unfold maxLen; omega)
 have HLR : Hid ((List.replicate q 0 ++ l).length = q + l.length) := Lib.hid (by simp)
 have HOR : Hid (Wd.Ok (List.replicate q 0 ++ l)) := Lib.hid (Wd.ok_append.2 ⟨Wd.ok_replicate q, OK.out⟩)
 rw [List.length_replicate] at hown
 generalize List.replicate q 0 = z at *
 go_wp2_with (at_builtin; refine wl_append (w0 := w) rfl (.tmp 8) (.tmp 9) rfl (n := q) (xs := z) rfl hown (l := l) rfl (P5.out.up hu1) rfl (by omega) hu1 ?_; intro v2 w2 h2 u2)
 have s2 : Ws w2 v2 (z ++ l) := Ws.of_own (base := w.heap.size) (by rw [HLR.out]; exact h2) HOR.out
 clear h2 hown hb1
 go_wp2_with fail
 rw [HSH.out]
 refine (ref_mul (s2.up ((Up.refl _).alloc _)) (ws_one w2 P HPB.out) (by rw [HLR.out]; omega) (by simp)).mono ?_
 intro e w3 ret3
 obtain ⟨v3, rfl, s3, u3⟩ := ret3.ws
 rw [HV.out] at s3
 have g3 := (u2.alloc _).trans u3
 go_wp2
 go_ret
 exact ⟨_, rfl, s3, g3⟩
set_option maxRecDepth 100000 in
set_option maxHeartbeats 3200000 in
theorem ref_gcd {v u : Value} {a b : List Nat} {w : World} (ha : Ws w v a) (hb : Ws w u b) (hla : a.length ≤ 10000000) (hlb : b.length ≤ 10000000) :
 Calls Tryz.prog 104 #[v, u] w (RetW (Wd.words (Nat.gcd (Wd.val a) (Wd.val b))) w) := by
 have hal := len_words_val ha.ok hla
 have hbl := len_words_val hb.ok hlb
 have hta := Wd.val_lt_two ha.ok
 have htb := Wd.val_lt_two hb.ok
 by_cases ha0 : Wd.val a = 0
 · have HG : Hid (Wd.words (Wd.val a) = [] ∧ Nat.gcd (Wd.val a) (Wd.val b) = Wd.val b) := Lib.hid (by rw [ha0, Wd.words_zero, Nat.gcd_zero_left]; exact ⟨rfl, rfl⟩)
   clear ha0 hta htb
   go_enter Tryz.func104, Tryz.ntmps104
   go_wp2_with fail
   refine (ref_norm ha (by omega)).mono ?_
   intro e W1 ret1
   obtain ⟨V1, rfl, x, U1⟩ := ret1.ws
   clear ret1
   have G1 := (Up.refl w).trans U1
   have ha := ha.up U1
   have hb := hb.up U1
   clear U1
   rw [HG.out.1] at x
   obtain ⟨_, _, rfl⟩ := x.form
   go_wp2_with fail
   refine (ref_norm hb (by omega)).mono ?_
   intro e W2 ret2
   obtain ⟨V2, rfl, y, U2⟩ := ret2.ws
   clear ret2
   have G2 := G1.trans U2
   have ha := ha.up U2
   have hb := hb.up U2
   have x := x.up U2
   clear U2 G1
   go_wp2
   go_ret
   exact ⟨_, rfl, by rw [HG.out.2]; exact y, G2⟩
 · have HA1 : Hid ((Wd.words (Wd.val a)).length ≠ 0) := Lib.hid (fun h => ha0 (Wd.words_length_zero.1 h))
   by_cases hb0 : Wd.val b = 0
   · have HG : Hid (Wd.words (Wd.val b) = [] ∧ Nat.gcd (Wd.val a) (Wd.val b) = Wd.val a) := Lib.hid (by rw [hb0, Wd.words_zero, Nat.gcd_zero_right]; exact ⟨rfl, rfl⟩)
     clear ha0 hb0 hta htb
     go_enter Tryz.func104, Tryz.ntmps104
     go_wp2_with fail
     refine (ref_norm ha (by omega)).mono ?_
     intro e W1 ret1
     obtain ⟨V1, rfl, x, U1⟩ := ret1.ws
     clear ret1
     have G1 := (Up.refl w).trans U1
     have ha := ha.up U1
     have hb := hb.up U1
     clear U1
     have hx1 := HA1.out
     generalize hX : Wd.words (Wd.val a) = X at *
     have HX := Lib.hid hX
     clear hX
     obtain ⟨_, _, rfl⟩ := x.form
     have hx2 : ((X.length : Int) == 0) = false := by simpa using hx1
     clear hx1
     go_wp2_with fail
     refine (ref_norm hb (by omega)).mono ?_
     intro e W2 ret2
     obtain ⟨V2, rfl, y, U2⟩ := ret2.ws
     clear ret2
     have G2 := G1.trans U2
     have ha := ha.up U2
     have hb := hb.up U2
     have x := x.up U2
     clear U2 G1
     rw [HG.out.1] at y
     obtain ⟨_, _, rfl⟩ := y.form
     go_wp2
     go_ret
     exact ⟨_, rfl, by rw [HG.out.2, HX.out]; exact x, G2⟩
   · have HG := Lib.hid (Wd.gcd_halves ha0 hb0)
     have HB1 : Hid ((Wd.words (Wd.val b)).length ≠ 0) := Lib.hid (fun h => hb0 (Wd.words_length_zero.1 h))
     have hta := Wd.tz_lt _ _ ha0 hta
     have htb := Wd.tz_lt _ _ hb0 htb
     have HA0 := Lib.hid ha0
     have HB0 := Lib.hid hb0
     clear ha0 hb0
     go_enter Tryz.func104, Tryz.ntmps104
     go_wp2_with fail
     refine (ref_norm ha (by omega)).mono ?_
     rintro e w1 ⟨v1, rfl, x1, k1, u1⟩
     obtain ⟨gx, mx, hgx, hgx2⟩ := Mid.of_own x1 HA0.out
     have hb1 := hb.up u1
     go_wp2_with fail
     refine (ref_norm hb1 (by omega)).mono ?_
     rintro e w2 ⟨v2, rfl, y1, k2, u2⟩
     obtain ⟨gy, my, hgy, hgy2⟩ := Mid.of_own y1 HB0.out
     have mx := mx.up u2
     have g2 := u1.trans u2
     have hs1 := u1.size
     have HNE : Hid (gx ≠ gy) := Lib.hid (by omega)
     have hgy3 : w.heap.size ≤ gy := by omega
     clear x1 y1 k1 k2 hb1
     obtain ⟨ox, cx, px, rx, rfl, q1, q2, q3, q4⟩ := mx
     obtain ⟨oy, cy, py, ry, rfl, r1, r2, r3, r4⟩ := my
     have hxl : (((Wd.words (Wd.val a)).length : Int) == 0) = false := by simpa using HA1.out
     have hyl : (((Wd.words (Wd.val b)).length : Int) == 0) = false := by simpa using HB1.out
     have Q1 := Lib.hid q1
     have Q4 := Lib.hid q4
     have my : Mid w2 (.slice (some ⟨gy, oy, none⟩) (Wd.words (Wd.val b)).length cy) gy (Wd.val b) := ⟨oy, cy, py, ry, rfl, r1, r2, r3, r4⟩
     clear q1 q4 r1 r2 r3 r4
     go_wp2_with fail
     refine (ref_odd6 Q1.out rfl q2 (Wd.ok_words _) (by omega) q3 Q4.out (by rw [Wd.val_words]; exact HA0.out)).mono ?_
     rintro e w3 ⟨v3, rfl, m3, on3⟩
     rw [Wd.val_words] at m3 ⊢
     have my := my.other on3 (Ne.symm HNE.out)
     have g3 := on3.up g2 hgx
     obtain ⟨oy, cy, py, ry, e, r1, r2, r3, r4⟩ := my
     cases e
     have R1 := Lib.hid r1
     have R4 := Lib.hid r4
     clear r1 r4
     go_wp2_with fail
     refine (ref_odd6 R1.out rfl r2 (Wd.ok_words _) (by omega) r3 R4.out (by rw [Wd.val_words]; exact HB0.out)).mono ?_
     rintro e w4 ⟨v4, rfl, m4, on4⟩
     rw [Wd.val_words] at m4 ⊢
     have m3 := m3.other on4 HNE.out
     have g4 := on4.up g3 hgy3
     clear r2 r3 q2 q3 on3 on4 hxl hyl
     have HST : Hid (Wd.oddN (Wd.val a) % 2 = 1 ∧ Wd.oddN (Wd.val b) % 2 = 1 ∧ (Wd.words (Wd.oddN (Wd.val a))).length ≤ 10000000 ∧ (Wd.words (Wd.oddN (Wd.val b))).length ≤ 10000000) :=
      Lib.hid ⟨Wd.oddN_odd HA0.out, Wd.oddN_odd HB0.out, Nat.le_trans (Wd.words_mono (Wd.oddN_le _)) hal, Nat.le_trans (Wd.words_mono (Wd.oddN_le _)) hbl⟩
     generalize Wd.oddN (Wd.val a) = XA at *
     generalize Wd.oddN (Wd.val b) = XB at *
     have hmin : ((min (Wd.tz (Wd.val a)) (Wd.tz (Wd.val b)) : Nat) : Int) = if ((Wd.tz (Wd.val b) : Nat) : Int) < ((Wd.tz (Wd.val a) : Nat) : Int) then ((Wd.tz (Wd.val b) : Nat) : Int) else ((Wd.tz (Wd.val a) : Nat) : Int) := by split <;> omega
     generalize Wd.tz (Wd.val a) = ta at *
     generalize Wd.tz (Wd.val b) = tb at *
     have HMIN := Lib.hid hmin
     clear hmin
     go_wp2_with fail
     go_loopg [5, 6] (XA + XB) (fun n s5 s6 wr => ∃ (X Y g1 g2 : Nat), n = X + Y ∧ Mid wr s5 g1 X ∧ Mid wr s6 g2 Y ∧ Hid (g1 ≠ g2) ∧ w.heap.size ≤ g1 ∧ w.heap.size ≤ g2 ∧ Hid (X % 2 = 1 ∧ Y % 2 = 1 ∧ (Wd.words X).length ≤ 10000000 ∧ (Wd.words Y).length ≤ 10000000) ∧ Hid (Nat.gcd X Y = Nat.gcd XA XB) ∧ Up w wr)
     case atStart => exact ⟨XA, XB, gx, gy, rfl, m3, m4, HNE, hgx, hgy3, HST, Lib.hid rfl, g4⟩
     case round =>
      obtain ⟨X, Y, g1, g2, rfl, hX, hY, HNG, hg1, hg2, HS, HGC, hup⟩ := hrel
      have hl := HS.out
      have hXl := hl.2.2.1
      have hYl := hl.2.2.2
      clear hl
      go_wp2_with fail
      refine (ref_cmp hX.ws hY.ws (by omega) (by omega)).mono ?_
      rintro e w5 ⟨rfl, rfl⟩
      rw [Wd.val_words, Wd.val_words]
      rcases Nat.lt_trichotomy X Y with h | h | h
      · have HC := Lib.hid (Wd.cmpI_lt h)
        rw [HC.out]
        -- Y is greater: in block @G1@
        have HN : Hid (Nat.gcd (Wd.oddN (Y - X)) X = Nat.gcd XA XB) := Lib.hid (by rw [Wd.gcd_less HS.out.1 h, ← HGC.out]; exact Nat.gcd_comm _ _)
        have hd0 : Y - X ≠ 0 := by omega
        have HD := Lib.hid (And.intro (Wd.oddN_odd hd0) (Wd.oddN_le (Y - X)))
        have HD0 := Lib.hid hd0
        have HLT := Lib.hid h
        clear hd0
        have hst := hX.stays (Ne.symm HNG.out).symm
        obtain ⟨ox, cx, px, rx, rfl, q1, q2, q3, q4⟩ := hY
        have Q1 := Lib.hid q1
        have Q4 := Lib.hid q4
        clear q1 q4
        go_wp2_with fail
        refine (ref_less5 Q1.out rfl q2 (Wd.ok_words _) hst (by omega) (by omega) (by rw [Wd.val_words, Wd.val_words]; exact Nat.le_of_lt HLT.out)).mono ?_
        rintro e w6 ⟨rfl, o, q5, oko, lo, vo, on6⟩
        rw [Wd.val_words, Wd.val_words] at vo
        have mY := hX.other on6 (Ne.symm HNG.out).symm
        have g6 := on6.up hup hg2
        have HV := Lib.hid vo
        have HOK := Lib.hid oko
        have HLO := Lib.hid lo
        clear vo oko lo
        go_wp2_with fail
        refine (ref_odd6 Q1.out HLO.out q5 HOK.out (by rw [HLO.out]; omega) (by rw [HLO.out]; exact q3) Q4.out (by rw [HV.out]; exact HD0.out)).mono ?_
        rintro e w7 ⟨v7, rfl, m7, on7⟩
        rw [HV.out] at m7 ⊢
        have mY := mY.other on7 (Ne.symm HNG.out).symm
        have g7 := on7.up g6 hg2
        have HS7 : Hid (Wd.oddN (Y - X) % 2 = 1 ∧ X % 2 = 1 ∧ (Wd.words (Wd.oddN (Y - X))).length ≤ 10000000 ∧ (Wd.words X).length ≤ 10000000) :=
         Lib.hid ⟨HD.out.1, HS.out.1, Nat.le_trans (Wd.words_mono (Nat.le_trans HD.out.2 (Nat.sub_le _ _))) (by omega), by omega⟩
        go_wp2
        go_roundg (Wd.oddN (Y - X) + X)
        case measure =>
         have h1 := HD.out.2
         have h2 := HS.out.1
         have h3 := HLT.out
         omega
        case rel => exact ⟨_, X, _, _, rfl, m7, mY, Lib.hid (Ne.symm HNG.out), hg2, hg1, HS7, HN, g7⟩
      · have HC := Lib.hid (Wd.cmpI_eq h)
        rw [HC.out]
        have HE : Hid (Wd.val (Wd.words X) * 2 ^ min ta tb = Nat.gcd (Wd.val a) (Wd.val b)) := Lib.hid (by rw [Wd.val_words, HG.out, ← HGC.out, ← h, Nat.gcd_self])
        have hmn : min ta tb ≤ 3200000000 := by omega
        clear h
        have hXs := hX.ws
        go_wp2_with (with_reducible show wpList _ _ _ _ _ _; refine wl_min (o := ⟨some 54, _, _, _, _, _⟩) rfl _ _ _ _ rfl rfl rfl HMIN.out ?_)
        refine (ref_double6 (min ta tb) rfl hmn hXs (by omega)).mono ?_
        rintro e w6 ⟨v6, rfl, s6, u6⟩
        rw [HE.out] at s6
        have g6 := hup.trans u6
        go_wp2
        go_ret
        exact ⟨_, rfl, s6, g6⟩
      · have HC := Lib.hid (Wd.cmpI_gt h)
        rw [HC.out]
        -- X is greater: in block @G1@
        have HN : Hid (Nat.gcd (Wd.oddN (X - Y)) Y = Nat.gcd XA XB) := Lib.hid (by rw [Wd.gcd_less HS.out.2.1 h, ← HGC.out]; (try rfl))
        have hd0 : X - Y ≠ 0 := by omega
        have HD := Lib.hid (And.intro (Wd.oddN_odd hd0) (Wd.oddN_le (X - Y)))
        have HD0 := Lib.hid hd0
        have HLT := Lib.hid h
        clear hd0
        have hst := hY.stays HNG.out.symm
        obtain ⟨ox, cx, px, rx, rfl, q1, q2, q3, q4⟩ := hX
        have Q1 := Lib.hid q1
        have Q4 := Lib.hid q4
        clear q1 q4
        go_wp2_with fail
        refine (ref_less5 Q1.out rfl q2 (Wd.ok_words _) hst (by omega) (by omega) (by rw [Wd.val_words, Wd.val_words]; exact Nat.le_of_lt HLT.out)).mono ?_
        rintro e w6 ⟨rfl, o, q5, oko, lo, vo, on6⟩
        rw [Wd.val_words, Wd.val_words] at vo
        have mY := hY.other on6 HNG.out.symm
        have g6 := on6.up hup hg1
        have HV := Lib.hid vo
        have HOK := Lib.hid oko
        have HLO := Lib.hid lo
        clear vo oko lo
        go_wp2_with fail
        refine (ref_odd6 Q1.out HLO.out q5 HOK.out (by rw [HLO.out]; omega) (by rw [HLO.out]; exact q3) Q4.out (by rw [HV.out]; exact HD0.out)).mono ?_
        rintro e w7 ⟨v7, rfl, m7, on7⟩
        rw [HV.out] at m7 ⊢
        have mY := mY.other on7 HNG.out.symm
        have g7 := on7.up g6 hg1
        have HS7 : Hid (Wd.oddN (X - Y) % 2 = 1 ∧ Y % 2 = 1 ∧ (Wd.words (Wd.oddN (X - Y))).length ≤ 10000000 ∧ (Wd.words Y).length ≤ 10000000) :=
         Lib.hid ⟨HD.out.1, HS.out.2.1, Nat.le_trans (Wd.words_mono (Nat.le_trans HD.out.2 (Nat.sub_le _ _))) (by omega), by omega⟩
        go_wp2
        go_roundg (Wd.oddN (X - Y) + Y)
        case measure =>
         have h1 := HD.out.2
         have h2 := HS.out.2.1
         have h3 := HLT.out
         omega
        case rel => exact ⟨_, Y, _, _, rfl, m7, mY, Lib.hid HNG.out, hg1, hg2, HS7, HN, g7⟩
set_option maxHeartbeats 800000 in
theorem ref_over {v u : Value} {a : List Nat} {G : Nat} {w : World} (ha : Ws w v a) (hg : Ws w u (Wd.words G)) (hla : a.length ≤ 100000000) (hlg : (Wd.words G).length ≤ 100000000) (h0 : G ≠ 0) :
 Calls Tryz.prog 105 #[v, u] w (RetW (Wd.words (Wd.val a / G)) w) := by
 by_cases h1 : G = 1
 · have H1 : Hid (decide (G = 1) = true) := Lib.hid (by simpa using h1)
   have HD : Hid (Wd.val a / G = Wd.val a) := Lib.hid (by rw [h1, Nat.div_one])
   clear h1 h0
   go_enter Tryz.func105, Tryz.ntmps105
   go_wp2_with fail
   refine (ref_one hg (by omega)).mono ?_
   rintro e w1_ ⟨rfl, rfl⟩
   rw [H1.out]
   go_wp2_with fail
   refine (ref_norm ha (by omega)).mono ?_
   intro e W2 ret2
   obtain ⟨V2, rfl, x, U2⟩ := ret2.ws
   clear ret2
   have G2 := (Up.refl w).trans U2
   have ha := ha.up U2
   have hg := hg.up U2
   clear U2
   go_wp2
   go_ret
   exact ⟨_, rfl, by rw [HD.out]; exact x, G2⟩
 · have H1 : Hid (decide (G = 1) = false) := Lib.hid (by simpa using h1)
   have H0 : Hid (Wd.val (Wd.words G) ≠ 0) := Lib.hid (by rw [Wd.val_words]; exact h0)
   clear h1 h0
   go_enter Tryz.func105, Tryz.ntmps105
   go_wp2_with fail
   refine (ref_one hg (by omega)).mono ?_
   rintro e w1_ ⟨rfl, rfl⟩
   rw [H1.out]
   go_wp2_with fail
   refine (ref_div ha hg (by omega) (by omega) H0.out).mono ?_
   rintro e W2 ⟨V2, V2', rfl, x, y, k2, U2⟩
   have G2 := (Up.refl w).trans U2
   have ha := ha.up U2
   have hg := hg.up U2
   have y := own_weaken y (Up.size (Up.refl w))
   clear U2
   rw [Wd.val_words] at x
   go_wp2
   go_ret
   exact ⟨_, rfl, x, G2⟩
end Go.Proofs.YtmmcffceeahemaaGreat
