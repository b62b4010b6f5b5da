/-
  The walks of the document's layer 5: bit by bit.
  Noughts appended to a row of the call's own.
  The walks of the statements of layer 5.
-/
import Derived.Test.YtmmcffceeahemaaLowQuot
import Derived.Test.YtmmcffceeahemaaLowProd
import Derived.StillTailTactics
import Derived.Test.YtmmcffceeahemaaMem
import Derived.Lib.AppendZerosOnto
set_option linter.unusedVariables false
set_option linter.unusedSimpArgs false
namespace Go.Proofs.Ytmmcffceeahemaa
open Go.RowKit

/-- A number written in place. -/
def RetIn (g : Nat) (pre rest : List Value) (n len : Nat) (w : World) (e : Ending) (w' : World) : Prop :=
  e = .returned (.tuple #[]) ∧ ∃ o, BlkP w' g pre o rest ∧ Wd.Ok o ∧ o.length = len ∧ Wd.val o = n ∧ Only g w w'

set_option maxRecDepth 100000 in
set_option maxHeartbeats 1600000 in
theorem ref_double5 {w : World} {a : List Nat} {rest : List Value} {g N c : Nat} {t : Bool} (m : Nat) (hm : m ≤ 1) (ht : t = decide (m = 1)) (hN : a.length = N) (hb : BlkR w g a rest) (ho : Wd.Ok a) (hbig : a.length ≤ 100000000000) (hlt : 2 * Wd.val a + m < Wd.B ^ a.length) :
    Calls Try.prog 181 #[.slice (some ⟨g, 0, none⟩) N c, .bool t] w (RetIn g [] rest (2 * Wd.val a + m) N w) := by
  subst hN
  have HO := Lib.hid ho
  have HLT := Lib.hid hlt
  clear ho hlt
  have hm2 : m = 0 ∨ m = 1 := by omega
  rcases hm2 with rfl | rfl
  · obtain rfl : t = false := by simpa using ht
    clear ht hm
    go_enter Try.func181, Try.ntmps181
    go_wp2
    go_loopw [4, 5, 6] (fun s4 s5 _ wr => ∃ (i cy : Nat) (p : List Nat), s4 = .int .u32 cy ∧ s5 = .int .i64 i ∧ i ≤ a.length ∧ Hid (Wd.Ok p) ∧ BlkR wr g p rest ∧ Only g w wr ∧ Hid (Wd.DoubleAt a p 0 i cy)) (fun _ s5 _ _ => a.length - (intOf s5).toNat)
    case atStart => exact ⟨0, 0, a, rfl, rfl, Nat.zero_le _, HO, hb, Only.refl _ _, Lib.hid (Wd.doubleAt_zero a (by omega))⟩
    case round =>
      obtain ⟨i, cy, p, rfl, rfl, hi, HP, hbl, hon, HAT⟩ := hrel
      have hcy := HAT.out.1
      by_cases hlt : i < a.length
      · have hy := Wd.ok_getD HO.out i
        have hz := Wd.ok_getD HP.out i
        have hil : i < p.length := by rw [HAT.out.2.1]; omega
        have HN := Lib.hid (Wd.doubleAt_step hil hy HAT.out)
        have HP2 := Lib.hid (Wd.ok_set HP.out i (x := (2 * p.getD i 0 + cy) % Wd.B) (Nat.mod_lt _ Wd.B_pos))
        have hcg := hbl.cellD hil
        have hfg := hbl.free i
        generalize p.getD i 0 = z at *
        have HW : Hid ((((2 * z + cy) % Wd.B : Nat) : Int) = (z : Int) * 2 % 4294967296 + (cy : Int)) := Lib.hid (by rw [Wd.B_eq]; omega)
        have HW2 : Hid ((((2 * z + cy) % Wd.B : Nat) : Int) = ((z : Int) * 2 + (cy : Int)) % 4294967296) := Lib.hid (by rw [Wd.B_eq]; omega)
        have hz4 : z < 4294967296 := by rw [← Wd.B_eq]; exact hz
        go_wp2
        go_roundw
        case rel => exact ⟨i + 1, z / 2147483648, _, by go_num, by go_num, by omega, HP2, (by first | (rw [← HW.out]; exact hbl.set hil _) | (rw [← HW2.out]; exact hbl.set hil _)), hon.set _ _, HN⟩
        case measure => simp [intOf]; omega
      · obtain rfl : i = a.length := by omega
        have HE := Lib.hid (Wd.doubleAt_end HAT.out HLT.out)
        have HL := Lib.hid HAT.out.2.1
        go_wp2
        go_end0
        exact ⟨rfl, p, hbl, HP.out, HL.out, HE.out, hon⟩
  · obtain rfl : t = true := by simpa using ht
    clear ht hm
    go_enter Try.func181, Try.ntmps181
    go_wp2
    go_loopw [4, 5, 6] (fun s4 s5 _ wr => ∃ (i cy : Nat) (p : List Nat), s4 = .int .u32 cy ∧ s5 = .int .i64 i ∧ i ≤ a.length ∧ Hid (Wd.Ok p) ∧ BlkR wr g p rest ∧ Only g w wr ∧ Hid (Wd.DoubleAt a p 1 i cy)) (fun _ s5 _ _ => a.length - (intOf s5).toNat)
    case atStart => exact ⟨0, 1, a, rfl, rfl, Nat.zero_le _, HO, hb, Only.refl _ _, Lib.hid (Wd.doubleAt_zero a (by omega))⟩
    case round =>
      obtain ⟨i, cy, p, rfl, rfl, hi, HP, hbl, hon, HAT⟩ := hrel
      have hcy := HAT.out.1
      by_cases hlt : i < a.length
      · have hy := Wd.ok_getD HO.out i
        have hz := Wd.ok_getD HP.out i
        have hil : i < p.length := by rw [HAT.out.2.1]; omega
        have HN := Lib.hid (Wd.doubleAt_step hil hy HAT.out)
        have HP2 := Lib.hid (Wd.ok_set HP.out i (x := (2 * p.getD i 0 + cy) % Wd.B) (Nat.mod_lt _ Wd.B_pos))
        have hcg := hbl.cellD hil
        have hfg := hbl.free i
        generalize p.getD i 0 = z at *
        have HW : Hid ((((2 * z + cy) % Wd.B : Nat) : Int) = (z : Int) * 2 % 4294967296 + (cy : Int)) := Lib.hid (by rw [Wd.B_eq]; omega)
        have HW2 : Hid ((((2 * z + cy) % Wd.B : Nat) : Int) = ((z : Int) * 2 + (cy : Int)) % 4294967296) := Lib.hid (by rw [Wd.B_eq]; omega)
        have hz4 : z < 4294967296 := by rw [← Wd.B_eq]; exact hz
        go_wp2
        go_roundw
        case rel => exact ⟨i + 1, z / 2147483648, _, by go_num, by go_num, by omega, HP2, (by first | (rw [← HW.out]; exact hbl.set hil _) | (rw [← HW2.out]; exact hbl.set hil _)), hon.set _ _, HN⟩
        case measure => simp [intOf]; omega
      · obtain rfl : i = a.length := by omega
        have HE := Lib.hid (Wd.doubleAt_end HAT.out HLT.out)
        have HL := Lib.hid HAT.out.2.1
        go_wp2
        go_end0
        exact ⟨rfl, p, hbl, HP.out, HL.out, HE.out, hon⟩

set_option maxRecDepth 100000 in
set_option maxHeartbeats 1600000 in
theorem ref_less5 {w : World} {u : Value} {a b : List Nat} {pre rest : List Value} {g off N c : Nat} (hp : pre.length = off) (hN : a.length = N) (hb : BlkP w g pre a rest) (ho : Wd.Ok a) (hs : Stays g w u b) (hlb : b.length ≤ 100000000000) (hbig : a.length ≤ 100000000000) (hle : Wd.val b ≤ Wd.val a) :
    Calls Try.prog 155 #[.slice (some ⟨g, off, none⟩) N c, u] w (RetIn g pre rest (Wd.val a - Wd.val b) N w) := by
  subst hN
  have HPR := Lib.hid hp
  have HS := Lib.hid hs
  obtain ⟨A, d, rfl, okb, hr⟩ := hs.open_
  have OB := Lib.hid okb
  have HO := Lib.hid ho
  have HLE := Lib.hid hle
  clear okb ho hr hs hle hp
  go_enter Try.func155, Try.ntmps155
  go_wp2
  go_loopw [4, 5] (fun s4 s5 wr => ∃ (i cy : Nat) (p : List Nat), s4 = .int .u64 cy ∧ s5 = .int .i64 i ∧ i ≤ a.length ∧ Hid (Wd.Ok p) ∧ BlkP wr g pre p rest ∧ Only g w wr ∧ Hid (Wd.LessAt a b p i cy)) (fun _ s5 _ => a.length - (intOf s5).toNat)
  case atStart => exact ⟨0, 0, a, rfl, rfl, Nat.zero_le _, HO, hb, Only.refl _ _, Lib.hid (Wd.lessAt_zero a b)⟩
  case round =>
    obtain ⟨i, cy, p, rfl, rfl, hi, HP, hbl, hon, HAT⟩ := hrel
    have hcy := HAT.out.2.2.1
    by_cases hlt : i < a.length
    · have hx := Wd.ok_getD HP.out i
      have hy := Wd.ok_getD OB.out i
      have hil : i < p.length := by rw [HAT.out.1]; omega
      have HN := Lib.hid (Wd.lessAt_step hil hy HAT.out)
      have hs := Wd.subD_lt hx hy (Nat.lt_of_le_of_lt hcy Wd.B_one)
      have HO2 := Lib.hid (Wd.ok_set HP.out i hs)
      have hcg := hbl.cellD HPR.out hil
      have hfg := hbl.free (off + i)
      have hblN := Lib.hid (hbl.set HPR.out hil (Wd.subD (p.getD i 0) (b.getD i 0) cy))
      rw [Wd.B_eq] at hx hy
      have hst := (HS.out.only hon).ws
      clear hs
      generalize p.getD i 0 = x at *
      go_wp2_with fail
      refine (ref_at i rfl hst hlb (by omega)).mono ?_
      rintro e w' ⟨rfl, rfl⟩
      generalize b.getD i 0 = y at *
      by_cases hxy : x < y + cy
      · have eB : Wd.subB x y cy = 1 := by simp only [Wd.subB]; omega
        have eD : ((Wd.subD x y cy : Nat) : Int) = (x : Int) + 4294967296 - ((y : Int) + (cy : Int)) := by simp only [Wd.subD, eB]; omega
        have EB := Lib.hid eB
        have ED := Lib.hid eD
        clear eB eD
        go_wp2
        go_roundw
        case rel => exact ⟨i + 1, Wd.subB x y cy, p.set i (Wd.subD x y cy), by rw [EB.out]; rfl, by go_num, by omega, HO2, by rw [← ED.out]; exact hblN.out, hon.set _ _, HN⟩
        case measure => simp [intOf]; omega
      · have eB : Wd.subB x y cy = 0 := by simp only [Wd.subB]; omega
        have eD : ((Wd.subD x y cy : Nat) : Int) = (x : Int) - ((y : Int) + (cy : Int)) := by simp only [Wd.subD, eB]; omega
        have EB := Lib.hid eB
        have ED := Lib.hid eD
        clear eB eD
        go_wp2
        go_roundw
        case rel => exact ⟨i + 1, Wd.subB x y cy, p.set i (Wd.subD x y cy), by rw [EB.out]; rfl, by go_num, by omega, HO2, by rw [← ED.out]; exact hblN.out, hon.set _ _, HN⟩
        case measure => simp [intOf]; omega
    · obtain rfl : i = a.length := by omega
      have HE := Lib.hid (Wd.lessAt_end HO.out OB.out HP.out HLE.out HAT.out)
      have HL := Lib.hid HAT.out.1
      go_wp2
      go_end0
      exact ⟨rfl, p, hbl, HP.out, HL.out, HE.out, hon⟩

/-- Two slices, the second one a row of the call's own. -/
def RetOO (l m : List Nat) (w : World) (e : Ending) (w' : World) : Prop := ∃ v u, e = .returned (.tuple #[v, u]) ∧ Ws w' v l ∧ w'.ownsRow w.heap.size 150 1 u m.length (m.map wv) ∧ Wd.Ok m ∧ Up w w'
theorem Blk.r {w : World} {g : Nat} {l : List Nat} (h : Blk w g l) : BlkR w g l [] := by
  unfold BlkR
  rw [List.append_nil]
  exact h
theorem BlkP.blk {w : World} {g : Nat} {l : List Nat} (h : BlkP w g [] l []) : Blk w g l := by
  unfold BlkP at h
  rw [List.append_nil] at h
  exact h
theorem bl_gt {n k : Nat} (h : k < Wd.bl n) : n / 2 ^ k ≠ 0 := fun h0 => by
  have := (Nat.div_eq_zero_iff_lt (Nat.two_pow_pos k)).1 h0
  have := (Wd.bl_le_iff k n).2 this
  omega
/-- What one bit more makes. -/
def DivAt (a b q r : List Nat) (k : Nat) : Prop := Wd.val q = Wd.val a / 2 ^ k / Wd.val b ∧ Wd.val r = Wd.val a / 2 ^ k % Wd.val b

set_option maxRecDepth 100000 in
set_option maxHeartbeats 1600000 in
theorem ref_div {v u : Value} {a b : List Nat} {w : World} (ha : Ws w v a) (hb : Ws w u b) (hla : a.length ≤ 1000000000) (hlb : b.length ≤ 1000000000) (h0 : Wd.val b ≠ 0) :
    Calls Try.prog 157 #[v, u] w (RetOO (Wd.words (Wd.val a / Wd.val b)) (Wd.words (Wd.val a % Wd.val b)) w) := by
  have HB := Lib.hid hb
  have HA := Lib.hid ha
  have H0 := Lib.hid (Nat.pos_of_ne_zero h0)
  have hbits := (Wd.bl_le_iff (32 * a.length) (Wd.val a)).2 (Wd.val_lt_two ha.ok)
  obtain ⟨A, c, rfl, p2, p3, p4, p5⟩ := ha
  obtain ⟨D, d, rfl⟩ := hb.form
  have OA := Lib.hid p4
  have OB := Lib.hid hb.ok
  clear p2 p3 p4 h0 hb
  go_enter Try.func157, Try.ntmps157
  go_wp2_with (at_make; go_loud (refine wl_make rfl _ _ rfl a.length rfl rfl ?_ ?_ ?_))
  · omega
  · omega
  intro w1 hb1 hu1
  have HZ : Hid ((List.replicate a.length 0).length = a.length) := Lib.hid (by rw [List.length_replicate])
  have HZO := Lib.hid (Wd.ok_replicate a.length)
  have HZV := Lib.hid (Wd.val_replicate a.length)
  generalize List.replicate a.length 0 = z1 at hb1 HZ HZO HZV
  go_wp2_with (at_make; go_loud (refine wl_make rfl _ _ rfl (b.length + 1) rfl rfl ?_ ?_ ?_))
  · omega
  · omega
  intro w2 hb2 hu2
  have HY : Hid ((List.replicate (b.length + 1) 0).length = b.length + 1) := Lib.hid (by rw [List.length_replicate])
  have HYO := Lib.hid (Wd.ok_replicate (b.length + 1))
  have HYV := Lib.hid (Wd.val_replicate (b.length + 1))
  generalize List.replicate (b.length + 1) 0 = y1 at hb2 HY HYO HYV
  have hb12 := hb1.up hu2
  have g2 := hu1.trans hu2
  have hs1 := hu1.size
  have hlt1 := hb1.lt
  have HNE : Hid (w.heap.size ≠ w1.heap.size) := Lib.hid (by omega)
  have ha2 := HA.out.up g2
  go_wp2_with fail
  refine (ref_len3 ha2 (by omega)).mono ?_
  rintro e w3 ⟨rfl, u3⟩
  have g3 := g2.trans u3
  have hb13 := hb12.up u3
  have hb23 := hb2.up u3
  have HM : Hid (DivAt a b z1 y1 (Wd.bl (Wd.val a))) := Lib.hid (by
    unfold DivAt
    rw [Wd.div_two_bl, Nat.zero_div, Nat.zero_mod]
    exact ⟨HZV.out, HYV.out⟩)
  have HBIT : Hid (∀ k, k < Wd.bl (Wd.val a) → 0 < a.length ∧ k / 32 < a.length) := Lib.hid (fun k hk => by omega)
  have HBG : Hid (∀ k, k < Wd.bl (Wd.val a) → Wd.val a / 2 ^ k ≠ 0) := Lib.hid (fun k hk => bl_gt hk)
  have hbb : Wd.bl (Wd.val a) ≤ 32000000000 := by omega
  generalize Wd.bl (Wd.val a) = K at *
  go_wp2_with fail
  go_loopw [8] (fun s8 wr => ∃ (k : Nat) (q r : List Nat), s8 = .int .i64 ((k : Int) - 1) ∧ k ≤ K ∧ Hid (q.length = a.length) ∧ Hid (Wd.Ok q) ∧ Blk wr w.heap.size q ∧ Hid (r.length = b.length + 1) ∧ Hid (Wd.Ok r) ∧ Blk wr w1.heap.size r ∧ Up w wr ∧ Hid (DivAt a b q r k)) (fun s8 _ => (intOf s8 + 1).toNat)
  case atStart => exact ⟨K, z1, y1, rfl, Nat.le_refl _, HZ, HZO, hb13, HY, HYO, hb23, g3, HM⟩
  case round =>
    obtain ⟨k, q, r, rfl, hk, HQL, HQO, hbq, HRL, HRO, hbr, hup, HAT⟩ := hrel
    match k, hk, HAT with
    | 0, hk, HAT =>
      have HE : Hid (Wd.val q = Wd.val a / Wd.val b ∧ Wd.val r = Wd.val a % Wd.val b) := Lib.hid (by
        have := HAT.out
        unfold DivAt at this
        rw [Nat.pow_zero, Nat.div_one] at this
        exact this)
      have hwq : Ws wr (.slice (some ⟨w.heap.size, 0, none⟩) a.length a.length) q := by
        have := hbq.ws HQO.out (by rw [HQL.out]; unfold maxLen; omega)
        rw [HQL.out] at this
        exact this
      have hwr : Ws wr (.slice (some ⟨w1.heap.size, 0, none⟩) (b.length + 1) (b.length + 1)) r := by
        have := hbr.ws HRO.out (by rw [HRL.out]; unfold maxLen; omega)
        rw [HRL.out] at this
        exact this
      have hq1 : q.length ≤ 100000000000 := by rw [HQL.out]; omega
      have hr1 : r.length ≤ 100000000000 := by rw [HRL.out]; omega
      have HQ1 := Lib.hid hq1
      have HR1 := Lib.hid hr1
      clear hq1 hr1
      go_wp2_with fail
      refine (ref_norm hwq HQ1.out).mono ?_
      intro e w4 ret4
      obtain ⟨v4, rfl, s4, u4⟩ := ret4.ws
      rw [HE.out.1] at s4
      have g4 := hup.trans u4
      have hwr4 := hwr.up u4
      go_wp2_with fail
      refine (ref_norm hwr4 HR1.out).mono ?_
      rintro e w5 ⟨v5, rfl, s5, k5, u5⟩
      rw [HE.out.2] at s5 k5
      have s4 := s4.up u5
      have hsz := g4.size
      have g5 : Up w w5 := g4.trans u5
      go_wp2
      go_ret2
      exact ⟨v4, v5, rfl, s4, own_weaken s5 hsz, k5, g5⟩
    | k + 1, hk, HAT =>
      have ei : ((k + 1 : Nat) : Int) - 1 = k := by omega
      rw [ei]
      clear ei
      obtain ⟨hapos, hka⟩ := HBIT.out k hk
      have HW := Lib.hid (Wd.bit_word a OA.out k)
      have hx := Wd.ok_getD OA.out (k / 32)
      obtain ⟨b1, o1, rfl, hb1, hc1⟩ := rd_word_D (p5.up hup) (k := k / 32) hka
      generalize a.getD (k / 32) 0 = x at *
      go_wp2
      have k1 : (k : Int) / 32 < (a.length : Int) := by omega
      have k0 : (0 : Int) ≤ (k : Int) / 32 := by omega
      have k2 : IntKind.i64.wrap ((k : Int) / 32) = (k : Int) / 32 := by rw [IntKind.wrap_i64]; omega
      have k8 : ((k : Int)).tmod 32 = (k : Int) % 32 := Int.tmod_eq_emod_of_nonneg (by omega)
      have k4 : ((k : Int) / 32).toNat = k / 32 := by omega
      have k5 : ((k : Int) % 32).toNat = k % 32 := by omega
      have k6 : ¬ (k : Int) % 32 < 0 := by omega
      have k7 : min (k % 32) 32 = k % 32 := by omega
      have k3 : IntKind.i64.wrap ((k : Int) % 32) = (k : Int) % 32 := by rw [IntKind.wrap_i64]; omega
      obtain ⟨P, hP⟩ : ∃ P : Nat, P = 2 ^ (k % 32) := ⟨_, rfl⟩
      have hP0 : 0 < P := by rw [hP]; exact Nat.two_pow_pos _
      have hP1 : P < 4294967296 := by
        rw [hP]
        exact Nat.lt_of_lt_of_le (Nat.pow_lt_pow_right (by omega) (Nat.mod_lt k (by omega))) (by omega)
      have e9 : IntKind.u32.wrap (2 ^ (k % 32)) = (P : Int) := by
        have : ((2 : Int) ^ (k % 32)) = (P : Int) := by rw [hP, Int.natCast_pow]; rfl
        rw [this, IntKind.wrap_u32']; omega
      have e9b : (P = 0) = False := eq_false (by omega)
      obtain ⟨y, hy⟩ : ∃ y, y = x / P := ⟨_, rfl⟩
      have hyx : y ≤ x := by rw [hy]; exact Nat.div_le_self _ _
      rw [Wd.B_eq] at hx
      have e10 : IntKind.u32.wrap ((x : Int) / (P : Int)) = (y : Int) := by
        have : ((x : Int) / (P : Int)) = (y : Int) := by rw [hy, Int.natCast_ediv]
        rw [this, IntKind.wrap_u32']; omega
      have e10b : IntKind.u32.wrap ((x : Int).tdiv (P : Int)) = (y : Int) := by
        rw [Int.tdiv_eq_ediv_of_nonneg (by omega)]; exact e10
      have e11 : IntKind.u32.wrap ((y : Int) % 2) = ((y % 2 : Nat) : Int) := by rw [IntKind.wrap_u32']; omega
      have e11b : ((y : Int)).tmod 2 = (y : Int) % 2 := Int.tmod_eq_emod_of_nonneg (by omega)
      rw [← hP, ← hy] at HW
      clear hP hy
      go_still_tail 12, (by kernel_rfl)
      obtain ⟨t, ht⟩ : ∃ t, t = y % 2 := ⟨_, rfl⟩
      have ht1 : t ≤ 1 := by omega
      have HTB : Hid (((y : Int) % 2 == 1) = decide (t = 1)) := Lib.hid (by rw [Bool.eq_iff_iff]; simp; omega)
      rw [← ht] at HW
      rw [HTB.out]
      change wpList _ _ _ _ _ wr.drew
      have hup2 := hup.drew
      have hbq2 : Blk wr.drew w.heap.size q := hbq
      have hbr2 : Blk wr.drew w1.heap.size r := hbr
      clear k0 k1 k2 k3 k4 k5 k6 k7 k8 e9 e9b e10 e10b e11 e11b hc1 hyx ht HTB hbq hbr hup hx
      generalize wr.drew = wd at *
      have HAB : Hid (Wd.val a / 2 ^ k = 2 * (Wd.val a / 2 ^ (k + 1)) + t) := Lib.hid (by rw [Wd.bit_div (Wd.val a) 1 k (by omega), HW.out])
      have hvb := Wd.val_lt OB.out
      have hva := Wd.val_lt OA.out
      have hv1 : Wd.val r < Wd.val b := by rw [HAT.out.2]; exact Nat.mod_lt _ H0.out
      have hv2 : 2 * Wd.val r + t < Wd.B ^ r.length := by
        rw [HRL.out, Nat.pow_succ]
        have h2 := Nat.mul_le_mul_left (Wd.B ^ b.length) Wd.B_two_le
        omega
      have hv3 : 2 * Wd.val q + 0 < Wd.B ^ q.length := by
        rw [HQL.out, HAT.out.1]
        have h2 := Nat.div_le_self (Wd.val a / 2 ^ (k + 1)) (Wd.val b)
        have h3 := Nat.div_le_self (Wd.val a) (2 ^ k)
        have h4 := HAB.out
        omega
      have HV2 := Lib.hid hv2
      have HV3 := Lib.hid hv3
      clear hvb hva hv1 hv2 hv3
      have hq1 : q.length ≤ 100000000000 := by rw [HQL.out]; omega
      have hr1 : r.length ≤ 100000000000 := by rw [HRL.out]; omega
      go_wp2_with fail
      refine (ref_double5 t ht1 rfl HRL.out hbr2.r HRO.out hr1 HV2.out).mono ?_
      rintro e w5 ⟨rfl, r5, hbr5, okr5, lr5, vr5, on5⟩
      have hbq5 := hbq2.other on5 HNE.out
      have hup5 := on5.up hup2 hs1
      have HRO5 := Lib.hid okr5
      have HRL5 := Lib.hid lr5
      have HRV5 := Lib.hid vr5
      clear okr5 lr5 vr5 hbq2
      go_wp2_with fail
      refine (ref_double5 0 (by omega) rfl HQL.out hbq5.r HQO.out hq1 HV3.out).mono ?_
      rintro e w6 ⟨rfl, q6, hbq6, okq6, lq6, vq6, on6⟩
      have hbr6 := hbr5.other on6 (Ne.symm HNE.out)
      have hup6 := on6.up hup5 (Nat.le_refl _)
      have HQO6 := Lib.hid okq6
      have HQL6 := Lib.hid lq6
      have HQV6 := Lib.hid vq6
      clear okq6 lq6 vq6 hbr5
      have hwr6 : Ws w6 (.slice (some ⟨w1.heap.size, 0, none⟩) (b.length + 1) (b.length + 1)) r5 := by
        have := hbr6.blk.ws HRO5.out (by rw [HRL5.out]; unfold maxLen; omega)
        rw [HRL5.out] at this
        exact this
      have hr51 : r5.length ≤ 100000000000 := by rw [HRL5.out]; omega
      have hb6 := HB.out.up hup6
      go_wp2_with fail
      refine (ref_cmp hwr6 hb6 hr51 (by omega)).mono ?_
      rintro e w7 ⟨rfl, rfl⟩
      by_cases hge : Wd.val b ≤ Wd.val r5
      · have hcm : 0 ≤ Wd.cmpI (Wd.val r5) (Wd.val b) := by
          rcases Wd.cmpI_cases (Wd.val r5) (Wd.val b) with h | h | h <;> omega
        have HGE := Lib.hid hge
        have hst := Stays.of_old (g := w1.heap.size) HB.out hup6 hs1
        have HN := Lib.hid (Wd.bit_yes H0.out (M := Wd.val a / 2 ^ (k + 1)) (t := t) (by rw [← HAT.out.2, ← HRV5.out]; exact hge) ht1)
        clear hge
        generalize Wd.cmpI (Wd.val r5) (Wd.val b) = cm at *
        go_wp2_with fail
        refine (ref_less5 rfl HRL5.out hbr6 HRO5.out hst (by omega) hr51 HGE.out).mono ?_
        rintro e w8 ⟨rfl, r8, hbr8, okr8, lr8, vr8, on8⟩
        have hbq8 := hbq6.blk.other on8 HNE.out
        have hup8 := on8.up hup6 hs1
        have HRO8 := Lib.hid okr8
        have HRL8 := Lib.hid lr8
        have HRV8 : Hid (Wd.val r8 = Wd.val a / 2 ^ k % Wd.val b) := Lib.hid (by rw [vr8, HRV5.out, HAB.out, HN.out.2, HAT.out.2])
        clear okr8 lr8 vr8
        have hq0 : 0 < q6.length := by rw [HQL6.out]; exact hapos
        have HS := Lib.hid (Wd.val_set hq0 (q6.getD 0 0 + 1))
        have hz : q6.getD 0 0 < 4294967295 := by
          have h1 := HQV6.out
          have h2 := Wd.val_drop q6 0
          rw [List.drop_zero, h1] at h2
          have h3 := Wd.ok_getD HQO6.out 0
          rw [Wd.B_eq] at h2 h3
          omega
        have HQ9 := Lib.hid (Wd.ok_set HQO6.out 0 (x := q6.getD 0 0 + 1) (by rw [Wd.B_eq]; omega))
        have HQV9 : Hid (Wd.val (q6.set 0 (q6.getD 0 0 + 1)) = Wd.val a / 2 ^ k / Wd.val b) := Lib.hid (by
          have h1 := HS.out
          rw [Nat.pow_zero] at h1
          rw [HAB.out, HN.out.1, ← HAT.out.1]
          have h2 := HQV6.out
          omega)
        have hcg := hbq8.cellD hq0
        have hfg := hbq8.free 0
        have HQL9 : Hid ((q6.set 0 (q6.getD 0 0 + 1)).length = a.length) := Lib.hid (by rw [List.length_set]; exact HQL6.out)
        have hbq9 := hbq8.set 0 (q6.getD 0 0 + 1)
        clear HS
        generalize q6.getD 0 0 = z at *
        rw [Int.natCast_add] at hbq9
        go_wp2
        go_roundw
        case rel => exact ⟨k, _, r8, rfl, by omega, HQL9, HQ9, hbq9, HRL8, HRO8, (hbr8.blk).other ((Only.refl _ _).set _ _) (Ne.symm HNE.out), hup8.setCell (Nat.le_refl _) _, Lib.hid ⟨HQV9.out, HRV8.out⟩⟩
        case measure => simp [intOf]
      · have hcm : Wd.cmpI (Wd.val r5) (Wd.val b) < 0 := Wd.cmpI_neg.2 (by omega)
        have HN := Lib.hid (Wd.bit_no H0.out (M := Wd.val a / 2 ^ (k + 1)) (t := t) (by rw [← HAT.out.2, ← HRV5.out]; omega))
        have HF : Hid (DivAt a b q6 r5 k) := Lib.hid ⟨by rw [HQV6.out, HAB.out, HN.out.1, HAT.out.1]; rfl, by rw [HRV5.out, HAB.out, HN.out.2, HAT.out.2]⟩
        clear hge
        generalize Wd.cmpI (Wd.val r5) (Wd.val b) = cm at *
        go_wp2
        go_roundw
        case rel => exact ⟨k, q6, r5, rfl, by omega, HQL6, HQO6, hbq6.blk, HRL5, HRO5, hbr6.blk, hup6, HF⟩
        case measure => simp [intOf]
end Go.Proofs.Ytmmcffceeahemaa
set_option linter.unusedVariables false
set_option linter.unusedSimpArgs false
namespace Go.Proofs.Ytmmcffceeahemaa
open Go.RowKit

theorem zeroCells_one (z : Value) (m : Nat) : (Builtin.zeroCells #[z] m).toList = List.replicate m z := by
  unfold Builtin.zeroCells
  apply List.ext_getElem
  · simp
  · intro i h1 h2
    simp [Nat.mod_one]

theorem run_append_own_zeros {P : Program} (w : World) (base : Nat) (t tn ty e : TypeId) (i : TypeInfo) (z : Value) (kn kq : IntKind) (bytes : Nat) (ht : P.underlying t = some (.slice e)) (htn : P.underlying tn = some (.int kn)) (hi : P.info? e = some i) (hz : i.zero = some z)
    (hsize : i.size = 1) (hby : i.bytes = bytes) (hzs : z.cells = #[z]) (hz1 : z.oneCell' = true)
    (v : Value) (n : Nat) (xs : List Value) (hown : w.ownsRow base e 1 v n xs) (m : Nat)
    (h63 : n + m ≤ maxLen) (hbytes : (n + m) * bytes ≤ 140737488355328) (hbase : base ≤ w.heap.size) :
    ∃ v' w', (Builtin.append_ #[t, tn] ty #[v, .int kq m]).run P w = .ok v' w' ∧ w'.ownsRow base e 1 v' (n + m) (xs ++ List.replicate m z) ∧ w.grownBy w' v.ownBlock := by
  subst hby
  have hsmall : n + m ≤ 9223372036854775807 := by simp only [maxLen] at h63; omega
  have hw : IntKind.i64.wrap (m : Int) = m := by rw [IntKind.wrap_i64]; omega
  have hw0 : IntKind.i64.wrap 0 = 0 := by rw [IntKind.wrap_i64]; rfl
  have hneg : ¬ ((m : Int) < 0) := by omega
  have hmb : m * i.bytes ≤ 140737488355328 := Nat.le_trans (Nat.mul_le_mul_right _ (by omega)) hbytes
  have h48i : ¬ (281474976710656 < (m : Int) * (i.bytes : Int)) := by rw [← Int.natCast_mul]; omega
  have hlen : (xs ++ List.replicate m z).length = (n + m) * 1 := by rw [List.length_append, hown.1, List.length_replicate, Nat.mul_one, Nat.mul_one]
  rcases Nat.eq_zero_or_pos m with hm | hm
  · subst hm
    rcases hown.2 with ⟨rfl, rfl⟩ | ⟨g, cap, cur, rfl, hbg, hg, hnc, hcm, hcs, htake⟩
    · refine ⟨.slice none 0 0, w, ?_, by simpa using hown, ⟨rfl, rfl, rfl, Nat.le_refl _, fun _ _ _ => rfl⟩⟩
      simp [Builtin.append_, run_underlying ht, run_underlying htn, sizeOf, typeInfo, zeroValue, hi, hz, asInt, asIntOf, hsize, hw0]
    · refine ⟨.slice (some ⟨g, 0, none⟩) n cap, w, ?_, by simpa using hown, ⟨rfl, rfl, rfl, Nat.le_refl _, fun _ _ _ => rfl⟩⟩
      simp [Builtin.append_, run_underlying ht, run_underlying htn, sizeOf, typeInfo, zeroValue, hi, hz, asInt, asIntOf, hsize, hnc, storeCells, hw0]
  · have grown : ∀ (old : Nat), old < n + m → ∀ (row : Option Nat),
        (w.drew.alloc (.cells (xs.toArray ++ Builtin.zeroCells z.cells m ++ Builtin.zeroCells z.cells (grownCap w (n + m) old e - (n + m))) e)).ownsRow base e 1
          (.slice (some ⟨w.heap.size, 0, none⟩) (n + m) (grownCap w (n + m) old e)) (n + m) (xs ++ List.replicate m z) ∧
        w.grownBy (w.drew.alloc (.cells (xs.toArray ++ Builtin.zeroCells z.cells m ++ Builtin.zeroCells z.cells (grownCap w (n + m) old e - (n + m))) e)) row := by
      intro old ho row
      have hge := grownCap_ge w (n + m) old e
      have hcm : grownCap w (n + m) old e ≤ maxLen := grownCap_le_maxLen w (n + m) old e h63
      refine ⟨⟨hlen, .inr ⟨w.heap.size, _, _, rfl, hbase, heap_alloc_new w.drew _, hge, hcm, ?_, ?_⟩⟩, ⟨rfl, rfl, rfl, by simp, fun k hk _ => by first | exact heap_alloc_old w.drew _ k hk | exact heap_alloc_old w.drew _ hk⟩⟩
      · have := hown.1
        simp only [Array.size_append, List.size_toArray, size_zeroCells, hzs, List.size_toArray, List.length_singleton]
        simp
        omega
      · simp only [Array.toList_append, List.append_assoc, hzs, zeroCells_one]
        rw [← List.append_assoc, ← hlen]
        exact List.take_left
    rcases hown.2 with ⟨rfl, rfl⟩ | ⟨g, cap, cur, rfl, hbg, hg, hnc, hcm, hcs, htake⟩
    · have hx : xs = [] := List.eq_nil_of_length_eq_zero (by simpa using hown.1)
      subst hx
      have hr := Lib.run_append_nil_zeros (P := P) w t tn ty e i z kq kn ht htn hi hz m hm (by omega) (by omega) (by omega)
      have hgr := grown 0 (by omega) (Value.ownBlock (.slice none 0 0))
      simp only [Nat.zero_add, List.nil_append, Array.empty_append] at hgr ⊢
      exact ⟨_, _, hr, by simpa using hgr.1, by simpa using hgr.2⟩
    · by_cases hroom : n + m ≤ cap
      · have hfit : n + m ≤ cur.size := by rw [hcs, Nat.mul_one]; exact hroom
        have hst := run_storeCells_at P g n e (List.replicate m z) 0 cur w hg (by simpa using hfit) (fun u hu => by rw [List.eq_of_mem_replicate hu]; exact hz1)
        simp only [Nat.add_zero] at hst
        have hmz : m ≠ 0 := by omega
        refine ⟨.slice (some ⟨g, 0, none⟩) (n + m) cap, w.setRow g (cur.toList.take n ++ List.replicate m z ++ cur.toList.drop (n + m)).toArray, ?_, ⟨hlen, .inr ⟨g, cap, _, rfl, hbg, setRow_heap w g cur _ e _ hg, hroom, hcm, ?_, ?_⟩⟩, ⟨rfl, rfl, rfl, by simp, fun k _ hk => setRow_other w g k _ (fun e => hk (by simp [Value.ownBlock, e]))⟩⟩
        · simp [Builtin.append_, run_underlying ht, run_underlying htn, sizeOf, typeInfo, zeroValue, hi, hz, asInt, asIntOf, hw, hneg, h48i, hsize, hmz, hroom, Addr.add_lit, hzs, zeroCells_one, hst]
        · simp only [List.size_toArray, List.length_append, List.length_take, List.length_drop, Array.length_toList, List.length_replicate]
          omega
        · rw [Nat.mul_one] at htake
          rw [htake, ← hlen]
          exact List.take_left
      · have holds : ∀ j u, xs[j]? = some u → w.cell? ((⟨g, 0, none⟩ : Addr).add j) = some u := hown.cells (g := g) rfl
        have hold := run_firstCells_some (P := P) w.drew i.size n ⟨g, 0, none⟩ n cap xs (by rw [hsize]; exact hown.1) (fun j u hu => holds j u hu)
        have hr := Lib.run_append_grow_zeros (P := P) w t tn ty e i z kq kn ht htn hi hz (some ⟨g, 0, none⟩) n cap xs hold m hm (by omega) (by omega) (by omega) (by omega) (growslice_fits (by omega) hbytes)
        have hgr := grown cap (by omega) (Value.ownBlock (.slice (some ⟨g, 0, none⟩) n cap))
        exact ⟨_, _, hr, hgr.1, hgr.2⟩

/-- 'append(v, make([]uint32, m)...)', v a row of the call's own. -/
theorem wl_append_zeros {w0 w : World} {ops : Array Oper} {rest : List Oper} {o : Oper} {a : Act} {Q : Exit → Act → World → Prop} (hgd : o.guard = none) (s x : Operand)
    (ho : o.op = .call { callee := .builtin .append, args := #[s, x], argTypes := #[59, 3] })
    {v : Value} {n : Nat} {xs : List Nat} (hs : a.eval s = v) (hown : w.ownsRow w0.heap.size 150 1 v n (xs.map wv))
    {M : Int} (m : Nat) (hx : a.eval x = .int .i64 M) (hM : M = m) (hb : n + m ≤ 400000000000) (hu : Up w0 w)
    (h : ∀ v' w', w'.ownsRow w0.heap.size 150 1 v' (n + m) ((xs ++ List.replicate m 0).map wv) → Up w0 w' → w.grownBy w' v.ownBlock → wpList Try.prog ops Q rest (a.put o.dst v') w') : wpList Try.prog ops Q (o :: rest) a w := by
  subst hM
  obtain ⟨i0, hi, hz0, hz1, hz2⟩ := info_parts info_u32
  obtain ⟨v', w', hr, h1, h2⟩ := run_append_own_zeros (P := Try.prog) w w0.heap.size 59 3 o.type 150 i0 (.int .u32 0) .i64 .i64 4 Try.underlying59 Try.underlying3 hi hz0 hz1 hz2 rfl rfl v n _ hown m (by unfold maxLen; omega) (by omega) hu.size
  refine Lib.wpList_append_run _ hgd s x _ _ ho _ _ hs hx v' w' hr (h v' w' ?_ ?_ h2)
  · rw [List.map_append, List.map_replicate]; exact h1
  · exact hu.grown h2 (fun k hk => (hown.lt k hk).1)

/-- A block that is newer than a row is kept where the row grows. -/
theorem Blk.beside {w w0 w' : World} {l : List Nat} {base : Nat} {e : TypeId} {v : Value} {n size : Nat} {xs : List Value} (hown : w0.ownsRow base e size v n xs) {g : Nat} (hg : w0.heap.size ≤ g) (hb : Blk w g l) (hgr : w.grownBy w' v.ownBlock) : Blk w' g l :=
  hb.grown hgr (fun h => by have := (hown.lt g h.symm).2; omega)

/-- A guarded operation whose guard lets it through: its guard is struck. -/
theorem wl_struck {P : Program} {w : World} {ops : Array Oper} {rest : List Oper} {o : Oper} {a : Act} {Q : Exit → Act → World → Prop} (hw : Region.wanted o (yielded ops a.tmps) = true) (h : wpList P ops Q ({ o with guard := none } :: rest) a w) : wpList P ops Q (o :: rest) a w := by
  unfold wpList at h ⊢
  rw [if_pos hw]
  rw [if_pos (by simp [Region.wanted])] at h
  exact h
end Go.Proofs.Ytmmcffceeahemaa
set_option linter.unusedVariables false
set_option linter.unusedSimpArgs false
namespace Go.Proofs.Ytmmcffceeahemaa
open Go.RowKit

theorem own_up {w w' : World} {base : Nat} {e : TypeId} {v : Value} {n size : Nat} {xs : List Value} (h : w.ownsRow base e size v n xs) (hu : Up w w') : w'.ownsRow base e size v n xs :=
  own_made h ⟨hu.os, hu.tape, hu.output, hu.size, fun k hk _ => hu.block k hk⟩
theorem words_1' : Wd.words 1 = [1] := words_small (by omega) (by omega)
theorem words_2 : Wd.words 2 = [2] := words_small (by omega) (by omega)
theorem words_3 : Wd.words 3 = [3] := words_small (by omega) (by omega)



theorem word_pad {r : Nat} (h : r < 4294967296) : Wd.words r ++ List.replicate (1 - (Wd.words r).length) 0 = [r] := by
  by_cases h0 : r = 0
  · subst h0; rw [Wd.words_zero]; rfl
  · rw [words_small h0 h]; rfl



end Go.Proofs.Ytmmcffceeahemaa
