/-
  The walks of layer 5: long division, quotients.
-/
import Derived.Test.YtjkkeilmnklpcaaQuot
import Derived.Deep.QuietTactic
import Derived.BigQuiet
set_option linter.unusedVariables false
set_option linter.unusedSimpArgs false
namespace Go.Proofs.Ytjkkeilmnklpcaa
open Go.RowKit

theorem long_guess2 {a b o q : List Nat} {i L : Nat} (hob : Wd.Ok o) (hb : Wd.Ok b) (hn : b.length = L) (hL : 2 ≤ L) (hio : i + L < o.length) (htop : b.getD (L - 1) 0 ≠ 0) (h : Wd.LongAt a b o q (i + 1)) :
    Wd.val (o.drop (i + L + 1)) = 0 ∧ o.getD (i + L) 0 ≤ b.getD (L - 1) 0
    ∧ Wd.val o / Wd.B ^ i / Wd.val b ≤ Wd.guessN (o.getD (i + L) 0) (o.getD (i + L - 1) 0) (o.getD (i + L - 2) 0) (b.getD (L - 1) 0) (b.getD (L - 2) 0)
    ∧ Wd.guessN (o.getD (i + L) 0) (o.getD (i + L - 1) 0) (o.getD (i + L - 2) 0) (b.getD (L - 1) 0) (b.getD (L - 2) 0) ≤ Wd.val o / Wd.B ^ i / Wd.val b + 1 := by
  obtain ⟨n, rfl⟩ : ∃ n, L = n + 2 := ⟨L - 2, by omega⟩
  have := Wd.long_guess hob hb hn hio htop h
  exact this
/-- It was taken, and not too much. -/
theorem long_step_no {a b o p q : List Nat} {i x L : Nat} (hi : i < q.length) (hV : 0 < Wd.val b) (h : Wd.LongAt a b o q (i + 1)) (hx : Wd.val o / Wd.B ^ i / Wd.val b ≤ x) (h1 : Wd.val p + Wd.B ^ i * (x * Wd.val b) = Wd.val o + Wd.B ^ L * 0) : Wd.LongAt a b p (q.set i x) i := by
  rw [Nat.mul_zero, Nat.add_zero] at h1
  exact Wd.longAt_step hi h h1 (Wd.long_no (Nat.pow_pos Wd.B_pos) hV hx h1)
/-- It was too much: one is given back. -/
theorem long_step_yes {a b o p r q : List Nat} {i x j L : Nat} (hi : i < q.length) (hV : 0 < Wd.val b) (h : Wd.LongAt a b o q (i + 1)) (hz : Wd.val (o.drop L) = 0) (hx : x ≤ Wd.val o / Wd.B ^ i / Wd.val b + 1) (okp : Wd.Ok p) (okr : Wd.Ok r)
    (h1 : Wd.val p + Wd.B ^ i * (x * Wd.val b) = Wd.val o + Wd.B ^ L * 1) (h2 : p.drop L = o.drop L) (hj : j ≤ 1) (h3 : Wd.val r + Wd.B ^ L * j = Wd.val p + Wd.B ^ i * Wd.val b) (h4 : r.drop L = p.drop L) : 1 ≤ x ∧ Wd.LongAt a b r (q.set i (x - 1)) i := by
  rw [Nat.mul_one] at h1
  have hp : Wd.val p < Wd.B ^ L := Wd.val_lt_of_drop okp (by rw [h2]; exact hz)
  have hr : Wd.val r < Wd.B ^ L := Wd.val_lt_of_drop okr (by rw [h4, h2]; exact hz)
  obtain ⟨e1, e2, e3⟩ := Wd.long_yes (Nat.pow_pos Wd.B_pos) hV hx h1 hp hj h3 hr
  exact ⟨e1, Wd.longAt_step hi h e2 e3⟩

theorem Blk.other {w w' : World} {g h : Nat} {l : List Nat} (hb : Blk w g l) (k : Only h w w') (hne : g ≠ h) : Blk w' g l := (k.heap hb.lt hne).trans hb

/-- What long division leaves: the quotient, and the rest in place. -/
def RetLong (g : Nat) (rest : List Value) (a b : List Nat) (w : World) (e : Ending) (w' : World) : Prop :=
  ∃ (v : Value) (q r : List Nat), e = .returned v ∧ Ws w' v q ∧ q.length ≤ a.length ∧ BlkR w' g r rest ∧ Wd.Ok r ∧ r.length = a.length ∧ Wd.val q = Wd.val a / Wd.val b ∧ Wd.val r = Wd.val a % Wd.val b ∧ Only g w w'

set_option maxRecDepth 100000 in
set_option maxHeartbeats 3200000 in
theorem quot_long {w : World} {u : Value} {a b : List Nat} {rest : List Value} {g N c L m : Nat} (hL : b.length = L) (hL2 : 2 ≤ L) (hm : a.length = m + L) (hN : a.length = N) (hbig : N ≤ 1000000000) (hb : BlkR w g a rest) (ho : Wd.Ok a) (hs : Stays g w u b) (htop : b.getD (L - 1) 0 ≠ 0) (hlt : Wd.val a < Wd.B ^ m * Wd.val b) :
    Calls Try.prog 147 #[.slice (some ⟨g, 0, none⟩) N c, u] w (RetLong g rest a b w) := by
  have hV : 0 < Wd.val b := by
    rcases Nat.eq_zero_or_pos (Wd.val b) with h | h
    · rw [h, Nat.mul_zero] at hlt; omega
    · exact h
  have HS0 := Lib.hid hs
  have hg := hb.lt
  have hmN : N = m + L := by omega
  obtain ⟨A, d, rfl, okb, hr⟩ := hs.open_
  have OB := Lib.hid okb
  have HO := Lib.hid ho
  have HR := Lib.hid hr
  have HV := Lib.hid hV
  have HTOP := Lib.hid htop
  have HAL := Lib.hid hN
  have HBL := Lib.hid hL
  have HLT := Lib.hid hlt
  rw [hL] at HS0 ⊢
  have hN2 : m ≤ N := by omega
  have hN3 : L ≤ N := by omega
  have HMN : Hid ((N : Int) - (L : Int) = (m : Int)) := Lib.hid (by omega)
  have HNM := Lib.hid hmN
  have hmb : m ≤ 1000000000 := by omega
  clear okb ho hr hs hV htop hN hL hlt hm hmN
  go_enter Try.func147, Try.ntmps147
  go_wp2_with (at_make; go_loud (refine wl_make rfl _ _ rfl m rfl rfl HMN.out ?_ ?_))
  · omega
  intro w1 hb1 hu1
  have HZ : Hid ((List.replicate m 0).length = m) := Lib.hid (by rw [List.length_replicate])
  have HZO := Lib.hid (Wd.ok_replicate m)
  have HM := Lib.hid (Wd.longAt_zero HLT.out)
  generalize List.replicate m 0 = o1 at hb1 HZ HZO HM
  have hbw := hb.up hu1
  have hon := Only.of_up (g := g) hu1
  have HG : Hid (w.heap.size ≠ g) := Lib.hid (by omega)
  go_wp2_with fail
  go_loopw [7, 8] (fun s7 s8 wr => ∃ (k : Nat) (o q : List Nat), s7 = .int .i64 ((k : Int) - 1) ∧ k ≤ m ∧ Hid (o.length = N) ∧ Hid (Wd.Ok o) ∧ BlkR wr g o rest ∧ Hid (q.length = m) ∧ Hid (Wd.Ok q) ∧ Blk wr w.heap.size q ∧ Only g w wr ∧ Hid (Wd.LongAt a b o q k)) (fun s7 _ _ => (intOf s7 + 1).toNat)
  case atStart => exact ⟨m, a, o1, rfl, Nat.le_refl _, HAL, HO, hbw, HZ, HZO, hb1, hon, HM⟩
  case round =>
    obtain ⟨k, o, q, rfl, hk, HOL, HOO, hbl, HQL, HQO, hbq, hon, HAT⟩ := hrel
    match k, hk, HAT with
    | 0, hk, HAT =>
      have HE := Lib.hid (Wd.longAt_end HAT.out)
      have hwn : Ws wr (.slice (some ⟨w.heap.size, 0, none⟩) m m) q := by
        have := hbq.ws HQO.out (by rw [HQL.out]; unfold maxLen; omega)
        rw [HQL.out] at this
        exact this
      go_wp2
      go_ret
      exact ⟨_, q, o, rfl, hwn, by rw [HQL.out, HAL.out]; exact hN2, hbl, HOO.out, by rw [HOL.out, HAL.out], HE.out.1, HE.out.2, hon⟩
    | k + 1, hk, HAT =>
      have ei : ((k + 1 : Nat) : Int) - 1 = k := by omega
      rw [ei]
      clear ei
      have hkm : k < m := hk
      have hkl : k + L < N := by have := HNM.out; omega
      have hko : k + L < o.length := by rw [HOL.out]; exact hkl
      have HF := Lib.hid (long_guess2 HOO.out OB.out HBL.out hL2 hko HTOP.out HAT.out)
      have h2 := Wd.ok_getD HOO.out (k + L)
      have h1 := Wd.ok_getD HOO.out (k + L - 1)
      have h0 := Wd.ok_getD HOO.out (k + L - 2)
      have i1 := Wd.ok_getD OB.out (L - 1)
      have i0 := Wd.ok_getD OB.out (L - 2)
      have hcg2 := hbl.cellD (i := k + L) hko
      have hcg1 := hbl.cellD (i := k + L - 1) (by omega)
      have hcg0 := hbl.cellD (i := k + L - 2) (by omega)
      obtain ⟨b1, o1, rfl, hb1, hc1⟩ := rd_word_D (HR.out wr hon) (k := L - 1) (by rw [HBL.out]; omega)
      obtain ⟨b2, o2, e2, hb2, hc0⟩ := rd_word_D (HR.out wr hon) (k := L - 2) (by rw [HBL.out]; omega)
      simp at e2
      obtain ⟨rfl, rfl⟩ := e2
      have hle := HF.out.2.1
      have htp : 0 < b.getD (L - 1) 0 := Nat.pos_of_ne_zero HTOP.out
      have HQ := Lib.hid (And.intro HF.out.1 HF.out.2.2)
      clear HF
      generalize o.getD (k + L) 0 = a2 at *
      generalize o.getD (k + L - 1) 0 = a1 at *
      generalize o.getD (k + L - 2) 0 = a0 at *
      generalize b.getD (L - 1) 0 = b1 at *
      generalize b.getD (L - 2) 0 = b0 at *
      go_wp2
      have e1 : IntKind.i64.wrap ((k : Int) + (L : Int)) = (k : Int) + (L : Int) := by rw [IntKind.wrap_i64]; omega
      have e2 : IntKind.i64.wrap ((k : Int) + (L : Int) - 1) = (k : Int) + (L : Int) - 1 := by rw [IntKind.wrap_i64]; omega
      have e3 : IntKind.i64.wrap ((k : Int) + (L : Int) - 2) = (k : Int) + (L : Int) - 2 := by rw [IntKind.wrap_i64]; omega
      have e4 : IntKind.i64.wrap ((L : Int) - 1) = (L : Int) - 1 := by rw [IntKind.wrap_i64]; omega
      have e5 : IntKind.i64.wrap ((L : Int) - 2) = (L : Int) - 2 := by rw [IntKind.wrap_i64]; omega
      have n1 : ((k : Int) + (L : Int)).toNat = k + L := by omega
      have n2 : ((k : Int) + (L : Int) - 1).toNat = k + L - 1 := by omega
      have n3 : ((k : Int) + (L : Int) - 2).toNat = k + L - 2 := by omega
      have n4 : ((L : Int) - 1).toNat = L - 1 := by omega
      have n5 : ((L : Int) - 2).toNat = L - 2 := by omega
      have p1 : (0 : Int) ≤ (k : Int) + (L : Int) := by omega
      have p2 : (0 : Int) ≤ (k : Int) + (L : Int) - 1 := by omega
      have p3 : (0 : Int) ≤ (k : Int) + (L : Int) - 2 := by omega
      have p4 : (0 : Int) ≤ (L : Int) - 1 := by omega
      have p5 : (0 : Int) ≤ (L : Int) - 2 := by omega
      have q1 : (k : Int) + (L : Int) < (N : Int) := by omega
      have q2 : (k : Int) + (L : Int) - 1 < (N : Int) := by omega
      have q3 : (k : Int) + (L : Int) - 2 < (N : Int) := by omega
      have q4 : (L : Int) - 1 < (L : Int) := by omega
      have q5 : (L : Int) - 2 < (L : Int) := by omega
      go_quiet ((go_at_call 154; exact Calls.quiet_of (quot_guess a2 a1 a0 b1 b0 rfl rfl rfl rfl rfl h2 h1 h0 i1 i0 hle htp)))
      clear e1 e2 e3 e4 e5 n1 n2 n3 n4 n5 p1 p2 p3 p4 p5 q1 q2 q3 q4 q5 hcg2 hcg1 hcg0 hc1 hc0
      have hx := Wd.guess_lt a2 a1 a0 b1 b0
      generalize Wd.guessN a2 a1 a0 b1 b0 = x at *
      have hon2 := hon.drewN nq
      have hbl2 := hbl.drewN nq
      have hbq2 := hbq.drewN nq
      generalize wr.drewN nq = w2 at *
      have hst := HS0.out.only hon2
      have hkbl : k + b.length < o.length := by rw [HBL.out]; exact hko
      have HKQ : Hid (k < q.length) := Lib.hid (by rw [HQL.out]; exact hkm)
      have hNb : o.length ≤ 1000000000 := by rw [HOL.out]; exact hbig
      go_wp2_with fail
      refine (quot_take k x rfl rfl hx HOL.out hbl2 HOO.out hst hkbl hNb).mono ?_
      intro e w3 hret
      rcases hret with ⟨rfl, p, hbp, okp, hpl, hv, hd, hon3⟩ | ⟨rfl, p, hbp, okp, hpl, hv, hd, hon3⟩
      · have HN := Lib.hid (long_step_no HKQ.out HV.out HAT.out HQ.out.2.1 hv)
        have hbq3 := hbq2.other hon3 HG.out
        have g3 := hon2.trans hon3
        have HP := Lib.hid okp
        have HPL : Hid (p.length = N) := Lib.hid (by rw [hpl]; exact HOL.out)
        have HQO2 := Lib.hid (Wd.ok_set HQO.out k hx)
        have HQL2 : Hid ((q.set k x).length = m) := Lib.hid (by rw [List.length_set]; exact HQL.out)
        have hcg := hbq3.cellD HKQ.out
        have hfg := hbq3.free k
        have hbq4 := hbq3.set k x
        clear hpl hv hd okp hst hkbl
        generalize q.getD k 0 = z at *
        go_wp2
        go_roundw
        case rel => exact ⟨k, p, _, rfl, by omega, HPL, HP, hbp.other ((Only.refl _ _).set _ _) (Ne.symm HG.out), HQL2, HQO2, hbq4, g3.set_new (Nat.le_refl _) _ _, HN⟩
        case measure => simp [intOf]
      · have g3 := hon2.trans hon3
        have hst3 := HS0.out.only g3
        have hbq3 := hbq2.other hon3 HG.out
        have hkpl : k + b.length < p.length := by rw [hpl]; exact hkbl
        have hpn : p.length ≤ 1000000000 := by rw [hpl]; exact hNb
        have HPN : Hid (p.length = N) := Lib.hid (by rw [hpl]; exact HOL.out)
        have HV1 := Lib.hid (And.intro hv hd)
        have HP := Lib.hid okp
        have hz0 := HQ.out.1
        rw [← HBL.out] at hz0
        have HZ0 := Lib.hid hz0
        have hx1 : 1 ≤ x := by
          rcases Nat.eq_zero_or_pos x with h | h
          · exfalso
            have e := HV1.out.1
            rw [h, Nat.zero_mul, Nat.mul_zero, Nat.add_zero, Nat.mul_one] at e
            have := Wd.val_lt_of_drop HP.out (k := k + b.length + 1) (by rw [HV1.out.2]; exact HZ0.out)
            omega
          · exact h
        have hx4 : x < 4294967296 := by rw [← Wd.B_eq]; exact hx
        clear hpl hv hd okp hst hkbl hz0
        go_wp2_with fail
        refine (quot_give k rfl HPN.out hbp HP.out hst3 hkpl hpn).mono ?_
        rintro e w4 ⟨rfl, r, j, hj, hbr, okr, hrl, hv, hd, hon4⟩
        have HN := Lib.hid (long_step_yes HKQ.out HV.out HAT.out HZ0.out HQ.out.2.2 HP.out okr HV1.out.1 HV1.out.2 hj hv hd).2
        have g4 := g3.trans hon4
        have hbq4 := hbq3.other hon4 HG.out
        have HR2 := Lib.hid okr
        have HRL : Hid (r.length = N) := Lib.hid (by rw [hrl]; exact HPN.out)
        have HQO2 := Lib.hid (Wd.ok_set HQO.out k (x := x - 1) (by omega))
        have HQL2 : Hid ((q.set k (x - 1)).length = m) := Lib.hid (by rw [List.length_set]; exact HQL.out)
        have hcg := hbq4.cellD HKQ.out
        have hfg := hbq4.free k
        have hbq5 := hbq4.set k (x - 1)
        have hcast : ((x - 1 : Nat) : Int) = (x : Int) - 1 := by omega
        rw [hcast] at hbq5
        clear hrl hv hd okr hkpl hj hcast hon4
        generalize q.getD k 0 = z at *
        go_wp2
        go_roundw
        case rel => exact ⟨k, r, _, rfl, by omega, HRL, HR2, hbr.other ((Only.refl _ _).set _ _) (Ne.symm HG.out), HQL2, HQO2, hbq5, g4.set_new (Nat.le_refl _) _ _, HN⟩
        case measure => simp [intOf]
end Go.Proofs.Ytjkkeilmnklpcaa
