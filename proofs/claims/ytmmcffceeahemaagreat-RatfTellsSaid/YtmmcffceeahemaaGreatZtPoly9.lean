/-
  Layer 14: division.
-/
import Derived.Test.YtmmcffceeahemaaGreatZtPoly8
import Derived.Test.YtmmcffceeahemaaGreatZtShort
set_option linter.unusedVariables false
set_option linter.unusedSimpArgs false
namespace Go.Proofs.YtmmcffceeahemaaGreat
open Go.RowKit
theorem Up.keeps {w w' : World} (hu : Up w w') {p : Addr} {v : Value} (h : w.cell? p = some v) : w'.cell? p = some v := (hu.cell (World.block_lt_of_cell? w _ h)).trans h
/-- A row that is not the one that is laid anew. -/
theorem ORow.other {k : Nat} {w0 w w' : World} {g n c g2 : Nat} {qs : List Rat} (h : ORow k w0 w (.slice (some ⟨g, 0, none⟩) n c) qs) (hk : Kw w w') (hg : w.grownBy w' (some g2)) (hne : g ≠ g2) : ORow k w0 w' (.slice (some ⟨g, 0, none⟩) n c) qs :=
 OwnQ.kept (kp_fr k) h hk hg (.inr (by simpa [Value.ownBlock] using hne))
theorem ORow.store2 {K : Nat} {w0 w : World} {g n c : Nat} {qs : List Rat} (h : ORow K w0 w (.slice (some ⟨g, 0, none⟩) n c) qs) (hu : Up w0 w) {k : Nat} (hk : k < qs.length) {s : Bool} {u d : Value} {q : Rat} (hq : Fr w (.agg #[.bool s, u, d]) q K) :
 ORow K w0 (((w.setCell ⟨g, k * 3, none⟩ (.bool s)).setCell ⟨g, k * 3 + 1, none⟩ u).setCell ⟨g, k * 3 + 2, none⟩ d) (.slice (some ⟨g, 0, none⟩) n c) (qs.set k q) ∧ Kw w (((w.setCell ⟨g, k * 3, none⟩ (.bool s)).setCell ⟨g, k * 3 + 1, none⟩ u).setCell ⟨g, k * 3 + 2, none⟩ d) ∧
  w.grownBy (((w.setCell ⟨g, k * 3, none⟩ (.bool s)).setCell ⟨g, k * 3 + 1, none⟩ u).setCell ⟨g, k * 3 + 2, none⟩ d) (some g) ∧ Up w0 (((w.setCell ⟨g, k * 3, none⟩ (.bool s)).setCell ⟨g, k * 3 + 1, none⟩ u).setCell ⟨g, k * 3 + 2, none⟩ d) := OwnQ.store (kp_fr K) h hu hk hq
theorem PRow.o {j k : Nat} {w0 w : World} {v : Value} {qs : List Rat} (h : PRow j w0 w v qs) (hq : ∀ q ∈ qs, Wd.Lq q k) : ORow k w0 w v qs := OwnQ.imp (h.re hq) fun hx => hx.1.fr hx.2
theorem ORow.weaken {k : Nat} {w0 w1 w : World} {v : Value} {qs : List Rat} (h : ORow k w1 w v qs) (hu : Up w0 w1) : ORow k w0 w v qs := OwnQ.weaken h hu.size
/-- What comes back: quotient, rest, was there a divisor? -/
def RetD (K : Nat) (ps qs : List Rat) (w : World) (e : Ending) (w' : World) : Prop := ∃ V R, e = .returned (.tuple #[V, R, .bool (!decide (Pq.nm qs = []))]) ∧ PRow K w w' V (Pq.dq ps qs) ∧ PRow K w w' R (Pq.dr ps qs) ∧ Up w w'
theorem wl_make_o {w0 w : World} {k : Nat} (hk : 1 ≤ k) {ops : Array Oper} {rest : List Oper} {o : Oper} {a : Act} {Q : Exit → Act → World → Prop}
 (hg : o.guard = none) (lo co : Operand) (hop : o.op = Op.makeSlice 49 lo co) (n : Nat) {L : Int} (hl : a.eval lo = .int .i64 L) (hc : a.eval co = .int .i64 L) (hL : L = (n : Int)) (hn : n ≤ 4000000) (hu : Up w0 w)
 (hK : ∀ w', ORow k w0 w' (.slice (some ⟨w.heap.size, 0, none⟩) n n) (List.replicate n 0) → Up w w' → wpList Tryz.prog ops Q rest (a.put o.dst (.slice (some ⟨w.heap.size, 0, none⟩) n n)) w') :
 wpList Tryz.prog ops Q (o :: rest) a w := wl_make_q (w0 := w0) (P := Frk k) (frk_zero hk) hg lo co hop n hl hc hL (by omega) hu hK
set_option maxRecDepth 100000 in
set_option maxHeartbeats 6400000 in
theorem poly_div {v u : Value} {ps qs : List Rat} {ka kb j k K : Nat} {w : World} (h : FSq ka w v ps) (h2 : FSq kb w u qs) (hl : ps.length ≤ 10000) (hl2 : qs.length ≤ 10000) (LP : Pq.Lp ps j) (LQ : Pq.Lp qs k) (hK : j + k + (ps.length + 1) * (k + 1) ≤ K) (hka : ka ≤ 4000000) (hkb : kb ≤ 4000000) (hK4 : K ≤ 4000000) :
 Calls Tryz.prog 43 #[v, u] w (RetD (K + 2) ps qs w) := by
 have LSZ := Lib.hid (Pq.dqr_size LP LQ)
 have hj := LP.one_le
 have hk := LQ.one_le
 obtain ⟨A, cp, rfl⟩ := h.form
 obtain ⟨B, cq, rfl⟩ := h2.form
 have H1 := Lib.hid h
 have hlp := Lib.hid (Pq.nm_len ps)
 have hlq := Lib.hid (Pq.nm_len qs)
 have LPN := Lib.hid LP.nm
 have LQN := Lib.hid LQ.nm
 have hm9 : Hid ((Pq.nm ps).length + 1 ≤ ps.length + 1) := Lib.hid (by have := hlp.out; omega)
 go_enter Tryz.func43, Tryz.ntmps43
 go_wp2_with fail
 refine (poly_norm h2.sq (by omega) (by omega)).mono ?_
 rintro e w1 ⟨V1, rfl, R1, u1⟩
 have HB := Lib.hid (R1.re (k := k) LQ.nm.lq).fs
 have hbl : (Pq.nm qs).length ≤ 10000 := Nat.le_trans hlq.out hl2
 obtain ⟨A1, c1, rfl⟩ := R1.form
 clear R1 h2
 have HU1 := Lib.hid u1
 by_cases hb0 : Pq.nm qs = []
 · have e0 : (Pq.nm qs).length = 0 := by rw [hb0]; rfl
   have HD : Hid (Pq.dq ps qs = [] ∧ Pq.dr ps qs = []) := Lib.hid (by unfold Pq.dq Pq.dr; rw [if_pos hb0, if_pos hb0]; exact ⟨rfl, rfl⟩)
   have HF : Hid (false = !decide (Pq.nm qs = [])) := Lib.hid (by rw [decide_eq_true hb0]; rfl)
   clear hb0
   go_wp2
   go_ret3
   exact ⟨_, _, by rw [← HF.out]; rfl, by rw [HD.out.1]; exact OwnQ.nil _ _ _ _, by rw [HD.out.2]; exact OwnQ.nil _ _ _ _, u1⟩
 have hb1 : 1 ≤ (Pq.nm qs).length := List.length_pos_iff.2 hb0
 have HT : Hid (true = !decide (Pq.nm qs = [])) := Lib.hid (by rw [decide_eq_false hb0]; rfl)
 have HNE := Lib.hid hb0
 have RD : Hid (∀ V R w', PRow (K + 2) w w' V (Pq.dq ps qs) → PRow (K + 2) w w' R (Pq.dr ps qs) → Up w w' → RetD (K + 2) ps qs w (.returned (.tuple #[V, R, .bool true])) w') := Lib.hid (fun V R w' h1 h2 h3 => ⟨V, R, by rw [← HT.out], h1, h2, h3⟩)
 clear hb0
 go_wp2_with fail
 refine (poly_norm (H1.out.up u1).sq (by omega) (by omega)).mono ?_
 rintro e w2 ⟨V2, rfl, R2, u2⟩
 have R0 := R2.o (k := K) (fun q hq => (LPN.out.lq q hq).mono (by omega))
 have hal : (Pq.nm ps).length ≤ 10000 := Nat.le_trans hlp.out hl
 obtain ⟨A2, c2, rfl⟩ := R2.form
 by_cases hlt : (Pq.nm ps).length < (Pq.nm qs).length
 · have HD : Hid (Pq.dq ps qs = [] ∧ Pq.dr ps qs = Pq.nm ps) := Lib.hid (by unfold Pq.dq Pq.dr; rw [if_neg HNE.out, if_neg HNE.out, if_pos hlt, if_pos hlt]; exact ⟨rfl, rfl⟩)
   have HR := Lib.hid ((R2.re (k := K + 2) (fun q hq => (LPN.out.lq q hq).mono (by omega))).weaken u1)
   clear R0 R2
   go_wp2
   go_ret3
   exact RD.out _ _ _ (by rw [HD.out.1]; exact OwnQ.nil _ _ _ _) (by rw [HD.out.2]; exact HR.out) (u1.trans u2)
 have hle : (Pq.nm qs).length ≤ (Pq.nm ps).length := Nat.le_of_not_lt hlt
 have HD : Hid (Pq.dq ps qs = Pq.nm (Pq.qt (Pq.nm ps) (Pq.nm qs)) ∧ Pq.dr ps qs = Pq.nm (Pq.rm (Pq.nm ps) (Pq.nm qs))) := Lib.hid (by unfold Pq.dq Pq.dr; rw [if_neg HNE.out, if_neg HNE.out, if_neg hlt, if_neg hlt]; exact ⟨rfl, rfl⟩)
 clear R2
 have SM := Lib.hid (Pq.div_small (K := K) LPN.out LQN.out (Pq.tr_nm qs) HNE.out (Nat.le_trans (Nat.add_le_add_left (Nat.mul_le_mul_right _ hm9.out) _) hK) hle)
 have ST := Lib.hid (fun m (hm : m ≤ (Pq.nm ps).length - (Pq.nm qs).length) => Pq.dst_step hm hb1 hle)
 have SL := Lib.hid (Pq.dst_len (Pq.nm ps) (Pq.nm qs))
 have HQR : Hid (Pq.qt (Pq.nm ps) (Pq.nm qs) = (Pq.dst (Pq.nm ps) (Pq.nm qs) ((Pq.nm ps).length - (Pq.nm qs).length + 1)).2 ∧ Pq.rm (Pq.nm ps) (Pq.nm qs) = (Pq.dst (Pq.nm ps) (Pq.nm qs) ((Pq.nm ps).length - (Pq.nm qs).length + 1)).1) := Lib.hid ⟨rfl, rfl⟩
 have SZ : Hid (Pq.dst (Pq.nm ps) (Pq.nm qs) 0 = (Pq.nm ps, List.replicate ((Pq.nm ps).length - (Pq.nm qs).length + 1) 0)) := Lib.hid rfl
 have BTOP := Lib.hid (fun i (hi : i < (Pq.nm qs).length) => Pq.getD_at hi)
 have LQB := Lib.hid LQN.out.lq
 clear LPN LQN hm9 hlp hlq LP LQ hlt
 generalize Pq.nm ps = a at *
 generalize Pq.nm qs = b at *
 obtain ⟨d, HDD⟩ : ∃ d, Hid (a.length - b.length = d) := ⟨_, Lib.hid rfl⟩
 rw [HDD.out] at SM ST SL HQR SZ
 have hd : d + b.length = a.length := by have := HDD.out; omega
 go_wp2_with (at_make; go_loud (refine wl_make_o (w0 := w1) (k := K) (by omega) rfl _ _ rfl (d + 1) rfl rfl (by omega) (by omega) u2 ?_))
 intro w3 Q0 u3
 have hg2 := u2.size
 obtain ⟨gq, HGQ⟩ : ∃ g, Hid (w2.heap.size = g) := ⟨_, Lib.hid rfl⟩
 have RP := R0.place (by omega)
 obtain ⟨gr, e8, hg0, hgw⟩ := RP
 subst e8
 rw [HGQ.out] at Q0 hgw ⊢
 have HRR := Lib.hid (R0.up u3)
 have HQ0 := Lib.hid Q0
 have HU3 := Lib.hid (u2.trans u3)
 clear R0 Q0 u2 u3
 go_wp2_with fail
 go_loopw [8, 9, 10] (fun s8 _ _ wr => ∃ m : Nat, s8 = .int .i64 ((m : Int) - 1) ∧ m ≤ d + 1 ∧ ORow K w1 wr (.slice (some ⟨gr, 0, none⟩) a.length c2) (Pq.dst a b (d + 1 - m)).1 ∧ ORow K w1 wr (.slice (some ⟨gq, 0, none⟩) (d + 1) (d + 1)) (Pq.dst a b (d + 1 - m)).2 ∧ Up w1 wr) (fun s8 _ _ _ => (intOf s8 + 1).toNat)
 case atStart => exact ⟨d + 1, by first | rfl | go_num | (congr 1; omega), Nat.le_refl _, by rw [Nat.sub_self, SZ.out]; exact HRR.out, by rw [Nat.sub_self, SZ.out]; exact HQ0.out, HU3.out⟩
 case round =>
  clear HRR HQ0 HU3
  obtain ⟨m, rfl, hm, MR, MQ, UP⟩ := hrel
  cases m with
  | zero =>
    rw [Nat.sub_zero, ← HQR.out.2] at MR
    rw [Nat.sub_zero, ← HQR.out.1] at MQ
    have HLR : Hid ((Pq.rm a b).length ≤ 10000) := Lib.hid (by rw [HQR.out.2, (SL.out _).1]; exact hal)
    have HLQ : Hid ((Pq.qt a b).length ≤ 10000) := Lib.hid (by rw [HQR.out.1, (SL.out _).2]; omega)
    have HMR := Lib.hid MR
    have HMQ := Lib.hid MQ
    have HUP := Lib.hid UP
    clear MR MQ UP
    go_wp2_with fail
    refine (poly_norm (qs := Pq.qt a b) HMQ.out.fs.sq (Nat.le_trans HLQ.out (by omega)) (by omega)).mono ?_
    rintro e w8 ⟨V8, rfl, R8, u8⟩
    rw [← HD.out.1] at R8
    obtain ⟨A8, c8, rfl⟩ := R8.form
    go_wp2_with fail
    refine (poly_norm (qs := Pq.rm a b) (HMR.out.up u8).fs.sq (Nat.le_trans HLR.out (by omega)) (by omega)).mono ?_
    rintro e w9 ⟨V9, rfl, R9, u9⟩
    rw [← HD.out.2] at R9
    obtain ⟨A9, c9, rfl⟩ := R9.form
    have F8 := Lib.hid ((R8.up u9).weaken (HU1.out.trans HUP.out))
    have F9 := Lib.hid (R9.weaken ((HU1.out.trans HUP.out).trans u8))
    have FU := Lib.hid (((HU1.out.trans HUP.out).trans u8).trans u9)
    clear R8 R9 u8 u9
    go_wp2
    go_ret3
    exact RD.out _ _ _ F8.out F9.out FU.out
  | succ m =>
    have hmd : m ≤ d := by omega
    have SMx := SM.out m hmd
    have STx := ST.out m hmd
    have SLx := SL.out (d + 1 - (m + 1))
    generalize Pq.dc a b (Pq.dst a b (d + 1 - (m + 1))).1 (d + 1 - (m + 1)) = c at SMx STx
    generalize (Pq.dst a b (d + 1 - (m + 1))).1 = R1 at *
    generalize (Pq.dst a b (d + 1 - (m + 1))).2 = Q1 at *
    have SM1 := Lib.hid SMx.1
    have SM2 := Lib.hid SMx.2.1
    have SM3 := Lib.hid SMx.2.2
    have ST1 := Lib.hid STx.1
    have ST2 := Lib.hid STx.2.1
    have ST3 := Lib.hid STx.2.2
    have SL1 := Lib.hid SLx.1
    have SL2 := Lib.hid SLx.2
    clear SMx STx SLx
    obtain ⟨t1, HT1⟩ : ∃ t, Hid (m + b.length = t + 1) := ⟨m + b.length - 1, Lib.hid (by omega)⟩
    obtain ⟨t2, HT2⟩ : ∃ t, Hid (b.length = t + 1) := ⟨b.length - 1, Lib.hid (by omega)⟩
    have HP1 : Hid (t1 < R1.length) := Lib.hid (by rw [SL1.out]; have := HT1.out; omega)
    have HP2 : Hid (t2 < b.length) := Lib.hid (by have := HT2.out; omega)
    have HPQ : Hid (m < Q1.length) := Lib.hid (by rw [SL2.out]; omega)
    obtain ⟨bb, ob, s2, B2, m2, f2, D2, n2', f2', e0, hbb, h1', h2', h3', FB⟩ := HB.out.sq.at_ (kp_fr k) HP2.out
    subst e0
    have FB : Fr w1 (.agg #[.bool s2, .slice B2 m2 f2, .slice D2 n2' f2']) (b[t2]'HP2.out) k := FB
    have g1' := (UP.cell (p := ⟨bb, ob + t2 * 3, none⟩) hbb).trans h1'
    have g2' := (UP.cell (p := ⟨bb, ob + t2 * 3 + 1, none⟩) hbb).trans h2'
    have g3' := (UP.cell (p := ⟨bb, ob + t2 * 3 + 2, none⟩) hbb).trans h3'
    clear h1' h2' h3'
    replace FB := FB.up UP
    obtain ⟨_, s1, B1, m1, f1, D1, n1, f1', e9, _, _, o1, o2, o3, FO, _⟩ := MR.at_ HP1.out
    cases e9
    have HC : Hid ((R1[t1]'HP1.out) / (b[t2]'HP2.out) = c) := Lib.hid (by
     rw [ST3.out]
     have e1 := HT1.out
     have e2 := HT2.out
     rw [show m + b.length - 1 = t1 by omega, show b.length - 1 = t2 by omega, Pq.getD_at HP1.out, Pq.getD_at HP2.out])
    have LR1 := SM1.out _ (List.getElem_mem HP1.out)
    generalize R1[t1]'HP1.out = z1 at *
    generalize b[t2]'HP2.out = z2 at *
    have k1 : IntKind.i64.wrap ((m : Int) + (b.length : Int)) = (t1 : Int) + 1 := by have := HT1.out; rw [IntKind.wrap_i64]; omega
    have k2 : IntKind.i64.wrap (t1 : Int) = (t1 : Int) := by have := HT1.out; rw [IntKind.wrap_i64]; omega
    have k3 : IntKind.i64.wrap ((b.length : Int) - 1) = (t2 : Int) := by have := HT2.out; rw [IntKind.wrap_i64]; omega
    have k4 : (t1 : Int) < (a.length : Int) := by have := HP1.out; rw [SL1.out] at this; omega
    have k5 : (t2 : Int) < (b.length : Int) := by have := HP2.out; omega
    have k6 : (m : Int) < (d : Int) + 1 := by omega
    have k7 : (0 : Int) ≤ (m : Int) := by omega
    go_wp2_with fail
    refine li5 (Up.refl wr).drew MR MQ FO FB UP ?_; clear MR MQ FO FB UP; intro MR MQ FO FB UP
    have HS0 : Hid ((wr.drew.cell? ⟨gr, t1 * 3, none⟩ = some (.bool s1) ∧ wr.drew.cell? ⟨gr, t1 * 3 + 1, none⟩ = some (.slice B1 m1 f1) ∧ wr.drew.cell? ⟨gr, t1 * 3 + 2, none⟩ = some (.slice D1 n1 f1')) ∧ wr.drew.cell? ⟨bb, ob + t2 * 3, none⟩ = some (.bool s2) ∧ wr.drew.cell? ⟨bb, ob + t2 * 3 + 1, none⟩ = some (.slice B2 m2 f2) ∧ wr.drew.cell? ⟨bb, ob + t2 * 3 + 2, none⟩ = some (.slice D2 n2' f2')) := Lib.hid ⟨⟨o1, o2, o3⟩, g1', g2', g3'⟩
    clear o1 o2 o3 g1' g2' g3'
    refine wp_region_noPanic ?_
    refine wp_region_held_drew (S := fun w' => (w'.cell? ⟨gr, t1 * 3, none⟩ = some (.bool s1) ∧ w'.cell? ⟨gr, t1 * 3 + 1, none⟩ = some (.slice B1 m1 f1) ∧ w'.cell? ⟨gr, t1 * 3 + 2, none⟩ = some (.slice D1 n1 f1')) ∧ w'.cell? ⟨bb, ob + t2 * 3, none⟩ = some (.bool s2) ∧ w'.cell? ⟨bb, ob + t2 * 3 + 1, none⟩ = some (.slice B2 m2 f2) ∧ w'.cell? ⟨bb, ob + t2 * 3 + 2, none⟩ = some (.slice D2 n2' f2')) (by kernel_rfl) (by exact HS0.out) (fun hHeld => ?_)
    generalize wr.drew = W0 at *
    refine tk 0 ?_
    try simp only [gs, Act.put]
    refine tk 1 ?_
    try simp only [gs, Act.put]
    refine tk 2 ?_
    try simp only [gs, Act.put]
    refine tk 3 ?_
    try simp only [gs, Act.put]
    refine tk 4 ?_
    try simp only [gs, Act.put]
    refine tk 5 ?_
    try simp only [gs, Act.put]
    refine tk 6 ?_
    try simp only [gs, Act.put]
    refine tk 7 ?_
    try simp only [gs, Act.put]
    refine tk 8 ?_
    try simp only [gs, Act.put]
    refine tk 9 ?_
    try simp only [gs, Act.put]
    refine tk 10 ?_
    try simp only [gs, Act.put]
    refine tk 11 ?_
    try simp only [gs, Act.put]
    refine tk 12 ?_
    try simp only [gs, Act.put]
    refine tk 13 ?_
    try simp only [gs, Act.put]
    refine rd 14 (fun K hK => ?_)
    clear hHeld
    go_simp
    go_at_call 116
    refine (frac_quo FO FB (by omega) (by omega)).mono ?_
    rintro e W2 ⟨V2, rfl, y, u2⟩
    have HS2 : Hid ((W2.cell? ⟨gr, t1 * 3, none⟩ = some (.bool s1) ∧ W2.cell? ⟨gr, t1 * 3 + 1, none⟩ = some (.slice B1 m1 f1) ∧ W2.cell? ⟨gr, t1 * 3 + 2, none⟩ = some (.slice D1 n1 f1')) ∧ W2.cell? ⟨bb, ob + t2 * 3, none⟩ = some (.bool s2) ∧ W2.cell? ⟨bb, ob + t2 * 3 + 1, none⟩ = some (.slice B2 m2 f2) ∧ W2.cell? ⟨bb, ob + t2 * 3 + 2, none⟩ = some (.slice D2 n2' f2')) := Lib.hid ⟨⟨u2.keeps HS0.out.1.1, u2.keeps HS0.out.1.2.1, u2.keeps HS0.out.1.2.2⟩, u2.keeps HS0.out.2.1, u2.keeps HS0.out.2.2.1, u2.keeps HS0.out.2.2.2⟩
    refine li3 u2 MR MQ UP ?_; clear MR MQ UP; intro MR MQ UP
    clear u2 FO FB HS0
    rw [HC.out] at y
    obtain ⟨Xy, Yy, rfl, y, yd⟩ := y
    obtain ⟨Ay, ny, cy, rfl⟩ := y.shape
    obtain ⟨Ayd, nyd, cyd, rfl⟩ := yd.shape
    generalize (!decide (z2 = 0)) = bz
    try go_wp2_with fail
    refine hK.out _ _ (by exact HS2.out) (fun hHeld => ?_)
    clear hK K
    try simp only [gs, Act.put]
    refine tk 15 ?_
    try simp only [gs, Act.put]
    refine tk 16 ?_
    try simp only [gs, Act.put]
    refine tk 17 ?_
    try simp only [gs, Act.put]
    refine tk 18 ?_
    try simp only [gs, Act.put]
    obtain ⟨_, s9', B9', m9', f9'', D9', n9', f9x, e9, _, _, p1, p2, p3, _, fr⟩ := MQ.at_ HPQ.out
    cases e9
    have fr1 := fr (m * 3)
    have fr2 := fr (m * 3 + 1)
    have fr3 := fr (m * 3 + 2)
    clear fr
    obtain ⟨q1, q2, q3, q4⟩ := MQ.store2 UP HPQ.out (Qw.fr (q := c) ⟨_, _, rfl, y, yd⟩ SM2.out)
    rw [ST1.out] at q1
    have Q1' := Lib.hid q1
    have Q4 := Lib.hid q4
    have MR' := Lib.hid (MR.other q2 q3 (by omega))
    have HS3 := Lib.hid (And.intro (And.intro (cell_far_block (g := gq) (i := m * 3 + 2) (x := .slice Ayd nyd cyd) (cell_far_block (g := gq) (i := m * 3 + 1) (x := .slice Ay ny cy) (cell_far_block (g := gq) (i := m * 3) (x := .bool (Wd.ngb c.num)) HS2.out.1.1 (by dsimp only; omega)) (by dsimp only; omega)) (by dsimp only; omega)) (And.intro (cell_far_block (g := gq) (i := m * 3 + 2) (x := .slice Ayd nyd cyd) (cell_far_block (g := gq) (i := m * 3 + 1) (x := .slice Ay ny cy) (cell_far_block (g := gq) (i := m * 3) (x := .bool (Wd.ngb c.num)) HS2.out.1.2.1 (by dsimp only; omega)) (by dsimp only; omega)) (by dsimp only; omega)) (cell_far_block (g := gq) (i := m * 3 + 2) (x := .slice Ayd nyd cyd) (cell_far_block (g := gq) (i := m * 3 + 1) (x := .slice Ay ny cy) (cell_far_block (g := gq) (i := m * 3) (x := .bool (Wd.ngb c.num)) HS2.out.1.2.2 (by dsimp only; omega)) (by dsimp only; omega)) (by dsimp only; omega)))) (And.intro (cell_far_block (g := gq) (i := m * 3 + 2) (x := .slice Ayd nyd cyd) (cell_far_block (g := gq) (i := m * 3 + 1) (x := .slice Ay ny cy) (cell_far_block (g := gq) (i := m * 3) (x := .bool (Wd.ngb c.num)) HS2.out.2.1 (by dsimp only; omega)) (by dsimp only; omega)) (by dsimp only; omega)) (And.intro (cell_far_block (g := gq) (i := m * 3 + 2) (x := .slice Ayd nyd cyd) (cell_far_block (g := gq) (i := m * 3 + 1) (x := .slice Ay ny cy) (cell_far_block (g := gq) (i := m * 3) (x := .bool (Wd.ngb c.num)) HS2.out.2.2.1 (by dsimp only; omega)) (by dsimp only; omega)) (by dsimp only; omega)) (cell_far_block (g := gq) (i := m * 3 + 2) (x := .slice Ayd nyd cyd) (cell_far_block (g := gq) (i := m * 3 + 1) (x := .slice Ay ny cy) (cell_far_block (g := gq) (i := m * 3) (x := .bool (Wd.ngb c.num)) HS2.out.2.2.2 (by dsimp only; omega)) (by dsimp only; omega)) (by dsimp only; omega)))))
    clear q1 q2 q3 q4 MR MQ
    refine rd 19 (fun K hK => ?_)
    clear hHeld
    go_simp
    refine hK.out _ _ (by exact HS3.out) (fun hHeld => ?_)
    clear hK K
    try simp only [gs, Act.put]
    refine wpAnyH_done (by decide +kernel) (NoPanic.normal ?_) _
    clear hHeld p1 p2 p3 fr1 fr2 fr3 HS3 HS2 UP y yd
    generalize ((W2.setCell ⟨gq, m * 3, none⟩ (.bool (Wd.ngb c.num))).setCell ⟨gq, m * 3 + 1, none⟩ (.slice Ay ny cy)).setCell ⟨gq, m * 3 + 2, none⟩ (.slice Ayd nyd cyd) = W3 at *
    clear k1 k2 k3 k4 k5
    go_wp2_with fail
    have HPQ2 : Hid (m < (Pq.dst a b (d + 1 - m)).2.length) := Lib.hid (by rw [← ST1.out, List.length_set]; exact HPQ.out)
    have HQ2 : Hid ((Pq.dst a b (d + 1 - m)).2[m]'HPQ2.out = c) := Lib.hid (by
     have e2 : (Pq.dst a b (d + 1 - m)).2.getD m 0 = c := by rw [← ST1.out, List.getD_eq_getElem?_getD, List.getElem?_set_self HPQ.out]; rfl
     exact (Pq.getD_at HPQ2.out).symm.trans e2)
    generalize HQQ0 : (Pq.dst a b (d + 1 - m)).2 = Q2 at *
    have HQQ := Lib.hid HQQ0
    clear HQQ0
    go_loopw [9, 10, 58] (fun _ _ s58 wr => ∃ jj : Nat, s58 = .int .i64 jj ∧ jj ≤ b.length ∧ ORow K w1 wr (.slice (some ⟨gr, 0, none⟩) a.length c2) (Pq.mrow (-c) b m jj R1) ∧ ORow K w1 wr (.slice (some ⟨gq, 0, none⟩) (d + 1) (d + 1)) Q2 ∧ Up w1 wr) (fun _ _ s58 _ => b.length - (intOf s58).toNat)
    case atStart => exact ⟨0, rfl, Nat.zero_le _, MR'.out, Q1'.out, Q4.out⟩
    case round =>
     clear MR' Q1' Q4
     obtain ⟨jj, rfl, hjj, MR, MQ, UP⟩ := hrel
     by_cases hlt2 : jj < b.length
     · obtain ⟨_, _, s2, B2, m2, f2, D2, n2', f2', e0, hbb2, g1', g2', g3', FY⟩ := (HB.out.up UP).sq.at_ (kp_fr k) hlt2
       cases e0
       obtain ⟨t, HTT⟩ : ∃ t, Hid (m + jj = t) := ⟨_, Lib.hid rfl⟩
       have HP : Hid (t < (Pq.mrow (-c) b m jj R1).length) := Lib.hid (by rw [Pq.mrow_len, SL1.out]; have := HTT.out; omega)
       have HQJ : Hid ((Pq.mrow (-c) b m jj R1).getD t 0 = (Pq.mrow (-c) b m jj R1)[t]'HP.out) := Lib.hid (Pq.getD_at HP.out)
       have HS : Hid ((Pq.mrow (-c) b m jj R1).set t ((Pq.mrow (-c) b m jj R1)[t]'HP.out - c * b[jj]) = Pq.mrow (-c) b m (jj + 1) R1) := Lib.hid (by
        rw [Rat.sub_eq_add_neg, ← Rat.neg_mul, ← HQJ.out, ← Pq.getD_at hlt2, ← HTT.out]; rfl)
       have HZ : Hid (Wd.Lq ((Pq.mrow (-c) b m jj R1)[t]'HP.out - c * b[jj]) K) := Lib.hid (SM3.out (jj + 1) _ (by rw [← HS.out]; exact List.mem_of_getElem? (i := t) (by rw [List.getElem?_set_self HP.out])))
       have LY := Lib.hid (LQB.out b[jj] (List.getElem_mem hlt2))
       clear HQJ
       generalize HMV : Pq.mrow (-c) b m jj R1 = M at *
       generalize b[jj] = y0 at *
       have FY : Fr wr (.agg #[.bool s2, .slice B2 m2 f2, .slice D2 n2' f2']) y0 k := FY
       have HLM : Hid (M.length = a.length) := Lib.hid (by rw [← HMV, Pq.mrow_len, SL1.out])
       clear HMV
       obtain ⟨z0, HOV⟩ : ∃ z0, Hid (M[t]'HP.out = z0) := ⟨_, Lib.hid rfl⟩
       rw [HOV.out] at HS HZ
       obtain ⟨y, HPR⟩ : ∃ y, Hid (c * y0 = y) := ⟨_, Lib.hid rfl⟩
       have LPR : Wd.Lq y (K + k) := by rw [← HPR.out]; exact SM2.out.mul LY.out
       rw [HPR.out] at HS HZ
       obtain ⟨Z, HSU⟩ : ∃ Z, Hid (z0 - y = Z) := ⟨_, Lib.hid rfl⟩
       rw [HSU.out] at HS HZ
       have k1 : (jj : Int) < (b.length : Int) := by omega
       have k0 : (0 : Int) ≤ (jj : Int) := by omega
       have kk : ((jj : Int)).toNat = jj := by omega
       have k2 : IntKind.i64.wrap ((m : Int) + (jj : Int)) = (t : Int) := by have := HTT.out; rw [IntKind.wrap_i64]; omega
       have k3 : (t : Int) < (a.length : Int) := by have := HP.out; rw [HLM.out] at this; omega
       have k4 : (0 : Int) ≤ (t : Int) := by omega
       have k5 : ((t : Int)).toNat = t := by omega
       have UW := UP
       obtain ⟨_, e7, _, hgrw⟩ := MR.place (by rw [HLM.out]; omega)
       cases e7
       go_wp2_with fail
       have a2 := Bx.new 34 wr [.bool s2, .slice B2 m2 f2, .slice D2 n2' f2']
       have nu := ((Up.refl wr).alloc (.cells #[.bool s2, .slice B2 m2 f2, .slice D2 n2' f2'] 34))
       refine li4 nu FY MR MQ UP ?_; clear FY MR MQ UP nu; intro FY MR MQ UP
       generalize (wr.alloc (.cells #[.bool s2, .slice B2 m2 f2, .slice D2 n2' f2'] 34)) = W51 at *
       obtain ⟨a2_0, a2_1, a2_2⟩ := a2.c3
       clear g1' g2' g3' hbb2
       have hga := UW.size
       clear a2_0 a2_1 a2_2
       revert a2 FY MR MQ UP; refine lg5 (Up.refl W51).drew ?_; intro a2 FY MR MQ UP
       obtain ⟨_, s5, B5, m5, f5, D5, n5, f5', e9, _, hgq5, o1, o2, o3, FQ, _⟩ := MQ.at_ HPQ2.out
       cases e9
       rw [HQ2.out] at FQ
       have HC0 := Lib.hid (And.intro o1 (And.intro o2 o3))
       clear o1 o2 o3
       refine wp_region_noPanic ?_
       refine wp_region_held_drew (S := fun w' => (w'.cell? ⟨gq, m * 3, none⟩ = some (.bool s5) ∧ w'.cell? ⟨gq, m * 3 + 1, none⟩ = some (.slice B5 m5 f5) ∧ w'.cell? ⟨gq, m * 3 + 2, none⟩ = some (.slice D5 n5 f5')) ∧ w'.cell? ⟨wr.heap.size, 0, none⟩ = some (.bool s2) ∧ w'.cell? ⟨wr.heap.size, 1, none⟩ = some (.slice B2 m2 f2) ∧ w'.cell? ⟨wr.heap.size, 2, none⟩ = some (.slice D2 n2' f2')) (by kernel_rfl) (by exact ⟨HC0.out, a2.c3⟩) (fun hHeld => ?_)
       generalize W51.drew = W0 at *
       refine tk 0 ?_
       try simp only [gs, Act.put]
       refine tk 1 ?_
       try simp only [gs, Act.put]
       refine tk 2 ?_
       try simp only [gs, Act.put]
       refine tk 3 ?_
       try simp only [gs, Act.put]
       refine tk 4 ?_
       try simp only [gs, Act.put]
       refine tk 5 ?_
       try simp only [gs, Act.put]
       refine tk 6 ?_
       try simp only [gs, Act.put]
       refine tk 7 ?_
       try simp only [gs, Act.put]
       refine tk 8 ?_
       try simp only [gs, Act.put]
       refine tk 10 ?_
       try simp only [gs, Act.put]
       refine tk 11 ?_
       try simp only [gs, Act.put]
       refine tk 12 ?_
       try simp only [gs, Act.put]
       refine tk 13 ?_
       try simp only [gs, Act.put]
       refine tk 14 ?_
       try simp only [gs, Act.put]
       refine wpAnyH_ready (rs := [9, 15]) (by decide +kernel) (by simp) ?_
       refine AllReadyH.cons rfl (fun K hK => ?_) ?_
       · skip
         clear hHeld
         obtain ⟨_, s9, B9, m9, f9, D9, n9, f9', e9, _, _, o1, o2, o3, FO, _⟩ := MR.at_ HP.out
         cases e9
         rw [HOV.out] at FO
         go_simp
         clear o1 o2 o3
         refine hK.out _ _ (by exact ⟨HC0.out, a2.c3⟩) (fun hHeld => ?_)
         clear hK K
         try simp only [gs, Act.put]
         refine rd 15 (fun K hK => ?_)
         clear hHeld
         go_simp
         go_at_call 110
         refine (frac_mul FQ FY (by omega) (by omega)).mono ?_
         rintro e W2 ⟨V2, rfl, y1, u2⟩
         have HC1 := Lib.hid (And.intro (u2.keeps HC0.out.1) (And.intro (u2.keeps HC0.out.2.1) (u2.keeps HC0.out.2.2)))
         refine li3 u2 MR MQ a2 ?_; clear MR MQ a2; intro MR MQ a2
         try replace FO := FO.up u2
         replace UP := UP.trans u2
         clear u2 FY FQ HC0
         have HC0 := HC1
         clear HC1
         rw [HPR.out] at y1
         obtain ⟨Xy, Yy, rfl, y1, y1d⟩ := y1
         obtain ⟨Ay, ny, cy, rfl⟩ := y1.shape
         obtain ⟨Ayd, nyd, cyd, rfl⟩ := y1d.shape
         try go_wp2_with fail
         refine hK.out _ _ (by exact ⟨HC0.out, a2.c3⟩) (fun hHeld => ?_)
         clear hK K
         try simp only [gs, Act.put]
         refine rd 16 (fun K hK => ?_)
         clear hHeld
         go_simp
         go_at_call 117
         refine (frac_sub FO (Qw.fr ⟨_, _, rfl, y1, y1d⟩ LPR) (by omega) (by omega)).mono ?_
         rintro e W3 ⟨V3, rfl, z, u3⟩
         have HC1 := Lib.hid (And.intro (u3.keeps HC0.out.1) (And.intro (u3.keeps HC0.out.2.1) (u3.keeps HC0.out.2.2)))
         revert MR MQ a2 UP; refine lg4 u3 ?_; intro MR MQ a2 UP
         clear u3 FO y1 y1d HC0
         have HC0 := HC1
         clear HC1
         rw [HSU.out] at z
         obtain ⟨Xz, Yz, rfl, z, zd⟩ := z
         obtain ⟨Az, nz, cz, rfl⟩ := z.shape
         obtain ⟨Azd, nzd, czd, rfl⟩ := zd.shape
         try go_wp2_with fail
         refine hK.out _ _ (by exact ⟨HC0.out, a2.c3⟩) (fun hHeld => ?_)
         clear hK K
         try simp only [gs, Act.put]
         refine tk 17 ?_
         try simp only [gs, Act.put]
         obtain ⟨_, s9', B9', m9', f9'', D9', n9', f9x, e9, _, _, p1, p2, p3, _, fr⟩ := MR.at_ HP.out
         cases e9
         have fr1 := fr (t * 3)
         have fr2 := fr (t * 3 + 1)
         have fr3 := fr (t * 3 + 2)
         clear fr
         obtain ⟨q1, q2, q3, q4⟩ := MR.store2 UP HP.out (Qw.fr ⟨_, _, rfl, z, zd⟩ HZ.out)
         rw [HS.out] at q1
         have R1' := Lib.hid q1
         have Q4 := Lib.hid q4
         have MQ' := Lib.hid (MQ.other q2 q3 (by omega))
         have QB := Lib.hid (((a2.far (p := ⟨gr, t * 3, none⟩) (by dsimp only; omega) (.bool (Wd.ngb Z.num))).far (p := ⟨gr, t * 3 + 1, none⟩) (by dsimp only; omega) (.slice Az nz cz)).far (p := ⟨gr, t * 3 + 2, none⟩) (by dsimp only; omega) (.slice Azd nzd czd))
         have HC1 := Lib.hid (And.intro (cell_far_block (g := gr) (i := t * 3 + 2) (x := .slice Azd nzd czd) (cell_far_block (g := gr) (i := t * 3 + 1) (x := .slice Az nz cz) (cell_far_block (g := gr) (i := t * 3) (x := .bool (Wd.ngb Z.num)) HC0.out.1 (by dsimp only; omega)) (by dsimp only; omega)) (by dsimp only; omega)) (And.intro (cell_far_block (g := gr) (i := t * 3 + 2) (x := .slice Azd nzd czd) (cell_far_block (g := gr) (i := t * 3 + 1) (x := .slice Az nz cz) (cell_far_block (g := gr) (i := t * 3) (x := .bool (Wd.ngb Z.num)) HC0.out.2.1 (by dsimp only; omega)) (by dsimp only; omega)) (by dsimp only; omega)) (cell_far_block (g := gr) (i := t * 3 + 2) (x := .slice Azd nzd czd) (cell_far_block (g := gr) (i := t * 3 + 1) (x := .slice Az nz cz) (cell_far_block (g := gr) (i := t * 3) (x := .bool (Wd.ngb Z.num)) HC0.out.2.2 (by dsimp only; omega)) (by dsimp only; omega)) (by dsimp only; omega))))
         clear q1 q2 q3 q4 MR MQ HC0
         refine rd 18 (fun K hK => ?_)
         clear hHeld
         go_simp
         refine hK.out _ _ (by exact ⟨HC1.out, QB.out.c3⟩) (fun hHeld => ?_)
         clear hK K
         try simp only [gs, Act.put]
         refine wpAnyH_done (by decide +kernel) (NoPanic.normal ?_) _
         clear hHeld p1 p2 p3 fr1 fr2 fr3
         go_wp2_with fail
         go_roundw
         case rel => exact ⟨jj + 1, by first | rfl | go_num, by omega, R1'.out, MQ'.out, Q4.out⟩
         case measure => simp [intOf]; omega
       refine AllReadyH.cons rfl (fun K hK => ?_) AllReadyH.nil
       clear hHeld
       go_simp
       go_at_call 110
       refine (frac_mul FQ FY (by omega) (by omega)).mono ?_
       rintro e W2 ⟨V2, rfl, y1, u2⟩
       have HC1 := Lib.hid (And.intro (u2.keeps HC0.out.1) (And.intro (u2.keeps HC0.out.2.1) (u2.keeps HC0.out.2.2)))
       refine li3 u2 MR MQ a2 ?_; clear MR MQ a2; intro MR MQ a2
       try replace FO := FO.up u2
       replace UP := UP.trans u2
       clear u2 FY FQ HC0
       have HC0 := HC1
       clear HC1
       rw [HPR.out] at y1
       obtain ⟨Xy, Yy, rfl, y1, y1d⟩ := y1
       obtain ⟨Ay, ny, cy, rfl⟩ := y1.shape
       obtain ⟨Ayd, nyd, cyd, rfl⟩ := y1d.shape
       try go_wp2_with fail
       refine hK.out _ _ (by exact ⟨HC0.out, a2.c3⟩) (fun hHeld => ?_)
       clear hK K
       try simp only [gs, Act.put]
       refine rd 9 (fun K hK => ?_)
       clear hHeld
       obtain ⟨_, s9, B9, m9, f9, D9, n9, f9', e9, _, _, o1, o2, o3, FO, _⟩ := MR.at_ HP.out
       cases e9
       rw [HOV.out] at FO
       go_simp
       clear o1 o2 o3
       refine hK.out _ _ (by exact ⟨HC0.out, a2.c3⟩) (fun hHeld => ?_)
       clear hK K
       try simp only [gs, Act.put]
       refine rd 16 (fun K hK => ?_)
       clear hHeld
       go_simp
       go_at_call 117
       refine (frac_sub FO (Qw.fr ⟨_, _, rfl, y1, y1d⟩ LPR) (by omega) (by omega)).mono ?_
       rintro e W3 ⟨V3, rfl, z, u3⟩
       have HC1 := Lib.hid (And.intro (u3.keeps HC0.out.1) (And.intro (u3.keeps HC0.out.2.1) (u3.keeps HC0.out.2.2)))
       refine li4 u3 MR MQ a2 UP ?_; clear MR MQ a2 UP; intro MR MQ a2 UP
       clear u3 FO y1 y1d HC0
       have HC0 := HC1
       clear HC1
       rw [HSU.out] at z
       obtain ⟨Xz, Yz, rfl, z, zd⟩ := z
       obtain ⟨Az, nz, cz, rfl⟩ := z.shape
       obtain ⟨Azd, nzd, czd, rfl⟩ := zd.shape
       try go_wp2_with fail
       refine hK.out _ _ (by exact ⟨HC0.out, a2.c3⟩) (fun hHeld => ?_)
       clear hK K
       try simp only [gs, Act.put]
       refine tk 17 ?_
       try simp only [gs, Act.put]
       obtain ⟨_, s9', B9', m9', f9'', D9', n9', f9x, e9, _, _, p1, p2, p3, _, fr⟩ := MR.at_ HP.out
       cases e9
       have fr1 := fr (t * 3)
       have fr2 := fr (t * 3 + 1)
       have fr3 := fr (t * 3 + 2)
       clear fr
       obtain ⟨q1, q2, q3, q4⟩ := MR.store2 UP HP.out (Qw.fr ⟨_, _, rfl, z, zd⟩ HZ.out)
       rw [HS.out] at q1
       have R1' := Lib.hid q1
       have Q4 := Lib.hid q4
       have MQ' := Lib.hid (MQ.other q2 q3 (by omega))
       have QB := Lib.hid (((a2.far (p := ⟨gr, t * 3, none⟩) (by dsimp only; omega) (.bool (Wd.ngb Z.num))).far (p := ⟨gr, t * 3 + 1, none⟩) (by dsimp only; omega) (.slice Az nz cz)).far (p := ⟨gr, t * 3 + 2, none⟩) (by dsimp only; omega) (.slice Azd nzd czd))
       have HC1 := Lib.hid (And.intro (cell_far_block (g := gr) (i := t * 3 + 2) (x := .slice Azd nzd czd) (cell_far_block (g := gr) (i := t * 3 + 1) (x := .slice Az nz cz) (cell_far_block (g := gr) (i := t * 3) (x := .bool (Wd.ngb Z.num)) HC0.out.1 (by dsimp only; omega)) (by dsimp only; omega)) (by dsimp only; omega)) (And.intro (cell_far_block (g := gr) (i := t * 3 + 2) (x := .slice Azd nzd czd) (cell_far_block (g := gr) (i := t * 3 + 1) (x := .slice Az nz cz) (cell_far_block (g := gr) (i := t * 3) (x := .bool (Wd.ngb Z.num)) HC0.out.2.1 (by dsimp only; omega)) (by dsimp only; omega)) (by dsimp only; omega)) (cell_far_block (g := gr) (i := t * 3 + 2) (x := .slice Azd nzd czd) (cell_far_block (g := gr) (i := t * 3 + 1) (x := .slice Az nz cz) (cell_far_block (g := gr) (i := t * 3) (x := .bool (Wd.ngb Z.num)) HC0.out.2.2 (by dsimp only; omega)) (by dsimp only; omega)) (by dsimp only; omega))))
       clear q1 q2 q3 q4 MR MQ HC0
       refine rd 18 (fun K hK => ?_)
       clear hHeld
       go_simp
       refine hK.out _ _ (by exact ⟨HC1.out, QB.out.c3⟩) (fun hHeld => ?_)
       clear hK K
       try simp only [gs, Act.put]
       refine wpAnyH_done (by decide +kernel) (NoPanic.normal ?_) _
       clear hHeld p1 p2 p3 fr1 fr2 fr3
       go_wp2_with fail
       go_roundw
       case rel => exact ⟨jj + 1, by first | rfl | go_num, by omega, R1'.out, MQ'.out, Q4.out⟩
       case measure => simp [intOf]; omega
     · obtain rfl : jj = b.length := by omega
       have k1 : ¬ ((b.length : Int) < (b.length : Int)) := by omega
       rw [ST2.out] at MR
       rw [← HQQ.out] at MQ
       go_wp2_with fail
       go_roundw
       case rel => exact ⟨m, by first | rfl | go_num | (congr 1; omega), by omega, MR, MQ, UP⟩
       case measure => simp [intOf] <;> omega
end Go.Proofs.YtmmcffceeahemaaGreat
