/-
  Layer 14, the document's answers: derivatives, multiples, differences, values.
  Layer 14, the document's answers: products.
-/
import Derived.Test.YtmmcffceeahemaaGreatZtRefPoly2
import Derived.Test.YtmmcffceeahemaaGreatZtShort
set_option linter.unusedVariables false
set_option linter.unusedSimpArgs false
namespace Go.Proofs.YtmmcffceeahemaaGreat
open Go.RowKit
set_option maxRecDepth 100000 in
set_option maxHeartbeats 6400000 in
theorem ref_diff14 {v : Value} {qs : List Rat} {ka : Nat} {w : World} (h : QSq ka w v qs) (hl : qs.length ≤ 1000000) (hka : ka ≤ 1000000) : Calls Tryz.prog 45 #[v] w (RetQR (ka + 2) (Pq.nm (Pq.df qs)) w) := by
 obtain ⟨A, cv, rfl⟩ := h.form
 have LA := Lib.hid h.lq
 have H := Lib.hid h
 clear h
 go_enter Tryz.func45, Tryz.ntmps45
 go_wp2_with fail
 go_loopw [3, 4] (fun s3 s4 wr => ∃ j : Nat, s4 = .int .i64 ((j : Int) + 1) ∧ j ≤ qs.length - 1 ∧ QRow (ka + 2) w wr s3 (Pq.dfl 1 (qs.tail.take j)) ∧ Up w wr) (fun _ s4 _ => qs.length - (intOf s4).toNat)
 case atStart => exact ⟨0, rfl, Nat.zero_le _, OwnQ.nil _ _ _ _, Up.refl w⟩
 case round =>
  obtain ⟨j, rfl, hj, MR, UP⟩ := hrel
  by_cases hlt : j + 1 < qs.length
  · obtain ⟨b, o, s, B, m0, f, D, n', f', e0, hb, g1, g2, g3, FX0⟩ := Sq.at_ (kp_qk ka) H.out.sq hlt
    subst e0
    have HTK : Hid _ := Lib.hid (Pq.df_step hlt)
    have HTL : Hid ((Pq.dfl 1 (qs.tail.take j)).length = j) := Lib.hid (by rw [Pq.dfl_len, List.length_take, List.length_tail]; omega)
    have LQ := LA.out qs[j + 1] (List.getElem_mem hlt)
    generalize qs[j + 1] = q at *
    have FX0 : Qk ka w (.agg #[.bool s, .slice B m0 f, .slice D n' f']) q := FX0
    have FX := FX0.qw.up UP
    have HOLD : Hid (∀ w', Up w w' → w'.cell? ⟨b, o + (j + 1) * 3, none⟩ = some (.bool s) ∧ w'.cell? ⟨b, o + (j + 1) * 3 + 1, none⟩ = some (.slice B m0 f) ∧ w'.cell? ⟨b, o + (j + 1) * 3 + 2, none⟩ = some (.slice D n' f')) := Lib.hid (fun w' hu => ⟨hu.keeps g1, hu.keeps g2, hu.keeps g3⟩)
    clear g1 g2 g3 FX0
    obtain ⟨C7, c7, rfl⟩ := MR.form
    rw [HTL.out] at MR ⊢
    have k1 : (j : Int) + 1 < (qs.length : Int) := by omega
    have k0 : (0 : Int) ≤ (j : Int) + 1 := by omega
    have kk : ((j : Int) + 1).toNat = j + 1 := by omega
    go_wp2_with fail
    refine li3 (Up.refl wr).drew MR FX UP ?_; clear MR FX UP; intro MR FX UP
    refine wp_region_noPanic ?_
    refine wp_region_held_drew (S := fun w' => Up w w' ∧ w'.cell? ⟨b, o + (j + 1) * 3, none⟩ = some (.bool s) ∧ w'.cell? ⟨b, o + (j + 1) * 3 + 1, none⟩ = some (.slice B m0 f) ∧ w'.cell? ⟨b, o + (j + 1) * 3 + 2, none⟩ = some (.slice D n' f')) (by kernel_rfl) (by exact ⟨UP, HOLD.out _ UP⟩) (fun hHeld => ?_)
    generalize wr.drew = W0 at *
    refine tk 0 ?_
    try simp only [gs, Act.put]
    refine tk 1 ?_
    try simp only [gs, Act.put]
    refine tk 3 ?_
    try simp only [gs, Act.put]
    refine tk 4 ?_
    try simp only [gs, Act.put]
    refine tk 5 ?_
    try simp only [gs, Act.put]
    refine tk 6 ?_
    try simp only [gs, Act.put]
    refine rd 2 (fun K hK => ?_)
    clear hHeld
    go_simp
    go_at_call 65
    refine (ref9_int (n := (j : Int) + 1) (by omega) _).mono ?_
    rintro e W1 ⟨V1, rfl, y, u1⟩
    refine li3 u1 MR FX UP ?_; clear MR FX UP u1; intro MR FX UP
    have LY := lq_int (n := (j : Int) + 1) (by omega)
    obtain ⟨Y, HY⟩ : ∃ Y, Hid ((((j : Int) + 1 : Int) : Rat) = Y) := ⟨_, Lib.hid rfl⟩
    rw [HY.out] at y LY HTK
    try go_wp2_with fail
    refine hK.out _ _ (by exact ⟨UP, HOLD.out _ UP⟩) (fun hHeld => ?_)
    clear hK K
    try simp only [gs, Act.put]
    refine rd 7 (fun K hK => ?_)
    clear hHeld
    go_simp
    go_at_call 57
    refine (ref9_mul y FX LY LQ (by omega) (by omega)).mono ?_
    rintro e W2 ⟨V2, rfl, z, u2⟩
    revert MR UP; refine lg2 u2 ?_; intro MR UP
    clear u2 y FX
    have LP : Wd.Lq (Y * q) (ka + 2) := (LY.mul LQ).mono (by omega)
    obtain ⟨P, HP⟩ : ∃ P, Hid (Y * q = P) := ⟨_, Lib.hid rfl⟩
    rw [HP.out] at z HTK LP
    have y := z
    clear z
    have LZ := LP
    obtain ⟨Xz, Yz, rfl, z, zd⟩ := y
    obtain ⟨Az, nz, cz, rfl⟩ := z.shape
    obtain ⟨Azd, nzd, czd, rfl⟩ := zd.shape
    try go_wp2_with fail
    refine hK.out _ _ (by exact ⟨UP, HOLD.out _ UP⟩) (fun hHeld => ?_)
    clear hK K
    try simp only [gs, Act.put]
    refine rd 8 (fun K hK => ?_)
    clear hHeld
    go_simp
    have hblk := heap_alloc_new W2 (.cells #[.bool (Wd.ngb P.num), .slice Az nz cz, .slice Azd nzd czd] 24)
    have HQ := Lib.hid (show Qk ((ka + 2)) (W2.alloc (.cells #[.bool (Wd.ngb P.num), .slice Az nz cz, .slice Azd nzd czd] 24)) (.agg #[.bool (Wd.ngb P.num), .slice Az nz cz, .slice Azd nzd czd]) P from ⟨Qw.up ⟨_, _, rfl, z, zd⟩ ((Up.refl W2).alloc _), LZ⟩)
    replace MR := MR.up ((Up.refl W2).alloc (.cells #[.bool (Wd.ngb P.num), .slice Az nz cz, .slice Azd nzd czd] 24))
    replace UP := UP.alloc (.cells #[.bool (Wd.ngb P.num), .slice Az nz cz, .slice Azd nzd czd] 24)
    generalize W2.alloc (.cells #[.bool (Wd.ngb P.num), .slice Az nz cz, .slice Azd nzd czd] 24) = W3 at *
    generalize W2.heap.size = g3 at *
    refine hK.out _ _ (by exact ⟨UP, HOLD.out _ UP⟩) (fun hHeld => ?_)
    clear hK K
    try simp only [gs, Act.put]
    refine rd 9 (fun K hK => ?_)
    clear hHeld
    refine step_append_q (kp_qk _) Tryz.underlying44 info_rfrac (w0 := w) (by rfl) _ _ (by rfl) (by rfl) MR UP (by rfl) hblk HQ.out (by rw [HTL.out]; omega) ?_
    intro V8 W8 MR8 K8 G8 UP8
    rw [← HTK.out] at MR8
    refine hK.out _ _ (by exact ⟨UP8, HOLD.out _ UP8⟩) (fun hHeld => ?_)
    clear hK K
    try simp only [gs, Act.put]
    refine tk 10 ?_
    try simp only [gs, Act.put]
    refine wpAnyH_done (by decide +kernel) (NoPanic.normal ?_) _
    clear hHeld hblk
    go_wp2
    go_roundw
    case rel => exact ⟨j + 1, by go_num, by omega, MR8, UP8⟩
    case measure => simp [intOf]; omega
  · have HDF : Hid (Pq.dfl 1 (qs.tail.take j) = Pq.df qs) := Lib.hid (by unfold Pq.df; rw [List.take_of_length_le]; rw [List.length_tail]; omega)
    rw [HDF.out] at MR
    have k1 : ¬ (j : Int) + 1 < (qs.length : Int) := by omega
    have hd1 : (Pq.df qs).length ≤ 1000000 := by rw [Pq.df_len]; omega
    obtain ⟨C7, c7, rfl⟩ := MR.form
    go_wp2_with fail
    ((with_reducible refine (ref_norm14 MR.q hd1 (by omega)).mono ?_))
    rintro e W4 ⟨V4, rfl, R, u4⟩
    go_wp2
    go_ret
    exact ⟨_, rfl, R.weaken UP, UP.trans u4⟩
set_option maxRecDepth 100000 in
set_option maxHeartbeats 3200000 in
theorem ref_scale14 {vc v : Value} {c : Rat} {qs R : List Rat} {kc ka K : Nat} {w : World} (hc : Qk kc w vc c) (h : QSq ka w v qs) (hl : qs.length ≤ 1000000) (hkc : kc ≤ 3900000) (hka : ka ≤ 3900000) (HR : Hid (Pq.nm (Pq.sc c qs) = R)) (HL : Hid (∀ x ∈ R, Wd.Lq x K)) : Calls Tryz.prog 42 #[vc, v] w (RetQR K R w) := by
 have LC := hc.lq
 obtain ⟨Xc, Yc, rfl, hcu, hcd⟩ := hc.qw
 obtain ⟨A1, n1, c1, rfl⟩ := hcu.shape
 obtain ⟨A2, n2, c2, rfl⟩ := hcd.shape
 obtain ⟨A, cv, rfl⟩ := h.form
 clear hc
 have hs : (Pq.sc c qs).length ≤ 1000000 := by rw [Pq.sc_len]; exact hl
 have UP : Up w (w.alloc (.cells #[.bool (Wd.ngb c.num), .slice A1 n1 c1, .slice A2 n2 c2] 24)) := (Up.refl w).alloc _
 have b0 := Bx.new 24 w [.bool (Wd.ngb c.num), .slice A1 n1 c1, .slice A2 n2 c2]
 go_enter Tryz.func42, Tryz.ntmps42
 go_wp2_with fail
 generalize (w.alloc (.cells #[.bool (Wd.ngb c.num), .slice A1 n1 c1, .slice A2 n2 c2] 24)) = W at *
 revert hcu hcd h
 refine lg3 UP ?_
 intro hcu hcd h
 obtain ⟨b0_0, b0_1, b0_2⟩ := b0.c3
 ((with_reducible refine (ref_scale11 (Qk.mk' hcu hcd LC) h hl hkc hka).mono ?_))
 rintro e W1 ⟨V1, rfl, R1, u1⟩
 go_wp2_with fail
 ((with_reducible refine (ref_norm14 R1.q hs (by omega)).mono ?_))
 rintro e W2 ⟨V2, rfl, R2, u2⟩
 rw [HR.out] at R2
 go_wp2
 go_ret
 exact ⟨_, rfl, (R2.re HL.out).weaken (UP.trans u1), (UP.trans u1).trans u2⟩
set_option maxRecDepth 100000 in
set_option maxHeartbeats 3200000 in
theorem ref_sub14 {v u : Value} {ps qs R : List Rat} {ka kb K : Nat} {w : World} (h : QSq ka w v ps) (h2 : QSq kb w u qs) (hl : ps.length ≤ 1000000) (hl2 : qs.length ≤ 1000000) (ha1 : 1 ≤ ka) (hb1 : 1 ≤ kb) (hka : ka ≤ 3900000) (hkb : kb ≤ 3900000) (HR : Hid (Pq.nm (Pq.sub ps qs) = R)) (HL : Hid (∀ x ∈ R, Wd.Lq x K)) : Calls Tryz.prog 38 #[v, u] w (RetQR K R w) := by
 obtain ⟨A, cv, rfl⟩ := h.form
 obtain ⟨B, cu, rfl⟩ := h2.form
 have LB := Lib.hid (lq_scn h2.lq)
 have hn : (Pq.nm (Pq.sc (-1) qs)).length ≤ 1000000 := Nat.le_trans (Pq.nm_len _) (by rw [Pq.sc_len]; exact hl2)
 have HE : Hid (Pq.nm (Pq.add ps (Pq.nm (Pq.sc (-1) qs))) = R) := Lib.hid (by rw [Pq.nm_sub]; exact HR.out)
 go_enter Tryz.func38, Tryz.ntmps38
 go_wp2_with fail
 ((with_reducible refine (ref9_int (n := -1) (by omega) _).mono ?_))
 rintro e W1 ⟨V1, rfl, y, u1⟩
 have y : Qk 2 W1 V1 (-1) := ⟨y, lq_int (n := -1) (by omega)⟩
 revert h h2
 refine lg2 u1 ?_
 intro h h2
 go_wp2_with fail
 ((with_reducible refine (ref_scale14 y h2 hl2 (by omega) hkb (Lib.hid rfl) LB).mono ?_))
 rintro e W2 ⟨V2, rfl, R2, u2⟩
 replace h := h.up u2
 go_wp2_with fail
 ((with_reducible refine (ref_add14_as h R2.q hl hn ha1 hb1 hka hkb HE HL).mono ?_))
 rintro e W3 ⟨V3, rfl, R3, u3⟩
 go_wp2
 go_ret
 exact ⟨_, rfl, R3.weaken (u1.trans u2), (u1.trans u2).trans u3⟩
end Go.Proofs.YtmmcffceeahemaaGreat
namespace Pq
theorem mall_lq {p q : List Rat} {j k : Nat} (h : Lp p j) (h' : Lp q k) (hl : p.length ≤ 100000000) (i : Nat) (hi : i ≤ p.length) (n : Nat) : Wd.Lq ((mall p q i).getD n 0) (j + k + 1) := by
 have hj := h.one_le
 obtain ⟨d, h1, h2, N, h3, h4⟩ := h
 obtain ⟨e, k1, k2, M, k3, k4⟩ := h'
 have := mall_cm h4 k4 i n
 have hb : p.length ≤ Wd.B := by rw [Wd.B_eq]; omega
 exact (this.mono (Nat.mul_le_mul_right _ hi)).lq (Nat.mul_ne_zero h1 k1) (Nat.lt_of_lt_of_le (pow_mul_lt h2 k2) (Nat.pow_le_pow_right Wd.B_pos (by omega))) (count_lt hb (pow_mul_lt h3 k3) Wd.B_pos) (by omega)
theorem mall_zero (p q : List Rat) (n : Nat) : (mall p q 0).getD n 0 = 0 := by
 rw [mall, List.getD_eq_getElem?_getD, List.getElem?_replicate]
 split <;> rfl
theorem mall_step {p q : List Rat} {i n : Nat} (hi : i < p.length) : (mall p q (i + 1)).getD n 0 = (mall p q i).getD n 0 + (if i ≤ n ∧ n < i + q.length then p.getD i 0 * q.getD (n - i) 0 else 0) := by
 rw [mall, mrow_getD _ _ _ _ _ _ (by rw [mall_len]; omega)]
theorem mall_more {p q : List Rat} {n : Nat} : ∀ k i, n < i → i + k ≤ p.length → (mall p q (i + k)).getD n 0 = (mall p q i).getD n 0
 | 0, i, _, _ => rfl
 | k + 1, i, h1, h2 => by
   rw [← Nat.add_assoc, mall_step (by omega), if_neg (by omega), Rat.add_zero]
   exact mall_more k i h1 (by omega)
theorem mall_take {p q : List Rat} {n : Nat} (h : n < p.length + q.length) : (mall p q p.length).take (n + 1) = (mall p q p.length).take n ++ [(mall p q p.length).getD n 0] := by
 have hl : n < (mall p q p.length).length := by rw [mall_len]; exact h
 rw [List.take_succ_eq_append_getElem hl, getD_at hl]
end Pq
namespace Go.Proofs.YtmmcffceeahemaaGreat
open Go.RowKit
/-- The row, apart from a box. -/
def QRx (g : Nat) (k : Nat) (w0 w : World) (v : Value) (qs : List Rat) : Prop := QRow k w0 w v qs ∧ v.ownBlock ≠ some g
theorem QRx.mk' {g : Nat} {k : Nat} {w0 w : World} {v : Value} {qs : List Rat} (h : QRow k w0 w v qs) (hg : g = w.heap.size) : QRx g k w0 w v qs := ⟨h, fun e => by have := (OwnQ.lt h _ e).2; omega⟩
theorem QRx.row {g : Nat} {k : Nat} {w0 w : World} {v : Value} {qs : List Rat} (h : QRx g k w0 w v qs) : QRow k w0 w v qs := h.1
theorem QRx.up {g : Nat} {k : Nat} {w0 w w' : World} {v : Value} {qs : List Rat} (h : QRx g k w0 w v qs) (hu : Up w w') : QRx g k w0 w' v qs := ⟨h.1.up hu, h.2⟩
instance QRx.lup {g : Nat} {k : Nat} {w0 w w' : World} {v : Value} {qs : List Rat} : Lu (Up w w') (QRx g k w0 w v qs) (QRx g k w0 w' v qs) := luM fun u h => h.up u
theorem QRx.stored {k : Nat} {w0 w : World} {v x : Value} {qs : List Rat} {S : TypeId} {g i : Nat} {vs : List Value} (h : QRx g k w0 w v qs) (hb : Bx S w g vs) (_ : True) (hk : Kw w (w.setCell ⟨g, i, none⟩ x)) : QRx g k w0 (w.setCell ⟨g, i, none⟩ x) v qs :=
 ⟨OwnQ.kept (kp_qk k) h.1 hk (row := some g) ⟨rfl, rfl, rfl, by simp [World.setCell], fun j hj hj2 => Below.heap_setCell _ _ _ _ (by simp; exact fun e => hj2 (by rw [e]))⟩ (.inr h.2), h.2⟩
set_option maxRecDepth 100000 in
set_option maxHeartbeats 12800000 in
theorem ref_mul14 {v u : Value} {ps qs : List Rat} {ka kb j k : Nat} {w : World} (h : QSq ka w v ps) (h2 : QSq kb w u qs) (hl : ps.length ≤ 10000) (hl2 : qs.length ≤ 10000) (hka : ka ≤ 2400000) (hkb : kb ≤ 2400000) (LPP : Pq.Lp ps j) (LPQ : Pq.Lp qs k) (hjk : j + k + 1 ≤ 2400000) : Calls Tryz.prog 40 #[v, u] w (RetQR (j + k + 1) (Pq.nm (Pq.mul ps qs)) w) := by
 have LM := Lib.hid (Pq.mall_lq LPP LPQ (by omega))
 have LA := Lib.hid h.lq
 have LB := Lib.hid h2.lq
 have HNM := Lib.hid (Pq.nm_mall ps qs)
 have HLEN := Lib.hid (Pq.mall_len ps qs ps.length)
 obtain ⟨A, cv, rfl⟩ := h.form
 obtain ⟨B, cu, rfl⟩ := h2.form
 have H := Lib.hid h
 have H2 := Lib.hid h2
 clear h h2 LPP LPQ
 have ws : IntKind.i64.wrap ((ps.length : Int) + (qs.length : Int)) = (ps.length : Int) + (qs.length : Int) := by rw [IntKind.wrap_i64]; omega
 go_enter Tryz.func40, Tryz.ntmps40
 go_wp2_with fail
 go_loopw [5, 6] (fun s5 s6 wr => ∃ n : Nat, s6 = .int .i64 n ∧ n ≤ ps.length + qs.length ∧ QRow (j + k + 1) w wr s5 ((Pq.mall ps qs ps.length).take n) ∧ Up w wr) (fun _ s6 _ => ps.length + qs.length - (intOf s6).toNat)
 case atStart => exact ⟨0, rfl, Nat.zero_le _, OwnQ.nil _ _ _ _, Up.refl w⟩
 case round =>
  obtain ⟨n, rfl, hn, MR, UP⟩ := hrel
  by_cases hlt : n < ps.length + qs.length
  · have HTK := Lib.hid (Pq.mall_take (p := ps) (q := qs) hlt)
    have HTL : Hid (((Pq.mall ps qs ps.length).take n).length = n) := Lib.hid (by rw [List.length_take, Pq.mall_len]; omega)
    obtain ⟨C7, c7, rfl⟩ := MR.form
    rw [HTL.out] at MR ⊢
    have k1 : (n : Int) < (ps.length : Int) + (qs.length : Int) := by omega
    go_wp2_with fail
    ((with_reducible refine (ref9_int0p _).mono ?_))
    rintro e W51 ⟨V51, rfl, z, u51⟩
    revert UP MR; revert u51; refine lh2 ?_; intro UP MR
    obtain ⟨P0, HP0⟩ : ∃ P, Hid ((0 : Rat) = P) := ⟨_, Lib.hid rfl⟩
    rw [HP0.out] at z
    obtain ⟨Xz, Yz, rfl, z, zd⟩ := z
    obtain ⟨Az, nz, cz, rfl⟩ := z.shape
    obtain ⟨Azd, nzd, czd, rfl⟩ := zd.shape
    have hbase := UP.size
    have RX := QRx.mk' MR (g := W51.heap.size) rfl
    clear MR
    go_wp2_with fail
    have x7 := Bx.new 24 W51 [.bool (Wd.ngb P0.num), .slice Az nz cz, .slice Azd nzd czd]
    have nu := ((Up.refl W51).alloc (.cells #[.bool (Wd.ngb P0.num), .slice Az nz cz, .slice Azd nzd czd] 24))
    revert UP z zd RX; revert nu; refine lh4 ?_; intro UP z zd RX
    generalize (W51.alloc (.cells #[.bool (Wd.ngb P0.num), .slice Az nz cz, .slice Azd nzd czd] 24)) = W52 at *
    obtain ⟨x7_0, x7_1, x7_2⟩ := x7.c3
    have x7_f0 := x7.free
    generalize W51.heap.size = g7 at *
    go_loopw [8] (fun s8 wr => ∃ (i : Nat) (s' : Bool) (A' D' : Option Addr) (m1 f1 m2 f2 : Nat), s8 = .int .i64 (i : Int) ∧ i ≤ ps.length ∧ i ≤ n + 1 ∧ Bx 24 wr g7 [.bool s', .slice A' m1 f1, .slice D' m2 f2] ∧ Qw wr (.agg #[.bool s', .slice A' m1 f1, .slice D' m2 f2]) ((Pq.mall ps qs i).getD n 0) ∧ QRx g7 (j + k + 1) w wr (.slice C7 n c7) ((Pq.mall ps qs ps.length).take n) ∧ Up w wr) (fun s8 _ => ps.length - (intOf s8).toNat)
    case atStart => exact ⟨0, _, _, _, _, _, _, _, rfl, Nat.zero_le _, Nat.zero_le _, x7, by rw [Pq.mall_zero, HP0.out]; exact ⟨_, _, rfl, z, zd⟩, RX, UP⟩
    case round =>
     obtain ⟨i, s', A', D', m1, f1, m2, f2, rfl, hi1, hi2, x7, X, RX, UP⟩ := hrel
     by_cases hin1 : i ≤ n
     · have q1 : (i : Int) ≤ (n : Int) := by omega
       by_cases hin2 : i < ps.length
       · have q2 : (i : Int) < (ps.length : Int) := by omega
         have q3 : IntKind.i64.wrap ((n : Int) - (i : Int)) = ((n - i : Nat) : Int) := by rw [IntKind.wrap_i64]; omega
         obtain ⟨x7_0, x7_1, x7_2⟩ := x7.c3
         have x7_f0 := x7.free
         by_cases hb : n - i < qs.length
         · have q4 : ((n - i : Nat) : Int) < (qs.length : Int) := by omega
           have HD : Hid ((Pq.mall ps qs (i + 1)).getD n 0 = (Pq.mall ps qs i).getD n 0 + ps[i] * qs[n - i]) := Lib.hid (by rw [Pq.mall_step hin2, if_pos (by omega), Pq.getD_at hin2, Pq.getD_at hb])
           obtain ⟨b1, o1, s1, B1, x1, f3, D1, y1, z1, e1, hb1, g1, g2, g3, FX0⟩ := Sq.at_ (kp_qk ka) H.out.sq hin2
           obtain ⟨b2, o2, s2, B2, x2, f4, D2, y2, z2, e2, hb2, g4, g5, g6, FY0⟩ := Sq.at_ (kp_qk kb) H2.out.sq hb
           subst e1 e2
           have LX := LA.out ps[i] (List.getElem_mem hin2)
           have LY := LB.out qs[n - i] (List.getElem_mem hb)
           have LI := LM.out i hi1 n
           have LI2 := LM.out (i + 1) hin2 n
           generalize ps[i] = a at *
           generalize qs[n - i] = b at *
           generalize n - i = di at *
           have FX0 : Qk ka w (.agg #[.bool s1, .slice B1 x1 f3, .slice D1 y1 z1]) a := FX0
           have FY0 : Qk kb w (.agg #[.bool s2, .slice B2 x2 f4, .slice D2 y2 z2]) b := FY0
           have FX := FX0.qw.up UP
           have FY := FY0.qw.up UP
           have p1 := UP.keeps g1
           have p2 := UP.keeps g2
           have p3 := UP.keeps g3
           have p4 := UP.keeps g4
           have p5 := UP.keeps g5
           have p6 := UP.keeps g6
           clear g1 g2 g3 g4 g5 g6 FX0 FY0
           have k0 : (0 : Int) ≤ (i : Int) := by omega
           have kk : ((i : Int)).toNat = i := by omega
           have k5 : (0 : Int) ≤ (di : Int) := by omega
           have k6 : ((di : Int)).toNat = di := by omega
           obtain ⟨Y, HY⟩ : ∃ Y, Hid (a * b = Y) := ⟨_, Lib.hid rfl⟩
           have LYY : Wd.Lq Y (ka + kb) := by rw [← HY.out]; exact LX.mul LY
           obtain ⟨R, HR⟩ : ∃ R, Hid ((Pq.mall ps qs (i + 1)).getD n 0 = R) := ⟨_, Lib.hid rfl⟩
           rw [HR.out, HY.out] at HD
           rw [HR.out] at LI2
           generalize (Pq.mall ps qs i).getD n 0 = sv at *
           go_wp2_with fail
           refine li6 (Up.refl wr).drew X RX FX FY x7 UP ?_; clear X RX FX FY x7 UP; intro X RX FX FY x7 UP
           obtain ⟨x7_0, x7_1, x7_2⟩ := x7.c3
           have x7_f0 := x7.free
           go_region_with ((first
            | (go_at_call 57
               ((with_reducible refine (ref9_mul FX FY LX LY (by omega) (by omega)).mono ?_))
               rintro e W51 ⟨V51, rfl, ym, u51⟩
               revert X RX FX FY x7 UP x7_0 x7_1 x7_2; refine lg9 u51 ?_; intro X RX FX FY x7 UP x7_0 x7_1 x7_2
               try (replace ym := ym.up u51)
               try (replace zs := zs.up u51)
               replace x7_f0 := x7.free
               clear u51
               rw [HY.out] at ym)
            | (go_at_call 111
               ((with_reducible refine (ref9_add X ym LI LYY (by omega) (by omega)).mono ?_))
               rintro e W52 ⟨V52, rfl, zs, u52⟩
               revert X RX FX FY x7 UP x7_0 x7_1 x7_2; refine lg9 u52 ?_; intro X RX FX FY x7 UP x7_0 x7_1 x7_2
               try (replace ym := ym.up u52)
               try (replace zs := zs.up u52)
               replace x7_f0 := x7.free
               clear u52
               rw [← HD.out] at zs
               obtain ⟨Xzs, Yzs, rfl, zs, zsd⟩ := zs
               obtain ⟨Azs, nzs, czs, rfl⟩ := zs.shape
               obtain ⟨Azsd, nzsd, czsd, rfl⟩ := zsd.shape)))
           all_goals
            clear p1 p2 p3 p4 p5 p6
            clear ym X FX FY
            have KW : Kw (W52) ((W52).setCell ⟨g7, 0, none⟩ (.bool (Wd.ngb R.num))) := Kw.store (c := (.bool s')) x7 rfl trivial _
            replace RX := RX.stored x7 (by decide) KW
            refine li2 KW zs zsd ?_; clear zs zsd; intro zs zsd
            replace x7 : Bx 24 ((W52).setCell ⟨g7, 0, none⟩ (.bool (Wd.ngb R.num))) (g7) [.bool (Wd.ngb R.num), .slice A' m1 f1, .slice D' m2 f2] := x7.set 0 (.bool (Wd.ngb R.num))
            replace UP := UP.setCell (p := ⟨g7, 0, none⟩) (by dsimp only; omega) (.bool (Wd.ngb R.num))
            have KW : Kw (((W52).setCell ⟨g7, 0, none⟩ (.bool (Wd.ngb R.num)))) ((((W52).setCell ⟨g7, 0, none⟩ (.bool (Wd.ngb R.num)))).setCell ⟨g7, 1, none⟩ (.slice Azs nzs czs)) := Kw.store (c := (.slice A' m1 f1)) x7 rfl trivial _
            replace RX := RX.stored x7 (by decide) KW
            revert zs zsd; refine lg2 KW ?_; intro zs zsd
            replace x7 : Bx 24 ((((W52).setCell ⟨g7, 0, none⟩ (.bool (Wd.ngb R.num)))).setCell ⟨g7, 1, none⟩ (.slice Azs nzs czs)) (g7) [.bool (Wd.ngb R.num), .slice Azs nzs czs, .slice D' m2 f2] := x7.set 1 (.slice Azs nzs czs)
            replace UP := UP.setCell (p := ⟨g7, 1, none⟩) (by dsimp only; omega) (.slice Azs nzs czs)
            have KW : Kw (((((W52).setCell ⟨g7, 0, none⟩ (.bool (Wd.ngb R.num)))).setCell ⟨g7, 1, none⟩ (.slice Azs nzs czs))) ((((((W52).setCell ⟨g7, 0, none⟩ (.bool (Wd.ngb R.num)))).setCell ⟨g7, 1, none⟩ (.slice Azs nzs czs))).setCell ⟨g7, 2, none⟩ (.slice Azsd nzsd czsd)) := Kw.store (c := (.slice D' m2 f2)) x7 rfl trivial _
            replace RX := RX.stored x7 (by decide) KW
            revert zs zsd; refine lg2 KW ?_; intro zs zsd
            replace x7 : Bx 24 ((((((W52).setCell ⟨g7, 0, none⟩ (.bool (Wd.ngb R.num)))).setCell ⟨g7, 1, none⟩ (.slice Azs nzs czs))).setCell ⟨g7, 2, none⟩ (.slice Azsd nzsd czsd)) (g7) [.bool (Wd.ngb R.num), .slice Azs nzs czs, .slice Azsd nzsd czsd] := x7.set 2 (.slice Azsd nzsd czsd)
            replace UP := UP.setCell (p := ⟨g7, 2, none⟩) (by dsimp only; omega) (.slice Azsd nzsd czsd)
            clear KW
            generalize ((((((W52).setCell ⟨g7, 0, none⟩ (.bool (Wd.ngb R.num)))).setCell ⟨g7, 1, none⟩ (.slice Azs nzs czs))).setCell ⟨g7, 2, none⟩ (.slice Azsd nzsd czsd)) = W53 at *
            clear x7_0 x7_1 x7_2
            obtain ⟨x7_0, x7_1, x7_2⟩ := x7.c3
            go_wp2_with fail
            go_roundw
            case rel => exact ⟨i + 1, _, _, _, _, _, _, _, by first | rfl | go_num | (congr 1; omega), by omega, by omega, x7, by rw [HR.out]; exact ⟨_, _, rfl, zs, zsd⟩, RX, UP⟩
            case measure => simp [intOf] <;> omega
         · have q4 : ¬ ((n - i : Nat) : Int) < (qs.length : Int) := by omega
           have HD : Hid ((Pq.mall ps qs (i + 1)).getD n 0 = (Pq.mall ps qs i).getD n 0) := Lib.hid (by rw [Pq.mall_step hin2, if_neg (by omega), Rat.add_zero])
           go_wp2_with fail
           go_roundw
           case rel => exact ⟨i + 1, _, _, _, _, _, _, _, by first | rfl | go_num | (congr 1; omega), by omega, by omega, x7, by rw [HD.out]; exact X, RX, UP⟩
           case measure => simp [intOf] <;> omega
       · have q2 : ¬ (i : Int) < (ps.length : Int) := by omega
         have HX : Hid ((Pq.mall ps qs i).getD n 0 = (Pq.mall ps qs ps.length).getD n 0) := Lib.hid (by rw [show i = ps.length by omega])
         have MR := RX.row
         have LP := LM.out ps.length (Nat.le_refl _) n
         rw [HX.out] at X
         obtain ⟨P, HP⟩ : ∃ P, Hid ((Pq.mall ps qs ps.length).getD n 0 = P) := ⟨_, Lib.hid rfl⟩
         rw [HP.out] at X HTK LP
         obtain ⟨y0, y1, y2⟩ := x7.c3
         have HA : Hid (QRow (j + k + 1) w (wr.alloc (.cells #[.bool s', .slice A' m1 f1, .slice D' m2 f2] 24)) (.slice C7 n c7) ((Pq.mall ps qs ps.length).take n)) := Lib.hid (MR.up ((Up.refl wr).alloc _))
         have HQ : Hid (Qk (j + k + 1) (wr.alloc (.cells #[.bool s', .slice A' m1 f1, .slice D' m2 f2] 24)) (.agg #[.bool s', .slice A' m1 f1, .slice D' m2 f2]) P) := Lib.hid ⟨X.up ((Up.refl wr).alloc _), LP⟩
         have HU := Lib.hid (UP.alloc (.cells #[.bool s', .slice A' m1 f1, .slice D' m2 f2] 24))
         clear MR X RX
         go_wp2_with (at_builtin; refine wl_append_q1 (kp_qk _) Tryz.underlying44 info_rfrac (w0 := w) rfl _ _ rfl rfl HA.out HU.out rfl (heap_alloc_new wr _) HQ.out (by rw [HTL.out]; omega) ?_; intro V8 W8 MR8 K8 G8 UP8)
         rw [← HTK.out] at MR8
         go_roundw
         case rel => exact ⟨n + 1, by go_num, by omega, MR8, UP8⟩
         case measure => simp [intOf]; omega
     · have q1 : ¬ (i : Int) ≤ (n : Int) := by omega
       have HX : Hid ((Pq.mall ps qs i).getD n 0 = (Pq.mall ps qs ps.length).getD n 0) := Lib.hid (by
        have := Pq.mall_more (p := ps) (q := qs) (n := n) (ps.length - i) i (by omega) (by omega)
        rw [← this, show i + (ps.length - i) = ps.length by omega])
       have MR := RX.row
       have LP := LM.out ps.length (Nat.le_refl _) n
       rw [HX.out] at X
       obtain ⟨P, HP⟩ : ∃ P, Hid ((Pq.mall ps qs ps.length).getD n 0 = P) := ⟨_, Lib.hid rfl⟩
       rw [HP.out] at X HTK LP
       obtain ⟨y0, y1, y2⟩ := x7.c3
       have HA : Hid (QRow (j + k + 1) w (wr.alloc (.cells #[.bool s', .slice A' m1 f1, .slice D' m2 f2] 24)) (.slice C7 n c7) ((Pq.mall ps qs ps.length).take n)) := Lib.hid (MR.up ((Up.refl wr).alloc _))
       have HQ : Hid (Qk (j + k + 1) (wr.alloc (.cells #[.bool s', .slice A' m1 f1, .slice D' m2 f2] 24)) (.agg #[.bool s', .slice A' m1 f1, .slice D' m2 f2]) P) := Lib.hid ⟨X.up ((Up.refl wr).alloc _), LP⟩
       have HU := Lib.hid (UP.alloc (.cells #[.bool s', .slice A' m1 f1, .slice D' m2 f2] 24))
       clear MR X RX
       go_wp2_with (at_builtin; refine wl_append_q1 (kp_qk _) Tryz.underlying44 info_rfrac (w0 := w) rfl _ _ rfl rfl HA.out HU.out rfl (heap_alloc_new wr _) HQ.out (by rw [HTL.out]; omega) ?_; intro V8 W8 MR8 K8 G8 UP8)
       rw [← HTK.out] at MR8
       go_roundw
       case rel => exact ⟨n + 1, by go_num, by omega, MR8, UP8⟩
       case measure => simp [intOf]; omega
  · obtain rfl : n = ps.length + qs.length := by omega
    rw [List.take_of_length_le (by have := HLEN.out; omega)] at MR
    have k1 : ¬ (ps.length : Int) + (qs.length : Int) < (ps.length : Int) + (qs.length : Int) := by omega
    have hlen : (Pq.mall ps qs ps.length).length ≤ 1000000 := by have := HLEN.out; omega
    obtain ⟨C7, c7, rfl⟩ := MR.form
    go_wp2_with fail
    ((with_reducible refine (ref_norm14 MR.q hlen (by omega)).mono ?_))
    rintro e W4 ⟨V4, rfl, R, u4⟩
    rw [HNM.out] at R
    go_wp2
    go_ret
    exact ⟨_, rfl, R.weaken UP, UP.trans u4⟩
end Go.Proofs.YtmmcffceeahemaaGreat
