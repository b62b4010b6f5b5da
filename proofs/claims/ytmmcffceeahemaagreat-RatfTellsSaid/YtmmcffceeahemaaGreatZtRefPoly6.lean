/-
  Layer 14, the document's answers: noughts; division.
-/
import Derived.Test.YtmmcffceeahemaaGreatZtRefDivMath2
import Derived.Test.YtmmcffceeahemaaGreatZtShort
set_option linter.unusedVariables false
set_option linter.unusedSimpArgs false
namespace Go.Proofs.YtmmcffceeahemaaGreat
open Go.RowKit
set_option maxRecDepth 100000 in
set_option maxHeartbeats 3200000 in
theorem ref_zero11 (n : Nat) {I : Int} (hI : I = (n : Int)) (hn : n ≤ 300) (w : World) : Calls Tryz.prog 119 #[.int .i64 I] w (RetQR 1 (List.replicate n (0 : Rat)) w) := by
 subst hI
 go_enter Tryz.func119, Tryz.ntmps119
 go_wp2_with fail
 go_loopw [3, 4] (fun s3 s4 wr => ∃ j : Nat, s4 = .int .i64 j ∧ j ≤ n ∧ QRow 1 w wr s3 (List.replicate j (0 : Rat)) ∧ Up w wr) (fun _ s4 _ => n - (intOf s4).toNat)
 case atStart => exact ⟨0, rfl, Nat.zero_le _, OwnQ.nil _ _ _ _, Up.refl w⟩
 case round =>
  obtain ⟨j, rfl, hj, MR, UW⟩ := hrel
  obtain ⟨P, HP⟩ : ∃ P, Hid ((0 : Rat) = P) := ⟨_, Lib.hid rfl⟩
  have HTK : Hid (List.replicate (j + 1) (0 : Rat) = List.replicate j (0 : Rat) ++ [P]) := Lib.hid (by rw [← HP.out]; exact List.replicate_succ')
  have HTL : Hid ((List.replicate j (0 : Rat)).length = j) := Lib.hid (List.length_replicate ..)
  obtain ⟨C7, c7, rfl⟩ := MR.form
  rw [HTL.out] at MR ⊢
  by_cases hlt : j < n
  · have k1 : (j : Int) < (n : Int) := by omega
    have k2 : (j : Int) < 300 := by omega
    go_wp2_with fail
    ((with_reducible refine (ref9_int0p _).mono ?_))
    rintro e W1 ⟨V1, rfl, y, u1⟩
    revert UW MR; refine lg2 u1 ?_; intro UW MR
    have LP : Wd.Lq P 1 := by rw [← HP.out]; exact lq0 (by omega)
    rw [HP.out] at y
    obtain ⟨Xy, Yy, rfl, y, yd⟩ := y
    obtain ⟨Ay, ny, cy, rfl⟩ := y.shape
    obtain ⟨Ayd, nyd, cyd, rfl⟩ := yd.shape
    have HA : Hid (QRow 1 w (W1.alloc (.cells #[.bool (Wd.ngb P.num), .slice Ay ny cy, .slice Ayd nyd cyd] 24)) (.slice C7 j c7) (List.replicate j (0 : Rat))) := Lib.hid (MR.up ((Up.refl W1).alloc _))
    have HQ : Hid (Qk 1 (W1.alloc (.cells #[.bool (Wd.ngb P.num), .slice Ay ny cy, .slice Ayd nyd cyd] 24)) (.agg #[.bool (Wd.ngb P.num), .slice Ay ny cy, .slice Ayd nyd cyd]) P) := Lib.hid ⟨Qw.up ⟨_, _, rfl, y, yd⟩ ((Up.refl W1).alloc _), LP⟩
    have HU := Lib.hid (UW.alloc (.cells #[.bool (Wd.ngb P.num), .slice Ay ny cy, .slice Ayd nyd cyd] 24))
    clear MR y yd
    go_wp2_with (at_builtin; refine wl_append_q1 (kp_qk _) Tryz.underlying44 info_rfrac (w0 := w) rfl _ _ rfl rfl HA.out HU.out rfl (heap_alloc_new W1 _) HQ.out (by rw [HTL.out]; omega) ?_; intro V8 W8 MR8 K8 G8 UP8)
    rw [← HTK.out] at MR8
    go_roundw
    case rel => exact ⟨j + 1, by go_num, by omega, MR8, UP8⟩
    case measure => simp [intOf]; omega
  · obtain rfl : j = n := by omega
    go_wp2
    go_ret
    exact ⟨_, rfl, MR, UW⟩
/-- What comes back: quotient and rest. -/
def RetDR (K : Nat) (q r : List Rat) (w : World) (e : Ending) (w' : World) : Prop := ∃ V R, e = .returned (.tuple #[V, R]) ∧ QRow K w w' V q ∧ QRow K w w' R r ∧ Up w w'
theorem QRow.own_q {k : Nat} {w0 w : World} {v : Value} {qs rs : List Rat} (h : QRow k w0 w v qs) (e : qs = rs) : QRow k w0 w v rs := e ▸ h
set_option maxRecDepth 100000 in
set_option maxHeartbeats 12800000 in
theorem ref_div14 {v u : Value} {a b : List Rat} {ka kb j k Z : Nat} {w : World} (h : QSq ka w v a) (h2 : QSq kb w u b) (ta : Pq.Tr a) (tb : Pq.Tr b) (hne : b ≠ []) (hl : a.length ≤ 299) (hl2 : b.length ≤ 299) (hka : ka ≤ 2400000) (hkb : kb ≤ 2400000) (LA : Pq.Lp a j) (LB : Pq.Lp b k) (hK : j + k + (a.length + 1) * (k + 1) ≤ Z) (hKK : Z + k + k + 10 ≤ 2400000) (hj : ka ≤ Z) :
 Calls Tryz.prog 48 #[v, u] w (RetDR Z (Pq.dq a b) (Pq.dr a b) w) := by
 have hb1 : 1 ≤ b.length := List.length_pos_iff.2 hne
 have hk1 := LB.one_le
 have hK1 : 1 ≤ Z := Nat.le_trans LA.one_le (by omega)
 have HST := Lib.hid (Pq.Dt.start (b := b) ta LA (show j ≤ Z by omega))
 have HRD : Hid (∀ q r c, Pq.Dt a b Z q r → b.length ≤ r.length → c = r.getD (r.length - 1) 0 / b.getD (b.length - 1) 0 → Pq.Dt a b Z (Pq.nm (Pq.add q (Pq.tm (r.length - b.length) c))) (Pq.nm (Pq.sub r (Pq.nm (Pq.mul (Pq.tm (r.length - b.length) c) b)))) ∧ (Pq.nm (Pq.sub r (Pq.nm (Pq.mul (Pq.tm (r.length - b.length) c) b)))).length < r.length) := Lib.hid (fun q r c hd hl hc => hd.round ta LA tb LB hne hK hl hc)
 have HFI : Hid (∀ q r, Pq.Dt a b Z q r → r.length < b.length → q = Pq.dq a b ∧ r = Pq.dr a b) := Lib.hid (fun q r hd hl => hd.fin tb hne hl)
 have HNA : Hid (Pq.nm a = a) := Lib.hid (Pq.nm_of_tr ta)
 have HLB := Lib.hid LB
 have HLQB := Lib.hid h2.lq
 obtain ⟨A, cv, rfl⟩ := h.form
 obtain ⟨B, cu, rfl⟩ := h2.form
 have H := Lib.hid h
 have H2 := Lib.hid h2
 clear h h2 ta tb LA LB hne hK
 go_enter Tryz.func48, Tryz.ntmps48
 go_wp2_with fail
 ((with_reducible refine (rnorm_as H.out (by omega) (by omega) HNA).mono ?_))
 rintro e W1 ⟨V1, rfl, R1, u1⟩
 have R1 := QRow.re (k := Z) R1 (fun q hq => (H.out.lq q hq).mono hj)
 have HR1 := Lib.hid R1
 have HU1 := Lib.hid u1
 clear R1 u1
 go_wp2_with fail
 go_loopw [6, 7] (fun s6 s7 wr => ∃ q r : List Rat, Hid (Pq.Dt a b Z q r) ∧ QRow Z w wr s6 q ∧ QRow Z w wr s7 r ∧ Up w wr) (fun _ s7 _ => lenV s7)
 case atStart => exact ⟨[], a, HST, OwnQ.nil _ _ _ _, HR1.out, HU1.out⟩
 case round =>
  obtain ⟨q, r, HD, MQ, MR, UP⟩ := hrel
  obtain ⟨D6, d6, rfl⟩ := MQ.form
  obtain ⟨E7, e7, rfl⟩ := MR.form
  have hrl := HD.out.2.2.2.2.2.1
  have hql := HD.out.2.2.2.2.2.2.1
  by_cases hge : b.length ≤ r.length
  · have k1 : (r.length : Int) ≥ (b.length : Int) := by omega
    have LR := Lib.hid HD.out.2.2.2.1
    have HRV := Lib.hid MR
    have hr1 : r.length - 1 < r.length := by omega
    have hb2 : b.length - 1 < b.length := by omega
    obtain ⟨b1, o1, s1, B1, x1, f1, D1, y1, z1, e1, hb1', g1, g2, g3, FX0⟩ := Sq.at_ (kp_qk Z) MR.q.sq hr1
    obtain ⟨b2, o2, s2, B2, x2, f2, D2, y2, z2, e2, hb2', g4, g5, g6, FY0⟩ := Sq.at_ (kp_qk kb) H2.out.sq hb2
    subst e1 e2
    have FX : Qk Z wr (.agg #[.bool s1, .slice B1 x1 f1, .slice D1 y1 z1]) r[r.length - 1] := FX0
    have FY : Qk kb w (.agg #[.bool s2, .slice B2 x2 f2, .slice D2 y2 z2]) b[b.length - 1] := FY0
    have FY := FY.up UP
    have LX := LR.out.lq _ (List.getElem_mem hr1)
    have LY := HLB.out.lq _ (List.getElem_mem hb2)
    have hnz : Hid (r[r.length - 1] = r.getD (r.length - 1) 0 ∧ b[b.length - 1] = b.getD (b.length - 1) 0) := Lib.hid ⟨(Pq.getD_at hr1).symm, (Pq.getD_at hb2).symm⟩
    have p4 := UP.keeps g4
    have p5 := UP.keeps g5
    have p6 := UP.keeps g6
    clear g4 g5 g6 FX0 FY0
    generalize r[r.length - 1] = rt at *
    generalize b[b.length - 1] = bt at *
    obtain ⟨c, HC⟩ : ∃ c, Hid (rt / bt = c) := ⟨_, Lib.hid rfl⟩
    have LC : Wd.Lq c (Z + k) := by rw [← HC.out]; exact LX.div LY
    obtain ⟨HD2, hlt2⟩ := HRD.out q r c HD.out hge (by rw [← HC.out, hnz.out.1, hnz.out.2])
    have HD2 := Lib.hid HD2
    have HLT2 := Lib.hid hlt2
    clear hlt2 hnz
    have LT := Lib.hid (Pq.Lp.tm LC (r.length - b.length) (by omega))
    have HTL := Lib.hid (Pq.tm_len (r.length - b.length) c)
    have HTM : Hid (Pq.tm (r.length - b.length) c = List.replicate (r.length - b.length) 0 ++ [c]) := Lib.hid rfl
    have hw1 : IntKind.i64.wrap ((r.length : Int) - 1) = ((r.length - 1 : Nat) : Int) := by rw [IntKind.wrap_i64]; omega
    have hw2 : IntKind.i64.wrap ((b.length : Int) - 1) = ((b.length - 1 : Nat) : Int) := by rw [IntKind.wrap_i64]; omega
    have hw3 : IntKind.i64.wrap ((r.length : Int) - (b.length : Int)) = ((r.length - b.length : Nat) : Int) := by rw [IntKind.wrap_i64]; omega
    have q1 : ((r.length - 1 : Nat) : Int) < (r.length : Int) := by omega
    have q2 : ((b.length - 1 : Nat) : Int) < (b.length : Int) := by omega
    have q3 : (0 : Int) ≤ ((r.length - 1 : Nat) : Int) := by omega
    have q4 : (0 : Int) ≤ ((b.length - 1 : Nat) : Int) := by omega
    have q5 : (((r.length - 1 : Nat) : Int)).toNat = r.length - 1 := by omega
    have q6 : (((b.length - 1 : Nat) : Int)).toNat = b.length - 1 := by omega
    have hnl : r.length - b.length ≤ 300 := by omega
    obtain ⟨n, HN⟩ : ∃ n, Hid (r.length - b.length = n) := ⟨_, Lib.hid rfl⟩
    rw [HN.out] at HD2 HLT2 LT HTL HTM hw3 hnl
    have LMM := LT.out.mul HLB.out (by rw [HTL.out]; omega)
    have LLM : Hid ((Pq.nm (Pq.mul (Pq.tm n c) b)).length ≤ 1000000) := Lib.hid (Nat.le_trans (Pq.nm_len _) (Nat.le_trans (Pq.mul_le _ _) (by rw [HTL.out]; omega)))
    obtain ⟨m', HM'⟩ : ∃ x, Hid (Pq.nm (Pq.mul (Pq.tm n c) b) = x) := ⟨_, Lib.hid rfl⟩
    rw [HM'.out] at HD2 HLT2 LMM LLM
    obtain ⟨q', HQ'⟩ : ∃ x, Hid (Pq.nm (Pq.add q (Pq.tm n c)) = x) := ⟨_, Lib.hid rfl⟩
    obtain ⟨r', HR'⟩ : ∃ x, Hid (Pq.nm (Pq.sub r m') = x) := ⟨_, Lib.hid rfl⟩
    rw [HQ'.out, HR'.out] at HD2
    rw [HR'.out] at HLT2
    have LM' := Lib.hid LMM.lq
    have LQ' := Lib.hid HD2.out.2.2.2.2.1.lq
    have LR' := Lib.hid HD2.out.2.2.2.1.lq
    clear LMM
    generalize r.length - 1 = ir at *
    generalize b.length - 1 = ib at *
    have HOLD : Hid (∀ w', Up wr w' → w'.cell? ⟨b1, o1 + ir * 3, none⟩ = some (.bool s1) ∧ w'.cell? ⟨b1, o1 + ir * 3 + 1, none⟩ = some (.slice B1 x1 f1) ∧ w'.cell? ⟨b1, o1 + ir * 3 + 2, none⟩ = some (.slice D1 y1 z1) ∧ w'.cell? ⟨b2, o2 + ib * 3, none⟩ = some (.bool s2) ∧ w'.cell? ⟨b2, o2 + ib * 3 + 1, none⟩ = some (.slice B2 x2 f2) ∧ w'.cell? ⟨b2, o2 + ib * 3 + 2, none⟩ = some (.slice D2 y2 z2)) := Lib.hid (fun w' up => ⟨up.keeps g1, up.keeps g2, up.keeps g3, up.keeps p4, up.keeps p5, up.keeps p6⟩)
    clear g1 g2 g3 p4 p5 p6
    have HMQ := Lib.hid MQ
    have HUP := Lib.hid UP
    clear MQ MR UP
    have FXw := FX.qw
    have FYw := FY.qw
    clear FX FY
    have UP : Up wr wr := Up.refl wr
    have UP := Up.refl wr
    go_wp2_with fail
    revert FXw FYw UP; refine lg3 (Up.refl wr).drew ?_; intro FXw FYw UP
    refine wp_region_noPanic ?_
    refine wp_region_held_drew (S := fun w' => Up wr w' ∧ (w'.cell? ⟨b1, o1 + ir * 3, none⟩ = some (.bool s1) ∧ w'.cell? ⟨b1, o1 + ir * 3 + 1, none⟩ = some (.slice B1 x1 f1) ∧ w'.cell? ⟨b1, o1 + ir * 3 + 2, none⟩ = some (.slice D1 y1 z1) ∧ w'.cell? ⟨b2, o2 + ib * 3, none⟩ = some (.bool s2) ∧ w'.cell? ⟨b2, o2 + ib * 3 + 1, none⟩ = some (.slice B2 x2 f2) ∧ w'.cell? ⟨b2, o2 + ib * 3 + 2, none⟩ = some (.slice D2 y2 z2))) (by kernel_rfl) (by exact ⟨UP, HOLD.out _ UP⟩) (fun hHeld => ?_)
    clear hHeld
    generalize wr.drew = WC at *
    have hHeld : Up wr WC ∧ (WC.cell? ⟨b1, o1 + ir * 3, none⟩ = some (.bool s1) ∧ WC.cell? ⟨b1, o1 + ir * 3 + 1, none⟩ = some (.slice B1 x1 f1) ∧ WC.cell? ⟨b1, o1 + ir * 3 + 2, none⟩ = some (.slice D1 y1 z1) ∧ WC.cell? ⟨b2, o2 + ib * 3, none⟩ = some (.bool s2) ∧ WC.cell? ⟨b2, o2 + ib * 3 + 1, none⟩ = some (.slice B2 x2 f2) ∧ WC.cell? ⟨b2, o2 + ib * 3 + 2, none⟩ = some (.slice D2 y2 z2)) := by exact ⟨UP, HOLD.out _ UP⟩
    refine tk 0 ?_
    try simp only [gs, Act.put]
    refine tk 1 ?_
    try simp only [gs, Act.put]
    refine tk 2 ?_
    try simp only [gs, Act.put]
    refine tk 3 ?_
    try simp only [gs, Act.put]
    refine tk 4 ?_
    try simp only [gs, Act.put]
    refine tk 5 ?_
    try simp only [gs, Act.put]
    refine tk 6 ?_
    try simp only [gs, Act.put]
    refine tk 7 ?_
    try simp only [gs, Act.put]
    refine tk 8 ?_
    try simp only [gs, Act.put]
    refine tk 9 ?_
    try simp only [gs, Act.put]
    refine tk 10 ?_
    try simp only [gs, Act.put]
    refine tk 11 ?_
    try simp only [gs, Act.put]
    repeat' first
     | refine wpAnyH_ready (rs := [12, 13]) (by decide +kernel) (by simp) ?_
     | refine wpAnyH_ready (rs := [12]) (by decide +kernel) (by simp) ?_
     | refine wpAnyH_ready (rs := [13]) (by decide +kernel) (by simp) ?_
     | refine wpAnyH_ready (rs := [14]) (by decide +kernel) (by simp) ?_
     | refine AllReadyH.cons (i := 12) rfl (fun K hK12 => ?_) ?_
     | refine AllReadyH.cons (i := 13) rfl (fun K hK13 => ?_) ?_
     | refine AllReadyH.cons (i := 14) rfl (fun K hK14 => ?_) ?_
     | exact AllReadyH.nil
     | (have hK := hK12
        clear hK12
        (try clear hHeld)
        go_simp
        go_at_call 100
        ((with_reducible refine (ref9_quo FXw FYw LX LY (by omega) (by omega)).mono ?_))
        rintro e WD ⟨V12, rfl, y, uu⟩
        refine li3 uu FXw FYw UP ?_; clear FXw FYw UP; intro FXw FYw UP
        try (replace yd := yd.up uu)
        try (replace x1 := x1.up uu)
        clear uu
        obtain ⟨WC, hWC⟩ : ∃ W, W = WD := ⟨_, rfl⟩
        subst hWC
        rw [HC.out] at y
        obtain ⟨Xy, Yy, rfl, y, yd⟩ := y
        obtain ⟨Ay, ny, cy, rfl⟩ := y.shape
        obtain ⟨Ayd, nyd, cyd, rfl⟩ := yd.shape
        try go_wp2_with fail
        refine hK.out _ _ (by exact ⟨UP, HOLD.out _ UP⟩) (fun hHeld => ?_)
        clear hK K
        try simp only [gs, Act.put])
     | (have hK := hK13
        clear hK13
        (try clear hHeld)
        go_simp
        have x1 := Bx.new 24 WC [.bool false, .slice none 0 0, .slice none 0 0]
        have x1_base := UP.size
        have nu := ((Up.refl WC).alloc (.cells #[.bool false, .slice none 0 0, .slice none 0 0] 24))
        refine li3 nu FXw FYw UP ?_; clear FXw FYw UP; intro FXw FYw UP
        try (replace y := y.up nu)
        try (replace yd := yd.up nu)
        clear nu
        generalize WC.alloc (.cells #[.bool false, .slice none 0 0, .slice none 0 0] 24) = WD at *
        generalize WC.heap.size = gx1 at *
        obtain ⟨WC, hWC⟩ : ∃ W, W = WD := ⟨_, rfl⟩
        subst hWC
        refine hK.out _ _ (by exact ⟨UP, HOLD.out _ UP⟩) (fun hHeld => ?_)
        clear hK K
        try simp only [gs, Act.put])
     | (have hK := hK14
        clear hK14
        (try clear hHeld)
        obtain ⟨ce0, ce1, ce2⟩ := x1.c3
        have fr0 := x1.free 0
        have fr1 := x1.free 1
        have fr2 := x1.free 2
        go_simp
        clear ce0 ce1 ce2 fr0 fr1 fr2
        have KW : Kw (WC) ((WC).setCell ⟨gx1, 0, none⟩ (.bool (Wd.ngb c.num))) := Kw.store (c := (.bool false)) x1 rfl trivial _
        refine li2 KW FXw FYw ?_; clear FXw FYw; intro FXw FYw
        try (replace y := y.kw KW)
        try (replace yd := yd.kw KW)
        replace x1 : Bx 24 ((WC).setCell ⟨gx1, 0, none⟩ (.bool (Wd.ngb c.num))) (gx1) [.bool (Wd.ngb c.num), .slice none 0 0, .slice none 0 0] := x1.set 0 (.bool (Wd.ngb c.num))
        replace UP := UP.setCell (p := ⟨gx1, 0, none⟩) (by dsimp only; omega) (.bool (Wd.ngb c.num))
        have KW : Kw (((WC).setCell ⟨gx1, 0, none⟩ (.bool (Wd.ngb c.num)))) ((((WC).setCell ⟨gx1, 0, none⟩ (.bool (Wd.ngb c.num)))).setCell ⟨gx1, 1, none⟩ (.slice Ay ny cy)) := Kw.store (c := (.slice none 0 0)) x1 rfl trivial _
        revert FXw FYw; refine lg2 KW ?_; intro FXw FYw
        try (replace y := y.kw KW)
        try (replace yd := yd.kw KW)
        replace x1 : Bx 24 ((((WC).setCell ⟨gx1, 0, none⟩ (.bool (Wd.ngb c.num)))).setCell ⟨gx1, 1, none⟩ (.slice Ay ny cy)) (gx1) [.bool (Wd.ngb c.num), .slice Ay ny cy, .slice none 0 0] := x1.set 1 (.slice Ay ny cy)
        replace UP := UP.setCell (p := ⟨gx1, 1, none⟩) (by dsimp only; omega) (.slice Ay ny cy)
        have KW : Kw (((((WC).setCell ⟨gx1, 0, none⟩ (.bool (Wd.ngb c.num)))).setCell ⟨gx1, 1, none⟩ (.slice Ay ny cy))) ((((((WC).setCell ⟨gx1, 0, none⟩ (.bool (Wd.ngb c.num)))).setCell ⟨gx1, 1, none⟩ (.slice Ay ny cy))).setCell ⟨gx1, 2, none⟩ (.slice Ayd nyd cyd)) := Kw.store (c := (.slice none 0 0)) x1 rfl trivial _
        revert FXw FYw; refine lg2 KW ?_; intro FXw FYw
        try (replace y := y.kw KW)
        try (replace yd := yd.kw KW)
        replace x1 : Bx 24 ((((((WC).setCell ⟨gx1, 0, none⟩ (.bool (Wd.ngb c.num)))).setCell ⟨gx1, 1, none⟩ (.slice Ay ny cy))).setCell ⟨gx1, 2, none⟩ (.slice Ayd nyd cyd)) (gx1) [.bool (Wd.ngb c.num), .slice Ay ny cy, .slice Ayd nyd cyd] := x1.set 2 (.slice Ayd nyd cyd)
        replace UP := UP.setCell (p := ⟨gx1, 2, none⟩) (by dsimp only; omega) (.slice Ayd nyd cyd)
        clear KW
        generalize ((((((WC).setCell ⟨gx1, 0, none⟩ (.bool (Wd.ngb c.num)))).setCell ⟨gx1, 1, none⟩ (.slice Ay ny cy))).setCell ⟨gx1, 2, none⟩ (.slice Ayd nyd cyd)) = WD at *
        obtain ⟨WC, hWC⟩ : ∃ W, W = WD := ⟨_, rfl⟩
        subst hWC
        refine hK.out _ _ (by exact ⟨UP, HOLD.out _ UP⟩) (fun hHeld => ?_)
        clear hK K
        try simp only [gs, Act.put])
     | refine wpAnyH_done (by decide +kernel) (NoPanic.normal ?_) _
     | fail
    all_goals try clear hHeld
    all_goals obtain ⟨x1_0, x1_1, x1_2⟩ := x1.c3
    all_goals
     clear FXw FYw
     have HQ0 := Lib.hid (Qk.mk' y yd LC)
     have HB := Lib.hid x1
     have HUC := Lib.hid (HUP.out.trans UP)
     have HMR := Lib.hid ((HRV.out.up UP))
     have HMQ2 := Lib.hid ((HMQ.out.up UP))
     have HH2 := Lib.hid (H2.out.up HUC.out)
     clear HOLD HRV HMQ HUP x1 x1_0 x1_1 x1_2 y yd UP
     have UP := Up.refl WC
     have HOLD : Hid (∀ w', Up WC w' → w'.cell? ⟨gx1, 0, none⟩ = some (.bool (Wd.ngb c.num)) ∧ w'.cell? ⟨gx1, 1, none⟩ = some (.slice Ay ny cy) ∧ w'.cell? ⟨gx1, 2, none⟩ = some (.slice Ayd nyd cyd)) := Lib.hid (fun w' up => (HB.out.up up).c3)
     go_wp2_with fail
     replace UP := UP.trans (Up.refl WC).drew
     refine wp_region_noPanic ?_
     refine wp_region_held_drew (S := fun w' => Up WC w' ∧ w'.cell? ⟨gx1, 0, none⟩ = some (.bool (Wd.ngb c.num)) ∧ w'.cell? ⟨gx1, 1, none⟩ = some (.slice Ay ny cy) ∧ w'.cell? ⟨gx1, 2, none⟩ = some (.slice Ayd nyd cyd)) (by kernel_rfl) (by exact ⟨UP, HOLD.out _ UP⟩) (fun hHeld => ?_)
     generalize WC.drew = W0 at *
     refine tk 0 ?_
     try simp only [gs, Act.put]
     refine tk 1 ?_
     try simp only [gs, Act.put]
     refine tk 2 ?_
     try simp only [gs, Act.put]
     refine tk 3 ?_
     try simp only [gs, Act.put]
     refine tk 4 ?_
     try simp only [gs, Act.put]
     refine tk 6 ?_
     try simp only [gs, Act.put]
     refine wpAnyH_ready (rs := [5, 7]) (by decide +kernel) (by simp) ?_
     refine AllReadyH.cons rfl (fun K hK => ?_) (AllReadyH.cons rfl (fun K hK => ?_) AllReadyH.nil)
     · clear hHeld
       go_simp
       go_at_call 119
       refine (ref_zero11 n rfl hnl _).mono ?_
       rintro e W2 ⟨V2, rfl, MZ, u2⟩
       replace MZ := (MZ.weaken UP).re (k := Z + k) (fun x hx => by rw [(List.mem_replicate.1 hx).2]; exact lq0 (by omega))
       replace UP := UP.trans u2
       clear u2
       try go_wp2_with fail
       refine hK.out _ _ (by exact ⟨UP, HOLD.out _ UP⟩) (fun hHeld => ?_)
       clear hK K
       try simp only [gs, Act.put]
       refine rd 7 (fun K hK => ?_)
       clear hHeld
       go_simp
       have hblk := heap_alloc_new W2 (.cells #[.bool (Wd.ngb c.num), .slice Ay ny cy, .slice Ayd nyd cyd] 24)
       have HQ := Lib.hid (show Qk (Z + k) (W2.alloc (.cells #[.bool (Wd.ngb c.num), .slice Ay ny cy, .slice Ayd nyd cyd] 24)) (.agg #[.bool (Wd.ngb c.num), .slice Ay ny cy, .slice Ayd nyd cyd]) c from (HQ0.out.up UP).up ((Up.refl W2).alloc _))
       replace MZ := MZ.up ((Up.refl W2).alloc (.cells #[.bool (Wd.ngb c.num), .slice Ay ny cy, .slice Ayd nyd cyd] 24))
       replace UP := UP.alloc (.cells #[.bool (Wd.ngb c.num), .slice Ay ny cy, .slice Ayd nyd cyd] 24)
       generalize W2.alloc (.cells #[.bool (Wd.ngb c.num), .slice Ay ny cy, .slice Ayd nyd cyd] 24) = W3 at *
       generalize W2.heap.size = g3 at *
       refine hK.out _ _ (by exact ⟨UP, HOLD.out _ UP⟩) (fun hHeld => ?_)
       clear hK K
       try simp only [gs, Act.put]
       refine rd 8 (fun K hK => ?_)
       clear hHeld
       refine step_append_q (kp_qk _) Tryz.underlying44 info_rfrac (w0 := WC) (by rfl) _ _ (by rfl) (by rfl) MZ UP (by rfl) hblk HQ.out (by rw [List.length_replicate]; omega) ?_
       intro V8 W8 MT K8 G8 UP8
       rw [← HTM.out] at MT
       refine hK.out _ _ (by exact ⟨UP8, HOLD.out _ UP8⟩) (fun hHeld => ?_)
       clear hK K
       try simp only [gs, Act.put]
       refine tk 9 ?_
       try simp only [gs, Act.put]
       refine wpAnyH_done (by decide +kernel) (NoPanic.normal ?_) _
       clear hHeld hblk HQ K8 G8 MZ UP
       have MT := QRow.re (k := Z + k + 1) MT LT.out.lq
       obtain ⟨T8, t8, rfl⟩ := MT.form
       have MQ := HMQ2.out.up UP8
       have MR := HMR.out.up UP8
       have lt9 : (Pq.tm n c).length ≤ 10000 := by rw [HTL.out]; omega
       clear HMQ2 HMR HOLD HQ0 HB
       go_wp2_with fail
       ((with_reducible refine (ref_add14_as MQ.q MT.q (by omega) (by omega) (by omega) (by omega) (by omega) (by omega) HQ' LQ').mono ?_))
       rintro e W9 ⟨V9, rfl, NQ, u9⟩
       revert MT MR; refine lg2 u9 ?_; intro MT MR
       have UP9 := UP8.trans u9
       clear MQ
       go_wp2_with fail
       ((with_reducible refine (rmul_as (Z + k + 1) k MT.q (HH2.out.up UP9) LT.out HLB.out (by omega) (by omega) (by omega) (by omega) (by omega) HM' LM').mono ?_))
       rintro e W10 ⟨V10, rfl, NM, u10⟩
       go_wp2_with fail
       ((with_reducible refine (ref_sub14 (MR.up u10).q NM.q (by omega) LLM.out (by omega) (by omega) (by omega) (by omega) HR' LR').mono ?_))
       rintro e W11 ⟨V11, rfl, NR, u11⟩
       obtain ⟨T9, t9, rfl⟩ := NR.form
       have UA := HUC.out.trans UP8
       have UB := (HUC.out.trans UP9).trans u10
       go_wp2_with fail
       go_roundw
       case rel => exact ⟨q', r', HD2, ((NQ.weaken UA).up u10).up u11, NR.weaken UB, UB.trans u11⟩
       case measure => exact HLT2.out
     · clear hHeld
       go_simp
       have hblk := heap_alloc_new W0 (.cells #[.bool (Wd.ngb c.num), .slice Ay ny cy, .slice Ayd nyd cyd] 24)
       have HQ1 := Lib.hid (show Qk (Z + k) (W0.alloc (.cells #[.bool (Wd.ngb c.num), .slice Ay ny cy, .slice Ayd nyd cyd] 24)) (.agg #[.bool (Wd.ngb c.num), .slice Ay ny cy, .slice Ayd nyd cyd]) c from (HQ0.out.up UP).up ((Up.refl W0).alloc _))
       have hbx := Bx.new 24 W0 [.bool (Wd.ngb c.num), .slice Ay ny cy, .slice Ayd nyd cyd]
       clear hblk
       replace UP := UP.alloc (.cells #[.bool (Wd.ngb c.num), .slice Ay ny cy, .slice Ayd nyd cyd] 24)
       have hbx : Bx 24 (W0.alloc (.cells #[.bool (Wd.ngb c.num), .slice Ay ny cy, .slice Ayd nyd cyd] 24)) W0.heap.size [.bool (Wd.ngb c.num), .slice Ay ny cy, .slice Ayd nyd cyd] := hbx
       generalize W0.alloc (.cells #[.bool (Wd.ngb c.num), .slice Ay ny cy, .slice Ayd nyd cyd] 24) = W2 at *
       generalize W0.heap.size = g3 at *
       refine hK.out _ _ (by exact ⟨UP, HOLD.out _ UP⟩) (fun hHeld => ?_)
       clear hK K
       try simp only [gs, Act.put]
       refine rd 5 (fun K hK => ?_)
       clear hHeld
       go_simp
       go_at_call 119
       refine (ref_zero11 n rfl hnl _).mono ?_
       rintro e W3 ⟨V2, rfl, MZ, u2⟩
       replace MZ := (MZ.weaken UP).re (k := Z + k) (fun x hx => by rw [(List.mem_replicate.1 hx).2]; exact lq0 (by omega))
       have hblk : W3.heap[g3]? = some (.cells #[.bool (Wd.ngb c.num), .slice Ay ny cy, .slice Ayd nyd cyd] 24 (0, 0)) := hbx.up u2
       have HQ := Lib.hid (HQ1.out.up u2)
       replace UP := UP.trans u2
       clear u2 hbx HQ1
       try go_wp2_with fail
       refine hK.out _ _ (by exact ⟨UP, HOLD.out _ UP⟩) (fun hHeld => ?_)
       clear hK K
       try simp only [gs, Act.put]
       refine rd 8 (fun K hK => ?_)
       clear hHeld
       refine step_append_q (kp_qk _) Tryz.underlying44 info_rfrac (w0 := WC) (by rfl) _ _ (by rfl) (by rfl) MZ UP (by rfl) hblk HQ.out (by rw [List.length_replicate]; omega) ?_
       intro V8 W8 MT K8 G8 UP8
       rw [← HTM.out] at MT
       refine hK.out _ _ (by exact ⟨UP8, HOLD.out _ UP8⟩) (fun hHeld => ?_)
       clear hK K
       try simp only [gs, Act.put]
       refine tk 9 ?_
       try simp only [gs, Act.put]
       refine wpAnyH_done (by decide +kernel) (NoPanic.normal ?_) _
       clear hHeld hblk HQ K8 G8 MZ UP
       have MT := QRow.re (k := Z + k + 1) MT LT.out.lq
       obtain ⟨T8, t8, rfl⟩ := MT.form
       have MQ := HMQ2.out.up UP8
       have MR := HMR.out.up UP8
       have lt9 : (Pq.tm n c).length ≤ 10000 := by rw [HTL.out]; omega
       clear HMQ2 HMR HOLD HQ0 HB
       go_wp2_with fail
       ((with_reducible refine (ref_add14_as MQ.q MT.q (by omega) (by omega) (by omega) (by omega) (by omega) (by omega) HQ' LQ').mono ?_))
       rintro e W9 ⟨V9, rfl, NQ, u9⟩
       revert MT MR; refine lg2 u9 ?_; intro MT MR
       have UP9 := UP8.trans u9
       clear MQ
       go_wp2_with fail
       ((with_reducible refine (rmul_as (Z + k + 1) k MT.q (HH2.out.up UP9) LT.out HLB.out (by omega) (by omega) (by omega) (by omega) (by omega) HM' LM').mono ?_))
       rintro e W10 ⟨V10, rfl, NM, u10⟩
       go_wp2_with fail
       ((with_reducible refine (ref_sub14 (MR.up u10).q NM.q (by omega) LLM.out (by omega) (by omega) (by omega) (by omega) HR' LR').mono ?_))
       rintro e W11 ⟨V11, rfl, NR, u11⟩
       obtain ⟨T9, t9, rfl⟩ := NR.form
       have UA := HUC.out.trans UP8
       have UB := (HUC.out.trans UP9).trans u10
       go_wp2_with fail
       go_roundw
       case rel => exact ⟨q', r', HD2, ((NQ.weaken UA).up u10).up u11, NR.weaken UB, UB.trans u11⟩
       case measure => exact HLT2.out
  · have k1 : ¬ (r.length : Int) ≥ (b.length : Int) := by omega
    obtain ⟨eq, er⟩ := HFI.out q r HD.out (by omega)
    have HNQ : Hid (Pq.nm q = q) := Lib.hid (Pq.nm_of_tr HD.out.1)
    have EQ := Lib.hid eq
    have ER := Lib.hid er
    clear eq er
    go_wp2_with fail
    ((with_reducible refine (rnorm_as MQ.q (by omega) (by omega) HNQ).mono ?_))
    rintro e W4 ⟨V4, rfl, R4, u4⟩
    go_wp2
    go_ret2
    exact ⟨_, _, rfl, (R4.weaken UP).own_q EQ.out, (MR.up u4).own_q ER.out, UP.trans u4⟩
end Go.Proofs.YtmmcffceeahemaaGreat
