/-
  Layer 14, the document's answers: a coefficient, sums, multiples, differences, derivatives.
-/
import Derived.Test.YtmmcffceeahemaaGreatZtRefPoly
import Derived.Test.YtmmcffceeahemaaGreatZtShort
set_option linter.unusedVariables false
set_option linter.unusedSimpArgs false
namespace Pq
def addT (p q : List Rat) (j : Nat) : List Rat := (List.range j).map (fun i => p.getD i 0 + q.getD i 0)
theorem addT_len (p q : List Rat) (j : Nat) : (addT p q j).length = j := by simp [addT]
theorem addT_succ (p q : List Rat) (j : Nat) : addT p q (j + 1) = addT p q j ++ [p.getD j 0 + q.getD j 0] := by simp [addT, List.range_succ]
theorem addT_all (p q : List Rat) : addT p q (max p.length q.length) = add p q := by
 refine List.ext_getElem (by rw [addT_len, add_len]) fun i h1 h2 => ?_
 rw [← getD_at h2, add_getD]
 simp [addT]
theorem sc_take (c : Rat) {p : List Rat} {j : Nat} (h : j < p.length) : sc c (p.take (j + 1)) = sc c (p.take j) ++ [c * p[j]] := by
 unfold sc; rw [List.take_succ_eq_append_getElem h, List.map_append]; rfl
theorem sc_take_len (c : Rat) {p : List Rat} {j : Nat} (h : j ≤ p.length) : (sc c (p.take j)).length = j := by rw [sc_len, List.length_take]; omega
end Pq
namespace Go.Proofs.YtmmcffceeahemaaGreat
open Go.RowKit
theorem lq0 {k : Nat} (hk : 1 ≤ k) : Wd.Lq 0 k := ((Pq.Cm.zero 1 0).lq (k := 1) (by omega) (by rw [Nat.pow_one]; have := Pq.B2; omega) (by rw [Nat.pow_one]; have := Pq.B2; omega) (by omega)).mono hk
theorem Qk.mk' {w : World} {u d : Value} {q : Rat} {k : Nat} (h : Ws w u (Wd.words q.num.natAbs)) (h2 : Ws w d (Wd.words q.den)) (hk : Wd.Lq q k) : Qk k w (.agg #[.bool (Wd.ngb q.num), u, d]) q := ⟨⟨_, _, rfl, h, h2⟩, hk⟩
theorem ref9_int0p (w : World) : Calls Tryz.prog 65 #[.int .i64 0] w (RetQ 0 w) := ref9_int (n := 0) (by omega) w
set_option maxRecDepth 100000 in
set_option maxHeartbeats 3200000 in
theorem ref_at14 {v : Value} {qs : List Rat} {k : Nat} {w : World} (i : Nat) {I : Int} (hI : I = (i : Int)) (h : QSq k w v qs) (hl : qs.length ≤ 1000000) : Calls Tryz.prog 114 #[v, .int .i64 I] w (RetQ (qs.getD i 0) w) := by
 subst hI
 obtain ⟨A, cv, rfl⟩ := h.form
 by_cases hlt : i < qs.length
 · obtain ⟨b, o, s, B, m0, f, D, n', f', e0, hb, g1, g2, g3, FX⟩ := h.sq.at_ (kp_qk k) hlt
   subst e0
   have HD : Hid (qs.getD i 0 = qs[i]) := Lib.hid (Pq.getD_at hlt)
   generalize qs[i] = q at *
   rw [HD.out]
   have FX : Qk k w (.agg #[.bool s, .slice B m0 f, .slice D n' f']) q := FX
   have FW := FX.qw
   clear FX h
   have k1 : (i : Int) < (qs.length : Int) := by omega
   have k0 : (0 : Int) ≤ (i : Int) := by omega
   have kk : ((i : Int)).toNat = i := by omega
   have a1 := fun O => cell_alloc (o := O) g1
   have a2 := fun O => cell_alloc (o := O) g2
   have a3 := fun O => cell_alloc (o := O) g3
   have UP : Up w (w.alloc (.cells #[.bool s, .slice B m0 f, .slice D n' f'] 24)) := (Up.refl w).alloc _
   have r0 := Bx.new 24 w [.bool s, .slice B m0 f, .slice D n' f']
   go_enter Tryz.func114, Tryz.ntmps114
   go_wp2_with fail
   generalize (w.alloc (.cells #[.bool s, .slice B m0 f, .slice D n' f'] 24)) = W at *
   replace FW := FW.up UP
   obtain ⟨r0_0, r0_1, r0_2⟩ := r0.c3
   exact bodyPost_ret (run_res_cell rfl rfl agg_rfrac size_rfrac r0 rfl) rfl ⟨_, rfl, FW, UP⟩
 · have HD : Hid (qs.getD i 0 = 0) := Lib.hid (Pq.getD_out (by omega))
   rw [HD.out]
   have k1 : ¬ (i : Int) < (qs.length : Int) := by omega
   clear h
   have UP : Up w (w.alloc (.cells #[.bool false, .slice none 0 0, .slice none 0 0] 24)) := (Up.refl w).alloc _
   have r0 := Bx.new 24 w [.bool false, .slice none 0 0, .slice none 0 0]
   go_enter Tryz.func114, Tryz.ntmps114
   go_wp2_with fail
   generalize (w.alloc (.cells #[.bool false, .slice none 0 0, .slice none 0 0] 24)) = W at *
   obtain ⟨r0_0, r0_1, r0_2⟩ := r0.c3
   have r0_f0 := r0.free
   ((with_reducible refine (ref9_int0p _).mono ?_))
   rintro e W1 ⟨V1, rfl, z, u1⟩
   revert UP r0 r0_0 r0_1 r0_2; refine lg5 u1 ?_; intro UP r0 r0_0 r0_1 r0_2
   replace r0_f0 := r0.free
   clear u1
   obtain ⟨Xz, Yz, rfl, z, zd⟩ := z
   obtain ⟨Az, nz, cz, rfl⟩ := z.shape
   obtain ⟨Azd, nzd, czd, rfl⟩ := zd.shape
   go_wp2_with fail
   exact end_rq rfl rfl rfl (Qw.mk (q := 0) z zd rfl rfl rfl) r0 trivial trivial trivial UP (by omega)
set_option maxRecDepth 100000 in
set_option maxHeartbeats 6400000 in
theorem ref_add14 {v u : Value} {ps qs : List Rat} {ka kb : Nat} {w : World} (h : QSq ka w v ps) (h2 : QSq kb w u qs) (hl : ps.length ≤ 1000000) (hl2 : qs.length ≤ 1000000) (ha1 : 1 ≤ ka) (hb1 : 1 ≤ kb) (hka : ka ≤ 3900000) (hkb : kb ≤ 3900000) : Calls Tryz.prog 36 #[v, u] w (RetQR (ka + kb + 1) (Pq.nm (Pq.add ps qs)) w) := by
 have LA := Lib.hid (show ∀ i, Wd.Lq (ps.getD i 0) ka from fun i => by
  by_cases hi : i < ps.length
  · rw [Pq.getD_at hi]; exact h.lq _ (List.getElem_mem hi)
  · rw [Pq.getD_out (by omega)]; exact lq0 ha1)
 have LB := Lib.hid (show ∀ i, Wd.Lq (qs.getD i 0) kb from fun i => by
  by_cases hi : i < qs.length
  · rw [Pq.getD_at hi]; exact h2.lq _ (List.getElem_mem hi)
  · rw [Pq.getD_out (by omega)]; exact lq0 hb1)
 obtain ⟨A, cv, rfl⟩ := h.form
 obtain ⟨B, cu, rfl⟩ := h2.form
 have H := Lib.hid h
 have H2 := Lib.hid h2
 have HALL := Lib.hid (Pq.addT_all ps qs)
 clear h h2
 go_enter Tryz.func36, Tryz.ntmps36
 go_wp2
 go_loopw [5, 6] (fun s5 s10 wr => ∃ j : Nat, s10 = .int .i64 j ∧ j ≤ max ps.length qs.length ∧ QRow (ka + kb + 1) w wr s5 (Pq.addT ps qs j) ∧ Up w wr) (fun _ s10 _ => max ps.length qs.length - (intOf s10).toNat)
 case atStart => exact ⟨0, rfl, Nat.zero_le _, OwnQ.nil _ _ _ _, Up.refl w⟩
 case round =>
  obtain ⟨j, rfl, hj, MR, UW⟩ := hrel
  have HTK := Lib.hid (Pq.addT_succ ps qs j)
  have HTL : Hid ((Pq.addT ps qs j).length = j) := Lib.hid (Pq.addT_len _ _ _)
  obtain ⟨C7, c7, rfl⟩ := MR.form
  by_cases hlt : j < ps.length
  · have k1 : (j : Int) < (ps.length : Int) := by omega
    rw [HTL.out] at MR ⊢
    go_wp2_with fail
    ((with_reducible refine (ref_at14 j rfl (H.out.up UW) (by omega)).mono ?_))
    rintro e W1 ⟨V1, rfl, x1, u1⟩
    revert UW MR; refine lg2 u1 ?_; intro UW MR
    go_wp2_with fail
    ((with_reducible refine (ref_at14 j rfl (H2.out.up UW) (by omega)).mono ?_))
    rintro e W2 ⟨V2, rfl, x2, u2⟩
    revert x1 UW MR; refine lg3 u2 ?_; intro x1 UW MR
    go_wp2_with fail
    ((with_reducible refine (ref9_add x1 x2 (LA.out j) (LB.out j) (by omega) (by omega)).mono ?_))
    rintro e W3 ⟨V3, rfl, y, u3⟩
    revert UW MR; refine lg2 u3 ?_; intro UW MR
    clear x1 x2 u1 u2 u3
    have LP := (LA.out j).add (LB.out j)
    obtain ⟨P, HP⟩ : ∃ P, Hid (ps.getD j 0 + qs.getD j 0 = P) := ⟨_, Lib.hid rfl⟩
    rw [HP.out] at y HTK LP
    obtain ⟨Xy, Yy, rfl, y, yd⟩ := y
    obtain ⟨Ay, ny, cy, rfl⟩ := y.shape
    obtain ⟨Ayd, nyd, cyd, rfl⟩ := yd.shape
    have HA : Hid (QRow ((ka + kb + 1)) w (W3.alloc (.cells #[.bool (Wd.ngb P.num), .slice Ay ny cy, .slice Ayd nyd cyd] 24)) (.slice C7 j c7) (Pq.addT ps qs j)) := Lib.hid (MR.up ((Up.refl W3).alloc _))
    have HQ : Hid (Qk ((ka + kb + 1)) (W3.alloc (.cells #[.bool (Wd.ngb P.num), .slice Ay ny cy, .slice Ayd nyd cyd] 24)) (.agg #[.bool (Wd.ngb P.num), .slice Ay ny cy, .slice Ayd nyd cyd]) P) := Lib.hid ⟨Qw.up ⟨_, _, rfl, y, yd⟩ ((Up.refl W3).alloc _), LP⟩
    have HU := Lib.hid (UW.alloc (.cells #[.bool (Wd.ngb P.num), .slice Ay ny cy, .slice Ayd nyd cyd] 24))
    clear MR y yd
    go_wp2_with (at_builtin; refine wl_append_q1 (kp_qk _) Tryz.underlying44 info_rfrac (w0 := w) rfl _ _ rfl rfl HA.out HU.out rfl (heap_alloc_new W3 _) HQ.out (by rw [HTL.out]; omega) ?_; intro V8 W8 MR8 K8 G8 UP8)
    rw [← HTK.out] at MR8
    go_roundw
    case rel => exact ⟨j + 1, by go_num, by omega, MR8, UP8⟩
    case measure => simp [intOf]; omega
  · have k1 : ¬ (j : Int) < (ps.length : Int) := by omega
    by_cases hlt2 : j < qs.length
    · have k2 : (j : Int) < (qs.length : Int) := by omega
      rw [HTL.out] at MR ⊢
      go_wp2_with fail
      ((with_reducible refine (ref_at14 j rfl (H.out.up UW) (by omega)).mono ?_))
      rintro e W1 ⟨V1, rfl, x1, u1⟩
      revert UW MR; refine lg2 u1 ?_; intro UW MR
      go_wp2_with fail
      ((with_reducible refine (ref_at14 j rfl (H2.out.up UW) (by omega)).mono ?_))
      rintro e W2 ⟨V2, rfl, x2, u2⟩
      revert x1 UW MR; refine lg3 u2 ?_; intro x1 UW MR
      go_wp2_with fail
      ((with_reducible refine (ref9_add x1 x2 (LA.out j) (LB.out j) (by omega) (by omega)).mono ?_))
      rintro e W3 ⟨V3, rfl, y, u3⟩
      revert UW MR; refine lg2 u3 ?_; intro UW MR
      clear x1 x2 u1 u2 u3
      have LP := (LA.out j).add (LB.out j)
      obtain ⟨P, HP⟩ : ∃ P, Hid (ps.getD j 0 + qs.getD j 0 = P) := ⟨_, Lib.hid rfl⟩
      rw [HP.out] at y HTK LP
      obtain ⟨Xy, Yy, rfl, y, yd⟩ := y
      obtain ⟨Ay, ny, cy, rfl⟩ := y.shape
      obtain ⟨Ayd, nyd, cyd, rfl⟩ := yd.shape
      have HA : Hid (QRow ((ka + kb + 1)) w (W3.alloc (.cells #[.bool (Wd.ngb P.num), .slice Ay ny cy, .slice Ayd nyd cyd] 24)) (.slice C7 j c7) (Pq.addT ps qs j)) := Lib.hid (MR.up ((Up.refl W3).alloc _))
      have HQ : Hid (Qk ((ka + kb + 1)) (W3.alloc (.cells #[.bool (Wd.ngb P.num), .slice Ay ny cy, .slice Ayd nyd cyd] 24)) (.agg #[.bool (Wd.ngb P.num), .slice Ay ny cy, .slice Ayd nyd cyd]) P) := Lib.hid ⟨Qw.up ⟨_, _, rfl, y, yd⟩ ((Up.refl W3).alloc _), LP⟩
      have HU := Lib.hid (UW.alloc (.cells #[.bool (Wd.ngb P.num), .slice Ay ny cy, .slice Ayd nyd cyd] 24))
      clear MR y yd
      go_wp2_with (at_builtin; refine wl_append_q1 (kp_qk _) Tryz.underlying44 info_rfrac (w0 := w) rfl _ _ rfl rfl HA.out HU.out rfl (heap_alloc_new W3 _) HQ.out (by rw [HTL.out]; omega) ?_; intro V8 W8 MR8 K8 G8 UP8)
      rw [← HTK.out] at MR8
      go_roundw
      case rel => exact ⟨j + 1, by go_num, by omega, MR8, UP8⟩
      case measure => simp [intOf]; omega
    · have k2 : ¬ (j : Int) < (qs.length : Int) := by omega
      have hjm : j = max ps.length qs.length := by omega
      rw [HTL.out] at MR ⊢
      rw [show Pq.addT ps qs j = Pq.add ps qs by rw [hjm]; exact HALL.out] at MR
      have hlen : (Pq.add ps qs).length ≤ 1000000 := by rw [Pq.add_len]; omega
      clear HALL HTL HTK hjm
      go_wp2_with fail
      ((with_reducible refine (ref_norm14 MR.q hlen (by omega)).mono ?_))
      rintro e W4 ⟨V4, rfl, R, u4⟩
      go_wp2
      go_ret
      exact ⟨_, rfl, R.weaken UW, UW.trans u4⟩
/-- The same, told by its size over one lower number. -/
theorem RetQR.re {j k : Nat} {qs : List Rat} {w : World} {e : Ending} {w' : World} (h : RetQR j qs w e w') (hq : ∀ q ∈ qs, Wd.Lq q k) : RetQR k qs w e w' := by
 obtain ⟨v, h1, h2, h3⟩ := h
 exact ⟨v, h1, h2.re hq, h3⟩
theorem ref_add14_as {v u : Value} {ps qs R : List Rat} {ka kb K : Nat} {w : World} (h : QSq ka w v ps) (h2 : QSq kb w u qs) (hl : ps.length ≤ 1000000) (hl2 : qs.length ≤ 1000000) (ha1 : 1 ≤ ka) (hb1 : 1 ≤ kb) (hka : ka ≤ 3900000) (hkb : kb ≤ 3900000) (HR : Hid (Pq.nm (Pq.add ps qs) = R)) (HL : Hid (∀ x ∈ R, Wd.Lq x K)) : Calls Tryz.prog 36 #[v, u] w (RetQR K R w) := by
 rw [← HR.out] at HL ⊢
 exact (ref_add14 h h2 hl hl2 ha1 hb1 hka hkb).mono fun e w' h => h.re HL.out
set_option maxRecDepth 100000 in
set_option maxHeartbeats 6400000 in
theorem ref_scale11 {vc v : Value} {c : Rat} {qs : List Rat} {kc ka : Nat} {w : World} (hc : Qk kc w vc c) (h : QSq ka w v qs) (hl : qs.length ≤ 1000000) (hkc : kc ≤ 3900000) (hka : ka ≤ 3900000) : Calls Tryz.prog 115 #[vc, v] w (RetQR (kc + ka) (Pq.sc c qs) w) := by
 have LC := hc.lq
 have LA := Lib.hid h.lq
 obtain ⟨Xc, Yc, rfl, hcu, hcd⟩ := hc.qw
 obtain ⟨A1, n1, c1, rfl⟩ := hcu.shape
 obtain ⟨A2, n2, c2, rfl⟩ := hcd.shape
 obtain ⟨A, cv, rfl⟩ := h.form
 clear hc
 have UP : Up w (w.alloc (.cells #[.bool (Wd.ngb c.num), .slice A1 n1 c1, .slice A2 n2 c2] 24)) := (Up.refl w).alloc _
 have b0 := Bx.new 24 w [.bool (Wd.ngb c.num), .slice A1 n1 c1, .slice A2 n2 c2]
 go_enter Tryz.func115, Tryz.ntmps115
 go_wp2_with fail
 generalize (w.alloc (.cells #[.bool (Wd.ngb c.num), .slice A1 n1 c1, .slice A2 n2 c2] 24)) = W at *
 revert hcu hcd
 refine lg2 UP ?_
 intro hcu hcd
 obtain ⟨b0_0, b0_1, b0_2⟩ := b0.c3
 have H := Lib.hid (h.up UP)
 have HCU := Lib.hid hcu
 have HCD := Lib.hid hcd
 have HB := Lib.hid b0
 have HUW := Lib.hid UP
 clear h hcu hcd b0 b0_0 b0_1 b0_2 UP
 go_loopw [5, 6] (fun s5 s10 wr => ∃ j : Nat, s10 = .int .i64 j ∧ j ≤ qs.length ∧ QRow (kc + ka) W wr s5 (Pq.sc c (qs.take j)) ∧ Up W wr) (fun _ s10 _ => qs.length - (intOf s10).toNat)
 case atStart => exact ⟨0, rfl, Nat.zero_le _, OwnQ.nil _ _ _ _, Up.refl W⟩
 case round =>
  obtain ⟨j, rfl, hj, MR, UP⟩ := hrel
  by_cases hlt : j < qs.length
  · obtain ⟨b, o, s, B, m0, f, D, n', f', e0, hb, g1, g2, g3, FX0⟩ := Sq.at_ (kp_qk ka) H.out.sq hlt
    subst e0
    have HTK : Hid _ := Lib.hid (Pq.sc_take c hlt)
    have HTL : Hid ((Pq.sc c (qs.take j)).length = j) := Lib.hid (Pq.sc_take_len c hj)
    have LQ := LA.out qs[j] (List.getElem_mem hlt)
    generalize qs[j] = q at *
    have FX0 : Qk ka W (.agg #[.bool s, .slice B m0 f, .slice D n' f']) q := FX0
    have FX := FX0.qw.up UP
    obtain ⟨q1, q2, q3⟩ := HB.out.c3
    have HOLD : Hid (∀ w', Up W w' → w'.cell? ⟨b, o + j * 3, none⟩ = some (.bool s) ∧ w'.cell? ⟨b, o + j * 3 + 1, none⟩ = some (.slice B m0 f) ∧ w'.cell? ⟨b, o + j * 3 + 2, none⟩ = some (.slice D n' f') ∧ w'.cell? ⟨w.heap.size, 0, none⟩ = some (.bool (Wd.ngb c.num)) ∧ w'.cell? ⟨w.heap.size, 1, none⟩ = some (.slice A1 n1 c1) ∧ w'.cell? ⟨w.heap.size, 2, none⟩ = some (.slice A2 n2 c2)) := Lib.hid (fun w' hu => ⟨hu.keeps g1, hu.keeps g2, hu.keeps g3, hu.keeps q1, hu.keeps q2, hu.keeps q3⟩)
    clear g1 g2 g3 FX0 q1 q2 q3
    have hcu := HCU.out.up UP
    have hcd := HCD.out.up UP
    obtain ⟨C7, c7, rfl⟩ := MR.form
    rw [HTL.out] at MR ⊢
    have k1 : (j : Int) < (qs.length : Int) := by omega
    have k0 : (0 : Int) ≤ (j : Int) := by omega
    have kk : ((j : Int)).toNat = j := by omega
    go_wp2_with fail
    refine li5 (Up.refl wr).drew MR FX hcu hcd UP ?_; clear MR FX hcu hcd UP; intro MR FX hcu hcd UP
    refine wp_region_noPanic ?_
    refine wp_region_held_drew (S := fun w' => Up W w' ∧ w'.cell? ⟨b, o + j * 3, none⟩ = some (.bool s) ∧ w'.cell? ⟨b, o + j * 3 + 1, none⟩ = some (.slice B m0 f) ∧ w'.cell? ⟨b, o + j * 3 + 2, none⟩ = some (.slice D n' f') ∧ w'.cell? ⟨w.heap.size, 0, none⟩ = some (.bool (Wd.ngb c.num)) ∧ w'.cell? ⟨w.heap.size, 1, none⟩ = some (.slice A1 n1 c1) ∧ w'.cell? ⟨w.heap.size, 2, none⟩ = some (.slice A2 n2 c2)) (by kernel_rfl) (by exact ⟨UP, HOLD.out _ UP⟩) (fun hHeld => ?_)
    generalize wr.drew = W0 at *
    refine tk 0 ?_
    try simp only [gs, Act.put]
    refine tk 1 ?_
    try simp only [gs, Act.put]
    refine tk 2 ?_
    try simp only [gs, Act.put]
    refine tk 3 ?_
    try simp only [gs, Act.put]
    refine tk 4 ?_
    try simp only [gs, Act.put]
    refine tk 5 ?_
    try simp only [gs, Act.put]
    refine rd 6 (fun K hK => ?_)
    clear hHeld
    go_simp
    go_at_call 57
    refine (ref9_mul ⟨_, _, rfl, hcu, hcd⟩ FX LC LQ (by omega) (by omega)).mono ?_
    rintro e W1 ⟨V1, rfl, y, u1⟩
    refine li2 u1 MR UP ?_; clear MR UP; intro MR UP
    clear u1 hcu hcd FX
    have LP := LC.mul LQ
    obtain ⟨P, HP⟩ : ∃ P, Hid (c * q = P) := ⟨_, Lib.hid rfl⟩
    rw [HP.out] at y HTK LP
    have LZ := LP
    obtain ⟨Xz, Yz, rfl, z, zd⟩ := y
    obtain ⟨Az, nz, cz, rfl⟩ := z.shape
    obtain ⟨Azd, nzd, czd, rfl⟩ := zd.shape
    try go_wp2_with fail
    refine hK.out _ _ (by exact ⟨UP, HOLD.out _ UP⟩) (fun hHeld => ?_)
    clear hK K
    try simp only [gs, Act.put]
    refine rd 7 (fun K hK => ?_)
    clear hHeld
    go_simp
    have hblk := heap_alloc_new W1 (.cells #[.bool (Wd.ngb P.num), .slice Az nz cz, .slice Azd nzd czd] 24)
    have HQ := Lib.hid (show Qk ((kc + ka)) (W1.alloc (.cells #[.bool (Wd.ngb P.num), .slice Az nz cz, .slice Azd nzd czd] 24)) (.agg #[.bool (Wd.ngb P.num), .slice Az nz cz, .slice Azd nzd czd]) P from ⟨Qw.up ⟨_, _, rfl, z, zd⟩ ((Up.refl W1).alloc _), LZ⟩)
    replace MR := MR.up ((Up.refl W1).alloc (.cells #[.bool (Wd.ngb P.num), .slice Az nz cz, .slice Azd nzd czd] 24))
    replace UP := UP.alloc (.cells #[.bool (Wd.ngb P.num), .slice Az nz cz, .slice Azd nzd czd] 24)
    generalize W1.alloc (.cells #[.bool (Wd.ngb P.num), .slice Az nz cz, .slice Azd nzd czd] 24) = W3 at *
    generalize W1.heap.size = g3 at *
    refine hK.out _ _ (by exact ⟨UP, HOLD.out _ UP⟩) (fun hHeld => ?_)
    clear hK K
    try simp only [gs, Act.put]
    refine rd 8 (fun K hK => ?_)
    clear hHeld
    refine step_append_q (kp_qk _) Tryz.underlying44 info_rfrac (w0 := W) (by rfl) _ _ (by rfl) (by rfl) MR UP (by rfl) hblk HQ.out (by rw [HTL.out]; omega) ?_
    intro V8 W8 MR8 K8 G8 UP8
    rw [← HTK.out] at MR8
    refine hK.out _ _ (by exact ⟨UP8, HOLD.out _ UP8⟩) (fun hHeld => ?_)
    clear hK K
    try simp only [gs, Act.put]
    refine tk 9 ?_
    try simp only [gs, Act.put]
    refine wpAnyH_done (by decide +kernel) (NoPanic.normal ?_) _
    clear hHeld hblk
    go_wp2
    go_roundw
    case rel => exact ⟨j + 1, by go_num, by omega, MR8, UP8⟩
    case measure => simp [intOf]; omega
  · obtain rfl : j = qs.length := by omega
    rw [List.take_length] at MR
    go_wp2
    go_ret
    exact ⟨_, rfl, MR.weaken HUW.out, HUW.out.trans UP⟩
end Go.Proofs.YtmmcffceeahemaaGreat
