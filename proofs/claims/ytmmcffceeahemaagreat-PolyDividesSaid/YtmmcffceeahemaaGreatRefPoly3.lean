/-
  Layer 14, the document's answers: derivatives, multiples, differences, values.
-/
import Derived.Test.YtmmcffceeahemaaGreatRefPoly2
set_option linter.unusedVariables false
set_option linter.unusedSimpArgs false
namespace Go.Proofs.YtmmcffceeahemaaGreat
open Go.RowKit

set_option maxRecDepth 100000 in
set_option maxHeartbeats 6400000 in
theorem ref_diff14 {v : Value} {qs : List Rat} {ka : Nat} {w : World} (h : QSq ka w v qs) (hl : qs.length ≤ 1000000) (hka : ka ≤ 1000000) : Calls Tryz.prog 45 #[v] w (RetQR (ka + 2) (Pq.nm (Pq.df qs)) w) := by
 obtain ⟨A, cv, rfl⟩ := h.form
 have LA := Lib.hid h.lq
 have H := Lib.hid h
 clear h
 go_enter Tryz.func45, Tryz.ntmps45
 go_wp2_with fail
 go_loopw [3, 4] (fun s3 s4 wr => ∃ j : Nat, s4 = .int .i64 ((j : Int) + 1) ∧ j ≤ qs.length - 1 ∧ QRow (ka + 2) w wr s3 (Pq.dfl 1 (qs.tail.take j)) ∧ Up w wr) (fun _ s4 _ => qs.length - (intOf s4).toNat)
 case atStart => exact ⟨0, rfl, Nat.zero_le _, OwnQ.nil _ _ _ _, Up.refl w⟩
 case round =>
  obtain ⟨j, rfl, hj, MR, UP⟩ := hrel
  by_cases hlt : j + 1 < qs.length
  · obtain ⟨b, o, s, B, m0, f, D, n', f', e0, hb, g1, g2, g3, FX0⟩ := Sq.at_ (kp_qk ka) H.out.sq hlt
    subst e0
    have HTK : Hid _ := Lib.hid (Pq.df_step hlt)
    have HTL : Hid ((Pq.dfl 1 (qs.tail.take j)).length = j) := Lib.hid (by rw [Pq.dfl_len, List.length_take, List.length_tail]; omega)
    have LQ := LA.out qs[j + 1] (List.getElem_mem hlt)
    generalize qs[j + 1] = q at *
    have FX0 : Qk ka w (.agg #[.bool s, .slice B m0 f, .slice D n' f']) q := FX0
    have FX := FX0.qw.up UP
    have HOLD : Hid (∀ w', Up w w' → w'.cell? ⟨b, o + (j + 1) * 3, none⟩ = some (.bool s) ∧ w'.cell? ⟨b, o + (j + 1) * 3 + 1, none⟩ = some (.slice B m0 f) ∧ w'.cell? ⟨b, o + (j + 1) * 3 + 2, none⟩ = some (.slice D n' f')) := Lib.hid (fun w' hu => ⟨hu.keeps g1, hu.keeps g2, hu.keeps g3⟩)
    clear g1 g2 g3 FX0
    obtain ⟨C7, c7, rfl⟩ := MR.form
    rw [HTL.out] at MR ⊢
    have k1 : (j : Int) + 1 < (qs.length : Int) := by omega
    have k0 : (0 : Int) ≤ (j : Int) + 1 := by omega
    have kk : ((j : Int) + 1).toNat = j + 1 := by omega
    go_wp2_with fail
    replace MR := MR.up (Up.refl wr).drew
    replace FX := FX.up (Up.refl wr).drew
    replace UP := UP.trans (Up.refl wr).drew
    refine wp_region_noPanic ?_
    refine wp_region_held_drew (S := fun w' => Up w w' ∧ w'.cell? ⟨b, o + (j + 1) * 3, none⟩ = some (.bool s) ∧ w'.cell? ⟨b, o + (j + 1) * 3 + 1, none⟩ = some (.slice B m0 f) ∧ w'.cell? ⟨b, o + (j + 1) * 3 + 2, none⟩ = some (.slice D n' f')) (by kernel_rfl) (by exact ⟨UP, HOLD.out _ UP⟩) (fun hHeld => ?_)
    generalize wr.drew = W0 at *
    refine wpAnyH_take (i := 0) (v := ?_) rfl (by kernel_rfl) (by decide +kernel) (by decide +kernel) (fun _ _ _ h => h) (Or.inl ⟨by rfl, ?_⟩) (by assumption) ?_
    rotate_left
    · (intro w hSw; (try dsimp only at hSw); go_simp; first | done | with_reducible rfl)
    try simp only [List.getElem_toArray, List.getElem_cons_zero, List.getElem_cons_succ, Act.put, List.setIfInBounds_toArray, List.set_cons_zero, List.set_cons_succ]
    refine wpAnyH_take (i := 1) (v := ?_) rfl (by kernel_rfl) (by decide +kernel) (by decide +kernel) (fun _ _ _ h => h) (Or.inl ⟨by rfl, ?_⟩) (by assumption) ?_
    rotate_left
    · (intro w hSw; (try dsimp only at hSw); go_simp; first | done | with_reducible rfl)
    try simp only [List.getElem_toArray, List.getElem_cons_zero, List.getElem_cons_succ, Act.put, List.setIfInBounds_toArray, List.set_cons_zero, List.set_cons_succ]
    refine wpAnyH_take (i := 3) (v := ?_) rfl (by kernel_rfl) (by decide +kernel) (by decide +kernel) (fun _ _ _ h => h) (Or.inl ⟨by rfl, ?_⟩) (by assumption) ?_
    rotate_left
    · (intro w hSw; (try dsimp only at hSw); go_simp; first | done | with_reducible rfl)
    try simp only [List.getElem_toArray, List.getElem_cons_zero, List.getElem_cons_succ, Act.put, List.setIfInBounds_toArray, List.set_cons_zero, List.set_cons_succ]
    refine wpAnyH_take (i := 4) (v := ?_) rfl (by kernel_rfl) (by decide +kernel) (by decide +kernel) (fun _ _ _ h => h) (Or.inl ⟨by rfl, ?_⟩) (by assumption) ?_
    rotate_left
    · (intro w hSw; (try dsimp only at hSw); go_simp; first | done | with_reducible rfl)
    try simp only [List.getElem_toArray, List.getElem_cons_zero, List.getElem_cons_succ, Act.put, List.setIfInBounds_toArray, List.set_cons_zero, List.set_cons_succ]
    refine wpAnyH_take (i := 5) (v := ?_) rfl (by kernel_rfl) (by decide +kernel) (by decide +kernel) (fun _ _ _ h => h) (Or.inl ⟨by rfl, ?_⟩) (by assumption) ?_
    rotate_left
    · (intro w hSw; (try dsimp only at hSw); go_simp; first | done | with_reducible rfl)
    try simp only [List.getElem_toArray, List.getElem_cons_zero, List.getElem_cons_succ, Act.put, List.setIfInBounds_toArray, List.set_cons_zero, List.set_cons_succ]
    refine wpAnyH_take (i := 6) (v := ?_) rfl (by kernel_rfl) (by decide +kernel) (by decide +kernel) (fun _ _ _ h => h) (Or.inl ⟨by rfl, ?_⟩) (by assumption) ?_
    rotate_left
    · (intro w hSw; (try dsimp only at hSw); go_simp; first | done | with_reducible rfl)
    try simp only [List.getElem_toArray, List.getElem_cons_zero, List.getElem_cons_succ, Act.put, List.setIfInBounds_toArray, List.set_cons_zero, List.set_cons_succ]
    refine wpAnyH_ready (rs := [2]) (by decide +kernel) (by simp) ?_
    refine AllReadyH.cons rfl (fun K hK => ?_) AllReadyH.nil
    clear hHeld
    go_simp
    go_at_call 65
    refine (ref9_int (n := (j : Int) + 1) (by omega) _).mono ?_
    rintro e W1 ⟨V1, rfl, y, u1⟩
    replace MR := MR.up u1
    replace FX := FX.up u1
    replace UP := UP.trans u1
    clear u1
    have LY := lq_int (n := (j : Int) + 1) (by omega)
    obtain ⟨Y, HY⟩ : ∃ Y, Hid ((((j : Int) + 1 : Int) : Rat) = Y) := ⟨_, Lib.hid rfl⟩
    rw [HY.out] at y LY HTK
    try go_wp2_with fail
    refine hK.out _ _ (by exact ⟨UP, HOLD.out _ UP⟩) (fun hHeld => ?_)
    clear hK K
    try simp only [List.getElem_toArray, List.getElem_cons_zero, List.getElem_cons_succ, Act.put, List.setIfInBounds_toArray, List.set_cons_zero, List.set_cons_succ]
    refine wpAnyH_ready (rs := [7]) (by decide +kernel) (by simp) ?_
    refine AllReadyH.cons rfl (fun K hK => ?_) AllReadyH.nil
    clear hHeld
    go_simp
    go_at_call 57
    refine (ref9_mul y FX LY LQ (by omega) (by omega)).mono ?_
    rintro e W2 ⟨V2, rfl, z, u2⟩
    replace MR := MR.up u2
    replace UP := UP.trans u2
    clear u2 y FX
    have LP : Wd.Lq (Y * q) (ka + 2) := (LY.mul LQ).mono (by omega)
    obtain ⟨P, HP⟩ : ∃ P, Hid (Y * q = P) := ⟨_, Lib.hid rfl⟩
    rw [HP.out] at z HTK LP
    have y := z
    clear z
    have LZ := LP
    obtain ⟨Xz, Yz, rfl, z, zd⟩ := y
    obtain ⟨Az, nz, cz, rfl⟩ := z.shape
    obtain ⟨Azd, nzd, czd, rfl⟩ := zd.shape
    try go_wp2_with fail
    refine hK.out _ _ (by exact ⟨UP, HOLD.out _ UP⟩) (fun hHeld => ?_)
    clear hK K
    try simp only [List.getElem_toArray, List.getElem_cons_zero, List.getElem_cons_succ, Act.put, List.setIfInBounds_toArray, List.set_cons_zero, List.set_cons_succ]
    refine wpAnyH_ready (rs := [8]) (by decide +kernel) (by simp) ?_
    refine AllReadyH.cons rfl (fun K hK => ?_) AllReadyH.nil
    clear hHeld
    go_simp
    have hblk := heap_alloc_new W2 (.cells #[.bool (Wd.ngb P.num), .slice Az nz cz, .slice Azd nzd czd] 24)
    have HQ := Lib.hid (show Qk ((ka + 2)) (W2.alloc (.cells #[.bool (Wd.ngb P.num), .slice Az nz cz, .slice Azd nzd czd] 24)) (.agg #[.bool (Wd.ngb P.num), .slice Az nz cz, .slice Azd nzd czd]) P from ⟨Qw.up ⟨_, _, rfl, z, zd⟩ ((Up.refl W2).alloc _), LZ⟩)
    replace MR := MR.up ((Up.refl W2).alloc (.cells #[.bool (Wd.ngb P.num), .slice Az nz cz, .slice Azd nzd czd] 24))
    replace UP := UP.alloc (.cells #[.bool (Wd.ngb P.num), .slice Az nz cz, .slice Azd nzd czd] 24)
    generalize W2.alloc (.cells #[.bool (Wd.ngb P.num), .slice Az nz cz, .slice Azd nzd czd] 24) = W3 at *
    generalize W2.heap.size = g3 at *
    refine hK.out _ _ (by exact ⟨UP, HOLD.out _ UP⟩) (fun hHeld => ?_)
    clear hK K
    try simp only [List.getElem_toArray, List.getElem_cons_zero, List.getElem_cons_succ, Act.put, List.setIfInBounds_toArray, List.set_cons_zero, List.set_cons_succ]
    refine wpAnyH_ready (rs := [9]) (by decide +kernel) (by simp) ?_
    refine AllReadyH.cons rfl (fun K hK => ?_) AllReadyH.nil
    clear hHeld
    refine step_append_q (kp_qk _) Tryz.underlying44 info_rfrac (w0 := w) (by rfl) _ _ (by rfl) (by rfl) MR UP (by rfl) hblk HQ.out (by rw [HTL.out]; omega) ?_
    intro V8 W8 MR8 K8 G8 UP8
    rw [← HTK.out] at MR8
    refine hK.out _ _ (by exact ⟨UP8, HOLD.out _ UP8⟩) (fun hHeld => ?_)
    clear hK K
    try simp only [List.getElem_toArray, List.getElem_cons_zero, List.getElem_cons_succ, Act.put, List.setIfInBounds_toArray, List.set_cons_zero, List.set_cons_succ]
    refine wpAnyH_take (i := 10) (v := ?_) rfl (by kernel_rfl) (by decide +kernel) (by decide +kernel) (fun _ _ _ h => h) (Or.inl ⟨by rfl, ?_⟩) (by assumption) ?_
    rotate_left
    · (intro w hSw; (try dsimp only at hSw); go_simp; first | done | with_reducible rfl)
    try simp only [List.getElem_toArray, List.getElem_cons_zero, List.getElem_cons_succ, Act.put, List.setIfInBounds_toArray, List.set_cons_zero, List.set_cons_succ]
    refine wpAnyH_done (by decide +kernel) (NoPanic.normal ?_) _
    clear hHeld hblk
    go_wp2
    go_roundw
    case rel => exact ⟨j + 1, by go_num, by omega, MR8, UP8⟩
    case measure => simp [intOf]; omega
  · have HDF : Hid (Pq.dfl 1 (qs.tail.take j) = Pq.df qs) := Lib.hid (by unfold Pq.df; rw [List.take_of_length_le]; rw [List.length_tail]; omega)
    rw [HDF.out] at MR
    have k1 : ¬ (j : Int) + 1 < (qs.length : Int) := by omega
    have hd1 : (Pq.df qs).length ≤ 1000000 := by rw [Pq.df_len]; omega
    obtain ⟨C7, c7, rfl⟩ := MR.form
    go_wp2_with fail
    ((with_reducible refine (ref_norm14 MR.q hd1 (by omega)).mono ?_))
    rintro e W4 ⟨V4, rfl, R, u4⟩
    go_wp2
    go_ret
    exact ⟨_, rfl, R.weaken UP, UP.trans u4⟩
set_option maxRecDepth 100000 in
set_option maxHeartbeats 3200000 in
theorem ref_scale14 {vc v : Value} {c : Rat} {qs R : List Rat} {kc ka K : Nat} {w : World} (hc : Qk kc w vc c) (h : QSq ka w v qs) (hl : qs.length ≤ 1000000) (hkc : kc ≤ 2000000) (hka : ka ≤ 2000000) (HR : Hid (Pq.nm (Pq.sc c qs) = R)) (HL : Hid (∀ x ∈ R, Wd.Lq x K)) : Calls Tryz.prog 42 #[vc, v] w (RetQR K R w) := by
 have LC := hc.lq
 obtain ⟨Xc, Yc, rfl, hcu, hcd⟩ := hc.qw
 obtain ⟨A1, n1, c1, rfl⟩ := hcu.shape
 obtain ⟨A2, n2, c2, rfl⟩ := hcd.shape
 obtain ⟨A, cv, rfl⟩ := h.form
 clear hc
 have hs : (Pq.sc c qs).length ≤ 1000000 := by rw [Pq.sc_len]; exact hl
 have UP : Up w (w.alloc (.cells #[.bool (Wd.ngb c.num), .slice A1 n1 c1, .slice A2 n2 c2] 24)) := (Up.refl w).alloc _
 have b0 := Bx.new 24 w [.bool (Wd.ngb c.num), .slice A1 n1 c1, .slice A2 n2 c2]
 go_enter Tryz.func42, Tryz.ntmps42
 go_wp2_with fail
 generalize (w.alloc (.cells #[.bool (Wd.ngb c.num), .slice A1 n1 c1, .slice A2 n2 c2] 24)) = W at *
 replace hcu := hcu.up UP
 replace hcd := hcd.up UP
 replace h := h.up UP
 obtain ⟨b0_0, b0_1, b0_2⟩ := b0.c3
 ((with_reducible refine (ref_scale11 (Qk.mk' hcu hcd LC) h hl hkc hka).mono ?_))
 rintro e W1 ⟨V1, rfl, R1, u1⟩
 go_wp2_with fail
 ((with_reducible refine (ref_norm14 R1.q hs (by omega)).mono ?_))
 rintro e W2 ⟨V2, rfl, R2, u2⟩
 rw [HR.out] at R2
 go_wp2
 go_ret
 exact ⟨_, rfl, (R2.re HL.out).weaken (UP.trans u1), (UP.trans u1).trans u2⟩
set_option maxRecDepth 100000 in
set_option maxHeartbeats 3200000 in
theorem ref_sub14 {v u : Value} {ps qs R : List Rat} {ka kb K : Nat} {w : World} (h : QSq ka w v ps) (h2 : QSq kb w u qs) (hl : ps.length ≤ 1000000) (hl2 : qs.length ≤ 1000000) (ha1 : 1 ≤ ka) (hb1 : 1 ≤ kb) (hka : ka ≤ 2000000) (hkb : kb ≤ 2000000) (HR : Hid (Pq.nm (Pq.sub ps qs) = R)) (HL : Hid (∀ x ∈ R, Wd.Lq x K)) : Calls Tryz.prog 38 #[v, u] w (RetQR K R w) := by
 obtain ⟨A, cv, rfl⟩ := h.form
 obtain ⟨B, cu, rfl⟩ := h2.form
 have LB := Lib.hid (lq_scn h2.lq)
 have hn : (Pq.nm (Pq.sc (-1) qs)).length ≤ 1000000 := Nat.le_trans (Pq.nm_len _) (by rw [Pq.sc_len]; exact hl2)
 have HE : Hid (Pq.nm (Pq.add ps (Pq.nm (Pq.sc (-1) qs))) = R) := Lib.hid (by rw [Pq.nm_sub]; exact HR.out)
 go_enter Tryz.func38, Tryz.ntmps38
 go_wp2_with fail
 ((with_reducible refine (ref9_int (n := -1) (by omega) _).mono ?_))
 rintro e W1 ⟨V1, rfl, y, u1⟩
 have y : Qk 2 W1 V1 (-1) := ⟨y, lq_int (n := -1) (by omega)⟩
 replace h := h.up u1
 replace h2 := h2.up u1
 go_wp2_with fail
 ((with_reducible refine (ref_scale14 y h2 hl2 (by omega) hkb (Lib.hid rfl) LB).mono ?_))
 rintro e W2 ⟨V2, rfl, R2, u2⟩
 replace h := h.up u2
 go_wp2_with fail
 ((with_reducible refine (ref_add14_as h R2.q hl hn ha1 hb1 hka hkb HE HL).mono ?_))
 rintro e W3 ⟨V3, rfl, R3, u3⟩
 go_wp2
 go_ret
 exact ⟨_, rfl, R3.weaken (u1.trans u2), (u1.trans u2).trans u3⟩
end Go.Proofs.YtmmcffceeahemaaGreat
