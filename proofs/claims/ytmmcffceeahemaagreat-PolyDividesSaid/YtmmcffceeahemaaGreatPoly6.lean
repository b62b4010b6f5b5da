/-
  Layers 11 and 14: the sum of two rows.
-/
import Derived.Test.YtmmcffceeahemaaGreatPoly5
import Derived.Test.YtmmcffceeahemaaGreatPolyPlain
set_option linter.unusedVariables false
set_option linter.unusedSimpArgs false
namespace Pq
theorem zt_zero (p q : List Rat) : zt p q 0 = p := by
 apply List.ext_getElem (by simp [zt])
 intro i h1 h2
 simp [zt, List.getD_eq_getElem?_getD, List.getElem?_eq_getElem h2]
theorem zt_at {p q : List Rat} {j : Nat} (h : j < p.length) (h' : j < (zt p q j).length) : (zt p q j)[j] = p.getD j 0 := by simp [zt]
theorem zt_set {p q : List Rat} {j : Nat} (h : j < p.length) : (zt p q j).set j (p.getD j 0 + q.getD j 0) = zt p q (j + 1) := by
 apply List.ext_getElem (by simp [zt])
 intro i h1 h2
 simp only [zt, List.getElem_set, List.getElem_map, List.getElem_range]
 by_cases e : j = i
 · subst e
   rw [if_pos rfl, if_pos (Nat.lt_succ_self j)]
 · rw [if_neg e]
   by_cases hi : i < j
   · rw [if_pos hi, if_pos (by omega)]
   · rw [if_neg hi, if_neg (by omega)]
end Pq
namespace Go.Proofs.YtmmcffceeahemaaGreat
open Go.RowKit

set_option maxRecDepth 100000 in
set_option maxHeartbeats 6400000 in
theorem row_add {pv qv : Value} {g : Nat} {ps qs : List Rat} {ka kb : Nat} {w : World} (hb : Bx 49 w g [pv, qv]) (h1 : Sq (Frk ka) w pv ps) (h2 : Sq (Frk kb) w qv qs) (hlen : qs.length = ps.length) (hl : ps.length ≤ 100000000) (hka : ka ≤ 4000000) (hkb : kb ≤ 4000000) :
 Calls Tryz.prog 112 #[.slice (some ⟨g, 0, none⟩) 2 2] w fun e w' => ∃ V, e = .returned (.tuple #[V, .bool true]) ∧ PRow (ka + kb + 1) w w' V (Pq.zt ps qs ps.length) ∧ Up w w' := by
 obtain ⟨A, cp, rfl⟩ := h1.form
 obtain ⟨B, cq, rfl⟩ := h2.form
 have LA := Lib.hid (sq_lq h1)
 have LB := Lib.hid (sq_lq h2)
 have H2 := Lib.hid h2
 have HLEN := Lib.hid hlen
 obtain ⟨c0, c1⟩ := hb.c2
 have HB := Lib.hid hb
 clear hb h2
 go_enter Tryz.func112, Tryz.ntmps112
 go_wp2_with fail
 refine (row_norm h1 hl (by omega)).mono ?_
 rintro e w1 ⟨V1, rfl, R, u1⟩
 have R1 : PRow (ka + kb + 1) w w1 V1 (Pq.zt ps qs 0) := by rw [Pq.zt_zero]; exact R.mono (by omega)
 obtain ⟨A1, cv1, rfl⟩ := R1.form
 rw [Pq.zt_len] at R1 ⊢
 have HR := Lib.hid R1
 clear R R1 c0 c1
 go_wp2_with fail
 have HU1 := Lib.hid u1
 clear u1 h1
 go_loopw [6, 7, 8, 19] (fun _ _ _ s19 wr => ∃ t : Nat, s19 = .int .i64 t ∧ t ≤ 1 ∧ PRow (ka + kb + 1) w wr (.slice A1 ps.length cv1) (Pq.zt ps qs (t * ps.length)) ∧ Up w wr) (fun _ _ _ s19 _ => 1 - (intOf s19).toNat)
 case atStart => exact ⟨0, rfl, by omega, by rw [Nat.zero_mul]; exact HR.out, HU1.out⟩
 case round =>
  obtain ⟨t, rfl, ht, MR, UP⟩ := hrel
  obtain rfl | rfl : t = 0 ∨ t = 1 := by omega
  · rw [Nat.zero_mul] at MR
    have b0 := HB.out.up UP
    obtain ⟨c0, c1⟩ := b0.c2
    have hne : ((qs.length : Int) != (ps.length : Int)) = false := by rw [HLEN.out]; simp
    have HMR := Lib.hid MR
    have HUP := Lib.hid UP
    clear MR UP b0
    go_wp2_with fail
    clear c0 c1
    go_loopw [7, 8, 30] (fun _ _ s30 wr => ∃ j : Nat, s30 = .int .i64 j ∧ j ≤ ps.length ∧ PRow (ka + kb + 1) w wr (.slice A1 ps.length cv1) (Pq.zt ps qs j) ∧ Up w wr) (fun _ _ s30 _ => ps.length - (intOf s30).toNat)
    case atStart => exact ⟨0, rfl, Nat.zero_le _, HMR.out, HUP.out⟩
    case round =>
     clear HMR HUP
     obtain ⟨j, rfl, hj, MR, UP⟩ := hrel
     by_cases hlt : j < ps.length
     · have hlt2 : j < qs.length := by rw [HLEN.out]; exact hlt
       obtain ⟨b, o, s, B0, m0, f, D, n', f', e0, hb, g1, g2, g3, FX⟩ := (H2.out.up (kp_fr kb) UP).at_ (kp_fr kb) hlt2
       subst e0
       have HS : Hid _ := Lib.hid (Pq.zt_set (q := qs) hlt)
       have HP : Hid (j < (Pq.zt ps qs j).length) := Lib.hid (by rw [Pq.zt_len]; exact hlt)
       have HQJ : Hid ((Pq.zt ps qs j)[j]'HP.out = ps[j]) := Lib.hid (by rw [Pq.zt_at hlt HP.out, Pq.getD_at hlt])
       have LX := LA.out ps[j] (List.getElem_mem hlt)
       have LY := LB.out qs[j] (List.getElem_mem hlt2)
       rw [Pq.getD_at hlt, Pq.getD_at hlt2] at HS
       generalize qs[j] = q at *
       generalize ps[j] = p at *
       have FX : Fr wr (.agg #[.bool s, .slice B0 m0 f, .slice D n' f']) q kb := FX
       have k1 : (j : Int) < (qs.length : Int) := by omega
       have k1' : (j : Int) < (ps.length : Int) := by omega
       have k0 : (0 : Int) ≤ (j : Int) := by omega
       have kk : ((j : Int)).toNat = j := by omega
       have UW := UP
       obtain ⟨gg, _, _, _, _, _, _, _, e8, _, hgw, _, _, _, _, _⟩ := OwnQ.at_ (kp_qk _) MR HP.out
       subst e8
       have UP : Up wr wr := Up.refl wr
       go_wp2_with fail
       have a1 := Bx.new 34 wr [.bool s, .slice B0 m0 f, .slice D n' f']
       replace FX := FX.up ((Up.refl wr).alloc (.cells #[.bool s, .slice B0 m0 f, .slice D n' f'] 34))
       replace MR := MR.up ((Up.refl wr).alloc (.cells #[.bool s, .slice B0 m0 f, .slice D n' f'] 34))
       replace UP := UP.trans ((Up.refl wr).alloc (.cells #[.bool s, .slice B0 m0 f, .slice D n' f'] 34))
       generalize (wr.alloc (.cells #[.bool s, .slice B0 m0 f, .slice D n' f'] 34)) = W1 at *
       obtain ⟨a1_0, a1_1, a1_2⟩ := a1.c3
       clear g1 g2 g3
       replace MR := MR.up (Up.refl W1).drew
       replace FX := FX.up (Up.refl W1).drew
       replace a1 := a1.up (Up.refl W1).drew
       replace UP := UP.trans (Up.refl W1).drew
       clear a1_0 a1_1 a1_2
       refine wp_region_noPanic ?_
       refine wp_region_held_drew (S := fun w' => w'.cell? ⟨wr.heap.size, 0, none⟩ = some (.bool s) ∧ w'.cell? ⟨wr.heap.size, 1, none⟩ = some (.slice B0 m0 f) ∧ w'.cell? ⟨wr.heap.size, 2, none⟩ = some (.slice D n' f')) (by kernel_rfl) (by exact a1.c3) (fun hHeld => ?_)
       generalize W1.drew = W0 at *
       refine wpAnyH_take (i := 0) (v := ?_) rfl (by kernel_rfl) (by decide +kernel) (by decide +kernel) (fun _ _ _ h => h) (Or.inl ⟨by rfl, ?_⟩) (by assumption) ?_
       rotate_left
       · (intro w hSw; (try dsimp only at hSw); go_simp; first | done | with_reducible rfl)
       try simp only [List.getElem_toArray, List.getElem_cons_zero, List.getElem_cons_succ, Act.put, List.setIfInBounds_toArray, List.set_cons_zero, List.set_cons_succ]
       refine wpAnyH_take (i := 1) (v := ?_) rfl (by kernel_rfl) (by decide +kernel) (by decide +kernel) (fun _ _ _ h => h) (Or.inl ⟨by rfl, ?_⟩) (by assumption) ?_
       rotate_left
       · (intro w hSw; (try dsimp only at hSw); go_simp; first | done | with_reducible rfl)
       try simp only [List.getElem_toArray, List.getElem_cons_zero, List.getElem_cons_succ, Act.put, List.setIfInBounds_toArray, List.set_cons_zero, List.set_cons_succ]
       refine wpAnyH_take (i := 2) (v := ?_) rfl (by kernel_rfl) (by decide +kernel) (by decide +kernel) (fun _ _ _ h => h) (Or.inl ⟨by rfl, ?_⟩) (by assumption) ?_
       rotate_left
       · (intro w hSw; (try dsimp only at hSw); go_simp; first | done | with_reducible rfl)
       try simp only [List.getElem_toArray, List.getElem_cons_zero, List.getElem_cons_succ, Act.put, List.setIfInBounds_toArray, List.set_cons_zero, List.set_cons_succ]
       refine wpAnyH_take (i := 3) (v := ?_) rfl (by kernel_rfl) (by decide +kernel) (by decide +kernel) (fun _ _ _ h => h) (Or.inl ⟨by rfl, ?_⟩) (by assumption) ?_
       rotate_left
       · (intro w hSw; (try dsimp only at hSw); go_simp; first | done | with_reducible rfl)
       try simp only [List.getElem_toArray, List.getElem_cons_zero, List.getElem_cons_succ, Act.put, List.setIfInBounds_toArray, List.set_cons_zero, List.set_cons_succ]
       refine wpAnyH_take (i := 4) (v := ?_) rfl (by kernel_rfl) (by decide +kernel) (by decide +kernel) (fun _ _ _ h => h) (Or.inl ⟨by rfl, ?_⟩) (by assumption) ?_
       rotate_left
       · (intro w hSw; (try dsimp only at hSw); go_simp; first | done | with_reducible rfl)
       try simp only [List.getElem_toArray, List.getElem_cons_zero, List.getElem_cons_succ, Act.put, List.setIfInBounds_toArray, List.set_cons_zero, List.set_cons_succ]
       refine wpAnyH_take (i := 6) (v := ?_) rfl (by kernel_rfl) (by decide +kernel) (by decide +kernel) (fun _ _ _ h => h) (Or.inl ⟨by rfl, ?_⟩) (by assumption) ?_
       rotate_left
       · (intro w hSw; (try dsimp only at hSw); go_simp; first | done | with_reducible rfl)
       try simp only [List.getElem_toArray, List.getElem_cons_zero, List.getElem_cons_succ, Act.put, List.setIfInBounds_toArray, List.set_cons_zero, List.set_cons_succ]
       obtain ⟨_, s9, B9, m9, f9, D9, n9, f9', e9, _, _, c1, c2, c3, FO, _⟩ := OwnQ.at_ (kp_qk _) MR HP.out
       cases e9
       rw [HQJ.out] at FO
       refine wpAnyH_ready (rs := [5]) (by decide +kernel) (by simp) ?_
       refine AllReadyH.cons rfl (fun K hK => ?_) AllReadyH.nil
       clear hHeld
       go_simp
       refine hK.out _ _ (by exact a1.c3) (fun hHeld => ?_)
       clear hK K
       try simp only [List.getElem_toArray, List.getElem_cons_zero, List.getElem_cons_succ, Act.put, List.setIfInBounds_toArray, List.set_cons_zero, List.set_cons_succ]
       refine wpAnyH_ready (rs := [7]) (by decide +kernel) (by simp) ?_
       refine AllReadyH.cons rfl (fun K hK => ?_) AllReadyH.nil
       clear hHeld
       clear c1 c2 c3
       go_simp
       go_at_call 109
       refine (frac_add (FO.1.fr FO.2) FX (by omega) (by omega)).mono ?_
       rintro e W2 ⟨V2, rfl, z, u2⟩
       replace MR := MR.up u2
       replace a1 := a1.up u2
       replace UP := UP.trans u2
       clear u2 FX FO
       have LZ := LX.add LY
       obtain ⟨Z, HZ⟩ : ∃ Z, Hid (p + q = Z) := ⟨_, Lib.hid rfl⟩
       rw [HZ.out] at z LZ HS
       obtain ⟨Xz, Yz, rfl, z, zd⟩ := z
       obtain ⟨Az, nz, cz, rfl⟩ := z.shape
       obtain ⟨Azd, nzd, czd, rfl⟩ := zd.shape
       try go_wp2_with fail
       refine hK.out _ _ (by exact a1.c3) (fun hHeld => ?_)
       clear hK K
       try simp only [List.getElem_toArray, List.getElem_cons_zero, List.getElem_cons_succ, Act.put, List.setIfInBounds_toArray, List.set_cons_zero, List.set_cons_succ]
       refine wpAnyH_take (i := 8) (v := ?_) rfl (by kernel_rfl) (by decide +kernel) (by decide +kernel) (fun _ _ _ h => h) (Or.inl ⟨by rfl, ?_⟩) (by assumption) ?_
       rotate_left
       · (intro w hSw; (try dsimp only at hSw); go_simp; first | done | with_reducible rfl)
       try simp only [List.getElem_toArray, List.getElem_cons_zero, List.getElem_cons_succ, Act.put, List.setIfInBounds_toArray, List.set_cons_zero, List.set_cons_succ]
       obtain ⟨_, s9', B9', m9', f9'', D9', n9', f9x, e9, _, _, c1, c2, c3, _, fr⟩ := OwnQ.at_ (kp_qk _) MR HP.out
       cases e9
       have f1 := fr (j * 3)
       have f2 := fr (j * 3 + 1)
       have f3 := fr (j * 3 + 2)
       clear fr
       obtain ⟨q1, _, _, q4⟩ := OwnQ.store (kp_qk _) MR (UW.trans UP) HP.out (show Qk (ka + kb + 1) W2 (.agg #[.bool (Wd.ngb Z.num), .slice Az nz cz, .slice Azd nzd czd]) Z from ⟨⟨_, _, rfl, z, zd⟩, LZ⟩)
       rw [HS.out] at q1
       have Q1 := Lib.hid q1
       have Q4 := Lib.hid q4
       clear q1 q4
       refine wpAnyH_ready (rs := [9]) (by decide +kernel) (by simp) ?_
       refine AllReadyH.cons rfl (fun K hK => ?_) AllReadyH.nil
       clear hHeld
       go_simp
       refine hK.out _ _ (by exact (((a1.far (p := ⟨gg, j * 3, none⟩) (by dsimp only; omega) _).far (p := ⟨gg, j * 3 + 1, none⟩) (by dsimp only; omega) _).far (p := ⟨gg, j * 3 + 2, none⟩) (by dsimp only; omega) _).c3) (fun hHeld => ?_)
       clear hK K
       try simp only [List.getElem_toArray, List.getElem_cons_zero, List.getElem_cons_succ, Act.put, List.setIfInBounds_toArray, List.set_cons_zero, List.set_cons_succ]
       refine wpAnyH_done (by decide +kernel) (NoPanic.normal ?_) _
       clear hHeld c1 c2 c3 f1 f2 f3
       go_wp2_with fail
       go_roundw
       case rel =>
        refine ⟨_, _, _, _, _, _, _, _, _, _, _, _, _, _, _, _, _, ⟨j + 1, ?_, by omega, Q1.out, Q4.out⟩, rfl⟩
        first | rfl | go_num
       case measure => simp [intOf]; omega
     · obtain rfl : j = ps.length := by omega
       have k1 : ¬ ((ps.length : Int) < (qs.length : Int)) := by rw [HLEN.out]; omega
       go_wp2_with fail
       exact ⟨⟨1, rfl, Nat.le_refl _, by rw [Nat.one_mul]; exact MR, UP⟩, by simp [intOf]⟩
  · rw [Nat.one_mul] at MR
    go_wp2_with fail
    go_ret2
    exact ⟨_, rfl, MR, UP⟩
end Go.Proofs.YtmmcffceeahemaaGreat
