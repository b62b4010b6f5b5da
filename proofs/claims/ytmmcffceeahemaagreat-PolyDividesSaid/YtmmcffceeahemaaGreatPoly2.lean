/-
  Layer 14: degrees, multiples, values, derivatives.
-/
import Derived.Test.YtmmcffceeahemaaGreatPoly
set_option linter.unusedVariables false
set_option linter.unusedSimpArgs false
namespace Go.Proofs.YtmmcffceeahemaaGreat
open Go.RowKit

set_option maxRecDepth 100000 in
set_option maxHeartbeats 3200000 in
theorem poly_degree {v : Value} {qs : List Rat} {ka : Nat} {w : World} (h : Sq (Frk ka) w v qs) (hl : qs.length ≤ 100000000) (hka : ka ≤ 10000000) : Calls Tryz.prog 29 #[v] w (RetN (((Pq.nm qs).length : Int) - 1) w) := by
 obtain ⟨A, cv, rfl⟩ := h.form
 have H := Lib.hid h
 clear h
 go_enter Tryz.func29, Tryz.ntmps29
 go_wp2
 go_loopw [3] (fun s3 wr => ∃ n : Nat, s3 = .int .i64 ((n : Int) - 1) ∧ n ≤ qs.length ∧ Hid (∀ i, n ≤ i → qs.getD i 0 = 0) ∧ Up w wr) (fun s3 _ => (intOf s3 + 1).toNat)
 case atStart => exact ⟨qs.length, rfl, Nat.le_refl _, Lib.hid (fun i hi => by simp [List.getD_eq_getElem?_getD, List.getElem?_eq_none hi]), Up.refl w⟩
 case round =>
  obtain ⟨n, rfl, hn, HZ, UW⟩ := hrel
  cases n with
  | zero =>
    have HN : Hid (Pq.nm qs = []) := Lib.hid (by rw [Pq.nm_take hn HZ.out (.inl rfl)]; rfl)
    go_wp2
    go_ret
    exact ⟨by rw [HN.out]; rfl, UW⟩
  | succ m =>
    have hm : m < qs.length := by omega
    obtain ⟨b, o, s, B, m0, f, D, n', f', e0, hb, g1, g2, g3, FX⟩ := (H.out.up (kp_fr ka) UW).at_ (kp_fr ka) hm
    subst e0
    have HD : Hid (qs.getD m 0 = qs[m]) := Lib.hid (Pq.getD_at hm)
    generalize qs[m] = q at *
    have FX : Fr wr (.agg #[.bool s, .slice B m0 f, .slice D n' f']) q ka := FX
    have k1 : (m : Int) < (qs.length : Int) := by omega
    have k0 : (0 : Int) ≤ (m : Int) := by omega
    have kk : ((m : Int)).toNat = m := by omega
    go_wp2_with fail
    ((with_reducible refine (frac_sign FX (by omega)).mono ?_))
    rintro e W3 ⟨rfl, u3⟩
    clear g1 g2 g3 FX
    by_cases hq : q = 0
    · have hs : ((Wd.sgn q.num : Int) != 0) = false := by rw [bne, sgn_eq_zero, decide_eq_true hq]; rfl
      have HZ2 : Hid (∀ i, m ≤ i → qs.getD i 0 = 0) := Lib.hid (fun i hi => by
       rcases Nat.lt_or_ge m i with h | h
       · exact HZ.out i h
       · obtain rfl : i = m := by omega
         rw [HD.out, hq])
      clear hq
      go_wp2
      go_roundw
      case rel => exact ⟨m, by first | rfl | go_num | (congr 1; omega), by omega, HZ2, UW.trans u3⟩
      case measure => simp [intOf] <;> omega
    · have hs : ((Wd.sgn q.num : Int) != 0) = true := by rw [bne, sgn_eq_zero, decide_eq_false hq]; rfl
      have HN : Hid (((Pq.nm qs).length : Int) - 1 = (m : Int)) := Lib.hid (by
       rw [Pq.nm_take hn HZ.out (.inr (by rw [show m + 1 - 1 = m from rfl, HD.out]; exact hq)), List.length_take, Nat.min_eq_left hn]
       omega)
      clear hq
      go_wp2
      go_ret
      exact ⟨by rw [HN.out]; first | rfl | (congr 2; omega), UW.trans u3⟩

set_option maxRecDepth 100000 in
set_option maxHeartbeats 1600000 in
theorem poly_scale {vc v : Value} {c : Rat} {qs : List Rat} {kc ka : Nat} {w : World} (hc : Fr w vc c kc) (h : Sq (Frk ka) w v qs) (hl : qs.length ≤ 100000000) (hkc : kc ≤ 4000000) (hka : ka ≤ 4000000) : Calls Tryz.prog 41 #[vc, v] w (RetP (kc + ka + 2) (Pq.nm (Pq.sc c qs)) w) := by
 obtain ⟨x0, rfl, ⟨A1, n1, c1, e1⟩, ⟨D1, n2, c2, e2⟩⟩ := (kp_fr kc).form hc
 obtain ⟨s0, u0, d0⟩ := x0
 simp only at e1 e2
 subst e1 e2
 have FC : Fr w (.agg #[.bool s0, .slice A1 n1 c1, .slice D1 n2 c2]) c kc := hc
 clear hc
 obtain ⟨A, cv, rfl⟩ := h.form
 have UP : Up w (w.alloc (.cells #[.bool s0, .slice A1 n1 c1, .slice D1 n2 c2] 34)) := (Up.refl w).alloc _
 have b0 := Bx.new 34 w [.bool s0, .slice A1 n1 c1, .slice D1 n2 c2]
 show Calls Tryz.prog 41 #[.agg #[.bool s0, .slice A1 n1 c1, .slice D1 n2 c2], .slice A qs.length cv] w _
 go_enter Tryz.func41, Tryz.ntmps41
 go_wp2_with fail
 generalize (w.alloc (.cells #[.bool s0, .slice A1 n1 c1, .slice D1 n2 c2] 34)) = W at *
 replace FC := FC.up UP
 obtain ⟨b0_0, b0_1, b0_2⟩ := b0.c3
 have H := h.up (kp_fr ka) UP
 ((with_reducible refine (row_scale FC H hl (by omega) (by omega)).mono ?_))
 rintro e W1 ⟨V1, rfl, R, u1⟩
 have hlen : (Pq.sc c qs).length ≤ 100000000 := by simp [Pq.sc]; exact hl
 have RF := R.fr
 replace UP := UP.trans u1
 clear R
 obtain ⟨A2, c2', rfl⟩ := RF.form
 go_wp2_with fail
 ((with_reducible refine (poly_norm RF hlen (by omega)).mono ?_))
 rintro e W2 ⟨V2, rfl, R2, u2⟩
 go_wp2
 go_ret
 exact ⟨_, rfl, R2.weaken UP, UP.trans u2⟩

set_option maxRecDepth 100000 in
set_option maxHeartbeats 3200000 in
theorem row_same {v u : Value} {ps qs : List Rat} {k : Nat} {w : World} (h : Sq (Frk k) w v ps) (h' : Sq (Frk k) w u qs) (hl : ps.length ≤ 100000000) (hl' : qs.length ≤ 100000000) (hk : k ≤ 20000000) : Calls Tryz.prog 108 #[v, u] w fun e w' => e = .returned (.bool (decide (ps = qs))) ∧ Up w w' := by
 obtain ⟨A, c, rfl⟩ := h.form
 obtain ⟨B, d, rfl⟩ := h'.form
 have H := Lib.hid h
 have H' := Lib.hid h'
 clear h h'
 by_cases hn : ps.length = qs.length
 rotate_left
 · have kn : ((ps.length : Int) != (qs.length : Int)) = true := by simp; omega
   have HE : Hid (decide (ps = qs) = false) := Lib.hid (decide_eq_false (fun e => hn (by rw [e])))
   clear hn
   go_enter Tryz.func108, Tryz.ntmps108
   go_wp2
   go_ret
   exact ⟨by rw [HE.out]; rfl, Up.refl w⟩
 have kn : ((ps.length : Int) != (qs.length : Int)) = false := by simp; omega
 have HN := Lib.hid hn
 clear hn
 go_enter Tryz.func108, Tryz.ntmps108
 go_wp2
 go_loopw [13] (fun s13 wr => ∃ j : Nat, s13 = .int .i64 j ∧ j ≤ ps.length ∧ Hid (ps.take j = qs.take j) ∧ Up w wr) (fun s13 _ => ps.length - (intOf s13).toNat)
 case atStart => exact ⟨0, rfl, Nat.zero_le _, Lib.hid rfl, Up.refl w⟩
 case round =>
  obtain ⟨j, rfl, hj, HT, UW⟩ := hrel
  by_cases hlt : j < ps.length
  · have hlt' : j < qs.length := by rw [← HN.out]; exact hlt
    obtain ⟨b1, o1, s1, B1, x1, f1, D1, y1, z1, e1, hb1, g1, g2, g3, FX⟩ := (H.out.up (kp_fr k) UW).at_ (kp_fr k) hlt
    obtain ⟨b2, o2, s2, B2, x2, f2, D2, y2, z2, e2, hb2, g4, g5, g6, FY⟩ := (H'.out.up (kp_fr k) UW).at_ (kp_fr k) hlt'
    subst e1 e2
    have HS := Lib.hid fun (hh : ps[j] = qs[j]) => show ps.take (j + 1) = qs.take (j + 1) by rw [List.take_succ_eq_append_getElem hlt, List.take_succ_eq_append_getElem hlt', HT.out, hh]
    have HD := Lib.hid fun (hh : ps[j] ≠ qs[j]) => show ps ≠ qs by
     intro e
     subst e
     exact hh rfl
    generalize ps[j] = p at *
    generalize qs[j] = q at *
    have FX : Fr wr (.agg #[.bool s1, .slice B1 x1 f1, .slice D1 y1 z1]) p k := FX
    have FY : Fr wr (.agg #[.bool s2, .slice B2 x2 f2, .slice D2 y2 z2]) q k := FY
    have k1 : (j : Int) < (ps.length : Int) := by omega
    have k2 : (j : Int) < (qs.length : Int) := by omega
    have k0 : (0 : Int) ≤ (j : Int) := by omega
    have kk : ((j : Int)).toNat = j := by omega
    have UP := Up.refl wr
    have HOLD : Hid (∀ w', Up wr w' → w'.cell? ⟨b1, o1 + j * 3, none⟩ = some (.bool s1) ∧ w'.cell? ⟨b1, o1 + j * 3 + 1, none⟩ = some (.slice B1 x1 f1) ∧ w'.cell? ⟨b1, o1 + j * 3 + 2, none⟩ = some (.slice D1 y1 z1) ∧ w'.cell? ⟨b2, o2 + j * 3, none⟩ = some (.bool s2) ∧ w'.cell? ⟨b2, o2 + j * 3 + 1, none⟩ = some (.slice B2 x2 f2) ∧ w'.cell? ⟨b2, o2 + j * 3 + 2, none⟩ = some (.slice D2 y2 z2)) := Lib.hid (fun w' up => ⟨(up.cell (p := ⟨b1, o1 + j * 3, none⟩) hb1).trans g1, (up.cell (p := ⟨b1, o1 + j * 3 + 1, none⟩) hb1).trans g2, (up.cell (p := ⟨b1, o1 + j * 3 + 2, none⟩) hb1).trans g3, (up.cell (p := ⟨b2, o2 + j * 3, none⟩) hb2).trans g4, (up.cell (p := ⟨b2, o2 + j * 3 + 1, none⟩) hb2).trans g5, (up.cell (p := ⟨b2, o2 + j * 3 + 2, none⟩) hb2).trans g6⟩)
    clear g1 g2 g3 g4 g5 g6
    have UP : Up wr wr := Up.refl wr
    go_wp2_with fail
    replace FX := FX.up (Up.refl wr).drew
    replace FY := FY.up (Up.refl wr).drew
    replace UP := UP.trans (Up.refl wr).drew
    go_region_held3 (fun w' => Up wr w' ∧ w'.cell? ⟨b1, o1 + j * 3, none⟩ = some (.bool s1) ∧ w'.cell? ⟨b1, o1 + j * 3 + 1, none⟩ = some (.slice B1 x1 f1) ∧ w'.cell? ⟨b1, o1 + j * 3 + 2, none⟩ = some (.slice D1 y1 z1) ∧ w'.cell? ⟨b2, o2 + j * 3, none⟩ = some (.bool s2) ∧ w'.cell? ⟨b2, o2 + j * 3 + 1, none⟩ = some (.slice B2 x2 f2) ∧ w'.cell? ⟨b2, o2 + j * 3 + 2, none⟩ = some (.slice D2 y2 z2))
     (first | exact ⟨UP, HOLD.out _ UP⟩ | exact ⟨(UP.alloc_drew _), HOLD.out _ (UP.alloc_drew _)⟩ | exact ⟨(UP.alloc2_drew _ _), HOLD.out _ (UP.alloc2_drew _ _)⟩ | go_keep)
     ((first
       | (go_at_call 89
          ((with_reducible refine (frac_same FX FY (by omega) (by omega)).mono ?_))
          rintro e W1 ⟨rfl, u1⟩
          replace FX := FX.up u1
          replace FY := FY.up u1
          replace UP := UP.trans u1
          clear u1)))
    all_goals
     by_cases hpq : p = q
     · have HT2 := Lib.hid (HS.out hpq)
       rw [show decide (p = q) = true from decide_eq_true hpq]
       clear hpq
       go_wp2
       go_roundw
       case rel => exact ⟨j + 1, by go_num, by omega, HT2, UW.trans UP⟩
       case measure => simp [intOf]; omega
     · have HE : Hid (decide (ps = qs) = false) := Lib.hid (decide_eq_false (HD.out hpq))
       rw [show decide (p = q) = false from decide_eq_false hpq]
       clear hpq
       go_wp2
       go_ret
       exact ⟨by rw [HE.out]; rfl, UW.trans UP⟩
  · obtain rfl : j = ps.length := by omega
    have HE : Hid (decide (ps = qs) = true) := Lib.hid (decide_eq_true (by
     have := HT.out
     rw [List.take_length, HN.out, List.take_length] at this
     exact this))
    go_wp2
    go_ret
    exact ⟨by rw [HE.out]; rfl, UW⟩

set_option maxRecDepth 100000 in
set_option maxHeartbeats 1600000 in
theorem poly_same {v u : Value} {ps qs : List Rat} {k : Nat} {w : World} (h : Sq (Frk k) w v ps) (h' : Sq (Frk k) w u qs) (hl : ps.length ≤ 100000000) (hl' : qs.length ≤ 100000000) (hk : k ≤ 10000000) : Calls Tryz.prog 30 #[v, u] w fun e w' => e = .returned (.bool (decide (Pq.nm ps = Pq.nm qs))) ∧ Up w w' := by
 have n1 : (Pq.nm ps).length ≤ 100000000 := Nat.le_trans (Pq.nm_len ps) hl
 have n2 : (Pq.nm qs).length ≤ 100000000 := Nat.le_trans (Pq.nm_len qs) hl'
 obtain ⟨A, c, rfl⟩ := h.form
 obtain ⟨B, d, rfl⟩ := h'.form
 go_enter Tryz.func30, Tryz.ntmps30
 go_wp2_with fail
 ((with_reducible refine (poly_norm h hl hk).mono ?_))
 rintro e W1 ⟨V1, rfl, R1, u1⟩
 have h2 := h'.up (kp_fr k) u1
 obtain ⟨A1, c1, rfl⟩ := R1.form
 go_wp2_with fail
 ((with_reducible refine (poly_norm h2 hl' hk).mono ?_))
 rintro e W2 ⟨V2, rfl, R2, u2⟩
 have R1 := R1.up u2
 have F1 := R1.fr
 have F2 := R2.fr
 obtain ⟨A2, c2, rfl⟩ := R2.form
 clear R1 R2 h2 h h'
 go_wp2_with fail
 ((with_reducible refine (row_same F1 F2 n1 n2 (by omega)).mono ?_))
 rintro e W3 ⟨rfl, u3⟩
 go_wp2
 go_ret
 exact ⟨rfl, (u1.trans u2).trans u3⟩
end Go.Proofs.YtmmcffceeahemaaGreat
