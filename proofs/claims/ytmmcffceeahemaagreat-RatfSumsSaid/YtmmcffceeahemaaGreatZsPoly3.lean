/-
  Layer 14: degrees, multiples, values, derivatives.
  Layer 14: a polynomial's value.
-/
import Derived.Test.YtmmcffceeahemaaGreatZsPoly
import Derived.Test.YtmmcffceeahemaaGreatZsShort
set_option linter.unusedVariables false
set_option linter.unusedSimpArgs false
namespace Go.Proofs.YtmmcffceeahemaaGreat
open Go.RowKit
set_option maxRecDepth 100000 in
set_option maxHeartbeats 3200000 in
theorem poly_degree {v : Value} {qs : List Rat} {ka : Nat} {w : World} (h : Sq (Frk ka) w v qs) (hl : qs.length ≤ 100000000) (hka : ka ≤ 10000000) : Calls Tryz.prog 29 #[v] w (RetN (((Pq.nm qs).length : Int) - 1) w) := by
 obtain ⟨A, cv, rfl⟩ := h.form
 have H := Lib.hid h
 clear h
 go_enter Tryz.func29, Tryz.ntmps29
 go_wp2
 go_loopw [3] (fun s3 wr => ∃ n : Nat, s3 = .int .i64 ((n : Int) - 1) ∧ n ≤ qs.length ∧ Hid (∀ i, n ≤ i → qs.getD i 0 = 0) ∧ Up w wr) (fun s3 _ => (intOf s3 + 1).toNat)
 case atStart => exact ⟨qs.length, rfl, Nat.le_refl _, Lib.hid (fun i hi => by simp [List.getD_eq_getElem?_getD, List.getElem?_eq_none hi]), Up.refl w⟩
 case round =>
  obtain ⟨n, rfl, hn, HZ, UW⟩ := hrel
  cases n with
  | zero =>
    have HN : Hid (Pq.nm qs = []) := Lib.hid (by rw [Pq.nm_take hn HZ.out (.inl rfl)]; rfl)
    go_wp2
    go_ret
    exact ⟨by rw [HN.out]; rfl, UW⟩
  | succ m =>
    have hm : m < qs.length := by omega
    obtain ⟨b, o, s, B, m0, f, D, n', f', e0, hb, g1, g2, g3, FX⟩ := (H.out.up (kp_fr ka) UW).at_ (kp_fr ka) hm
    subst e0
    have HD : Hid (qs.getD m 0 = qs[m]) := Lib.hid (Pq.getD_at hm)
    generalize qs[m] = q at *
    have FX : Fr wr (.agg #[.bool s, .slice B m0 f, .slice D n' f']) q ka := FX
    have k1 : (m : Int) < (qs.length : Int) := by omega
    have k0 : (0 : Int) ≤ (m : Int) := by omega
    have kk : ((m : Int)).toNat = m := by omega
    go_wp2_with fail
    ((with_reducible refine (frac_sign FX (by omega)).mono ?_))
    rintro e W3 ⟨rfl, u3⟩
    clear g1 g2 g3 FX
    by_cases hq : q = 0
    · have hs : ((Wd.sgn q.num : Int) != 0) = false := by rw [bne, sgn_eq_zero, decide_eq_true hq]; rfl
      have HZ2 : Hid (∀ i, m ≤ i → qs.getD i 0 = 0) := Lib.hid (fun i hi => by
       rcases Nat.lt_or_ge m i with h | h
       · exact HZ.out i h
       · obtain rfl : i = m := by omega
         rw [HD.out, hq])
      clear hq
      go_wp2
      go_roundw
      case rel => exact ⟨m, by first | rfl | go_num | (congr 1; omega), by omega, HZ2, UW.trans u3⟩
      case measure => simp [intOf] <;> omega
    · have hs : ((Wd.sgn q.num : Int) != 0) = true := by rw [bne, sgn_eq_zero, decide_eq_false hq]; rfl
      have HN : Hid (((Pq.nm qs).length : Int) - 1 = (m : Int)) := Lib.hid (by
       rw [Pq.nm_take hn HZ.out (.inr (by rw [show m + 1 - 1 = m from rfl, HD.out]; exact hq)), List.length_take, Nat.min_eq_left hn]
       omega)
      clear hq
      go_wp2
      go_ret
      exact ⟨by rw [HN.out]; first | rfl | (congr 2; omega), UW.trans u3⟩
set_option maxRecDepth 100000 in
set_option maxHeartbeats 1600000 in
theorem poly_scale {vc v : Value} {c : Rat} {qs : List Rat} {kc ka : Nat} {w : World} (hc : Fr w vc c kc) (h : Sq (Frk ka) w v qs) (hl : qs.length ≤ 100000000) (hkc : kc ≤ 4000000) (hka : ka ≤ 4000000) : Calls Tryz.prog 41 #[vc, v] w (RetP (kc + ka + 2) (Pq.nm (Pq.sc c qs)) w) := by
 obtain ⟨x0, rfl, ⟨A1, n1, c1, e1⟩, ⟨D1, n2, c2, e2⟩⟩ := (kp_fr kc).form hc
 obtain ⟨s0, u0, d0⟩ := x0
 simp only at e1 e2
 subst e1 e2
 have FC : Fr w (.agg #[.bool s0, .slice A1 n1 c1, .slice D1 n2 c2]) c kc := hc
 clear hc
 obtain ⟨A, cv, rfl⟩ := h.form
 have UP : Up w (w.alloc (.cells #[.bool s0, .slice A1 n1 c1, .slice D1 n2 c2] 34)) := (Up.refl w).alloc _
 have b0 := Bx.new 34 w [.bool s0, .slice A1 n1 c1, .slice D1 n2 c2]
 show Calls Tryz.prog 41 #[.agg #[.bool s0, .slice A1 n1 c1, .slice D1 n2 c2], .slice A qs.length cv] w _
 go_enter Tryz.func41, Tryz.ntmps41
 go_wp2_with fail
 generalize (w.alloc (.cells #[.bool s0, .slice A1 n1 c1, .slice D1 n2 c2] 34)) = W at *
 replace FC := FC.up UP
 obtain ⟨b0_0, b0_1, b0_2⟩ := b0.c3
 have H := h.up (kp_fr ka) UP
 ((with_reducible refine (row_scale FC H hl (by omega) (by omega)).mono ?_))
 rintro e W1 ⟨V1, rfl, R, u1⟩
 have hlen : (Pq.sc c qs).length ≤ 100000000 := by simp [Pq.sc]; exact hl
 have RF := R.fr
 replace UP := UP.trans u1
 clear R
 obtain ⟨A2, c2', rfl⟩ := RF.form
 go_wp2_with fail
 ((with_reducible refine (poly_norm RF hlen (by omega)).mono ?_))
 rintro e W2 ⟨V2, rfl, R2, u2⟩
 go_wp2
 go_ret
 exact ⟨_, rfl, R2.weaken UP, UP.trans u2⟩
set_option maxRecDepth 100000 in
set_option maxHeartbeats 3200000 in
theorem row_same {v u : Value} {ps qs : List Rat} {k : Nat} {w : World} (h : Sq (Frk k) w v ps) (h' : Sq (Frk k) w u qs) (hl : ps.length ≤ 100000000) (hl' : qs.length ≤ 100000000) (hk : k ≤ 20000000) : Calls Tryz.prog 108 #[v, u] w fun e w' => e = .returned (.bool (decide (ps = qs))) ∧ Up w w' := by
 obtain ⟨A, c, rfl⟩ := h.form
 obtain ⟨B, d, rfl⟩ := h'.form
 have H := Lib.hid h
 have H' := Lib.hid h'
 clear h h'
 by_cases hn : ps.length = qs.length
 rotate_left
 · have kn : ((ps.length : Int) != (qs.length : Int)) = true := by simp; omega
   have HE : Hid (decide (ps = qs) = false) := Lib.hid (decide_eq_false (fun e => hn (by rw [e])))
   clear hn
   go_enter Tryz.func108, Tryz.ntmps108
   go_wp2
   go_ret
   exact ⟨by rw [HE.out]; rfl, Up.refl w⟩
 have kn : ((ps.length : Int) != (qs.length : Int)) = false := by simp; omega
 have HN := Lib.hid hn
 clear hn
 go_enter Tryz.func108, Tryz.ntmps108
 go_wp2
 go_loopw [13] (fun s13 wr => ∃ j : Nat, s13 = .int .i64 j ∧ j ≤ ps.length ∧ Hid (ps.take j = qs.take j) ∧ Up w wr) (fun s13 _ => ps.length - (intOf s13).toNat)
 case atStart => exact ⟨0, rfl, Nat.zero_le _, Lib.hid rfl, Up.refl w⟩
 case round =>
  obtain ⟨j, rfl, hj, HT, UW⟩ := hrel
  by_cases hlt : j < ps.length
  · have hlt' : j < qs.length := by rw [← HN.out]; exact hlt
    obtain ⟨b1, o1, s1, B1, x1, f1, D1, y1, z1, e1, hb1, g1, g2, g3, FX⟩ := (H.out.up (kp_fr k) UW).at_ (kp_fr k) hlt
    obtain ⟨b2, o2, s2, B2, x2, f2, D2, y2, z2, e2, hb2, g4, g5, g6, FY⟩ := (H'.out.up (kp_fr k) UW).at_ (kp_fr k) hlt'
    subst e1 e2
    have HS := Lib.hid fun (hh : ps[j] = qs[j]) => show ps.take (j + 1) = qs.take (j + 1) by rw [List.take_succ_eq_append_getElem hlt, List.take_succ_eq_append_getElem hlt', HT.out, hh]
    have HD := Lib.hid fun (hh : ps[j] ≠ qs[j]) => show ps ≠ qs by
     intro e
     subst e
     exact hh rfl
    generalize ps[j] = p at *
    generalize qs[j] = q at *
    have FX : Fr wr (.agg #[.bool s1, .slice B1 x1 f1, .slice D1 y1 z1]) p k := FX
    have FY : Fr wr (.agg #[.bool s2, .slice B2 x2 f2, .slice D2 y2 z2]) q k := FY
    have k1 : (j : Int) < (ps.length : Int) := by omega
    have k2 : (j : Int) < (qs.length : Int) := by omega
    have k0 : (0 : Int) ≤ (j : Int) := by omega
    have kk : ((j : Int)).toNat = j := by omega
    have UP := Up.refl wr
    have HOLD : Hid (∀ w', Up wr w' → w'.cell? ⟨b1, o1 + j * 3, none⟩ = some (.bool s1) ∧ w'.cell? ⟨b1, o1 + j * 3 + 1, none⟩ = some (.slice B1 x1 f1) ∧ w'.cell? ⟨b1, o1 + j * 3 + 2, none⟩ = some (.slice D1 y1 z1) ∧ w'.cell? ⟨b2, o2 + j * 3, none⟩ = some (.bool s2) ∧ w'.cell? ⟨b2, o2 + j * 3 + 1, none⟩ = some (.slice B2 x2 f2) ∧ w'.cell? ⟨b2, o2 + j * 3 + 2, none⟩ = some (.slice D2 y2 z2)) := Lib.hid (fun w' up => ⟨(up.cell (p := ⟨b1, o1 + j * 3, none⟩) hb1).trans g1, (up.cell (p := ⟨b1, o1 + j * 3 + 1, none⟩) hb1).trans g2, (up.cell (p := ⟨b1, o1 + j * 3 + 2, none⟩) hb1).trans g3, (up.cell (p := ⟨b2, o2 + j * 3, none⟩) hb2).trans g4, (up.cell (p := ⟨b2, o2 + j * 3 + 1, none⟩) hb2).trans g5, (up.cell (p := ⟨b2, o2 + j * 3 + 2, none⟩) hb2).trans g6⟩)
    clear g1 g2 g3 g4 g5 g6
    have UP : Up wr wr := Up.refl wr
    go_wp2_with fail
    revert FX FY UP; refine lg3 (Up.refl wr).drew ?_; intro FX FY UP
    go_region_held3 (fun w' => Up wr w' ∧ w'.cell? ⟨b1, o1 + j * 3, none⟩ = some (.bool s1) ∧ w'.cell? ⟨b1, o1 + j * 3 + 1, none⟩ = some (.slice B1 x1 f1) ∧ w'.cell? ⟨b1, o1 + j * 3 + 2, none⟩ = some (.slice D1 y1 z1) ∧ w'.cell? ⟨b2, o2 + j * 3, none⟩ = some (.bool s2) ∧ w'.cell? ⟨b2, o2 + j * 3 + 1, none⟩ = some (.slice B2 x2 f2) ∧ w'.cell? ⟨b2, o2 + j * 3 + 2, none⟩ = some (.slice D2 y2 z2))
     (first | exact ⟨UP, HOLD.out _ UP⟩ | exact ⟨(UP.alloc_drew _), HOLD.out _ (UP.alloc_drew _)⟩ | exact ⟨(UP.alloc2_drew _ _), HOLD.out _ (UP.alloc2_drew _ _)⟩ | go_keep)
     ((first
       | (go_at_call 89
          ((with_reducible refine (frac_same FX FY (by omega) (by omega)).mono ?_))
          rintro e W1 ⟨rfl, u1⟩
          revert FX FY UP; revert u1; refine lh3 ?_; intro FX FY UP)))
    all_goals
     by_cases hpq : p = q
     · have HT2 := Lib.hid (HS.out hpq)
       rw [show decide (p = q) = true from decide_eq_true hpq]
       clear hpq
       go_wp2
       go_roundw
       case rel => exact ⟨j + 1, by go_num, by omega, HT2, UW.trans UP⟩
       case measure => simp [intOf]; omega
     · have HE : Hid (decide (ps = qs) = false) := Lib.hid (decide_eq_false (HD.out hpq))
       rw [show decide (p = q) = false from decide_eq_false hpq]
       clear hpq
       go_wp2
       go_ret
       exact ⟨by rw [HE.out]; rfl, UW.trans UP⟩
  · obtain rfl : j = ps.length := by omega
    have HE : Hid (decide (ps = qs) = true) := Lib.hid (decide_eq_true (by
     have := HT.out
     rw [List.take_length, HN.out, List.take_length] at this
     exact this))
    go_wp2
    go_ret
    exact ⟨by rw [HE.out]; rfl, UW⟩
set_option maxRecDepth 100000 in
set_option maxHeartbeats 1600000 in
theorem poly_same {v u : Value} {ps qs : List Rat} {k : Nat} {w : World} (h : Sq (Frk k) w v ps) (h' : Sq (Frk k) w u qs) (hl : ps.length ≤ 100000000) (hl' : qs.length ≤ 100000000) (hk : k ≤ 10000000) : Calls Tryz.prog 30 #[v, u] w fun e w' => e = .returned (.bool (decide (Pq.nm ps = Pq.nm qs))) ∧ Up w w' := by
 have n1 : (Pq.nm ps).length ≤ 100000000 := Nat.le_trans (Pq.nm_len ps) hl
 have n2 : (Pq.nm qs).length ≤ 100000000 := Nat.le_trans (Pq.nm_len qs) hl'
 obtain ⟨A, c, rfl⟩ := h.form
 obtain ⟨B, d, rfl⟩ := h'.form
 go_enter Tryz.func30, Tryz.ntmps30
 go_wp2_with fail
 ((with_reducible refine (poly_norm h hl hk).mono ?_))
 rintro e W1 ⟨V1, rfl, R1, u1⟩
 have h2 := h'.up (kp_fr k) u1
 obtain ⟨A1, c1, rfl⟩ := R1.form
 go_wp2_with fail
 ((with_reducible refine (poly_norm h2 hl' hk).mono ?_))
 rintro e W2 ⟨V2, rfl, R2, u2⟩
 have R1 := R1.up u2
 have F1 := R1.fr
 have F2 := R2.fr
 obtain ⟨A2, c2, rfl⟩ := R2.form
 clear R1 R2 h2 h h'
 go_wp2_with fail
 ((with_reducible refine (row_same F1 F2 n1 n2 (by omega)).mono ?_))
 rintro e W3 ⟨rfl, u3⟩
 go_wp2
 go_ret
 exact ⟨rfl, (u1.trans u2).trans u3⟩
end Go.Proofs.YtmmcffceeahemaaGreat
namespace Pq
theorem E_drop {p : List Rat} {m : Nat} (h : m < p.length) (x : Rat) : E (p.drop m) x = E (p.drop (m + 1)) x * x + p[m] := by
 rw [List.drop_eq_getElem_cons h]
 show p[m] + x * E (p.drop (m + 1)) x = _
 rw [Rat.add_comm, Rat.mul_comm]
end Pq
namespace Go.Proofs.YtmmcffceeahemaaGreat
open Go.RowKit
theorem lq_eval {x : Rat} {kx ka : Nat} (hx : Wd.Lq x kx) : ∀ (qs : List Rat), (∀ q ∈ qs, Wd.Lq q ka) → Wd.Lq (Pq.E qs x) (qs.length * (kx + ka + 1) + 2)
 | [], _ => (lq_int (n := 0) (by omega)).mono (by simp)
 | a :: p, h => by
   have := (h a (by simp)).add (hx.mul (lq_eval hx p (fun q hq => h q (by simp [hq]))))
   refine this.mono ?_
   rw [List.length_cons, Nat.succ_mul]
   omega
theorem qw_of {w : World} {u d : Value} {q : Rat} (h : Ws w u (Wd.words q.num.natAbs)) (k : Ws w d (Wd.words q.den)) : Qw w (.agg #[.bool (Wd.ngb q.num), u, d]) q := ⟨_, _, rfl, h, k⟩
theorem sq_lq {k : Nat} {w : World} {v : Value} {qs : List Rat} (h : Sq (Frk k) w v qs) : ∀ q ∈ qs, Wd.Lq q k := by
 intro q hq
 obtain ⟨i, hi, rfl⟩ := List.getElem_of_mem hq
 obtain ⟨A, c, rfl⟩ := h.form
 obtain ⟨_, _, _, _, _, _, _, _, _, _, _, _, _, _, FX⟩ := h.at_ (kp_fr k) hi
 exact Fr.lq FX
set_option maxRecDepth 100000 in
set_option maxHeartbeats 6400000 in
theorem poly_eval {vx v : Value} {x : Rat} {qs : List Rat} {kx ka : Nat} {w : World} (hx : Fr w vx x kx) (h : Sq (Frk ka) w v qs) (hl : qs.length ≤ 100000000) (hk : qs.length * (kx + ka + 1) ≤ 4000000) (hkx : kx ≤ 4000000) (hka : ka ≤ 4000000) : Calls Tryz.prog 33 #[v, vx] w (RetQ (Pq.E qs x) w) := by
 have LXX := hx.lq
 obtain ⟨x0, rfl, ⟨A1, n1, c1, e1⟩, ⟨D1, n2, c2, e2⟩⟩ := (kp_fr kx).form hx
 obtain ⟨s0, u0, d0⟩ := x0
 simp only at e1 e2
 subst e1 e2
 have FC : Fr w (.agg #[.bool s0, .slice A1 n1 c1, .slice D1 n2 c2]) x kx := hx
 clear hx
 have LE : Hid (∀ n, Wd.Lq (Pq.E (qs.drop n) x) 4000002) := Lib.hid (fun n => (lq_eval LXX (ka := ka) (qs.drop n) (fun q hq => sq_lq h q (List.mem_of_mem_drop hq))).mono (by
  have : (qs.drop n).length * (kx + ka + 1) ≤ qs.length * (kx + ka + 1) := Nat.mul_le_mul_right _ (by rw [List.length_drop]; omega)
  omega))
 obtain ⟨A, cv, rfl⟩ := h.form
 have H := Lib.hid h
 clear h hk
 have UP : Up w ((w.alloc (.cells #[.bool s0, .slice A1 n1 c1, .slice D1 n2 c2] 34)).alloc (.cells #[.bool false, .slice none 0 0, .slice none 0 0] 34)) := ((Up.refl w).alloc _).alloc _
 obtain ⟨b0, r0⟩ := bx_two 34 34 w [.bool s0, .slice A1 n1 c1, .slice D1 n2 c2] [.bool false, .slice none 0 0, .slice none 0 0]
 show Calls Tryz.prog 33 #[.slice A qs.length cv, .agg #[.bool s0, .slice A1 n1 c1, .slice D1 n2 c2]] w _
 go_enter Tryz.func33, Tryz.ntmps33
 go_wp2_with fail
 generalize ((w.alloc (.cells #[.bool s0, .slice A1 n1 c1, .slice D1 n2 c2] 34)).alloc (.cells #[.bool false, .slice none 0 0, .slice none 0 0] 34)) = W at *
 replace FC := FC.up UP
 obtain ⟨b0_0, b0_1, b0_2⟩ := b0.c3
 obtain ⟨r0_0, r0_1, r0_2⟩ := r0.c3
 have r0_f0 := r0.free
 go_wp2_with fail
 ((with_reducible refine (frac_of0 _).mono ?_))
 rintro e W1 ⟨V1, rfl, o, u1⟩
 revert UP b0 r0 FC b0_0 b0_1 b0_2 r0_0 r0_1 r0_2
 refine lg10 u1 ?_
 intro UP b0 r0 FC b0_0 b0_1 b0_2 r0_0 r0_1 r0_2
 replace r0_f0 := r0.free
 clear u1
 obtain ⟨P0, HP0⟩ : ∃ P, Hid ((0 : Rat) = P) := ⟨_, Lib.hid rfl⟩
 rw [HP0.out] at o
 obtain ⟨Xo, Yo, rfl, o, od⟩ := o
 obtain ⟨Ao, no, co, rfl⟩ := o.shape
 obtain ⟨Aod, nod, cod, rfl⟩ := od.shape
 have b0_0a := cA b0_0
 have b0_1a := cA b0_1
 have b0_2a := cA b0_2
 have r0_0a := cA r0_0
 have r0_f0a := r0.fa
 have r0_1a := cA r0_1
 have r0_2a := cA r0_2
 go_wp2_with fail
 clear b0_0a b0_1a b0_2a r0_0a r0_f0a r0_1a r0_2a
 have x1 := Bx.new 34 W1 [.bool (Wd.ngb P0.num), .slice Ao no co, .slice Aod nod cod]
 have b0_lt_x1 := b0.lt
 have b0_ne_x1 : ¬ (w.heap.size = W1.heap.size) := by omega
 have b0_en_x1 : ¬ (W1.heap.size = w.heap.size) := by omega
 have r0_lt_x1 := r0.lt
 have r0_ne_x1 : ¬ (w.heap.size + 1 = W1.heap.size) := by omega
 have r0_en_x1 : ¬ (W1.heap.size = w.heap.size + 1) := by omega
 have nu := ((Up.refl W1).alloc (.cells #[.bool (Wd.ngb P0.num), .slice Ao no co, .slice Aod nod cod] 34))
 revert UP b0 r0 FC o od
 revert nu
 refine lh6 ?_
 intro UP b0 r0 FC o od
 generalize (W1.alloc (.cells #[.bool (Wd.ngb P0.num), .slice Ao no co, .slice Aod nod cod] 34)) = W2 at *
 clear b0_0 b0_1 b0_2 r0_0 r0_1 r0_2
 obtain ⟨b0_0, b0_1, b0_2⟩ := b0.c3
 obtain ⟨r0_0, r0_1, r0_2⟩ := r0.c3
 replace r0_f0 := r0.free
 obtain ⟨x1_0, x1_1, x1_2⟩ := x1.c3
 have x1_f0 := x1.free
 go_loopw [6] (fun s6 wr => ∃ (n : Nat) (s' : Bool) (A' D' : Option Addr) (m1 f1 m2 f2 : Nat), s6 = .int .i64 ((n : Int) - 1) ∧ n ≤ qs.length ∧ Bx 34 wr W1.heap.size [.bool s', .slice A' m1 f1, .slice D' m2 f2] ∧ Qw wr (.agg #[.bool s', .slice A' m1 f1, .slice D' m2 f2]) (Pq.E (qs.drop n) x) ∧ Bx 34 wr w.heap.size [.bool s0, .slice A1 n1 c1, .slice D1 n2 c2] ∧ Bx 34 wr (w.heap.size + 1) [.bool false, .slice none 0 0, .slice none 0 0] ∧ Fr wr (.agg #[.bool s0, .slice A1 n1 c1, .slice D1 n2 c2]) x kx ∧ Up w wr) (fun s6 _ => (intOf s6 + 1).toNat)
 case atStart => exact ⟨qs.length, _, _, _, _, _, _, _, rfl, Nat.le_refl _, x1, by rw [List.drop_length, show Pq.E [] x = P0 from HP0.out]; exact ⟨_, _, rfl, o, od⟩, b0, r0, FC, UP⟩
 case round =>
  obtain ⟨n, s', A', D', m1, f1, m2, f2, rfl, hn, x1, X, b0, r0, FC, UP⟩ := hrel
  obtain ⟨b0_0, b0_1, b0_2⟩ := b0.c3
  obtain ⟨r0_0, r0_1, r0_2⟩ := r0.c3
  have r0_f0 := r0.free
  obtain ⟨x1_0, x1_1, x1_2⟩ := x1.c3
  have x1_f0 := x1.free
  cases n with
  | zero =>
    rw [List.drop_zero] at X
    go_wp2_with fail
    exact end_q rfl rfl rfl X r0 trivial trivial trivial UP (by omega)
  | succ m =>
    have hm : m < qs.length := by omega
    obtain ⟨b, o, s, B, m0, f, D, n', f', e0, hb, g1, g2, g3, FX0⟩ := H.out.at_ (kp_fr ka) hm
    subst e0
    have HD : Hid (Pq.E (qs.drop m) x = Pq.E (qs.drop (m + 1)) x * x + qs[m]) := Lib.hid (Pq.E_drop hm x)
    have L1 := LE.out (m + 1)
    have L0 := LE.out m
    generalize qs[m] = q at *
    generalize Pq.E (qs.drop (m + 1)) x = p at *
    have FX0 : Fr w (.agg #[.bool s, .slice B m0 f, .slice D n' f']) q ka := FX0
    have FX := FX0.up UP
    have HOLD : Hid (∀ w', Up w w' → w'.cell? ⟨b, o + m * 3, none⟩ = some (.bool s) ∧ w'.cell? ⟨b, o + m * 3 + 1, none⟩ = some (.slice B m0 f) ∧ w'.cell? ⟨b, o + m * 3 + 2, none⟩ = some (.slice D n' f')) := Lib.hid (fun w' hu => ⟨(hu.cell (p := ⟨b, o + m * 3, none⟩) hb).trans g1, (hu.cell (p := ⟨b, o + m * 3 + 1, none⟩) hb).trans g2, (hu.cell (p := ⟨b, o + m * 3 + 2, none⟩) hb).trans g3⟩)
    clear g1 g2 g3 FX0
    have k1 : (m : Int) < (qs.length : Int) := by omega
    have k0 : (0 : Int) ≤ (m : Int) := by omega
    have kk : ((m : Int)).toNat = m := by omega
    obtain ⟨Y, HY⟩ : ∃ Y, Hid (p * x = Y) := ⟨_, Lib.hid rfl⟩
    have HM := HY
    have LY : Wd.Lq Y (4000002 + kx) := by rw [← HY.out]; exact L1.mul LXX
    obtain ⟨R, HR⟩ : ∃ R, Hid (Y + q = R) := ⟨_, Lib.hid rfl⟩
    have HA := HR
    have HV : Hid (Pq.E (qs.drop m) x = R) := Lib.hid (by rw [HD.out, HY.out, HR.out])
    go_wp2_with fail
    refine li12 (Up.refl wr).drew X FC FX b0 r0 x1 UP b0_0 b0_1 b0_2 r0_0 r0_1 ?_; clear X FC FX b0 r0 x1 UP b0_0 b0_1 b0_2 r0_0 r0_1; intro X FC FX b0 r0 x1 UP b0_0 b0_1 b0_2 r0_0 r0_1; refine li1 (Up.refl wr).drew r0_2 ?_; clear r0_2; intro r0_2
    replace r0_f0 := r0.free
    obtain ⟨x1_0, x1_1, x1_2⟩ := x1.c3
    have x1_f0 := x1.free
    refine wp_region_noPanic ?_
    refine wp_region_held_drew (S := fun w' => Up w w' ∧ w'.cell? ⟨w.heap.size, 0, none⟩ = some (.bool s0) ∧ w'.cell? ⟨w.heap.size, 1, none⟩ = some (.slice A1 n1 c1) ∧ w'.cell? ⟨w.heap.size, 2, none⟩ = some (.slice D1 n2 c2) ∧ w'.cell? ⟨b, o + m * 3, none⟩ = some (.bool s) ∧ w'.cell? ⟨b, o + m * 3 + 1, none⟩ = some (.slice B m0 f) ∧ w'.cell? ⟨b, o + m * 3 + 2, none⟩ = some (.slice D n' f')) (by kernel_rfl) ?_ (fun hHeld => ?_)
    · exact ⟨UP, b0_0, b0_1, b0_2, HOLD.out _ UP⟩
    refine tk 1 ?_
    try simp only [gs, Act.put]
    refine tk 3 ?_
    try simp only [gs, Act.put]
    refine tk 4 ?_
    try simp only [gs, Act.put]
    refine tk 5 ?_
    try simp only [gs, Act.put]
    refine tk 6 ?_
    try simp only [gs, Act.put]
    refine rd 0 (fun K hK => ?_)
    go_simp
    skip
    try go_wp2_with fail
    try clear hHeld
    refine hK.out _ _ ?_ (fun hHeld => ?_)
    · (first | exact ⟨UP, b0_0, b0_1, b0_2, HOLD.out _ UP⟩ | exact ⟨(us (us (us UP))), (cf (cf (cf b0_0))), (cf (cf (cf b0_1))), (cf (cf (cf b0_2))), HOLD.out _ (us (us (us UP)))⟩)
    clear hK K
    try simp only [gs, Act.put]
    refine rd 2 (fun K hK => ?_)
    go_simp
    (first
      | (go_at_call 110
         ((with_reducible refine (frac_mul (X.fr L1) FC (by omega) (by omega)).mono ?_))
         rintro e W51 ⟨V51, rfl, y, u51⟩
         clear x1_0 x1_1 x1_2; revert X FC FX b0 r0 x1 UP b0_0 b0_1 b0_2 r0_0 r0_1; refine lg12 u51 ?_; intro X FC FX b0 r0 x1 UP b0_0 b0_1 b0_2 r0_0 r0_1; revert r0_2; refine lg1 u51 ?_; intro r0_2
         try (replace y := y.up u51)
         try (replace z := z.up u51)
         replace r0_f0 := r0.free
         obtain ⟨x1_0, x1_1, x1_2⟩ := x1.c3
         replace x1_f0 := x1.free
         clear u51
         rw [HM.out] at y
         obtain ⟨Xy, Yy, rfl, y, yd⟩ := y
         obtain ⟨Ay, ny, cy, rfl⟩ := y.shape
         obtain ⟨Ayd, nyd, cyd, rfl⟩ := yd.shape))
    try go_wp2_with fail
    try clear hHeld
    refine hK.out _ _ ?_ (fun hHeld => ?_)
    · exact ⟨UP, b0_0, b0_1, b0_2, HOLD.out _ UP⟩
    clear hK K
    try simp only [gs, Act.put]
    refine rd 7 (fun K hK => ?_)
    go_simp
    (first
      | (go_at_call 109
         ((with_reducible refine (frac_add ((qw_of y yd).fr LY) FX (by omega) (by omega)).mono ?_))
         rintro e W52 ⟨V52, rfl, z, u52⟩
         clear x1_0 x1_1 x1_2; revert X FC FX b0 r0 x1 UP b0_0 b0_1 b0_2 r0_0 r0_1; refine lg12 u52 ?_; intro X FC FX b0 r0 x1 UP b0_0 b0_1 b0_2 r0_0 r0_1; revert r0_2; refine lg1 u52 ?_; intro r0_2
         try (replace y := y.up u52)
         try (replace z := z.up u52)
         replace r0_f0 := r0.free
         obtain ⟨x1_0, x1_1, x1_2⟩ := x1.c3
         replace x1_f0 := x1.free
         clear u52
         rw [HA.out] at z
         obtain ⟨Xz, Yz, rfl, z, zd⟩ := z
         obtain ⟨Az, nz, cz, rfl⟩ := z.shape
         obtain ⟨Azd, nzd, czd, rfl⟩ := zd.shape))
    try go_wp2_with fail
    try clear hHeld
    refine hK.out _ _ ?_ (fun hHeld => ?_)
    · exact ⟨UP, b0_0, b0_1, b0_2, HOLD.out _ UP⟩
    clear hK K
    try simp only [gs, Act.put]
    refine rd 8 (fun K hK => ?_)
    go_simp
    skip
    try go_wp2_with fail
    try clear hHeld
    refine hK.out _ _ ?_ (fun hHeld => ?_)
    · (first | exact ⟨UP, b0_0, b0_1, b0_2, HOLD.out _ UP⟩ | exact ⟨(us (us (us UP))), (cf (cf (cf b0_0))), (cf (cf (cf b0_1))), (cf (cf (cf b0_2))), HOLD.out _ (us (us (us UP)))⟩)
    clear hK K
    try simp only [gs, Act.put]
    refine wpAnyH_done (by kernel_rfl) ?_ _
    refine NoPanic.normal ?_
    clear y X
    have KW : Kw (W52) ((W52).setCell ⟨W1.heap.size, 0, none⟩ (.bool (Wd.ngb R.num))) := Kw.store (c := (.bool s')) x1 rfl trivial _
    refine li4 KW FC FX z zd ?_; clear FC FX z zd; intro FC FX z zd
    replace b0 := b0.fr (W1.heap.size) 0 (.bool (Wd.ngb R.num))
    replace r0 := r0.fr (W1.heap.size) 0 (.bool (Wd.ngb R.num))
    replace x1 : Bx 34 ((W52).setCell ⟨W1.heap.size, 0, none⟩ (.bool (Wd.ngb R.num))) (W1.heap.size) [.bool (Wd.ngb R.num), .slice A' m1 f1, .slice D' m2 f2] := x1.set 0 (.bool (Wd.ngb R.num))
    replace UP := UP.setCell (p := ⟨W1.heap.size, 0, none⟩) (by dsimp only; omega) (.bool (Wd.ngb R.num))
    have KW : Kw (((W52).setCell ⟨W1.heap.size, 0, none⟩ (.bool (Wd.ngb R.num)))) ((((W52).setCell ⟨W1.heap.size, 0, none⟩ (.bool (Wd.ngb R.num)))).setCell ⟨W1.heap.size, 1, none⟩ (.slice Az nz cz)) := Kw.store (c := (.slice A' m1 f1)) x1 rfl trivial _
    revert FC FX z zd; refine lg4 KW ?_; intro FC FX z zd
    replace b0 := b0.fr (W1.heap.size) 1 (.slice Az nz cz)
    replace r0 := r0.fr (W1.heap.size) 1 (.slice Az nz cz)
    replace x1 : Bx 34 ((((W52).setCell ⟨W1.heap.size, 0, none⟩ (.bool (Wd.ngb R.num)))).setCell ⟨W1.heap.size, 1, none⟩ (.slice Az nz cz)) (W1.heap.size) [.bool (Wd.ngb R.num), .slice Az nz cz, .slice D' m2 f2] := x1.set 1 (.slice Az nz cz)
    replace UP := UP.setCell (p := ⟨W1.heap.size, 1, none⟩) (by dsimp only; omega) (.slice Az nz cz)
    have KW : Kw (((((W52).setCell ⟨W1.heap.size, 0, none⟩ (.bool (Wd.ngb R.num)))).setCell ⟨W1.heap.size, 1, none⟩ (.slice Az nz cz))) ((((((W52).setCell ⟨W1.heap.size, 0, none⟩ (.bool (Wd.ngb R.num)))).setCell ⟨W1.heap.size, 1, none⟩ (.slice Az nz cz))).setCell ⟨W1.heap.size, 2, none⟩ (.slice Azd nzd czd)) := Kw.store (c := (.slice D' m2 f2)) x1 rfl trivial _
    revert FC FX z zd; refine lg4 KW ?_; intro FC FX z zd
    replace b0 := b0.fr (W1.heap.size) 2 (.slice Azd nzd czd)
    replace r0 := r0.fr (W1.heap.size) 2 (.slice Azd nzd czd)
    replace x1 : Bx 34 ((((((W52).setCell ⟨W1.heap.size, 0, none⟩ (.bool (Wd.ngb R.num)))).setCell ⟨W1.heap.size, 1, none⟩ (.slice Az nz cz))).setCell ⟨W1.heap.size, 2, none⟩ (.slice Azd nzd czd)) (W1.heap.size) [.bool (Wd.ngb R.num), .slice Az nz cz, .slice Azd nzd czd] := x1.set 2 (.slice Azd nzd czd)
    replace UP := UP.setCell (p := ⟨W1.heap.size, 2, none⟩) (by dsimp only; omega) (.slice Azd nzd czd)
    clear KW
    generalize ((((((W52).setCell ⟨W1.heap.size, 0, none⟩ (.bool (Wd.ngb R.num)))).setCell ⟨W1.heap.size, 1, none⟩ (.slice Az nz cz))).setCell ⟨W1.heap.size, 2, none⟩ (.slice Azd nzd czd)) = W53 at *
    clear b0_0 b0_1 b0_2 r0_0 r0_1 r0_2 x1_0 x1_1 x1_2
    obtain ⟨b0_0, b0_1, b0_2⟩ := b0.c3
    obtain ⟨r0_0, r0_1, r0_2⟩ := r0.c3
    replace r0_f0 := r0.free
    obtain ⟨x1_0, x1_1, x1_2⟩ := x1.c3
    go_wp2_with fail
    go_roundw
    case rel => exact ⟨m, _, _, _, _, _, _, _, by first | rfl | go_num | (congr 1; omega), by omega, x1, by rw [HV.out]; exact ⟨_, _, rfl, z, zd⟩, b0, r0, FC, UP⟩
    case measure => simp [intOf] <;> omega
end Go.Proofs.YtmmcffceeahemaaGreat
