/-
  Layer 15: made of two polynomials; right; the same everywhere; a line; sums and products.
-/
import Derived.Test.YtmmcffceeahemaaGreatZtRatf
import Derived.Test.YtmmcffceeahemaaGreatZtShort
set_option linter.unusedVariables false
set_option linter.unusedSimpArgs false
namespace Go.Proofs.YtmmcffceeahemaaGreat
open Go.RowKit
theorem poly_mul_as {v u : Value} {ps qs R : List Rat} {ka kb K : Nat} (j k : Nat) {w : World} (h : FSq ka w v ps) (h2 : FSq kb w u qs) (LP : Pq.Lp ps j) (LQ : Pq.Lp qs k) (hl : ps.length ≤ 10000) (hl2 : qs.length ≤ 10000) (hka : ka ≤ 4000000) (hkb : kb ≤ 4000000) (hk : j + k ≤ 3000000) (HR : Hid (Pq.nm (Pq.mul ps qs) = R)) (HL : Hid (∀ x ∈ R, Wd.Lq x K)) :
 Calls Tryz.prog 39 #[v, u] w (RetP K R w) := by
 rw [← HR.out] at HL ⊢
 exact (poly_mul2 h h2 LP LQ hl hl2 hka hkb hk).mono fun e w' h => h.re HL.out
theorem poly_sub_as {v u : Value} {ps qs R : List Rat} {ka kb K : Nat} (j k : Nat) {w : World} (h : FSq ka w v ps) (h2 : FSq kb w u qs) (LP : Pq.Lp ps j) (LQ : Pq.Lp qs k) (hl : ps.length ≤ 10000) (hl2 : qs.length ≤ 10000) (hka : ka ≤ 3000000) (hkb : kb ≤ 3000000) (HR : Hid (Pq.nm (Pq.sub ps qs) = R)) (HL : Hid (∀ x ∈ R, Wd.Lq x K)) :
 Calls Tryz.prog 37 #[v, u] w (RetP K R w) := by
 rw [← HR.out] at HL ⊢
 exact (poly_sub2 h h2 LP LQ hl hl2 hka hkb).mono fun e w' h => h.re HL.out
theorem poly_diff_as {v : Value} {qs R : List Rat} {ka K : Nat} {w : World} (h : FSq ka w v qs) (hl : qs.length ≤ 10000) (hka : ka ≤ 4000000) (HR : Hid (Pq.nm (Pq.df qs) = R)) (HL : Hid (∀ x ∈ R, Wd.Lq x K)) : Calls Tryz.prog 44 #[v] w (RetP K R w) := by
 rw [← HR.out] at HL ⊢
 exact (poly_diff h.sq (by omega) hka).mono fun e w' h => h.re HL.out
/-- Both parts, as letters. -/
theorem parts_letters (p q : List Rat) {m j : Nat} (hl : p.length ≤ m) (hl2 : q.length ≤ m) (hm1 : 1 ≤ m) (LJ : Pq.Lp (p ++ q) j) :
 ∃ P D : List Rat, Hid (Pq.pu p q = P) ∧ Hid (Pq.pd p q = D) ∧ P.length ≤ m ∧ D.length ≤ m ∧ Hid (Pq.Lp (P ++ D) j) ∧ Hid (Pq.nm D ≠ []) :=
 ⟨_, _, Lib.hid rfl, Lib.hid rfl, Nat.le_trans (Pq.pu_len p q) hl, by have := Pq.pd_len p q; omega, Lib.hid (Pq.pud_lp LJ), Lib.hid (Pq.pd_ne p q)⟩
set_option maxRecDepth 100000 in
set_option maxHeartbeats 3200000 in
theorem ratf_norm {v u : Value} {p q P D : List Rat} {k j m K : Nat} {w : World} (h : FSq k w v p) (h2 : FSq k w u q) (hl : p.length ≤ m) (hl2 : q.length ≤ m) (hm1 : 1 ≤ m) (hm : m ≤ 1000) (LJ : Pq.Lp (p ++ q) j) (hK : 2 * m * (j + 1) ≤ K) (hK2 : (m + 3) * (K + 1) ≤ 3000000) (hk2 : 2 ≤ k) (hka : k ≤ 2000000) (HP : Hid (Pq.pu p q = P)) (HD : Hid (Pq.pd p q = D)) :
 Calls Tryz.prog 69 #[.agg #[v, u]] w (RetFn K m P D w) := by
 obtain ⟨A, c, rfl⟩ := h.form
 obtain ⟨B, d, rfl⟩ := h2.form
 have lP : P.length ≤ m := by rw [← HP.out]; exact Nat.le_trans (Pq.pu_len p q) hl
 have lD : D.length ≤ m := by rw [← HD.out]; have := Pq.pd_len p q; omega
 have LPD : Hid (Pq.Lp (P ++ D) j) := Lib.hid (by rw [← HP.out, ← HD.out]; exact Pq.pud_lp LJ)
 have DN : Hid (Pq.nm D ≠ []) := Lib.hid (by rw [← HD.out]; exact Pq.pd_ne p q)
 have UP : Up w ((w.alloc (.cells #[.slice A p.length c, .slice B q.length d] 84)).alloc (.cells #[.slice none 0 0, .slice none 0 0] 84)) := ((Up.refl w).alloc _).alloc _
 obtain ⟨b0, r0⟩ := bx_two 84 84 w [.slice A p.length c, .slice B q.length d] [.slice none 0 0, .slice none 0 0]
 go_enter Tryz.func69, Tryz.ntmps69
 go_wp2_with fail
 generalize ((w.alloc (.cells #[.slice A p.length c, .slice B q.length d] 84)).alloc (.cells #[.slice none 0 0, .slice none 0 0] 84)) = W at *
 revert h h2
 refine lg2 UP ?_
 intro h h2
 obtain ⟨b0_0, b0_1⟩ := b0.c2
 obtain ⟨r0_0, r0_1⟩ := r0.c2
 have r0_f0 := r0.free
 go_wp2_with fail
 ((with_reducible refine (ratf_parts h h2 (by omega) (by omega) hk2 HP HD).mono ?_))
 rintro e W1 ⟨V1, U1, rfl, x, y, u1⟩
 obtain ⟨Ax, cx, rfl⟩ := x.form
 obtain ⟨Ay, cy, rfl⟩ := y.form
 revert UP b0 r0 h h2 b0_0 b0_1 r0_0 r0_1
 refine lg9 u1 ?_
 intro UP b0 r0 h h2 b0_0 b0_1 r0_0 r0_1
 replace r0_f0 := r0.free
 clear u1
 clear h h2
 go_wp2_with fail
 ((with_reducible refine (ratf_cancel x y DN lP lD hm LPD.out hK hK2 hka).mono ?_))
 rintro e W2 ⟨V2, U2, psa, qsa, rfl, a, b, caa, lpa, lea, u2⟩
 obtain ⟨Aa, ca, rfl⟩ := a.form
 obtain ⟨Ab, cb, rfl⟩ := b.form
 revert x y UP b0 r0 b0_0 b0_1 r0_0 r0_1
 refine lg9 u2 ?_
 intro x y UP b0 r0 b0_0 b0_1 r0_0 r0_1
 replace r0_f0 := r0.free
 clear u2
 clear x y
 go_wp2_with fail
 have KW : Kw (W2) ((W2).setCell ⟨w.heap.size + 1, 0, none⟩ (.slice Aa psa.length ca)) := Kw.store (c := (.slice none 0 0)) r0 rfl trivial _
 replace a := a.stored r0 (by decide) KW
 replace b := b.stored r0 (by decide) KW
 replace b0 := b0.fr (w.heap.size + 1) 0 (.slice Aa psa.length ca)
 replace r0 : Bx 84 ((W2).setCell ⟨w.heap.size + 1, 0, none⟩ (.slice Aa psa.length ca)) (w.heap.size + 1) [.slice Aa psa.length ca, .slice none 0 0] := r0.set 0 (.slice Aa psa.length ca)
 replace UP := UP.setCell (p := ⟨w.heap.size + 1, 0, none⟩) (by dsimp only; omega) (.slice Aa psa.length ca)
 have KW : Kw (((W2).setCell ⟨w.heap.size + 1, 0, none⟩ (.slice Aa psa.length ca))) ((((W2).setCell ⟨w.heap.size + 1, 0, none⟩ (.slice Aa psa.length ca))).setCell ⟨w.heap.size + 1, 1, none⟩ (.slice Ab qsa.length cb)) := Kw.store (c := (.slice none 0 0)) r0 rfl trivial _
 replace a := a.stored r0 (by decide) KW
 replace b := b.stored r0 (by decide) KW
 replace b0 := b0.fr (w.heap.size + 1) 1 (.slice Ab qsa.length cb)
 replace r0 : Bx 84 ((((W2).setCell ⟨w.heap.size + 1, 0, none⟩ (.slice Aa psa.length ca))).setCell ⟨w.heap.size + 1, 1, none⟩ (.slice Ab qsa.length cb)) (w.heap.size + 1) [.slice Aa psa.length ca, .slice Ab qsa.length cb] := r0.set 1 (.slice Ab qsa.length cb)
 replace UP := UP.setCell (p := ⟨w.heap.size + 1, 1, none⟩) (by dsimp only; omega) (.slice Ab qsa.length cb)
 clear KW
 generalize ((((W2).setCell ⟨w.heap.size + 1, 0, none⟩ (.slice Aa psa.length ca))).setCell ⟨w.heap.size + 1, 1, none⟩ (.slice Ab qsa.length cb)) = W3 at *
 clear b0_0 b0_1 r0_0 r0_1
 obtain ⟨b0_0, b0_1⟩ := b0.c2
 obtain ⟨r0_0, r0_1⟩ := r0.c2
 exact bodyPost_ret (run_res_cell rfl rfl agg_fun size_fun r0 rfl) rfl ⟨_, _, _, _, rfl, a, b, caa, lpa, lea, UP⟩
set_option maxRecDepth 100000 in
set_option maxHeartbeats 3200000 in
theorem ratf_same {v u v' u' : Value} {p q P D p' q' P' D' : List Rat} {k j m j' m' : Nat} {w : World} (h : FSq k w v p) (h2 : FSq k w u q) (hl : p.length ≤ m) (hl2 : q.length ≤ m) (hm1 : 1 ≤ m) (LJ : Pq.Lp (p ++ q) j) (h' : FSq k w v' p') (h2' : FSq k w u' q') (hl' : p'.length ≤ m') (hl2' : q'.length ≤ m') (hm1' : 1 ≤ m') (LJ' : Pq.Lp (p' ++ q') j')
 (hm : m + m' ≤ 1000) (hK : j + j' ≤ 1400000) (hk2 : 2 ≤ k) (hka : k ≤ 2000000) (HP : Hid (Pq.pu p q = P)) (HD : Hid (Pq.pd p q = D)) (HP' : Hid (Pq.pu p' q' = P')) (HD' : Hid (Pq.pd p' q' = D')) {t : Bool} (HT : Hid (decide (Pq.nm (Pq.nm (Pq.mul P D')) = Pq.nm (Pq.nm (Pq.mul P' D))) = t)) :
 Calls Tryz.prog 72 #[.agg #[v, u], .agg #[v', u']] w fun e w' => e = .returned (.bool t) ∧ Up w w' := by
 obtain ⟨A1, c1, rfl⟩ := h.form
 obtain ⟨B1, d1, rfl⟩ := h2.form
 obtain ⟨A2, c2, rfl⟩ := h'.form
 obtain ⟨B2, d2, rfl⟩ := h2'.form
 have lP : P.length ≤ m := by rw [← HP.out]; exact Nat.le_trans (Pq.pu_len p q) hl
 have lD : D.length ≤ m := by rw [← HD.out]; have := Pq.pd_len p q; omega
 have LPD : Hid (Pq.Lp (P ++ D) j) := Lib.hid (by rw [← HP.out, ← HD.out]; exact Pq.pud_lp LJ)
 have DN : Hid (Pq.nm D ≠ []) := Lib.hid (by rw [← HD.out]; exact Pq.pd_ne p q)
 have lP' : P'.length ≤ m' := by rw [← HP'.out]; exact Nat.le_trans (Pq.pu_len p' q') hl'
 have lD' : D'.length ≤ m' := by rw [← HD'.out]; have := Pq.pd_len p' q'; omega
 have LPD' : Hid (Pq.Lp (P' ++ D') j') := Lib.hid (by rw [← HP'.out, ← HD'.out]; exact Pq.pud_lp LJ')
 have DN' : Hid (Pq.nm D' ≠ []) := Lib.hid (by rw [← HD'.out]; exact Pq.pd_ne p' q')
 have LM1 := Lib.hid (LPD.out.fst.mul LPD'.out.snd (by omega))
 have LM2 := Lib.hid (LPD'.out.fst.mul LPD.out.snd (by omega))
 have lM1 := Pq.nm_mul_len P D'
 have lM2 := Pq.nm_mul_len P' D
 obtain ⟨M1, HM1⟩ : ∃ r, Hid (Pq.nm (Pq.mul P D') = r) := ⟨_, Lib.hid rfl⟩
 obtain ⟨M2, HM2⟩ : ∃ r, Hid (Pq.nm (Pq.mul P' D) = r) := ⟨_, Lib.hid rfl⟩
 rw [HM1.out] at LM1 lM1 HT
 rw [HM2.out] at LM2 lM2 HT
 have LQ1 : Hid (∀ x ∈ M1, Wd.Lq x (j + j' + 1)) := Lib.hid LM1.out.lq
 have LQ2 : Hid (∀ x ∈ M2, Wd.Lq x (j + j' + 1)) := Lib.hid (by rw [Nat.add_comm j]; exact LM2.out.lq)
 have UP : Up w ((w.alloc (.cells #[.slice A1 p.length c1, .slice B1 q.length d1] 84)).alloc (.cells #[.slice A2 p'.length c2, .slice B2 q'.length d2] 84)) := ((Up.refl w).alloc _).alloc _
 obtain ⟨b0, b1⟩ := bx_two 84 84 w [.slice A1 p.length c1, .slice B1 q.length d1] [.slice A2 p'.length c2, .slice B2 q'.length d2]
 go_enter Tryz.func72, Tryz.ntmps72
 go_wp2_with fail
 generalize ((w.alloc (.cells #[.slice A1 p.length c1, .slice B1 q.length d1] 84)).alloc (.cells #[.slice A2 p'.length c2, .slice B2 q'.length d2] 84)) = W at *
 revert h h2 h' h2'
 refine lg4 UP ?_
 intro h h2 h' h2'
 obtain ⟨b0_0, b0_1⟩ := b0.c2
 obtain ⟨b1_0, b1_1⟩ := b1.c2
 go_wp2_with fail
 ((with_reducible refine (ratf_parts h h2 (by omega) (by omega) hk2 HP HD).mono ?_))
 rintro e W1 ⟨V1, U1, rfl, x, y, u1⟩
 obtain ⟨Ax, cx, rfl⟩ := x.form
 obtain ⟨Ay, cy, rfl⟩ := y.form
 revert UP b0 b1 h h2 h' h2' b0_0 b0_1 b1_0 b1_1
 revert u1
 refine lh11 ?_
 intro UP b0 b1 h h2 h' h2' b0_0 b0_1 b1_0 b1_1
 go_wp2_with fail
 ((with_reducible refine (ratf_parts h' h2' (by omega) (by omega) hk2 HP' HD').mono ?_))
 rintro e W2 ⟨V2, U2, rfl, x', y', u2⟩
 obtain ⟨Ax', cx', rfl⟩ := x'.form
 obtain ⟨Ay', cy', rfl⟩ := y'.form
 revert x y UP b0 b1 h h2 h' h2' b0_0 b0_1 b1_0
 refine lg12 u2 ?_
 intro x y UP b0 b1 h h2 h' h2' b0_0 b0_1 b1_0
 revert b1_1
 revert u2
 refine lh1 ?_
 intro b1_1
 clear h h2 h' h2'
 go_wp2_with fail
 ((with_reducible refine (poly_mul_as j j' x y' LPD.out.fst LPD'.out.snd (by omega) (by omega) (by omega) (by omega) (by omega) HM1 LQ1).mono ?_))
 rintro e W3 ⟨V3, rfl, a1, u3⟩
 obtain ⟨Aa1, ca1, rfl⟩ := a1.form
 revert x' y' x y UP b0 b1 b0_0 b0_1 b1_0 b1_1
 revert u3
 refine lh11 ?_
 intro x' y' x y UP b0 b1 b0_0 b0_1 b1_0 b1_1
 go_wp2_with fail
 ((with_reducible refine (poly_mul_as j' j x' y LPD'.out.fst LPD.out.snd (by omega) (by omega) (by omega) (by omega) (by omega) HM2 LQ2).mono ?_))
 rintro e W4 ⟨V4, rfl, a2, u4⟩
 obtain ⟨Aa2, ca2, rfl⟩ := a2.form
 revert a1 x' y' x y UP b0 b1 b0_0 b0_1 b1_0 b1_1
 revert u4
 refine lh12 ?_
 intro a1 x' y' x y UP b0 b1 b0_0 b0_1 b1_0 b1_1
 go_wp2_with fail
 ((with_reducible refine (poly_same a1.fs.sq a2.fs.sq (by omega) (by omega) (by omega)).mono ?_))
 rintro e W5 ⟨rfl, u5⟩
 revert a2 a1 x' y' x y UP b0 b1 b0_0 b0_1 b1_0
 refine lg12 u5 ?_
 intro a2 a1 x' y' x y UP b0 b1 b0_0 b0_1 b1_0
 revert b1_1
 revert u5
 refine lh1 ?_
 intro b1_1
 rw [HT.out]
 go_wp2
 go_ret
 exact ⟨rfl, UP⟩
set_option maxRecDepth 100000 in
set_option maxHeartbeats 3200000 in
theorem ratf_zero {v u : Value} {p q P D : List Rat} {k : Nat} {w : World} (h : FSq k w v p) (h2 : FSq k w u q) (hl : p.length ≤ 1000) (hl2 : q.length ≤ 1000) (hk2 : 2 ≤ k) (hka : k ≤ 2000000) (HP : Hid (Pq.pu p q = P)) (HD : Hid (Pq.pd p q = D)) :
 Calls Tryz.prog 71 #[.agg #[v, u]] w fun e w' => e = .returned (.bool (decide (Pq.nm P = []))) ∧ Up w w' := by
 obtain ⟨A, c, rfl⟩ := h.form
 obtain ⟨B, d, rfl⟩ := h2.form
 have lP : P.length ≤ 1000 := by rw [← HP.out]; exact Nat.le_trans (Pq.pu_len p q) hl
 obtain ⟨z, HZ⟩ : ∃ z, Hid (((Pq.nm P).length : Int) - 1 = z) := ⟨_, Lib.hid rfl⟩
 have HB : Hid (decide (z < 0) = decide (Pq.nm P = [])) := Lib.hid (decide_eq_decide.2 (by rw [← HZ.out, ← List.length_eq_zero_iff]; omega))
 have UP : Up w (w.alloc (.cells #[.slice A p.length c, .slice B q.length d] 84)) := (Up.refl w).alloc _
 have b0 := Bx.new 84 w [.slice A p.length c, .slice B q.length d]
 go_enter Tryz.func71, Tryz.ntmps71
 go_wp2_with fail
 generalize (w.alloc (.cells #[.slice A p.length c, .slice B q.length d] 84)) = W at *
 revert h h2
 refine lg2 UP ?_
 intro h h2
 obtain ⟨b0_0, b0_1⟩ := b0.c2
 go_wp2_with fail
 ((with_reducible refine (ratf_parts h h2 (by omega) (by omega) hk2 HP HD).mono ?_))
 rintro e W1 ⟨V1, U1, rfl, x, y, u1⟩
 obtain ⟨Ax, cx, rfl⟩ := x.form
 obtain ⟨Ay, cy, rfl⟩ := y.form
 revert UP b0 h h2 b0_0 b0_1
 revert u1
 refine lh6 ?_
 intro UP b0 h h2 b0_0 b0_1
 go_wp2_with fail
 ((with_reducible refine (poly_degree x.sq (by omega) (by omega)).mono ?_))
 rintro e W2 ⟨rfl, u2⟩
 revert x y UP b0 h h2 b0_0 b0_1
 revert u2
 refine lh8 ?_
 intro x y UP b0 h h2 b0_0 b0_1
 rw [HZ.out]
 go_wp2
 go_ret
 exact ⟨by rw [← HB.out]; rfl, UP⟩
end Go.Proofs.YtmmcffceeahemaaGreat
