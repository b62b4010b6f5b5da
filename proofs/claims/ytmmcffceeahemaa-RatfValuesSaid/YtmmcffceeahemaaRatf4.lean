/-
  Layer 15: times -1; a difference.
-/
import Derived.Test.YtmmcffceeahemaaRatf3
set_option linter.unusedVariables false
set_option linter.unusedSimpArgs false
namespace Pq
theorem Can.sum_back {P D N E' psa qsa R S : List Rat} (h : Can (au P D psa qsa) (nm (mul D qsa)) R S) (hD : nm D ≠ []) (hca : Can N E' psa qsa) : Can (au P D N E') (nm (mul D E')) R S :=
 h.turn (nmul_ne hD hca.nd) fun x => by
  have e := hca.eq x
  rw [E_au, E_au, E_nmul, E_nmul]
  calc (E P x * E qsa x + E psa x * E D x) * (E D x * E E' x) = E P x * E qsa x * E D x * E E' x + (E psa x * E E' x) * (E D x * E D x) := by grind
   _ = _ := by rw [e]; grind
end Pq
namespace Go.Proofs.Ytmmcffceeahemaa
open Go.RowKit

theorem row_scale_as {vc v : Value} {c : Rat} {qs R : List Rat} {kc ka K : Nat} {w : World} (hc : Fr w vc c kc) (h : FSq ka w v qs) (hl : qs.length ≤ 10000) (hkc : kc ≤ 4000000) (hka : ka ≤ 4000000) (HR : Hid (Pq.sc c qs = R)) (HL : Hid (∀ x ∈ R, Wd.Lq x K)) : Calls Try.prog 173 #[vc, v] w (RetP K R w) := by
 rw [← HR.out] at HL ⊢
 exact (row_scale hc h.sq (by omega) (by omega) (by omega)).mono fun e w' h => h.re HL.out
set_option maxRecDepth 100000 in
set_option maxHeartbeats 3200000 in
theorem ratf_neg {v u : Value} {p q P D : List Rat} {k j m K : Nat} {w : World} (h : FSq k w v p) (h2 : FSq k w u q) (hl : p.length ≤ m) (hl2 : q.length ≤ m) (hm1 : 1 ≤ m) (hm : m ≤ 1000) (LJ : Pq.Lp (p ++ q) j) (hK : 2 * m * (j + 1) ≤ K) (hK2 : (m + 3) * (K + 1) ≤ 3000000) (hk2 : 2 ≤ k) (hka : k ≤ 2000000) (HP : Hid (Pq.pu p q = P)) (HD : Hid (Pq.pd p q = D)) :
 Calls Try.prog 143 #[.agg #[v, u]] w (RetFn K m (Pq.sc (-1) P) D w) := by
 obtain ⟨A, c, rfl⟩ := h.form
 obtain ⟨B, d, rfl⟩ := h2.form
 have lP : P.length ≤ m := by rw [← HP.out]; exact Nat.le_trans (Pq.pu_len p q) hl
 have DN : Hid (Pq.nm D ≠ []) := Lib.hid (by rw [← HD.out]; exact Pq.pd_ne p q)
 have hK9 : K ≤ 1500000 := by
  have h3 : 4 * (K + 1) ≤ (m + 3) * (K + 1) := Nat.mul_le_mul_right _ (by omega)
  omega
 obtain ⟨M1, HM1⟩ : ∃ P, Hid (((-1 : Int) : Rat) = P) := ⟨_, Lib.hid rfl⟩
 have LM1 : Wd.Lq M1 2 := by rw [← HM1.out]; exact lq_int (by omega)
 have HME : Hid (M1 = -1) := Lib.hid (by rw [← HM1.out]; rfl)
 have UP : Up w ((w.alloc (.cells #[.slice A p.length c, .slice B q.length d] 120)).alloc (.cells #[.slice none 0 0, .slice none 0 0] 120)) := ((Up.refl w).alloc _).alloc _
 obtain ⟨b0, r0⟩ := bx_two 120 120 w [.slice A p.length c, .slice B q.length d] [.slice none 0 0, .slice none 0 0]
 go_enter Try.func143, Try.ntmps143
 go_wp2_with fail
 generalize ((w.alloc (.cells #[.slice A p.length c, .slice B q.length d] 120)).alloc (.cells #[.slice none 0 0, .slice none 0 0] 120)) = W at *
 replace h := h.up UP
 replace h2 := h2.up UP
 obtain ⟨b0_0, b0_1⟩ := b0.c2
 obtain ⟨r0_0, r0_1⟩ := r0.c2
 have r0_f0 := r0.free 0
 have r0_f1 := r0.free 1
 go_wp2_with fail
 ((with_reducible refine (ratf_norm h h2 hl hl2 hm1 hm LJ hK hK2 hk2 hka HP HD).mono ?_))
 rintro e W1 ⟨V1, U1, psa, qsa, rfl, a, b, caa, lpa, lea, u1⟩
 obtain ⟨Aa, ca, rfl⟩ := a.form
 obtain ⟨Ab, cb, rfl⟩ := b.form
 replace h := h.up u1
 replace h2 := h2.up u1
 replace b0 := b0.up u1
 replace r0 := r0.up u1
 replace UP := UP.trans u1
 clear b0_0 b0_1 r0_0 r0_1
 obtain ⟨b0_0, b0_1⟩ := b0.c2
 obtain ⟨r0_0, r0_1⟩ := r0.c2
 replace r0_f0 := r0.free 0
 replace r0_f1 := r0.free 1
 clear u1
 clear h h2
 have la : psa.length ≤ m := lea.out.1
 have HCN := Lib.hid caa.out.neg
 have HLN := Lib.hid (Pq.lp_neg lpa.out)
 obtain ⟨R, HR⟩ : ∃ r, Hid (Pq.sc (-1) psa = r) := ⟨_, Lib.hid rfl⟩
 rw [HR.out] at HCN HLN
 have HR2 : Hid (Pq.sc M1 psa = R) := Lib.hid (by rw [HME.out]; exact HR.out)
 have HLR := Lib.hid HLN.out.fst.lq
 have HRL : Hid (R.length = psa.length) := Lib.hid (by rw [← HR.out, Pq.sc_len])
 have b0_0a := fun O0 => (cell_alloc (o := O0) b0_0)
 have b0_1a := fun O0 => (cell_alloc (o := O0) b0_1)
 have r0_0a := fun O0 => (cell_alloc (o := O0) r0_0)
 have r0_f0a := fun O0 => (r0.up ((Up.refl W1).alloc O0)).free 0
 have r0_1a := fun O0 => (cell_alloc (o := O0) r0_1)
 have r0_f1a := fun O0 => (r0.up ((Up.refl W1).alloc O0)).free 1
 go_wp2_with fail
 clear b0_0a b0_1a r0_0a r0_f0a r0_1a r0_f1a
 have x3 := Bx.new 120 W1 [.slice Aa psa.length ca, .slice Ab qsa.length cb]
 have b0_lt_x3 := b0.lt
 have b0_ne_x3 : ¬ (w.heap.size = W1.heap.size) := by omega
 have b0_en_x3 : ¬ (W1.heap.size = w.heap.size) := by omega
 have r0_lt_x3 := r0.lt
 have r0_ne_x3 : ¬ (w.heap.size + 1 = W1.heap.size) := by omega
 have r0_en_x3 : ¬ (W1.heap.size = w.heap.size + 1) := by omega
 replace a := a.up ((Up.refl W1).alloc (.cells #[.slice Aa psa.length ca, .slice Ab qsa.length cb] 120))
 replace b := b.up ((Up.refl W1).alloc (.cells #[.slice Aa psa.length ca, .slice Ab qsa.length cb] 120))
 replace b0 := b0.up ((Up.refl W1).alloc (.cells #[.slice Aa psa.length ca, .slice Ab qsa.length cb] 120))
 replace r0 := r0.up ((Up.refl W1).alloc (.cells #[.slice Aa psa.length ca, .slice Ab qsa.length cb] 120))
 replace UP := UP.trans ((Up.refl W1).alloc (.cells #[.slice Aa psa.length ca, .slice Ab qsa.length cb] 120))
 generalize (W1.alloc (.cells #[.slice Aa psa.length ca, .slice Ab qsa.length cb] 120)) = W2 at *
 clear b0_0 b0_1 r0_0 r0_1
 obtain ⟨b0_0, b0_1⟩ := b0.c2
 obtain ⟨r0_0, r0_1⟩ := r0.c2
 replace r0_f0 := r0.free 0
 replace r0_f1 := r0.free 1
 obtain ⟨x3_0, x3_1⟩ := x3.c2
 have x3_f0 := x3.free 0
 have x3_f1 := x3.free 1
 have fa := a.fs
 clear a
 replace b := b.up (Up.refl W2).drew
 replace fa := fa.up (Up.refl W2).drew
 replace b0 := b0.up (Up.refl W2).drew
 replace r0 := r0.up (Up.refl W2).drew
 replace x3 := x3.up (Up.refl W2).drew
 replace UP := UP.trans (Up.refl W2).drew
 clear b0_0 b0_1 r0_0 r0_1
 obtain ⟨b0_0, b0_1⟩ := b0.c2
 obtain ⟨r0_0, r0_1⟩ := r0.c2
 replace r0_f0 := r0.free 0
 replace r0_f1 := r0.free 1
 obtain ⟨x3_0, x3_1⟩ := x3.c2
 have x3_f0 := x3.free 0
 have x3_f1 := x3.free 1
 go_region_with ((first
  | (go_at_call 45
     ((with_reducible refine (frac_of (n := -1) (by omega) _).mono ?_))
     rintro e W3 ⟨V3, rfl, o, u3⟩
     replace b := b.up u3
     replace fa := fa.up u3
     try (replace o := o.up u3)
     try (replace s1 := s1.up u3)
     replace b0 := b0.up u3
     replace r0 := r0.up u3
     replace x3 := x3.up u3
     replace UP := UP.trans u3
     clear b0_0 b0_1 r0_0 r0_1 x3_0 x3_1
     obtain ⟨b0_0, b0_1⟩ := b0.c2
     obtain ⟨r0_0, r0_1⟩ := r0.c2
     replace r0_f0 := r0.free 0
     replace r0_f1 := r0.free 1
     obtain ⟨x3_0, x3_1⟩ := x3.c2
     replace x3_f0 := x3.free 0
     replace x3_f1 := x3.free 1
     clear u3
     rw [HM1.out] at o)
  | (go_at_call 173
     ((with_reducible refine (row_scale_as (o.fr LM1) fa (by omega) (by omega) (by omega) HR2 HLR).mono ?_))
     rintro e W4 ⟨V4, rfl, s1, u4⟩
     obtain ⟨As1, cs1, rfl⟩ := s1.form
     replace b := b.up u4
     replace fa := fa.up u4
     try (replace o := o.up u4)
     try (replace s1 := s1.up u4)
     replace b0 := b0.up u4
     replace r0 := r0.up u4
     replace x3 := x3.up u4
     replace UP := UP.trans u4
     clear b0_0 b0_1 r0_0 r0_1 x3_0 x3_1
     obtain ⟨b0_0, b0_1⟩ := b0.c2
     obtain ⟨r0_0, r0_1⟩ := r0.c2
     replace r0_f0 := r0.free 0
     replace r0_f1 := r0.free 1
     obtain ⟨x3_0, x3_1⟩ := x3.c2
     replace x3_f0 := x3.free 0
     replace x3_f1 := x3.free 1
     clear u4)))
 all_goals
  clear fa
  go_wp2_with fail
  have KW : Kw (W4) ((W4).setCell ⟨W1.heap.size, 0, none⟩ (.slice As1 R.length cs1)) := Kw.store (c := (.slice Aa psa.length ca)) x3 rfl trivial _
  replace b := b.stored x3 (by decide) KW
  replace o := o.kw KW
  replace s1 := s1.stored x3 (by decide) KW
  replace b0 := b0.far (p := ⟨W1.heap.size, 0, none⟩) (by dsimp only; omega) (.slice As1 R.length cs1)
  replace r0 := r0.far (p := ⟨W1.heap.size, 0, none⟩) (by dsimp only; omega) (.slice As1 R.length cs1)
  replace x3 : Bx 120 ((W4).setCell ⟨W1.heap.size, 0, none⟩ (.slice As1 R.length cs1)) (W1.heap.size) [.slice As1 R.length cs1, .slice Ab qsa.length cb] := x3.set 0 (.slice As1 R.length cs1)
  replace UP := UP.setCell (p := ⟨W1.heap.size, 0, none⟩) (by dsimp only; omega) (.slice As1 R.length cs1)
  clear KW
  generalize ((W4).setCell ⟨W1.heap.size, 0, none⟩ (.slice As1 R.length cs1)) = W5 at *
  clear b0_0 b0_1 r0_0 r0_1 x3_0 x3_1
  obtain ⟨b0_0, b0_1⟩ := b0.c2
  obtain ⟨r0_0, r0_1⟩ := r0.c2
  replace r0_f0 := r0.free 0
  replace r0_f1 := r0.free 1
  obtain ⟨x3_0, x3_1⟩ := x3.c2
  go_wp2_with fail
  have KW : Kw (W5) ((W5).setCell ⟨w.heap.size + 1, 0, none⟩ (.slice As1 R.length cs1)) := Kw.store (c := (.slice none 0 0)) r0 rfl trivial _
  replace b := b.stored r0 (by decide) KW
  replace o := o.kw KW
  replace s1 := s1.stored r0 (by decide) KW
  replace b0 := b0.far (p := ⟨w.heap.size + 1, 0, none⟩) (by dsimp only; omega) (.slice As1 R.length cs1)
  replace x3 := x3.far (p := ⟨w.heap.size + 1, 0, none⟩) (by dsimp only; omega) (.slice As1 R.length cs1)
  replace r0 : Bx 120 ((W5).setCell ⟨w.heap.size + 1, 0, none⟩ (.slice As1 R.length cs1)) (w.heap.size + 1) [.slice As1 R.length cs1, .slice none 0 0] := r0.set 0 (.slice As1 R.length cs1)
  replace UP := UP.setCell (p := ⟨w.heap.size + 1, 0, none⟩) (by dsimp only; omega) (.slice As1 R.length cs1)
  have KW : Kw (((W5).setCell ⟨w.heap.size + 1, 0, none⟩ (.slice As1 R.length cs1))) ((((W5).setCell ⟨w.heap.size + 1, 0, none⟩ (.slice As1 R.length cs1))).setCell ⟨w.heap.size + 1, 1, none⟩ (.slice Ab qsa.length cb)) := Kw.store (c := (.slice none 0 0)) r0 rfl trivial _
  replace b := b.stored r0 (by decide) KW
  replace o := o.kw KW
  replace s1 := s1.stored r0 (by decide) KW
  replace b0 := b0.far (p := ⟨w.heap.size + 1, 1, none⟩) (by dsimp only; omega) (.slice Ab qsa.length cb)
  replace x3 := x3.far (p := ⟨w.heap.size + 1, 1, none⟩) (by dsimp only; omega) (.slice Ab qsa.length cb)
  replace r0 : Bx 120 ((((W5).setCell ⟨w.heap.size + 1, 0, none⟩ (.slice As1 R.length cs1))).setCell ⟨w.heap.size + 1, 1, none⟩ (.slice Ab qsa.length cb)) (w.heap.size + 1) [.slice As1 R.length cs1, .slice Ab qsa.length cb] := r0.set 1 (.slice Ab qsa.length cb)
  replace UP := UP.setCell (p := ⟨w.heap.size + 1, 1, none⟩) (by dsimp only; omega) (.slice Ab qsa.length cb)
  clear KW
  generalize ((((W5).setCell ⟨w.heap.size + 1, 0, none⟩ (.slice As1 R.length cs1))).setCell ⟨w.heap.size + 1, 1, none⟩ (.slice Ab qsa.length cb)) = W6 at *
  clear b0_0 b0_1 r0_0 r0_1 x3_0 x3_1
  obtain ⟨b0_0, b0_1⟩ := b0.c2
  obtain ⟨r0_0, r0_1⟩ := r0.c2
  obtain ⟨x3_0, x3_1⟩ := x3.c2
  go_wp2_with fail
  exact bodyPost_ret (run_res_cell rfl rfl agg_fun size_fun r0 rfl) rfl ⟨_, _, _, _, rfl, s1.a, b, HCN, HLN, Lib.hid ⟨by have := HRL.out; omega, lea.out.2⟩, UP⟩
set_option maxRecDepth 100000 in
set_option maxHeartbeats 3200000 in
theorem ratf_sub {v u v' u' : Value} {p q P D p' q' P' D' : List Rat} {k j m j' m' K' KS : Nat} {w : World} (h : FSq k w v p) (h2 : FSq k w u q) (hl : p.length ≤ m) (hl2 : q.length ≤ m) (hm1 : 1 ≤ m) (LJ : Pq.Lp (p ++ q) j) (h' : FSq k w v' p') (h2' : FSq k w u' q') (hl' : p'.length ≤ m') (hl2' : q'.length ≤ m') (hm1' : 1 ≤ m') (LJ' : Pq.Lp (p' ++ q') j')
 (mo : Nat) (hmo : m + m' ≤ mo + 1) (hm : mo ≤ 999) (hK' : 2 * m' * (j' + 1) ≤ K') (hK'2 : (m' + 3) * (K' + 1) ≤ 3000000) (hKK : 2 * mo * (j + K' + 2) ≤ KS) (hK2 : (mo + 3) * (KS + 1) ≤ 3000000) (hk2 : 2 ≤ k) (hka : k ≤ 1000000) (HP : Hid (Pq.pu p q = P)) (HD : Hid (Pq.pd p q = D)) (HP' : Hid (Pq.pu p' q' = P')) (HD' : Hid (Pq.pd p' q' = D')) :
 Calls Try.prog 85 #[.agg #[v, u], .agg #[v', u']] w (RetFn KS mo (Pq.au P D (Pq.sc (-1) P') D') (Pq.nm (Pq.mul D D')) w) := by
 obtain ⟨A1, c1, rfl⟩ := h.form
 obtain ⟨B1, d1, rfl⟩ := h2.form
 obtain ⟨A2, c2, rfl⟩ := h'.form
 obtain ⟨B2, d2, rfl⟩ := h2'.form
 have DN : Hid (Pq.nm D ≠ []) := Lib.hid (by rw [← HD.out]; exact Pq.pd_ne p q)
 have DN' : Hid (Pq.nm D' ≠ []) := Lib.hid (by rw [← HD'.out]; exact Pq.pd_ne p' q')
 have lP' : P'.length ≤ m' := by rw [← HP'.out]; exact Nat.le_trans (Pq.pu_len p' q') hl'
 have lD' : D'.length ≤ m' := by rw [← HD'.out]; have := Pq.pd_len p' q'; omega
 have hK9 : K' ≤ 750000 := by
  have h3 : 4 * (K' + 1) ≤ (m' + 3) * (K' + 1) := Nat.mul_le_mul_right _ (by omega)
  omega
 have hK8 : k + K' ≤ 2000000 := by omega
 have UP : Up w (((w.alloc (.cells #[.slice A1 p.length c1, .slice B1 q.length d1] 120)).alloc (.cells #[.slice A2 p'.length c2, .slice B2 q'.length d2] 120)).alloc (.cells #[.slice none 0 0, .slice none 0 0] 120)) := (((Up.refl w).alloc _).alloc _).alloc _
 obtain ⟨b0, b1, r0⟩ := bx_three 120 120 120 w [.slice A1 p.length c1, .slice B1 q.length d1] [.slice A2 p'.length c2, .slice B2 q'.length d2] [.slice none 0 0, .slice none 0 0]
 go_enter Try.func85, Try.ntmps85
 go_wp2_with fail
 generalize (((w.alloc (.cells #[.slice A1 p.length c1, .slice B1 q.length d1] 120)).alloc (.cells #[.slice A2 p'.length c2, .slice B2 q'.length d2] 120)).alloc (.cells #[.slice none 0 0, .slice none 0 0] 120)) = W at *
 replace h := h.up UP
 replace h2 := h2.up UP
 replace h' := h'.up UP
 replace h2' := h2'.up UP
 obtain ⟨b0_0, b0_1⟩ := b0.c2
 obtain ⟨b1_0, b1_1⟩ := b1.c2
 obtain ⟨r0_0, r0_1⟩ := r0.c2
 have r0_f0 := r0.free 0
 have r0_f1 := r0.free 1
 replace h := h.up (Up.refl W).drew
 replace h2 := h2.up (Up.refl W).drew
 replace h' := h'.up (Up.refl W).drew
 replace h2' := h2'.up (Up.refl W).drew
 replace b0 := b0.up (Up.refl W).drew
 replace b1 := b1.up (Up.refl W).drew
 replace r0 := r0.up (Up.refl W).drew
 replace UP := UP.trans (Up.refl W).drew
 clear b0_0 b0_1 b1_0 b1_1
 obtain ⟨b0_0, b0_1⟩ := b0.c2
 obtain ⟨b1_0, b1_1⟩ := b1.c2
 obtain ⟨r0_0, r0_1⟩ := r0.c2
 have r0_f0 := r0.free 0
 have r0_f1 := r0.free 1
 refine wp_region_noPanic ?_
 refine wp_region_held_drew (S := fun w' => Up w w' ∧ w'.cell? ⟨w.heap.size, 0, none⟩ = some (.slice A1 p.length c1) ∧ w'.cell? ⟨w.heap.size, 1, none⟩ = some (.slice B1 q.length d1) ∧ w'.cell? ⟨w.heap.size + 1, 0, none⟩ = some (.slice A2 p'.length c2) ∧ w'.cell? ⟨w.heap.size + 1, 1, none⟩ = some (.slice B2 q'.length d2)) (by kernel_rfl) ?_ (fun hHeld => ?_)
 · with_reducible exact ⟨UP, b0_0, b0_1, b1_0, b1_1⟩
 refine wpAnyH_take (i := 0) (v := ?_) rfl (by kernel_rfl) (by kernel_rfl) (by kernel_rfl) (fun _ _ _ h => h) (Or.inl ⟨by rfl, ?_⟩) (by assumption) ?_
 rotate_left
 · (intro w hSw; (try dsimp only at hSw); go_simp; first | done | with_reducible rfl)
 try simp only [List.getElem_toArray, List.getElem_cons_zero, List.getElem_cons_succ, Act.put, List.setIfInBounds_toArray, List.set_cons_zero, List.set_cons_succ]
 refine wpAnyH_take (i := 1) (v := ?_) rfl (by kernel_rfl) (by kernel_rfl) (by kernel_rfl) (fun _ _ _ h => h) (Or.inl ⟨by rfl, ?_⟩) (by assumption) ?_
 rotate_left
 · (intro w hSw; (try dsimp only at hSw); go_simp; first | done | with_reducible rfl)
 try simp only [List.getElem_toArray, List.getElem_cons_zero, List.getElem_cons_succ, Act.put, List.setIfInBounds_toArray, List.set_cons_zero, List.set_cons_succ]
 refine wpAnyH_ready (rs := [2]) (by kernel_rfl) (by simp) ?_
 refine AllReadyH.cons rfl (fun K hK => ?_) AllReadyH.nil
 go_simp
 (first
   | (go_at_call 143
      ((with_reducible refine (ratf_neg h' h2' hl' hl2' hm1' (by omega) LJ' hK' hK'2 hk2 (by omega) HP' HD').mono ?_))
      rintro e W1 ⟨V1, U1, psa, qsa, rfl, a, b, caa, lpa, lea, u1⟩
      obtain ⟨Aa, ca, rfl⟩ := a.form
      obtain ⟨Ab, cb, rfl⟩ := b.form
      replace h := h.up u1
      replace h2 := h2.up u1
      replace h' := h'.up u1
      replace h2' := h2'.up u1
      try (replace a := a.up u1)
      try (replace b := b.up u1)
      try (replace e := e.up u1)
      try (replace f := f.up u1)
      replace b0 := b0.up u1
      replace b1 := b1.up u1
      replace r0 := r0.up u1
      replace UP := UP.trans u1
      clear b0_0 b0_1 b1_0 b1_1 r0_0 r0_1
      obtain ⟨b0_0, b0_1⟩ := b0.c2
      obtain ⟨b1_0, b1_1⟩ := b1.c2
      obtain ⟨r0_0, r0_1⟩ := r0.c2
      replace r0_f0 := r0.free 0
      replace r0_f1 := r0.free 1
      clear u1))
 try go_wp2_with fail
 try clear hHeld
 refine hK.out _ _ ?_ (fun hHeld => ?_)
 · with_reducible exact ⟨UP, b0_0, b0_1, b1_0, b1_1⟩
 clear hK K
 try simp only [List.getElem_toArray, List.getElem_cons_zero, List.getElem_cons_succ, Act.put, List.setIfInBounds_toArray, List.set_cons_zero, List.set_cons_succ]
 refine wpAnyH_ready (rs := [3]) (by kernel_rfl) (by simp) ?_
 refine AllReadyH.cons rfl (fun K hK => ?_) AllReadyH.nil
 go_simp
 (first
   | (go_at_call 84
      ((with_reducible refine (ratf_add (k := k + K') (h.mono (by omega)) (h2.mono (by omega)) hl hl2 hm1 LJ (a.fs.mono (by omega)) (b.fs.mono (by omega)) lea.out.1 lea.out.2 hm1' lpa.out mo hmo (by omega) hKK hK2 (by omega) hK8 HP HD (Lib.hid (Pq.pu_of caa.out.nd)) (Lib.hid (Pq.pd_of caa.out.nd))).mono ?_))
      rintro e W2 ⟨V2, U2, pse, qse, rfl, e, f, cae, lpe, lee, u2⟩
      obtain ⟨Ae, ce, rfl⟩ := e.form
      obtain ⟨Af, cf, rfl⟩ := f.form
      replace h := h.up u2
      replace h2 := h2.up u2
      replace h' := h'.up u2
      replace h2' := h2'.up u2
      try (replace a := a.up u2)
      try (replace b := b.up u2)
      try (replace e := e.up u2)
      try (replace f := f.up u2)
      replace b0 := b0.up u2
      replace b1 := b1.up u2
      replace r0 := r0.up u2
      replace UP := UP.trans u2
      clear b0_0 b0_1 b1_0 b1_1 r0_0 r0_1
      obtain ⟨b0_0, b0_1⟩ := b0.c2
      obtain ⟨b1_0, b1_1⟩ := b1.c2
      obtain ⟨r0_0, r0_1⟩ := r0.c2
      replace r0_f0 := r0.free 0
      replace r0_f1 := r0.free 1
      clear u2))
 try go_wp2_with fail
 try clear hHeld
 refine hK.out _ _ ?_ (fun hHeld => ?_)
 · with_reducible exact ⟨UP, b0_0, b0_1, b1_0, b1_1⟩
 clear hK K
 try simp only [List.getElem_toArray, List.getElem_cons_zero, List.getElem_cons_succ, Act.put, List.setIfInBounds_toArray, List.set_cons_zero, List.set_cons_succ]
 refine wpAnyH_ready (rs := [4]) (by kernel_rfl) (by simp) ?_
 refine AllReadyH.cons rfl (fun K hK => ?_) AllReadyH.nil
 go_simp
 skip
 try go_wp2_with fail
 try clear hHeld
 refine hK.out _ _ ?_ (fun hHeld => ?_)
 · (first | with_reducible exact ⟨UP, b0_0, b0_1, b1_0, b1_1⟩ | with_reducible exact ⟨((UP.setCell (p := ⟨w.heap.size + 1 + 1, 0, none⟩) (by dsimp only; omega) _).setCell (p := ⟨w.heap.size + 1 + 1, 1, none⟩) (by dsimp only; omega) _), (cell_far_block (cell_far_block b0_0 (by dsimp only; omega)) (by dsimp only; omega)), (cell_far_block (cell_far_block b0_1 (by dsimp only; omega)) (by dsimp only; omega)), (cell_far_block (cell_far_block b1_0 (by dsimp only; omega)) (by dsimp only; omega)), (cell_far_block (cell_far_block b1_1 (by dsimp only; omega)) (by dsimp only; omega))⟩ | with_reducible exact ⟨(UP.alloc_drew _), (cell_alloc_drew b0_0), (cell_alloc_drew b0_1), (cell_alloc_drew b1_0), (cell_alloc_drew b1_1)⟩ | with_reducible exact ⟨(UP.alloc2_drew _ _), (cell_alloc2_drew b0_0), (cell_alloc2_drew b0_1), (cell_alloc2_drew b1_0), (cell_alloc2_drew b1_1)⟩ | (simp only [← World.setCell_drew]; first | with_reducible exact ⟨((UP.setCell (p := ⟨w.heap.size + 1 + 1, 0, none⟩) (by dsimp only; omega) _).setCell (p := ⟨w.heap.size + 1 + 1, 1, none⟩) (by dsimp only; omega) _), (cell_far_block (cell_far_block b0_0 (by dsimp only; omega)) (by dsimp only; omega)), (cell_far_block (cell_far_block b0_1 (by dsimp only; omega)) (by dsimp only; omega)), (cell_far_block (cell_far_block b1_0 (by dsimp only; omega)) (by dsimp only; omega)), (cell_far_block (cell_far_block b1_1 (by dsimp only; omega)) (by dsimp only; omega))⟩) | go_keep)
 clear hK K
 try simp only [List.getElem_toArray, List.getElem_cons_zero, List.getElem_cons_succ, Act.put, List.setIfInBounds_toArray, List.set_cons_zero, List.set_cons_succ]
 refine wpAnyH_done (by kernel_rfl) ?_ _
 refine NoPanic.normal ?_
 clear hHeld
 have HCN := Lib.hid (cae.out.sum_back DN.out caa.out)
 clear a b h h2 h' h2'
 have KW : Kw (W2) ((W2).setCell ⟨w.heap.size + 1 + 1, 0, none⟩ (.slice Ae pse.length ce)) := Kw.store (c := (.slice none 0 0)) r0 rfl trivial _
 replace e := e.stored r0 (by decide) KW
 replace f := f.stored r0 (by decide) KW
 replace b0 := b0.far (p := ⟨w.heap.size + 1 + 1, 0, none⟩) (by dsimp only; omega) (.slice Ae pse.length ce)
 replace b1 := b1.far (p := ⟨w.heap.size + 1 + 1, 0, none⟩) (by dsimp only; omega) (.slice Ae pse.length ce)
 replace r0 : Bx 120 ((W2).setCell ⟨w.heap.size + 1 + 1, 0, none⟩ (.slice Ae pse.length ce)) (w.heap.size + 1 + 1) [.slice Ae pse.length ce, .slice none 0 0] := r0.set 0 (.slice Ae pse.length ce)
 replace UP := UP.setCell (p := ⟨w.heap.size + 1 + 1, 0, none⟩) (by dsimp only; omega) (.slice Ae pse.length ce)
 have KW : Kw (((W2).setCell ⟨w.heap.size + 1 + 1, 0, none⟩ (.slice Ae pse.length ce))) ((((W2).setCell ⟨w.heap.size + 1 + 1, 0, none⟩ (.slice Ae pse.length ce))).setCell ⟨w.heap.size + 1 + 1, 1, none⟩ (.slice Af qse.length cf)) := Kw.store (c := (.slice none 0 0)) r0 rfl trivial _
 replace e := e.stored r0 (by decide) KW
 replace f := f.stored r0 (by decide) KW
 replace b0 := b0.far (p := ⟨w.heap.size + 1 + 1, 1, none⟩) (by dsimp only; omega) (.slice Af qse.length cf)
 replace b1 := b1.far (p := ⟨w.heap.size + 1 + 1, 1, none⟩) (by dsimp only; omega) (.slice Af qse.length cf)
 replace r0 : Bx 120 ((((W2).setCell ⟨w.heap.size + 1 + 1, 0, none⟩ (.slice Ae pse.length ce))).setCell ⟨w.heap.size + 1 + 1, 1, none⟩ (.slice Af qse.length cf)) (w.heap.size + 1 + 1) [.slice Ae pse.length ce, .slice Af qse.length cf] := r0.set 1 (.slice Af qse.length cf)
 replace UP := UP.setCell (p := ⟨w.heap.size + 1 + 1, 1, none⟩) (by dsimp only; omega) (.slice Af qse.length cf)
 clear KW
 generalize ((((W2).setCell ⟨w.heap.size + 1 + 1, 0, none⟩ (.slice Ae pse.length ce))).setCell ⟨w.heap.size + 1 + 1, 1, none⟩ (.slice Af qse.length cf)) = W3 at *
 clear b0_0 b0_1 b1_0 b1_1 r0_0 r0_1
 obtain ⟨b0_0, b0_1⟩ := b0.c2
 obtain ⟨b1_0, b1_1⟩ := b1.c2
 obtain ⟨r0_0, r0_1⟩ := r0.c2
 go_wp2_with fail
 exact bodyPost_ret (run_res_cell rfl rfl agg_fun size_fun r0 rfl) rfl ⟨_, _, _, _, rfl, e, f, HCN, lpe, lee, UP⟩
end Go.Proofs.Ytmmcffceeahemaa
