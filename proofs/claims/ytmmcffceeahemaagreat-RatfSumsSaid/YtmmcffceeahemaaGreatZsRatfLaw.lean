/-
  Layer 15: times -1; a difference.
  Layer 15: what the statements are made of: turned over, too long? And what comes in, read.
-/
import Derived.Test.YtmmcffceeahemaaGreatZsRatf3
import Derived.Test.YtmmcffceeahemaaGreatZsShort
import Derived.Test.YtmmcffceeahemaaGreatZsSeqLaw
import Derived.Deep.Strs
set_option linter.unusedVariables false
set_option linter.unusedSimpArgs false
namespace Pq
theorem Can.sum_back {P D N E' psa qsa R S : List Rat} (h : Can (au P D psa qsa) (nm (mul D qsa)) R S) (hD : nm D ≠ []) (hca : Can N E' psa qsa) : Can (au P D N E') (nm (mul D E')) R S :=
 h.turn (nmul_ne hD hca.nd) fun x => by
  have e := hca.eq x
  rw [E_au, E_au, E_nmul, E_nmul]
  calc (E P x * E qsa x + E psa x * E D x) * (E D x * E E' x) = E P x * E qsa x * E D x * E E' x + (E psa x * E E' x) * (E D x * E D x) := by grind
   _ = _ := by rw [e]; grind
end Pq
namespace Go.Proofs.YtmmcffceeahemaaGreat
open Go.RowKit
theorem row_scale_as {vc v : Value} {c : Rat} {qs R : List Rat} {kc ka K : Nat} {w : World} (hc : Fr w vc c kc) (h : FSq ka w v qs) (hl : qs.length ≤ 10000) (hkc : kc ≤ 4000000) (hka : ka ≤ 4000000) (HR : Hid (Pq.sc c qs = R)) (HL : Hid (∀ x ∈ R, Wd.Lq x K)) : Calls Tryz.prog 107 #[vc, v] w (RetP K R w) := by
 rw [← HR.out] at HL ⊢
 exact (row_scale hc h.sq (by omega) (by omega) (by omega)).mono fun e w' h => h.re HL.out
set_option maxRecDepth 100000 in
set_option maxHeartbeats 3200000 in
theorem ratf_neg {v u : Value} {p q P D : List Rat} {k j m K : Nat} {w : World} (h : FSq k w v p) (h2 : FSq k w u q) (hl : p.length ≤ m) (hl2 : q.length ≤ m) (hm1 : 1 ≤ m) (hm : m ≤ 1000) (LJ : Pq.Lp (p ++ q) j) (hK : 2 * m * (j + 1) ≤ K) (hK2 : (m + 3) * (K + 1) ≤ 3000000) (hk2 : 2 ≤ k) (hka : k ≤ 2000000) (HP : Hid (Pq.pu p q = P)) (HD : Hid (Pq.pd p q = D)) :
 Calls Tryz.prog 81 #[.agg #[v, u]] w (RetFn K m (Pq.sc (-1) P) D w) := by
 obtain ⟨A, c, rfl⟩ := h.form
 obtain ⟨B, d, rfl⟩ := h2.form
 have lP : P.length ≤ m := by rw [← HP.out]; exact Nat.le_trans (Pq.pu_len p q) hl
 have DN : Hid (Pq.nm D ≠ []) := Lib.hid (by rw [← HD.out]; exact Pq.pd_ne p q)
 have hK9 : K ≤ 1500000 := by
  have h3 : 4 * (K + 1) ≤ (m + 3) * (K + 1) := Nat.mul_le_mul_right _ (by omega)
  omega
 obtain ⟨M1, HM1⟩ : ∃ P, Hid (((-1 : Int) : Rat) = P) := ⟨_, Lib.hid rfl⟩
 have LM1 : Wd.Lq M1 2 := by rw [← HM1.out]; exact lq_int (by omega)
 have HME : Hid (M1 = -1) := Lib.hid (by rw [← HM1.out]; rfl)
 have UP : Up w ((w.alloc (.cells #[.slice A p.length c, .slice B q.length d] 84)).alloc (.cells #[.slice none 0 0, .slice none 0 0] 84)) := ((Up.refl w).alloc _).alloc _
 obtain ⟨b0, r0⟩ := bx_two 84 84 w [.slice A p.length c, .slice B q.length d] [.slice none 0 0, .slice none 0 0]
 go_enter Tryz.func81, Tryz.ntmps81
 go_wp2_with fail
 generalize ((w.alloc (.cells #[.slice A p.length c, .slice B q.length d] 84)).alloc (.cells #[.slice none 0 0, .slice none 0 0] 84)) = W at *
 revert h h2
 refine lg2 UP ?_
 intro h h2
 obtain ⟨b0_0, b0_1⟩ := b0.c2
 obtain ⟨r0_0, r0_1⟩ := r0.c2
 have r0_f0 := r0.free
 go_wp2_with fail
 ((with_reducible refine (ratf_norm h h2 hl hl2 hm1 hm LJ hK hK2 hk2 hka HP HD).mono ?_))
 rintro e W1 ⟨V1, U1, psa, qsa, rfl, a, b, caa, lpa, lea, u1⟩
 obtain ⟨Aa, ca, rfl⟩ := a.form
 obtain ⟨Ab, cb, rfl⟩ := b.form
 revert UP b0 r0 h h2 b0_0 b0_1 r0_0 r0_1
 refine lg9 u1 ?_
 intro UP b0 r0 h h2 b0_0 b0_1 r0_0 r0_1
 replace r0_f0 := r0.free
 clear u1
 clear h h2
 have la : psa.length ≤ m := lea.out.1
 have HCN := Lib.hid caa.out.neg
 have HLN := Lib.hid (Pq.lp_neg lpa.out)
 obtain ⟨R, HR⟩ : ∃ r, Hid (Pq.sc (-1) psa = r) := ⟨_, Lib.hid rfl⟩
 rw [HR.out] at HCN HLN
 have HR2 : Hid (Pq.sc M1 psa = R) := Lib.hid (by rw [HME.out]; exact HR.out)
 have HLR := Lib.hid HLN.out.fst.lq
 have HRL : Hid (R.length = psa.length) := Lib.hid (by rw [← HR.out, Pq.sc_len])
 have b0_0a := cA b0_0
 have b0_1a := cA b0_1
 have r0_0a := cA r0_0
 have r0_f0a := r0.fa
 have r0_1a := cA r0_1
 go_wp2_with fail
 clear b0_0a b0_1a r0_0a r0_f0a r0_1a
 have x3 := Bx.new 84 W1 [.slice Aa psa.length ca, .slice Ab qsa.length cb]
 have b0_lt_x3 := b0.lt
 have b0_ne_x3 : ¬ (w.heap.size = W1.heap.size) := by omega
 have b0_en_x3 : ¬ (W1.heap.size = w.heap.size) := by omega
 have r0_lt_x3 := r0.lt
 have r0_ne_x3 : ¬ (w.heap.size + 1 = W1.heap.size) := by omega
 have r0_en_x3 : ¬ (W1.heap.size = w.heap.size + 1) := by omega
 have nu := ((Up.refl W1).alloc (.cells #[.slice Aa psa.length ca, .slice Ab qsa.length cb] 84))
 revert a b UP b0 r0
 revert nu
 refine lh5 ?_
 intro a b UP b0 r0
 generalize (W1.alloc (.cells #[.slice Aa psa.length ca, .slice Ab qsa.length cb] 84)) = W2 at *
 clear b0_0 b0_1 r0_0 r0_1
 obtain ⟨b0_0, b0_1⟩ := b0.c2
 obtain ⟨r0_0, r0_1⟩ := r0.c2
 replace r0_f0 := r0.free
 obtain ⟨x3_0, x3_1⟩ := x3.c2
 have x3_f0 := x3.free
 have fa := a.fs
 clear a
 revert x3 b UP b0 r0 b0_0 b0_1 r0_0 r0_1 fa
 refine lg10 (Up.refl W2).drew ?_
 intro x3 b UP b0 r0 b0_0 b0_1 r0_0 r0_1 fa
 replace r0_f0 := r0.free
 obtain ⟨x3_0, x3_1⟩ := x3.c2
 have x3_f0 := x3.free
 go_region_with ((first
  | (go_at_call 90
     ((with_reducible refine (frac_of (n := -1) (by omega) _).mono ?_))
     rintro e W3 ⟨V3, rfl, o, u3⟩
     clear x3_0 x3_1; revert x3 b UP b0 r0 b0_0 b0_1 r0_0 r0_1 fa; refine lg10 u3 ?_; intro x3 b UP b0 r0 b0_0 b0_1 r0_0 r0_1 fa
     try (replace o := o.up u3)
     try (replace s1 := s1.up u3)
     replace r0_f0 := r0.free
     obtain ⟨x3_0, x3_1⟩ := x3.c2
     replace x3_f0 := x3.free
     clear u3
     rw [HM1.out] at o)
  | (go_at_call 107
     ((with_reducible refine (row_scale_as (o.fr LM1) fa (by omega) (by omega) (by omega) HR2 HLR).mono ?_))
     rintro e W4 ⟨V4, rfl, s1, u4⟩
     obtain ⟨As1, cs1, rfl⟩ := s1.form
     clear x3_0 x3_1; revert x3 b UP b0 r0 b0_0 b0_1 r0_0 r0_1 fa; refine lg10 u4 ?_; intro x3 b UP b0 r0 b0_0 b0_1 r0_0 r0_1 fa
     try (replace o := o.up u4)
     try (replace s1 := s1.up u4)
     replace r0_f0 := r0.free
     obtain ⟨x3_0, x3_1⟩ := x3.c2
     replace x3_f0 := x3.free
     clear u4)))
 all_goals
  clear fa
  go_wp2_with fail
  have KW : Kw (W4) ((W4).setCell ⟨W1.heap.size, 0, none⟩ (.slice As1 R.length cs1)) := Kw.store (c := (.slice Aa psa.length ca)) x3 rfl trivial _
  replace b := b.stored x3 (by decide) KW
  replace o := o.kw KW
  replace s1 := s1.stored x3 (by decide) KW
  replace b0 := b0.fr (W1.heap.size) 0 (.slice As1 R.length cs1)
  replace r0 := r0.fr (W1.heap.size) 0 (.slice As1 R.length cs1)
  replace x3 : Bx 84 ((W4).setCell ⟨W1.heap.size, 0, none⟩ (.slice As1 R.length cs1)) (W1.heap.size) [.slice As1 R.length cs1, .slice Ab qsa.length cb] := x3.set 0 (.slice As1 R.length cs1)
  replace UP := UP.setCell (p := ⟨W1.heap.size, 0, none⟩) (by dsimp only; omega) (.slice As1 R.length cs1)
  clear KW
  generalize ((W4).setCell ⟨W1.heap.size, 0, none⟩ (.slice As1 R.length cs1)) = W5 at *
  clear b0_0 b0_1 r0_0 r0_1 x3_0 x3_1
  obtain ⟨b0_0, b0_1⟩ := b0.c2
  obtain ⟨r0_0, r0_1⟩ := r0.c2
  replace r0_f0 := r0.free
  obtain ⟨x3_0, x3_1⟩ := x3.c2
  go_wp2_with fail
  have KW : Kw (W5) ((W5).setCell ⟨w.heap.size + 1, 0, none⟩ (.slice As1 R.length cs1)) := Kw.store (c := (.slice none 0 0)) r0 rfl trivial _
  replace b := b.stored r0 (by decide) KW
  replace o := o.kw KW
  replace s1 := s1.stored r0 (by decide) KW
  replace b0 := b0.fr (w.heap.size + 1) 0 (.slice As1 R.length cs1)
  replace x3 := x3.fr (w.heap.size + 1) 0 (.slice As1 R.length cs1)
  replace r0 : Bx 84 ((W5).setCell ⟨w.heap.size + 1, 0, none⟩ (.slice As1 R.length cs1)) (w.heap.size + 1) [.slice As1 R.length cs1, .slice none 0 0] := r0.set 0 (.slice As1 R.length cs1)
  replace UP := UP.setCell (p := ⟨w.heap.size + 1, 0, none⟩) (by dsimp only; omega) (.slice As1 R.length cs1)
  have KW : Kw (((W5).setCell ⟨w.heap.size + 1, 0, none⟩ (.slice As1 R.length cs1))) ((((W5).setCell ⟨w.heap.size + 1, 0, none⟩ (.slice As1 R.length cs1))).setCell ⟨w.heap.size + 1, 1, none⟩ (.slice Ab qsa.length cb)) := Kw.store (c := (.slice none 0 0)) r0 rfl trivial _
  replace b := b.stored r0 (by decide) KW
  replace o := o.kw KW
  replace s1 := s1.stored r0 (by decide) KW
  replace b0 := b0.fr (w.heap.size + 1) 1 (.slice Ab qsa.length cb)
  replace x3 := x3.fr (w.heap.size + 1) 1 (.slice Ab qsa.length cb)
  replace r0 : Bx 84 ((((W5).setCell ⟨w.heap.size + 1, 0, none⟩ (.slice As1 R.length cs1))).setCell ⟨w.heap.size + 1, 1, none⟩ (.slice Ab qsa.length cb)) (w.heap.size + 1) [.slice As1 R.length cs1, .slice Ab qsa.length cb] := r0.set 1 (.slice Ab qsa.length cb)
  replace UP := UP.setCell (p := ⟨w.heap.size + 1, 1, none⟩) (by dsimp only; omega) (.slice Ab qsa.length cb)
  clear KW
  generalize ((((W5).setCell ⟨w.heap.size + 1, 0, none⟩ (.slice As1 R.length cs1))).setCell ⟨w.heap.size + 1, 1, none⟩ (.slice Ab qsa.length cb)) = W6 at *
  clear b0_0 b0_1 r0_0 r0_1 x3_0 x3_1
  obtain ⟨b0_0, b0_1⟩ := b0.c2
  obtain ⟨r0_0, r0_1⟩ := r0.c2
  obtain ⟨x3_0, x3_1⟩ := x3.c2
  go_wp2_with fail
  exact bodyPost_ret (run_res_cell rfl rfl agg_fun size_fun r0 rfl) rfl ⟨_, _, _, _, rfl, s1.a, b, HCN, HLN, Lib.hid ⟨by have := HRL.out; omega, lea.out.2⟩, UP⟩
set_option maxRecDepth 100000 in
set_option maxHeartbeats 3200000 in
theorem ratf_sub {v u v' u' : Value} {p q P D p' q' P' D' : List Rat} {k j m j' m' K' KS : Nat} {w : World} (h : FSq k w v p) (h2 : FSq k w u q) (hl : p.length ≤ m) (hl2 : q.length ≤ m) (hm1 : 1 ≤ m) (LJ : Pq.Lp (p ++ q) j) (h' : FSq k w v' p') (h2' : FSq k w u' q') (hl' : p'.length ≤ m') (hl2' : q'.length ≤ m') (hm1' : 1 ≤ m') (LJ' : Pq.Lp (p' ++ q') j')
 (mo : Nat) (hmo : m + m' ≤ mo + 1) (hm : mo ≤ 999) (hK' : 2 * m' * (j' + 1) ≤ K') (hK'2 : (m' + 3) * (K' + 1) ≤ 3000000) (hKK : 2 * mo * (j + K' + 2) ≤ KS) (hK2 : (mo + 3) * (KS + 1) ≤ 3000000) (hk2 : 2 ≤ k) (hka : k ≤ 1000000) (HP : Hid (Pq.pu p q = P)) (HD : Hid (Pq.pd p q = D)) (HP' : Hid (Pq.pu p' q' = P')) (HD' : Hid (Pq.pd p' q' = D')) :
 Calls Tryz.prog 85 #[.agg #[v, u], .agg #[v', u']] w (RetFn KS mo (Pq.au P D (Pq.sc (-1) P') D') (Pq.nm (Pq.mul D D')) w) := by
 obtain ⟨A1, c1, rfl⟩ := h.form
 obtain ⟨B1, d1, rfl⟩ := h2.form
 obtain ⟨A2, c2, rfl⟩ := h'.form
 obtain ⟨B2, d2, rfl⟩ := h2'.form
 have DN : Hid (Pq.nm D ≠ []) := Lib.hid (by rw [← HD.out]; exact Pq.pd_ne p q)
 have DN' : Hid (Pq.nm D' ≠ []) := Lib.hid (by rw [← HD'.out]; exact Pq.pd_ne p' q')
 have lP' : P'.length ≤ m' := by rw [← HP'.out]; exact Nat.le_trans (Pq.pu_len p' q') hl'
 have lD' : D'.length ≤ m' := by rw [← HD'.out]; have := Pq.pd_len p' q'; omega
 have hK9 : K' ≤ 750000 := by
  have h3 : 4 * (K' + 1) ≤ (m' + 3) * (K' + 1) := Nat.mul_le_mul_right _ (by omega)
  omega
 have hK8 : k + K' ≤ 2000000 := by omega
 have UP : Up w (((w.alloc (.cells #[.slice A1 p.length c1, .slice B1 q.length d1] 84)).alloc (.cells #[.slice A2 p'.length c2, .slice B2 q'.length d2] 84)).alloc (.cells #[.slice none 0 0, .slice none 0 0] 84)) := (((Up.refl w).alloc _).alloc _).alloc _
 obtain ⟨b0, b1, r0⟩ := bx_three 84 84 84 w [.slice A1 p.length c1, .slice B1 q.length d1] [.slice A2 p'.length c2, .slice B2 q'.length d2] [.slice none 0 0, .slice none 0 0]
 go_enter Tryz.func85, Tryz.ntmps85
 go_wp2_with fail
 generalize (((w.alloc (.cells #[.slice A1 p.length c1, .slice B1 q.length d1] 84)).alloc (.cells #[.slice A2 p'.length c2, .slice B2 q'.length d2] 84)).alloc (.cells #[.slice none 0 0, .slice none 0 0] 84)) = W at *
 revert h h2 h' h2'
 refine lg4 UP ?_
 intro h h2 h' h2'
 obtain ⟨b0_0, b0_1⟩ := b0.c2
 obtain ⟨b1_0, b1_1⟩ := b1.c2
 obtain ⟨r0_0, r0_1⟩ := r0.c2
 have r0_f0 := r0.free
 revert UP b0 b1 r0 h h2 h' h2' b0_0 b0_1 b1_0 b1_1
 refine lg12 (Up.refl W).drew ?_
 intro UP b0 b1 r0 h h2 h' h2' b0_0 b0_1 b1_0 b1_1
 obtain ⟨r0_0, r0_1⟩ := r0.c2
 have r0_f0 := r0.free
 refine wp_region_noPanic ?_
 refine wp_region_held_drew (S := fun w' => Up w w' ∧ w'.cell? ⟨w.heap.size, 0, none⟩ = some (.slice A1 p.length c1) ∧ w'.cell? ⟨w.heap.size, 1, none⟩ = some (.slice B1 q.length d1) ∧ w'.cell? ⟨w.heap.size + 1, 0, none⟩ = some (.slice A2 p'.length c2) ∧ w'.cell? ⟨w.heap.size + 1, 1, none⟩ = some (.slice B2 q'.length d2)) (by kernel_rfl) ?_ (fun hHeld => ?_)
 · with_reducible exact ⟨UP, b0_0, b0_1, b1_0, b1_1⟩
 refine tk 0 ?_
 try simp only [gs, Act.put]
 refine tk 1 ?_
 try simp only [gs, Act.put]
 refine rd 2 (fun K hK => ?_)
 go_simp
 (first
   | (go_at_call 81
      ((with_reducible refine (ratf_neg h' h2' hl' hl2' hm1' (by omega) LJ' hK' hK'2 hk2 (by omega) HP' HD').mono ?_))
      rintro e W1 ⟨V1, U1, psa, qsa, rfl, a, b, caa, lpa, lea, u1⟩
      obtain ⟨Aa, ca, rfl⟩ := a.form
      obtain ⟨Ab, cb, rfl⟩ := b.form
      revert UP b0 b1 r0 h h2 h' h2' b0_0 b0_1 b1_0 b1_1; refine lg12 u1 ?_; intro UP b0 b1 r0 h h2 h' h2' b0_0 b0_1 b1_0 b1_1; revert r0_0 r0_1; refine lg2 u1 ?_; intro r0_0 r0_1
      try (replace a := a.up u1)
      try (replace b := b.up u1)
      try (replace e := e.up u1)
      try (replace f := f.up u1)
      replace r0_f0 := r0.free
      clear u1))
 try go_wp2_with fail
 try clear hHeld
 refine hK.out _ _ ?_ (fun hHeld => ?_)
 · with_reducible exact ⟨UP, b0_0, b0_1, b1_0, b1_1⟩
 clear hK K
 try simp only [gs, Act.put]
 refine rd 3 (fun K hK => ?_)
 go_simp
 (first
   | (go_at_call 83
      ((with_reducible refine (ratf_add (k := k + K') (h.mono (by omega)) (h2.mono (by omega)) hl hl2 hm1 LJ (a.fs.mono (by omega)) (b.fs.mono (by omega)) lea.out.1 lea.out.2 hm1' lpa.out mo hmo (by omega) hKK hK2 (by omega) hK8 HP HD (Lib.hid (Pq.pu_of caa.out.nd)) (Lib.hid (Pq.pd_of caa.out.nd))).mono ?_))
      rintro e W2 ⟨V2, U2, pse, qse, rfl, e, f, cae, lpe, lee, u2⟩
      obtain ⟨Ae, ce, rfl⟩ := e.form
      obtain ⟨Af, cf1, rfl⟩ := f.form
      revert UP b0 b1 r0 h h2 h' h2' b0_0 b0_1 b1_0 b1_1; refine lg12 u2 ?_; intro UP b0 b1 r0 h h2 h' h2' b0_0 b0_1 b1_0 b1_1; revert r0_0 r0_1; refine lg2 u2 ?_; intro r0_0 r0_1
      try (replace a := a.up u2)
      try (replace b := b.up u2)
      try (replace e := e.up u2)
      try (replace f := f.up u2)
      replace r0_f0 := r0.free
      clear u2))
 try go_wp2_with fail
 try clear hHeld
 refine hK.out _ _ ?_ (fun hHeld => ?_)
 · with_reducible exact ⟨UP, b0_0, b0_1, b1_0, b1_1⟩
 clear hK K
 try simp only [gs, Act.put]
 refine rd 4 (fun K hK => ?_)
 go_simp
 skip
 try go_wp2_with fail
 try clear hHeld
 refine hK.out _ _ ?_ (fun hHeld => ?_)
 · (first | with_reducible exact ⟨UP, b0_0, b0_1, b1_0, b1_1⟩ | with_reducible exact ⟨(us (us UP)), (cf (cf b0_0)), (cf (cf b0_1)), (cf (cf b1_0)), (cf (cf b1_1))⟩)
 clear hK K
 try simp only [gs, Act.put]
 refine wpAnyH_done (by kernel_rfl) ?_ _
 refine NoPanic.normal ?_
 clear hHeld
 have HCN := Lib.hid (cae.out.sum_back DN.out caa.out)
 clear a b h h2 h' h2'
 have KW : Kw (W2) ((W2).setCell ⟨w.heap.size + 1 + 1, 0, none⟩ (.slice Ae pse.length ce)) := Kw.store (c := (.slice none 0 0)) r0 rfl trivial _
 replace e := e.stored r0 (by decide) KW
 replace f := f.stored r0 (by decide) KW
 replace b0 := b0.fr (w.heap.size + 1 + 1) 0 (.slice Ae pse.length ce)
 replace b1 := b1.fr (w.heap.size + 1 + 1) 0 (.slice Ae pse.length ce)
 replace r0 : Bx 84 ((W2).setCell ⟨w.heap.size + 1 + 1, 0, none⟩ (.slice Ae pse.length ce)) (w.heap.size + 1 + 1) [.slice Ae pse.length ce, .slice none 0 0] := r0.set 0 (.slice Ae pse.length ce)
 replace UP := UP.setCell (p := ⟨w.heap.size + 1 + 1, 0, none⟩) (by dsimp only; omega) (.slice Ae pse.length ce)
 have KW : Kw (((W2).setCell ⟨w.heap.size + 1 + 1, 0, none⟩ (.slice Ae pse.length ce))) ((((W2).setCell ⟨w.heap.size + 1 + 1, 0, none⟩ (.slice Ae pse.length ce))).setCell ⟨w.heap.size + 1 + 1, 1, none⟩ (.slice Af qse.length cf1)) := Kw.store (c := (.slice none 0 0)) r0 rfl trivial _
 replace e := e.stored r0 (by decide) KW
 replace f := f.stored r0 (by decide) KW
 replace b0 := b0.fr (w.heap.size + 1 + 1) 1 (.slice Af qse.length cf1)
 replace b1 := b1.fr (w.heap.size + 1 + 1) 1 (.slice Af qse.length cf1)
 replace r0 : Bx 84 ((((W2).setCell ⟨w.heap.size + 1 + 1, 0, none⟩ (.slice Ae pse.length ce))).setCell ⟨w.heap.size + 1 + 1, 1, none⟩ (.slice Af qse.length cf1)) (w.heap.size + 1 + 1) [.slice Ae pse.length ce, .slice Af qse.length cf1] := r0.set 1 (.slice Af qse.length cf1)
 replace UP := UP.setCell (p := ⟨w.heap.size + 1 + 1, 1, none⟩) (by dsimp only; omega) (.slice Af qse.length cf1)
 clear KW
 generalize ((((W2).setCell ⟨w.heap.size + 1 + 1, 0, none⟩ (.slice Ae pse.length ce))).setCell ⟨w.heap.size + 1 + 1, 1, none⟩ (.slice Af qse.length cf1)) = W3 at *
 clear b0_0 b0_1 b1_0 b1_1 r0_0 r0_1
 obtain ⟨b0_0, b0_1⟩ := b0.c2
 obtain ⟨b1_0, b1_1⟩ := b1.c2
 obtain ⟨r0_0, r0_1⟩ := r0.c2
 go_wp2_with fail
 exact bodyPost_ret (run_res_cell rfl rfl agg_fun size_fun r0 rfl) rfl ⟨_, _, _, _, rfl, e, f, HCN, lpe, lee, UP⟩
end Go.Proofs.YtmmcffceeahemaaGreat
namespace Go.Proofs.YtmmcffceeahemaaGreat
open Go.RowKit
/-- A row of the call's own, in any spelling, that stands alone. -/
def BRow (k : Nat) (w : World) (v : Value) (qs : List Rat) : Prop := OwnQ (Frk k) 34 0 w v qs
theorem BRow.up {k : Nat} {w w' : World} {v : Value} {qs : List Rat} (h : BRow k w v qs) (hu : Up w w') : BRow k w' v qs := OwnQ.up (kp_fr k) h hu
instance BRow.lup {k : Nat} {w w' : World} {v : Value} {qs : List Rat} : Lu (Up w w') (BRow k w v qs) (BRow k w' v qs) := luM fun u h => h.up u
theorem BRow.form {k : Nat} {w : World} {v : Value} {qs : List Rat} (h : BRow k w v qs) : ∃ A c, v = .slice A qs.length c := OwnQ.form h
theorem BRow.fs {k : Nat} {w : World} {v : Value} {qs : List Rat} (h : BRow k w v qs) : FSq k w v qs := OwnQ.sq h
theorem BRow.stored {k : Nat} {w : World} {v x : Value} {qs : List Rat} {S : TypeId} {g i : Nat} {vs : List Value} (h : BRow k w v qs) (hb : Bx S w g vs) (hne : 34 ≠ S) (hk : Kw w (w.setCell ⟨g, i, none⟩ x)) : BRow k (w.setCell ⟨g, i, none⟩ x) v qs :=
 OwnQ.kept (kp_fr k) h hk (row := some g) ⟨rfl, rfl, rfl, by simp [World.setCell], fun j hj hj2 => Below.heap_setCell _ _ _ _ (by simp; exact fun e => hj2 (by rw [e]))⟩ (.inr (ownq_not_bx h hb hne))
theorem BRow.ne {k : Nat} {w : World} {v : Value} {qs : List Rat} (h : BRow k w v qs) : v.ownBlock ≠ some w.heap.size := fun e => by have := (OwnQ.lt h _ e).2; omega
theorem BRow.stored2 {k : Nat} {w : World} {v x : Value} {qs : List Rat} {g i : Nat} (h : BRow k w v qs) (hne : v.ownBlock ≠ some g) (hk : Kw w (w.setCell ⟨g, i, none⟩ x)) : BRow k (w.setCell ⟨g, i, none⟩ x) v qs :=
 OwnQ.kept (kp_fr k) h hk (row := some g) ⟨rfl, rfl, rfl, by simp [World.setCell], fun j hj hj2 => Below.heap_setCell _ _ _ _ (by simp; exact fun e => hj2 (by rw [e]))⟩ (.inr hne)
def RetB3 (k : Nat) (qs : List Rat) (w : World) (e : Ending) (w' : World) : Prop := ∃ v, e = .returned v ∧ BRow k w' v qs ∧ Up w w'
theorem law_to11b {k : Nat} {v : Value} {ps : List Rat} {w : World} (h : FSq k w v ps) (hl : ps.length ≤ 10000) : Calls Tryz.prog 25 #[v] w (RetB3 k ps w) := (law_to11 (kp_fr k) h.sq (by omega)).mono fun e w' ⟨V, h1, h2, h3⟩ => ⟨V, h1, OwnQ.weaken h2 (Nat.zero_le _), h3⟩
/-- A function comes back, its rows given, in any spelling. -/
def RetFB (k : Nat) (p q : List Rat) (w : World) (e : Ending) (w' : World) : Prop := ∃ V U, e = .returned (.agg #[V, U]) ∧ BRow k w' V p ∧ BRow k w' U q ∧ Up w w'
set_option maxRecDepth 100000 in
set_option maxHeartbeats 1600000 in
theorem law_to15 {v u : Value} {p q : List Rat} {k : Nat} {w : World} (h : FSq k w v p) (h2 : FSq k w u q) (hl : p.length ≤ 1000) (hl2 : q.length ≤ 1000) : Calls Tryz.prog 62 #[.agg #[v, u]] w (RetFB k p q w) := by
 obtain ⟨A, c, rfl⟩ := h.form
 obtain ⟨B, d, rfl⟩ := h2.form
 have UP : Up w ((w.alloc (.cells #[.slice A p.length c, .slice B q.length d] 80)).alloc (.cells #[.slice none 0 0, .slice none 0 0] 84)) := ((Up.refl w).alloc _).alloc _
 obtain ⟨b0, r0⟩ := bx_two 80 84 w [.slice A p.length c, .slice B q.length d] [.slice none 0 0, .slice none 0 0]
 go_enter Tryz.func62, Tryz.ntmps62
 go_wp2_with fail
 generalize ((w.alloc (.cells #[.slice A p.length c, .slice B q.length d] 80)).alloc (.cells #[.slice none 0 0, .slice none 0 0] 84)) = W at *
 revert h h2
 refine lg2 UP ?_
 intro h h2
 obtain ⟨b0_0, b0_1⟩ := b0.c2
 obtain ⟨r0_0, r0_1⟩ := r0.c2
 have r0_f0 := r0.free
 revert UP b0 r0 h h2 b0_0 b0_1
 refine lg7 (Up.refl W).drew ?_
 intro UP b0 r0 h h2 b0_0 b0_1
 obtain ⟨r0_0, r0_1⟩ := r0.c2
 have r0_f0 := r0.free
 refine wp_region_noPanic ?_
 refine wp_region_held_drew (S := fun w' => Up w w' ∧ w'.cell? ⟨w.heap.size, 0, none⟩ = some (.slice A p.length c) ∧ w'.cell? ⟨w.heap.size, 1, none⟩ = some (.slice B q.length d)) (by kernel_rfl) ?_ (fun hHeld => ?_)
 · with_reducible exact ⟨UP, b0_0, b0_1⟩
 refine tk 0 ?_
 try simp only [gs, Act.put]
 refine tk 1 ?_
 try simp only [gs, Act.put]
 refine tk 3 ?_
 try simp only [gs, Act.put]
 refine tk 4 ?_
 try simp only [gs, Act.put]
 refine rd 2 (fun K hK => ?_)
 go_simp
 (first
   | (go_at_call 25
      ((with_reducible refine (law_to11b h (by omega)).mono ?_))
      rintro e W1 ⟨V1, rfl, x, u1⟩
      obtain ⟨Ax, cx, rfl⟩ := x.form
      revert UP b0 r0 h h2 b0_0 b0_1 r0_0 r0_1; refine lg9 u1 ?_; intro UP b0 r0 h h2 b0_0 b0_1 r0_0 r0_1
      try (replace x := x.up u1)
      try (replace y := y.up u1)
      replace r0_f0 := r0.free
      clear u1))
 try go_wp2_with fail
 try clear hHeld
 refine hK.out _ _ ?_ (fun hHeld => ?_)
 · with_reducible exact ⟨UP, b0_0, b0_1⟩
 clear hK K
 try simp only [gs, Act.put]
 refine rd 5 (fun K hK => ?_)
 go_simp
 (first
   | (go_at_call 25
      ((with_reducible refine (law_to11b h2 (by omega)).mono ?_))
      rintro e W2 ⟨V2, rfl, y, u2⟩
      obtain ⟨Ay, cy, rfl⟩ := y.form
      revert UP b0 r0 h h2 b0_0 b0_1 r0_0 r0_1; refine lg9 u2 ?_; intro UP b0 r0 h h2 b0_0 b0_1 r0_0 r0_1
      try (replace x := x.up u2)
      try (replace y := y.up u2)
      replace r0_f0 := r0.free
      clear u2))
 try go_wp2_with fail
 try clear hHeld
 refine hK.out _ _ ?_ (fun hHeld => ?_)
 · with_reducible exact ⟨UP, b0_0, b0_1⟩
 clear hK K
 try simp only [gs, Act.put]
 refine tk 6 ?_
 try simp only [gs, Act.put]
 refine rd 7 (fun K hK => ?_)
 go_simp
 skip
 try go_wp2_with fail
 try clear hHeld
 refine hK.out _ _ ?_ (fun hHeld => ?_)
 · (first | with_reducible exact ⟨UP, b0_0, b0_1⟩ | with_reducible exact ⟨(us (us UP)), (cf (cf b0_0)), (cf (cf b0_1))⟩)
 clear hK K
 try simp only [gs, Act.put]
 refine wpAnyH_done (by kernel_rfl) ?_ _
 refine NoPanic.normal ?_
 clear hHeld
 clear h h2
 have KW : Kw (W2) ((W2).setCell ⟨w.heap.size + 1, 0, none⟩ (.slice Ax p.length cx)) := Kw.store (c := (.slice none 0 0)) r0 rfl trivial _
 replace x := x.stored r0 (by decide) KW
 replace y := y.stored r0 (by decide) KW
 replace b0 := b0.fr (w.heap.size + 1) 0 (.slice Ax p.length cx)
 replace r0 : Bx 84 ((W2).setCell ⟨w.heap.size + 1, 0, none⟩ (.slice Ax p.length cx)) (w.heap.size + 1) [.slice Ax p.length cx, .slice none 0 0] := r0.set 0 (.slice Ax p.length cx)
 replace UP := UP.setCell (p := ⟨w.heap.size + 1, 0, none⟩) (by dsimp only; omega) (.slice Ax p.length cx)
 have KW : Kw (((W2).setCell ⟨w.heap.size + 1, 0, none⟩ (.slice Ax p.length cx))) ((((W2).setCell ⟨w.heap.size + 1, 0, none⟩ (.slice Ax p.length cx))).setCell ⟨w.heap.size + 1, 1, none⟩ (.slice Ay q.length cy)) := Kw.store (c := (.slice none 0 0)) r0 rfl trivial _
 replace x := x.stored r0 (by decide) KW
 replace y := y.stored r0 (by decide) KW
 replace b0 := b0.fr (w.heap.size + 1) 1 (.slice Ay q.length cy)
 replace r0 : Bx 84 ((((W2).setCell ⟨w.heap.size + 1, 0, none⟩ (.slice Ax p.length cx))).setCell ⟨w.heap.size + 1, 1, none⟩ (.slice Ay q.length cy)) (w.heap.size + 1) [.slice Ax p.length cx, .slice Ay q.length cy] := r0.set 1 (.slice Ay q.length cy)
 replace UP := UP.setCell (p := ⟨w.heap.size + 1, 1, none⟩) (by dsimp only; omega) (.slice Ay q.length cy)
 clear KW
 generalize ((((W2).setCell ⟨w.heap.size + 1, 0, none⟩ (.slice Ax p.length cx))).setCell ⟨w.heap.size + 1, 1, none⟩ (.slice Ay q.length cy)) = W3 at *
 clear b0_0 b0_1 r0_0 r0_1
 obtain ⟨b0_0, b0_1⟩ := b0.c2
 obtain ⟨r0_0, r0_1⟩ := r0.c2
 go_wp2_with fail
 exact bodyPost_ret (run_res_cell rfl rfl agg_fun size_fun r0 rfl) rfl ⟨_, _, rfl, x, y, UP⟩
set_option maxRecDepth 100000 in
set_option maxHeartbeats 1600000 in
theorem ref_long15 {v u : Value} {rs ts : List Raw} {w : World} (m k : Nat) {M K : Int} (hM : M = (m : Int)) (hK : K = (k : Int)) (h : RSq w v rs) (h2 : RSq w u ts) (hm : m ≤ 1000) (hk : k ≤ 1000) :
 Calls Tryz.prog 59 #[.agg #[v, u], .int .i64 M, .int .i64 K] w fun e w' => ∃ t, e = .returned (.bool t) ∧ Hid (t = false → (rs.length ≤ m ∧ ∀ r ∈ rs, r.few k) ∧ (ts.length ≤ m ∧ ∀ r ∈ ts, r.few k)) ∧ Up w w' := by
 subst hM hK
 obtain ⟨A, c, rfl⟩ := h.form
 obtain ⟨B, d, rfl⟩ := h2.form
 have UP : Up w (w.alloc (.cells #[.slice A rs.length c, .slice B ts.length d] 80)) := (Up.refl w).alloc _
 have b0 := Bx.new 80 w [.slice A rs.length c, .slice B ts.length d]
 go_enter Tryz.func59, Tryz.ntmps59
 go_wp2_with fail
 generalize (w.alloc (.cells #[.slice A rs.length c, .slice B ts.length d] 80)) = W at *
 revert h h2
 refine lg2 UP ?_
 intro h h2
 obtain ⟨b0_0, b0_1⟩ := b0.c2
 go_wp2_with fail
 ((with_reducible refine (ref_long11r m k h (by omega) (by omega)).mono ?_))
 rintro e W1 ⟨t1, rfl, ht1, u1⟩
 revert UP b0 h h2 b0_0 b0_1
 revert u1
 refine lh6 ?_
 intro UP b0 h h2 b0_0 b0_1
 cases t1
 rotate_left
 · go_wp2
   go_ret
   exact ⟨true, rfl, Lib.hid (fun hh => by cases hh), UP⟩
 have g1 := Lib.hid (ht1.out rfl)
 clear ht1
 go_wp2_with fail
 ((with_reducible refine (ref_long11r m k h2 (by omega) (by omega)).mono ?_))
 rintro e W2 ⟨t2, rfl, ht2, u2⟩
 refine li6 u2 h h2 b0 UP b0_0 b0_1 ?_
 clear h h2 b0 UP b0_0 b0_1 u2
 intro h h2 b0 UP b0_0 b0_1
 go_wp2
 go_ret
 have g2 := ht2.out
 exact ⟨t2, rfl, Lib.hid (fun hh => ⟨g1.out, g2 hh⟩), UP⟩
theorem ref_long_31 {v u : Value} {rs ts : List Raw} {w : World} (h : RSq w v rs) (h2 : RSq w u ts) :
 Calls Tryz.prog 59 #[.agg #[v, u], .int .i64 3, .int .i64 1] w fun e w' => ∃ t, e = .returned (.bool t) ∧ Hid (t = false → (rs.length ≤ 3 ∧ ∀ r ∈ rs, r.few 1) ∧ (ts.length ≤ 3 ∧ ∀ r ∈ ts, r.few 1)) ∧ Up w w' := ref_long15 3 1 rfl rfl h h2 (by omega) (by omega)
set_option maxRecDepth 100000
open Go.ChangeShapes Go.WideShapes Go.Deep in
theorem open_fun {H : Type} {enc : TypeId × Value → H} {W : World} {base : Nat} {v : Value} {d : DataW H} {p : List MemPlace} (hv : Value.okWide Tryz.prog W .any base 80 v) (h : DataW.Trod enc Tryz.prog W 0 (fun _ => true) true 80 v d p) : ∃ V U rs ts, v = .agg #[V, U] ∧ RSq W V rs ∧ RSq W U ts := by
 have cells : Tryz.prog.cellsOf 80 = 2 := by kernel_rfl
 simp only [Value.okWide, Tryz.underlying80] at hv
 obtain ⟨cs, rfl, hsz, _⟩ := hv
 rw [cells] at hsz
 obtain ⟨x0, x1, rfl⟩ : ∃ x0 x1, cs = #[x0, x1] := by
  match cs, hsz with
  | ⟨[x0, x1]⟩, _ => exact ⟨x0, x1, rfl⟩
 obtain ⟨fuel, hf⟩ := h
 obtain ⟨ys, n', _, _, hlen, hyl, hf⟩ := DataW.trod_struct Tryz.underlying80 hf
 have f0 : DataW.trod enc Tryz.prog W 0 (fun _ => true) true n' 44 (([x0, x1].drop 0).take (Tryz.prog.cellsOf 44)) = ys[0]? := hf 0 _ rfl
 have f1 : DataW.trod enc Tryz.prog W 0 (fun _ => true) true n' 44 (([x0, x1].drop 1).take (Tryz.prog.cellsOf 44)) = ys[1]? := hf 1 _ rfl
 have hy2 : ys.length = 2 := hyl
 rw [cells_fracs, List.getElem?_eq_getElem (by omega)] at f0 f1
 obtain ⟨rs, h0⟩ := raws_of_trod f0
 obtain ⟨ts, h1⟩ := raws_of_trod f1
 exact ⟨x0, x1, rs, ts, rfl, h0, h1⟩
end Go.Proofs.YtmmcffceeahemaaGreat
