/-
  Quotients of polynomials, plain: what the statements of chapter 15 say.
  Layer 15, the document's answers: sums, products, quotients, derivatives.
-/
import Derived.Test.YtmmcffceeahemaaGreatZsRatfMath
import Derived.Test.YtmmcffceeahemaaGreatZsShort
import Derived.Test.YtmmcffceeahemaaGreatZsRefRatf
set_option linter.unusedVariables false
set_option linter.unusedSimpArgs false
namespace Pq
theorem Can.via {p q U D P Q : List Rat} (h : Can U D P Q) (h0 : Can p q U D) : Can p q P Q := h.turn h0.nd fun x => h0.eq x
section values
variable {P D P' D' us ds us' ds' psa qsa us3 ds3 : List Rat} {z : Rat}
end values
section leibniz
variable {P D P' D' a1 a2 b1 b2 x1 x2 y1 y2 s1 s2 g1 g2 h1 h2 : List Rat}
end leibniz
end Pq
namespace Go.Proofs.YtmmcffceeahemaaGreat
open Go.RowKit
theorem ka_le {mo s K DD Z : Nat} (hm1 : 1 ≤ mo) (hK : 2 * mo * (s + 1) ≤ K) (hZ : DD * (mo + 1) + K = Z) : s + 1 ≤ Z := by
 have h1 : 1 * (s + 1) ≤ 2 * mo * (s + 1) := Nat.mul_le_mul_right _ (by omega)
 have h2 : 0 ≤ DD * (mo + 1) := Nat.zero_le _
 omega
set_option maxRecDepth 100000 in
set_option maxHeartbeats 6400000 in
theorem ref_mul15 {v u v' u' : Value} {U D V F : List Rat} {k j m j' m' K DD Z : Nat} {w : World} (h : QSq k w v U) (h2 : QSq k w u D) (hl : U.length ≤ m) (hl2 : D.length ≤ m) (hm1 : 1 ≤ m) (LJ : Pq.Lp (U ++ D) j) (h' : QSq k w v' V) (h2' : QSq k w u' F) (hl' : V.length ≤ m') (hl2' : F.length ≤ m') (hm1' : 1 ≤ m') (LJ' : Pq.Lp (V ++ F) j')
 (mo : Nat) (hmo : m + m' ≤ mo + 1) (hm : mo ≤ 290) (hKM : 2 * mo * (j + j' + 1 + 1) ≤ K) (hDD : K + (mo + 1) * (K + 1) ≤ DD) (hZ : DD * (mo + 1) + K = Z) (hZZ : Z + Z + (mo + 1) * (Z + 1) + Z + Z + 10 ≤ 2400000) (hk : k ≤ 200000) (HN : Hid (Pq.nm D ≠ [])) (HN' : Hid (Pq.nm F ≠ [])) :
 Calls Tryz.prog 87 #[.agg #[v, u], .agg #[v', u']] w (RetGn K mo (Pq.nm (Pq.mul U V)) (Pq.nm (Pq.mul D F)) w) := by
 have hkz := ka_le (s := j + j' + 1) (by omega) hKM hZ
 obtain ⟨A1, c1, rfl⟩ := h.form
 obtain ⟨B1, d1, rfl⟩ := h2.form
 obtain ⟨A2, c2, rfl⟩ := h'.form
 obtain ⟨B2, d2, rfl⟩ := h2'.form
 have LS := Lib.hid (Pq.lp_prod LJ LJ' (by omega) (by omega))
 have DN2 : Hid (Pq.nm (Pq.nm (Pq.mul D F)) ≠ []) := Lib.hid (Pq.nmul_ne HN.out HN'.out)
 have lM1 := Pq.nm_mul_len U V
 have lM3 := Pq.nm_mul_len D F
 have LDD := Lib.hid LS.out.snd.lq
 have LSS := Lib.hid LS.out.fst.lq
 have LPU := Lib.hid LJ.fst
 have LPD := Lib.hid LJ.snd
 have LPV := Lib.hid LJ'.fst
 have LPF := Lib.hid LJ'.snd
 obtain ⟨M1, HM1⟩ : ∃ r, Hid (Pq.nm (Pq.mul U V) = r) := ⟨_, Lib.hid rfl⟩
 obtain ⟨M3, HM3⟩ : ∃ r, Hid (Pq.nm (Pq.mul D F) = r) := ⟨_, Lib.hid rfl⟩
 rw [HM1.out] at LS lM1 LSS ⊢
 rw [HM3.out] at LS DN2 lM3 LDD ⊢
 have HPU : Hid (Pq.pu M1 M3 = M1) := Lib.hid (Pq.pu_of DN2.out)
 have HPD : Hid (Pq.pd M1 M3 = M3) := Lib.hid (Pq.pd_of DN2.out)
 have UP : Up w (((w.alloc (.cells #[.slice A1 U.length c1, .slice B1 D.length d1] 80)).alloc (.cells #[.slice A2 V.length c2, .slice B2 F.length d2] 80)).alloc (.cells #[.slice none 0 0, .slice none 0 0] 80)) := (((Up.refl w).alloc _).alloc _).alloc _
 obtain ⟨b0, b1, r0⟩ := bx_three 80 80 80 w [.slice A1 U.length c1, .slice B1 D.length d1] [.slice A2 V.length c2, .slice B2 F.length d2] [.slice none 0 0, .slice none 0 0]
 go_enter Tryz.func87, Tryz.ntmps87
 go_wp2_with fail
 generalize (((w.alloc (.cells #[.slice A1 U.length c1, .slice B1 D.length d1] 80)).alloc (.cells #[.slice A2 V.length c2, .slice B2 F.length d2] 80)).alloc (.cells #[.slice none 0 0, .slice none 0 0] 80)) = W at *
 revert h h2 h' h2'
 refine lg4 UP ?_
 intro h h2 h' h2'
 obtain ⟨b0_0, b0_1⟩ := b0.c2
 obtain ⟨b1_0, b1_1⟩ := b1.c2
 obtain ⟨r0_0, r0_1⟩ := r0.c2
 have r0_f0 := r0.free
 revert UP b0 b1 r0 h h2 h' h2' b0_0 b0_1 b1_0 b1_1
 refine lg12 (Up.refl W).drew ?_
 intro UP b0 b1 r0 h h2 h' h2' b0_0 b0_1 b1_0 b1_1
 obtain ⟨r0_0, r0_1⟩ := r0.c2
 have r0_f0 := r0.free
 refine wp_region_noPanic ?_
 refine wp_region_held_drew (S := fun w' => Up w w' ∧ w'.cell? ⟨w.heap.size, 0, none⟩ = some (.slice A1 U.length c1) ∧ w'.cell? ⟨w.heap.size, 1, none⟩ = some (.slice B1 D.length d1) ∧ w'.cell? ⟨w.heap.size + 1, 0, none⟩ = some (.slice A2 V.length c2) ∧ w'.cell? ⟨w.heap.size + 1, 1, none⟩ = some (.slice B2 F.length d2)) (by kernel_rfl) ?_ (fun hHeld => ?_)
 · with_reducible exact ⟨UP, b0_0, b0_1, b1_0, b1_1⟩
 refine tk 0 ?_
 try simp only [gs, Act.put]
 refine tk 1 ?_
 try simp only [gs, Act.put]
 refine tk 2 ?_
 try simp only [gs, Act.put]
 refine tk 3 ?_
 try simp only [gs, Act.put]
 refine tk 5 ?_
 try simp only [gs, Act.put]
 refine tk 6 ?_
 try simp only [gs, Act.put]
 refine tk 7 ?_
 try simp only [gs, Act.put]
 refine tk 8 ?_
 try simp only [gs, Act.put]
 refine rd 4 (fun K hK => ?_)
 go_simp
 (first
   | (go_at_call 40
      ((with_reducible refine (rmul_as j j' h h' LPU.out LPV.out (by omega) (by omega) (by omega) (by omega) (by omega) HM1 LSS).mono ?_))
      rintro e W1 ⟨V1, rfl, a3, u1⟩
      obtain ⟨Aa3, ca3, rfl⟩ := a3.form
      revert UP b0 b1 r0 h h2 h' h2' b0_0 b0_1 b1_0 b1_1; refine lg12 u1 ?_; intro UP b0 b1 r0 h h2 h' h2' b0_0 b0_1 b1_0 b1_1; revert r0_0 r0_1; refine lg2 u1 ?_; intro r0_0 r0_1
      try (replace a3 := a3.up u1)
      try (replace a4 := a4.up u1)
      try (replace a := a.up u1)
      try (replace b := b.up u1)
      replace r0_f0 := r0.free
      clear u1))
 try go_wp2_with fail
 try clear hHeld
 refine hK.out _ _ ?_ (fun hHeld => ?_)
 · with_reducible exact ⟨UP, b0_0, b0_1, b1_0, b1_1⟩
 clear hK K
 try simp only [gs, Act.put]
 refine rd 9 (fun K hK => ?_)
 go_simp
 (first
   | (go_at_call 40
      ((with_reducible refine (rmul_as j j' h2 h2' LPD.out LPF.out (by omega) (by omega) (by omega) (by omega) (by omega) HM3 LDD).mono ?_))
      rintro e W2 ⟨V2, rfl, a4, u2⟩
      obtain ⟨Aa4, ca4, rfl⟩ := a4.form
      revert UP b0 b1 r0 h h2 h' h2' b0_0 b0_1 b1_0 b1_1; refine lg12 u2 ?_; intro UP b0 b1 r0 h h2 h' h2' b0_0 b0_1 b1_0 b1_1; revert r0_0 r0_1; refine lg2 u2 ?_; intro r0_0 r0_1
      try (replace a3 := a3.up u2)
      try (replace a4 := a4.up u2)
      try (replace a := a.up u2)
      try (replace b := b.up u2)
      replace r0_f0 := r0.free
      clear u2))
 try go_wp2_with fail
 try clear hHeld
 refine hK.out _ _ ?_ (fun hHeld => ?_)
 · with_reducible exact ⟨UP, b0_0, b0_1, b1_0, b1_1⟩
 clear hK K
 try simp only [gs, Act.put]
 refine tk 10 ?_
 try simp only [gs, Act.put]
 refine rd 11 (fun K hK => ?_)
 go_simp
 (first
   | (go_at_call 61
      ((with_reducible refine (ref_norm15 (m := mo) (ka := j + j' + 1) a3.q.fr a4.q.fr (by omega) (by omega) (by omega) hm LS.out hKM hDD hZ hZZ (by omega) HPU HPD).mono ?_))
      rintro e W3 ⟨V3, U3, psa, qsa, rfl, a, b, caa, lpa, lea, u3⟩
      obtain ⟨Aa, ca, rfl⟩ := a.form
      obtain ⟨Ab, cb, rfl⟩ := b.form
      revert UP b0 b1 r0 h h2 h' h2' b0_0 b0_1 b1_0 b1_1; refine lg12 u3 ?_; intro UP b0 b1 r0 h h2 h' h2' b0_0 b0_1 b1_0 b1_1; revert r0_0 r0_1; refine lg2 u3 ?_; intro r0_0 r0_1
      try (replace a3 := a3.up u3)
      try (replace a4 := a4.up u3)
      try (replace a := a.up u3)
      try (replace b := b.up u3)
      replace r0_f0 := r0.free
      clear u3))
 try go_wp2_with fail
 try clear hHeld
 refine hK.out _ _ ?_ (fun hHeld => ?_)
 · with_reducible exact ⟨UP, b0_0, b0_1, b1_0, b1_1⟩
 clear hK K
 try simp only [gs, Act.put]
 refine rd 12 (fun K hK => ?_)
 go_simp
 skip
 try go_wp2_with fail
 try clear hHeld
 refine hK.out _ _ ?_ (fun hHeld => ?_)
 · (first | with_reducible exact ⟨UP, b0_0, b0_1, b1_0, b1_1⟩ | with_reducible exact ⟨(us (us UP)), (cf (cf b0_0)), (cf (cf b0_1)), (cf (cf b1_0)), (cf (cf b1_1))⟩)
 clear hK K
 try simp only [gs, Act.put]
 refine wpAnyH_done (by kernel_rfl) ?_ _
 refine NoPanic.normal ?_
 clear hHeld
 clear a3 a4 h h2 h' h2'
 have KW : Kw (W3) ((W3).setCell ⟨w.heap.size + 1 + 1, 0, none⟩ (.slice Aa psa.length ca)) := Kw.store (c := (.slice none 0 0)) r0 rfl trivial _
 replace a := a.stored r0 (by decide) KW
 replace b := b.stored r0 (by decide) KW
 replace b0 := b0.fr (w.heap.size + 1 + 1) 0 (.slice Aa psa.length ca)
 replace b1 := b1.fr (w.heap.size + 1 + 1) 0 (.slice Aa psa.length ca)
 replace r0 : Bx 80 ((W3).setCell ⟨w.heap.size + 1 + 1, 0, none⟩ (.slice Aa psa.length ca)) (w.heap.size + 1 + 1) [.slice Aa psa.length ca, .slice none 0 0] := r0.set 0 (.slice Aa psa.length ca)
 replace UP := UP.setCell (p := ⟨w.heap.size + 1 + 1, 0, none⟩) (by dsimp only; omega) (.slice Aa psa.length ca)
 have KW : Kw (((W3).setCell ⟨w.heap.size + 1 + 1, 0, none⟩ (.slice Aa psa.length ca))) ((((W3).setCell ⟨w.heap.size + 1 + 1, 0, none⟩ (.slice Aa psa.length ca))).setCell ⟨w.heap.size + 1 + 1, 1, none⟩ (.slice Ab qsa.length cb)) := Kw.store (c := (.slice none 0 0)) r0 rfl trivial _
 replace a := a.stored r0 (by decide) KW
 replace b := b.stored r0 (by decide) KW
 replace b0 := b0.fr (w.heap.size + 1 + 1) 1 (.slice Ab qsa.length cb)
 replace b1 := b1.fr (w.heap.size + 1 + 1) 1 (.slice Ab qsa.length cb)
 replace r0 : Bx 80 ((((W3).setCell ⟨w.heap.size + 1 + 1, 0, none⟩ (.slice Aa psa.length ca))).setCell ⟨w.heap.size + 1 + 1, 1, none⟩ (.slice Ab qsa.length cb)) (w.heap.size + 1 + 1) [.slice Aa psa.length ca, .slice Ab qsa.length cb] := r0.set 1 (.slice Ab qsa.length cb)
 replace UP := UP.setCell (p := ⟨w.heap.size + 1 + 1, 1, none⟩) (by dsimp only; omega) (.slice Ab qsa.length cb)
 clear KW
 generalize ((((W3).setCell ⟨w.heap.size + 1 + 1, 0, none⟩ (.slice Aa psa.length ca))).setCell ⟨w.heap.size + 1 + 1, 1, none⟩ (.slice Ab qsa.length cb)) = W4 at *
 clear b0_0 b0_1 b1_0 b1_1 r0_0 r0_1
 obtain ⟨b0_0, b0_1⟩ := b0.c2
 obtain ⟨b1_0, b1_1⟩ := b1.c2
 obtain ⟨r0_0, r0_1⟩ := r0.c2
 go_wp2_with fail
 exact bodyPost_ret (run_res_cell rfl rfl agg_rfun size_rfun r0 rfl) rfl ⟨_, _, _, _, rfl, a, b, caa, lpa, lea, UP⟩
set_option maxRecDepth 100000 in
set_option maxHeartbeats 6400000 in
theorem ref_quo15 {v u v' u' : Value} {U D V F : List Rat} {k j m j' m' K DD Z : Nat} {w : World} (h : QSq k w v U) (h2 : QSq k w u D) (hl : U.length ≤ m) (hl2 : D.length ≤ m) (hm1 : 1 ≤ m) (LJ : Pq.Lp (U ++ D) j) (h' : QSq k w v' V) (h2' : QSq k w u' F) (hl' : V.length ≤ m') (hl2' : F.length ≤ m') (hm1' : 1 ≤ m') (LJ' : Pq.Lp (V ++ F) j')
 (mo : Nat) (hmo : m + m' ≤ mo + 1) (hm : mo ≤ 290) (hKM : 2 * mo * (j + j' + 1 + 1) ≤ K) (hDD : K + (mo + 1) * (K + 1) ≤ DD) (hZ : DD * (mo + 1) + K = Z) (hZZ : Z + Z + (mo + 1) * (Z + 1) + Z + Z + 10 ≤ 2400000) (hk : k ≤ 200000) (HN : Hid (Pq.nm D ≠ [])) (HN' : Hid (Pq.nm V ≠ [])) :
 Calls Tryz.prog 78 #[.agg #[v, u], .agg #[v', u']] w (RetGn K mo (Pq.nm (Pq.mul U F)) (Pq.nm (Pq.mul D V)) w) := by
 have hkz := ka_le (s := j + j' + 1) (by omega) hKM hZ
 obtain ⟨A1, c1, rfl⟩ := h.form
 obtain ⟨B1, d1, rfl⟩ := h2.form
 obtain ⟨A2, c2, rfl⟩ := h'.form
 obtain ⟨B2, d2, rfl⟩ := h2'.form
 have LS := Lib.hid (Pq.lp_prod LJ LJ'.swap (by omega) (by omega))
 have DN2 : Hid (Pq.nm (Pq.nm (Pq.mul D V)) ≠ []) := Lib.hid (Pq.nmul_ne HN.out HN'.out)
 have lM1 := Pq.nm_mul_len U F
 have lM3 := Pq.nm_mul_len D V
 have LDD := Lib.hid LS.out.snd.lq
 have LSS := Lib.hid LS.out.fst.lq
 have LPU := Lib.hid LJ.fst
 have LPD := Lib.hid LJ.snd
 have LPV := Lib.hid LJ'.fst
 have LPF := Lib.hid LJ'.snd
 obtain ⟨M1, HM1⟩ : ∃ r, Hid (Pq.nm (Pq.mul U F) = r) := ⟨_, Lib.hid rfl⟩
 obtain ⟨M3, HM3⟩ : ∃ r, Hid (Pq.nm (Pq.mul D V) = r) := ⟨_, Lib.hid rfl⟩
 rw [HM1.out] at LS lM1 LSS ⊢
 rw [HM3.out] at LS DN2 lM3 LDD ⊢
 have HPU : Hid (Pq.pu M1 M3 = M1) := Lib.hid (Pq.pu_of DN2.out)
 have HPD : Hid (Pq.pd M1 M3 = M3) := Lib.hid (Pq.pd_of DN2.out)
 have UP : Up w (((w.alloc (.cells #[.slice A1 U.length c1, .slice B1 D.length d1] 80)).alloc (.cells #[.slice A2 V.length c2, .slice B2 F.length d2] 80)).alloc (.cells #[.slice none 0 0, .slice none 0 0] 80)) := (((Up.refl w).alloc _).alloc _).alloc _
 obtain ⟨b0, b1, r0⟩ := bx_three 80 80 80 w [.slice A1 U.length c1, .slice B1 D.length d1] [.slice A2 V.length c2, .slice B2 F.length d2] [.slice none 0 0, .slice none 0 0]
 go_enter Tryz.func78, Tryz.ntmps78
 go_wp2_with fail
 generalize (((w.alloc (.cells #[.slice A1 U.length c1, .slice B1 D.length d1] 80)).alloc (.cells #[.slice A2 V.length c2, .slice B2 F.length d2] 80)).alloc (.cells #[.slice none 0 0, .slice none 0 0] 80)) = W at *
 revert h h2 h' h2'
 refine lg4 UP ?_
 intro h h2 h' h2'
 obtain ⟨b0_0, b0_1⟩ := b0.c2
 obtain ⟨b1_0, b1_1⟩ := b1.c2
 obtain ⟨r0_0, r0_1⟩ := r0.c2
 have r0_f0 := r0.free
 revert UP b0 b1 r0 h h2 h' h2' b0_0 b0_1 b1_0 b1_1
 refine lg12 (Up.refl W).drew ?_
 intro UP b0 b1 r0 h h2 h' h2' b0_0 b0_1 b1_0 b1_1
 obtain ⟨r0_0, r0_1⟩ := r0.c2
 have r0_f0 := r0.free
 refine wp_region_noPanic ?_
 refine wp_region_held_drew (S := fun w' => Up w w' ∧ w'.cell? ⟨w.heap.size, 0, none⟩ = some (.slice A1 U.length c1) ∧ w'.cell? ⟨w.heap.size, 1, none⟩ = some (.slice B1 D.length d1) ∧ w'.cell? ⟨w.heap.size + 1, 0, none⟩ = some (.slice A2 V.length c2) ∧ w'.cell? ⟨w.heap.size + 1, 1, none⟩ = some (.slice B2 F.length d2)) (by kernel_rfl) ?_ (fun hHeld => ?_)
 · with_reducible exact ⟨UP, b0_0, b0_1, b1_0, b1_1⟩
 refine tk 0 ?_
 try simp only [gs, Act.put]
 refine tk 1 ?_
 try simp only [gs, Act.put]
 refine tk 2 ?_
 try simp only [gs, Act.put]
 refine tk 3 ?_
 try simp only [gs, Act.put]
 refine tk 5 ?_
 try simp only [gs, Act.put]
 refine tk 6 ?_
 try simp only [gs, Act.put]
 refine tk 7 ?_
 try simp only [gs, Act.put]
 refine tk 8 ?_
 try simp only [gs, Act.put]
 refine rd 4 (fun K hK => ?_)
 go_simp
 (first
   | (go_at_call 40
      ((with_reducible refine (rmul_as j j' h h2' LPU.out LPF.out (by omega) (by omega) (by omega) (by omega) (by omega) HM1 LSS).mono ?_))
      rintro e W1 ⟨V1, rfl, a3, u1⟩
      obtain ⟨Aa3, ca3, rfl⟩ := a3.form
      revert UP b0 b1 r0 h h2 h' h2' b0_0 b0_1 b1_0 b1_1; refine lg12 u1 ?_; intro UP b0 b1 r0 h h2 h' h2' b0_0 b0_1 b1_0 b1_1; revert r0_0 r0_1; refine lg2 u1 ?_; intro r0_0 r0_1
      try (replace a3 := a3.up u1)
      try (replace a4 := a4.up u1)
      try (replace a := a.up u1)
      try (replace b := b.up u1)
      replace r0_f0 := r0.free
      clear u1))
 try go_wp2_with fail
 try clear hHeld
 refine hK.out _ _ ?_ (fun hHeld => ?_)
 · with_reducible exact ⟨UP, b0_0, b0_1, b1_0, b1_1⟩
 clear hK K
 try simp only [gs, Act.put]
 refine rd 9 (fun K hK => ?_)
 go_simp
 (first
   | (go_at_call 40
      ((with_reducible refine (rmul_as j j' h2 h' LPD.out LPV.out (by omega) (by omega) (by omega) (by omega) (by omega) HM3 LDD).mono ?_))
      rintro e W2 ⟨V2, rfl, a4, u2⟩
      obtain ⟨Aa4, ca4, rfl⟩ := a4.form
      revert UP b0 b1 r0 h h2 h' h2' b0_0 b0_1 b1_0 b1_1; refine lg12 u2 ?_; intro UP b0 b1 r0 h h2 h' h2' b0_0 b0_1 b1_0 b1_1; revert r0_0 r0_1; refine lg2 u2 ?_; intro r0_0 r0_1
      try (replace a3 := a3.up u2)
      try (replace a4 := a4.up u2)
      try (replace a := a.up u2)
      try (replace b := b.up u2)
      replace r0_f0 := r0.free
      clear u2))
 try go_wp2_with fail
 try clear hHeld
 refine hK.out _ _ ?_ (fun hHeld => ?_)
 · with_reducible exact ⟨UP, b0_0, b0_1, b1_0, b1_1⟩
 clear hK K
 try simp only [gs, Act.put]
 refine tk 10 ?_
 try simp only [gs, Act.put]
 refine rd 11 (fun K hK => ?_)
 go_simp
 (first
   | (go_at_call 61
      ((with_reducible refine (ref_norm15 (m := mo) (ka := j + j' + 1) a3.q.fr a4.q.fr (by omega) (by omega) (by omega) hm LS.out hKM hDD hZ hZZ (by omega) HPU HPD).mono ?_))
      rintro e W3 ⟨V3, U3, psa, qsa, rfl, a, b, caa, lpa, lea, u3⟩
      obtain ⟨Aa, ca, rfl⟩ := a.form
      obtain ⟨Ab, cb, rfl⟩ := b.form
      revert UP b0 b1 r0 h h2 h' h2' b0_0 b0_1 b1_0 b1_1; refine lg12 u3 ?_; intro UP b0 b1 r0 h h2 h' h2' b0_0 b0_1 b1_0 b1_1; revert r0_0 r0_1; refine lg2 u3 ?_; intro r0_0 r0_1
      try (replace a3 := a3.up u3)
      try (replace a4 := a4.up u3)
      try (replace a := a.up u3)
      try (replace b := b.up u3)
      replace r0_f0 := r0.free
      clear u3))
 try go_wp2_with fail
 try clear hHeld
 refine hK.out _ _ ?_ (fun hHeld => ?_)
 · with_reducible exact ⟨UP, b0_0, b0_1, b1_0, b1_1⟩
 clear hK K
 try simp only [gs, Act.put]
 refine rd 12 (fun K hK => ?_)
 go_simp
 skip
 try go_wp2_with fail
 try clear hHeld
 refine hK.out _ _ ?_ (fun hHeld => ?_)
 · (first | with_reducible exact ⟨UP, b0_0, b0_1, b1_0, b1_1⟩ | with_reducible exact ⟨(us (us UP)), (cf (cf b0_0)), (cf (cf b0_1)), (cf (cf b1_0)), (cf (cf b1_1))⟩)
 clear hK K
 try simp only [gs, Act.put]
 refine wpAnyH_done (by kernel_rfl) ?_ _
 refine NoPanic.normal ?_
 clear hHeld
 clear a3 a4 h h2 h' h2'
 have KW : Kw (W3) ((W3).setCell ⟨w.heap.size + 1 + 1, 0, none⟩ (.slice Aa psa.length ca)) := Kw.store (c := (.slice none 0 0)) r0 rfl trivial _
 replace a := a.stored r0 (by decide) KW
 replace b := b.stored r0 (by decide) KW
 replace b0 := b0.fr (w.heap.size + 1 + 1) 0 (.slice Aa psa.length ca)
 replace b1 := b1.fr (w.heap.size + 1 + 1) 0 (.slice Aa psa.length ca)
 replace r0 : Bx 80 ((W3).setCell ⟨w.heap.size + 1 + 1, 0, none⟩ (.slice Aa psa.length ca)) (w.heap.size + 1 + 1) [.slice Aa psa.length ca, .slice none 0 0] := r0.set 0 (.slice Aa psa.length ca)
 replace UP := UP.setCell (p := ⟨w.heap.size + 1 + 1, 0, none⟩) (by dsimp only; omega) (.slice Aa psa.length ca)
 have KW : Kw (((W3).setCell ⟨w.heap.size + 1 + 1, 0, none⟩ (.slice Aa psa.length ca))) ((((W3).setCell ⟨w.heap.size + 1 + 1, 0, none⟩ (.slice Aa psa.length ca))).setCell ⟨w.heap.size + 1 + 1, 1, none⟩ (.slice Ab qsa.length cb)) := Kw.store (c := (.slice none 0 0)) r0 rfl trivial _
 replace a := a.stored r0 (by decide) KW
 replace b := b.stored r0 (by decide) KW
 replace b0 := b0.fr (w.heap.size + 1 + 1) 1 (.slice Ab qsa.length cb)
 replace b1 := b1.fr (w.heap.size + 1 + 1) 1 (.slice Ab qsa.length cb)
 replace r0 : Bx 80 ((((W3).setCell ⟨w.heap.size + 1 + 1, 0, none⟩ (.slice Aa psa.length ca))).setCell ⟨w.heap.size + 1 + 1, 1, none⟩ (.slice Ab qsa.length cb)) (w.heap.size + 1 + 1) [.slice Aa psa.length ca, .slice Ab qsa.length cb] := r0.set 1 (.slice Ab qsa.length cb)
 replace UP := UP.setCell (p := ⟨w.heap.size + 1 + 1, 1, none⟩) (by dsimp only; omega) (.slice Ab qsa.length cb)
 clear KW
 generalize ((((W3).setCell ⟨w.heap.size + 1 + 1, 0, none⟩ (.slice Aa psa.length ca))).setCell ⟨w.heap.size + 1 + 1, 1, none⟩ (.slice Ab qsa.length cb)) = W4 at *
 clear b0_0 b0_1 b1_0 b1_1 r0_0 r0_1
 obtain ⟨b0_0, b0_1⟩ := b0.c2
 obtain ⟨b1_0, b1_1⟩ := b1.c2
 obtain ⟨r0_0, r0_1⟩ := r0.c2
 go_wp2_with fail
 exact bodyPost_ret (run_res_cell rfl rfl agg_rfun size_rfun r0 rfl) rfl ⟨_, _, _, _, rfl, a, b, caa, lpa, lea, UP⟩
set_option maxRecDepth 100000 in
set_option maxHeartbeats 6400000 in
theorem ref_add15 {v u v' u' : Value} {U D V F : List Rat} {k j m j' m' K DD Z : Nat} {w : World} (h : QSq k w v U) (h2 : QSq k w u D) (hl : U.length ≤ m) (hl2 : D.length ≤ m) (hm1 : 1 ≤ m) (LJ : Pq.Lp (U ++ D) j) (h' : QSq k w v' V) (h2' : QSq k w u' F) (hl' : V.length ≤ m') (hl2' : F.length ≤ m') (hm1' : 1 ≤ m') (LJ' : Pq.Lp (V ++ F) j')
 (mo : Nat) (hmo : m + m' ≤ mo + 1) (hm : mo ≤ 290) (hK : 2 * mo * (j + j' + 1 + 1) ≤ K) (hDD : K + (mo + 1) * (K + 1) ≤ DD) (hZ : DD * (mo + 1) + K = Z) (hZZ : Z + Z + (mo + 1) * (Z + 1) + Z + Z + 10 ≤ 2400000) (hk : k ≤ 200000) (HN : Hid (Pq.nm D ≠ [])) (HN' : Hid (Pq.nm F ≠ [])) :
 Calls Tryz.prog 84 #[.agg #[v, u], .agg #[v', u']] w (RetGn K mo (Pq.au U D V F) (Pq.nm (Pq.mul D F)) w) := by
 have hkz := ka_le (s := j + j' + 1) (by omega) hK hZ
 obtain ⟨A1, c1, rfl⟩ := h.form
 obtain ⟨B1, d1, rfl⟩ := h2.form
 obtain ⟨A2, c2, rfl⟩ := h'.form
 obtain ⟨B2, d2, rfl⟩ := h2'.form
 have LS := Lib.hid (Pq.lp_sum LJ LJ' (by omega) (by omega) (by omega))
 have DN2 : Hid (Pq.nm (Pq.nm (Pq.mul D F)) ≠ []) := Lib.hid (Pq.nmul_ne HN.out HN'.out)
 have LPU := Lib.hid LJ.fst
 have LPD := Lib.hid LJ.snd
 have LPV := Lib.hid LJ'.fst
 have LPF := Lib.hid LJ'.snd
 have LM1 := Lib.hid (LPU.out.mul LPF.out (by omega))
 have LM2 := Lib.hid (LPV.out.mul LPD.out (by omega))
 have lM1 := Pq.nm_mul_len U F
 have lM2 := Pq.nm_mul_len V D
 have lM3 := Pq.nm_mul_len D F
 have lS : (Pq.au U D V F).length ≤ mo := Nat.le_trans (Pq.nm_len _) (by rw [Pq.add_len]; omega)
 have LDD := Lib.hid LS.out.snd.lq
 have LSS := Lib.hid LS.out.fst.lq
 have HAU : Hid (Pq.nm (Pq.add (Pq.nm (Pq.mul U F)) (Pq.nm (Pq.mul V D))) = Pq.au U D V F) := Lib.hid rfl
 obtain ⟨M1, HM1⟩ : ∃ r, Hid (Pq.nm (Pq.mul U F) = r) := ⟨_, Lib.hid rfl⟩
 obtain ⟨M2, HM2⟩ : ∃ r, Hid (Pq.nm (Pq.mul V D) = r) := ⟨_, Lib.hid rfl⟩
 obtain ⟨M3, HM3⟩ : ∃ r, Hid (Pq.nm (Pq.mul D F) = r) := ⟨_, Lib.hid rfl⟩
 obtain ⟨S, HS⟩ : ∃ r, Hid (Pq.au U D V F = r) := ⟨_, Lib.hid rfl⟩
 rw [HM1.out] at LM1 lM1 HAU
 rw [HM2.out] at LM2 lM2 HAU
 rw [HM3.out] at LS DN2 lM3 LDD ⊢
 rw [HS.out] at LS lS LSS HAU ⊢
 have LQ1 := Lib.hid LM1.out.lq
 have LQ2 := Lib.hid LM2.out.lq
 have HPU : Hid (Pq.pu S M3 = S) := Lib.hid (Pq.pu_of DN2.out)
 have HPD : Hid (Pq.pd S M3 = M3) := Lib.hid (Pq.pd_of DN2.out)
 have UP : Up w (((w.alloc (.cells #[.slice A1 U.length c1, .slice B1 D.length d1] 80)).alloc (.cells #[.slice A2 V.length c2, .slice B2 F.length d2] 80)).alloc (.cells #[.slice none 0 0, .slice none 0 0] 80)) := (((Up.refl w).alloc _).alloc _).alloc _
 obtain ⟨b0, b1, r0⟩ := bx_three 80 80 80 w [.slice A1 U.length c1, .slice B1 D.length d1] [.slice A2 V.length c2, .slice B2 F.length d2] [.slice none 0 0, .slice none 0 0]
 go_enter Tryz.func84, Tryz.ntmps84
 go_wp2_with fail
 generalize (((w.alloc (.cells #[.slice A1 U.length c1, .slice B1 D.length d1] 80)).alloc (.cells #[.slice A2 V.length c2, .slice B2 F.length d2] 80)).alloc (.cells #[.slice none 0 0, .slice none 0 0] 80)) = W at *
 revert h h2 h' h2'
 refine lg4 UP ?_
 intro h h2 h' h2'
 obtain ⟨b0_0, b0_1⟩ := b0.c2
 obtain ⟨b1_0, b1_1⟩ := b1.c2
 obtain ⟨r0_0, r0_1⟩ := r0.c2
 have r0_f0 := r0.free
 revert UP b0 b1 r0 h h2 h' h2' b0_0 b0_1 b1_0 b1_1
 refine lg12 (Up.refl W).drew ?_
 intro UP b0 b1 r0 h h2 h' h2' b0_0 b0_1 b1_0 b1_1
 revert r0_0 r0_1
 refine lg2 (Up.refl W).drew ?_
 intro r0_0 r0_1
 replace r0_f0 := r0.free
 refine wp_region_noPanic ?_
 refine wp_region_held_drew (S := fun w' => Up w w' ∧ w'.cell? ⟨w.heap.size, 0, none⟩ = some (.slice A1 U.length c1) ∧ w'.cell? ⟨w.heap.size, 1, none⟩ = some (.slice B1 D.length d1) ∧ w'.cell? ⟨w.heap.size + 1, 0, none⟩ = some (.slice A2 V.length c2) ∧ w'.cell? ⟨w.heap.size + 1, 1, none⟩ = some (.slice B2 F.length d2)) (by kernel_rfl) ?_ (fun hHeld => ?_)
 · with_reducible exact ⟨UP, b0_0, b0_1, b1_0, b1_1⟩
 refine tk 0 ?_
 try simp only [gs, Act.put]
 refine tk 1 ?_
 try simp only [gs, Act.put]
 refine tk 2 ?_
 try simp only [gs, Act.put]
 refine tk 3 ?_
 try simp only [gs, Act.put]
 refine tk 5 ?_
 try simp only [gs, Act.put]
 refine tk 6 ?_
 try simp only [gs, Act.put]
 refine tk 7 ?_
 try simp only [gs, Act.put]
 refine tk 8 ?_
 try simp only [gs, Act.put]
 refine rd 4 (fun K hK => ?_)
 go_simp
 (first
   | (go_at_call 40
      ((with_reducible refine (rmul_as j j' h h2' LPU.out LPF.out (by omega) (by omega) (by omega) (by omega) (by omega) HM1 LQ1).mono ?_))
      rintro e W1 ⟨V1, rfl, a1, u1⟩
      obtain ⟨Aa1, ca1, rfl⟩ := a1.form
      revert UP b0 b1 r0 h h2 h' h2' b0_0 b0_1 b1_0 b1_1; refine lg12 u1 ?_; intro UP b0 b1 r0 h h2 h' h2' b0_0 b0_1 b1_0 b1_1; revert r0_0 r0_1; refine lg2 u1 ?_; intro r0_0 r0_1
      try (replace a1 := a1.up u1)
      try (replace a2 := a2.up u1)
      try (replace a3 := a3.up u1)
      replace r0_f0 := r0.free
      clear u1))
 try go_wp2_with fail
 try clear hHeld
 refine hK.out _ _ ?_ (fun hHeld => ?_)
 · with_reducible exact ⟨UP, b0_0, b0_1, b1_0, b1_1⟩
 clear hK K
 try simp only [gs, Act.put]
 refine rd 9 (fun K hK => ?_)
 go_simp
 (first
   | (go_at_call 40
      ((with_reducible refine (rmul_as j' j h' h2 LPV.out LPD.out (by omega) (by omega) (by omega) (by omega) (by omega) HM2 LQ2).mono ?_))
      rintro e W2 ⟨V2, rfl, a2, u2⟩
      obtain ⟨Aa2, ca2, rfl⟩ := a2.form
      revert UP b0 b1 r0 h h2 h' h2' b0_0 b0_1 b1_0 b1_1; refine lg12 u2 ?_; intro UP b0 b1 r0 h h2 h' h2' b0_0 b0_1 b1_0 b1_1; revert r0_0 r0_1; refine lg2 u2 ?_; intro r0_0 r0_1
      try (replace a1 := a1.up u2)
      try (replace a2 := a2.up u2)
      try (replace a3 := a3.up u2)
      replace r0_f0 := r0.free
      clear u2))
 try go_wp2_with fail
 try clear hHeld
 refine hK.out _ _ ?_ (fun hHeld => ?_)
 · with_reducible exact ⟨UP, b0_0, b0_1, b1_0, b1_1⟩
 clear hK K
 try simp only [gs, Act.put]
 refine rd 10 (fun K hK => ?_)
 go_simp
 (first
   | (go_at_call 36
      ((with_reducible refine (ref_add14_as a1.q a2.q (by omega) (by omega) (by omega) (by omega) (by omega) (by omega) HAU LSS).mono ?_))
      rintro e W3 ⟨V3, rfl, a3, u3⟩
      obtain ⟨Aa3, ca3, rfl⟩ := a3.form
      revert UP b0 b1 r0 h h2 h' h2' b0_0 b0_1 b1_0 b1_1; refine lg12 u3 ?_; intro UP b0 b1 r0 h h2 h' h2' b0_0 b0_1 b1_0 b1_1; revert r0_0 r0_1; refine lg2 u3 ?_; intro r0_0 r0_1
      try (replace a1 := a1.up u3)
      try (replace a2 := a2.up u3)
      try (replace a3 := a3.up u3)
      replace r0_f0 := r0.free
      clear u3))
 try go_wp2_with fail
 try clear hHeld
 refine hK.out _ _ ?_ (fun hHeld => ?_)
 · with_reducible exact ⟨UP, b0_0, b0_1, b1_0, b1_1⟩
 clear hK K
 try simp only [gs, Act.put]
 refine rd 11 (fun K hK => ?_)
 go_simp
 skip
 try go_wp2_with fail
 try clear hHeld
 refine hK.out _ _ ?_ (fun hHeld => ?_)
 · with_reducible exact ⟨UP, b0_0, b0_1, b1_0, b1_1⟩
 clear hK K
 try simp only [gs, Act.put]
 refine wpAnyH_done (by kernel_rfl) ?_ _
 refine NoPanic.normal ?_
 clear hHeld
 clear a1 a2
 go_wp2_with fail
 ((with_reducible refine (rmul_as j j' h2 h2' LPD.out LPF.out (by omega) (by omega) (by omega) (by omega) (by omega) HM3 LDD).mono ?_))
 rintro e W4 ⟨V4, rfl, a4, u4⟩
 obtain ⟨Aa4, ca4, rfl⟩ := a4.form
 refine li12 u4 h h2 h' h2' a3 b0 b1 r0 UP b0_0 b0_1 b1_0 ?_
 clear h h2 h' h2' a3 b0 b1 r0 UP b0_0 b0_1 b1_0
 intro h h2 h' h2' a3 b0 b1 r0 UP b0_0 b0_1 b1_0
 revert b1_1 r0_0 r0_1
 refine lg3 u4 ?_
 intro b1_1 r0_0 r0_1
 replace r0_f0 := r0.free
 clear u4
 go_wp2_with fail
 ((with_reducible refine (ref_norm15 (m := mo) (ka := j + j' + 1) a3.q.fr a4.q.fr lS (by omega) (by omega) hm LS.out hK hDD hZ hZZ (by omega) HPU HPD).mono ?_))
 rintro e W5 ⟨V5, U5, psa, qsa, rfl, a, b, caa, lpa, lea, u5⟩
 obtain ⟨Aa, ca, rfl⟩ := a.form
 obtain ⟨Ab, cb, rfl⟩ := b.form
 revert a4 h h2 h' h2' a3 b0 b1 r0 UP b0_0 b0_1
 refine lg12 u5 ?_
 intro a4 h h2 h' h2' a3 b0 b1 r0 UP b0_0 b0_1
 revert b1_0 b1_1 r0_0 r0_1
 refine lg4 u5 ?_
 intro b1_0 b1_1 r0_0 r0_1
 replace r0_f0 := r0.free
 clear u5
 clear a3 a4 h h2 h' h2'
 go_wp2_with fail
 have KW : Kw (W5) ((W5).setCell ⟨w.heap.size + 1 + 1, 0, none⟩ (.slice Aa psa.length ca)) := Kw.store (c := (.slice none 0 0)) r0 rfl trivial _
 replace a := a.stored r0 (by decide) KW
 replace b := b.stored r0 (by decide) KW
 replace b0 := b0.fr (w.heap.size + 1 + 1) 0 (.slice Aa psa.length ca)
 replace b1 := b1.fr (w.heap.size + 1 + 1) 0 (.slice Aa psa.length ca)
 replace r0 : Bx 80 ((W5).setCell ⟨w.heap.size + 1 + 1, 0, none⟩ (.slice Aa psa.length ca)) (w.heap.size + 1 + 1) [.slice Aa psa.length ca, .slice none 0 0] := r0.set 0 (.slice Aa psa.length ca)
 replace UP := UP.setCell (p := ⟨w.heap.size + 1 + 1, 0, none⟩) (by dsimp only; omega) (.slice Aa psa.length ca)
 have KW : Kw (((W5).setCell ⟨w.heap.size + 1 + 1, 0, none⟩ (.slice Aa psa.length ca))) ((((W5).setCell ⟨w.heap.size + 1 + 1, 0, none⟩ (.slice Aa psa.length ca))).setCell ⟨w.heap.size + 1 + 1, 1, none⟩ (.slice Ab qsa.length cb)) := Kw.store (c := (.slice none 0 0)) r0 rfl trivial _
 replace a := a.stored r0 (by decide) KW
 replace b := b.stored r0 (by decide) KW
 replace b0 := b0.fr (w.heap.size + 1 + 1) 1 (.slice Ab qsa.length cb)
 replace b1 := b1.fr (w.heap.size + 1 + 1) 1 (.slice Ab qsa.length cb)
 replace r0 : Bx 80 ((((W5).setCell ⟨w.heap.size + 1 + 1, 0, none⟩ (.slice Aa psa.length ca))).setCell ⟨w.heap.size + 1 + 1, 1, none⟩ (.slice Ab qsa.length cb)) (w.heap.size + 1 + 1) [.slice Aa psa.length ca, .slice Ab qsa.length cb] := r0.set 1 (.slice Ab qsa.length cb)
 replace UP := UP.setCell (p := ⟨w.heap.size + 1 + 1, 1, none⟩) (by dsimp only; omega) (.slice Ab qsa.length cb)
 clear KW
 generalize ((((W5).setCell ⟨w.heap.size + 1 + 1, 0, none⟩ (.slice Aa psa.length ca))).setCell ⟨w.heap.size + 1 + 1, 1, none⟩ (.slice Ab qsa.length cb)) = W6 at *
 clear b0_0 b0_1 b1_0 b1_1 r0_0 r0_1
 obtain ⟨b0_0, b0_1⟩ := b0.c2
 obtain ⟨b1_0, b1_1⟩ := b1.c2
 obtain ⟨r0_0, r0_1⟩ := r0.c2
 exact bodyPost_ret (run_res_cell rfl rfl agg_rfun size_rfun r0 rfl) rfl ⟨_, _, _, _, rfl, a, b, caa, lpa, lea, UP⟩
end Go.Proofs.YtmmcffceeahemaaGreat
