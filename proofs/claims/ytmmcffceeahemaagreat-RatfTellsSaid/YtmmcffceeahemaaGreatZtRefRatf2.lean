/-
  Quotients of polynomials, plain: what the statements of chapter 15 say.
  Layer 15, the document's answers: sums, products, quotients, derivatives.
-/
import Derived.Test.YtmmcffceeahemaaGreatZtRatfMath
import Derived.Test.YtmmcffceeahemaaGreatZtShort
import Derived.Test.YtmmcffceeahemaaGreatZtRefRatf
set_option linter.unusedVariables false
set_option linter.unusedSimpArgs false
namespace Pq
theorem Can.via {p q U D P Q : List Rat} (h : Can U D P Q) (h0 : Can p q U D) : Can p q P Q := h.turn h0.nd fun x => h0.eq x
section values
variable {P D P' D' us ds us' ds' psa qsa us3 ds3 : List Rat} {z : Rat}
end values
section leibniz
variable {P D P' D' a1 a2 b1 b2 x1 x2 y1 y2 s1 s2 g1 g2 h1 h2 : List Rat}
end leibniz
end Pq
namespace Go.Proofs.YtmmcffceeahemaaGreat
open Go.RowKit
theorem ka_le {mo s K DD Z : Nat} (hm1 : 1 ≤ mo) (hK : 2 * mo * (s + 1) ≤ K) (hZ : DD * (mo + 1) + K = Z) : s + 1 ≤ Z := by
 have h1 : 1 * (s + 1) ≤ 2 * mo * (s + 1) := Nat.mul_le_mul_right _ (by omega)
 have h2 : 0 ≤ DD * (mo + 1) := Nat.zero_le _
 omega
set_option maxRecDepth 100000 in
set_option maxHeartbeats 6400000 in
theorem ref_diff15 {v u : Value} {U D : List Rat} {k j m K DD Z : Nat} {w : World} (h : QSq k w v U) (h2 : QSq k w u D) (hl : U.length ≤ m) (hl2 : D.length ≤ m) (hm1 : 1 ≤ m) (LJ : Pq.Lp (U ++ D) j)
 (mo : Nat) (hmo : m + m ≤ mo + 1) (hm : mo ≤ 290) (hK : 2 * mo * (j + j + 1 + 1) ≤ K) (hDD : K + (mo + 1) * (K + 1) ≤ DD) (hZ : DD * (mo + 1) + K = Z) (hZZ : Z + Z + (mo + 1) * (Z + 1) + Z + Z + 10 ≤ 2400000) (hk : k ≤ 200000) (HN : Hid (Pq.nm D ≠ [])) :
 Calls Tryz.prog 75 #[.agg #[v, u]] w (RetGn K mo (Pq.du U D) (Pq.nm (Pq.mul D D)) w) := by
 have hkz := ka_le (s := j + j + 1) (by omega) hK hZ
 obtain ⟨A, c, rfl⟩ := h.form
 obtain ⟨B, d, rfl⟩ := h2.form
 have LS := Lib.hid (Pq.lp_der LJ (by omega) (by omega))
 have DN2 : Hid (Pq.nm (Pq.nm (Pq.mul D D)) ≠ []) := Lib.hid (Pq.nmul_ne HN.out HN.out)
 have LPU := Lib.hid LJ.fst
 have LPD := Lib.hid LJ.snd
 have lF1 : (Pq.nm (Pq.df U)).length ≤ m := Nat.le_trans (Pq.nm_len _) (by rw [Pq.df_len]; omega)
 have lF2 : (Pq.nm (Pq.df D)).length ≤ m := Nat.le_trans (Pq.nm_len _) (by rw [Pq.df_len]; omega)
 have LF1 := Lib.hid (Lp.df LPU.out (by omega)).nm
 have LF2 := Lib.hid (Lp.df LPD.out (by omega)).nm
 have lM1 := Pq.nm_mul_len (Pq.nm (Pq.df U)) D
 have lM2 := Pq.nm_mul_len U (Pq.nm (Pq.df D))
 have lM3 := Pq.nm_mul_len D D
 have LM1 := Lib.hid (LF1.out.mul LPD.out (by omega))
 have LM2 := Lib.hid (LPU.out.mul LF2.out (by omega))
 have LDD := Lib.hid LS.out.snd.lq
 have LSS := Lib.hid LS.out.fst.lq
 have HDU : Hid (Pq.nm (Pq.sub (Pq.nm (Pq.mul (Pq.nm (Pq.df U)) D)) (Pq.nm (Pq.mul U (Pq.nm (Pq.df D))))) = Pq.du U D) := Lib.hid rfl
 have lS : (Pq.du U D).length ≤ mo := Nat.le_trans (Pq.nm_len _) (by unfold Pq.sub; rw [Pq.add_len, Pq.sc_len]; omega)
 obtain ⟨F1, HF1⟩ : ∃ r, Hid (Pq.nm (Pq.df U) = r) := ⟨_, Lib.hid rfl⟩
 obtain ⟨F2, HF2⟩ : ∃ r, Hid (Pq.nm (Pq.df D) = r) := ⟨_, Lib.hid rfl⟩
 rw [HF1.out] at lF1 LF1 lM1 LM1 HDU
 rw [HF2.out] at lF2 LF2 lM2 LM2 HDU
 obtain ⟨M1, HM1⟩ : ∃ r, Hid (Pq.nm (Pq.mul F1 D) = r) := ⟨_, Lib.hid rfl⟩
 obtain ⟨M2, HM2⟩ : ∃ r, Hid (Pq.nm (Pq.mul U F2) = r) := ⟨_, Lib.hid rfl⟩
 obtain ⟨M3, HM3⟩ : ∃ r, Hid (Pq.nm (Pq.mul D D) = r) := ⟨_, Lib.hid rfl⟩
 obtain ⟨S, HS⟩ : ∃ r, Hid (Pq.du U D = r) := ⟨_, Lib.hid rfl⟩
 rw [HM1.out] at lM1 LM1 HDU
 rw [HM2.out] at lM2 LM2 HDU
 rw [HM3.out] at LS DN2 lM3 LDD ⊢
 rw [HS.out] at LS lS LSS HDU ⊢
 have LQ1 := Lib.hid LM1.out.lq
 have LQ2 := Lib.hid LM2.out.lq
 have LFQ1 := Lib.hid LF1.out.lq
 have LFQ2 := Lib.hid LF2.out.lq
 have HPU : Hid (Pq.pu S M3 = S) := Lib.hid (Pq.pu_of DN2.out)
 have HPD : Hid (Pq.pd S M3 = M3) := Lib.hid (Pq.pd_of DN2.out)
 have UP : Up w ((w.alloc (.cells #[.slice A U.length c, .slice B D.length d] 80)).alloc (.cells #[.slice none 0 0, .slice none 0 0] 80)) := ((Up.refl w).alloc _).alloc _
 obtain ⟨b0, r0⟩ := bx_two 80 80 w [.slice A U.length c, .slice B D.length d] [.slice none 0 0, .slice none 0 0]
 go_enter Tryz.func75, Tryz.ntmps75
 go_wp2_with fail
 generalize ((w.alloc (.cells #[.slice A U.length c, .slice B D.length d] 80)).alloc (.cells #[.slice none 0 0, .slice none 0 0] 80)) = W at *
 revert h h2
 refine lg2 UP ?_
 intro h h2
 obtain ⟨b0_0, b0_1⟩ := b0.c2
 obtain ⟨r0_0, r0_1⟩ := r0.c2
 have r0_f0 := r0.free
 revert UP b0 r0 h h2 b0_0 b0_1 r0_0 r0_1
 refine lg9 (Up.refl W).drew ?_
 intro UP b0 r0 h h2 b0_0 b0_1 r0_0 r0_1
 replace r0_f0 := r0.free
 refine wp_region_noPanic ?_
 refine wp_region_held_drew (S := fun w' => Up w w' ∧ w'.cell? ⟨w.heap.size, 0, none⟩ = some (.slice A U.length c) ∧ w'.cell? ⟨w.heap.size, 1, none⟩ = some (.slice B D.length d)) (by kernel_rfl) ?_ (fun hHeld => ?_)
 · with_reducible exact ⟨UP, b0_0, b0_1⟩
 refine tk 0 ?_
 try simp only [gs, Act.put]
 refine tk 1 ?_
 try simp only [gs, Act.put]
 refine tk 3 ?_
 try simp only [gs, Act.put]
 refine tk 4 ?_
 try simp only [gs, Act.put]
 refine tk 6 ?_
 try simp only [gs, Act.put]
 refine tk 7 ?_
 try simp only [gs, Act.put]
 refine tk 8 ?_
 try simp only [gs, Act.put]
 refine tk 9 ?_
 try simp only [gs, Act.put]
 refine rd 2 (fun K hK => ?_)
 go_simp
 (first
   | (go_at_call 45
      ((with_reducible refine (rdiff_as h (by omega) (by omega) HF1 LFQ1).mono ?_))
      rintro e W1 ⟨V1, rfl, f1, u1⟩
      obtain ⟨Af1, cf1, rfl⟩ := f1.form
      revert UP b0 r0 h h2 b0_0 b0_1 r0_0 r0_1; refine lg9 u1 ?_; intro UP b0 r0 h h2 b0_0 b0_1 r0_0 r0_1
      try (replace f1 := f1.up u1)
      try (replace a1 := a1.up u1)
      try (replace f2 := f2.up u1)
      try (replace a2 := a2.up u1)
      try (replace a3 := a3.up u1)
      replace r0_f0 := r0.free
      clear u1))
 try go_wp2_with fail
 try clear hHeld
 refine hK.out _ _ ?_ (fun hHeld => ?_)
 · with_reducible exact ⟨UP, b0_0, b0_1⟩
 clear hK K
 try simp only [gs, Act.put]
 refine rd 5 (fun K hK => ?_)
 go_simp
 (first
   | (go_at_call 40
      ((with_reducible refine (rmul_as (j + 1) j f1.q h2 LF1.out LPD.out (by omega) (by omega) (by omega) (by omega) (by omega) HM1 LQ1).mono ?_))
      rintro e W2 ⟨V2, rfl, a1, u2⟩
      obtain ⟨Aa1, ca1, rfl⟩ := a1.form
      revert UP b0 r0 h h2 b0_0 b0_1 r0_0 r0_1; refine lg9 u2 ?_; intro UP b0 r0 h h2 b0_0 b0_1 r0_0 r0_1
      try (replace f1 := f1.up u2)
      try (replace a1 := a1.up u2)
      try (replace f2 := f2.up u2)
      try (replace a2 := a2.up u2)
      try (replace a3 := a3.up u2)
      replace r0_f0 := r0.free
      clear u2))
 try go_wp2_with fail
 try clear hHeld
 refine hK.out _ _ ?_ (fun hHeld => ?_)
 · with_reducible exact ⟨UP, b0_0, b0_1⟩
 clear hK K
 try simp only [gs, Act.put]
 refine rd 10 (fun K hK => ?_)
 go_simp
 (first
   | (go_at_call 45
      ((with_reducible refine (rdiff_as h2 (by omega) (by omega) HF2 LFQ2).mono ?_))
      rintro e W3 ⟨V3, rfl, f2, u3⟩
      obtain ⟨Af2, cf2, rfl⟩ := f2.form
      revert UP b0 r0 h h2 b0_0 b0_1 r0_0 r0_1; refine lg9 u3 ?_; intro UP b0 r0 h h2 b0_0 b0_1 r0_0 r0_1
      try (replace f1 := f1.up u3)
      try (replace a1 := a1.up u3)
      try (replace f2 := f2.up u3)
      try (replace a2 := a2.up u3)
      try (replace a3 := a3.up u3)
      replace r0_f0 := r0.free
      clear u3))
 try go_wp2_with fail
 try clear hHeld
 refine hK.out _ _ ?_ (fun hHeld => ?_)
 · with_reducible exact ⟨UP, b0_0, b0_1⟩
 clear hK K
 try simp only [gs, Act.put]
 refine rd 11 (fun K hK => ?_)
 go_simp
 (first
   | (go_at_call 40
      ((with_reducible refine (rmul_as j (j + 1) h f2.q LPU.out LF2.out (by omega) (by omega) (by omega) (by omega) (by omega) HM2 LQ2).mono ?_))
      rintro e W4 ⟨V4, rfl, a2, u4⟩
      obtain ⟨Aa2, ca2, rfl⟩ := a2.form
      revert UP b0 r0 h h2 b0_0 b0_1 r0_0 r0_1; refine lg9 u4 ?_; intro UP b0 r0 h h2 b0_0 b0_1 r0_0 r0_1
      try (replace f1 := f1.up u4)
      try (replace a1 := a1.up u4)
      try (replace f2 := f2.up u4)
      try (replace a2 := a2.up u4)
      try (replace a3 := a3.up u4)
      replace r0_f0 := r0.free
      clear u4))
 try go_wp2_with fail
 try clear hHeld
 refine hK.out _ _ ?_ (fun hHeld => ?_)
 · with_reducible exact ⟨UP, b0_0, b0_1⟩
 clear hK K
 try simp only [gs, Act.put]
 refine rd 12 (fun K hK => ?_)
 go_simp
 (first
   | (go_at_call 38
      ((with_reducible refine (ref_sub14 a1.q a2.q (by omega) (by omega) (by omega) (by omega) (by omega) (by omega) HDU LSS).mono ?_))
      rintro e W5 ⟨V5, rfl, a3, u5⟩
      obtain ⟨Aa3, ca3, rfl⟩ := a3.form
      revert UP b0 r0 h h2 b0_0 b0_1 r0_0 r0_1; refine lg9 u5 ?_; intro UP b0 r0 h h2 b0_0 b0_1 r0_0 r0_1
      try (replace f1 := f1.up u5)
      try (replace a1 := a1.up u5)
      try (replace f2 := f2.up u5)
      try (replace a2 := a2.up u5)
      try (replace a3 := a3.up u5)
      replace r0_f0 := r0.free
      clear u5))
 try go_wp2_with fail
 try clear hHeld
 refine hK.out _ _ ?_ (fun hHeld => ?_)
 · with_reducible exact ⟨UP, b0_0, b0_1⟩
 clear hK K
 try simp only [gs, Act.put]
 refine rd 13 (fun K hK => ?_)
 go_simp
 skip
 try go_wp2_with fail
 try clear hHeld
 refine hK.out _ _ ?_ (fun hHeld => ?_)
 · with_reducible exact ⟨UP, b0_0, b0_1⟩
 clear hK K
 try simp only [gs, Act.put]
 refine wpAnyH_done (by kernel_rfl) ?_ _
 refine NoPanic.normal ?_
 clear hHeld
 clear f1 f2 a1 a2
 go_wp2_with fail
 ((with_reducible refine (rmul_as j j h2 h2 LPD.out LPD.out (by omega) (by omega) (by omega) (by omega) (by omega) HM3 LDD).mono ?_))
 rintro e W6 ⟨V6, rfl, a4, u6⟩
 obtain ⟨Aa4, ca4, rfl⟩ := a4.form
 refine li10 u6 h h2 a3 b0 r0 UP b0_0 b0_1 r0_0 r0_1 ?_
 clear h h2 a3 b0 r0 UP b0_0 b0_1 r0_0 r0_1
 intro h h2 a3 b0 r0 UP b0_0 b0_1 r0_0 r0_1
 replace r0_f0 := r0.free
 clear u6
 go_wp2_with fail
 ((with_reducible refine (ref_norm15 (m := mo) (ka := j + j + 1) a3.q.fr a4.q.fr lS (by omega) (by omega) hm LS.out hK hDD hZ hZZ (by omega) HPU HPD).mono ?_))
 rintro e W7 ⟨V7, U7, psa, qsa, rfl, a, b, caa, lpa, lea, u7⟩
 obtain ⟨Aa, ca, rfl⟩ := a.form
 obtain ⟨Ab, cb, rfl⟩ := b.form
 revert a4 h h2 a3 b0 r0 UP b0_0 b0_1 r0_0 r0_1
 refine lg11 u7 ?_
 intro a4 h h2 a3 b0 r0 UP b0_0 b0_1 r0_0 r0_1
 replace r0_f0 := r0.free
 clear u7
 clear a3 a4 h h2
 go_wp2_with fail
 have KW : Kw (W7) ((W7).setCell ⟨w.heap.size + 1, 0, none⟩ (.slice Aa psa.length ca)) := Kw.store (c := (.slice none 0 0)) r0 rfl trivial _
 replace a := a.stored r0 (by decide) KW
 replace b := b.stored r0 (by decide) KW
 replace b0 := b0.fr (w.heap.size + 1) 0 (.slice Aa psa.length ca)
 replace r0 : Bx 80 ((W7).setCell ⟨w.heap.size + 1, 0, none⟩ (.slice Aa psa.length ca)) (w.heap.size + 1) [.slice Aa psa.length ca, .slice none 0 0] := r0.set 0 (.slice Aa psa.length ca)
 replace UP := UP.setCell (p := ⟨w.heap.size + 1, 0, none⟩) (by dsimp only; omega) (.slice Aa psa.length ca)
 have KW : Kw (((W7).setCell ⟨w.heap.size + 1, 0, none⟩ (.slice Aa psa.length ca))) ((((W7).setCell ⟨w.heap.size + 1, 0, none⟩ (.slice Aa psa.length ca))).setCell ⟨w.heap.size + 1, 1, none⟩ (.slice Ab qsa.length cb)) := Kw.store (c := (.slice none 0 0)) r0 rfl trivial _
 replace a := a.stored r0 (by decide) KW
 replace b := b.stored r0 (by decide) KW
 replace b0 := b0.fr (w.heap.size + 1) 1 (.slice Ab qsa.length cb)
 replace r0 : Bx 80 ((((W7).setCell ⟨w.heap.size + 1, 0, none⟩ (.slice Aa psa.length ca))).setCell ⟨w.heap.size + 1, 1, none⟩ (.slice Ab qsa.length cb)) (w.heap.size + 1) [.slice Aa psa.length ca, .slice Ab qsa.length cb] := r0.set 1 (.slice Ab qsa.length cb)
 replace UP := UP.setCell (p := ⟨w.heap.size + 1, 1, none⟩) (by dsimp only; omega) (.slice Ab qsa.length cb)
 clear KW
 generalize ((((W7).setCell ⟨w.heap.size + 1, 0, none⟩ (.slice Aa psa.length ca))).setCell ⟨w.heap.size + 1, 1, none⟩ (.slice Ab qsa.length cb)) = W8 at *
 clear b0_0 b0_1 r0_0 r0_1
 obtain ⟨b0_0, b0_1⟩ := b0.c2
 obtain ⟨r0_0, r0_1⟩ := r0.c2
 exact bodyPost_ret (run_res_cell rfl rfl agg_rfun size_rfun r0 rfl) rfl ⟨_, _, _, _, rfl, a, b, caa, lpa, lea, UP⟩
end Go.Proofs.YtmmcffceeahemaaGreat
